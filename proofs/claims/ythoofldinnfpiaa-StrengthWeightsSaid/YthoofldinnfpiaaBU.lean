import Derived.Test.YthoofldinnfpiaaHL
namespace Go.Proofs.Ythoofldinnfpiaa
open Go.RowKit Go.Proofs.YthoofldinnfpiaaW.PrintWords Go.Proofs.YthoofldinnfpiaaW.PrintLast Go.Proofs.YthoofldinnfpiaaW.PrintMore
open Q Go.Shelf
attribute [local go_sem] Oper.semAt_some wide_depth wide_fn
set_option linter.unusedVariables false
theorem with_any (x p f s o : Int) (Bl : Nat) (W : World) (l0 : W.cell? ⟨Bl, 0, none⟩ = some (.int .i64 p)) (l1 : W.cell? ⟨Bl, 1, none⟩ = some (.int .i64 f)) (l2 : W.cell? ⟨Bl, 2, none⟩ = some (.int .i64 s)) (l3 : W.cell? ⟨Bl, 3, none⟩ = some (.int .i64 o)) :
    Calls Try.prog 84 #[.int .i64 x, .pointer (some ⟨Bl, 0, none⟩)] W fun e w' => e = .returned (.agg #[.int .i64 x, .int .i64 f, .int .i64 s, .int .i64 o]) ∧ Below W.heap.size W w' := by
  have HB := Below.refl W.heap.size W
  have hlt := cell_lt l0
  have n1 : ¬ Bl = W.heap.size := by omega
  have n2 : ¬ Bl = W.heap.size + 1 := by omega
  have hu := Try.underlying27
  go_enter Try.func84, Try.ntmps84
  go_wp2
  refine bodyPost_ret (v := .agg #[.int .i64 x, .int .i64 f, .int .i64 s, .int .i64 o]) (by simp [results, Try.results84, go_sem]) rfl ⟨rfl, ?_⟩
  exact (HB.alloc (Nat.le_refl _) _).alloc (by simp) _
/-- what a question about 'holds' reads -/
structure AskB (B3 B4 B5 B8 : Nat) (A : Option Addr) (c : Nat) (l : List S82) (fl tg : Int) (A0 : Option Addr) (cT : Nat) (th : List S29) (p f s o : Int) (W : World) : Prop where
  b0 : W.cell? ⟨B3, 0, none⟩ = some (.slice A l.length c)
  b1 : W.cell? ⟨B3, 1, none⟩ = some (.int .i64 fl)
  b2 : W.cell? ⟨B3, 2, none⟩ = some (.int .i64 tg)
  t0 : W.cell? ⟨B4, 0, none⟩ = some (.slice A0 th.length cT)
  l0 : W.cell? ⟨B5, 0, none⟩ = some (.int .i64 p)
  l1 : W.cell? ⟨B5, 1, none⟩ = some (.int .i64 f)
  l2 : W.cell? ⟨B5, 2, none⟩ = some (.int .i64 s)
  l3 : W.cell? ⟨B5, 3, none⟩ = some (.int .i64 o)
  w0 : W.cell? ⟨B8, 0, none⟩ = some (.func (.func 84) #[] #[.pointer (some ⟨B5, 0, none⟩)])
  hr : Kd.C k82 W A l.length l
  hr0 : Kd.C k29 W A0 th.length th
theorem AskB.grow {B3 B4 B5 B8 : Nat} {A : Option Addr} {c : Nat} {l : List S82} {fl tg : Int} {A0 : Option Addr} {cT : Nat} {th : List S29} {p f s o : Int} {W W' : World} (h : AskB B3 B4 B5 B8 A c l fl tg A0 cT th p f s o W) (hb : Below W.heap.size W W') : AskB B3 B4 B5 B8 A c l fl tg A0 cT th p f s o W' :=
  ⟨cell_grow h.b0 hb, cell_grow h.b1 hb, cell_grow h.b2 hb, cell_grow h.t0 hb, cell_grow h.l0 hb, cell_grow h.l1 hb, cell_grow h.l2 hb, cell_grow h.l3 hb, cell_grow h.w0 hb, Kd.C_below h.hr hb, Kd.C_below h.hr0 hb⟩
set_option maxRecDepth 100000 in
set_option maxHeartbeats 1000000 in
theorem burst86_any (B3 B4 B5 B8 : Nat) (A : Option Addr) (c : Nat) (l : List S82) (fl tg : Int) (A0 : Option Addr) (cT : Nat) (th : List S29) (p f s o x : Int) (W0 : World) (hk : AskB B3 B4 B5 B8 A c l fl tg A0 cT th p f s o W0)
    (hz : askedOf l fl tg th p f s o = 0) (hx0 : 0 ≤ x) (hx1 : x ≤ 10000) :
    Calls Try.prog 86 #[.int .i64 x, .pointer (some ⟨B3, 0, none⟩), .pointer (some ⟨B4, 0, none⟩), .pointer (some ⟨B8, 0, none⟩)] W0 fun e w' => e = .returned (.bool (!(yesOf (limitOf fl tg) x f s o (l.zip th)))) ∧ Below W0.heap.size W0 w' := by
  have HZ := hid (And.intro hz (And.intro hx0 hx1))
  have HA := hid hk
  clear hz hx0 hx1 hk
  go_enter Try.func86, Try.ntmps86
  go_wp2_with fail
  obtain ⟨hz, hx0, hx1⟩ := HZ.out
  obtain ⟨q1, q2, q3, q4⟩ := asked_zero hz
  have hlx : loadOk x f s o = true := by
    simp only [loadOk, betw, Bool.and_eq_true, decide_eq_true_eq] at q4 ⊢
    omega
  have hk := HA.out.grow ((Below.refl W0.heap.size W0).drew)
  refine wp_flow [[], [], [], [], [2, 3], [0, 1, 4, 2, 3], [5, 0, 1, 4, 2, 3], [6, 5, 0, 1, 4, 2, 3], [6, 5, 0, 1, 4, 2, 3], [7, 6, 5, 0, 1, 4, 2, 3], [8, 6, 5, 0, 1, 4, 2, 3, 9, 7]] 11
    (fun W => W.cell? ⟨B3, 0, none⟩ = some (.slice A l.length c) ∧ W.cell? ⟨B3, 1, none⟩ = some (.int .i64 fl) ∧ W.cell? ⟨B3, 2, none⟩ = some (.int .i64 tg) ∧ W.cell? ⟨B4, 0, none⟩ = some (.slice A0 th.length cT) ∧ W.cell? ⟨B8, 0, none⟩ = some (.func (.func 84) #[] #[.pointer (some ⟨B5, 0, none⟩)]) ∧ AskB B3 B4 B5 B8 A c l fl tg A0 cT th p f s o W ∧ Below W0.heap.size W0 W)
    { tmps := #[.int .i64 x, .pointer (some ⟨B3, 0, none⟩), .pointer (some ⟨B4, 0, none⟩), .pointer (some ⟨B8, 0, none⟩), undef, .bool false, .bool ((yesOf (limitOf fl tg) x f s o (l.zip th))), .bool ((brkOf (limitOf fl tg) x f s o (l.zip th))), .tuple #[.bool ((yesOf (limitOf fl tg) x f s o (l.zip th))), .bool ((brkOf (limitOf fl tg) x f s o (l.zip th)))], .agg #[.slice A l.length c, .int .i64 fl, .int .i64 tg], .slice A0 th.length cT, .func (.func 84) #[] #[.pointer (some ⟨B5, 0, none⟩)], .int .i64 x, .agg #[.int .i64 x, .int .i64 f, .int .i64 s, .int .i64 o], .tuple #[.bool ((yesOf (limitOf fl tg) x f s o (l.zip th))), .bool ((brkOf (limitOf fl tg) x f s o (l.zip th)))], .bool ((yesOf (limitOf fl tg) x f s o (l.zip th))), .bool ((brkOf (limitOf fl tg) x f s o (l.zip th))), undef, undef], defers := [] }
    mixed (by kernel_rfl) rfl (Ahead.of [0, 1, 2, 3, 4, 5, 17, 18] rfl rfl (by kernel_rfl) (by simp)) ?_ (AllFlow.ops rfl ?_) rfl ?_
  · exact ⟨hk.b0, hk.b1, hk.b2, hk.t0, hk.w0, hk, (Below.refl _ _).drew⟩
  · refine ⟨?_, ?_, ?_, ?_, ?_, ?_, ?_, ?_, ?_, ?_, ?_, trivial⟩
    · exact .val 9 _ rfl rfl fun W ⟨c0, c1, c2, c3, c4, qask, hB_⟩ => by go_simp
    · exact .val 10 _ rfl rfl fun W ⟨c0, c1, c2, c3, c4, qask, hB_⟩ => by go_simp
    · exact .val 11 _ rfl rfl fun W ⟨c0, c1, c2, c3, c4, qask, hB_⟩ => by go_simp
    · exact .val 12 _ rfl rfl fun W ⟨c0, c1, c2, c3, c4, qask, hB_⟩ => by go_simp
    · refine .call 13 (.agg #[.int .i64 x, .int .i64 f, .int .i64 s, .int .i64 o]) 84 #[.int .i64 x, .pointer (some ⟨B5, 0, none⟩)] rfl rfl (fun W ⟨c0, c1, c2, c3, c4, qask, hB_⟩ => by go_simp) fun W ⟨c0, c1, c2, c3, c4, qask, hB_⟩ => ?_
      refine (with_any x p f s o B5 _ qask.l0 qask.l1 qask.l2 qask.l3).mono ?_
      rintro e w' ⟨rfl, hb⟩
      exact ⟨rfl, cell_grow c0 hb, cell_grow c1 hb, cell_grow c2 hb, cell_grow c3 hb, cell_grow c4 hb, qask.grow hb, hB_.trans (hb.mono hB_.size)⟩
    · refine .call 14 (.tuple #[.bool ((yesOf (limitOf fl tg) x f s o (l.zip th))), .bool ((brkOf (limitOf fl tg) x f s o (l.zip th)))]) 77 #[.agg #[.slice A l.length c, .int .i64 fl, .int .i64 tg], .slice A0 th.length cT, .agg #[.int .i64 x, .int .i64 f, .int .i64 s, .int .i64 o]] rfl rfl (fun W ⟨c0, c1, c2, c3, c4, qask, hB_⟩ => by go_simp) fun W ⟨c0, c1, c2, c3, c4, qask, hB_⟩ => ?_
      refine (holds_any A c l fl tg A0 cT th x f s o _ qask.hr qask.hr0 q1 q3 q2 hlx).mono ?_
      rintro e w' ⟨rfl, hb⟩
      exact ⟨rfl, cell_grow c0 hb, cell_grow c1 hb, cell_grow c2 hb, cell_grow c3 hb, cell_grow c4 hb, qask.grow hb, hB_.trans (hb.mono hB_.size)⟩
    · exact .val 8 _ rfl rfl fun W ⟨c0, c1, c2, c3, c4, qask, hB_⟩ => by go_simp
    · exact .val 15 _ rfl rfl fun W ⟨c0, c1, c2, c3, c4, qask, hB_⟩ => by go_simp
    · exact .val 16 _ rfl rfl fun W ⟨c0, c1, c2, c3, c4, qask, hB_⟩ => by go_simp
    · exact .val 6 _ rfl rfl fun W ⟨c0, c1, c2, c3, c4, qask, hB_⟩ => by go_simp
    · exact .val 7 _ rfl rfl fun W ⟨c0, c1, c2, c3, c4, qask, hB_⟩ => by go_simp
  · rintro W ⟨c0, c1, c2, c3, c4, x0, hB_⟩
    have HW := hid hB_
    clear hB_ hk q1 q2 q3 q4 hlx hz hx0 hx1 x0 c0 c1 c2 c3 c4
    go_wp2
    refine bodyPost_ret (v := .bool (!(yesOf (limitOf fl tg) x f s o (l.zip th)))) (by simp [results, Try.results86, go_sem]) rfl ⟨rfl, HW.out⟩
set_option maxRecDepth 100000 in
set_option maxHeartbeats 1000000 in
theorem burst87_any (B3 B4 B5 B8 : Nat) (A : Option Addr) (c : Nat) (l : List S82) (fl tg : Int) (A0 : Option Addr) (cT : Nat) (th : List S29) (p f s o x : Int) (W0 : World) (hk : AskB B3 B4 B5 B8 A c l fl tg A0 cT th p f s o W0)
    (hz : askedOf l fl tg th p f s o = 0) (hx0 : 0 ≤ x) (hx1 : x ≤ 10000) :
    Calls Try.prog 87 #[.int .i64 x, .pointer (some ⟨B3, 0, none⟩), .pointer (some ⟨B4, 0, none⟩), .pointer (some ⟨B8, 0, none⟩)] W0 fun e w' => e = .returned (.bool (brkOf (limitOf fl tg) x f s o (l.zip th))) ∧ Below W0.heap.size W0 w' := by
  have HZ := hid (And.intro hz (And.intro hx0 hx1))
  have HA := hid hk
  clear hz hx0 hx1 hk
  go_enter Try.func87, Try.ntmps87
  go_wp2_with fail
  obtain ⟨hz, hx0, hx1⟩ := HZ.out
  obtain ⟨q1, q2, q3, q4⟩ := asked_zero hz
  have hlx : loadOk x f s o = true := by
    simp only [loadOk, betw, Bool.and_eq_true, decide_eq_true_eq] at q4 ⊢
    omega
  have hk := HA.out.grow ((Below.refl W0.heap.size W0).drew)
  refine wp_flow [[], [], [], [], [2, 3], [0, 1, 4, 2, 3], [5, 0, 1, 4, 2, 3], [6, 5, 0, 1, 4, 2, 3], [6, 5, 0, 1, 4, 2, 3], [7, 6, 5, 0, 1, 4, 2, 3], [8, 6, 5, 0, 1, 4, 2, 3, 9, 7]] 11
    (fun W => W.cell? ⟨B3, 0, none⟩ = some (.slice A l.length c) ∧ W.cell? ⟨B3, 1, none⟩ = some (.int .i64 fl) ∧ W.cell? ⟨B3, 2, none⟩ = some (.int .i64 tg) ∧ W.cell? ⟨B4, 0, none⟩ = some (.slice A0 th.length cT) ∧ W.cell? ⟨B8, 0, none⟩ = some (.func (.func 84) #[] #[.pointer (some ⟨B5, 0, none⟩)]) ∧ AskB B3 B4 B5 B8 A c l fl tg A0 cT th p f s o W ∧ Below W0.heap.size W0 W)
    { tmps := #[.int .i64 x, .pointer (some ⟨B3, 0, none⟩), .pointer (some ⟨B4, 0, none⟩), .pointer (some ⟨B8, 0, none⟩), undef, .bool false, .bool ((yesOf (limitOf fl tg) x f s o (l.zip th))), .bool ((brkOf (limitOf fl tg) x f s o (l.zip th))), .tuple #[.bool ((yesOf (limitOf fl tg) x f s o (l.zip th))), .bool ((brkOf (limitOf fl tg) x f s o (l.zip th)))], .agg #[.slice A l.length c, .int .i64 fl, .int .i64 tg], .slice A0 th.length cT, .func (.func 84) #[] #[.pointer (some ⟨B5, 0, none⟩)], .int .i64 x, .agg #[.int .i64 x, .int .i64 f, .int .i64 s, .int .i64 o], .tuple #[.bool ((yesOf (limitOf fl tg) x f s o (l.zip th))), .bool ((brkOf (limitOf fl tg) x f s o (l.zip th)))], .bool ((yesOf (limitOf fl tg) x f s o (l.zip th))), .bool ((brkOf (limitOf fl tg) x f s o (l.zip th))), undef], defers := [] }
    mixed (by kernel_rfl) rfl (Ahead.of [0, 1, 2, 3, 4, 5, 17] rfl rfl (by kernel_rfl) (by simp)) ?_ (AllFlow.ops rfl ?_) rfl ?_
  · exact ⟨hk.b0, hk.b1, hk.b2, hk.t0, hk.w0, hk, (Below.refl _ _).drew⟩
  · refine ⟨?_, ?_, ?_, ?_, ?_, ?_, ?_, ?_, ?_, ?_, ?_, trivial⟩
    · exact .val 9 _ rfl rfl fun W ⟨c0, c1, c2, c3, c4, qask, hB_⟩ => by go_simp
    · exact .val 10 _ rfl rfl fun W ⟨c0, c1, c2, c3, c4, qask, hB_⟩ => by go_simp
    · exact .val 11 _ rfl rfl fun W ⟨c0, c1, c2, c3, c4, qask, hB_⟩ => by go_simp
    · exact .val 12 _ rfl rfl fun W ⟨c0, c1, c2, c3, c4, qask, hB_⟩ => by go_simp
    · refine .call 13 (.agg #[.int .i64 x, .int .i64 f, .int .i64 s, .int .i64 o]) 84 #[.int .i64 x, .pointer (some ⟨B5, 0, none⟩)] rfl rfl (fun W ⟨c0, c1, c2, c3, c4, qask, hB_⟩ => by go_simp) fun W ⟨c0, c1, c2, c3, c4, qask, hB_⟩ => ?_
      refine (with_any x p f s o B5 _ qask.l0 qask.l1 qask.l2 qask.l3).mono ?_
      rintro e w' ⟨rfl, hb⟩
      exact ⟨rfl, cell_grow c0 hb, cell_grow c1 hb, cell_grow c2 hb, cell_grow c3 hb, cell_grow c4 hb, qask.grow hb, hB_.trans (hb.mono hB_.size)⟩
    · refine .call 14 (.tuple #[.bool ((yesOf (limitOf fl tg) x f s o (l.zip th))), .bool ((brkOf (limitOf fl tg) x f s o (l.zip th)))]) 77 #[.agg #[.slice A l.length c, .int .i64 fl, .int .i64 tg], .slice A0 th.length cT, .agg #[.int .i64 x, .int .i64 f, .int .i64 s, .int .i64 o]] rfl rfl (fun W ⟨c0, c1, c2, c3, c4, qask, hB_⟩ => by go_simp) fun W ⟨c0, c1, c2, c3, c4, qask, hB_⟩ => ?_
      refine (holds_any A c l fl tg A0 cT th x f s o _ qask.hr qask.hr0 q1 q3 q2 hlx).mono ?_
      rintro e w' ⟨rfl, hb⟩
      exact ⟨rfl, cell_grow c0 hb, cell_grow c1 hb, cell_grow c2 hb, cell_grow c3 hb, cell_grow c4 hb, qask.grow hb, hB_.trans (hb.mono hB_.size)⟩
    · exact .val 8 _ rfl rfl fun W ⟨c0, c1, c2, c3, c4, qask, hB_⟩ => by go_simp
    · exact .val 15 _ rfl rfl fun W ⟨c0, c1, c2, c3, c4, qask, hB_⟩ => by go_simp
    · exact .val 16 _ rfl rfl fun W ⟨c0, c1, c2, c3, c4, qask, hB_⟩ => by go_simp
    · exact .val 6 _ rfl rfl fun W ⟨c0, c1, c2, c3, c4, qask, hB_⟩ => by go_simp
    · exact .val 7 _ rfl rfl fun W ⟨c0, c1, c2, c3, c4, qask, hB_⟩ => by go_simp
  · rintro W ⟨c0, c1, c2, c3, c4, x0, hB_⟩
    have HW := hid hB_
    clear hB_ hk q1 q2 q3 q4 hlx hz hx0 hx1 x0 c0 c1 c2 c3 c4
    go_wp2
    refine bodyPost_ret (v := .bool (brkOf (limitOf fl tg) x f s o (l.zip th))) (by simp [results, Try.results87, go_sem]) rfl ⟨rfl, HW.out⟩
theorem cell_set {W : World} {p : Addr} {b j : Nat} {u v : Value} (hne : b ≠ p.block) (h : W.cell? ⟨b, j, none⟩ = some u) : (W.setCell p v).cell? ⟨b, j, none⟩ = some u :=
  (World.cell?_of_block (w := W) (Below.heap_setCell _ _ _ _ hne)).trans h
theorem AskB.set {B3 B4 B5 B8 : Nat} {A : Option Addr} {c : Nat} {l : List S82} {fl tg : Int} {A0 : Option Addr} {cT : Nat} {th : List S29} {p f s o : Int} {W : World} (h : AskB B3 B4 B5 B8 A c l fl tg A0 cT th p f s o W) (a : Addr) (v : Value)
    (h3 : B3 ≠ a.block) (h4 : B4 ≠ a.block) (h5 : B5 ≠ a.block) (h8 : B8 ≠ a.block) (hr : Kd.C k82 (W.setCell a v) A l.length l) (hr0 : Kd.C k29 (W.setCell a v) A0 th.length th) : AskB B3 B4 B5 B8 A c l fl tg A0 cT th p f s o (W.setCell a v) :=
  ⟨cell_set h3 h.b0, cell_set h3 h.b1, cell_set h3 h.b2, cell_set h4 h.t0, cell_set h5 h.l0, cell_set h5 h.l1, cell_set h5 h.l2, cell_set h5 h.l3, cell_set h8 h.w0, hr, hr0⟩
theorem enters86 : ∀ args w, (callFunc 86 args).run Try.prog w = .ok (.enter 86 args) w := enters_of Try.func86 (by kernel_rfl) rfl
theorem enters87 : ∀ args w, (callFunc 87 args).run Try.prog w = .ok (.enter 87 args) w := enters_of Try.func87 (by kernel_rfl) rfl
def notYes (l : List S82) (fl tg : Int) (th : List S29) (f s o x : Int) : Bool := !(yesOf (limitOf fl tg) x f s o (l.zip th))
def doesBrk (l : List S82) (fl tg : Int) (th : List S29) (f s o x : Int) : Bool := brkOf (limitOf fl tg) x f s o (l.zip th)
def burstRes (l : List S82) (fl tg : Int) (th : List S29) (p f s o : Int) : Int × Int × Int :=
  if askedOf l fl tg th p f s o = 0 then (firstOf (notYes l fl tg th f s o) 0 10000 - 1, firstOf (doesBrk l fl tg th f s o) 0 10000, 0) else (0, 0, askedOf l fl tg th p f s o)
set_option maxRecDepth 100000 in
set_option maxHeartbeats 1000000 in
theorem Burst_any (A : Option Addr) (c : Nat) (l : List S82) (fl tg : Int) (A0 : Option Addr) (cT : Nat) (th : List S29) (p f s o : Int) (w : World) (hr : Kd.C k82 w A l.length l) (hr0 : Kd.C k29 w A0 th.length th) (hth : th.length ≤ 100000) (hl : l.length ≤ 100000) :
    Calls Try.prog 35 #[.agg #[.slice A l.length c, .int .i64 fl, .int .i64 tg], .slice A0 th.length cT, .agg #[.int .i64 p, .int .i64 f, .int .i64 s, .int .i64 o]] w fun e w' => e = .returned (.tuple #[.agg #[.int .i64 (burstRes l fl tg th p f s o).1, .int .i64 (burstRes l fl tg th p f s o).2.1], .int .i64 (burstRes l fl tg th p f s o).2.2]) ∧ Below w.heap.size w w' := by
  have HB := Below.refl w.heap.size w
  have hmf := makeFunc_any
  have hu := Try.underlying29
  have hsf := fun (a : Addr) (c : Array Value) (w : World) => run_store Try.prog w a (.func (.func 84) #[] c) .plain rfl
  refine calls_of_wpF Try.func35 rfl (wpF_of_wp ?_)
  simp only [Try.ntmps35, List.size_toArray, List.length_cons, List.length_nil, Nat.reduceAdd, Nat.reduceSub, Array.replicate_succ, Array.replicate_zero, List.push_toArray, List.append_toArray, List.nil_append, List.cons_append]
  go_wp2_with fail
  have hbel := ((((HB.alloc (Nat.le_refl _) (.cells #[.slice A l.length c, .int .i64 fl, .int .i64 tg] 24)).alloc (by simp) (.cells #[.slice A0 th.length cT] 25)).alloc (by simp; omega) (.cells #[.int .i64 p, .int .i64 f, .int .i64 s, .int .i64 o] 27)).alloc (by simp; omega) (.cells #[.int .i64 0, .int .i64 0] 29)).alloc (by simp; omega) (.cells #[.int .i64 0] 36)
  have e0 := World.alloc_heap_new w (.cells #[.slice A l.length c, .int .i64 fl, .int .i64 tg] 24)
  have e1 := World.alloc_heap_new (w.alloc (.cells #[.slice A l.length c, .int .i64 fl, .int .i64 tg] 24)) (.cells #[.slice A0 th.length cT] 25)
  have e2 := World.alloc_heap_new ((w.alloc (.cells #[.slice A l.length c, .int .i64 fl, .int .i64 tg] 24)).alloc (.cells #[.slice A0 th.length cT] 25)) (.cells #[.int .i64 p, .int .i64 f, .int .i64 s, .int .i64 o] 27)
  have e3 := World.alloc_heap_new (((w.alloc (.cells #[.slice A l.length c, .int .i64 fl, .int .i64 tg] 24)).alloc (.cells #[.slice A0 th.length cT] 25)).alloc (.cells #[.int .i64 p, .int .i64 f, .int .i64 s, .int .i64 o] 27)) (.cells #[.int .i64 0, .int .i64 0] 29)
  have e4 := World.alloc_heap_new ((((w.alloc (.cells #[.slice A l.length c, .int .i64 fl, .int .i64 tg] 24)).alloc (.cells #[.slice A0 th.length cT] 25)).alloc (.cells #[.int .i64 p, .int .i64 f, .int .i64 s, .int .i64 o] 27)).alloc (.cells #[.int .i64 0, .int .i64 0] 29)) (.cells #[.int .i64 0] 36)
  have e0 := alloc_old (o' := .cells #[.int .i64 0] 36) (alloc_old (o' := .cells #[.int .i64 0, .int .i64 0] 29) (alloc_old (o' := .cells #[.int .i64 p, .int .i64 f, .int .i64 s, .int .i64 o] 27) (alloc_old (o' := .cells #[.slice A0 th.length cT] 25) e0)))
  have e1 := alloc_old (o' := .cells #[.int .i64 0] 36) (alloc_old (o' := .cells #[.int .i64 0, .int .i64 0] 29) (alloc_old (o' := .cells #[.int .i64 p, .int .i64 f, .int .i64 s, .int .i64 o] 27) e1))
  have e2 := alloc_old (o' := .cells #[.int .i64 0] 36) (alloc_old (o' := .cells #[.int .i64 0, .int .i64 0] 29) e2)
  have e3 := alloc_old (o' := .cells #[.int .i64 0] 36) e3
  have hsz : w.heap.size + 1 + 1 + 1 + 1 < (((((w.alloc (.cells #[.slice A l.length c, .int .i64 fl, .int .i64 tg] 24)).alloc (.cells #[.slice A0 th.length cT] 25)).alloc (.cells #[.int .i64 p, .int .i64 f, .int .i64 s, .int .i64 o] 27)).alloc (.cells #[.int .i64 0, .int .i64 0] 29)).alloc (.cells #[.int .i64 0] 36)).heap.size := by simp
  simp only [World.size_alloc] at e1 e2 e3 e4
  generalize (((((w.alloc (.cells #[.slice A l.length c, .int .i64 fl, .int .i64 tg] 24)).alloc (.cells #[.slice A0 th.length cT] 25)).alloc (.cells #[.int .i64 p, .int .i64 f, .int .i64 s, .int .i64 o] 27)).alloc (.cells #[.int .i64 0, .int .i64 0] 29)).alloc (.cells #[.int .i64 0] 36)) = W5 at *
  refine (asked_any A c l fl tg A0 cT th p f s o _ (Kd.C_below hr hbel) (Kd.C_below hr0 hbel) hl hth).mono ?_
  rintro e w1 ⟨he, hb⟩
  have hb1 := hbel.trans (hb.mono hbel.size)
  have e0 := heap_grow e0 hb
  have e1 := heap_grow e1 hb
  have e2 := heap_grow e2 hb
  have e3 := heap_grow e3 hb
  have e4 := heap_grow e4 hb
  have hsz1 : w.heap.size + 1 + 1 + 1 + 1 < w1.heap.size := Nat.lt_of_lt_of_le hsz hb.size
  clear hb hbel hsz HB
  by_cases h0 : ¬ askedOf l fl tg th p f s o = 0
  · rw [if_neg h0] at he
    subst he
    have k3 := caughtW_other (c := askedOf l fl tg th p f s o) (B := w.heap.size + 1 + 1 + 1 + 1) (by omega) e3
    have j0 := blkCell k3 0
    have j1 := blkCell k3 1
    simp at j0 j1
    refine leaves_fail catches83 enters83 (blkCell e4 0) (blkFrozen e4 0) ?_
    exact ⟨.tuple #[.agg #[.int .i64 0, .int .i64 0], .int .i64 (askedOf l fl tg th p f s o)], by simp [results, Try.results35, go_sem, caughtW_cell (blkCell e4 0), j0, j1], by unfold burstRes; rw [if_neg h0], caughtW_below hb1 (by omega)⟩
  have h0' := Decidable.not_not.1 h0
  rw [if_pos h0'] at he
  subst he
  have H0 := hid h0'
  have HE := hid (And.intro e0 (And.intro e1 (And.intro e2 (And.intro e3 (And.intro e4 (And.intro hb1 hsz1))))))
  clear h0 h0' e0 e1 e2 e3 e4 hb1 hsz1
  go_wp2_with fail
  obtain ⟨e0, e1, e2, e3, e4, hb1, hsz1⟩ := HE.out
  have hb2 := hb1.alloc hb1.size (.cells #[.func (.func 84) #[] #[.pointer (some ⟨w.heap.size + 1 + 1, 0, none⟩)]] 105)
  have e8 := World.alloc_heap_new w1 (.cells #[.func (.func 84) #[] #[.pointer (some ⟨w.heap.size + 1 + 1, 0, none⟩)]] 105)
  have e0 := alloc_old (o' := .cells #[.func (.func 84) #[] #[.pointer (some ⟨w.heap.size + 1 + 1, 0, none⟩)]] 105) e0
  have e1 := alloc_old (o' := .cells #[.func (.func 84) #[] #[.pointer (some ⟨w.heap.size + 1 + 1, 0, none⟩)]] 105) e1
  have e2 := alloc_old (o' := .cells #[.func (.func 84) #[] #[.pointer (some ⟨w.heap.size + 1 + 1, 0, none⟩)]] 105) e2
  have e3 := alloc_old (o' := .cells #[.func (.func 84) #[] #[.pointer (some ⟨w.heap.size + 1 + 1, 0, none⟩)]] 105) e3
  have e4 := alloc_old (o' := .cells #[.func (.func 84) #[] #[.pointer (some ⟨w.heap.size + 1 + 1, 0, none⟩)]] 105) e4
  generalize w1.alloc (.cells #[.func (.func 84) #[] #[.pointer (some ⟨w.heap.size + 1 + 1, 0, none⟩)]] 105) = W6 at *
  generalize w1.heap.size = B8 at *
  have hk : AskB w.heap.size (w.heap.size + 1) (w.heap.size + 1 + 1) B8 A c l fl tg A0 cT th p f s o W6 :=
    ⟨blkCell e0 0, blkCell e0 1, blkCell e0 2, blkCell e1 0, blkCell e2 0, blkCell e2 1, blkCell e2 2, blkCell e2 3, blkCell e8 0, Kd.C_below hr hb2, Kd.C_below hr0 hb2⟩
  have hA : Asks 86 #[.pointer (some ⟨w.heap.size, 0, none⟩), .pointer (some ⟨w.heap.size + 1, 0, none⟩), .pointer (some ⟨B8, 0, none⟩)] (notYes l fl tg th f s o) 0 (10000 + 1) W6 := by
    intro W x hW h0 h1
    have := burst86_any _ _ _ B8 A c l fl tg A0 cT th p f s o x W (hk.grow hW) H0.out h0 (by omega)
    simpa only [notYes, doesBrk, List.push_toArray, List.append_toArray, List.cons_append, List.nil_append] using this
  refine (first_any 86 _ enters86 (notYes l fl tg th f s o) 0 10000 _ (by omega) (by omega) (by omega) hA).mono ?_
  rintro e w3 ⟨rfl, hb⟩
  have hbg := firstOf_begins (notYes l fl tg th f s o) (lo := 0) (hi := 10000) (by omega)
  have HV := hid (show wrap64 (firstOf (notYes l fl tg th f s o) 0 10000 - 1) = firstOf (notYes l fl tg th f s o) 0 10000 - 1 from wrap64_id (by have := hbg.1; omega) (by have := hbg.2.1; omega))
  have hb3 := hb2.trans (hb.mono hb2.size)
  have hk3 := hk.grow hb
  have e3 := heap_grow e3 hb
  have e4 := heap_grow e4 hb
  have z0 := blkCell e3 0
  have z1 := blkCell e3 1
  have z2 := blkFrozen e3 0
  have z3 := blkFrozen e3 1
  simp at z0 z1
  have H3 := hid (And.intro hk3 (And.intro e3 (And.intro e4 (And.intro hb3 hsz1))))
  clear hbg hb hb1 hb2 hb3 hk hk3 hA e0 e1 e2 e3 e4 e8 hsz1 HE
  obtain ⟨r1, hr1⟩ : ∃ r1, firstOf (notYes l fl tg th f s o) 0 10000 = r1 := ⟨_, rfl⟩
  have HR1 := hid hr1
  rw [hr1] at HV
  rw [hr1]
  clear hr1
  go_wp2_with fail
  obtain ⟨hk3, e3, e4, hb3, hsz1⟩ := H3.out
  rw [HV.out]
  have hb4 := hb3.setCell (p := ⟨w.heap.size + 1 + 1 + 1, 0, none⟩) (by simp; omega) (.int .i64 (r1 - 1))
  have hk4 := hk3.set ⟨w.heap.size + 1 + 1 + 1, 0, none⟩ (.int .i64 (r1 - 1)) (by simp; omega) (by simp) (by simp) (by simp; omega) (Kd.C_below hr hb4) (Kd.C_below hr0 hb4)
  have e3 := set_fst (v := .int .i64 (r1 - 1)) e3
  have e4 := set_other (p := ⟨w.heap.size + 1 + 1 + 1, 0, none⟩) (v := .int .i64 (r1 - 1)) (by simp) e4
  generalize w3.setCell ⟨w.heap.size + 1 + 1 + 1, 0, none⟩ (.int .i64 (r1 - 1)) = W7 at *
  have hA : Asks 87 #[.pointer (some ⟨w.heap.size, 0, none⟩), .pointer (some ⟨w.heap.size + 1, 0, none⟩), .pointer (some ⟨B8, 0, none⟩)] (doesBrk l fl tg th f s o) 0 (10000 + 1) W7 := by
    intro W x hW h0 h1
    have := burst87_any _ _ _ B8 A c l fl tg A0 cT th p f s o x W (hk4.grow hW) H0.out h0 (by omega)
    simpa only [notYes, doesBrk, List.push_toArray, List.append_toArray, List.cons_append, List.nil_append] using this
  refine (first_any 87 _ enters87 (doesBrk l fl tg th f s o) 0 10000 _ (by omega) (by omega) (by omega) hA).mono ?_
  rintro e w4 ⟨rfl, hb⟩
  have hb5 := hb4.trans (hb.mono hb4.size)
  have e3 := heap_grow e3 hb
  have e4 := heap_grow e4 hb
  clear z0 z1 z2 z3
  have z0 := blkCell e3 0
  have z1 := blkCell e3 1
  have z2 := blkFrozen e3 0
  have z3 := blkFrozen e3 1
  have y0 := blkCell e4 0
  have y1 := blkFrozen e4 0
  simp at z0 z1 y0
  have HB5 := hid hb5
  have HR := hid (show r1 - 1 = (burstRes l fl tg th p f s o).1 by unfold burstRes; rw [if_pos H0.out, ← HR1.out])
  have HR2 := hid (show (burstRes l fl tg th p f s o).2 = (firstOf (doesBrk l fl tg th f s o) 0 10000, 0) by unfold burstRes; rw [if_pos H0.out])
  clear hb hb3 hb4 hb5 hk3 hk4 hA e3 e4 H3
  generalize firstOf (doesBrk l fl tg th f s o) 0 10000 = r2 at *
  go_wp2
  refine leaves_idle catches83 enters83 ?_
  refine ⟨.tuple #[.agg #[.int .i64 (r1 - 1), .int .i64 r2], .int .i64 0], by simp [results, Try.results35, go_sem, z0, z1, y0], by rw [HR2.out, ← HR.out], ?_⟩
  exact (((HB5.out.setCell (p := ⟨w.heap.size + 1 + 1 + 1, 1, none⟩) (by simp; omega) _).setCell (p := ⟨w.heap.size + 1 + 1 + 1, 0, none⟩) (by simp; omega) _).setCell (p := ⟨w.heap.size + 1 + 1 + 1, 1, none⟩) (by simp; omega) _).setCell (p := ⟨w.heap.size + 1 + 1 + 1 + 1, 0, none⟩) (by simp; omega) _
end Go.Proofs.Ythoofldinnfpiaa
