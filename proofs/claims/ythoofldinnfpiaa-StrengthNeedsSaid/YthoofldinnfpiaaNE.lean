import Derived.Test.YthoofldinnfpiaaHL
namespace Go.Proofs.Ythoofldinnfpiaa
open Go.RowKit Go.Proofs.YthoofldinnfpiaaW.PrintWords Go.Proofs.YthoofldinnfpiaaW.PrintLast Go.Proofs.YthoofldinnfpiaaW.PrintMore
open Q Go.Shelf
attribute [local go_sem] Oper.semAt_some wide_depth wide_fn
set_option linter.unusedVariables false
/- Needed: the least thickness with which each ring holds -/
def neo (m p f s o : Int) (r : S82) (x : Int) : Bool := decide (stHi r ⟨x, x⟩ p f s o ≤ m)
def needAt (m p f s o : Int) (r : S82) : Int := if 2000 < firstOf (neo m p f s o r) 1 2000 then 0 else firstOf (neo m p f s o r) 1 2000
def needOf (l : List S82) (fl tg p f s o : Int) : List Int := l.map (needAt (limitOf fl tg) p f s o)
theorem field29_1 (a b : Int) (w : World) : (Instr.field 29 (.agg #[.int .i64 a, .int .i64 b]) 1).run Try.prog w = .ok (.int .i64 b) w := by kernel_rfl
theorem field29_0 (a b : Int) (w : World) : (Instr.field 29 (.agg #[.int .i64 a, .int .i64 b]) 0).run Try.prog w = .ok (.int .i64 a) w := by kernel_rfl
attribute [local go_sem] field29_1 field29_0
theorem enters107 : ∀ args w, (callFunc 107 args).run Try.prog w = .ok (.enter 107 args) w := enters_of Try.func107 (by kernel_rfl) rfl
set_option maxRecDepth 100000 in
theorem need1_any (r : S82) (m p f s o x : Int) (Br Bl Bm : Nat) (w : World) (h1 : w.heap[Br]? = some (.cells (ringC r) 82 (0, 0))) (h2 : w.heap[Bl]? = some (.cells #[.int .i64 p, .int .i64 f, .int .i64 s, .int .i64 o] 27 (0, 0))) (h3 : w.heap[Bm]? = some (.cells #[.int .i64 m] 3 (0, 0)))
    (hr1 : ringOk r = true) (hl1 : loadOk p f s o = true) (hx0 : 1 ≤ x) (hx1 : x ≤ 2000) :
    Calls Try.prog 107 #[.int .i64 x, .pointer (some ⟨Br, 0, none⟩), .pointer (some ⟨Bl, 0, none⟩), .pointer (some ⟨Bm, 0, none⟩)] w fun e w' => e = .returned (.bool (neo m p f s o r x)) ∧ Below w.heap.size w w' := by
  have ht1 : okThick ⟨x, x⟩ = true := by simp only [okThick, spanB, Bool.and_eq_true, decide_eq_true_eq]; omega
  have hu82 := Try.underlying82
  have hu27 := Try.underlying27
  have hu29 := Try.underlying29
  go_enter Try.func107, Try.ntmps107
  go_wp2_with fail
  refine wp_flow [[], [], [], [1, 2], [], [0, 3, 1, 2, 4], [5, 0, 3, 1, 2, 4], [], [6, 5, 0, 3, 1, 2, 4, 7], [8, 6, 5, 0, 3, 1, 2, 4, 7]] 9
    (fun W => W.cell? ⟨Br, 0, none⟩ = some (.int .i64 r.f0.f0) ∧ W.cell? ⟨Br, 1, none⟩ = some (.int .i64 r.f0.f1) ∧ W.cell? ⟨Br, 2, none⟩ = some (.int .i64 r.f1.f0) ∧ W.cell? ⟨Br, 3, none⟩ = some (.int .i64 r.f1.f1) ∧ W.cell? ⟨Br, 4, none⟩ = some (.int .i64 r.f2.f0) ∧ W.cell? ⟨Br, 5, none⟩ = some (.int .i64 r.f2.f1) ∧ W.cell? ⟨Br, 6, none⟩ = some (.int .i64 r.f3.f0) ∧ W.cell? ⟨Br, 7, none⟩ = some (.int .i64 r.f3.f1) ∧ W.cell? ⟨Br, 8, none⟩ = some (.int .i64 r.f4.f0) ∧ W.cell? ⟨Br, 9, none⟩ = some (.int .i64 r.f4.f1) ∧ W.cell? ⟨Bl, 0, none⟩ = some (.int .i64 p) ∧ W.cell? ⟨Bl, 1, none⟩ = some (.int .i64 f) ∧ W.cell? ⟨Bl, 2, none⟩ = some (.int .i64 s) ∧ W.cell? ⟨Bl, 3, none⟩ = some (.int .i64 o) ∧ W.cell? ⟨Bm, 0, none⟩ = some (.int .i64 m) ∧ Below w.heap.size w W)
    { tmps := #[.int .i64 x, .pointer (some ⟨Br, 0, none⟩), .pointer (some ⟨Bl, 0, none⟩), .pointer (some ⟨Bm, 0, none⟩), undef, .bool false, .agg #[.int .i64 r.f0.f0, .int .i64 r.f0.f1, .int .i64 r.f1.f0, .int .i64 r.f1.f1, .int .i64 r.f2.f0, .int .i64 r.f2.f1, .int .i64 r.f3.f0, .int .i64 r.f3.f1, .int .i64 r.f4.f0, .int .i64 r.f4.f1], .int .i64 x, .int .i64 x, .agg #[.int .i64 x, .int .i64 x], .agg #[.int .i64 p, .int .i64 f, .int .i64 s, .int .i64 o], .agg #[.int .i64 (stLo r ⟨x, x⟩ p f s o), .int .i64 (stHi r ⟨x, x⟩ p f s o)], .int .i64 (stHi r ⟨x, x⟩ p f s o), .int .i64 m, .bool (decide (stHi r ⟨x, x⟩ p f s o ≤ m))], defers := [] }
    mixed (by kernel_rfl) rfl (Ahead.of [0, 1, 2, 3, 4, 5] rfl rfl (by kernel_rfl) (by simp)) ?_ (AllFlow.ops rfl ?_) rfl ?_
  · exact ⟨blkCell h1 0, blkCell h1 1, blkCell h1 2, blkCell h1 3, blkCell h1 4, blkCell h1 5, blkCell h1 6, blkCell h1 7, blkCell h1 8, blkCell h1 9, blkCell h2 0, blkCell h2 1, blkCell h2 2, blkCell h2 3, blkCell h3 0, (Below.refl _ _).drew⟩
  · refine ⟨?_, ?_, ?_, ?_, ?_, ?_, ?_, ?_, ?_, trivial⟩
    · exact .val 6 _ rfl rfl fun W ⟨y0, y1, y2, y3, y4, y5, y6, y7, y8, y9, y10, y11, y12, y13, y14, hB_⟩ => by go_simp
    · exact .val 7 _ rfl rfl fun W ⟨y0, y1, y2, y3, y4, y5, y6, y7, y8, y9, y10, y11, y12, y13, y14, hB_⟩ => by go_simp
    · exact .val 8 _ rfl rfl fun W ⟨y0, y1, y2, y3, y4, y5, y6, y7, y8, y9, y10, y11, y12, y13, y14, hB_⟩ => by go_simp
    · exact .val 9 _ rfl rfl fun W ⟨y0, y1, y2, y3, y4, y5, y6, y7, y8, y9, y10, y11, y12, y13, y14, hB_⟩ => by go_simp
    · exact .val 10 _ rfl rfl fun W ⟨y0, y1, y2, y3, y4, y5, y6, y7, y8, y9, y10, y11, y12, y13, y14, hB_⟩ => by go_simp
    · refine .call 11 (.agg #[.int .i64 (stLo r ⟨x, x⟩ p f s o), .int .i64 (stHi r ⟨x, x⟩ p f s o)]) 82 #[.agg #[.int .i64 r.f0.f0, .int .i64 r.f0.f1, .int .i64 r.f1.f0, .int .i64 r.f1.f1, .int .i64 r.f2.f0, .int .i64 r.f2.f1, .int .i64 r.f3.f0, .int .i64 r.f3.f1, .int .i64 r.f4.f0, .int .i64 r.f4.f1], .agg #[.int .i64 x, .int .i64 x], .agg #[.int .i64 p, .int .i64 f, .int .i64 s, .int .i64 o]] rfl rfl (fun W ⟨y0, y1, y2, y3, y4, y5, y6, y7, y8, y9, y10, y11, y12, y13, y14, hB_⟩ => by go_simp) fun W ⟨y0, y1, y2, y3, y4, y5, y6, y7, y8, y9, y10, y11, y12, y13, y14, hB_⟩ => ?_
      refine (stress_any r ⟨x, x⟩ p f s o _ hr1 ht1 hl1).mono ?_
      rintro e w' ⟨rfl, hb⟩
      exact ⟨rfl, cell_grow y0 hb, cell_grow y1 hb, cell_grow y2 hb, cell_grow y3 hb, cell_grow y4 hb, cell_grow y5 hb, cell_grow y6 hb, cell_grow y7 hb, cell_grow y8 hb, cell_grow y9 hb, cell_grow y10 hb, cell_grow y11 hb, cell_grow y12 hb, cell_grow y13 hb, cell_grow y14 hb, hB_.trans (hb.mono hB_.size)⟩
    · exact .val 12 _ rfl rfl fun W ⟨y0, y1, y2, y3, y4, y5, y6, y7, y8, y9, y10, y11, y12, y13, y14, hB_⟩ => by go_simp
    · exact .val 13 _ rfl rfl fun W ⟨y0, y1, y2, y3, y4, y5, y6, y7, y8, y9, y10, y11, y12, y13, y14, hB_⟩ => by go_simp
    · exact .val 14 _ rfl rfl fun W ⟨y0, y1, y2, y3, y4, y5, y6, y7, y8, y9, y10, y11, y12, y13, y14, hB_⟩ => by go_simp
  rintro W2 ⟨y0, y1, y2, y3, y4, y5, y6, y7, y8, y9, y10, y11, y12, y13, y14, hB_⟩
  clear y0 y1 y2 y3 y4 y5 y6 y7 y8 y9 y10 y11 y12 y13 y14 h1 h2 h3
  go_wp2
  refine bodyPost_ret (v := .bool (neo m p f s o r x)) (by simp [results, Try.results107, go_sem]; rfl) rfl ⟨rfl, hB_⟩
theorem info3' : ∃ i0, Try.prog.info? 3 = some i0 ∧ i0.zero = some (.int .i64 0) ∧ i0.size = 1 ∧ i0.bytes = 8 := info_parts info3
set_option maxRecDepth 100000 in
theorem Rint_of {w : World} {base : Nat} {v : Value} {α : Type} {l : List α} {f : α → Int} (h : w.ownsRow base 3 1 v l.length (l.flatMap fun x => [.int .i64 (f x)])) : Kd.R (Kd.int .i64) 3 w base (fun _ => True) v (l.map f) :=
  ⟨fun _ _ => trivial, _, by rw [List.length_map]; exact h, reps_flat (R := (Kd.int .i64).M w base (fun k => True ∧ some k ≠ v.ownBlock)) (f := f) (g := fun x => [.int .i64 (f x)]) (fun x => by exact rfl) (fun _ => rfl) l⟩
theorem one_cell {W : World} {Bx : Nat} {v : Value} {t : TypeId} (h : W.heap[Bx]? = some (.cells #[v] t (0, 0))) : ∀ (j : Nat) (x : Value), [v][j]? = some x → W.cell? ((⟨Bx, 0, none⟩ : Addr).add j) = some x := fun j x hj => by
  rw [show (⟨Bx, 0, none⟩ : Addr).add j = ⟨Bx, j, none⟩ by simp [Addr.add]; intro h; omega]
  rw [blkCell h j]
  simpa using hj
/-- the boxes of 'needed' -/
structure NeedB (w : World) (p f s o : Int) (Bm : Nat) (m : Int) (v : Value) (W : World) : Prop where
  h1 : W.heap[w.heap.size + 1]? = some (.cells #[.int .i64 p, .int .i64 f, .int .i64 s, .int .i64 o] 27 (0, 0))
  h2 : W.heap[Bm]? = some (.cells #[.int .i64 m] 3 (0, 0))
  h3 : W.heap[Bm + 1]? = some (.cells #[v] 30 (0, 0))
  hm : w.heap.size + 1 < Bm
  hb : Below w.heap.size w W
theorem NeedB.grow {w W W' : World} {p f s o : Int} {Bm : Nat} {m : Int} {v : Value} (h : NeedB w p f s o Bm m v W) (hb : Below W.heap.size W W') : NeedB w p f s o Bm m v W' :=
  ⟨heap_grow h.h1 hb, heap_grow h.h2 hb, heap_grow h.h3 hb, h.hm, h.hb.trans (hb.mono h.hb.size)⟩
theorem NeedB.turn {w W W' : World} {p f s o : Int} {Bm : Nat} {m : Int} {v : Value} (h : NeedB w p f s o Bm m v W) {B : Nat} (hB : w.heap.size ≤ B) (ht : Turn B W W') : NeedB w p f s o Bm m v W' :=
  ⟨ht.cells _ _ h.h1 rfl, ht.cells _ _ h.h2 rfl, ht.cells _ _ h.h3 rfl, h.hm, h.hb.trans (ht.below.mono hB)⟩
def NeedI (w : World) (Bb : Nat) (A : Option Addr) (c : Nat) (l : List S82) (fl tg p f s o : Int) (Bm : Nat) (k : Nat) (W : World) : Prop :=
  Reads Bb A c l fl tg W ∧ ∃ v, NeedB w p f s o Bm (limitOf fl tg) v W ∧ W.ownsRow (Bb + 1) 3 1 v k ((l.take k).flatMap fun r => [.int .i64 (needAt (limitOf fl tg) p f s o r)])
def RetInts (xs : List Int) (w : World) (e : Ending) (w' : World) : Prop := ∃ v0_ : Value, e = .returned v0_ ∧ w'.ownsRow w.heap.size 3 1 v0_ xs.length (xs.flatMap fun x => [.int .i64 x]) ∧ Below w.heap.size w w'
set_option maxRecDepth 100000 in
set_option maxHeartbeats 4000000 in
theorem needed_any (A : Option Addr) (c : Nat) (l : List S82) (fl tg p f s o : Int) (w : World) (hr : Kd.C k82 w A l.length l) (hk : checkOf l fl tg = 0) (hl : loadOk p f s o = true) :
    Calls Try.prog 80 #[.agg #[.slice A l.length c, .int .i64 fl, .int .i64 tg], .agg #[.int .i64 p, .int .i64 f, .int .i64 s, .int .i64 o]] w (RetInts (needOf l fl tg p f s o) w) := by
  have HB := Below.refl w.heap.size w
  have hmf := makeFunc_any
  obtain ⟨k1, k2, hall, _, _, k3, k4, k5, k6⟩ := check_zero hk
  have HK := hid (And.intro k1 (And.intro k2 (And.intro hall (And.intro k3 (And.intro k4 (And.intro k5 k6))))))
  have HL := hid hl
  clear k1 k2 hall k3 k4 k5 k6 hl hk
  refine calls_of_wpF Try.func80 rfl ?_
  simp only [Try.ntmps80, List.size_toArray, List.length_cons, List.length_nil, Nat.reduceAdd, Nat.reduceSub, Array.replicate_succ, Array.replicate_zero, List.push_toArray, List.append_toArray, List.nil_append, List.cons_append]
  refine wpF_seq (wpF_of_wp ?_)
  go_wp2
  have e0 := alloc_old (o' := .cells #[.int .i64 p, .int .i64 f, .int .i64 s, .int .i64 o] 27) (World.alloc_heap_new w (.cells #[.slice A l.length c, .int .i64 fl, .int .i64 tg] 24))
  have e1 := World.alloc_heap_new (w.alloc (.cells #[.slice A l.length c, .int .i64 fl, .int .i64 tg] 24)) (.cells #[.int .i64 p, .int .i64 f, .int .i64 s, .int .i64 o] 27)
  have hbel := (HB.alloc (Nat.le_refl _) (.cells #[.slice A l.length c, .int .i64 fl, .int .i64 tg] 24)).alloc (by simp) (.cells #[.int .i64 p, .int .i64 f, .int .i64 s, .int .i64 o] 27)
  have hsz : w.heap.size + 1 < ((w.alloc (.cells #[.slice A l.length c, .int .i64 fl, .int .i64 tg] 24)).alloc (.cells #[.int .i64 p, .int .i64 f, .int .i64 s, .int .i64 o] 27)).heap.size := by simp
  simp only [World.size_alloc] at e1
  generalize ((w.alloc (.cells #[.slice A l.length c, .int .i64 fl, .int .i64 tg] 24)).alloc (Obj.cells #[.int .i64 p, .int .i64 f, .int .i64 s, .int .i64 o] 27)) = W2 at *
  have HE := hid (And.intro e0 (And.intro e1 (And.intro hbel hsz)))
  have b0 := blkCell e0 0
  have b1 := blkCell e0 1
  have b2 := blkCell e0 2
  simp at b0 b1 b2
  clear hbel e0 e1 hsz HB
  refine wpF_seq (wpF_of_wp ?_)
  go_wp2_with fail
  refine (limit_any A c l.length fl tg _ HK.out.2.2.2.1 HK.out.2.2.2.2.1 HK.out.2.2.2.2.2.1 HK.out.2.2.2.2.2.2).mono ?_
  rintro e w1 ⟨rfl, hb⟩
  obtain ⟨e0, e1, hbel, hsz⟩ := HE.out
  have hN0 : NeedB w p f s o w1.heap.size (limitOf fl tg) (.slice none 0 0) ((w1.alloc (.cells #[.int .i64 (limitOf fl tg)] 3)).alloc (.cells #[.slice none 0 0] 30)) :=
    ⟨alloc_old (alloc_old (heap_grow e1 hb)), alloc_old (World.alloc_heap_new _ _), by have := World.alloc_heap_new (w1.alloc (.cells #[.int .i64 (limitOf fl tg)] 3)) (.cells #[.slice none 0 0] 30); rw [World.size_alloc] at this; exact this, Nat.lt_of_lt_of_le hsz hb.size, ((hbel.trans (hb.mono hbel.size)).alloc (hbel.trans (hb.mono hbel.size)).size _).alloc (by have := (hbel.trans (hb.mono hbel.size)).size; simp; omega) _⟩
  have hE0 : ((w1.alloc (.cells #[.int .i64 (limitOf fl tg)] 3)).alloc (.cells #[.slice none 0 0] 30)).heap[w.heap.size]? = some (.cells #[.slice A l.length c, .int .i64 fl, .int .i64 tg] 24 (0, 0)) := alloc_old (alloc_old (heap_grow e0 hb))
  clear hb e0 e1 hbel hsz HE b0 b1 b2
  go_wp2
  refine wpF_seq (wpF_of_wp ?_)
  go_wp2
  generalize ((w1.alloc (Obj.cells #[.int .i64 (limitOf fl tg)] 3)).alloc (Obj.cells #[.slice none 0 0] 30)) = W4 at *
  generalize w1.heap.size = Bm at *
  have b0 := blkCell hE0 0
  have b1 := blkCell hE0 1
  have b2 := blkCell hE0 2
  simp at b0 b1 b2
  have HH := hid hN0
  have HE0 := hid hE0
  clear hN0 hE0
  refine wpF_seq (wpF_seq (wpF_of_wp ?_))
  go_wp2_with (first | (go_at_call 54; refine (rings_any _ _ _ _ _ _).mono ?_; rintro e w' ⟨rfl, rfl⟩))
  generalize hBb : W4.heap.size = Bb
  clear b0 b1 b2
  refine wpF_block ?_
  refine wpF_range (N := l.length) Try.func80 rfl enters99 (rings_iter Bb A c l fl tg (by have := HK.out.1; omega)) (fun _ => rfl) (NeedI w Bb A c l fl tg p f s o Bm) (fun _ _ => False) (fun _ _ => False) ?hI ?hIr ?hsz ?hRd ?h0 ?round ?done ?stop ?pan
  case hI =>
    rintro k W W' ⟨h1, v, h2, h3⟩ ht
    have hB : w.heap.size ≤ (W4.alloc (.cells #[.slice A l.length c, .int .i64 fl, .int .i64 tg] 24)).heap.size := by have := HH.out.hb.size; simp; omega
    exact ⟨⟨ht.cells _ _ h1.box rfl, Kd.C_below hr (h2.turn hB ht).hb⟩, v, h2.turn hB ht, own_turn h3 ht⟩
  case hIr => exact fun _ _ _ h _ => h
  case hsz => exact fun k W h => by have := cell_lt (blkCell h.1.box 0); simp; omega
  case hRd => exact fun k W h => h.1
  case stop => exact fun _ _ _ h => h.elim
  case pan => exact fun _ _ _ h => h.elim
  case h0 =>
    have hn := World.alloc_heap_new W4 (.cells #[.slice A l.length c, .int .i64 fl, .int .i64 tg] 24)
    rw [hBb] at hn
    have hb := HH.out.hb.alloc HH.out.hb.size (.cells #[.slice A l.length c, .int .i64 fl, .int .i64 tg] 24)
    exact ⟨⟨hn, Kd.C_below hr hb⟩, _, HH.out.grow ((Below.refl _ _).alloc (Nat.le_refl _) _), own_nil _ _ _ _⟩
  case round =>
    rintro lp k W hlt ⟨hR, v, hV, hO⟩
    have hg : l.getD k z82 = l[k] := by simp [List.getD, hlt]
    simp only [ringV, hg]
    gi_wp2
    refine ⟨(KeepsOthers.alloc _ _), fun w₂ ht2 => ?_⟩
    have hT : Turn (Bb + 1) W w₂ := (Turn.alloc (B := Bb + 1) (by have := cell_lt (blkCell hR.box 0); omega) _).trans (by simpa [hBb] using ht2)
    have hI2 := hV.turn (by have := HH.out.hb.size; omega) hT
    have hbox := hT.cells _ _ hR.box rfl
    have qo := own_turn hO hT
    have hrg : w₂.heap[W.heap.size]? = some (.cells (ringC l[k]) 82 (0, 0)) := ht2.cells _ _ (World.alloc_heap_new _ _) rfl
    generalize W.heap.size = B at *
    have HQ := hid (And.intro hI2 (And.intro hbox (And.intro qo hrg)))
    clear ht2 hT hI2 hbox qo hrg hR hV hO hg
    gi_wp2_with fail
    obtain ⟨hI2, hbox, qo, hrg⟩ := HQ.out
    have hA : Asks 107 #[.pointer (some ⟨B, 0, none⟩), .pointer (some ⟨w.heap.size + 1, 0, none⟩), .pointer (some ⟨Bm, 0, none⟩)] (neo (limitOf fl tg) p f s o l[k]) 1 (2000 + 1) w₂ := by
      intro W x hW h0 h1
      have := need1_any l[k] (limitOf fl tg) p f s o x B (w.heap.size + 1) Bm W (heap_grow hrg hW) (heap_grow hI2.h1 hW) (heap_grow hI2.h2 hW) (all_get HK.out.2.2.1 hlt) HL.out h0 (by omega)
      simpa only [List.push_toArray, List.append_toArray, List.cons_append, List.nil_append] using this
    refine (CallsIn.inRound lp (callsIn_wide.2 (first_any 107 _ enters107 (neo (limitOf fl tg) p f s o l[k]) 1 2000 _ (by omega) (by omega) (by omega) hA))).mono ?_
    rintro e w3 ⟨rfl, hb⟩
    have HB3 := hid hb
    have HI3 := hid (hI2.grow hb)
    have HX3 := hid (And.intro (heap_grow hbox hb) (rings_set qo hb))
    have hnv : needAt (limitOf fl tg) p f s o l[k] = if 2000 < firstOf (neo (limitOf fl tg) p f s o l[k]) 1 2000 then 0 else firstOf (neo (limitOf fl tg) p f s o l[k]) 1 2000 := rfl
    generalize firstOf (neo (limitOf fl tg) p f s o l[k]) 1 2000 = n at *
    obtain ⟨nv, hne⟩ : ∃ nv, needAt (limitOf fl tg) p f s o l[k] = nv := ⟨_, rfl⟩
    rw [hne] at hnv
    have HNV := hid hne
    have c0 := blkCell HI3.out.h3 0
    simp at c0
    clear hI2 hbox qo hrg hA hb hne HQ
    by_cases hgt : 2000 < n
    · have hd : decide (2000 < n) = true := decide_eq_true hgt
      rw [if_pos hgt] at hnv
      subst hnv
      clear hgt
      gi_wp2_with (gi_at_builtin; refine Hid.out ?_)
      refine hid ?_
      obtain ⟨hbox3, qo3⟩ := HX3.out
      have hBs := cell_lt (blkCell hbox3 0)
      have hgr := (Below.refl w3.heap.size w3).alloc (Nat.le_refl _) (.cells #[.int .i64 (0)] 3)
      have hnew := World.alloc_heap_new w3 (.cells #[.int .i64 (0)] 3)
      have hown := rings_set qo3 hgr
      have hI4 := HI3.out.grow hgr
      have hbox4 := heap_grow hbox3 hgr
      have hkp := keeps_of_below (HB3.out.trans (hgr.mono HB3.out.size))
      have hs4 := hgr.size
      generalize w3.alloc (Obj.cells #[.int .i64 (0)] 3) = W4' at *
      obtain ⟨i0, hi, hz0, hz1, hz2⟩ := info3'
      refine wpListIn_append_own W4' rfl _ _ 30 rfl (Bb + 1) 3 i0 _ 1 8 Try.underlying30 hi hz0 hz1 hz2 rfl (by decide) v k _ rfl hown ⟨w3.heap.size, 0, none⟩ 1 1 [.int .i64 (0)] rfl rfl (one_cell hnew) (by simp [Value.oneCell']) (by have := HK.out.1; unfold maxLen; omega) (by have := HK.out.1; omega) (by omega) ?_
      intro v' w5 hown' hgrow _
      obtain ⟨g', cap', rfl⟩ := ownsRow_succ hown'
      have hBm1 : w.heap.size + 1 < Bm ∧ Bm + 1 < Bb := ⟨hI4.hm, by have := cell_lt (blkCell HH.out.h3 0); omega⟩
      have g1 := grown_keep hown hgrow (by omega) hI4.h1
      have g2 := grown_keep hown hgrow (by omega) hI4.h2
      have g3 := grown_keep hown hgrow (by omega) hI4.h3
      have g4 := grown_keep hown hgrow (by omega) hbox4
      have g5 := hI4.hb.grown hgrow (by have := hI4.hb.size; omega) (fun j hj => own_base hown hj (by omega))
      have g6 := hkp.trans (KeepsOthers.of_grownBy hgrow (own_cells hown))
      have hcv := blkCell g3 0
      have hfv := blkFrozen g3 0
      simp at hcv
      have HG := hid (And.intro g1 (And.intro g2 (And.intro g3 (And.intro g4 (And.intro g5 (And.intro g6 hown'))))))
      have HM := hid hBm1
      clear g1 g2 g3 g4 g5 g6 hown hgrow hown' hI4 hbox4 hkp hs4 hnew hgr hbox3 qo3 hBs hi hz0 hz1 hz2 hBm1
      gi_wp2
      obtain ⟨g1, g2, g3, g4, g5, g6, hown'⟩ := HG.out
      obtain ⟨m1, m2⟩ := HM.out
      refine ⟨g6.trans (KeepsOthers.setCell _ _ _), ⟨heap_set_other (by omega) g4, Kd.C_below hr (g5.setCell (p := ⟨Bm + 1, 0, none⟩) (by simp; omega) _)⟩, _, ⟨heap_set_other (by omega) g1, heap_set_other (by omega) g2, heap_set_same g3, m1, g5.setCell (p := ⟨Bm + 1, 0, none⟩) (by simp; omega) _⟩, ?_⟩
      rw [List.take_succ_eq_append_getElem hlt, List.flatMap_append]
      simp only [List.flatMap_cons, List.flatMap_nil, List.append_nil, HNV.out]
      exact ownsRow_setCell_below hown' (by simp; omega) _
    · have hd : decide (2000 < n) = false := decide_eq_false hgt
      rw [if_neg hgt] at hnv
      subst hnv
      clear hgt
      gi_wp2_with (gi_at_builtin; refine Hid.out ?_)
      refine hid ?_
      obtain ⟨hbox3, qo3⟩ := HX3.out
      have hBs := cell_lt (blkCell hbox3 0)
      have hgr := (Below.refl w3.heap.size w3).alloc (Nat.le_refl _) (.cells #[.int .i64 (nv)] 3)
      have hnew := World.alloc_heap_new w3 (.cells #[.int .i64 (nv)] 3)
      have hown := rings_set qo3 hgr
      have hI4 := HI3.out.grow hgr
      have hbox4 := heap_grow hbox3 hgr
      have hkp := keeps_of_below (HB3.out.trans (hgr.mono HB3.out.size))
      have hs4 := hgr.size
      generalize w3.alloc (Obj.cells #[.int .i64 (nv)] 3) = W4' at *
      obtain ⟨i0, hi, hz0, hz1, hz2⟩ := info3'
      refine wpListIn_append_own W4' rfl _ _ 30 rfl (Bb + 1) 3 i0 _ 1 8 Try.underlying30 hi hz0 hz1 hz2 rfl (by decide) v k _ rfl hown ⟨w3.heap.size, 0, none⟩ 1 1 [.int .i64 (nv)] rfl rfl (one_cell hnew) (by simp [Value.oneCell']) (by have := HK.out.1; unfold maxLen; omega) (by have := HK.out.1; omega) (by omega) ?_
      intro v' w5 hown' hgrow _
      obtain ⟨g', cap', rfl⟩ := ownsRow_succ hown'
      have hBm1 : w.heap.size + 1 < Bm ∧ Bm + 1 < Bb := ⟨hI4.hm, by have := cell_lt (blkCell HH.out.h3 0); omega⟩
      have g1 := grown_keep hown hgrow (by omega) hI4.h1
      have g2 := grown_keep hown hgrow (by omega) hI4.h2
      have g3 := grown_keep hown hgrow (by omega) hI4.h3
      have g4 := grown_keep hown hgrow (by omega) hbox4
      have g5 := hI4.hb.grown hgrow (by have := hI4.hb.size; omega) (fun j hj => own_base hown hj (by omega))
      have g6 := hkp.trans (KeepsOthers.of_grownBy hgrow (own_cells hown))
      have hcv := blkCell g3 0
      have hfv := blkFrozen g3 0
      simp at hcv
      have HG := hid (And.intro g1 (And.intro g2 (And.intro g3 (And.intro g4 (And.intro g5 (And.intro g6 hown'))))))
      have HM := hid hBm1
      clear g1 g2 g3 g4 g5 g6 hown hgrow hown' hI4 hbox4 hkp hs4 hnew hgr hbox3 qo3 hBs hi hz0 hz1 hz2 hBm1
      gi_wp2
      obtain ⟨g1, g2, g3, g4, g5, g6, hown'⟩ := HG.out
      obtain ⟨m1, m2⟩ := HM.out
      refine ⟨g6.trans (KeepsOthers.setCell _ _ _), ⟨heap_set_other (by omega) g4, Kd.C_below hr (g5.setCell (p := ⟨Bm + 1, 0, none⟩) (by simp; omega) _)⟩, _, ⟨heap_set_other (by omega) g1, heap_set_other (by omega) g2, heap_set_same g3, m1, g5.setCell (p := ⟨Bm + 1, 0, none⟩) (by simp; omega) _⟩, ?_⟩
      rw [List.take_succ_eq_append_getElem hlt, List.flatMap_append]
      simp only [List.flatMap_cons, List.flatMap_nil, List.append_nil, HNV.out]
      exact ownsRow_setCell_below hown' (by simp; omega) _
  case done =>
    rintro D W ⟨hR, v, hV, hO⟩ hD hle
    show wpF Try.prog 80 _ _ _ _
    have hBl := cell_lt (blkCell HH.out.h3 0)
    have hwb := HH.out.hb.size
    simp only [World.size_alloc] at hle
    rw [List.take_length] at hO
    have hvs : ∃ A' n' c', v = .slice A' n' c' := by
      rcases hO.2 with ⟨rfl, _⟩ | ⟨g, cap, cur, rfl, _⟩
      · exact ⟨_, _, _, rfl⟩
      · exact ⟨_, _, _, rfl⟩
    have HQ := hid (And.intro hV hO)
    have HD := hid hD
    have c2 := blkCell hV.h3 0
    simp at c2
    obtain ⟨A', n', c', rfl⟩ := hvs
    clear hR hV hD hO
    refine wpF_of_wp ?_
    go_wp2
    obtain ⟨hV, qo⟩ := HQ.out
    have ho := own_turn qo (Turn.putObj (B := 0) (.deferred none) (Nat.zero_le _) HD.out rfl)
    refine ⟨by simp, .inl ⟨_, _, rfl, run_takeDeferred HD.out, ?_⟩⟩
    refine ⟨.slice A' n' c', by simp [results, Try.results80, go_sem], .slice A' n' c', rfl, ?_, ?_⟩
    · unfold needOf
      rw [List.flatMap_map, List.length_map]
      exact own_lower (by omega) ho
    · exact hV.hb.trans (below_putObj _ _ (by omega))
/- Needed -/
def loadedOf (l : List S82) (fl tg p f s o : Int) : Int := if checkOf l fl tg = 0 then (if loadOk p f s o = true then 0 else 1) else checkOf l fl tg
theorem loaded_zero {l : List S82} {fl tg p f s o : Int} (h : loadedOf l fl tg p f s o = 0) : checkOf l fl tg = 0 ∧ loadOk p f s o = true := by
  unfold loadedOf at h
  split at h
  · rename_i h0
    split at h
    · rename_i h1; exact ⟨h0, h1⟩
    · cases h
  · rename_i h0; exact absurd h h0
def neededRes (l : List S82) (fl tg p f s o : Int) : List Int × Int := if loadedOf l fl tg p f s o = 0 then (needOf l fl tg p f s o, 0) else ([], loadedOf l fl tg p f s o)
def RetIntsE (r : List Int × Int) (w : World) (e : Ending) (w' : World) : Prop := ∃ v0_ : Value, e = .returned (.tuple #[v0_, .int .i64 r.2]) ∧ Kd.R (Kd.int .i64) 3 w' w.heap.size (fun _ => True) v0_ r.1 ∧ Below w.heap.size w w'
set_option maxRecDepth 100000 in
set_option maxHeartbeats 2000000 in
theorem Needed_any (A : Option Addr) (c : Nat) (l : List S82) (fl tg p f s o : Int) (w : World) (hr : Kd.C k82 w A l.length l) :
    Calls Try.prog 31 #[.agg #[.slice A l.length c, .int .i64 fl, .int .i64 tg], .agg #[.int .i64 p, .int .i64 f, .int .i64 s, .int .i64 o]] w (RetIntsE (neededRes l fl tg p f s o) w) := by
  have HB := Below.refl w.heap.size w
  have hmf := makeFunc_any
  refine calls_of_wpF Try.func31 rfl (wpF_of_wp ?_)
  simp only [Try.ntmps31, List.size_toArray, List.length_cons, List.length_nil, Nat.reduceAdd, Nat.reduceSub, Array.replicate_succ, Array.replicate_zero, List.push_toArray, List.append_toArray, List.nil_append, List.cons_append]
  go_wp2_with fail
  have hbel := ((HB.alloc (Nat.le_refl _) (.cells #[.slice A l.length c, .int .i64 fl, .int .i64 tg] 24)).alloc (by simp) (.cells #[.int .i64 p, .int .i64 f, .int .i64 s, .int .i64 o] 27)).alloc (by simp; omega) (.cells #[.int .i64 0] 36)
  refine (check_any A c l fl tg _ (Kd.C_below hr hbel)).mono ?_
  rintro e w1 ⟨he, hb⟩
  have hc : w1.cell? ⟨w.heap.size + 1 + 1, 0, none⟩ = some (.int .i64 0) := cell_grow (by go_simp) hb
  have b0 : w1.cell? ⟨w.heap.size, 0, none⟩ = some (.slice A l.length c) := cell_grow (by go_simp) hb
  have b1 : w1.cell? ⟨w.heap.size, 1, none⟩ = some (.int .i64 fl) := cell_grow (by go_simp) hb
  have b2 : w1.cell? ⟨w.heap.size, 2, none⟩ = some (.int .i64 tg) := cell_grow (by go_simp) hb
  have l0 : w1.cell? ⟨w.heap.size + 1, 0, none⟩ = some (.int .i64 p) := cell_grow (by go_simp) hb
  have l1 : w1.cell? ⟨w.heap.size + 1, 1, none⟩ = some (.int .i64 f) := cell_grow (by go_simp) hb
  have l2 : w1.cell? ⟨w.heap.size + 1, 2, none⟩ = some (.int .i64 s) := cell_grow (by go_simp) hb
  have l3 : w1.cell? ⟨w.heap.size + 1, 3, none⟩ = some (.int .i64 o) := cell_grow (by go_simp) hb
  have hf : w1.frozen? ⟨w.heap.size + 1 + 1, 0, none⟩ = false := frozen_grow (v := .int .i64 0) (by go_simp) (by go_simp) hb
  have HBB := hid (hbel.trans (hb.mono (by simp; omega)))
  clear hb hbel HB
  by_cases h0 : ¬ checkOf l fl tg = 0
  · rw [if_neg h0] at he
    subst he
    have hL : loadedOf l fl tg p f s o = checkOf l fl tg := by unfold loadedOf; rw [if_neg h0]
    refine leaves_fail catches78 enters78 hc hf ?_
    refine ⟨.tuple #[.slice none 0 0, .int .i64 (checkOf l fl tg)], by simp [results, Try.results31, go_sem, caughtW_cell hc], .slice none 0 0, ?_, ?_, caughtW_below HBB.out (by omega)⟩
    · unfold neededRes; rw [hL, if_neg h0]
    · unfold neededRes; rw [hL, if_neg h0]; exact Kd.R_nil _ _ _ _ _
  have h0' := Decidable.not_not.1 h0
  rw [if_pos h0'] at he
  subst he
  have H0 := hid h0'
  have HF := hid hf
  clear h0 h0' hf
  go_wp2_with fail
  refine (checkLoad_any p f s o _).mono ?_
  rintro e w2 ⟨he, hb⟩
  have hf := frozen_grow hc HF.out hb
  have hc := cell_grow hc hb
  have b0 := cell_grow b0 hb
  have b1 := cell_grow b1 hb
  have b2 := cell_grow b2 hb
  have l0 := cell_grow l0 hb
  have l1 := cell_grow l1 hb
  have l2 := cell_grow l2 hb
  have l3 := cell_grow l3 hb
  have HBB := hid (HBB.out.trans (hb.mono HBB.out.size))
  clear hb HF
  by_cases hl : ¬ loadOk p f s o = true
  · rw [if_neg hl, if_neg (by decide)] at he
    subst he
    have hL : loadedOf l fl tg p f s o = 1 := by unfold loadedOf; rw [if_pos H0.out, if_neg hl]
    refine leaves_fail catches78 enters78 hc hf ?_
    refine ⟨.tuple #[.slice none 0 0, .int .i64 1], by simp [results, Try.results31, go_sem, caughtW_cell hc], .slice none 0 0, ?_, ?_, caughtW_below HBB.out (by omega)⟩
    · unfold neededRes; rw [hL]; rfl
    · unfold neededRes; rw [hL]; exact Kd.R_nil _ _ _ _ _
  have hl' := Decidable.not_not.1 hl
  rw [if_pos hl', if_pos rfl] at he
  subst he
  have HL := hid hl'
  have HF := hid hf
  clear hl hl' hf
  go_wp2_with fail
  refine (needed_any A c l fl tg p f s o _ (Kd.C_below hr HBB.out) H0.out HL.out).mono ?_
  rintro e w3 ⟨v, rfl, hO, hb⟩
  have hc2 := cell_grow hc hb
  have hf2 := frozen_grow hc HF.out hb
  have HS := hid (cell_lt hc)
  have HB2 := hid (HBB.out.trans (hb.mono HBB.out.size))
  have HO := hid hO
  have hvs : ∃ A' n' c', v = .slice A' n' c' := by
    rcases hO.2 with ⟨rfl, _⟩ | ⟨g, cap, cur, rfl, _⟩
    · exact ⟨_, _, _, rfl⟩
    · exact ⟨_, _, _, rfl⟩
  obtain ⟨A', n', c', rfl⟩ := hvs
  clear hb hO HF hc b0 b1 b2 l0 l1 l2 l3
  go_wp2
  refine leaves_idle catches78 enters78 ?_
  refine ⟨.tuple #[.slice A' n' c', .int .i64 0], by simp [results, Try.results31, go_sem, hc2], .slice A' n' c', ?_, ?_, HB2.out.setCell (p := ⟨w.heap.size + 1 + 1, 0, none⟩) (by simp; omega) _⟩
  · unfold neededRes loadedOf; rw [if_pos H0.out, if_pos HL.out]; rfl
  · unfold neededRes loadedOf; rw [if_pos H0.out, if_pos HL.out]
    have := Rint_of (f := fun x => x) (own_lower (base' := w.heap.size) (by have := HBB.out.size; omega) (ownsRow_setCell_below HO.out (a := ⟨w.heap.size + 1 + 1, 0, none⟩) (by have := HS.out; simpa using this) (.int .i64 0)))
    rw [List.map_id'] at this
    exact this
end Go.Proofs.Ythoofldinnfpiaa
