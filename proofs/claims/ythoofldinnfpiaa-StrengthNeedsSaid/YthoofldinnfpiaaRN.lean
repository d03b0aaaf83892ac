import Derived.Test.YthoofldinnfpiaaRB
import Derived.Test.YthoofldinnfpiaaPD
import Derived.Test.YthoofldinnfpiaaPZ
import Derived.Test.YthoofldinnfpiaaFL
import Derived.Test.YthoofldinnfpiaaLP
namespace Go.Proofs.Ythoofldinnfpiaa
open Go.RowKit Go.Proofs.YthoofldinnfpiaaW.PrintWords Go.Proofs.YthoofldinnfpiaaW.PrintLast Go.Proofs.YthoofldinnfpiaaW.PrintMore
open Q Go.Shelf
attribute [local go_sem] Oper.semAt_some wide_depth wide_fn
set_option linter.unusedVariables false
set_option linter.unusedSimpArgs false
theorem field29_c (a b : Int) (w : World) : (Instr.field 29 (.agg #[.int .i64 a, .int .i64 b]) 1).run Try.prog w = .ok (.int .i64 b) w := by kernel_rfl
attribute [local go_sem] field29_c
theorem refload (p f s o : Int) : culletref05_Load.f p f s o = some (loadOk p f s o) := by
  unfold culletref05_Load.f loadOk betw
  repeat' split
  all_goals simp [*]
  all_goals omega
theorem check18_any (A : Option Addr) (c : Nat) (l : List S82) (fl tg : Int) (w : World) (hr : Kd.C k82 w A l.length l) (hc : l.length ≤ c) :
    Calls Try.prog 18 #[.agg #[.slice A l.length c, .int .i64 fl, .int .i64 tg]] w fun e w' => e = .returned (.int .i64 (checkOf l fl tg)) ∧ Below w.heap.size w w' := by
  obtain ⟨K, hK⟩ := refCheck l fl tg
  exact culletref05_Check.calls K A c l fl tg _ w hr hc (hK K (Nat.le_refl _))
theorem load112_any (p f s o : Int) (w : World) : Calls Try.prog 112 #[.agg #[.int .i64 p, .int .i64 f, .int .i64 s, .int .i64 o]] w fun e w' => e = .returned (.bool (loadOk p f s o)) ∧ Below w.heap.size w w' :=
  culletref05_Load.calls p f s o _ w (refload p f s o)
set_option maxRecDepth 100000 in
theorem loaded94_any (A : Option Addr) (c : Nat) (l : List S82) (fl tg p f s o : Int) (w : World) (hr : Kd.C k82 w A l.length l) (hc : l.length ≤ c) :
    Calls Try.prog 94 #[.agg #[.slice A l.length c, .int .i64 fl, .int .i64 tg], .agg #[.int .i64 p, .int .i64 f, .int .i64 s, .int .i64 o]] w fun e w' => e = .returned (.int .i64 (loadedOf l fl tg p f s o)) ∧ Below w.heap.size w w' := by
  have hu24 := Try.underlying24
  have hu27 := Try.underlying27
  have HB := Below.refl w.heap.size w
  have hlo : loadedOf l fl tg p f s o = if checkOf l fl tg = 0 then (if loadOk p f s o = true then 0 else 1) else checkOf l fl tg := rfl
  go_enter Try.func94, Try.ntmps94
  go_wp2_with fail
  have hbel := (HB.alloc (Nat.le_refl _) (.cells #[.slice A l.length c, .int .i64 fl, .int .i64 tg] 24)).alloc (by simp) (.cells #[.int .i64 p, .int .i64 f, .int .i64 s, .int .i64 o] 27)
  have e1 := World.alloc_heap_new (w.alloc (.cells #[.slice A l.length c, .int .i64 fl, .int .i64 tg] 24)) (.cells #[.int .i64 p, .int .i64 f, .int .i64 s, .int .i64 o] 27)
  rw [World.size_alloc] at e1
  generalize ((w.alloc (Obj.cells #[.slice A l.length c, .int .i64 fl, .int .i64 tg] 24)).alloc (Obj.cells #[.int .i64 p, .int .i64 f, .int .i64 s, .int .i64 o] 27)) = W2 at *
  refine (check18_any A c l fl tg _ (Kd.C_below hr hbel) hc).mono ?_
  rintro e w1 ⟨rfl, hb⟩
  have e1 := heap_grow e1 hb
  have HB1 := hid (hbel.trans (hb.mono hbel.size))
  generalize checkOf l fl tg = ck at *
  have HLO := hid hlo
  clear hlo hb hbel HB
  by_cases h0 : ck = 0
  · subst h0
    have z0 := blkCell e1 0
    have z1 := blkCell e1 1
    have z2 := blkCell e1 2
    have z3 := blkCell e1 3
    simp at z0 z1 z2 z3
    clear e1
    go_wp2_with fail
    refine (load112_any p f s o _).mono ?_
    rintro e w2 ⟨rfl, hb⟩
    have HB2 := hid (HB1.out.trans (hb.mono HB1.out.size))
    have HLO2 := hid (show loadedOf l fl tg p f s o = if loadOk p f s o = true then 0 else 1 by rw [HLO.out]; simp)
    clear hb HB1 HLO z0 z1 z2 z3
    cases hlk : loadOk p f s o with
    | true =>
      have HV := hid (show loadedOf l fl tg p f s o = 0 by rw [HLO2.out, hlk]; rfl)
      clear hlk
      go_wp2
      go_ret
      exact ⟨by rw [HV.out]; rfl, HB2.out⟩
    | false =>
      have HV := hid (show loadedOf l fl tg p f s o = 1 by rw [HLO2.out, hlk]; rfl)
      clear hlk
      go_wp2
      go_ret
      exact ⟨by rw [HV.out]; rfl, HB2.out⟩
  · have h0b : (ck != 0) = true := by simpa using h0
    have HV := hid (show loadedOf l fl tg p f s o = ck by rw [HLO.out, if_neg h0])
    clear e1
    go_wp2
    go_ret
    exact ⟨by rw [HV.out]; rfl, HB1.out⟩
/- needed -/
theorem need_stHi_nn {r : S82} {t : S29} {p f s o : Int} (hr : ringOk r = true) (ht : okThick t = true) (hl : loadOk p f s o = true) : 0 ≤ stHi r t p f s o := by
  obtain ⟨r1, r2, r3, _, _, _, _, _, _, r7, r8, r9, r10, r11, r12⟩ := ring_ok hr
  obtain ⟨t1, t2, t3⟩ := thick_ok ht
  obtain ⟨l1, l2, l3, l4, l5, l6, l7, l8⟩ := load_ok hl
  have c6 := mul_pos_le (a := 333 * r.f0.f0) (b := t.f0) (A := 333000) (B := 2000) (by omega) (by omega) (by omega) (by omega)
  have d1 := upE_nn (a := p * r.f0.f1 * r.f3.f1) (b := 100 * t.f0) (Int.mul_nonneg (Int.mul_nonneg l1 (by omega)) (by omega)) (by omega)
  have d2 := upE_nn (a := 500000 * f * 106) (b := 333 * r.f0.f0 * t.f0) (by omega) c6.1
  have d3 := upE_nn (a := r.f4.f1 * s) (b := t.f0) (Int.mul_nonneg (by omega) l5) t1
  unfold stHi
  omega
theorem need_unique {m p f s o : Int} {r : S82} (hr : ringOk r = true) (hl : loadOk p f s o = true) {x : Int} (h0 : 0 ≤ x) (h1 : x ≤ 2000) (h2 : ∀ y, x < y → y ≤ 2000 → stHi r ⟨y, y⟩ p f s o ≤ m) (h3 : x = 0 ∨ m < stHi r ⟨x, x⟩ p f s o) : needAt m p f s o r = if x = 2000 then 0 else x + 1 := by
  rcases need_cases m p f s o r with ⟨n1, n2⟩ | ⟨n1, n2, n3, n4⟩
  · rw [n1]
    by_cases hx : x = 2000
    · rw [if_pos hx]
    · have := h2 2000 (by omega) (by omega); omega
  · generalize needAt m p f s o r = n at *
    have hk : okThick ⟨n, n⟩ = true := by simp only [okThick, spanB, Bool.and_eq_true, decide_eq_true_eq]; omega
    have hlt : x < n := by
      apply Decidable.byContradiction
      intro hn
      have := stHi_le (r := r) (r' := r) (t := ⟨n, n⟩) (t' := ⟨x, x⟩) hr hr hk hl (Int.le_refl _) (Int.le_refl _) (Int.le_refl _) (Int.le_refl _) (show n ≤ x by omega) (Int.le_refl _) (Int.le_refl _) (Int.le_refl _) (Int.le_refl _)
      rcases h3 with h3 | h3 <;> omega
    have hle : n ≤ x + 1 := by
      apply Decidable.byContradiction
      intro hn
      have := n4 (by omega)
      have := h2 (n - 1) (by omega) (by omega)
      omega
    rw [if_neg (by omega)]
    omega
set_option maxRecDepth 100000 in
set_option maxHeartbeats 4000000 in
theorem refneeded_any (A : Option Addr) (c : Nat) (l : List S82) (fl tg p f s o : Int) (w : World) (hr : Kd.C k82 w A l.length l) (hc : l.length ≤ c) (hk : checkOf l fl tg = 0) (hl : loadOk p f s o = true) :
    Calls Try.prog 95 #[.agg #[.slice A l.length c, .int .i64 fl, .int .i64 tg], .agg #[.int .i64 p, .int .i64 f, .int .i64 s, .int .i64 o]] w (RetInts (needOf l fl tg p f s o) w) := by
  have hu24 := Try.underlying24
  have hu27 := Try.underlying27
  have hu82 := Try.underlying82
  have hu29 := Try.underlying29
  have HB := Below.refl w.heap.size w
  obtain ⟨k1, k2, hall, _, _, k3, k4, k5, k6⟩ := check_zero hk
  obtain ⟨ar, rfl⟩ : ∃ ar, A = some ar := by
    obtain ⟨ar, h, _⟩ := at_T82 hr 0 (by omega) (by omega)
    exact ⟨ar, h⟩
  have HK := hid (And.intro k1 (And.intro k2 (And.intro hall (And.intro k3 (And.intro k5 k6)))))
  have HL := hid hl
  clear k1 k2 hall k3 k4 k5 k6 hl hk
  go_enter Try.func95, Try.ntmps95
  go_wp2
  have e0 := alloc_old (o' := .cells #[.int .i64 p, .int .i64 f, .int .i64 s, .int .i64 o] 27) (World.alloc_heap_new w (.cells #[.slice (some ar) l.length c, .int .i64 fl, .int .i64 tg] 24))
  have e1 := World.alloc_heap_new (w.alloc (.cells #[.slice (some ar) l.length c, .int .i64 fl, .int .i64 tg] 24)) (.cells #[.int .i64 p, .int .i64 f, .int .i64 s, .int .i64 o] 27)
  rw [World.size_alloc] at e1
  have hbel := (HB.alloc (Nat.le_refl _) (.cells #[.slice (some ar) l.length c, .int .i64 fl, .int .i64 tg] 24)).alloc (by simp) (.cells #[.int .i64 p, .int .i64 f, .int .i64 s, .int .i64 o] 27)
  have hsz : w.heap.size + 1 < ((w.alloc (.cells #[.slice (some ar) l.length c, .int .i64 fl, .int .i64 tg] 24)).alloc (.cells #[.int .i64 p, .int .i64 f, .int .i64 s, .int .i64 o] 27)).heap.size := by simp
  generalize ((w.alloc (Obj.cells #[.slice (some ar) l.length c, .int .i64 fl, .int .i64 tg] 24)).alloc (Obj.cells #[.int .i64 p, .int .i64 f, .int .i64 s, .int .i64 o] 27)) = W2 at *
  have HE := hid (And.intro e0 (And.intro e1 (And.intro hbel hsz)))
  have HK0 := hid (own_nil W2 W2.heap.size 3 1)
  clear e0 e1 hbel hsz HB
  go_loopw [5, 6] (fun v5 v6 X => ∃ k : Nat, k ≤ l.length ∧ v6 = .int .i64 k ∧ Hid (Below W2.heap.size W2 X ∧ X.ownsRow W2.heap.size 3 1 v5 k ((l.take k).flatMap fun r => [.int .i64 (needAt (limitOf fl tg) p f s o r)]))) (fun _ v6 _ => l.length - (intOf v6).toNat)
  case atStart => exact ⟨0, by omega, rfl, hid ⟨Below.refl _ _, by simpa using HK0.out⟩⟩
  case round =>
  obtain ⟨k, hkl, rfl, HX⟩ := hrel
  have z0 := blkCell (heap_grow HE.out.1 HX.out.1) 0
  simp at z0
  by_cases hlt : k < l.length
  · have hd : decide ((k : Int) < (l.length : Int)) = true := decide_eq_true (by omega)
    rename World => Wk
    go_wp2
    clear z0 hd
    go_loopw [7, 8] (fun v7 v8 Y => ∃ x : Int, 0 ≤ x ∧ x ≤ 2000 ∧ v7 = .int .i64 (if x = 2000 then 0 else x + 1) ∧ v8 = .int .i64 x ∧ Hid (Below Wk.heap.size Wk Y ∧ ∀ y, x < y → y ≤ 2000 → stHi l[k] ⟨y, y⟩ p f s o ≤ limitOf fl tg)) (fun _ v8 _ => (intOf v8).toNat)
    case atStart => exact ⟨2000, by omega, by omega, rfl, rfl, hid ⟨Below.refl _ _, fun y h1 h2 => absurd h1 (by omega)⟩⟩
    case round =>
    obtain ⟨x, hx0, hx1, rfl, rfl, HY⟩ := hrel
    obtain ⟨nv, hnv⟩ : ∃ v, (if x = 2000 then (0 : Int) else x + 1) = v := ⟨_, rfl⟩
    rw [hnv]
    have HNV := hid hnv
    clear hnv
    have hBy := HX.out.1.trans (HY.out.1.mono HX.out.1.size)
    have E0 := heap_grow HE.out.1 hBy
    have E1 := heap_grow HE.out.2.1 hBy
    have hBw := HE.out.2.2.1.trans (hBy.mono HE.out.2.2.1.size)
    have hri := at_T82 (Kd.C_below hr hBw) k (by omega) (by omega)
    rw [rd82 hlt] at hri
    simp only [Int.toNat_natCast] at hri
    obtain ⟨ar', har', r0, r1, r2, r3, r4, r5, r6, r7, r8, r9⟩ := hri
    cases har'
    have hr1 := all_get HK.out.2.2.1 hlt
    go_wp2_with fail
    by_cases hx : 1 ≤ x
    · have d1 : decide (1 ≤ x) = true := decide_eq_true hx
      have ht1 : okThick ⟨x, x⟩ = true := by simp only [okThick, spanB, Bool.and_eq_true, decide_eq_true_eq]; omega
      have hl1 := HL.out
      have hrk := Kd.C_below hr hBw
      have hk3 := HK.out.2.2.2.1
      have hk5 := HK.out.2.2.2.2.1
      have hk6 := HK.out.2.2.2.2.2
      have hnn : 0 ≤ stHi l[k] ⟨x, x⟩ p f s o := need_stHi_nn hr1 ht1 hl1
      refine wp_flow [[], [0], [1, 0], [2, 1, 0], [2, 1, 0], [4, 2, 1, 0], [2, 1, 0], [5, 4, 2, 1, 0, 6], [7, 5, 4, 2, 1, 0, 6], [2, 1, 0], [2, 1, 0], [9, 2, 1, 0, 10], [2, 1, 0], [8, 7, 5, 4, 2, 1, 0, 6, 11, 9, 10, 12], [13, 8, 7, 5, 4, 2, 1, 0, 6, 11, 9, 10, 12], [3, 2, 1, 0, 14, 13, 8, 7, 5, 4, 6, 11, 9, 10, 12], [2, 1, 0, 15, 3, 14, 13, 8, 7, 5, 4, 6, 11, 9, 10, 12]] 17
        (fun V => V.cell? ⟨w.heap.size, 0, none⟩ = some (.slice (some ar) l.length c) ∧ V.cell? ⟨w.heap.size, 1, none⟩ = some (.int .i64 fl) ∧ V.cell? ⟨w.heap.size, 2, none⟩ = some (.int .i64 tg) ∧ V.cell? ⟨(w.heap.size + 1), 0, none⟩ = some (.int .i64 p) ∧ V.cell? ⟨(w.heap.size + 1), 1, none⟩ = some (.int .i64 f) ∧ V.cell? ⟨(w.heap.size + 1), 2, none⟩ = some (.int .i64 s) ∧ V.cell? ⟨(w.heap.size + 1), 3, none⟩ = some (.int .i64 o) ∧ V.cell? (ar.add (k * 10)) = some (.int .i64 l[k].f0.f0) ∧ V.cell? ⟨(ar.add (k * 10)).block, (ar.add (k * 10)).off + 1, none⟩ = some (.int .i64 l[k].f0.f1) ∧ V.cell? ⟨(ar.add (k * 10)).block, (ar.add (k * 10)).off + 2, none⟩ = some (.int .i64 l[k].f1.f0) ∧ V.cell? ⟨(ar.add (k * 10)).block, (ar.add (k * 10)).off + 3, none⟩ = some (.int .i64 l[k].f1.f1) ∧ V.cell? ⟨(ar.add (k * 10)).block, (ar.add (k * 10)).off + 4, none⟩ = some (.int .i64 l[k].f2.f0) ∧ V.cell? ⟨(ar.add (k * 10)).block, (ar.add (k * 10)).off + 5, none⟩ = some (.int .i64 l[k].f2.f1) ∧ V.cell? ⟨(ar.add (k * 10)).block, (ar.add (k * 10)).off + 6, none⟩ = some (.int .i64 l[k].f3.f0) ∧ V.cell? ⟨(ar.add (k * 10)).block, (ar.add (k * 10)).off + 7, none⟩ = some (.int .i64 l[k].f3.f1) ∧ V.cell? ⟨(ar.add (k * 10)).block, (ar.add (k * 10)).off + 8, none⟩ = some (.int .i64 l[k].f4.f0) ∧ V.cell? ⟨(ar.add (k * 10)).block, (ar.add (k * 10)).off + 9, none⟩ = some (.int .i64 l[k].f4.f1) ∧ Below wr.heap.size wr V)
        { tmps := #[.agg #[.slice (some ar) l.length c, .int .i64 fl, .int .i64 tg], .agg #[.int .i64 p, .int .i64 f, .int .i64 s, .int .i64 o], .pointer (some ⟨w.heap.size, 0, none⟩), .pointer (some ⟨(w.heap.size + 1), 0, none⟩), .slice none 0 0, u5, .int .i64 k, .int .i64 nv, .int .i64 x, .int .i64 k, .pointer (some ⟨w.heap.size, 0, none⟩), .slice (some ar) l.length c, .int .i64 l.length, .bool true, u14, u15, .int .i64 x, .bool true, .bool true, .agg #[.slice (some ar) l.length c, .int .i64 fl, .int .i64 tg], .pointer (some ⟨w.heap.size, 0, none⟩), .slice (some ar) l.length c, .int .i64 k, .pointer (some (ar.add (k * 10))), .agg #[.int .i64 (l[k].f0.f0), .int .i64 (l[k].f0.f1), .int .i64 (l[k].f1.f0), .int .i64 (l[k].f1.f1), .int .i64 (l[k].f2.f0), .int .i64 (l[k].f2.f1), .int .i64 (l[k].f3.f0), .int .i64 (l[k].f3.f1), .int .i64 (l[k].f4.f0), .int .i64 (l[k].f4.f1)], .int .i64 x, .int .i64 x, .agg #[.int .i64 x, .int .i64 x], .agg #[.int .i64 p, .int .i64 f, .int .i64 s, .int .i64 o], .agg #[.int .i64 (stLo l[k] ⟨x, x⟩ p f s o), .int .i64 (stHi l[k] ⟨x, x⟩ p f s o)], .int .i64 (stHi l[k] ⟨x, x⟩ p f s o), .bool (decide (stHi l[k] ⟨x, x⟩ p f s o ≤ limitOf fl tg)), .bool (decide (stHi l[k] ⟨x, x⟩ p f s o ≤ limitOf fl tg)), u33, u34, u35, u36, u37, u38, u39, undef], defers := [] }
        mixed (by kernel_rfl) rfl (Ahead.of3 16 33 rfl rfl (by kernel_rfl) rfl rfl) ?_ (AllFlow.ops rfl ?_) rfl ?_
      · exact ⟨blkCell E0 0, blkCell E0 1, blkCell E0 2, blkCell E1 0, blkCell E1 1, blkCell E1 2, blkCell E1 3, r0, r1, r2, r3, r4, r5, r6, r7, r8, r9, (Below.refl _ _).drew⟩
      · refine ⟨?_, ?_, ?_, ?_, ?_, ?_, ?_, ?_, ?_, ?_, ?_, ?_, ?_, ?_, ?_, ?_, ?_, trivial⟩
        · exact .val 16 _ rfl rfl fun V ⟨y0, y1, y2, y3, y4, y5, y6, x0, x1, x2, x3, x4, x5, x6, x7, x8, x9, hB_⟩ => by go_simp
        · exact .val 17 _ rfl rfl fun V ⟨y0, y1, y2, y3, y4, y5, y6, x0, x1, x2, x3, x4, x5, x6, x7, x8, x9, hB_⟩ => by go_simp
        · exact .val 18 _ rfl rfl fun V ⟨y0, y1, y2, y3, y4, y5, y6, x0, x1, x2, x3, x4, x5, x6, x7, x8, x9, hB_⟩ => by go_simp
        · exact .val 19 _ rfl rfl fun V ⟨y0, y1, y2, y3, y4, y5, y6, x0, x1, x2, x3, x4, x5, x6, x7, x8, x9, hB_⟩ => by go_simp
        · exact .val 20 _ rfl rfl fun V ⟨y0, y1, y2, y3, y4, y5, y6, x0, x1, x2, x3, x4, x5, x6, x7, x8, x9, hB_⟩ => by go_simp
        · exact .val 21 _ rfl rfl fun V ⟨y0, y1, y2, y3, y4, y5, y6, x0, x1, x2, x3, x4, x5, x6, x7, x8, x9, hB_⟩ => by go_simp
        · exact .val 22 _ rfl rfl fun V ⟨y0, y1, y2, y3, y4, y5, y6, x0, x1, x2, x3, x4, x5, x6, x7, x8, x9, hB_⟩ => by go_simp
        · exact .val 23 _ rfl rfl fun V ⟨y0, y1, y2, y3, y4, y5, y6, x0, x1, x2, x3, x4, x5, x6, x7, x8, x9, hB_⟩ => by go_simp
        · exact .val 24 _ rfl rfl fun V ⟨y0, y1, y2, y3, y4, y5, y6, x0, x1, x2, x3, x4, x5, x6, x7, x8, x9, hB_⟩ => by go_simp
        · exact .val 25 _ rfl rfl fun V ⟨y0, y1, y2, y3, y4, y5, y6, x0, x1, x2, x3, x4, x5, x6, x7, x8, x9, hB_⟩ => by go_simp
        · exact .val 26 _ rfl rfl fun V ⟨y0, y1, y2, y3, y4, y5, y6, x0, x1, x2, x3, x4, x5, x6, x7, x8, x9, hB_⟩ => by go_simp
        · exact .val 27 _ rfl rfl fun V ⟨y0, y1, y2, y3, y4, y5, y6, x0, x1, x2, x3, x4, x5, x6, x7, x8, x9, hB_⟩ => by go_simp
        · exact .val 28 _ rfl rfl fun V ⟨y0, y1, y2, y3, y4, y5, y6, x0, x1, x2, x3, x4, x5, x6, x7, x8, x9, hB_⟩ => by go_simp
        · refine .call 29 (.agg #[.int .i64 (stLo l[k] ⟨x, x⟩ p f s o), .int .i64 (stHi l[k] ⟨x, x⟩ p f s o)]) 89 #[.agg #[.int .i64 (l[k].f0.f0), .int .i64 (l[k].f0.f1), .int .i64 (l[k].f1.f0), .int .i64 (l[k].f1.f1), .int .i64 (l[k].f2.f0), .int .i64 (l[k].f2.f1), .int .i64 (l[k].f3.f0), .int .i64 (l[k].f3.f1), .int .i64 (l[k].f4.f0), .int .i64 (l[k].f4.f1)], .agg #[.int .i64 x, .int .i64 x], .agg #[.int .i64 p, .int .i64 f, .int .i64 s, .int .i64 o]] rfl rfl (fun V ⟨y0, y1, y2, y3, y4, y5, y6, x0, x1, x2, x3, x4, x5, x6, x7, x8, x9, hB_⟩ => by go_simp) fun V ⟨y0, y1, y2, y3, y4, y5, y6, x0, x1, x2, x3, x4, x5, x6, x7, x8, x9, hB_⟩ => ?_
          refine (refstress_any l[k] ⟨x, x⟩ p f s o _ hr1 ht1 hl1).mono ?_
          rintro e w' ⟨rfl, hb⟩
          exact ⟨rfl, cell_grow y0 hb, cell_grow y1 hb, cell_grow y2 hb, cell_grow y3 hb, cell_grow y4 hb, cell_grow y5 hb, cell_grow y6 hb, cell_growp x0 hb, cell_growp x1 hb, cell_growp x2 hb, cell_growp x3 hb, cell_growp x4 hb, cell_growp x5 hb, cell_growp x6 hb, cell_growp x7 hb, cell_growp x8 hb, cell_growp x9 hb, hB_.trans (hb.mono hB_.size)⟩
        · exact .val 30 _ rfl rfl fun V ⟨y0, y1, y2, y3, y4, y5, y6, x0, x1, x2, x3, x4, x5, x6, x7, x8, x9, hB_⟩ => by go_simp
        · refine .call 31 (.bool (decide (stHi l[k] ⟨x, x⟩ p f s o ≤ limitOf fl tg))) 113 #[.agg #[.slice (some ar) l.length c, .int .i64 fl, .int .i64 tg], .int .i64 (stHi l[k] ⟨x, x⟩ p f s o)] rfl rfl (fun V ⟨y0, y1, y2, y3, y4, y5, y6, x0, x1, x2, x3, x4, x5, x6, x7, x8, x9, hB_⟩ => by go_simp) fun V ⟨y0, y1, y2, y3, y4, y5, y6, x0, x1, x2, x3, x4, x5, x6, x7, x8, x9, hB_⟩ => ?_
          refine (bears_any (some ar) c l fl tg (stHi l[k] ⟨x, x⟩ p f s o) _ (Kd.C_below hrk hB_) hc hk3 hk5 hk6 hnn).mono ?_
          rintro e w' ⟨rfl, hb⟩
          exact ⟨rfl, cell_grow y0 hb, cell_grow y1 hb, cell_grow y2 hb, cell_grow y3 hb, cell_grow y4 hb, cell_grow y5 hb, cell_grow y6 hb, cell_growp x0 hb, cell_growp x1 hb, cell_growp x2 hb, cell_growp x3 hb, cell_growp x4 hb, cell_growp x5 hb, cell_growp x6 hb, cell_growp x7 hb, cell_growp x8 hb, cell_growp x9 hb, hB_.trans (hb.mono hB_.size)⟩
        · exact .val 32 _ rfl rfl fun V ⟨y0, y1, y2, y3, y4, y5, y6, x0, x1, x2, x3, x4, x5, x6, x7, x8, x9, hB_⟩ => by go_simp
      · rintro V7 ⟨y0, y1, y2, y3, y4, y5, y6, x0, x1, x2, x3, x4, x5, x6, x7, x8, x9, hB_⟩
        have HV7 := hid hB_
        clear y0 y1 y2 y3 y4 y5 y6 x0 x1 x2 x3 x4 x5 x6 x7 x8 x9 hB_ r0 r1 r2 r3 r4 r5 r6 r7 r8 r9 E0 E1 hBy hBw hrk hk3 hk5 hk6 hnn ht1 hl1 d1
        by_cases hbe : stHi l[k] ⟨x, x⟩ p f s o ≤ limitOf fl tg
        · have d2 : decide (stHi l[k] ⟨x, x⟩ p f s o ≤ limitOf fl tg) = true := decide_eq_true hbe
          rw [d2]
          have HY2 := hid (And.intro (HY.out.1.trans (HV7.out.mono HY.out.1.size)) (show ∀ y, x - 1 < y → y ≤ 2000 → stHi l[k] ⟨y, y⟩ p f s o ≤ limitOf fl tg from fun y h1 h2 => by
            by_cases e : y = x
            · subst e; exact hbe
            · exact HY.out.2 y (by omega) h2))
          have rx : wrap64 (x - 1) = x - 1 := wrap64_id (by omega) (by omega)
          clear d2 hbe
          go_wp2
          clear rx
          go_roundw
          case rel => exact ⟨x - 1, by omega, by omega, by rw [if_neg (by omega)]; congr 1; omega, rfl, HY2⟩
          case measure => simp [intOf]; omega
        have d2 : decide (stHi l[k] ⟨x, x⟩ p f s o ≤ limitOf fl tg) = false := decide_eq_false hbe
        rw [d2]
        have hn0 : needAt (limitOf fl tg) p f s o l[k] = nv := by rw [← HNV.out]; exact need_unique hr1 HL.out hx0 hx1 HY.out.2 (.inr (by omega))
        have HN0 := hid hn0
        clear hn0 d2 hbe
        go_wp2_with (at_builtin; refine Hid.out ?_)
        refine hid ?_
        obtain ⟨hbX, hO⟩ := HX.out
        have hgr := (Below.refl V7.heap.size V7).alloc (Nat.le_refl _) (.cells #[.int .i64 nv] 3)
        have hnew := World.alloc_heap_new V7 (.cells #[.int .i64 nv] 3)
        have hB_ := (HY.out.1.trans (HV7.out.mono HY.out.1.size)).trans (hgr.mono (HY.out.1.trans (HV7.out.mono HY.out.1.size)).size)
        generalize V7.alloc (Obj.cells #[.int .i64 nv] 3) = W9 at *
        obtain ⟨i0, hi, hz0, hz1, hz2⟩ := info3'
        refine wpList_append_own W9 rfl _ _ 30 rfl W2.heap.size 3 i0 _ 1 8 Try.underlying30 hi hz0 hz1 hz2 rfl (by decide) u5 k _ rfl (rings_set hO hB_) ⟨V7.heap.size, 0, none⟩ 1 1 [.int .i64 nv] rfl rfl (one_cell hnew) (by simp [Value.oneCell']) (by have := HK.out.1; unfold maxLen; omega) (by have := HK.out.1; omega) (Nat.le_trans hbX.size hB_.size) ?_
        intro v' w8 hown' hgrow _
        have g3 := (hbX.trans (hB_.mono hbX.size)).grown hgrow (by have := hB_.size; have := hbX.size; omega) (fun j hj => own_base (rings_set hO hB_) hj (Nat.le_refl _))
        have hown2 : w8.ownsRow W2.heap.size 3 1 v' (k + 1) ((l.take (k + 1)).flatMap fun r => [.int .i64 (needAt (limitOf fl tg) p f s o r)]) := by
          rw [List.take_succ_eq_append_getElem hlt, List.flatMap_append]
          simp only [List.flatMap_cons, List.flatMap_nil, List.append_nil, HN0.out]
          exact hown'
        have HX2 := hid (And.intro g3 hown2)
        have rk : wrap64 ((k : Int) + 1) = ((k + 1 : Nat) : Int) := by rw [wrap64_id (by omega) (by have := HK.out.1; omega)]; simp
        clear g3 hown2 hown' hgrow hnew hgr hbX hO hB_ hi hz0 hz1 hz2
        go_wp2
        simp only [rk]
        clear rk
        go_roundw
        case rel => exact ⟨k + 1, by omega, rfl, HX2⟩
        case measure => simp [intOf]; omega
    · have d1 : decide (1 ≤ x) = false := decide_eq_false hx
      obtain rfl : x = 0 := by omega
      refine wp_flow [[], [0], [1, 0], [2, 1, 0], [2, 1, 0], [4, 2, 1, 0], [2, 1, 0], [5, 4, 2, 1, 0, 6], [7, 5, 4, 2, 1, 0, 6], [2, 1, 0], [2, 1, 0], [9, 2, 1, 0, 10], [2, 1, 0], [8, 7, 5, 4, 2, 1, 0, 6, 11, 9, 10, 12], [13, 8, 7, 5, 4, 2, 1, 0, 6, 11, 9, 10, 12], [3, 2, 1, 0, 14, 13, 8, 7, 5, 4, 6, 11, 9, 10, 12], [2, 1, 0, 15, 3, 14, 13, 8, 7, 5, 4, 6, 11, 9, 10, 12]] 17
        (fun V => V.cell? ⟨w.heap.size, 0, none⟩ = some (.slice (some ar) l.length c) ∧ V.cell? ⟨w.heap.size, 1, none⟩ = some (.int .i64 fl) ∧ V.cell? ⟨w.heap.size, 2, none⟩ = some (.int .i64 tg) ∧ Below wr.heap.size wr V)
        { tmps := #[.agg #[.slice (some ar) l.length c, .int .i64 fl, .int .i64 tg], .agg #[.int .i64 p, .int .i64 f, .int .i64 s, .int .i64 o], .pointer (some ⟨w.heap.size, 0, none⟩), .pointer (some ⟨(w.heap.size + 1), 0, none⟩), .slice none 0 0, u5, .int .i64 k, .int .i64 nv, .int .i64 0, .int .i64 k, .pointer (some ⟨w.heap.size, 0, none⟩), .slice (some ar) l.length c, .int .i64 l.length, .bool true, u14, u15, .int .i64 0, .bool false, .bool false, undef, undef, undef, undef, undef, undef, undef, undef, undef, undef, undef, undef, undef, .bool false, u33, u34, u35, u36, u37, u38, u39, undef], defers := [] }
        mixed (by kernel_rfl) rfl (Ahead.of3 16 33 rfl rfl (by kernel_rfl) rfl rfl) ?_ (AllFlow.ops rfl ?_) rfl ?_
      · exact ⟨blkCell E0 0, blkCell E0 1, blkCell E0 2, (Below.refl _ _).drew⟩
      · refine ⟨?_, ?_, ?_, ?_, ?_, ?_, ?_, ?_, ?_, ?_, ?_, ?_, ?_, ?_, ?_, ?_, ?_, trivial⟩
        · exact .val 16 _ rfl rfl fun V ⟨y0, y1, y2, hB_⟩ => by go_simp
        · exact .val 17 _ rfl rfl fun V ⟨y0, y1, y2, hB_⟩ => by go_simp
        · exact .val 18 _ rfl rfl fun V ⟨y0, y1, y2, hB_⟩ => by go_simp
        · exact .off 19 rfl rfl
        · exact .off 20 rfl rfl
        · exact .off 21 rfl rfl
        · exact .off 22 rfl rfl
        · exact .off 23 rfl rfl
        · exact .off 24 rfl rfl
        · exact .off 25 rfl rfl
        · exact .off 26 rfl rfl
        · exact .off 27 rfl rfl
        · exact .off 28 rfl rfl
        · exact .off 29 rfl rfl
        · exact .off 30 rfl rfl
        · exact .off 31 rfl rfl
        · exact .val 32 _ rfl rfl fun V ⟨y0, y1, y2, hB_⟩ => by go_simp
      · rintro V7 ⟨y0, y1, y2, hB_⟩
        have HV7 := hid hB_
        clear y0 y1 y2 hB_ r0 r1 r2 r3 r4 r5 r6 r7 r8 r9 E0 E1 hBy hBw d1
        have hn0 : needAt (limitOf fl tg) p f s o l[k] = nv := by rw [← HNV.out]; exact need_unique hr1 HL.out hx0 hx1 HY.out.2 (.inl rfl)
        have HN0 := hid hn0
        clear hn0
        go_wp2_with (at_builtin; refine Hid.out ?_)
        refine hid ?_
        obtain ⟨hbX, hO⟩ := HX.out
        have hgr := (Below.refl V7.heap.size V7).alloc (Nat.le_refl _) (.cells #[.int .i64 nv] 3)
        have hnew := World.alloc_heap_new V7 (.cells #[.int .i64 nv] 3)
        have hB_ := (HY.out.1.trans (HV7.out.mono HY.out.1.size)).trans (hgr.mono (HY.out.1.trans (HV7.out.mono HY.out.1.size)).size)
        generalize V7.alloc (Obj.cells #[.int .i64 nv] 3) = W9 at *
        obtain ⟨i0, hi, hz0, hz1, hz2⟩ := info3'
        refine wpList_append_own W9 rfl _ _ 30 rfl W2.heap.size 3 i0 _ 1 8 Try.underlying30 hi hz0 hz1 hz2 rfl (by decide) u5 k _ rfl (rings_set hO hB_) ⟨V7.heap.size, 0, none⟩ 1 1 [.int .i64 nv] rfl rfl (one_cell hnew) (by simp [Value.oneCell']) (by have := HK.out.1; unfold maxLen; omega) (by have := HK.out.1; omega) (Nat.le_trans hbX.size hB_.size) ?_
        intro v' w8 hown' hgrow _
        have g3 := (hbX.trans (hB_.mono hbX.size)).grown hgrow (by have := hB_.size; have := hbX.size; omega) (fun j hj => own_base (rings_set hO hB_) hj (Nat.le_refl _))
        have hown2 : w8.ownsRow W2.heap.size 3 1 v' (k + 1) ((l.take (k + 1)).flatMap fun r => [.int .i64 (needAt (limitOf fl tg) p f s o r)]) := by
          rw [List.take_succ_eq_append_getElem hlt, List.flatMap_append]
          simp only [List.flatMap_cons, List.flatMap_nil, List.append_nil, HN0.out]
          exact hown'
        have HX2 := hid (And.intro g3 hown2)
        have rk : wrap64 ((k : Int) + 1) = ((k + 1 : Nat) : Int) := by rw [wrap64_id (by omega) (by have := HK.out.1; omega)]; simp
        clear g3 hown2 hown' hgrow hnew hgr hbX hO hB_ hi hz0 hz1 hz2
        go_wp2
        simp only [rk]
        clear rk
        go_roundw
        case rel => exact ⟨k + 1, by omega, rfl, HX2⟩
        case measure => simp [intOf]; omega
  · have hd : decide ((k : Int) < (l.length : Int)) = false := decide_eq_false (by omega)
    obtain rfl : k = l.length := by omega
    obtain ⟨hBX, hO⟩ := HX.out
    rw [List.take_length] at hO
    have HO := hid hO
    have HBX := hid (HE.out.2.2.1.trans (hBX.mono HE.out.2.2.1.size))
    clear hO hBX
    go_wp2
    go_ret
    refine ⟨_, rfl, ?_, HBX.out⟩
    unfold needOf
    rw [List.flatMap_map, List.length_map]
    exact own_lower (by have := HE.out.2.2.2; omega) HO.out
set_option maxRecDepth 100000 in
theorem Needed43_any (A : Option Addr) (c : Nat) (l : List S82) (fl tg p f s o : Int) (w : World) (hr : Kd.C k82 w A l.length l) (hc : l.length ≤ c) :
    Calls Try.prog 43 #[.agg #[.slice A l.length c, .int .i64 fl, .int .i64 tg], .agg #[.int .i64 p, .int .i64 f, .int .i64 s, .int .i64 o]] w (RetIntsE (neededRes l fl tg p f s o) w) := by
  have hu24 := Try.underlying24
  have hu27 := Try.underlying27
  have HB := Below.refl w.heap.size w
  go_enter Try.func43, Try.ntmps43
  go_wp2_with fail
  have e0 := alloc_old (o' := .cells #[.int .i64 p, .int .i64 f, .int .i64 s, .int .i64 o] 27) (World.alloc_heap_new w (.cells #[.slice A l.length c, .int .i64 fl, .int .i64 tg] 24))
  have e1 := World.alloc_heap_new (w.alloc (.cells #[.slice A l.length c, .int .i64 fl, .int .i64 tg] 24)) (.cells #[.int .i64 p, .int .i64 f, .int .i64 s, .int .i64 o] 27)
  rw [World.size_alloc] at e1
  have hbel := (HB.alloc (Nat.le_refl _) (.cells #[.slice A l.length c, .int .i64 fl, .int .i64 tg] 24)).alloc (by simp) (.cells #[.int .i64 p, .int .i64 f, .int .i64 s, .int .i64 o] 27)
  have hsz : w.heap.size + 1 < ((w.alloc (.cells #[.slice A l.length c, .int .i64 fl, .int .i64 tg] 24)).alloc (.cells #[.int .i64 p, .int .i64 f, .int .i64 s, .int .i64 o] 27)).heap.size := by simp
  generalize ((w.alloc (Obj.cells #[.slice A l.length c, .int .i64 fl, .int .i64 tg] 24)).alloc (Obj.cells #[.int .i64 p, .int .i64 f, .int .i64 s, .int .i64 o] 27)) = W2 at *
  refine (loaded94_any A c l fl tg p f s o _ (Kd.C_below hr hbel) hc).mono ?_
  rintro e w1 ⟨rfl, hb⟩
  have HE := hid (And.intro (heap_grow e0 hb) (And.intro (heap_grow e1 hb) (And.intro (hbel.trans (hb.mono hbel.size)) (Nat.lt_of_lt_of_le hsz hb.size))))
  clear e0 e1 hbel hsz hb HB
  by_cases h0 : loadedOf l fl tg p f s o = 0
  · have HV := hid (show neededRes l fl tg p f s o = (needOf l fl tg p f s o, 0) by unfold neededRes; rw [if_pos h0])
    have HZ := hid (loaded_zero h0)
    rw [h0]
    clear h0
    have e0 := HE.out.1
    have e1 := HE.out.2.1
    have b0 := blkCell e0 0
    have b1 := blkCell e0 1
    have b2 := blkCell e0 2
    have z0 := blkCell e1 0
    have z1 := blkCell e1 1
    have z2 := blkCell e1 2
    have z3 := blkCell e1 3
    simp at b0 b1 b2 z0 z1 z2 z3
    clear e0 e1
    go_wp2_with fail
    refine (refneeded_any A c l fl tg p f s o _ (Kd.C_below hr HE.out.2.2.1) hc HZ.out.1 HZ.out.2).mono ?_
    rintro e w2 ⟨v, rfl, hO, hb⟩
    have hvs : ∃ A' n' c', v = .slice A' n' c' := by
      rcases hO.2 with ⟨rfl, _⟩ | ⟨g, cap, cur, rfl, _⟩
      · exact ⟨_, _, _, rfl⟩
      · exact ⟨_, _, _, rfl⟩
    obtain ⟨A', n', c', rfl⟩ := hvs
    have HO := hid (own_lower (base' := w.heap.size) (by have := HE.out.2.2.1.size; omega) hO)
    have HB2 := hid (HE.out.2.2.1.trans (hb.mono HE.out.2.2.1.size))
    clear hO hb b0 b1 b2 z0 z1 z2 z3
    go_wp2
    refine bodyPost_ret (v := .tuple #[.slice A' n' c', .int .i64 0]) (by simp [results, Try.results43, go_sem]) rfl ⟨.slice A' n' c', by rw [HV.out], ?_, HB2.out⟩
    have := Rint_of (f := fun x => x) HO.out
    rw [List.map_id'] at this
    rw [HV.out]
    exact this
  · have HV := hid (show neededRes l fl tg p f s o = ([], loadedOf l fl tg p f s o) by unfold neededRes; rw [if_neg h0])
    generalize loadedOf l fl tg p f s o = ld at *
    have h0b : (ld != 0) = true := by simpa using h0
    go_wp2
    exact bodyPost_ret (v := .tuple #[.slice none 0 0, .int .i64 ld]) (by simp [results, Try.results43, go_sem]) rfl ⟨.slice none 0 0, by rw [HV.out], by rw [HV.out]; exact Kd.R_nil _ _ _ _ _, HE.out.2.2.1⟩
end Go.Proofs.Ythoofldinnfpiaa
