import Derived.Test.YthoofldinnfpiaaLW
import Derived.Test.YthoofldinnfpiaaLP
import Derived.Test.YthoofldinnfpiaaPM
import Derived.Test.YthoofldinnfpiaaFL
namespace Go.Proofs.Ythoofldinnfpiaa
open Go.RowKit Go.Proofs.YthoofldinnfpiaaW.PrintWords Go.Proofs.YthoofldinnfpiaaW.PrintLast Go.Proofs.YthoofldinnfpiaaW.PrintMore
open Q Go.Shelf
attribute [local go_sem] Oper.semAt_some wide_depth wide_fn
set_option linter.unusedVariables false
theorem size33 : (Try.prog.info? 33).map (·.size) = some 21 := by kernel_rfl
theorem loadVar_ne (t : TypeId) (a : Addr) (h : ¬ t = 33) : loadVar t a = (do if ← isAgg t then pure (.agg (← loadCells a (← sizeOf t))) else load a) := rfl
attribute [-go_sem] loadVar
attribute [local go_sem] loadVar_ne
attribute [local go_sem] max2_int min2_int max_two min_two
def upTo (x : Int) : Int := if 2000 < x then 2000 else x
def thkAt (l0 : List S29) (pl : List Int) (k : Nat) : S29 := ⟨upTo ((l0.getD k ⟨0, 0⟩).f0 + atOf pl k), upTo ((l0.getD k ⟨0, 0⟩).f1 + atOf pl k)⟩
def thkC (l0 : List S29) (pl : List Int) (k : Nat) : List Value := [.int .i64 (thkAt l0 pl k).f0, .int .i64 (thkAt l0 pl k).f1]
def thkOf (l0 : List S29) (pl : List Int) : List S29 := (List.range l0.length).map (thkAt l0 pl)
def lessW (a n : Int) : Int := wrap64 (a - wrap64 (Int.tdiv (wrap64 (a * wrap64 n)) 255))
def lessF (a n : Int) : Int := if 1 < wrap64 (a - wrap64 n) then wrap64 (a - wrap64 n) else 1
def moreT (a n : Int) : Int := if wrap64 (a + wrap64 n) < 1000000000000000 then wrap64 (a + wrap64 n) else 1000000000000000
theorem lessW_eq (a n : Int) : wrap64 (a - wrap64 (Int.tdiv (wrap64 (a * wrap64 n)) 255)) = lessW a n := rfl
theorem lessF_eq (a n : Int) : (if 1 < wrap64 (a - wrap64 n) then wrap64 (a - wrap64 n) else 1) = lessF a n := rfl
theorem moreT_eq (a n : Int) : (if wrap64 (a + wrap64 n) < 1000000000000000 then wrap64 (a + wrap64 n) else 1000000000000000) = moreT a n := rfl
theorem lessW_le {a n : Int} (h0 : 0 ≤ a) (h1 : a ≤ 10000000) (h2 : 0 ≤ n) (h3 : n ≤ 255) : 0 ≤ lessW a n ∧ lessW a n ≤ a := by
  have m := mul_nn_le h0 h1 h2 h3
  have q0 : 0 ≤ a * n / 255 := Int.ediv_nonneg m.1 (by omega)
  have q1 : a * n / 255 ≤ a := by
    have : a * n ≤ a * 255 := Int.mul_le_mul_of_nonneg_left h3 h0
    omega
  unfold lessW
  rw [wrap64_id (n := n) (by omega) (by omega), wrap64_id (n := a * n) (by omega) (by omega), Int.tdiv_eq_ediv_of_nonneg m.1, wrap64_id (n := a * n / 255) (by omega) (by omega), wrap64_id (by omega) (by omega)]
  omega
theorem lessF_le {a n : Int} (h0 : 1 ≤ a) (h1 : a ≤ 1000) (h2 : 0 ≤ n) (h3 : n ≤ 255) : 1 ≤ lessF a n ∧ lessF a n ≤ a := by
  unfold lessF
  rw [wrap64_id (n := n) (by omega) (by omega), wrap64_id (n := a - n) (by omega) (by omega)]
  split <;> omega
theorem moreT_le {a n : Int} (h0 : 0 ≤ a) (h1 : a ≤ 1000000000000000) (h2 : 0 ≤ n) (h3 : n ≤ 255) : a ≤ moreT a n ∧ moreT a n ≤ 1000000000000000 := by
  unfold moreT
  rw [wrap64_id (n := n) (by omega) (by omega), wrap64_id (by omega) (by omega)]
  split <;> omega
theorem thk_get {l0 : List S29} {pl : List Int} {k : Nat} (h : k < l0.length) (h' : k < (thkOf l0 pl).length) : (thkOf l0 pl)[k] = ⟨upTo (l0[k].f0 + atOf pl k), upTo (l0[k].f1 + atOf pl k)⟩ := by
  simp [thkOf, thkAt, List.getD, h]
theorem more_law {l : List S82} {fl tg : Int} {l0 : List S29} {p f s o : Int} {pl : List Int} {h2 : Bool} (h : holdsRes l fl tg l0 p f s o = (true, h2, 0)) (wp : ∀ y ∈ pl, 0 ≤ y ∧ y ≤ 255) (hz : checkOf l fl tg = 0 ∧ l0.length = l.length ∧ l0.all okThick = true ∧ loadOk p f s o = true) :
    holdsRes l (lessF fl (atOf pl 5)) (moreT tg (atOf pl 6)) (thkOf l0 pl) (lessW p (atOf pl 1)) (lessW f (atOf pl 2)) (lessW s (atOf pl 3)) (lessW o (atOf pl 4)) = (true, false, 0) := by
  obtain ⟨z1, z2, z3, z4⟩ := hz
  obtain ⟨c1, c2, c3, c4, c5, c6, c7, c8, c9⟩ := check_zero z1
  obtain ⟨l1, l2, l3, l4, l5, l6, l7, l8⟩ := load_ok z4
  have u1 := atOf_le wp 1
  have u2 := atOf_le wp 2
  have u3 := atOf_le wp 3
  have u4 := atOf_le wp 4
  have u5 := atOf_le wp 5
  have u6 := atOf_le wp 6
  have v1 := lessW_le l1 (by omega) u1.1 u1.2
  have v2 := lessW_le l3 (by omega) u2.1 u2.2
  have v3 := lessW_le l5 (by omega) u3.1 u3.2
  have v4 := lessW_le l7 (by omega) u4.1 u4.2
  have v5 := lessF_le c6 c7 u5.1 u5.2
  have v6 := moreT_le c8 c9 u6.1 u6.2
  refine more_holds (by rw [h]) v5.1 v5.2 v6.1 v6.2 (by simp [thkOf]) (fun k hk hk' => ?_) (fun _ => v1.1) (fun _ => v1.2) (fun _ => v2.1) (fun _ => v2.2) (fun _ => v3.1) (fun _ => v3.2) (fun _ => v4.1) (fun _ => v4.2)
  have ht := List.all_eq_true.1 z3 _ (List.getElem_mem hk)
  have t := thick_ok ht
  have ua := atOf_le wp k
  rw [thk_get hk hk']
  simp only [upTo]
  refine ⟨by split <;> omega, fun _ => ?_⟩
  simp only [okThick, spanB, Bool.and_eq_true, decide_eq_true_eq]
  refine ⟨by split <;> omega, ?_, ?_⟩
  · split <;> split <;> omega
  · split <;> omega
set_option maxRecDepth 100000 in
set_option maxHeartbeats 8000000 in
set_option pp.deepTerms true in
set_option pp.maxSteps 1000000 in
theorem strengthMore_calls (A : Option Addr) (c : Nat) (l : List S82) (fl tg : Int) (A0 : Option Addr) (c0 : Nat) (l0 : List S29) (a1 a2 a3 a4 a5 a6 a7 a8 : Int) (A9 : Option Addr) (c9 : Nat) (l9 : List Int) (a10 a11 a12 a13 a14 a15 a16 a17 a18 : Int) (A19 : Option Addr) (c19 : Nat) (l19 : List Int) (A20 : Option Addr) (c20 : Nat) (l20 : List S118) (Ap : Option Addr) (cp : Nat) (pl : List Int) (W : World)
    (hC : Kd.C k82 W A l.length l) (hl : l.length ≤ c) (hC0 : Kd.C k29 W A0 l0.length l0) (hl0 : l0.length ≤ c0) (hC9 : Kd.C (Kd.int .i64) W A9 l9.length l9) (hl9 : l9.length ≤ c9) (hC19 : Kd.C (Kd.int .i64) W A19 l19.length l19) (hl19 : l19.length ≤ c19) (hC20 : Kd.C k118 W A20 l20.length l20) (hl20 : l20.length ≤ c20)
    (hCp : Kd.C (Kd.int .u8) W Ap pl.length pl) (hlp : pl.length ≤ cp) (wp : ∀ y ∈ pl, 0 ≤ y ∧ y ≤ 255)
    (wl : ∀ y ∈ l, W82 y) (w1 : W64 fl) (w2 : W64 tg)
    (wf : (∀ y ∈ l0, W29 y) ∧ (W64 a1 ∧ W64 a2 ∧ W64 a3 ∧ W64 a4) ∧ W64 a5 ∧ W64 a6 ∧ W64 a7 ∧ W64 a8 ∧ (∀ y ∈ l9, W64 y) ∧ W64 a10 ∧ W64 a11 ∧ W64 a12 ∧ W64 a13 ∧ W64 a14 ∧ W64 a15 ∧ W64 a16 ∧ W64 a17 ∧ W64 a18 ∧ (∀ y ∈ l19, W64 y) ∧ ∀ y ∈ l20, W118 y) :
    Calls Try.prog 5 #[.agg #[.slice A l.length c, .int .i64 fl, .int .i64 tg], .agg #[.slice A0 l0.length c0, .int .i64 a1, .int .i64 a2, .int .i64 a3, .int .i64 a4, .int .i64 a5, .int .i64 a6, .int .i64 a7, .int .i64 a8, .slice A9 l9.length c9, .int .i64 a10, .int .i64 a11, .int .i64 a12, .int .i64 a13, .int .i64 a14, .int .i64 a15, .int .i64 a16, .int .i64 a17, .int .i64 a18, .slice A19 l19.length c19, .slice A20 l20.length c20], .slice Ap pl.length cp] W fun e w' => e = .returned (.bool true) ∧ Below W.heap.size W w' := by
  have HB := Below.refl W.heap.size W
  obtain ⟨b, ⟨K, hK⟩, hw⟩ := wide05 l0 a1 a2 a3 a4 a5 a6 a7 a8 l9 a10 a11 a12 a13 a14 a15 a16 a17 a18 l19 l20
  have HW := hid (hK K (Nat.le_refl _))
  have HC := hid (And.intro hC (And.intro hl (And.intro hC0 (And.intro hl0 (And.intro hC9 (And.intro hl9 (And.intro hC19 (And.intro hl19 (And.intro hC20 hl20)))))))))
  have HP := hid (And.intro hCp (And.intro hlp wp))
  have hu24 := Try.underlying24
  have hu33 := Try.underlying33
  have hu27 := Try.underlying27
  have hu29 := Try.underlying29
  clear hK hC hl hC0 hl0 hC9 hl9 hC19 hl19 hC20 hl20 wl w1 w2 wf hCp hlp wp
  go_enter Try.func5, Try.ntmps5
  go_wp2_with fail
  obtain ⟨hC, hl, hC0, hl0, hC9, hl9, hC19, hl19, hC20, hl20⟩ := HC.out
  have hbel := (HB.alloc (Nat.le_refl _) (.cells #[.slice A l.length c, .int .i64 fl, .int .i64 tg] 24)).alloc (by simp) (.cells #[.slice A0 l0.length c0, .int .i64 a1, .int .i64 a2, .int .i64 a3, .int .i64 a4, .int .i64 a5, .int .i64 a6, .int .i64 a7, .int .i64 a8, .slice A9 l9.length c9, .int .i64 a10, .int .i64 a11, .int .i64 a12, .int .i64 a13, .int .i64 a14, .int .i64 a15, .int .i64 a16, .int .i64 a17, .int .i64 a18, .slice A19 l19.length c19, .slice A20 l20.length c20] 33)
  have e0 := World.alloc_heap_new W (.cells #[.slice A l.length c, .int .i64 fl, .int .i64 tg] 24)
  have e1 := World.alloc_heap_new (W.alloc (.cells #[.slice A l.length c, .int .i64 fl, .int .i64 tg] 24)) (.cells #[.slice A0 l0.length c0, .int .i64 a1, .int .i64 a2, .int .i64 a3, .int .i64 a4, .int .i64 a5, .int .i64 a6, .int .i64 a7, .int .i64 a8, .slice A9 l9.length c9, .int .i64 a10, .int .i64 a11, .int .i64 a12, .int .i64 a13, .int .i64 a14, .int .i64 a15, .int .i64 a16, .int .i64 a17, .int .i64 a18, .slice A19 l19.length c19, .slice A20 l20.length c20] 33)
  have e0 := alloc_old (o' := .cells #[.slice A0 l0.length c0, .int .i64 a1, .int .i64 a2, .int .i64 a3, .int .i64 a4, .int .i64 a5, .int .i64 a6, .int .i64 a7, .int .i64 a8, .slice A9 l9.length c9, .int .i64 a10, .int .i64 a11, .int .i64 a12, .int .i64 a13, .int .i64 a14, .int .i64 a15, .int .i64 a16, .int .i64 a17, .int .i64 a18, .slice A19 l19.length c19, .slice A20 l20.length c20] 33) e0
  rw [World.size_alloc] at e1
  have hI : LawB W A c l fl tg A0 c0 l0 a1 a2 a3 a4 a5 a6 a7 a8 A9 c9 l9 a10 a11 a12 a13 a14 a15 a16 a17 a18 A19 c19 l19 A20 c20 l20 ((W.alloc (.cells #[.slice A l.length c, .int .i64 fl, .int .i64 tg] 24)).alloc (.cells #[.slice A0 l0.length c0, .int .i64 a1, .int .i64 a2, .int .i64 a3, .int .i64 a4, .int .i64 a5, .int .i64 a6, .int .i64 a7, .int .i64 a8, .slice A9 l9.length c9, .int .i64 a10, .int .i64 a11, .int .i64 a12, .int .i64 a13, .int .i64 a14, .int .i64 a15, .int .i64 a16, .int .i64 a17, .int .i64 a18, .slice A19 l19.length c19, .slice A20 l20.length c20] 33)) := ⟨e0, e1, hbel⟩
  generalize ((W.alloc (.cells #[.slice A l.length c, .int .i64 fl, .int .i64 tg] 24)).alloc (.cells #[.slice A0 l0.length c0, .int .i64 a1, .int .i64 a2, .int .i64 a3, .int .i64 a4, .int .i64 a5, .int .i64 a6, .int .i64 a7, .int .i64 a8, .slice A9 l9.length c9, .int .i64 a10, .int .i64 a11, .int .i64 a12, .int .i64 a13, .int .i64 a14, .int .i64 a15, .int .i64 a16, .int .i64 a17, .int .i64 a18, .slice A19 l19.length c19, .slice A20 l20.length c20] 33)) = W2 at *
  refine (great_any A c l fl tg _ (Kd.C_below hC hI.be) hl).mono ?_
  rintro e w1 ⟨rfl, hb⟩
  have HI1 := hid (hI.grow hb)
  clear hI hb e0 e1 hbel hC hl hC0 hl0 hC9 hl9 hC19 hl19 hC20 hl20 HB
  cases hg : decide ((l.length : Int) > 40) with
  | true =>
    go_wp2_with (first | (go_at_call 14; refine (lives_any _).mono ?_; rintro e w9 ⟨rfl, hb⟩))
    refine bodyPost_ret (v := .bool true) (by simp [results, Try.results5, go_sem]) rfl ⟨rfl, HI1.out.be.trans (hb.mono HI1.out.be.size)⟩
  | false =>
  have HG := hid hg
  clear hg
  have hld := run_loadVar_row (P := Try.prog) w1 (W.heap.size + 1) 33 33 #[.slice A0 l0.length c0, .int .i64 a1, .int .i64 a2, .int .i64 a3, .int .i64 a4, .int .i64 a5, .int .i64 a6, .int .i64 a7, .int .i64 a8, .slice A9 l9.length c9, .int .i64 a10, .int .i64 a11, .int .i64 a12, .int .i64 a13, .int .i64 a14, .int .i64 a15, .int .i64 a16, .int .i64 a17, .int .i64 a18, .slice A19 l19.length c19, .slice A20 l20.length c20] (0, 0) _ HI1.out.ha Try.underlying33 rfl size33
  go_wp2_with fail
  obtain ⟨hC, hl, hC0, hl0, hC9, hl9, hC19, hl19, hC20, hl20⟩ := HC.out
  have hbe := HI1.out.be
  refine (culletlaw05_Wide.calls K A0 c0 l0 a1 a2 a3 a4 a5 a6 a7 a8 A9 c9 l9 a10 a11 a12 a13 a14 a15 a16 a17 a18 A19 c19 l19 A20 c20 l20 b _ (Kd.C_below hC0 hbe) hl0 (Kd.C_below hC9 hbe) hl9 (Kd.C_below hC19 hbe) hl19 (Kd.C_below hC20 hbe) hl20 HW.out).mono ?_
  rintro e w3 ⟨rfl, hb⟩
  have HI3 := hid (HI1.out.grow hb)
  clear hb hbe hC hl hC0 hl0 hC9 hl9 hC19 hl19 hC20 hl20 hld HI1
  cases b with
  | true =>
    go_wp2_with (first | (go_at_call 14; refine (lives_any _).mono ?_; rintro e w9 ⟨rfl, hb⟩))
    refine bodyPost_ret (v := .bool true) (by simp [results, Try.results5, go_sem]) rfl ⟨rfl, HI3.out.be.trans (hb.mono HI3.out.be.size)⟩
  | false =>
  cases hp : decide ((300 : Int) < (pl.length : Int)) with
  | true =>
    go_wp2_with (first | (go_at_call 14; refine (lives_any _).mono ?_; rintro e w9 ⟨rfl, hb⟩))
    refine bodyPost_ret (v := .bool true) (by simp [results, Try.results5, go_sem]) rfl ⟨rfl, HI3.out.be.trans (hb.mono HI3.out.be.size)⟩
  | false =>
  have hp3 : pl.length ≤ 300 := by simp at hp; omega
  have HPL := hid hp3
  clear hp3
  have p0 := blkCell HI3.out.hb 0
  have p1 := blkCell HI3.out.hb 1
  have p2 := blkCell HI3.out.hb 2
  have q0 := blkCell HI3.out.ha 0
  have q1 := blkCell HI3.out.ha 1
  have q2 := blkCell HI3.out.ha 2
  have q3 := blkCell HI3.out.ha 3
  have q4 := blkCell HI3.out.ha 4
  simp at p0 p1 p2 q0 q1 q2 q3 q4
  have hth := (hw rfl).1
  have hth9 := (hw rfl).2
  have hll : l.length ≤ 40 := by have := HG.out; simp at this; omega
  clear hw
  have HL := hid (And.intro hth (And.intro hll hth9))
  clear hth hll hth9
  go_wp2_with fail
  obtain ⟨hC, hl, hC0, hl0, hC9, hl9, hC19, hl19, hC20, hl20⟩ := HC.out
  refine (Holds_any A c l fl tg A0 c0 l0 a1 a2 a3 a4 _ (Kd.C_below hC HI3.out.be) (Kd.C_below hC0 HI3.out.be) (by have := HL.out.1; omega) (by have := HL.out.2.1; omega)).mono ?_
  rintro e w4 ⟨rfl, hb⟩
  have HI4 := hid (HI3.out.grow hb)
  obtain ⟨h1, h2, h3, hR⟩ : ∃ x y z, holdsRes l fl tg l0 a1 a2 a3 a4 = (x, y, z) := ⟨_, _, _, rfl⟩
  rw [hR]
  have HR := hid hR
  clear hb hC hl hC0 hl0 hC9 hl9 hC19 hl19 hC20 hl20 p0 p1 p2 q0 q1 q2 q3 q4 HI3 hR
  by_cases hz : ¬ h3 = 0
  · have hzb : (h3 != 0) = true := by simpa using hz
    go_wp2_with (first | (go_at_call 14; refine (lives_any _).mono ?_; rintro e w5 ⟨rfl, hb⟩))
    refine bodyPost_ret (v := .bool true) (by simp [results, Try.results5, go_sem]) rfl ⟨rfl, HI4.out.be.trans (hb.mono HI4.out.be.size)⟩
  obtain rfl : h3 = 0 := Decidable.not_not.1 hz
  clear hz
  cases h1 with
  | false =>
    go_wp2_with (first | (go_at_call 14; refine (lives_any _).mono ?_; rintro e w5 ⟨rfl, hb⟩))
    refine bodyPost_ret (v := .bool true) (by simp [results, Try.results5, go_sem]) rfl ⟨rfl, HI4.out.be.trans (hb.mono HI4.out.be.size)⟩
  | true =>
  have hz : askedOf l fl tg l0 a1 a2 a3 a4 = 0 := by
    apply Decidable.byContradiction
    intro hn
    have h := HR.out
    unfold holdsRes at h
    rw [if_neg hn] at h
    cases h
  have HZ := hid (asked_zero hz)
  clear hz
  go_wp2
  have HK0 := hid (own_nil w4 w4.heap.size 29 2)
  go_loopw [10, 11] (fun v10 v11 X => ∃ k : Nat, k ≤ l0.length ∧ v11 = .int .i64 k ∧ Hid (LawB W A c l fl tg A0 c0 l0 a1 a2 a3 a4 a5 a6 a7 a8 A9 c9 l9 a10 a11 a12 a13 a14 a15 a16 a17 a18 A19 c19 l19 A20 c20 l20 X ∧ X.ownsRow w4.heap.size 29 2 v10 k ((List.range k).flatMap (thkC l0 pl)) ∧ w4.heap.size ≤ X.heap.size)) (fun _ v11 _ => l0.length - (intOf v11).toNat)
  case atStart => exact ⟨0, by omega, rfl, hid ⟨HI4.out, HK0.out, Nat.le_refl _⟩⟩
  case round =>
  obtain ⟨k, hk, rfl, HI⟩ := hrel
  by_cases hlt : k < l0.length
  · have hd : decide ((k : Int) < (l0.length : Int)) = true := decide_eq_true (by omega)
    have q0 := blkCell HI.out.1.ha 0
    simp at q0
    go_wp2_with fail
    obtain ⟨hCp, hlp, wp⟩ := HP.out
    refine (at_any Ap cp pl k _ (Kd.C_below hCp HI.out.1.be) hlp (by omega)).mono ?_
    rintro e w5 ⟨rfl, hb⟩
    have ha := atOf_le wp k
    have r1 : wrap64 (atOf pl k) = atOf pl k := wrap64_id (by omega) (by omega)
    have HI5 := hid (And.intro (HI.out.1.grow hb) (And.intro (rings_set HI.out.2.1 hb) (Nat.le_trans HI.out.2.2 hb.size)))
    have HA := hid ha
    clear hb hCp hlp wp ha q0
    go_wp2_with fail
    simp only [r1]
    clear r1
    obtain ⟨_, hC0⟩ : l0.length ≤ c0 ∧ Kd.C k29 w5 A0 l0.length l0 := ⟨HC.out.2.2.2.1, Kd.C_below HC.out.2.2.1 HI5.out.1.be⟩
    have hth' := at_T29 hC0 k (by omega) (by omega)
    have hrd : rd_T29 l0 (k : Int) = l0[k] := by simp [rd_T29, List.getD, hlt]
    rw [hrd] at hth'
    simp only [Int.toNat_natCast] at hth'
    obtain ⟨ad, had, t0, t1⟩ := hth'
    subst had
    have ht1 := thick_ok (List.all_eq_true.1 HZ.out.2.2.1 _ (List.getElem_mem hlt))
    have hw0 : wrap64 (l0[k].f0 + atOf pl k) = l0[k].f0 + atOf pl k := wrap64_id (by have := HA.out; omega) (by have := HA.out; omega)
    have hw1 : wrap64 (l0[k].f1 + atOf pl k) = l0[k].f1 + atOf pl k := wrap64_id (by have := HA.out; omega) (by have := HA.out; omega)
    have HN : Hid ([.int .i64 (if 2000 < wrap64 (l0[k].f0 + atOf pl k) then 2000 else wrap64 (l0[k].f0 + atOf pl k)), .int .i64 (if 2000 < wrap64 (l0[k].f1 + atOf pl k) then 2000 else wrap64 (l0[k].f1 + atOf pl k))] = thkC l0 pl k) := hid (by simp [thkC, thkAt, upTo, hw0, hw1, List.getD, hlt])
    clear hw0 hw1 ht1
    refine wp_flow3 [[], [], [1], [], [2, 1, 3], [4, 2, 1, 3], [5, 4, 2, 1, 3], [], [6, 5, 4, 2, 1, 3, 7], [8, 6, 5, 4, 2, 1, 3, 7], [], [10], [], [11, 10, 12], [13, 11, 10, 12], [14, 13, 11, 10, 12], [], [15, 14, 13, 11, 10, 12, 16], [17, 15, 14, 13, 11, 10, 12, 16], [9, 8, 6, 5, 4, 2, 1, 3, 7, 18, 17, 15, 14, 13, 11, 10, 12, 16], [19, 9, 8, 6, 5, 4, 2, 1, 3, 7, 18, 17, 15, 14, 13, 11, 10, 12, 16], [0, 20, 19, 9, 8, 6, 5, 4, 2, 1, 3, 7, 18, 17, 15, 14, 13, 11, 10, 12, 16], [21, 0, 20, 19, 9, 8, 6, 5, 4, 2, 1, 3, 7, 18, 17, 15, 14, 13, 11, 10, 12, 16]] 20
      (fun V => V.cell? ⟨(W.heap.size + 1), 0, none⟩ = some (.slice (some ad) l0.length c0) ∧ V.cell? (ad.add (k * 2)) = some (.int .i64 l0[k].f0) ∧ V.cell? ⟨(ad.add (k * 2)).block, (ad.add (k * 2)).off + 1, none⟩ = some (.int .i64 l0[k].f1) ∧ Below w5.heap.size w5 V)
      (fun u V => (V.cell? ⟨(W.heap.size + 1), 0, none⟩ = some (.slice (some ad) l0.length c0) ∧ V.cell? (ad.add (k * 2)) = some (.int .i64 l0[k].f0) ∧ V.cell? ⟨(ad.add (k * 2)).block, (ad.add (k * 2)).off + 1, none⟩ = some (.int .i64 l0[k].f1) ∧ Below w5.heap.size w5 V) ∧ ∃ Bx, u = .slice (some ⟨Bx, 0, none⟩) 1 1 ∧ V.heap[Bx]? = some (.cells #[.int .i64 (if 2000 < wrap64 (l0[k].f0 + atOf pl k) then 2000 else wrap64 (l0[k].f0 + atOf pl k)), .int .i64 (if 2000 < wrap64 (l0[k].f1 + atOf pl k) then 2000 else wrap64 (l0[k].f1 + atOf pl k))] 29 (0, 0)) ∧ w5.heap.size ≤ Bx)
      { tmps := #[.agg #[.slice A l.length c, .int .i64 fl, .int .i64 tg], .agg #[.slice (some ad) l0.length c0, .int .i64 a1, .int .i64 a2, .int .i64 a3, .int .i64 a4, .int .i64 a5, .int .i64 a6, .int .i64 a7, .int .i64 a8, .slice A9 l9.length c9, .int .i64 a10, .int .i64 a11, .int .i64 a12, .int .i64 a13, .int .i64 a14, .int .i64 a15, .int .i64 a16, .int .i64 a17, .int .i64 a18, .slice A19 l19.length c19, .slice A20 l20.length c20], .slice Ap pl.length cp, .pointer (some ⟨W.heap.size, 0, none⟩), .pointer (some ⟨(W.heap.size + 1), 0, none⟩), undef, .bool false, .bool true, .bool h2, .int .i64 0, u10, .int .i64 k, .int .i64 (atOf pl k), undef, undef, undef, undef, .agg #[.slice A l.length c, .int .i64 fl, .int .i64 tg], .bool false, .bool false, .agg #[.slice (some ad) l0.length c0, .int .i64 a1, .int .i64 a2, .int .i64 a3, .int .i64 a4, .int .i64 a5, .int .i64 a6, .int .i64 a7, .int .i64 a8, .slice A9 l9.length c9, .int .i64 a10, .int .i64 a11, .int .i64 a12, .int .i64 a13, .int .i64 a14, .int .i64 a15, .int .i64 a16, .int .i64 a17, .int .i64 a18, .slice A19 l19.length c19, .slice A20 l20.length c20], .bool false, .bool false, .bool false, .slice Ap pl.length cp, .int .i64 pl.length, .bool false, .bool false, undef, .tuple #[.bool true, .bool h2, .int .i64 0], .agg #[.slice A l.length c, .int .i64 fl, .int .i64 tg], .pointer (some ⟨W.heap.size + 1, 0, none⟩), .slice (some ad) l0.length c0, .pointer (some ⟨W.heap.size + 1, 1, none⟩), .agg #[.int .i64 a1, .int .i64 a2, .int .i64 a3, .int .i64 a4], .tuple #[.bool true, .bool h2, .int .i64 0], .bool true, .bool h2, .int .i64 0, .int .i64 0, .bool false, .bool false, .bool true, .bool false, .bool false, undef, .int .i64 k, .pointer (some ⟨W.heap.size + 1, 0, none⟩), .slice (some ad) l0.length c0, .int .i64 l0.length, .bool true, u51, u52, .slice Ap pl.length cp, .int .i64 k, .int .u8 (atOf pl k), .int .i64 (atOf pl k), u10, .pointer (some ⟨(W.heap.size + 1), 0, none⟩), .slice (some ad) l0.length c0, .int .i64 k, .pointer (some (ad.add (k * 2))), .pointer (some (ad.add (k * 2))), .int .i64 (l0[k].f0), .int .i64 (atOf pl k), .int .i64 (wrap64 ((l0[k].f0) + (atOf pl k))), .int .i64 (if 2000 < wrap64 (l0[k].f0 + atOf pl k) then 2000 else wrap64 (l0[k].f0 + atOf pl k)), .pointer (some ⟨(W.heap.size + 1), 0, none⟩), .slice (some ad) l0.length c0, .int .i64 k, .pointer (some (ad.add (k * 2))), .pointer (some ⟨(ad.add (k * 2)).block, (ad.add (k * 2)).off + 1, none⟩), .int .i64 (l0[k].f1), .int .i64 (atOf pl k), .int .i64 (wrap64 ((l0[k].f1) + (atOf pl k))), .int .i64 (if 2000 < wrap64 (l0[k].f1 + atOf pl k) then 2000 else wrap64 (l0[k].f1 + atOf pl k)), .agg #[.int .i64 (if 2000 < wrap64 (l0[k].f0 + atOf pl k) then 2000 else wrap64 (l0[k].f0 + atOf pl k)), .int .i64 (if 2000 < wrap64 (l0[k].f1 + atOf pl k) then 2000 else wrap64 (l0[k].f1 + atOf pl k))], u77, u78, undef, undef, undef, undef, undef, undef, undef, undef, undef, undef, undef, undef, undef, undef, undef, undef, undef, undef, undef, undef, undef, undef, undef, undef, undef, undef, undef, undef, undef, undef, undef, undef, undef, undef, undef, undef, undef, undef, undef, undef, undef, undef, undef, undef, undef, undef, undef, undef, undef, undef, undef, undef, undef, undef, undef, undef, undef, undef, undef, undef, undef, undef, undef, undef, undef, undef, undef, undef, undef, undef, undef, undef, undef, undef, undef, undef, undef, undef, undef, undef, undef, undef, undef], defers := [] }
      mixed (by kernel_rfl) rfl (Ahead.of3 57 77 rfl rfl (by kernel_rfl) rfl rfl) ?_ ?_ ?_ rfl ?_
    · exact ⟨blkCell HI5.out.1.ha 0, t0, t1, (Below.refl _ _).drew⟩
    · refine EachOp3.ops rfl ⟨?_, ?_, ?_, ?_, ?_, ?_, ?_, ?_, ?_, ?_, ?_, ?_, ?_, ?_, ?_, ?_, ?_, ?_, ?_, ?_, trivial⟩
      · exact .inr (LookOp.either (fun _ _ h => h.1) (LookOp.val 57 _ rfl rfl fun V ⟨y0, x0, x1, hB_⟩ => by go_simp <;> exact IntWalk.i64_left _))
      · exact .inr (LookOp.either (fun _ _ h => h.1) (LookOp.val 58 _ rfl rfl fun V ⟨y0, x0, x1, hB_⟩ => by go_simp <;> exact IntWalk.i64_left _))
      · exact .inr (LookOp.either (fun _ _ h => h.1) (LookOp.val 59 _ rfl rfl fun V ⟨y0, x0, x1, hB_⟩ => by go_simp <;> exact IntWalk.i64_left _))
      · exact .inr (LookOp.either (fun _ _ h => h.1) (LookOp.val 60 _ rfl rfl fun V ⟨y0, x0, x1, hB_⟩ => by go_simp <;> exact IntWalk.i64_left _))
      · exact .inr (LookOp.either (fun _ _ h => h.1) (LookOp.val 61 _ rfl rfl fun V ⟨y0, x0, x1, hB_⟩ => by go_simp <;> exact IntWalk.i64_left _))
      · exact .inr (LookOp.either (fun _ _ h => h.1) (LookOp.val 62 _ rfl rfl fun V ⟨y0, x0, x1, hB_⟩ => by go_simp <;> exact IntWalk.i64_left _))
      · exact .inr (LookOp.either (fun _ _ h => h.1) (LookOp.val 63 _ rfl rfl fun V ⟨y0, x0, x1, hB_⟩ => by go_simp <;> exact IntWalk.i64_left _))
      · exact .inr (LookOp.either (fun _ _ h => h.1) (LookOp.val 64 _ rfl rfl fun V ⟨y0, x0, x1, hB_⟩ => by go_simp <;> exact IntWalk.i64_left _))
      · exact .inr (LookOp.either (fun _ _ h => h.1) (LookOp.val 65 _ rfl rfl fun V ⟨y0, x0, x1, hB_⟩ => by go_simp <;> exact IntWalk.i64_left _))
      · exact .inr (LookOp.either (fun _ _ h => h.1) (LookOp.val 66 _ rfl rfl fun V ⟨y0, x0, x1, hB_⟩ => by go_simp <;> exact IntWalk.i64_left _))
      · exact .inr (LookOp.either (fun _ _ h => h.1) (LookOp.val 67 _ rfl rfl fun V ⟨y0, x0, x1, hB_⟩ => by go_simp <;> exact IntWalk.i64_left _))
      · exact .inr (LookOp.either (fun _ _ h => h.1) (LookOp.val 68 _ rfl rfl fun V ⟨y0, x0, x1, hB_⟩ => by go_simp <;> exact IntWalk.i64_left _))
      · exact .inr (LookOp.either (fun _ _ h => h.1) (LookOp.val 69 _ rfl rfl fun V ⟨y0, x0, x1, hB_⟩ => by go_simp <;> exact IntWalk.i64_left _))
      · exact .inr (LookOp.either (fun _ _ h => h.1) (LookOp.val 70 _ rfl rfl fun V ⟨y0, x0, x1, hB_⟩ => by go_simp <;> exact IntWalk.i64_left _))
      · exact .inr (LookOp.either (fun _ _ h => h.1) (LookOp.val 71 _ rfl rfl fun V ⟨y0, x0, x1, hB_⟩ => by go_simp <;> exact IntWalk.i64_left _))
      · exact .inr (LookOp.either (fun _ _ h => h.1) (LookOp.val 72 _ rfl rfl fun V ⟨y0, x0, x1, hB_⟩ => by go_simp <;> exact IntWalk.i64_left _))
      · exact .inr (LookOp.either (fun _ _ h => h.1) (LookOp.val 73 _ rfl rfl fun V ⟨y0, x0, x1, hB_⟩ => by go_simp <;> exact IntWalk.i64_left _))
      · exact .inr (LookOp.either (fun _ _ h => h.1) (LookOp.val 74 _ rfl rfl fun V ⟨y0, x0, x1, hB_⟩ => by go_simp <;> exact IntWalk.i64_left _))
      · exact .inr (LookOp.either (fun _ _ h => h.1) (LookOp.val 75 _ rfl rfl fun V ⟨y0, x0, x1, hB_⟩ => by go_simp <;> exact IntWalk.i64_left _))
      · exact .inr (LookOp.either (fun _ _ h => h.1) (LookOp.val 76 _ rfl rfl fun V ⟨y0, x0, x1, hB_⟩ => by go_simp <;> exact IntWalk.i64_left _))
    · refine ⟨rfl, fun W2 ⟨y0, x0, x1, hB_⟩ => ?_⟩
      have hgr := (Below.refl W2.heap.size W2).alloc (Nat.le_refl _) (.cells #[.int .i64 (if 2000 < wrap64 (l0[k].f0 + atOf pl k) then 2000 else wrap64 (l0[k].f0 + atOf pl k)), .int .i64 (if 2000 < wrap64 (l0[k].f1 + atOf pl k) then 2000 else wrap64 (l0[k].f1 + atOf pl k))] 29)
      exact ⟨.slice (some ⟨W2.heap.size, 0, none⟩) 1 1, W2.alloc (.cells #[.int .i64 (if 2000 < wrap64 (l0[k].f0 + atOf pl k) then 2000 else wrap64 (l0[k].f0 + atOf pl k)), .int .i64 (if 2000 < wrap64 (l0[k].f1 + atOf pl k) then 2000 else wrap64 (l0[k].f1 + atOf pl k))] 29), by go_simp, ⟨cell_grow y0 hgr, cell_growp x0 hgr, cell_growp x1 hgr, hB_.trans (hgr.mono hB_.size)⟩, W2.heap.size, rfl, World.alloc_heap_new _ _, hB_.size⟩
    · rintro _ W2 ⟨⟨y0, x0, x1, hB_⟩, Bx, rfl, hx, hle⟩
      obtain ⟨hI5, hO5, hs5⟩ := HI5.out
      obtain ⟨i0, hi, hz0, hz1, hz2⟩ := info29'
      refine wpList_append_own W2 rfl _ _ 25 rfl w4.heap.size 29 i0 _ 2 16 Try.underlying25 hi hz0 hz1 hz2 rfl (by decide) u10 k _ rfl (rings_set hO5 hB_) ⟨Bx, 0, none⟩ 1 1 [.int .i64 (if 2000 < wrap64 (l0[k].f0 + atOf pl k) then 2000 else wrap64 (l0[k].f0 + atOf pl k)), .int .i64 (if 2000 < wrap64 (l0[k].f1 + atOf pl k) then 2000 else wrap64 (l0[k].f1 + atOf pl k))] rfl rfl (two_cells hx) (by simp [Value.oneCell']) (by have := HL.out.1; unfold maxLen; omega) (by have := HL.out.1; omega) (Nat.le_trans hs5 hB_.size) ?_
      intro v' w6 hown' hgrow _
      have g1 := grown_keep (rings_set hO5 hB_) hgrow (by have := cell_lt (blkCell HI4.out.hb 0); omega) (heap_grow hI5.hb hB_)
      have g2 := grown_keep (rings_set hO5 hB_) hgrow (by have := cell_lt (blkCell HI4.out.ha 0); omega) (heap_grow hI5.ha hB_)
      have g3 := (hI5.be.trans (hB_.mono hI5.be.size)).grown hgrow (by have := hB_.size; have := hI5.be.size; omega) (fun j hj => own_base (rings_set hO5 hB_) hj (by have := HI4.out.be.size; omega))
      rw [HN.out] at hown'
      have hown2 : w6.ownsRow w4.heap.size 29 2 v' (k + 1) ((List.range (k + 1)).flatMap (thkC l0 pl)) := by
        rw [List.range_succ, List.flatMap_append]
        simpa using hown'
      have HX := hid (And.intro (LawB.mk g1 g2 g3 : LawB W A c l fl tg (some ad) c0 l0 a1 a2 a3 a4 a5 a6 a7 a8 A9 c9 l9 a10 a11 a12 a13 a14 a15 a16 a17 a18 A19 c19 l19 A20 c20 l20 w6) (And.intro hown2 (Nat.le_trans (Nat.le_trans hs5 hB_.size) hgrow.size)))
      clear g1 g2 g3 hown2 hown' hgrow hx hle hI5 hO5 hs5 y0 x0 x1 hB_ hi hz0 hz1 hz2
      have rk : wrap64 ((k : Int) + 1) = ((k + 1 : Nat) : Int) := by rw [wrap64_id (by omega) (by have := HL.out.1; omega)]; simp
      go_wp2
      simp only [rk]
      clear rk
      go_roundw
      case rel => exact ⟨k + 1, by omega, rfl, HX⟩
      case measure => simp [intOf]; omega
  · have hd : decide ((k : Int) < (l0.length : Int)) = false := decide_eq_false (by omega)
    obtain ⟨hI, hO, hs⟩ := HI.out
    obtain rfl : k = l0.length := by omega
    have hR1 : Kd.R k29 29 wr w4.heap.size (fun _ => True) u10 (thkOf l0 pl) := R29_of (l := List.range l0.length) (f := thkAt l0 pl) (by rw [List.length_range]; exact hO)
    obtain ⟨A1, c1, rfl, hC1, hl1⟩ := row_open hR1
    have HT := hid (And.intro hC1 hl1)
    clear hR1 hC1 hl1 hI hO hs
    have p0 := blkCell HI.out.1.hb 0
    have p1 := blkCell HI.out.1.hb 1
    have p2 := blkCell HI.out.1.hb 2
    have q0 := blkCell HI.out.1.ha 0
    have q1 := blkCell HI.out.1.ha 1
    have q2 := blkCell HI.out.1.ha 2
    have q3 := blkCell HI.out.1.ha 3
    have q4 := blkCell HI.out.1.ha 4
    simp at p0 p1 p2 q0 q1 q2 q3 q4
    go_wp2_with fail
    clear p0 p1 p2 q0 q1 q2 q3 q4
    have hx := World.alloc_heap_new wr (.cells #[.int .i64 a1, .int .i64 a2, .int .i64 a3, .int .i64 a4] 27)
    have hbx := (Below.refl wr.heap.size wr).alloc (Nat.le_refl _) (.cells #[.int .i64 a1, .int .i64 a2, .int .i64 a3, .int .i64 a4] 27)
    generalize wr.alloc (Obj.cells #[.int .i64 a1, .int .i64 a2, .int .i64 a3, .int .i64 a4] 27) = X13 at *
    have hu3 := Try.underlying3
    have hCp := Kd.C_below HP.out.1 (HI.out.1.be.trans (hbx.mono HI.out.1.be.size))
    have hlp := HP.out.2.1
    refine wp_flow [[], [0], [], [2], [], [4], [5, 4], [3, 2, 6, 5, 4], [7, 3, 2, 6, 5, 4], [1, 0, 8, 7, 3, 2, 6, 5, 4], [0, 1, 2, 3, 4, 5, 6, 7, 8, 9], [10, 0, 1, 2, 3, 4, 5, 6, 7, 8, 9]] 11
      (fun V => V.cell? ⟨wr.heap.size, 0, none⟩ = some (.int .i64 a1) ∧ V.cell? ⟨wr.heap.size, 1, none⟩ = some (.int .i64 a2) ∧ V.cell? ⟨wr.heap.size, 2, none⟩ = some (.int .i64 a3) ∧ V.cell? ⟨wr.heap.size, 3, none⟩ = some (.int .i64 a4) ∧ Below X13.heap.size X13 V)
      { tmps := #[.agg #[.slice A l.length c, .int .i64 fl, .int .i64 tg], .agg #[.slice A0 l0.length c0, .int .i64 a1, .int .i64 a2, .int .i64 a3, .int .i64 a4, .int .i64 a5, .int .i64 a6, .int .i64 a7, .int .i64 a8, .slice A9 l9.length c9, .int .i64 a10, .int .i64 a11, .int .i64 a12, .int .i64 a13, .int .i64 a14, .int .i64 a15, .int .i64 a16, .int .i64 a17, .int .i64 a18, .slice A19 l19.length c19, .slice A20 l20.length c20], .slice Ap pl.length cp, .pointer (some ⟨W.heap.size, 0, none⟩), .pointer (some ⟨(W.heap.size + 1), 0, none⟩), undef, .bool false, .bool true, .bool h2, .int .i64 0, .slice A1 (thkOf l0 pl).length c1, .int .i64 l0.length, u12, .pointer (some ⟨wr.heap.size, 0, none⟩), undef, undef, undef, .agg #[.slice A l.length c, .int .i64 fl, .int .i64 tg], .bool false, .bool false, .agg #[.slice A0 l0.length c0, .int .i64 a1, .int .i64 a2, .int .i64 a3, .int .i64 a4, .int .i64 a5, .int .i64 a6, .int .i64 a7, .int .i64 a8, .slice A9 l9.length c9, .int .i64 a10, .int .i64 a11, .int .i64 a12, .int .i64 a13, .int .i64 a14, .int .i64 a15, .int .i64 a16, .int .i64 a17, .int .i64 a18, .slice A19 l19.length c19, .slice A20 l20.length c20], .bool false, .bool false, .bool false, .slice Ap pl.length cp, .int .i64 pl.length, .bool false, .bool false, undef, .tuple #[.bool true, .bool h2, .int .i64 0], .agg #[.slice A l.length c, .int .i64 fl, .int .i64 tg], .pointer (some ⟨W.heap.size + 1, 0, none⟩), .slice A0 l0.length c0, .pointer (some ⟨W.heap.size + 1, 1, none⟩), .agg #[.int .i64 a1, .int .i64 a2, .int .i64 a3, .int .i64 a4], .tuple #[.bool true, .bool h2, .int .i64 0], .bool true, .bool h2, .int .i64 0, .int .i64 0, .bool false, .bool false, .bool true, .bool false, .bool false, undef, .int .i64 l0.length, .pointer (some ⟨W.heap.size + 1, 0, none⟩), .slice A0 l0.length c0, .int .i64 l0.length, .bool false, u51, u52, u53, u54, u55, u56, u57, u58, u59, u60, u61, u62, u63, u64, u65, u66, u67, u68, u69, u70, u71, u72, u73, u74, u75, u76, u77, u78, .pointer (some ⟨W.heap.size + 1, 1, none⟩), .agg #[.int .i64 a1, .int .i64 a2, .int .i64 a3, .int .i64 a4], .pointer (some ⟨wr.heap.size, 0, none⟩), .int .i64 a1, .pointer (some ⟨wr.heap.size, 0, none⟩), .int .i64 a1, .slice Ap pl.length cp, .int .u8 (atOf pl 1), .int .i64 (wrap64 (atOf pl 1)), .int .i64 (wrap64 (a1 * (wrap64 (atOf pl 1)))), .int .i64 (wrap64 (Int.tdiv (wrap64 (a1 * wrap64 (atOf pl 1))) 255)), .int .i64 (wrap64 (a1 - (wrap64 (Int.tdiv (wrap64 (a1 * wrap64 (atOf pl 1))) 255)))), .pointer (some ⟨wr.heap.size, 0, none⟩), undef, undef, undef, undef, undef, undef, undef, undef, undef, undef, undef, undef, undef, undef, undef, undef, undef, undef, undef, undef, undef, undef, undef, undef, undef, undef, undef, undef, undef, undef, undef, undef, undef, undef, undef, undef, undef, undef, undef, undef, undef, undef, undef, undef, undef, undef, undef, undef, undef, undef, undef, undef, undef, undef, undef, undef, undef, undef, undef, undef, undef, undef, undef, undef, undef, undef, undef, undef, undef, undef], defers := [] }
      mixed (by kernel_rfl) rfl (Ahead.of3 81 92 rfl rfl (by kernel_rfl) rfl rfl) ?_ (AllFlow.ops rfl ?_) rfl ?_
    · exact ⟨blkCell hx 0, blkCell hx 1, blkCell hx 2, blkCell hx 3, (Below.refl _ _).drew⟩
    · refine ⟨?_, ?_, ?_, ?_, ?_, ?_, ?_, ?_, ?_, ?_, ?_, trivial⟩
      · exact .val 81 _ rfl rfl fun V ⟨y0, y1, y2, y3, hB_⟩ => by go_simp <;> exact IntWalk.i64_left _
      · exact .val 82 _ rfl rfl fun V ⟨y0, y1, y2, y3, hB_⟩ => by go_simp <;> exact IntWalk.i64_left _
      · exact .val 83 _ rfl rfl fun V ⟨y0, y1, y2, y3, hB_⟩ => by go_simp <;> exact IntWalk.i64_left _
      · exact .val 84 _ rfl rfl fun V ⟨y0, y1, y2, y3, hB_⟩ => by go_simp <;> exact IntWalk.i64_left _
      · exact .val 85 _ rfl rfl fun V ⟨y0, y1, y2, y3, hB_⟩ => by go_simp <;> exact IntWalk.i64_left _
      · refine .call 86 (.int .u8 (atOf pl 1)) 30 #[.slice Ap pl.length cp, .int .i64 1] rfl rfl (fun V ⟨y0, y1, y2, y3, hB_⟩ => by go_simp) fun V ⟨y0, y1, y2, y3, hB_⟩ => ?_
        refine (at_any Ap cp pl 1 _ (Kd.C_below hCp hB_) hlp (by omega)).mono ?_
        rintro e w' ⟨rfl, hb⟩
        exact ⟨rfl, cell_grow y0 hb, cell_grow y1 hb, cell_grow y2 hb, cell_grow y3 hb, hB_.trans (hb.mono hB_.size)⟩
      · exact .val 87 _ rfl rfl fun V ⟨y0, y1, y2, y3, hB_⟩ => by go_simp <;> exact IntWalk.i64_left _
      · exact .val 88 _ rfl rfl fun V ⟨y0, y1, y2, y3, hB_⟩ => by go_simp <;> exact IntWalk.i64_left _
      · exact .val 89 _ rfl rfl fun V ⟨y0, y1, y2, y3, hB_⟩ => by go_simp <;> exact IntWalk.i64_left _
      · exact .val 90 _ rfl rfl fun V ⟨y0, y1, y2, y3, hB_⟩ => by go_simp <;> exact IntWalk.i64_left _
      · exact .val 91 _ rfl rfl fun V ⟨y0, y1, y2, y3, hB_⟩ => by go_simp <;> exact IntWalk.i64_left _
    rintro Y13 ⟨y0, y1, y2, y3, hB_⟩
    clear hCp hlp y0 y1 y2 y3
    have hx := heap_grow hx hB_
    have z0 := blkCell hx 0
    have z1 := blkCell hx 1
    have z2 := blkCell hx 2
    have z3 := blkCell hx 3
    have z4 := blkFrozen hx 0
    simp at z0 z1 z2 z3
    go_wp2_with fail
    simp only [lessW_eq]
    clear z0 z1 z2 z3 z4
    have hx := set_at hx 0 (.int .i64 (lessW a1 (atOf pl 1)))
    have hbx := (hbx.trans (hB_.mono hbx.size)).setCell (p := ⟨wr.heap.size, 0, none⟩) (by simp) (.int .i64 (lessW a1 (atOf pl 1)))
    replace hx : _ = some (Obj.cells #[.int .i64 (lessW a1 (atOf pl 1)), .int .i64 a2, .int .i64 a3, .int .i64 a4] 27 (0, 0)) := hx
    clear hB_
    generalize (Y13.setCell ⟨wr.heap.size, 0, none⟩ (.int .i64 (lessW a1 (atOf pl 1)))) = X14 at *
    have hCp := Kd.C_below HP.out.1 (HI.out.1.be.trans (hbx.mono HI.out.1.be.size))
    have hlp := HP.out.2.1
    refine wp_flow [[], [0], [], [2], [], [4], [5, 4], [3, 2, 6, 5, 4], [7, 3, 2, 6, 5, 4], [1, 0, 8, 7, 3, 2, 6, 5, 4], [0, 1, 2, 3, 4, 5, 6, 7, 8, 9], [10, 0, 1, 2, 3, 4, 5, 6, 7, 8, 9]] 11
      (fun V => V.cell? ⟨wr.heap.size, 0, none⟩ = some (.int .i64 (lessW a1 (atOf pl 1))) ∧ V.cell? ⟨wr.heap.size, 1, none⟩ = some (.int .i64 a2) ∧ V.cell? ⟨wr.heap.size, 2, none⟩ = some (.int .i64 a3) ∧ V.cell? ⟨wr.heap.size, 3, none⟩ = some (.int .i64 a4) ∧ Below X14.heap.size X14 V)
      { tmps := #[.agg #[.slice A l.length c, .int .i64 fl, .int .i64 tg], .agg #[.slice A0 l0.length c0, .int .i64 a1, .int .i64 a2, .int .i64 a3, .int .i64 a4, .int .i64 a5, .int .i64 a6, .int .i64 a7, .int .i64 a8, .slice A9 l9.length c9, .int .i64 a10, .int .i64 a11, .int .i64 a12, .int .i64 a13, .int .i64 a14, .int .i64 a15, .int .i64 a16, .int .i64 a17, .int .i64 a18, .slice A19 l19.length c19, .slice A20 l20.length c20], .slice Ap pl.length cp, .pointer (some ⟨W.heap.size, 0, none⟩), .pointer (some ⟨(W.heap.size + 1), 0, none⟩), undef, .bool false, .bool true, .bool h2, .int .i64 0, .slice A1 (thkOf l0 pl).length c1, .int .i64 l0.length, u12, .pointer (some ⟨wr.heap.size, 0, none⟩), undef, undef, undef, .agg #[.slice A l.length c, .int .i64 fl, .int .i64 tg], .bool false, .bool false, .agg #[.slice A0 l0.length c0, .int .i64 a1, .int .i64 a2, .int .i64 a3, .int .i64 a4, .int .i64 a5, .int .i64 a6, .int .i64 a7, .int .i64 a8, .slice A9 l9.length c9, .int .i64 a10, .int .i64 a11, .int .i64 a12, .int .i64 a13, .int .i64 a14, .int .i64 a15, .int .i64 a16, .int .i64 a17, .int .i64 a18, .slice A19 l19.length c19, .slice A20 l20.length c20], .bool false, .bool false, .bool false, .slice Ap pl.length cp, .int .i64 pl.length, .bool false, .bool false, undef, .tuple #[.bool true, .bool h2, .int .i64 0], .agg #[.slice A l.length c, .int .i64 fl, .int .i64 tg], .pointer (some ⟨W.heap.size + 1, 0, none⟩), .slice A0 l0.length c0, .pointer (some ⟨W.heap.size + 1, 1, none⟩), .agg #[.int .i64 a1, .int .i64 a2, .int .i64 a3, .int .i64 a4], .tuple #[.bool true, .bool h2, .int .i64 0], .bool true, .bool h2, .int .i64 0, .int .i64 0, .bool false, .bool false, .bool true, .bool false, .bool false, undef, .int .i64 l0.length, .pointer (some ⟨W.heap.size + 1, 0, none⟩), .slice A0 l0.length c0, .int .i64 l0.length, .bool false, u51, u52, u53, u54, u55, u56, u57, u58, u59, u60, u61, u62, u63, u64, u65, u66, u67, u68, u69, u70, u71, u72, u73, u74, u75, u76, u77, u78, .pointer (some ⟨W.heap.size + 1, 1, none⟩), .agg #[.int .i64 a1, .int .i64 a2, .int .i64 a3, .int .i64 a4], .pointer (some ⟨wr.heap.size, 0, none⟩), .int .i64 a1, .pointer (some ⟨wr.heap.size, 0, none⟩), .int .i64 a1, .slice Ap pl.length cp, .int .u8 (atOf pl 1), .int .i64 (wrap64 (atOf pl 1)), .int .i64 (wrap64 (a1 * (wrap64 (atOf pl 1)))), .int .i64 (wrap64 (Int.tdiv (wrap64 (a1 * wrap64 (atOf pl 1))) 255)), .int .i64 (lessW a1 (atOf pl 1)), .pointer (some ⟨wr.heap.size, 0, none⟩), .pointer (some ⟨wr.heap.size, 1, none⟩), .int .i64 a2, .pointer (some ⟨wr.heap.size, 1, none⟩), .int .i64 a2, .slice Ap pl.length cp, .int .u8 (atOf pl 2), .int .i64 (wrap64 (atOf pl 2)), .int .i64 (wrap64 (a2 * (wrap64 (atOf pl 2)))), .int .i64 (wrap64 (Int.tdiv (wrap64 (a2 * wrap64 (atOf pl 2))) 255)), .int .i64 (wrap64 (a2 - (wrap64 (Int.tdiv (wrap64 (a2 * wrap64 (atOf pl 2))) 255)))), .pointer (some ⟨wr.heap.size, 1, none⟩), undef, undef, undef, undef, undef, undef, undef, undef, undef, undef, undef, undef, undef, undef, undef, undef, undef, undef, undef, undef, undef, undef, undef, undef, undef, undef, undef, undef, undef, undef, undef, undef, undef, undef, undef, undef, undef, undef, undef, undef, undef, undef, undef, undef, undef, undef, undef, undef, undef, undef, undef, undef, undef, undef, undef, undef, undef, undef, undef], defers := [] }
      mixed (by kernel_rfl) rfl (Ahead.of3 92 103 rfl rfl (by kernel_rfl) rfl rfl) ?_ (AllFlow.ops rfl ?_) rfl ?_
    · exact ⟨blkCell hx 0, blkCell hx 1, blkCell hx 2, blkCell hx 3, (Below.refl _ _).drew⟩
    · refine ⟨?_, ?_, ?_, ?_, ?_, ?_, ?_, ?_, ?_, ?_, ?_, trivial⟩
      · exact .val 92 _ rfl rfl fun V ⟨y0, y1, y2, y3, hB_⟩ => by go_simp <;> exact IntWalk.i64_left _
      · exact .val 93 _ rfl rfl fun V ⟨y0, y1, y2, y3, hB_⟩ => by go_simp <;> exact IntWalk.i64_left _
      · exact .val 94 _ rfl rfl fun V ⟨y0, y1, y2, y3, hB_⟩ => by go_simp <;> exact IntWalk.i64_left _
      · exact .val 95 _ rfl rfl fun V ⟨y0, y1, y2, y3, hB_⟩ => by go_simp <;> exact IntWalk.i64_left _
      · exact .val 96 _ rfl rfl fun V ⟨y0, y1, y2, y3, hB_⟩ => by go_simp <;> exact IntWalk.i64_left _
      · refine .call 97 (.int .u8 (atOf pl 2)) 30 #[.slice Ap pl.length cp, .int .i64 2] rfl rfl (fun V ⟨y0, y1, y2, y3, hB_⟩ => by go_simp) fun V ⟨y0, y1, y2, y3, hB_⟩ => ?_
        refine (at_any Ap cp pl 2 _ (Kd.C_below hCp hB_) hlp (by omega)).mono ?_
        rintro e w' ⟨rfl, hb⟩
        exact ⟨rfl, cell_grow y0 hb, cell_grow y1 hb, cell_grow y2 hb, cell_grow y3 hb, hB_.trans (hb.mono hB_.size)⟩
      · exact .val 98 _ rfl rfl fun V ⟨y0, y1, y2, y3, hB_⟩ => by go_simp <;> exact IntWalk.i64_left _
      · exact .val 99 _ rfl rfl fun V ⟨y0, y1, y2, y3, hB_⟩ => by go_simp <;> exact IntWalk.i64_left _
      · exact .val 100 _ rfl rfl fun V ⟨y0, y1, y2, y3, hB_⟩ => by go_simp <;> exact IntWalk.i64_left _
      · exact .val 101 _ rfl rfl fun V ⟨y0, y1, y2, y3, hB_⟩ => by go_simp <;> exact IntWalk.i64_left _
      · exact .val 102 _ rfl rfl fun V ⟨y0, y1, y2, y3, hB_⟩ => by go_simp <;> exact IntWalk.i64_left _
    rintro Y14 ⟨y0, y1, y2, y3, hB_⟩
    clear hCp hlp y0 y1 y2 y3
    have hx := heap_grow hx hB_
    have z0 := blkCell hx 0
    have z1 := blkCell hx 1
    have z2 := blkCell hx 2
    have z3 := blkCell hx 3
    have z4 := blkFrozen hx 1
    simp at z0 z1 z2 z3
    go_wp2_with fail
    simp only [lessW_eq]
    clear z0 z1 z2 z3 z4
    have hx := set_at hx 1 (.int .i64 (lessW a2 (atOf pl 2)))
    have hbx := (hbx.trans (hB_.mono hbx.size)).setCell (p := ⟨wr.heap.size, 1, none⟩) (by simp) (.int .i64 (lessW a2 (atOf pl 2)))
    replace hx : _ = some (Obj.cells #[.int .i64 (lessW a1 (atOf pl 1)), .int .i64 (lessW a2 (atOf pl 2)), .int .i64 a3, .int .i64 a4] 27 (0, 0)) := hx
    clear hB_
    generalize (Y14.setCell ⟨wr.heap.size, 1, none⟩ (.int .i64 (lessW a2 (atOf pl 2)))) = X15 at *
    have hCp := Kd.C_below HP.out.1 (HI.out.1.be.trans (hbx.mono HI.out.1.be.size))
    have hlp := HP.out.2.1
    refine wp_flow [[], [0], [], [2], [], [4], [5, 4], [3, 2, 6, 5, 4], [7, 3, 2, 6, 5, 4], [1, 0, 8, 7, 3, 2, 6, 5, 4], [0, 1, 2, 3, 4, 5, 6, 7, 8, 9], [10, 0, 1, 2, 3, 4, 5, 6, 7, 8, 9]] 11
      (fun V => V.cell? ⟨wr.heap.size, 0, none⟩ = some (.int .i64 (lessW a1 (atOf pl 1))) ∧ V.cell? ⟨wr.heap.size, 1, none⟩ = some (.int .i64 (lessW a2 (atOf pl 2))) ∧ V.cell? ⟨wr.heap.size, 2, none⟩ = some (.int .i64 a3) ∧ V.cell? ⟨wr.heap.size, 3, none⟩ = some (.int .i64 a4) ∧ Below X15.heap.size X15 V)
      { tmps := #[.agg #[.slice A l.length c, .int .i64 fl, .int .i64 tg], .agg #[.slice A0 l0.length c0, .int .i64 a1, .int .i64 a2, .int .i64 a3, .int .i64 a4, .int .i64 a5, .int .i64 a6, .int .i64 a7, .int .i64 a8, .slice A9 l9.length c9, .int .i64 a10, .int .i64 a11, .int .i64 a12, .int .i64 a13, .int .i64 a14, .int .i64 a15, .int .i64 a16, .int .i64 a17, .int .i64 a18, .slice A19 l19.length c19, .slice A20 l20.length c20], .slice Ap pl.length cp, .pointer (some ⟨W.heap.size, 0, none⟩), .pointer (some ⟨(W.heap.size + 1), 0, none⟩), undef, .bool false, .bool true, .bool h2, .int .i64 0, .slice A1 (thkOf l0 pl).length c1, .int .i64 l0.length, u12, .pointer (some ⟨wr.heap.size, 0, none⟩), undef, undef, undef, .agg #[.slice A l.length c, .int .i64 fl, .int .i64 tg], .bool false, .bool false, .agg #[.slice A0 l0.length c0, .int .i64 a1, .int .i64 a2, .int .i64 a3, .int .i64 a4, .int .i64 a5, .int .i64 a6, .int .i64 a7, .int .i64 a8, .slice A9 l9.length c9, .int .i64 a10, .int .i64 a11, .int .i64 a12, .int .i64 a13, .int .i64 a14, .int .i64 a15, .int .i64 a16, .int .i64 a17, .int .i64 a18, .slice A19 l19.length c19, .slice A20 l20.length c20], .bool false, .bool false, .bool false, .slice Ap pl.length cp, .int .i64 pl.length, .bool false, .bool false, undef, .tuple #[.bool true, .bool h2, .int .i64 0], .agg #[.slice A l.length c, .int .i64 fl, .int .i64 tg], .pointer (some ⟨W.heap.size + 1, 0, none⟩), .slice A0 l0.length c0, .pointer (some ⟨W.heap.size + 1, 1, none⟩), .agg #[.int .i64 a1, .int .i64 a2, .int .i64 a3, .int .i64 a4], .tuple #[.bool true, .bool h2, .int .i64 0], .bool true, .bool h2, .int .i64 0, .int .i64 0, .bool false, .bool false, .bool true, .bool false, .bool false, undef, .int .i64 l0.length, .pointer (some ⟨W.heap.size + 1, 0, none⟩), .slice A0 l0.length c0, .int .i64 l0.length, .bool false, u51, u52, u53, u54, u55, u56, u57, u58, u59, u60, u61, u62, u63, u64, u65, u66, u67, u68, u69, u70, u71, u72, u73, u74, u75, u76, u77, u78, .pointer (some ⟨W.heap.size + 1, 1, none⟩), .agg #[.int .i64 a1, .int .i64 a2, .int .i64 a3, .int .i64 a4], .pointer (some ⟨wr.heap.size, 0, none⟩), .int .i64 a1, .pointer (some ⟨wr.heap.size, 0, none⟩), .int .i64 a1, .slice Ap pl.length cp, .int .u8 (atOf pl 1), .int .i64 (wrap64 (atOf pl 1)), .int .i64 (wrap64 (a1 * (wrap64 (atOf pl 1)))), .int .i64 (wrap64 (Int.tdiv (wrap64 (a1 * wrap64 (atOf pl 1))) 255)), .int .i64 (lessW a1 (atOf pl 1)), .pointer (some ⟨wr.heap.size, 0, none⟩), .pointer (some ⟨wr.heap.size, 1, none⟩), .int .i64 a2, .pointer (some ⟨wr.heap.size, 1, none⟩), .int .i64 a2, .slice Ap pl.length cp, .int .u8 (atOf pl 2), .int .i64 (wrap64 (atOf pl 2)), .int .i64 (wrap64 (a2 * (wrap64 (atOf pl 2)))), .int .i64 (wrap64 (Int.tdiv (wrap64 (a2 * wrap64 (atOf pl 2))) 255)), .int .i64 (lessW a2 (atOf pl 2)), .pointer (some ⟨wr.heap.size, 1, none⟩), .pointer (some ⟨wr.heap.size, 2, none⟩), .int .i64 a3, .pointer (some ⟨wr.heap.size, 2, none⟩), .int .i64 a3, .slice Ap pl.length cp, .int .u8 (atOf pl 3), .int .i64 (wrap64 (atOf pl 3)), .int .i64 (wrap64 (a3 * (wrap64 (atOf pl 3)))), .int .i64 (wrap64 (Int.tdiv (wrap64 (a3 * wrap64 (atOf pl 3))) 255)), .int .i64 (wrap64 (a3 - (wrap64 (Int.tdiv (wrap64 (a3 * wrap64 (atOf pl 3))) 255)))), .pointer (some ⟨wr.heap.size, 2, none⟩), undef, undef, undef, undef, undef, undef, undef, undef, undef, undef, undef, undef, undef, undef, undef, undef, undef, undef, undef, undef, undef, undef, undef, undef, undef, undef, undef, undef, undef, undef, undef, undef, undef, undef, undef, undef, undef, undef, undef, undef, undef, undef, undef, undef, undef, undef, undef, undef], defers := [] }
      mixed (by kernel_rfl) rfl (Ahead.of3 103 114 rfl rfl (by kernel_rfl) rfl rfl) ?_ (AllFlow.ops rfl ?_) rfl ?_
    · exact ⟨blkCell hx 0, blkCell hx 1, blkCell hx 2, blkCell hx 3, (Below.refl _ _).drew⟩
    · refine ⟨?_, ?_, ?_, ?_, ?_, ?_, ?_, ?_, ?_, ?_, ?_, trivial⟩
      · exact .val 103 _ rfl rfl fun V ⟨y0, y1, y2, y3, hB_⟩ => by go_simp <;> exact IntWalk.i64_left _
      · exact .val 104 _ rfl rfl fun V ⟨y0, y1, y2, y3, hB_⟩ => by go_simp <;> exact IntWalk.i64_left _
      · exact .val 105 _ rfl rfl fun V ⟨y0, y1, y2, y3, hB_⟩ => by go_simp <;> exact IntWalk.i64_left _
      · exact .val 106 _ rfl rfl fun V ⟨y0, y1, y2, y3, hB_⟩ => by go_simp <;> exact IntWalk.i64_left _
      · exact .val 107 _ rfl rfl fun V ⟨y0, y1, y2, y3, hB_⟩ => by go_simp <;> exact IntWalk.i64_left _
      · refine .call 108 (.int .u8 (atOf pl 3)) 30 #[.slice Ap pl.length cp, .int .i64 3] rfl rfl (fun V ⟨y0, y1, y2, y3, hB_⟩ => by go_simp) fun V ⟨y0, y1, y2, y3, hB_⟩ => ?_
        refine (at_any Ap cp pl 3 _ (Kd.C_below hCp hB_) hlp (by omega)).mono ?_
        rintro e w' ⟨rfl, hb⟩
        exact ⟨rfl, cell_grow y0 hb, cell_grow y1 hb, cell_grow y2 hb, cell_grow y3 hb, hB_.trans (hb.mono hB_.size)⟩
      · exact .val 109 _ rfl rfl fun V ⟨y0, y1, y2, y3, hB_⟩ => by go_simp <;> exact IntWalk.i64_left _
      · exact .val 110 _ rfl rfl fun V ⟨y0, y1, y2, y3, hB_⟩ => by go_simp <;> exact IntWalk.i64_left _
      · exact .val 111 _ rfl rfl fun V ⟨y0, y1, y2, y3, hB_⟩ => by go_simp <;> exact IntWalk.i64_left _
      · exact .val 112 _ rfl rfl fun V ⟨y0, y1, y2, y3, hB_⟩ => by go_simp <;> exact IntWalk.i64_left _
      · exact .val 113 _ rfl rfl fun V ⟨y0, y1, y2, y3, hB_⟩ => by go_simp <;> exact IntWalk.i64_left _
    rintro Y15 ⟨y0, y1, y2, y3, hB_⟩
    clear hCp hlp y0 y1 y2 y3
    have hx := heap_grow hx hB_
    have z0 := blkCell hx 0
    have z1 := blkCell hx 1
    have z2 := blkCell hx 2
    have z3 := blkCell hx 3
    have z4 := blkFrozen hx 2
    simp at z0 z1 z2 z3
    go_wp2_with fail
    simp only [lessW_eq]
    clear z0 z1 z2 z3 z4
    have hx := set_at hx 2 (.int .i64 (lessW a3 (atOf pl 3)))
    have hbx := (hbx.trans (hB_.mono hbx.size)).setCell (p := ⟨wr.heap.size, 2, none⟩) (by simp) (.int .i64 (lessW a3 (atOf pl 3)))
    replace hx : _ = some (Obj.cells #[.int .i64 (lessW a1 (atOf pl 1)), .int .i64 (lessW a2 (atOf pl 2)), .int .i64 (lessW a3 (atOf pl 3)), .int .i64 a4] 27 (0, 0)) := hx
    clear hB_
    generalize (Y15.setCell ⟨wr.heap.size, 2, none⟩ (.int .i64 (lessW a3 (atOf pl 3)))) = X16 at *
    have hCp := Kd.C_below HP.out.1 (HI.out.1.be.trans (hbx.mono HI.out.1.be.size))
    have hlp := HP.out.2.1
    refine wp_flow [[], [0], [], [2], [], [4], [5, 4], [3, 2, 6, 5, 4], [7, 3, 2, 6, 5, 4], [1, 0, 8, 7, 3, 2, 6, 5, 4], [0, 1, 2, 3, 4, 5, 6, 7, 8, 9], [10, 0, 1, 2, 3, 4, 5, 6, 7, 8, 9]] 11
      (fun V => V.cell? ⟨wr.heap.size, 0, none⟩ = some (.int .i64 (lessW a1 (atOf pl 1))) ∧ V.cell? ⟨wr.heap.size, 1, none⟩ = some (.int .i64 (lessW a2 (atOf pl 2))) ∧ V.cell? ⟨wr.heap.size, 2, none⟩ = some (.int .i64 (lessW a3 (atOf pl 3))) ∧ V.cell? ⟨wr.heap.size, 3, none⟩ = some (.int .i64 a4) ∧ Below X16.heap.size X16 V)
      { tmps := #[.agg #[.slice A l.length c, .int .i64 fl, .int .i64 tg], .agg #[.slice A0 l0.length c0, .int .i64 a1, .int .i64 a2, .int .i64 a3, .int .i64 a4, .int .i64 a5, .int .i64 a6, .int .i64 a7, .int .i64 a8, .slice A9 l9.length c9, .int .i64 a10, .int .i64 a11, .int .i64 a12, .int .i64 a13, .int .i64 a14, .int .i64 a15, .int .i64 a16, .int .i64 a17, .int .i64 a18, .slice A19 l19.length c19, .slice A20 l20.length c20], .slice Ap pl.length cp, .pointer (some ⟨W.heap.size, 0, none⟩), .pointer (some ⟨(W.heap.size + 1), 0, none⟩), undef, .bool false, .bool true, .bool h2, .int .i64 0, .slice A1 (thkOf l0 pl).length c1, .int .i64 l0.length, u12, .pointer (some ⟨wr.heap.size, 0, none⟩), undef, undef, undef, .agg #[.slice A l.length c, .int .i64 fl, .int .i64 tg], .bool false, .bool false, .agg #[.slice A0 l0.length c0, .int .i64 a1, .int .i64 a2, .int .i64 a3, .int .i64 a4, .int .i64 a5, .int .i64 a6, .int .i64 a7, .int .i64 a8, .slice A9 l9.length c9, .int .i64 a10, .int .i64 a11, .int .i64 a12, .int .i64 a13, .int .i64 a14, .int .i64 a15, .int .i64 a16, .int .i64 a17, .int .i64 a18, .slice A19 l19.length c19, .slice A20 l20.length c20], .bool false, .bool false, .bool false, .slice Ap pl.length cp, .int .i64 pl.length, .bool false, .bool false, undef, .tuple #[.bool true, .bool h2, .int .i64 0], .agg #[.slice A l.length c, .int .i64 fl, .int .i64 tg], .pointer (some ⟨W.heap.size + 1, 0, none⟩), .slice A0 l0.length c0, .pointer (some ⟨W.heap.size + 1, 1, none⟩), .agg #[.int .i64 a1, .int .i64 a2, .int .i64 a3, .int .i64 a4], .tuple #[.bool true, .bool h2, .int .i64 0], .bool true, .bool h2, .int .i64 0, .int .i64 0, .bool false, .bool false, .bool true, .bool false, .bool false, undef, .int .i64 l0.length, .pointer (some ⟨W.heap.size + 1, 0, none⟩), .slice A0 l0.length c0, .int .i64 l0.length, .bool false, u51, u52, u53, u54, u55, u56, u57, u58, u59, u60, u61, u62, u63, u64, u65, u66, u67, u68, u69, u70, u71, u72, u73, u74, u75, u76, u77, u78, .pointer (some ⟨W.heap.size + 1, 1, none⟩), .agg #[.int .i64 a1, .int .i64 a2, .int .i64 a3, .int .i64 a4], .pointer (some ⟨wr.heap.size, 0, none⟩), .int .i64 a1, .pointer (some ⟨wr.heap.size, 0, none⟩), .int .i64 a1, .slice Ap pl.length cp, .int .u8 (atOf pl 1), .int .i64 (wrap64 (atOf pl 1)), .int .i64 (wrap64 (a1 * (wrap64 (atOf pl 1)))), .int .i64 (wrap64 (Int.tdiv (wrap64 (a1 * wrap64 (atOf pl 1))) 255)), .int .i64 (lessW a1 (atOf pl 1)), .pointer (some ⟨wr.heap.size, 0, none⟩), .pointer (some ⟨wr.heap.size, 1, none⟩), .int .i64 a2, .pointer (some ⟨wr.heap.size, 1, none⟩), .int .i64 a2, .slice Ap pl.length cp, .int .u8 (atOf pl 2), .int .i64 (wrap64 (atOf pl 2)), .int .i64 (wrap64 (a2 * (wrap64 (atOf pl 2)))), .int .i64 (wrap64 (Int.tdiv (wrap64 (a2 * wrap64 (atOf pl 2))) 255)), .int .i64 (lessW a2 (atOf pl 2)), .pointer (some ⟨wr.heap.size, 1, none⟩), .pointer (some ⟨wr.heap.size, 2, none⟩), .int .i64 a3, .pointer (some ⟨wr.heap.size, 2, none⟩), .int .i64 a3, .slice Ap pl.length cp, .int .u8 (atOf pl 3), .int .i64 (wrap64 (atOf pl 3)), .int .i64 (wrap64 (a3 * (wrap64 (atOf pl 3)))), .int .i64 (wrap64 (Int.tdiv (wrap64 (a3 * wrap64 (atOf pl 3))) 255)), .int .i64 (lessW a3 (atOf pl 3)), .pointer (some ⟨wr.heap.size, 2, none⟩), .pointer (some ⟨wr.heap.size, 3, none⟩), .int .i64 a4, .pointer (some ⟨wr.heap.size, 3, none⟩), .int .i64 a4, .slice Ap pl.length cp, .int .u8 (atOf pl 4), .int .i64 (wrap64 (atOf pl 4)), .int .i64 (wrap64 (a4 * (wrap64 (atOf pl 4)))), .int .i64 (wrap64 (Int.tdiv (wrap64 (a4 * wrap64 (atOf pl 4))) 255)), .int .i64 (wrap64 (a4 - (wrap64 (Int.tdiv (wrap64 (a4 * wrap64 (atOf pl 4))) 255)))), .pointer (some ⟨wr.heap.size, 3, none⟩), undef, undef, undef, undef, undef, undef, undef, undef, undef, undef, undef, undef, undef, undef, undef, undef, undef, undef, undef, undef, undef, undef, undef, undef, undef, undef, undef, undef, undef, undef, undef, undef, undef, undef, undef, undef, undef], defers := [] }
      mixed (by kernel_rfl) rfl (Ahead.of3 114 125 rfl rfl (by kernel_rfl) rfl rfl) ?_ (AllFlow.ops rfl ?_) rfl ?_
    · exact ⟨blkCell hx 0, blkCell hx 1, blkCell hx 2, blkCell hx 3, (Below.refl _ _).drew⟩
    · refine ⟨?_, ?_, ?_, ?_, ?_, ?_, ?_, ?_, ?_, ?_, ?_, trivial⟩
      · exact .val 114 _ rfl rfl fun V ⟨y0, y1, y2, y3, hB_⟩ => by go_simp <;> exact IntWalk.i64_left _
      · exact .val 115 _ rfl rfl fun V ⟨y0, y1, y2, y3, hB_⟩ => by go_simp <;> exact IntWalk.i64_left _
      · exact .val 116 _ rfl rfl fun V ⟨y0, y1, y2, y3, hB_⟩ => by go_simp <;> exact IntWalk.i64_left _
      · exact .val 117 _ rfl rfl fun V ⟨y0, y1, y2, y3, hB_⟩ => by go_simp <;> exact IntWalk.i64_left _
      · exact .val 118 _ rfl rfl fun V ⟨y0, y1, y2, y3, hB_⟩ => by go_simp <;> exact IntWalk.i64_left _
      · refine .call 119 (.int .u8 (atOf pl 4)) 30 #[.slice Ap pl.length cp, .int .i64 4] rfl rfl (fun V ⟨y0, y1, y2, y3, hB_⟩ => by go_simp) fun V ⟨y0, y1, y2, y3, hB_⟩ => ?_
        refine (at_any Ap cp pl 4 _ (Kd.C_below hCp hB_) hlp (by omega)).mono ?_
        rintro e w' ⟨rfl, hb⟩
        exact ⟨rfl, cell_grow y0 hb, cell_grow y1 hb, cell_grow y2 hb, cell_grow y3 hb, hB_.trans (hb.mono hB_.size)⟩
      · exact .val 120 _ rfl rfl fun V ⟨y0, y1, y2, y3, hB_⟩ => by go_simp <;> exact IntWalk.i64_left _
      · exact .val 121 _ rfl rfl fun V ⟨y0, y1, y2, y3, hB_⟩ => by go_simp <;> exact IntWalk.i64_left _
      · exact .val 122 _ rfl rfl fun V ⟨y0, y1, y2, y3, hB_⟩ => by go_simp <;> exact IntWalk.i64_left _
      · exact .val 123 _ rfl rfl fun V ⟨y0, y1, y2, y3, hB_⟩ => by go_simp <;> exact IntWalk.i64_left _
      · exact .val 124 _ rfl rfl fun V ⟨y0, y1, y2, y3, hB_⟩ => by go_simp <;> exact IntWalk.i64_left _
    rintro Y16 ⟨y0, y1, y2, y3, hB_⟩
    clear hCp hlp y0 y1 y2 y3
    have hx := heap_grow hx hB_
    have z0 := blkCell hx 0
    have z1 := blkCell hx 1
    have z2 := blkCell hx 2
    have z3 := blkCell hx 3
    have z4 := blkFrozen hx 3
    simp at z0 z1 z2 z3
    have hI17 := HI.out.1.grow (hbx.trans (hB_.mono hbx.size))
    have p0 := blkCell hI17.hb 0
    have p1 := blkCell hI17.hb 1
    have p2 := blkCell hI17.hb 2
    have gw := cell_lt (blkCell HI.out.1.hb 0)
    have m1 : ¬ W.heap.size = wr.heap.size := by omega
    have m2 : ¬ wr.heap.size = W.heap.size := by omega
    simp at p0 p1 p2
    go_wp2_with fail
    simp only [lessW_eq]
    clear z0 z1 z2 z3 z4
    have hx := set_at hx 3 (.int .i64 (lessW a4 (atOf pl 4)))
    have hbx := (hbx.trans (hB_.mono hbx.size)).setCell (p := ⟨wr.heap.size, 3, none⟩) (by simp) (.int .i64 (lessW a4 (atOf pl 4)))
    replace hx : _ = some (Obj.cells #[.int .i64 (lessW a1 (atOf pl 1)), .int .i64 (lessW a2 (atOf pl 2)), .int .i64 (lessW a3 (atOf pl 3)), .int .i64 (lessW a4 (atOf pl 4))] 27 (0, 0)) := hx
    clear hB_
    have hsz : (Y16.setCell ⟨wr.heap.size, 3, none⟩ (.int .i64 (lessW a4 (atOf pl 4)))).heap.size = Y16.heap.size := by simp
    generalize (Y16.setCell ⟨wr.heap.size, 3, none⟩ (.int .i64 (lessW a4 (atOf pl 4)))) = X17 at *
    simp only [← hsz]
    clear hsz
    have gx := cell_lt (blkCell hx 0)
    have hc := World.alloc_heap_new X17 (.cells #[.slice A l.length c, .int .i64 fl, .int .i64 tg] 24)
    have hsx := hbx.size
    have hx := alloc_old (o' := .cells #[.slice A l.length c, .int .i64 fl, .int .i64 tg] 24) hx
    have hbx := hbx.alloc hbx.size (.cells #[.slice A l.length c, .int .i64 fl, .int .i64 tg] 24)
    clear hI17 p0 p1 p2
    generalize (X17.alloc (Obj.cells #[.slice A l.length c, .int .i64 fl, .int .i64 tg] 24)) = X18 at *
    have hI := HI.out.1.grow hbx
    have hCp := Kd.C_below HP.out.1 (HI.out.1.be.trans (hbx.mono HI.out.1.be.size))
    have hlp := HP.out.2.1
    refine wp_flow [[], [0], [], [2], [3, 2], [1, 0, 4, 3, 2], [5, 1, 0, 4, 3, 2], [0, 1, 2, 3, 4, 5, 6], [7, 0, 1, 2, 3, 4, 5, 6]] 8
      (fun V => V.cell? ⟨W.heap.size, 0, none⟩ = some (.slice A l.length c) ∧ V.cell? ⟨W.heap.size, 1, none⟩ = some (.int .i64 fl) ∧ V.cell? ⟨W.heap.size, 2, none⟩ = some (.int .i64 tg) ∧ Below X18.heap.size X18 V)
      { tmps := #[.agg #[.slice A l.length c, .int .i64 fl, .int .i64 tg], .agg #[.slice A0 l0.length c0, .int .i64 a1, .int .i64 a2, .int .i64 a3, .int .i64 a4, .int .i64 a5, .int .i64 a6, .int .i64 a7, .int .i64 a8, .slice A9 l9.length c9, .int .i64 a10, .int .i64 a11, .int .i64 a12, .int .i64 a13, .int .i64 a14, .int .i64 a15, .int .i64 a16, .int .i64 a17, .int .i64 a18, .slice A19 l19.length c19, .slice A20 l20.length c20], .slice Ap pl.length cp, .pointer (some ⟨W.heap.size, 0, none⟩), .pointer (some ⟨(W.heap.size + 1), 0, none⟩), undef, .bool false, .bool true, .bool h2, .int .i64 0, .slice A1 (thkOf l0 pl).length c1, .int .i64 l0.length, u12, .pointer (some ⟨wr.heap.size, 0, none⟩), .pointer (some ⟨X17.heap.size, 0, none⟩), undef, undef, .agg #[.slice A l.length c, .int .i64 fl, .int .i64 tg], .bool false, .bool false, .agg #[.slice A0 l0.length c0, .int .i64 a1, .int .i64 a2, .int .i64 a3, .int .i64 a4, .int .i64 a5, .int .i64 a6, .int .i64 a7, .int .i64 a8, .slice A9 l9.length c9, .int .i64 a10, .int .i64 a11, .int .i64 a12, .int .i64 a13, .int .i64 a14, .int .i64 a15, .int .i64 a16, .int .i64 a17, .int .i64 a18, .slice A19 l19.length c19, .slice A20 l20.length c20], .bool false, .bool false, .bool false, .slice Ap pl.length cp, .int .i64 pl.length, .bool false, .bool false, undef, .tuple #[.bool true, .bool h2, .int .i64 0], .agg #[.slice A l.length c, .int .i64 fl, .int .i64 tg], .pointer (some ⟨W.heap.size + 1, 0, none⟩), .slice A0 l0.length c0, .pointer (some ⟨W.heap.size + 1, 1, none⟩), .agg #[.int .i64 a1, .int .i64 a2, .int .i64 a3, .int .i64 a4], .tuple #[.bool true, .bool h2, .int .i64 0], .bool true, .bool h2, .int .i64 0, .int .i64 0, .bool false, .bool false, .bool true, .bool false, .bool false, undef, .int .i64 l0.length, .pointer (some ⟨W.heap.size + 1, 0, none⟩), .slice A0 l0.length c0, .int .i64 l0.length, .bool false, u51, u52, u53, u54, u55, u56, u57, u58, u59, u60, u61, u62, u63, u64, u65, u66, u67, u68, u69, u70, u71, u72, u73, u74, u75, u76, u77, u78, .pointer (some ⟨W.heap.size + 1, 1, none⟩), .agg #[.int .i64 a1, .int .i64 a2, .int .i64 a3, .int .i64 a4], .pointer (some ⟨wr.heap.size, 0, none⟩), .int .i64 a1, .pointer (some ⟨wr.heap.size, 0, none⟩), .int .i64 a1, .slice Ap pl.length cp, .int .u8 (atOf pl 1), .int .i64 (wrap64 (atOf pl 1)), .int .i64 (wrap64 (a1 * (wrap64 (atOf pl 1)))), .int .i64 (wrap64 (Int.tdiv (wrap64 (a1 * wrap64 (atOf pl 1))) 255)), .int .i64 (lessW a1 (atOf pl 1)), .pointer (some ⟨wr.heap.size, 0, none⟩), .pointer (some ⟨wr.heap.size, 1, none⟩), .int .i64 a2, .pointer (some ⟨wr.heap.size, 1, none⟩), .int .i64 a2, .slice Ap pl.length cp, .int .u8 (atOf pl 2), .int .i64 (wrap64 (atOf pl 2)), .int .i64 (wrap64 (a2 * (wrap64 (atOf pl 2)))), .int .i64 (wrap64 (Int.tdiv (wrap64 (a2 * wrap64 (atOf pl 2))) 255)), .int .i64 (lessW a2 (atOf pl 2)), .pointer (some ⟨wr.heap.size, 1, none⟩), .pointer (some ⟨wr.heap.size, 2, none⟩), .int .i64 a3, .pointer (some ⟨wr.heap.size, 2, none⟩), .int .i64 a3, .slice Ap pl.length cp, .int .u8 (atOf pl 3), .int .i64 (wrap64 (atOf pl 3)), .int .i64 (wrap64 (a3 * (wrap64 (atOf pl 3)))), .int .i64 (wrap64 (Int.tdiv (wrap64 (a3 * wrap64 (atOf pl 3))) 255)), .int .i64 (lessW a3 (atOf pl 3)), .pointer (some ⟨wr.heap.size, 2, none⟩), .pointer (some ⟨wr.heap.size, 3, none⟩), .int .i64 a4, .pointer (some ⟨wr.heap.size, 3, none⟩), .int .i64 a4, .slice Ap pl.length cp, .int .u8 (atOf pl 4), .int .i64 (wrap64 (atOf pl 4)), .int .i64 (wrap64 (a4 * (wrap64 (atOf pl 4)))), .int .i64 (wrap64 (Int.tdiv (wrap64 (a4 * wrap64 (atOf pl 4))) 255)), .int .i64 (lessW a4 (atOf pl 4)), .pointer (some ⟨wr.heap.size, 3, none⟩), .agg #[.slice A l.length c, .int .i64 fl, .int .i64 tg], .pointer (some ⟨W.heap.size, 1, none⟩), .int .i64 fl, .slice Ap pl.length cp, .int .u8 (atOf pl 5), .int .i64 (wrap64 (atOf pl 5)), .int .i64 (wrap64 (fl - (wrap64 (atOf pl 5)))), .int .i64 (lessF fl (atOf pl 5)), .pointer (some ⟨X17.heap.size, 1, none⟩), undef, undef, undef, undef, undef, undef, undef, undef, undef, undef, undef, undef, undef, undef, undef, undef, undef, undef, undef, undef, undef, undef, undef, undef, undef, undef, undef, undef], defers := [] }
      mixed (by kernel_rfl) rfl (Ahead.of3 126 134 rfl rfl (by kernel_rfl) rfl rfl) ?_ (AllFlow.ops rfl ?_) rfl ?_
    · exact ⟨blkCell hI.hb 0, blkCell hI.hb 1, blkCell hI.hb 2, (Below.refl _ _).drew⟩
    · refine ⟨?_, ?_, ?_, ?_, ?_, ?_, ?_, ?_, trivial⟩
      · exact .val 126 _ rfl rfl fun V ⟨y0, y1, y2, hB_⟩ => by go_simp <;> exact IntWalk.i64_left _
      · exact .val 127 _ rfl rfl fun V ⟨y0, y1, y2, hB_⟩ => by go_simp <;> exact IntWalk.i64_left _
      · exact .val 128 _ rfl rfl fun V ⟨y0, y1, y2, hB_⟩ => by go_simp <;> exact IntWalk.i64_left _
      · refine .call 129 (.int .u8 (atOf pl 5)) 30 #[.slice Ap pl.length cp, .int .i64 5] rfl rfl (fun V ⟨y0, y1, y2, hB_⟩ => by go_simp) fun V ⟨y0, y1, y2, hB_⟩ => ?_
        refine (at_any Ap cp pl 5 _ (Kd.C_below hCp hB_) hlp (by omega)).mono ?_
        rintro e w' ⟨rfl, hb⟩
        exact ⟨rfl, cell_grow y0 hb, cell_grow y1 hb, cell_grow y2 hb, hB_.trans (hb.mono hB_.size)⟩
      · exact .val 130 _ rfl rfl fun V ⟨y0, y1, y2, hB_⟩ => by go_simp <;> exact IntWalk.i64_left _
      · exact .val 131 _ rfl rfl fun V ⟨y0, y1, y2, hB_⟩ => by go_simp <;> exact IntWalk.i64_left _
      · exact .val 132 _ rfl rfl fun V ⟨y0, y1, y2, hB_⟩ => by go_simp <;> rfl
      · exact .val 133 _ rfl rfl fun V ⟨y0, y1, y2, hB_⟩ => by go_simp <;> exact IntWalk.i64_left _
    rintro Y18 ⟨y0, y1, y2, hB_⟩
    clear hCp hlp hI y0 y1 y2
    have hc := heap_grow hc hB_
    have hx := heap_grow hx hB_
    have z0 := blkCell hc 0
    have z1 := blkCell hc 1
    have z2 := blkCell hc 2
    have z3 := blkFrozen hc 1
    have z4 := blkCell hx 0
    have z5 := blkCell hx 1
    have z6 := blkCell hx 2
    have z7 := blkCell hx 3
    have m3 : ¬ X17.heap.size = wr.heap.size := by omega
    have m4 : ¬ wr.heap.size = X17.heap.size := by omega
    simp at z0 z1 z2 z4 z5 z6 z7
    go_wp2_with fail
    clear z0 z1 z2 z3 z4 z5 z6 z7 m3 m4
    have hc := set_at hc 1 (.int .i64 (lessF fl (atOf pl 5)))
    have hx := (Below.heap_setCell Y18 ⟨X17.heap.size, 1, none⟩ (.int .i64 (lessF fl (atOf pl 5))) wr.heap.size (by simp; omega)).trans hx
    have hbx := (hbx.trans (hB_.mono hbx.size)).setCell (p := ⟨X17.heap.size, 1, none⟩) (by simp; omega) (.int .i64 (lessF fl (atOf pl 5)))
    replace hc : _ = some (Obj.cells #[.slice A l.length c, .int .i64 (lessF fl (atOf pl 5)), .int .i64 tg] 24 (0, 0)) := hc
    clear hB_
    generalize (Y18.setCell ⟨X17.heap.size, 1, none⟩ (.int .i64 (lessF fl (atOf pl 5)))) = X19 at *
    have hI := HI.out.1.grow hbx
    have hCp := Kd.C_below HP.out.1 (HI.out.1.be.trans (hbx.mono HI.out.1.be.size))
    have hlp := HP.out.2.1
    refine wp_flow [[], [0], [], [2], [3, 2], [1, 0, 4, 3, 2], [5, 1, 0, 4, 3, 2], [0, 1, 2, 3, 4, 5, 6], [7, 0, 1, 2, 3, 4, 5, 6]] 8
      (fun V => V.cell? ⟨W.heap.size, 0, none⟩ = some (.slice A l.length c) ∧ V.cell? ⟨W.heap.size, 1, none⟩ = some (.int .i64 fl) ∧ V.cell? ⟨W.heap.size, 2, none⟩ = some (.int .i64 tg) ∧ Below X19.heap.size X19 V)
      { tmps := #[.agg #[.slice A l.length c, .int .i64 fl, .int .i64 tg], .agg #[.slice A0 l0.length c0, .int .i64 a1, .int .i64 a2, .int .i64 a3, .int .i64 a4, .int .i64 a5, .int .i64 a6, .int .i64 a7, .int .i64 a8, .slice A9 l9.length c9, .int .i64 a10, .int .i64 a11, .int .i64 a12, .int .i64 a13, .int .i64 a14, .int .i64 a15, .int .i64 a16, .int .i64 a17, .int .i64 a18, .slice A19 l19.length c19, .slice A20 l20.length c20], .slice Ap pl.length cp, .pointer (some ⟨W.heap.size, 0, none⟩), .pointer (some ⟨(W.heap.size + 1), 0, none⟩), undef, .bool false, .bool true, .bool h2, .int .i64 0, .slice A1 (thkOf l0 pl).length c1, .int .i64 l0.length, u12, .pointer (some ⟨wr.heap.size, 0, none⟩), .pointer (some ⟨X17.heap.size, 0, none⟩), undef, undef, .agg #[.slice A l.length c, .int .i64 fl, .int .i64 tg], .bool false, .bool false, .agg #[.slice A0 l0.length c0, .int .i64 a1, .int .i64 a2, .int .i64 a3, .int .i64 a4, .int .i64 a5, .int .i64 a6, .int .i64 a7, .int .i64 a8, .slice A9 l9.length c9, .int .i64 a10, .int .i64 a11, .int .i64 a12, .int .i64 a13, .int .i64 a14, .int .i64 a15, .int .i64 a16, .int .i64 a17, .int .i64 a18, .slice A19 l19.length c19, .slice A20 l20.length c20], .bool false, .bool false, .bool false, .slice Ap pl.length cp, .int .i64 pl.length, .bool false, .bool false, undef, .tuple #[.bool true, .bool h2, .int .i64 0], .agg #[.slice A l.length c, .int .i64 fl, .int .i64 tg], .pointer (some ⟨W.heap.size + 1, 0, none⟩), .slice A0 l0.length c0, .pointer (some ⟨W.heap.size + 1, 1, none⟩), .agg #[.int .i64 a1, .int .i64 a2, .int .i64 a3, .int .i64 a4], .tuple #[.bool true, .bool h2, .int .i64 0], .bool true, .bool h2, .int .i64 0, .int .i64 0, .bool false, .bool false, .bool true, .bool false, .bool false, undef, .int .i64 l0.length, .pointer (some ⟨W.heap.size + 1, 0, none⟩), .slice A0 l0.length c0, .int .i64 l0.length, .bool false, u51, u52, u53, u54, u55, u56, u57, u58, u59, u60, u61, u62, u63, u64, u65, u66, u67, u68, u69, u70, u71, u72, u73, u74, u75, u76, u77, u78, .pointer (some ⟨W.heap.size + 1, 1, none⟩), .agg #[.int .i64 a1, .int .i64 a2, .int .i64 a3, .int .i64 a4], .pointer (some ⟨wr.heap.size, 0, none⟩), .int .i64 a1, .pointer (some ⟨wr.heap.size, 0, none⟩), .int .i64 a1, .slice Ap pl.length cp, .int .u8 (atOf pl 1), .int .i64 (wrap64 (atOf pl 1)), .int .i64 (wrap64 (a1 * (wrap64 (atOf pl 1)))), .int .i64 (wrap64 (Int.tdiv (wrap64 (a1 * wrap64 (atOf pl 1))) 255)), .int .i64 (lessW a1 (atOf pl 1)), .pointer (some ⟨wr.heap.size, 0, none⟩), .pointer (some ⟨wr.heap.size, 1, none⟩), .int .i64 a2, .pointer (some ⟨wr.heap.size, 1, none⟩), .int .i64 a2, .slice Ap pl.length cp, .int .u8 (atOf pl 2), .int .i64 (wrap64 (atOf pl 2)), .int .i64 (wrap64 (a2 * (wrap64 (atOf pl 2)))), .int .i64 (wrap64 (Int.tdiv (wrap64 (a2 * wrap64 (atOf pl 2))) 255)), .int .i64 (lessW a2 (atOf pl 2)), .pointer (some ⟨wr.heap.size, 1, none⟩), .pointer (some ⟨wr.heap.size, 2, none⟩), .int .i64 a3, .pointer (some ⟨wr.heap.size, 2, none⟩), .int .i64 a3, .slice Ap pl.length cp, .int .u8 (atOf pl 3), .int .i64 (wrap64 (atOf pl 3)), .int .i64 (wrap64 (a3 * (wrap64 (atOf pl 3)))), .int .i64 (wrap64 (Int.tdiv (wrap64 (a3 * wrap64 (atOf pl 3))) 255)), .int .i64 (lessW a3 (atOf pl 3)), .pointer (some ⟨wr.heap.size, 2, none⟩), .pointer (some ⟨wr.heap.size, 3, none⟩), .int .i64 a4, .pointer (some ⟨wr.heap.size, 3, none⟩), .int .i64 a4, .slice Ap pl.length cp, .int .u8 (atOf pl 4), .int .i64 (wrap64 (atOf pl 4)), .int .i64 (wrap64 (a4 * (wrap64 (atOf pl 4)))), .int .i64 (wrap64 (Int.tdiv (wrap64 (a4 * wrap64 (atOf pl 4))) 255)), .int .i64 (lessW a4 (atOf pl 4)), .pointer (some ⟨wr.heap.size, 3, none⟩), .agg #[.slice A l.length c, .int .i64 fl, .int .i64 tg], .pointer (some ⟨W.heap.size, 1, none⟩), .int .i64 fl, .slice Ap pl.length cp, .int .u8 (atOf pl 5), .int .i64 (wrap64 (atOf pl 5)), .int .i64 (wrap64 (fl - (wrap64 (atOf pl 5)))), .int .i64 (lessF fl (atOf pl 5)), .pointer (some ⟨X17.heap.size, 1, none⟩), .pointer (some ⟨W.heap.size, 2, none⟩), .int .i64 tg, .slice Ap pl.length cp, .int .u8 (atOf pl 6), .int .i64 (wrap64 (atOf pl 6)), .int .i64 (wrap64 (tg + (wrap64 (atOf pl 6)))), .int .i64 (moreT tg (atOf pl 6)), .pointer (some ⟨X17.heap.size, 2, none⟩), undef, undef, undef, undef, undef, undef, undef, undef, undef, undef, undef, undef, undef, undef, undef, undef, undef, undef, undef, undef], defers := [] }
      mixed (by kernel_rfl) rfl (Ahead.of3 134 142 rfl rfl (by kernel_rfl) rfl rfl) ?_ (AllFlow.ops rfl ?_) rfl ?_
    · exact ⟨blkCell hI.hb 0, blkCell hI.hb 1, blkCell hI.hb 2, (Below.refl _ _).drew⟩
    · refine ⟨?_, ?_, ?_, ?_, ?_, ?_, ?_, ?_, trivial⟩
      · exact .val 134 _ rfl rfl fun V ⟨y0, y1, y2, hB_⟩ => by go_simp <;> exact IntWalk.i64_left _
      · exact .val 135 _ rfl rfl fun V ⟨y0, y1, y2, hB_⟩ => by go_simp <;> exact IntWalk.i64_left _
      · exact .val 136 _ rfl rfl fun V ⟨y0, y1, y2, hB_⟩ => by go_simp <;> exact IntWalk.i64_left _
      · refine .call 137 (.int .u8 (atOf pl 6)) 30 #[.slice Ap pl.length cp, .int .i64 6] rfl rfl (fun V ⟨y0, y1, y2, hB_⟩ => by go_simp) fun V ⟨y0, y1, y2, hB_⟩ => ?_
        refine (at_any Ap cp pl 6 _ (Kd.C_below hCp hB_) hlp (by omega)).mono ?_
        rintro e w' ⟨rfl, hb⟩
        exact ⟨rfl, cell_grow y0 hb, cell_grow y1 hb, cell_grow y2 hb, hB_.trans (hb.mono hB_.size)⟩
      · exact .val 138 _ rfl rfl fun V ⟨y0, y1, y2, hB_⟩ => by go_simp <;> exact IntWalk.i64_left _
      · exact .val 139 _ rfl rfl fun V ⟨y0, y1, y2, hB_⟩ => by go_simp <;> exact IntWalk.i64_left _
      · exact .val 140 _ rfl rfl fun V ⟨y0, y1, y2, hB_⟩ => by go_simp <;> rfl
      · exact .val 141 _ rfl rfl fun V ⟨y0, y1, y2, hB_⟩ => by go_simp <;> exact IntWalk.i64_left _
    rintro Y19 ⟨y0, y1, y2, hB_⟩
    clear hCp hlp hI y0 y1 y2
    have hc := heap_grow hc hB_
    have hx := heap_grow hx hB_
    have z0 := blkCell hc 0
    have z1 := blkCell hc 1
    have z2 := blkCell hc 2
    have z3 := blkFrozen hc 2
    have z4 := blkCell hx 0
    have z5 := blkCell hx 1
    have z6 := blkCell hx 2
    have z7 := blkCell hx 3
    have m3 : ¬ X17.heap.size = wr.heap.size := by omega
    have m4 : ¬ wr.heap.size = X17.heap.size := by omega
    simp at z0 z1 z2 z4 z5 z6 z7
    go_wp2_with fail
    clear z0 z1 z2 z3 z4 z5 z6 z7 m3 m4
    have hc := set_at hc 2 (.int .i64 (moreT tg (atOf pl 6)))
    have hx := (Below.heap_setCell Y19 ⟨X17.heap.size, 2, none⟩ (.int .i64 (moreT tg (atOf pl 6))) wr.heap.size (by simp; omega)).trans hx
    have hbx := (hbx.trans (hB_.mono hbx.size)).setCell (p := ⟨X17.heap.size, 2, none⟩) (by simp; omega) (.int .i64 (moreT tg (atOf pl 6)))
    replace hc : _ = some (Obj.cells #[.slice A l.length c, .int .i64 (lessF fl (atOf pl 5)), .int .i64 (moreT tg (atOf pl 6))] 24 (0, 0)) := hc
    clear hB_
    generalize (Y19.setCell ⟨X17.heap.size, 2, none⟩ (.int .i64 (moreT tg (atOf pl 6)))) = X20 at *
    have hBe := HI.out.1.be.trans (hbx.mono HI.out.1.be.size)
    refine (Holds_any A c l (lessF fl (atOf pl 5)) (moreT tg (atOf pl 6)) A1 c1 (thkOf l0 pl) (lessW a1 (atOf pl 1)) (lessW a2 (atOf pl 2)) (lessW a3 (atOf pl 3)) (lessW a4 (atOf pl 4)) _ (Kd.C_below HC.out.1 hBe) (Kd.C_below HT.out.1 hbx) (by have := HL.out.1; simp [thkOf]; omega) (by have := HL.out.2.1; omega)).mono ?_
    rintro e w7 ⟨rfl, hb⟩
    rw [more_law HR.out HP.out.2.2 HZ.out]
    have hB7 := hBe.trans (hb.mono hBe.size)
    clear hx hc hbx hBe hb
    go_wp2_with (first | (go_at_call 14; refine (lives_any _).mono ?_; rintro e w8 ⟨rfl, hb⟩))
    refine bodyPost_ret (v := .bool true) (by simp [results, Try.results5, go_sem]) rfl ⟨rfl, hB7.trans (hb.mono hB7.size)⟩
end Go.Proofs.Ythoofldinnfpiaa
