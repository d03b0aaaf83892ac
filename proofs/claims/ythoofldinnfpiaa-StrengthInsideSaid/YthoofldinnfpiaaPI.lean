import Derived.Test.YthoofldinnfpiaaPM
import Derived.Test.YthoofldinnfpiaaST
import Derived.Test.YthoofldinnfpiaaN40
import Derived.Test.YthoofldinnfpiaaNA
import Derived.Test.YthoofldinnfpiaaLP
import Derived.Test.YthoofldinnfpiaaN39
import Derived.Test.YthoofldinnfpiaaN41
namespace Go.Proofs.Ythoofldinnfpiaa
open Go.RowKit Go.Proofs.YthoofldinnfpiaaW.PrintWords Go.Proofs.YthoofldinnfpiaaW.PrintLast Go.Proofs.YthoofldinnfpiaaW.PrintMore
open Q
set_option linter.unusedVariables false
theorem at_f (l : List Int) (n : Int) (h0 : 0 ≤ n) : culletlaw05_at.f l n = some (atOf l n) := by
  unfold culletlaw05_at.f atOf
  by_cases h : n < (l.length : Int)
  · rw [if_pos h, if_pos h0]; rfl
  · rw [if_neg h, List.getD_eq_getElem?_getD, List.getElem?_eq_none (by omega)]; rfl
def pickE (a b n : Int) : Int := if a ≥ b then a else a + n % (b - a + 1)
theorem pickE_in {a b n : Int} (h : a ≤ b) (h0 : 0 ≤ n) : a ≤ pickE a b n ∧ pickE a b n ≤ b := by
  unfold pickE
  split
  · omega
  · have h1 := Int.emod_nonneg n (show b - a + 1 ≠ 0 by omega)
    have h2 := Int.emod_lt_of_pos n (show 0 < b - a + 1 by omega)
    omega
theorem pick_f {a b n : Int} (h1 : 0 ≤ a) (h2 : a ≤ b) (h3 : b ≤ 1000000000) (h4 : 0 ≤ n) (h5 : n ≤ 255) : culletlaw05_pick.f a b n = some (pickE a b n) := by
  have hp := pickE_in h2 h4
  unfold culletlaw05_pick.f
  unfold pickE at hp ⊢
  by_cases h : a ≥ b
  · rw [if_pos h, if_pos h]
  · rw [if_neg h] at hp ⊢
    rw [if_neg h, wrap64_id (n := b - a) (by omega) (by omega), wrap64_id (n := b - a + 1) (by omega) (by omega), if_neg (by omega), wrap64_id (n := n) (by omega) (by omega), Int.tmod_eq_emod_of_nonneg h4, wrap64_id (by omega) (by omega)]
theorem pick_any {a b n : Int} (w : World) (h1 : 0 ≤ a) (h2 : a ≤ b) (h3 : b ≤ 1000000000) (h4 : 0 ≤ n) (h5 : n ≤ 255) :
    Calls Try.prog 40 #[.agg #[.int .i64 a, .int .i64 b], .int .u8 n] w fun e w' => e = .returned (.int .i64 (pickE a b n)) ∧ Below w.heap.size w w' :=
  culletlaw05_pick.calls a b n _ w (pick_f h1 h2 h3 h4 h5)
theorem exact_any (a : Int) (w : World) : Calls Try.prog 32 #[.int .i64 a] w fun e w' => e = .returned (.agg #[.int .i64 a, .int .i64 a]) ∧ Below w.heap.size w w' :=
  culletlaw05_exact.calls a a a w rfl
/- a bottle with certain measures -/
def one (a b n : Int) : S29 := ⟨pickE a b n, pickE a b n⟩
def realAt (l : List S82) (pl : List Int) (k : Nat) : S82 :=
  ⟨one (rd_T82 l k).f0.f0 (rd_T82 l k).f0.f1 (atOf pl (4 * k)), one (rd_T82 l k).f1.f0 (rd_T82 l k).f1.f1 (atOf pl (4 * k + 1)), ⟨(rd_T82 l k).f2.f0, (rd_T82 l k).f2.f1⟩, one (rd_T82 l k).f3.f0 (rd_T82 l k).f3.f1 (atOf pl (4 * k + 2)), one (rd_T82 l k).f4.f0 (rd_T82 l k).f4.f1 (atOf pl (4 * k + 3))⟩
def realOf (l : List S82) (pl : List Int) : List S82 := (List.range l.length).map (realAt l pl)
theorem real_l0 {l : List S82} (fl tg : Int) {pl : List Int} (hok : l.all ringOk = true) (hl : l.length ≤ 100000) (wp : ∀ y ∈ pl, 0 ≤ y ∧ y ≤ 255) : ∀ (d i k : Nat), i ≤ l.length → l.length - i = d → d < k →
    culletlaw05_real.l0 k pl i l fl tg ((List.range i).map (realAt l pl)) fl tg = some (realOf l pl, fl, tg) := by
  intro d
  induction d with
  | zero =>
    intro i k hi hd hk
    obtain ⟨m, rfl⟩ : ∃ m, k = m + 1 := ⟨k - 1, by omega⟩
    rw [culletlaw05_real.l0, if_neg (by omega), show i = l.length by omega]
    rfl
  | succ d ih =>
    intro i k hi hd hk
    obtain ⟨m, rfl⟩ : ∃ m, k = m + 1 := ⟨k - 1, by omega⟩
    have hlt : i < l.length := by omega
    have hr := all_get hok hlt
    obtain ⟨r1, r2, r3, r4, r5, r6, r7, r8, r9, r10, r11, r12, r13, r14, r15⟩ := ring_ok hr
    have b0 := atOf_le wp (4 * i)
    have b1 := atOf_le wp (4 * i + 1)
    have b2 := atOf_le wp (4 * i + 2)
    have b3 := atOf_le wp (4 * i + 3)
    have hih := ih (i + 1) m (by omega) (by omega) (by omega)
    rw [List.range_succ, List.map_append, List.map_cons, List.map_nil] at hih
    have hra : realAt l pl i = ⟨one l[i].f0.f0 l[i].f0.f1 (atOf pl (4 * i)), one l[i].f1.f0 l[i].f1.f1 (atOf pl (4 * i + 1)), ⟨l[i].f2.f0, l[i].f2.f1⟩, one l[i].f3.f0 l[i].f3.f1 (atOf pl (4 * i + 2)), one l[i].f4.f0 l[i].f4.f1 (atOf pl (4 * i + 3))⟩ := by
      unfold realAt; rw [rd82 hlt]
    rw [hra] at hih
    rw [culletlaw05_real.l0, if_pos (by omega), if_pos (by omega), rd82 hlt, wrap64_id (n := 4 * (i : Int)) (by omega) (by omega), at_f pl _ (by omega), Option.bind_some, pick_f (by omega) r2 (by omega) b0.1 b0.2, Option.bind_some, culletlaw05_exact.f, Option.bind_some,
      wrap64_id (n := 4 * (i : Int) + 1) (by omega) (by omega), at_f pl _ (by omega), Option.bind_some, pick_f (by omega) r5 (by omega) b1.1 b1.2, Option.bind_some, culletlaw05_exact.f, Option.bind_some,
      wrap64_id (n := 4 * (i : Int) + 2) (by omega) (by omega), at_f pl _ (by omega), Option.bind_some, pick_f r10 r11 (by omega) b2.1 b2.2, Option.bind_some, culletlaw05_exact.f, Option.bind_some,
      wrap64_id (n := 4 * (i : Int) + 3) (by omega) (by omega), at_f pl _ (by omega), Option.bind_some, pick_f r13 r14 (by omega) b3.1 b3.2, Option.bind_some, culletlaw05_exact.f, Option.bind_some,
      if_pos (by rw [List.length_map, List.length_range]; omega), wrap64_id (n := (i : Int) + 1) (by omega) (by omega)]
    exact hih
theorem real_f {l : List S82} (fl tg : Int) {pl : List Int} (hok : l.all ringOk = true) (hl : l.length ≤ 100000) (wp : ∀ y ∈ pl, 0 ≤ y ∧ y ≤ 255) : culletlaw05_real.f (l.length + 1) l fl tg pl = some (realOf l pl, fl, tg) :=
  real_l0 fl tg hok hl wp l.length 0 (l.length + 1) (by omega) (by omega) (by omega)
theorem real_any (A : Option Addr) (c : Nat) {l : List S82} (fl tg : Int) (A1 : Option Addr) (c1 : Nat) {pl : List Int} (w : World) (hr : Kd.C k82 w A l.length l) (hc : l.length ≤ c) (hr1 : Kd.C (Kd.int .u8) w A1 pl.length pl) (hc1 : pl.length ≤ c1) (hok : l.all ringOk = true) (hl : l.length ≤ 100000) (wp : ∀ y ∈ pl, 0 ≤ y ∧ y ≤ 255) :
    Calls Try.prog 39 #[.agg #[.slice A l.length c, .int .i64 fl, .int .i64 tg], .slice A1 pl.length c1] w fun e w' => ∃ A' c', e = .returned (.agg #[.slice A' (realOf l pl).length c', .int .i64 fl, .int .i64 tg]) ∧ Kd.C k82 w' A' (realOf l pl).length (realOf l pl) ∧ (realOf l pl).length ≤ c' ∧ Below w.heap.size w w' := by
  refine (culletlaw05_real.calls _ A c l fl tg A1 c1 pl _ _ _ w hr hc hr1 hc1 (real_f fl tg hok hl wp)).mono ?_
  rintro e w' ⟨v, rfl, hv, hb⟩
  obtain ⟨A', c', rfl⟩ := Kd.R_slice hv
  exact ⟨A', c', rfl, (Kd.R_reads' hv).2.2, (Kd.R_reads' hv).2.1, hb⟩
theorem real_len (l : List S82) (pl : List Int) : (realOf l pl).length = l.length := by simp [realOf]
theorem real_get {l : List S82} {pl : List Int} {k : Nat} (h : k < l.length) (h' : k < (realOf l pl).length) : (realOf l pl)[k] = ⟨one l[k].f0.f0 l[k].f0.f1 (atOf pl (4 * k)), one l[k].f1.f0 l[k].f1.f1 (atOf pl (4 * k + 1)), ⟨l[k].f2.f0, l[k].f2.f1⟩, one l[k].f3.f0 l[k].f3.f1 (atOf pl (4 * k + 2)), one l[k].f4.f0 l[k].f4.f1 (atOf pl (4 * k + 3))⟩ := by
  simp only [realOf, List.getElem_map, List.getElem_range, realAt]
  rw [rd82 h]
/- thicknesses -/
def pickAt (th : List S29) (pl : List Int) (k : Nat) : S29 := one (rd_T29 th k).f0 (rd_T29 th k).f1 (atOf pl (wrap64 (5 * k)))
def pickC (th : List S29) (pl : List Int) (k : Nat) : List Value := [.int .i64 (pickAt th pl k).f0, .int .i64 (pickAt th pl k).f1]
def pickTh (th : List S29) (pl : List Int) : List S29 := (List.range th.length).map (pickAt th pl)
theorem pickTh_len (th : List S29) (pl : List Int) : (pickTh th pl).length = th.length := by simp [pickTh]
theorem rd29 {th : List S29} {k : Nat} (h : k < th.length) : rd_T29 th (k : Int) = th[k] := by simp [rd_T29, List.getD, h]
theorem pickTh_get {th : List S29} {pl : List Int} {k : Nat} (h : k < th.length) (h' : k < (pickTh th pl).length) : (pickTh th pl)[k] = one th[k].f0 th[k].f1 (atOf pl (wrap64 (5 * k))) := by
  simp only [pickTh, List.getElem_map, List.getElem_range, pickAt]
  rw [rd29 h]
theorem span_ok {a b L H n : Int} (h : spanB a b L H = true) (h0 : 0 ≤ n) : spanB (one a b n).f0 (one a b n).f1 L H = true := by
  simp only [spanB, Bool.and_eq_true, decide_eq_true_eq] at h ⊢
  have := pickE_in h.2.1 h0
  unfold one
  simp only
  omega
section
variable {l : List S82} {fl tg : Int} {th : List S29} {p f s o : Int} {pl : List Int}
theorem inside_r (hok : l.all ringOk = true) (wp : ∀ y ∈ pl, 0 ≤ y ∧ y ≤ 255) : ∀ k (h : k < l.length) (h' : k < (realOf l pl).length), (realOf l pl)[k].f0.f1 ≤ l[k].f0.f1 ∧ l[k].f0.f0 ≤ (realOf l pl)[k].f0.f0 ∧ (realOf l pl)[k].f3.f1 ≤ l[k].f3.f1 ∧ l[k].f3.f0 ≤ (realOf l pl)[k].f3.f0 ∧ (realOf l pl)[k].f4.f1 ≤ l[k].f4.f1 ∧ l[k].f4.f0 ≤ (realOf l pl)[k].f4.f0 := by
  intro k h h'
  obtain ⟨r1, r2, r3, r4, r5, r6, r7, r8, r9, r10, r11, r12, r13, r14, r15⟩ := ring_ok (all_get hok h)
  rw [real_get h h']
  have b0 := pickE_in r2 (atOf_le wp (4 * k)).1
  have b2 := pickE_in r11 (atOf_le wp (4 * k + 2)).1
  have b3 := pickE_in r14 (atOf_le wp (4 * k + 3)).1
  exact ⟨b0.2, b0.1, b2.2, b2.1, b3.2, b3.1⟩
theorem inside_t (hok : th.all okThick = true) (wp : ∀ y ∈ pl, 0 ≤ y ∧ y ≤ 255) : ∀ k (h : k < th.length) (h' : k < (pickTh th pl).length), th[k].f0 ≤ (pickTh th pl)[k].f0 ∧ (pickTh th pl)[k].f1 ≤ th[k].f1 := by
  intro k h h'
  obtain ⟨t1, t2, t3⟩ := thick_ok (List.all_eq_true.1 hok _ (List.getElem_mem h))
  rw [pickTh_get h h']
  have b := pickE_in t2 (atOf_le wp (wrap64 (5 * k))).1
  exact ⟨b.1, b.2⟩
theorem inside_asked (hz : askedOf l fl tg th p f s o = 0) (wp : ∀ y ∈ pl, 0 ≤ y ∧ y ≤ 255) : askedOf (realOf l pl) fl tg (pickTh th pl) p f s o = 0 := by
  obtain ⟨z1, z2, z3, z4⟩ := asked_zero hz
  obtain ⟨c1, c2, c3, c4, c5, c6, c7, c8, c9⟩ := check_zero z1
  have e1 : (realOf l pl).map (·.f2.f0) = l.map (·.f2.f0) := by
    refine List.ext_getElem (by simp [realOf]) fun k h h' => ?_
    rw [List.length_map] at h h'
    rw [List.getElem_map, List.getElem_map, real_get h' h]
  have e2 : (realOf l pl).map (·.f2.f1) = l.map (·.f2.f1) := by
    refine List.ext_getElem (by simp [realOf]) fun k h h' => ?_
    rw [List.length_map] at h h'
    rw [List.getElem_map, List.getElem_map, real_get h' h]
  have hlen := real_len l pl
  refine asked_make (check_make (by omega) (by omega) ?_ (by unfold lowSum at c4 ⊢; rw [e1]; exact c4) (by unfold highSum at c5 ⊢; rw [e2]; exact c5) c6 c7 c8 c9) (by rw [pickTh_len]; omega) ?_ z4
  · rw [List.all_eq_true]
    intro x hx
    obtain ⟨k, hk, rfl⟩ := List.getElem_of_mem hx
    have hk' : k < l.length := by omega
    have hr := all_get c3 hk'
    rw [real_get hk' hk]
    simp only [ringOk, Bool.and_eq_true] at hr ⊢
    exact ⟨span_ok hr.1 (atOf_le wp _).1, span_ok hr.2.1 (atOf_le wp _).1, hr.2.2.1, span_ok hr.2.2.2.1 (atOf_le wp _).1, span_ok hr.2.2.2.2 (atOf_le wp _).1⟩
  · rw [List.all_eq_true]
    intro x hx
    obtain ⟨k, hk, rfl⟩ := List.getElem_of_mem hx
    have hk' : k < th.length := by rw [pickTh_len] at hk; exact hk
    rw [pickTh_get hk' hk]
    exact span_ok (List.all_eq_true.1 z3 _ (List.getElem_mem hk')) (atOf_le wp _).1
theorem inside_l0 (a b : List S29) (hab : a.length = b.length) (hl : a.length ≤ 100000) (h : ∀ k (h1 : k < a.length) (h2 : k < b.length), b[k].f0 ≤ a[k].f0 ∧ a[k].f1 ≤ b[k].f1) : ∀ (d i k : Nat), i ≤ a.length → a.length - i = d → d < k → culletlaw05_inside.l0 k a b i = some true := by
  intro d
  induction d with
  | zero =>
    intro i k hi hd hk
    obtain ⟨m, rfl⟩ : ∃ m, k = m + 1 := ⟨k - 1, by omega⟩
    rw [culletlaw05_inside.l0, if_neg (by omega)]
  | succ d ih =>
    intro i k hi hd hk
    obtain ⟨m, rfl⟩ : ∃ m, k = m + 1 := ⟨k - 1, by omega⟩
    have h1 : i < a.length := by omega
    have h2 : i < b.length := by omega
    have := h i h1 h2
    rw [culletlaw05_inside.l0, if_pos (by omega), if_pos (by omega), if_pos (by omega), rd29 h1, rd29 h2, if_neg (by omega), if_neg (by omega), wrap64_id (n := (i : Int) + 1) (by omega) (by omega)]
    exact ih (i + 1) m (by omega) (by omega) (by omega)
theorem inside_f (hz : askedOf l fl tg th p f s o = 0) (wp : ∀ y ∈ pl, 0 ≤ y ∧ y ≤ 255) :
    ∃ K, culletlaw05_inside.f K (stressRes (realOf l pl) fl tg (pickTh th pl) p f s o).1 (stressRes l fl tg th p f s o).1 = some true := by
  have hz' := inside_asked hz wp
  obtain ⟨z1, z2, z3, z4⟩ := asked_zero hz
  obtain ⟨c1, c2, c3, c4, c5, c6, c7, c8, c9⟩ := check_zero z1
  have hlen := real_len l pl
  have hln := pickTh_len th pl
  have hp := (load_ok z4)
  have key := inside_all hz hz' hlen (inside_r c3 wp) (inside_t z3 wp) hp.1 hp.2.1
  unfold stressRes
  rw [if_pos hz, if_pos hz']
  refine ⟨l.length + 1, ?_⟩
  have e1 : (((realOf l pl).zip (pickTh th pl)).map (fun x => (⟨stLo x.1 x.2 p f s o, stHi x.1 x.2 p f s o⟩ : S29))).length = l.length := by rw [List.length_map, List.length_zip]; omega
  have e2 : ((l.zip th).map (fun x => (⟨stLo x.1 x.2 p f s o, stHi x.1 x.2 p f s o⟩ : S29))).length = l.length := by rw [List.length_map, List.length_zip]; omega
  unfold culletlaw05_inside.f
  simp only
  rw [if_pos (by rw [e1, e2]), show (0 : Int) = ((0 : Nat) : Int) from rfl]
  refine inside_l0 _ _ (by rw [e1, e2]) (by omega) (fun k h1 h2 => ?_) l.length 0 (l.length + 1) (by omega) (by omega) (by omega)
  have hk := key k (by omega) (by omega) (by omega) (by omega)
  simp only [List.getElem_map, List.getElem_zip]
  exact ⟨hk.2, hk.1⟩
/-- what the law's last conditions come to -/
theorem inside_end (hz : askedOf l fl tg th p f s o = 0) (wp : ∀ y ∈ pl, 0 ≤ y ∧ y ≤ 255) :
    ((holdsRes l fl tg th p f s o).1 = true → (holdsRes (realOf l pl) fl tg (pickTh th pl) p f s o).1 = true) ∧
    ((holdsRes l fl tg th p f s o).2.1 = true → (holdsRes (realOf l pl) fl tg (pickTh th pl) p f s o).2.1 = true) ∧
    ((holdsRes l fl tg th p f s o).1 = true → (holdsRes l fl tg th p f s o).2.1 = false) ∧
    (burstRes l fl tg th p f s o).1 ≤ (burstRes (realOf l pl) fl tg (pickTh th pl) p f s o).1 ∧
    (burstRes (realOf l pl) fl tg (pickTh th pl) p f s o).2.1 ≤ (burstRes l fl tg th p f s o).2.1 ∧
    (burstRes l fl tg th p f s o).1 < (burstRes l fl tg th p f s o).2.1 ∧
    (burstRes (realOf l pl) fl tg (pickTh th pl) p f s o).1 < (burstRes (realOf l pl) fl tg (pickTh th pl) p f s o).2.1 := by
  have hz' := inside_asked hz wp
  obtain ⟨z1, z2, z3, z4⟩ := asked_zero hz
  obtain ⟨c1, c2, c3, c4, c5, c6, c7, c8, c9⟩ := check_zero z1
  have hp := load_ok z4
  have iy := inside_yes hz hz' (real_len l pl) (inside_r c3 wp) (inside_t z3 wp) hp.1 hp.2.1
  have ib := inside_burst hz hz' (real_len l pl) (inside_r c3 wp) (inside_t z3 wp)
  refine ⟨?_, ?_, ?_, ib.1, ib.2, burst_order hz, burst_order hz'⟩
  · unfold holdsRes; rw [if_pos hz, if_pos hz']; exact iy.1
  · unfold holdsRes; rw [if_pos hz, if_pos hz']; exact iy.2
  · unfold holdsRes; rw [if_pos hz]; exact fun h => not_both hz h
theorem all_bad (hn : ¬ askedOf l fl tg th p f s o = 0) : stressRes l fl tg th p f s o = ([], askedOf l fl tg th p f s o) ∧ holdsRes l fl tg th p f s o = (false, false, askedOf l fl tg th p f s o) ∧ burstRes l fl tg th p f s o = (0, 0, askedOf l fl tg th p f s o) := by
  unfold stressRes holdsRes burstRes
  rw [if_neg hn, if_neg hn, if_neg hn]
  exact ⟨rfl, rfl, rfl⟩
theorem all_good (hz : askedOf l fl tg th p f s o = 0) : (stressRes l fl tg th p f s o).2 = 0 ∧ (holdsRes l fl tg th p f s o).2.2 = 0 ∧ (burstRes l fl tg th p f s o).2.2 = 0 := by
  unfold stressRes holdsRes burstRes
  rw [if_pos hz, if_pos hz, if_pos hz]
  exact ⟨rfl, rfl, rfl⟩
end
end Go.Proofs.Ythoofldinnfpiaa
