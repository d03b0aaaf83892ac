-- M2 M3 (wip/pack9.py)
import Derived.Test.YtbmkbokkmmdjdaaV5
section
namespace Go.Proofs.Ytbmkbokkmmdjdaa
open Go.RowKit Go.Proofs.YtbmkbokkmmdjdaaW.PrintWords Go.Proofs.YtbmkbokkmmdjdaaW.PrintLast Go.Proofs.YtbmkbokkmmdjdaaW.PrintMore
open Q Go.Shelf
attribute [local go_sem] Oper.semAt_some wide_depth wide_fn
set_option linter.unusedVariables false
set_option linter.unusedSimpArgs false
def isLot (k lot : Int) (x : S36) : Bool := x.f1 == k && x.f3 == lot
def isKind (k : Int) (x : S36) : Bool := x.f1 == k
def isHeap (x : S36) : Bool := x.f1 == 1 || x.f1 == 5
theorem enters53 : ∀ args w, (callFunc 53 args).run Try.prog w = .ok (.enter 53 args) w := enters_of Try.func53 (by kernel_rfl) rfl
theorem enters55 : ∀ args w, (callFunc 55 args).run Try.prog w = .ok (.enter 55 args) w := enters_of Try.func55 (by kernel_rfl) rfl
theorem enters82 : ∀ args w, (callFunc 82 args).run Try.prog w = .ok (.enter 82 args) w := enters_of Try.func82 (by kernel_rfl) rfl
theorem enters103 : ∀ args w, (callFunc 103 args).run Try.prog w = .ok (.enter 103 args) w := enters_of Try.func103 (by kernel_rfl) rfl
theorem lotp_any (x : S36) (Bk Bl : Nat) (k lot : Int) (W : World) (h1 : W.cell? ⟨Bk, 0, none⟩ = some (.int .u8 k)) (h2 : W.cell? ⟨Bl, 0, none⟩ = some (.int .i64 lot)) :
    Calls Try.prog 53 #[.agg #[.int .i64 x.f0, .int .u8 x.f1, .int .i64 x.f2, .int .i64 x.f3, .int .i64 x.f4.f0, .int .i64 x.f4.f1, .int .i64 x.f5.f0, .int .i64 x.f5.f1, .int .i64 x.f6.f0, .int .i64 x.f6.f1, .int .i64 x.f7], .pointer (some ⟨Bk, 0, none⟩), .pointer (some ⟨Bl, 0, none⟩)] W (RetBool (isLot k lot x) W) := by
  have hu := Try.underlying36
  have HB := Below.refl W.heap.size W
  have l1 := cell_lt h1
  have l2 := cell_lt h2
  unfold isLot
  cases hc : x.f1 == k with
  | true =>
    go_enter Try.func53, Try.ntmps53
    go_wp2
    go_ret
    exact ⟨by first | rfl | simp, HB.alloc (Nat.le_refl _) _⟩
  | false =>
    go_enter Try.func53, Try.ntmps53
    go_wp2
    go_ret
    exact ⟨by first | rfl | simp, HB.alloc (Nat.le_refl _) _⟩
theorem closedp_any (x : S36) (Bl : Nat) (lot : Int) (W : World) (h2 : W.cell? ⟨Bl, 0, none⟩ = some (.int .i64 lot)) :
    Calls Try.prog 55 #[.agg #[.int .i64 x.f0, .int .u8 x.f1, .int .i64 x.f2, .int .i64 x.f3, .int .i64 x.f4.f0, .int .i64 x.f4.f1, .int .i64 x.f5.f0, .int .i64 x.f5.f1, .int .i64 x.f6.f0, .int .i64 x.f6.f1, .int .i64 x.f7], .pointer (some ⟨Bl, 0, none⟩)] W (RetBool (isLot 4 lot x) W) := by
  have hu := Try.underlying36
  have HB := Below.refl W.heap.size W
  have l2 := cell_lt h2
  unfold isLot
  cases hc : x.f1 == 4 with
  | true =>
    go_enter Try.func55, Try.ntmps55
    go_wp2
    go_ret
    exact ⟨by first | rfl | simp, HB.alloc (Nat.le_refl _) _⟩
  | false =>
    go_enter Try.func55, Try.ntmps55
    go_wp2
    go_ret
    exact ⟨by first | rfl | simp, HB.alloc (Nat.le_refl _) _⟩
theorem kindp_any (x : S36) (Bl : Nat) (k : Int) (W : World) (h2 : W.cell? ⟨Bl, 0, none⟩ = some (.int .u8 k)) :
    Calls Try.prog 82 #[.agg #[.int .i64 x.f0, .int .u8 x.f1, .int .i64 x.f2, .int .i64 x.f3, .int .i64 x.f4.f0, .int .i64 x.f4.f1, .int .i64 x.f5.f0, .int .i64 x.f5.f1, .int .i64 x.f6.f0, .int .i64 x.f6.f1, .int .i64 x.f7], .pointer (some ⟨Bl, 0, none⟩)] W (RetBool (isKind k x) W) := by
  have hu := Try.underlying36
  have HB := Below.refl W.heap.size W
  have l2 := cell_lt h2
  unfold isKind
  go_enter Try.func82, Try.ntmps82
  go_wp2
  go_ret
  exact ⟨by first | rfl | simp, HB.alloc (Nat.le_refl _) _⟩
theorem brings_any (x : S36) (W : World) : Calls Try.prog 103 #[.agg #[.int .i64 x.f0, .int .u8 x.f1, .int .i64 x.f2, .int .i64 x.f3, .int .i64 x.f4.f0, .int .i64 x.f4.f1, .int .i64 x.f5.f0, .int .i64 x.f5.f1, .int .i64 x.f6.f0, .int .i64 x.f6.f1, .int .i64 x.f7]] W (RetBool (isHeap x) W) := by
  have hu := Try.underlying36
  have HB := Below.refl W.heap.size W
  unfold isHeap
  cases hc : x.f1 == 1 with
  | true =>
    go_enter Try.func103, Try.ntmps103
    go_wp2
    go_ret
    exact ⟨by first | rfl | simp, HB.alloc (Nat.le_refl _) _⟩
  | false =>
    go_enter Try.func103, Try.ntmps103
    go_wp2
    go_ret
    exact ⟨by first | rfl | simp, HB.alloc (Nat.le_refl _) _⟩
theorem ofKind_any (k : Int) (w : World) : Calls Try.prog 57 #[.int .u8 k] w fun e w' => e = .returned (.func (.func 82) #[] #[.pointer (some ⟨w.heap.size, 0, none⟩)]) ∧ w' = w.alloc (.cells #[.int .u8 k] 34) := by
  have hmf := makeFunc_any
  go_enter Try.func57, Try.ntmps57
  go_wp2
  go_ret
  exact ⟨rfl, rfl⟩
def idx (p : S36 → Bool) (l : List S36) : Int := if l.any p = true then (l.findIdx p : Int) else -1
theorem idx_at {p : S36 → Bool} {l : List S36} {k : Nat} (h : k < l.length) (hp : p l[k] = true) (hn : ∀ j (hj : j < l.length), j < k → p l[j] = false) : idx p l = k := by
  unfold idx
  rw [if_pos (any_some h hp)]
  congr 1
  exact (List.findIdx_eq h).2 ⟨hp, fun j hj => hn j (by omega) hj⟩
theorem idx_none {p : S36 → Bool} {l : List S36} (hn : ∀ j (hj : j < l.length), p l[j] = false) : idx p l = -1 := by
  unfold idx
  rw [any_none hn, if_neg (by decide)]
theorem idx_nonneg {p : S36 → Bool} {l : List S36} : decide (0 ≤ idx p l) = l.any p := by
  unfold idx
  cases h : l.any p
  · rw [if_neg (by decide)]; rfl
  · rw [if_pos rfl]; simp
theorem idx_lt {p : S36 → Bool} {l : List S36} (h : 0 ≤ idx p l) : (idx p l).toNat < l.length ∧ idx p l = (((idx p l).toNat : Nat) : Int) := by
  have hd : decide (0 ≤ idx p l) = true := decide_eq_true h
  rw [idx_nonneg] at hd
  have : idx p l = (l.findIdx p : Int) := by unfold idx; rw [if_pos hd]
  have h2 : l.findIdx p < l.length := List.findIdx_lt_length.2 (by simpa using List.any_eq_true.1 hd)
  rw [this]; omega
set_option maxRecDepth 100000 in
set_option maxHeartbeats 2000000 in
theorem index_any (g : Nat) (cap : Array Value) (eg : ∀ args w, (callFunc g args).run Try.prog w = .ok (.enter g args) w) (p : S36 → Bool) (A1 : Option Addr) (c1 : Nat) (l : List S36) (w : World) (hr : Kd.C k36 w A1 l.length l) (hl : l.length ≤ 1000000) (hp : AsksP g cap p l w) :
    Calls Try.prog 54 #[.slice A1 l.length c1, .func (.func g) #[] cap] w (RetInt (idx p l) w) := by
  have hu := Try.underlying36
  have HP := hid hp
  have HR := hid hr
  clear hp hr
  go_enter Try.func54, Try.ntmps54
  go_wp2
  go_loopw [8] (fun v8 wr => ∃ k : Nat, k ≤ l.length ∧ v8 = .int .i64 k ∧ Hid (Below w.heap.size w wr) ∧ Hid (∀ (j : Nat) (h : j < l.length), j < k → p l[j] = false)) (fun v8 _ => l.length - (intOf v8).toNat)
  case atStart => exact ⟨0, by omega, rfl, Below.refl _ _, fun _ _ h => absurd h (by omega)⟩
  case round =>
    obtain ⟨k, hk, rfl, HX, HK⟩ := hrel
    by_cases hlt : k < l.length
    · have hc := at_T36 (Kd.C_below HR.out HX.out) k (by omega) (by omega)
      rw [rdP hlt] at hc
      simp only [Int.toNat_natCast] at hc
      obtain ⟨ad, rfl, k0, k1, k2, k3, k4, k5, k6, k7, k8, k9, k10⟩ := hc
      rename World => Wk
      go_wp2_with fail
      refine (HP.out Wk l[k] (List.getElem_mem hlt) HX.out).mono ?_
      rintro e w' ⟨rfl, hb⟩
      have HB' := hid (HX.out.trans (hb.mono HX.out.size))
      clear hb k0 k1 k2 k3 k4 k5 k6 k7 k8 k9 k10 HX
      cases hpv : p l[k] with
      | true =>
        have HV := hid hpv
        clear hpv
        go_wp2
        go_ret
        exact ⟨ret_int (idx_at hlt HV.out fun j hj h => HK.out j hj h).symm, HB'.out⟩
      | false =>
        have HK' := hid (show ∀ (j : Nat) (h : j < l.length), j < k + 1 → p l[j] = false from fun j h hj => by
          by_cases e : j = k
          · subst e; exact hpv
          · exact HK.out j h (by omega))
        clear hpv HK
        go_wp2
        go_roundw
        case rel => exact ⟨k + 1, by omega, by go_num, HB', HK'⟩
        case measure => simp [intOf]; omega
    · go_wp2
      go_ret
      exact ⟨ret_int (idx_none fun j hj => HK.out j hj (by omega)).symm, HX.out⟩
theorem containsP_any (g : Nat) (cap : Array Value) (eg : ∀ args w, (callFunc g args).run Try.prog w = .ok (.enter g args) w) (p : S36 → Bool) (A1 : Option Addr) (c1 : Nat) (l : List S36) (w : World) (hr : Kd.C k36 w A1 l.length l) (hl : l.length ≤ 1000000) (hp : AsksP g cap p l w) :
    Calls Try.prog 56 #[.slice A1 l.length c1, .func (.func g) #[] cap] w (RetBool (l.any p) w) := by
  go_enter Try.func56, Try.ntmps56
  go_wp2_with (first | (go_at_call 54; refine (index_any g cap eg p A1 c1 l _ hr hl hp).mono ?_; rintro e w' ⟨rfl, hb⟩))
  go_ret
  exact ⟨ret_bool (by rw [← idx_nonneg]), hb⟩
theorem cnt_any {p : S36 → Bool} {l : List S36} : decide (0 < cnt p l) = l.any p := by
  unfold cnt
  cases h : l.any p
  · have : l.countP p = 0 := List.countP_eq_zero.2 fun x hx => by
      have := List.any_eq_false.1 h x hx; simpa using this
    rw [this]; rfl
  · obtain ⟨x, hx, hp⟩ := List.any_eq_true.1 h
    have : 0 < l.countP p := List.countP_pos_iff.2 ⟨x, hx, hp⟩
    exact decide_eq_true this
theorem lot_any (ho fi : S23) (A : Option Addr) (n c : Nat) (A1 : Option Addr) (c1 : Nat) (l : List S36) (k lot : Int) (w : World) (hr : Kd.C k36 w A1 l.length l) (hl : l.length ≤ 1000000) :
    Calls Try.prog 27 #[.agg #[.int .i64 ho.f0, .int .i64 ho.f1, .int .i64 fi.f0, .int .i64 fi.f1, .slice A n c, .slice A1 l.length c1], .int .u8 k, .int .i64 lot] w (RetBool (l.any (isLot k lot)) w) := by
  have hu2 := Try.underlying67
  have hmf := makeFunc_any
  have HB := Below.refl w.heap.size w
  go_enter Try.func27, Try.ntmps27
  go_wp2_with fail
  have e1 := alloc_old (o' := .cells #[.int .i64 lot] 3) (World.alloc_heap_new (w.alloc (.cells #[.int .i64 ho.f0, .int .i64 ho.f1, .int .i64 fi.f0, .int .i64 fi.f1, .slice A n c, .slice A1 l.length c1] 67)) (.cells #[.int .u8 k] 34))
  have e2 := World.alloc_heap_new ((w.alloc (.cells #[.int .i64 ho.f0, .int .i64 ho.f1, .int .i64 fi.f0, .int .i64 fi.f1, .slice A n c, .slice A1 l.length c1] 67)).alloc (.cells #[.int .u8 k] 34)) (.cells #[.int .i64 lot] 3)
  have hbel := ((HB.alloc (Nat.le_refl _) (.cells #[.int .i64 ho.f0, .int .i64 ho.f1, .int .i64 fi.f0, .int .i64 fi.f1, .slice A n c, .slice A1 l.length c1] 67)).alloc (by simp) (.cells #[.int .u8 k] 34)).alloc (by simp; omega) (.cells #[.int .i64 lot] 3)
  simp only [World.size_alloc] at e1 e2
  generalize (((w.alloc (.cells #[.int .i64 ho.f0, .int .i64 ho.f1, .int .i64 fi.f0, .int .i64 fi.f1, .slice A n c, .slice A1 l.length c1] 67)).alloc (.cells #[.int .u8 k] 34)).alloc (.cells #[.int .i64 lot] 3)) = W3 at *
  have hp : AsksP 53 #[.pointer (some ⟨w.heap.size + 1, 0, none⟩), .pointer (some ⟨w.heap.size + 1 + 1, 0, none⟩)] (isLot k lot) l W3 := by
    intro W x _ hW
    have := lotp_any x (w.heap.size + 1) (w.heap.size + 1 + 1) k lot W (blkCell (heap_grow e1 hW) 0) (blkCell (heap_grow e2 hW) 0)
    simpa only [postV, List.push_toArray, List.append_toArray, List.cons_append, List.nil_append] using this
  refine (count_any 53 _ enters53 (isLot k lot) ho fi A n c A1 c1 l _ (Kd.C_below hr hbel) hl hp).mono ?_
  rintro e w4 ⟨rfl, hb⟩
  have HB4 := hid (hbel.trans (hb.mono hbel.size))
  clear e1 e2 hbel hb hp HB
  go_wp2
  go_ret
  exact ⟨ret_bool (by rw [← cnt_any]), HB4.out⟩
theorem heaps_any (ho fi : S23) (A : Option Addr) (n c : Nat) (A1 : Option Addr) (c1 : Nat) (l : List S36) (w : World) (hr : Kd.C k36 w A1 l.length l) (hl : l.length ≤ 1000000) :
    Calls Try.prog 52 #[.agg #[.int .i64 ho.f0, .int .i64 ho.f1, .int .i64 fi.f0, .int .i64 fi.f1, .slice A n c, .slice A1 l.length c1], .func (.func 103) #[] #[]] w (RetInt (cnt isHeap l) w) := by
  refine count_any 103 #[] enters103 isHeap ho fi A n c A1 c1 l w hr hl ?_
  intro W x _ hW
  have := brings_any x W
  simpa only [postV, List.push_toArray, List.append_toArray, List.cons_append, List.nil_append] using this
def fullErr (l : List S36) : Int := if 64 ≤ cnt isHeap l then 3 else 0
theorem full_any (ho fi : S23) (A : Option Addr) (n c : Nat) (A1 : Option Addr) (c1 : Nat) (l : List S36) (w : World) (hr : Kd.C k36 w A1 l.length l) (hl : l.length ≤ 1000000) :
    Calls Try.prog 102 #[.agg #[.int .i64 ho.f0, .int .i64 ho.f1, .int .i64 fi.f0, .int .i64 fi.f1, .slice A n c, .slice A1 l.length c1]] w (RetInt (fullErr l) w) := by
  have hu2 := Try.underlying67
  have HB := Below.refl w.heap.size w
  have hbel := HB.alloc (Nat.le_refl _) (.cells #[.int .i64 ho.f0, .int .i64 ho.f1, .int .i64 fi.f0, .int .i64 fi.f1, .slice A n c, .slice A1 l.length c1] 67)
  by_cases h : 64 ≤ cnt isHeap l
  · have d1 : decide ((64 : Int) ≤ (cnt isHeap l : Int)) = true := decide_eq_true (by omega)
    have d2 : decide (64 ≤ cnt isHeap l) = true := decide_eq_true h
    have HV := hid (show fullErr l = 3 by unfold fullErr; rw [if_pos h])
    clear h
    go_enter Try.func102, Try.ntmps102
    go_wp2_with (first | (go_at_call 52; refine (heaps_any ho fi A n c A1 c1 l _ (Kd.C_below hr hbel) hl).mono ?_; rintro e w4 ⟨rfl, hb⟩))
    go_ret
    exact ⟨ret_int HV.out.symm, hbel.trans (hb.mono hbel.size)⟩
  · have d1 : decide ((64 : Int) ≤ (cnt isHeap l : Int)) = false := decide_eq_false (by omega)
    have d2 : decide (64 ≤ cnt isHeap l) = false := decide_eq_false h
    have HV := hid (show fullErr l = 0 by unfold fullErr; rw [if_neg h])
    clear h
    go_enter Try.func102, Try.ntmps102
    go_wp2_with (first | (go_at_call 52; refine (heaps_any ho fi A n c A1 c1 l _ (Kd.C_below hr hbel) hl).mono ?_; rintro e w4 ⟨rfl, hb⟩))
    go_ret
    exact ⟨ret_int HV.out.symm, hbel.trans (hb.mono hbel.size)⟩
end Go.Proofs.Ytbmkbokkmmdjdaa
end
section
namespace Go.Proofs.Ytbmkbokkmmdjdaa
open Go.RowKit Go.Proofs.YtbmkbokkmmdjdaaW.PrintWords Go.Proofs.YtbmkbokkmmdjdaaW.PrintLast Go.Proofs.YtbmkbokkmmdjdaaW.PrintMore
open Q Go.Shelf
attribute [local go_sem] Oper.semAt_some wide_depth wide_fn
set_option linter.unusedVariables false
set_option linter.unusedSimpArgs false
def closedB (lot : Int) (l : List S36) : Bool := decide (0 ≤ idx (isLot 4 lot) l) && (l.drop (idx (isLot 4 lot) l).toNat).any (isKind 6)
set_option maxRecDepth 100000 in
set_option maxHeartbeats 2000000 in
set_option pp.deepTerms true in
set_option pp.maxSteps 1000000 in
theorem closed_any (ho fi : S23) (A : Option Addr) (n c : Nat) (A1 : Option Addr) (c1 : Nat) (l : List S36) (lot : Int) (w : World) (hr : Kd.C k36 w A1 l.length l) (hl : l.length ≤ 1000000) (hc : l.length ≤ c1) :
    Calls Try.prog 28 #[.agg #[.int .i64 ho.f0, .int .i64 ho.f1, .int .i64 fi.f0, .int .i64 fi.f1, .slice A n c, .slice A1 l.length c1], .int .i64 lot] w (RetBool (closedB lot l) w) := by
  have hu2 := Try.underlying67
  have hmf := makeFunc_any
  have HB := Below.refl w.heap.size w
  go_enter Try.func28, Try.ntmps28
  go_wp2_with fail
  have e0 := alloc_old (o' := .cells #[.int .i64 lot] 3) (World.alloc_heap_new w (.cells #[.int .i64 ho.f0, .int .i64 ho.f1, .int .i64 fi.f0, .int .i64 fi.f1, .slice A n c, .slice A1 l.length c1] 67))
  have e1 := World.alloc_heap_new (w.alloc (.cells #[.int .i64 ho.f0, .int .i64 ho.f1, .int .i64 fi.f0, .int .i64 fi.f1, .slice A n c, .slice A1 l.length c1] 67)) (.cells #[.int .i64 lot] 3)
  have hbel := (HB.alloc (Nat.le_refl _) (.cells #[.int .i64 ho.f0, .int .i64 ho.f1, .int .i64 fi.f0, .int .i64 fi.f1, .slice A n c, .slice A1 l.length c1] 67)).alloc (by simp) (.cells #[.int .i64 lot] 3)
  simp only [World.size_alloc] at e1
  generalize ((w.alloc (.cells #[.int .i64 ho.f0, .int .i64 ho.f1, .int .i64 fi.f0, .int .i64 fi.f1, .slice A n c, .slice A1 l.length c1] 67)).alloc (.cells #[.int .i64 lot] 3)) = W1 at *
  have hp : AsksP 55 #[.pointer (some ⟨w.heap.size + 1, 0, none⟩)] (isLot 4 lot) l W1 := by
    intro W x _ hW
    have := closedp_any x (w.heap.size + 1) lot W (blkCell (heap_grow e1 hW) 0)
    simpa only [postV, List.push_toArray, List.append_toArray, List.cons_append, List.nil_append] using this
  refine (index_any 55 _ enters55 (isLot 4 lot) A1 c1 l _ (Kd.C_below hr hbel) hl hp).mono ?_
  rintro e W2 ⟨rfl, hb⟩
  have HB2 := hid (hbel.trans (hb.mono hbel.size))
  have e0 := heap_grow e0 hb
  have y0 := blkCell e0 0
  have y1 := blkCell e0 1
  have y2 := blkCell e0 2
  have y3 := blkCell e0 3
  have y4 := blkCell e0 4
  have y5 := blkCell e0 5
  simp at y0 y1 y2 y3 y4 y5
  clear e0 e1 hbel hb hp HB
  by_cases h0 : 0 ≤ idx (isLot 4 lot) l
  · have hd : decide (0 ≤ idx (isLot 4 lot) l) = true := decide_eq_true h0
    obtain ⟨i1, i2⟩ := idx_lt h0
    have hC := Kd.C_drop (m := (idx (isLot 4 lot) l).toNat) (Kd.C_below hr HB2.out) (by omega) hc
    rw [if_neg (by omega)] at hC
    have HH := hid (And.intro h0 (And.intro i1 (And.intro i2 hC)))
    have g1 : decide (idx (isLot 4 lot) l ≤ (l.length : Int)) = true := decide_eq_true (by omega)
    have g2 : decide (idx (isLot 4 lot) l ≤ (c1 : Int)) = true := decide_eq_true (by omega)
    clear i1 i2 hC h0
    go_wp2_with fail
    refine wp_flow8 [[], [0], [1, 0], [2, 1, 0], [3, 2, 1, 0], [2, 1, 0], [4, 3, 2, 1, 0, 5], [2, 1, 0], [6, 4, 3, 2, 1, 0, 5, 7], [2, 1, 0, 8, 6, 4, 3, 5, 7], [9, 2, 1, 0, 8, 6, 4, 3, 5, 7]] 7
      (fun V => V.cell? ⟨w.heap.size, 0, none⟩ = some (.int .i64 ho.f0) ∧ V.cell? ⟨w.heap.size, 1, none⟩ = some (.int .i64 ho.f1) ∧ V.cell? ⟨w.heap.size, 2, none⟩ = some (.int .i64 fi.f0) ∧ V.cell? ⟨w.heap.size, 3, none⟩ = some (.int .i64 fi.f1) ∧ V.cell? ⟨w.heap.size, 4, none⟩ = some (.slice A n c) ∧ V.cell? ⟨w.heap.size, 5, none⟩ = some (.slice A1 l.length c1) ∧ Below W2.heap.size W2 V)
      (fun u V => (V.cell? ⟨w.heap.size, 0, none⟩ = some (.int .i64 ho.f0) ∧ V.cell? ⟨w.heap.size, 1, none⟩ = some (.int .i64 ho.f1) ∧ V.cell? ⟨w.heap.size, 2, none⟩ = some (.int .i64 fi.f0) ∧ V.cell? ⟨w.heap.size, 3, none⟩ = some (.int .i64 fi.f1) ∧ V.cell? ⟨w.heap.size, 4, none⟩ = some (.slice A n c) ∧ V.cell? ⟨w.heap.size, 5, none⟩ = some (.slice A1 l.length c1) ∧ Below W2.heap.size W2 V) ∧ ∃ Bx, u = .func (.func 82) #[] #[.pointer (some ⟨Bx, 0, none⟩)] ∧ V.cell? ⟨Bx, 0, none⟩ = some (.int .u8 6))
      { tmps := #[.agg #[.int .i64 ho.f0, .int .i64 ho.f1, .int .i64 fi.f0, .int .i64 fi.f1, .slice A n c, .slice A1 l.length c1], .int .i64 lot, .pointer (some ⟨w.heap.size, 0, none⟩), .pointer (some ⟨w.heap.size + 1, 0, none⟩), .bool false, .int .i64 (idx (isLot 4 lot) l), .pointer (some ⟨w.heap.size, 5, none⟩), .slice A1 l.length c1, .func (.func 55) #[] #[.pointer (some ⟨w.heap.size + 1, 0, none⟩)], .int .i64 (idx (isLot 4 lot) l), .int .i64 (idx (isLot 4 lot) l), .bool true, .bool true, .pointer (some ⟨w.heap.size, 5, none⟩), .slice A1 l.length c1, .int .i64 (idx (isLot 4 lot) l), .slice (A1.map (·.add ((idx (isLot 4 lot) l).toNat * 11))) (l.length - (idx (isLot 4 lot) l).toNat) (c1 - (idx (isLot 4 lot) l).toNat), undef, undef, undef], defers := [] }
      mixed (by kernel_rfl) rfl (Ahead.of3 10 17 rfl rfl (by kernel_rfl) rfl rfl) ?_ ?_ ?_ rfl ?_
    · exact ⟨y0, y1, y2, y3, y4, y5, (Below.refl _ _).drew⟩
    · refine EachOp3.ops rfl ⟨?_, ?_, ?_, ?_, ?_, ?_, ?_, trivial⟩
      · exact .inr (LookOp.either (fun _ _ h => h.1) (LookOp.val 10 _ rfl rfl fun V ⟨y0, y1, y2, y3, y4, y5, hB_⟩ => by go_simp))
      · exact .inr (LookOp.either (fun _ _ h => h.1) (LookOp.val 11 _ rfl rfl fun V ⟨y0, y1, y2, y3, y4, y5, hB_⟩ => by go_simp))
      · exact .inr (LookOp.either (fun _ _ h => h.1) (LookOp.val 12 _ rfl rfl fun V ⟨y0, y1, y2, y3, y4, y5, hB_⟩ => by go_simp))
      · exact .inr (LookOp.either (fun _ _ h => h.1) (LookOp.val 13 _ rfl rfl fun V ⟨y0, y1, y2, y3, y4, y5, hB_⟩ => by go_simp))
      · exact .inr (LookOp.either (fun _ _ h => h.1) (LookOp.val 14 _ rfl rfl fun V ⟨y0, y1, y2, y3, y4, y5, hB_⟩ => by go_simp))
      · exact .inr (LookOp.either (fun _ _ h => h.1) (LookOp.val 15 _ rfl rfl fun V ⟨y0, y1, y2, y3, y4, y5, hB_⟩ => by go_simp))
      · exact .inr (LookOp.either (fun _ _ h => h.1) (LookOp.val 16 _ rfl rfl fun V ⟨y0, y1, y2, y3, y4, y5, hB_⟩ => by go_simp <;> rw [if_pos ⟨HH.out.1, by have := HH.out.2.1; omega⟩, if_neg (by have := HH.out.2.1; omega)]))
    · refine ⟨rfl, fun V ⟨y0, y1, y2, y3, y4, y5, hB_⟩ => ⟨57, #[.int .u8 6], V, by go_simp, ?_⟩⟩
      refine (ofKind_any 6 V).mono ?_
      rintro e w' ⟨rfl, rfl⟩
      have hgr := (Below.refl V.heap.size V).alloc (Nat.le_refl _) (.cells #[.int .u8 6] 34)
      exact ⟨_, rfl, ⟨cell_grow y0 hgr, cell_grow y1 hgr, cell_grow y2 hgr, cell_grow y3 hgr, cell_grow y4 hgr, cell_grow y5 hgr, hB_.trans (hgr.mono hB_.size)⟩, _, rfl, blkCell (World.alloc_heap_new V (.cells #[.int .u8 6] 34)) 0⟩
    · rintro u W8 ⟨⟨y0, y1, y2, y3, y4, y5, hB_⟩, Bx, rfl, hbx⟩
      have HB8 := hid (HB2.out.trans (hB_.mono HB2.out.size))
      have hC := Kd.C_below HH.out.2.2.2 hB_
      have hp : AsksP 82 #[.pointer (some ⟨Bx, 0, none⟩)] (isKind 6) (l.drop (idx (isLot 4 lot) l).toNat) W8 := by
        intro W x _ hW
        have := kindp_any x Bx 6 W (cell_grow hbx hW)
        simpa only [postV, List.push_toArray, List.append_toArray, List.cons_append, List.nil_append] using this
      have hcon := containsP_any 82 _ enters82 (isKind 6) (A1.map (·.add ((idx (isLot 4 lot) l).toNat * 11))) (c1 - (idx (isLot 4 lot) l).toNat) (l.drop (idx (isLot 4 lot) l).toNat) W8 hC (by simp; omega) hp
      rw [List.length_drop] at hcon
      have HCON := hid hcon
      clear hC hp hcon y0 y1 y2 y3 y4 y5 hB_ hbx hd g1 g2
      go_wp2_with fail
      refine HCON.out.mono ?_
      rintro e w9 ⟨rfl, hb⟩
      have HB9 := hid (HB8.out.trans (hb.mono HB8.out.size))
      clear hb HCON
      go_wp2
      go_ret
      exact ⟨ret_bool (by unfold closedB; rw [decide_eq_true HH.out.1]; rfl), HB9.out⟩
  · have hd : decide (0 ≤ idx (isLot 4 lot) l) = false := decide_eq_false h0
    have HV := hid (show closedB lot l = false by unfold closedB; rw [hd]; rfl)
    clear h0
    go_wp2_with fail
    refine wp_flow [[], [0], [1, 0], [2, 1, 0], [3, 2, 1, 0], [2, 1, 0], [4, 3, 2, 1, 0, 5], [2, 1, 0], [6, 4, 3, 2, 1, 0, 5, 7], [2, 1, 0, 8, 6, 4, 3, 5, 7], [9, 2, 1, 0, 8, 6, 4, 3, 5, 7]] 10
      (fun V => Below W2.heap.size W2 V)
      { tmps := #[.agg #[.int .i64 ho.f0, .int .i64 ho.f1, .int .i64 fi.f0, .int .i64 fi.f1, .slice A n c, .slice A1 l.length c1], .int .i64 lot, .pointer (some ⟨w.heap.size, 0, none⟩), .pointer (some ⟨w.heap.size + 1, 0, none⟩), .bool false, .int .i64 (idx (isLot 4 lot) l), .pointer (some ⟨w.heap.size, 5, none⟩), .slice A1 l.length c1, .func (.func 55) #[] #[.pointer (some ⟨w.heap.size + 1, 0, none⟩)], .int .i64 (idx (isLot 4 lot) l), .int .i64 (idx (isLot 4 lot) l), .bool false, .bool false, undef, undef, undef, undef, undef, undef, .bool false], defers := [] }
      mixed (by kernel_rfl) rfl (Ahead.of3 10 20 rfl rfl (by kernel_rfl) rfl rfl) ?_ (AllFlow.ops rfl ?_) rfl ?_
    · exact (Below.refl _ _).drew
    · refine ⟨?_, ?_, ?_, ?_, ?_, ?_, ?_, ?_, ?_, ?_, trivial⟩
      · exact .val 10 _ rfl rfl fun V hB_ => by go_simp
      · exact .val 11 _ rfl rfl fun V hB_ => by go_simp
      · exact .val 12 _ rfl rfl fun V hB_ => by go_simp
      · exact .off 13 rfl rfl
      · exact .off 14 rfl rfl
      · exact .off 15 rfl rfl
      · exact .off 16 rfl rfl
      · exact .off 17 rfl rfl
      · exact .off 18 rfl rfl
      · exact .val 19 _ rfl rfl fun V hB_ => by go_simp
    · rintro V7 hB_
      have HB7 := hid (HB2.out.trans (hB_.mono HB2.out.size))
      clear hB_ y0 y1 y2 y3 y4 y5
      go_wp2
      go_ret
      exact ⟨ret_bool HV.out.symm, HB7.out⟩
end Go.Proofs.Ytbmkbokkmmdjdaa
end
