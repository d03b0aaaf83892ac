-- M6 SP K1 (wip/pack9.py)
import Derived.Test.YtbmkbokkmmdjdaaV8
import Derived.Test.YtbmkbokkmmdjdaaV9
import Derived.Test.YtbmkbokkmmdjdaaV7
section
namespace Go.Proofs.Ytbmkbokkmmdjdaa
open Go.RowKit Go.Proofs.YtbmkbokkmmdjdaaW.PrintWords Go.Proofs.YtbmkbokkmmdjdaaW.PrintLast Go.Proofs.YtbmkbokkmmdjdaaW.PrintMore
open Q Go.Shelf
attribute [local go_sem] Oper.semAt_some wide_depth wide_fn
set_option linter.unusedVariables false
set_option linter.unusedSimpArgs false
def entryErr (x : S36) (l : List S36) : Int := if x.f1 = 1 then inErr x l else if x.f1 = 2 then chargeErr x l else if x.f1 = 3 then 0 else if x.f1 = 4 then packErr x l else if x.f1 = 5 then fullErr l else if x.f1 = 6 then 0 else if x.f1 = 7 then claimErr x l else thereErr x.f3 l
def bareOf (x : S36) : S36 := if x.f1 = 1 then { x with f4 := z23, f5 := z23, f6 := z23 } else if x.f1 = 2 then { x with f4 := z23, f2 := 0 } else if x.f1 = 3 then { x with f4 := z23 } else if x.f1 = 4 then { x with f4 := z23, f3 := 0 } else if x.f1 = 5 then { x with f4 := z23 } else if x.f1 = 6 then x else if x.f1 = 7 then { x with f3 := 0, f7 := 0 } else { x with f3 := 0 }
def postErr (l : List S36) (i : Nat) : Int := if 1 ≤ (l.getD i z36).f1 ∧ (l.getD i z36).f1 ≤ 8 then postRes (decide ((l.getD i z36).f1 ≤ 5)) (entryErr (l.getD i z36) (l.take i)) (bareOf (l.getD i z36)) (l.getD i z36) l i else 1
set_option maxRecDepth 100000 in
set_option maxHeartbeats 8000000 in
theorem post_none (i : Nat) (ho fi : S23) (A : Option Addr) (c : Nat) (l : List S36) (w : World) (hr : Kd.C k36 w A l.length l) (hl : l.length ≤ 1000000) (hi : i < l.length) (x : S36) (hx : l[i] = x) (hk : ¬ (1 ≤ x.f1 ∧ x.f1 ≤ 8)) :
    Calls Try.prog 33 #[.agg #[.int .i64 ho.f0, .int .i64 ho.f1, .int .i64 fi.f0, .int .i64 fi.f1, .slice A l.length c], .int .i64 i] w (RetInt 1 w) := by
  have hu := Try.underlying36
  have hu1 := Try.underlying26
  have HB := Below.refl w.heap.size w
  have hbel := hid (HB.alloc (Nat.le_refl _) (.cells #[.int .i64 ho.f0, .int .i64 ho.f1, .int .i64 fi.f0, .int .i64 fi.f1, .slice A l.length c] 26))
  have hcc := at_T36 (Kd.C_below hr hbel.out) i (by omega) (by omega)
  rw [rdP hi, hx] at hcc
  simp only [Int.toNat_natCast] at hcc
  obtain ⟨ad, rfl, k0, k1, k2, k3, k4, k5, k6, k7, k8, k9, k10⟩ := hcc
  have HK := hid hk
  clear hk
  go_enter Try.func33, Try.ntmps33
  go_wp2_with fail
  have HB1 := hid (hbel.out.alloc hbel.out.size (.cells #[.int .i64 x.f0, .int .u8 x.f1, .int .i64 x.f2, .int .i64 x.f3, .int .i64 x.f4.f0, .int .i64 x.f4.f1, .int .i64 x.f5.f0, .int .i64 x.f5.f1, .int .i64 x.f6.f0, .int .i64 x.f6.f1, .int .i64 x.f7] 36))
  generalize ((w.alloc (.cells #[.int .i64 ho.f0, .int .i64 ho.f1, .int .i64 fi.f0, .int .i64 fi.f1, .slice (some ad) l.length c] 26)).alloc (.cells #[.int .i64 x.f0, .int .u8 x.f1, .int .i64 x.f2, .int .i64 x.f3, .int .i64 x.f4.f0, .int .i64 x.f4.f1, .int .i64 x.f5.f0, .int .i64 x.f5.f1, .int .i64 x.f6.f0, .int .i64 x.f6.f1, .int .i64 x.f7] 36)) = W2 at *
  refine (of_none x _ HK.out).mono ?_
  rintro e W3 ⟨rfl, hb⟩
  have HB3 := hid (HB1.out.trans (hb.mono HB1.out.size))
  clear hb HB1 hbel HB k0 k1 k2 k3 k4 k5 k6 k7 k8 k9 k10
  go_wp2
  go_ret
  exact ⟨rfl, HB3.out⟩
theorem bare1_any (x : S36) (h : x.f1 = 1) (W : World) : Calls Try.prog 99 #[.agg #[.int .i64 x.f0, .int .u8 x.f1, .int .i64 x.f2, .int .i64 x.f3, .int .i64 x.f4.f0, .int .i64 x.f4.f1, .int .i64 x.f5.f0, .int .i64 x.f5.f1, .int .i64 x.f6.f0, .int .i64 x.f6.f1, .int .i64 x.f7]] W fun e w' => e = .returned (.agg #[.int .i64 (bareOf x).f0, .int .u8 (bareOf x).f1, .int .i64 (bareOf x).f2, .int .i64 (bareOf x).f3, .int .i64 (bareOf x).f4.f0, .int .i64 (bareOf x).f4.f1, .int .i64 (bareOf x).f5.f0, .int .i64 (bareOf x).f5.f1, .int .i64 (bareOf x).f6.f0, .int .i64 (bareOf x).f6.f1, .int .i64 (bareOf x).f7]) ∧ Below W.heap.size W w' := by
  have hb : bareOf x = { x with f4 := z23, f5 := z23, f6 := z23 } := by unfold bareOf; rw [if_pos h]
  rw [hb]
  exact bare1 x W
set_option maxRecDepth 100000 in
theorem post1 (i : Nat) (ho fi : S23) (A : Option Addr) (c : Nat) (l : List S36) (w : World) (hr : Kd.C k36 w A l.length l) (hl : l.length ≤ 1000000) (hc : l.length ≤ c) (hi : i < l.length) (x : S36) (hx : l[i] = x) (hk : x.f1 = 1) :
    Calls Try.prog 33 #[.agg #[.int .i64 ho.f0, .int .i64 ho.f1, .int .i64 fi.f0, .int .i64 fi.f1, .slice A l.length c], .int .i64 i] w (RetInt (postRes true (inErr x (l.take i)) (bareOf x) x l i) w) := by
  have hlt : (l.take i).length = i := by simp; omega
  refine post_any 145 101 100 99 true (inErr x (l.take i)) (bareOf x) i ho fi A c l w hr hl hc hi x hx (fun W => of1 x W hk) (fun W => by kernel_rfl) (fun W => by kernel_rfl) (fun W => by kernel_rfl) (fun W => by kernel_rfl)
    (enters_of Try.func101 (by kernel_rfl) rfl) (enters_of Try.func100 (by kernel_rfl) rfl) (enters_of Try.func99 (by kernel_rfl) rfl) (fun W => weighs1 x W) (fun W hW => ?_) (fun W => bare1_any x hk W)
  have hC := Kd.C_take (m := i) (Kd.C_below hr hW) (by omega)
  have := check1 x ho fi A l.length c A c (l.take i) W hC (by omega) (by omega)
  rw [hlt] at this
  exact this
theorem bare2_any (x : S36) (h : x.f1 = 2) (W : World) : Calls Try.prog 104 #[.agg #[.int .i64 x.f0, .int .u8 x.f1, .int .i64 x.f2, .int .i64 x.f3, .int .i64 x.f4.f0, .int .i64 x.f4.f1, .int .i64 x.f5.f0, .int .i64 x.f5.f1, .int .i64 x.f6.f0, .int .i64 x.f6.f1, .int .i64 x.f7]] W fun e w' => e = .returned (.agg #[.int .i64 (bareOf x).f0, .int .u8 (bareOf x).f1, .int .i64 (bareOf x).f2, .int .i64 (bareOf x).f3, .int .i64 (bareOf x).f4.f0, .int .i64 (bareOf x).f4.f1, .int .i64 (bareOf x).f5.f0, .int .i64 (bareOf x).f5.f1, .int .i64 (bareOf x).f6.f0, .int .i64 (bareOf x).f6.f1, .int .i64 (bareOf x).f7]) ∧ Below W.heap.size W w' := by
  have hb : bareOf x = { x with f4 := z23, f2 := 0 } := by unfold bareOf; rw [if_neg (by omega), if_pos h]
  rw [hb]
  exact bare2 x W
set_option maxRecDepth 100000 in
theorem post2 (i : Nat) (ho fi : S23) (A : Option Addr) (c : Nat) (l : List S36) (w : World) (hr : Kd.C k36 w A l.length l) (hl : l.length ≤ 1000000) (hc : l.length ≤ c) (hi : i < l.length) (x : S36) (hx : l[i] = x) (hk : x.f1 = 2) :
    Calls Try.prog 33 #[.agg #[.int .i64 ho.f0, .int .i64 ho.f1, .int .i64 fi.f0, .int .i64 fi.f1, .slice A l.length c], .int .i64 i] w (RetInt (postRes true (chargeErr x (l.take i)) (bareOf x) x l i) w) := by
  have hlt : (l.take i).length = i := by simp; omega
  refine post_any 146 106 105 104 true (chargeErr x (l.take i)) (bareOf x) i ho fi A c l w hr hl hc hi x hx (fun W => of2 x W hk) (fun W => by kernel_rfl) (fun W => by kernel_rfl) (fun W => by kernel_rfl) (fun W => by kernel_rfl)
    (enters_of Try.func106 (by kernel_rfl) rfl) (enters_of Try.func105 (by kernel_rfl) rfl) (enters_of Try.func104 (by kernel_rfl) rfl) (fun W => weighs2 x W) (fun W hW => ?_) (fun W => bare2_any x hk W)
  have hC := Kd.C_take (m := i) (Kd.C_below hr hW) (by omega)
  have := check2 x ho fi A l.length c A c (l.take i) W hC (by omega) (by omega)
  rw [hlt] at this
  exact this
theorem bare3_any (x : S36) (h : x.f1 = 3) (W : World) : Calls Try.prog 107 #[.agg #[.int .i64 x.f0, .int .u8 x.f1, .int .i64 x.f2, .int .i64 x.f3, .int .i64 x.f4.f0, .int .i64 x.f4.f1, .int .i64 x.f5.f0, .int .i64 x.f5.f1, .int .i64 x.f6.f0, .int .i64 x.f6.f1, .int .i64 x.f7]] W fun e w' => e = .returned (.agg #[.int .i64 (bareOf x).f0, .int .u8 (bareOf x).f1, .int .i64 (bareOf x).f2, .int .i64 (bareOf x).f3, .int .i64 (bareOf x).f4.f0, .int .i64 (bareOf x).f4.f1, .int .i64 (bareOf x).f5.f0, .int .i64 (bareOf x).f5.f1, .int .i64 (bareOf x).f6.f0, .int .i64 (bareOf x).f6.f1, .int .i64 (bareOf x).f7]) ∧ Below W.heap.size W w' := by
  have hb : bareOf x = { x with f4 := z23 } := by unfold bareOf; rw [if_neg (by omega), if_neg (by omega), if_pos h]
  rw [hb]
  exact bare3 x W
set_option maxRecDepth 100000 in
theorem post3 (i : Nat) (ho fi : S23) (A : Option Addr) (c : Nat) (l : List S36) (w : World) (hr : Kd.C k36 w A l.length l) (hl : l.length ≤ 1000000) (hc : l.length ≤ c) (hi : i < l.length) (x : S36) (hx : l[i] = x) (hk : x.f1 = 3) :
    Calls Try.prog 33 #[.agg #[.int .i64 ho.f0, .int .i64 ho.f1, .int .i64 fi.f0, .int .i64 fi.f1, .slice A l.length c], .int .i64 i] w (RetInt (postRes true (0) (bareOf x) x l i) w) := by
  have hlt : (l.take i).length = i := by simp; omega
  refine post_any 147 109 108 107 true (0) (bareOf x) i ho fi A c l w hr hl hc hi x hx (fun W => of3 x W hk) (fun W => by kernel_rfl) (fun W => by kernel_rfl) (fun W => by kernel_rfl) (fun W => by kernel_rfl)
    (enters_of Try.func109 (by kernel_rfl) rfl) (enters_of Try.func108 (by kernel_rfl) rfl) (enters_of Try.func107 (by kernel_rfl) rfl) (fun W => weighs3 x W) (fun W hW => ?_) (fun W => bare3_any x hk W)
  have hC := Kd.C_take (m := i) (Kd.C_below hr hW) (by omega)
  have := check3 x ho fi A l.length c A c (l.take i) W hC (by omega) (by omega)
  rw [hlt] at this
  exact this
theorem bare4_any (x : S36) (h : x.f1 = 4) (W : World) : Calls Try.prog 110 #[.agg #[.int .i64 x.f0, .int .u8 x.f1, .int .i64 x.f2, .int .i64 x.f3, .int .i64 x.f4.f0, .int .i64 x.f4.f1, .int .i64 x.f5.f0, .int .i64 x.f5.f1, .int .i64 x.f6.f0, .int .i64 x.f6.f1, .int .i64 x.f7]] W fun e w' => e = .returned (.agg #[.int .i64 (bareOf x).f0, .int .u8 (bareOf x).f1, .int .i64 (bareOf x).f2, .int .i64 (bareOf x).f3, .int .i64 (bareOf x).f4.f0, .int .i64 (bareOf x).f4.f1, .int .i64 (bareOf x).f5.f0, .int .i64 (bareOf x).f5.f1, .int .i64 (bareOf x).f6.f0, .int .i64 (bareOf x).f6.f1, .int .i64 (bareOf x).f7]) ∧ Below W.heap.size W w' := by
  have hb : bareOf x = { x with f4 := z23, f3 := 0 } := by unfold bareOf; rw [if_neg (by omega), if_neg (by omega), if_neg (by omega), if_pos h]
  rw [hb]
  exact bare4 x W
set_option maxRecDepth 100000 in
theorem post4 (i : Nat) (ho fi : S23) (A : Option Addr) (c : Nat) (l : List S36) (w : World) (hr : Kd.C k36 w A l.length l) (hl : l.length ≤ 1000000) (hc : l.length ≤ c) (hi : i < l.length) (x : S36) (hx : l[i] = x) (hk : x.f1 = 4) :
    Calls Try.prog 33 #[.agg #[.int .i64 ho.f0, .int .i64 ho.f1, .int .i64 fi.f0, .int .i64 fi.f1, .slice A l.length c], .int .i64 i] w (RetInt (postRes true (packErr x (l.take i)) (bareOf x) x l i) w) := by
  have hlt : (l.take i).length = i := by simp; omega
  refine post_any 148 112 111 110 true (packErr x (l.take i)) (bareOf x) i ho fi A c l w hr hl hc hi x hx (fun W => of4 x W hk) (fun W => by kernel_rfl) (fun W => by kernel_rfl) (fun W => by kernel_rfl) (fun W => by kernel_rfl)
    (enters_of Try.func112 (by kernel_rfl) rfl) (enters_of Try.func111 (by kernel_rfl) rfl) (enters_of Try.func110 (by kernel_rfl) rfl) (fun W => weighs4 x W) (fun W hW => ?_) (fun W => bare4_any x hk W)
  have hC := Kd.C_take (m := i) (Kd.C_below hr hW) (by omega)
  have := check4 x ho fi A l.length c A c (l.take i) W hC (by omega) (by omega)
  rw [hlt] at this
  exact this
theorem bare5_any (x : S36) (h : x.f1 = 5) (W : World) : Calls Try.prog 113 #[.agg #[.int .i64 x.f0, .int .u8 x.f1, .int .i64 x.f2, .int .i64 x.f3, .int .i64 x.f4.f0, .int .i64 x.f4.f1, .int .i64 x.f5.f0, .int .i64 x.f5.f1, .int .i64 x.f6.f0, .int .i64 x.f6.f1, .int .i64 x.f7]] W fun e w' => e = .returned (.agg #[.int .i64 (bareOf x).f0, .int .u8 (bareOf x).f1, .int .i64 (bareOf x).f2, .int .i64 (bareOf x).f3, .int .i64 (bareOf x).f4.f0, .int .i64 (bareOf x).f4.f1, .int .i64 (bareOf x).f5.f0, .int .i64 (bareOf x).f5.f1, .int .i64 (bareOf x).f6.f0, .int .i64 (bareOf x).f6.f1, .int .i64 (bareOf x).f7]) ∧ Below W.heap.size W w' := by
  have hb : bareOf x = { x with f4 := z23 } := by unfold bareOf; rw [if_neg (by omega), if_neg (by omega), if_neg (by omega), if_neg (by omega), if_pos h]
  rw [hb]
  exact bare5 x W
set_option maxRecDepth 100000 in
theorem post5 (i : Nat) (ho fi : S23) (A : Option Addr) (c : Nat) (l : List S36) (w : World) (hr : Kd.C k36 w A l.length l) (hl : l.length ≤ 1000000) (hc : l.length ≤ c) (hi : i < l.length) (x : S36) (hx : l[i] = x) (hk : x.f1 = 5) :
    Calls Try.prog 33 #[.agg #[.int .i64 ho.f0, .int .i64 ho.f1, .int .i64 fi.f0, .int .i64 fi.f1, .slice A l.length c], .int .i64 i] w (RetInt (postRes true (fullErr (l.take i)) (bareOf x) x l i) w) := by
  have hlt : (l.take i).length = i := by simp; omega
  refine post_any 149 115 114 113 true (fullErr (l.take i)) (bareOf x) i ho fi A c l w hr hl hc hi x hx (fun W => of5 x W hk) (fun W => by kernel_rfl) (fun W => by kernel_rfl) (fun W => by kernel_rfl) (fun W => by kernel_rfl)
    (enters_of Try.func115 (by kernel_rfl) rfl) (enters_of Try.func114 (by kernel_rfl) rfl) (enters_of Try.func113 (by kernel_rfl) rfl) (fun W => weighs5 x W) (fun W hW => ?_) (fun W => bare5_any x hk W)
  have hC := Kd.C_take (m := i) (Kd.C_below hr hW) (by omega)
  have := check5 x ho fi A l.length c A c (l.take i) W hC (by omega) (by omega)
  rw [hlt] at this
  exact this
theorem bare6_any (x : S36) (h : x.f1 = 6) (W : World) : Calls Try.prog 116 #[.agg #[.int .i64 x.f0, .int .u8 x.f1, .int .i64 x.f2, .int .i64 x.f3, .int .i64 x.f4.f0, .int .i64 x.f4.f1, .int .i64 x.f5.f0, .int .i64 x.f5.f1, .int .i64 x.f6.f0, .int .i64 x.f6.f1, .int .i64 x.f7]] W fun e w' => e = .returned (.agg #[.int .i64 (bareOf x).f0, .int .u8 (bareOf x).f1, .int .i64 (bareOf x).f2, .int .i64 (bareOf x).f3, .int .i64 (bareOf x).f4.f0, .int .i64 (bareOf x).f4.f1, .int .i64 (bareOf x).f5.f0, .int .i64 (bareOf x).f5.f1, .int .i64 (bareOf x).f6.f0, .int .i64 (bareOf x).f6.f1, .int .i64 (bareOf x).f7]) ∧ Below W.heap.size W w' := by
  have hb : bareOf x = x := by unfold bareOf; rw [if_neg (by omega), if_neg (by omega), if_neg (by omega), if_neg (by omega), if_neg (by omega), if_pos h]
  rw [hb]
  exact bare6 x W
set_option maxRecDepth 100000 in
theorem post6 (i : Nat) (ho fi : S23) (A : Option Addr) (c : Nat) (l : List S36) (w : World) (hr : Kd.C k36 w A l.length l) (hl : l.length ≤ 1000000) (hc : l.length ≤ c) (hi : i < l.length) (x : S36) (hx : l[i] = x) (hk : x.f1 = 6) :
    Calls Try.prog 33 #[.agg #[.int .i64 ho.f0, .int .i64 ho.f1, .int .i64 fi.f0, .int .i64 fi.f1, .slice A l.length c], .int .i64 i] w (RetInt (postRes false (0) (bareOf x) x l i) w) := by
  have hlt : (l.take i).length = i := by simp; omega
  refine post_any 150 118 117 116 false (0) (bareOf x) i ho fi A c l w hr hl hc hi x hx (fun W => of6 x W hk) (fun W => by kernel_rfl) (fun W => by kernel_rfl) (fun W => by kernel_rfl) (fun W => by kernel_rfl)
    (enters_of Try.func118 (by kernel_rfl) rfl) (enters_of Try.func117 (by kernel_rfl) rfl) (enters_of Try.func116 (by kernel_rfl) rfl) (fun W => weighs6 x W) (fun W hW => ?_) (fun W => bare6_any x hk W)
  have hC := Kd.C_take (m := i) (Kd.C_below hr hW) (by omega)
  have := check6 x ho fi A l.length c A c (l.take i) W hC (by omega) (by omega)
  rw [hlt] at this
  exact this
theorem bare7_any (x : S36) (h : x.f1 = 7) (W : World) : Calls Try.prog 119 #[.agg #[.int .i64 x.f0, .int .u8 x.f1, .int .i64 x.f2, .int .i64 x.f3, .int .i64 x.f4.f0, .int .i64 x.f4.f1, .int .i64 x.f5.f0, .int .i64 x.f5.f1, .int .i64 x.f6.f0, .int .i64 x.f6.f1, .int .i64 x.f7]] W fun e w' => e = .returned (.agg #[.int .i64 (bareOf x).f0, .int .u8 (bareOf x).f1, .int .i64 (bareOf x).f2, .int .i64 (bareOf x).f3, .int .i64 (bareOf x).f4.f0, .int .i64 (bareOf x).f4.f1, .int .i64 (bareOf x).f5.f0, .int .i64 (bareOf x).f5.f1, .int .i64 (bareOf x).f6.f0, .int .i64 (bareOf x).f6.f1, .int .i64 (bareOf x).f7]) ∧ Below W.heap.size W w' := by
  have hb : bareOf x = { x with f3 := 0, f7 := 0 } := by unfold bareOf; rw [if_neg (by omega), if_neg (by omega), if_neg (by omega), if_neg (by omega), if_neg (by omega), if_neg (by omega), if_pos h]
  rw [hb]
  exact bare7 x W
set_option maxRecDepth 100000 in
theorem post7 (i : Nat) (ho fi : S23) (A : Option Addr) (c : Nat) (l : List S36) (w : World) (hr : Kd.C k36 w A l.length l) (hl : l.length ≤ 1000000) (hc : l.length ≤ c) (hi : i < l.length) (x : S36) (hx : l[i] = x) (hk : x.f1 = 7) :
    Calls Try.prog 33 #[.agg #[.int .i64 ho.f0, .int .i64 ho.f1, .int .i64 fi.f0, .int .i64 fi.f1, .slice A l.length c], .int .i64 i] w (RetInt (postRes false (claimErr x (l.take i)) (bareOf x) x l i) w) := by
  have hlt : (l.take i).length = i := by simp; omega
  refine post_any 151 121 120 119 false (claimErr x (l.take i)) (bareOf x) i ho fi A c l w hr hl hc hi x hx (fun W => of7 x W hk) (fun W => by kernel_rfl) (fun W => by kernel_rfl) (fun W => by kernel_rfl) (fun W => by kernel_rfl)
    (enters_of Try.func121 (by kernel_rfl) rfl) (enters_of Try.func120 (by kernel_rfl) rfl) (enters_of Try.func119 (by kernel_rfl) rfl) (fun W => weighs7 x W) (fun W hW => ?_) (fun W => bare7_any x hk W)
  have hC := Kd.C_take (m := i) (Kd.C_below hr hW) (by omega)
  have := check7 x ho fi A l.length c A c (l.take i) W hC (by omega) (by omega)
  rw [hlt] at this
  exact this
theorem bare8_any (x : S36) (h : x.f1 = 8) (W : World) : Calls Try.prog 122 #[.agg #[.int .i64 x.f0, .int .u8 x.f1, .int .i64 x.f2, .int .i64 x.f3, .int .i64 x.f4.f0, .int .i64 x.f4.f1, .int .i64 x.f5.f0, .int .i64 x.f5.f1, .int .i64 x.f6.f0, .int .i64 x.f6.f1, .int .i64 x.f7]] W fun e w' => e = .returned (.agg #[.int .i64 (bareOf x).f0, .int .u8 (bareOf x).f1, .int .i64 (bareOf x).f2, .int .i64 (bareOf x).f3, .int .i64 (bareOf x).f4.f0, .int .i64 (bareOf x).f4.f1, .int .i64 (bareOf x).f5.f0, .int .i64 (bareOf x).f5.f1, .int .i64 (bareOf x).f6.f0, .int .i64 (bareOf x).f6.f1, .int .i64 (bareOf x).f7]) ∧ Below W.heap.size W w' := by
  have hb : bareOf x = { x with f3 := 0 } := by unfold bareOf; rw [if_neg (by omega), if_neg (by omega), if_neg (by omega), if_neg (by omega), if_neg (by omega), if_neg (by omega), if_neg (by omega)]
  rw [hb]
  exact bare8 x W
set_option maxRecDepth 100000 in
theorem post8 (i : Nat) (ho fi : S23) (A : Option Addr) (c : Nat) (l : List S36) (w : World) (hr : Kd.C k36 w A l.length l) (hl : l.length ≤ 1000000) (hc : l.length ≤ c) (hi : i < l.length) (x : S36) (hx : l[i] = x) (hk : x.f1 = 8) :
    Calls Try.prog 33 #[.agg #[.int .i64 ho.f0, .int .i64 ho.f1, .int .i64 fi.f0, .int .i64 fi.f1, .slice A l.length c], .int .i64 i] w (RetInt (postRes false (thereErr x.f3 (l.take i)) (bareOf x) x l i) w) := by
  have hlt : (l.take i).length = i := by simp; omega
  refine post_any 152 124 123 122 false (thereErr x.f3 (l.take i)) (bareOf x) i ho fi A c l w hr hl hc hi x hx (fun W => of8 x W hk) (fun W => by kernel_rfl) (fun W => by kernel_rfl) (fun W => by kernel_rfl) (fun W => by kernel_rfl)
    (enters_of Try.func124 (by kernel_rfl) rfl) (enters_of Try.func123 (by kernel_rfl) rfl) (enters_of Try.func122 (by kernel_rfl) rfl) (fun W => weighs8 x W) (fun W hW => ?_) (fun W => bare8_any x hk W)
  have hC := Kd.C_take (m := i) (Kd.C_below hr hW) (by omega)
  have := check8 x ho fi A l.length c A c (l.take i) W hC (by omega) (by omega)
  rw [hlt] at this
  exact this
theorem postError_any (i : Nat) (ho fi : S23) (A : Option Addr) (c : Nat) (l : List S36) (w : World) (hr : Kd.C k36 w A l.length l) (hl : l.length ≤ 1000000) (hc : l.length ≤ c) (hi : i < l.length) :
    Calls Try.prog 33 #[.agg #[.int .i64 ho.f0, .int .i64 ho.f1, .int .i64 fi.f0, .int .i64 fi.f1, .slice A l.length c], .int .i64 i] w (RetInt (postErr l i) w) := by
  obtain ⟨x, hx⟩ : ∃ x, l[i] = x := ⟨_, rfl⟩
  have hg : l.getD i z36 = x := by rw [← hx]; simp [List.getD, hi]
  unfold postErr
  rw [hg]
  by_cases hk : ¬ (1 ≤ x.f1 ∧ x.f1 ≤ 8)
  · rw [if_neg hk]
    exact post_none i ho fi A c l w hr hl hi x hx hk
  · rw [if_pos (Decidable.not_not.1 hk)]
    have hk := Decidable.not_not.1 hk
    rcases (show x.f1 = 1 ∨ x.f1 = 2 ∨ x.f1 = 3 ∨ x.f1 = 4 ∨ x.f1 = 5 ∨ x.f1 = 6 ∨ x.f1 = 7 ∨ x.f1 = 8 by omega) with h | h | h | h | h | h | h | h
    · have h1 : decide (x.f1 ≤ 5) = true := by simp; omega
      have h2 : entryErr x (l.take i) = inErr x (l.take i) := by unfold entryErr; rw [if_pos h]
      rw [h1, h2]
      exact post1 i ho fi A c l w hr hl hc hi x hx h
    · have h1 : decide (x.f1 ≤ 5) = true := by simp; omega
      have h2 : entryErr x (l.take i) = chargeErr x (l.take i) := by unfold entryErr; rw [if_neg (by omega), if_pos h]
      rw [h1, h2]
      exact post2 i ho fi A c l w hr hl hc hi x hx h
    · have h1 : decide (x.f1 ≤ 5) = true := by simp; omega
      have h2 : entryErr x (l.take i) = 0 := by unfold entryErr; rw [if_neg (by omega), if_neg (by omega), if_pos h]
      rw [h1, h2]
      exact post3 i ho fi A c l w hr hl hc hi x hx h
    · have h1 : decide (x.f1 ≤ 5) = true := by simp; omega
      have h2 : entryErr x (l.take i) = packErr x (l.take i) := by unfold entryErr; rw [if_neg (by omega), if_neg (by omega), if_neg (by omega), if_pos h]
      rw [h1, h2]
      exact post4 i ho fi A c l w hr hl hc hi x hx h
    · have h1 : decide (x.f1 ≤ 5) = true := by simp; omega
      have h2 : entryErr x (l.take i) = fullErr (l.take i) := by unfold entryErr; rw [if_neg (by omega), if_neg (by omega), if_neg (by omega), if_neg (by omega), if_pos h]
      rw [h1, h2]
      exact post5 i ho fi A c l w hr hl hc hi x hx h
    · have h1 : decide (x.f1 ≤ 5) = false := by simp; omega
      have h2 : entryErr x (l.take i) = 0 := by unfold entryErr; rw [if_neg (by omega), if_neg (by omega), if_neg (by omega), if_neg (by omega), if_neg (by omega), if_pos h]
      rw [h1, h2]
      exact post6 i ho fi A c l w hr hl hc hi x hx h
    · have h1 : decide (x.f1 ≤ 5) = false := by simp; omega
      have h2 : entryErr x (l.take i) = claimErr x (l.take i) := by unfold entryErr; rw [if_neg (by omega), if_neg (by omega), if_neg (by omega), if_neg (by omega), if_neg (by omega), if_neg (by omega), if_pos h]
      rw [h1, h2]
      exact post7 i ho fi A c l w hr hl hc hi x hx h
    · have h1 : decide (x.f1 ≤ 5) = false := by simp; omega
      have h2 : entryErr x (l.take i) = thereErr x.f3 (l.take i) := by unfold entryErr; rw [if_neg (by omega), if_neg (by omega), if_neg (by omega), if_neg (by omega), if_neg (by omega), if_neg (by omega), if_neg (by omega)]
      rw [h1, h2]
      exact post8 i ho fi A c l w hr hl hc hi x hx h
def firstErr (l : List S36) : Nat → Nat → Int
  | 0, _ => 0
  | d + 1, i => if postErr l i = 0 then firstErr l d (i + 1) else postErr l i
def bookErr (ho fi : S23) (l : List S36) : Int :=
  if (spanOk ho 1000000 && spanOk fi 1000000) = false then 1 else if fi.f1 < ho.f0 ∨ ho.f1 < fi.f0 then 10 else if 256 < l.length then 3 else firstErr l l.length 0
set_option maxRecDepth 100000 in
set_option maxHeartbeats 8000000 in
theorem Check_any (ho fi : S23) (A : Option Addr) (c : Nat) (l : List S36) (w : World) (hr : Kd.C k36 w A l.length l) (hc : l.length ≤ c) :
    Calls Try.prog 12 #[.agg #[.int .i64 ho.f0, .int .i64 ho.f1, .int .i64 fi.f0, .int .i64 fi.f1, .slice A l.length c]] w (RetInt (bookErr ho fi l) w) := by
  have hu1 := Try.underlying26
  have hu2 := Try.underlying23
  have HB := Below.refl w.heap.size w
  have hbel := hid (HB.alloc (Nat.le_refl _) (.cells #[.int .i64 ho.f0, .int .i64 ho.f1, .int .i64 fi.f0, .int .i64 fi.f1, .slice A l.length c] 26))
  have e0 := World.alloc_heap_new w (.cells #[.int .i64 ho.f0, .int .i64 ho.f1, .int .i64 fi.f0, .int .i64 fi.f1, .slice A l.length c] 26)
  go_enter Try.func12, Try.ntmps12
  go_wp2_with fail
  generalize w.alloc (.cells #[.int .i64 ho.f0, .int .i64 ho.f1, .int .i64 fi.f0, .int .i64 fi.f1, .slice A l.length c] 26) = W1 at *
  refine (isSpan_any ho _ _).mono ?_
  rintro e W2 ⟨rfl, hb⟩
  have e0 := heap_grow e0 hb
  have HB2 := hid (hbel.out.trans (hb.mono hbel.out.size))
  have y0 := blkCell e0 0
  have y1 := blkCell e0 1
  have y2 := blkCell e0 2
  have y3 := blkCell e0 3
  have y4 := blkCell e0 4
  simp at y0 y1 y2 y3 y4
  clear hb hbel HB
  cases h1 : spanOk ho 1000000 with
  | false =>
    have HV := hid (show bookErr ho fi l = 1 by unfold bookErr; rw [h1]; rfl)
    clear h1
    go_wp2
    go_ret
    exact ⟨ret_int HV.out.symm, HB2.out⟩
  | true =>
  have H1 := hid h1
  clear h1
  go_wp2_with fail
  refine (isSpan_any fi _ _).mono ?_
  rintro e W3 ⟨rfl, hb⟩
  have e0 := heap_grow e0 hb
  have HB3 := hid (HB2.out.trans (hb.mono HB2.out.size))
  clear hb HB2 y0 y1 y2 y3 y4
  have y0 := blkCell e0 0
  have y1 := blkCell e0 1
  have y2 := blkCell e0 2
  have y3 := blkCell e0 3
  have y4 := blkCell e0 4
  simp at y0 y1 y2 y3 y4
  cases h2 : spanOk fi 1000000 with
  | false =>
    have HV := hid (show bookErr ho fi l = 1 by unfold bookErr; rw [H1.out, h2]; rfl)
    clear h2
    go_wp2
    go_ret
    exact ⟨ret_int HV.out.symm, HB3.out⟩
  | true =>
  have H2 := hid h2
  clear h2
  by_cases h3 : fi.f1 < ho.f0
  · have HV := hid (show bookErr ho fi l = 10 by unfold bookErr; rw [H1.out, H2.out, if_neg (by decide), if_pos (Or.inl h3)])
    have d3 : decide (fi.f1 < ho.f0) = true := decide_eq_true h3
    clear h3
    go_wp2
    go_ret
    exact ⟨ret_int HV.out.symm, HB3.out⟩
  have d3 : decide (fi.f1 < ho.f0) = false := decide_eq_false h3
  by_cases h4 : ho.f1 < fi.f0
  · have HV := hid (show bookErr ho fi l = 10 by unfold bookErr; rw [H1.out, H2.out, if_neg (by decide), if_pos (Or.inr h4)])
    have d4 : decide (ho.f1 < fi.f0) = true := decide_eq_true h4
    clear h3 h4
    go_wp2
    go_ret
    exact ⟨ret_int HV.out.symm, HB3.out⟩
  have d4 : decide (ho.f1 < fi.f0) = false := decide_eq_false h4
  by_cases h5 : 256 < l.length
  · have HV := hid (show bookErr ho fi l = 3 by unfold bookErr; rw [H1.out, H2.out, if_neg (by decide), if_neg (by omega), if_pos h5])
    have d5 : decide ((256 : Int) < (l.length : Int)) = true := decide_eq_true (by omega)
    have d5' : decide (256 < l.length) = true := decide_eq_true h5
    clear h3 h4 h5
    go_wp2
    go_ret
    exact ⟨ret_int HV.out.symm, HB3.out⟩
  have d5 : decide ((256 : Int) < (l.length : Int)) = false := decide_eq_false (by omega)
  have d5' : decide (256 < l.length) = false := decide_eq_false h5
  have HV := hid (show bookErr ho fi l = firstErr l l.length 0 by unfold bookErr; rw [H1.out, H2.out, if_neg (by decide), if_neg (by omega), if_neg h5])
  have HL := hid (Nat.not_lt.1 h5)
  have HE := hid e0
  clear h3 h4 h5 e0
  go_wp2
  clear d3 d4 d5 d5' y0 y1 y2 y3 y4
  go_loopw [38] (fun v38 X => ∃ k : Nat, k ≤ l.length ∧ v38 = .int .i64 k ∧ Hid (Below W3.heap.size W3 X ∧ bookErr ho fi l = firstErr l (l.length - k) k)) (fun v38 _ => l.length - (intOf v38).toNat)
  case atStart => exact ⟨0, by omega, rfl, hid ⟨Below.refl _ _, HV.out⟩⟩
  case round =>
    obtain ⟨k, hk, rfl, HX⟩ := hrel
    have hll := HL.out
    rename World => Wk
    have HBk := hid (HB3.out.trans (HX.out.1.mono HB3.out.size))
    have HEk := hid (heap_grow HE.out HX.out.1)
    by_cases hlt : k < l.length
    · have z0 := blkCell HEk.out 0
      have z1 := blkCell HEk.out 1
      have z2 := blkCell HEk.out 2
      have z3 := blkCell HEk.out 3
      have z4 := blkCell HEk.out 4
      simp at z0 z1 z2 z3 z4
      go_wp2_with fail
      refine (postError_any k ho fi A c l _ (Kd.C_below hr HBk.out) (by omega) hc hlt).mono ?_
      rintro e W5 ⟨rfl, hb⟩
      have HB5 := hid (HX.out.1.trans (hb.mono HX.out.1.size))
      have HB6 := hid (HBk.out.trans (hb.mono HBk.out.size))
      have hs : firstErr l (l.length - k) k = if postErr l k = 0 then firstErr l (l.length - (k + 1)) (k + 1) else postErr l k := by
        obtain ⟨d, hd⟩ : ∃ d, l.length - k = d + 1 := ⟨l.length - k - 1, by omega⟩
        rw [hd, show l.length - (k + 1) = d by omega]; rfl
      have HS := hid (HX.out.2.trans hs)
      clear hb hs z0 z1 z2 z3 z4 HX HEk HBk
      by_cases h6 : postErr l k = 0
      · have HN := hid (show bookErr ho fi l = firstErr l (l.length - (k + 1)) (k + 1) by rw [HS.out, if_pos h6])
        have d6 : (postErr l k != 0) = false := by simpa using h6
        clear h6
        go_wp2
        go_roundw
        case rel => exact ⟨k + 1, by omega, by go_num, hid ⟨HB5.out, HN.out⟩⟩
        case measure => simp [intOf]; omega
      · have HN := hid (show bookErr ho fi l = postErr l k by rw [HS.out, if_neg h6])
        have d6 : (postErr l k != 0) = true := by simpa using h6
        clear h6
        go_wp2
        go_ret
        exact ⟨ret_int HN.out.symm, HB6.out⟩
    · obtain rfl : k = l.length := by omega
      have HN := hid (show bookErr ho fi l = 0 by rw [HX.out.2, Nat.sub_self]; rfl)
      go_wp2
      go_ret
      exact ⟨ret_int HN.out.symm, HBk.out⟩
end Go.Proofs.Ytbmkbokkmmdjdaa
end
section
namespace Go.Proofs.Ytbmkbokkmmdjdaa
open Go.RowKit Go.Proofs.YtbmkbokkmmdjdaaW.PrintWords Go.Proofs.YtbmkbokkmmdjdaaW.PrintLast Go.Proofs.YtbmkbokkmmdjdaaW.PrintMore
open Q Go.Shelf
attribute [local go_sem] Oper.semAt_some wide_depth wide_fn
set_option linter.unusedVariables false
set_option linter.unusedSimpArgs false
def spanV (s : S23) : Value := .agg #[.int .i64 s.f0, .int .i64 s.f1]
def RetSpan (s : S23) (w : World) (e : Ending) (w' : World) : Prop := e = .returned (.agg #[.int .i64 s.f0, .int .i64 s.f1]) ∧ Below w.heap.size w w'
theorem RetSpan_of {s s' : S23} {w : World} (h : s = s') : RetSpan s w = RetSpan s' w := by rw [h]
def plusS (a b : S23) : S23 := ⟨wrap64 (a.f0 + b.f0), wrap64 (a.f1 + b.f1)⟩
def timesS (a b : S23) : S23 := ⟨wrap64 (a.f0 * b.f0), wrap64 (a.f1 * b.f1)⟩
def glassS (k : S23) (h : S60) : S23 := timesS k ⟨wrap64 (1000 - h.f2.f1), wrap64 (1000 - h.f2.f0)⟩
theorem plus_any (a b : S23) (w : World) : Calls Try.prog 58 #[.agg #[.int .i64 a.f0, .int .i64 a.f1], .agg #[.int .i64 b.f0, .int .i64 b.f1]] w (RetSpan (plusS a b) w) := by
  have hu := Try.underlying23
  have HB := Below.refl w.heap.size w
  go_enter Try.func58, Try.ntmps58
  go_wp2
  refine bodyPost_ret (v := .agg #[.int .i64 (wrap64 (a.f0 + b.f0)), .int .i64 (wrap64 (a.f1 + b.f1))]) (by simp [results, Try.results58, go_sem, wrap_i]) rfl ⟨rfl, ?_⟩
  exact (((HB.alloc (Nat.le_refl _) _).alloc (by simp) _).alloc (by simp; omega) _)
theorem times_any (a b : S23) (w : World) : Calls Try.prog 60 #[.agg #[.int .i64 a.f0, .int .i64 a.f1], .agg #[.int .i64 b.f0, .int .i64 b.f1]] w (RetSpan (timesS a b) w) := by
  have hu := Try.underlying23
  have HB := Below.refl w.heap.size w
  go_enter Try.func60, Try.ntmps60
  go_wp2
  refine bodyPost_ret (v := .agg #[.int .i64 (wrap64 (a.f0 * b.f0)), .int .i64 (wrap64 (a.f1 * b.f1))]) (by simp [results, Try.results60, go_sem, wrap_i]) rfl ⟨rfl, ?_⟩
  exact (((HB.alloc (Nat.le_refl _) _).alloc (by simp) _).alloc (by simp; omega) _)
set_option maxRecDepth 100000 in
theorem glass_any (k : S23) (h : S60) (w : World) : Calls Try.prog 59 #[.agg #[.int .i64 k.f0, .int .i64 k.f1], .agg #[.int .i64 h.f0.f0, .int .i64 h.f0.f1, .int .i64 h.f1.f0, .int .i64 h.f1.f1, .int .i64 h.f2.f0, .int .i64 h.f2.f1]] w (RetSpan (glassS k h) w) := by
  have hu := Try.underlying23
  have hu1 := Try.underlying60
  have HB := Below.refl w.heap.size w
  go_enter Try.func59, Try.ntmps59
  go_wp2_with fail
  have e2 := World.alloc_heap_new ((w.alloc (.cells #[.int .i64 k.f0, .int .i64 k.f1] 23)).alloc (.cells #[.int .i64 h.f0.f0, .int .i64 h.f0.f1, .int .i64 h.f1.f0, .int .i64 h.f1.f1, .int .i64 h.f2.f0, .int .i64 h.f2.f1] 60)) (.cells #[.int .i64 0, .int .i64 0] 23)
  have hbel := ((HB.alloc (Nat.le_refl _) (.cells #[.int .i64 k.f0, .int .i64 k.f1] 23)).alloc (by simp) (.cells #[.int .i64 h.f0.f0, .int .i64 h.f0.f1, .int .i64 h.f1.f0, .int .i64 h.f1.f1, .int .i64 h.f2.f0, .int .i64 h.f2.f1] 60)).alloc (by simp; omega) (.cells #[.int .i64 0, .int .i64 0] 23)
  simp only [World.size_alloc] at e2
  generalize (((w.alloc (.cells #[.int .i64 k.f0, .int .i64 k.f1] 23)).alloc (.cells #[.int .i64 h.f0.f0, .int .i64 h.f0.f1, .int .i64 h.f1.f0, .int .i64 h.f1.f1, .int .i64 h.f2.f0, .int .i64 h.f2.f1] 60)).alloc (.cells #[.int .i64 0, .int .i64 0] 23)) = W3 at *
  refine (times_any k ⟨wrap64 (1000 - h.f2.f1), wrap64 (1000 - h.f2.f0)⟩ W3).mono ?_
  rintro e w4 ⟨rfl, hb⟩
  have e2 := heap_grow e2 hb
  have HB4 := hid (hbel.trans (hb.mono hbel.size))
  have y0 := blkCell e2 0
  have y1 := blkCell e2 1
  have z0 := blkFrozen e2 0
  have z1 := blkFrozen e2 1
  simp at y0 y1
  have HE := hid e2
  have hg : timesS k ⟨wrap64 (1000 - h.f2.f1), wrap64 (1000 - h.f2.f0)⟩ = glassS k h := rfl
  rw [hg]
  generalize glassS k h = g at *
  clear hb hbel HB e2 hg
  go_wp2
  have hz := st2_same HE.out (.int .i64 g.f0) (.int .i64 g.f1)
  have hb := st2_below HB4.out (show w.heap.size ≤ w.heap.size + 1 + 1 by omega) (.int .i64 g.f0) (.int .i64 g.f1)
  generalize ((w4.setCell ⟨w.heap.size + 1 + 1, 0, none⟩ (.int .i64 g.f0)).setCell ⟨w.heap.size + 1 + 1, 1, none⟩ (.int .i64 g.f1)) = w5 at *
  have q0 := blkCell hz 0
  have q1 := blkCell hz 1
  simp at q0 q1
  refine bodyPost_ret (v := .agg #[.int .i64 g.f0, .int .i64 g.f1]) (by simp [results, Try.results59, go_sem, q0, q1]) rfl ⟨rfl, hb⟩
def shareLo (p : S52) : Int := if 0 < p.f0.f1 then wrap64 (Int.tdiv (wrap64 (1000 * p.f1.f0)) p.f0.f1) else 0
def shareQ (p : S52) : Int := wrap64 (Int.tdiv (wrap64 (wrap64 (wrap64 (1000 * p.f1.f1) + p.f0.f0) - 1)) p.f0.f0)
def shareHi (p : S52) : Int := if 0 < p.f0.f0 then mn 1000 (shareQ p) else 1000
def shareS (p : S52) : S23 := ⟨shareLo p, shareHi p⟩
attribute [local go_sem] max2_int min2_int max_two min_two
set_option maxRecDepth 100000 in
set_option maxHeartbeats 1000000 in
theorem share_any (p : S52) (w : World) : Calls Try.prog 37 #[.agg #[.int .i64 p.f0.f0, .int .i64 p.f0.f1, .int .i64 p.f1.f0, .int .i64 p.f1.f1, .int .i64 p.f2.f0, .int .i64 p.f2.f1, .int .i64 p.f3.f0, .int .i64 p.f3.f1, .int .i64 p.f4]] w (RetSpan (shareS p) w) := by
  have hu := Try.underlying23
  have hu1 := Try.underlying52
  have HB := Below.refl w.heap.size w
  by_cases h1 : 0 < p.f0.f1
  · have d1 : decide (0 < p.f0.f1) = true := decide_eq_true h1
    have n1 : ¬ p.f0.f1 = 0 := by omega
    by_cases h2 : 0 < p.f0.f0
    · have d2 : decide (0 < p.f0.f0) = true := decide_eq_true h2
      have n2 : ¬ p.f0.f0 = 0 := by omega
      have HV := hid (show shareS p = ⟨wrap64 (Int.tdiv (wrap64 (1000 * p.f1.f0)) p.f0.f1), mn 1000 (shareQ p)⟩ by unfold shareS shareLo shareHi; rw [if_pos h1, if_pos h2])
      clear h1 h2
      go_enter Try.func37, Try.ntmps37
      go_wp2
      all_goals
        try simp only [wrap_i] at *
        rw [RetSpan_of HV.out]
        refine bodyPost_ret (v := .agg #[.int .i64 (wrap64 (Int.tdiv (wrap64 (1000 * p.f1.f0)) p.f0.f1)), .int .i64 (mn 1000 (shareQ p))]) (by simp [results, Try.results37, go_sem, wrap_i, shareQ] <;> (unfold mn; split <;> omega)) rfl ⟨rfl, ?_⟩
        exact (((HB.alloc (Nat.le_refl _) _).alloc (by simp) _).alloc (by simp; omega) _)
    · have d2 : decide (0 < p.f0.f0) = false := decide_eq_false h2
      have HV := hid (show shareS p = ⟨wrap64 (Int.tdiv (wrap64 (1000 * p.f1.f0)) p.f0.f1), 1000⟩ by unfold shareS shareLo shareHi; rw [if_pos h1, if_neg h2])
      clear h1 h2
      go_enter Try.func37, Try.ntmps37
      go_wp2
      all_goals
        try simp only [wrap_i] at *
        rw [RetSpan_of HV.out]
        refine bodyPost_ret (v := .agg #[.int .i64 (wrap64 (Int.tdiv (wrap64 (1000 * p.f1.f0)) p.f0.f1)), .int .i64 (1000)]) (by simp [results, Try.results37, go_sem, wrap_i, shareQ] <;> (unfold mn; split <;> omega)) rfl ⟨rfl, ?_⟩
        exact (((HB.alloc (Nat.le_refl _) _).alloc (by simp) _).alloc (by simp; omega) _)
  · have d1 : decide (0 < p.f0.f1) = false := decide_eq_false h1
    by_cases h2 : 0 < p.f0.f0
    · have d2 : decide (0 < p.f0.f0) = true := decide_eq_true h2
      have n2 : ¬ p.f0.f0 = 0 := by omega
      have HV := hid (show shareS p = ⟨0, mn 1000 (shareQ p)⟩ by unfold shareS shareLo shareHi; rw [if_neg h1, if_pos h2])
      clear h1 h2
      go_enter Try.func37, Try.ntmps37
      go_wp2
      all_goals
        try simp only [wrap_i] at *
        rw [RetSpan_of HV.out]
        refine bodyPost_ret (v := .agg #[.int .i64 (0), .int .i64 (mn 1000 (shareQ p))]) (by simp [results, Try.results37, go_sem, wrap_i, shareQ] <;> (unfold mn; split <;> omega)) rfl ⟨rfl, ?_⟩
        exact (((HB.alloc (Nat.le_refl _) _).alloc (by simp) _).alloc (by simp; omega) _)
    · have d2 : decide (0 < p.f0.f0) = false := decide_eq_false h2
      have HV := hid (show shareS p = ⟨0, 1000⟩ by unfold shareS shareLo shareHi; rw [if_neg h1, if_neg h2])
      clear h1 h2
      go_enter Try.func37, Try.ntmps37
      go_wp2
      all_goals
        try simp only [wrap_i] at *
        rw [RetSpan_of HV.out]
        refine bodyPost_ret (v := .agg #[.int .i64 (0), .int .i64 (1000)]) (by simp [results, Try.results37, go_sem, wrap_i, shareQ] <;> (unfold mn; split <;> omega)) rfl ⟨rfl, ?_⟩
        exact (((HB.alloc (Nat.le_refl _) _).alloc (by simp) _).alloc (by simp; omega) _)
end Go.Proofs.Ytbmkbokkmmdjdaa
end
section
namespace Go.Proofs.Ytbmkbokkmmdjdaa
open Go.RowKit Go.Proofs.YtbmkbokkmmdjdaaW.PrintWords Go.Proofs.YtbmkbokkmmdjdaaW.PrintLast Go.Proofs.YtbmkbokkmmdjdaaW.PrintMore
open Q Go.Shelf
attribute [local go_sem] Oper.semAt_some wide_depth wide_fn
set_option linter.unusedVariables false
set_option linter.unusedSimpArgs false
structure KS where
  hs : List S60
  ps : List S52
  pk : List (Int × Int × S23)
def KS.last (s : KS) : S52 := s.ps.getD (s.ps.length - 1) z52
def KS.at (s : KS) (lot : Int) : Int × S23 := ((s.pk.find? fun p => p.1 == lot).getD (0, 0, z23)).2
def KS.heap (s : KS) (n : Int) : S60 := s.hs.getD n.toNat z60
def inK (s : KS) (x : S36) : KS := { s with hs := s.hs ++ [⟨x.f4, x.f5, x.f6⟩] }
def beforeK (s : KS) : S23 := if 1 < s.ps.length then shareS (s.ps.getD (s.ps.length - 2) z52) else ⟨0, 1000⟩
def backK (s : KS) (x : S36) : KS := { s with hs := s.hs ++ [⟨x.f4, beforeK s, z23⟩] }
def chargeP (p : S52) (k : S23) (h : S60) : S52 := { p with f0 := plusS p.f0 (glassS k h), f1 := plusS p.f1 (timesS k h.f1), f2 := plusS p.f2 (timesS k h.f2) }
def chargeK (s : KS) (x : S36) : KS := { s with ps := s.ps.set (s.ps.length - 1) (chargeP s.last x.f4 (s.heap x.f2)) }
def packK (s : KS) (x : S36) : KS := { s with ps := s.ps.set (s.ps.length - 1) { s.last with f3 := plusS s.last.f3 x.f4 }, pk := s.pk ++ [(x.f3, (s.ps.length : Int) - 1, x.f4)] }
def closeK (s : KS) : KS := { s with ps := s.ps ++ [z52] }
def claimP (s : KS) (x : S36) : S52 := { s.ps.getD (s.at x.f3).1.toNat z52 with f4 := wrap64 ((s.ps.getD (s.at x.f3).1.toNat z52).f4 + wrap64 (x.f7 * (s.at x.f3).2.f1)) }
def claimK (s : KS) (x : S36) : KS := { s with ps := s.ps.set (s.at x.f3).1.toNat (claimP s x) }
def stepK (s : KS) (x : S36) : KS :=
  if x.f1 = 1 then inK s x else if x.f1 = 5 then backK s x else if x.f1 = 2 then chargeK s x else if x.f1 = 4 then packK s x else if x.f1 = 6 then closeK s else if x.f1 = 7 then claimK s x else s
def keptOf (l : List S36) : KS := l.foldl stepK ⟨[], [z52], []⟩
theorem kept_take {l : List S36} {k : Nat} (h : k < l.length) : keptOf (l.take (k + 1)) = stepK (keptOf (l.take k)) l[k] := by
  unfold keptOf
  rw [List.take_succ_eq_append_getElem h, List.foldl_append]
  rfl
structure StepOk (s : KS) (x : S36) : Prop where
  charge : x.f1 = 2 → 0 ≤ x.f2 ∧ x.f2 < s.hs.length
  pack : x.f1 = 4 → (s.pk.find? fun p => p.1 == x.f3) = none
  claim : x.f1 = 7 → ∃ p, (s.pk.find? fun p => p.1 == x.f3) = some p ∧ 0 ≤ p.2.1 ∧ p.2.1 < s.ps.length
theorem stepK_ps (s : KS) (x : S36) : s.ps.length ≤ (stepK s x).ps.length ∧ (stepK s x).ps.length ≤ s.ps.length + 1 ∧ s.hs.length ≤ (stepK s x).hs.length ∧ (stepK s x).hs.length ≤ s.hs.length + 1 := by
  unfold stepK
  repeat' split
  all_goals simp [inK, backK, chargeK, packK, closeK, claimK]
theorem kept_len (l : List S36) : ∀ k, k ≤ l.length → 1 ≤ (keptOf (l.take k)).ps.length ∧ (keptOf (l.take k)).ps.length ≤ k + 1 ∧ (keptOf (l.take k)).hs.length ≤ k
  | 0, _ => by simp [keptOf]
  | k + 1, h => by
    have ih := kept_len l k (by omega)
    have := stepK_ps (keptOf (l.take k)) l[k]
    rw [kept_take (by omega : k < l.length)]
    omega
def hC (h : S60) : List Value := [.int .i64 h.f0.f0, .int .i64 h.f0.f1, .int .i64 h.f1.f0, .int .i64 h.f1.f1, .int .i64 h.f2.f0, .int .i64 h.f2.f1]
def pC (p : S52) : List Value := [.int .i64 p.f0.f0, .int .i64 p.f0.f1, .int .i64 p.f1.f0, .int .i64 p.f1.f1, .int .i64 p.f2.f0, .int .i64 p.f2.f1, .int .i64 p.f3.f0, .int .i64 p.f3.f1, .int .i64 p.f4]
def hF (l : List S60) : List Value := l.flatMap hC
def pF (l : List S52) : List Value := l.flatMap pC
theorem hF_at {l : List S60} {k j : Nat} (h : k < l.length) (hj : j < 6) : (hF l)[k * 6 + j]? = (hC (l.getD k z60))[j]? := by
  induction l generalizing k with
  | nil => simp at h
  | cons x r ih =>
    unfold hF; rw [List.flatMap_cons]
    cases k with
    | zero => rw [Nat.zero_mul, Nat.zero_add, List.getElem?_append_left (by simp [hC]; omega)]; rfl
    | succ k =>
      rw [List.getElem?_append_right (by simp [hC]; omega), show (k + 1) * 6 + j - (hC x).length = k * 6 + j by simp [hC]; omega]
      simp at h
      exact ih (by omega)
theorem pF_at {l : List S52} {k j : Nat} (h : k < l.length) (hj : j < 9) : (pF l)[k * 9 + j]? = (pC (l.getD k z52))[j]? := by
  induction l generalizing k with
  | nil => simp at h
  | cons x r ih =>
    unfold pF; rw [List.flatMap_cons]
    cases k with
    | zero => rw [Nat.zero_mul, Nat.zero_add, List.getElem?_append_left (by simp [pC]; omega)]; rfl
    | succ k =>
      rw [List.getElem?_append_right (by simp [pC]; omega), show (k + 1) * 9 + j - (pC x).length = k * 9 + j by simp [pC]; omega]
      simp at h
      exact ih (by omega)
theorem pF_set {l : List S52} {k j : Nat} {v : Value} {p : S52} (h : k < l.length) (hj : j < 9) (hp : pC p = (pC (l.getD k z52)).set j v) : pF (l.set k p) = (pF l).set (k * 9 + j) v := by
  induction l generalizing k with
  | nil => simp at h
  | cons x r ih =>
    unfold pF
    cases k with
    | zero =>
      rw [List.set_cons_zero, List.flatMap_cons, List.flatMap_cons, hp, Nat.zero_mul, Nat.zero_add, List.set_append_left _ _ (by simp [pC]; omega)]
      rfl
    | succ k =>
      rw [List.set_cons_succ, List.flatMap_cons, List.flatMap_cons, List.set_append_right _ _ (by simp [pC]; omega), show (k + 1) * 9 + j - (pC x).length = k * 9 + j by simp [pC]; omega]
      simp at h
      have := ih (k := k) (by omega) hp
      unfold pF at this
      rw [this]
def pkV (p : Int × Int × S23) : Value × Value := (.int .i64 p.1, .agg #[.int .i64 p.2.1, .int .i64 p.2.2.f0, .int .i64 p.2.2.f1])
def MapI (W : World) (b : Nat) (pk : List (Int × Int × S23)) : Prop :=
  ∃ es cl, W.heap[b]? = some (.map es cl) ∧ es.toList.map (fun e => (e.key, e.val)) = pk.map pkV
theorem MapI.grow {W W' : World} {b : Nat} {pk : List (Int × Int × S23)} (h : MapI W b pk) (hb : Below W.heap.size W W') : MapI W' b pk := by
  obtain ⟨es, cl, h1, h2⟩ := h
  exact ⟨es, cl, heap_grow h1 hb, h2⟩
theorem findNow_pk : ∀ (es : List MapEntry) (pk : List (Int × Int × S23)) (i : Nat) (k : Int), es.map (fun e => (e.key, e.val)) = pk.map pkV →
    (∀ p, (pk.find? fun p => p.1 == k) = some p → ∃ j, Instr.findNow (.int .i64) (.int .i64 k) es i = some (some (j, .agg #[.int .i64 p.2.1, .int .i64 p.2.2.f0, .int .i64 p.2.2.f1]))) ∧ ((pk.find? fun p => p.1 == k) = none → Instr.findNow (.int .i64) (.int .i64 k) es i = some none)
  | [], [], i, k, h => ⟨fun p hp => by simp at hp, fun _ => rfl⟩
  | [], p :: r, i, k, h => by simp at h
  | e :: r, [], i, k, h => by simp at h
  | e :: r, p :: q, i, k, h => by
    simp only [List.map_cons, List.cons.injEq, pkV, Prod.mk.injEq] at h
    obtain ⟨⟨h1, h2⟩, h3⟩ := h
    have ih := findNow_pk r q (i + 1) k h3
    unfold Instr.findNow
    rw [h1]
    by_cases hk : p.1 = k
    · have e1 : Instr.sameNow (.int .i64) (.int .i64 k) (.int .i64 p.1) = some true := by simp [Instr.sameNow, hk]
      rw [e1]
      refine ⟨fun p' hp => ?_, fun hn => ?_⟩
      · rw [List.find?_cons_of_pos (by simpa using hk)] at hp
        obtain rfl := Option.some.inj hp
        exact ⟨i, by simp [h2]⟩
      · rw [List.find?_cons_of_pos (by simpa using hk)] at hn; cases hn
    · have e1 : Instr.sameNow (.int .i64) (.int .i64 k) (.int .i64 p.1) = some false := by simp [Instr.sameNow]; omega
      rw [e1]
      refine ⟨fun p' hp => ?_, fun hn => ?_⟩
      · rw [List.find?_cons_of_neg (by simpa using hk)] at hp
        exact ih.1 p' hp
      · rw [List.find?_cons_of_neg (by simpa using hk)] at hn
        exact ih.2 hn
end Go.Proofs.Ytbmkbokkmmdjdaa
end
