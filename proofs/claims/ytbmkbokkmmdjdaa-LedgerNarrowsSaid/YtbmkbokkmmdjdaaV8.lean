-- M5 RS (wip/pack9.py)
import Derived.Test.YtbmkbokkmmdjdaaV7
import Derived.Test.YtbmkbokkmmdjdaaV5
section
namespace Go.Proofs.Ytbmkbokkmmdjdaa
open Go.RowKit Go.Proofs.YtbmkbokkmmdjdaaW.PrintWords Go.Proofs.YtbmkbokkmmdjdaaW.PrintLast Go.Proofs.YtbmkbokkmmdjdaaW.PrintMore
open Q Go.Shelf
attribute [local go_sem] Oper.semAt_some wide_depth wide_fn
set_option linter.unusedVariables false
set_option linter.unusedSimpArgs false
def neB (b x : S36) : Bool := !((b.f0 == x.f0) && (b.f1 == x.f1) && (b.f2 == 0) && (b.f3 == 0) && (b.f4.f0 == 0) && (b.f4.f1 == 0) && (b.f5.f0 == 0) && (b.f5.f1 == 0) && (b.f6.f0 == 0) && (b.f6.f1 == 0) && (b.f7 == 0))
def lateB (l : List S36) (i : Nat) : Bool := decide (0 < i) && decide ((l.getD i z36).f0 < (l.getD (i - 1) z36).f0)
def postRes (wt : Bool) (er : Int) (b x : S36) (l : List S36) (i : Nat) : Int := if betw x.f0 0 1000000000 = true then (if lateB l i = true then 8 else if (wt && !(spanOk x.f4 1000000)) = true then 1 else if er = 0 then (if neB b x = true then 1 else 0) else er) else 1
theorem of_none (x : S36) (w : World) (h : ¬ (1 ≤ x.f1 ∧ x.f1 ≤ 8)) : Calls Try.prog 63 #[.agg #[.int .i64 x.f0, .int .u8 x.f1, .int .i64 x.f2, .int .i64 x.f3, .int .i64 x.f4.f0, .int .i64 x.f4.f1, .int .i64 x.f5.f0, .int .i64 x.f5.f1, .int .i64 x.f6.f0, .int .i64 x.f6.f1, .int .i64 x.f7]] w fun e w' => e = .returned .nilIface ∧ Below w.heap.size w w' := by
  have hu := Try.underlying36
  have HB := Below.refl w.heap.size w
  have k1 : (x.f1 == 1) = false := by simp; omega
  have k2 : (x.f1 == 2) = false := by simp; omega
  have k3 : (x.f1 == 3) = false := by simp; omega
  have k4 : (x.f1 == 4) = false := by simp; omega
  have k5 : (x.f1 == 5) = false := by simp; omega
  have k6 : (x.f1 == 6) = false := by simp; omega
  have k7 : (x.f1 == 7) = false := by simp; omega
  have k8 : (x.f1 == 8) = false := by simp; omega
  clear h
  go_enter Try.func63, Try.ntmps63
  go_wp2
  go_ret
  exact ⟨rfl, HB.alloc (Nat.le_refl _) _⟩
theorem of1 (x : S36) (w : World) (h : x.f1 = 1) : Calls Try.prog 63 #[.agg #[.int .i64 x.f0, .int .u8 x.f1, .int .i64 x.f2, .int .i64 x.f3, .int .i64 x.f4.f0, .int .i64 x.f4.f1, .int .i64 x.f5.f0, .int .i64 x.f5.f1, .int .i64 x.f6.f0, .int .i64 x.f6.f1, .int .i64 x.f7]] w fun e w' => e = .returned (.iface 145 (.agg #[.int .i64 x.f0, .int .u8 x.f1, .int .i64 x.f2, .int .i64 x.f3, .int .i64 x.f4.f0, .int .i64 x.f4.f1, .int .i64 x.f5.f0, .int .i64 x.f5.f1, .int .i64 x.f6.f0, .int .i64 x.f6.f1, .int .i64 x.f7])) ∧ Below w.heap.size w w' := by
  have hu := Try.underlying36
  have hu1 := Try.underlying145
  have HB := Below.refl w.heap.size w
  have k1 : (x.f1 == 1) = true := by simp; omega
  clear h
  go_enter Try.func63, Try.ntmps63
  go_wp2
  go_ret
  exact ⟨rfl, HB.alloc (Nat.le_refl _) _⟩
theorem of2 (x : S36) (w : World) (h : x.f1 = 2) : Calls Try.prog 63 #[.agg #[.int .i64 x.f0, .int .u8 x.f1, .int .i64 x.f2, .int .i64 x.f3, .int .i64 x.f4.f0, .int .i64 x.f4.f1, .int .i64 x.f5.f0, .int .i64 x.f5.f1, .int .i64 x.f6.f0, .int .i64 x.f6.f1, .int .i64 x.f7]] w fun e w' => e = .returned (.iface 146 (.agg #[.int .i64 x.f0, .int .u8 x.f1, .int .i64 x.f2, .int .i64 x.f3, .int .i64 x.f4.f0, .int .i64 x.f4.f1, .int .i64 x.f5.f0, .int .i64 x.f5.f1, .int .i64 x.f6.f0, .int .i64 x.f6.f1, .int .i64 x.f7])) ∧ Below w.heap.size w w' := by
  have hu := Try.underlying36
  have hu1 := Try.underlying146
  have HB := Below.refl w.heap.size w
  have k1 : (x.f1 == 1) = false := by simp; omega
  have k2 : (x.f1 == 2) = true := by simp; omega
  clear h
  go_enter Try.func63, Try.ntmps63
  go_wp2
  go_ret
  exact ⟨rfl, HB.alloc (Nat.le_refl _) _⟩
theorem of3 (x : S36) (w : World) (h : x.f1 = 3) : Calls Try.prog 63 #[.agg #[.int .i64 x.f0, .int .u8 x.f1, .int .i64 x.f2, .int .i64 x.f3, .int .i64 x.f4.f0, .int .i64 x.f4.f1, .int .i64 x.f5.f0, .int .i64 x.f5.f1, .int .i64 x.f6.f0, .int .i64 x.f6.f1, .int .i64 x.f7]] w fun e w' => e = .returned (.iface 147 (.agg #[.int .i64 x.f0, .int .u8 x.f1, .int .i64 x.f2, .int .i64 x.f3, .int .i64 x.f4.f0, .int .i64 x.f4.f1, .int .i64 x.f5.f0, .int .i64 x.f5.f1, .int .i64 x.f6.f0, .int .i64 x.f6.f1, .int .i64 x.f7])) ∧ Below w.heap.size w w' := by
  have hu := Try.underlying36
  have hu1 := Try.underlying147
  have HB := Below.refl w.heap.size w
  have k1 : (x.f1 == 1) = false := by simp; omega
  have k2 : (x.f1 == 2) = false := by simp; omega
  have k3 : (x.f1 == 3) = true := by simp; omega
  clear h
  go_enter Try.func63, Try.ntmps63
  go_wp2
  go_ret
  exact ⟨rfl, HB.alloc (Nat.le_refl _) _⟩
theorem of4 (x : S36) (w : World) (h : x.f1 = 4) : Calls Try.prog 63 #[.agg #[.int .i64 x.f0, .int .u8 x.f1, .int .i64 x.f2, .int .i64 x.f3, .int .i64 x.f4.f0, .int .i64 x.f4.f1, .int .i64 x.f5.f0, .int .i64 x.f5.f1, .int .i64 x.f6.f0, .int .i64 x.f6.f1, .int .i64 x.f7]] w fun e w' => e = .returned (.iface 148 (.agg #[.int .i64 x.f0, .int .u8 x.f1, .int .i64 x.f2, .int .i64 x.f3, .int .i64 x.f4.f0, .int .i64 x.f4.f1, .int .i64 x.f5.f0, .int .i64 x.f5.f1, .int .i64 x.f6.f0, .int .i64 x.f6.f1, .int .i64 x.f7])) ∧ Below w.heap.size w w' := by
  have hu := Try.underlying36
  have hu1 := Try.underlying148
  have HB := Below.refl w.heap.size w
  have k1 : (x.f1 == 1) = false := by simp; omega
  have k2 : (x.f1 == 2) = false := by simp; omega
  have k3 : (x.f1 == 3) = false := by simp; omega
  have k4 : (x.f1 == 4) = true := by simp; omega
  clear h
  go_enter Try.func63, Try.ntmps63
  go_wp2
  go_ret
  exact ⟨rfl, HB.alloc (Nat.le_refl _) _⟩
theorem of5 (x : S36) (w : World) (h : x.f1 = 5) : Calls Try.prog 63 #[.agg #[.int .i64 x.f0, .int .u8 x.f1, .int .i64 x.f2, .int .i64 x.f3, .int .i64 x.f4.f0, .int .i64 x.f4.f1, .int .i64 x.f5.f0, .int .i64 x.f5.f1, .int .i64 x.f6.f0, .int .i64 x.f6.f1, .int .i64 x.f7]] w fun e w' => e = .returned (.iface 149 (.agg #[.int .i64 x.f0, .int .u8 x.f1, .int .i64 x.f2, .int .i64 x.f3, .int .i64 x.f4.f0, .int .i64 x.f4.f1, .int .i64 x.f5.f0, .int .i64 x.f5.f1, .int .i64 x.f6.f0, .int .i64 x.f6.f1, .int .i64 x.f7])) ∧ Below w.heap.size w w' := by
  have hu := Try.underlying36
  have hu1 := Try.underlying149
  have HB := Below.refl w.heap.size w
  have k1 : (x.f1 == 1) = false := by simp; omega
  have k2 : (x.f1 == 2) = false := by simp; omega
  have k3 : (x.f1 == 3) = false := by simp; omega
  have k4 : (x.f1 == 4) = false := by simp; omega
  have k5 : (x.f1 == 5) = true := by simp; omega
  clear h
  go_enter Try.func63, Try.ntmps63
  go_wp2
  go_ret
  exact ⟨rfl, HB.alloc (Nat.le_refl _) _⟩
theorem of6 (x : S36) (w : World) (h : x.f1 = 6) : Calls Try.prog 63 #[.agg #[.int .i64 x.f0, .int .u8 x.f1, .int .i64 x.f2, .int .i64 x.f3, .int .i64 x.f4.f0, .int .i64 x.f4.f1, .int .i64 x.f5.f0, .int .i64 x.f5.f1, .int .i64 x.f6.f0, .int .i64 x.f6.f1, .int .i64 x.f7]] w fun e w' => e = .returned (.iface 150 (.agg #[.int .i64 x.f0, .int .u8 x.f1, .int .i64 x.f2, .int .i64 x.f3, .int .i64 x.f4.f0, .int .i64 x.f4.f1, .int .i64 x.f5.f0, .int .i64 x.f5.f1, .int .i64 x.f6.f0, .int .i64 x.f6.f1, .int .i64 x.f7])) ∧ Below w.heap.size w w' := by
  have hu := Try.underlying36
  have hu1 := Try.underlying150
  have HB := Below.refl w.heap.size w
  have k1 : (x.f1 == 1) = false := by simp; omega
  have k2 : (x.f1 == 2) = false := by simp; omega
  have k3 : (x.f1 == 3) = false := by simp; omega
  have k4 : (x.f1 == 4) = false := by simp; omega
  have k5 : (x.f1 == 5) = false := by simp; omega
  have k6 : (x.f1 == 6) = true := by simp; omega
  clear h
  go_enter Try.func63, Try.ntmps63
  go_wp2
  go_ret
  exact ⟨rfl, HB.alloc (Nat.le_refl _) _⟩
theorem of7 (x : S36) (w : World) (h : x.f1 = 7) : Calls Try.prog 63 #[.agg #[.int .i64 x.f0, .int .u8 x.f1, .int .i64 x.f2, .int .i64 x.f3, .int .i64 x.f4.f0, .int .i64 x.f4.f1, .int .i64 x.f5.f0, .int .i64 x.f5.f1, .int .i64 x.f6.f0, .int .i64 x.f6.f1, .int .i64 x.f7]] w fun e w' => e = .returned (.iface 151 (.agg #[.int .i64 x.f0, .int .u8 x.f1, .int .i64 x.f2, .int .i64 x.f3, .int .i64 x.f4.f0, .int .i64 x.f4.f1, .int .i64 x.f5.f0, .int .i64 x.f5.f1, .int .i64 x.f6.f0, .int .i64 x.f6.f1, .int .i64 x.f7])) ∧ Below w.heap.size w w' := by
  have hu := Try.underlying36
  have hu1 := Try.underlying151
  have HB := Below.refl w.heap.size w
  have k1 : (x.f1 == 1) = false := by simp; omega
  have k2 : (x.f1 == 2) = false := by simp; omega
  have k3 : (x.f1 == 3) = false := by simp; omega
  have k4 : (x.f1 == 4) = false := by simp; omega
  have k5 : (x.f1 == 5) = false := by simp; omega
  have k6 : (x.f1 == 6) = false := by simp; omega
  have k7 : (x.f1 == 7) = true := by simp; omega
  clear h
  go_enter Try.func63, Try.ntmps63
  go_wp2
  go_ret
  exact ⟨rfl, HB.alloc (Nat.le_refl _) _⟩
theorem of8 (x : S36) (w : World) (h : x.f1 = 8) : Calls Try.prog 63 #[.agg #[.int .i64 x.f0, .int .u8 x.f1, .int .i64 x.f2, .int .i64 x.f3, .int .i64 x.f4.f0, .int .i64 x.f4.f1, .int .i64 x.f5.f0, .int .i64 x.f5.f1, .int .i64 x.f6.f0, .int .i64 x.f6.f1, .int .i64 x.f7]] w fun e w' => e = .returned (.iface 152 (.agg #[.int .i64 x.f0, .int .u8 x.f1, .int .i64 x.f2, .int .i64 x.f3, .int .i64 x.f4.f0, .int .i64 x.f4.f1, .int .i64 x.f5.f0, .int .i64 x.f5.f1, .int .i64 x.f6.f0, .int .i64 x.f6.f1, .int .i64 x.f7])) ∧ Below w.heap.size w w' := by
  have hu := Try.underlying36
  have hu1 := Try.underlying152
  have HB := Below.refl w.heap.size w
  have k1 : (x.f1 == 1) = false := by simp; omega
  have k2 : (x.f1 == 2) = false := by simp; omega
  have k3 : (x.f1 == 3) = false := by simp; omega
  have k4 : (x.f1 == 4) = false := by simp; omega
  have k5 : (x.f1 == 5) = false := by simp; omega
  have k6 : (x.f1 == 6) = false := by simp; omega
  have k7 : (x.f1 == 7) = false := by simp; omega
  have k8 : (x.f1 == 8) = true := by simp; omega
  clear h
  go_enter Try.func63, Try.ntmps63
  go_wp2
  go_ret
  exact ⟨rfl, HB.alloc (Nat.le_refl _) _⟩
set_option maxRecDepth 100000 in
set_option maxHeartbeats 8000000 in
set_option pp.deepTerms true in
set_option pp.maxSteps 1000000 in
theorem post_any (T : TypeId) (fw fc fb : FuncId) (wt : Bool) (er : Int) (b : S36) (i : Nat) (ho fi : S23) (A : Option Addr) (c : Nat) (l : List S36) (w : World) (hr : Kd.C k36 w A l.length l) (hl : l.length ≤ 1000000) (hc : l.length ≤ c) (hi : i < l.length) (x : S36) (hx : l[i] = x)
   (hof : ∀ W, Calls Try.prog 63 #[.agg #[.int .i64 x.f0, .int .u8 x.f1, .int .i64 x.f2, .int .i64 x.f3, .int .i64 x.f4.f0, .int .i64 x.f4.f1, .int .i64 x.f5.f0, .int .i64 x.f5.f1, .int .i64 x.f6.f0, .int .i64 x.f6.f1, .int .i64 x.f7]] W fun e w' => e = .returned (.iface T (.agg #[.int .i64 x.f0, .int .u8 x.f1, .int .i64 x.f2, .int .i64 x.f3, .int .i64 x.f4.f0, .int .i64 x.f4.f1, .int .i64 x.f5.f0, .int .i64 x.f5.f1, .int .i64 x.f6.f0, .int .i64 x.f6.f1, .int .i64 x.f7])) ∧ Below W.heap.size W w')
   (hmw : ∀ W, (method 271 T (.agg #[.int .i64 x.f0, .int .u8 x.f1, .int .i64 x.f2, .int .i64 x.f3, .int .i64 x.f4.f0, .int .i64 x.f4.f1, .int .i64 x.f5.f0, .int .i64 x.f5.f1, .int .i64 x.f6.f0, .int .i64 x.f6.f1, .int .i64 x.f7]) "cullet/ledger.weighs").run Try.prog W = .ok (fw, .agg #[.int .i64 x.f0, .int .u8 x.f1, .int .i64 x.f2, .int .i64 x.f3, .int .i64 x.f4.f0, .int .i64 x.f4.f1, .int .i64 x.f5.f0, .int .i64 x.f5.f1, .int .i64 x.f6.f0, .int .i64 x.f6.f1, .int .i64 x.f7]) W) (hmc : ∀ W, (method 271 T (.agg #[.int .i64 x.f0, .int .u8 x.f1, .int .i64 x.f2, .int .i64 x.f3, .int .i64 x.f4.f0, .int .i64 x.f4.f1, .int .i64 x.f5.f0, .int .i64 x.f5.f1, .int .i64 x.f6.f0, .int .i64 x.f6.f1, .int .i64 x.f7]) "cullet/ledger.check").run Try.prog W = .ok (fc, .agg #[.int .i64 x.f0, .int .u8 x.f1, .int .i64 x.f2, .int .i64 x.f3, .int .i64 x.f4.f0, .int .i64 x.f4.f1, .int .i64 x.f5.f0, .int .i64 x.f5.f1, .int .i64 x.f6.f0, .int .i64 x.f6.f1, .int .i64 x.f7]) W) (hmb : ∀ W, (method 271 T (.agg #[.int .i64 x.f0, .int .u8 x.f1, .int .i64 x.f2, .int .i64 x.f3, .int .i64 x.f4.f0, .int .i64 x.f4.f1, .int .i64 x.f5.f0, .int .i64 x.f5.f1, .int .i64 x.f6.f0, .int .i64 x.f6.f1, .int .i64 x.f7]) "cullet/ledger.bare").run Try.prog W = .ok (fb, .agg #[.int .i64 x.f0, .int .u8 x.f1, .int .i64 x.f2, .int .i64 x.f3, .int .i64 x.f4.f0, .int .i64 x.f4.f1, .int .i64 x.f5.f0, .int .i64 x.f5.f1, .int .i64 x.f6.f0, .int .i64 x.f6.f1, .int .i64 x.f7]) W)
   (hna : ∀ W, (nilAhead 271 T (.agg #[.int .i64 x.f0, .int .u8 x.f1, .int .i64 x.f2, .int .i64 x.f3, .int .i64 x.f4.f0, .int .i64 x.f4.f1, .int .i64 x.f5.f0, .int .i64 x.f5.f1, .int .i64 x.f6.f0, .int .i64 x.f6.f1, .int .i64 x.f7]) "cullet/ledger.check").run Try.prog W = .ok (some false) W)
   (ew : ∀ args w, (callFunc fw args).run Try.prog w = .ok (.enter fw args) w) (ec : ∀ args w, (callFunc fc args).run Try.prog w = .ok (.enter fc args) w) (eb : ∀ args w, (callFunc fb args).run Try.prog w = .ok (.enter fb args) w)
   (cw : ∀ W, Calls Try.prog fw #[.agg #[.int .i64 x.f0, .int .u8 x.f1, .int .i64 x.f2, .int .i64 x.f3, .int .i64 x.f4.f0, .int .i64 x.f4.f1, .int .i64 x.f5.f0, .int .i64 x.f5.f1, .int .i64 x.f6.f0, .int .i64 x.f6.f1, .int .i64 x.f7]] W (RetBool wt W))
   (cc : ∀ W, Below w.heap.size w W → Calls Try.prog fc #[.agg #[.int .i64 x.f0, .int .u8 x.f1, .int .i64 x.f2, .int .i64 x.f3, .int .i64 x.f4.f0, .int .i64 x.f4.f1, .int .i64 x.f5.f0, .int .i64 x.f5.f1, .int .i64 x.f6.f0, .int .i64 x.f6.f1, .int .i64 x.f7], .agg #[.int .i64 ho.f0, .int .i64 ho.f1, .int .i64 fi.f0, .int .i64 fi.f1, .slice A l.length c, .slice A i c]] W (RetInt er W))
   (cb : ∀ W, Calls Try.prog fb #[.agg #[.int .i64 x.f0, .int .u8 x.f1, .int .i64 x.f2, .int .i64 x.f3, .int .i64 x.f4.f0, .int .i64 x.f4.f1, .int .i64 x.f5.f0, .int .i64 x.f5.f1, .int .i64 x.f6.f0, .int .i64 x.f6.f1, .int .i64 x.f7]] W fun e w' => e = .returned (.agg #[.int .i64 b.f0, .int .u8 b.f1, .int .i64 b.f2, .int .i64 b.f3, .int .i64 b.f4.f0, .int .i64 b.f4.f1, .int .i64 b.f5.f0, .int .i64 b.f5.f1, .int .i64 b.f6.f0, .int .i64 b.f6.f1, .int .i64 b.f7]) ∧ Below W.heap.size W w') :
    Calls Try.prog 33 #[.agg #[.int .i64 ho.f0, .int .i64 ho.f1, .int .i64 fi.f0, .int .i64 fi.f1, .slice A l.length c], .int .i64 i] w (RetInt (postRes wt er b x l i) w) := by
  have hu := Try.underlying36
  have hu1 := Try.underlying26
  have hu2 := Try.underlying67
  have OF := hid hof
  have MW := hid hmw
  have MC := hid hmc
  have MB := hid hmb
  have NA := hid hna
  have EW := hid (And.intro ew (And.intro ec eb))
  have CW := hid cw
  have CC := hid cc
  have CB := hid cb
  clear hof hmw hmc hmb hna ew ec eb cw cc cb
  have HB := Below.refl w.heap.size w
  have hbel := hid (HB.alloc (Nat.le_refl _) (.cells #[.int .i64 ho.f0, .int .i64 ho.f1, .int .i64 fi.f0, .int .i64 fi.f1, .slice A l.length c] 26))
  have e0 := World.alloc_heap_new w (.cells #[.int .i64 ho.f0, .int .i64 ho.f1, .int .i64 fi.f0, .int .i64 fi.f1, .slice A l.length c] 26)
  have hcc := at_T36 (Kd.C_below hr hbel.out) i (by omega) (by omega)
  rw [rdP hi, hx] at hcc
  simp only [Int.toNat_natCast] at hcc
  obtain ⟨ad, rfl, k0, k1, k2, k3, k4, k5, k6, k7, k8, k9, k10⟩ := hcc
  go_enter Try.func33, Try.ntmps33
  go_wp2_with fail
  have e1 := World.alloc_heap_new (w.alloc (.cells #[.int .i64 ho.f0, .int .i64 ho.f1, .int .i64 fi.f0, .int .i64 fi.f1, .slice (some ad) l.length c] 26)) (.cells #[.int .i64 x.f0, .int .u8 x.f1, .int .i64 x.f2, .int .i64 x.f3, .int .i64 x.f4.f0, .int .i64 x.f4.f1, .int .i64 x.f5.f0, .int .i64 x.f5.f1, .int .i64 x.f6.f0, .int .i64 x.f6.f1, .int .i64 x.f7] 36)
  have e0 := alloc_old (o' := .cells #[.int .i64 x.f0, .int .u8 x.f1, .int .i64 x.f2, .int .i64 x.f3, .int .i64 x.f4.f0, .int .i64 x.f4.f1, .int .i64 x.f5.f0, .int .i64 x.f5.f1, .int .i64 x.f6.f0, .int .i64 x.f6.f1, .int .i64 x.f7] 36) e0
  have HB1 := hid (hbel.out.alloc hbel.out.size (.cells #[.int .i64 x.f0, .int .u8 x.f1, .int .i64 x.f2, .int .i64 x.f3, .int .i64 x.f4.f0, .int .i64 x.f4.f1, .int .i64 x.f5.f0, .int .i64 x.f5.f1, .int .i64 x.f6.f0, .int .i64 x.f6.f1, .int .i64 x.f7] 36))
  rw [World.size_alloc] at e1
  generalize ((w.alloc (.cells #[.int .i64 ho.f0, .int .i64 ho.f1, .int .i64 fi.f0, .int .i64 fi.f1, .slice (some ad) l.length c] 26)).alloc (.cells #[.int .i64 x.f0, .int .u8 x.f1, .int .i64 x.f2, .int .i64 x.f3, .int .i64 x.f4.f0, .int .i64 x.f4.f1, .int .i64 x.f5.f0, .int .i64 x.f5.f1, .int .i64 x.f6.f0, .int .i64 x.f6.f1, .int .i64 x.f7] 36)) = W2 at *
  refine (OF.out _).mono ?_
  rintro e W3 ⟨rfl, hb⟩
  have e0 := heap_grow e0 hb
  have e1 := heap_grow e1 hb
  have HB3 := hid (HB1.out.trans (hb.mono HB1.out.size))
  have HE := hid (And.intro e0 e1)
  have b4 := blkCell e0 4
  have y0 := blkCell e1 0
  simp at b4 y0
  clear e0 e1 hb HB1 hbel HB k0 k1 k2 k3 k4 k5 k6 k7 k8 k9 k10
  cases h1 : betw x.f0 0 1000000000 with
  | false =>
    go_wp2_with (first | (go_at_call 38; refine (within_any _ _ _ _).mono ?_; rintro e w' ⟨rfl, rfl⟩; rw [h1]))
    go_ret
    exact ⟨ret_int (by unfold postRes; rw [h1]; rfl), HB3.out⟩
  | true =>
    have H1 := hid h1
    go_wp2_with (first | (go_at_call 38; refine (within_any _ _ _ _).mono ?_; rintro e w' ⟨rfl, rfl⟩; rw [h1]))
    clear h1
    go_cut [24] from 25 to 38 (fun v24 wc => v24 = .bool (lateB l i) ∧ Hid (Below W3.heap.size W3 wc))
    case first =>
      by_cases hi0 : i = 0
      · have s0 : decide ((0 : Int) < (i : Int)) = false := decide_eq_false (by omega)
        have s1 : decide (0 < i) = false := decide_eq_false (by omega)
        clear hi0
        refine wp_flow [[], [0], [1, 0], [2, 1, 0], [3, 2, 1, 0], [2, 1, 0], [5, 2, 1, 0], [4, 3, 2, 1, 0, 6, 5], [7, 4, 3, 2, 1, 0, 6, 5], [8, 7, 4, 3, 2, 1, 0, 6, 5], [2, 1, 0], [10, 2, 1, 0], [9, 8, 7, 4, 3, 2, 1, 0, 6, 5, 11, 10], [2, 1, 0, 12, 9, 8, 7, 4, 3, 6, 5, 11, 10], [13, 2, 1, 0, 12, 9, 8, 7, 4, 3, 6, 5, 11, 10]] 14
          (fun V => Below W3.heap.size W3 V)
          { tmps := #[.agg #[.int .i64 ho.f0, .int .i64 ho.f1, .int .i64 fi.f0, .int .i64 fi.f1, .slice (some ad) l.length c], .int .i64 i, .pointer (some ⟨w.heap.size, 0, none⟩), undef, .int .i64 0, .pointer (some ⟨(w.heap.size + 1), 0, none⟩), .iface T (.agg #[.int .i64 x.f0, .int .u8 x.f1, .int .i64 x.f2, .int .i64 x.f3, .int .i64 x.f4.f0, .int .i64 x.f4.f1, .int .i64 x.f5.f0, .int .i64 x.f5.f1, .int .i64 x.f6.f0, .int .i64 x.f6.f1, .int .i64 x.f7]), undef, .pointer (some ⟨w.heap.size, 4, none⟩), .slice (some ad) l.length c, .int .i64 i, .pointer (some (ad.add (i * 11))), .agg #[.int .i64 x.f0, .int .u8 x.f1, .int .i64 x.f2, .int .i64 x.f3, .int .i64 x.f4.f0, .int .i64 x.f4.f1, .int .i64 x.f5.f0, .int .i64 x.f5.f1, .int .i64 x.f6.f0, .int .i64 x.f6.f1, .int .i64 x.f7], .agg #[.int .i64 x.f0, .int .u8 x.f1, .int .i64 x.f2, .int .i64 x.f3, .int .i64 x.f4.f0, .int .i64 x.f4.f1, .int .i64 x.f5.f0, .int .i64 x.f5.f1, .int .i64 x.f6.f0, .int .i64 x.f6.f1, .int .i64 x.f7], .iface T (.agg #[.int .i64 x.f0, .int .u8 x.f1, .int .i64 x.f2, .int .i64 x.f3, .int .i64 x.f4.f0, .int .i64 x.f4.f1, .int .i64 x.f5.f0, .int .i64 x.f5.f1, .int .i64 x.f6.f0, .int .i64 x.f6.f1, .int .i64 x.f7]), .bool false, .iface T (.agg #[.int .i64 x.f0, .int .u8 x.f1, .int .i64 x.f2, .int .i64 x.f3, .int .i64 x.f4.f0, .int .i64 x.f4.f1, .int .i64 x.f5.f0, .int .i64 x.f5.f1, .int .i64 x.f6.f0, .int .i64 x.f6.f1, .int .i64 x.f7]), .bool false, .bool false, .pointer (some ⟨w.heap.size + 1, 0, none⟩), .int .i64 x.f0, .bool true, .bool false, .bool false, undef, .int .i64 i, .bool false, .bool false, undef, undef, undef, undef, undef, undef, undef, undef, undef, undef, .bool false, undef, undef, undef, undef, undef, undef, undef, undef, undef, undef, undef, undef, undef, undef, undef, undef, undef, undef, undef, undef, undef, undef, undef, undef, undef, undef, undef, undef, undef, undef, undef], defers := [] }
          mixed (by kernel_rfl) rfl (Ahead.of3 25 39 rfl rfl (by kernel_rfl) rfl rfl) ?_ (AllFlow.ops rfl ?_) rfl ?_
        · exact (Below.refl _ _).drew
        · refine ⟨?_, ?_, ?_, ?_, ?_, ?_, ?_, ?_, ?_, ?_, ?_, ?_, ?_, ?_, trivial⟩
          · exact .val 25 _ rfl rfl fun V hB_ => by go_simp
          · exact .val 26 _ rfl rfl fun V hB_ => by go_simp
          · exact .val 27 _ rfl rfl fun V hB_ => by go_simp
          · exact .off 28 rfl rfl
          · exact .off 29 rfl rfl
          · exact .off 30 rfl rfl
          · exact .off 31 rfl rfl
          · exact .off 32 rfl rfl
          · exact .off 33 rfl rfl
          · exact .off 34 rfl rfl
          · exact .off 35 rfl rfl
          · exact .off 36 rfl rfl
          · exact .off 37 rfl rfl
          · exact .val 38 _ rfl rfl fun V hB_ => by go_simp
        · rintro V7 hB_
          go_wp2
          go_meet
          case rel => exact ⟨by unfold lateB; rw [s1]; rfl, hB_⟩
      · have s0 : decide ((0 : Int) < (i : Int)) = true := decide_eq_true (by omega)
        have s1 : decide (0 < i) = true := decide_eq_true (by omega)
        have hk1 : IntKind.i64.wrap ((i : Int) - 1) = (i : Int) - 1 := by rw [wrap_i]; exact wrap64_id (by omega) (by omega)
        have hkt : ((i : Int) - 1).toNat = i - 1 := by omega
        have hri := at_T36 (Kd.C_below hr HB3.out) ((i - 1 : Nat) : Int) (by omega) (by omega)
        rw [rdP (show i - 1 < l.length by omega)] at hri
        simp only [Int.toNat_natCast] at hri
        obtain ⟨ar', har', m0, m1, m2, m3, m4, m5, m6, m7, m8, m9, m10⟩ := hri
        cases har'
        clear m1 m2 m3 m4 m5 m6 m7 m8 m9 m10
        have hg : l.getD i z36 = x := by rw [← hx]; simp [List.getD, hi]
        have hgp : l.getD (i - 1) z36 = l[i - 1] := by simp [List.getD, show i - 1 < l.length by omega]
        generalize l[i - 1] = xp at *
        have hi0' : decide (0 ≤ (i : Int) - 1) = true := decide_eq_true (by omega)
        have hi1' : decide ((i : Int) - 1 < (l.length : Int)) = true := decide_eq_true (by omega)
        clear hi0
        refine wp_flow [[], [0], [1, 0], [2, 1, 0], [3, 2, 1, 0], [2, 1, 0], [5, 2, 1, 0], [4, 3, 2, 1, 0, 6, 5], [7, 4, 3, 2, 1, 0, 6, 5], [8, 7, 4, 3, 2, 1, 0, 6, 5], [2, 1, 0], [10, 2, 1, 0], [9, 8, 7, 4, 3, 2, 1, 0, 6, 5, 11, 10], [2, 1, 0, 12, 9, 8, 7, 4, 3, 6, 5, 11, 10], [13, 2, 1, 0, 12, 9, 8, 7, 4, 3, 6, 5, 11, 10]] 14
          (fun V => V.cell? ⟨w.heap.size, 0, none⟩ = some (.int .i64 ho.f0) ∧ V.cell? ⟨w.heap.size, 1, none⟩ = some (.int .i64 ho.f1) ∧ V.cell? ⟨w.heap.size, 2, none⟩ = some (.int .i64 fi.f0) ∧ V.cell? ⟨w.heap.size, 3, none⟩ = some (.int .i64 fi.f1) ∧ V.cell? ⟨w.heap.size, 4, none⟩ = some (.slice (some ad) l.length c) ∧ V.cell? ⟨(w.heap.size + 1), 0, none⟩ = some (.int .i64 x.f0) ∧ V.cell? (ad.add ((i - 1) * 11)) = some (.int .i64 xp.f0) ∧ Below W3.heap.size W3 V)
          { tmps := #[.agg #[.int .i64 ho.f0, .int .i64 ho.f1, .int .i64 fi.f0, .int .i64 fi.f1, .slice (some ad) l.length c], .int .i64 i, .pointer (some ⟨w.heap.size, 0, none⟩), undef, .int .i64 0, .pointer (some ⟨(w.heap.size + 1), 0, none⟩), .iface T (.agg #[.int .i64 x.f0, .int .u8 x.f1, .int .i64 x.f2, .int .i64 x.f3, .int .i64 x.f4.f0, .int .i64 x.f4.f1, .int .i64 x.f5.f0, .int .i64 x.f5.f1, .int .i64 x.f6.f0, .int .i64 x.f6.f1, .int .i64 x.f7]), undef, .pointer (some ⟨w.heap.size, 4, none⟩), .slice (some ad) l.length c, .int .i64 i, .pointer (some (ad.add (i * 11))), .agg #[.int .i64 x.f0, .int .u8 x.f1, .int .i64 x.f2, .int .i64 x.f3, .int .i64 x.f4.f0, .int .i64 x.f4.f1, .int .i64 x.f5.f0, .int .i64 x.f5.f1, .int .i64 x.f6.f0, .int .i64 x.f6.f1, .int .i64 x.f7], .agg #[.int .i64 x.f0, .int .u8 x.f1, .int .i64 x.f2, .int .i64 x.f3, .int .i64 x.f4.f0, .int .i64 x.f4.f1, .int .i64 x.f5.f0, .int .i64 x.f5.f1, .int .i64 x.f6.f0, .int .i64 x.f6.f1, .int .i64 x.f7], .iface T (.agg #[.int .i64 x.f0, .int .u8 x.f1, .int .i64 x.f2, .int .i64 x.f3, .int .i64 x.f4.f0, .int .i64 x.f4.f1, .int .i64 x.f5.f0, .int .i64 x.f5.f1, .int .i64 x.f6.f0, .int .i64 x.f6.f1, .int .i64 x.f7]), .bool false, .iface T (.agg #[.int .i64 x.f0, .int .u8 x.f1, .int .i64 x.f2, .int .i64 x.f3, .int .i64 x.f4.f0, .int .i64 x.f4.f1, .int .i64 x.f5.f0, .int .i64 x.f5.f1, .int .i64 x.f6.f0, .int .i64 x.f6.f1, .int .i64 x.f7]), .bool false, .bool false, .pointer (some ⟨w.heap.size + 1, 0, none⟩), .int .i64 x.f0, .bool true, .bool false, .bool false, undef, .int .i64 i, .bool true, .bool true, .pointer (some ⟨w.heap.size, 4, none⟩), .slice (some ad) l.length c, .int .i64 i, .int .i64 ((i : Int) - 1), .pointer (some (ad.add ((i - 1) * 11))), .pointer (some (ad.add ((i - 1) * 11))), .int .i64 xp.f0, .pointer (some ⟨(w.heap.size + 1), 0, none⟩), .int .i64 x.f0, .bool (decide (x.f0 < xp.f0)), .bool (decide (x.f0 < xp.f0)), undef, undef, undef, undef, undef, undef, undef, undef, undef, undef, undef, undef, undef, undef, undef, undef, undef, undef, undef, undef, undef, undef, undef, undef, undef, undef, undef, undef, undef, undef, undef], defers := [] }
          mixed (by kernel_rfl) rfl (Ahead.of3 25 39 rfl rfl (by kernel_rfl) rfl rfl) ?_ (AllFlow.ops rfl ?_) rfl ?_
        · exact ⟨blkCell HE.out.1 0, blkCell HE.out.1 1, blkCell HE.out.1 2, blkCell HE.out.1 3, blkCell HE.out.1 4, y0, m0, (Below.refl _ _).drew⟩
        · refine ⟨?_, ?_, ?_, ?_, ?_, ?_, ?_, ?_, ?_, ?_, ?_, ?_, ?_, ?_, trivial⟩
          · exact .val 25 _ rfl rfl fun V ⟨y0, y1, y2, y3, y4, y5, x0, hB_⟩ => by go_simp
          · exact .val 26 _ rfl rfl fun V ⟨y0, y1, y2, y3, y4, y5, x0, hB_⟩ => by go_simp
          · exact .val 27 _ rfl rfl fun V ⟨y0, y1, y2, y3, y4, y5, x0, hB_⟩ => by go_simp
          · exact .val 28 _ rfl rfl fun V ⟨y0, y1, y2, y3, y4, y5, x0, hB_⟩ => by go_simp
          · exact .val 29 _ rfl rfl fun V ⟨y0, y1, y2, y3, y4, y5, x0, hB_⟩ => by go_simp
          · exact .val 30 _ rfl rfl fun V ⟨y0, y1, y2, y3, y4, y5, x0, hB_⟩ => by go_simp
          · exact .val 31 _ rfl rfl fun V ⟨y0, y1, y2, y3, y4, y5, x0, hB_⟩ => by go_simp <;> exact hk1
          · exact .val 32 _ rfl rfl fun V ⟨y0, y1, y2, y3, y4, y5, x0, hB_⟩ => by go_simp <;> exact fun hh => absurd (hh (by have := of_decide_eq_true hi0'; omega)) (by have := of_decide_eq_true hi1'; omega)
          · exact .val 33 _ rfl rfl fun V ⟨y0, y1, y2, y3, y4, y5, x0, hB_⟩ => by go_simp
          · exact .val 34 _ rfl rfl fun V ⟨y0, y1, y2, y3, y4, y5, x0, hB_⟩ => by go_simp
          · exact .val 35 _ rfl rfl fun V ⟨y0, y1, y2, y3, y4, y5, x0, hB_⟩ => by go_simp
          · exact .val 36 _ rfl rfl fun V ⟨y0, y1, y2, y3, y4, y5, x0, hB_⟩ => by go_simp
          · exact .val 37 _ rfl rfl fun V ⟨y0, y1, y2, y3, y4, y5, x0, hB_⟩ => by go_simp
          · exact .val 38 _ rfl rfl fun V ⟨y0, y1, y2, y3, y4, y5, x0, hB_⟩ => by go_simp
        · rintro V7 ⟨q0, q1, q2, q3, q4, q5, x0, hB_⟩
          go_wp2
          go_meet
          case rel => exact ⟨by unfold lateB; rw [s1, hg, hgp]; rfl, hB_⟩
    case rest =>
    obtain ⟨rfl, hbc⟩ := hcut
    have e0 := heap_grow HE.out.1 hbc.out
    have e1 := heap_grow HE.out.2 hbc.out
    have HB4 := hid (HB3.out.trans (hbc.out.mono HB3.out.size))
    have HE := hid (And.intro e0 e1)
    clear e0 e1 hbc b4 y0
    cases h2 : lateB l i with
    | true =>
      go_wp2
      go_ret
      exact ⟨ret_int (by unfold postRes; rw [if_pos H1.out, if_pos h2]), HB4.out⟩
    | false =>
      have H2 := hid h2
      clear h2
      go_upto_region 7 with fail
      go_cut [39] from 40 to 47 (fun v39 wq => v39 = .bool (wt && !(spanOk x.f4 1000000)) ∧ Hid (Below wc.heap.size wc wq))
      case first =>
        have hmw := MW.out
        have ew := EW.out.1
        go_wp2_with fail
        clear hmw ew
        refine (CW.out _).mono ?_
        rintro e W5 ⟨rfl, hb⟩
        have e1 := heap_grow HE.out.2 hb
        have HB5 := hid hb
        have x4 := blkCell e1 4
        have x5 := blkCell e1 5
        simp at x4 x5
        clear e1 hb
        cases wt with
        | false =>
          go_wp2
          go_meet
          case rel => exact ⟨rfl, HB5⟩
        | true =>
          go_wp2_with (first | (go_at_call 32; refine (isSpan_any x.f4 _ _).mono ?_; rintro e w' ⟨rfl, hb⟩))
          go_meet
          case rel => exact ⟨rfl, hid (HB5.out.trans (hb.mono HB5.out.size))⟩
      case rest =>
      obtain ⟨rfl, hbq⟩ := hcut
      have e0 := heap_grow HE.out.1 hbq.out
      have e1 := heap_grow HE.out.2 hbq.out
      have HB6 := hid (HB4.out.trans (hbq.out.mono HB4.out.size))
      have HE := hid (And.intro e0 e1)
      clear e0 e1 hbq
      cases h3 : (wt && !(spanOk x.f4 1000000)) with
      | true =>
        go_wp2
        go_ret
        exact ⟨ret_int (by unfold postRes; rw [if_pos H1.out, H2.out, if_neg (by decide), if_pos h3]), HB6.out⟩
      | false =>
        have H3 := hid h3
        clear h3
        go_wp2_with fail
        rename World => W6
        refine wp_flow [[], [], [], [2], [], [3, 2, 4], [1, 5, 3, 2, 4], [0], [7, 0], [0, 7, 8], [9, 0, 7, 8, 6, 1, 5, 3, 2, 4], [10, 9, 0, 7, 8, 6, 1, 5, 3, 2, 4]] 10
          (fun V => V.cell? ⟨w.heap.size, 0, none⟩ = some (.int .i64 ho.f0) ∧ V.cell? ⟨w.heap.size, 1, none⟩ = some (.int .i64 ho.f1) ∧ V.cell? ⟨w.heap.size, 2, none⟩ = some (.int .i64 fi.f0) ∧ V.cell? ⟨w.heap.size, 3, none⟩ = some (.int .i64 fi.f1) ∧ V.cell? ⟨w.heap.size, 4, none⟩ = some (.slice (some ad) l.length c) ∧ Below W6.heap.size W6 V)
          { tmps := #[.agg #[.int .i64 ho.f0, .int .i64 ho.f1, .int .i64 fi.f0, .int .i64 fi.f1, .slice (some ad) l.length c], .int .i64 i, .pointer (some ⟨w.heap.size, 0, none⟩), undef, .int .i64 0, .pointer (some ⟨(w.heap.size + 1), 0, none⟩), .iface T (.agg #[.int .i64 x.f0, .int .u8 x.f1, .int .i64 x.f2, .int .i64 x.f3, .int .i64 x.f4.f0, .int .i64 x.f4.f1, .int .i64 x.f5.f0, .int .i64 x.f5.f1, .int .i64 x.f6.f0, .int .i64 x.f6.f1, .int .i64 x.f7]), undef, .pointer (some ⟨w.heap.size, 4, none⟩), .slice (some ad) l.length c, .int .i64 i, .pointer (some (ad.add (i * 11))), .agg #[.int .i64 x.f0, .int .u8 x.f1, .int .i64 x.f2, .int .i64 x.f3, .int .i64 x.f4.f0, .int .i64 x.f4.f1, .int .i64 x.f5.f0, .int .i64 x.f5.f1, .int .i64 x.f6.f0, .int .i64 x.f6.f1, .int .i64 x.f7], .agg #[.int .i64 x.f0, .int .u8 x.f1, .int .i64 x.f2, .int .i64 x.f3, .int .i64 x.f4.f0, .int .i64 x.f4.f1, .int .i64 x.f5.f0, .int .i64 x.f5.f1, .int .i64 x.f6.f0, .int .i64 x.f6.f1, .int .i64 x.f7], .iface T (.agg #[.int .i64 x.f0, .int .u8 x.f1, .int .i64 x.f2, .int .i64 x.f3, .int .i64 x.f4.f0, .int .i64 x.f4.f1, .int .i64 x.f5.f0, .int .i64 x.f5.f1, .int .i64 x.f6.f0, .int .i64 x.f6.f1, .int .i64 x.f7]), .bool false, .iface T (.agg #[.int .i64 x.f0, .int .u8 x.f1, .int .i64 x.f2, .int .i64 x.f3, .int .i64 x.f4.f0, .int .i64 x.f4.f1, .int .i64 x.f5.f0, .int .i64 x.f5.f1, .int .i64 x.f6.f0, .int .i64 x.f6.f1, .int .i64 x.f7]), .bool false, .bool false, .pointer (some ⟨w.heap.size + 1, 0, none⟩), .int .i64 x.f0, .bool true, .bool false, .bool false, .bool false, u25, u26, u27, u28, u29, u30, u31, u32, u33, u34, u35, u36, u37, u38, .bool false, u40, u41, u42, u43, u44, u45, u46, u47, .iface T (.agg #[.int .i64 x.f0, .int .u8 x.f1, .int .i64 x.f2, .int .i64 x.f3, .int .i64 x.f4.f0, .int .i64 x.f4.f1, .int .i64 x.f5.f0, .int .i64 x.f5.f1, .int .i64 x.f6.f0, .int .i64 x.f6.f1, .int .i64 x.f7]), .agg #[.int .i64 ho.f0, .int .i64 ho.f1, .int .i64 fi.f0, .int .i64 fi.f1, .slice (some ad) l.length c], .pointer (some ⟨w.heap.size, 4, none⟩), .slice (some ad) l.length c, .int .i64 i, .slice (some ad) i c, .agg #[.int .i64 ho.f0, .int .i64 ho.f1, .int .i64 fi.f0, .int .i64 fi.f1, .slice (some ad) l.length c, .slice (some ad) i c], .func (.method "cullet/ledger.check") #[.iface T (.agg #[.int .i64 x.f0, .int .u8 x.f1, .int .i64 x.f2, .int .i64 x.f3, .int .i64 x.f4.f0, .int .i64 x.f4.f1, .int .i64 x.f5.f0, .int .i64 x.f5.f1, .int .i64 x.f6.f0, .int .i64 x.f6.f1, .int .i64 x.f7])] #[], .func (.method "cullet/ledger.check") #[.iface T (.agg #[.int .i64 x.f0, .int .u8 x.f1, .int .i64 x.f2, .int .i64 x.f3, .int .i64 x.f4.f0, .int .i64 x.f4.f1, .int .i64 x.f5.f0, .int .i64 x.f5.f1, .int .i64 x.f6.f0, .int .i64 x.f6.f1, .int .i64 x.f7])] #[], .iface T (.agg #[.int .i64 x.f0, .int .u8 x.f1, .int .i64 x.f2, .int .i64 x.f3, .int .i64 x.f4.f0, .int .i64 x.f4.f1, .int .i64 x.f5.f0, .int .i64 x.f5.f1, .int .i64 x.f6.f0, .int .i64 x.f6.f1, .int .i64 x.f7]), undef, undef, undef, undef, undef, undef, undef, undef, undef, undef, undef, undef], defers := [] }
          mixed (by kernel_rfl) rfl (Ahead.of3 48 58 rfl rfl (by kernel_rfl) rfl rfl) ?_ (AllFlow.ops rfl ?_) rfl ?_
        · exact ⟨blkCell HE.out.1 0, blkCell HE.out.1 1, blkCell HE.out.1 2, blkCell HE.out.1 3, blkCell HE.out.1 4, (Below.refl _ _).drew⟩
        · refine ⟨?_, ?_, ?_, ?_, ?_, ?_, ?_, ?_, ?_, ?_, trivial⟩
          · exact .val 48 _ rfl rfl fun V ⟨y0, y1, y2, y3, y4, hB_⟩ => by go_simp
          · exact .val 49 _ rfl rfl fun V ⟨y0, y1, y2, y3, y4, hB_⟩ => by go_simp
          · exact .val 50 _ rfl rfl fun V ⟨y0, y1, y2, y3, y4, hB_⟩ => by go_simp
          · exact .val 51 _ rfl rfl fun V ⟨y0, y1, y2, y3, y4, hB_⟩ => by go_simp
          · exact .val 52 _ rfl rfl fun V ⟨y0, y1, y2, y3, y4, hB_⟩ => by go_simp
          · exact .val 53 _ rfl rfl fun V ⟨y0, y1, y2, y3, y4, hB_⟩ => by go_simp <;> exact fun hh => absurd hh (by omega)
          · exact .val 54 _ rfl rfl fun V ⟨y0, y1, y2, y3, y4, hB_⟩ => by go_simp
          · exact .val 55 _ rfl rfl fun V ⟨y0, y1, y2, y3, y4, hB_⟩ => by go_simp
          · exact .val 56 _ rfl rfl fun V ⟨y0, y1, y2, y3, y4, hB_⟩ => by have hna := NA.out; go_simp
          · exact .val 57 _ rfl rfl fun V ⟨y0, y1, y2, y3, y4, hB_⟩ => by go_simp
        · rintro V7 ⟨y0, y1, y2, y3, y4, hB_⟩
          have e0 := heap_grow HE.out.1 hB_
          have e1 := heap_grow HE.out.2 hB_
          have HB7 := hid (HB6.out.trans (hB_.mono HB6.out.size))
          have hmc := MC.out
          have ec := EW.out.2.1
          clear y0 y1 y2 y3 y4 hB_
          go_wp2_with fail
          clear hmc ec
          refine (CC.out _ HB7.out).mono ?_
          rintro e W8 ⟨rfl, hb⟩
          have HE := hid (And.intro (heap_grow e0 hb) (heap_grow e1 hb))
          have HB8 := hid (HB7.out.trans (hb.mono HB7.out.size))
          clear e0 e1 hb
          by_cases h4 : ¬ er = 0
          · have d4 : (er != 0) = true := by simpa using h4
            go_wp2
            go_ret
            exact ⟨ret_int (by unfold postRes; rw [if_pos H1.out, H2.out, if_neg (by decide), H3.out, if_neg (by decide), if_neg h4]), HB8.out⟩
          have h4' := Decidable.not_not.1 h4
          have d4 : (er != 0) = false := by simpa using h4'
          have H4 := hid h4'
          clear h4 h4'
          go_wp2_with fail
          refine wp_flow [[], [0], [], [2], [], [4], [3, 2, 5, 4], [1, 0, 6, 3, 2, 5, 4]] 8
            (fun V => V.cell? ⟨(w.heap.size + 1), 0, none⟩ = some (.int .i64 x.f0) ∧ V.cell? ⟨(w.heap.size + 1), 1, none⟩ = some (.int .u8 x.f1) ∧ Below W8.heap.size W8 V)
            { tmps := #[.agg #[.int .i64 ho.f0, .int .i64 ho.f1, .int .i64 fi.f0, .int .i64 fi.f1, .slice (some ad) l.length c], .int .i64 i, .pointer (some ⟨w.heap.size, 0, none⟩), undef, .int .i64 0, .pointer (some ⟨(w.heap.size + 1), 0, none⟩), .iface T (.agg #[.int .i64 x.f0, .int .u8 x.f1, .int .i64 x.f2, .int .i64 x.f3, .int .i64 x.f4.f0, .int .i64 x.f4.f1, .int .i64 x.f5.f0, .int .i64 x.f5.f1, .int .i64 x.f6.f0, .int .i64 x.f6.f1, .int .i64 x.f7]), .int .i64 er, .pointer (some ⟨w.heap.size, 4, none⟩), .slice (some ad) l.length c, .int .i64 i, .pointer (some (ad.add (i * 11))), .agg #[.int .i64 x.f0, .int .u8 x.f1, .int .i64 x.f2, .int .i64 x.f3, .int .i64 x.f4.f0, .int .i64 x.f4.f1, .int .i64 x.f5.f0, .int .i64 x.f5.f1, .int .i64 x.f6.f0, .int .i64 x.f6.f1, .int .i64 x.f7], .agg #[.int .i64 x.f0, .int .u8 x.f1, .int .i64 x.f2, .int .i64 x.f3, .int .i64 x.f4.f0, .int .i64 x.f4.f1, .int .i64 x.f5.f0, .int .i64 x.f5.f1, .int .i64 x.f6.f0, .int .i64 x.f6.f1, .int .i64 x.f7], .iface T (.agg #[.int .i64 x.f0, .int .u8 x.f1, .int .i64 x.f2, .int .i64 x.f3, .int .i64 x.f4.f0, .int .i64 x.f4.f1, .int .i64 x.f5.f0, .int .i64 x.f5.f1, .int .i64 x.f6.f0, .int .i64 x.f6.f1, .int .i64 x.f7]), .bool false, .iface T (.agg #[.int .i64 x.f0, .int .u8 x.f1, .int .i64 x.f2, .int .i64 x.f3, .int .i64 x.f4.f0, .int .i64 x.f4.f1, .int .i64 x.f5.f0, .int .i64 x.f5.f1, .int .i64 x.f6.f0, .int .i64 x.f6.f1, .int .i64 x.f7]), .bool false, .bool false, .pointer (some ⟨w.heap.size + 1, 0, none⟩), .int .i64 x.f0, .bool true, .bool false, .bool false, .bool false, u25, u26, u27, u28, u29, u30, u31, u32, u33, u34, u35, u36, u37, u38, .bool false, u40, u41, u42, u43, u44, u45, u46, u47, .iface T (.agg #[.int .i64 x.f0, .int .u8 x.f1, .int .i64 x.f2, .int .i64 x.f3, .int .i64 x.f4.f0, .int .i64 x.f4.f1, .int .i64 x.f5.f0, .int .i64 x.f5.f1, .int .i64 x.f6.f0, .int .i64 x.f6.f1, .int .i64 x.f7]), .agg #[.int .i64 ho.f0, .int .i64 ho.f1, .int .i64 fi.f0, .int .i64 fi.f1, .slice (some ad) l.length c], .pointer (some ⟨w.heap.size, 4, none⟩), .slice (some ad) l.length c, .int .i64 i, .slice (some ad) i c, .agg #[.int .i64 ho.f0, .int .i64 ho.f1, .int .i64 fi.f0, .int .i64 fi.f1, .slice (some ad) l.length c, .slice (some ad) i c], .func (Fn.method "cullet/ledger.check") #[.iface T (.agg #[.int .i64 x.f0, .int .u8 x.f1, .int .i64 x.f2, .int .i64 x.f3, .int .i64 x.f4.f0, .int .i64 x.f4.f1, .int .i64 x.f5.f0, .int .i64 x.f5.f1, .int .i64 x.f6.f0, .int .i64 x.f6.f1, .int .i64 x.f7])] #[], .func (Fn.method "cullet/ledger.check") #[.iface T (.agg #[.int .i64 x.f0, .int .u8 x.f1, .int .i64 x.f2, .int .i64 x.f3, .int .i64 x.f4.f0, .int .i64 x.f4.f1, .int .i64 x.f5.f0, .int .i64 x.f5.f1, .int .i64 x.f6.f0, .int .i64 x.f6.f1, .int .i64 x.f7])] #[], .iface T (.agg #[.int .i64 x.f0, .int .u8 x.f1, .int .i64 x.f2, .int .i64 x.f3, .int .i64 x.f4.f0, .int .i64 x.f4.f1, .int .i64 x.f5.f0, .int .i64 x.f5.f1, .int .i64 x.f6.f0, .int .i64 x.f6.f1, .int .i64 x.f7]), .int .i64 er, .int .i64 er, .bool false, undef, .iface T (.agg #[.int .i64 x.f0, .int .u8 x.f1, .int .i64 x.f2, .int .i64 x.f3, .int .i64 x.f4.f0, .int .i64 x.f4.f1, .int .i64 x.f5.f0, .int .i64 x.f5.f1, .int .i64 x.f6.f0, .int .i64 x.f6.f1, .int .i64 x.f7]), .agg #[.int .i64 b.f0, .int .u8 b.f1, .int .i64 b.f2, .int .i64 b.f3, .int .i64 b.f4.f0, .int .i64 b.f4.f1, .int .i64 b.f5.f0, .int .i64 b.f5.f1, .int .i64 b.f6.f0, .int .i64 b.f6.f1, .int .i64 b.f7], .pointer (some ⟨(w.heap.size + 1), 1, none⟩), .int .u8 x.f1, .pointer (some ⟨(w.heap.size + 1), 0, none⟩), .int .i64 x.f0, .agg #[.int .i64 x.f0, .int .u8 x.f1, .int .i64 0, .int .i64 0, .int .i64 0, .int .i64 0, .int .i64 0, .int .i64 0, .int .i64 0, .int .i64 0, .int .i64 0], .bool (neB b x)], defers := [] }
            mixed (by kernel_rfl) rfl (Ahead.of3 62 70 rfl rfl (by kernel_rfl) rfl rfl) ?_ (AllFlow.ops rfl ?_) rfl ?_
          · exact ⟨blkCell HE.out.2 0, blkCell HE.out.2 1, (Below.refl _ _).drew⟩
          · refine ⟨?_, ?_, ?_, ?_, ?_, ?_, ?_, ?_, trivial⟩
            · exact .val 62 _ rfl rfl fun V ⟨y0, y1, hB_⟩ => by go_simp
            · refine .call 63 (.agg #[.int .i64 b.f0, .int .u8 b.f1, .int .i64 b.f2, .int .i64 b.f3, .int .i64 b.f4.f0, .int .i64 b.f4.f1, .int .i64 b.f5.f0, .int .i64 b.f5.f1, .int .i64 b.f6.f0, .int .i64 b.f6.f1, .int .i64 b.f7]) fb #[.agg #[.int .i64 x.f0, .int .u8 x.f1, .int .i64 x.f2, .int .i64 x.f3, .int .i64 x.f4.f0, .int .i64 x.f4.f1, .int .i64 x.f5.f0, .int .i64 x.f5.f1, .int .i64 x.f6.f0, .int .i64 x.f6.f1, .int .i64 x.f7]] rfl rfl (fun V ⟨y0, y1, hB_⟩ => by have hmb := MB.out; have eb := EW.out.2.2; go_simp) fun V ⟨y0, y1, hB_⟩ => ?_
              refine (CB.out _).mono ?_
              rintro e w' ⟨rfl, hb⟩
              exact ⟨rfl, cell_grow y0 hb, cell_grow y1 hb, hB_.trans (hb.mono hB_.size)⟩
            · exact .val 64 _ rfl rfl fun V ⟨y0, y1, hB_⟩ => by go_simp
            · exact .val 65 _ rfl rfl fun V ⟨y0, y1, hB_⟩ => by go_simp
            · exact .val 66 _ rfl rfl fun V ⟨y0, y1, hB_⟩ => by go_simp
            · exact .val 67 _ rfl rfl fun V ⟨y0, y1, hB_⟩ => by go_simp
            · exact .val 68 _ rfl rfl fun V ⟨y0, y1, hB_⟩ => by go_simp
            · exact .val 69 _ rfl rfl fun V ⟨y0, y1, hB_⟩ => by go_simp <;> (unfold neB; (repeat' split) <;> simp [*])
          · rintro V9 ⟨y0, y1, hB_⟩
            have HB9 := hid (HB8.out.trans (hB_.mono HB8.out.size))
            clear y0 y1 hB_
            cases h5 : neB b x with
            | true =>
              have HV := hid (show postRes wt er b x l i = 1 by unfold postRes; rw [if_pos H1.out, H2.out, if_neg (by decide), H3.out, if_neg (by decide), if_pos H4.out, if_pos h5])
              clear h5
              go_wp2
              go_ret
              exact ⟨ret_int HV.out.symm, HB9.out⟩
            | false =>
              have HV := hid (show postRes wt er b x l i = 0 by unfold postRes; rw [if_pos H1.out, H2.out, if_neg (by decide), H3.out, if_neg (by decide), if_pos H4.out, h5]; rfl)
              clear h5
              go_wp2
              go_ret
              exact ⟨ret_int HV.out.symm, HB9.out⟩
end Go.Proofs.Ytbmkbokkmmdjdaa
end
section
namespace Go.Proofs.Ytbmkbokkmmdjdaa
open Go.RowKit Go.Proofs.YtbmkbokkmmdjdaaW.PrintWords Go.Proofs.YtbmkbokkmmdjdaaW.PrintLast Go.Proofs.YtbmkbokkmmdjdaaW.PrintMore
open Q Go.Shelf
attribute [local go_sem] Oper.semAt_some wide_depth wide_fn
set_option linter.unusedVariables false
set_option linter.unusedSimpArgs false
theorem st2_same {W : World} {b : Nat} {t : TypeId} {a0 a1 : Value} (h : W.heap[b]? = some (.cells #[a0, a1] t (0, 0))) (v0 v1 : Value) : ((W.setCell ⟨b, 0, none⟩ v0).setCell ⟨b, 1, none⟩ v1).heap[b]? = some (.cells #[v0, v1] t (0, 0)) := by
  have h0 : (W.setCell ⟨b, 0, none⟩ v0).heap[b]? = some (.cells #[v0, a1] t (0, 0)) := set_at h 0 v0
  have h1 : ((W.setCell ⟨b, 0, none⟩ v0).setCell ⟨b, 1, none⟩ v1).heap[b]? = some (.cells #[v0, v1] t (0, 0)) := set_at h0 1 v1
  exact h1
theorem st2_other {W : World} {b k : Nat} {o : Obj} (hne : k ≠ b) (h : W.heap[k]? = some o) (v0 v1 : Value) : ((W.setCell ⟨b, 0, none⟩ v0).setCell ⟨b, 1, none⟩ v1).heap[k]? = some o :=
  set_other hne (set_other hne h)
theorem st2_below {w0 W : World} {B b : Nat} (h : Below B w0 W) (hb : B ≤ b) (v0 v1 : Value) : Below B w0 ((W.setCell ⟨b, 0, none⟩ v0).setCell ⟨b, 1, none⟩ v1) :=
  ((h.setCell (p := ⟨b, 0, none⟩) hb v0).setCell (p := ⟨b, 1, none⟩) hb v1)
theorem st3_same {W : World} {b : Nat} {t : TypeId} {a0 a1 a2 : Value} (h : W.heap[b]? = some (.cells #[a0, a1, a2] t (0, 0))) (v0 v1 v2 : Value) : (((W.setCell ⟨b, 0, none⟩ v0).setCell ⟨b, 1, none⟩ v1).setCell ⟨b, 2, none⟩ v2).heap[b]? = some (.cells #[v0, v1, v2] t (0, 0)) := by
  have h0 : (W.setCell ⟨b, 0, none⟩ v0).heap[b]? = some (.cells #[v0, a1, a2] t (0, 0)) := set_at h 0 v0
  have h1 : ((W.setCell ⟨b, 0, none⟩ v0).setCell ⟨b, 1, none⟩ v1).heap[b]? = some (.cells #[v0, v1, a2] t (0, 0)) := set_at h0 1 v1
  have h2 : (((W.setCell ⟨b, 0, none⟩ v0).setCell ⟨b, 1, none⟩ v1).setCell ⟨b, 2, none⟩ v2).heap[b]? = some (.cells #[v0, v1, v2] t (0, 0)) := set_at h1 2 v2
  exact h2
theorem st3_other {W : World} {b k : Nat} {o : Obj} (hne : k ≠ b) (h : W.heap[k]? = some o) (v0 v1 v2 : Value) : (((W.setCell ⟨b, 0, none⟩ v0).setCell ⟨b, 1, none⟩ v1).setCell ⟨b, 2, none⟩ v2).heap[k]? = some o :=
  set_other hne (set_other hne (set_other hne h))
theorem st3_below {w0 W : World} {B b : Nat} (h : Below B w0 W) (hb : B ≤ b) (v0 v1 v2 : Value) : Below B w0 (((W.setCell ⟨b, 0, none⟩ v0).setCell ⟨b, 1, none⟩ v1).setCell ⟨b, 2, none⟩ v2) :=
  (((h.setCell (p := ⟨b, 0, none⟩) hb v0).setCell (p := ⟨b, 1, none⟩) hb v1).setCell (p := ⟨b, 2, none⟩) hb v2)
theorem st11_same {W : World} {b : Nat} {t : TypeId} {a0 a1 a2 a3 a4 a5 a6 a7 a8 a9 a10 : Value} (h : W.heap[b]? = some (.cells #[a0, a1, a2, a3, a4, a5, a6, a7, a8, a9, a10] t (0, 0))) (v0 v1 v2 v3 v4 v5 v6 v7 v8 v9 v10 : Value) : (((((((((((W.setCell ⟨b, 0, none⟩ v0).setCell ⟨b, 1, none⟩ v1).setCell ⟨b, 2, none⟩ v2).setCell ⟨b, 3, none⟩ v3).setCell ⟨b, 4, none⟩ v4).setCell ⟨b, 5, none⟩ v5).setCell ⟨b, 6, none⟩ v6).setCell ⟨b, 7, none⟩ v7).setCell ⟨b, 8, none⟩ v8).setCell ⟨b, 9, none⟩ v9).setCell ⟨b, 10, none⟩ v10).heap[b]? = some (.cells #[v0, v1, v2, v3, v4, v5, v6, v7, v8, v9, v10] t (0, 0)) := by
  have h0 : (W.setCell ⟨b, 0, none⟩ v0).heap[b]? = some (.cells #[v0, a1, a2, a3, a4, a5, a6, a7, a8, a9, a10] t (0, 0)) := set_at h 0 v0
  have h1 : ((W.setCell ⟨b, 0, none⟩ v0).setCell ⟨b, 1, none⟩ v1).heap[b]? = some (.cells #[v0, v1, a2, a3, a4, a5, a6, a7, a8, a9, a10] t (0, 0)) := set_at h0 1 v1
  have h2 : (((W.setCell ⟨b, 0, none⟩ v0).setCell ⟨b, 1, none⟩ v1).setCell ⟨b, 2, none⟩ v2).heap[b]? = some (.cells #[v0, v1, v2, a3, a4, a5, a6, a7, a8, a9, a10] t (0, 0)) := set_at h1 2 v2
  have h3 : ((((W.setCell ⟨b, 0, none⟩ v0).setCell ⟨b, 1, none⟩ v1).setCell ⟨b, 2, none⟩ v2).setCell ⟨b, 3, none⟩ v3).heap[b]? = some (.cells #[v0, v1, v2, v3, a4, a5, a6, a7, a8, a9, a10] t (0, 0)) := set_at h2 3 v3
  have h4 : (((((W.setCell ⟨b, 0, none⟩ v0).setCell ⟨b, 1, none⟩ v1).setCell ⟨b, 2, none⟩ v2).setCell ⟨b, 3, none⟩ v3).setCell ⟨b, 4, none⟩ v4).heap[b]? = some (.cells #[v0, v1, v2, v3, v4, a5, a6, a7, a8, a9, a10] t (0, 0)) := set_at h3 4 v4
  have h5 : ((((((W.setCell ⟨b, 0, none⟩ v0).setCell ⟨b, 1, none⟩ v1).setCell ⟨b, 2, none⟩ v2).setCell ⟨b, 3, none⟩ v3).setCell ⟨b, 4, none⟩ v4).setCell ⟨b, 5, none⟩ v5).heap[b]? = some (.cells #[v0, v1, v2, v3, v4, v5, a6, a7, a8, a9, a10] t (0, 0)) := set_at h4 5 v5
  have h6 : (((((((W.setCell ⟨b, 0, none⟩ v0).setCell ⟨b, 1, none⟩ v1).setCell ⟨b, 2, none⟩ v2).setCell ⟨b, 3, none⟩ v3).setCell ⟨b, 4, none⟩ v4).setCell ⟨b, 5, none⟩ v5).setCell ⟨b, 6, none⟩ v6).heap[b]? = some (.cells #[v0, v1, v2, v3, v4, v5, v6, a7, a8, a9, a10] t (0, 0)) := set_at h5 6 v6
  have h7 : ((((((((W.setCell ⟨b, 0, none⟩ v0).setCell ⟨b, 1, none⟩ v1).setCell ⟨b, 2, none⟩ v2).setCell ⟨b, 3, none⟩ v3).setCell ⟨b, 4, none⟩ v4).setCell ⟨b, 5, none⟩ v5).setCell ⟨b, 6, none⟩ v6).setCell ⟨b, 7, none⟩ v7).heap[b]? = some (.cells #[v0, v1, v2, v3, v4, v5, v6, v7, a8, a9, a10] t (0, 0)) := set_at h6 7 v7
  have h8 : (((((((((W.setCell ⟨b, 0, none⟩ v0).setCell ⟨b, 1, none⟩ v1).setCell ⟨b, 2, none⟩ v2).setCell ⟨b, 3, none⟩ v3).setCell ⟨b, 4, none⟩ v4).setCell ⟨b, 5, none⟩ v5).setCell ⟨b, 6, none⟩ v6).setCell ⟨b, 7, none⟩ v7).setCell ⟨b, 8, none⟩ v8).heap[b]? = some (.cells #[v0, v1, v2, v3, v4, v5, v6, v7, v8, a9, a10] t (0, 0)) := set_at h7 8 v8
  have h9 : ((((((((((W.setCell ⟨b, 0, none⟩ v0).setCell ⟨b, 1, none⟩ v1).setCell ⟨b, 2, none⟩ v2).setCell ⟨b, 3, none⟩ v3).setCell ⟨b, 4, none⟩ v4).setCell ⟨b, 5, none⟩ v5).setCell ⟨b, 6, none⟩ v6).setCell ⟨b, 7, none⟩ v7).setCell ⟨b, 8, none⟩ v8).setCell ⟨b, 9, none⟩ v9).heap[b]? = some (.cells #[v0, v1, v2, v3, v4, v5, v6, v7, v8, v9, a10] t (0, 0)) := set_at h8 9 v9
  have h10 : (((((((((((W.setCell ⟨b, 0, none⟩ v0).setCell ⟨b, 1, none⟩ v1).setCell ⟨b, 2, none⟩ v2).setCell ⟨b, 3, none⟩ v3).setCell ⟨b, 4, none⟩ v4).setCell ⟨b, 5, none⟩ v5).setCell ⟨b, 6, none⟩ v6).setCell ⟨b, 7, none⟩ v7).setCell ⟨b, 8, none⟩ v8).setCell ⟨b, 9, none⟩ v9).setCell ⟨b, 10, none⟩ v10).heap[b]? = some (.cells #[v0, v1, v2, v3, v4, v5, v6, v7, v8, v9, v10] t (0, 0)) := set_at h9 10 v10
  exact h10
theorem st11_below {w0 W : World} {B b : Nat} (h : Below B w0 W) (hb : B ≤ b) (v0 v1 v2 v3 v4 v5 v6 v7 v8 v9 v10 : Value) : Below B w0 (((((((((((W.setCell ⟨b, 0, none⟩ v0).setCell ⟨b, 1, none⟩ v1).setCell ⟨b, 2, none⟩ v2).setCell ⟨b, 3, none⟩ v3).setCell ⟨b, 4, none⟩ v4).setCell ⟨b, 5, none⟩ v5).setCell ⟨b, 6, none⟩ v6).setCell ⟨b, 7, none⟩ v7).setCell ⟨b, 8, none⟩ v8).setCell ⟨b, 9, none⟩ v9).setCell ⟨b, 10, none⟩ v10) :=
  (((((((((((h.setCell (p := ⟨b, 0, none⟩) hb v0).setCell (p := ⟨b, 1, none⟩) hb v1).setCell (p := ⟨b, 2, none⟩) hb v2).setCell (p := ⟨b, 3, none⟩) hb v3).setCell (p := ⟨b, 4, none⟩) hb v4).setCell (p := ⟨b, 5, none⟩) hb v5).setCell (p := ⟨b, 6, none⟩) hb v6).setCell (p := ⟨b, 7, none⟩) hb v7).setCell (p := ⟨b, 8, none⟩) hb v8).setCell (p := ⟨b, 9, none⟩) hb v9).setCell (p := ⟨b, 10, none⟩) hb v10)
end Go.Proofs.Ytbmkbokkmmdjdaa
end
