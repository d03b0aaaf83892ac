import Derived.Test.YthoofldinnfpiaaN3
import Derived.Test.YthoofldinnfpiaaPC
import Derived.Test.YthoofldinnfpiaaOT
namespace Go.Proofs.Ythoofldinnfpiaa
open Go.RowKit Go.Proofs.YthoofldinnfpiaaW.PrintWords Go.Proofs.YthoofldinnfpiaaW.PrintLast Go.Proofs.YthoofldinnfpiaaW.PrintMore
open Q
set_option linter.unusedVariables false
theorem checks_pure (l : List S82) (fl tg : Int) (l0 : List S29) (a1 a2 a3 a4 a5 a6 a7 a8 : Int) (l9 : List Int) (a10 a11 a12 a13 a14 a15 a16 a17 a18 : Int) (l19 : List Int) (l20 : List S118) :
    ∃ k, culletlaw05_StrengthChecks.f k l fl tg l0 a1 a2 a3 a4 a5 a6 a7 a8 l9 a10 a11 a12 a13 a14 a15 a16 a17 a18 l19 l20 = some true := by
  obtain ⟨K1, h1⟩ := lives
  obtain ⟨K2, h2⟩ := refThick l fl tg a5 a6
  obtain ⟨K3, h3⟩ := refCheck l fl tg
  obtain ⟨K4, h4⟩ := sameSpans (thickOf l fl tg a5 a6).1 (by have := thick_len l fl tg a5 a6; omega)
  refine ⟨K1 + K2 + K3 + K4, ?_⟩
  have h1 := h1 (K1 + K2 + K3 + K4) (by omega)
  have h2 := h2 (K1 + K2 + K3 + K4) (by omega)
  have h3 := h3 (K1 + K2 + K3 + K4) (by omega)
  have h4 := h4 (K1 + K2 + K3 + K4) (by omega)
  simp only at h1 h2 h3 h4
  simp only [culletlaw05_StrengthChecks.f, culletlaw05_Great.f, strength_Thickness.f, strength_Check.f, Option.bind_some, h1, h2, h3, h4, if_true, ite_self]
theorem strengthChecks_calls (A : Option Addr) (c : Nat) (l : List S82) (fl tg : Int) (A0 : Option Addr) (c0 : Nat) (l0 : List S29) (a1 a2 a3 a4 a5 a6 a7 a8 : Int) (A9 : Option Addr) (c9 : Nat) (l9 : List Int) (a10 a11 a12 a13 a14 a15 a16 a17 a18 : Int) (A19 : Option Addr) (c19 : Nat) (l19 : List Int) (A20 : Option Addr) (c20 : Nat) (l20 : List S118) (W : World)
    (hC : Kd.C k82 W A l.length l) (hl : l.length ≤ c) (hC0 : Kd.C k29 W A0 l0.length l0) (hl0 : l0.length ≤ c0) (hC9 : Kd.C (Kd.int .i64) W A9 l9.length l9) (hl9 : l9.length ≤ c9) (hC19 : Kd.C (Kd.int .i64) W A19 l19.length l19) (hl19 : l19.length ≤ c19) (hC20 : Kd.C k118 W A20 l20.length l20) (hl20 : l20.length ≤ c20)
    (wl : ∀ y ∈ l, W82 y) (w1 : W64 fl) (w2 : W64 tg)
    (wf : (∀ y ∈ l0, W29 y) ∧ (W64 a1 ∧ W64 a2 ∧ W64 a3 ∧ W64 a4) ∧ W64 a5 ∧ W64 a6 ∧ W64 a7 ∧ W64 a8 ∧ (∀ y ∈ l9, W64 y) ∧ W64 a10 ∧ W64 a11 ∧ W64 a12 ∧ W64 a13 ∧ W64 a14 ∧ W64 a15 ∧ W64 a16 ∧ W64 a17 ∧ W64 a18 ∧ (∀ y ∈ l19, W64 y) ∧ ∀ y ∈ l20, W118 y) :
    Calls Try.prog 3 #[.agg #[.slice A l.length c, .int .i64 fl, .int .i64 tg], .agg #[.slice A0 l0.length c0, .int .i64 a1, .int .i64 a2, .int .i64 a3, .int .i64 a4, .int .i64 a5, .int .i64 a6, .int .i64 a7, .int .i64 a8, .slice A9 l9.length c9, .int .i64 a10, .int .i64 a11, .int .i64 a12, .int .i64 a13, .int .i64 a14, .int .i64 a15, .int .i64 a16, .int .i64 a17, .int .i64 a18, .slice A19 l19.length c19, .slice A20 l20.length c20]] W fun e w' => e = .returned (.bool true) ∧ Below W.heap.size W w' := by
  obtain ⟨k, hk⟩ := checks_pure l fl tg l0 a1 a2 a3 a4 a5 a6 a7 a8 l9 a10 a11 a12 a13 a14 a15 a16 a17 a18 l19 l20
  exact culletlaw05_StrengthChecks.calls k A c l fl tg A0 c0 l0 a1 a2 a3 a4 a5 a6 a7 a8 A9 c9 l9 a10 a11 a12 a13 a14 a15 a16 a17 a18 A19 c19 l19 A20 c20 l20 true W hC hl hC0 hl0 hC9 hl9 hC19 hl19 hC20 hl20 hk
end Go.Proofs.Ythoofldinnfpiaa
