import Derived.Test.YthoofldinnfpiaaPB
import Derived.Test.YthoofldinnfpiaaNA
namespace Go.Proofs.Ythoofldinnfpiaa
open Go.RowKit Go.Proofs.YthoofldinnfpiaaW.PrintWords Go.Proofs.YthoofldinnfpiaaW.PrintLast Go.Proofs.YthoofldinnfpiaaW.PrintMore
open Q Go.Shelf
attribute [local go_sem] Oper.semAt_some wide_depth wide_fn
set_option linter.unusedVariables false
theorem lives_any (w : World) : Calls Try.prog 14 #[] w fun e w' => e = .returned (.bool true) ∧ Below w.heap.size w w' := by
  obtain ⟨K, h⟩ := lives
  exact culletlaw05_lives.calls K true w (h K (Nat.le_refl _))
theorem great_any (A : Option Addr) (c : Nat) (l : List S82) (fl tg : Int) (w : World) (hC : Kd.C k82 w A l.length l) (hl : l.length ≤ c) :
    Calls Try.prog 13 #[.agg #[.slice A l.length c, .int .i64 fl, .int .i64 tg]] w fun e w' => e = .returned (.bool (decide ((l.length : Int) > 40))) ∧ Below w.heap.size w w' :=
  culletlaw05_Great.calls A c l fl tg _ w hC hl rfl
/-- what a law's boxes hold -/
structure LawB (w : World) (A : Option Addr) (c : Nat) (l : List S82) (fl tg : Int) (A0 : Option Addr) (c0 : Nat) (l0 : List S29) (a1 a2 a3 a4 a5 a6 a7 a8 : Int) (A9 : Option Addr) (c9 : Nat) (l9 : List Int) (a10 a11 a12 a13 a14 a15 a16 a17 a18 : Int) (A19 : Option Addr) (c19 : Nat) (l19 : List Int) (A20 : Option Addr) (c20 : Nat) (l20 : List S118) (W : World) : Prop where
  hb : W.heap[w.heap.size]? = some (.cells #[.slice A l.length c, .int .i64 fl, .int .i64 tg] 24 (0, 0))
  ha : W.heap[w.heap.size + 1]? = some (.cells #[.slice A0 l0.length c0, .int .i64 a1, .int .i64 a2, .int .i64 a3, .int .i64 a4, .int .i64 a5, .int .i64 a6, .int .i64 a7, .int .i64 a8, .slice A9 l9.length c9, .int .i64 a10, .int .i64 a11, .int .i64 a12, .int .i64 a13, .int .i64 a14, .int .i64 a15, .int .i64 a16, .int .i64 a17, .int .i64 a18, .slice A19 l19.length c19, .slice A20 l20.length c20] 33 (0, 0))
  be : Below w.heap.size w W
theorem LawB.grow {w W W' : World} {A : Option Addr} {c : Nat} {l : List S82} {fl tg : Int} {A0 : Option Addr} {c0 : Nat} {l0 : List S29} {a1 a2 a3 a4 a5 a6 a7 a8 : Int} {A9 : Option Addr} {c9 : Nat} {l9 : List Int} {a10 a11 a12 a13 a14 a15 a16 a17 a18 : Int} {A19 : Option Addr} {c19 : Nat} {l19 : List Int} {A20 : Option Addr} {c20 : Nat} {l20 : List S118} (h : LawB w A c l fl tg A0 c0 l0 a1 a2 a3 a4 a5 a6 a7 a8 A9 c9 l9 a10 a11 a12 a13 a14 a15 a16 a17 a18 A19 c19 l19 A20 c20 l20 W) (hb : Below W.heap.size W W') : LawB w A c l fl tg A0 c0 l0 a1 a2 a3 a4 a5 a6 a7 a8 A9 c9 l9 a10 a11 a12 a13 a14 a15 a16 a17 a18 A19 c19 l19 A20 c20 l20 W' :=
  ⟨heap_grow h.hb hb, heap_grow h.ha hb, h.be.trans (hb.mono h.be.size)⟩
end Go.Proofs.Ythoofldinnfpiaa
