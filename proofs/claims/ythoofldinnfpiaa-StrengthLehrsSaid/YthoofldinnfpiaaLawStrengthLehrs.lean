import Derived.Test.YthoofldinnfpiaaLF
import Derived.Test.YthoofldinnfpiaaLV
import Derived.Test.YthoofldinnfpiaaOL
namespace Go.Proofs.Ythoofldinnfpiaa
open Go.RowKit Go.Proofs.YthoofldinnfpiaaW.PrintWords Go.Proofs.YthoofldinnfpiaaW.PrintLast Go.Proofs.YthoofldinnfpiaaW.PrintMore
open Q Go.Shelf
attribute [local go_sem] Oper.semAt_some wide_depth wide_fn
set_option linter.unusedVariables false
set_option linter.unusedSimpArgs false
/-- what the law's boxes hold -/
structure LawL (w : World) (A : Option Addr) (c : Nat) (kn : List S97) (fa : Int) (A0 : Option Addr) (c0 : Nat) (l0 : List S29) (a1 a2 a3 a4 a5 a6 a7 a8 : Int) (A9 : Option Addr) (c9 : Nat) (l9 : List Int) (a10 a11 a12 a13 a14 a15 a16 a17 a18 : Int) (A19 : Option Addr) (c19 : Nat) (l19 : List Int) (A20 : Option Addr) (c20 : Nat) (l20 : List S118) (W : World) : Prop where
  hb : W.heap[w.heap.size]? = some (.cells #[.slice A kn.length c, .int .i64 fa] 44 (0, 0))
  ha : W.heap[w.heap.size + 1]? = some (.cells #[.slice A0 l0.length c0, .int .i64 a1, .int .i64 a2, .int .i64 a3, .int .i64 a4, .int .i64 a5, .int .i64 a6, .int .i64 a7, .int .i64 a8, .slice A9 l9.length c9, .int .i64 a10, .int .i64 a11, .int .i64 a12, .int .i64 a13, .int .i64 a14, .int .i64 a15, .int .i64 a16, .int .i64 a17, .int .i64 a18, .slice A19 l19.length c19, .slice A20 l20.length c20] 33 (0, 0))
  be : Below w.heap.size w W
theorem LawL.grow {w W W' : World} {A : Option Addr} {c : Nat} {kn : List S97} {fa : Int} {A0 : Option Addr} {c0 : Nat} {l0 : List S29} {a1 a2 a3 a4 a5 a6 a7 a8 : Int} {A9 : Option Addr} {c9 : Nat} {l9 : List Int} {a10 a11 a12 a13 a14 a15 a16 a17 a18 : Int} {A19 : Option Addr} {c19 : Nat} {l19 : List Int} {A20 : Option Addr} {c20 : Nat} {l20 : List S118} (h : LawL w A c kn fa A0 c0 l0 a1 a2 a3 a4 a5 a6 a7 a8 A9 c9 l9 a10 a11 a12 a13 a14 a15 a16 a17 a18 A19 c19 l19 A20 c20 l20 W) (hb : Below W.heap.size W W') : LawL w A c kn fa A0 c0 l0 a1 a2 a3 a4 a5 a6 a7 a8 A9 c9 l9 a10 a11 a12 a13 a14 a15 a16 a17 a18 A19 c19 l19 A20 c20 l20 W' :=
  ⟨heap_grow h.hb hb, heap_grow h.ha hb, h.be.trans (hb.mono h.be.size)⟩
set_option maxRecDepth 100000 in
set_option maxHeartbeats 8000000 in
set_option pp.deepTerms true in
set_option pp.maxSteps 1000000 in
theorem strengthLehrs_calls (A : Option Addr) (c : Nat) (kn : List S97) (fa : Int) (A0 : Option Addr) (c0 : Nat) (l0 : List S29) (a1 a2 a3 a4 a5 a6 a7 a8 : Int) (A9 : Option Addr) (c9 : Nat) (l9 : List Int) (a10 a11 a12 a13 a14 a15 a16 a17 a18 : Int) (A19 : Option Addr) (c19 : Nat) (l19 : List Int) (A20 : Option Addr) (c20 : Nat) (l20 : List S118) (W : World)
    (hC : Kd.C k97 W A kn.length kn) (hl : kn.length ≤ c) :
    Calls Try.prog 4 #[.agg #[.slice A kn.length c, .int .i64 fa], .agg #[.slice A0 l0.length c0, .int .i64 a1, .int .i64 a2, .int .i64 a3, .int .i64 a4, .int .i64 a5, .int .i64 a6, .int .i64 a7, .int .i64 a8, .slice A9 l9.length c9, .int .i64 a10, .int .i64 a11, .int .i64 a12, .int .i64 a13, .int .i64 a14, .int .i64 a15, .int .i64 a16, .int .i64 a17, .int .i64 a18, .slice A19 l19.length c19, .slice A20 l20.length c20]] W fun e w' => e = .returned (.bool true) ∧ Below W.heap.size W w' := by
  have HB := Below.refl W.heap.size W
  have hu44 := Try.underlying44
  have hu33 := Try.underlying33
  have hu29 := Try.underlying29
  have hu46 := Try.underlying46
  have hbel := (HB.alloc (Nat.le_refl _) (.cells #[.slice A kn.length c, .int .i64 fa] 44)).alloc (by simp) (.cells #[.slice A0 l0.length c0, .int .i64 a1, .int .i64 a2, .int .i64 a3, .int .i64 a4, .int .i64 a5, .int .i64 a6, .int .i64 a7, .int .i64 a8, .slice A9 l9.length c9, .int .i64 a10, .int .i64 a11, .int .i64 a12, .int .i64 a13, .int .i64 a14, .int .i64 a15, .int .i64 a16, .int .i64 a17, .int .i64 a18, .slice A19 l19.length c19, .slice A20 l20.length c20] 33)
  have e0 := World.alloc_heap_new W (.cells #[.slice A kn.length c, .int .i64 fa] 44)
  have e1 := World.alloc_heap_new (W.alloc (.cells #[.slice A kn.length c, .int .i64 fa] 44)) (.cells #[.slice A0 l0.length c0, .int .i64 a1, .int .i64 a2, .int .i64 a3, .int .i64 a4, .int .i64 a5, .int .i64 a6, .int .i64 a7, .int .i64 a8, .slice A9 l9.length c9, .int .i64 a10, .int .i64 a11, .int .i64 a12, .int .i64 a13, .int .i64 a14, .int .i64 a15, .int .i64 a16, .int .i64 a17, .int .i64 a18, .slice A19 l19.length c19, .slice A20 l20.length c20] 33)
  have e0 := alloc_old (o' := .cells #[.slice A0 l0.length c0, .int .i64 a1, .int .i64 a2, .int .i64 a3, .int .i64 a4, .int .i64 a5, .int .i64 a6, .int .i64 a7, .int .i64 a8, .slice A9 l9.length c9, .int .i64 a10, .int .i64 a11, .int .i64 a12, .int .i64 a13, .int .i64 a14, .int .i64 a15, .int .i64 a16, .int .i64 a17, .int .i64 a18, .slice A19 l19.length c19, .slice A20 l20.length c20] 33) e0
  rw [World.size_alloc] at e1
  have HI0 := hid (⟨e0, e1, hbel⟩ : LawL W A c kn fa A0 c0 l0 a1 a2 a3 a4 a5 a6 a7 a8 A9 c9 l9 a10 a11 a12 a13 a14 a15 a16 a17 a18 A19 c19 l19 A20 c20 l20 ((W.alloc (.cells #[.slice A kn.length c, .int .i64 fa] 44)).alloc (.cells #[.slice A0 l0.length c0, .int .i64 a1, .int .i64 a2, .int .i64 a3, .int .i64 a4, .int .i64 a5, .int .i64 a6, .int .i64 a7, .int .i64 a8, .slice A9 l9.length c9, .int .i64 a10, .int .i64 a11, .int .i64 a12, .int .i64 a13, .int .i64 a14, .int .i64 a15, .int .i64 a16, .int .i64 a17, .int .i64 a18, .slice A19 l19.length c19, .slice A20 l20.length c20] 33)))
  clear hbel e0 e1 HB
  have HC := hid hC
  clear hC
  by_cases h1 : (kn.length : Int) > 100
  · have d1 : decide (100 < (kn.length : Int)) = true := decide_eq_true h1
    have d2 : decide (100 < kn.length) = true := decide_eq_true (by omega)
    clear h1
    go_enter Try.func4, Try.ntmps4
    go_wp2_with fail
    generalize ((W.alloc (.cells #[.slice A kn.length c, .int .i64 fa] 44)).alloc (.cells #[.slice A0 l0.length c0, .int .i64 a1, .int .i64 a2, .int .i64 a3, .int .i64 a4, .int .i64 a5, .int .i64 a6, .int .i64 a7, .int .i64 a8, .slice A9 l9.length c9, .int .i64 a10, .int .i64 a11, .int .i64 a12, .int .i64 a13, .int .i64 a14, .int .i64 a15, .int .i64 a16, .int .i64 a17, .int .i64 a18, .slice A19 l19.length c19, .slice A20 l20.length c20] 33)) = W2 at *
    go_wp2_with (first | (go_at_call 14; refine (lives_any _).mono ?_; rintro e w9 ⟨rfl, hb⟩))
    refine bodyPost_ret (v := .bool true) (by simp [results, Try.results4, go_sem]) rfl ⟨rfl, HI0.out.be.trans (hb.mono HI0.out.be.size)⟩
  have d1 : decide (100 < (kn.length : Int)) = false := decide_eq_false (by omega)
  have d2 : decide (100 < kn.length) = false := decide_eq_false (by omega)
  clear h1
  go_enter Try.func4, Try.ntmps4
  go_wp2_with fail
  generalize ((W.alloc (.cells #[.slice A kn.length c, .int .i64 fa] 44)).alloc (.cells #[.slice A0 l0.length c0, .int .i64 a1, .int .i64 a2, .int .i64 a3, .int .i64 a4, .int .i64 a5, .int .i64 a6, .int .i64 a7, .int .i64 a8, .slice A9 l9.length c9, .int .i64 a10, .int .i64 a11, .int .i64 a12, .int .i64 a13, .int .i64 a14, .int .i64 a15, .int .i64 a16, .int .i64 a17, .int .i64 a18, .slice A19 l19.length c19, .slice A20 l20.length c20] 33)) = W2 at *
  refine (Steepest_any A c kn fa a7 a8 _ (Kd.C_below HC.out HI0.out.be) hl).mono ?_
  rintro e w1 ⟨rfl, hb⟩
  have HI1 := hid (HI0.out.grow hb)
  generalize hr1 : (steepestRes kn fa a7 a8).1 = r1
  generalize hr2 : (steepestRes kn fa a7 a8).2.1 = r2
  generalize hr3 : (steepestRes kn fa a7 a8).2.2 = r3
  have HS := hid (show culletref05_Steepest.f 3001 kn fa a7 a8 = some (r1, r2, r3) from by rw [f21_eq (by omega), ← hr1, ← hr2, ← hr3])
  clear hb HI0 hr1 hr2 hr3
  have p0 := blkCell HI1.out.hb 0
  have p1 := blkCell HI1.out.hb 1
  have q7 := blkCell HI1.out.ha 7
  have q8 := blkCell HI1.out.ha 8
  have q11 := blkCell HI1.out.ha 11
  have q12 := blkCell HI1.out.ha 12
  simp at p0 p1 q7 q8 q11 q12
  have hs0 : W.heap.size < w1.heap.size := cell_lt p0
  have hs1 : W.heap.size + 1 < w1.heap.size := cell_lt q7
  go_wp2_with fail
  have HI2 := hid (HI1.out.grow ((Below.refl _ _).alloc (Nat.le_refl _) (.cells #[.int .i64 r1, .int .i64 r2] 46)))
  have z := World.alloc_heap_new w1 (.cells #[.int .i64 r1, .int .i64 r2] 46)
  refine (culletref05_Steepest.calls 3001 A c kn fa a7 a8 r1 r2 r3 _ (Kd.C_below HC.out HI2.out.be) hl HS.out).mono ?_
  rintro e w2 ⟨rfl, hb⟩
  have HI3 := hid (HI2.out.grow hb)
  have z := heap_grow z hb
  have hsz := hb.size
  have HZ := hid z
  clear hb HI1 HI2 HS hs0 hs1 p0 p1 q7 q8 q11 q12
  have p0 := blkCell HI3.out.hb 0
  have p1 := blkCell HI3.out.hb 1
  have q7 := blkCell HI3.out.ha 7
  have q8 := blkCell HI3.out.ha 8
  have q11 := blkCell HI3.out.ha 11
  have q12 := blkCell HI3.out.ha 12
  simp at p0 p1 q7 q8 q11 q12
  have z0 := blkCell z 0
  have z1 := blkCell z 1
  simp at z0 z1
  have hs2 : w1.heap.size < w2.heap.size := cell_lt z0
  have hs0 : W.heap.size < w2.heap.size := cell_lt p0
  have hs1 : W.heap.size + 1 < w2.heap.size := cell_lt q7
  clear hsz
  go_wp2_with fail
  have HI4 := hid (HI3.out.grow ((Below.refl _ _).alloc (Nat.le_refl _) (.cells #[.int .i64 r1, .int .i64 r2] 46)))
  clear z z0 z1 hs0 hs1 hs2 HZ p0 p1 q7 q8 q11 q12
  generalize (w2.alloc (.cells #[.int .i64 r1, .int .i64 r2] 46)) = w4 at *
  generalize w2.heap.size = B7 at *
  generalize w1.heap.size = B5 at *
  refine (Held_any A c kn fa a11 _ (Kd.C_below HC.out HI4.out.be) hl).mono ?_
  rintro e w5 ⟨rfl, hb⟩
  have HI5 := hid (HI4.out.grow hb)
  generalize hr4 : (heldRes kn fa a11).1 = r4
  generalize hr5 : (heldRes kn fa a11).2 = r5
  have HS := hid (show culletref05_Held.f 100 kn fa a11 = some (r4, r5) from by rw [f23_eq (by omega), ← hr4, ← hr5])
  clear hb HI3 HI4 hr4 hr5
  have p0 := blkCell HI5.out.hb 0
  have p1 := blkCell HI5.out.hb 1
  have q7 := blkCell HI5.out.ha 7
  have q8 := blkCell HI5.out.ha 8
  have q11 := blkCell HI5.out.ha 11
  have q12 := blkCell HI5.out.ha 12
  simp at p0 p1 q7 q8 q11 q12
  go_wp2_with fail
  refine (culletref05_Held.calls 100 A c kn fa a11 r4 r5 _ (Kd.C_below HC.out HI5.out.be) hl HS.out).mono ?_
  rintro e w6 ⟨rfl, hb⟩
  have HI6 := hid (HI5.out.grow hb)
  clear hb HI5 HS p0 p1 q7 q8 q11 q12
  have p0 := blkCell HI6.out.hb 0
  have p1 := blkCell HI6.out.hb 1
  have q7 := blkCell HI6.out.ha 7
  have q8 := blkCell HI6.out.ha 8
  have q11 := blkCell HI6.out.ha 11
  have q12 := blkCell HI6.out.ha 12
  simp at p0 p1 q7 q8 q11 q12
  go_wp2_with fail
  refine (Strain_any A c kn fa a7 a8 a12 _ (Kd.C_below HC.out HI6.out.be) hl).mono ?_
  rintro e w7 ⟨rfl, hb⟩
  have HI7 := hid (HI6.out.grow hb)
  generalize hr4 : (strainRes kn fa a7 a8 a12).1 = r6
  generalize hr5 : (strainRes kn fa a7 a8 a12).2 = r7
  have HS := hid (show culletref05_Strain.f 3001 kn fa a7 a8 a12 = some (r6, r7) from by rw [f25_eq (by omega), ← hr4, ← hr5])
  clear hb HI6 hr4 hr5 p0 p1 q7 q8 q11 q12
  have p0 := blkCell HI7.out.hb 0
  have p1 := blkCell HI7.out.hb 1
  have q7 := blkCell HI7.out.ha 7
  have q8 := blkCell HI7.out.ha 8
  have q11 := blkCell HI7.out.ha 11
  have q12 := blkCell HI7.out.ha 12
  simp at p0 p1 q7 q8 q11 q12
  go_wp2_with fail
  refine (culletref05_Strain.calls 3001 A c kn fa a7 a8 a12 r6 r7 _ (Kd.C_below HC.out HI7.out.be) hl HS.out).mono ?_
  rintro e w8 ⟨rfl, hb⟩
  have HI8 := hid (HI7.out.grow hb)
  clear hb HI7 HS p0 p1 q7 q8 q11 q12
  go_wp2_with fail
  have hC8 := Kd.C_below HC.out HI8.out.be
  refine wp_flow [[], [0], [], [2, 1, 0], [1, 0, 3, 2], [4, 1, 0, 3, 2], [5, 4, 1, 0, 3, 2], [5, 4, 1, 0, 3, 2], [6, 5, 4, 1, 0, 3, 2, 7], [5, 4, 1, 0, 3, 2, 8, 6, 7], [9, 5, 4, 1, 0, 3, 2, 8, 6, 7], [10, 9, 5, 4, 1, 0, 3, 2, 8, 6, 7], [10, 9, 5, 4, 1, 0, 3, 2, 8, 6, 7], [11, 10, 9, 5, 4, 1, 0, 3, 2, 8, 6, 7, 12], [10, 9, 5, 4, 1, 0, 3, 2, 8, 6, 7, 13, 11, 12], [14, 10, 9, 5, 4, 1, 0, 3, 2, 8, 6, 7, 13, 11, 12], [15, 14, 10, 9, 5, 4, 1, 0, 3, 2, 8, 6, 7, 13, 11, 12], [15, 14, 10, 9, 5, 4, 1, 0, 3, 2, 8, 6, 7, 13, 11, 12], [16, 15, 14, 10, 9, 5, 4, 1, 0, 3, 2, 8, 6, 7, 13, 11, 12, 17], [15, 14, 10, 9, 5, 4, 1, 0, 3, 2, 8, 6, 7, 13, 11, 12, 18, 16, 17], [19, 15, 14, 10, 9, 5, 4, 1, 0, 3, 2, 8, 6, 7, 13, 11, 12, 18, 16, 17], [20, 19, 15, 14, 10, 9, 5, 4, 1, 0, 3, 2, 8, 6, 7, 13, 11, 12, 18, 16, 17], [20, 19, 15, 14, 10, 9, 5, 4, 1, 0, 3, 2, 8, 6, 7, 13, 11, 12, 18, 16, 17], [21, 20, 19, 15, 14, 10, 9, 5, 4, 1, 0, 3, 2, 8, 6, 7, 13, 11, 12, 18, 16, 17, 22], [20, 19, 15, 14, 10, 9, 5, 4, 1, 0, 3, 2, 8, 6, 7, 13, 11, 12, 18, 16, 17, 23, 21, 22], [24, 20, 19, 15, 14, 10, 9, 5, 4, 1, 0, 3, 2, 8, 6, 7, 13, 11, 12, 18, 16, 17, 23, 21, 22], [25, 24, 20, 19, 15, 14, 10, 9, 5, 4, 1, 0, 3, 2, 8, 6, 7, 13, 11, 12, 18, 16, 17, 23, 21, 22], [25, 24, 20, 19, 15, 14, 10, 9, 5, 4, 1, 0, 3, 2, 8, 6, 7, 13, 11, 12, 18, 16, 17, 23, 21, 22, 26], [27, 25, 24, 20, 19, 15, 14, 10, 9, 5, 4, 1, 0, 3, 2, 8, 6, 7, 13, 11, 12, 18, 16, 17, 23, 21, 22, 26]] 28
    (fun V => V.cell? ⟨W.heap.size, 0, none⟩ = some (.slice A kn.length c) ∧ V.cell? ⟨W.heap.size, 1, none⟩ = some (.int .i64 fa) ∧ Below w8.heap.size w8 V)
    { tmps := #[.agg #[.slice A kn.length c, .int .i64 fa], .agg #[.slice A0 l0.length c0, .int .i64 a1, .int .i64 a2, .int .i64 a3, .int .i64 a4, .int .i64 a5, .int .i64 a6, .int .i64 a7, .int .i64 a8, .slice A9 l9.length c9, .int .i64 a10, .int .i64 a11, .int .i64 a12, .int .i64 a13, .int .i64 a14, .int .i64 a15, .int .i64 a16, .int .i64 a17, .int .i64 a18, .slice A19 l19.length c19, .slice A20 l20.length c20], .pointer (some ⟨W.heap.size, 0, none⟩), .pointer (some ⟨W.heap.size + 1, 0, none⟩), .bool false, .pointer (some ⟨B5, 0, none⟩), .int .i64 r5, .pointer (some ⟨B7, 0, none⟩), .int .i64 r5, .int .i64 r4, .int .i64 r4, .int .i64 r6, .int .i64 r7, .int .i64 r6, .int .i64 r7, .pointer (some ⟨W.heap.size, 0, none⟩), .slice A kn.length c, .int .i64 kn.length, .bool false, undef, .tuple #[.agg #[.int .i64 r1, .int .i64 r2], .int .i64 r3], .agg #[.slice A kn.length c, .int .i64 fa], .pointer (some ⟨W.heap.size + 1, 7, none⟩), .agg #[.int .i64 a7, .int .i64 a8], .tuple #[.agg #[.int .i64 r1, .int .i64 r2], .int .i64 r3], .agg #[.int .i64 r1, .int .i64 r2], .int .i64 r3, .tuple #[.agg #[.int .i64 r1, .int .i64 r2], .int .i64 r3], .agg #[.slice A kn.length c, .int .i64 fa], .pointer (some ⟨W.heap.size + 1, 7, none⟩), .agg #[.int .i64 a7, .int .i64 a8], .tuple #[.agg #[.int .i64 r1, .int .i64 r2], .int .i64 r3], .agg #[.int .i64 r1, .int .i64 r2], .int .i64 r3, .agg #[.int .i64 r1, .int .i64 r2], .agg #[.int .i64 r1, .int .i64 r2], .bool false, .bool false, .int .i64 r3, .int .i64 r3, .bool false, .bool false, .tuple #[.int .i64 r4, .int .i64 r5], .agg #[.slice A kn.length c, .int .i64 fa], .pointer (some ⟨W.heap.size + 1, 11, none⟩), .int .i64 a11, .tuple #[.int .i64 r4, .int .i64 r5], .int .i64 r4, .int .i64 r5, .tuple #[.int .i64 r4, .int .i64 r5], .agg #[.slice A kn.length c, .int .i64 fa], .pointer (some ⟨W.heap.size + 1, 11, none⟩), .int .i64 a11, .tuple #[.int .i64 r4, .int .i64 r5], .int .i64 r4, .int .i64 r5, .tuple #[.int .i64 r6, .int .i64 r7], .agg #[.slice A kn.length c, .int .i64 fa], .pointer (some ⟨W.heap.size + 1, 7, none⟩), .agg #[.int .i64 a7, .int .i64 a8], .pointer (some ⟨W.heap.size + 1, 12, none⟩), .int .i64 a12, .tuple #[.int .i64 r6, .int .i64 r7], .int .i64 r6, .int .i64 r7, .tuple #[.int .i64 r6, .int .i64 r7], .agg #[.slice A kn.length c, .int .i64 fa], .pointer (some ⟨W.heap.size + 1, 7, none⟩), .agg #[.int .i64 a7, .int .i64 a8], .pointer (some ⟨W.heap.size + 1, 12, none⟩), .int .i64 a12, .tuple #[.int .i64 r6, .int .i64 r7], .int .i64 r6, .int .i64 r7, .agg #[.slice A kn.length c, .int .i64 fa], .int .i64 (lehrErr kn fa), .agg #[.slice A kn.length c, .int .i64 fa], .int .i64 (lehrErr kn fa), .bool true, .bool true, .int .i64 r4, .int .i64 r4, .bool true, .bool true, .bool true, .int .i64 r5, .int .i64 r5, .bool true, .bool true, .bool true, .int .i64 r6, .int .i64 r6, .bool true, .bool true, .bool true, .int .i64 r7, .int .i64 r7, .bool true, .bool true, .bool true, .bool true, .bool true], defers := [] }
    mixed (by kernel_rfl) rfl (Ahead.of3 74 102 rfl rfl (by kernel_rfl) rfl rfl) ?_ (AllFlow.ops rfl ?_) rfl ?_
  · exact ⟨blkCell HI8.out.hb 0, blkCell HI8.out.hb 1, (Below.refl _ _).drew⟩
  · refine ⟨?_, ?_, ?_, ?_, ?_, ?_, ?_, ?_, ?_, ?_, ?_, ?_, ?_, ?_, ?_, ?_, ?_, ?_, ?_, ?_, ?_, ?_, ?_, ?_, ?_, ?_, ?_, ?_, trivial⟩
    · exact .val 74 _ rfl rfl fun V ⟨y0, y1, hB_⟩ => by go_simp
    · refine .call 75 (.int .i64 (lehrErr kn fa)) 26 #[.agg #[.slice A kn.length c, .int .i64 fa]] rfl rfl (fun V ⟨y0, y1, hB_⟩ => by go_simp) fun V ⟨y0, y1, hB_⟩ => ?_
      refine (CheckLehr_any A c kn fa _ (Kd.C_below hC8 hB_)).mono ?_
      rintro e w' ⟨rfl, hb⟩
      exact ⟨rfl, cell_grow y0 hb, cell_grow y1 hb, hB_.trans (hb.mono hB_.size)⟩
    · exact .val 76 _ rfl rfl fun V ⟨y0, y1, hB_⟩ => by go_simp
    · refine .call 77 (.int .i64 (lehrErr kn fa)) 27 #[.agg #[.slice A kn.length c, .int .i64 fa]] rfl rfl (fun V ⟨y0, y1, hB_⟩ => by go_simp) fun V ⟨y0, y1, hB_⟩ => ?_
      refine (culletref05_CheckLehr.calls 100 A c kn fa (lehrErr kn fa) _ (Kd.C_below hC8 hB_) hl (f27_eq (by omega))).mono ?_
      rintro e w' ⟨rfl, hb⟩
      exact ⟨rfl, cell_grow y0 hb, cell_grow y1 hb, hB_.trans (hb.mono hB_.size)⟩
    · exact .val 78 _ rfl rfl fun V ⟨y0, y1, hB_⟩ => by go_simp
    · exact .val 79 _ rfl rfl fun V ⟨y0, y1, hB_⟩ => by go_simp
    · exact .val 80 _ rfl rfl fun V ⟨y0, y1, hB_⟩ => by go_simp
    · exact .val 81 _ rfl rfl fun V ⟨y0, y1, hB_⟩ => by go_simp
    · exact .val 82 _ rfl rfl fun V ⟨y0, y1, hB_⟩ => by go_simp
    · exact .val 83 _ rfl rfl fun V ⟨y0, y1, hB_⟩ => by go_simp
    · exact .val 84 _ rfl rfl fun V ⟨y0, y1, hB_⟩ => by go_simp
    · exact .val 85 _ rfl rfl fun V ⟨y0, y1, hB_⟩ => by go_simp
    · exact .val 86 _ rfl rfl fun V ⟨y0, y1, hB_⟩ => by go_simp
    · exact .val 87 _ rfl rfl fun V ⟨y0, y1, hB_⟩ => by go_simp
    · exact .val 88 _ rfl rfl fun V ⟨y0, y1, hB_⟩ => by go_simp
    · exact .val 89 _ rfl rfl fun V ⟨y0, y1, hB_⟩ => by go_simp
    · exact .val 90 _ rfl rfl fun V ⟨y0, y1, hB_⟩ => by go_simp
    · exact .val 91 _ rfl rfl fun V ⟨y0, y1, hB_⟩ => by go_simp
    · exact .val 92 _ rfl rfl fun V ⟨y0, y1, hB_⟩ => by go_simp
    · exact .val 93 _ rfl rfl fun V ⟨y0, y1, hB_⟩ => by go_simp
    · exact .val 94 _ rfl rfl fun V ⟨y0, y1, hB_⟩ => by go_simp
    · exact .val 95 _ rfl rfl fun V ⟨y0, y1, hB_⟩ => by go_simp
    · exact .val 96 _ rfl rfl fun V ⟨y0, y1, hB_⟩ => by go_simp
    · exact .val 97 _ rfl rfl fun V ⟨y0, y1, hB_⟩ => by go_simp
    · exact .val 98 _ rfl rfl fun V ⟨y0, y1, hB_⟩ => by go_simp
    · exact .val 99 _ rfl rfl fun V ⟨y0, y1, hB_⟩ => by go_simp
    · refine .call 100 (.bool true) 14 #[] rfl rfl (fun V ⟨y0, y1, hB_⟩ => by go_simp) fun V ⟨y0, y1, hB_⟩ => ?_
      refine (lives_any _).mono ?_
      rintro e w' ⟨rfl, hb⟩
      exact ⟨rfl, cell_grow y0 hb, cell_grow y1 hb, hB_.trans (hb.mono hB_.size)⟩
    · exact .val 101 _ rfl rfl fun V ⟨y0, y1, hB_⟩ => by go_simp

  · rintro V7 ⟨y0, y1, hB_⟩
    go_wp2
    refine bodyPost_ret (v := .bool true) (by simp [results, Try.results4, go_sem]) rfl ⟨rfl, HI8.out.be.trans (hB_.mono HI8.out.be.size)⟩
end Go.Proofs.Ythoofldinnfpiaa
