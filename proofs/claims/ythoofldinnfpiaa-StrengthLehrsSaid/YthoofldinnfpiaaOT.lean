import Derived.Test.YthoofldinnfpiaaO
namespace Go.Proofs.Ythoofldinnfpiaa
open Go.RowKit Go.Proofs.YthoofldinnfpiaaW.PrintWords Go.Deep Go.ChangeShapes Go.WideShapes
open Q
def W64 (n : Int) : Prop := (Lit.int .i64 n).wf = true
theorem cell3 : Try.prog.cellsOf 3 = 1 := by kernel_rfl
theorem cell22 : Try.prog.cellsOf 22 = 1 := by kernel_rfl
theorem cell24 : Try.prog.cellsOf 24 = 3 := by kernel_rfl
theorem cell25 : Try.prog.cellsOf 25 = 1 := by kernel_rfl
theorem cell27 : Try.prog.cellsOf 27 = 4 := by kernel_rfl
theorem cell29 : Try.prog.cellsOf 29 = 2 := by kernel_rfl
theorem cell30 : Try.prog.cellsOf 30 = 1 := by kernel_rfl
theorem cell31 : Try.prog.cellsOf 31 = 1 := by kernel_rfl
theorem cell82 : Try.prog.cellsOf 82 = 10 := by kernel_rfl
theorem cell33 : Try.prog.cellsOf 33 = 21 := by kernel_rfl
theorem opens3 : Opens Try.prog (Kd.int .i64) 3 W64 := opens_int Try.underlying3
theorem seg29 {H : Type} {enc : TypeId × Value → H} {W : World} {base : Nat} {spare : Nat → Bool} {held : Bool} {fuel : Nat} {cs : List Value} {x : DataW H × List MemPlace} (hx : DataW.trod enc Try.prog W base spare held fuel 29 cs = some x) : Seg W (Kd.pair (Kd.int .i64) (Kd.int .i64)) (fun p => W64 p.1 ∧ W64 p.2) cs 0 := by
  have hl := cells_len Try.underlying29 hx
  rw [cell29] at hl
  have h0 := opens_field (off := 0) Try.underlying29 hx 0 rfl opens3 cell3 rfl rfl
  have h1 := opens_field (off := 1) Try.underlying29 hx 1 rfl opens3 cell3 rfl rfl
  exact seg_cons (o := 0) (n := 1) h0 (seg_last (o := 1) h1 hl)
def W29 (x : S29) : Prop := W64 x.f0 ∧ W64 x.f1
theorem opens29 : Opens Try.prog k29 29 W29 := fun _ _ _ _ _ _ _ _ _ hx => seg_iso _ (fun p : Int × Int => (⟨p.1, p.2⟩ : S29)) (fun _ => rfl) (seg29 hx)
theorem seg82 {H : Type} {enc : TypeId × Value → H} {W : World} {base : Nat} {spare : Nat → Bool} {held : Bool} {fuel : Nat} {cs : List Value} {x : DataW H × List MemPlace} (hx : DataW.trod enc Try.prog W base spare held fuel 82 cs = some x) : Seg W (Kd.pair k29 (Kd.pair k29 (Kd.pair k29 (Kd.pair k29 k29)))) (fun p => W29 p.1 ∧ W29 p.2.1 ∧ W29 p.2.2.1 ∧ W29 p.2.2.2.1 ∧ W29 p.2.2.2.2) cs 0 := by
  have hl := cells_len Try.underlying82 hx
  rw [cell82] at hl
  have h0 := opens_field (off := 0) Try.underlying82 hx 0 rfl opens29 cell29 rfl rfl
  have h1 := opens_field (off := 2) Try.underlying82 hx 1 rfl opens29 cell29 rfl rfl
  have h2 := opens_field (off := 4) Try.underlying82 hx 2 rfl opens29 cell29 rfl rfl
  have h3 := opens_field (off := 6) Try.underlying82 hx 3 rfl opens29 cell29 rfl rfl
  have h4 := opens_field (off := 8) Try.underlying82 hx 4 rfl opens29 cell29 rfl rfl
  exact seg_cons (o := 0) (n := 2) h0 (seg_cons (o := 2) (n := 2) h1 (seg_cons (o := 4) (n := 2) h2 (seg_cons (o := 6) (n := 2) h3 (seg_last (o := 8) h4 hl))))
def W82 (x : S82) : Prop := W29 x.f0 ∧ W29 x.f1 ∧ W29 x.f2 ∧ W29 x.f3 ∧ W29 x.f4
theorem opens82 : Opens Try.prog k82 82 W82 := fun _ _ _ _ _ _ _ _ _ hx => seg_iso _ (fun p : S29 × S29 × S29 × S29 × S29 => (⟨p.1, p.2.1, p.2.2.1, p.2.2.2.1, p.2.2.2.2⟩ : S82)) (fun _ => rfl) (seg82 hx)
theorem opens22 : Opens Try.prog (Kd.slice 82 k82) 22 (fun l => ∀ y ∈ l, W82 y) := opens_slice Try.underlying22 cell82 opens82
theorem opens25 : Opens Try.prog (Kd.slice 29 k29) 25 (fun l => ∀ y ∈ l, W29 y) := opens_slice Try.underlying25 cell29 opens29
theorem opens30 : Opens Try.prog (Kd.slice 3 (Kd.int .i64)) 30 (fun l => ∀ y ∈ l, W64 y) := opens_slice Try.underlying30 cell3 opens3
theorem seg24 {H : Type} {enc : TypeId × Value → H} {W : World} {base : Nat} {spare : Nat → Bool} {held : Bool} {fuel : Nat} {cs : List Value} {x : DataW H × List MemPlace} (hx : DataW.trod enc Try.prog W base spare held fuel 24 cs = some x) : Seg W (Kd.pair (Kd.slice 82 k82) (Kd.pair (Kd.int .i64) (Kd.int .i64))) (fun p => (∀ y ∈ p.1, W82 y) ∧ W64 p.2.1 ∧ W64 p.2.2) cs 0 := by
  have hl := cells_len Try.underlying24 hx
  rw [cell24] at hl
  have h0 := opens_field (off := 0) Try.underlying24 hx 0 rfl opens22 cell22 rfl rfl
  have h1 := opens_field (off := 1) Try.underlying24 hx 1 rfl opens3 cell3 rfl rfl
  have h2 := opens_field (off := 2) Try.underlying24 hx 2 rfl opens3 cell3 rfl rfl
  exact seg_cons (o := 0) (n := 1) h0 (seg_cons (o := 1) (n := 1) h1 (seg_last (o := 2) h2 hl))
theorem cellC : Try.prog.cellsOf 118 = 3 := by kernel_rfl
theorem seg118 {H : Type} {enc : TypeId × Value → H} {W : World} {base : Nat} {spare : Nat → Bool} {held : Bool} {fuel : Nat} {cs : List Value} {x : DataW H × List MemPlace} (hx : DataW.trod enc Try.prog W base spare held fuel 118 cs = some x) : Seg W (Kd.pair (Kd.int .i64) (Kd.pair (Kd.int .i64) (Kd.slice 29 k29))) (fun p => W64 p.1 ∧ W64 p.2.1 ∧ (∀ y ∈ p.2.2, W29 y)) cs 0 := by
  have hl := cells_len Try.underlying118 hx
  rw [cellC] at hl
  have h0 := opens_field (off := 0) Try.underlying118 hx 0 rfl opens3 cell3 rfl rfl
  have h1 := opens_field (off := 1) Try.underlying118 hx 1 rfl opens3 cell3 rfl rfl
  have h2 := opens_field (off := 2) Try.underlying118 hx 2 rfl opens25 cell25 rfl rfl
  exact seg_cons (o := 0) (n := 1) h0 (seg_cons (o := 1) (n := 1) h1 (seg_last (o := 2) h2 hl))
def W118 (x : S118) : Prop := W64 x.f0 ∧ W64 x.f1 ∧ ∀ y ∈ x.f2, W29 y
theorem opens118 : Opens Try.prog k118 118 W118 := fun _ _ _ _ _ _ _ _ _ hx => seg_iso _ (fun p : Int × Int × List S29 => (⟨p.1, p.2.1, p.2.2⟩ : S118)) (fun _ => rfl) (seg118 hx)
theorem opens31 : Opens Try.prog (Kd.slice 118 k118) 31 (fun l => ∀ y ∈ l, W118 y) := opens_slice Try.underlying31 cellC opens118
theorem seg27 {H : Type} {enc : TypeId × Value → H} {W : World} {base : Nat} {spare : Nat → Bool} {held : Bool} {fuel : Nat} {cs : List Value} {x : DataW H × List MemPlace} (hx : DataW.trod enc Try.prog W base spare held fuel 27 cs = some x) : Seg W (Kd.pair (Kd.int .i64) (Kd.pair (Kd.int .i64) (Kd.pair (Kd.int .i64) (Kd.int .i64)))) (fun p => W64 p.1 ∧ W64 p.2.1 ∧ W64 p.2.2.1 ∧ W64 p.2.2.2) cs 0 := by
  have hl := cells_len Try.underlying27 hx
  rw [cell27] at hl
  have h0 := opens_field (off := 0) Try.underlying27 hx 0 rfl opens3 cell3 rfl rfl
  have h1 := opens_field (off := 1) Try.underlying27 hx 1 rfl opens3 cell3 rfl rfl
  have h2 := opens_field (off := 2) Try.underlying27 hx 2 rfl opens3 cell3 rfl rfl
  have h3 := opens_field (off := 3) Try.underlying27 hx 3 rfl opens3 cell3 rfl rfl
  exact seg_cons (o := 0) (n := 1) h0 (seg_cons (o := 1) (n := 1) h1 (seg_cons (o := 2) (n := 1) h2 (seg_last (o := 3) h3 hl)))
theorem opens27 : Opens Try.prog (Kd.pair (Kd.int .i64) (Kd.pair (Kd.int .i64) (Kd.pair (Kd.int .i64) (Kd.int .i64)))) 27 (fun p => W64 p.1 ∧ W64 p.2.1 ∧ W64 p.2.2.1 ∧ W64 p.2.2.2) := fun _ _ _ _ _ _ _ _ _ hx => by
  obtain ⟨y, h1, h2⟩ := seg27 hx
  exact ⟨y, by simpa using h1, h2⟩
theorem seg33 {H : Type} {enc : TypeId × Value → H} {W : World} {base : Nat} {spare : Nat → Bool} {held : Bool} {fuel : Nat} {cs : List Value} {x : DataW H × List MemPlace} (hx : DataW.trod enc Try.prog W base spare held fuel 33 cs = some x) : Seg W (Kd.pair (Kd.slice 29 k29) (Kd.pair (Kd.pair (Kd.int .i64) (Kd.pair (Kd.int .i64) (Kd.pair (Kd.int .i64) (Kd.int .i64)))) (Kd.pair k29 (Kd.pair k29 (Kd.pair (Kd.slice 3 (Kd.int .i64)) (Kd.pair (Kd.int .i64) (Kd.pair (Kd.int .i64) (Kd.pair (Kd.int .i64) (Kd.pair (Kd.int .i64) (Kd.pair (Kd.int .i64) (Kd.pair (Kd.int .i64) (Kd.pair (Kd.int .i64) (Kd.pair (Kd.int .i64) (Kd.pair (Kd.int .i64) (Kd.pair (Kd.slice 3 (Kd.int .i64)) (Kd.slice 118 k118)))))))))))))))) (fun p => (∀ y ∈ p.1, W29 y) ∧ (W64 p.2.1.1 ∧ W64 p.2.1.2.1 ∧ W64 p.2.1.2.2.1 ∧ W64 p.2.1.2.2.2) ∧ W29 p.2.2.1 ∧ W29 p.2.2.2.1 ∧ (∀ y ∈ p.2.2.2.2.1, W64 y) ∧ W64 p.2.2.2.2.2.1 ∧ W64 p.2.2.2.2.2.2.1 ∧ W64 p.2.2.2.2.2.2.2.1 ∧ W64 p.2.2.2.2.2.2.2.2.1 ∧ W64 p.2.2.2.2.2.2.2.2.2.1 ∧ W64 p.2.2.2.2.2.2.2.2.2.2.1 ∧ W64 p.2.2.2.2.2.2.2.2.2.2.2.1 ∧ W64 p.2.2.2.2.2.2.2.2.2.2.2.2.1 ∧ W64 p.2.2.2.2.2.2.2.2.2.2.2.2.2.1 ∧ (∀ y ∈ p.2.2.2.2.2.2.2.2.2.2.2.2.2.2.1, W64 y) ∧ (∀ y ∈ p.2.2.2.2.2.2.2.2.2.2.2.2.2.2.2, W118 y)) cs 0 := by
  have hl := cells_len Try.underlying33 hx
  rw [cell33] at hl
  have h0 := opens_field (off := 0) Try.underlying33 hx 0 rfl opens25 cell25 rfl rfl
  have h1 := opens_field (off := 1) Try.underlying33 hx 1 rfl opens27 cell27 rfl rfl
  have h2 := opens_field (off := 5) Try.underlying33 hx 2 rfl opens29 cell29 rfl rfl
  have h3 := opens_field (off := 7) Try.underlying33 hx 3 rfl opens29 cell29 rfl rfl
  have h4 := opens_field (off := 9) Try.underlying33 hx 4 rfl opens30 cell30 rfl rfl
  have h5 := opens_field (off := 10) Try.underlying33 hx 5 rfl opens3 cell3 rfl rfl
  have h6 := opens_field (off := 11) Try.underlying33 hx 6 rfl opens3 cell3 rfl rfl
  have h7 := opens_field (off := 12) Try.underlying33 hx 7 rfl opens3 cell3 rfl rfl
  have h8 := opens_field (off := 13) Try.underlying33 hx 8 rfl opens3 cell3 rfl rfl
  have h9 := opens_field (off := 14) Try.underlying33 hx 9 rfl opens3 cell3 rfl rfl
  have h10 := opens_field (off := 15) Try.underlying33 hx 10 rfl opens3 cell3 rfl rfl
  have h11 := opens_field (off := 16) Try.underlying33 hx 11 rfl opens3 cell3 rfl rfl
  have h12 := opens_field (off := 17) Try.underlying33 hx 12 rfl opens3 cell3 rfl rfl
  have h13 := opens_field (off := 18) Try.underlying33 hx 13 rfl opens3 cell3 rfl rfl
  have h14 := opens_field (off := 19) Try.underlying33 hx 14 rfl opens30 cell30 rfl rfl
  have h15 := opens_field (off := 20) Try.underlying33 hx 15 rfl opens31 cell31 rfl rfl
  exact seg_cons (o := 0) (n := 1) h0 (seg_cons (o := 1) (n := 4) h1 (seg_cons (o := 5) (n := 2) h2 (seg_cons (o := 7) (n := 2) h3 (seg_cons (o := 9) (n := 1) h4 (seg_cons (o := 10) (n := 1) h5 (seg_cons (o := 11) (n := 1) h6 (seg_cons (o := 12) (n := 1) h7 (seg_cons (o := 13) (n := 1) h8 (seg_cons (o := 14) (n := 1) h9 (seg_cons (o := 15) (n := 1) h10 (seg_cons (o := 16) (n := 1) h11 (seg_cons (o := 17) (n := 1) h12 (seg_cons (o := 18) (n := 1) h13 (seg_cons (o := 19) (n := 1) h14 (seg_last (o := 20) h15 hl)))))))))))))))
set_option maxRecDepth 100000 in
theorem open_bottle {H : Type} {enc : TypeId × Value → H} {W : World} {base b0 : Nat} {r : Reach} {spare : Nat → Bool} {held : Bool} {v : Value} {d : DataW H} {p : List MemPlace} (hv : Value.okWide Try.prog W r b0 24 v) (h : DataW.Trod enc Try.prog W base spare held 24 v d p) :
    ∃ A c l fl tg, v = .agg #[.slice A l.length c, .int .i64 fl, .int .i64 tg] ∧ Kd.C k82 W A l.length l ∧ l.length ≤ c ∧ (∀ y ∈ l, W82 y) ∧ W64 fl ∧ W64 tg := by
  obtain ⟨cs, rfl, hsz⟩ := okWide_struct Try.underlying24 hv
  obtain ⟨fuel, hf⟩ := h
  obtain ⟨⟨l, fl, tg⟩, ⟨_, _, hcs, ⟨A, c, rfl, hl, hC⟩, ⟨_, _, rfl, rfl, rfl⟩⟩, w1, w2, w3⟩ := seg24 hf
  refine ⟨A, c, l, fl, tg, ?_, hC, hl, w1, w2, w3⟩
  simp [Value.cells] at hcs
  obtain ⟨cs⟩ := cs
  simp at hcs
  rw [hcs]
set_option maxRecDepth 100000 in
theorem open_ask {H : Type} {enc : TypeId × Value → H} {W : World} {base b0 : Nat} {r : Reach} {spare : Nat → Bool} {held : Bool} {v : Value} {d : DataW H} {p : List MemPlace} (hv : Value.okWide Try.prog W r b0 33 v) (h : DataW.Trod enc Try.prog W base spare held 33 v d p) :
    ∃ A0 c0 l0 a1 a2 a3 a4 a5 a6 a7 a8 A9 c9 l9 a10 a11 a12 a13 a14 a15 a16 a17 a18 A19 c19 l19 A20 c20 l20,
      v = .agg #[.slice A0 l0.length c0, .int .i64 a1, .int .i64 a2, .int .i64 a3, .int .i64 a4, .int .i64 a5, .int .i64 a6, .int .i64 a7, .int .i64 a8, .slice A9 l9.length c9, .int .i64 a10, .int .i64 a11, .int .i64 a12, .int .i64 a13, .int .i64 a14, .int .i64 a15, .int .i64 a16, .int .i64 a17, .int .i64 a18, .slice A19 l19.length c19, .slice A20 l20.length c20] ∧
      Kd.C k29 W A0 l0.length l0 ∧ l0.length ≤ c0 ∧ Kd.C (Kd.int .i64) W A9 l9.length l9 ∧ l9.length ≤ c9 ∧ Kd.C (Kd.int .i64) W A19 l19.length l19 ∧ l19.length ≤ c19 ∧ Kd.C k118 W A20 l20.length l20 ∧ l20.length ≤ c20 ∧
      (∀ y ∈ l0, W29 y) ∧ (W64 a1 ∧ W64 a2 ∧ W64 a3 ∧ W64 a4) ∧ W64 a5 ∧ W64 a6 ∧ W64 a7 ∧ W64 a8 ∧ (∀ y ∈ l9, W64 y) ∧ W64 a10 ∧ W64 a11 ∧ W64 a12 ∧ W64 a13 ∧ W64 a14 ∧ W64 a15 ∧ W64 a16 ∧ W64 a17 ∧ W64 a18 ∧ (∀ y ∈ l19, W64 y) ∧ ∀ y ∈ l20, W118 y := by
  obtain ⟨cs, rfl, hsz⟩ := okWide_struct Try.underlying33 hv
  obtain ⟨fuel, hf⟩ := h
  obtain ⟨⟨l0, ⟨a1, a2, a3, a4⟩, s1, s2, l9, a10, a11, a12, a13, a14, a15, a16, a17, a18, l19, l20⟩, ⟨_, _, hcs, ⟨A0, c0, rfl, hl0, hC0⟩, ⟨_, _, rfl, ⟨_, _, rfl, rfl, ⟨_, _, rfl, rfl, ⟨_, _, rfl, rfl, rfl⟩⟩⟩, ⟨_, _, rfl, k1, ⟨_, _, rfl, k2, ⟨_, _, rfl, ⟨A9, c9, rfl, hl9, hC9⟩, ⟨_, _, rfl, rfl, ⟨_, _, rfl, rfl, ⟨_, _, rfl, rfl, ⟨_, _, rfl, rfl, ⟨_, _, rfl, rfl, ⟨_, _, rfl, rfl, ⟨_, _, rfl, rfl, ⟨_, _, rfl, rfl, ⟨_, _, rfl, rfl, ⟨_, _, rfl, ⟨A19, c19, rfl, hl19, hC19⟩, ⟨A20, c20, rfl, hl20, hC20⟩⟩⟩⟩⟩⟩⟩⟩⟩⟩⟩⟩⟩⟩⟩⟩, w0, wl, ⟨w5, w6⟩, ⟨w7, w8⟩, w9, w10, w11, w12, w13, w14, w15, w16, w17, w18, w19, w20⟩ := seg33 hf
  obtain rfl := k29_open k1
  obtain rfl := k29_open k2
  refine ⟨A0, c0, l0, a1, a2, a3, a4, s1.f0, s1.f1, s2.f0, s2.f1, A9, c9, l9, a10, a11, a12, a13, a14, a15, a16, a17, a18, A19, c19, l19, A20, c20, l20, ?_, hC0, hl0, hC9, hl9, hC19, hl19, hC20, hl20, w0, wl, w5, w6, w7, w8, w9, w10, w11, w12, w13, w14, w15, w16, w17, w18, w19, w20⟩
  simp [Value.cells] at hcs
  obtain ⟨cs⟩ := cs
  simp at hcs
  rw [hcs]
end Go.Proofs.Ythoofldinnfpiaa
