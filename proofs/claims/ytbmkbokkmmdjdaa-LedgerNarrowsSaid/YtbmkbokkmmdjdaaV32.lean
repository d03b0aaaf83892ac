-- EP (wip/pack9.py)
import Derived.Test.YtbmkbokkmmdjdaaV12
section
namespace Go.Proofs.Ytbmkbokkmmdjdaa
open Go.RowKit Go.Proofs.YtbmkbokkmmdjdaaW.PrintWords Go.Proofs.YtbmkbokkmmdjdaaW.PrintLast Go.Proofs.YtbmkbokkmmdjdaaW.PrintMore
open Q Go.Shelf
set_option linter.unusedVariables false
set_option linter.unusedSimpArgs false
def oC (x : S36) : List Value := [.int .i64 x.f0, .int .u8 x.f1, .int .i64 x.f2, .int .i64 x.f3, .int .i64 x.f4.f0, .int .i64 x.f4.f1, .int .i64 x.f5.f0, .int .i64 x.f5.f1, .int .i64 x.f6.f0, .int .i64 x.f6.f1, .int .i64 x.f7]
def oF (l : List S36) : List Value := l.flatMap oC
theorem oF_len (l : List S36) : (oF l).length = l.length * 11 := by
  unfold oF; induction l with
  | nil => rfl
  | cons x r ih => rw [List.flatMap_cons, List.length_append, ih]; simp [oC]; omega
theorem oF_one (l : List S36) : ∀ u ∈ oF l, u.oneCell' = true := by
  intro u hu
  unfold oF at hu
  obtain ⟨x, _, hx⟩ := List.mem_flatMap.1 hu
  simp only [oC, List.mem_cons, List.not_mem_nil, or_false] at hx
  rcases hx with rfl | rfl | rfl | rfl | rfl | rfl | rfl | rfl | rfl | rfl | rfl <;> rfl
theorem oF_at {l : List S36} {k j : Nat} (h : k < l.length) (hj : j < 11) : (oF l)[k * 11 + j]? = (oC (l.getD k z36))[j]? := by
  induction l generalizing k with
  | nil => simp at h
  | cons x r ih =>
    unfold oF; rw [List.flatMap_cons]
    cases k with
    | zero => rw [Nat.zero_mul, Nat.zero_add, List.getElem?_append_left (by simp [oC]; omega)]; rfl
    | succ k =>
      rw [List.getElem?_append_right (by simp [oC]; omega), show (k + 1) * 11 + j - (oC x).length = k * 11 + j by simp [oC]; omega]
      simp at h
      exact ih (by omega)
theorem own_posts {W : World} {base : Nat} {A : Option Addr} {n c : Nat} {l : List S36} (h : W.ownsRow base 36 11 (.slice A n c) n (oF l)) (hn : l.length = n) : Kd.C k36 W A n l ∧ n ≤ c := by
  subst hn
  have hr : Reps (k36.K W) 11 l (oF l) := by
    have := reps_flat (R := k36.K W) (f := id) (g := oC) (sz := 11) (fun x => k36_mk W x) (fun x => rfl) l
    rwa [List.map_id] at this
  obtain ⟨A', c', he, hc, hr'⟩ := OwnRow.reads (R := k36.K W) (e := 36) (size := 11) ⟨oF l, h, hr⟩
  injection he with e1 e2 e3
  subst e1 e3
  exact ⟨hr', hc⟩
theorem posts_cells {W : World} {ad : Addr} {l : List S36} (h : Kd.C k36 W (some ad) l.length l) : ∀ j u, (oF l)[j]? = some u → W.cell? (ad.add j) = some u := by
  intro j u hu
  have hj : j < (oF l).length := by
    rcases Nat.lt_or_ge j (oF l).length with h | h
    · exact h
    · rw [List.getElem?_eq_none h] at hu; cases hu
  rw [oF_len] at hj
  have hk : j / 11 < l.length := by omega
  obtain ⟨ad', c, e, _, hK, hc0⟩ := Kd.C_get h z36 ((j / 11 : Nat) : Int) (by omega) (by omega)
  injection e with e
  subst e
  rw [Int.toNat_natCast] at hK hc0
  obtain rfl := k36_open hK
  have e2 := oF_at hk (Nat.mod_lt j (by decide : 0 < 11))
  rw [show j / 11 * 11 + j % 11 = j by omega, hu] at e2
  have e3 := hc0 (j % 11) u e2.symm
  rwa [show j / 11 * k36.sz + j % 11 = j by show j / 11 * 11 + j % 11 = j; omega] at e3
theorem row_neb {W : World} {b : Nat} {e : TypeId} {z n k : Nat} {v : Value} {xs : List Value} (h : W.ownsRow b e z v n xs) (hk : k < b) : v.ownBlock ≠ some k := fun e => by
  have := (h.lt k e).1
  omega
theorem own_at {W : World} {base n : Nat} {v : Value} {xs : List Value} (h : W.ownsRow base 36 11 v n xs) (hn : 0 < n) : ∃ g cap, v = .slice (some ⟨g, 0, none⟩) n cap := by
  rcases h.2 with ⟨h1, h2⟩ | ⟨g1, c1, u1, h1, _⟩
  · omega
  · exact ⟨g1, c1, h1⟩
theorem info36' : ∃ i0, Try.prog.info? 36 = some i0 ∧ i0.zero = some (.agg #[.int .i64 0, .int .u8 0, .int .i64 0, .int .i64 0, .int .i64 0, .int .i64 0, .int .i64 0, .int .i64 0, .int .i64 0, .int .i64 0, .int .i64 0]) ∧ i0.size = 11 ∧ i0.bytes = 88 := info_parts (by kernel_rfl)
structure OI (w : World) (ho fi : S23) (A : Option Addr) (c : Nat) (l : List S36) (B10 : Nat) (v : Value) (W : World) : Prop where
  bx : W.heap[w.heap.size]? = some (.cells #[.int .i64 ho.f0, .int .i64 ho.f1, .int .i64 fi.f0, .int .i64 fi.f1, .slice A l.length c] 26 (0, 0))
  o : W.heap[B10]? = some (.cells #[.int .i64 ho.f0, .int .i64 ho.f1, .int .i64 fi.f0, .int .i64 fi.f1, v] 26 (0, 0))
  be : Below w.heap.size w W
  lt : w.heap.size < B10
theorem OI.grow {w W W' : World} {ho fi : S23} {A : Option Addr} {c : Nat} {l : List S36} {B10 : Nat} {v : Value} (h : OI w ho fi A c l B10 v W) (hb : Below W.heap.size W W') : OI w ho fi A c l B10 v W' :=
  ⟨heap_grow h.bx hb, heap_grow h.o hb, h.be.trans (hb.mono h.be.size), h.lt⟩
theorem OI.grown {w W W' : World} {ho fi : S23} {A : Option Addr} {c : Nat} {l : List S36} {B10 : Nat} {v : Value} (h : OI w ho fi A c l B10 v W) {u : Value} {n : Nat} {xs : List Value} (hg : W.grownBy W' u.ownBlock) (hr : W.ownsRow (B10 + 1) 36 11 u n xs) : OI w ho fi A c l B10 v W' :=
  ⟨grown_blk hg (row_neb hr (by have := h.lt; omega)) h.bx, grown_blk hg (row_neb hr (by omega)) h.o, h.be.grown hg h.be.size (fun j hj => by have := (hr.lt j hj).1; have := h.lt; omega), h.lt⟩
theorem OI.put {w W : World} {ho fi : S23} {A : Option Addr} {c : Nat} {l : List S36} {B10 : Nat} {v : Value} (h : OI w ho fi A c l B10 v W) (u : Value) : OI w ho fi A c l B10 u (W.setCell ⟨B10, 4, none⟩ u) := by
  have hl := h.lt
  refine ⟨set_other (by show w.heap.size ≠ B10; omega) h.bx, ?_, h.be.setCell (by show w.heap.size ≤ B10; omega) u, hl⟩
  have := set_at h.o 4 u
  rw [this]
  rfl
theorem OI.cell {w W : World} {ho fi : S23} {A : Option Addr} {c : Nat} {l : List S36} {B10 : Nat} {v : Value} (h : OI w ho fi A c l B10 v W) {g n cap : Nat} {xs : List Value} (hr : W.ownsRow (B10 + 1) 36 11 (.slice (some ⟨g, 0, none⟩) n cap) n xs) (j : Nat) (u : Value) : OI w ho fi A c l B10 v (W.setCell ⟨g, j, none⟩ u) := by
  have hl := h.lt
  have hg := (hr.lt g rfl).1
  exact ⟨set_other (by show w.heap.size ≠ g; omega) h.bx, set_other (by show B10 ≠ g; omega) h.o, h.be.setCell (by show w.heap.size ≤ g; omega) u, hl⟩
end Go.Proofs.Ytbmkbokkmmdjdaa
end
