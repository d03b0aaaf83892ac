-- K2 (wip/pack9.py)
import Derived.MapKept
import Derived.Test.YtbmkbokkmmdjdaaV10
section
namespace Go.Proofs.Ytbmkbokkmmdjdaa
open Go.RowKit Go.Proofs.YtbmkbokkmmdjdaaW.PrintWords Go.Proofs.YtbmkbokkmmdjdaaW.PrintLast Go.Proofs.YtbmkbokkmmdjdaaW.PrintMore
open Q Go.Shelf
attribute [local go_sem] Oper.semAt_some wide_depth wide_fn
set_option linter.unusedVariables false
set_option linter.unusedSimpArgs false
open Go.MapKept
theorem run_look {W : World} {b : Nat} {pk : List (Int × Int × S23)} {k : Int} {p : Int × Int × S23} (h : MapI W b pk) (hp : (pk.find? fun p => p.1 == k) = some p) :
    (Instr.lookup 71 (.map (some b)) (.int .i64 k) false).run Try.prog W = .ok (.agg #[.int .i64 p.2.1, .int .i64 p.2.2.f0, .int .i64 p.2.2.f1]) W := by
  obtain ⟨es, cl, h1, h2⟩ := h
  obtain ⟨j, hj⟩ := (findNow_pk es.toList pk 0 k h2).1 p hp
  have c1 := run_checkKey (P := Try.prog) (w := W) Try.underlying3 (k := .int .i64 k) (d := .int .i64) (by trivial) es.isEmpty 9999
  have c2 := run_findKey (P := Try.prog) (w := W) (kt := 3) Try.underlying3 hj
  have c3 := Go.MapKept.run_getObj_map (P := Try.prog) h1
  unfold Instr.lookup
  simp [go_sem, Try.underlying71, c1, c2, c3]
theorem putObj_other {W : World} {b k : Nat} {o o' : Obj} (hne : k ≠ b) (h : W.heap[k]? = some o) : (W.putObj b o').heap[k]? = some o := by rw [World.putObj_heap_other hne]; exact h
theorem run_put {W : World} {b : Nat} {pk : List (Int × Int × S23)} {k n : Int} {s : S23} (h : MapI W b pk) (hp : (pk.find? fun p => p.1 == k) = none) :
    ∃ es cl, (Instr.mapUpdate 71 (.map (some b)) (.int .i64 k) (.agg #[.int .i64 n, .int .i64 s.f0, .int .i64 s.f1])).run Try.prog W = .ok () (W.putObj b (.map es cl)) ∧ MapI (W.putObj b (.map es cl)) b (pk ++ [(k, n, s)]) := by
  obtain ⟨es, cl, h1, h2⟩ := h
  have hj := (findNow_pk es.toList pk 0 k h2).2 hp
  have c1 := run_checkKey (P := Try.prog) (w := W) Try.underlying3 (k := .int .i64 k) (d := .int .i64) (by trivial) false 9999
  have c2 := run_findKey (P := Try.prog) (w := W) (kt := 3) Try.underlying3 hj
  have c3 := Go.MapKept.run_getObj_map (P := Try.prog) h1
  refine ⟨es.push { key := .int .i64 k, val := .agg #[.int .i64 n, .int .i64 s.f0, .int .i64 s.f1], born := cl }, cl + 1, ?_, ?_⟩
  · have c4 := Go.MapKept.run_setObj_map (P := Try.prog) (.map (es.push { key := .int .i64 k, val := .agg #[.int .i64 n, .int .i64 s.f0, .int .i64 s.f1], born := cl }) (cl + 1)) h1
    unfold Instr.mapUpdate
    simp [go_sem, Try.underlying71, c1, c2, c3, c4, World.putObj]
  · refine ⟨_, _, World.putObj_heap_same (Array.getElem?_eq_some_iff.1 h1).1, ?_⟩
    rw [Array.toList_push, List.map_append, List.map_append, h2]
    rfl
structure KI (w : World) (ho fi : S23) (A : Option Addr) (c : Nat) (l : List S36) (s : KS) (vh vp : Value) (W : World) : Prop where
  st : W.heap[w.heap.size + 1 + 1 + 1 + 1]? = some (.cells #[vh, vp, .map (some (w.heap.size + 1 + 1 + 1))] 73 (0, 0))
  rh : W.ownsRow (w.heap.size + 1 + 1) 60 6 vh s.hs.length (hF s.hs)
  rp : W.ownsRow (w.heap.size + 1 + 1) 52 9 vp s.ps.length (pF s.ps)
  mp : MapI W (w.heap.size + 1 + 1 + 1) s.pk
  bx : W.heap[w.heap.size]? = some (.cells #[.int .i64 ho.f0, .int .i64 ho.f1, .int .i64 fi.f0, .int .i64 fi.f1, .slice A l.length c] 26 (0, 0))
  rs : W.heap[w.heap.size + 1]? = some (.cells #[.slice none 0 0, .slice none 0 0, .map none] 73 (0, 0))
  be : Below w.heap.size w W
theorem KI.grow {w W W' : World} {ho fi : S23} {A : Option Addr} {c : Nat} {l : List S36} {s : KS} {vh vp : Value} (h : KI w ho fi A c l s vh vp W) (hb : Below W.heap.size W W') : KI w ho fi A c l s vh vp W' :=
  ⟨heap_grow h.st hb, rings_set h.rh hb, rings_set h.rp hb, h.mp.grow hb, heap_grow h.bx hb, heap_grow h.rs hb, h.be.trans (hb.mono h.be.size)⟩
theorem rows_ne {W : World} {b1 b2 : Nat} {e1 e2 : TypeId} {z1 z2 n1 n2 : Nat} {v1 v2 : Value} {x1 x2 : List Value} (h1 : W.ownsRow b1 e1 z1 v1 n1 x1) (h2 : W.ownsRow b2 e2 z2 v2 n2 x2) (hne : e1 ≠ e2) : v1.ownBlock = none ∨ v1.ownBlock ≠ v2.ownBlock := by
  rcases h1.2 with ⟨rfl, _⟩ | ⟨g1, c1, u1, rfl, _, k1, _⟩
  · exact .inl rfl
  · refine .inr ?_
    rcases h2.2 with ⟨rfl, _⟩ | ⟨g2, c2, u2, rfl, _, k2, _⟩
    · simp [Value.ownBlock]
    · intro e
      simp [Value.ownBlock] at e
      subst e
      rw [k1] at k2
      cases k2
      exact hne rfl
theorem row_ne_blk {W : World} {b : Nat} {e t : TypeId} {z n k : Nat} {v : Value} {xs : List Value} {cs : Array Value} (h : W.ownsRow b e z v n xs) (hk : W.heap[k]? = some (.cells cs t (0, 0))) (hne : e ≠ t) : v.ownBlock ≠ some k := by
  rcases h.2 with ⟨rfl, _⟩ | ⟨g, c, u, rfl, _, hg, _⟩
  · simp [Value.ownBlock]
  · intro e'
    simp [Value.ownBlock] at e'
    subst e'
    rw [hg] at hk
    cases hk
    exact hne rfl
theorem row_ne_map {W : World} {b : Nat} {e : TypeId} {z n k : Nat} {v : Value} {xs : List Value} {es : Array MapEntry} {cl : Nat} (h : W.ownsRow b e z v n xs) (hk : W.heap[k]? = some (.map es cl)) : v.ownBlock ≠ some k := by
  rcases h.2 with ⟨rfl, _⟩ | ⟨g, c, u, rfl, _, hg, _⟩
  · simp [Value.ownBlock]
  · intro e'
    simp [Value.ownBlock] at e'
    subst e'
    rw [hg] at hk
    cases hk
theorem blk_ne {W : World} {k j : Nat} {cs cs' : Array Value} {t t' : TypeId} (h : W.heap[k]? = some (.cells cs t (0, 0))) (h' : W.heap[j]? = some (.cells cs' t' (0, 0))) (hne : t ≠ t') : k ≠ j := fun e => by
  subst e; rw [h] at h'; cases h'; exact hne rfl
theorem grown_blk {W W' : World} {v : Value} {k : Nat} {o : Obj} (hg : W.grownBy W' v.ownBlock) (hne : v.ownBlock ≠ some k) (h : W.heap[k]? = some o) : W'.heap[k]? = some o :=
  (hg.block k (Array.getElem?_eq_some_iff.1 h).1 (fun e => hne e.symm)).trans h
theorem MapI.keep {W W' : World} {b : Nat} {pk : List (Int × Int × S23)} (h : MapI W b pk) (hk : ∀ o, W.heap[b]? = some o → W'.heap[b]? = some o) : MapI W' b pk := by
  obtain ⟨es, cl, h1, h2⟩ := h
  exact ⟨es, cl, hk _ h1, h2⟩
theorem KI.heaps {w W W' : World} {ho fi : S23} {A : Option Addr} {c : Nat} {l : List S36} {s : KS} {vh vp vh' : Value} (h : KI w ho fi A c l s vh vp W) (x : S60)
    (hr : W'.ownsRow (w.heap.size + 1 + 1) 60 6 vh' (s.hs.length + 1) (hF s.hs ++ hC x)) (hg : W.grownBy W' vh.ownBlock) :
    KI w ho fi A c l { s with hs := s.hs ++ [x] } vh' vp (W'.setCell ⟨w.heap.size + 1 + 1 + 1 + 1, 0, none⟩ vh') := by
  obtain ⟨es, cl, m1, m2⟩ := h.mp
  have n1 := row_ne_blk h.rh h.st (by decide)
  have n2 := row_ne_blk h.rh h.bx (by decide)
  have n3 := row_ne_blk h.rh h.rs (by decide)
  have n4 := row_ne_map h.rh m1
  have s1 := grown_blk hg n1 h.st
  have rp := h.rp.kept hg (rows_ne h.rp h.rh (by decide))
  have hbe : Below w.heap.size w W' := h.be.grown hg h.be.size (fun j hj => by have := (h.rh.lt j hj).1; omega)
  refine ⟨set_at s1 0 vh', ?_, ?_, ?_, ?_, ?_, hbe.setCell (p := ⟨w.heap.size + 1 + 1 + 1 + 1, 0, none⟩) (by simp <;> omega) _⟩
  · have e : hF (s.hs ++ [x]) = hF s.hs ++ hC x := by simp [hF]
    rw [show ({ s with hs := s.hs ++ [x] } : KS).hs = s.hs ++ [x] from rfl, e, List.length_append]
    exact ownsRow_setCell_other hr (row_ne_blk hr s1 (by decide)) _
  · exact ownsRow_setCell_other rp (row_ne_blk rp s1 (by decide)) _
  · exact (MapI.keep ⟨es, cl, m1, m2⟩ (fun o ho => set_other (p := ⟨w.heap.size + 1 + 1 + 1 + 1, 0, none⟩) (by simp <;> omega) (grown_blk hg n4 ho)))
  · exact set_other (p := ⟨w.heap.size + 1 + 1 + 1 + 1, 0, none⟩) (by simp <;> omega) (grown_blk hg n2 h.bx)
  · exact set_other (p := ⟨w.heap.size + 1 + 1 + 1 + 1, 0, none⟩) (by simp <;> omega) (grown_blk hg n3 h.rs)
theorem KI.pform {w W : World} {ho fi : S23} {A : Option Addr} {c : Nat} {l : List S36} {s : KS} {vh vp : Value} (h : KI w ho fi A c l s vh vp W) (hn : 0 < s.ps.length) : ∃ g cap, vp = .slice (some ⟨g, 0, none⟩) s.ps.length cap ∧ g ≠ w.heap.size + 1 + 1 + 1 + 1 ∧ w.heap.size + 1 + 1 ≤ g ∧ g < W.heap.size := by
  obtain ⟨m, hm⟩ : ∃ m, s.ps.length = m + 1 := ⟨s.ps.length - 1, by omega⟩
  have hr := h.rp
  rw [hm] at hr
  obtain ⟨g, cap, rfl⟩ := ownsRow_succ hr
  refine ⟨g, cap, by rw [hm], ?_, (hr.lt g rfl).1, (hr.lt g rfl).2⟩
  have := row_ne_blk h.rp h.st (by decide)
  simpa [Value.ownBlock] using this
theorem KI.period {w W : World} {ho fi : S23} {A : Option Addr} {c : Nat} {l : List S36} {s : KS} {vh : Value} {g cap : Nat} (h : KI w ho fi A c l s vh (.slice (some ⟨g, 0, none⟩) s.ps.length cap) W) {k j : Nat} {v : Value} {p : S52} (hk : k < s.ps.length) (hj : j < 9)
    (hp : pC p = (pC (s.ps.getD k z52)).set j v) :
    KI w ho fi A c l { s with ps := s.ps.set k p } vh (.slice (some ⟨g, 0, none⟩) s.ps.length cap) (W.setCell ⟨g, k * 9 + j, none⟩ v) := by
  obtain ⟨es, cl, m1, m2⟩ := h.mp
  have n1 : g ≠ w.heap.size + 1 + 1 + 1 + 1 := by have := row_ne_blk h.rp h.st (by decide); simpa [Value.ownBlock] using this
  have n4 : g ≠ w.heap.size + 1 + 1 + 1 := by have := row_ne_map h.rp m1; simpa [Value.ownBlock] using this
  have n2 := (h.rp.lt g rfl).1
  have n5 : vh.ownBlock ≠ some g := by
    rcases rows_ne h.rh h.rp (by decide) with e | e
    · rw [e]; simp
    · simpa [Value.ownBlock] using e
  have hs := h.rp.stored (k * 9 + j) v
  refine ⟨set_other (p := ⟨g, k * 9 + j, none⟩) (by simp; omega) h.st, ownsRow_setCell_other h.rh n5 _, ?_, MapI.keep ⟨es, cl, m1, m2⟩ (fun o ho => set_other (p := ⟨g, k * 9 + j, none⟩) (by simp; omega) ho), set_other (p := ⟨g, k * 9 + j, none⟩) (by simp; omega) h.bx, set_other (p := ⟨g, k * 9 + j, none⟩) (by simp; omega) h.rs, h.be.setCell (p := ⟨g, k * 9 + j, none⟩) (by simp; omega) _⟩
  show (W.setCell ⟨g, k * 9 + j, none⟩ v).ownsRow _ _ _ _ (s.ps.set k p).length (pF (s.ps.set k p))
  rw [pF_set hk hj hp, List.length_set]
  exact hs.1
theorem KI.pcell {w W : World} {ho fi : S23} {A : Option Addr} {c : Nat} {l : List S36} {s : KS} {vh : Value} {g cap N : Nat} (h : KI w ho fi A c l s vh (.slice (some ⟨g, 0, none⟩) N cap) W) (hN : s.ps.length = N) {k j : Nat} (hk : k < N) (hj : j < 9) :
    W.cell? ⟨g, k * 9 + j, none⟩ = (pC (s.ps.getD k z52))[j]? := by
  subst hN
  have e := h.rp.cellAt (k * 9 + j) (by omega)
  rw [pF_at hk hj] at e
  exact e
theorem KI.pfrozen {w W : World} {ho fi : S23} {A : Option Addr} {c : Nat} {l : List S36} {s : KS} {vh : Value} {g cap N : Nat} (h : KI w ho fi A c l s vh (.slice (some ⟨g, 0, none⟩) N cap) W) (hN : s.ps.length = N) (j : Nat) : W.frozen? ⟨g, j, none⟩ = false := by
  subst hN
  exact h.rp.frozenAt j
theorem getD_set_same {l : List S52} {k : Nat} {p z : S52} (h : k < l.length) : (l.set k p).getD k z = p := by simp [List.getD, h]
theorem KI.span0 {w W : World} {ho fi : S23} {A : Option Addr} {c : Nat} {l : List S36} {s : KS} {vh : Value} {g cap N : Nat} (h : KI w ho fi A c l s vh (.slice (some ⟨g, 0, none⟩) N cap) W) (hN : s.ps.length = N) {k : Nat} (hk : k < s.ps.length) (v : S23) :
    KI w ho fi A c l { s with ps := s.ps.set k { s.ps.getD k z52 with f0 := v } } vh (.slice (some ⟨g, 0, none⟩) N cap) ((W.setCell ⟨g, k * 9, none⟩ (.int .i64 v.f0)).setCell ⟨g, k * 9 + 1, none⟩ (.int .i64 v.f1)) := by
  subst hN
  have h1 := h.period (j := 0) (v := .int .i64 v.f0) (p := { s.ps.getD k z52 with f0 := ⟨v.f0, (s.ps.getD k z52).f0.f1⟩ }) hk (by omega) rfl
  have hl : (s.ps.set k { s.ps.getD k z52 with f0 := ⟨v.f0, (s.ps.getD k z52).f0.f1⟩ }).length = s.ps.length := List.length_set
  have h1' := h1
  rw [← hl] at h1'
  have h2 := h1'.period (k := k) (j := 1) (v := .int .i64 v.f1) (p := { s.ps.getD k z52 with f0 := v }) (by rw [hl]; exact hk) (by omega) (by rw [getD_set_same hk]; rfl)
  simp only [List.set_set] at h2
  rw [hl] at h2
  exact h2
theorem KI.span1 {w W : World} {ho fi : S23} {A : Option Addr} {c : Nat} {l : List S36} {s : KS} {vh : Value} {g cap N : Nat} (h : KI w ho fi A c l s vh (.slice (some ⟨g, 0, none⟩) N cap) W) (hN : s.ps.length = N) {k : Nat} (hk : k < s.ps.length) (v : S23) :
    KI w ho fi A c l { s with ps := s.ps.set k { s.ps.getD k z52 with f1 := v } } vh (.slice (some ⟨g, 0, none⟩) N cap) ((W.setCell ⟨g, k * 9 + 2, none⟩ (.int .i64 v.f0)).setCell ⟨g, k * 9 + 3, none⟩ (.int .i64 v.f1)) := by
  subst hN
  have h1 := h.period (j := 2) (v := .int .i64 v.f0) (p := { s.ps.getD k z52 with f1 := ⟨v.f0, (s.ps.getD k z52).f1.f1⟩ }) hk (by omega) rfl
  have hl : (s.ps.set k { s.ps.getD k z52 with f1 := ⟨v.f0, (s.ps.getD k z52).f1.f1⟩ }).length = s.ps.length := List.length_set
  have h1' := h1
  rw [← hl] at h1'
  have h2 := h1'.period (k := k) (j := 3) (v := .int .i64 v.f1) (p := { s.ps.getD k z52 with f1 := v }) (by rw [hl]; exact hk) (by omega) (by rw [getD_set_same hk]; rfl)
  simp only [List.set_set] at h2
  rw [hl] at h2
  exact h2
theorem KI.span2 {w W : World} {ho fi : S23} {A : Option Addr} {c : Nat} {l : List S36} {s : KS} {vh : Value} {g cap N : Nat} (h : KI w ho fi A c l s vh (.slice (some ⟨g, 0, none⟩) N cap) W) (hN : s.ps.length = N) {k : Nat} (hk : k < s.ps.length) (v : S23) :
    KI w ho fi A c l { s with ps := s.ps.set k { s.ps.getD k z52 with f2 := v } } vh (.slice (some ⟨g, 0, none⟩) N cap) ((W.setCell ⟨g, k * 9 + 4, none⟩ (.int .i64 v.f0)).setCell ⟨g, k * 9 + 5, none⟩ (.int .i64 v.f1)) := by
  subst hN
  have h1 := h.period (j := 4) (v := .int .i64 v.f0) (p := { s.ps.getD k z52 with f2 := ⟨v.f0, (s.ps.getD k z52).f2.f1⟩ }) hk (by omega) rfl
  have hl : (s.ps.set k { s.ps.getD k z52 with f2 := ⟨v.f0, (s.ps.getD k z52).f2.f1⟩ }).length = s.ps.length := List.length_set
  have h1' := h1
  rw [← hl] at h1'
  have h2 := h1'.period (k := k) (j := 5) (v := .int .i64 v.f1) (p := { s.ps.getD k z52 with f2 := v }) (by rw [hl]; exact hk) (by omega) (by rw [getD_set_same hk]; rfl)
  simp only [List.set_set] at h2
  rw [hl] at h2
  exact h2
theorem KI.span3 {w W : World} {ho fi : S23} {A : Option Addr} {c : Nat} {l : List S36} {s : KS} {vh : Value} {g cap N : Nat} (h : KI w ho fi A c l s vh (.slice (some ⟨g, 0, none⟩) N cap) W) (hN : s.ps.length = N) {k : Nat} (hk : k < s.ps.length) (v : S23) :
    KI w ho fi A c l { s with ps := s.ps.set k { s.ps.getD k z52 with f3 := v } } vh (.slice (some ⟨g, 0, none⟩) N cap) ((W.setCell ⟨g, k * 9 + 6, none⟩ (.int .i64 v.f0)).setCell ⟨g, k * 9 + 7, none⟩ (.int .i64 v.f1)) := by
  subst hN
  have h1 := h.period (j := 6) (v := .int .i64 v.f0) (p := { s.ps.getD k z52 with f3 := ⟨v.f0, (s.ps.getD k z52).f3.f1⟩ }) hk (by omega) rfl
  have hl : (s.ps.set k { s.ps.getD k z52 with f3 := ⟨v.f0, (s.ps.getD k z52).f3.f1⟩ }).length = s.ps.length := List.length_set
  have h1' := h1
  rw [← hl] at h1'
  have h2 := h1'.period (k := k) (j := 7) (v := .int .i64 v.f1) (p := { s.ps.getD k z52 with f3 := v }) (by rw [hl]; exact hk) (by omega) (by rw [getD_set_same hk]; rfl)
  simp only [List.set_set] at h2
  rw [hl] at h2
  exact h2
theorem KI.close {w W W' : World} {ho fi : S23} {A : Option Addr} {c : Nat} {l : List S36} {s : KS} {vh vp vp' : Value} (h : KI w ho fi A c l s vh vp W) (x : S52)
    (hr : W'.ownsRow (w.heap.size + 1 + 1) 52 9 vp' (s.ps.length + 1) (pF s.ps ++ pC x)) (hg : W.grownBy W' vp.ownBlock) :
    KI w ho fi A c l { s with ps := s.ps ++ [x] } vh vp' (W'.setCell ⟨w.heap.size + 1 + 1 + 1 + 1, 1, none⟩ vp') := by
  obtain ⟨es, cl, m1, m2⟩ := h.mp
  have n1 := row_ne_blk h.rp h.st (by decide)
  have n2 := row_ne_blk h.rp h.bx (by decide)
  have n3 := row_ne_blk h.rp h.rs (by decide)
  have n4 := row_ne_map h.rp m1
  have s1 := grown_blk hg n1 h.st
  have rh := h.rh.kept hg (rows_ne h.rh h.rp (by decide))
  have hbe : Below w.heap.size w W' := h.be.grown hg h.be.size (fun j hj => by have := (h.rp.lt j hj).1; omega)
  refine ⟨set_at s1 1 vp', ?_, ?_, ?_, ?_, ?_, hbe.setCell (p := ⟨w.heap.size + 1 + 1 + 1 + 1, 1, none⟩) (by simp <;> omega) _⟩
  · exact ownsRow_setCell_other rh (row_ne_blk rh s1 (by decide)) _
  · have e : pF (s.ps ++ [x]) = pF s.ps ++ pC x := by simp [pF]
    rw [show ({ s with ps := s.ps ++ [x] } : KS).ps = s.ps ++ [x] from rfl, e, List.length_append]
    exact ownsRow_setCell_other hr (row_ne_blk hr s1 (by decide)) _
  · exact (MapI.keep ⟨es, cl, m1, m2⟩ (fun o ho => set_other (p := ⟨w.heap.size + 1 + 1 + 1 + 1, 1, none⟩) (by simp <;> omega) (grown_blk hg n4 ho)))
  · exact set_other (p := ⟨w.heap.size + 1 + 1 + 1 + 1, 1, none⟩) (by simp <;> omega) (grown_blk hg n2 h.bx)
  · exact set_other (p := ⟨w.heap.size + 1 + 1 + 1 + 1, 1, none⟩) (by simp <;> omega) (grown_blk hg n3 h.rs)
theorem KI.put {w W : World} {ho fi : S23} {A : Option Addr} {c : Nat} {l : List S36} {s : KS} {vh vp : Value} (h : KI w ho fi A c l s vh vp W) {es : Array MapEntry} {cl : Nat} {e : Int × Int × S23}
    (hm : MapI (W.putObj (w.heap.size + 1 + 1 + 1) (.map es cl)) (w.heap.size + 1 + 1 + 1) (s.pk ++ [e])) : KI w ho fi A c l { s with pk := s.pk ++ [e] } vh vp (W.putObj (w.heap.size + 1 + 1 + 1) (.map es cl)) := by
  obtain ⟨es', cl', m1, m2⟩ := h.mp
  exact ⟨putObj_other (by omega) h.st, ownsRow_putObj h.rh _ m1 rfl, ownsRow_putObj h.rp _ m1 rfl, hm, putObj_other (by omega) h.bx, putObj_other (by omega) h.rs, h.be.trans (below_putObj _ _ (by omega))⟩
end Go.Proofs.Ytbmkbokkmmdjdaa
end
