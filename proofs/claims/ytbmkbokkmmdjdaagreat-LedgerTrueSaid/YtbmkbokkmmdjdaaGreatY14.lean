-- A3 A4 (wip/pack9.py)
import Derived.MapKept
import Derived.WideKeyRuns
import Derived.Test.YtbmkbokkmmdjdaaGreatY13
section
namespace Go.Proofs.YtbmkbokkmmdjdaaGreat
open Go.RowKit Go.Proofs.YtbmkbokkmmdjdaaGreatW.PrintWords Go.Proofs.YtbmkbokkmmdjdaaGreatW.PrintLast Go.Proofs.YtbmkbokkmmdjdaaGreatW.PrintMore
open Q Go.Shelf
attribute [local go_sem] Oper.semAt_some wide_depth wide_fn
set_option linter.unusedVariables false
set_option linter.unusedSimpArgs false
open Go.MapKept
theorem eqA27 (d : Nat) (w : World) (x0 y0 x1 y1 : Int) :
    (Op.equalIn (d + 2) 60 (.agg #[.int .u8 x0, .int .i64 x1]) (.agg #[.int .u8 y0, .int .i64 y1])).run Tryz.prog w = .ok (x0 == y0 && (x1 == y1)) w := by
  refine eqA_of Tryz.underlying60 (by kernel_rfl) ?_
  refine eqf_cons (by rfl) (by go_simp; rfl) (by go_simp; rfl) (by go_simp) ?_
  exact eqf_last (by rfl) (by go_simp; rfl) (by go_simp; rfl) (by go_simp)
theorem check_acc (em : Bool) (a : Int × Int) (w : World) : (Instr.checkKey em 10000 60 (.agg #[.int .u8 a.1, .int .i64 a.2])).run Tryz.prog w = .ok () w := by kernel_rfl
def accV (a : Int × Int) : Value := (.agg #[.int .u8 a.1, .int .i64 a.2])
theorem ask_acc (w : World) : ∀ (es : List MapEntry) (K : List ((Int × Int) × Value)) (i : Nat) (a : Int × Int), es.map (fun e => (e.key, e.val)) = K.map (fun p => (accV p.1, p.2)) →
    (∀ p, (K.find? fun p => p.1 == a) = some p → ∃ j, (Instr.findAsking 60 (accV a) es i).run Tryz.prog w = .ok (some (j, p.2)) w) ∧ ((K.find? fun p => p.1 == a) = none → (Instr.findAsking 60 (accV a) es i).run Tryz.prog w = .ok none w)
  | [], [], i, a, h => ⟨fun p hp => by simp at hp, fun _ => rfl⟩
  | [], p :: r, i, a, h => by simp at h
  | e :: r, [], i, a, h => by simp at h
  | e :: r, p :: q, i, a, h => by
    simp only [List.map_cons, List.cons.injEq, Prod.mk.injEq] at h
    obtain ⟨⟨h1, h2⟩, h3⟩ := h
    have ih := ask_acc w r q (i + 1) a h3
    have he : (Op.equal 60 (accV a) e.key).run Tryz.prog w = .ok (a.1 == p.1.1 && (a.2 == p.1.2)) w := by
      rw [h1]; exact eqA27 9998 w _ _ _ _
    unfold Instr.findAsking
    by_cases hk : p.1 = a
    · have e1 : (a.1 == p.1.1 && (a.2 == p.1.2)) = true := by simp [hk]
      rw [e1] at he
      refine ⟨fun p' hp => ?_, fun hn => ?_⟩
      · rw [List.find?_cons_of_pos (by simpa using hk)] at hp
        obtain rfl := Option.some.inj hp
        exact ⟨i, by simp [he, h2]⟩
      · rw [List.find?_cons_of_pos (by simpa using hk)] at hn; cases hn
    · have e1 : (a.1 == p.1.1 && (a.2 == p.1.2)) = false := by
        rw [Bool.eq_false_iff]
        intro hh
        simp at hh
        exact hk (Prod.ext hh.1.symm hh.2.symm)
      rw [e1] at he
      refine ⟨fun p' hp => ?_, fun hn => ?_⟩
      · rw [List.find?_cons_of_neg (by simpa using hk)] at hp
        obtain ⟨j, hj⟩ := ih.1 p' hp
        exact ⟨j, by simp [he, hj]⟩
      · rw [List.find?_cons_of_neg (by simpa using hk)] at hn
        simp [he, ih.2 hn]
def MapA (W : World) (b n : Nat) (K : List ((Int × Int) × Nat)) : Prop :=
  ∃ es cl, W.heap[b]? = some (.map es cl) ∧ es.toList.map (fun e => (e.key, e.val)) = K.map fun p => (accV p.1, .slice (some ⟨p.2, 0, none⟩) n n)
theorem MapA.keep {W W' : World} {b n : Nat} {K : List ((Int × Int) × Nat)} (h : MapA W b n K) (hk : ∀ o, W.heap[b]? = some o → W'.heap[b]? = some o) : MapA W' b n K := by
  obtain ⟨es, cl, h1, h2⟩ := h
  exact ⟨es, cl, hk _ h1, h2⟩
theorem find_wide (n : Nat) (a : Int × Int) : ∀ (K : List ((Int × Int) × Nat)), ((K.map fun p => (p.1, Value.slice (some ⟨p.2, 0, none⟩) n n)).find? fun p => p.1 == a) = (K.find? fun p => p.1 == a).map fun p => (p.1, Value.slice (some ⟨p.2, 0, none⟩) n n)
  | [] => rfl
  | p :: r => by
    rw [List.map_cons]
    by_cases h : p.1 = a
    · rw [List.find?_cons_of_pos (by simpa using h), List.find?_cons_of_pos (by simpa using h)]; rfl
    · rw [List.find?_cons_of_neg (by simpa using h), List.find?_cons_of_neg (by simpa using h)]; exact find_wide n a r
theorem run_lookA {W : World} {b n : Nat} {K : List ((Int × Int) × Nat)} {a : Int × Int} {g : Nat} (h : MapA W b n K) (hp : (K.find? fun p => p.1 == a) = some (a, g)) :
    (Instr.lookup 55 (.map (some b)) (.agg #[.int .u8 a.1, .int .i64 a.2]) false).run Tryz.prog W = .ok (.slice (some ⟨g, 0, none⟩) n n) W := by
  obtain ⟨es, cl, h1, h2⟩ := h
  obtain ⟨j, hj⟩ := (ask_acc W es.toList (K.map fun p => (p.1, .slice (some ⟨p.2, 0, none⟩) n n)) 0 a (by rw [h2, List.map_map]; rfl)).1 (a, .slice (some ⟨g, 0, none⟩) n n) (by rw [find_wide, hp]; rfl)
  have c1 := check_acc es.isEmpty a W
  have c2 := (run_findKey_eq (P := Tryz.prog) (w := W) (k := 60) (by kernel_rfl) (accV a) es.toList).trans hj
  have c3 := Go.MapKept.run_getObj_map (P := Tryz.prog) h1
  unfold accV at c2
  unfold Instr.lookup
  simp [go_sem, Tryz.underlying55, c1, c2, c3]
theorem run_putA {W : World} {b n : Nat} {K : List ((Int × Int) × Nat)} {a : Int × Int} {g : Nat} (h : MapA W b n K) (hp : (K.find? fun p => p.1 == a) = none) :
    ∃ es cl, (Instr.mapUpdate 55 (.map (some b)) (.agg #[.int .u8 a.1, .int .i64 a.2]) (.slice (some ⟨g, 0, none⟩) n n)).run Tryz.prog W = .ok () (W.putObj b (.map es cl)) ∧ MapA (W.putObj b (.map es cl)) b n (K ++ [(a, g)]) := by
  obtain ⟨es, cl, h1, h2⟩ := h
  have hj := (ask_acc W es.toList (K.map fun p => (p.1, .slice (some ⟨p.2, 0, none⟩) n n)) 0 a (by rw [h2, List.map_map]; rfl)).2 (by rw [find_wide, hp]; rfl)
  have c1 := check_acc false a W
  have c2 := (run_findKey_eq (P := Tryz.prog) (w := W) (k := 60) (by kernel_rfl) (accV a) es.toList).trans hj
  have c3 := Go.MapKept.run_getObj_map (P := Tryz.prog) h1
  unfold accV at c2
  refine ⟨es.push { key := (.agg #[.int .u8 a.1, .int .i64 a.2]), val := .slice (some ⟨g, 0, none⟩) n n, born := cl }, cl + 1, ?_, ?_⟩
  · have c4 := Go.MapKept.run_setObj_map (P := Tryz.prog) (.map (es.push { key := (.agg #[.int .u8 a.1, .int .i64 a.2]), val := .slice (some ⟨g, 0, none⟩) n n, born := cl }) (cl + 1)) h1
    unfold Instr.mapUpdate
    simp [go_sem, Tryz.underlying55, c1, c2, c3, c4, World.putObj]
  · refine ⟨_, _, World.putObj_heap_same (Array.getElem?_eq_some_iff.1 h1).1, ?_⟩
    rw [Array.toList_push, List.map_append, List.map_append, h2]
    rfl
def sC (s : S23) : List Value := [.int .i64 s.f0, .int .i64 s.f1]
def sF (l : List S23) : List Value := l.flatMap sC
theorem sF_len (l : List S23) : (sF l).length = l.length * 2 := by
  unfold sF; induction l with
  | nil => rfl
  | cons x r ih => rw [List.flatMap_cons, List.length_append, ih]; simp [sC]; omega
theorem sF_snoc (l : List S23) (x : S23) : sF (l ++ [x]) = sF l ++ sC x := by simp [sF]
theorem sF_at {l : List S23} {k j : Nat} (h : k < l.length) (hj : j < 2) : (sF l)[k * 2 + j]? = (sC (l.getD k z23))[j]? := by
  induction l generalizing k with
  | nil => simp at h
  | cons x r ih =>
    unfold sF; rw [List.flatMap_cons]
    cases k with
    | zero => rw [Nat.zero_mul, Nat.zero_add, List.getElem?_append_left (by simp [sC]; omega)]; rfl
    | succ k =>
      rw [List.getElem?_append_right (by simp [sC]; omega), show (k + 1) * 2 + j - (sC x).length = k * 2 + j by simp [sC]; omega]
      simp at h
      exact ih (by omega)
theorem sF_set {l : List S23} {k : Nat} {s : S23} (h : k < l.length) : sF (l.set k s) = ((sF l).set (k * 2) (.int .i64 s.f0)).set (k * 2 + 1) (.int .i64 s.f1) := by
  induction l generalizing k with
  | nil => simp at h
  | cons x r ih =>
    unfold sF
    cases k with
    | zero =>
      rw [List.set_cons_zero, List.flatMap_cons, List.flatMap_cons]
      simp [sC]
    | succ k =>
      simp at h
      have := ih (k := k) (by omega)
      unfold sF at this
      rw [List.set_cons_succ, List.flatMap_cons, List.flatMap_cons, this, List.set_append_right _ _ (by simp [sC]; omega), List.set_append_right _ _ (by simp [sC]; omega)]
      simp [sC, show (k + 1) * 2 - 2 = k * 2 by omega, show (k + 1) * 2 + 1 - 2 = k * 2 + 1 by omega]
theorem made_spans (n : Nat) : madeCells #[.int .i64 0, .int .i64 0] (n * 2) = (sF (List.replicate n z23)).toArray := by
  apply Array.ext'
  rw [List.toList_toArray]
  apply List.ext_getElem?
  intro i
  by_cases h : i < n * 2
  · obtain ⟨k, j, hj, hk⟩ : ∃ k j, j < 2 ∧ i = k * 2 + j := ⟨i / 2, i % 2, by omega, by omega⟩
    subst hk
    rw [sF_at (by simp; omega) hj]
    have : (List.replicate n z23).getD k z23 = z23 := by simp [List.getD, List.getElem?_replicate]; split <;> rfl
    rw [this]
    simp [madeCells, List.getElem?_range, h]
    rcases (show j = 0 ∨ j = 1 by omega) with rfl | rfl
    · simp [sC, Nat.mul_mod_left]; rfl
    · simp [sC, Nat.add_mod]; rfl
  · rw [List.getElem?_eq_none (by simp [madeCells]; omega), List.getElem?_eq_none (by rw [sF_len]; simp; omega)]
structure AI (W : World) (base Bm n : Nat) (K : List (Int × Int)) (g : Int × Int → Nat) (L : Int × Int → List S23) : Prop where
  mp : MapA W Bm n (K.map fun a => (a, g a))
  bl : ∀ a ∈ K, W.heap[g a]? = some (.cells (sF (L a)).toArray 23 (0, 0))
  le : ∀ a ∈ K, base ≤ g a
  ln : ∀ a ∈ K, (L a).length = n
  inj : ∀ a ∈ K, ∀ b ∈ K, g a = g b → a = b
theorem AI.find {W : World} {base Bm n : Nat} {K : List (Int × Int)} {g : Int × Int → Nat} {L : Int × Int → List S23} (h : AI W base Bm n K g L) {a : Int × Int} (ha : a ∈ K) : ((K.map fun a => (a, g a)).find? fun p => p.1 == a) = some (a, g a) := by
  clear h
  induction K with
  | nil => cases ha
  | cons x r ih =>
    rw [List.map_cons]
    by_cases e : x = a
    · rw [List.find?_cons_of_pos (by simpa using e), e]
    · rw [List.find?_cons_of_neg (by simpa using e)]
      exact ih (by rcases List.mem_cons.1 ha with h | h; exact absurd h.symm e; exact h)
theorem find_notin {K : List (Int × Int)} {g : Int × Int → Nat} {a : Int × Int} (ha : a ∉ K) : ((K.map fun a => (a, g a)).find? fun p => p.1 == a) = none := by
  rw [List.find?_eq_none]
  intro p hp hq
  obtain ⟨x, hx, rfl⟩ := List.mem_map.1 hp
  simp at hq
  exact ha (hq ▸ hx)
theorem AI.keep {W W' : World} {base Bm n : Nat} {K : List (Int × Int)} {g : Int × Int → Nat} {L : Int × Int → List S23} (h : AI W base Bm n K g L) (hk : ∀ (k : Nat) (o : Obj), W.heap[k]? = some o → W'.heap[k]? = some o) : AI W' base Bm n K g L :=
  ⟨h.mp.keep (hk _), fun a ha => hk _ _ (h.bl a ha), h.le, h.ln, h.inj⟩
theorem AI.grow {W W' : World} {base Bm n : Nat} {K : List (Int × Int)} {g : Int × Int → Nat} {L : Int × Int → List S23} (h : AI W base Bm n K g L) (hb : Below W.heap.size W W') : AI W' base Bm n K g L := h.keep fun _ _ ho => heap_grow ho hb
def updL (L : Int × Int → List S23) (a : Int × Int) (i : Nat) (s : S23) : Int × Int → List S23 := fun x => if x = a then (L x).set i s else L x
theorem AI.neM {W : World} {base Bm n : Nat} {K : List (Int × Int)} {g : Int × Int → Nat} {L : Int × Int → List S23} (h : AI W base Bm n K g L) {a : Int × Int} (ha : a ∈ K) : Bm ≠ g a := by
  obtain ⟨es, cl, h1, _⟩ := h.mp
  intro e
  rw [e, h.bl a ha] at h1
  cases h1
theorem AI.put {W : World} {base Bm n : Nat} {K : List (Int × Int)} {g : Int × Int → Nat} {L : Int × Int → List S23} (h : AI W base Bm n K g L) {a : Int × Int} (ha : a ∈ K) {i : Nat} (hi : i < n) (s : S23) :
    AI ((W.setCell ⟨g a, i * 2, none⟩ (.int .i64 s.f0)).setCell ⟨g a, i * 2 + 1, none⟩ (.int .i64 s.f1)) base Bm n K g (updL L a i s) := by
  have o : ∀ {k : Nat} {ob : Obj}, k ≠ g a → W.heap[k]? = some ob → ((W.setCell ⟨g a, i * 2, none⟩ (.int .i64 s.f0)).setCell ⟨g a, i * 2 + 1, none⟩ (.int .i64 s.f1)).heap[k]? = some ob :=
    fun h1 hk => set_other (p := ⟨g a, i * 2 + 1, none⟩) h1 (set_other (p := ⟨g a, i * 2, none⟩) h1 hk)
  refine ⟨h.mp.keep fun ob => o (h.neM ha), fun x hx => ?_, h.le, fun x hx => ?_, h.inj⟩
  · by_cases e : x = a
    · subst e
      have h1 := set_at (h.bl x hx) (i * 2) (.int .i64 s.f0)
      have h2 := set_at h1 (i * 2 + 1) (.int .i64 s.f1)
      rw [h2]
      unfold updL
      rw [if_pos rfl, sF_set (by rw [h.ln x hx]; exact hi)]
      simp
    · unfold updL
      rw [if_neg e]
      exact o (fun e' => e (h.inj x hx a ha e')) (h.bl x hx)
  · unfold updL
    split
    · rw [List.length_set]; exact h.ln x hx
    · exact h.ln x hx
end Go.Proofs.YtbmkbokkmmdjdaaGreat
end
section
namespace Go.Proofs.YtbmkbokkmmdjdaaGreat
open Go.RowKit Go.Proofs.YtbmkbokkmmdjdaaGreatW.PrintWords Go.Proofs.YtbmkbokkmmdjdaaGreatW.PrintLast Go.Proofs.YtbmkbokkmmdjdaaGreatW.PrintMore
open Q Go.Shelf
attribute [local go_sem] Oper.semAt_some wide_depth wide_fn
set_option linter.unusedVariables false
set_option linter.unusedSimpArgs false

theorem AI.cells {W : World} {base Bm n : Nat} {K : List (Int × Int)} {g : Int × Int → Nat} {L : Int × Int → List S23} (h : AI W base Bm n K g L) {a : Int × Int} (ha : a ∈ K) {i j : Nat} (hi : i < n) (hj : j < 2) : W.cell? ⟨g a, i * 2 + j, none⟩ = (sC ((L a).getD i z23))[j]? := by
  rw [blkCell (h.bl a ha)]
  rw [← sF_at (by rw [h.ln a ha]; exact hi) hj]
  simp
set_option maxRecDepth 100000 in
set_option maxHeartbeats 2000000 in
theorem put_any (w : World) (base Bm n : Nat) (K : List (Int × Int)) (g : Int × Int → Nat) (L : Int × Int → List S23) (h : AI w base Bm n K g L) (a : Int × Int) (ha : a ∈ K) (i : Nat) (hi : i < n) (hn : n ≤ 1000000) (s : S23) (Bo : Nat) (hb : w.cell? ⟨Bo, 0, none⟩ = some (.map (some Bm))) :
    Calls Tryz.prog 56 #[.int .u8 a.1, .int .i64 a.2, .int .i64 i, .agg #[.int .i64 s.f0, .int .i64 s.f1], .pointer (some ⟨Bo, 0, none⟩)] w fun e w' => e = .returned (.tuple #[]) ∧ ∃ V, Below w.heap.size w V ∧ w' = (V.setCell ⟨g a, i * 2, none⟩ (.int .i64 s.f0)).setCell ⟨g a, i * 2 + 1, none⟩ (.int .i64 s.f1) := by
  have hu := Tryz.underlying23
  have hu1 := Tryz.underlying60
  have hu2 := Tryz.underlying62
  have hgr := (Below.refl w.heap.size w).alloc (Nat.le_refl _) (.cells #[.int .i64 s.f0, .int .i64 s.f1] 23)
  have e0 := World.alloc_heap_new w (.cells #[.int .i64 s.f0, .int .i64 s.f1] 23)
  have hA := h.grow hgr
  have hb1 := cell_grow hb hgr
  go_enter Tryz.func56, Tryz.ntmps56
  go_upto_region 1 with fail
  generalize w.alloc (.cells #[.int .i64 s.f0, .int .i64 s.f1] 23) = W1 at *
  have y0 := blkCell e0 0
  have y1 := blkCell e0 1
  have y2 := hb1
  simp at y0 y1
  have HX := hid (And.intro hA (hA.find ha))
  have HG := hid hgr
  clear e0 hA hgr hb1
  refine wp_flow [[], [], [], [1, 2], [0, 3, 1, 2], [], [], [4, 0, 3, 1, 2, 5, 6], [7, 4, 0, 3, 1, 2, 5, 6]] 7
    (fun V => V.cell? ⟨w.heap.size, 0, none⟩ = some (.int .i64 s.f0) ∧ V.cell? ⟨w.heap.size, 1, none⟩ = some (.int .i64 s.f1) ∧ V.cell? ⟨Bo, 0, none⟩ = some (.map (some Bm)) ∧ Below W1.heap.size W1 V)
    { tmps := #[.int .u8 a.1, .int .i64 a.2, .int .i64 i, .agg #[.int .i64 s.f0, .int .i64 s.f1], .pointer (some ⟨Bo, 0, none⟩), undef, undef, undef, .pointer (some ⟨w.heap.size, 0, none⟩), .map (some Bm), .int .u8 a.1, .int .i64 a.2, .agg #[.int .u8 a.1, .int .i64 a.2], .slice (some ⟨g a, 0, none⟩) n n, .int .i64 i, .agg #[.int .i64 s.f0, .int .i64 s.f1], undef], defers := [] }
    mixed (by kernel_rfl) rfl (Ahead.of3 9 16 rfl rfl (by kernel_rfl) rfl rfl) ?_ (AllFlow.ops rfl ?_) rfl ?_
  · exact ⟨y0, y1, y2, (Below.refl _ _).drew⟩
  · refine ⟨?_, ?_, ?_, ?_, ?_, ?_, ?_, trivial⟩
    · exact .val 9 _ rfl rfl fun V ⟨y0, y1, y2, hB_⟩ => by go_simp
    · exact .val 10 _ rfl rfl fun V ⟨y0, y1, y2, hB_⟩ => by go_simp
    · exact .val 11 _ rfl rfl fun V ⟨y0, y1, y2, hB_⟩ => by go_simp
    · exact .val 12 _ rfl rfl fun V ⟨y0, y1, y2, hB_⟩ => by go_simp
    · exact .val 13 _ rfl rfl fun V ⟨y0, y1, y2, hB_⟩ => by have hlk := run_lookA (HX.out.1.grow hB_).mp HX.out.2; go_simp
    · exact .val 14 _ rfl rfl fun V ⟨y0, y1, y2, hB_⟩ => by go_simp
    · exact .val 15 _ rfl rfl fun V ⟨y0, y1, y2, hB_⟩ => by go_simp
  rintro V ⟨y0, y1, y2, hB_⟩
  have hA := HX.out.1.grow hB_
  have q0 := hA.cells ha hi (j := 0) (by omega)
  have q1 := hA.cells ha hi (j := 1) (by omega)
  have f0 := blkFrozen (hA.bl a ha) (i * 2)
  have f1 := blkFrozen (hA.bl a ha) (i * 2 + 1)
  simp [sC] at q0 q1
  have HV := hid (HG.out.trans (hB_.mono HG.out.size))
  clear hA hB_ HX HG
  go_wp2
  go_end0
  exact ⟨rfl, V, HV.out, rfl⟩
end Go.Proofs.YtbmkbokkmmdjdaaGreat
end
