import Derived.Test.YthoofldinnfpiaaHL
namespace Go.Proofs.Ythoofldinnfpiaa
open Go.RowKit Go.Proofs.YthoofldinnfpiaaW.PrintWords Go.Proofs.YthoofldinnfpiaaW.PrintLast Go.Proofs.YthoofldinnfpiaaW.PrintMore
open Q Go.Shelf
attribute [local go_sem] Oper.semAt_some wide_depth wide_fn
set_option linter.unusedVariables false
/-- the boxes of 'Stress' -/
structure StrB (w : World) (T : Value) (p f s o : Int) (v : Value) (W : World) : Prop where
  h1 : W.heap[w.heap.size + 1]? = some (.cells #[T] 25 (0, 0))
  h2 : W.heap[w.heap.size + 1 + 1]? = some (.cells #[.int .i64 p, .int .i64 f, .int .i64 s, .int .i64 o] 27 (0, 0))
  h3 : W.heap[w.heap.size + 1 + 1 + 1]? = some (.cells #[v] 25 (0, 0))
  h4 : W.heap[w.heap.size + 1 + 1 + 1 + 1]? = some (.cells #[.int .i64 0] 36 (0, 0))
  hb : Below w.heap.size w W
theorem StrB.grow {w W W' : World} {T : Value} {p f s o : Int} {v : Value} (h : StrB w T p f s o v W) (hb : Below W.heap.size W W') : StrB w T p f s o v W' :=
  ⟨heap_grow h.h1 hb, heap_grow h.h2 hb, heap_grow h.h3 hb, heap_grow h.h4 hb, h.hb.trans (hb.mono h.hb.size)⟩
theorem StrB.turn {w W W' : World} {T : Value} {p f s o : Int} {v : Value} (h : StrB w T p f s o v W) {B : Nat} (hB : w.heap.size ≤ B) (ht : Turn B W W') : StrB w T p f s o v W' :=
  ⟨ht.cells _ _ h.h1 rfl, ht.cells _ _ h.h2 rfl, ht.cells _ _ h.h3 rfl, ht.cells _ _ h.h4 rfl, h.hb.trans (ht.below.mono hB)⟩
def strC (p f s o : Int) (x : S82 × S29) : List Value := [.int .i64 (stLo x.1 x.2 p f s o), .int .i64 (stHi x.1 x.2 p f s o)]
def StrI (w : World) (Bb : Nat) (A : Option Addr) (c : Nat) (l : List S82) (fl tg : Int) (T : Value) (th : List S29) (p f s o : Int) (k : Nat) (W : World) : Prop :=
  Reads Bb A c l fl tg W ∧ ∃ v, StrB w T p f s o v W ∧ W.ownsRow (Bb + 1) 29 2 v k (((l.zip th).take k).flatMap (strC p f s o))
def stressRes (l : List S82) (fl tg : Int) (th : List S29) (p f s o : Int) : List S29 × Int :=
  if askedOf l fl tg th p f s o = 0 then ((l.zip th).map (fun x => (⟨stLo x.1 x.2 p f s o, stHi x.1 x.2 p f s o⟩ : S29)), 0) else ([], askedOf l fl tg th p f s o)
set_option maxRecDepth 100000 in
set_option maxHeartbeats 2000000 in
theorem Stress_any (A : Option Addr) (c : Nat) (l : List S82) (fl tg : Int) (A0 : Option Addr) (cT : Nat) (th : List S29) (p f s o : Int) (w : World) (hr : Kd.C k82 w A l.length l) (hr0 : Kd.C k29 w A0 th.length th) (hth : th.length ≤ 100000) (hl : l.length ≤ 100000) :
    Calls Try.prog 33 #[.agg #[.slice A l.length c, .int .i64 fl, .int .i64 tg], .slice A0 th.length cT, .agg #[.int .i64 p, .int .i64 f, .int .i64 s, .int .i64 o]] w (RetSpans (stressRes l fl tg th p f s o) w) := by
  have HB := Below.refl w.heap.size w
  have hmf := makeFunc_any
  refine calls_of_wpF Try.func33 rfl ?_
  simp only [Try.ntmps33, List.size_toArray, List.length_cons, List.length_nil, Nat.reduceAdd, Nat.reduceSub, Array.replicate_succ, Array.replicate_zero, List.push_toArray, List.append_toArray, List.nil_append, List.cons_append]
  refine wpF_seq (wpF_of_wp ?_)
  go_wp2
  refine wpF_seq (wpF_of_wp ?_)
  go_wp2
  have e0 := World.alloc_heap_new w (.cells #[.slice A l.length c, .int .i64 fl, .int .i64 tg] 24)
  have e1 := World.alloc_heap_new (w.alloc (.cells #[.slice A l.length c, .int .i64 fl, .int .i64 tg] 24)) (.cells #[.slice A0 th.length cT] 25)
  have e2 := World.alloc_heap_new ((w.alloc (.cells #[.slice A l.length c, .int .i64 fl, .int .i64 tg] 24)).alloc (.cells #[.slice A0 th.length cT] 25)) (.cells #[.int .i64 p, .int .i64 f, .int .i64 s, .int .i64 o] 27)
  have e3 := World.alloc_heap_new (((w.alloc (.cells #[.slice A l.length c, .int .i64 fl, .int .i64 tg] 24)).alloc (.cells #[.slice A0 th.length cT] 25)).alloc (.cells #[.int .i64 p, .int .i64 f, .int .i64 s, .int .i64 o] 27)) (.cells #[.slice none 0 0] 25)
  have e4 := World.alloc_heap_new ((((w.alloc (.cells #[.slice A l.length c, .int .i64 fl, .int .i64 tg] 24)).alloc (.cells #[.slice A0 th.length cT] 25)).alloc (.cells #[.int .i64 p, .int .i64 f, .int .i64 s, .int .i64 o] 27)).alloc (.cells #[.slice none 0 0] 25)) (.cells #[.int .i64 0] 36)
  have e0 := alloc_old (o' := .cells #[.int .i64 0] 36) (alloc_old (o' := .cells #[.slice none 0 0] 25) (alloc_old (o' := .cells #[.int .i64 p, .int .i64 f, .int .i64 s, .int .i64 o] 27) (alloc_old (o' := .cells #[.slice A0 th.length cT] 25) (e0))))
  have e1 := alloc_old (o' := .cells #[.int .i64 0] 36) (alloc_old (o' := .cells #[.slice none 0 0] 25) (alloc_old (o' := .cells #[.int .i64 p, .int .i64 f, .int .i64 s, .int .i64 o] 27) (e1)))
  have e2 := alloc_old (o' := .cells #[.int .i64 0] 36) (alloc_old (o' := .cells #[.slice none 0 0] 25) (e2))
  have e3 := alloc_old (o' := .cells #[.int .i64 0] 36) (e3)
  have hbel := (((((HB.alloc (Nat.le_refl _) (.cells #[.slice A l.length c, .int .i64 fl, .int .i64 tg] 24)).alloc (by simp) (.cells #[.slice A0 th.length cT] 25)).alloc (by simp; omega) (.cells #[.int .i64 p, .int .i64 f, .int .i64 s, .int .i64 o] 27)).alloc (by simp; omega) (.cells #[.slice none 0 0] 25)).alloc (by simp; omega) (.cells #[.int .i64 0] 36))
  have hsz : w.heap.size + 1 + 1 + 1 + 1 < (((((w.alloc (.cells #[.slice A l.length c, .int .i64 fl, .int .i64 tg] 24)).alloc (.cells #[.slice A0 th.length cT] 25)).alloc (.cells #[.int .i64 p, .int .i64 f, .int .i64 s, .int .i64 o] 27)).alloc (.cells #[.slice none 0 0] 25)).alloc (.cells #[.int .i64 0] 36)).heap.size := by simp
  simp only [World.size_alloc] at e1 e2 e3 e4
  generalize (((((w.alloc (.cells #[.slice A l.length c, .int .i64 fl, .int .i64 tg] 24)).alloc (.cells #[.slice A0 th.length cT] 25)).alloc (.cells #[.int .i64 p, .int .i64 f, .int .i64 s, .int .i64 o] 27)).alloc (.cells #[.slice none 0 0] 25)).alloc (.cells #[.int .i64 0] 36)) = W5 at *
  have HE := hid (And.intro e0 (And.intro e1 (And.intro e2 (And.intro e3 (And.intro e4 (And.intro hbel hsz))))))
  have b0 := blkCell e0 0
  have b1 := blkCell e0 1
  have b2 := blkCell e0 2
  have b3 := blkCell e1 0
  have b4 := blkCell e2 0
  have b5 := blkCell e2 1
  have b6 := blkCell e2 2
  have b7 := blkCell e2 3
  simp at b0 b1 b2 b3 b4 b5 b6 b7
  clear hbel e0 e1 e2 e3 e4 hsz HB
  refine wpF_seq (wpF_of_wp ?_)
  go_wp2_with fail
  obtain ⟨e0, e1, e2, e3, e4, hbel, hsz⟩ := HE.out
  refine (asked_any A c l fl tg A0 cT th p f s o _ (Kd.C_below hr hbel) (Kd.C_below hr0 hbel) hl hth).mono ?_
  rintro e w1 ⟨he, hb⟩
  have hH : StrB w (.slice A0 th.length cT) p f s o (.slice none 0 0) w1 := ⟨heap_grow e1 hb, heap_grow e2 hb, heap_grow e3 hb, heap_grow e4 hb, hbel.trans (hb.mono hbel.size)⟩
  have hE := heap_grow e0 hb
  have hsz1 := Nat.lt_of_lt_of_le hsz hb.size
  clear b0 b1 b2 b3 b4 b5 b6 b7 e0 e1 e2 e3 e4 hbel hsz hb HE
  by_cases h0 : ¬ askedOf l fl tg th p f s o = 0
  · rw [if_neg h0] at he
    subst he
    refine leaves_fail catches81 enters81 (blkCell hH.h4 0) (blkFrozen hH.h4 0) ?_
    refine ⟨.tuple #[.slice none 0 0, .int .i64 (askedOf l fl tg th p f s o)], ?_, .slice none 0 0, ?_, ?_, caughtW_below hH.hb (by omega)⟩
    · have := caughtW_cell (c := askedOf l fl tg th p f s o) (blkCell hH.h4 0)
      have k2 := blkCell (caughtW_other (c := askedOf l fl tg th p f s o) (B := w.heap.size + 1 + 1 + 1 + 1) (by omega) hH.h3) 0
      simp at k2
      simp [results, Try.results33, go_sem, this, k2]
    · unfold stressRes; rw [if_neg h0]
    · unfold stressRes; rw [if_neg h0]; exact Kd.R_nil _ _ _ _ _
  have h0' := Decidable.not_not.1 h0
  rw [if_pos h0'] at he
  subst he
  obtain ⟨z1, z2, z3, z4⟩ := asked_zero h0'
  have HN := hid z2
  have HH := hid (And.intro hH (And.intro hE hsz1))
  have b0 := blkCell hE 0
  have b1 := blkCell hE 1
  have b2 := blkCell hE 2
  simp at b0 b1 b2
  have H0 := hid h0'
  obtain ⟨ad, rfl⟩ : ∃ ad, A0 = some ad := by
    have := (check_zero z1).2.1
    obtain ⟨ad, h, _⟩ := at_T29 hr0 0 (by omega) (by omega)
    exact ⟨ad, h⟩
  clear h0 h0' hH hE hsz1 z2
  go_wp2_with fail
  refine wpF_seq (wpF_seq (wpF_of_wp ?_))
  go_wp2_with (first | (go_at_call 54; refine (rings_any _ _ _ _ _ _).mono ?_; rintro e w' ⟨rfl, rfl⟩))
  generalize hBb : w1.heap.size = Bb
  clear b0 b1 b2
  refine wpF_block ?_
  have hck := check_zero z1
  refine wpF_range (N := l.length) Try.func33 rfl enters99 (rings_iter Bb A c l fl tg (by omega)) (fun _ => rfl) (StrI w Bb A c l fl tg (.slice (some ad) th.length cT) th p f s o) (fun _ _ => False) (fun _ _ => False) ?hI ?hIr ?hsz ?hRd ?h0 ?round ?done ?stop ?pan
  case hI =>
    rintro k W W' ⟨h1, v, h2, h3⟩ ht
    have hB : w.heap.size ≤ (w1.alloc (.cells #[.slice A l.length c, .int .i64 fl, .int .i64 tg] 24)).heap.size := by have := HH.out.2.2; simp; omega
    exact ⟨⟨ht.cells _ _ h1.box rfl, Kd.C_below hr (h2.turn hB ht).hb⟩, v, h2.turn hB ht, own_turn h3 ht⟩
  case hIr => exact fun _ _ _ h _ => h
  case hsz => exact fun k W h => by have := cell_lt (blkCell h.1.box 0); simp; omega
  case hRd => exact fun k W h => h.1
  case stop => exact fun _ _ _ h => h.elim
  case pan => exact fun _ _ _ h => h.elim
  case h0 =>
    obtain ⟨hH, hE, hsz1⟩ := HH.out
    have hn := World.alloc_heap_new w1 (.cells #[.slice A l.length c, .int .i64 fl, .int .i64 tg] 24)
    rw [hBb] at hn
    have hb := hH.hb.alloc hH.hb.size (.cells #[.slice A l.length c, .int .i64 fl, .int .i64 tg] 24)
    exact ⟨⟨hn, Kd.C_below hr hb⟩, _, hH.grow ((Below.refl _ _).alloc (Nat.le_refl _) _), own_nil _ _ _ _⟩
  case round =>
    rintro lp k W hlt ⟨hR, v, hV, hO⟩
    have hg : l.getD k z82 = l[k] := by simp [List.getD, hlt]
    simp only [ringV, hg]
    gi_wp2
    refine ⟨(KeepsOthers.alloc _ _), fun w₂ ht2 => ?_⟩
    have hT : Turn (Bb + 1) W w₂ := (Turn.alloc (B := Bb + 1) (by have := cell_lt (blkCell hR.box 0); omega) _).trans (by simpa [hBb] using ht2)
    have hI2 := hV.turn (by have := HH.out.2.2; omega) hT
    have hbox := hT.cells _ _ hR.box rfl
    have qo := own_turn hO hT
    have hrg : w₂.heap[W.heap.size]? = some (.cells (ringC l[k]) 82 (0, 0)) := ht2.cells _ _ (World.alloc_heap_new _ _) rfl
    generalize W.heap.size = B at *
    have hlt' : k < th.length := by rw [HN.out]; exact hlt
    have hth' := at_T29 (Kd.C_below hr0 hI2.hb) k (by omega) (by omega)
    have hrd : rd_T29 th (k : Int) = th[k] := by simp [rd_T29, List.getD, hlt']
    rw [hrd] at hth'
    simp only [Int.toNat_natCast] at hth'
    obtain ⟨ad', had', t0, t1⟩ := hth'
    cases had'
    have hr1 := all_get hck.2.2.1 hlt
    have ht1 : okThick th[k] = true := List.all_eq_true.1 z3 _ (List.getElem_mem hlt')
    obtain ⟨i0, hi, hz0, hz1, hz2⟩ := info29'
    have hBb1 : w.heap.size + 1 + 1 + 1 + 1 < Bb := by have := HH.out.2.2; omega
    have HQ := hid (And.intro hI2 (And.intro hbox (And.intro qo (And.intro hrg (And.intro hr1 (And.intro ht1 (And.intro z4 (And.intro t0 t1))))))))
    have HI0 := hid (And.intro hi (And.intro hz0 (And.intro hz1 hz2)))
    have HBb := hid hBb1
    have hl24 := hck.1
    clear ht2 hT hI2 hbox qo hrg hR hV hO hg hrd t0 t1 hr1 ht1 hi hz0 hz1 hz2 hBb1 hck
    gi_wp2_with fail
    obtain ⟨hI2, hbox, qo, hrg, hr1, ht1, hl1, t0, t1⟩ := HQ.out
    refine wpIn_flow2 [[], [], [], [], [2, 3], [4, 2, 3], [], [1, 5, 4, 2, 3, 6], [7, 1, 5, 4, 2, 3, 6], [0, 8, 7, 1, 5, 4, 2, 3, 6], [9, 0, 8, 7, 1, 5, 4, 2, 3, 6]] 8
      (fun W => W.cell? ⟨(w.heap.size + 1 + 1 + 1), 0, none⟩ = some (v) ∧ W.cell? ⟨B, 0, none⟩ = some (.int .i64 (l[k].f0.f0)) ∧ W.cell? ⟨B, 1, none⟩ = some (.int .i64 (l[k].f0.f1)) ∧ W.cell? ⟨B, 2, none⟩ = some (.int .i64 (l[k].f1.f0)) ∧ W.cell? ⟨B, 3, none⟩ = some (.int .i64 (l[k].f1.f1)) ∧ W.cell? ⟨B, 4, none⟩ = some (.int .i64 (l[k].f2.f0)) ∧ W.cell? ⟨B, 5, none⟩ = some (.int .i64 (l[k].f2.f1)) ∧ W.cell? ⟨B, 6, none⟩ = some (.int .i64 (l[k].f3.f0)) ∧ W.cell? ⟨B, 7, none⟩ = some (.int .i64 (l[k].f3.f1)) ∧ W.cell? ⟨B, 8, none⟩ = some (.int .i64 (l[k].f4.f0)) ∧ W.cell? ⟨B, 9, none⟩ = some (.int .i64 (l[k].f4.f1)) ∧ W.cell? ⟨(w.heap.size + 1), 0, none⟩ = some (.slice (some ad) th.length cT) ∧ W.cell? ⟨(w.heap.size + 1 + 1), 0, none⟩ = some (.int .i64 p) ∧ W.cell? ⟨(w.heap.size + 1 + 1), 1, none⟩ = some (.int .i64 f) ∧ W.cell? ⟨(w.heap.size + 1 + 1), 2, none⟩ = some (.int .i64 s) ∧ W.cell? ⟨(w.heap.size + 1 + 1), 3, none⟩ = some (.int .i64 o) ∧ W.cell? (ad.add (k * 2)) = some (.int .i64 th[k].f0) ∧ W.cell? ⟨(ad.add (k * 2)).block, (ad.add (k * 2)).off + 1, none⟩ = some (.int .i64 th[k].f1) ∧ Below w₂.heap.size w₂ W)
      (fun u W => (W.cell? ⟨(w.heap.size + 1 + 1 + 1), 0, none⟩ = some (v) ∧ W.cell? ⟨B, 0, none⟩ = some (.int .i64 (l[k].f0.f0)) ∧ W.cell? ⟨B, 1, none⟩ = some (.int .i64 (l[k].f0.f1)) ∧ W.cell? ⟨B, 2, none⟩ = some (.int .i64 (l[k].f1.f0)) ∧ W.cell? ⟨B, 3, none⟩ = some (.int .i64 (l[k].f1.f1)) ∧ W.cell? ⟨B, 4, none⟩ = some (.int .i64 (l[k].f2.f0)) ∧ W.cell? ⟨B, 5, none⟩ = some (.int .i64 (l[k].f2.f1)) ∧ W.cell? ⟨B, 6, none⟩ = some (.int .i64 (l[k].f3.f0)) ∧ W.cell? ⟨B, 7, none⟩ = some (.int .i64 (l[k].f3.f1)) ∧ W.cell? ⟨B, 8, none⟩ = some (.int .i64 (l[k].f4.f0)) ∧ W.cell? ⟨B, 9, none⟩ = some (.int .i64 (l[k].f4.f1)) ∧ W.cell? ⟨(w.heap.size + 1), 0, none⟩ = some (.slice (some ad) th.length cT) ∧ W.cell? ⟨(w.heap.size + 1 + 1), 0, none⟩ = some (.int .i64 p) ∧ W.cell? ⟨(w.heap.size + 1 + 1), 1, none⟩ = some (.int .i64 f) ∧ W.cell? ⟨(w.heap.size + 1 + 1), 2, none⟩ = some (.int .i64 s) ∧ W.cell? ⟨(w.heap.size + 1 + 1), 3, none⟩ = some (.int .i64 o) ∧ W.cell? (ad.add (k * 2)) = some (.int .i64 th[k].f0) ∧ W.cell? ⟨(ad.add (k * 2)).block, (ad.add (k * 2)).off + 1, none⟩ = some (.int .i64 th[k].f1) ∧ Below w₂.heap.size w₂ W) ∧ ∃ Bx, u = .slice (some ⟨Bx, 0, none⟩) 1 1 ∧ W.heap[Bx]? = some (.cells #[.int .i64 (stLo l[k] th[k] p f s o), .int .i64 (stHi l[k] th[k] p f s o)] 29 (0, 0)) ∧ w₂.heap.size ≤ Bx)
      { tmps := #[.agg #[.slice A l.length c, .int .i64 fl, .int .i64 tg], .slice (some ad) th.length cT, .agg #[.int .i64 p, .int .i64 f, .int .i64 s, .int .i64 o], .pointer (some ⟨w.heap.size, 0, none⟩), .pointer (some ⟨(w.heap.size + 1), 0, none⟩), .pointer (some ⟨(w.heap.size + 1 + 1), 0, none⟩), .pointer (some ⟨(w.heap.size + 1 + 1 + 1), 0, none⟩), .pointer (some ⟨(w.heap.size + 1 + 1 + 1 + 1), 0, none⟩), .int .i64 k, .pointer (some ⟨B, 0, none⟩), .func (.func 81) #[] #[.pointer (some ⟨(w.heap.size + 1 + 1 + 1 + 1), 0, none⟩)], .agg #[.slice A l.length c, .int .i64 fl, .int .i64 tg], .slice (some ad) th.length cT, .agg #[.int .i64 p, .int .i64 f, .int .i64 s, .int .i64 o], .tuple #[], .agg #[.slice A l.length c, .int .i64 fl, .int .i64 tg], .func (.func 99) #[] #[.pointer (some ⟨Bb, 0, none⟩)], .int .i64 k, .agg #[.int .i64 (l[k].f0.f0), .int .i64 (l[k].f0.f1), .int .i64 (l[k].f1.f0), .int .i64 (l[k].f1.f1), .int .i64 (l[k].f2.f0), .int .i64 (l[k].f2.f1), .int .i64 (l[k].f3.f0), .int .i64 (l[k].f3.f1), .int .i64 (l[k].f4.f0), .int .i64 (l[k].f4.f1)], v, .agg #[.int .i64 (l[k].f0.f0), .int .i64 (l[k].f0.f1), .int .i64 (l[k].f1.f0), .int .i64 (l[k].f1.f1), .int .i64 (l[k].f2.f0), .int .i64 (l[k].f2.f1), .int .i64 (l[k].f3.f0), .int .i64 (l[k].f3.f1), .int .i64 (l[k].f4.f0), .int .i64 (l[k].f4.f1)], .slice (some ad) th.length cT, .int .i64 k, .pointer (some (ad.add (k * 2))), .agg #[.int .i64 (th[k].f0), .int .i64 (th[k].f1)], .agg #[.int .i64 p, .int .i64 f, .int .i64 s, .int .i64 o], .agg #[.int .i64 (stLo l[k] th[k] p f s o), .int .i64 (stHi l[k] th[k] p f s o)], undef, undef, undef], defers := [] }
      mixed (by kernel_rfl) rfl (Ahead.of [0, 1, 2, 3, 4, 5, 6, 7, 8, 9, 10, 11, 12, 13, 14, 15, 16, 17, 18, 27, 28, 29] rfl rfl (by kernel_rfl) (by simp)) ?_ (fun _ _ h => h.1) ?_ ?_ rfl ?_
    · exact ⟨blkCell hI2.h3 0, blkCell hrg 0, blkCell hrg 1, blkCell hrg 2, blkCell hrg 3, blkCell hrg 4, blkCell hrg 5, blkCell hrg 6, blkCell hrg 7, blkCell hrg 8, blkCell hrg 9, blkCell hI2.h1 0, blkCell hI2.h2 0, blkCell hI2.h2 1, blkCell hI2.h2 2, blkCell hI2.h2 3, t0, t1, (Below.refl _ _).drew⟩
    · refine EachOp.ops rfl ⟨?_, ?_, ?_, ?_, ?_, ?_, ?_, ?_, trivial⟩
      · exact .inr (LookOp.val 19 _ rfl rfl fun W ⟨c0, c1, c2, c3, c4, c5, c6, c7, c8, c9, c10, c11, c12, c13, c14, c15, x0, x1, hB_⟩ => by go_simp)
      · exact .inr (LookOp.val 20 _ rfl rfl fun W ⟨c0, c1, c2, c3, c4, c5, c6, c7, c8, c9, c10, c11, c12, c13, c14, c15, x0, x1, hB_⟩ => by go_simp)
      · exact .inr (LookOp.val 21 _ rfl rfl fun W ⟨c0, c1, c2, c3, c4, c5, c6, c7, c8, c9, c10, c11, c12, c13, c14, c15, x0, x1, hB_⟩ => by go_simp)
      · exact .inr (LookOp.val 22 _ rfl rfl fun W ⟨c0, c1, c2, c3, c4, c5, c6, c7, c8, c9, c10, c11, c12, c13, c14, c15, x0, x1, hB_⟩ => by go_simp)
      · exact .inr (LookOp.val 23 _ rfl rfl fun W ⟨c0, c1, c2, c3, c4, c5, c6, c7, c8, c9, c10, c11, c12, c13, c14, c15, x0, x1, hB_⟩ => by go_simp)
      · exact .inr (LookOp.val 24 _ rfl rfl fun W ⟨c0, c1, c2, c3, c4, c5, c6, c7, c8, c9, c10, c11, c12, c13, c14, c15, x0, x1, hB_⟩ => by go_simp)
      · exact .inr (LookOp.val 25 _ rfl rfl fun W ⟨c0, c1, c2, c3, c4, c5, c6, c7, c8, c9, c10, c11, c12, c13, c14, c15, x0, x1, hB_⟩ => by go_simp)
      · left
        refine ⟨by simp, ?_⟩
        refine FlowOp.call 26 (.agg #[.int .i64 (stLo l[k] th[k] p f s o), .int .i64 (stHi l[k] th[k] p f s o)]) 82 #[.agg #[.int .i64 (l[k].f0.f0), .int .i64 (l[k].f0.f1), .int .i64 (l[k].f1.f0), .int .i64 (l[k].f1.f1), .int .i64 (l[k].f2.f0), .int .i64 (l[k].f2.f1), .int .i64 (l[k].f3.f0), .int .i64 (l[k].f3.f1), .int .i64 (l[k].f4.f0), .int .i64 (l[k].f4.f1)], .agg #[.int .i64 (th[k].f0), .int .i64 (th[k].f1)], .agg #[.int .i64 p, .int .i64 f, .int .i64 s, .int .i64 o]] rfl rfl (fun W ⟨c0, c1, c2, c3, c4, c5, c6, c7, c8, c9, c10, c11, c12, c13, c14, c15, x0, x1, hB_⟩ => by go_simp) fun W ⟨c0, c1, c2, c3, c4, c5, c6, c7, c8, c9, c10, c11, c12, c13, c14, c15, x0, x1, hB_⟩ => ?_
        refine (stress_any l[k] th[k] p f s o _ hr1 ht1 hl1).mono ?_
        rintro e w' ⟨rfl, hb⟩
        exact ⟨rfl, cell_grow c0 hb, cell_grow c1 hb, cell_grow c2 hb, cell_grow c3 hb, cell_grow c4 hb, cell_grow c5 hb, cell_grow c6 hb, cell_grow c7 hb, cell_grow c8 hb, cell_grow c9 hb, cell_grow c10 hb, cell_grow c11 hb, cell_grow c12 hb, cell_grow c13 hb, cell_grow c14 hb, cell_grow c15 hb, cell_growp x0 hb, cell_growp x1 hb, hB_.trans (hb.mono hB_.size)⟩
    · refine ⟨rfl, fun W2 ⟨c0, c1, c2, c3, c4, c5, c6, c7, c8, c9, c10, c11, c12, c13, c14, c15, x0, x1, hB_⟩ => ?_⟩
      have hgr := (Below.refl W2.heap.size W2).alloc (Nat.le_refl _) (.cells #[.int .i64 (stLo l[k] th[k] p f s o), .int .i64 (stHi l[k] th[k] p f s o)] 29)
      exact ⟨.slice (some ⟨W2.heap.size, 0, none⟩) 1 1, W2.alloc (.cells #[.int .i64 (stLo l[k] th[k] p f s o), .int .i64 (stHi l[k] th[k] p f s o)] 29), by go_simp, ⟨cell_grow c0 hgr, cell_grow c1 hgr, cell_grow c2 hgr, cell_grow c3 hgr, cell_grow c4 hgr, cell_grow c5 hgr, cell_grow c6 hgr, cell_grow c7 hgr, cell_grow c8 hgr, cell_grow c9 hgr, cell_grow c10 hgr, cell_grow c11 hgr, cell_grow c12 hgr, cell_grow c13 hgr, cell_grow c14 hgr, cell_grow c15 hgr, cell_growp x0 hgr, cell_growp x1 hgr, hB_.trans (hgr.mono hB_.size)⟩, W2.heap.size, rfl, World.alloc_heap_new _ _, hB_.size⟩
    · rintro _ W2 ⟨⟨c0, c1, c2, c3, c4, c5, c6, c7, c8, c9, c10, c11, c12, c13, c14, c15, x0, x1, hB_⟩, Bx, rfl, hx, hle⟩
      obtain ⟨hi, hz0, hz1, hz2⟩ := HI0.out
      have hBb1 := HBb.out
      refine wpListIn_append_own W2 rfl _ _ 25 rfl (Bb + 1) 29 i0 _ 2 16 Try.underlying25 hi hz0 hz1 hz2 rfl (by decide) v k _ rfl (rings_set qo hB_) ⟨Bx, 0, none⟩ 1 1 [.int .i64 (stLo l[k] th[k] p f s o), .int .i64 (stHi l[k] th[k] p f s o)] rfl rfl (two_cells hx) (by simp [Value.oneCell']) (by unfold maxLen; omega) (by omega) (by have := cell_lt (blkCell hbox 0); have := hB_.size; omega) ?_
      intro v' w3 hown' hgrow _
      have g2 := grown_keep (rings_set qo hB_) hgrow (by omega) (heap_grow hI2.h3 hB_)
      have hcv := blkCell g2 0
      have hfv := blkFrozen g2 0
      simp at hcv
      have HK := hid (And.intro hown' (And.intro hgrow g2))
      have HB2 := hid hB_
      clear hown' hgrow g2 hB_ hx hle hI2 hbox qo hrg hr1 ht1 hl1 t0 t1 x0 x1 c0 c1 c2 c3 c4 c5 c6 c7 c8 c9 c10 c11 c12 c13 c14 c15 hi hz0 hz1 hz2
      obtain ⟨g', cap', rfl⟩ := ownsRow_succ HK.out.1
      gi_wp2
      obtain ⟨hown', hgrow, g2⟩ := HK.out
      obtain ⟨hI2, hbox, qo, _⟩ := HQ.out
      have own2 := rings_set qo HB2.out
      have hb3 := ((hI2.hb.trans (HB2.out.mono hI2.hb.size)).grown hgrow (by have := hI2.hb.size; have := HB2.out.size; omega) (fun j hj => own_base own2 hj (by omega))).setCell (p := ⟨w.heap.size + 1 + 1 + 1, 0, none⟩) (by simp; omega) (.slice (some ⟨g', 0, none⟩) (k + 1) cap')
      refine ⟨((keeps_of_below HB2.out).trans (KeepsOthers.of_grownBy hgrow (own_cells own2))).trans (KeepsOthers.setCell _ _ _), ⟨heap_set_other (by omega) (grown_keep own2 hgrow (by omega) (heap_grow hbox HB2.out)), Kd.C_below hr hb3⟩, _, ⟨heap_set_other (by omega) (grown_keep own2 hgrow (by omega) (heap_grow hI2.h1 HB2.out)), heap_set_other (by omega) (grown_keep own2 hgrow (by omega) (heap_grow hI2.h2 HB2.out)), heap_set_same g2, heap_set_other (by omega) (grown_keep own2 hgrow (by omega) (heap_grow hI2.h4 HB2.out)), hb3⟩, ?_⟩
      rw [zip_take hlt hlt', List.flatMap_append]
      simp only [List.flatMap_cons, List.flatMap_nil, List.append_nil]
      exact ownsRow_setCell_below hown' (by simp; omega) _
  case done =>
    rintro D W ⟨hR, v, hV, hO⟩ hD hle
    show wpF Try.prog 33 _ _ _ _
    have hBl := HH.out.2.2
    simp only [World.size_alloc] at hle
    have hz : (l.zip th).length = l.length := by rw [List.length_zip, HN.out]; omega
    rw [← hz, List.take_length] at hO
    have HQ := hid (And.intro hV hO)
    have HD := hid hD
    have c2 := blkCell hV.h3 0
    have f2 := blkFrozen hV.h3 0
    have c3 := blkCell hV.h4 0
    have f3 := blkFrozen hV.h4 0
    simp at c2 c3
    clear hR hV hD
    have hvs : ∃ A' n' c', v = .slice A' n' c' := by
      rcases hO.2 with ⟨rfl, _⟩ | ⟨g, cap, cur, rfl, _⟩
      · exact ⟨_, _, _, rfl⟩
      · exact ⟨_, _, _, rfl⟩
    obtain ⟨A', n', c', rfl⟩ := hvs
    clear hO
    refine wpF_of_wp ?_
    go_wp2
    obtain ⟨hV, qo⟩ := HQ.out
    have hD2 := heap_set_other (b := w.heap.size + 1 + 1 + 1 + 1) (v := .int .i64 0) (by omega) (heap_set_other (b := w.heap.size + 1 + 1 + 1) (v := .slice A' n' c') (by omega) HD.out)
    have k2 := (World.putObj_heap_other (r := D) (o := .deferred none) (by omega)).trans (heap_set_other (b := w.heap.size + 1 + 1 + 1 + 1) (v := .int .i64 0) (by omega) (heap_set_same (v := .slice A' n' c') hV.h3))
    have k3 := (World.putObj_heap_other (r := D) (o := .deferred none) (by omega)).trans (heap_set_same (v := .int .i64 0) (heap_set_other (b := w.heap.size + 1 + 1 + 1) (v := .slice A' n' c') (by omega) hV.h4))
    have j2 := blkCell k2 0
    have j3 := blkCell k3 0
    simp at j2 j3
    have ho := own_turn (ownsRow_setCell_below (ownsRow_setCell_below qo (a := ⟨w.heap.size + 1 + 1 + 1, 0, none⟩) (by simp; omega) (.slice A' n' c')) (a := ⟨w.heap.size + 1 + 1 + 1 + 1, 0, none⟩) (by simp; omega) (.int .i64 0)) (Turn.putObj (B := 0) (.deferred none) (Nat.zero_le _) hD2 rfl)
    refine ⟨by simp, .inl ⟨_, _, rfl, run_takeDeferred hD2, leaves_idle catches81 enters81 ?_⟩⟩
    refine ⟨.tuple #[.slice A' n' c', .int .i64 0], by simp [results, Try.results33, go_sem, j2, j3], .slice A' n' c', ?_, ?_, ?_⟩
    · unfold stressRes; rw [if_pos H0.out]
    · unfold stressRes; rw [if_pos H0.out]
      exact R29_of (l := l.zip th) (f := fun x => (⟨stLo x.1 x.2 p f s o, stHi x.1 x.2 p f s o⟩ : S29)) (own_lower (by omega) ho)
    · exact ((hV.hb.setCell (p := ⟨w.heap.size + 1 + 1 + 1, 0, none⟩) (by simp; omega) _).setCell (p := ⟨w.heap.size + 1 + 1 + 1 + 1, 0, none⟩) (by simp; omega) _).trans (below_putObj _ _ (by omega))
end Go.Proofs.Ythoofldinnfpiaa
