-- H4 A1 A2 A3 A4 (wip/pack9.py)
import Derived.Maps.OwnIn
import Derived.MapKept
import Derived.WideKeyRuns
import Derived.Test.YtbmkbokkmmdjdaaV13
section
namespace Go.Proofs.Ytbmkbokkmmdjdaa
open Go.RowKit Go.Proofs.YtbmkbokkmmdjdaaW.PrintWords Go.Proofs.YtbmkbokkmmdjdaaW.PrintLast Go.Proofs.YtbmkbokkmmdjdaaW.PrintMore
open Q Go.Shelf
attribute [local go_sem] Oper.semAt_some wide_depth wide_fn
set_option linter.unusedVariables false
set_option linter.unusedSimpArgs false

def periodsOf (ho fi : S23) (l : List S36) : List S52 := if bookErr ho fi l = 0 then (keptOf l).ps else []
def RetPeriods (e0 : Int) (ps : List S52) (w : World) (e : Ending) (w' : World) : Prop := ∃ v, e = .returned (.tuple #[v, .int .i64 e0]) ∧ w'.ownsRow w.heap.size 52 9 v ps.length (pF ps) ∧ Below w.heap.size w w'
theorem pF_snoc (l : List S52) (x : S52) : pF (l ++ [x]) = pF l ++ pC x := by simp [pF]
set_option maxRecDepth 100000 in
set_option maxHeartbeats 4000000 in
theorem Periods_no (ho fi : S23) (A : Option Addr) (c : Nat) (l : List S36) (w : World) (hr : Kd.C k36 w A l.length l) (hc : l.length ≤ c) (hv : bookErr ho fi l ≠ 0) :
    Calls Try.prog 15 #[.agg #[.int .i64 ho.f0, .int .i64 ho.f1, .int .i64 fi.f0, .int .i64 fi.f1, .slice A l.length c]] w (RetPeriods (bookErr ho fi l) [] w) := by
  have HB := Below.refl w.heap.size w
  have hbel := HB.alloc (Nat.le_refl _) (.cells #[.int .i64 ho.f0, .int .i64 ho.f1, .int .i64 fi.f0, .int .i64 fi.f1, .slice A l.length c] 26)
  go_enter Try.func15, Try.ntmps15
  go_wp2_with fail
  generalize w.alloc (.cells #[.int .i64 ho.f0, .int .i64 ho.f1, .int .i64 fi.f0, .int .i64 fi.f1, .slice A l.length c] 26) = W1 at *
  refine (Check_any ho fi A c l _ (Kd.C_below hr hbel) hc).mono ?_
  rintro e W2 ⟨rfl, hb⟩
  have HB2 := hid (hbel.trans (hb.mono hbel.size))
  have d1 : (bookErr ho fi l != 0) = true := by simpa using hv
  clear hb hbel hv HB
  go_wp2
  refine bodyPost_ret (v := .tuple #[.slice none 0 0, .int .i64 (bookErr ho fi l)]) (by simp [results, Try.results15, go_sem]) rfl ?_
  exact ⟨_, rfl, own_nil _ _ _ _, HB2.out⟩
def PrI (w : World) (Bo : Nat) (ho fi : S23) (A : Option Addr) (c : Nat) (l : List S36) (g : Nat) (o : Obj) (k : Nat) (W : World) : Prop :=
  ReadsB (Bo + 1) ho fi A c l W ∧ Below w.heap.size w W ∧ W.heap[g]? = some o ∧ (o.isCells = true ∧ Bo + 1 < g) ∧
    ∃ v, W.heap[Bo]? = some (.cells #[v] 46 (0, 0)) ∧ W.ownsRow (Bo + 1 + 1) 52 9 v k (pF ((keptOf l).ps.take k)) ∧ v.ownBlock ≠ some g
set_option maxRecDepth 100000 in
set_option maxHeartbeats 4000000 in
theorem Periods_yes (ho fi : S23) (A : Option Addr) (c : Nat) (l : List S36) (w : World) (hr : Kd.C k36 w A l.length l) (hc : l.length ≤ c) (hv : bookErr ho fi l = 0) :
    Calls Try.prog 15 #[.agg #[.int .i64 ho.f0, .int .i64 ho.f1, .int .i64 fi.f0, .int .i64 fi.f1, .slice A l.length c]] w (RetPeriods 0 (keptOf l).ps w) := by
  have hu := Try.underlying23
  have hmf := makeFunc_any
  have HV := hid hv
  have HMB := hid (show (keptOf l).ps.length ≤ 257 by have := kept_len l l.length (Nat.le_refl _); rw [List.take_length] at this; have := (bookOk_of hv).len; omega)
  have HB := Below.refl w.heap.size w
  have hbel := HB.alloc (Nat.le_refl _) (.cells #[.int .i64 ho.f0, .int .i64 ho.f1, .int .i64 fi.f0, .int .i64 fi.f1, .slice A l.length c] 26)
  have e0 := World.alloc_heap_new w (.cells #[.int .i64 ho.f0, .int .i64 ho.f1, .int .i64 fi.f0, .int .i64 fi.f1, .slice A l.length c] 26)
  refine calls_of_wpF Try.func15 rfl ?_
  simp only [Try.ntmps15, List.size_toArray, List.length_cons, List.length_nil, Nat.reduceAdd, Nat.reduceSub, Array.replicate_succ, Array.replicate_zero, List.push_toArray, List.append_toArray, List.nil_append, List.cons_append]
  refine wpF_seq (wpF_of_wp ?_)
  go_wp2
  generalize w.alloc (.cells #[.int .i64 ho.f0, .int .i64 ho.f1, .int .i64 fi.f0, .int .i64 fi.f1, .slice A l.length c] 26) = W1 at *
  refine wpF_seq (wpF_of_wp ?_)
  have y0 := blkCell e0 0
  have y1 := blkCell e0 1
  have y2 := blkCell e0 2
  have y3 := blkCell e0 3
  have y4 := blkCell e0 4
  simp at y0 y1 y2 y3 y4
  go_wp2_with fail
  refine (Check_any ho fi A c l _ (Kd.C_below hr hbel) hc).mono ?_
  rintro e W2 ⟨rfl, hb⟩
  have e0 := heap_grow e0 hb
  have HB2 := hid (hbel.trans (hb.mono hbel.size))
  have d1 : (bookErr ho fi l != 0) = false := by simpa using hv
  clear hb hbel y0 y1 y2 y3 y4 hv HB
  go_wp2
  clear d1
  refine wpF_seq (wpF_of_wp ?_)
  go_wp2
  have hb3 := HB2.out.alloc HB2.out.size (.cells #[.slice none 0 0] 46)
  have e1 := World.alloc_heap_new W2 (.cells #[.slice none 0 0] 46)
  have e0 := alloc_old (o' := .cells #[.slice none 0 0] 46) e0
  have hs3 : (W2.alloc (.cells #[.slice none 0 0] 46)).heap.size = W2.heap.size + 1 := by simp
  have hle := HB2.out.size
  generalize W2.alloc (.cells #[.slice none 0 0] 46) = W3 at *
  generalize hBo : W2.heap.size = Bo at *
  refine wpF_seq (wpF_seq (wpF_of_wp ?_))
  have y0 := blkCell e0 0
  have y1 := blkCell e0 1
  have y2 := blkCell e0 2
  have y3 := blkCell e0 3
  have y4 := blkCell e0 4
  simp at y0 y1 y2 y3 y4
  have HE := hid (And.intro e1 (And.intro hb3 (And.intro hs3 hle)))
  clear e0 e1 hb3 hs3 hle
  go_wp2_with (first | (go_at_call 36; refine (numbered_any _ _ _ _ _ _).mono ?_; rintro e w' ⟨rfl, rfl⟩))
  clear y0 y1 y2 y3 y4
  refine wpF_block ?_
  rw [HE.out.2.2.1]
  refine wpF_range2 (N := (keptOf l).ps.length) Try.func15 rfl enters68 (per_iter (Bo + 1) ho fi A c l HV.out) (fun _ => rfl) (fun W => ReadsB (Bo + 1) ho fi A c l W ∧ Below w.heap.size w W ∧ W.heap[Bo]? = some (.cells #[.slice none 0 0] 46 (0, 0))) (PrI w Bo ho fi A c l) (fun _ _ => False) (fun _ _ => False) ?hI0 ?hI ?hIr ?hsz0 ?hsz ?hRd0 ?hRd ?h0 ?hstart ?round ?done ?stop ?pan
  case hI0 =>
    rintro W W' ⟨h1, h2, h3⟩ ht
    have hB : w.heap.size ≤ (W3.alloc (.cells #[.int .i64 ho.f0, .int .i64 ho.f1, .int .i64 fi.f0, .int .i64 fi.f1, .slice A l.length c] 26)).heap.size := by have := HE.out.2.1.size; simp; omega
    have h2' := h2.trans (ht.below.mono hB)
    exact ⟨⟨ht.cells _ _ h1.box rfl, Kd.C_below hr h2'⟩, h2', ht.cells _ _ h3 rfl⟩
  case hI =>
    rintro g o k W W' ⟨h1, h2, h3, h4, v, h5, h6, h7⟩ ht
    have hB : w.heap.size ≤ (W3.alloc (.cells #[.int .i64 ho.f0, .int .i64 ho.f1, .int .i64 fi.f0, .int .i64 fi.f1, .slice A l.length c] 26)).heap.size := by have := HE.out.2.1.size; simp; omega
    have h2' := h2.trans (ht.below.mono hB)
    exact ⟨⟨ht.cells _ _ h1.box rfl, Kd.C_below hr h2'⟩, h2', ht.cells _ _ h3 h4.1, h4, v, ht.cells _ _ h5 rfl, own_turn h6 ht, h7⟩
  case hIr => exact fun _ _ _ h _ => h
  case hsz0 => exact fun W h => by have := cell_lt (blkCell h.1.box 0); have := HE.out.2.2.1; simp; omega
  case hsz => exact fun g o k W h => by have := cell_lt (blkCell h.1.box 0); have := HE.out.2.2.1; simp; omega
  case hRd0 => exact fun W h => h.1
  case hRd => exact fun g o k W h => ⟨h.1, h.2.2.1⟩
  case pan => exact fun _ _ _ h => h.elim
  case stop => exact fun _ _ _ h => h.elim
  case h0 =>
    have hn := World.alloc_heap_new W3 (.cells #[.int .i64 ho.f0, .int .i64 ho.f1, .int .i64 fi.f0, .int .i64 fi.f1, .slice A l.length c] 26)
    rw [HE.out.2.2.1] at hn
    have hb := HE.out.2.1.alloc HE.out.2.1.size (.cells #[.int .i64 ho.f0, .int .i64 ho.f1, .int .i64 fi.f0, .int .i64 fi.f1, .slice A l.length c] 26)
    exact ⟨⟨hn, Kd.C_below hr hb⟩, hb, alloc_old HE.out.1⟩
  case hstart =>
    rintro g o W W' ⟨h1, h2, h3⟩ ht hs hg ho hc
    have hB := h2.size
    have h2' := h2.trans (ht.below.mono hB)
    exact ⟨⟨ht.cells _ _ h1.box rfl, Kd.C_below hr h2'⟩, h2', ho, ⟨hc, by have := cell_lt (blkCell h1.box 0); omega⟩, .slice none 0 0, ht.cells _ _ h3 rfl, own_nil _ _ _ _, by simp [Value.ownBlock]⟩
  case round =>
    rintro lp g o k W hlt ⟨hR, hV, hO, hG, v, hb, ho, hne⟩
    obtain ⟨pp, hpp⟩ : ∃ pp, (keptOf l).ps.getD k z52 = pp := ⟨_, rfl⟩
    have hpk : (keptOf l).ps.take (k + 1) = (keptOf l).ps.take k ++ [pp] := by rw [List.take_succ_eq_append_getElem hlt, ← hpp]; simp [List.getD, hlt]
    simp only [hpp, pV]
    gi_wp2
    refine ⟨(KeepsOthers.alloc _ _), fun w₂ ht2 => ?_⟩
    have hbs := cell_lt (blkCell hR.box 0)
    have hT : Turn (Bo + 1 + 1) W w₂ := (Turn.alloc (B := Bo + 1 + 1) (by omega) _).trans (by have := HE.out.2.2.1; simpa [this] using ht2)
    have hV2 := hV.trans (hT.below.mono (by have := HE.out.2.2.2; omega))
    have hbox := hT.cells _ _ hR.box rfl
    have hO2 := hT.cells _ _ hO hG.1
    have hb2 := hT.cells _ _ hb rfl
    have ho2 := own_turn ho hT
    have hpb : w₂.heap[W.heap.size]? = some (.cells #[.int .i64 pp.f0.f0, .int .i64 pp.f0.f1, .int .i64 pp.f1.f0, .int .i64 pp.f1.f1, .int .i64 pp.f2.f0, .int .i64 pp.f2.f1, .int .i64 pp.f3.f0, .int .i64 pp.f3.f1, .int .i64 pp.f4] 52 (0, 0)) := ht2.cells _ _ (World.alloc_heap_new _ _) rfl
    generalize W.heap.size = B at *
    have q0 := blkCell hpb 0
    have q1 := blkCell hpb 1
    have q2 := blkCell hpb 2
    have q3 := blkCell hpb 3
    have q4 := blkCell hpb 4
    have q5 := blkCell hpb 5
    have q6 := blkCell hpb 6
    have q7 := blkCell hpb 7
    have q8 := blkCell hpb 8
    simp at q0 q1 q2 q3 q4 q5 q6 q7 q8
    have z0 := blkCell hb2 0
    have zf := blkFrozen hb2 0
    simp at z0
    have HX := hid (And.intro hV2 (And.intro hbox (And.intro hO2 (And.intro hG (And.intro hb2 (And.intro ho2 hne))))))
    have HP := hid hpk
    have HLT := hid hlt
    clear ht2 hT hV2 hbox hO2 hpb hR hV hO hG hpp hpk hlt hb ho hb2 ho2 hne hbs
    gi_wp2_with (gi_at_builtin; refine Hid.out ?_)
    refine hid ?_
    clear q0 q1 q2 q3 q4 q5 q6 q7 q8 z0 zf
    obtain ⟨hV2, hbox, hO2, hG, hb2, ho2, hne⟩ := HX.out
    have hgr := (Below.refl w₂.heap.size w₂).alloc (Nat.le_refl _) (.cells #[.int .i64 pp.f0.f0, .int .i64 pp.f0.f1, .int .i64 pp.f1.f0, .int .i64 pp.f1.f1, .int .i64 pp.f2.f0, .int .i64 pp.f2.f1, .int .i64 pp.f3.f0, .int .i64 pp.f3.f1, .int .i64 pp.f4] 52)
    have hnew := World.alloc_heap_new w₂ (.cells #[.int .i64 pp.f0.f0, .int .i64 pp.f0.f1, .int .i64 pp.f1.f0, .int .i64 pp.f1.f1, .int .i64 pp.f2.f0, .int .i64 pp.f2.f1, .int .i64 pp.f3.f0, .int .i64 pp.f3.f1, .int .i64 pp.f4] 52)
    have hv4 := hV2.trans (hgr.mono hV2.size)
    have hbox4 := heap_grow hbox hgr
    have hO4 := heap_grow hO2 hgr
    have hb4 := heap_grow hb2 hgr
    have ho4 := rings_set ho2 hgr
    have hkp := keeps_of_below hgr
    have hs4 := hgr.size
    generalize w₂.alloc (.cells #[.int .i64 pp.f0.f0, .int .i64 pp.f0.f1, .int .i64 pp.f1.f0, .int .i64 pp.f1.f1, .int .i64 pp.f2.f0, .int .i64 pp.f2.f1, .int .i64 pp.f3.f0, .int .i64 pp.f3.f1, .int .i64 pp.f4] 52) = W4 at *
    obtain ⟨i0, hi, hz0, hz1, hz2⟩ := info52'
    refine wpListIn_append_own_at (w := W4) rfl _ _ 46 rfl (Bo + 1 + 1) 52 i0 _ 9 72 Try.underlying46 hi hz0 hz1 hz2 rfl (by decide) v k _ rfl ho4 ⟨w₂.heap.size, 0, none⟩ 1 1 (pC pp) rfl rfl (row_cells hnew) (by simp [pC, Value.oneCell']) (by have := HMB.out; have := HLT.out; unfold maxLen; omega) (by have := HMB.out; have := HLT.out; omega) (by have := cell_lt (blkCell hbox4 0); omega) ?_
    intro v' W5 hown' hgrow _ hat
    obtain ⟨g', cap', rfl⟩ := ownsRow_succ hown'
    have hbl := cell_lt (blkCell hbox4 0)
    have g1 := grown_keep ho4 hgrow (by omega) hbox4
    have g2 := grown_keep ho4 hgrow (by omega) hb4
    have g3 := grown_blk hgrow hne hO4
    have g5 := hv4.grown hgrow (by have := hv4.size; omega) (fun j hj => own_base ho4 hj (by have := HE.out.2.2.2; omega))
    have g6 := hkp.trans (KeepsOthers.of_grownBy hgrow (own_cells ho4))
    have gne : g' ≠ g := by
      rcases hat with h | h
      · intro e; subst e; exact hne (by rw [← h]; rfl)
      · have := (Array.getElem?_eq_some_iff.1 hO4).1
        simp [Value.ownBlock] at h
        omega
    have hcv := blkCell g2 0
    have hfv := blkFrozen g2 0
    simp at hcv
    have HG' := hid (And.intro g1 (And.intro g2 (And.intro g3 (And.intro hG (And.intro g5 (And.intro g6 (And.intro gne hown')))))))
    clear g1 g2 g3 g5 g6 gne hown' hgrow hat hG hbl hkp hs4 hv4 hbox4 hO4 hb4 ho4 hnew hgr hV2 hbox hO2 hb2 ho2 hne HX hi hz0 hz1 hz2
    gi_wp2
    obtain ⟨g1, g2, g3, hG, g5, g6, gne, hown'⟩ := HG'.out
    refine ⟨g6.trans (KeepsOthers.setCell _ _ _), ⟨heap_set_other (by omega) g1, Kd.C_below hr (g5.setCell (p := ⟨Bo, 0, none⟩) (by have := HE.out.2.2.2; simp; omega) _)⟩, g5.setCell (p := ⟨Bo, 0, none⟩) (by have := HE.out.2.2.2; simp; omega) _, heap_set_other (by omega) g3, hG, _, heap_set_same g2, ?_, by simpa [Value.ownBlock] using gne⟩
    rw [HP.out, pF_snoc]
    exact ownsRow_setCell_below hown' (by simp; omega) _
  case done =>
    rintro g o D W ⟨hR, hV, hO, hG, v, hb, ho, hne⟩ hD hle
    show wpF Try.prog 15 _ _ _ _
    rw [List.take_length] at ho
    obtain ⟨A', c', rfl⟩ := own_slice ho
    simp only [World.size_alloc, HE.out.2.2.1] at hle
    have HQ := hid (And.intro hV ho)
    have HD := hid hD
    have HS := hid (And.intro hle HE.out.2.2.2)
    have c2 := blkCell hb 0
    simp at c2
    clear hR hV hO hG hb ho hne hD hle
    refine wpF_of_wp ?_
    go_wp2
    obtain ⟨hV, ho⟩ := HQ.out
    have ho' := own_turn ho (Turn.putObj (B := 0) (.deferred none) (Nat.zero_le _) HD.out rfl)
    refine ⟨by simp, .inl ⟨_, _, rfl, run_takeDeferred HD.out, ?_⟩⟩
    refine ⟨.tuple #[.slice A' (keptOf l).ps.length c', .int .i64 0], by simp [results, Try.results15, go_sem], _, rfl, own_lower (by have := HS.out; omega) ho', hV.trans (below_putObj _ _ (by have := HS.out; omega))⟩
theorem Periods_any (ho fi : S23) (A : Option Addr) (c : Nat) (l : List S36) (w : World) (hr : Kd.C k36 w A l.length l) (hc : l.length ≤ c) :
    Calls Try.prog 15 #[.agg #[.int .i64 ho.f0, .int .i64 ho.f1, .int .i64 fi.f0, .int .i64 fi.f1, .slice A l.length c]] w (RetPeriods (bookErr ho fi l) (periodsOf ho fi l) w) := by
  by_cases hv : bookErr ho fi l = 0
  · rw [show periodsOf ho fi l = (keptOf l).ps by unfold periodsOf; rw [if_pos hv], hv]
    exact Periods_yes ho fi A c l w hr hc hv
  · rw [show periodsOf ho fi l = [] by unfold periodsOf; rw [if_neg hv]]
    exact Periods_no ho fi A c l w hr hc hv
end Go.Proofs.Ytbmkbokkmmdjdaa
end
section
namespace Go.Proofs.Ytbmkbokkmmdjdaa
open Go.RowKit Go.Proofs.YtbmkbokkmmdjdaaW.PrintWords Go.Proofs.YtbmkbokkmmdjdaaW.PrintLast Go.Proofs.YtbmkbokkmmdjdaaW.PrintMore
open Q Go.Shelf
attribute [local go_sem] Oper.semAt_some wide_depth wide_fn
set_option linter.unusedVariables false
set_option linter.unusedSimpArgs false

def gramsS (s : S23) : S23 := timesS s ⟨1000, 1000⟩
def minusS (s : S23) : S23 := ⟨wrap64 (-s.f1), wrap64 (-s.f0)⟩
def meetS (a b : S23) : S23 := ⟨mx a.f0 b.f0, mn a.f1 b.f1⟩
set_option maxRecDepth 100000 in
theorem grams_any (s : S23) (w : World) : Calls Try.prog 71 #[.agg #[.int .i64 s.f0, .int .i64 s.f1]] w (RetSpan (gramsS s) w) := by
  have hu := Try.underlying23
  have HB := Below.refl w.heap.size w
  go_enter Try.func71, Try.ntmps71
  go_wp2_with fail
  have e1 := World.alloc_heap_new (w.alloc (.cells #[.int .i64 s.f0, .int .i64 s.f1] 23)) (.cells #[.int .i64 0, .int .i64 0] 23)
  have hbel := (HB.alloc (Nat.le_refl _) (.cells #[.int .i64 s.f0, .int .i64 s.f1] 23)).alloc (by simp) (.cells #[.int .i64 0, .int .i64 0] 23)
  simp only [World.size_alloc] at e1
  generalize ((w.alloc (.cells #[.int .i64 s.f0, .int .i64 s.f1] 23)).alloc (.cells #[.int .i64 0, .int .i64 0] 23)) = W1 at *
  refine (times_any s ⟨1000, 1000⟩ W1).mono ?_
  rintro e W2 ⟨rfl, hb⟩
  have e1 := heap_grow e1 hb
  have HB2 := hid (hbel.trans (hb.mono hbel.size))
  have y0 := blkCell e1 0
  have y1 := blkCell e1 1
  have z0 := blkFrozen e1 0
  have z1 := blkFrozen e1 1
  simp at y0 y1
  have HE := hid e1
  have hg : timesS s ⟨1000, 1000⟩ = gramsS s := rfl
  rw [hg]
  generalize gramsS s = g at *
  clear hb hbel HB e1 hg
  go_wp2
  have hz := st2_same HE.out (.int .i64 g.f0) (.int .i64 g.f1)
  have hb := st2_below HB2.out (show w.heap.size ≤ w.heap.size + 1 by omega) (.int .i64 g.f0) (.int .i64 g.f1)
  generalize ((W2.setCell ⟨w.heap.size + 1, 0, none⟩ (.int .i64 g.f0)).setCell ⟨w.heap.size + 1, 1, none⟩ (.int .i64 g.f1)) = w5 at *
  have q0 := blkCell hz 0
  have q1 := blkCell hz 1
  simp at q0 q1
  refine bodyPost_ret (v := .agg #[.int .i64 g.f0, .int .i64 g.f1]) (by simp [results, Try.results71, go_sem, q0, q1]) rfl ⟨rfl, hb⟩
theorem minus_any (s : S23) (w : World) : Calls Try.prog 72 #[.agg #[.int .i64 s.f0, .int .i64 s.f1]] w (RetSpan (minusS s) w) := by
  have hu := Try.underlying23
  have HB := Below.refl w.heap.size w
  go_enter Try.func72, Try.ntmps72
  go_wp2
  refine bodyPost_ret (v := .agg #[.int .i64 (wrap64 (-s.f1)), .int .i64 (wrap64 (-s.f0))]) (by simp [results, Try.results72, go_sem, wrap_i]) rfl ⟨rfl, ?_⟩
  exact ((HB.alloc (Nat.le_refl _) _).alloc (by simp) _)
attribute [local go_sem] max2_int min2_int max_two min_two
set_option maxRecDepth 100000 in
theorem meet_any (a b : S23) (w : World) : Calls Try.prog 77 #[.agg #[.int .i64 a.f0, .int .i64 a.f1], .agg #[.int .i64 b.f0, .int .i64 b.f1]] w (RetSpan (meetS a b) w) := by
  have hu := Try.underlying23
  have HB := Below.refl w.heap.size w
  go_enter Try.func77, Try.ntmps77
  go_wp2
  all_goals
    refine bodyPost_ret (v := .agg #[.int .i64 (mx a.f0 b.f0), .int .i64 (mn a.f1 b.f1)]) (by simp [results, Try.results77, go_sem] <;> (unfold mx mn; refine ⟨?_, ?_⟩ <;> (split <;> omega))) rfl ⟨rfl, ?_⟩
    exact (((HB.alloc (Nat.le_refl _) _).alloc (by simp) _).alloc (by simp; omega) _)
def firstS (fi : S23) (k : Int) : S23 := if k = 0 then gramsS fi else ⟨0, 0⟩
def alwaysS (ho : S23) (k : Int) : S23 := if k = 0 then gramsS ho else ⟨0, 1152921504606846976⟩
def LW (w : World) (ho fi : S23) (A : Option Addr) (c : Nat) (l : List S36) (k h : Int) : World := ((((w.alloc (.cells #[.int .i64 ho.f0, .int .i64 ho.f1, .int .i64 fi.f0, .int .i64 fi.f1, .slice A l.length c] 26)).alloc (.cells #[.int .u8 k, .int .i64 h] 92)).alloc (.cells #[.int .i64 0, .int .i64 0] 23)).alloc (.cells #[.int .i64 0, .int .i64 0] 23))
set_option maxRecDepth 100000 in
set_option maxHeartbeats 2000000 in
set_option pp.deepTerms true in
set_option pp.maxSteps 1000000 in
theorem limits_any (ho fi : S23) (A : Option Addr) (c : Nat) (l : List S36) (k h : Int) (w : World) : Calls Try.prog 75 #[.agg #[.int .i64 ho.f0, .int .i64 ho.f1, .int .i64 fi.f0, .int .i64 fi.f1, .slice A l.length c], .agg #[.int .u8 k, .int .i64 h]] w fun e w' => e = .returned (.tuple #[.agg #[.int .i64 (firstS fi k).f0, .int .i64 (firstS fi k).f1], .agg #[.int .i64 (alwaysS ho k).f0, .int .i64 (alwaysS ho k).f1]]) ∧ Below w.heap.size w w' := by
  have hu := Try.underlying23
  have hu1 := Try.underlying92
  have hu2 := Try.underlying26
  have hbel : Below w.heap.size w (LW w ho fi A c l k h) := ((((Below.refl w.heap.size w).alloc (Nat.le_refl _) _).alloc (by simp) _).alloc (by simp; omega) _).alloc (by simp; omega) _
  have e0 : (LW w ho fi A c l k h).heap[w.heap.size]? = some (.cells #[.int .i64 ho.f0, .int .i64 ho.f1, .int .i64 fi.f0, .int .i64 fi.f1, .slice A l.length c] 26 (0, 0)) := alloc_old (alloc_old (alloc_old (World.alloc_heap_new _ _)))
  have e2 : (LW w ho fi A c l k h).heap[w.heap.size + 1 + 1]? = some (.cells #[.int .i64 0, .int .i64 0] 23 (0, 0)) := by
    have := alloc_old (o' := .cells #[.int .i64 0, .int .i64 0] 23) (World.alloc_heap_new ((w.alloc (.cells #[.int .i64 ho.f0, .int .i64 ho.f1, .int .i64 fi.f0, .int .i64 fi.f1, .slice A l.length c] 26)).alloc (.cells #[.int .u8 k, .int .i64 h] 92)) (.cells #[.int .i64 0, .int .i64 0] 23))
    simp only [World.size_alloc] at this
    exact this
  have e3 : (LW w ho fi A c l k h).heap[w.heap.size + 1 + 1 + 1]? = some (.cells #[.int .i64 0, .int .i64 0] 23 (0, 0)) := by
    have := World.alloc_heap_new (((w.alloc (.cells #[.int .i64 ho.f0, .int .i64 ho.f1, .int .i64 fi.f0, .int .i64 fi.f1, .slice A l.length c] 26)).alloc (.cells #[.int .u8 k, .int .i64 h] 92)).alloc (.cells #[.int .i64 0, .int .i64 0] 23)) (.cells #[.int .i64 0, .int .i64 0] 23)
    simp only [World.size_alloc] at this
    exact this
  by_cases hk : k = 0
  · have d1 : (k == 0) = true := by simpa using hk
    rw [show firstS fi k = gramsS fi by unfold firstS; rw [if_pos hk], show alwaysS ho k = gramsS ho by unfold alwaysS; rw [if_pos hk]]
    clear hk
    go_enter Try.func75, Try.ntmps75
    go_upto_region 2 with fail
    unfold LW at e0 e2 e3 hbel
    generalize ((((w.alloc (.cells #[.int .i64 ho.f0, .int .i64 ho.f1, .int .i64 fi.f0, .int .i64 fi.f1, .slice A l.length c] 26)).alloc (.cells #[.int .u8 k, .int .i64 h] 92)).alloc (.cells #[.int .i64 0, .int .i64 0] 23)).alloc (.cells #[.int .i64 0, .int .i64 0] 23)) = W1 at *
    have y0 := blkCell e0 0
    have y1 := blkCell e0 1
    have y2 := blkCell e0 2
    have y3 := blkCell e0 3
    have y4 := blkCell e0 4
    simp at y0 y1 y2 y3 y4
    have HX := hid (And.intro e2 (And.intro e3 hbel))
    clear e0 e2 e3 hbel
    refine wp_flow [[], [0], [1, 0], [], [3], [4, 3, 2, 1, 0], [2, 1, 0, 5, 4, 3], [5, 4, 3, 2, 1, 0, 6]] 6
      (fun V => V.cell? ⟨w.heap.size, 0, none⟩ = some (.int .i64 ho.f0) ∧ V.cell? ⟨w.heap.size, 1, none⟩ = some (.int .i64 ho.f1) ∧ V.cell? ⟨w.heap.size, 2, none⟩ = some (.int .i64 fi.f0) ∧ V.cell? ⟨w.heap.size, 3, none⟩ = some (.int .i64 fi.f1) ∧ V.cell? ⟨w.heap.size, 4, none⟩ = some (.slice A l.length c) ∧ Below W1.heap.size W1 V)
      { tmps := #[.agg #[.int .i64 ho.f0, .int .i64 ho.f1, .int .i64 fi.f0, .int .i64 fi.f1, .slice A l.length c], .agg #[.int .u8 k, .int .i64 h], .pointer (some ⟨w.heap.size, 0, none⟩), .pointer (some ⟨(w.heap.size + 1), 0, none⟩), .pointer (some ⟨(w.heap.size + 1 + 1), 0, none⟩), .pointer (some ⟨(w.heap.size + 1 + 1 + 1), 0, none⟩), .pointer (some ⟨(w.heap.size + 1), 0, none⟩), .int .u8 k, .bool true, .pointer (some ⟨w.heap.size, 2, none⟩), .agg #[.int .i64 fi.f0, .int .i64 fi.f1], .agg #[.int .i64 ((gramsS fi).f0), .int .i64 ((gramsS fi).f1)], .pointer (some ⟨w.heap.size, 0, none⟩), .agg #[.int .i64 ho.f0, .int .i64 ho.f1], .agg #[.int .i64 ((gramsS ho).f0), .int .i64 ((gramsS ho).f1)], undef, undef], defers := [] }
      mixed (by kernel_rfl) rfl (Ahead.of3 9 15 rfl rfl (by kernel_rfl) rfl rfl) ?_ (AllFlow.ops rfl ?_) rfl ?_
    · exact ⟨y0, y1, y2, y3, y4, (Below.refl _ _).drew⟩
    · refine ⟨?_, ?_, ?_, ?_, ?_, ?_, trivial⟩
      · exact .val 9 _ rfl rfl fun V ⟨y0, y1, y2, y3, y4, hB_⟩ => by go_simp
      · exact .val 10 _ rfl rfl fun V ⟨y0, y1, y2, y3, y4, hB_⟩ => by go_simp
      · refine .call 11 (.agg #[.int .i64 ((gramsS fi).f0), .int .i64 ((gramsS fi).f1)]) 71 #[.agg #[.int .i64 fi.f0, .int .i64 fi.f1]] rfl rfl (fun V ⟨y0, y1, y2, y3, y4, hB_⟩ => by go_simp) fun V ⟨y0, y1, y2, y3, y4, hB_⟩ => ?_
        refine (grams_any fi _).mono ?_
        rintro e w' ⟨rfl, hb⟩
        exact ⟨rfl, cell_grow y0 hb, cell_grow y1 hb, cell_grow y2 hb, cell_grow y3 hb, cell_grow y4 hb, hB_.trans (hb.mono hB_.size)⟩
      · exact .val 12 _ rfl rfl fun V ⟨y0, y1, y2, y3, y4, hB_⟩ => by go_simp
      · exact .val 13 _ rfl rfl fun V ⟨y0, y1, y2, y3, y4, hB_⟩ => by go_simp
      · refine .call 14 (.agg #[.int .i64 ((gramsS ho).f0), .int .i64 ((gramsS ho).f1)]) 71 #[.agg #[.int .i64 ho.f0, .int .i64 ho.f1]] rfl rfl (fun V ⟨y0, y1, y2, y3, y4, hB_⟩ => by go_simp) fun V ⟨y0, y1, y2, y3, y4, hB_⟩ => ?_
        refine (grams_any ho _).mono ?_
        rintro e w' ⟨rfl, hb⟩
        exact ⟨rfl, cell_grow y0 hb, cell_grow y1 hb, cell_grow y2 hb, cell_grow y3 hb, cell_grow y4 hb, hB_.trans (hb.mono hB_.size)⟩
    rintro V ⟨y0, y1, y2, y3, y4, hB_⟩
    obtain ⟨e2, e3, hbel⟩ := HX.out
    have e2 := heap_grow e2 hB_
    have e3 := heap_grow e3 hB_
    have hbel := hbel.trans (hB_.mono hbel.size)
    have u0 := blkFrozen e2 0
    have u1 := blkFrozen e2 1
    have v0 := blkFrozen e3 0
    have v1 := blkFrozen e3 1
    have r0 := blkCell e2 0
    have r1 := blkCell e2 1
    have t0 := blkCell e3 0
    have t1 := blkCell e3 1
    simp at r0 r1 t0 t1
    generalize hgf : gramsS fi = gf at *
    generalize hgh : gramsS ho = gh at *
    have HGF := hid hgf
    have HGH := hid hgh
    clear hgf hgh
    have HY := hid (And.intro e2 (And.intro e3 hbel))
    clear e2 e3 hbel HX hB_
    go_wp2
    obtain ⟨e2, e3, hbel⟩ := HY.out
    have f2 := st2_same e2 (.int .i64 gf.f0) (.int .i64 gf.f1)
    have f3 := st2_other (b := w.heap.size + 1 + 1) (show w.heap.size + 1 + 1 + 1 ≠ w.heap.size + 1 + 1 by omega) e3 (.int .i64 gf.f0) (.int .i64 gf.f1)
    have hb1 := st2_below hbel (show w.heap.size ≤ w.heap.size + 1 + 1 by omega) (.int .i64 gf.f0) (.int .i64 gf.f1)
    generalize ((V.setCell ⟨w.heap.size + 1 + 1, 0, none⟩ (.int .i64 gf.f0)).setCell ⟨w.heap.size + 1 + 1, 1, none⟩ (.int .i64 gf.f1)) = V1 at *
    have g2 := st2_other (b := w.heap.size + 1 + 1 + 1) (show w.heap.size + 1 + 1 ≠ w.heap.size + 1 + 1 + 1 by omega) f2 (.int .i64 gh.f0) (.int .i64 gh.f1)
    have g3 := st2_same f3 (.int .i64 gh.f0) (.int .i64 gh.f1)
    have hb2 := st2_below hb1 (show w.heap.size ≤ w.heap.size + 1 + 1 + 1 by omega) (.int .i64 gh.f0) (.int .i64 gh.f1)
    generalize ((V1.setCell ⟨w.heap.size + 1 + 1 + 1, 0, none⟩ (.int .i64 gh.f0)).setCell ⟨w.heap.size + 1 + 1 + 1, 1, none⟩ (.int .i64 gh.f1)) = V2 at *
    have q0 := blkCell g2 0
    have q1 := blkCell g2 1
    have q2 := blkCell g3 0
    have q3 := blkCell g3 1
    simp at q0 q1 q2 q3
    refine bodyPost_ret (v := .tuple #[.agg #[.int .i64 gf.f0, .int .i64 gf.f1], .agg #[.int .i64 gh.f0, .int .i64 gh.f1]]) (by simp [results, Try.results75, go_sem, q0, q1, q2, q3]) rfl ⟨by rw [HGF.out, HGH.out], hb2⟩
  · have d1 : (k == 0) = false := by simpa using hk
    rw [show firstS fi k = ⟨0, 0⟩ by unfold firstS; rw [if_neg hk], show alwaysS ho k = ⟨0, 1152921504606846976⟩ by unfold alwaysS; rw [if_neg hk]]
    clear hk
    go_enter Try.func75, Try.ntmps75
    go_wp2
    refine bodyPost_ret (v := .tuple #[.agg #[.int .i64 0, .int .i64 0], .agg #[.int .i64 0, .int .i64 1152921504606846976]]) (by simp [results, Try.results75, go_sem]) rfl ⟨rfl, ?_⟩
    exact ((((Below.refl w.heap.size w).alloc (Nat.le_refl _) _).alloc (by simp) _).alloc (by simp; omega) _).alloc (by simp; omega) _
end Go.Proofs.Ytbmkbokkmmdjdaa
end
section
namespace Go.Proofs.Ytbmkbokkmmdjdaa
open Go.RowKit Go.Proofs.YtbmkbokkmmdjdaaW.PrintWords Go.Proofs.YtbmkbokkmmdjdaaW.PrintLast Go.Proofs.YtbmkbokkmmdjdaaW.PrintMore
open Q Go.Shelf
attribute [local go_sem] Oper.semAt_some wide_depth wide_fn
set_option linter.unusedVariables false
set_option linter.unusedSimpArgs false

def accs (n : Nat) : List (Int × Int) := (0, 0) :: (1, 0) :: (List.range n).map (fun j : Nat => ((2 : Int), (j : Int)))
def aC (a : Int × Int) : List Value := [.int .u8 a.1, .int .i64 a.2]
def aF (l : List (Int × Int)) : List Value := l.flatMap aC
theorem accs_len (n : Nat) : (accs n).length = 2 + n := by simp [accs]; omega
theorem accs_succ (n : Nat) : accs (n + 1) = accs n ++ [(2, (n : Int))] := by simp [accs, List.range_succ]
theorem aF_snoc (l : List (Int × Int)) (a : Int × Int) : aF (l ++ [a]) = aF l ++ aC a := by simp [aF]
theorem aF_at {l : List (Int × Int)} {k j : Nat} (h : k < l.length) (hj : j < 2) : (aF l)[k * 2 + j]? = (aC (l.getD k (0, 0)))[j]? := by
  induction l generalizing k with
  | nil => simp at h
  | cons x r ih =>
    unfold aF; rw [List.flatMap_cons]
    cases k with
    | zero => rw [Nat.zero_mul, Nat.zero_add, List.getElem?_append_left (by simp [aC]; omega)]; rfl
    | succ k =>
      rw [List.getElem?_append_right (by simp [aC]; omega), show (k + 1) * 2 + j - (aC x).length = k * 2 + j by simp [aC]; omega]
      simp at h
      exact ih (by omega)
def RetAccs (l : List (Int × Int)) (w : World) (e : Ending) (w' : World) : Prop := ∃ v, e = .returned v ∧ w'.ownsRow w.heap.size 92 2 v l.length (aF l) ∧ Below w.heap.size w w'
theorem info92' : ∃ i0, Try.prog.info? 92 = some i0 ∧ i0.zero = some (.agg #[.int .u8 0, .int .i64 0]) ∧ i0.size = 2 ∧ i0.bytes = 16 := info_parts (by kernel_rfl)
set_option maxRecDepth 100000 in
set_option maxHeartbeats 4000000 in
theorem accounts_any (ho fi : S23) (A : Option Addr) (c : Nat) (l : List S36) (w : World) (hr : Kd.C k36 w A l.length l) (hv : bookErr ho fi l = 0) :
    Calls Try.prog 40 #[.agg #[.int .i64 ho.f0, .int .i64 ho.f1, .int .i64 fi.f0, .int .i64 fi.f1, .slice A l.length c]] w (RetAccs (accs (keptOf l).hs.length) w) := by
  have hu := Try.underlying73
  have hu1 := Try.underlying39
  have hu2 := Try.underlying92
  have hu3 := Try.underlying94
  have hbel := ((Below.refl w.heap.size w).alloc (Nat.le_refl _) (.cells #[.int .i64 ho.f0, .int .i64 ho.f1, .int .i64 fi.f0, .int .i64 fi.f1, .slice A l.length c] 26)).alloc (by simp) (.cells #[.int .u8 0, .int .i64 0, .int .u8 1, .int .i64 0] 92)
  have e0 := alloc_old (o' := (.cells #[.int .u8 0, .int .i64 0, .int .u8 1, .int .i64 0] 92)) (World.alloc_heap_new w (.cells #[.int .i64 ho.f0, .int .i64 ho.f1, .int .i64 fi.f0, .int .i64 fi.f1, .slice A l.length c] 26))
  have e1 := World.alloc_heap_new (w.alloc (.cells #[.int .i64 ho.f0, .int .i64 ho.f1, .int .i64 fi.f0, .int .i64 fi.f1, .slice A l.length c] 26)) (.cells #[.int .u8 0, .int .i64 0, .int .u8 1, .int .i64 0] 92)
  have HV := hid hv
  have HL := hid (bookOk_of hv).len
  simp only [World.size_alloc] at e1
  have ho0 : ((w.alloc (.cells #[.int .i64 ho.f0, .int .i64 ho.f1, .int .i64 fi.f0, .int .i64 fi.f1, .slice A l.length c] 26)).alloc (.cells #[.int .u8 0, .int .i64 0, .int .u8 1, .int .i64 0] 92)).ownsRow (w.heap.size + 1) 92 2 (.slice (some ⟨w.heap.size + 1, 0, none⟩) 2 2) 2 (aF (accs 0)) :=
    ⟨rfl, .inr ⟨_, 2, _, rfl, Nat.le_refl _, e1, Nat.le_refl _, by decide, rfl, rfl⟩⟩
  go_enter Try.func40, Try.ntmps40
  go_wp2_with fail
  generalize ((w.alloc (.cells #[.int .i64 ho.f0, .int .i64 ho.f1, .int .i64 fi.f0, .int .i64 fi.f1, .slice A l.length c] 26)).alloc (.cells #[.int .u8 0, .int .i64 0, .int .u8 1, .int .i64 0] 92)) = W2 at *
  refine (kept_any ho fi A c l _ (Kd.C_below hr hbel) (by have := HL.out; omega) (stepOk_all HV.out)).mono ?_
  rintro e W3 ⟨vh, vp, Bm, rfl, hBm, hrh, hrp, hmp, hb⟩
  obtain ⟨Ah, ch, rfl⟩ := own_slice hrh
  obtain ⟨Ap, cp, rfl⟩ := own_slice hrp
  have hf := fieldB0 Ah Ap (keptOf l).hs.length ch (keptOf l).ps.length cp (some Bm) W3
  have HN := hid (show (keptOf l).hs.length ≤ 256 by have := kept_len l l.length (Nat.le_refl _); rw [List.take_length] at this; have := HL.out; omega)
  have H3 := hid (And.intro (hbel.trans (hb.mono hbel.size)) (rings_set ho0 hb))
  clear hb hBm hrh hrp hmp e0 e1 ho0 hbel hv
  go_wp2
  clear hf
  generalize (keptOf l).hs.length = n at *
  go_loopw [3, 12] (fun v3 v12 X => ∃ k : Nat, k ≤ n ∧ v12 = .int .i64 k ∧ ∃ A' m' c', v3 = .slice A' m' c' ∧ Hid (Below w.heap.size w X ∧ X.ownsRow (w.heap.size + 1) 92 2 (.slice A' m' c') (2 + k) (aF (accs k)))) (fun v3 v12 _ => n - (intOf v12).toNat)
  case atStart => exact ⟨0, by omega, rfl, _, _, _, rfl, H3⟩
  case round =>
    obtain ⟨k, hk, rfl, A', m', c', rfl, HX⟩ := hrel
    rename World => Wk
    by_cases hlt : k < n
    · have hmb := HN.out
      go_wp2_with (at_builtin; refine Hid.out ?_)
      refine hid ?_
      obtain ⟨hb5, ho5⟩ := HX.out
      have hgr := (Below.refl Wk.heap.size Wk).alloc (Nat.le_refl _) (.cells #[.int .u8 2, .int .i64 k] 92)
      have hnew := World.alloc_heap_new Wk (.cells #[.int .u8 2, .int .i64 k] 92)
      have hb6 := hb5.trans (hgr.mono hb5.size)
      have ho6 := rings_set ho5 hgr
      have hs6 : w.heap.size + 1 ≤ (Wk.alloc (.cells #[.int .u8 2, .int .i64 k] 92)).heap.size := by have := hb5.size; simp; omega
      generalize Wk.alloc (.cells #[.int .u8 2, .int .i64 k] 92) = W7 at *
      generalize Wk.heap.size = B6 at *
      obtain ⟨i0, hi, hz0, hz1, hz2⟩ := info92'
      refine wpList_append_own W7 rfl _ _ 94 rfl (w.heap.size + 1) 92 i0 _ 2 16 Try.underlying94 hi hz0 hz1 hz2 rfl (by decide) (.slice A' m' c') (2 + k) (aF (accs k)) rfl ho6 ⟨B6, 0, none⟩ 1 1 (aC (2, (k : Int))) rfl rfl (row_cells hnew) (by simp [aC, Value.oneCell']) (by unfold maxLen; omega) (by omega) hs6 ?_
      intro v' W8 hown' hgrow _
      obtain ⟨g', cap', rfl⟩ := ownsRow_succ hown'
      have hb8 := hb6.grown hgrow hb6.size (fun j hj => by have := (ho6.lt j hj).1; omega)
      have HF := hid (And.intro hb8 hown')
      have HLT := hid hlt
      clear hgr hnew hb6 ho6 hs6 hi hz0 hz1 hz2 hown' hgrow hb8 hb5 ho5 HX
      go_wp2
      go_roundw
      case rel => exact ⟨k + 1, by have := HLT.out; omega, by go_num, _, _, _, rfl, hid ⟨HF.out.1, by rw [accs_succ, aF_snoc]; exact HF.out.2⟩⟩
      case measure => have := HLT.out; simp [intOf]; omega
    · obtain rfl : k = n := by omega
      go_wp2
      go_ret
      exact ⟨_, rfl, by rw [accs_len]; exact own_lower (by omega) HX.out.2, HX.out.1⟩
end Go.Proofs.Ytbmkbokkmmdjdaa
end
section
namespace Go.Proofs.Ytbmkbokkmmdjdaa
open Go.RowKit Go.Proofs.YtbmkbokkmmdjdaaW.PrintWords Go.Proofs.YtbmkbokkmmdjdaaW.PrintLast Go.Proofs.YtbmkbokkmmdjdaaW.PrintMore
open Q Go.Shelf
attribute [local go_sem] Oper.semAt_some wide_depth wide_fn
set_option linter.unusedVariables false
set_option linter.unusedSimpArgs false
open Go.MapKept
theorem eqA40 (d : Nat) (w : World) (x0 y0 x1 y1 : Int) :
    (Op.equalIn (d + 2) 92 (.agg #[.int .u8 x0, .int .i64 x1]) (.agg #[.int .u8 y0, .int .i64 y1])).run Try.prog w = .ok (x0 == y0 && (x1 == y1)) w := by
  refine eqA_of Try.underlying92 (by kernel_rfl) ?_
  refine eqf_cons (by rfl) (by go_simp; rfl) (by go_simp; rfl) (by go_simp) ?_
  exact eqf_last (by rfl) (by go_simp; rfl) (by go_simp; rfl) (by go_simp)
theorem check_acc (em : Bool) (a : Int × Int) (w : World) : (Instr.checkKey em 10000 92 (.agg #[.int .u8 a.1, .int .i64 a.2])).run Try.prog w = .ok () w := by kernel_rfl
def accV (a : Int × Int) : Value := (.agg #[.int .u8 a.1, .int .i64 a.2])
theorem ask_acc (w : World) : ∀ (es : List MapEntry) (K : List ((Int × Int) × Value)) (i : Nat) (a : Int × Int), es.map (fun e => (e.key, e.val)) = K.map (fun p => (accV p.1, p.2)) →
    (∀ p, (K.find? fun p => p.1 == a) = some p → ∃ j, (Instr.findAsking 92 (accV a) es i).run Try.prog w = .ok (some (j, p.2)) w) ∧ ((K.find? fun p => p.1 == a) = none → (Instr.findAsking 92 (accV a) es i).run Try.prog w = .ok none w)
  | [], [], i, a, h => ⟨fun p hp => by simp at hp, fun _ => rfl⟩
  | [], p :: r, i, a, h => by simp at h
  | e :: r, [], i, a, h => by simp at h
  | e :: r, p :: q, i, a, h => by
    simp only [List.map_cons, List.cons.injEq, Prod.mk.injEq] at h
    obtain ⟨⟨h1, h2⟩, h3⟩ := h
    have ih := ask_acc w r q (i + 1) a h3
    have he : (Op.equal 92 (accV a) e.key).run Try.prog w = .ok (a.1 == p.1.1 && (a.2 == p.1.2)) w := by
      rw [h1]; exact eqA40 9998 w _ _ _ _
    unfold Instr.findAsking
    by_cases hk : p.1 = a
    · have e1 : (a.1 == p.1.1 && (a.2 == p.1.2)) = true := by simp [hk]
      rw [e1] at he
      refine ⟨fun p' hp => ?_, fun hn => ?_⟩
      · rw [List.find?_cons_of_pos (by simpa using hk)] at hp
        obtain rfl := Option.some.inj hp
        exact ⟨i, by simp [he, h2]⟩
      · rw [List.find?_cons_of_pos (by simpa using hk)] at hn; cases hn
    · have e1 : (a.1 == p.1.1 && (a.2 == p.1.2)) = false := by
        rw [Bool.eq_false_iff]
        intro hh
        simp at hh
        exact hk (Prod.ext hh.1.symm hh.2.symm)
      rw [e1] at he
      refine ⟨fun p' hp => ?_, fun hn => ?_⟩
      · rw [List.find?_cons_of_neg (by simpa using hk)] at hp
        obtain ⟨j, hj⟩ := ih.1 p' hp
        exact ⟨j, by simp [he, hj]⟩
      · rw [List.find?_cons_of_neg (by simpa using hk)] at hn
        simp [he, ih.2 hn]
def MapA (W : World) (b n : Nat) (K : List ((Int × Int) × Nat)) : Prop :=
  ∃ es cl, W.heap[b]? = some (.map es cl) ∧ es.toList.map (fun e => (e.key, e.val)) = K.map fun p => (accV p.1, .slice (some ⟨p.2, 0, none⟩) n n)
theorem MapA.keep {W W' : World} {b n : Nat} {K : List ((Int × Int) × Nat)} (h : MapA W b n K) (hk : ∀ o, W.heap[b]? = some o → W'.heap[b]? = some o) : MapA W' b n K := by
  obtain ⟨es, cl, h1, h2⟩ := h
  exact ⟨es, cl, hk _ h1, h2⟩
theorem find_wide (n : Nat) (a : Int × Int) : ∀ (K : List ((Int × Int) × Nat)), ((K.map fun p => (p.1, Value.slice (some ⟨p.2, 0, none⟩) n n)).find? fun p => p.1 == a) = (K.find? fun p => p.1 == a).map fun p => (p.1, Value.slice (some ⟨p.2, 0, none⟩) n n)
  | [] => rfl
  | p :: r => by
    rw [List.map_cons]
    by_cases h : p.1 = a
    · rw [List.find?_cons_of_pos (by simpa using h), List.find?_cons_of_pos (by simpa using h)]; rfl
    · rw [List.find?_cons_of_neg (by simpa using h), List.find?_cons_of_neg (by simpa using h)]; exact find_wide n a r
theorem run_lookA {W : World} {b n : Nat} {K : List ((Int × Int) × Nat)} {a : Int × Int} {g : Nat} (h : MapA W b n K) (hp : (K.find? fun p => p.1 == a) = some (a, g)) :
    (Instr.lookup 97 (.map (some b)) (.agg #[.int .u8 a.1, .int .i64 a.2]) false).run Try.prog W = .ok (.slice (some ⟨g, 0, none⟩) n n) W := by
  obtain ⟨es, cl, h1, h2⟩ := h
  obtain ⟨j, hj⟩ := (ask_acc W es.toList (K.map fun p => (p.1, .slice (some ⟨p.2, 0, none⟩) n n)) 0 a (by rw [h2, List.map_map]; rfl)).1 (a, .slice (some ⟨g, 0, none⟩) n n) (by rw [find_wide, hp]; rfl)
  have c1 := check_acc es.isEmpty a W
  have c2 := (run_findKey_eq (P := Try.prog) (w := W) (k := 92) (by kernel_rfl) (accV a) es.toList).trans hj
  have c3 := Go.MapKept.run_getObj_map (P := Try.prog) h1
  unfold accV at c2
  unfold Instr.lookup
  simp [go_sem, Try.underlying97, c1, c2, c3]
theorem run_putA {W : World} {b n : Nat} {K : List ((Int × Int) × Nat)} {a : Int × Int} {g : Nat} (h : MapA W b n K) (hp : (K.find? fun p => p.1 == a) = none) :
    ∃ es cl, (Instr.mapUpdate 97 (.map (some b)) (.agg #[.int .u8 a.1, .int .i64 a.2]) (.slice (some ⟨g, 0, none⟩) n n)).run Try.prog W = .ok () (W.putObj b (.map es cl)) ∧ MapA (W.putObj b (.map es cl)) b n (K ++ [(a, g)]) := by
  obtain ⟨es, cl, h1, h2⟩ := h
  have hj := (ask_acc W es.toList (K.map fun p => (p.1, .slice (some ⟨p.2, 0, none⟩) n n)) 0 a (by rw [h2, List.map_map]; rfl)).2 (by rw [find_wide, hp]; rfl)
  have c1 := check_acc false a W
  have c2 := (run_findKey_eq (P := Try.prog) (w := W) (k := 92) (by kernel_rfl) (accV a) es.toList).trans hj
  have c3 := Go.MapKept.run_getObj_map (P := Try.prog) h1
  unfold accV at c2
  refine ⟨es.push { key := (.agg #[.int .u8 a.1, .int .i64 a.2]), val := .slice (some ⟨g, 0, none⟩) n n, born := cl }, cl + 1, ?_, ?_⟩
  · have c4 := Go.MapKept.run_setObj_map (P := Try.prog) (.map (es.push { key := (.agg #[.int .u8 a.1, .int .i64 a.2]), val := .slice (some ⟨g, 0, none⟩) n n, born := cl }) (cl + 1)) h1
    unfold Instr.mapUpdate
    simp [go_sem, Try.underlying97, c1, c2, c3, c4, World.putObj]
  · refine ⟨_, _, World.putObj_heap_same (Array.getElem?_eq_some_iff.1 h1).1, ?_⟩
    rw [Array.toList_push, List.map_append, List.map_append, h2]
    rfl
def sC (s : S23) : List Value := [.int .i64 s.f0, .int .i64 s.f1]
def sF (l : List S23) : List Value := l.flatMap sC
theorem sF_len (l : List S23) : (sF l).length = l.length * 2 := by
  unfold sF; induction l with
  | nil => rfl
  | cons x r ih => rw [List.flatMap_cons, List.length_append, ih]; simp [sC]; omega
theorem sF_snoc (l : List S23) (x : S23) : sF (l ++ [x]) = sF l ++ sC x := by simp [sF]
theorem sF_at {l : List S23} {k j : Nat} (h : k < l.length) (hj : j < 2) : (sF l)[k * 2 + j]? = (sC (l.getD k z23))[j]? := by
  induction l generalizing k with
  | nil => simp at h
  | cons x r ih =>
    unfold sF; rw [List.flatMap_cons]
    cases k with
    | zero => rw [Nat.zero_mul, Nat.zero_add, List.getElem?_append_left (by simp [sC]; omega)]; rfl
    | succ k =>
      rw [List.getElem?_append_right (by simp [sC]; omega), show (k + 1) * 2 + j - (sC x).length = k * 2 + j by simp [sC]; omega]
      simp at h
      exact ih (by omega)
theorem sF_set {l : List S23} {k : Nat} {s : S23} (h : k < l.length) : sF (l.set k s) = ((sF l).set (k * 2) (.int .i64 s.f0)).set (k * 2 + 1) (.int .i64 s.f1) := by
  induction l generalizing k with
  | nil => simp at h
  | cons x r ih =>
    unfold sF
    cases k with
    | zero =>
      rw [List.set_cons_zero, List.flatMap_cons, List.flatMap_cons]
      simp [sC]
    | succ k =>
      simp at h
      have := ih (k := k) (by omega)
      unfold sF at this
      rw [List.set_cons_succ, List.flatMap_cons, List.flatMap_cons, this, List.set_append_right _ _ (by simp [sC]; omega), List.set_append_right _ _ (by simp [sC]; omega)]
      simp [sC, show (k + 1) * 2 - 2 = k * 2 by omega, show (k + 1) * 2 + 1 - 2 = k * 2 + 1 by omega]
theorem made_spans (n : Nat) : madeCells #[.int .i64 0, .int .i64 0] (n * 2) = (sF (List.replicate n z23)).toArray := by
  apply Array.ext'
  rw [List.toList_toArray]
  apply List.ext_getElem?
  intro i
  by_cases h : i < n * 2
  · obtain ⟨k, j, hj, hk⟩ : ∃ k j, j < 2 ∧ i = k * 2 + j := ⟨i / 2, i % 2, by omega, by omega⟩
    subst hk
    rw [sF_at (by simp; omega) hj]
    have : (List.replicate n z23).getD k z23 = z23 := by simp [List.getD, List.getElem?_replicate]; split <;> rfl
    rw [this]
    simp [madeCells, List.getElem?_range, h]
    rcases (show j = 0 ∨ j = 1 by omega) with rfl | rfl
    · simp [sC, Nat.mul_mod_left]; rfl
    · simp [sC, Nat.add_mod]; rfl
  · rw [List.getElem?_eq_none (by simp [madeCells]; omega), List.getElem?_eq_none (by rw [sF_len]; simp; omega)]
structure AI (W : World) (base Bm n : Nat) (K : List (Int × Int)) (g : Int × Int → Nat) (L : Int × Int → List S23) : Prop where
  mp : MapA W Bm n (K.map fun a => (a, g a))
  bl : ∀ a ∈ K, W.heap[g a]? = some (.cells (sF (L a)).toArray 23 (0, 0))
  le : ∀ a ∈ K, base ≤ g a
  ln : ∀ a ∈ K, (L a).length = n
  inj : ∀ a ∈ K, ∀ b ∈ K, g a = g b → a = b
theorem AI.find {W : World} {base Bm n : Nat} {K : List (Int × Int)} {g : Int × Int → Nat} {L : Int × Int → List S23} (h : AI W base Bm n K g L) {a : Int × Int} (ha : a ∈ K) : ((K.map fun a => (a, g a)).find? fun p => p.1 == a) = some (a, g a) := by
  clear h
  induction K with
  | nil => cases ha
  | cons x r ih =>
    rw [List.map_cons]
    by_cases e : x = a
    · rw [List.find?_cons_of_pos (by simpa using e), e]
    · rw [List.find?_cons_of_neg (by simpa using e)]
      exact ih (by rcases List.mem_cons.1 ha with h | h; exact absurd h.symm e; exact h)
theorem find_notin {K : List (Int × Int)} {g : Int × Int → Nat} {a : Int × Int} (ha : a ∉ K) : ((K.map fun a => (a, g a)).find? fun p => p.1 == a) = none := by
  rw [List.find?_eq_none]
  intro p hp hq
  obtain ⟨x, hx, rfl⟩ := List.mem_map.1 hp
  simp at hq
  exact ha (hq ▸ hx)
theorem AI.keep {W W' : World} {base Bm n : Nat} {K : List (Int × Int)} {g : Int × Int → Nat} {L : Int × Int → List S23} (h : AI W base Bm n K g L) (hk : ∀ (k : Nat) (o : Obj), W.heap[k]? = some o → W'.heap[k]? = some o) : AI W' base Bm n K g L :=
  ⟨h.mp.keep (hk _), fun a ha => hk _ _ (h.bl a ha), h.le, h.ln, h.inj⟩
theorem AI.grow {W W' : World} {base Bm n : Nat} {K : List (Int × Int)} {g : Int × Int → Nat} {L : Int × Int → List S23} (h : AI W base Bm n K g L) (hb : Below W.heap.size W W') : AI W' base Bm n K g L := h.keep fun _ _ ho => heap_grow ho hb
def updL (L : Int × Int → List S23) (a : Int × Int) (i : Nat) (s : S23) : Int × Int → List S23 := fun x => if x = a then (L x).set i s else L x
theorem AI.neM {W : World} {base Bm n : Nat} {K : List (Int × Int)} {g : Int × Int → Nat} {L : Int × Int → List S23} (h : AI W base Bm n K g L) {a : Int × Int} (ha : a ∈ K) : Bm ≠ g a := by
  obtain ⟨es, cl, h1, _⟩ := h.mp
  intro e
  rw [e, h.bl a ha] at h1
  cases h1
theorem AI.put {W : World} {base Bm n : Nat} {K : List (Int × Int)} {g : Int × Int → Nat} {L : Int × Int → List S23} (h : AI W base Bm n K g L) {a : Int × Int} (ha : a ∈ K) {i : Nat} (hi : i < n) (s : S23) :
    AI ((W.setCell ⟨g a, i * 2, none⟩ (.int .i64 s.f0)).setCell ⟨g a, i * 2 + 1, none⟩ (.int .i64 s.f1)) base Bm n K g (updL L a i s) := by
  have o : ∀ {k : Nat} {ob : Obj}, k ≠ g a → W.heap[k]? = some ob → ((W.setCell ⟨g a, i * 2, none⟩ (.int .i64 s.f0)).setCell ⟨g a, i * 2 + 1, none⟩ (.int .i64 s.f1)).heap[k]? = some ob :=
    fun h1 hk => set_other (p := ⟨g a, i * 2 + 1, none⟩) h1 (set_other (p := ⟨g a, i * 2, none⟩) h1 hk)
  refine ⟨h.mp.keep fun ob => o (h.neM ha), fun x hx => ?_, h.le, fun x hx => ?_, h.inj⟩
  · by_cases e : x = a
    · subst e
      have h1 := set_at (h.bl x hx) (i * 2) (.int .i64 s.f0)
      have h2 := set_at h1 (i * 2 + 1) (.int .i64 s.f1)
      rw [h2]
      unfold updL
      rw [if_pos rfl, sF_set (by rw [h.ln x hx]; exact hi)]
      simp
    · unfold updL
      rw [if_neg e]
      exact o (fun e' => e (h.inj x hx a ha e')) (h.bl x hx)
  · unfold updL
    split
    · rw [List.length_set]; exact h.ln x hx
    · exact h.ln x hx
end Go.Proofs.Ytbmkbokkmmdjdaa
end
section
namespace Go.Proofs.Ytbmkbokkmmdjdaa
open Go.RowKit Go.Proofs.YtbmkbokkmmdjdaaW.PrintWords Go.Proofs.YtbmkbokkmmdjdaaW.PrintLast Go.Proofs.YtbmkbokkmmdjdaaW.PrintMore
open Q Go.Shelf
attribute [local go_sem] Oper.semAt_some wide_depth wide_fn
set_option linter.unusedVariables false
set_option linter.unusedSimpArgs false

theorem AI.cells {W : World} {base Bm n : Nat} {K : List (Int × Int)} {g : Int × Int → Nat} {L : Int × Int → List S23} (h : AI W base Bm n K g L) {a : Int × Int} (ha : a ∈ K) {i j : Nat} (hi : i < n) (hj : j < 2) : W.cell? ⟨g a, i * 2 + j, none⟩ = (sC ((L a).getD i z23))[j]? := by
  rw [blkCell (h.bl a ha)]
  rw [← sF_at (by rw [h.ln a ha]; exact hi) hj]
  simp
set_option maxRecDepth 100000 in
set_option maxHeartbeats 2000000 in
theorem put_any (w : World) (base Bm n : Nat) (K : List (Int × Int)) (g : Int × Int → Nat) (L : Int × Int → List S23) (h : AI w base Bm n K g L) (a : Int × Int) (ha : a ∈ K) (i : Nat) (hi : i < n) (hn : n ≤ 1000000) (s : S23) (Bo : Nat) (hb : w.cell? ⟨Bo, 0, none⟩ = some (.map (some Bm))) :
    Calls Try.prog 70 #[.int .u8 a.1, .int .i64 a.2, .int .i64 i, .agg #[.int .i64 s.f0, .int .i64 s.f1], .pointer (some ⟨Bo, 0, none⟩)] w fun e w' => e = .returned (.tuple #[]) ∧ ∃ V, Below w.heap.size w V ∧ w' = (V.setCell ⟨g a, i * 2, none⟩ (.int .i64 s.f0)).setCell ⟨g a, i * 2 + 1, none⟩ (.int .i64 s.f1) := by
  have hu := Try.underlying23
  have hu1 := Try.underlying92
  have hu2 := Try.underlying96
  have hgr := (Below.refl w.heap.size w).alloc (Nat.le_refl _) (.cells #[.int .i64 s.f0, .int .i64 s.f1] 23)
  have e0 := World.alloc_heap_new w (.cells #[.int .i64 s.f0, .int .i64 s.f1] 23)
  have hA := h.grow hgr
  have hb1 := cell_grow hb hgr
  go_enter Try.func70, Try.ntmps70
  go_upto_region 1 with fail
  generalize w.alloc (.cells #[.int .i64 s.f0, .int .i64 s.f1] 23) = W1 at *
  have y0 := blkCell e0 0
  have y1 := blkCell e0 1
  have y2 := hb1
  simp at y0 y1
  have HX := hid (And.intro hA (hA.find ha))
  have HG := hid hgr
  clear e0 hA hgr hb1
  refine wp_flow [[], [], [], [1, 2], [0, 3, 1, 2], [], [], [4, 0, 3, 1, 2, 5, 6], [7, 4, 0, 3, 1, 2, 5, 6]] 7
    (fun V => V.cell? ⟨w.heap.size, 0, none⟩ = some (.int .i64 s.f0) ∧ V.cell? ⟨w.heap.size, 1, none⟩ = some (.int .i64 s.f1) ∧ V.cell? ⟨Bo, 0, none⟩ = some (.map (some Bm)) ∧ Below W1.heap.size W1 V)
    { tmps := #[.int .u8 a.1, .int .i64 a.2, .int .i64 i, .agg #[.int .i64 s.f0, .int .i64 s.f1], .pointer (some ⟨Bo, 0, none⟩), undef, undef, undef, .pointer (some ⟨w.heap.size, 0, none⟩), .map (some Bm), .int .u8 a.1, .int .i64 a.2, .agg #[.int .u8 a.1, .int .i64 a.2], .slice (some ⟨g a, 0, none⟩) n n, .int .i64 i, .agg #[.int .i64 s.f0, .int .i64 s.f1], undef], defers := [] }
    mixed (by kernel_rfl) rfl (Ahead.of3 9 16 rfl rfl (by kernel_rfl) rfl rfl) ?_ (AllFlow.ops rfl ?_) rfl ?_
  · exact ⟨y0, y1, y2, (Below.refl _ _).drew⟩
  · refine ⟨?_, ?_, ?_, ?_, ?_, ?_, ?_, trivial⟩
    · exact .val 9 _ rfl rfl fun V ⟨y0, y1, y2, hB_⟩ => by go_simp
    · exact .val 10 _ rfl rfl fun V ⟨y0, y1, y2, hB_⟩ => by go_simp
    · exact .val 11 _ rfl rfl fun V ⟨y0, y1, y2, hB_⟩ => by go_simp
    · exact .val 12 _ rfl rfl fun V ⟨y0, y1, y2, hB_⟩ => by go_simp
    · exact .val 13 _ rfl rfl fun V ⟨y0, y1, y2, hB_⟩ => by have hlk := run_lookA (HX.out.1.grow hB_).mp HX.out.2; go_simp
    · exact .val 14 _ rfl rfl fun V ⟨y0, y1, y2, hB_⟩ => by go_simp
    · exact .val 15 _ rfl rfl fun V ⟨y0, y1, y2, hB_⟩ => by go_simp
  rintro V ⟨y0, y1, y2, hB_⟩
  have hA := HX.out.1.grow hB_
  have q0 := hA.cells ha hi (j := 0) (by omega)
  have q1 := hA.cells ha hi (j := 1) (by omega)
  have f0 := blkFrozen (hA.bl a ha) (i * 2)
  have f1 := blkFrozen (hA.bl a ha) (i * 2 + 1)
  simp [sC] at q0 q1
  have HV := hid (HG.out.trans (hB_.mono HG.out.size))
  clear hA hB_ HX HG
  go_wp2
  go_end0
  exact ⟨rfl, V, HV.out, rfl⟩
end Go.Proofs.Ytbmkbokkmmdjdaa
end
