import Derived.Test.YthoofldinnfpiaaHL
namespace Go.Proofs.Ythoofldinnfpiaa
open Go.RowKit Go.Proofs.YthoofldinnfpiaaW.PrintWords Go.Proofs.YthoofldinnfpiaaW.PrintLast Go.Proofs.YthoofldinnfpiaaW.PrintMore
open Q Go.Shelf
attribute [local go_sem] Oper.semAt_some wide_depth wide_fn
set_option linter.unusedVariables false
theorem wp_flow3 {P : Program} {id : Nat} {ops : Array Oper} {Q : Exit → Act → World → Prop} {a : Act} {w : World} (anc : List (List Nat)) (e : Nat) (S : World → Prop) (S1 : Value → World → Prop) (T : Act) {oe : Oper}
    (hm : P.follows .mixedOrders = true) (hb : flowB ops anc (e + 1) = true) (hoe : ops[e]? = some oe) (hA : Ahead ops e T a) (hS : S w.drew)
    (hop : ∀ i o, i < e → ops[i]? = some o → (i ∈ anc.getD e [] ∧ FlowOp P ops S T o) ∨ EitherOp P ops S S1 T o) (hev : EventOp P ops S S1 T oe)
    {tl : List Oper} (htl : ops.toList.drop (e + 1) = tl) (hT : ∀ u w, S1 u w → wpList P ops Q tl (T.put oe.dst u) w) :
    (Code.region id ops true).wp P Q a w := by
  have hok := FlowOk.of hb
  have helt := (Array.getElem?_eq_some_iff.1 hoe).1
  have hf : ∀ j, (Array.replicate ops.size false).getD j false = false := fun j => by
    simp [Array.getD_eq_getD_getElem?, Array.getElem?_replicate]
    split <;> rfl
  refine wp_region_any hm (anyG_wp _ _ _ _ (any_flow2 (T := T) (S := S) (S1 := S1) hoe hok (fun i o hi ho K a w hl hs hd hS hK => flow_op ho (hok.plain i o ho) ?_ hl hs hd hS hK) (fun K a w hl hs hd hS hK => ?_) (fun u i o hi hna ho K a w hl hs hd hS hK => flow_op ho (hok.plain i o ho) ?_ hl hs hd hS hK)
    (fun u w hS => seqG_wp _ _ _ (by rw [range_drop, wpOps_eq_wpList _ _ (drop_get (e + 1)), htl]; exact hT u w hS)) (fun i K K' a w h => wpOp_mono h) _ _ _ _ (by simp) (by simp [List.countP_replicate]) (fun i hi => by rw [hf i] at hi; cases hi) (fun j _ => hf j) ⟨hA.1, hA.2.1, fun t ht => hA.2.2 t fun j o hj ho hd => by have := ht j o hj ho hd; rw [hf j] at this; cases this⟩ hS))
  · rcases hop i o hi ho with h | h
    · exact h.2
    · exact h.1
  · unfold wpOp
    simp only [hoe]
    rw [wanted_of_looks hl, if_pos hev.1]
    refine .inl ?_
    unfold Oper.wp
    rw [execOp_congr oe (plain_select (hok.plain e oe hoe)) (eval_of_looks hl)]
    obtain ⟨u, W', hr, hS'⟩ := hev.2 w hS
    rw [hr]
    exact hK u W' hS'
  · rcases hop i o hi ho with h | h
    · exact absurd h.1 hna
    · refine (h.2 u).behind (fun t ht hd => ?_) (fun d hd hd' => ?_) (hok.plain i o ho)
      · have h1 := hok.looks i o ho t ht e oe (by omega) hoe hd
        exact absurd (back_anc hok i o ho e h1) (by omega)
      · exact hok.dst i o ho e oe hoe (by omega) d hd hd'
theorem Ahead.of2 {ops : Array Oper} {q : Nat} {T a : Act} (l : List Tmp) (hs : a.tmps.size = T.tmps.size) (hd : a.defers = T.defers) (hl : aheadB ops q T.tmps.size = l) (h : l.map (fun t => a.tmps[t]?) = l.map (fun t => T.tmps[t]?)) : Ahead ops q T a :=
  Ahead.of l hs hd hl fun t ht => List.map_inj_left.1 h t ht
theorem Ahead.of3 {ops : Array Oper} {q : Nat} {T a : Act} (lo hi : Nat) (hs : a.tmps.size = T.tmps.size) (hd : a.defers = T.defers) (hl : (aheadB ops q T.tmps.size).all (fun t => decide (t < lo) || decide (hi ≤ t)) = true)
    (h1 : a.tmps.toList.take lo = T.tmps.toList.take lo) (h2 : a.tmps.toList.drop hi = T.tmps.toList.drop hi) : Ahead ops q T a :=
  Ahead.of _ hs hd rfl fun t ht => by
    have h := List.all_eq_true.1 hl t ht
    simp only [Bool.or_eq_true, decide_eq_true_eq] at h
    rw [← Array.getElem?_toList, ← Array.getElem?_toList]
    rcases h with h | h
    · rw [← List.getElem?_take_of_lt h, h1, List.getElem?_take_of_lt h]
    · obtain ⟨d, rfl⟩ := Nat.le.dest h
      rw [← List.getElem?_drop, h2, List.getElem?_drop]
end Go.Proofs.Ythoofldinnfpiaa
