import Derived.Test.YthoofldinnfpiaaFL
namespace Go.Proofs.Ythoofldinnfpiaa
open Go.RowKit Go.Proofs.YthoofldinnfpiaaW.PrintWords Go.Proofs.YthoofldinnfpiaaW.PrintLast Go.Proofs.YthoofldinnfpiaaW.PrintMore
open Q Go.Shelf
set_option linter.unusedVariables false
section
variable {op : Nat → (Act → World → Prop) → Act → World → Prop} {ops : Array Oper} {anc : List (List Nat)} {q : Nat} {Qn : Act → World → Prop} {S : World → Prop} {T : Act}
/-- a flow whose operation number e yields a value that is not told ahead: what stands ahead of it comes up ahead of it, what stands behind it waits for it -/
theorem any_flow7 {e : Nat} {oe : Oper} {S1 : Value → World → Prop} {Tu : Value → Act} (hoe : ops[e]? = some oe) (hok : FlowOk ops anc q) (heq : e + 1 < q) (hq : q ≤ ops.size)
    (hbe : ∀ j, j < e → j ∈ anc.getD e []) (haf : ∀ i, e < i → i < ops.size → e ∈ anc.getD i [])
    (hop0 : ∀ i o, i < e → ops[i]? = some o → ∀ (K : Act → World → Prop) (a : Act) (w : World), (∀ t ∈ o.looksAt ops, a.tmps[t]? = T.tmps[t]?) → a.tmps.size = T.tmps.size → a.defers = T.defers → S w →
      (∀ a' w', S w' → a'.tmps.size = T.tmps.size → a'.defers = T.defers → (∀ t, o.dst ≠ some t → a'.tmps[t]? = a.tmps[t]?) → (∀ t, o.dst = some t → a'.tmps[t]? = T.tmps[t]?) → K a' w') → op i K a w)
    (hev : ∀ (K : Act → World → Prop) (a : Act) (w : World), (∀ t ∈ oe.looksAt ops, a.tmps[t]? = T.tmps[t]?) → a.tmps.size = T.tmps.size → a.defers = T.defers → S w → (∀ u w', S1 u w' → K (a.put oe.dst u) w') → op e K a w)
    (hTu : ∀ u t, (∀ (j : Nat) (o : Oper), e < j → j < q → ops[j]? = some o → o.dst ≠ some t) → (T.put oe.dst u).tmps[t]? = (Tu u).tmps[t]?) (hTs : ∀ u, (Tu u).tmps.size = T.tmps.size) (hTd : ∀ u, (Tu u).defers = T.defers)
    (hop1 : ∀ u i o, e < i → i < q → ops[i]? = some o → ∀ (K : Act → World → Prop) (a : Act) (w : World), (∀ t ∈ o.looksAt ops, a.tmps[t]? = (Tu u).tmps[t]?) → a.tmps.size = (Tu u).tmps.size → a.defers = (Tu u).defers → S1 u w →
      (∀ a' w', S1 u w' → a'.tmps.size = (Tu u).tmps.size → a'.defers = (Tu u).defers → (∀ t, o.dst ≠ some t → a'.tmps[t]? = a.tmps[t]?) → (∀ t, o.dst = some t → a'.tmps[t]? = (Tu u).tmps[t]?) → K a' w') → op i K a w)
    (hT : ∀ u w, S1 u w → seqG op Qn (List.range' q (ops.size - q)) (Tu u) w)
    (hmono : ∀ i K K' a w, (∀ a w, K a w → K' a w) → op i K a w → op i K' a w) :
    ∀ (fuel : Nat) (listed : Array Bool) (a : Act) (w : World), listed.size = ops.size → listed.toList.countP (! ·) ≤ fuel →
      (∀ i, listed.getD i false = true → ∀ j ∈ anc.getD i [], listed.getD j false = true) →
      (∀ j, e ≤ j → listed.getD j false = false) → Partly ops e listed T a → S w →
      anyG op ops Qn fuel listed a w := by
  have helt := (Array.getElem?_eq_some_iff.1 hoe).1
  intro fuel
  induction fuel with
  | zero =>
    intro listed a w hsz hc hI htl hP hS
    exfalso
    have h0 : listed.toList.countP (! ·) = 0 := by omega
    rw [List.countP_eq_zero] at h0
    have h1 := h0 listed[e] (by simp)
    have h2 := htl e (Nat.le_refl _)
    simp [Array.getD_eq_getD_getElem?, hsz ▸ helt] at h1 h2
    rw [h1] at h2; cases h2
  | succ fuel ih =>
    intro listed a w hsz hc hI htl hP hS
    have hDi : ∀ (i : Nat) (o : Oper), ops[i]? = some o → (∀ e ∈ o.after.toList, Region.binds .any e = true → listed.getD e.on false = true) → ∀ j ∈ anc.getD i [], listed.getD j false = true := fun i o ho h2 j hj => by
      obtain ⟨e, he, hb, h⟩ := hok.anc i o ho j hj
      rcases h with rfl | h
      · exact h2 e he hb
      · exact hI e.on (h2 e he hb) j h
    have hft : ∀ i, i < ops.size → listed.getD i false = false → listed.getD i true = false := fun i hi h => by
      simp [Array.getD_eq_getD_getElem?, hsz ▸ hi] at h ⊢; exact h
    -- something is ready while something is not listed
    have hsome : ∀ m, m < ops.size → listed.getD m false = false → (∀ j, j < m → listed.getD j false = true) → m ∈ Region.ready .any ops listed := fun m hm h1 h2 =>
      ready_mem (o := ops[m]) (by simp [hm]) (hft m hm h1) fun e he hb => h2 _ (hok.back m ops[m] (by simp [hm]) e he hb)
    -- behind one more
    have hnext : ∀ (i : Nat) (o : Oper), ops[i]? = some o → listed.getD i true = false → (∀ e ∈ o.after.toList, Region.binds .any e = true → listed.getD e.on false = true) →
        (listed.setIfInBounds i true).size = ops.size ∧ (listed.setIfInBounds i true).toList.countP (! ·) ≤ fuel ∧ (∀ k, (listed.setIfInBounds i true).getD k false = true → ∀ j ∈ anc.getD k [], (listed.setIfInBounds i true).getD j false = true) := fun i o ho h1 h2 => by
      have hlt := (Array.getElem?_eq_some_iff.1 ho).1
      have hlt' : i < listed.size := by omega
      refine ⟨by simpa using hsz, ?_, fun k hk j hj => ?_⟩
      · have hfi : listed.toList[i]'(by simpa using hlt') = false := by
          simp [Array.getD_eq_getD_getElem?, hlt'] at h1; simpa using h1
        have hset : (listed.setIfInBounds i true).toList = listed.toList.set i true := by simp
        rw [hset, List.countP_set (by simpa using hlt')]
        simp only [hfi, Bool.not_false, Bool.not_true, if_true, Bool.false_eq_true, if_false, Nat.add_zero]
        have : 0 < listed.toList.countP (! ·) := List.countP_pos_iff.2 ⟨listed.toList[i]'(by simpa using hlt'), List.getElem_mem _, by rw [hfi]; rfl⟩
        omega
      · rw [getD_set]
        rw [getD_set] at hk
        by_cases hji : i = j ∧ i < listed.size
        · rw [if_pos hji]
        · rw [if_neg hji]
          by_cases hki : i = k ∧ i < listed.size
          · obtain ⟨rfl, _⟩ := hki
            exact hDi i o ho h2 j hj
          · rw [if_neg hki] at hk
            exact hI k hk j hj
    refine ⟨fun hr => ?_, fun i hi => ?_⟩
    · exfalso
      have hex : ∀ n, (∃ j, j ≤ n ∧ listed.getD j false = false) → ∃ m, m ≤ n ∧ listed.getD m false = false ∧ ∀ j, j < m → listed.getD j false = true := by
        intro n
        induction n with
        | zero => rintro ⟨j, hj, h⟩; exact ⟨0, Nat.le_refl _, by obtain rfl : j = 0 := (by omega); exact h, fun _ h => absurd h (by omega)⟩
        | succ n ihn =>
          rintro ⟨j, hj, h⟩
          by_cases hx : ∃ j, j ≤ n ∧ listed.getD j false = false
          · obtain ⟨m, a, b⟩ := ihn hx; exact ⟨m, by omega, b⟩
          · refine ⟨n + 1, Nat.le_refl _, ?_, fun k hk => ?_⟩
            · rcases Nat.lt_or_ge n j with hl | hl
              · obtain rfl : j = n + 1 := (by omega); exact h
              · exact absurd ⟨j, hl, h⟩ hx
            · cases hv : listed.getD k false with
              | true => rfl
              | false => exact absurd ⟨k, by omega, hv⟩ hx
      obtain ⟨m, hm, hmf, hml⟩ := hex e ⟨e, Nat.le_refl _, htl e (Nat.le_refl _)⟩
      have := hsome m (by omega) hmf hml
      rw [hr] at this
      cases this
    · obtain ⟨o, ho, hu, ha⟩ := ready_spec hi
      have hlt := (Array.getElem?_eq_some_iff.1 ho).1
      obtain ⟨n1, n2, n3⟩ := hnext i o ho hu ha
      rcases Nat.lt_trichotomy i e with h | h | h
      · refine hop0 i o h ho _ a w (fun t ht => hP.same t fun j oj hjq hoj hd => hDi i o ho ha j (hok.looks i o ho t ht j oj (by omega) hoj hd)) hP.size hP.defers hS ?_
        intro a' w' hS' hsz' hdf' hoth hown
        refine ih _ a' w' n1 n2 n3 (fun j hj => ?_) ⟨hsz', hdf', fun t ht => ?_⟩ hS'
        · rw [getD_set, if_neg (by omega)]; exact htl j hj
        · by_cases hd : o.dst = some t
          · exact hown t hd
          · rw [hoth t hd]
            refine hP.same t fun j oj hj hoj hdj => ?_
            have := ht j oj hj hoj hdj
            rw [getD_set] at this
            by_cases hij : i = j ∧ i < listed.size
            · obtain ⟨rfl, _⟩ := hij
              rw [ho] at hoj; cases hoj; exact absurd hdj hd
            · rwa [if_neg hij] at this
      · subst h
        obtain rfl : oe = o := by rw [ho] at hoe; cases hoe; rfl
        refine hev _ a w (fun t ht => hP.same t fun j oj hjq hoj hd => hDi i _ ho ha j (hok.looks i _ ho t ht j oj (by omega) hoj hd)) hP.size hP.defers hS fun u w' hS' => ?_
        have hP' : Partly ops q (listed.setIfInBounds i true) (Tu u) (a.put oe.dst u) := by
          refine ⟨by rw [put_size, hTs]; exact hP.size, by rw [put_defers, hTd]; exact hP.defers, fun t ht => ?_⟩
          rw [← hTu u t (fun j o hj hjq hoj hd => by
            have := ht j o hjq hoj hd
            rw [getD_set, if_neg (by omega), htl j (by omega)] at this
            cases this)]
          by_cases hd : oe.dst = some t
          · rw [hd]
            by_cases hb : t < T.tmps.size
            · rw [put_get_same hb, put_get_same (by rw [hP.size]; exact hb)]
            · rw [Array.getElem?_eq_none (by rw [put_size, hP.size]; exact Nat.le_of_not_lt hb), Array.getElem?_eq_none (by rw [put_size]; exact Nat.le_of_not_lt hb)]
          · rw [put_get hd, put_get hd]
            refine hP.same t fun j oj hj hoj hdj => ?_
            have := ht j oj (by omega) hoj hdj
            rw [getD_set, if_neg (by omega)] at this
            exact this
        refine any_flow (T := Tu u) (S := S1 u) (fun j => i < j) hok hq (fun j oj hj hUj hoj => hop1 u j oj hUj hj hoj) (fun w hS => hT u w hS) hmono fuel _ _ _ n1 n2 n3 (.inl ⟨⟨i + 1, heq, ?_⟩, fun j hj => ?_, hP', hS', fun j hj hf => ?_⟩)
        · rw [getD_set, if_neg (by omega)]; exact htl (i + 1) (by omega)
        · rw [getD_set, if_neg (by omega)]; exact htl j (by omega)
        · rw [getD_set] at hf
          by_cases hij : i = j ∧ i < listed.size
          · rw [if_pos hij] at hf; cases hf
          · rw [if_neg hij] at hf
            have : j ≠ i := fun e => hij ⟨e.symm, by omega⟩
            rcases Nat.lt_trichotomy j i with h1 | h1 | h1
            · rw [hDi i _ ho ha j (hbe j h1)] at hf; cases hf
            · exact absurd h1 this
            · exact h1
      · have := hDi i o ho ha e (haf i h hlt)
        rw [htl e (Nat.le_refl _)] at this; cases this
end
/-- an operation that calls, with a result that is not told ahead -/
def CallOp (P : Program) (ops : Array Oper) (S : World → Prop) (S1 : Value → World → Prop) (T : Act) (o : Oper) : Prop :=
  Region.wanted o (yielded ops T.tmps) = true ∧ ∀ W, S W → ∃ f args W', (execOp T.eval o).run P W = .ok (.enter f args) W' ∧ Calls P f args W' fun e W'' => ∃ u, e = .returned u ∧ S1 u W''
theorem puts_get {t : Tmp} : ∀ (ps : List (Tmp × Value)) (a : Act), (∀ p ∈ ps, p.1 ≠ t) → (ps.foldl (fun a p => a.put (some p.1) p.2) a).tmps[t]? = a.tmps[t]?
  | [], a, h => rfl
  | p :: ps, a, h => by
    rw [List.foldl_cons, puts_get ps _ (fun x hx => h x (List.mem_cons_of_mem _ hx)), put_get (fun e => h p List.mem_cons_self (Option.some.inj e))]
theorem wp_flow7 {P : Program} {id : Nat} {ops : Array Oper} {Q : Exit → Act → World → Prop} {a : Act} {w : World} (anc : List (List Nat)) (e q : Nat) (S : World → Prop) (S1 : Value → World → Prop) (T : Act) (Tu : Value → Act) (ps : Value → List (Tmp × Value)) {oe : Oper}
    (hm : P.follows .mixedOrders = true) (hb : flowB ops anc q = true) (hoe : ops[e]? = some oe) (hc : (decide (e + 1 < q) && (decide (q ≤ ops.size) && ((List.range e).all (fun j => (anc.getD e []).contains j) && (List.range ops.size).all fun i => decide (i ≤ e) || (anc.getD i []).contains e))) = true) (hA : Ahead ops e T a) (hS : S w.drew)
    (hop : ∀ i o, i < e → ops[i]? = some o → FlowOp P ops S T o) (hev : CallOp P ops S S1 T oe)
    (hps : ∀ u, Tu u = (ps u).foldl (fun a p => a.put (some p.1) p.2) (T.put oe.dst u)) (hds : ∀ u, ((ps u).all fun p => ((List.range q).any fun j => decide (e < j) && match ops[j]? with | some o => o.dst == some p.1 | none => false)) = true) (hTs : ∀ u, (Tu u).tmps.size = T.tmps.size) (hTd : ∀ u, (Tu u).defers = T.defers)
    (hop1 : ∀ u i o, e < i → i < q → ops[i]? = some o → FlowOp P ops (S1 u) (Tu u) o)
    {tl : List Oper} (htl : ops.toList.drop q = tl) (hT : ∀ u w, S1 u w → wpList P ops Q tl (Tu u) w) :
    (Code.region id ops true).wp P Q a w := by
  have hok := FlowOk.of hb
  simp only [Bool.and_eq_true, decide_eq_true_eq] at hc
  obtain ⟨hc1, hc2, hc3, hc4⟩ := hc
  have hf : ∀ j, (Array.replicate ops.size false).getD j false = false := fun j => by
    simp [Array.getD_eq_getD_getElem?, Array.getElem?_replicate]
    split <;> rfl
  refine wp_region_any hm (anyG_wp _ _ _ _ (any_flow7 (T := T) (S := S) (S1 := S1) (Tu := Tu) hoe hok hc1 hc2 (fun j hj => by simpa using List.all_eq_true.1 hc3 j (List.mem_range.2 hj)) (fun i hi hs => by have := List.all_eq_true.1 hc4 i (List.mem_range.2 hs); simp only [Bool.or_eq_true, decide_eq_true_eq] at this; exact this.elim (fun h => absurd h (by omega)) (fun h => by simpa using h))
    (fun i o hi ho K a w hl hs hd hS hK => flow_op ho (hok.plain i o ho) (hop i o hi ho) hl hs hd hS hK) (fun K a w hl hs hd hS hK => ?_) (fun u t ht => ?_) hTs hTd
    (fun u i o hi hiq ho K a w hl hs hd hS hK => flow_op ho (hok.plain i o ho) (hop1 u i o hi hiq ho) hl hs hd hS hK)
    (fun u w hS => seqG_wp _ _ _ (by rw [range_drop, wpOps_eq_wpList _ _ (drop_get q), htl]; exact hT u w hS)) (fun i K K' a w h => wpOp_mono h) _ _ _ _ (by simp) (by simp [List.countP_replicate]) (fun i hi => by rw [hf i] at hi; cases hi) (fun j _ => hf j) ⟨hA.1, hA.2.1, fun t ht => hA.2.2 t fun j o hj ho hd => by have := ht j o hj ho hd; rw [hf j] at this; cases this⟩ hS))
  · unfold wpOp
    simp only [hoe]
    rw [wanted_of_looks hl, if_pos hev.1]
    refine .inl ?_
    unfold Oper.wp
    rw [execOp_congr oe (plain_select (hok.plain e oe hoe)) (eval_of_looks hl)]
    obtain ⟨f, args, W', hr, hcl⟩ := hev.2 w hS
    rw [hr]
    refine hcl.mono fun e W'' he => ?_
    obtain ⟨u, rfl, hS'⟩ := he
    exact hK u W'' hS'
  · rw [hps u, puts_get]
    intro p hp he
    have := List.all_eq_true.1 (hds u) p hp
    obtain ⟨j, hj, hj2⟩ := List.any_eq_true.1 this
    simp only [Bool.and_eq_true, decide_eq_true_eq] at hj2
    cases ho : ops[j]? with
    | none => rw [ho] at hj2; simp at hj2
    | some o =>
      rw [ho] at hj2
      simp only [beq_iff_eq] at hj2
      exact ht j o hj2.1 (List.mem_range.1 hj) ho (by rw [hj2.2, he])
end Go.Proofs.Ythoofldinnfpiaa
