-- FY (wip/pack9.py)
import Derived.Test.YtbmkbokkmmdjdaaV18
import Derived.Test.YtbmkbokkmmdjdaaV8
section
namespace Go.Proofs.Ytbmkbokkmmdjdaa
open Go.RowKit Go.Proofs.YtbmkbokkmmdjdaaW.PrintWords Go.Proofs.YtbmkbokkmmdjdaaW.PrintLast Go.Proofs.YtbmkbokkmmdjdaaW.PrintMore
open Q Go.Shelf
attribute [local go_sem] Oper.semAt_some wide_depth wide_fn
set_option linter.unusedVariables false
set_option linter.unusedSimpArgs false
abbrev Got := Nat → Option Value
def Got.upd (r : Got) (e : Nat) (u : Value) : Got := fun i => if i = e then some u else r i
structure PartlyE (ops : Array Oper) (q : Nat) (E : Nat → Bool) (listed : Array Bool) (r : Got) (T a : Act) : Prop where
  size : a.tmps.size = T.tmps.size
  defers : a.defers = T.defers
  same : ∀ t : Tmp, (∀ (j : Nat) (o : Oper), j < q → ops[j]? = some o → o.dst = some t → listed.getD j false = true ∧ E j = false) → a.tmps[t]? = T.tmps[t]?
  own : ∀ (j : Nat) (o : Oper), j < q → ops[j]? = some o → E j = true → listed.getD j false = true → ∃ u, r j = some u ∧ ∀ t, o.dst = some t → t < T.tmps.size → a.tmps[t]? = some u
  none : ∀ j, j < q → E j = true → listed.getD j false = false → r j = none
section
variable {op : Nat → (Act → World → Prop) → Act → World → Prop} {ops : Array Oper} {anc : List (List Nat)} {q : Nat} {Qn : Act → World → Prop} {T : Act}
theorem any_flow5 (E : Nat → Bool) (SE : Got → World → Prop) (Tr : Got → Act) (hok : FlowOk ops anc q) (hq : q ≤ ops.size)
    (hEl : ∀ (e : Nat) (oe : Oper), e < q → E e = true → ops[e]? = some oe → ∀ (i : Nat) (o : Oper), i < q → E i = false → ops[i]? = some o → ∀ t ∈ o.looksAt ops, oe.dst ≠ some t)
    (hTr1 : ∀ (r : Got) (t : Tmp), (∀ (e : Nat) (oe : Oper), e < q → E e = true → ops[e]? = some oe → oe.dst ≠ some t) → (Tr r).tmps[t]? = T.tmps[t]?)
    (hTr2 : ∀ (r : Got) (e : Nat) (oe : Oper) (t : Tmp) (u : Value), e < q → E e = true → ops[e]? = some oe → oe.dst = some t → t < T.tmps.size → r e = some u → (Tr r).tmps[t]? = some u) (hTr3 : ∀ r, (Tr r).tmps.size = T.tmps.size)
    (hop : ∀ r i o, i < q → E i = false → ops[i]? = some o → (∀ j, j < q → E j = true → i ∈ anc.getD j [] → r j = none) → ∀ (K : Act → World → Prop) (a : Act) (w : World), (∀ t ∈ o.looksAt ops, a.tmps[t]? = T.tmps[t]?) → a.tmps.size = T.tmps.size → a.defers = T.defers → SE r w →
      (∀ a' w', SE r w' → a'.tmps.size = T.tmps.size → a'.defers = T.defers → (∀ t, o.dst ≠ some t → a'.tmps[t]? = a.tmps[t]?) → (∀ t, o.dst = some t → a'.tmps[t]? = T.tmps[t]?) → K a' w') → op i K a w)
    (hev : ∀ r i o, i < q → E i = true → ops[i]? = some o → r i = none → (∀ j, j < q → E j = true → j ∈ anc.getD i [] → ∃ u, r j = some u) → (∀ j, j < q → E j = true → i ∈ anc.getD j [] → r j = none) → ∀ (K : Act → World → Prop) (a : Act) (w : World), (∀ t ∈ o.looksAt ops, a.tmps[t]? = (Tr r).tmps[t]?) → a.tmps.size = T.tmps.size → a.defers = T.defers → SE r w → (∀ u w', SE (r.upd i u) w' → K (a.put o.dst u) w') → op i K a w)
    (hT : ∀ r w a, SE r w → PartlyE ops q E (Array.replicate ops.size true) r T a → seqG op Qn (List.range' q (ops.size - q)) a w)
    (hmono : ∀ i K K' a w, (∀ a w, K a w → K' a w) → op i K a w → op i K' a w) :
    ∀ (fuel : Nat) (listed : Array Bool) (r : Got) (a : Act) (w : World), listed.size = ops.size → listed.toList.countP (! ·) ≤ fuel →
      (∀ i, listed.getD i false = true → ∀ j ∈ anc.getD i [], listed.getD j false = true) →
      ((∃ j, j < q ∧ listed.getD j false = false) ∧ (∀ j, q ≤ j → listed.getD j false = false) ∧ PartlyE ops q E listed r T a ∧ SE r w) ∨
      (∃ m, q ≤ m ∧ m ≤ ops.size ∧ (∀ j, j < m → listed.getD j false = true) ∧ (∀ j, m ≤ j → listed.getD j false = false) ∧ seqG op Qn (List.range' m (ops.size - m)) a w) →
      anyG op ops Qn fuel listed a w := by
  intro fuel
  induction fuel with
  | zero =>
    intro listed r a w hsz hc hI hst
    have hall : ∀ j, j < ops.size → listed.getD j false = true := fun j hj => by
      have h0 : listed.toList.countP (! ·) = 0 := by omega
      rw [List.countP_eq_zero] at h0
      have := h0 listed[j] (by simp)
      simpa [Array.getD_eq_getD_getElem?, hsz ▸ hj] using this
    have hr : Region.ready .any ops listed = [] := by
      rw [List.eq_nil_iff_forall_not_mem]
      intro i hi
      obtain ⟨o, ho, h1, _⟩ := ready_spec hi
      have hlt := (Array.getElem?_eq_some_iff.1 ho).1
      have := hall i hlt
      simp [Array.getD_eq_getD_getElem?, hsz ▸ hlt] at this h1
      rw [this] at h1; cases h1
    refine ⟨hr, ?_⟩
    rcases hst with ⟨⟨j, hj, hf⟩, _⟩ | ⟨m, hm, hm2, h1, h2, h3⟩
    · rw [hall j (by omega)] at hf; cases hf
    · have : m = ops.size := by
        rcases Nat.lt_or_ge m ops.size with h | h
        · have := h2 m (Nat.le_refl _); rw [hall m h] at this; cases this
        · omega
      subst this
      simpa [seqG] using h3
  | succ fuel ih =>
    intro listed r a w hsz hc hI hst
    have hDi : ∀ (i : Nat) (o : Oper), ops[i]? = some o → (∀ e ∈ o.after.toList, Region.binds .any e = true → listed.getD e.on false = true) → ∀ j ∈ anc.getD i [], listed.getD j false = true := fun i o ho h2 j hj => by
      obtain ⟨e, he, hb, h⟩ := hok.anc i o ho j hj
      rcases h with rfl | h
      · exact h2 e he hb
      · exact hI e.on (h2 e he hb) j h
    have hft : ∀ i, i < ops.size → listed.getD i false = false → listed.getD i true = false := fun i hi h => by
      simp [Array.getD_eq_getD_getElem?, hsz ▸ hi] at h ⊢; exact h
    have hsome : ∀ m, m < ops.size → listed.getD m false = false → (∀ j, j < m → listed.getD j false = true) → m ∈ Region.ready .any ops listed := fun m hm h1 h2 =>
      ready_mem (o := ops[m]) (by simp [hm]) (hft m hm h1) fun e he hb => h2 _ (hok.back m ops[m] (by simp [hm]) e he hb)
    have hnext : ∀ (i : Nat) (o : Oper), ops[i]? = some o → listed.getD i true = false → (∀ e ∈ o.after.toList, Region.binds .any e = true → listed.getD e.on false = true) →
        (listed.setIfInBounds i true).size = ops.size ∧ (listed.setIfInBounds i true).toList.countP (! ·) ≤ fuel ∧ (∀ k, (listed.setIfInBounds i true).getD k false = true → ∀ j ∈ anc.getD k [], (listed.setIfInBounds i true).getD j false = true) := fun i o ho h1 h2 => by
      have hlt := (Array.getElem?_eq_some_iff.1 ho).1
      have hlt' : i < listed.size := by omega
      refine ⟨by simpa using hsz, ?_, fun k hk j hj => ?_⟩
      · have hfi : listed.toList[i]'(by simpa using hlt') = false := by
          simp [Array.getD_eq_getD_getElem?, hlt'] at h1; simpa using h1
        have hset : (listed.setIfInBounds i true).toList = listed.toList.set i true := by simp
        rw [hset, List.countP_set (by simpa using hlt')]
        simp only [hfi, Bool.not_false, Bool.not_true, if_true, Bool.false_eq_true, if_false, Nat.add_zero]
        have : 0 < listed.toList.countP (! ·) := List.countP_pos_iff.2 ⟨listed.toList[i]'(by simpa using hlt'), List.getElem_mem _, by rw [hfi]; rfl⟩
        omega
      · rw [getD_set]
        rw [getD_set] at hk
        by_cases hji : i = j ∧ i < listed.size
        · rw [if_pos hji]
        · rw [if_neg hji]
          by_cases hki : i = k ∧ i < listed.size
          · obtain ⟨rfl, _⟩ := hki
            exact hDi i o ho h2 j hj
          · rw [if_neg hki] at hk
            exact hI k hk j hj
    rcases hst with ⟨⟨j0, hj0, hf0⟩, htl, hP, hS⟩ | ⟨m, hm, hm2, h1, h2, h3⟩
    · refine ⟨fun hr => ?_, fun i hi => ?_⟩
      · -- the least that is not listed
        exfalso
        have hex : ∀ n, (∃ j, j ≤ n ∧ listed.getD j false = false) → ∃ m, m ≤ n ∧ listed.getD m false = false ∧ ∀ j, j < m → listed.getD j false = true := by
          intro n
          induction n with
          | zero => rintro ⟨j, hj, h⟩; exact ⟨0, Nat.le_refl _, by obtain rfl : j = 0 := (by omega); exact h, fun _ h => absurd h (by omega)⟩
          | succ n ihn =>
            rintro ⟨j, hj, h⟩
            by_cases hx : ∃ j, j ≤ n ∧ listed.getD j false = false
            · obtain ⟨m, a, b⟩ := ihn hx; exact ⟨m, by omega, b⟩
            · refine ⟨n + 1, Nat.le_refl _, ?_, fun k hk => ?_⟩
              · rcases Nat.lt_or_ge n j with hl | hl
                · obtain rfl : j = n + 1 := (by omega); exact h
                · exact absurd ⟨j, hl, h⟩ hx
              · cases hv : listed.getD k false with
                | true => rfl
                | false => exact absurd ⟨k, by omega, hv⟩ hx
        obtain ⟨m, hm, hmf, hml⟩ := hex j0 ⟨j0, Nat.le_refl _, hf0⟩
        have := hsome m (by omega) hmf hml
        rw [hr] at this
        cases this
      · obtain ⟨o, ho, hu, ha⟩ := ready_spec hi
        have hlt := (Array.getElem?_eq_some_iff.1 ho).1
        have hiq : i < q := by
          rcases Nat.lt_or_ge i q with h | h
          · exact h
          · have := hDi i o ho ha j0 (hok.tail i o ho h j0 (by omega))
            rw [this] at hf0; cases hf0
        have hui : listed.getD i false = false := by
          simp [Array.getD_eq_getD_getElem?, hsz ▸ hlt] at hu ⊢; exact hu
        obtain ⟨n1, n2, n3⟩ := hnext i o ho hu ha
        have hlk : E i = false → ∀ t ∈ o.looksAt ops, a.tmps[t]? = T.tmps[t]? := fun hEi t ht => hP.same t fun j oj hjq hoj hd => by
          refine ⟨hDi i o ho ha j (hok.looks i o ho t ht j oj (by omega) hoj hd), ?_⟩
          cases hE : E j with
          | false => rfl
          | true => exact absurd hd (hEl j oj hjq hE hoj i o hiq hEi ho t ht)
        have hlkE : ∀ t ∈ o.looksAt ops, a.tmps[t]? = (Tr r).tmps[t]? := fun t ht => by
          by_cases hx : ∃ (e : Nat) (oe : Oper), e < q ∧ E e = true ∧ ops[e]? = some oe ∧ oe.dst = some t
          · obtain ⟨e, oe, h1, h2, h3, h4⟩ := hx
            obtain ⟨u, hu1, hu2⟩ := hP.own e oe h1 h3 h2 (hDi i o ho ha e (hok.looks i o ho t ht e oe h1 h3 h4))
            rcases Nat.lt_or_ge t T.tmps.size with hlt | hge
            · rw [hu2 t h4 hlt, hTr2 r e oe t u h1 h2 h3 h4 hlt hu1]
            · rw [Array.getElem?_eq_none (by rw [hP.size]; omega), Array.getElem?_eq_none (by rw [hTr3]; omega)]
          · rw [hTr1 r t (fun e oe h1 h2 h3 h4 => hx ⟨e, oe, h1, h2, h3, h4⟩)]
            refine hP.same t fun j oj hjq hoj hd => ⟨hDi i o ho ha j (hok.looks i o ho t ht j oj (by omega) hoj hd), ?_⟩
            cases hE : E j with
            | false => rfl
            | true => exact absurd ⟨j, oj, hjq, hE, hoj, hd⟩ hx
        have hgotA : ∀ j, j < q → E j = true → j ∈ anc.getD i [] → ∃ u, r j = some u := fun j hj hEj hm => by
          have hjs : j < ops.size := by omega
          obtain ⟨u, hu1, _⟩ := hP.own j ops[j] hj (by simp [hjs]) hEj (hDi i o ho ha j hm)
          exact ⟨u, hu1⟩
        have hbeA : ∀ j, j < q → E j = true → i ∈ anc.getD j [] → r j = none := fun j hj hEj hm => by
          cases hl : listed.getD j false with
          | false => exact hP.none j hj hEj hl
          | true => rw [hI j hl i hm] at hui; cases hui
        have hls : ∀ j, (listed.setIfInBounds i true).getD j false = true → j ≠ i → listed.getD j false = true := fun j h1 h2 => by
          rw [getD_set, if_neg (fun h => h2 h.1.symm)] at h1; exact h1
        have hlf : ∀ j, (listed.setIfInBounds i true).getD j false = false → j ≠ i ∧ listed.getD j false = false := fun j h1 => by
          rw [getD_set] at h1
          by_cases hij : i = j ∧ i < listed.size
          · rw [if_pos hij] at h1; cases h1
          · rw [if_neg hij] at h1; exact ⟨fun e => hij ⟨e.symm, by omega⟩, h1⟩
        have hgo : ∀ (r' : Got) (a' : Act) (w' : World), PartlyE ops q E (listed.setIfInBounds i true) r' T a' → SE r' w' → anyG op ops Qn fuel (listed.setIfInBounds i true) a' w' := fun r' a' w' hP' hS' => by
          refine ih _ r' a' w' n1 n2 n3 ?_
          by_cases hx : ∃ j, j < q ∧ (listed.setIfInBounds i true).getD j false = false
          · refine .inl ⟨hx, fun j hj => ?_, hP', hS'⟩
            rw [getD_set, if_neg (by omega)]
            exact htl j hj
          · have hall : ∀ j, j < q → (listed.setIfInBounds i true).getD j false = true := fun j hj => by
              cases hv : (listed.setIfInBounds i true).getD j false with
              | true => rfl
              | false => exact absurd ⟨j, hj, hv⟩ hx
            refine .inr ⟨q, Nat.le_refl _, hq, hall, fun j hj => ?_, hT r' w' a' hS' ⟨hP'.size, hP'.defers, fun t ht => hP'.same t fun j oj hj hoj hd => ⟨hall j hj, (ht j oj hj hoj hd).2⟩, fun j oj hj hoj hE _ => hP'.own j oj hj hoj hE (hall j hj), fun j hj hE hf => ?_⟩⟩
            · rw [getD_set, if_neg (by omega)]
              exact htl j hj
            · exfalso
              have : j < ops.size := by omega
              simp [Array.getD_eq_getD_getElem?, Array.getElem?_replicate, this] at hf
        cases hE : E i with
        | false =>
          refine hop r i o hiq hE ho hbeA _ a w (hlk hE) hP.size hP.defers hS ?_
          intro a' w' hS' hsz' hdf' hoth hown
          refine hgo r a' w' ⟨hsz', hdf', fun t ht => ?_, fun j oj hj hoj hEj hl => ?_, fun j hj hEj hf => hP.none j hj hEj (hlf j hf).2⟩ hS'
          · by_cases hd : o.dst = some t
            · exact hown t hd
            · rw [hoth t hd]
              refine hP.same t fun j oj hj hoj hdj => ?_
              have := ht j oj hj hoj hdj
              refine ⟨hls j this.1 fun e => ?_, this.2⟩
              subst e; rw [ho] at hoj; cases hoj; exact hd hdj
          · have hji : j ≠ i := fun e => by subst e; rw [hE] at hEj; cases hEj
            obtain ⟨u, hu1, hu2⟩ := hP.own j oj hj hoj hEj (hls j hl hji)
            refine ⟨u, hu1, fun t hd hts => ?_⟩
            rw [hoth t (fun h => hok.dst i o ho j oj hoj hji t h hd)]
            exact hu2 t hd hts
        | true =>
          refine hev r i o hiq hE ho (hP.none i hiq hE hui) hgotA hbeA _ a w hlkE hP.size hP.defers hS fun u w' hS' => ?_
          refine hgo (r.upd i u) (a.put o.dst u) w' ⟨by rw [put_size]; exact hP.size, by rw [put_defers]; exact hP.defers, fun t ht => ?_, fun j oj hj hoj hEj hl => ?_, fun j hj hEj hf => ?_⟩ hS'
          · have hd : o.dst ≠ some t := fun h => by have := (ht i o hiq ho h).2; rw [hE] at this; cases this
            rw [put_get hd]
            refine hP.same t fun j oj hj hoj hdj => ?_
            have := ht j oj hj hoj hdj
            refine ⟨hls j this.1 fun e => ?_, this.2⟩
            subst e; rw [ho] at hoj; cases hoj; exact hd hdj
          · by_cases hji : j = i
            · subst hji
              rw [ho] at hoj; cases hoj
              refine ⟨u, by simp [Got.upd], fun t hd hts => ?_⟩
              rw [hd, put_get_same (by rw [hP.size]; exact hts)]
            · obtain ⟨u', hu1, hu2⟩ := hP.own j oj hj hoj hEj (hls j hl hji)
              refine ⟨u', by simp [Got.upd, hji, hu1], fun t hd hts => ?_⟩
              rw [put_get (fun h => hok.dst i o ho j oj hoj hji t h hd)]
              exact hu2 t hd hts
          · have := hlf j hf
            simp only [Got.upd, if_neg this.1]
            exact hP.none j hj hEj this.2
    · refine ⟨fun hr => ?_, fun i hi => ?_⟩
      · rcases Nat.lt_or_ge m ops.size with hl | hl
        · have := hsome m hl (h2 m (Nat.le_refl _)) h1
          rw [hr] at this; cases this
        · obtain rfl : m = ops.size := by omega
          simpa [seqG] using h3
      · obtain ⟨o, ho, hu, ha⟩ := ready_spec hi
        have hlt := (Array.getElem?_eq_some_iff.1 ho).1
        have him : i = m := by
          rcases Nat.lt_trichotomy i m with h | h | h
          · have := h1 i h
            simp [Array.getD_eq_getD_getElem?, hsz ▸ hlt] at this hu
            rw [this] at hu; cases hu
          · exact h
          · have := hDi i o ho ha m (hok.tail i o ho (by omega) m h)
            rw [h2 m (Nat.le_refl _)] at this; cases this
        subst him
        rw [show ops.size - i = (ops.size - (i + 1)) + 1 by omega, List.range'_succ] at h3
        obtain ⟨n1, n2, n3⟩ := hnext i o ho hu ha
        refine hmono i _ _ a w (fun a' w' hk => ?_) h3
        refine ih _ r a' w' n1 n2 n3 (.inr ⟨i + 1, by omega, by omega, fun j hj => ?_, fun j hj => ?_, hk⟩)
        · rw [getD_set]
          by_cases hij : i = j
          · rw [if_pos ⟨hij, by omega⟩]
          · rw [if_neg (fun h => hij h.1)]; exact h1 j (by omega)
        · rw [getD_set, if_neg (by omega)]; exact h2 j (by omega)

end
def putE (r : Got) : List (Nat × Option Tmp) → Act → Act
  | [], a => a
  | p :: l, a => putE r l (a.put p.2 ((r p.1).getD undef))
theorem putE_size (r : Got) : ∀ (l : List (Nat × Option Tmp)) (a : Act), (putE r l a).tmps.size = a.tmps.size
  | [], a => rfl
  | p :: l, a => by rw [putE, putE_size r l, put_size]
theorem putE_defers (r : Got) : ∀ (l : List (Nat × Option Tmp)) (a : Act), (putE r l a).defers = a.defers
  | [], a => rfl
  | p :: l, a => by rw [putE, putE_defers r l, put_defers]
theorem putE_other (r : Got) {t : Tmp} : ∀ (l : List (Nat × Option Tmp)) (a : Act), (∀ p ∈ l, p.2 ≠ some t) → (putE r l a).tmps[t]? = a.tmps[t]?
  | [], a, _ => rfl
  | p :: l, a, h => by rw [putE, putE_other r l _ (fun x hx => h x (List.mem_cons_of_mem _ hx)), put_get (h p List.mem_cons_self)]
theorem putE_own (r : Got) {e : Nat} {t : Tmp} {u : Value} (hr : r e = some u) : ∀ (l : List (Nat × Option Tmp)) (a : Act), (e, some t) ∈ l → (∀ p ∈ l, p.2 = some t → p.1 = e) → t < a.tmps.size → (putE r l a).tmps[t]? = some u
  | [], a, h, _, _ => absurd h (by simp)
  | p :: l, a, h, hd, ht => by
    rw [putE]
    by_cases hin : (e, some t) ∈ l
    · exact putE_own r hr l _ hin (fun x hx => hd x (List.mem_cons_of_mem _ hx)) (by rw [put_size]; exact ht)
    · have hp : p = (e, some t) := by rcases List.mem_cons.1 h with h | h; exact h.symm; exact absurd h hin
      subst hp
      rw [putE_other r l _ (fun x hx hxt => hin (by have := hd x (List.mem_cons_of_mem _ hx) hxt; obtain ⟨x1, x2⟩ := x; simp only at this hxt; subst this; subst hxt; exact hx)), put_get_same ht, hr]
      rfl
def EventE (P : Program) (ops : Array Oper) (SE : Got → World → Prop) (T : Act) (es : List (Nat × Option Tmp)) (anc : List (List Nat)) (i : Nat) (o : Oper) : Prop :=
  (∀ r, Region.wanted o (yielded ops (putE r es T).tmps) = true) ∧ ∀ r W, r i = none → (∀ p ∈ es, p.1 ∈ anc.getD i [] → ∃ u, r p.1 = some u) → (∀ p ∈ es, i ∈ anc.getD p.1 [] → r p.1 = none) → SE r W → (∃ u W', (execOp (putE r es T).eval o).run P W = .ok (.value u) W' ∧ SE (r.upd i u) W') ∨ (∃ W', o.dst = none ∧ (execOp (putE r es T).eval o).run P W = .ok .skip W' ∧ SE (r.upd i undef) W')
def EachE (P : Program) (ops : Array Oper) (SE : Got → World → Prop) (T : Act) (es : List (Nat × Option Tmp)) (anc : List (List Nat)) : Nat → List Oper → Prop
  | _, [] => True
  | i, o :: r => (if (es.any fun p => p.1 == i) = true then EventE P ops SE T es anc i o else ∀ g, (∀ p ∈ es, i ∈ anc.getD p.1 [] → g p.1 = none) → FlowOp P ops (SE g) T o) ∧ EachE P ops SE T es anc (i + 1) r
theorem EachE.get {P : Program} {ops : Array Oper} {SE : Got → World → Prop} {T : Act} {es : List (Nat × Option Tmp)} {anc : List (List Nat)} : ∀ {l : List Oper} {k : Nat}, EachE P ops SE T es anc k l → ∀ (i : Nat) (o : Oper), l[i]? = some o → if (es.any fun p => p.1 == k + i) = true then EventE P ops SE T es anc (k + i) o else ∀ g, (∀ p ∈ es, k + i ∈ anc.getD p.1 [] → g p.1 = none) → FlowOp P ops (SE g) T o
  | [], _, _, i, o, ho => by simp at ho
  | x :: l, k, h, 0, o, ho => by simp at ho; subst ho; exact h.1
  | x :: l, k, h, i + 1, o, ho => by
    have := EachE.get h.2 i o (by simpa using ho)
    rwa [show k + 1 + i = k + (i + 1) by omega] at this
theorem wp_flow11 {P : Program} {id : Nat} {ops : Array Oper} {Q : Exit → Act → World → Prop} {a : Act} {w : World} (anc : List (List Nat)) (q : Nat) (es : List (Nat × Option Tmp)) (SE : Got → World → Prop) (T : Act)
    (hm : P.follows .mixedOrders = true) (hb : flowB ops anc q = true) (hq : (decide (q ≤ ops.size) && decide (0 < q)) = true) (hsz : (es.all fun p => match p.2 with | none => true | some t => decide (t < T.tmps.size)) = true)
    (hc : ((List.range q).all fun i => match ops[i]? with | none => true | some o => ((es.any fun p => p.1 == i) || es.all fun p => match p.2 with | none => true | some t => !(o.looksAt ops).contains t) && (es.all fun p => p.1 != i || o.dst == p.2)) = true)
    (hc2 : (es.all fun p => decide (p.1 < q) && (es.all fun p' => p.2.isNone || p'.2 != p.2 || p'.1 == p.1)) = true)
    (hA : Ahead ops q T a) (hS : SE (fun _ => none) w.drew)
    {pl : List Oper} (hpl : ops.toList.take q = pl) (hop : EachE P ops SE T es anc 0 pl)
    {tl : List Oper} (htl : ops.toList.drop q = tl) (hT : ∀ r w, SE r w → (∀ p ∈ es, ∃ u, r p.1 = some u) → wpList P ops Q tl (putE r es T) w) :
    (Code.region id ops true).wp P Q a w := by
  have hok := FlowOk.of hb
  simp only [Bool.and_eq_true, decide_eq_true_eq] at hq
  have hf : ∀ j, (Array.replicate ops.size false).getD j false = false := fun j => by
    simp [Array.getD_eq_getD_getElem?, Array.getElem?_replicate]
    split <;> rfl
  have hcc : ∀ (i : Nat) (o : Oper), i < q → ops[i]? = some o → ((es.any fun p => p.1 == i) = false → ∀ p ∈ es, ∀ t, p.2 = some t → t ∉ o.looksAt ops) ∧ ∀ p ∈ es, p.1 = i → o.dst = p.2 := fun i o hi ho => by
    have := List.all_eq_true.1 hc i (List.mem_range.2 hi)
    rw [ho] at this
    simp only [Bool.and_eq_true, Bool.or_eq_true, List.all_eq_true] at this
    refine ⟨(fun hno p hp t ht h => by (have h1 := (this.1.resolve_left (by rw [hno]; decide)) p hp; rw [ht] at h1; simp only at h1; rw [List.contains_iff_mem.2 h] at h1; cases h1)), fun p hp hpi => ?_⟩
    have h2 := this.2 p hp
    rcases h2 with h3 | h3
    · simp [hpi] at h3
    · simpa using h3
  have hops : ∀ (i : Nat) (o : Oper), i < q → ops[i]? = some o → if (es.any fun p => p.1 == i) = true then EventE P ops SE T es anc i o else ∀ g, (∀ p ∈ es, i ∈ anc.getD p.1 [] → g p.1 = none) → FlowOp P ops (SE g) T o := fun i o hi ho => by
    have h1 : pl[i]? = some o := by rw [← hpl, List.getElem?_take, if_pos hi, Array.getElem?_toList]; exact ho
    have := EachE.get hop i o h1
    rwa [Nat.zero_add] at this
  have hmem : ∀ i, (es.any fun p => p.1 == i) = true → ∃ t, (i, t) ∈ es := fun i h => by
    obtain ⟨p, hp, he⟩ := List.any_eq_true.1 h
    obtain ⟨p1, p2⟩ := p
    have : p1 = i := by simpa using he
    subst this
    exact ⟨p2, hp⟩
  have hbe2 : ∀ (i : Nat) (r : Got), (∀ j, j < q → (es.any fun p => p.1 == j) = true → i ∈ anc.getD j [] → r j = none) → ∀ p ∈ es, i ∈ anc.getD p.1 [] → r p.1 = none := fun i r h p hp hm' => by
    have h2 := List.all_eq_true.1 hc2 p hp
    simp only [Bool.and_eq_true, decide_eq_true_eq] at h2
    exact h p.1 h2.1 (List.any_eq_true.2 ⟨p, hp, by simp⟩) hm'
  refine wp_region_any hm (anyG_wp _ _ _ _ (any_flow5 (op := wpOp P ops Q) (Qn := Q .normal) (anc := anc) (T := T) (fun i => es.any fun p => p.1 == i) SE (fun r => putE r es T) hok hq.1 ?_ ?_ ?_ ?_ ?_ ?_ ?_ (fun i K K' a w h => wpOp_mono h) ops.size (Array.replicate ops.size false) (fun _ => none) _ _ (by simp) (by simp [List.countP_replicate]) (fun i hi => by rw [hf i] at hi; cases hi) ?_))
  · intro e oe he hE hoe i o hi hEi ho t ht hd
    obtain ⟨t', hm'⟩ := hmem e hE
    have := (hcc e oe he hoe).2 (e, t') hm' rfl
    rw [hd] at this
    exact (hcc i o hi ho).1 hEi (e, t') hm' t this.symm ht
  · intro r t hno
    refine putE_other r es T fun p hp h => ?_
    have h2 := List.all_eq_true.1 hc2 p hp
    simp only [Bool.and_eq_true, decide_eq_true_eq] at h2
    have hlt2 : p.1 < ops.size := by omega
    have ho : ops[p.1]? = some ops[p.1] := by simp [hlt2]
    exact hno p.1 _ h2.1 (List.any_eq_true.2 ⟨p, hp, by simp⟩) ho (((hcc p.1 _ h2.1 ho).2 p hp rfl).trans h)
  · intro r e oe t u he hE hoe hd hts hru
    obtain ⟨t', hm'⟩ := hmem e hE
    have hd' := (hcc e oe he hoe).2 (e, t') hm' rfl
    rw [hd] at hd'
    simp only at hd'
    subst hd'
    refine putE_own r hru es T hm' (fun x hx h => ?_) hts
    have h2 := List.all_eq_true.1 hc2 (e, some t) hm'
    simp only [Bool.and_eq_true, decide_eq_true_eq] at h2
    have h3 := List.all_eq_true.1 h2.2 x hx
    simp [h] at h3
    exact h3
  · intro r
    exact putE_size r es T
  · intro r i o hi hE ho hbe K a w hl hs hd hS hK
    have := hops i o hi ho
    rw [if_neg (by rw [hE]; decide)] at this
    exact flow_op ho (hok.plain i o ho) (this r (hbe2 i r hbe)) hl hs hd hS hK
  · intro r i o hi hE ho hr hga hbe K a w hl hs hd hS hK
    have := hops i o hi ho
    rw [if_pos hE] at this
    unfold wpOp
    simp only [ho]
    rw [wanted_of_looks hl, if_pos (this.1 r)]
    refine .inl ?_
    unfold Oper.wp
    rw [execOp_congr o (plain_select (hok.plain i o ho)) (eval_of_looks hl)]
    have hga2 : ∀ p ∈ es, p.1 ∈ anc.getD i [] → ∃ u, r p.1 = some u := fun p hp hm' => by
      have h2 := List.all_eq_true.1 hc2 p hp
      simp only [Bool.and_eq_true, decide_eq_true_eq] at h2
      exact hga p.1 h2.1 (List.any_eq_true.2 ⟨p, hp, by simp⟩) hm'
    rcases this.2 r w hr hga2 (hbe2 i r hbe) hS with ⟨u, W', hru, hS'⟩ | ⟨W', hn, hru, hS'⟩
    · rw [hru]
      exact hK u W' hS'
    · rw [hru]
      exact hK undef W' hS'
  · intro r w a hS hP
    have hfull : ∀ j, j < ops.size → (Array.replicate ops.size true).getD j false = true := fun j hj => by
      simp [Array.getD_eq_getD_getElem?, Array.getElem?_replicate, hj]
    have hgot : ∀ p ∈ es, ∃ u, r p.1 = some u ∧ ∀ t, p.2 = some t → t < T.tmps.size → a.tmps[t]? = some u := fun p hp => by
      have h2 := List.all_eq_true.1 hc2 p hp
      simp only [Bool.and_eq_true, decide_eq_true_eq] at h2
      have hlt2 : p.1 < ops.size := by omega
      have hE : (es.any fun p' => p'.1 == p.1) = true := List.any_eq_true.2 ⟨p, hp, by simp⟩
      have ho : ops[p.1]? = some ops[p.1] := by simp [hlt2]
      obtain ⟨u, hu1, hu2⟩ := hP.own p.1 _ h2.1 ho hE (hfull _ hlt2)
      exact ⟨u, hu1, fun t ht => hu2 t (((hcc p.1 _ h2.1 ho).2 p hp rfl).trans ht)⟩
    have hdst : ∀ (p q' : Nat × Option Tmp) (t : Tmp), p ∈ es → q' ∈ es → p.2 = some t → q'.2 = some t → q'.1 = p.1 := fun p q' t hp hq' ht h => by
      have h2 := List.all_eq_true.1 hc2 p hp
      simp only [Bool.and_eq_true, decide_eq_true_eq] at h2
      have h3 := List.all_eq_true.1 h2.2 q' hq'
      simp [ht, h] at h3
      exact h3
    have hput : a = putE r es T := by
      have e1 := putE_size r es T
      have e2 := putE_defers r es T
      have e3 : ∀ t : Nat, a.tmps[t]? = (putE r es T).tmps[t]? := fun t => by
        rcases Nat.lt_or_ge t T.tmps.size with hlt | hge
        · by_cases hin : ∃ p ∈ es, p.2 = some t
          · obtain ⟨p, hp, hpt⟩ := hin
            obtain ⟨u, hu1, hu2⟩ := hgot p hp
            rw [hu2 t hpt hlt, putE_own r hu1 es T (by obtain ⟨p1, p2⟩ := p; simp only at hpt; subst hpt; exact hp) (fun x hx h => hdst p x t hp hx hpt h) hlt]
          · rw [putE_other r es T (fun p hp h => hin ⟨p, hp, h⟩)]
            refine hP.same t fun j o hj ho hd => ⟨hfull j (by omega), ?_⟩
            cases hE : es.any fun p => p.1 == j with
            | false => rfl
            | true =>
              obtain ⟨t', hm'⟩ := hmem j hE
              have := (hcc j o hj ho).2 (j, t') hm' rfl
              exact absurd ⟨(j, t'), hm', this.symm.trans hd⟩ hin
        · rw [Array.getElem?_eq_none (by rw [hP.size]; omega), Array.getElem?_eq_none (by rw [e1]; omega)]
      obtain ⟨t1, d1⟩ := a
      generalize putE r es T = y at *
      obtain ⟨t2, d2⟩ := y
      have hd' : d1 = d2 := hP.defers.trans e2.symm
      subst hd'
      congr
      exact Array.ext_getElem? e3
    rw [hput]
    have hall : ∀ p ∈ es, ∃ u, r p.1 = some u := fun p hp => by
      obtain ⟨u, hu, _⟩ := hgot p hp
      exact ⟨u, hu⟩
    exact seqG_wp _ _ _ (by rw [range_drop, wpOps_eq_wpList _ _ (drop_get q), htl]; exact hT r w hS hall)
  · by_cases hx : ∃ j, j < q ∧ (Array.replicate ops.size false).getD j false = false
    · refine .inl ⟨hx, fun j _ => hf j, ⟨hA.1, hA.2.1, fun t ht => hA.2.2 t fun j o hj ho hd => ?_, fun j o _ _ _ h => ?_, fun j _ _ _ => rfl⟩, hS⟩
      · have := (ht j o hj ho hd).1; rw [hf j] at this; cases this
      · rw [hf j] at h; cases h
    · exact absurd ⟨0, hq.2, hf 0⟩ hx
def BoxE (B : Nat) (t : TypeId) (cs : Array Value) (r : Got) (V : World) : Prop :=
  (∀ e u, r e = some u → ∃ b, u = .pointer (some ⟨b, 0, none⟩) ∧ B ≤ b ∧ V.heap[b]? = some (.cells cs t (0, 0))) ∧ ∀ e e' b, e ≠ e' → r e = some (.pointer (some ⟨b, 0, none⟩)) → r e' ≠ some (.pointer (some ⟨b, 0, none⟩))
theorem BoxE.nil (B : Nat) (t : TypeId) (cs : Array Value) (V : World) : BoxE B t cs (fun _ => none) V := ⟨(fun _ _ h => by cases h), (fun _ _ _ _ h => by cases h)⟩
theorem BoxE.grow {B : Nat} {t : TypeId} {cs : Array Value} {r : Got} {V V' : World} (h : BoxE B t cs r V) (hb : Below V.heap.size V V') : BoxE B t cs r V' :=
  ⟨fun e u hu => by obtain ⟨b, h1, h2, h3⟩ := h.1 e u hu; exact ⟨b, h1, h2, heap_grow h3 hb⟩, h.2⟩
theorem BoxE.alloc {B : Nat} {t : TypeId} {cs : Array Value} {r : Got} {V : World} (h : BoxE B t cs r V) (hB : B ≤ V.heap.size) (e : Nat) : BoxE B t cs (r.upd e (.pointer (some ⟨V.heap.size, 0, none⟩))) (V.alloc (.cells cs t)) := by
  have hlt : ∀ e' b, r e' = some (.pointer (some ⟨b, 0, none⟩)) → b < V.heap.size := fun e' b hr => by
    obtain ⟨b', h1, _, h3⟩ := h.1 e' _ hr
    cases h1
    exact (Array.getElem?_eq_some_iff.1 h3).1
  refine ⟨fun e' u hu => ?_, fun e1 e2 b hne h1 h2 => ?_⟩
  · unfold Got.upd at hu
    split at hu
    · cases hu; exact ⟨_, rfl, hB, World.alloc_heap_new V _⟩
    · obtain ⟨b, g1, g2, g3⟩ := h.1 e' u hu; exact ⟨b, g1, g2, alloc_old g3⟩
  · unfold Got.upd at h1 h2
    split at h1
    · split at h2
      · omega
      · cases h1; exact absurd (hlt e2 _ h2) (by omega)
    · split at h2
      · cases h2; exact absurd (hlt e1 _ h1) (by omega)
      · exact h.2 e1 e2 b hne h1 h2
structure BoxF (B : Nat) (t : TypeId) (al : List Nat) (st : Nat → Nat) (Z : Array Value) (F : Nat → Array Value) (g : Got) (V : World) : Prop where
  at_ : ∀ e ∈ al, ∀ u, g e = some u → ∃ b, u = .pointer (some ⟨b, 0, none⟩) ∧ B ≤ b ∧ V.heap[b]? = some (.cells (if (g (st e)).isSome = true then F e else Z) t (0, 0))
  ne : ∀ e ∈ al, ∀ e' ∈ al, ∀ b, e ≠ e' → g e = some (.pointer (some ⟨b, 0, none⟩)) → g e' ≠ some (.pointer (some ⟨b, 0, none⟩))
theorem BoxF.nil (B : Nat) (t : TypeId) (al : List Nat) (st : Nat → Nat) (Z : Array Value) (F : Nat → Array Value) (V : World) : BoxF B t al st Z F (fun _ => none) V := ⟨(fun _ _ _ h => by cases h), (fun _ _ _ _ _ _ h => by cases h)⟩
theorem BoxF.grow {B : Nat} {t : TypeId} {al : List Nat} {st : Nat → Nat} {Z : Array Value} {F : Nat → Array Value} {g : Got} {V V' : World} (h : BoxF B t al st Z F g V) (hb : Below V.heap.size V V') : BoxF B t al st Z F g V' :=
  ⟨fun e he u hu => by obtain ⟨b, h1, h2, h3⟩ := h.at_ e he u hu; exact ⟨b, h1, h2, heap_grow h3 hb⟩, h.ne⟩
theorem BoxF.alloc {B : Nat} {t : TypeId} {al : List Nat} {st : Nat → Nat} {Z : Array Value} {F : Nat → Array Value} {g : Got} {V : World} (h : BoxF B t al st Z F g V) (hB : B ≤ V.heap.size) {e : Nat} (he : ∀ e' ∈ al, st e' ≠ e) (hn : g (st e) = none) (hse : st e ≠ e) : BoxF B t al st Z F (g.upd e (.pointer (some ⟨V.heap.size, 0, none⟩))) (V.alloc (.cells Z t)) := by
  have hlt : ∀ e' ∈ al, ∀ b, g e' = some (.pointer (some ⟨b, 0, none⟩)) → b < V.heap.size := fun e' he' b hr => by
    obtain ⟨b', h1, _, h3⟩ := h.at_ e' he' _ hr
    cases h1
    exact (Array.getElem?_eq_some_iff.1 h3).1
  refine ⟨fun e' he' u hu => ?_, fun e1 he1 e2 he2 b hne h1 h2 => ?_⟩
  · have hst : (g.upd e (.pointer (some ⟨V.heap.size, 0, none⟩))) (st e') = g (st e') := by simp [Got.upd, he e' he']
    rw [hst]
    unfold Got.upd at hu
    split at hu
    · rename_i h0
      subst h0
      cases hu
      rw [hn]
      exact ⟨_, rfl, hB, World.alloc_heap_new V _⟩
    · obtain ⟨b, g1, g2, g3⟩ := h.at_ e' he' u hu; exact ⟨b, g1, g2, alloc_old g3⟩
  · unfold Got.upd at h1 h2
    split at h1
    · split at h2
      · omega
      · cases h1; exact absurd (hlt e2 he2 _ h2) (by omega)
    · split at h2
      · cases h2; exact absurd (hlt e1 he1 _ h1) (by omega)
      · exact h.ne e1 he1 e2 he2 b hne h1 h2
theorem BoxF.store {B : Nat} {t : TypeId} {al : List Nat} {st : Nat → Nat} {a0 a1 v0 v1 : Value} {F : Nat → Array Value} {g : Got} {V : World} (h : BoxF B t al st #[a0, a1] F g V) {e i b : Nat} (he : e ∈ al) (hi : st e = i) (hinj : ∀ e' ∈ al, st e' = i → e' = e) (hia : ∀ e' ∈ al, e' ≠ i) (hn : g i = none) (hg : g e = some (.pointer (some ⟨b, 0, none⟩))) (hF : F e = #[v0, v1]) (u : Value) :
    BoxF B t al st #[a0, a1] F (g.upd i u) ((V.setCell ⟨b, 0, none⟩ v0).setCell ⟨b, 1, none⟩ v1) := by
  refine ⟨fun e' he' u' hu => ?_, fun e1 he1 e2 he2 b' hne h1 h2 => ?_⟩
  · have hu' : g e' = some u' := by have := hia e' he'; simpa [Got.upd, this] using hu
    obtain ⟨b', g1, g2, g3⟩ := h.at_ e' he' u' hu'
    refine ⟨b', g1, g2, ?_⟩
    by_cases hee : e' = e
    · subst hee
      rw [hg] at hu'
      cases hu'
      cases g1
      rw [hi, hn] at g3
      rw [hi, show (g.upd i u) i = some u by simp [Got.upd], hF]
      exact st2_same g3 v0 v1
    · have hst : (g.upd i u) (st e') = g (st e') := by
        have : st e' ≠ i := fun h => hee (hinj e' he' h)
        simp [Got.upd, this]
      rw [hst]
      subst g1
      exact st2_other (fun hbb => h.ne e he e' he' b (fun h => hee h.symm) hg (by rw [hu', hbb])) g3 v0 v1
  · have n1 := hia e1 he1
    have n2 := hia e2 he2
    simp only [Got.upd, n1, n2, if_false] at h1 h2
    exact h.ne e1 he1 e2 he2 b' hne h1 h2
end Go.Proofs.Ytbmkbokkmmdjdaa
end
