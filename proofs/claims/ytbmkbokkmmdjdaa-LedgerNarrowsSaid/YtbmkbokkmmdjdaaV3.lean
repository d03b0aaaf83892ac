-- F (wip/pack9.py)
import Derived.OrdersIn
import Derived.TacticsIn
section
namespace Go.Proofs.Ytbmkbokkmmdjdaa
open Go

def anyG (op : Nat → (Act → World → Prop) → Act → World → Prop) (ops : Array Oper) (Qn : Act → World → Prop) : Nat → Array Bool → Act → World → Prop
  | 0, listed, a, w => Region.ready .any ops listed = [] ∧ Qn a w
  | fuel + 1, listed, a, w => (Region.ready .any ops listed = [] → Qn a w) ∧ ∀ i ∈ Region.ready .any ops listed, op i (anyG op ops Qn fuel (listed.setIfInBounds i true)) a w
def seqG (op : Nat → (Act → World → Prop) → Act → World → Prop) (Qn : Act → World → Prop) : List Nat → Act → World → Prop
  | [], a, w => Qn a w
  | i :: r, a, w => op i (seqG op Qn r) a w

def Op.plainOp : Op → Bool
  | .select .. | .defer _ => false
  | _ => true

def flowB (ops : Array Oper) (anc : List (List Nat)) (q : Nat) : Bool :=
  (List.range ops.size).all fun i => match ops[i]? with
    | none => false
    | some o =>
      Op.plainOp o.op &&
      (anc.getD i []).all (fun j => o.after.toList.any fun e => Region.binds .any e && (e.on == j || (anc.getD e.on []).contains j)) &&
      (o.looksAt ops).all (fun t => (List.range q).all fun j => match ops[j]? with | some oj => oj.dst != some t || (anc.getD i []).contains j | none => true) &&
      (List.range ops.size).all (fun j => j == i || match ops[j]? with | some oj => o.dst.isNone || oj.dst != o.dst | none => true) &&
      (decide (i < q) || (List.range i).all fun j => (anc.getD i []).contains j) &&
      o.after.toList.all (fun e => !Region.binds .any e || decide (e.on < i))

structure FlowOk (ops : Array Oper) (as : List (List Nat)) (q : Nat) : Prop where
  plain : ∀ (i : Nat) (o : Oper), ops[i]? = some o → Op.plainOp o.op = true
  anc : ∀ (i : Nat) (o : Oper), ops[i]? = some o → ∀ j ∈ as.getD i [], ∃ e ∈ o.after.toList, Region.binds .any e = true ∧ (e.on = j ∨ j ∈ as.getD e.on [])
  looks : ∀ (i : Nat) (o : Oper), ops[i]? = some o → ∀ t ∈ o.looksAt ops, ∀ (j : Nat) (oj : Oper), j < q → ops[j]? = some oj → oj.dst = some t → j ∈ as.getD i []
  dst : ∀ (i : Nat) (o : Oper), ops[i]? = some o → ∀ (j : Nat) (oj : Oper), ops[j]? = some oj → j ≠ i → ∀ t, o.dst = some t → oj.dst ≠ some t
  tail : ∀ (i : Nat) (o : Oper), ops[i]? = some o → q ≤ i → ∀ j < i, j ∈ as.getD i []
  back : ∀ (i : Nat) (o : Oper), ops[i]? = some o → ∀ e ∈ o.after.toList, Region.binds .any e = true → e.on < i

theorem FlowOk.of {ops : Array Oper} {anc : List (List Nat)} {q : Nat} (h : flowB ops anc q = true) : FlowOk ops anc q := by
  have key : ∀ (i : Nat) (o : Oper), ops[i]? = some o → (((((Op.plainOp o.op = true ∧ (anc.getD i []).all (fun j => o.after.toList.any fun e => Region.binds .any e && (e.on == j || (anc.getD e.on []).contains j)) = true) ∧
      (o.looksAt ops).all (fun t => (List.range q).all fun j => match ops[j]? with | some oj => oj.dst != some t || (anc.getD i []).contains j | none => true) = true) ∧
      (List.range ops.size).all (fun j => j == i || match ops[j]? with | some oj => o.dst.isNone || oj.dst != o.dst | none => true) = true) ∧
      (decide (i < q) || (List.range i).all fun j => (anc.getD i []).contains j) = true) ∧ o.after.toList.all (fun e => !Region.binds .any e || decide (e.on < i)) = true) := fun i o ho => by
    have hlt : i < ops.size := (Array.getElem?_eq_some_iff.1 ho).1
    have := List.all_eq_true.1 h i (List.mem_range.2 hlt)
    simp only [ho, Bool.and_eq_true] at this
    exact this
  refine ⟨fun i o ho => (key i o ho).1.1.1.1.1, fun i o ho j hj => ?_, fun i o ho t ht j oj hjq hoj hd => ?_, fun i o ho j oj hoj hne t hd hd' => ?_, fun i o ho hq j hj => ?_, fun i o ho e he hb => ?_⟩
  · have := List.all_eq_true.1 (key i o ho).1.1.1.1.2 j hj
    obtain ⟨e, he, h2⟩ := List.any_eq_true.1 this
    simp only [Bool.and_eq_true, Bool.or_eq_true, beq_iff_eq, List.contains_iff_mem] at h2
    exact ⟨e, he, h2⟩
  · have h1 := List.all_eq_true.1 (key i o ho).1.1.1.2 t ht
    have h2 := List.all_eq_true.1 h1 j (List.mem_range.2 hjq)
    simp only [hoj, hd, Bool.or_eq_true, List.contains_iff_mem] at h2
    exact h2.resolve_left (by simp)
  · have h2 := List.all_eq_true.1 (key i o ho).1.1.2 j (List.mem_range.2 (Array.getElem?_eq_some_iff.1 hoj).1)
    simp only [hoj, hd, hd', Bool.or_eq_true, beq_iff_eq] at h2
    rcases h2 with h2 | h2
    · exact hne h2
    · simp at h2
  · have h2 := (key i o ho).1.2
    simp only [Bool.or_eq_true, decide_eq_true_eq] at h2
    have h3 := h2.resolve_left (by omega)
    have := List.all_eq_true.1 h3 j (List.mem_range.2 hj)
    simpa using this
  · have := List.all_eq_true.1 (key i o ho).2 e he
    simpa [hb] using this

structure Partly (ops : Array Oper) (q : Nat) (listed : Array Bool) (T a : Act) : Prop where
  size : a.tmps.size = T.tmps.size
  defers : a.defers = T.defers
  same : ∀ t : Tmp, (∀ (j : Nat) (o : Oper), j < q → ops[j]? = some o → o.dst = some t → listed.getD j false = true) → a.tmps[t]? = T.tmps[t]?

theorem getD_set {l : Array Bool} {i j : Nat} : (l.setIfInBounds i true).getD j false = (if i = j ∧ i < l.size then true else l.getD j false) := by
  simp only [Array.getD_eq_getD_getElem?, Array.getElem?_setIfInBounds]
  by_cases h : i = j
  · subst h
    by_cases h2 : i < l.size <;> simp [h2]
  · simp [h]

section
variable {op : Nat → (Act → World → Prop) → Act → World → Prop} {ops : Array Oper} {anc : List (List Nat)} {q : Nat} {Qn : Act → World → Prop} {S : World → Prop} {T : Act}

theorem ready_spec {listed : Array Bool} {i : Nat} (h : i ∈ Region.ready .any ops listed) : ∃ o, ops[i]? = some o ∧ listed.getD i true = false ∧ ∀ e ∈ o.after.toList, Region.binds .any e = true → listed.getD e.on false = true := by
  simp only [Region.ready, List.mem_filter, List.mem_range, Bool.and_eq_true] at h
  obtain ⟨hlt, h1, h2⟩ := h
  refine ⟨ops[i], by simp [hlt], by simpa using h1, fun e he hb => ?_⟩
  simp only [Array.getElem?_eq_getElem hlt, Option.map_some, Option.getD_some] at h2
  have := (Array.all_eq_true_iff_forall_mem.1 h2) e (Array.mem_toList_iff.1 he)
  simpa [hb] using this

theorem ready_mem {listed : Array Bool} {i : Nat} {o : Oper} (ho : ops[i]? = some o) (h1 : listed.getD i true = false) (h2 : ∀ e ∈ o.after.toList, Region.binds .any e = true → listed.getD e.on false = true) : i ∈ Region.ready .any ops listed := by
  simp only [Region.ready, List.mem_filter, List.mem_range, Bool.and_eq_true]
  obtain ⟨hlt, he⟩ := Array.getElem?_eq_some_iff.1 ho
  refine ⟨hlt, by simpa using h1, ?_⟩
  simp only [ho, Option.map_some, Option.getD_some]
  refine Array.all_eq_true_iff_forall_mem.2 fun e hm => ?_
  cases hb : Region.binds .any e with
  | false => simp
  | true => simp [h2 e (Array.mem_toList_iff.2 hm) hb]

theorem any_flow (U : Nat → Prop) (hok : FlowOk ops anc q) (hq : q ≤ ops.size)
    (hop : ∀ i o, i < q → U i → ops[i]? = some o → ∀ (K : Act → World → Prop) (a : Act) (w : World), (∀ t ∈ o.looksAt ops, a.tmps[t]? = T.tmps[t]?) → a.tmps.size = T.tmps.size → a.defers = T.defers → S w →
      (∀ a' w', S w' → a'.tmps.size = T.tmps.size → a'.defers = T.defers → (∀ t, o.dst ≠ some t → a'.tmps[t]? = a.tmps[t]?) → (∀ t, o.dst = some t → a'.tmps[t]? = T.tmps[t]?) → K a' w') → op i K a w)
    (hT : ∀ w, S w → seqG op Qn (List.range' q (ops.size - q)) T w)
    (hmono : ∀ i K K' a w, (∀ a w, K a w → K' a w) → op i K a w → op i K' a w) :
    ∀ (fuel : Nat) (listed : Array Bool) (a : Act) (w : World), listed.size = ops.size → listed.toList.countP (! ·) ≤ fuel →
      (∀ i, listed.getD i false = true → ∀ j ∈ anc.getD i [], listed.getD j false = true) →
      ((∃ j, j < q ∧ listed.getD j false = false) ∧ (∀ j, q ≤ j → listed.getD j false = false) ∧ Partly ops q listed T a ∧ S w ∧ (∀ j, j < q → listed.getD j false = false → U j)) ∨
      (∃ m, q ≤ m ∧ m ≤ ops.size ∧ (∀ j, j < m → listed.getD j false = true) ∧ (∀ j, m ≤ j → listed.getD j false = false) ∧ seqG op Qn (List.range' m (ops.size - m)) a w) →
      anyG op ops Qn fuel listed a w := by
  intro fuel
  induction fuel with
  | zero =>
    intro listed a w hsz hc hI hst
    have hall : ∀ j, j < ops.size → listed.getD j false = true := fun j hj => by
      have h0 : listed.toList.countP (! ·) = 0 := by omega
      rw [List.countP_eq_zero] at h0
      have := h0 listed[j] (by simp)
      simpa [Array.getD_eq_getD_getElem?, hsz ▸ hj] using this
    have hr : Region.ready .any ops listed = [] := by
      rw [List.eq_nil_iff_forall_not_mem]
      intro i hi
      obtain ⟨o, ho, h1, _⟩ := ready_spec hi
      have hlt := (Array.getElem?_eq_some_iff.1 ho).1
      have := hall i hlt
      simp [Array.getD_eq_getD_getElem?, hsz ▸ hlt] at this h1
      rw [this] at h1; cases h1
    refine ⟨hr, ?_⟩
    rcases hst with ⟨⟨j, hj, hf⟩, _⟩ | ⟨m, hm, hm2, h1, h2, h3⟩
    · rw [hall j (by omega)] at hf; cases hf
    · have : m = ops.size := by
        rcases Nat.lt_or_ge m ops.size with h | h
        · have := h2 m (Nat.le_refl _); rw [hall m h] at this; cases this
        · omega
      subst this
      simpa [seqG] using h3
  | succ fuel ih =>
    intro listed a w hsz hc hI hst
    have hDi : ∀ (i : Nat) (o : Oper), ops[i]? = some o → (∀ e ∈ o.after.toList, Region.binds .any e = true → listed.getD e.on false = true) → ∀ j ∈ anc.getD i [], listed.getD j false = true := fun i o ho h2 j hj => by
      obtain ⟨e, he, hb, h⟩ := hok.anc i o ho j hj
      rcases h with rfl | h
      · exact h2 e he hb
      · exact hI e.on (h2 e he hb) j h
    have hft : ∀ i, i < ops.size → listed.getD i false = false → listed.getD i true = false := fun i hi h => by
      simp [Array.getD_eq_getD_getElem?, hsz ▸ hi] at h ⊢; exact h
    have hsome : ∀ m, m < ops.size → listed.getD m false = false → (∀ j, j < m → listed.getD j false = true) → m ∈ Region.ready .any ops listed := fun m hm h1 h2 =>
      ready_mem (o := ops[m]) (by simp [hm]) (hft m hm h1) fun e he hb => h2 _ (hok.back m ops[m] (by simp [hm]) e he hb)
    have hnext : ∀ (i : Nat) (o : Oper), ops[i]? = some o → listed.getD i true = false → (∀ e ∈ o.after.toList, Region.binds .any e = true → listed.getD e.on false = true) →
        (listed.setIfInBounds i true).size = ops.size ∧ (listed.setIfInBounds i true).toList.countP (! ·) ≤ fuel ∧ (∀ k, (listed.setIfInBounds i true).getD k false = true → ∀ j ∈ anc.getD k [], (listed.setIfInBounds i true).getD j false = true) := fun i o ho h1 h2 => by
      have hlt := (Array.getElem?_eq_some_iff.1 ho).1
      have hlt' : i < listed.size := by omega
      refine ⟨by simpa using hsz, ?_, fun k hk j hj => ?_⟩
      · have hfi : listed.toList[i]'(by simpa using hlt') = false := by
          simp [Array.getD_eq_getD_getElem?, hlt'] at h1; simpa using h1
        have hset : (listed.setIfInBounds i true).toList = listed.toList.set i true := by simp
        rw [hset, List.countP_set (by simpa using hlt')]
        simp only [hfi, Bool.not_false, Bool.not_true, if_true, Bool.false_eq_true, if_false, Nat.add_zero]
        have : 0 < listed.toList.countP (! ·) := List.countP_pos_iff.2 ⟨listed.toList[i]'(by simpa using hlt'), List.getElem_mem _, by rw [hfi]; rfl⟩
        omega
      · rw [getD_set]
        rw [getD_set] at hk
        by_cases hji : i = j ∧ i < listed.size
        · rw [if_pos hji]
        · rw [if_neg hji]
          by_cases hki : i = k ∧ i < listed.size
          · obtain ⟨rfl, _⟩ := hki
            exact hDi i o ho h2 j hj
          · rw [if_neg hki] at hk
            exact hI k hk j hj
    rcases hst with ⟨⟨j0, hj0, hf0⟩, htl, hP, hS, hU⟩ | ⟨m, hm, hm2, h1, h2, h3⟩
    · refine ⟨fun hr => ?_, fun i hi => ?_⟩
      · -- the least that is not listed
        exfalso
        have hex : ∀ n, (∃ j, j ≤ n ∧ listed.getD j false = false) → ∃ m, m ≤ n ∧ listed.getD m false = false ∧ ∀ j, j < m → listed.getD j false = true := by
          intro n
          induction n with
          | zero => rintro ⟨j, hj, h⟩; exact ⟨0, Nat.le_refl _, by obtain rfl : j = 0 := (by omega); exact h, fun _ h => absurd h (by omega)⟩
          | succ n ihn =>
            rintro ⟨j, hj, h⟩
            by_cases hx : ∃ j, j ≤ n ∧ listed.getD j false = false
            · obtain ⟨m, a, b⟩ := ihn hx; exact ⟨m, by omega, b⟩
            · refine ⟨n + 1, Nat.le_refl _, ?_, fun k hk => ?_⟩
              · rcases Nat.lt_or_ge n j with hl | hl
                · obtain rfl : j = n + 1 := (by omega); exact h
                · exact absurd ⟨j, hl, h⟩ hx
              · cases hv : listed.getD k false with
                | true => rfl
                | false => exact absurd ⟨k, by omega, hv⟩ hx
        obtain ⟨m, hm, hmf, hml⟩ := hex j0 ⟨j0, Nat.le_refl _, hf0⟩
        have := hsome m (by omega) hmf hml
        rw [hr] at this
        cases this
      · obtain ⟨o, ho, hu, ha⟩ := ready_spec hi
        have hlt := (Array.getElem?_eq_some_iff.1 ho).1
        have hiq : i < q := by
          rcases Nat.lt_or_ge i q with h | h
          · exact h
          · have := hDi i o ho ha j0 (hok.tail i o ho h j0 (by omega))
            rw [this] at hf0; cases hf0
        have hui : listed.getD i false = false := by
          simp [Array.getD_eq_getD_getElem?, hsz ▸ hlt] at hu ⊢; exact hu
        refine hop i o hiq (hU i hiq hui) ho _ a w (fun t ht => hP.same t fun j oj hjq hoj hd => hDi i o ho ha j (hok.looks i o ho t ht j oj (by omega) hoj hd)) hP.size hP.defers hS ?_
        intro a' w' hS' hsz' hdf' hoth hown
        obtain ⟨n1, n2, n3⟩ := hnext i o ho hu ha
        have hP' : Partly ops q (listed.setIfInBounds i true) T a' := ⟨hsz', hdf', fun t ht => by
          by_cases hd : o.dst = some t
          · exact hown t hd
          · rw [hoth t hd]
            refine hP.same t fun j oj hj hoj hdj => ?_
            have := ht j oj hj hoj hdj
            rw [getD_set] at this
            by_cases hij : i = j ∧ i < listed.size
            · obtain ⟨rfl, _⟩ := hij
              rw [ho] at hoj; cases hoj; exact absurd hdj hd
            · rwa [if_neg hij] at this⟩
        refine ih _ a' w' n1 n2 n3 ?_
        by_cases hx : ∃ j, j < q ∧ (listed.setIfInBounds i true).getD j false = false
        · refine .inl ⟨hx, fun j hj => ?_, hP', hS', fun j hj hf => hU j hj ?_⟩
          · rw [getD_set, if_neg (by omega)]
            exact htl j hj
          · rw [getD_set] at hf
            by_cases hij : i = j ∧ i < listed.size
            · rw [if_pos hij] at hf; cases hf
            · rwa [if_neg hij] at hf
        · have hall : ∀ j, j < q → (listed.setIfInBounds i true).getD j false = true := fun j hj => by
            cases hv : (listed.setIfInBounds i true).getD j false with
            | true => rfl
            | false => exact absurd ⟨j, hj, hv⟩ hx
          have hTa : a' = T := by
            obtain ⟨t1, d1⟩ := a'
            obtain ⟨t2, d2⟩ := T
            obtain ⟨p1, p2, p3⟩ := hP'
            simp only at p1 p2 p3
            subst p2
            congr
            exact Array.ext_getElem? fun t => p3 t fun j _ hj _ _ => hall j hj
          refine .inr ⟨q, Nat.le_refl _, hq, hall, fun j hj => ?_, by rw [hTa]; exact hT w' hS'⟩
          rw [getD_set, if_neg (by omega)]
          exact htl j hj
    · refine ⟨fun hr => ?_, fun i hi => ?_⟩
      · rcases Nat.lt_or_ge m ops.size with hl | hl
        · have := hsome m hl (h2 m (Nat.le_refl _)) h1
          rw [hr] at this; cases this
        · obtain rfl : m = ops.size := by omega
          simpa [seqG] using h3
      · obtain ⟨o, ho, hu, ha⟩ := ready_spec hi
        have hlt := (Array.getElem?_eq_some_iff.1 ho).1
        have him : i = m := by
          rcases Nat.lt_trichotomy i m with h | h | h
          · have := h1 i h
            simp [Array.getD_eq_getD_getElem?, hsz ▸ hlt] at this hu
            rw [this] at hu; cases hu
          · exact h
          · have := hDi i o ho ha m (hok.tail i o ho (by omega) m h)
            rw [h2 m (Nat.le_refl _)] at this; cases this
        subst him
        rw [show ops.size - i = (ops.size - (i + 1)) + 1 by omega, List.range'_succ] at h3
        obtain ⟨n1, n2, n3⟩ := hnext i o ho hu ha
        refine hmono i _ _ a w (fun a' w' hk => ?_) h3
        refine ih _ a' w' n1 n2 n3 (.inr ⟨i + 1, by omega, by omega, fun j hj => ?_, fun j hj => ?_, hk⟩)
        · rw [getD_set]
          by_cases hij : i = j
          · rw [if_pos ⟨hij, by omega⟩]
          · rw [if_neg (fun h => hij h.1)]; exact h1 j (by omega)
        · rw [getD_set, if_neg (by omega)]; exact h2 j (by omega)
theorem put_get {a : Act} {d : Option Tmp} {u : Value} {t : Tmp} (h : d ≠ some t) : (a.put d u).tmps[t]? = a.tmps[t]? := by
  cases d with
  | none => rfl
  | some x => simp [Act.put, Array.getElem?_setIfInBounds_ne (fun e : x = t => h (by rw [e]))]
theorem put_get_same {a : Act} {u : Value} {t : Tmp} (h : t < a.tmps.size) : (a.put (some t) u).tmps[t]? = some u := by simp [Act.put, h]
theorem put_size {a : Act} {d : Option Tmp} {u : Value} : (a.put d u).tmps.size = a.tmps.size := by cases d <;> simp [Act.put]
theorem put_defers {a : Act} {d : Option Tmp} {u : Value} : (a.put d u).defers = a.defers := by cases d <;> rfl
theorem any_flow2 {e : Nat} {oe : Oper} {S1 : Value → World → Prop} (hoe : ops[e]? = some oe) (hok : FlowOk ops anc (e + 1))
    (hop0 : ∀ i o, i < e → ops[i]? = some o → ∀ (K : Act → World → Prop) (a : Act) (w : World), (∀ t ∈ o.looksAt ops, a.tmps[t]? = T.tmps[t]?) → a.tmps.size = T.tmps.size → a.defers = T.defers → S w →
      (∀ a' w', S w' → a'.tmps.size = T.tmps.size → a'.defers = T.defers → (∀ t, o.dst ≠ some t → a'.tmps[t]? = a.tmps[t]?) → (∀ t, o.dst = some t → a'.tmps[t]? = T.tmps[t]?) → K a' w') → op i K a w)
    (hev : ∀ (K : Act → World → Prop) (a : Act) (w : World), (∀ t ∈ oe.looksAt ops, a.tmps[t]? = T.tmps[t]?) → a.tmps.size = T.tmps.size → a.defers = T.defers → S w → (∀ u w', S1 u w' → K (a.put oe.dst u) w') → op e K a w)
    (hop1 : ∀ u i o, i < e → i ∉ anc.getD e [] → ops[i]? = some o → ∀ (K : Act → World → Prop) (a : Act) (w : World), (∀ t ∈ o.looksAt ops, a.tmps[t]? = (T.put oe.dst u).tmps[t]?) → a.tmps.size = (T.put oe.dst u).tmps.size → a.defers = (T.put oe.dst u).defers → S1 u w →
      (∀ a' w', S1 u w' → a'.tmps.size = (T.put oe.dst u).tmps.size → a'.defers = (T.put oe.dst u).defers → (∀ t, o.dst ≠ some t → a'.tmps[t]? = a.tmps[t]?) → (∀ t, o.dst = some t → a'.tmps[t]? = (T.put oe.dst u).tmps[t]?) → K a' w') → op i K a w)
    (hT : ∀ u w, S1 u w → seqG op Qn (List.range' (e + 1) (ops.size - (e + 1))) (T.put oe.dst u) w)
    (hmono : ∀ i K K' a w, (∀ a w, K a w → K' a w) → op i K a w → op i K' a w) :
    ∀ (fuel : Nat) (listed : Array Bool) (a : Act) (w : World), listed.size = ops.size → listed.toList.countP (! ·) ≤ fuel →
      (∀ i, listed.getD i false = true → ∀ j ∈ anc.getD i [], listed.getD j false = true) →
      (∀ j, e ≤ j → listed.getD j false = false) → Partly ops e listed T a → S w →
      anyG op ops Qn fuel listed a w := by
  have helt := (Array.getElem?_eq_some_iff.1 hoe).1
  intro fuel
  induction fuel with
  | zero =>
    intro listed a w hsz hc hI htl hP hS
    exfalso
    have h0 : listed.toList.countP (! ·) = 0 := by omega
    rw [List.countP_eq_zero] at h0
    have h1 := h0 listed[e] (by simp)
    have h2 := htl e (Nat.le_refl _)
    simp [Array.getD_eq_getD_getElem?, hsz ▸ helt] at h1 h2
    rw [h1] at h2; cases h2
  | succ fuel ih =>
    intro listed a w hsz hc hI htl hP hS
    have hDi : ∀ (i : Nat) (o : Oper), ops[i]? = some o → (∀ e ∈ o.after.toList, Region.binds .any e = true → listed.getD e.on false = true) → ∀ j ∈ anc.getD i [], listed.getD j false = true := fun i o ho h2 j hj => by
      obtain ⟨e, he, hb, h⟩ := hok.anc i o ho j hj
      rcases h with rfl | h
      · exact h2 e he hb
      · exact hI e.on (h2 e he hb) j h
    have hft : ∀ i, i < ops.size → listed.getD i false = false → listed.getD i true = false := fun i hi h => by
      simp [Array.getD_eq_getD_getElem?, hsz ▸ hi] at h ⊢; exact h
    have hsome : ∀ m, m < ops.size → listed.getD m false = false → (∀ j, j < m → listed.getD j false = true) → m ∈ Region.ready .any ops listed := fun m hm h1 h2 =>
      ready_mem (o := ops[m]) (by simp [hm]) (hft m hm h1) fun e he hb => h2 _ (hok.back m ops[m] (by simp [hm]) e he hb)
    have hnext : ∀ (i : Nat) (o : Oper), ops[i]? = some o → listed.getD i true = false → (∀ e ∈ o.after.toList, Region.binds .any e = true → listed.getD e.on false = true) →
        (listed.setIfInBounds i true).size = ops.size ∧ (listed.setIfInBounds i true).toList.countP (! ·) ≤ fuel ∧ (∀ k, (listed.setIfInBounds i true).getD k false = true → ∀ j ∈ anc.getD k [], (listed.setIfInBounds i true).getD j false = true) := fun i o ho h1 h2 => by
      have hlt := (Array.getElem?_eq_some_iff.1 ho).1
      have hlt' : i < listed.size := by omega
      refine ⟨by simpa using hsz, ?_, fun k hk j hj => ?_⟩
      · have hfi : listed.toList[i]'(by simpa using hlt') = false := by
          simp [Array.getD_eq_getD_getElem?, hlt'] at h1; simpa using h1
        have hset : (listed.setIfInBounds i true).toList = listed.toList.set i true := by simp
        rw [hset, List.countP_set (by simpa using hlt')]
        simp only [hfi, Bool.not_false, Bool.not_true, if_true, Bool.false_eq_true, if_false, Nat.add_zero]
        have : 0 < listed.toList.countP (! ·) := List.countP_pos_iff.2 ⟨listed.toList[i]'(by simpa using hlt'), List.getElem_mem _, by rw [hfi]; rfl⟩
        omega
      · rw [getD_set]
        rw [getD_set] at hk
        by_cases hji : i = j ∧ i < listed.size
        · rw [if_pos hji]
        · rw [if_neg hji]
          by_cases hki : i = k ∧ i < listed.size
          · obtain ⟨rfl, _⟩ := hki
            exact hDi i o ho h2 j hj
          · rw [if_neg hki] at hk
            exact hI k hk j hj
    refine ⟨fun hr => ?_, fun i hi => ?_⟩
    · exfalso
      have hex : ∀ n, (∃ j, j ≤ n ∧ listed.getD j false = false) → ∃ m, m ≤ n ∧ listed.getD m false = false ∧ ∀ j, j < m → listed.getD j false = true := by
        intro n
        induction n with
        | zero => rintro ⟨j, hj, h⟩; exact ⟨0, Nat.le_refl _, by obtain rfl : j = 0 := (by omega); exact h, fun _ h => absurd h (by omega)⟩
        | succ n ihn =>
          rintro ⟨j, hj, h⟩
          by_cases hx : ∃ j, j ≤ n ∧ listed.getD j false = false
          · obtain ⟨m, a, b⟩ := ihn hx; exact ⟨m, by omega, b⟩
          · refine ⟨n + 1, Nat.le_refl _, ?_, fun k hk => ?_⟩
            · rcases Nat.lt_or_ge n j with hl | hl
              · obtain rfl : j = n + 1 := (by omega); exact h
              · exact absurd ⟨j, hl, h⟩ hx
            · cases hv : listed.getD k false with
              | true => rfl
              | false => exact absurd ⟨k, by omega, hv⟩ hx
      obtain ⟨m, hm, hmf, hml⟩ := hex e ⟨e, Nat.le_refl _, htl e (Nat.le_refl _)⟩
      have := hsome m (by omega) hmf hml
      rw [hr] at this
      cases this
    · obtain ⟨o, ho, hu, ha⟩ := ready_spec hi
      have hlt := (Array.getElem?_eq_some_iff.1 ho).1
      obtain ⟨n1, n2, n3⟩ := hnext i o ho hu ha
      rcases Nat.lt_trichotomy i e with h | h | h
      · refine hop0 i o h ho _ a w (fun t ht => hP.same t fun j oj hjq hoj hd => hDi i o ho ha j (hok.looks i o ho t ht j oj (by omega) hoj hd)) hP.size hP.defers hS ?_
        intro a' w' hS' hsz' hdf' hoth hown
        refine ih _ a' w' n1 n2 n3 (fun j hj => ?_) ⟨hsz', hdf', fun t ht => ?_⟩ hS'
        · rw [getD_set, if_neg (by omega)]; exact htl j hj
        · by_cases hd : o.dst = some t
          · exact hown t hd
          · rw [hoth t hd]
            refine hP.same t fun j oj hj hoj hdj => ?_
            have := ht j oj hj hoj hdj
            rw [getD_set] at this
            by_cases hij : i = j ∧ i < listed.size
            · obtain ⟨rfl, _⟩ := hij
              rw [ho] at hoj; cases hoj; exact absurd hdj hd
            · rwa [if_neg hij] at this
      · subst h
        obtain rfl : oe = o := by rw [ho] at hoe; cases hoe; rfl
        refine hev _ a w (fun t ht => hP.same t fun j oj hjq hoj hd => hDi i _ ho ha j (hok.looks i _ ho t ht j oj (by omega) hoj hd)) hP.size hP.defers hS fun u w' hS' => ?_
        have hP' : Partly ops (i + 1) (listed.setIfInBounds i true) (T.put oe.dst u) (a.put oe.dst u) := by
          refine ⟨by rw [put_size, put_size]; exact hP.size, by rw [put_defers, put_defers]; exact hP.defers, fun t ht => ?_⟩
          by_cases hd : oe.dst = some t
          · rw [hd]
            by_cases hb : t < T.tmps.size
            · rw [put_get_same hb, put_get_same (by rw [hP.size]; exact hb)]
            · rw [Array.getElem?_eq_none (by rw [put_size, hP.size]; exact Nat.le_of_not_lt hb), Array.getElem?_eq_none (by rw [put_size]; exact Nat.le_of_not_lt hb)]
          · rw [put_get hd, put_get hd]
            refine hP.same t fun j oj hj hoj hdj => ?_
            have := ht j oj (by omega) hoj hdj
            rw [getD_set, if_neg (by omega)] at this
            exact this
        refine any_flow (T := T.put oe.dst u) (S := S1 u) (fun j => j < i ∧ j ∉ anc.getD i []) hok (by omega) (fun j oj hj hUj hoj => ?_) (fun w hS => hT u w hS) hmono fuel _ _ _ n1 n2 n3 ?_
        · exact hop1 u j oj hUj.1 hUj.2 hoj
        by_cases hx : ∃ j, j < i + 1 ∧ (listed.setIfInBounds i true).getD j false = false
        · refine .inl ⟨hx, fun j hj => ?_, hP', hS', fun j hj hf => ?_⟩
          · rw [getD_set, if_neg (by omega)]; exact htl j (by omega)
          · rw [getD_set] at hf
            by_cases hij : i = j ∧ i < listed.size
            · rw [if_pos hij] at hf; cases hf
            · rw [if_neg hij] at hf
              refine ⟨?_, fun hm => by rw [hDi i _ ho ha j hm] at hf; cases hf⟩
              have : j ≠ i := fun e => hij ⟨e.symm, by omega⟩
              omega
        · have hall : ∀ j, j < i + 1 → (listed.setIfInBounds i true).getD j false = true := fun j hj => by
            cases hv : (listed.setIfInBounds i true).getD j false with
            | true => rfl
            | false => exact absurd ⟨j, hj, hv⟩ hx
          have hTa : a.put oe.dst u = T.put oe.dst u := by
            generalize a.put oe.dst u = x at hP'
            generalize T.put oe.dst u = y at hP'
            obtain ⟨t1, d1⟩ := x
            obtain ⟨t2, d2⟩ := y
            obtain ⟨p1, p2, p3⟩ := hP'
            simp only at p1 p2 p3
            subst p2
            congr
            exact Array.ext_getElem? fun t => p3 t fun j _ hj _ _ => hall j hj
          refine .inr ⟨i + 1, Nat.le_refl _, by omega, hall, fun j hj => ?_, by rw [hTa]; exact hT u w' hS'⟩
          rw [getD_set, if_neg (by omega)]; exact htl j (by omega)
      · exfalso
        have := hDi i o ho ha e (hok.tail i o ho (by omega) e h)
        rw [htl e (Nat.le_refl _)] at this; cases this
end

theorem back_anc {ops : Array Oper} {anc : List (List Nat)} {q : Nat} (hok : FlowOk ops anc q) : ∀ (i : Nat) (o : Oper), ops[i]? = some o → ∀ j ∈ anc.getD i [], j < i := by
  intro i
  induction i using Nat.strongRecOn with
  | _ i ih =>
    intro o ho j hj
    obtain ⟨e, he, hb, h⟩ := hok.anc i o ho j hj
    have hlt := hok.back i o ho e he hb
    rcases h with rfl | h
    · exact hlt
    · have hsz := (Array.getElem?_eq_some_iff.1 ho).1
      have := ih e.on hlt ops[e.on] (by simp) j h
      omega

theorem anyG_wp {P : Program} {ops : Array Oper} {Q : Exit → Act → World → Prop} : ∀ (fuel : Nat) (listed : Array Bool) (a : Act) (w : World), anyG (wpOp P ops Q) ops (Q .normal) fuel listed a w → wpAny P .any ops Q fuel listed a w
  | 0, _, _, _, h => h
  | fuel + 1, _, _, _, h => ⟨h.1, fun i hi => wpOp_mono (fun a w => anyG_wp fuel _ a w) (h.2 i hi)⟩
theorem seqG_wp {P : Program} {ops : Array Oper} {Q : Exit → Act → World → Prop} : ∀ (l : List Nat) (a : Act) (w : World), wpOps P ops Q l a w → seqG (wpOp P ops Q) (Q .normal) l a w
  | [], _, _, h => h
  | i :: r, a, w, h => by rw [wpOps_cons] at h; exact wpOp_mono (fun a w => seqG_wp r a w) h
def FlowOp (P : Program) (ops : Array Oper) (S : World → Prop) (T : Act) (o : Oper) : Prop :=
  if Region.wanted o (yielded ops T.tmps) = true then
    ∀ W, S W → ∃ v, (∀ d, o.dst = some d → T.tmps[d]? = some v) ∧
      ((∃ W', (execOp T.eval o).run P W = .ok (.value v) W' ∧ S W') ∨
       (∃ f args W', (execOp T.eval o).run P W = .ok (.enter f args) W' ∧ Calls P f args W' fun e W'' => e = .returned v ∧ S W'') ∨
       (∃ W', o.dst = none ∧ (execOp T.eval o).run P W = .ok .skip W' ∧ S W'))
  else ∀ d, o.dst = some d → T.tmps[d]? = some undef

theorem eval_of_looks {ops : Array Oper} {o : Oper} {a T : Act} (h : ∀ t ∈ o.looksAt ops, a.tmps[t]? = T.tmps[t]?) : ∀ x ∈ o.op.operands, a.eval x = T.eval x := fun x hx => by
  cases x with
  | tmp t =>
    have := h t (List.mem_append_left _ (List.mem_filterMap.2 ⟨.tmp t, by simpa using hx, rfl⟩))
    simp [Act.eval, Array.getD_eq_getD_getElem?, this]
  | const v => rfl
  | global g => rfl
  | func f => rfl

theorem wanted_of_looks {ops : Array Oper} {o : Oper} {a T : Act} (h : ∀ t ∈ o.looksAt ops, a.tmps[t]? = T.tmps[t]?) : Region.wanted o (yielded ops a.tmps) = Region.wanted o (yielded ops T.tmps) := by
  unfold Region.wanted
  cases hg : o.guard with
  | none => rfl
  | some gw =>
    obtain ⟨g, want⟩ := gw
    have : yielded ops a.tmps g = yielded ops T.tmps g := by
      unfold yielded
      cases ht : (ops[g]?).bind (·.dst) with
      | none => rfl
      | some t => simp only [Option.bind_some]; rw [h t (by simp [Oper.looksAt, hg, ht])]
    simp only [this]

theorem put_is {a T : Act} {o : Oper} {v : Value} (hs : a.tmps.size = T.tmps.size) (hd : a.defers = T.defers) (hv : ∀ d, o.dst = some d → T.tmps[d]? = some v) :
    (a.put o.dst v).tmps.size = T.tmps.size ∧ (a.put o.dst v).defers = T.defers ∧ (∀ t, o.dst ≠ some t → (a.put o.dst v).tmps[t]? = a.tmps[t]?) ∧ (∀ t, o.dst = some t → (a.put o.dst v).tmps[t]? = T.tmps[t]?) := by
  cases ho : o.dst with
  | none => exact ⟨hs, hd, fun _ _ => rfl, fun _ h => by cases h⟩
  | some d =>
    refine ⟨by simpa [Act.put] using hs, hd, fun t ht => ?_, fun t ht => ?_⟩
    · simp [Act.put, Array.getElem?_setIfInBounds_ne (fun e : d = t => ht (by rw [e]))]
    · cases ht
      have h1 := hv d ho
      rw [h1]
      have : d < a.tmps.size := by rw [hs]; exact (Array.getElem?_eq_some_iff.1 h1).1
      simp [Act.put, this]

theorem plain_select {o : Oper} (h : Op.plainOp o.op = true) : ∀ cs b, o.op ≠ .select cs b := fun cs b e => by rw [e] at h; cases h
theorem flow_op {P : Program} {ops : Array Oper} {Q : Exit → Act → World → Prop} {S : World → Prop} {T : Act} {i : Nat} {o : Oper} (ho : ops[i]? = some o) (hpl : Op.plainOp o.op = true) (hf : FlowOp P ops S T o)
    {K : Act → World → Prop} {a : Act} {w : World} (hl : ∀ t ∈ o.looksAt ops, a.tmps[t]? = T.tmps[t]?) (hs : a.tmps.size = T.tmps.size) (hd : a.defers = T.defers) (hS : S w)
    (hK : ∀ a' w', S w' → a'.tmps.size = T.tmps.size → a'.defers = T.defers → (∀ t, o.dst ≠ some t → a'.tmps[t]? = a.tmps[t]?) → (∀ t, o.dst = some t → a'.tmps[t]? = T.tmps[t]?) → K a' w') : wpOp P ops Q i K a w := by
  unfold wpOp
  simp only [ho]
  unfold FlowOp at hf
  rw [wanted_of_looks hl]
  by_cases hw : Region.wanted o (yielded ops T.tmps) = true
  · rw [if_pos hw] at hf ⊢
    refine .inl ?_
    obtain ⟨v, hv, h⟩ := hf w hS
    obtain ⟨p1, p2, p3, p4⟩ := put_is (a := a) (o := o) hs hd hv
    unfold Oper.wp
    rw [execOp_congr o (plain_select hpl) (eval_of_looks hl)]
    rcases h with ⟨W', hr, hS'⟩ | ⟨f, args, W', hr, hc⟩ | ⟨W', hn, hr, hS'⟩
    · rw [hr]; exact hK _ _ hS' p1 p2 p3 p4
    · rw [hr]
      refine hc.mono fun e W'' he => ?_
      obtain ⟨rfl, hS''⟩ := he
      exact hK _ _ hS'' p1 p2 p3 p4
    · rw [hr]
      have q := fun v => put_is (a := a) (o := o) (v := v) hs hd (fun d h => by rw [hn] at h; cases h)
      exact hK _ _ hS' (q _).1 (q _).2.1 (q _).2.2.1 (q _).2.2.2
  · rw [if_neg hw] at hf
    rw [if_neg hw]
    obtain ⟨p1, p2, p3, p4⟩ := put_is (a := a) (o := o) (v := undef) hs hd hf
    exact hK _ _ hS p1 p2 p3 p4

def Ahead (ops : Array Oper) (q : Nat) (T a : Act) : Prop := a.tmps.size = T.tmps.size ∧ a.defers = T.defers ∧ ∀ t : Tmp, (∀ (j : Nat) (o : Oper), j < q → ops[j]? = some o → o.dst ≠ some t) → a.tmps[t]? = T.tmps[t]?

theorem start_of {ops : Array Oper} {q : Nat} {S : World → Prop} {T a : Act} {w : World} (hq0 : 0 < q) (hA : Ahead ops q T a) (hS : S w) :
    ((∃ j, j < q ∧ (Array.replicate ops.size false).getD j false = false) ∧ (∀ j, q ≤ j → (Array.replicate ops.size false).getD j false = false) ∧ Partly ops q (Array.replicate ops.size false) T a ∧ S w ∧ (∀ j, j < q → (Array.replicate ops.size false).getD j false = false → True)) := by
  have hf : ∀ j, (Array.replicate ops.size false).getD j false = false := fun j => by
    simp [Array.getD_eq_getD_getElem?, Array.getElem?_replicate]
    split <;> rfl
  refine ⟨⟨0, hq0, hf 0⟩, fun j _ => hf j, ⟨hA.1, hA.2.1, fun t ht => hA.2.2 t fun j o hj ho hd => ?_⟩, hS, fun _ _ _ => trivial⟩
  have := ht j o hj ho hd
  rw [hf j] at this; cases this

theorem range_drop {ops : Array Oper} {q : Nat} : List.range' q (ops.size - q) = List.range' q (ops.toList.drop q).length := by simp
theorem drop_get {ops : Array Oper} (q : Nat) : ∀ j, (ops.toList.drop q)[j]? = ops[q + j]? := fun j => by simp
theorem wp_flow {P : Program} {id : Nat} {ops : Array Oper} {Q : Exit → Act → World → Prop} {a : Act} {w : World} (anc : List (List Nat)) (q : Nat) (S : World → Prop) (T : Act)
    (hm : P.follows .mixedOrders = true) (hb : flowB ops anc q = true) (hq : (decide (0 < q) && decide (q ≤ ops.size)) = true) (hA : Ahead ops q T a) (hS : S w.drew)
    (hop : ∀ i o, i < q → ops[i]? = some o → FlowOp P ops S T o) {tl : List Oper} (htl : ops.toList.drop q = tl) (hT : ∀ w, S w → wpList P ops Q tl T w) :
    (Code.region id ops true).wp P Q a w := by
  simp only [Bool.and_eq_true, decide_eq_true_eq] at hq
  have hok := FlowOk.of hb
  refine wp_region_any hm (anyG_wp _ _ _ _ (any_flow (T := T) (S := S) (fun _ => True) hok hq.2 (fun i o hi _ ho K a w hl hs hd hS hK => flow_op ho (hok.plain i o ho) (hop i o hi ho) hl hs hd hS hK) (fun w hS => seqG_wp _ _ _ (by rw [range_drop, wpOps_eq_wpList _ _ (drop_get q), htl]; exact hT w hS)) (fun i K K' a w h => wpOp_mono h) _ _ _ _ (by simp) (by simp [List.countP_replicate]) (fun i hi => ?_) (.inl (start_of hq.1 hA hS))))
  exfalso
  simp [Array.getD_eq_getD_getElem?, Array.getElem?_replicate] at hi
  split at hi <;> simp at hi

def AllFlow (P : Program) (ops : Array Oper) (S : World → Prop) (T : Act) : List Oper → Prop
  | [] => True
  | o :: r => FlowOp P ops S T o ∧ AllFlow P ops S T r
theorem AllFlow.of {P : Program} {ops : Array Oper} {S : World → Prop} {T : Act} : ∀ {l : List Oper}, AllFlow P ops S T l → ∀ (i : Nat) (o : Oper), l[i]? = some o → FlowOp P ops S T o
  | [], _, i, o, h => by simp at h
  | x :: r, h, 0, o, ho => by simp at ho; subst ho; exact h.1
  | x :: r, h, i + 1, o, ho => AllFlow.of h.2 i o (by simpa using ho)
theorem AllFlow.ops {P : Program} {ops : Array Oper} {S : World → Prop} {T : Act} {q : Nat} {l : List Oper} (hl : ops.toList.take q = l) (h : AllFlow P ops S T l) : ∀ i o, i < q → ops[i]? = some o → FlowOp P ops S T o := fun i o hi ho => by
  subst hl
  refine AllFlow.of h i o ?_
  rw [List.getElem?_take_of_lt hi]
  simpa using ho
theorem FlowOp.val {P : Program} {ops : Array Oper} {S : World → Prop} {T : Act} {o : Oper} (N : Tmp) (v : Value) (hd : o.dst = some N) (hv : T.tmps[N]? = some v) (hr : ∀ W, S W → (execOp T.eval o).run P W = .ok (.value v) W) (hw : Region.wanted o (yielded ops T.tmps) = true := by rfl) : FlowOp P ops S T o := by
  unfold FlowOp
  rw [if_pos hw]
  exact fun W hS => ⟨v, fun d h => by rw [hd] at h; cases h; exact hv, .inl ⟨W, hr W hS, hS⟩⟩
theorem FlowOp.call {P : Program} {ops : Array Oper} {S : World → Prop} {T : Act} {o : Oper} (N : Tmp) (v : Value) (f : FuncId) (args : Array Value) (hd : o.dst = some N) (hv : T.tmps[N]? = some v) (hr : ∀ W, S W → (execOp T.eval o).run P W = .ok (.enter f args) W)
    (hc : ∀ W, S W → Calls P f args W fun e W'' => e = .returned v ∧ S W'') (hw : Region.wanted o (yielded ops T.tmps) = true := by rfl) : FlowOp P ops S T o := by
  unfold FlowOp
  rw [if_pos hw]
  exact fun W hS => ⟨v, fun d h => by rw [hd] at h; cases h; exact hv, .inr (.inl ⟨f, args, W, hr W hS, hc W hS⟩)⟩
theorem FlowOp.store {P : Program} {ops : Array Oper} {S : World → Prop} {T : Act} {o : Oper} (hd : o.dst = none) (hr : ∀ W, S W → ∃ W', (execOp T.eval o).run P W = .ok .skip W' ∧ S W') (hw : Region.wanted o (yielded ops T.tmps) = true := by rfl) : FlowOp P ops S T o := by
  unfold FlowOp
  rw [if_pos hw]
  intro W hS
  obtain ⟨W', h1, h2⟩ := hr W hS
  exact ⟨undef, fun d h => (by rw [hd] at h; cases h), .inr (.inr ⟨W', hd, h1, h2⟩)⟩
theorem FlowOp.off {P : Program} {ops : Array Oper} {S : World → Prop} {T : Act} {o : Oper} (N : Tmp) (hd : o.dst = some N) (hv : T.tmps[N]? = some undef) (hw : Region.wanted o (yielded ops T.tmps) = false := by rfl) : FlowOp P ops S T o := by
  unfold FlowOp
  rw [if_neg (by simp [hw])]
  exact fun d h => by rw [hd] at h; cases h; exact hv
def aheadB (ops : Array Oper) (q n : Nat) : List Tmp := (List.range n).filter fun t => (List.range q).all fun j => match ops[j]? with | some o => o.dst != some t | none => true
theorem Ahead.of {ops : Array Oper} {q : Nat} {T a : Act} (l : List Tmp) (hs : a.tmps.size = T.tmps.size) (hd : a.defers = T.defers) (hl : aheadB ops q T.tmps.size = l) (h : ∀ t ∈ l, a.tmps[t]? = T.tmps[t]?) : Ahead ops q T a := by
  refine ⟨hs, hd, fun t ht => ?_⟩
  rcases Nat.lt_or_ge t T.tmps.size with hlt | hge
  · refine h t ?_
    rw [← hl, aheadB, List.mem_filter]
    refine ⟨List.mem_range.2 hlt, List.all_eq_true.2 fun j hj => ?_⟩
    cases ho : ops[j]? with
    | none => rfl
    | some o => simpa using ht j o (List.mem_range.1 hj) ho
  · rw [Array.getElem?_eq_none (by omega), Array.getElem?_eq_none (by omega)]

def EventOp (P : Program) (ops : Array Oper) (S : World → Prop) (S1 : Value → World → Prop) (T : Act) (o : Oper) : Prop :=
  Region.wanted o (yielded ops T.tmps) = true ∧ ∀ W, S W → ∃ u W', (execOp T.eval o).run P W = .ok (.value u) W' ∧ S1 u W'
def LookOp (P : Program) (ops : Array Oper) (S : World → Prop) (T : Act) (o : Oper) : Prop :=
  Region.wanted o (yielded ops T.tmps) = true ∧ ∀ W, S W → ∃ v, (∀ d, o.dst = some d → T.tmps[d]? = some v) ∧ (execOp T.eval o).run P W = .ok (.value v) W
theorem LookOp.val {P : Program} {ops : Array Oper} {S : World → Prop} {T : Act} {o : Oper} (N : Tmp) (v : Value) (hd : o.dst = some N) (hv : T.tmps[N]? = some v) (hr : ∀ W, S W → (execOp T.eval o).run P W = .ok (.value v) W) (hw : Region.wanted o (yielded ops T.tmps) = true := by rfl) : LookOp P ops S T o :=
  ⟨hw, fun W hS => ⟨v, fun d h => by rw [hd] at h; cases h; exact hv, hr W hS⟩⟩
theorem LookOp.flow {P : Program} {ops : Array Oper} {S : World → Prop} {T : Act} {o : Oper} (h : LookOp P ops S T o) : FlowOp P ops S T o := by
  unfold FlowOp
  rw [if_pos h.1]
  exact fun W hS => let ⟨v, h1, h2⟩ := h.2 W hS; ⟨v, h1, .inl ⟨W, h2, hS⟩⟩
theorem LookOp.behind {P : Program} {ops : Array Oper} {S : World → Prop} {S1 : World → Prop} {T : Act} {o : Oper} {D : Option Tmp} {u : Value} (hS : ∀ W, S1 W → S W) (h : LookOp P ops S T o) (hl : ∀ t ∈ o.looksAt ops, D ≠ some t) (hne : ∀ d, o.dst = some d → D ≠ some d) (hpl : Op.plainOp o.op = true) : FlowOp P ops S1 (T.put D u) o := by
  have he : ∀ t ∈ o.looksAt ops, (T.put D u).tmps[t]? = T.tmps[t]? := fun t ht => put_get (hl t ht)
  unfold FlowOp
  rw [wanted_of_looks he, if_pos h.1]
  intro W hW
  obtain ⟨v, h1, h2⟩ := h.2 W (hS W hW)
  refine ⟨v, fun d hd => by rw [put_get (hne d hd)]; exact h1 d hd, .inl ⟨W, ?_, hW⟩⟩
  rw [execOp_congr o (plain_select hpl) (eval_of_looks he)]
  exact h2
def EachOp (P : Program) (ops : Array Oper) (S : World → Prop) (T : Act) (as : List Nat) : Nat → List Oper → Prop
  | _, [] => True
  | i, o :: r => ((i ∈ as ∧ FlowOp P ops S T o) ∨ LookOp P ops S T o) ∧ EachOp P ops S T as (i + 1) r
theorem EachOp.get {P : Program} {ops : Array Oper} {S : World → Prop} {T : Act} {as : List Nat} : ∀ {l : List Oper} {k : Nat}, EachOp P ops S T as k l → ∀ (i : Nat) (o : Oper), l[i]? = some o → (k + i ∈ as ∧ FlowOp P ops S T o) ∨ LookOp P ops S T o
  | [], _, _, i, o, h => by simp at h
  | x :: r, k, h, 0, o, ho => by simp at ho; subst ho; exact h.1
  | x :: r, k, h, i + 1, o, ho => by
    have := EachOp.get h.2 i o (by simpa using ho)
    rwa [Nat.add_right_comm, Nat.add_assoc] at this
theorem EachOp.ops {P : Program} {ops : Array Oper} {S : World → Prop} {T : Act} {as : List Nat} {q : Nat} {l : List Oper} (hl : ops.toList.take q = l) (h : EachOp P ops S T as 0 l) : ∀ i o, i < q → ops[i]? = some o → (i ∈ as ∧ FlowOp P ops S T o) ∨ LookOp P ops S T o := fun i o hi ho => by
  subst hl
  have := EachOp.get h i o (by rw [List.getElem?_take_of_lt hi]; simpa using ho)
  rwa [Nat.zero_add] at this
end Go.Proofs.Ytbmkbokkmmdjdaa
end
