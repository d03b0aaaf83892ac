-- FX C2 C3 (wip/pack9.py)
import Derived.Test.YtbmkbokkmmdjdaaV16
import Derived.Test.YtbmkbokkmmdjdaaV17
section
namespace Go.Proofs.Ytbmkbokkmmdjdaa
open Go.RowKit Go.Proofs.YtbmkbokkmmdjdaaW.PrintWords Go.Proofs.YtbmkbokkmmdjdaaW.PrintLast Go.Proofs.YtbmkbokkmmdjdaaW.PrintMore
open Q Go.Shelf
attribute [local go_sem] Oper.semAt_some wide_depth wide_fn
set_option linter.unusedVariables false
set_option linter.unusedSimpArgs false
section
variable {op : Nat → (Act → World → Prop) → Act → World → Prop} {ops : Array Oper} {anc : List (List Nat)} {q : Nat} {Qn : Act → World → Prop} {S : World → Prop} {T : Act}
theorem any_flow4 {e : Nat} {oe : Oper} {S1 : Value → World → Prop} (hoe : ops[e]? = some oe) (heq : e < q) (hqs : q ≤ ops.size) (hok : FlowOk ops anc q)
    (hop0 : ∀ i o, i < q → i ≠ e → ops[i]? = some o → ∀ (K : Act → World → Prop) (a : Act) (w : World), (∀ t ∈ o.looksAt ops, a.tmps[t]? = T.tmps[t]?) → a.tmps.size = T.tmps.size → a.defers = T.defers → S w →
      (∀ a' w', S w' → a'.tmps.size = T.tmps.size → a'.defers = T.defers → (∀ t, o.dst ≠ some t → a'.tmps[t]? = a.tmps[t]?) → (∀ t, o.dst = some t → a'.tmps[t]? = T.tmps[t]?) → K a' w') → op i K a w)
    (hev : ∀ (K : Act → World → Prop) (a : Act) (w : World), (∀ t ∈ oe.looksAt ops, a.tmps[t]? = T.tmps[t]?) → a.tmps.size = T.tmps.size → a.defers = T.defers → S w → (∀ u w', S1 u w' → K (a.put oe.dst u) w') → op e K a w)
    (hop1 : ∀ u i o, i < q → i ≠ e → i ∉ anc.getD e [] → ops[i]? = some o → ∀ (K : Act → World → Prop) (a : Act) (w : World), (∀ t ∈ o.looksAt ops, a.tmps[t]? = (T.put oe.dst u).tmps[t]?) → a.tmps.size = (T.put oe.dst u).tmps.size → a.defers = (T.put oe.dst u).defers → S1 u w →
      (∀ a' w', S1 u w' → a'.tmps.size = (T.put oe.dst u).tmps.size → a'.defers = (T.put oe.dst u).defers → (∀ t, o.dst ≠ some t → a'.tmps[t]? = a.tmps[t]?) → (∀ t, o.dst = some t → a'.tmps[t]? = (T.put oe.dst u).tmps[t]?) → K a' w') → op i K a w)
    (hT : ∀ u w, S1 u w → seqG op Qn (List.range' q (ops.size - q)) (T.put oe.dst u) w)
    (hmono : ∀ i K K' a w, (∀ a w, K a w → K' a w) → op i K a w → op i K' a w) :
    ∀ (fuel : Nat) (listed : Array Bool) (a : Act) (w : World), listed.size = ops.size → listed.toList.countP (! ·) ≤ fuel →
      (∀ i, listed.getD i false = true → ∀ j ∈ anc.getD i [], listed.getD j false = true) →
      (∀ j, q ≤ j → listed.getD j false = false) → listed.getD e false = false → Partly ops q listed T a → S w →
      anyG op ops Qn fuel listed a w := by
  have helt := (Array.getElem?_eq_some_iff.1 hoe).1
  intro fuel
  induction fuel with
  | zero =>
    intro listed a w hsz hc hI htl hte hP hS
    exfalso
    have h0 : listed.toList.countP (! ·) = 0 := by omega
    rw [List.countP_eq_zero] at h0
    have h1 := h0 listed[e] (by simp)
    have h2 := hte
    simp [Array.getD_eq_getD_getElem?, hsz ▸ helt] at h1 h2
    rw [h1] at h2; cases h2
  | succ fuel ih =>
    intro listed a w hsz hc hI htl hte hP hS
    have hDi : ∀ (i : Nat) (o : Oper), ops[i]? = some o → (∀ e ∈ o.after.toList, Region.binds .any e = true → listed.getD e.on false = true) → ∀ j ∈ anc.getD i [], listed.getD j false = true := fun i o ho h2 j hj => by
      obtain ⟨e, he, hb, h⟩ := hok.anc i o ho j hj
      rcases h with rfl | h
      · exact h2 e he hb
      · exact hI e.on (h2 e he hb) j h
    have hft : ∀ i, i < ops.size → listed.getD i false = false → listed.getD i true = false := fun i hi h => by
      simp [Array.getD_eq_getD_getElem?, hsz ▸ hi] at h ⊢; exact h
    have hsome : ∀ m, m < ops.size → listed.getD m false = false → (∀ j, j < m → listed.getD j false = true) → m ∈ Region.ready .any ops listed := fun m hm h1 h2 =>
      ready_mem (o := ops[m]) (by simp [hm]) (hft m hm h1) fun e he hb => h2 _ (hok.back m ops[m] (by simp [hm]) e he hb)
    have hnext : ∀ (i : Nat) (o : Oper), ops[i]? = some o → listed.getD i true = false → (∀ e ∈ o.after.toList, Region.binds .any e = true → listed.getD e.on false = true) →
        (listed.setIfInBounds i true).size = ops.size ∧ (listed.setIfInBounds i true).toList.countP (! ·) ≤ fuel ∧ (∀ k, (listed.setIfInBounds i true).getD k false = true → ∀ j ∈ anc.getD k [], (listed.setIfInBounds i true).getD j false = true) := fun i o ho h1 h2 => by
      have hlt := (Array.getElem?_eq_some_iff.1 ho).1
      have hlt' : i < listed.size := by omega
      refine ⟨by simpa using hsz, ?_, fun k hk j hj => ?_⟩
      · have hfi : listed.toList[i]'(by simpa using hlt') = false := by
          simp [Array.getD_eq_getD_getElem?, hlt'] at h1; simpa using h1
        have hset : (listed.setIfInBounds i true).toList = listed.toList.set i true := by simp
        rw [hset, List.countP_set (by simpa using hlt')]
        simp only [hfi, Bool.not_false, Bool.not_true, if_true, Bool.false_eq_true, if_false, Nat.add_zero]
        have : 0 < listed.toList.countP (! ·) := List.countP_pos_iff.2 ⟨listed.toList[i]'(by simpa using hlt'), List.getElem_mem _, by rw [hfi]; rfl⟩
        omega
      · rw [getD_set]
        rw [getD_set] at hk
        by_cases hji : i = j ∧ i < listed.size
        · rw [if_pos hji]
        · rw [if_neg hji]
          by_cases hki : i = k ∧ i < listed.size
          · obtain ⟨rfl, _⟩ := hki
            exact hDi i o ho h2 j hj
          · rw [if_neg hki] at hk
            exact hI k hk j hj
    refine ⟨fun hr => ?_, fun i hi => ?_⟩
    · exfalso
      have hex : ∀ n, (∃ j, j ≤ n ∧ listed.getD j false = false) → ∃ m, m ≤ n ∧ listed.getD m false = false ∧ ∀ j, j < m → listed.getD j false = true := by
        intro n
        induction n with
        | zero => rintro ⟨j, hj, h⟩; exact ⟨0, Nat.le_refl _, by obtain rfl : j = 0 := (by omega); exact h, fun _ h => absurd h (by omega)⟩
        | succ n ihn =>
          rintro ⟨j, hj, h⟩
          by_cases hx : ∃ j, j ≤ n ∧ listed.getD j false = false
          · obtain ⟨m, a, b⟩ := ihn hx; exact ⟨m, by omega, b⟩
          · refine ⟨n + 1, Nat.le_refl _, ?_, fun k hk => ?_⟩
            · rcases Nat.lt_or_ge n j with hl | hl
              · obtain rfl : j = n + 1 := (by omega); exact h
              · exact absurd ⟨j, hl, h⟩ hx
            · cases hv : listed.getD k false with
              | true => rfl
              | false => exact absurd ⟨k, by omega, hv⟩ hx
      obtain ⟨m, hm, hmf, hml⟩ := hex e ⟨e, Nat.le_refl _, hte⟩
      have := hsome m (by omega) hmf hml
      rw [hr] at this
      cases this
    · obtain ⟨o, ho, hu, ha⟩ := ready_spec hi
      have hlt := (Array.getElem?_eq_some_iff.1 ho).1
      obtain ⟨n1, n2, n3⟩ := hnext i o ho hu ha
      by_cases hie : i = e
      · subst hie
        obtain rfl : oe = o := by rw [ho] at hoe; cases hoe; rfl
        refine hev _ a w (fun t ht => hP.same t fun j oj hjq hoj hd => hDi i _ ho ha j (hok.looks i _ ho t ht j oj hjq hoj hd)) hP.size hP.defers hS fun u w' hS' => ?_
        have hP' : Partly ops q (listed.setIfInBounds i true) (T.put oe.dst u) (a.put oe.dst u) := by
          refine ⟨by rw [put_size, put_size]; exact hP.size, by rw [put_defers, put_defers]; exact hP.defers, fun t ht => ?_⟩
          by_cases hd : oe.dst = some t
          · rw [hd]
            by_cases hb : t < T.tmps.size
            · rw [put_get_same hb, put_get_same (by rw [hP.size]; exact hb)]
            · rw [Array.getElem?_eq_none (by rw [put_size, hP.size]; exact Nat.le_of_not_lt hb), Array.getElem?_eq_none (by rw [put_size]; exact Nat.le_of_not_lt hb)]
          · rw [put_get hd, put_get hd]
            refine hP.same t fun j oj hj hoj hdj => ?_
            have hji : j ≠ i := fun h => by subst h; rw [ho] at hoj; cases hoj; exact hd hdj
            have := ht j oj hj hoj hdj
            rw [getD_set, if_neg (fun h => hji h.1.symm)] at this
            exact this
        refine any_flow (T := T.put oe.dst u) (S := S1 u) (fun j => j < q ∧ j ≠ i ∧ j ∉ anc.getD i []) hok hqs (fun j oj hj hUj hoj => ?_) (fun w hS => hT u w hS) hmono fuel _ _ _ n1 n2 n3 ?_
        · exact hop1 u j oj hUj.1 hUj.2.1 hUj.2.2 hoj
        by_cases hx : ∃ j, j < q ∧ (listed.setIfInBounds i true).getD j false = false
        · refine .inl ⟨hx, fun j hj => ?_, hP', hS', fun j hj hf => ?_⟩
          · rw [getD_set, if_neg (by omega)]; exact htl j (by omega)
          · rw [getD_set] at hf
            by_cases hij : i = j ∧ i < listed.size
            · rw [if_pos hij] at hf; cases hf
            · rw [if_neg hij] at hf
              refine ⟨hj, fun e => hij ⟨e.symm, by omega⟩, fun hm => by rw [hDi i _ ho ha j hm] at hf; cases hf⟩
        · have hall : ∀ j, j < q → (listed.setIfInBounds i true).getD j false = true := fun j hj => by
            cases hv : (listed.setIfInBounds i true).getD j false with
            | true => rfl
            | false => exact absurd ⟨j, hj, hv⟩ hx
          have hTa : a.put oe.dst u = T.put oe.dst u := by
            generalize a.put oe.dst u = x at hP'
            generalize T.put oe.dst u = y at hP'
            obtain ⟨t1, d1⟩ := x
            obtain ⟨t2, d2⟩ := y
            obtain ⟨p1, p2, p3⟩ := hP'
            simp only at p1 p2 p3
            subst p2
            congr
            exact Array.ext_getElem? fun t => p3 t fun j _ hj _ _ => hall j hj
          refine .inr ⟨q, Nat.le_refl _, hqs, hall, fun j hj => ?_, by rw [hTa]; exact hT u w' hS'⟩
          rw [getD_set, if_neg (by omega)]; exact htl j (by omega)
      · rcases Nat.lt_or_ge i q with h | h
        · refine hop0 i o h hie ho _ a w (fun t ht => hP.same t fun j oj hjq hoj hd => hDi i o ho ha j (hok.looks i o ho t ht j oj hjq hoj hd)) hP.size hP.defers hS ?_
          intro a' w' hS' hsz' hdf' hoth hown
          refine ih _ a' w' n1 n2 n3 (fun j hj => ?_) ?_ ⟨hsz', hdf', fun t ht => ?_⟩ hS'
          · rw [getD_set, if_neg (by omega)]; exact htl j hj
          · rw [getD_set, if_neg (by omega)]; exact hte
          · by_cases hd : o.dst = some t
            · exact hown t hd
            · rw [hoth t hd]
              refine hP.same t fun j oj hj hoj hdj => ?_
              have := ht j oj hj hoj hdj
              rw [getD_set] at this
              by_cases hij : i = j ∧ i < listed.size
              · obtain ⟨rfl, _⟩ := hij
                rw [ho] at hoj; cases hoj; exact absurd hdj hd
              · rwa [if_neg hij] at this
        · exfalso
          have := hDi i o ho ha e (hok.tail i o ho h e (by omega))
          rw [hte] at this; cases this
end
def EachOp4 (P : Program) (ops : Array Oper) (S : World → Prop) (S1 : Value → World → Prop) (T : Act) (bs : List Nat) (e : Nat) : Nat → List Oper → Prop
  | _, [] => True
  | i, o :: r => (i = e ∨ (i ∈ bs ∧ FlowOp P ops S T o) ∨ EitherOp P ops S S1 T o) ∧ EachOp4 P ops S S1 T bs e (i + 1) r
theorem EachOp4.get {P : Program} {ops : Array Oper} {S : World → Prop} {S1 : Value → World → Prop} {T : Act} {bs : List Nat} {e : Nat} : ∀ {l : List Oper} {k : Nat}, EachOp4 P ops S S1 T bs e k l → ∀ (i : Nat) (o : Oper), k + i ≠ e → l[i]? = some o → (k + i ∈ bs ∧ FlowOp P ops S T o) ∨ EitherOp P ops S S1 T o
  | [], _, _, i, o, _, ho => by simp at ho
  | x :: l, k, h, 0, o, hne, ho => by
    simp at ho; subst ho
    rcases h.1 with h1 | h1
    · exact absurd h1 hne
    · exact h1
  | x :: l, k, h, i + 1, o, hne, ho => by
    have := EachOp4.get h.2 i o (by omega) (by simpa using ho)
    rwa [show k + 1 + i = k + (i + 1) by omega] at this
theorem EachOp4.ops {P : Program} {ops : Array Oper} {S : World → Prop} {S1 : Value → World → Prop} {T : Act} {bs : List Nat} {e q : Nat} {l : List Oper} (hl : ops.toList.take q = l) (h : EachOp4 P ops S S1 T bs e 0 l) : ∀ i o, i < q → i ≠ e → ops[i]? = some o → (i ∈ bs ∧ FlowOp P ops S T o) ∨ EitherOp P ops S S1 T o := fun i o hi hne ho => by
  have h1 : l[i]? = some o := by rw [← hl, List.getElem?_take, if_pos hi, Array.getElem?_toList]; exact ho
  have := EachOp4.get h i o (by omega) h1
  rwa [Nat.zero_add] at this
theorem wp_flow10 {P : Program} {id : Nat} {ops : Array Oper} {Q : Exit → Act → World → Prop} {a : Act} {w : World} (anc : List (List Nat)) (e q : Nat) (S : World → Prop) (S1 : Value → World → Prop) (T : Act) {oe : Oper}
    (hm : P.follows .mixedOrders = true) (hb : flowB ops anc q = true) (hoe : ops[e]? = some oe) (hc : (decide (e < q) && (decide (q ≤ ops.size) && ((List.range q).all fun i => !((anc.getD i []).contains e)))) = true) (hA : Ahead ops q T a) (hS : S w.drew)
    (hop : ∀ i o, i < q → i ≠ e → ops[i]? = some o → (i ∈ anc.getD e [] ∧ FlowOp P ops S T o) ∨ EitherOp P ops S S1 T o) (hev : CallOp P ops S S1 T oe)
    {tl : List Oper} (htl : ops.toList.drop q = tl) (hT : ∀ u w, S1 u w → wpList P ops Q tl (T.put oe.dst u) w) :
    (Code.region id ops true).wp P Q a w := by
  have hok := FlowOk.of hb
  simp only [Bool.and_eq_true, decide_eq_true_eq] at hc
  obtain ⟨hc1, hc2, hc3⟩ := hc
  have hc4 : ∀ i, i < q → e ∉ anc.getD i [] := fun i hi hm => by
    have := List.all_eq_true.1 hc3 i (List.mem_range.2 hi)
    rw [List.contains_iff_mem.2 hm] at this
    cases this
  have helt := (Array.getElem?_eq_some_iff.1 hoe).1
  have hf : ∀ j, (Array.replicate ops.size false).getD j false = false := fun j => by
    simp [Array.getD_eq_getD_getElem?, Array.getElem?_replicate]
    split <;> rfl
  refine wp_region_any hm (anyG_wp _ _ _ _ (any_flow4 (T := T) (S := S) (S1 := S1) hoe hc1 hc2 hok (fun i o hi hie ho K a w hl hs hd hS hK => flow_op ho (hok.plain i o ho) ?_ hl hs hd hS hK) (fun K a w hl hs hd hS hK => ?_) (fun u i o hi hie hna ho K a w hl hs hd hS hK => flow_op ho (hok.plain i o ho) ?_ hl hs hd hS hK)
    (fun u w hS => seqG_wp _ _ _ (by rw [range_drop, wpOps_eq_wpList _ _ (drop_get q), htl]; exact hT u w hS)) (fun i K K' a w h => wpOp_mono h) _ _ _ _ (by simp) (by simp [List.countP_replicate]) (fun i hi => by rw [hf i] at hi; cases hi) (fun j _ => hf j) (hf e) ⟨hA.1, hA.2.1, fun t ht => hA.2.2 t fun j o hj ho hd => by have := ht j o hj ho hd; rw [hf j] at this; cases this⟩ hS))
  · rcases hop i o hi hie ho with h | h
    · exact h.2
    · exact h.1
  · unfold wpOp
    simp only [hoe]
    rw [wanted_of_looks hl, if_pos hev.1]
    refine .inl ?_
    unfold Oper.wp
    rw [execOp_congr oe (plain_select (hok.plain e oe hoe)) (eval_of_looks hl)]
    obtain ⟨f, args, W', hr, hcl⟩ := hev.2 w hS
    rw [hr]
    refine hcl.mono fun e W'' he => ?_
    obtain ⟨u, rfl, hS'⟩ := he
    exact hK u W'' hS'
  · rcases hop i o hi hie ho with h | h
    · exact absurd h.1 hna
    · refine (h.2 u).behind (fun t ht hd => ?_) (fun d hd hd' => ?_) (hok.plain i o ho)
      · exact absurd (hok.looks i o ho t ht e oe hc1 hoe hd) (hc4 i hi)
      · exact hok.dst i o ho e oe hoe (Ne.symm hie) d hd hd'
end Go.Proofs.Ytbmkbokkmmdjdaa
end
section
namespace Go.Proofs.Ytbmkbokkmmdjdaa
open Go.RowKit Go.Proofs.YtbmkbokkmmdjdaaW.PrintWords Go.Proofs.YtbmkbokkmmdjdaaW.PrintLast Go.Proofs.YtbmkbokkmmdjdaaW.PrintMore
open Q Go.Shelf
attribute [local go_sem] Oper.semAt_some wide_depth wide_fn
set_option linter.unusedVariables false
set_option linter.unusedSimpArgs false

attribute [local go_sem high] eqA40
def eqB (a x : Int × Int) : Bool := a.1 == x.1 && (a.2 == x.2)
def idxA (l : List (Int × Int)) (a : Int × Int) : Int := if l.any (eqB a) = true then (l.findIdx (eqB a) : Int) else -1
theorem idxA_at {l : List (Int × Int)} {a : Int × Int} {k : Nat} (h : k < l.length) (hp : eqB a l[k] = true) (hn : ∀ j (hj : j < l.length), j < k → eqB a l[j] = false) : idxA l a = k := by
  unfold idxA
  rw [if_pos (List.any_eq_true.2 ⟨_, List.getElem_mem h, hp⟩)]
  congr 1
  exact (List.findIdx_eq h).2 ⟨hp, fun j hj => hn j (by omega) hj⟩
theorem idxA_none {l : List (Int × Int)} {a : Int × Int} (hn : ∀ j (hj : j < l.length), eqB a l[j] = false) : idxA l a = -1 := by
  unfold idxA
  rw [if_neg]
  intro h
  obtain ⟨x, hx, hp⟩ := List.any_eq_true.1 h
  obtain ⟨j, hj, rfl⟩ := List.getElem_of_mem hx
  rw [hn j hj] at hp; cases hp
theorem eqB_iff (a x : Int × Int) : eqB a x = true ↔ a = x := by
  unfold eqB
  obtain ⟨a1, a2⟩ := a
  obtain ⟨x1, x2⟩ := x
  simp
theorem idxA_nonneg (l : List (Int × Int)) (a : Int × Int) : decide (0 ≤ idxA l a) = decide (a ∈ l) := by
  unfold idxA
  by_cases h : a ∈ l
  · rw [if_pos (List.any_eq_true.2 ⟨a, h, (eqB_iff a a).2 rfl⟩)]; simp [h]
  · rw [if_neg]
    · simp [h]
    · intro hh
      obtain ⟨x, hx, hp⟩ := List.any_eq_true.1 hh
      exact h ((eqB_iff a x).1 hp ▸ hx)
set_option maxRecDepth 100000 in
set_option maxHeartbeats 2000000 in
set_option pp.deepTerms true in
set_option pp.maxSteps 1000000 in
theorem indexA_any (KA : List (Int × Int)) (a : Int × Int) (Aa : Option Addr) (ca : Nat) (w : World) (hr : w.ownsRow 0 92 2 (.slice Aa KA.length ca) KA.length (aF KA)) (hl : KA.length ≤ 1000000) :
    Calls Try.prog 69 #[.slice Aa KA.length ca, .agg #[.int .u8 a.1, .int .i64 a.2]] w (RetInt (idxA KA a) w) := by
  have hu := Try.underlying92
  have hu1 := Try.underlying94
  have hbel := (Below.refl w.heap.size w).alloc (Nat.le_refl _) (.cells #[.int .u8 a.1, .int .i64 a.2] 92)
  have e0 := World.alloc_heap_new w (.cells #[.int .u8 a.1, .int .i64 a.2] 92)
  have H0 := hid (And.intro hbel (And.intro e0 (rings_set hr hbel)))
  clear hr hbel e0
  go_enter Try.func69, Try.ntmps69
  go_upto_region 2 with fail
  generalize w.alloc (.cells #[.int .u8 a.1, .int .i64 a.2] 92) = W1 at *
  have HB := hid (Below.refl W1.heap.size W1)
  go_wp2_with fail
  go_loopw [8] (fun v8 X => ∃ k : Nat, k ≤ KA.length ∧ v8 = .int .i64 k ∧ Hid (Below W1.heap.size W1 X) ∧ Hid (∀ (j : Nat) (h : j < KA.length), j < k → eqB a KA[j] = false)) (fun v8 _ => KA.length - (intOf v8).toNat)
  case atStart => exact ⟨0, by omega, rfl, HB, hid fun _ _ h => absurd h (by omega)⟩
  case round =>
    obtain ⟨k, hk, rfl, HX, HK⟩ := hrel
    rename World => Wk
    by_cases hlt : k < KA.length
    · obtain ⟨x, hka⟩ : ∃ x, KA[k] = x := ⟨_, rfl⟩
      have hkd : KA.getD k (0, 0) = x := by rw [← hka]; simp [List.getD, hlt]
      have hra := rings_set H0.out.2.2 HX.out
      obtain ⟨ga, gc, hga⟩ : ∃ ga gc, Aa = some ⟨ga, 0, none⟩ ∧ gc = ca := by
        rcases hra.2 with ⟨h1, h2⟩ | ⟨g1, c1, u1, h1, _⟩
        · injection h1 with e1 e2 e3; omega
        · injection h1 with e1 e2 e3; exact ⟨g1, c1, e1, e3.symm⟩
      obtain ⟨rfl, rfl⟩ := hga
      have q0 : Wk.cell? ⟨ga, k * 2, none⟩ = some (.int .u8 x.1) := by
        have e := hra.cellAt (k * 2 + 0) (by omega)
        rw [aF_at hlt (by omega), hkd] at e; exact e
      have q1 : Wk.cell? ⟨ga, k * 2 + 1, none⟩ = some (.int .i64 x.2) := by
        have e := hra.cellAt (k * 2 + 1) (by omega)
        rw [aF_at hlt (by omega), hkd] at e; exact e
      have hbx := heap_grow H0.out.2.1 HX.out
      have y0 := blkCell hbx 0
      have y1 := blkCell hbx 1
      simp at y0 y1
      clear hbx hra hkd
      have HKA := hid hka
      have HLT := hid hlt
      clear hka
      go_upto_region 4 with fail
      refine wp_flow [[], [], [], [1, 2], [3, 1, 2], [0, 4, 3, 1, 2]] 6
        (fun V => V.cell? ⟨w.heap.size, 0, none⟩ = some (.int .u8 a.1) ∧ V.cell? ⟨w.heap.size, 1, none⟩ = some (.int .i64 a.2) ∧ V.cell? ⟨ga, k * 2, none⟩ = some (.int .u8 x.1) ∧ V.cell? ⟨ga, k * 2 + 1, none⟩ = some (.int .i64 x.2) ∧ Below Wk.heap.size Wk V)
        { tmps := #[.slice (some ⟨ga, 0, none⟩) KA.length gc, .agg #[.int .u8 a.1, .int .i64 a.2], undef, .pointer (some ⟨w.heap.size, 0, none⟩), u4, .int .i64 k, .slice (some ⟨ga, 0, none⟩) KA.length gc, .int .i64 KA.length, .int .i64 k, .bool true, .int .i64 k, .agg #[.int .u8 a.1, .int .i64 a.2], .slice (some ⟨ga, 0, none⟩) KA.length gc, .int .i64 k, .pointer (some ⟨ga, k * 2, none⟩), .agg #[.int .u8 x.1, .int .i64 x.2], .bool (a.1 == x.1 && (a.2 == x.2)), u17, u18], defers := [] }
        mixed (by kernel_rfl) rfl (Ahead.of3 11 17 rfl rfl (by kernel_rfl) rfl rfl) ?_ (AllFlow.ops rfl ?_) rfl ?_
      · exact ⟨y0, y1, q0, q1, (Below.refl _ _).drew⟩
      · refine ⟨?_, ?_, ?_, ?_, ?_, ?_, trivial⟩
        · exact .val 11 _ rfl rfl fun V ⟨y0, y1, x0, x1, hB_⟩ => by go_simp
        · exact .val 12 _ rfl rfl fun V ⟨y0, y1, x0, x1, hB_⟩ => by go_simp
        · exact .val 13 _ rfl rfl fun V ⟨y0, y1, x0, x1, hB_⟩ => by go_simp
        · exact .val 14 _ rfl rfl fun V ⟨y0, y1, x0, x1, hB_⟩ => by go_simp <;> omega
        · exact .val 15 _ rfl rfl fun V ⟨y0, y1, x0, x1, hB_⟩ => by go_simp
        · exact .val 16 _ rfl rfl fun V ⟨y0, y1, x0, x1, hB_⟩ => by go_simp
      rintro V ⟨y0, y1, x0, x1, hB_⟩
      have HV := hid (HX.out.trans (hB_.mono HX.out.size))
      clear hB_ y0 y1 q0 q1 HX
      by_cases hab : eqB a x = true
      · have d : (a.1 == x.1 && (a.2 == x.2)) = true := hab
        have HI := hid (show idxA KA a = k from idxA_at HLT.out (by rw [HKA.out]; exact hab) (fun j hj h => HK.out j hj h))
        clear hab HK
        go_wp2
        go_ret
        exact ⟨ret_int HI.out.symm, H0.out.1.trans (HV.out.mono H0.out.1.size)⟩
      · have d : (a.1 == x.1 && (a.2 == x.2)) = false := by have : eqB a x = false := by simpa using hab
                                                            exact this
        have HK' := hid (show ∀ (j : Nat) (h : j < KA.length), j < k + 1 → eqB a KA[j] = false from fun j h hj => by
          by_cases e : j = k
          · subst e; rw [HKA.out]; exact d
          · exact HK.out j h (by omega))
        clear hab HK
        have hL := HLT.out
        go_wp2
        go_roundw
        case rel => exact ⟨k + 1, by omega, by go_num, HV, HK'⟩
        case measure => simp [intOf]; omega
    · obtain rfl : k = KA.length := by omega
      have HI := hid (show idxA KA a = -1 from idxA_none (fun j hj => HK.out j hj hj))
      clear HK
      go_wp2
      go_ret
      exact ⟨ret_int HI.out.symm, H0.out.1.trans (HX.out.mono H0.out.1.size)⟩
set_option maxRecDepth 100000 in
set_option maxHeartbeats 2000000 in
theorem containsA_any (KA : List (Int × Int)) (a : Int × Int) (Aa : Option Addr) (ca : Nat) (w : World) (hr : w.ownsRow 0 92 2 (.slice Aa KA.length ca) KA.length (aF KA)) (hl : KA.length ≤ 1000000) :
    Calls Try.prog 39 #[.slice Aa KA.length ca, .agg #[.int .u8 a.1, .int .i64 a.2]] w (RetBool (decide (a ∈ KA)) w) := by
  have hu := Try.underlying92
  have hbel := (Below.refl w.heap.size w).alloc (Nat.le_refl _) (.cells #[.int .u8 a.1, .int .i64 a.2] 92)
  have e0 := World.alloc_heap_new w (.cells #[.int .u8 a.1, .int .i64 a.2] 92)
  have hr1 := rings_set hr hbel
  go_enter Try.func39, Try.ntmps39
  go_wp2_with fail
  generalize w.alloc (.cells #[.int .u8 a.1, .int .i64 a.2] 92) = W1 at *
  refine (indexA_any KA a Aa ca _ hr1 hl).mono ?_
  rintro e W2 ⟨rfl, hb⟩
  have HB := hid (hbel.trans (hb.mono hbel.size))
  have HN := hid (idxA_nonneg KA a)
  clear hr hr1 hbel e0 hb
  go_wp2
  go_ret
  exact ⟨by rw [← HN.out]; rfl, HB.out⟩
end Go.Proofs.Ytbmkbokkmmdjdaa
end
section
namespace Go.Proofs.Ytbmkbokkmmdjdaa
open Go.RowKit Go.Proofs.YtbmkbokkmmdjdaaW.PrintWords Go.Proofs.YtbmkbokkmmdjdaaW.PrintLast Go.Proofs.YtbmkbokkmmdjdaaW.PrintMore
open Q Go.Shelf
attribute [local go_sem] Oper.semAt_some wide_depth wide_fn
set_option linter.unusedVariables false
set_option linter.unusedSimpArgs false

def amountV (ho fi : S23) (l : List S36) (k h n : Int) : S23 × Int :=
  if bookErr ho fi l ≠ 0 then (z23, bookErr ho fi l)
  else if 2 < k ∨ betw n 0 l.length = false then (z23, 1)
  else if (k, h) ∉ accs (keptOf l).hs.length then (z23, 7)
  else if 0 ≤ wrongS (forwardL ho fi k (chgL l (k, h))) then (z23, 10)
  else ((bothL ho fi k (chgL l (k, h))).getD n.toNat z23, 0)
theorem betw_iff {a l h : Int} : betw a l h = true ↔ l ≤ a ∧ a ≤ h := by unfold betw; simp
theorem bothL_len (ho fi : S23) (k : Int) (by_ : List S23) : (bothL ho fi k by_).length = by_.length + 1 := by unfold bothL; rw [List.length_reverse, outK_len]
set_option maxRecDepth 100000 in
set_option maxHeartbeats 8000000 in
set_option pp.deepTerms true in
set_option pp.maxSteps 1000000 in
theorem Amount_any (ho fi : S23) (A : Option Addr) (c : Nat) (l : List S36) (k h n : Int) (w : World) (hr : Kd.C k36 w A l.length l) (hc : l.length ≤ c) :
    Calls Try.prog 18 #[.agg #[.int .i64 ho.f0, .int .i64 ho.f1, .int .i64 fi.f0, .int .i64 fi.f1, .slice A l.length c], .int .u8 k, .int .i64 h, .int .i64 n] w fun e w' => e = .returned (.tuple #[.agg #[.int .i64 (amountV ho fi l k h n).1.f0, .int .i64 (amountV ho fi l k h n).1.f1], .int .i64 (amountV ho fi l k h n).2]) ∧ Below w.heap.size w w' := by
  have hu := Try.underlying26
  have hu0 := Try.underlying23
  have hu1 := Try.underlying96
  have hu2 := Try.underlying92
  have hu3 := Try.underlying94
  have hbel := ((Below.refl w.heap.size w).alloc (Nat.le_refl _) (.cells #[.int .i64 ho.f0, .int .i64 ho.f1, .int .i64 fi.f0, .int .i64 fi.f1, .slice A l.length c] 26)).alloc (by simp) (.cells #[.int .i64 0, .int .i64 0] 23)
  have e0 := alloc_old (o' := (.cells #[.int .i64 0, .int .i64 0] 23)) (World.alloc_heap_new w (.cells #[.int .i64 ho.f0, .int .i64 ho.f1, .int .i64 fi.f0, .int .i64 fi.f1, .slice A l.length c] 26))
  have e1 := World.alloc_heap_new (w.alloc (.cells #[.int .i64 ho.f0, .int .i64 ho.f1, .int .i64 fi.f0, .int .i64 fi.f1, .slice A l.length c] 26)) (.cells #[.int .i64 0, .int .i64 0] 23)
  simp only [World.size_alloc] at e1
  have HR := hid hr
  go_enter Try.func18, Try.ntmps18
  go_wp2_with fail
  generalize ((w.alloc (.cells #[.int .i64 ho.f0, .int .i64 ho.f1, .int .i64 fi.f0, .int .i64 fi.f1, .slice A l.length c] 26)).alloc (.cells #[.int .i64 0, .int .i64 0] 23)) = W1 at *
  refine (Check_any ho fi A c l _ (Kd.C_below HR.out hbel) hc).mono ?_
  rintro e W2 ⟨rfl, hb⟩
  have hb2 := hbel.trans (hb.mono hbel.size)
  have e2 := heap_grow e0 hb
  have e3 := heap_grow e1 hb
  have HAV := hid (rfl : amountV ho fi l k h n = amountV ho fi l k h n)
  clear hbel hb e0 e1 hr
  have y0 := blkCell e2 0
  have y1 := blkCell e2 1
  have y2 := blkCell e2 2
  have y3 := blkCell e2 3
  have y4 := blkCell e2 4
  have q0 := blkCell e3 0
  have q1 := blkCell e3 1
  have f0 := blkFrozen e3 0
  have f1 := blkFrozen e3 1
  simp at y0 y1 y2 y3 y4 q0 q1
  by_cases hv : bookErr ho fi l = 0
  · have HV := hid hv
    have HL := hid (bookOk_of hv).len
    have H2 := hid (And.intro hb2 (And.intro e2 e3))
    rw [hv]
    clear hv hc hb2 e2 e3
    by_cases hk : 2 < k
    · have HE := hid (show amountV ho fi l k h n = (z23, 1) by unfold amountV; rw [if_neg (fun hh => hh HV.out), if_pos (Or.inl hk)])
      have d1 : decide (2 < k) = true := decide_eq_true hk
      clear hk
      go_wp2
      have hz := st2_same (And.intro H2.out.1 H2.out.2.2).2 (.int .i64 0) (.int .i64 0)
      have hb := st2_below (And.intro H2.out.1 H2.out.2.2).1 (show w.heap.size ≤ w.heap.size + 1 by omega) (.int .i64 0) (.int .i64 0)
      generalize ((W2.setCell ⟨w.heap.size + 1, 0, none⟩ (.int .i64 0)).setCell ⟨w.heap.size + 1, 1, none⟩ (.int .i64 0)) = VZ at *
      have r0 := blkCell hz 0
      have r1 := blkCell hz 1
      simp at r0 r1
      refine bodyPost_ret (v := .tuple #[.agg #[.int .i64 0, .int .i64 0], .int .i64 1]) (by simp [results, Try.results18, go_sem, r0, r1]) rfl ⟨by rw [HE.out]; rfl, hb⟩
    · have d1 : decide (2 < k) = false := decide_eq_false hk
      have HK := hid hk
      clear hk
      go_wp2_with fail
      refine (within_eq n 0 l.length _).mono ?_
      rintro e W3 ⟨rfl, hb⟩
      have H3 := hid (And.intro (H2.out.1.trans (hb.mono H2.out.1.size)) (And.intro (heap_grow H2.out.2.1 hb) (heap_grow H2.out.2.2 hb)))
      clear y0 y1 y2 y3 y4 q0 q1 f0 f1 hb H2
      cases hbw : betw n 0 l.length with
      | false =>
        have HE := hid (show amountV ho fi l k h n = (z23, 1) by unfold amountV; rw [if_neg (fun hh => hh HV.out), if_pos (Or.inr hbw)])
        have q0 := blkCell H3.out.2.2 0
        have q1 := blkCell H3.out.2.2 1
        have f0 := blkFrozen H3.out.2.2 0
        have f1 := blkFrozen H3.out.2.2 1
        simp at q0 q1
        clear hbw
        go_wp2
        have hz := st2_same (And.intro H3.out.1 H3.out.2.2).2 (.int .i64 0) (.int .i64 0)
        have hb := st2_below (And.intro H3.out.1 H3.out.2.2).1 (show w.heap.size ≤ w.heap.size + 1 by omega) (.int .i64 0) (.int .i64 0)
        generalize ((W3.setCell ⟨w.heap.size + 1, 0, none⟩ (.int .i64 0)).setCell ⟨w.heap.size + 1, 1, none⟩ (.int .i64 0)) = VZ at *
        have r0 := blkCell hz 0
        have r1 := blkCell hz 1
        simp at r0 r1
        refine bodyPost_ret (v := .tuple #[.agg #[.int .i64 0, .int .i64 0], .int .i64 1]) (by simp [results, Try.results18, go_sem, r0, r1]) rfl ⟨by rw [HE.out]; rfl, hb⟩
      | true =>
        have HBW := hid hbw
        clear hbw
        have y0 := blkCell H3.out.2.1 0
        have y1 := blkCell H3.out.2.1 1
        have y2 := blkCell H3.out.2.1 2
        have y3 := blkCell H3.out.2.1 3
        have y4 := blkCell H3.out.2.1 4
        simp at y0 y1 y2 y3 y4
        go_upto_region 7 with fail
        have hgr := (Below.refl W3.heap.size W3).alloc (Nat.le_refl _) (.cells #[.int .u8 k, .int .i64 h] 92)
        have hnew := World.alloc_heap_new W3 (.cells #[.int .u8 k, .int .i64 h] 92)
        have H4 := hid (And.intro (H3.out.1.trans (hgr.mono H3.out.1.size)) (And.intro (heap_grow H3.out.2.1 hgr) (And.intro (heap_grow H3.out.2.2 hgr) hnew)))
        clear y0 y1 y2 y3 y4 H3 hgr hnew
        generalize W3.alloc (.cells #[.int .u8 k, .int .i64 h] 92) = W4 at *
        generalize W3.heap.size = B4 at *
        have y0 := blkCell H4.out.2.1 0
        have y1 := blkCell H4.out.2.1 1
        have y2 := blkCell H4.out.2.1 2
        have y3 := blkCell H4.out.2.1 3
        have y4 := blkCell H4.out.2.1 4
        simp at y0 y1 y2 y3 y4
        have y5 := blkCell H4.out.2.2.2 0
        have y6 := blkCell H4.out.2.2.2 1
        simp at y5 y6
        obtain ⟨hn, hhn⟩ : ∃ hn, (keptOf l).hs.length = hn := ⟨_, rfl⟩
        have HHN := hid hhn
        have HN := hid (show hn ≤ 256 by have := kept_len l l.length (Nat.le_refl _); rw [List.take_length] at this; have := HL.out; omega)
        clear hhn
        refine wp_flow10 [[], [0], [], [1, 0, 2], [3, 1, 0, 2]] 1 3
          (fun V => V.cell? ⟨w.heap.size, 0, none⟩ = some (.int .i64 ho.f0) ∧ V.cell? ⟨w.heap.size, 1, none⟩ = some (.int .i64 ho.f1) ∧ V.cell? ⟨w.heap.size, 2, none⟩ = some (.int .i64 fi.f0) ∧ V.cell? ⟨w.heap.size, 3, none⟩ = some (.int .i64 fi.f1) ∧ V.cell? ⟨w.heap.size, 4, none⟩ = some (.slice A l.length c) ∧ V.cell? ⟨B4, 0, none⟩ = some (.int .u8 k) ∧ V.cell? ⟨B4, 1, none⟩ = some (.int .i64 h) ∧ Below W4.heap.size W4 V)
          (fun u V => (V.cell? ⟨w.heap.size, 0, none⟩ = some (.int .i64 ho.f0) ∧ V.cell? ⟨w.heap.size, 1, none⟩ = some (.int .i64 ho.f1) ∧ V.cell? ⟨w.heap.size, 2, none⟩ = some (.int .i64 fi.f0) ∧ V.cell? ⟨w.heap.size, 3, none⟩ = some (.int .i64 fi.f1) ∧ V.cell? ⟨w.heap.size, 4, none⟩ = some (.slice A l.length c) ∧ V.cell? ⟨B4, 0, none⟩ = some (.int .u8 k) ∧ V.cell? ⟨B4, 1, none⟩ = some (.int .i64 h) ∧ Below W4.heap.size W4 V) ∧ ∃ A5 c5, u = .slice A5 (accs hn).length c5 ∧ V.ownsRow 0 92 2 (.slice A5 (accs hn).length c5) (accs hn).length (aF (accs hn)))
          { tmps := #[.agg #[.int .i64 ho.f0, .int .i64 ho.f1, .int .i64 fi.f0, .int .i64 fi.f1, .slice A l.length c], .int .u8 k, .int .i64 h, .int .i64 n, .pointer (some ⟨w.heap.size, 0, none⟩), undef, undef, undef, .pointer (some ⟨w.heap.size + 1, 0, none⟩), .int .i64 0, .int .i64 0, .pointer (some ⟨B4, 0, none⟩), undef, .agg #[.int .i64 ho.f0, .int .i64 ho.f1, .int .i64 fi.f0, .int .i64 fi.f1, .slice A l.length c], .int .i64 0, .int .i64 0, .bool false, undef, undef, .int .u8 k, .bool false, .bool false, .int .i64 n, .pointer (some ⟨w.heap.size, 4, none⟩), .slice A l.length c, .int .i64 l.length, .bool true, .bool false, .bool false, undef, .int .u8 k, .int .i64 h, .agg #[.int .u8 k, .int .i64 h], .agg #[.int .i64 ho.f0, .int .i64 ho.f1, .int .i64 fi.f0, .int .i64 fi.f1, .slice A l.length c], undef, .agg #[.int .u8 k, .int .i64 h], undef, undef, undef, undef, undef, undef, undef, undef, undef, undef, undef, undef, undef, undef, undef, undef, undef, undef, undef, undef, undef], defers := [] }
          mixed (by kernel_rfl) rfl (by kernel_rfl) (Ahead.of3 33 36 rfl rfl (by kernel_rfl) rfl rfl) ?_ ?_ ?_ rfl ?_
        · exact ⟨y0, y1, y2, y3, y4, y5, y6, (Below.refl _ _).drew⟩
        · refine EachOp4.ops rfl ⟨?_, ?_, ?_, trivial⟩
          · exact .inr (.inr (LookOp.either (fun _ _ h => h.1) (LookOp.val 33 _ rfl rfl fun V ⟨y0, y1, y2, y3, y4, y5, y6, hB_⟩ => by go_simp)))
          · exact .inl rfl
          · exact .inr (.inr (LookOp.either (fun _ _ h => h.1) (LookOp.val 35 _ rfl rfl fun V ⟨y0, y1, y2, y3, y4, y5, y6, hB_⟩ => by go_simp)))
        · refine ⟨by rfl, fun V ⟨y0, y1, y2, y3, y4, y5, y6, hB_⟩ => ⟨40, #[.agg #[.int .i64 ho.f0, .int .i64 ho.f1, .int .i64 fi.f0, .int .i64 fi.f1, .slice A l.length c]], V, by go_simp, ?_⟩⟩
          refine (accounts_any ho fi A c l V (Kd.C_below HR.out (H4.out.1.trans (hB_.mono H4.out.1.size))) HV.out).mono ?_
          rintro e V2 ⟨va, rfl, hra, hb⟩
          rw [HHN.out] at hra
          obtain ⟨A5, c5, rfl⟩ := own_slice hra
          exact ⟨_, rfl, ⟨cell_grow y0 hb, cell_grow y1 hb, cell_grow y2 hb, cell_grow y3 hb, cell_grow y4 hb, cell_grow y5 hb, cell_grow y6 hb, hB_.trans (hb.mono hB_.size)⟩, A5, c5, rfl, own_lower (Nat.zero_le _) hra⟩
        · rintro u V ⟨⟨y0, y1, y2, y3, y4, y5, y6, hB_⟩, A5, c5, rfl, ho5⟩
          have HCN := hid (containsA_any (accs hn) (k, h) A5 c5 V ho5 (by rw [accs_len]; have := HN.out; omega))
          have H5 := hid hB_
          clear ho5 hB_
          go_wp2_with fail
          refine HCN.out.mono ?_
          rintro e W5 ⟨rfl, hb⟩
          have hb5 := H5.out.trans (hb.mono H5.out.size)
          have H6 := hid (And.intro (H4.out.1.trans (hb5.mono H4.out.1.size)) (And.intro (heap_grow H4.out.2.1 hb5) (And.intro (heap_grow H4.out.2.2.1 hb5) (heap_grow H4.out.2.2.2 hb5))))
          clear y0 y1 y2 y3 y4 y5 y6 hb hb5 H5 H4 HCN
          by_cases hm : (k, h) ∈ accs hn
          · have dm : decide ((k, h) ∈ accs hn) = true := decide_eq_true hm
            have HM := hid hm
            clear hm
            have y0 := blkCell H6.out.2.1 0
            have y1 := blkCell H6.out.2.1 1
            have y2 := blkCell H6.out.2.1 2
            have y3 := blkCell H6.out.2.1 3
            have y4 := blkCell H6.out.2.1 4
            simp at y0 y1 y2 y3 y4
            have y5 := blkCell H6.out.2.2.2 0
            have y6 := blkCell H6.out.2.2.2 1
            simp at y5 y6
            go_upto_region 9 with fail
            refine wp_flow10 [[], [0], [], [1, 0, 2], [3, 1, 0, 2]] 1 3
              (fun V => V.cell? ⟨w.heap.size, 0, none⟩ = some (.int .i64 ho.f0) ∧ V.cell? ⟨w.heap.size, 1, none⟩ = some (.int .i64 ho.f1) ∧ V.cell? ⟨w.heap.size, 2, none⟩ = some (.int .i64 fi.f0) ∧ V.cell? ⟨w.heap.size, 3, none⟩ = some (.int .i64 fi.f1) ∧ V.cell? ⟨w.heap.size, 4, none⟩ = some (.slice A l.length c) ∧ V.cell? ⟨B4, 0, none⟩ = some (.int .u8 k) ∧ V.cell? ⟨B4, 1, none⟩ = some (.int .i64 h) ∧ Below W5.heap.size W5 V)
              (fun u V => (V.cell? ⟨w.heap.size, 0, none⟩ = some (.int .i64 ho.f0) ∧ V.cell? ⟨w.heap.size, 1, none⟩ = some (.int .i64 ho.f1) ∧ V.cell? ⟨w.heap.size, 2, none⟩ = some (.int .i64 fi.f0) ∧ V.cell? ⟨w.heap.size, 3, none⟩ = some (.int .i64 fi.f1) ∧ V.cell? ⟨w.heap.size, 4, none⟩ = some (.slice A l.length c) ∧ V.cell? ⟨B4, 0, none⟩ = some (.int .u8 k) ∧ V.cell? ⟨B4, 1, none⟩ = some (.int .i64 h) ∧ Below W5.heap.size W5 V) ∧ ∃ Bm g, u = .map (some Bm) ∧ AI V 0 Bm l.length (accs hn) g (chgL l))
              { tmps := #[.agg #[.int .i64 ho.f0, .int .i64 ho.f1, .int .i64 fi.f0, .int .i64 fi.f1, .slice A l.length c], .int .u8 k, .int .i64 h, .int .i64 n, .pointer (some ⟨w.heap.size, 0, none⟩), undef, undef, undef, .pointer (some ⟨w.heap.size + 1, 0, none⟩), .int .i64 0, .int .i64 0, .pointer (some ⟨B4, 0, none⟩), undef, .agg #[.int .i64 ho.f0, .int .i64 ho.f1, .int .i64 fi.f0, .int .i64 fi.f1, .slice A l.length c], .int .i64 0, .int .i64 0, .bool false, undef, undef, .int .u8 k, .bool false, .bool false, .int .i64 n, .pointer (some ⟨w.heap.size, 4, none⟩), .slice A l.length c, .int .i64 l.length, .bool true, .bool false, .bool false, undef, .int .u8 k, .int .i64 h, .agg #[.int .u8 k, .int .i64 h], .agg #[.int .i64 ho.f0, .int .i64 ho.f1, .int .i64 fi.f0, .int .i64 fi.f1, .slice A l.length c], .slice A5 (accs hn).length c5, .agg #[.int .u8 k, .int .i64 h], .bool true, .bool false, undef, .agg #[.int .i64 ho.f0, .int .i64 ho.f1, .int .i64 fi.f0, .int .i64 fi.f1, .slice A l.length c], undef, .agg #[.int .u8 k, .int .i64 h], undef, undef, undef, undef, undef, undef, undef, undef, undef, undef, undef, undef, undef, undef, undef], defers := [] }
              mixed (by kernel_rfl) rfl (by kernel_rfl) (Ahead.of3 39 42 rfl rfl (by kernel_rfl) rfl rfl) ?_ ?_ ?_ rfl ?_
            · exact ⟨y0, y1, y2, y3, y4, y5, y6, (Below.refl _ _).drew⟩
            · refine EachOp4.ops rfl ⟨?_, ?_, ?_, trivial⟩
              · exact .inr (.inr (LookOp.either (fun _ _ h => h.1) (LookOp.val 39 _ rfl rfl fun V ⟨y0, y1, y2, y3, y4, y5, y6, hB_⟩ => by go_simp)))
              · exact .inl rfl
              · exact .inr (.inr (LookOp.either (fun _ _ h => h.1) (LookOp.val 41 _ rfl rfl fun V ⟨y0, y1, y2, y3, y4, y5, y6, hB_⟩ => by go_simp)))
            · refine ⟨by rfl, fun V ⟨y0, y1, y2, y3, y4, y5, y6, hB_⟩ => ⟨41, #[.agg #[.int .i64 ho.f0, .int .i64 ho.f1, .int .i64 fi.f0, .int .i64 fi.f1, .slice A l.length c]], V, by go_simp, ?_⟩⟩
              refine (changes_any ho fi A c l V (Kd.C_below HR.out (H6.out.1.trans (hB_.mono H6.out.1.size))) HV.out).mono ?_
              rintro e V2 ⟨Bm, g, rfl, hA, hb⟩
              rw [HHN.out] at hA
              exact ⟨_, rfl, ⟨cell_grow y0 hb, cell_grow y1 hb, cell_grow y2 hb, cell_grow y3 hb, cell_grow y4 hb, cell_grow y5 hb, cell_grow y6 hb, hB_.trans (hb.mono hB_.size)⟩, Bm, g, rfl, hA.lower (Nat.zero_le _)⟩
            · rintro u V ⟨⟨y0, y1, y2, y3, y4, y5, y6, hB_⟩, Bm, g, rfl, hA⟩
              have hlk := run_lookA hA.mp (hA.find HM.out)
              have H7 := hid (And.intro hB_ hA)
              clear hB_ hA
              have hfw := forward_any ho fi A c l k h (some ⟨g (k, h), 0, none⟩) l.length (chgL l (k, h)) V (own_KdA H7.out.2 HM.out (by have := HL.out; omega)) (by rw [chgL_len]; have := HL.out; omega)
              rw [chgL_len] at hfw
              have HFW := hid hfw
              clear hfw
              go_wp2_with fail
              refine HFW.out.mono ?_
              rintro e V2 ⟨v, rfl, hoo, hb⟩
              rw [forwardL_len, chgL_len] at hoo
              obtain ⟨A6, c6, rfl⟩ := own_slice hoo
              have hwr := wrong_any A6 c6 (forwardL ho fi k (chgL l (k, h))) V2 (by rw [forwardL_len, chgL_len]; exact own_Kd (own_lower (Nat.zero_le _) hoo) (by rw [forwardL_len, chgL_len])) (by rw [forwardL_len, chgL_len]; have := HL.out; omega)
              rw [forwardL_len, chgL_len] at hwr
              have HWR := hid hwr
              have H8 := hid (H7.out.1.trans (hb.mono H7.out.1.size))
              have H8b := hid hb
              clear hlk hoo hb hwr HFW
              go_wp2_with fail
              refine HWR.out.mono ?_
              rintro e V3 ⟨rfl, hb⟩
              have hb9 := H8.out.trans (hb.mono H8.out.size)
              have hA9 := H7.out.2.grow (H8b.out.trans (hb.mono H8b.out.size))
              have H9 := hid (And.intro (H6.out.1.trans (hb9.mono H6.out.1.size)) (And.intro (heap_grow H6.out.2.1 hb9) (And.intro (heap_grow H6.out.2.2.1 hb9) (And.intro (heap_grow H6.out.2.2.2 hb9) hA9))))
              clear y0 y1 y2 y3 y4 y5 y6 hb hb9 hA9 H8 H7 H6 HWR
              obtain ⟨nw, hnw⟩ : ∃ x, wrongS (forwardL ho fi k (chgL l (k, h))) = x := ⟨_, rfl⟩
              rw [hnw]
              by_cases h0 : 0 ≤ nw
              · have HE := hid (show amountV ho fi l k h n = (z23, 10) by unfold amountV; rw [if_neg (fun hh => hh HV.out), if_neg (by rintro (hh | hh); exact absurd hh (by have := HK.out; omega); rw [HBW.out] at hh; cases hh), if_neg (fun hh => hh (by rw [HHN.out]; exact HM.out)), if_pos (by rw [hnw]; exact h0)])
                have d0 : decide (0 ≤ nw) = true := decide_eq_true h0
                clear h0 hnw
                have q0 := blkCell H9.out.2.2.1 0
                have q1 := blkCell H9.out.2.2.1 1
                have f0 := blkFrozen H9.out.2.2.1 0
                have f1 := blkFrozen H9.out.2.2.1 1
                simp at q0 q1
                go_wp2
                have hz := st2_same (And.intro H9.out.1 H9.out.2.2.1).2 (.int .i64 0) (.int .i64 0)
                have hb := st2_below (And.intro H9.out.1 H9.out.2.2.1).1 (show w.heap.size ≤ w.heap.size + 1 by omega) (.int .i64 0) (.int .i64 0)
                generalize ((V3.setCell ⟨w.heap.size + 1, 0, none⟩ (.int .i64 0)).setCell ⟨w.heap.size + 1, 1, none⟩ (.int .i64 0)) = VZ at *
                have r0 := blkCell hz 0
                have r1 := blkCell hz 1
                simp at r0 r1
                refine bodyPost_ret (v := .tuple #[.agg #[.int .i64 0, .int .i64 0], .int .i64 10]) (by simp [results, Try.results18, go_sem, r0, r1]) rfl ⟨by rw [HE.out]; rfl, hb⟩
              · have HE := hid (show amountV ho fi l k h n = ((bothL ho fi k (chgL l (k, h))).getD n.toNat z23, 0) by unfold amountV; rw [if_neg (fun hh => hh HV.out), if_neg (by rintro (hh | hh); exact absurd hh (by have := HK.out; omega); rw [HBW.out] at hh; cases hh), if_neg (fun hh => hh (by rw [HHN.out]; exact HM.out)), if_neg (by rw [hnw]; exact h0)])
                have d0 : decide (0 ≤ nw) = false := decide_eq_false h0
                clear h0 hnw
                have y0 := blkCell H9.out.2.1 0
                have y1 := blkCell H9.out.2.1 1
                have y2 := blkCell H9.out.2.1 2
                have y3 := blkCell H9.out.2.1 3
                have y4 := blkCell H9.out.2.1 4
                simp at y0 y1 y2 y3 y4
                have y5 := blkCell H9.out.2.2.2.1 0
                have y6 := blkCell H9.out.2.2.2.1 1
                simp at y5 y6
                have hbo := both_any ho fi A c l k h (some ⟨g (k, h), 0, none⟩) l.length (chgL l (k, h)) V3 (own_KdA H9.out.2.2.2.2 HM.out (by have := HL.out; omega)) (by rw [chgL_len]; have := HL.out; omega)
                rw [chgL_len] at hbo
                have HBO := hid hbo
                clear hbo
                go_wp2_with fail
                refine HBO.out.mono ?_
                rintro e V4 ⟨v, rfl, hoo, hb⟩
                have hlen : (bothL ho fi k (chgL l (k, h))).length = l.length + 1 := by rw [bothL_len, chgL_len]
                rw [hlen] at hoo
                obtain ⟨g6, c6, rfl⟩ := ownsRow_succ hoo
                have hbt := HBW.out
                obtain ⟨m, rfl⟩ : ∃ m : Nat, n = m := ⟨n.toNat, by have := betw_iff.1 hbt; omega⟩
                have hml : m ≤ l.length := by have := betw_iff.1 hbt; omega
                have hm1 : m < l.length + 1 := by omega
                obtain ⟨p0, p1⟩ := row_cells2 hoo hlen hm1
                obtain ⟨sn, hsn⟩ : ∃ x, (bothL ho fi k (chgL l (k, h))).getD m z23 = x := ⟨_, rfl⟩
                rw [hsn] at p0 p1
                have HE' := hid (show amountV ho fi l k h m = (sn, 0) by rw [HE.out, ← hsn]; rfl)
                have H10 := hid (And.intro (H9.out.1.trans (hb.mono H9.out.1.size)) (heap_grow H9.out.2.2.1 hb))
                clear HE hbt hlen hoo hsn hb y0 y1 y2 y3 y4 y5 y6 H9 HBO
                have q0 := blkCell H10.out.2 0
                have q1 := blkCell H10.out.2 1
                have f0 := blkFrozen H10.out.2 0
                have f1 := blkFrozen H10.out.2 1
                simp at q0 q1
                go_wp2
                have hz := st2_same H10.out.2 (.int .i64 sn.f0) (.int .i64 sn.f1)
                have hb := st2_below H10.out.1 (show w.heap.size ≤ w.heap.size + 1 by omega) (.int .i64 sn.f0) (.int .i64 sn.f1)
                generalize ((V4.setCell ⟨w.heap.size + 1, 0, none⟩ (.int .i64 sn.f0)).setCell ⟨w.heap.size + 1, 1, none⟩ (.int .i64 sn.f1)) = VZ at *
                have r0 := blkCell hz 0
                have r1 := blkCell hz 1
                simp at r0 r1
                refine bodyPost_ret (v := .tuple #[.agg #[.int .i64 sn.f0, .int .i64 sn.f1], .int .i64 0]) (by simp [results, Try.results18, go_sem, r0, r1]) rfl ⟨by rw [HE'.out], hb⟩
          · have dm : decide ((k, h) ∈ accs hn) = false := decide_eq_false hm
            have HE := hid (show amountV ho fi l k h n = (z23, 7) by unfold amountV; rw [if_neg (fun hh => hh HV.out), if_neg (by rintro (hh | hh); exact absurd hh (by have := HK.out; omega); rw [HBW.out] at hh; cases hh), if_pos (by rw [HHN.out]; exact hm)])
            clear hm
            have q0 := blkCell H6.out.2.2.1 0
            have q1 := blkCell H6.out.2.2.1 1
            have f0 := blkFrozen H6.out.2.2.1 0
            have f1 := blkFrozen H6.out.2.2.1 1
            simp at q0 q1
            go_wp2
            have hz := st2_same (And.intro H6.out.1 H6.out.2.2.1).2 (.int .i64 0) (.int .i64 0)
            have hb := st2_below (And.intro H6.out.1 H6.out.2.2.1).1 (show w.heap.size ≤ w.heap.size + 1 by omega) (.int .i64 0) (.int .i64 0)
            generalize ((W5.setCell ⟨w.heap.size + 1, 0, none⟩ (.int .i64 0)).setCell ⟨w.heap.size + 1, 1, none⟩ (.int .i64 0)) = VZ at *
            have r0 := blkCell hz 0
            have r1 := blkCell hz 1
            simp at r0 r1
            refine bodyPost_ret (v := .tuple #[.agg #[.int .i64 0, .int .i64 0], .int .i64 7]) (by simp [results, Try.results18, go_sem, r0, r1]) rfl ⟨by rw [HE.out]; rfl, hb⟩
  · have HE := hid (show amountV ho fi l k h n = (z23, bookErr ho fi l) by unfold amountV; rw [if_pos hv])
    have HB2 := hid (And.intro hb2 e3)
    obtain ⟨er, her⟩ : ∃ er, bookErr ho fi l = er := ⟨_, rfl⟩
    rw [her] at hv HE
    rw [her]
    have d0 : (er == 0) = false := by simpa using hv
    clear her hv hb2 e2 e3
    go_wp2
    have hz := st2_same HB2.out.2 (.int .i64 0) (.int .i64 0)
    have hb := st2_below HB2.out.1 (show w.heap.size ≤ w.heap.size + 1 by omega) (.int .i64 0) (.int .i64 0)
    generalize ((W2.setCell ⟨w.heap.size + 1, 0, none⟩ (.int .i64 0)).setCell ⟨w.heap.size + 1, 1, none⟩ (.int .i64 0)) = VZ at *
    have r0 := blkCell hz 0
    have r1 := blkCell hz 1
    simp at r0 r1
    refine bodyPost_ret (v := .tuple #[.agg #[.int .i64 0, .int .i64 0], .int .i64 er]) (by simp [results, Try.results18, go_sem, r0, r1]) rfl ⟨by rw [HE.out]; rfl, hb⟩
end Go.Proofs.Ytbmkbokkmmdjdaa
end
