-- G0 FZ M1 (wip/pack9.py)
import Derived.OrdersIn
import Derived.TacticsIn
import Derived.WalkSmall
import Derived.Shelf.Abstract
import Derived.TacticsInMore
import Derived.OwnWalkIn
import Derived.LoopNIn
import Derived.LoopIn
import Derived.RecoverIn
import Derived.Test.YtbmkbokkmmdjdaaV2
import Derived.Test.YtbmkbokkmmdjdaaV3
import Derived.Test.YtbmkbokkmmdjdaaV4
section
namespace Go.Proofs.Ytbmkbokkmmdjdaa
open Go.RowKit Go.Proofs.YtbmkbokkmmdjdaaW.PrintWords Go.Proofs.YtbmkbokkmmdjdaaW.PrintLast Go.Proofs.YtbmkbokkmmdjdaaW.PrintMore
open Q Go.Shelf
set_option linter.unusedVariables false
set_option linter.unusedSimpArgs false
theorem ret_int {k : IntKind} {a b : Int} (h : a = b) : Ending.returned (.int k a) = .returned (.int k b) := by rw [h]
theorem hid {p : Prop} (h : p) : Hid p := h
theorem ret_bool {a b : Bool} (h : a = b) : Ending.returned (.bool a) = .returned (.bool b) := by rw [h]
def betw (a l h : Int) : Bool := decide (l ≤ a) && decide (a ≤ h)
theorem any_none {α : Type} {l : List α} {p : α → Bool} (h : ∀ (j : Nat) (hj : j < l.length), p l[j] = false) : l.any p = false := by
  rw [Bool.eq_false_iff]
  intro hc
  rw [List.any_eq_true] at hc
  obtain ⟨x, hx, hp⟩ := hc
  obtain ⟨i, hi, rfl⟩ := List.getElem_of_mem hx
  rw [h i hi] at hp
  cases hp
theorem any_some {α : Type} {l : List α} {p : α → Bool} {j : Nat} (hj : j < l.length) (h : p l[j] = true) : l.any p = true := by
  rw [List.any_eq_true]
  exact ⟨l[j], List.getElem_mem hj, h⟩
theorem mixed : Try.prog.follows .mixedOrders = true := by kernel_rfl
theorem makeFunc_any : ∀ (fn : Fn) (first cap : Array Value) (w : World), (Instr.makeFunc fn first cap).run Try.prog w = .ok (.func fn first cap) w := fun _ _ _ _ => rfl
theorem wide_depth : Fence.wide.depth = none := rfl
theorem blkCell {W : World} {b : Nat} {cs : Array Value} {t : TypeId} (h : W.heap[b]? = some (.cells cs t (0, 0))) (j : Nat) : W.cell? ⟨b, j, none⟩ = cs[j]? := by
  simp [World.cell?, h]
theorem wide_fn (f : FuncId) : Fence.wide.fn f = True := rfl
theorem cell_lt {W : World} {b o : Nat} {v : Value} (h : W.cell? ⟨b, o, none⟩ = some v) : b < W.heap.size := by
  unfold World.cell? at h
  cases ho : W.heap[b]? with
  | none => simp [ho] at h
  | some o => exact (Array.getElem?_eq_some_iff.1 ho).1
theorem cell_grow {W W' : World} {b o : Nat} {v : Value} (h : W.cell? ⟨b, o, none⟩ = some v) (hb : Below W.heap.size W W') : W'.cell? ⟨b, o, none⟩ = some v := (hb.cell (p := ⟨b, o, none⟩) (cell_lt h)).trans h
theorem alloc_old {W : World} {k : Nat} {o o' : Obj} (h : W.heap[k]? = some o) : (W.alloc o').heap[k]? = some o := (Below.heap_alloc _ _ _ (Array.getElem?_eq_some_iff.1 h).1).trans h
theorem blkFrozen {W : World} {b : Nat} {cs : Array Value} {t : TypeId} (h : W.heap[b]? = some (.cells cs t (0, 0))) (j : Nat) : W.frozen? ⟨b, j, none⟩ = false := by
  simp [World.frozen?, h]
theorem keeps_of_below {W W' : World} (h : Below W.heap.size W W') : KeepsOthers W W' := ⟨h.size, fun k _ hk _ => (h.block k (Array.getElem?_eq_some_iff.1 hk).1).trans hk⟩
theorem heap_set_same {W : World} {b : Nat} {u v : Value} {t : TypeId} {fr : Nat × Nat} (h : W.heap[b]? = some (.cells #[u] t fr)) : (W.setCell ⟨b, 0, none⟩ v).heap[b]? = some (.cells #[v] t fr) := by
  simp [World.setCell, Array.getElem?_modify, h]
theorem heap_set_other {W : World} {b k : Nat} {v : Value} {o : Obj} (hne : k ≠ b) (h : W.heap[k]? = some o) : (W.setCell ⟨b, 0, none⟩ v).heap[k]? = some o := (Below.heap_setCell _ _ _ _ hne).trans h
theorem heap_grow {W W' : World} {k : Nat} {o : Obj} (h : W.heap[k]? = some o) (hb : Below W.heap.size W W') : W'.heap[k]? = some o := (hb.block k (Array.getElem?_eq_some_iff.1 h).1).trans h
theorem wrap_i (n : Int) : IntKind.i64.wrap n = wrap64 n := by unfold wrap64; exact IntKind.wrap_i64 n
theorem rings_set {w : World} {base : Nat} {e : TypeId} {size n : Nat} {v : Value} {xs : List Value} (h : w.ownsRow base e size v n xs) {w1 : World} (hb : Below w.heap.size w w1) : w1.ownsRow base e size v n xs :=
  own_move h fun k hk => by
    obtain ⟨cells, hc⟩ := own_typed h k hk
    exact (hb.block k (Array.getElem?_eq_some_iff.1 hc).1)
theorem own_turn {w w1 : World} {base B : Nat} {e : TypeId} {size n : Nat} {v : Value} {xs : List Value} (h : w.ownsRow base e size v n xs) (ht : Turn B w w1) : w1.ownsRow base e size v n xs :=
  own_move h fun k hk => by
    obtain ⟨cells, hc⟩ := own_typed h k hk
    rw [hc]; exact ht.cells _ _ hc rfl
theorem own_lower {w : World} {base base' : Nat} {e : TypeId} {size n : Nat} {v : Value} {xs : List Value} (hb : base' ≤ base) (h : w.ownsRow base e size v n xs) : w.ownsRow base' e size v n xs := by
  obtain ⟨h1, h2⟩ := h
  refine ⟨h1, h2.imp id ?_⟩
  rintro ⟨g, cap, cur, a, b, r⟩
  exact ⟨g, cap, cur, a, by omega, r⟩
theorem reps_flat {α β : Type} {R : β → List Value → Prop} {sz : Nat} {f : α → β} {g : α → List Value} (hR : ∀ x, R (f x) (g x)) (hg : ∀ x, (g x).length = sz) : ∀ l : List α, Reps R sz (l.map f) (l.flatMap g) := by
  intro l
  refine ⟨?_, ?_⟩
  · induction l with
    | nil => simp
    | cons x l ih => simp only [List.flatMap_cons, List.length_append, hg, ih, List.map_cons, List.length_cons, Nat.add_mul]; omega
  · induction l with
    | nil => intro j p h; simp at h
    | cons x l ih =>
      intro j p h
      cases j with
      | zero =>
        simp at h; subst h
        simp only [Nat.zero_mul, List.drop_zero, List.flatMap_cons]
        rw [List.take_append_of_le_length (by rw [hg]; exact Nat.le_refl _), List.take_of_length_le (by rw [hg]; exact Nat.le_refl _)]
        exact hR x
      | succ j =>
        simp only [List.map_cons, List.getElem?_cons_succ] at h
        have := ih j p h
        simp only [List.flatMap_cons]
        rw [Nat.add_mul, Nat.one_mul, Nat.add_comm, List.drop_append, hg, Nat.add_sub_cancel_left, List.drop_of_length_le (by rw [hg]; omega), List.nil_append]
        exact this
theorem grown_keep {W W' : World} {base : Nat} {e : TypeId} {size n : Nat} {v : Value} {xs : List Value} (ho : W.ownsRow base e size v n xs) (hg : W.grownBy W' v.ownBlock) {k : Nat} {o : Obj} (hk : k < base) (h : W.heap[k]? = some o) : W'.heap[k]? = some o := by
  refine (hg.block k (Array.getElem?_eq_some_iff.1 h).1 fun he => ?_).trans h
  rcases ho.2 with ⟨rfl, _⟩ | ⟨g, cap, cur, rfl, hb, _⟩
  · cases he
  · simp [Value.ownBlock] at he; omega
theorem own_base {W : World} {base B : Nat} {e : TypeId} {size n : Nat} {v : Value} {xs : List Value} (ho : W.ownsRow base e size v n xs) {j : Nat} (hj : v.ownBlock = some j) (hB : B ≤ base) : B ≤ j := by
  rcases ho.2 with ⟨rfl, _⟩ | ⟨g, cap, cur, rfl, hb, _⟩
  · cases hj
  · simp [Value.ownBlock] at hj; omega
theorem own_cells {W : World} {base : Nat} {e : TypeId} {size n : Nat} {v : Value} {xs : List Value} (ho : W.ownsRow base e size v n xs) : ∀ (j : Nat) (o : Obj), v.ownBlock = some j → W.heap[j]? = some o → o.isCells = true := fun j o hj ho' => by
  obtain ⟨cells, hc⟩ := own_typed ho j hj
  rw [hc] at ho'; cases ho'; rfl
theorem set_fst {W : World} {b : Nat} {u x v : Value} {t : TypeId} {fr : Nat × Nat} (h : W.heap[b]? = some (.cells #[u, x] t fr)) : (W.setCell ⟨b, 0, none⟩ v).heap[b]? = some (.cells #[v, x] t fr) := by
  simp [World.setCell, Array.getElem?_modify, h]
theorem set_snd {W : World} {b : Nat} {u x v : Value} {t : TypeId} {fr : Nat × Nat} (h : W.heap[b]? = some (.cells #[u, x] t fr)) : (W.setCell ⟨b, 1, none⟩ v).heap[b]? = some (.cells #[u, v] t fr) := by
  simp [World.setCell, Array.getElem?_modify, h]
theorem set_other {W : World} {p : Addr} {k : Nat} {v : Value} {o : Obj} (hne : k ≠ p.block) (h : W.heap[k]? = some o) : (W.setCell p v).heap[k]? = some o := (Below.heap_setCell _ _ _ _ hne).trans h
theorem set_at {W : World} {b : Nat} {cs : Array Value} {t : TypeId} (h : W.heap[b]? = some (.cells cs t (0, 0))) (j : Nat) (v : Value) : (W.setCell ⟨b, j, none⟩ v).heap[b]? = some (.cells (cs.setIfInBounds j v) t (0, 0)) := by
  simp [World.setCell, Array.getElem?_modify, h]
theorem wrap64_id {n : Int} (h0 : -9223372036854775808 ≤ n) (h1 : n ≤ 9223372036854775807) : wrap64 n = n := by
  rw [← wrap_i]; exact IntWalk.i64_in _ (by omega)
theorem cell_ltp {W : World} {p : Addr} {v : Value} (h : W.cell? p = some v) : p.block < W.heap.size := by
  apply Decidable.byContradiction
  intro hn
  have : W.heap[p.block]? = none := Array.getElem?_eq_none (by omega)
  simp [World.cell?, this] at h
theorem cell_growp {W W' : World} {p : Addr} {v : Value} (h : W.cell? p = some v) (hb : Below W.heap.size W W') : W'.cell? p = some v := (hb.cell (cell_ltp h)).trans h
set_option linter.unusedVariables false
theorem FlowOp.behind {P : Program} {ops : Array Oper} {S1 : World → Prop} {T : Act} {o : Oper} {D : Option Tmp} {u : Value} (h : FlowOp P ops S1 T o) (hl : ∀ t ∈ o.looksAt ops, D ≠ some t) (hne : ∀ d, o.dst = some d → D ≠ some d) (hpl : Op.plainOp o.op = true) : FlowOp P ops S1 (T.put D u) o := by
  have he : ∀ t ∈ o.looksAt ops, (T.put D u).tmps[t]? = T.tmps[t]? := fun t ht => put_get (hl t ht)
  unfold FlowOp at h ⊢
  rw [wanted_of_looks he]
  split
  · rename_i hw
    rw [if_pos hw] at h
    intro W hW
    obtain ⟨v, h1, h2⟩ := h W hW
    refine ⟨v, fun d hd => by rw [put_get (hne d hd)]; exact h1 d hd, ?_⟩
    rw [execOp_congr o (plain_select hpl) (eval_of_looks he)]
    exact h2
  · rename_i hw
    rw [if_neg hw] at h
    intro d hd
    rw [put_get (hne d hd)]; exact h d hd
def EitherOp (P : Program) (ops : Array Oper) (S : World → Prop) (S1 : Value → World → Prop) (T : Act) (o : Oper) : Prop := FlowOp P ops S T o ∧ ∀ u, FlowOp P ops (S1 u) T o
theorem LookOp.either {P : Program} {ops : Array Oper} {S : World → Prop} {S1 : Value → World → Prop} {T : Act} {o : Oper} (hSS : ∀ u W, S1 u W → S W) (h : LookOp P ops S T o) : EitherOp P ops S S1 T o :=
  ⟨h.flow, fun u => LookOp.flow ⟨h.1, fun W hW => h.2 W (hSS u W hW)⟩⟩
def EachOp3 (P : Program) (ops : Array Oper) (S : World → Prop) (S1 : Value → World → Prop) (T : Act) (bs : List Nat) : Nat → List Oper → Prop
  | _, [] => True
  | i, o :: r => ((i ∈ bs ∧ FlowOp P ops S T o) ∨ EitherOp P ops S S1 T o) ∧ EachOp3 P ops S S1 T bs (i + 1) r
theorem EachOp3.get {P : Program} {ops : Array Oper} {S : World → Prop} {S1 : Value → World → Prop} {T : Act} {bs : List Nat} : ∀ {l : List Oper} {k : Nat}, EachOp3 P ops S S1 T bs k l → ∀ (i : Nat) (o : Oper), l[i]? = some o → (k + i ∈ bs ∧ FlowOp P ops S T o) ∨ EitherOp P ops S S1 T o
  | [], _, _, i, o, h => by simp at h
  | x :: r, k, h, 0, o, ho => by simp at ho; subst ho; exact h.1
  | x :: r, k, h, i + 1, o, ho => by
    have := EachOp3.get h.2 i o (by simpa using ho)
    rwa [Nat.add_right_comm, Nat.add_assoc] at this
theorem EachOp3.ops {P : Program} {ops : Array Oper} {S : World → Prop} {S1 : Value → World → Prop} {T : Act} {bs : List Nat} {q : Nat} {l : List Oper} (hl : ops.toList.take q = l) (h : EachOp3 P ops S S1 T bs 0 l) : ∀ i o, i < q → ops[i]? = some o → (i ∈ bs ∧ FlowOp P ops S T o) ∨ EitherOp P ops S S1 T o := fun i o hi ho => by
  subst hl
  have := h.get i o (by rw [List.getElem?_take_of_lt hi]; simpa using ho)
  simpa using this
set_option linter.unusedVariables false
theorem wp_flow3 {P : Program} {id : Nat} {ops : Array Oper} {Q : Exit → Act → World → Prop} {a : Act} {w : World} (anc : List (List Nat)) (e : Nat) (S : World → Prop) (S1 : Value → World → Prop) (T : Act) {oe : Oper}
    (hm : P.follows .mixedOrders = true) (hb : flowB ops anc (e + 1) = true) (hoe : ops[e]? = some oe) (hA : Ahead ops e T a) (hS : S w.drew)
    (hop : ∀ i o, i < e → ops[i]? = some o → (i ∈ anc.getD e [] ∧ FlowOp P ops S T o) ∨ EitherOp P ops S S1 T o) (hev : EventOp P ops S S1 T oe)
    {tl : List Oper} (htl : ops.toList.drop (e + 1) = tl) (hT : ∀ u w, S1 u w → wpList P ops Q tl (T.put oe.dst u) w) :
    (Code.region id ops true).wp P Q a w := by
  have hok := FlowOk.of hb
  have helt := (Array.getElem?_eq_some_iff.1 hoe).1
  have hf : ∀ j, (Array.replicate ops.size false).getD j false = false := fun j => by
    simp [Array.getD_eq_getD_getElem?, Array.getElem?_replicate]
    split <;> rfl
  refine wp_region_any hm (anyG_wp _ _ _ _ (any_flow2 (T := T) (S := S) (S1 := S1) hoe hok (fun i o hi ho K a w hl hs hd hS hK => flow_op ho (hok.plain i o ho) ?_ hl hs hd hS hK) (fun K a w hl hs hd hS hK => ?_) (fun u i o hi hna ho K a w hl hs hd hS hK => flow_op ho (hok.plain i o ho) ?_ hl hs hd hS hK)
    (fun u w hS => seqG_wp _ _ _ (by rw [range_drop, wpOps_eq_wpList _ _ (drop_get (e + 1)), htl]; exact hT u w hS)) (fun i K K' a w h => wpOp_mono h) _ _ _ _ (by simp) (by simp [List.countP_replicate]) (fun i hi => by rw [hf i] at hi; cases hi) (fun j _ => hf j) ⟨hA.1, hA.2.1, fun t ht => hA.2.2 t fun j o hj ho hd => by have := ht j o hj ho hd; rw [hf j] at this; cases this⟩ hS))
  · rcases hop i o hi ho with h | h
    · exact h.2
    · exact h.1
  · unfold wpOp
    simp only [hoe]
    rw [wanted_of_looks hl, if_pos hev.1]
    refine .inl ?_
    unfold Oper.wp
    rw [execOp_congr oe (plain_select (hok.plain e oe hoe)) (eval_of_looks hl)]
    obtain ⟨u, W', hr, hS'⟩ := hev.2 w hS
    rw [hr]
    exact hK u W' hS'
  · rcases hop i o hi ho with h | h
    · exact absurd h.1 hna
    · refine (h.2 u).behind (fun t ht hd => ?_) (fun d hd hd' => ?_) (hok.plain i o ho)
      · have h1 := hok.looks i o ho t ht e oe (by omega) hoe hd
        exact absurd (back_anc hok i o ho e h1) (by omega)
      · exact hok.dst i o ho e oe hoe (by omega) d hd hd'
theorem Ahead.of2 {ops : Array Oper} {q : Nat} {T a : Act} (l : List Tmp) (hs : a.tmps.size = T.tmps.size) (hd : a.defers = T.defers) (hl : aheadB ops q T.tmps.size = l) (h : l.map (fun t => a.tmps[t]?) = l.map (fun t => T.tmps[t]?)) : Ahead ops q T a :=
  Ahead.of l hs hd hl fun t ht => List.map_inj_left.1 h t ht
theorem Ahead.of3 {ops : Array Oper} {q : Nat} {T a : Act} (lo hi : Nat) (hs : a.tmps.size = T.tmps.size) (hd : a.defers = T.defers) (hl : (aheadB ops q T.tmps.size).all (fun t => decide (t < lo) || decide (hi ≤ t)) = true)
    (h1 : a.tmps.toList.take lo = T.tmps.toList.take lo) (h2 : a.tmps.toList.drop hi = T.tmps.toList.drop hi) : Ahead ops q T a :=
  Ahead.of _ hs hd rfl fun t ht => by
    have h := List.all_eq_true.1 hl t ht
    simp only [Bool.or_eq_true, decide_eq_true_eq] at h
    rw [← Array.getElem?_toList, ← Array.getElem?_toList]
    rcases h with h | h
    · rw [← List.getElem?_take_of_lt h, h1, List.getElem?_take_of_lt h]
    · obtain ⟨d, rfl⟩ := Nat.le.dest h
      rw [← List.getElem?_drop, h2, List.getElem?_drop]
set_option linter.unusedVariables false
section
variable {op : Nat → (Act → World → Prop) → Act → World → Prop} {ops : Array Oper} {anc : List (List Nat)} {q : Nat} {Qn : Act → World → Prop} {S : World → Prop} {T : Act}
end
def CallOp (P : Program) (ops : Array Oper) (S : World → Prop) (S1 : Value → World → Prop) (T : Act) (o : Oper) : Prop :=
  Region.wanted o (yielded ops T.tmps) = true ∧ ∀ W, S W → ∃ f args W', (execOp T.eval o).run P W = .ok (.enter f args) W' ∧ Calls P f args W' fun e W'' => ∃ u, e = .returned u ∧ S1 u W''
theorem wp_flow8 {P : Program} {id : Nat} {ops : Array Oper} {Q : Exit → Act → World → Prop} {a : Act} {w : World} (anc : List (List Nat)) (e : Nat) (S : World → Prop) (S1 : Value → World → Prop) (T : Act) {oe : Oper}
    (hm : P.follows .mixedOrders = true) (hb : flowB ops anc (e + 1) = true) (hoe : ops[e]? = some oe) (hA : Ahead ops e T a) (hS : S w.drew)
    (hop : ∀ i o, i < e → ops[i]? = some o → (i ∈ anc.getD e [] ∧ FlowOp P ops S T o) ∨ EitherOp P ops S S1 T o) (hev : CallOp P ops S S1 T oe)
    {tl : List Oper} (htl : ops.toList.drop (e + 1) = tl) (hT : ∀ u w, S1 u w → wpList P ops Q tl (T.put oe.dst u) w) :
    (Code.region id ops true).wp P Q a w := by
  have hok := FlowOk.of hb
  have helt := (Array.getElem?_eq_some_iff.1 hoe).1
  have hf : ∀ j, (Array.replicate ops.size false).getD j false = false := fun j => by
    simp [Array.getD_eq_getD_getElem?, Array.getElem?_replicate]
    split <;> rfl
  refine wp_region_any hm (anyG_wp _ _ _ _ (any_flow2 (T := T) (S := S) (S1 := S1) hoe hok (fun i o hi ho K a w hl hs hd hS hK => flow_op ho (hok.plain i o ho) ?_ hl hs hd hS hK) (fun K a w hl hs hd hS hK => ?_) (fun u i o hi hna ho K a w hl hs hd hS hK => flow_op ho (hok.plain i o ho) ?_ hl hs hd hS hK)
    (fun u w hS => seqG_wp _ _ _ (by rw [range_drop, wpOps_eq_wpList _ _ (drop_get (e + 1)), htl]; exact hT u w hS)) (fun i K K' a w h => wpOp_mono h) _ _ _ _ (by simp) (by simp [List.countP_replicate]) (fun i hi => by rw [hf i] at hi; cases hi) (fun j _ => hf j) ⟨hA.1, hA.2.1, fun t ht => hA.2.2 t fun j o hj ho hd => by have := ht j o hj ho hd; rw [hf j] at this; cases this⟩ hS))
  · rcases hop i o hi ho with h | h
    · exact h.2
    · exact h.1
  · unfold wpOp
    simp only [hoe]
    rw [wanted_of_looks hl, if_pos hev.1]
    refine .inl ?_
    unfold Oper.wp
    rw [execOp_congr oe (plain_select (hok.plain e oe hoe)) (eval_of_looks hl)]
    obtain ⟨f, args, W', hr, hcl⟩ := hev.2 w hS
    rw [hr]
    refine hcl.mono fun e W'' he => ?_
    obtain ⟨u, rfl, hS'⟩ := he
    exact hK u W'' hS'
  · rcases hop i o hi ho with h | h
    · exact absurd h.1 hna
    · refine (h.2 u).behind (fun t ht hd => ?_) (fun d hd hd' => ?_) (hok.plain i o ho)
      · have h1 := hok.looks i o ho t ht e oe (by omega) hoe hd
        exact absurd (back_anc hok i o ho e h1) (by omega)
      · exact hok.dst i o ho e oe hoe (by omega) d hd hd'
end Go.Proofs.Ytbmkbokkmmdjdaa
end
section
namespace Go.Proofs.Ytbmkbokkmmdjdaa
open Go
set_option linter.unusedVariables false
def flowB2 (ops : Array Oper) (anc : List (List Nat)) (q lw up : Nat) : Bool :=
  (List.range ops.size).all fun i => match ops[i]? with
    | none => false
    | some o =>
      Op.plainOp o.op &&
      (anc.getD i []).all (fun j => o.after.toList.any fun e => Region.binds .any e && (e.on == j || (anc.getD e.on []).contains j)) &&
      (o.looksAt ops).all (fun t => (List.range q).all fun j => match ops[j]? with | some oj => oj.dst != some t || ((decide (t < lw) || decide (up ≤ t)) && (anc.getD i []).contains j) || (decide (lw ≤ t) && decide (t < up) && (anc.getD j []).contains i) | none => true) &&
      (List.range ops.size).all (fun j => j == i || match ops[j]? with | some oj => o.dst.isNone || oj.dst != o.dst | none => true) &&
      (decide (i < q) || (List.range i).all fun j => (anc.getD i []).contains j) &&
      o.after.toList.all (fun e => !Region.binds .any e || decide (e.on < i))
structure FlowOk2 (ops : Array Oper) (ax : List (List Nat)) (q lw up : Nat) : Prop where
  plain : ∀ (i : Nat) (o : Oper), ops[i]? = some o → Op.plainOp o.op = true
  anc : ∀ (i : Nat) (o : Oper), ops[i]? = some o → ∀ j ∈ ax.getD i [], ∃ e ∈ o.after.toList, Region.binds .any e = true ∧ (e.on = j ∨ j ∈ ax.getD e.on [])
  looks : ∀ (i : Nat) (o : Oper), ops[i]? = some o → ∀ t ∈ o.looksAt ops, ∀ (j : Nat) (oj : Oper), j < q → ops[j]? = some oj → oj.dst = some t → ((t < lw ∨ up ≤ t) ∧ j ∈ ax.getD i []) ∨ (lw ≤ t ∧ t < up ∧ i ∈ ax.getD j [])
  dst : ∀ (i : Nat) (o : Oper), ops[i]? = some o → ∀ (j : Nat) (oj : Oper), ops[j]? = some oj → j ≠ i → ∀ t, o.dst = some t → oj.dst ≠ some t
  tail : ∀ (i : Nat) (o : Oper), ops[i]? = some o → q ≤ i → ∀ j < i, j ∈ ax.getD i []
  back : ∀ (i : Nat) (o : Oper), ops[i]? = some o → ∀ e ∈ o.after.toList, Region.binds .any e = true → e.on < i
theorem FlowOk2.of {ops : Array Oper} {anc : List (List Nat)} {q lw up : Nat} (h : flowB2 ops anc q lw up = true) : FlowOk2 ops anc q lw up := by
  have key : ∀ (i : Nat) (o : Oper), ops[i]? = some o → (((((Op.plainOp o.op = true ∧ (anc.getD i []).all (fun j => o.after.toList.any fun e => Region.binds .any e && (e.on == j || (anc.getD e.on []).contains j)) = true) ∧
      (o.looksAt ops).all (fun t => (List.range q).all fun j => match ops[j]? with | some oj => oj.dst != some t || ((decide (t < lw) || decide (up ≤ t)) && (anc.getD i []).contains j) || (decide (lw ≤ t) && decide (t < up) && (anc.getD j []).contains i) | none => true) = true) ∧
      (List.range ops.size).all (fun j => j == i || match ops[j]? with | some oj => o.dst.isNone || oj.dst != o.dst | none => true) = true) ∧
      (decide (i < q) || (List.range i).all fun j => (anc.getD i []).contains j) = true) ∧ o.after.toList.all (fun e => !Region.binds .any e || decide (e.on < i)) = true) := fun i o ho => by
    have hlt : i < ops.size := (Array.getElem?_eq_some_iff.1 ho).1
    have := List.all_eq_true.1 h i (List.mem_range.2 hlt)
    simp only [ho, Bool.and_eq_true] at this
    exact this
  refine ⟨fun i o ho => (key i o ho).1.1.1.1.1, fun i o ho j hj => ?_, fun i o ho t ht j oj hjq hoj hd => ?_, fun i o ho j oj hoj hne t hd hd' => ?_, fun i o ho hq j hj => ?_, fun i o ho e he hb => ?_⟩
  · have := List.all_eq_true.1 (key i o ho).1.1.1.1.2 j hj
    obtain ⟨e, he, h2⟩ := List.any_eq_true.1 this
    simp only [Bool.and_eq_true, Bool.or_eq_true, beq_iff_eq, List.contains_iff_mem] at h2
    exact ⟨e, he, h2⟩
  · have h1 := List.all_eq_true.1 (key i o ho).1.1.1.2 t ht
    have h2 := List.all_eq_true.1 h1 j (List.mem_range.2 hjq)
    simp only [hoj, hd, Bool.or_eq_true, Bool.and_eq_true, decide_eq_true_eq, List.contains_iff_mem] at h2
    rcases h2 with (h2 | h2) | h2
    · simp at h2
    · exact .inl h2
    · exact .inr ⟨h2.1.1, h2.1.2, h2.2⟩
  · have h2 := List.all_eq_true.1 (key i o ho).1.1.2 j (List.mem_range.2 (Array.getElem?_eq_some_iff.1 hoj).1)
    simp only [hoj, hd, hd', Bool.or_eq_true, beq_iff_eq] at h2
    rcases h2 with h2 | h2
    · exact hne h2
    · simp at h2
  · have h2 := (key i o ho).1.2
    simp only [Bool.or_eq_true, decide_eq_true_eq] at h2
    have h3 := h2.resolve_left (by omega)
    have := List.all_eq_true.1 h3 j (List.mem_range.2 hj)
    simpa using this
  · have := List.all_eq_true.1 (key i o ho).2 e he
    simpa [hb] using this
def Partly2 (ops : Array Oper) (q : Nat) (listed : Array Bool) (lw up : Nat) (T T' a : Act) : Prop :=
  Partly ops q listed T a ∧ ∀ t : Tmp, lw ≤ t ∧ t < up → (∀ (j : Nat) (o : Oper), j < q → ops[j]? = some o → o.dst = some t → listed.getD j false = false) → a.tmps[t]? = T'.tmps[t]?
section
variable {op : Nat → (Act → World → Prop) → Act → World → Prop} {ops : Array Oper} {anc : List (List Nat)} {q lw up : Nat} {Qn : Act → World → Prop} {S : World → Prop} {T T' : Act}
theorem any_flow12 (U : Nat → Prop) (hTT : ∀ t : Tmp, t < lw ∨ up ≤ t → T'.tmps[t]? = T.tmps[t]?) (hok : FlowOk2 ops anc q lw up) (hq : q ≤ ops.size)
    (hop : ∀ i o, i < q → U i → ops[i]? = some o → ∀ (K : Act → World → Prop) (a : Act) (w : World), (∀ t ∈ o.looksAt ops, a.tmps[t]? = T'.tmps[t]?) → a.tmps.size = T.tmps.size → a.defers = T.defers → S w →
      (∀ a' w', S w' → a'.tmps.size = T.tmps.size → a'.defers = T.defers → (∀ t, o.dst ≠ some t → a'.tmps[t]? = a.tmps[t]?) → (∀ t, o.dst = some t → a'.tmps[t]? = T.tmps[t]?) → K a' w') → op i K a w)
    (hT : ∀ w, S w → seqG op Qn (List.range' q (ops.size - q)) T w)
    (hmono : ∀ i K K' a w, (∀ a w, K a w → K' a w) → op i K a w → op i K' a w) :
    ∀ (fuel : Nat) (listed : Array Bool) (a : Act) (w : World), listed.size = ops.size → listed.toList.countP (! ·) ≤ fuel →
      (∀ i, listed.getD i false = true → ∀ j ∈ anc.getD i [], listed.getD j false = true) →
      ((∃ j, j < q ∧ listed.getD j false = false) ∧ (∀ j, q ≤ j → listed.getD j false = false) ∧ Partly2 ops q listed lw up T T' a ∧ S w ∧ (∀ j, j < q → listed.getD j false = false → U j)) ∨
      (∃ m, q ≤ m ∧ m ≤ ops.size ∧ (∀ j, j < m → listed.getD j false = true) ∧ (∀ j, m ≤ j → listed.getD j false = false) ∧ seqG op Qn (List.range' m (ops.size - m)) a w) →
      anyG op ops Qn fuel listed a w := by
  intro fuel
  induction fuel with
  | zero =>
    intro listed a w hsz hc hI hst
    have hall : ∀ j, j < ops.size → listed.getD j false = true := fun j hj => by
      have h0 : listed.toList.countP (! ·) = 0 := by omega
      rw [List.countP_eq_zero] at h0
      have := h0 listed[j] (by simp)
      simpa [Array.getD_eq_getD_getElem?, hsz ▸ hj] using this
    have hr : Region.ready .any ops listed = [] := by
      rw [List.eq_nil_iff_forall_not_mem]
      intro i hi
      obtain ⟨o, ho, h1, _⟩ := ready_spec hi
      have hlt := (Array.getElem?_eq_some_iff.1 ho).1
      have := hall i hlt
      simp [Array.getD_eq_getD_getElem?, hsz ▸ hlt] at this h1
      rw [this] at h1; cases h1
    refine ⟨hr, ?_⟩
    rcases hst with ⟨⟨j, hj, hf⟩, _⟩ | ⟨m, hm, hm2, h1, h2, h3⟩
    · rw [hall j (by omega)] at hf; cases hf
    · have : m = ops.size := by
        rcases Nat.lt_or_ge m ops.size with h | h
        · have := h2 m (Nat.le_refl _); rw [hall m h] at this; cases this
        · omega
      subst this
      simpa [seqG] using h3
  | succ fuel ih =>
    intro listed a w hsz hc hI hst
    have hDi : ∀ (i : Nat) (o : Oper), ops[i]? = some o → (∀ e ∈ o.after.toList, Region.binds .any e = true → listed.getD e.on false = true) → ∀ j ∈ anc.getD i [], listed.getD j false = true := fun i o ho h2 j hj => by
      obtain ⟨e, he, hb, h⟩ := hok.anc i o ho j hj
      rcases h with rfl | h
      · exact h2 e he hb
      · exact hI e.on (h2 e he hb) j h
    have hft : ∀ i, i < ops.size → listed.getD i false = false → listed.getD i true = false := fun i hi h => by
      simp [Array.getD_eq_getD_getElem?, hsz ▸ hi] at h ⊢; exact h
    have hsome : ∀ m, m < ops.size → listed.getD m false = false → (∀ j, j < m → listed.getD j false = true) → m ∈ Region.ready .any ops listed := fun m hm h1 h2 =>
      ready_mem (o := ops[m]) (by simp [hm]) (hft m hm h1) fun e he hb => h2 _ (hok.back m ops[m] (by simp [hm]) e he hb)
    have hnext : ∀ (i : Nat) (o : Oper), ops[i]? = some o → listed.getD i true = false → (∀ e ∈ o.after.toList, Region.binds .any e = true → listed.getD e.on false = true) →
        (listed.setIfInBounds i true).size = ops.size ∧ (listed.setIfInBounds i true).toList.countP (! ·) ≤ fuel ∧ (∀ k, (listed.setIfInBounds i true).getD k false = true → ∀ j ∈ anc.getD k [], (listed.setIfInBounds i true).getD j false = true) := fun i o ho h1 h2 => by
      have hlt := (Array.getElem?_eq_some_iff.1 ho).1
      have hlt' : i < listed.size := by omega
      refine ⟨by simpa using hsz, ?_, fun k hk j hj => ?_⟩
      · have hfi : listed.toList[i]'(by simpa using hlt') = false := by
          simp [Array.getD_eq_getD_getElem?, hlt'] at h1; simpa using h1
        have hset : (listed.setIfInBounds i true).toList = listed.toList.set i true := by simp
        rw [hset, List.countP_set (by simpa using hlt')]
        simp only [hfi, Bool.not_false, Bool.not_true, if_true, Bool.false_eq_true, if_false, Nat.add_zero]
        have : 0 < listed.toList.countP (! ·) := List.countP_pos_iff.2 ⟨listed.toList[i]'(by simpa using hlt'), List.getElem_mem _, by rw [hfi]; rfl⟩
        omega
      · rw [getD_set]
        rw [getD_set] at hk
        by_cases hji : i = j ∧ i < listed.size
        · rw [if_pos hji]
        · rw [if_neg hji]
          by_cases hki : i = k ∧ i < listed.size
          · obtain ⟨rfl, _⟩ := hki
            exact hDi i o ho h2 j hj
          · rw [if_neg hki] at hk
            exact hI k hk j hj
    rcases hst with ⟨⟨j0, hj0, hf0⟩, htl, hP, hS, hU⟩ | ⟨m, hm, hm2, h1, h2, h3⟩
    · refine ⟨fun hr => ?_, fun i hi => ?_⟩
      · -- the least that is not listed
        exfalso
        have hex : ∀ n, (∃ j, j ≤ n ∧ listed.getD j false = false) → ∃ m, m ≤ n ∧ listed.getD m false = false ∧ ∀ j, j < m → listed.getD j false = true := by
          intro n
          induction n with
          | zero => rintro ⟨j, hj, h⟩; exact ⟨0, Nat.le_refl _, by obtain rfl : j = 0 := (by omega); exact h, fun _ h => absurd h (by omega)⟩
          | succ n ihn =>
            rintro ⟨j, hj, h⟩
            by_cases hx : ∃ j, j ≤ n ∧ listed.getD j false = false
            · obtain ⟨m, a, b⟩ := ihn hx; exact ⟨m, by omega, b⟩
            · refine ⟨n + 1, Nat.le_refl _, ?_, fun k hk => ?_⟩
              · rcases Nat.lt_or_ge n j with hl | hl
                · obtain rfl : j = n + 1 := (by omega); exact h
                · exact absurd ⟨j, hl, h⟩ hx
              · cases hv : listed.getD k false with
                | true => rfl
                | false => exact absurd ⟨k, by omega, hv⟩ hx
        obtain ⟨m, hm, hmf, hml⟩ := hex j0 ⟨j0, Nat.le_refl _, hf0⟩
        have := hsome m (by omega) hmf hml
        rw [hr] at this
        cases this
      · obtain ⟨o, ho, hu, ha⟩ := ready_spec hi
        have hlt := (Array.getElem?_eq_some_iff.1 ho).1
        have hiq : i < q := by
          rcases Nat.lt_or_ge i q with h | h
          · exact h
          · have := hDi i o ho ha j0 (hok.tail i o ho h j0 (by omega))
            rw [this] at hf0; cases hf0
        have hui : listed.getD i false = false := by
          simp [Array.getD_eq_getD_getElem?, hsz ▸ hlt] at hu ⊢; exact hu
        refine hop i o hiq (hU i hiq hui) ho _ a w (fun t ht => by
          by_cases hto : t < lw ∨ up ≤ t
          · rw [hTT t hto]
            exact hP.1.same t fun j oj hjq hoj hd => hDi i o ho ha j (((hok.looks i o ho t ht j oj (by omega) hoj hd).resolve_right (fun h => hto.elim (fun h1 => absurd h1 (Nat.not_lt.2 h.1)) (fun h1 => absurd h.2.1 (Nat.not_lt.2 h1)))).2)
          · refine hP.2 t ⟨Nat.le_of_not_lt fun h1 => hto (.inl h1), Nat.lt_of_not_le fun h1 => hto (.inr h1)⟩ fun j oj hjq hoj hd => ?_
            have h1 := (hok.looks i o ho t ht j oj (by omega) hoj hd).resolve_left (fun h => hto h.1)
            cases hv : listed.getD j false with
            | false => rfl
            | true => rw [hI j hv i h1.2.2] at hui; cases hui) hP.1.size hP.1.defers hS ?_
        intro a' w' hS' hsz' hdf' hoth hown
        obtain ⟨n1, n2, n3⟩ := hnext i o ho hu ha
        have hQ' : ∀ t : Tmp, lw ≤ t ∧ t < up → (∀ (j : Nat) (o : Oper), j < q → ops[j]? = some o → o.dst = some t → (listed.setIfInBounds i true).getD j false = false) → a'.tmps[t]? = T'.tmps[t]? := fun t hto ht => by
          have hd : o.dst ≠ some t := fun hd => by
            have := ht i o hiq ho hd
            rw [getD_set, if_pos ⟨rfl, by omega⟩] at this
            cases this
          rw [hoth t hd]
          refine hP.2 t hto fun j oj hj hoj hdj => ?_
          have := ht j oj hj hoj hdj
          rw [getD_set] at this
          by_cases hij : i = j ∧ i < listed.size
          · rw [if_pos hij] at this; cases this
          · rwa [if_neg hij] at this
        have hP' : Partly ops q (listed.setIfInBounds i true) T a' := ⟨hsz', hdf', fun t ht => by
          by_cases hd : o.dst = some t
          · exact hown t hd
          · rw [hoth t hd]
            refine hP.1.same t fun j oj hj hoj hdj => ?_
            have := ht j oj hj hoj hdj
            rw [getD_set] at this
            by_cases hij : i = j ∧ i < listed.size
            · obtain ⟨rfl, _⟩ := hij
              rw [ho] at hoj; cases hoj; exact absurd hdj hd
            · rwa [if_neg hij] at this⟩
        refine ih _ a' w' n1 n2 n3 ?_
        by_cases hx : ∃ j, j < q ∧ (listed.setIfInBounds i true).getD j false = false
        · refine .inl ⟨hx, fun j hj => ?_, ⟨hP', hQ'⟩, hS', fun j hj hf => hU j hj ?_⟩
          · rw [getD_set, if_neg (by omega)]
            exact htl j hj
          · rw [getD_set] at hf
            by_cases hij : i = j ∧ i < listed.size
            · rw [if_pos hij] at hf; cases hf
            · rwa [if_neg hij] at hf
        · have hall : ∀ j, j < q → (listed.setIfInBounds i true).getD j false = true := fun j hj => by
            cases hv : (listed.setIfInBounds i true).getD j false with
            | true => rfl
            | false => exact absurd ⟨j, hj, hv⟩ hx
          have hTa : a' = T := by
            obtain ⟨t1, d1⟩ := a'
            obtain ⟨t2, d2⟩ := T
            obtain ⟨p1, p2, p3⟩ := hP'
            simp only at p1 p2 p3
            subst p2
            congr
            exact Array.ext_getElem? fun t => p3 t fun j _ hj _ _ => hall j hj
          refine .inr ⟨q, Nat.le_refl _, hq, hall, fun j hj => ?_, by rw [hTa]; exact hT w' hS'⟩
          rw [getD_set, if_neg (by omega)]
          exact htl j hj
    · refine ⟨fun hr => ?_, fun i hi => ?_⟩
      · rcases Nat.lt_or_ge m ops.size with hl | hl
        · have := hsome m hl (h2 m (Nat.le_refl _)) h1
          rw [hr] at this; cases this
        · obtain rfl : m = ops.size := by omega
          simpa [seqG] using h3
      · obtain ⟨o, ho, hu, ha⟩ := ready_spec hi
        have hlt := (Array.getElem?_eq_some_iff.1 ho).1
        have him : i = m := by
          rcases Nat.lt_trichotomy i m with h | h | h
          · have := h1 i h
            simp [Array.getD_eq_getD_getElem?, hsz ▸ hlt] at this hu
            rw [this] at hu; cases hu
          · exact h
          · have := hDi i o ho ha m (hok.tail i o ho (by omega) m h)
            rw [h2 m (Nat.le_refl _)] at this; cases this
        subst him
        rw [show ops.size - i = (ops.size - (i + 1)) + 1 by omega, List.range'_succ] at h3
        obtain ⟨n1, n2, n3⟩ := hnext i o ho hu ha
        refine hmono i _ _ a w (fun a' w' hk => ?_) h3
        refine ih _ a' w' n1 n2 n3 (.inr ⟨i + 1, by omega, by omega, fun j hj => ?_, fun j hj => ?_, hk⟩)
        · rw [getD_set]
          by_cases hij : i = j
          · rw [if_pos ⟨hij, by omega⟩]
          · rw [if_neg (fun h => hij h.1)]; exact h1 j (by omega)
        · rw [getD_set, if_neg (by omega)]; exact h2 j (by omega)
end
def FlowOp2 (P : Program) (ops : Array Oper) (S : World → Prop) (T' T : Act) (o : Oper) : Prop :=
  if Region.wanted o (yielded ops T'.tmps) = true then
    ∀ W, S W → ∃ v, (∀ d, o.dst = some d → T.tmps[d]? = some v) ∧ (execOp T'.eval o).run P W = .ok (.value v) W
  else ∀ d, o.dst = some d → T.tmps[d]? = some undef
theorem FlowOp2.val {P : Program} {ops : Array Oper} {S : World → Prop} {T' T : Act} {o : Oper} (N : Tmp) (v : Value) (hd : o.dst = some N) (hv : T.tmps[N]? = some v) (hr : ∀ W, S W → (execOp T'.eval o).run P W = .ok (.value v) W) (hw : Region.wanted o (yielded ops T'.tmps) = true := by rfl) : FlowOp2 P ops S T' T o := by
  unfold FlowOp2
  rw [if_pos hw]
  exact fun W hS => ⟨v, fun d h => by rw [hd] at h; cases h; exact hv, hr W hS⟩
theorem flow_op2 {P : Program} {ops : Array Oper} {Q : Exit → Act → World → Prop} {S : World → Prop} {T T' : Act} {i : Nat} {o : Oper} (ho : ops[i]? = some o) (hpl : Op.plainOp o.op = true) (hf : FlowOp2 P ops S T' T o)
    {K : Act → World → Prop} {a : Act} {w : World} (hl : ∀ t ∈ o.looksAt ops, a.tmps[t]? = T'.tmps[t]?) (hs : a.tmps.size = T.tmps.size) (hd : a.defers = T.defers) (hS : S w)
    (hK : ∀ a' w', S w' → a'.tmps.size = T.tmps.size → a'.defers = T.defers → (∀ t, o.dst ≠ some t → a'.tmps[t]? = a.tmps[t]?) → (∀ t, o.dst = some t → a'.tmps[t]? = T.tmps[t]?) → K a' w') : wpOp P ops Q i K a w := by
  unfold wpOp
  simp only [ho]
  unfold FlowOp2 at hf
  rw [wanted_of_looks hl]
  by_cases hw : Region.wanted o (yielded ops T'.tmps) = true
  · rw [if_pos hw] at hf ⊢
    refine .inl ?_
    obtain ⟨v, hv, hr⟩ := hf w hS
    obtain ⟨p1, p2, p3, p4⟩ := put_is (a := a) (o := o) hs hd hv
    unfold Oper.wp
    rw [execOp_congr o (plain_select hpl) (eval_of_looks hl), hr]
    exact hK _ _ hS p1 p2 p3 p4
  · rw [if_neg hw] at hf
    rw [if_neg hw]
    obtain ⟨p1, p2, p3, p4⟩ := put_is (a := a) (o := o) (v := undef) hs hd hf
    exact hK _ _ hS p1 p2 p3 p4
def AllFlow2 (P : Program) (ops : Array Oper) (S : World → Prop) (T' T : Act) : List Oper → Prop
  | [] => True
  | o :: r => FlowOp2 P ops S T' T o ∧ AllFlow2 P ops S T' T r
theorem AllFlow2.of {P : Program} {ops : Array Oper} {S : World → Prop} {T' T : Act} : ∀ {l : List Oper}, AllFlow2 P ops S T' T l → ∀ (i : Nat) (o : Oper), l[i]? = some o → FlowOp2 P ops S T' T o
  | [], _, i, o, h => by simp at h
  | x :: r, h, 0, o, ho => by simp at ho; subst ho; exact h.1
  | x :: r, h, i + 1, o, ho => AllFlow2.of h.2 i o (by simpa using ho)
theorem AllFlow2.ops {P : Program} {ops : Array Oper} {S : World → Prop} {T' T : Act} {q : Nat} {l : List Oper} (hl : ops.toList.take q = l) (h : AllFlow2 P ops S T' T l) : ∀ i o, i < q → ops[i]? = some o → FlowOp2 P ops S T' T o := fun i o hi ho => by
  subst hl
  refine AllFlow2.of h i o ?_
  rw [List.getElem?_take_of_lt hi]
  simpa using ho
theorem but_of {a b : Array Value} {lw up : Nat} (h1 : a.toList.take lw = b.toList.take lw) (h2 : a.toList.drop up = b.toList.drop up) : ∀ t : Tmp, t < lw ∨ up ≤ t → a[t]? = b[t]? := fun t h => by
  rw [← Array.getElem?_toList, ← Array.getElem?_toList]
  rcases h with h | h
  · rw [← List.getElem?_take_of_lt h, h1, List.getElem?_take_of_lt h]
  · obtain ⟨d, rfl⟩ := Nat.le.dest h
    rw [← List.getElem?_drop, h2, List.getElem?_drop]
theorem in_of {a b : Array Value} {lw up : Nat} (h : (a.toList.take up).drop lw = (b.toList.take up).drop lw) : ∀ t : Tmp, lw ≤ t ∧ t < up → a[t]? = b[t]? := fun t ⟨h1, h2⟩ => by
  rw [← Array.getElem?_toList, ← Array.getElem?_toList, ← List.getElem?_take_of_lt h2, ← List.getElem?_take_of_lt (l := b.toList) h2]
  obtain ⟨d, rfl⟩ := Nat.le.dest h1
  rw [← List.getElem?_drop, ← List.getElem?_drop, h]
theorem wp_flow12 {P : Program} {id : Nat} {ops : Array Oper} {Q : Exit → Act → World → Prop} {a : Act} {w : World} (anc : List (List Nat)) (q lw up : Nat) (S : World → Prop) (T T' : Act)
    (hm : P.follows .mixedOrders = true) (hb : flowB2 ops anc q lw up = true) (hq : (decide (0 < q) && decide (q ≤ ops.size)) = true) (hA : Ahead ops q T a) (hO : (a.tmps.toList.take up).drop lw = (T'.tmps.toList.take up).drop lw) (hT1 : T'.tmps.toList.take lw = T.tmps.toList.take lw) (hT2 : T'.tmps.toList.drop up = T.tmps.toList.drop up) (hS : S w.drew)
    (hop : ∀ i o, i < q → ops[i]? = some o → FlowOp2 P ops S T' T o) {tl : List Oper} (htl : ops.toList.drop q = tl) (hT : ∀ w, S w → wpList P ops Q tl T w) :
    (Code.region id ops true).wp P Q a w := by
  simp only [Bool.and_eq_true, decide_eq_true_eq] at hq
  have hok := FlowOk2.of hb
  obtain ⟨s1, s2, s3, s4, s5⟩ := start_of (S := S) hq.1 hA hS
  refine wp_region_any hm (anyG_wp _ _ _ _ (any_flow12 (T := T) (T' := T') (S := S) (lw := lw) (up := up) (fun _ => True) (but_of hT1 hT2) hok hq.2 (fun i o hi _ ho K a w hl hs hd hS hK => flow_op2 ho (hok.plain i o ho) (hop i o hi ho) hl hs hd hS hK) (fun w hS => seqG_wp _ _ _ (by rw [range_drop, wpOps_eq_wpList _ _ (drop_get q), htl]; exact hT w hS)) (fun i K K' a w h => wpOp_mono h) _ _ _ _ (by simp) (by simp [List.countP_replicate]) (fun i hi => ?_) (.inl ⟨s1, s2, ⟨s3, fun t ht _ => in_of hO t ht⟩, s4, s5⟩)))
  exfalso
  simp [Array.getD_eq_getD_getElem?, Array.getElem?_replicate] at hi
  split at hi <;> simp at hi
end Go.Proofs.Ytbmkbokkmmdjdaa
end
section
namespace Go.Proofs.Ytbmkbokkmmdjdaa
open Go.RowKit Go.Proofs.YtbmkbokkmmdjdaaW.PrintWords Go.Proofs.YtbmkbokkmmdjdaaW.PrintLast Go.Proofs.YtbmkbokkmmdjdaaW.PrintMore
open Q Go.Shelf
attribute [local go_sem] Oper.semAt_some wide_depth wide_fn
set_option linter.unusedVariables false
set_option linter.unusedSimpArgs false
def RetInt (r : Int) (w : World) (e : Ending) (w' : World) : Prop := e = .returned (.int .i64 r) ∧ Below w.heap.size w w'
def RetBool (r : Bool) (w : World) (e : Ending) (w' : World) : Prop := e = .returned (.bool r) ∧ Below w.heap.size w w'
def postV (x : S36) : Value := .agg #[.int .i64 x.f0, .int .u8 x.f1, .int .i64 x.f2, .int .i64 x.f3, .int .i64 x.f4.f0, .int .i64 x.f4.f1, .int .i64 x.f5.f0, .int .i64 x.f5.f1, .int .i64 x.f6.f0, .int .i64 x.f6.f1, .int .i64 x.f7]
def AsksP (g : Nat) (cap : Array Value) (p : S36 → Bool) (l : List S36) (w : World) : Prop :=
  ∀ (W : World) (x : S36), x ∈ l → Below w.heap.size w W → Calls Try.prog g (#[postV x] ++ cap) W (RetBool (p x) W)
theorem rdP {l : List S36} {k : Nat} (h : k < l.length) : rd_T36 l (k : Int) = l[k] := by simp [rd_T36, List.getD, h]
def cnt (p : S36 → Bool) (l : List S36) : Nat := l.countP p
theorem cnt_take {p : S36 → Bool} {l : List S36} {k : Nat} (h : k < l.length) : cnt p (l.take (k + 1)) = cnt p (l.take k) + (if p l[k] = true then 1 else 0) := by
  unfold cnt
  rw [List.take_succ_eq_append_getElem h, List.countP_append]
  simp [List.countP_cons]
set_option maxRecDepth 100000 in
set_option maxHeartbeats 2000000 in
theorem count_any (g : Nat) (cap : Array Value) (eg : ∀ args w, (callFunc g args).run Try.prog w = .ok (.enter g args) w) (p : S36 → Bool) (ho fi : S23) (A : Option Addr) (n c : Nat) (A1 : Option Addr) (c1 : Nat) (l : List S36) (w : World) (hr : Kd.C k36 w A1 l.length l) (hl : l.length ≤ 1000000) (hp : AsksP g cap p l w) :
    Calls Try.prog 52 #[.agg #[.int .i64 ho.f0, .int .i64 ho.f1, .int .i64 fi.f0, .int .i64 fi.f1, .slice A n c, .slice A1 l.length c1], .func (.func g) #[] cap] w (RetInt (cnt p l) w) := by
  have hu := Try.underlying36
  have hu2 := Try.underlying67
  have HB := Below.refl w.heap.size w
  have HP := hid hp
  have HR := hid hr
  clear hp hr
  go_enter Try.func52, Try.ntmps52
  go_wp2_with fail
  have HB1 := hid (HB.alloc (Nat.le_refl _) (.cells #[.int .i64 ho.f0, .int .i64 ho.f1, .int .i64 fi.f0, .int .i64 fi.f1, .slice A n c, .slice A1 l.length c1] 67))
  generalize w.alloc (.cells #[.int .i64 ho.f0, .int .i64 ho.f1, .int .i64 fi.f0, .int .i64 fi.f1, .slice A n c, .slice A1 l.length c1] 67) = W1 at *
  clear HB
  go_loopw [5, 11] (fun v5 v11 wr => ∃ k : Nat, k ≤ l.length ∧ v5 = .int .i64 ((cnt p (l.take k) : Nat) : Int) ∧ v11 = .int .i64 k ∧ Hid (Below w.heap.size w wr)) (fun _ v11 _ => l.length - (intOf v11).toNat)
  case atStart => exact ⟨0, by omega, rfl, rfl, HB1⟩
  case round =>
    obtain ⟨k, hk, rfl, rfl, HX⟩ := hrel
    have hck : cnt p (l.take k) ≤ k := by unfold cnt; exact Nat.le_trans List.countP_le_length (by simp; omega)
    by_cases hlt : k < l.length
    · have hc := at_T36 (Kd.C_below HR.out HX.out) k (by omega) (by omega)
      rw [rdP hlt] at hc
      simp only [Int.toNat_natCast] at hc
      obtain ⟨ad, rfl, k0, k1, k2, k3, k4, k5, k6, k7, k8, k9, k10⟩ := hc
      go_wp2_with fail
      have hb1 := HX.out.alloc HX.out.size (.cells #[.int .i64 l[k].f0, .int .u8 l[k].f1, .int .i64 l[k].f2, .int .i64 l[k].f3, .int .i64 l[k].f4.f0, .int .i64 l[k].f4.f1, .int .i64 l[k].f5.f0, .int .i64 l[k].f5.f1, .int .i64 l[k].f6.f0, .int .i64 l[k].f6.f1, .int .i64 l[k].f7] 36)
      have HX1 := hid hb1
      generalize World.alloc _ (.cells #[.int .i64 l[k].f0, .int .u8 l[k].f1, .int .i64 l[k].f2, .int .i64 l[k].f3, .int .i64 l[k].f4.f0, .int .i64 l[k].f4.f1, .int .i64 l[k].f5.f0, .int .i64 l[k].f5.f1, .int .i64 l[k].f6.f0, .int .i64 l[k].f6.f1, .int .i64 l[k].f7] 36) = Wk at *
      refine (HP.out Wk l[k] (List.getElem_mem hlt) hb1).mono ?_
      rintro e w' ⟨rfl, hb⟩
      have HB' := hid (hb1.trans (hb.mono hb1.size))
      have hct := cnt_take (p := p) hlt
      have HCT := hid hct
      clear hb hct hb1 k0 k1 k2 k3 k4 k5 k6 k7 k8 k9 k10 HX HX1
      cases hpv : p l[k] with
      | true =>
        have e1 : cnt p (l.take (k + 1)) = cnt p (l.take k) + 1 := by rw [HCT.out, hpv]; rfl
        have HE := hid e1
        clear hpv e1
        go_wp2
        go_roundw
        case rel => exact ⟨k + 1, by omega, by rw [HE.out]; go_num, by go_num, HB'⟩
        case measure => simp [intOf]; omega
      | false =>
        have e1 : cnt p (l.take (k + 1)) = cnt p (l.take k) := by rw [HCT.out, hpv]; rfl
        have HE := hid e1
        clear hpv e1
        go_wp2
        go_roundw
        case rel => exact ⟨k + 1, by omega, by rw [HE.out], by go_num, HB'⟩
        case measure => simp [intOf]; omega
    · obtain rfl : k = l.length := by omega
      go_wp2
      go_ret
      exact ⟨ret_int (by rw [List.take_length]), HX.out⟩
end Go.Proofs.Ytbmkbokkmmdjdaa
end
