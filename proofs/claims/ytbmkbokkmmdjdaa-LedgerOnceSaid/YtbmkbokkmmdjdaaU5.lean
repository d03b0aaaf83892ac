-- G0 M1 M2 M3 (wip/pack9.py)
import Derived.OrdersIn
import Derived.TacticsIn
import Derived.WalkSmall
import Derived.Shelf.Abstract
import Derived.TacticsInMore
import Derived.OwnWalkIn
import Derived.LoopNIn
import Derived.LoopIn
import Derived.RecoverIn
import Derived.Test.YtbmkbokkmmdjdaaU2
import Derived.Test.YtbmkbokkmmdjdaaU3
import Derived.Test.YtbmkbokkmmdjdaaU4
section
namespace Go.Proofs.Ytbmkbokkmmdjdaa
open Go.RowKit Go.Proofs.YtbmkbokkmmdjdaaW.PrintWords Go.Proofs.YtbmkbokkmmdjdaaW.PrintLast Go.Proofs.YtbmkbokkmmdjdaaW.PrintMore
open Q Go.Shelf
set_option linter.unusedVariables false
set_option linter.unusedSimpArgs false
theorem ret_int {k : IntKind} {a b : Int} (h : a = b) : Ending.returned (.int k a) = .returned (.int k b) := by rw [h]
theorem hid {p : Prop} (h : p) : Hid p := h
theorem ret_bool {a b : Bool} (h : a = b) : Ending.returned (.bool a) = .returned (.bool b) := by rw [h]
def betw (a l h : Int) : Bool := decide (l ≤ a) && decide (a ≤ h)
theorem any_none {α : Type} {l : List α} {p : α → Bool} (h : ∀ (j : Nat) (hj : j < l.length), p l[j] = false) : l.any p = false := by
  rw [Bool.eq_false_iff]
  intro hc
  rw [List.any_eq_true] at hc
  obtain ⟨x, hx, hp⟩ := hc
  obtain ⟨i, hi, rfl⟩ := List.getElem_of_mem hx
  rw [h i hi] at hp
  cases hp
theorem any_some {α : Type} {l : List α} {p : α → Bool} {j : Nat} (hj : j < l.length) (h : p l[j] = true) : l.any p = true := by
  rw [List.any_eq_true]
  exact ⟨l[j], List.getElem_mem hj, h⟩
theorem mixed : Try.prog.follows .mixedOrders = true := by kernel_rfl
theorem makeFunc_any : ∀ (fn : Fn) (first cap : Array Value) (w : World), (Instr.makeFunc fn first cap).run Try.prog w = .ok (.func fn first cap) w := fun _ _ _ _ => rfl
theorem wide_depth : Fence.wide.depth = none := rfl
theorem blkCell {W : World} {b : Nat} {cs : Array Value} {t : TypeId} (h : W.heap[b]? = some (.cells cs t (0, 0))) (j : Nat) : W.cell? ⟨b, j, none⟩ = cs[j]? := by
  simp [World.cell?, h]
theorem wide_fn (f : FuncId) : Fence.wide.fn f = True := rfl
theorem cell_lt {W : World} {b o : Nat} {v : Value} (h : W.cell? ⟨b, o, none⟩ = some v) : b < W.heap.size := by
  unfold World.cell? at h
  cases ho : W.heap[b]? with
  | none => simp [ho] at h
  | some o => exact (Array.getElem?_eq_some_iff.1 ho).1
theorem cell_grow {W W' : World} {b o : Nat} {v : Value} (h : W.cell? ⟨b, o, none⟩ = some v) (hb : Below W.heap.size W W') : W'.cell? ⟨b, o, none⟩ = some v := (hb.cell (p := ⟨b, o, none⟩) (cell_lt h)).trans h
theorem alloc_old {W : World} {k : Nat} {o o' : Obj} (h : W.heap[k]? = some o) : (W.alloc o').heap[k]? = some o := (Below.heap_alloc _ _ _ (Array.getElem?_eq_some_iff.1 h).1).trans h
theorem blkFrozen {W : World} {b : Nat} {cs : Array Value} {t : TypeId} (h : W.heap[b]? = some (.cells cs t (0, 0))) (j : Nat) : W.frozen? ⟨b, j, none⟩ = false := by
  simp [World.frozen?, h]
theorem keeps_of_below {W W' : World} (h : Below W.heap.size W W') : KeepsOthers W W' := ⟨h.size, fun k _ hk _ => (h.block k (Array.getElem?_eq_some_iff.1 hk).1).trans hk⟩
theorem heap_set_same {W : World} {b : Nat} {u v : Value} {t : TypeId} {fr : Nat × Nat} (h : W.heap[b]? = some (.cells #[u] t fr)) : (W.setCell ⟨b, 0, none⟩ v).heap[b]? = some (.cells #[v] t fr) := by
  simp [World.setCell, Array.getElem?_modify, h]
theorem heap_grow {W W' : World} {k : Nat} {o : Obj} (h : W.heap[k]? = some o) (hb : Below W.heap.size W W') : W'.heap[k]? = some o := (hb.block k (Array.getElem?_eq_some_iff.1 h).1).trans h
theorem wrap_i (n : Int) : IntKind.i64.wrap n = wrap64 n := by unfold wrap64; exact IntKind.wrap_i64 n
theorem rings_set {w : World} {base : Nat} {e : TypeId} {size n : Nat} {v : Value} {xs : List Value} (h : w.ownsRow base e size v n xs) {w1 : World} (hb : Below w.heap.size w w1) : w1.ownsRow base e size v n xs :=
  own_move h fun k hk => by
    obtain ⟨cells, hc⟩ := own_typed h k hk
    exact (hb.block k (Array.getElem?_eq_some_iff.1 hc).1)
theorem own_lower {w : World} {base base' : Nat} {e : TypeId} {size n : Nat} {v : Value} {xs : List Value} (hb : base' ≤ base) (h : w.ownsRow base e size v n xs) : w.ownsRow base' e size v n xs := by
  obtain ⟨h1, h2⟩ := h
  refine ⟨h1, h2.imp id ?_⟩
  rintro ⟨g, cap, cur, a, b, r⟩
  exact ⟨g, cap, cur, a, by omega, r⟩
theorem reps_flat {α β : Type} {R : β → List Value → Prop} {sz : Nat} {f : α → β} {g : α → List Value} (hR : ∀ x, R (f x) (g x)) (hg : ∀ x, (g x).length = sz) : ∀ l : List α, Reps R sz (l.map f) (l.flatMap g) := by
  intro l
  refine ⟨?_, ?_⟩
  · induction l with
    | nil => simp
    | cons x l ih => simp only [List.flatMap_cons, List.length_append, hg, ih, List.map_cons, List.length_cons, Nat.add_mul]; omega
  · induction l with
    | nil => intro j p h; simp at h
    | cons x l ih =>
      intro j p h
      cases j with
      | zero =>
        simp at h; subst h
        simp only [Nat.zero_mul, List.drop_zero, List.flatMap_cons]
        rw [List.take_append_of_le_length (by rw [hg]; exact Nat.le_refl _), List.take_of_length_le (by rw [hg]; exact Nat.le_refl _)]
        exact hR x
      | succ j =>
        simp only [List.map_cons, List.getElem?_cons_succ] at h
        have := ih j p h
        simp only [List.flatMap_cons]
        rw [Nat.add_mul, Nat.one_mul, Nat.add_comm, List.drop_append, hg, Nat.add_sub_cancel_left, List.drop_of_length_le (by rw [hg]; omega), List.nil_append]
        exact this
theorem grown_keep {W W' : World} {base : Nat} {e : TypeId} {size n : Nat} {v : Value} {xs : List Value} (ho : W.ownsRow base e size v n xs) (hg : W.grownBy W' v.ownBlock) {k : Nat} {o : Obj} (hk : k < base) (h : W.heap[k]? = some o) : W'.heap[k]? = some o := by
  refine (hg.block k (Array.getElem?_eq_some_iff.1 h).1 fun he => ?_).trans h
  rcases ho.2 with ⟨rfl, _⟩ | ⟨g, cap, cur, rfl, hb, _⟩
  · cases he
  · simp [Value.ownBlock] at he; omega
theorem set_fst {W : World} {b : Nat} {u x v : Value} {t : TypeId} {fr : Nat × Nat} (h : W.heap[b]? = some (.cells #[u, x] t fr)) : (W.setCell ⟨b, 0, none⟩ v).heap[b]? = some (.cells #[v, x] t fr) := by
  simp [World.setCell, Array.getElem?_modify, h]
theorem set_snd {W : World} {b : Nat} {u x v : Value} {t : TypeId} {fr : Nat × Nat} (h : W.heap[b]? = some (.cells #[u, x] t fr)) : (W.setCell ⟨b, 1, none⟩ v).heap[b]? = some (.cells #[u, v] t fr) := by
  simp [World.setCell, Array.getElem?_modify, h]
theorem set_other {W : World} {p : Addr} {k : Nat} {v : Value} {o : Obj} (hne : k ≠ p.block) (h : W.heap[k]? = some o) : (W.setCell p v).heap[k]? = some o := (Below.heap_setCell _ _ _ _ hne).trans h
theorem set_at {W : World} {b : Nat} {cs : Array Value} {t : TypeId} (h : W.heap[b]? = some (.cells cs t (0, 0))) (j : Nat) (v : Value) : (W.setCell ⟨b, j, none⟩ v).heap[b]? = some (.cells (cs.setIfInBounds j v) t (0, 0)) := by
  simp [World.setCell, Array.getElem?_modify, h]
theorem wrap64_id {n : Int} (h0 : -9223372036854775808 ≤ n) (h1 : n ≤ 9223372036854775807) : wrap64 n = n := by
  rw [← wrap_i]; exact IntWalk.i64_in _ (by omega)
theorem cell_ltp {W : World} {p : Addr} {v : Value} (h : W.cell? p = some v) : p.block < W.heap.size := by
  apply Decidable.byContradiction
  intro hn
  have : W.heap[p.block]? = none := Array.getElem?_eq_none (by omega)
  simp [World.cell?, this] at h
theorem cell_growp {W W' : World} {p : Addr} {v : Value} (h : W.cell? p = some v) (hb : Below W.heap.size W W') : W'.cell? p = some v := (hb.cell (cell_ltp h)).trans h
set_option linter.unusedVariables false
theorem FlowOp.behind {P : Program} {ops : Array Oper} {S1 : World → Prop} {T : Act} {o : Oper} {D : Option Tmp} {u : Value} (h : FlowOp P ops S1 T o) (hl : ∀ t ∈ o.looksAt ops, D ≠ some t) (hne : ∀ d, o.dst = some d → D ≠ some d) (hpl : Op.plainOp o.op = true) : FlowOp P ops S1 (T.put D u) o := by
  have he : ∀ t ∈ o.looksAt ops, (T.put D u).tmps[t]? = T.tmps[t]? := fun t ht => put_get (hl t ht)
  unfold FlowOp at h ⊢
  rw [wanted_of_looks he]
  split
  · rename_i hw
    rw [if_pos hw] at h
    intro W hW
    obtain ⟨v, h1, h2⟩ := h W hW
    refine ⟨v, fun d hd => by rw [put_get (hne d hd)]; exact h1 d hd, ?_⟩
    rw [execOp_congr o (plain_select hpl) (eval_of_looks he)]
    exact h2
  · rename_i hw
    rw [if_neg hw] at h
    intro d hd
    rw [put_get (hne d hd)]; exact h d hd
def EitherOp (P : Program) (ops : Array Oper) (S : World → Prop) (S1 : Value → World → Prop) (T : Act) (o : Oper) : Prop := FlowOp P ops S T o ∧ ∀ u, FlowOp P ops (S1 u) T o
theorem LookOp.either {P : Program} {ops : Array Oper} {S : World → Prop} {S1 : Value → World → Prop} {T : Act} {o : Oper} (hSS : ∀ u W, S1 u W → S W) (h : LookOp P ops S T o) : EitherOp P ops S S1 T o :=
  ⟨h.flow, fun u => LookOp.flow ⟨h.1, fun W hW => h.2 W (hSS u W hW)⟩⟩
def EachOp3 (P : Program) (ops : Array Oper) (S : World → Prop) (S1 : Value → World → Prop) (T : Act) (bs : List Nat) : Nat → List Oper → Prop
  | _, [] => True
  | i, o :: r => ((i ∈ bs ∧ FlowOp P ops S T o) ∨ EitherOp P ops S S1 T o) ∧ EachOp3 P ops S S1 T bs (i + 1) r
theorem EachOp3.get {P : Program} {ops : Array Oper} {S : World → Prop} {S1 : Value → World → Prop} {T : Act} {bs : List Nat} : ∀ {l : List Oper} {k : Nat}, EachOp3 P ops S S1 T bs k l → ∀ (i : Nat) (o : Oper), l[i]? = some o → (k + i ∈ bs ∧ FlowOp P ops S T o) ∨ EitherOp P ops S S1 T o
  | [], _, _, i, o, h => by simp at h
  | x :: r, k, h, 0, o, ho => by simp at ho; subst ho; exact h.1
  | x :: r, k, h, i + 1, o, ho => by
    have := EachOp3.get h.2 i o (by simpa using ho)
    rwa [Nat.add_right_comm, Nat.add_assoc] at this
theorem EachOp3.ops {P : Program} {ops : Array Oper} {S : World → Prop} {S1 : Value → World → Prop} {T : Act} {bs : List Nat} {q : Nat} {l : List Oper} (hl : ops.toList.take q = l) (h : EachOp3 P ops S S1 T bs 0 l) : ∀ i o, i < q → ops[i]? = some o → (i ∈ bs ∧ FlowOp P ops S T o) ∨ EitherOp P ops S S1 T o := fun i o hi ho => by
  subst hl
  have := h.get i o (by rw [List.getElem?_take_of_lt hi]; simpa using ho)
  simpa using this
set_option linter.unusedVariables false
theorem wp_flow3 {P : Program} {id : Nat} {ops : Array Oper} {Q : Exit → Act → World → Prop} {a : Act} {w : World} (anc : List (List Nat)) (e : Nat) (S : World → Prop) (S1 : Value → World → Prop) (T : Act) {oe : Oper}
    (hm : P.follows .mixedOrders = true) (hb : flowB ops anc (e + 1) = true) (hoe : ops[e]? = some oe) (hA : Ahead ops e T a) (hS : S w.drew)
    (hop : ∀ i o, i < e → ops[i]? = some o → (i ∈ anc.getD e [] ∧ FlowOp P ops S T o) ∨ EitherOp P ops S S1 T o) (hev : EventOp P ops S S1 T oe)
    {tl : List Oper} (htl : ops.toList.drop (e + 1) = tl) (hT : ∀ u w, S1 u w → wpList P ops Q tl (T.put oe.dst u) w) :
    (Code.region id ops true).wp P Q a w := by
  have hok := FlowOk.of hb
  have helt := (Array.getElem?_eq_some_iff.1 hoe).1
  have hf : ∀ j, (Array.replicate ops.size false).getD j false = false := fun j => by
    simp [Array.getD_eq_getD_getElem?, Array.getElem?_replicate]
    split <;> rfl
  refine wp_region_any hm (anyG_wp _ _ _ _ (any_flow2 (T := T) (S := S) (S1 := S1) hoe hok (fun i o hi ho K a w hl hs hd hS hK => flow_op ho (hok.plain i o ho) ?_ hl hs hd hS hK) (fun K a w hl hs hd hS hK => ?_) (fun u i o hi hna ho K a w hl hs hd hS hK => flow_op ho (hok.plain i o ho) ?_ hl hs hd hS hK)
    (fun u w hS => seqG_wp _ _ _ (by rw [range_drop, wpOps_eq_wpList _ _ (drop_get (e + 1)), htl]; exact hT u w hS)) (fun i K K' a w h => wpOp_mono h) _ _ _ _ (by simp) (by simp [List.countP_replicate]) (fun i hi => by rw [hf i] at hi; cases hi) (fun j _ => hf j) ⟨hA.1, hA.2.1, fun t ht => hA.2.2 t fun j o hj ho hd => by have := ht j o hj ho hd; rw [hf j] at this; cases this⟩ hS))
  · rcases hop i o hi ho with h | h
    · exact h.2
    · exact h.1
  · unfold wpOp
    simp only [hoe]
    rw [wanted_of_looks hl, if_pos hev.1]
    refine .inl ?_
    unfold Oper.wp
    rw [execOp_congr oe (plain_select (hok.plain e oe hoe)) (eval_of_looks hl)]
    obtain ⟨u, W', hr, hS'⟩ := hev.2 w hS
    rw [hr]
    exact hK u W' hS'
  · rcases hop i o hi ho with h | h
    · exact absurd h.1 hna
    · refine (h.2 u).behind (fun t ht hd => ?_) (fun d hd hd' => ?_) (hok.plain i o ho)
      · have h1 := hok.looks i o ho t ht e oe (by omega) hoe hd
        exact absurd (back_anc hok i o ho e h1) (by omega)
      · exact hok.dst i o ho e oe hoe (by omega) d hd hd'
theorem Ahead.of2 {ops : Array Oper} {q : Nat} {T a : Act} (l : List Tmp) (hs : a.tmps.size = T.tmps.size) (hd : a.defers = T.defers) (hl : aheadB ops q T.tmps.size = l) (h : l.map (fun t => a.tmps[t]?) = l.map (fun t => T.tmps[t]?)) : Ahead ops q T a :=
  Ahead.of l hs hd hl fun t ht => List.map_inj_left.1 h t ht
theorem Ahead.of3 {ops : Array Oper} {q : Nat} {T a : Act} (lo hi : Nat) (hs : a.tmps.size = T.tmps.size) (hd : a.defers = T.defers) (hl : (aheadB ops q T.tmps.size).all (fun t => decide (t < lo) || decide (hi ≤ t)) = true)
    (h1 : a.tmps.toList.take lo = T.tmps.toList.take lo) (h2 : a.tmps.toList.drop hi = T.tmps.toList.drop hi) : Ahead ops q T a :=
  Ahead.of _ hs hd rfl fun t ht => by
    have h := List.all_eq_true.1 hl t ht
    simp only [Bool.or_eq_true, decide_eq_true_eq] at h
    rw [← Array.getElem?_toList, ← Array.getElem?_toList]
    rcases h with h | h
    · rw [← List.getElem?_take_of_lt h, h1, List.getElem?_take_of_lt h]
    · obtain ⟨d, rfl⟩ := Nat.le.dest h
      rw [← List.getElem?_drop, h2, List.getElem?_drop]
set_option linter.unusedVariables false
section
variable {op : Nat → (Act → World → Prop) → Act → World → Prop} {ops : Array Oper} {anc : List (List Nat)} {q : Nat} {Qn : Act → World → Prop} {S : World → Prop} {T : Act}
end
def CallOp (P : Program) (ops : Array Oper) (S : World → Prop) (S1 : Value → World → Prop) (T : Act) (o : Oper) : Prop :=
  Region.wanted o (yielded ops T.tmps) = true ∧ ∀ W, S W → ∃ f args W', (execOp T.eval o).run P W = .ok (.enter f args) W' ∧ Calls P f args W' fun e W'' => ∃ u, e = .returned u ∧ S1 u W''
theorem wp_flow8 {P : Program} {id : Nat} {ops : Array Oper} {Q : Exit → Act → World → Prop} {a : Act} {w : World} (anc : List (List Nat)) (e : Nat) (S : World → Prop) (S1 : Value → World → Prop) (T : Act) {oe : Oper}
    (hm : P.follows .mixedOrders = true) (hb : flowB ops anc (e + 1) = true) (hoe : ops[e]? = some oe) (hA : Ahead ops e T a) (hS : S w.drew)
    (hop : ∀ i o, i < e → ops[i]? = some o → (i ∈ anc.getD e [] ∧ FlowOp P ops S T o) ∨ EitherOp P ops S S1 T o) (hev : CallOp P ops S S1 T oe)
    {tl : List Oper} (htl : ops.toList.drop (e + 1) = tl) (hT : ∀ u w, S1 u w → wpList P ops Q tl (T.put oe.dst u) w) :
    (Code.region id ops true).wp P Q a w := by
  have hok := FlowOk.of hb
  have helt := (Array.getElem?_eq_some_iff.1 hoe).1
  have hf : ∀ j, (Array.replicate ops.size false).getD j false = false := fun j => by
    simp [Array.getD_eq_getD_getElem?, Array.getElem?_replicate]
    split <;> rfl
  refine wp_region_any hm (anyG_wp _ _ _ _ (any_flow2 (T := T) (S := S) (S1 := S1) hoe hok (fun i o hi ho K a w hl hs hd hS hK => flow_op ho (hok.plain i o ho) ?_ hl hs hd hS hK) (fun K a w hl hs hd hS hK => ?_) (fun u i o hi hna ho K a w hl hs hd hS hK => flow_op ho (hok.plain i o ho) ?_ hl hs hd hS hK)
    (fun u w hS => seqG_wp _ _ _ (by rw [range_drop, wpOps_eq_wpList _ _ (drop_get (e + 1)), htl]; exact hT u w hS)) (fun i K K' a w h => wpOp_mono h) _ _ _ _ (by simp) (by simp [List.countP_replicate]) (fun i hi => by rw [hf i] at hi; cases hi) (fun j _ => hf j) ⟨hA.1, hA.2.1, fun t ht => hA.2.2 t fun j o hj ho hd => by have := ht j o hj ho hd; rw [hf j] at this; cases this⟩ hS))
  · rcases hop i o hi ho with h | h
    · exact h.2
    · exact h.1
  · unfold wpOp
    simp only [hoe]
    rw [wanted_of_looks hl, if_pos hev.1]
    refine .inl ?_
    unfold Oper.wp
    rw [execOp_congr oe (plain_select (hok.plain e oe hoe)) (eval_of_looks hl)]
    obtain ⟨f, args, W', hr, hcl⟩ := hev.2 w hS
    rw [hr]
    refine hcl.mono fun e W'' he => ?_
    obtain ⟨u, rfl, hS'⟩ := he
    exact hK u W'' hS'
  · rcases hop i o hi ho with h | h
    · exact absurd h.1 hna
    · refine (h.2 u).behind (fun t ht hd => ?_) (fun d hd hd' => ?_) (hok.plain i o ho)
      · have h1 := hok.looks i o ho t ht e oe (by omega) hoe hd
        exact absurd (back_anc hok i o ho e h1) (by omega)
      · exact hok.dst i o ho e oe hoe (by omega) d hd hd'
end Go.Proofs.Ytbmkbokkmmdjdaa
end
section
namespace Go.Proofs.Ytbmkbokkmmdjdaa
open Go.RowKit Go.Proofs.YtbmkbokkmmdjdaaW.PrintWords Go.Proofs.YtbmkbokkmmdjdaaW.PrintLast Go.Proofs.YtbmkbokkmmdjdaaW.PrintMore
open Q Go.Shelf
attribute [local go_sem] Oper.semAt_some wide_depth wide_fn
set_option linter.unusedVariables false
set_option linter.unusedSimpArgs false
def RetInt (r : Int) (w : World) (e : Ending) (w' : World) : Prop := e = .returned (.int .i64 r) ∧ Below w.heap.size w w'
def RetBool (r : Bool) (w : World) (e : Ending) (w' : World) : Prop := e = .returned (.bool r) ∧ Below w.heap.size w w'
def postV (x : S36) : Value := .agg #[.int .i64 x.f0, .int .u8 x.f1, .int .i64 x.f2, .int .i64 x.f3, .int .i64 x.f4.f0, .int .i64 x.f4.f1, .int .i64 x.f5.f0, .int .i64 x.f5.f1, .int .i64 x.f6.f0, .int .i64 x.f6.f1, .int .i64 x.f7]
def AsksP (g : Nat) (cap : Array Value) (p : S36 → Bool) (l : List S36) (w : World) : Prop :=
  ∀ (W : World) (x : S36), x ∈ l → Below w.heap.size w W → Calls Try.prog g (#[postV x] ++ cap) W (RetBool (p x) W)
theorem rdP {l : List S36} {k : Nat} (h : k < l.length) : rd_T36 l (k : Int) = l[k] := by simp [rd_T36, List.getD, h]
def cnt (p : S36 → Bool) (l : List S36) : Nat := l.countP p
theorem cnt_take {p : S36 → Bool} {l : List S36} {k : Nat} (h : k < l.length) : cnt p (l.take (k + 1)) = cnt p (l.take k) + (if p l[k] = true then 1 else 0) := by
  unfold cnt
  rw [List.take_succ_eq_append_getElem h, List.countP_append]
  simp [List.countP_cons]
set_option maxRecDepth 100000 in
set_option maxHeartbeats 2000000 in
theorem count_any (g : Nat) (cap : Array Value) (eg : ∀ args w, (callFunc g args).run Try.prog w = .ok (.enter g args) w) (p : S36 → Bool) (ho fi : S23) (A : Option Addr) (n c : Nat) (A1 : Option Addr) (c1 : Nat) (l : List S36) (w : World) (hr : Kd.C k36 w A1 l.length l) (hl : l.length ≤ 1000000) (hp : AsksP g cap p l w) :
    Calls Try.prog 52 #[.agg #[.int .i64 ho.f0, .int .i64 ho.f1, .int .i64 fi.f0, .int .i64 fi.f1, .slice A n c, .slice A1 l.length c1], .func (.func g) #[] cap] w (RetInt (cnt p l) w) := by
  have hu := Try.underlying36
  have hu2 := Try.underlying67
  have HB := Below.refl w.heap.size w
  have HP := hid hp
  have HR := hid hr
  clear hp hr
  go_enter Try.func52, Try.ntmps52
  go_wp2_with fail
  have HB1 := hid (HB.alloc (Nat.le_refl _) (.cells #[.int .i64 ho.f0, .int .i64 ho.f1, .int .i64 fi.f0, .int .i64 fi.f1, .slice A n c, .slice A1 l.length c1] 67))
  generalize w.alloc (.cells #[.int .i64 ho.f0, .int .i64 ho.f1, .int .i64 fi.f0, .int .i64 fi.f1, .slice A n c, .slice A1 l.length c1] 67) = W1 at *
  clear HB
  go_loopw [5, 11] (fun v5 v11 wr => ∃ k : Nat, k ≤ l.length ∧ v5 = .int .i64 ((cnt p (l.take k) : Nat) : Int) ∧ v11 = .int .i64 k ∧ Hid (Below w.heap.size w wr)) (fun _ v11 _ => l.length - (intOf v11).toNat)
  case atStart => exact ⟨0, by omega, rfl, rfl, HB1⟩
  case round =>
    obtain ⟨k, hk, rfl, rfl, HX⟩ := hrel
    have hck : cnt p (l.take k) ≤ k := by unfold cnt; exact Nat.le_trans List.countP_le_length (by simp; omega)
    by_cases hlt : k < l.length
    · have hc := at_T36 (Kd.C_below HR.out HX.out) k (by omega) (by omega)
      rw [rdP hlt] at hc
      simp only [Int.toNat_natCast] at hc
      obtain ⟨ad, rfl, k0, k1, k2, k3, k4, k5, k6, k7, k8, k9, k10⟩ := hc
      go_wp2_with fail
      have hb1 := HX.out.alloc HX.out.size (.cells #[.int .i64 l[k].f0, .int .u8 l[k].f1, .int .i64 l[k].f2, .int .i64 l[k].f3, .int .i64 l[k].f4.f0, .int .i64 l[k].f4.f1, .int .i64 l[k].f5.f0, .int .i64 l[k].f5.f1, .int .i64 l[k].f6.f0, .int .i64 l[k].f6.f1, .int .i64 l[k].f7] 36)
      have HX1 := hid hb1
      generalize World.alloc _ (.cells #[.int .i64 l[k].f0, .int .u8 l[k].f1, .int .i64 l[k].f2, .int .i64 l[k].f3, .int .i64 l[k].f4.f0, .int .i64 l[k].f4.f1, .int .i64 l[k].f5.f0, .int .i64 l[k].f5.f1, .int .i64 l[k].f6.f0, .int .i64 l[k].f6.f1, .int .i64 l[k].f7] 36) = Wk at *
      refine (HP.out Wk l[k] (List.getElem_mem hlt) hb1).mono ?_
      rintro e w' ⟨rfl, hb⟩
      have HB' := hid (hb1.trans (hb.mono hb1.size))
      have hct := cnt_take (p := p) hlt
      have HCT := hid hct
      clear hb hct hb1 k0 k1 k2 k3 k4 k5 k6 k7 k8 k9 k10 HX HX1
      cases hpv : p l[k] with
      | true =>
        have e1 : cnt p (l.take (k + 1)) = cnt p (l.take k) + 1 := by rw [HCT.out, hpv]; rfl
        have HE := hid e1
        clear hpv e1
        go_wp2
        go_roundw
        case rel => exact ⟨k + 1, by omega, by rw [HE.out]; go_num, by go_num, HB'⟩
        case measure => simp [intOf]; omega
      | false =>
        have e1 : cnt p (l.take (k + 1)) = cnt p (l.take k) := by rw [HCT.out, hpv]; rfl
        have HE := hid e1
        clear hpv e1
        go_wp2
        go_roundw
        case rel => exact ⟨k + 1, by omega, by rw [HE.out], by go_num, HB'⟩
        case measure => simp [intOf]; omega
    · obtain rfl : k = l.length := by omega
      go_wp2
      go_ret
      exact ⟨ret_int (by rw [List.take_length]), HX.out⟩
end Go.Proofs.Ytbmkbokkmmdjdaa
end
section
namespace Go.Proofs.Ytbmkbokkmmdjdaa
open Go.RowKit Go.Proofs.YtbmkbokkmmdjdaaW.PrintWords Go.Proofs.YtbmkbokkmmdjdaaW.PrintLast Go.Proofs.YtbmkbokkmmdjdaaW.PrintMore
open Q Go.Shelf
attribute [local go_sem] Oper.semAt_some wide_depth wide_fn
set_option linter.unusedVariables false
set_option linter.unusedSimpArgs false
def isLot (k lot : Int) (x : S36) : Bool := x.f1 == k && x.f3 == lot
def isKind (k : Int) (x : S36) : Bool := x.f1 == k
def isHeap (x : S36) : Bool := x.f1 == 1 || x.f1 == 5
theorem enters53 : ∀ args w, (callFunc 53 args).run Try.prog w = .ok (.enter 53 args) w := enters_of Try.func53 (by kernel_rfl) rfl
theorem enters55 : ∀ args w, (callFunc 55 args).run Try.prog w = .ok (.enter 55 args) w := enters_of Try.func55 (by kernel_rfl) rfl
theorem enters82 : ∀ args w, (callFunc 82 args).run Try.prog w = .ok (.enter 82 args) w := enters_of Try.func82 (by kernel_rfl) rfl
theorem enters103 : ∀ args w, (callFunc 103 args).run Try.prog w = .ok (.enter 103 args) w := enters_of Try.func103 (by kernel_rfl) rfl
theorem lotp_any (x : S36) (Bk Bl : Nat) (k lot : Int) (W : World) (h1 : W.cell? ⟨Bk, 0, none⟩ = some (.int .u8 k)) (h2 : W.cell? ⟨Bl, 0, none⟩ = some (.int .i64 lot)) :
    Calls Try.prog 53 #[.agg #[.int .i64 x.f0, .int .u8 x.f1, .int .i64 x.f2, .int .i64 x.f3, .int .i64 x.f4.f0, .int .i64 x.f4.f1, .int .i64 x.f5.f0, .int .i64 x.f5.f1, .int .i64 x.f6.f0, .int .i64 x.f6.f1, .int .i64 x.f7], .pointer (some ⟨Bk, 0, none⟩), .pointer (some ⟨Bl, 0, none⟩)] W (RetBool (isLot k lot x) W) := by
  have hu := Try.underlying36
  have HB := Below.refl W.heap.size W
  have l1 := cell_lt h1
  have l2 := cell_lt h2
  unfold isLot
  cases hc : x.f1 == k with
  | true =>
    go_enter Try.func53, Try.ntmps53
    go_wp2
    go_ret
    exact ⟨by first | rfl | simp, HB.alloc (Nat.le_refl _) _⟩
  | false =>
    go_enter Try.func53, Try.ntmps53
    go_wp2
    go_ret
    exact ⟨by first | rfl | simp, HB.alloc (Nat.le_refl _) _⟩
theorem closedp_any (x : S36) (Bl : Nat) (lot : Int) (W : World) (h2 : W.cell? ⟨Bl, 0, none⟩ = some (.int .i64 lot)) :
    Calls Try.prog 55 #[.agg #[.int .i64 x.f0, .int .u8 x.f1, .int .i64 x.f2, .int .i64 x.f3, .int .i64 x.f4.f0, .int .i64 x.f4.f1, .int .i64 x.f5.f0, .int .i64 x.f5.f1, .int .i64 x.f6.f0, .int .i64 x.f6.f1, .int .i64 x.f7], .pointer (some ⟨Bl, 0, none⟩)] W (RetBool (isLot 4 lot x) W) := by
  have hu := Try.underlying36
  have HB := Below.refl W.heap.size W
  have l2 := cell_lt h2
  unfold isLot
  cases hc : x.f1 == 4 with
  | true =>
    go_enter Try.func55, Try.ntmps55
    go_wp2
    go_ret
    exact ⟨by first | rfl | simp, HB.alloc (Nat.le_refl _) _⟩
  | false =>
    go_enter Try.func55, Try.ntmps55
    go_wp2
    go_ret
    exact ⟨by first | rfl | simp, HB.alloc (Nat.le_refl _) _⟩
theorem kindp_any (x : S36) (Bl : Nat) (k : Int) (W : World) (h2 : W.cell? ⟨Bl, 0, none⟩ = some (.int .u8 k)) :
    Calls Try.prog 82 #[.agg #[.int .i64 x.f0, .int .u8 x.f1, .int .i64 x.f2, .int .i64 x.f3, .int .i64 x.f4.f0, .int .i64 x.f4.f1, .int .i64 x.f5.f0, .int .i64 x.f5.f1, .int .i64 x.f6.f0, .int .i64 x.f6.f1, .int .i64 x.f7], .pointer (some ⟨Bl, 0, none⟩)] W (RetBool (isKind k x) W) := by
  have hu := Try.underlying36
  have HB := Below.refl W.heap.size W
  have l2 := cell_lt h2
  unfold isKind
  go_enter Try.func82, Try.ntmps82
  go_wp2
  go_ret
  exact ⟨by first | rfl | simp, HB.alloc (Nat.le_refl _) _⟩
theorem brings_any (x : S36) (W : World) : Calls Try.prog 103 #[.agg #[.int .i64 x.f0, .int .u8 x.f1, .int .i64 x.f2, .int .i64 x.f3, .int .i64 x.f4.f0, .int .i64 x.f4.f1, .int .i64 x.f5.f0, .int .i64 x.f5.f1, .int .i64 x.f6.f0, .int .i64 x.f6.f1, .int .i64 x.f7]] W (RetBool (isHeap x) W) := by
  have hu := Try.underlying36
  have HB := Below.refl W.heap.size W
  unfold isHeap
  cases hc : x.f1 == 1 with
  | true =>
    go_enter Try.func103, Try.ntmps103
    go_wp2
    go_ret
    exact ⟨by first | rfl | simp, HB.alloc (Nat.le_refl _) _⟩
  | false =>
    go_enter Try.func103, Try.ntmps103
    go_wp2
    go_ret
    exact ⟨by first | rfl | simp, HB.alloc (Nat.le_refl _) _⟩
theorem ofKind_any (k : Int) (w : World) : Calls Try.prog 57 #[.int .u8 k] w fun e w' => e = .returned (.func (.func 82) #[] #[.pointer (some ⟨w.heap.size, 0, none⟩)]) ∧ w' = w.alloc (.cells #[.int .u8 k] 34) := by
  have hmf := makeFunc_any
  go_enter Try.func57, Try.ntmps57
  go_wp2
  go_ret
  exact ⟨rfl, rfl⟩
def idx (p : S36 → Bool) (l : List S36) : Int := if l.any p = true then (l.findIdx p : Int) else -1
theorem idx_at {p : S36 → Bool} {l : List S36} {k : Nat} (h : k < l.length) (hp : p l[k] = true) (hn : ∀ j (hj : j < l.length), j < k → p l[j] = false) : idx p l = k := by
  unfold idx
  rw [if_pos (any_some h hp)]
  congr 1
  exact (List.findIdx_eq h).2 ⟨hp, fun j hj => hn j (by omega) hj⟩
theorem idx_none {p : S36 → Bool} {l : List S36} (hn : ∀ j (hj : j < l.length), p l[j] = false) : idx p l = -1 := by
  unfold idx
  rw [any_none hn, if_neg (by decide)]
theorem idx_nonneg {p : S36 → Bool} {l : List S36} : decide (0 ≤ idx p l) = l.any p := by
  unfold idx
  cases h : l.any p
  · rw [if_neg (by decide)]; rfl
  · rw [if_pos rfl]; simp
theorem idx_lt {p : S36 → Bool} {l : List S36} (h : 0 ≤ idx p l) : (idx p l).toNat < l.length ∧ idx p l = (((idx p l).toNat : Nat) : Int) := by
  have hd : decide (0 ≤ idx p l) = true := decide_eq_true h
  rw [idx_nonneg] at hd
  have : idx p l = (l.findIdx p : Int) := by unfold idx; rw [if_pos hd]
  have h2 : l.findIdx p < l.length := List.findIdx_lt_length.2 (by simpa using List.any_eq_true.1 hd)
  rw [this]; omega
set_option maxRecDepth 100000 in
set_option maxHeartbeats 2000000 in
theorem index_any (g : Nat) (cap : Array Value) (eg : ∀ args w, (callFunc g args).run Try.prog w = .ok (.enter g args) w) (p : S36 → Bool) (A1 : Option Addr) (c1 : Nat) (l : List S36) (w : World) (hr : Kd.C k36 w A1 l.length l) (hl : l.length ≤ 1000000) (hp : AsksP g cap p l w) :
    Calls Try.prog 54 #[.slice A1 l.length c1, .func (.func g) #[] cap] w (RetInt (idx p l) w) := by
  have hu := Try.underlying36
  have HP := hid hp
  have HR := hid hr
  clear hp hr
  go_enter Try.func54, Try.ntmps54
  go_wp2
  go_loopw [8] (fun v8 wr => ∃ k : Nat, k ≤ l.length ∧ v8 = .int .i64 k ∧ Hid (Below w.heap.size w wr) ∧ Hid (∀ (j : Nat) (h : j < l.length), j < k → p l[j] = false)) (fun v8 _ => l.length - (intOf v8).toNat)
  case atStart => exact ⟨0, by omega, rfl, Below.refl _ _, fun _ _ h => absurd h (by omega)⟩
  case round =>
    obtain ⟨k, hk, rfl, HX, HK⟩ := hrel
    by_cases hlt : k < l.length
    · have hc := at_T36 (Kd.C_below HR.out HX.out) k (by omega) (by omega)
      rw [rdP hlt] at hc
      simp only [Int.toNat_natCast] at hc
      obtain ⟨ad, rfl, k0, k1, k2, k3, k4, k5, k6, k7, k8, k9, k10⟩ := hc
      rename World => Wk
      go_wp2_with fail
      refine (HP.out Wk l[k] (List.getElem_mem hlt) HX.out).mono ?_
      rintro e w' ⟨rfl, hb⟩
      have HB' := hid (HX.out.trans (hb.mono HX.out.size))
      clear hb k0 k1 k2 k3 k4 k5 k6 k7 k8 k9 k10 HX
      cases hpv : p l[k] with
      | true =>
        have HV := hid hpv
        clear hpv
        go_wp2
        go_ret
        exact ⟨ret_int (idx_at hlt HV.out fun j hj h => HK.out j hj h).symm, HB'.out⟩
      | false =>
        have HK' := hid (show ∀ (j : Nat) (h : j < l.length), j < k + 1 → p l[j] = false from fun j h hj => by
          by_cases e : j = k
          · subst e; exact hpv
          · exact HK.out j h (by omega))
        clear hpv HK
        go_wp2
        go_roundw
        case rel => exact ⟨k + 1, by omega, by go_num, HB', HK'⟩
        case measure => simp [intOf]; omega
    · go_wp2
      go_ret
      exact ⟨ret_int (idx_none fun j hj => HK.out j hj (by omega)).symm, HX.out⟩
theorem containsP_any (g : Nat) (cap : Array Value) (eg : ∀ args w, (callFunc g args).run Try.prog w = .ok (.enter g args) w) (p : S36 → Bool) (A1 : Option Addr) (c1 : Nat) (l : List S36) (w : World) (hr : Kd.C k36 w A1 l.length l) (hl : l.length ≤ 1000000) (hp : AsksP g cap p l w) :
    Calls Try.prog 56 #[.slice A1 l.length c1, .func (.func g) #[] cap] w (RetBool (l.any p) w) := by
  go_enter Try.func56, Try.ntmps56
  go_wp2_with (first | (go_at_call 54; refine (index_any g cap eg p A1 c1 l _ hr hl hp).mono ?_; rintro e w' ⟨rfl, hb⟩))
  go_ret
  exact ⟨ret_bool (by rw [← idx_nonneg]), hb⟩
theorem cnt_any {p : S36 → Bool} {l : List S36} : decide (0 < cnt p l) = l.any p := by
  unfold cnt
  cases h : l.any p
  · have : l.countP p = 0 := List.countP_eq_zero.2 fun x hx => by
      have := List.any_eq_false.1 h x hx; simpa using this
    rw [this]; rfl
  · obtain ⟨x, hx, hp⟩ := List.any_eq_true.1 h
    have : 0 < l.countP p := List.countP_pos_iff.2 ⟨x, hx, hp⟩
    exact decide_eq_true this
theorem lot_any (ho fi : S23) (A : Option Addr) (n c : Nat) (A1 : Option Addr) (c1 : Nat) (l : List S36) (k lot : Int) (w : World) (hr : Kd.C k36 w A1 l.length l) (hl : l.length ≤ 1000000) :
    Calls Try.prog 27 #[.agg #[.int .i64 ho.f0, .int .i64 ho.f1, .int .i64 fi.f0, .int .i64 fi.f1, .slice A n c, .slice A1 l.length c1], .int .u8 k, .int .i64 lot] w (RetBool (l.any (isLot k lot)) w) := by
  have hu2 := Try.underlying67
  have hmf := makeFunc_any
  have HB := Below.refl w.heap.size w
  go_enter Try.func27, Try.ntmps27
  go_wp2_with fail
  have e1 := alloc_old (o' := .cells #[.int .i64 lot] 3) (World.alloc_heap_new (w.alloc (.cells #[.int .i64 ho.f0, .int .i64 ho.f1, .int .i64 fi.f0, .int .i64 fi.f1, .slice A n c, .slice A1 l.length c1] 67)) (.cells #[.int .u8 k] 34))
  have e2 := World.alloc_heap_new ((w.alloc (.cells #[.int .i64 ho.f0, .int .i64 ho.f1, .int .i64 fi.f0, .int .i64 fi.f1, .slice A n c, .slice A1 l.length c1] 67)).alloc (.cells #[.int .u8 k] 34)) (.cells #[.int .i64 lot] 3)
  have hbel := ((HB.alloc (Nat.le_refl _) (.cells #[.int .i64 ho.f0, .int .i64 ho.f1, .int .i64 fi.f0, .int .i64 fi.f1, .slice A n c, .slice A1 l.length c1] 67)).alloc (by simp) (.cells #[.int .u8 k] 34)).alloc (by simp; omega) (.cells #[.int .i64 lot] 3)
  simp only [World.size_alloc] at e1 e2
  generalize (((w.alloc (.cells #[.int .i64 ho.f0, .int .i64 ho.f1, .int .i64 fi.f0, .int .i64 fi.f1, .slice A n c, .slice A1 l.length c1] 67)).alloc (.cells #[.int .u8 k] 34)).alloc (.cells #[.int .i64 lot] 3)) = W3 at *
  have hp : AsksP 53 #[.pointer (some ⟨w.heap.size + 1, 0, none⟩), .pointer (some ⟨w.heap.size + 1 + 1, 0, none⟩)] (isLot k lot) l W3 := by
    intro W x _ hW
    have := lotp_any x (w.heap.size + 1) (w.heap.size + 1 + 1) k lot W (blkCell (heap_grow e1 hW) 0) (blkCell (heap_grow e2 hW) 0)
    simpa only [postV, List.push_toArray, List.append_toArray, List.cons_append, List.nil_append] using this
  refine (count_any 53 _ enters53 (isLot k lot) ho fi A n c A1 c1 l _ (Kd.C_below hr hbel) hl hp).mono ?_
  rintro e w4 ⟨rfl, hb⟩
  have HB4 := hid (hbel.trans (hb.mono hbel.size))
  clear e1 e2 hbel hb hp HB
  go_wp2
  go_ret
  exact ⟨ret_bool (by rw [← cnt_any]), HB4.out⟩
theorem heaps_any (ho fi : S23) (A : Option Addr) (n c : Nat) (A1 : Option Addr) (c1 : Nat) (l : List S36) (w : World) (hr : Kd.C k36 w A1 l.length l) (hl : l.length ≤ 1000000) :
    Calls Try.prog 52 #[.agg #[.int .i64 ho.f0, .int .i64 ho.f1, .int .i64 fi.f0, .int .i64 fi.f1, .slice A n c, .slice A1 l.length c1], .func (.func 103) #[] #[]] w (RetInt (cnt isHeap l) w) := by
  refine count_any 103 #[] enters103 isHeap ho fi A n c A1 c1 l w hr hl ?_
  intro W x _ hW
  have := brings_any x W
  simpa only [postV, List.push_toArray, List.append_toArray, List.cons_append, List.nil_append] using this
def fullErr (l : List S36) : Int := if 64 ≤ cnt isHeap l then 3 else 0
theorem full_any (ho fi : S23) (A : Option Addr) (n c : Nat) (A1 : Option Addr) (c1 : Nat) (l : List S36) (w : World) (hr : Kd.C k36 w A1 l.length l) (hl : l.length ≤ 1000000) :
    Calls Try.prog 102 #[.agg #[.int .i64 ho.f0, .int .i64 ho.f1, .int .i64 fi.f0, .int .i64 fi.f1, .slice A n c, .slice A1 l.length c1]] w (RetInt (fullErr l) w) := by
  have hu2 := Try.underlying67
  have HB := Below.refl w.heap.size w
  have hbel := HB.alloc (Nat.le_refl _) (.cells #[.int .i64 ho.f0, .int .i64 ho.f1, .int .i64 fi.f0, .int .i64 fi.f1, .slice A n c, .slice A1 l.length c1] 67)
  by_cases h : 64 ≤ cnt isHeap l
  · have d1 : decide ((64 : Int) ≤ (cnt isHeap l : Int)) = true := decide_eq_true (by omega)
    have d2 : decide (64 ≤ cnt isHeap l) = true := decide_eq_true h
    have HV := hid (show fullErr l = 3 by unfold fullErr; rw [if_pos h])
    clear h
    go_enter Try.func102, Try.ntmps102
    go_wp2_with (first | (go_at_call 52; refine (heaps_any ho fi A n c A1 c1 l _ (Kd.C_below hr hbel) hl).mono ?_; rintro e w4 ⟨rfl, hb⟩))
    go_ret
    exact ⟨ret_int HV.out.symm, hbel.trans (hb.mono hbel.size)⟩
  · have d1 : decide ((64 : Int) ≤ (cnt isHeap l : Int)) = false := decide_eq_false (by omega)
    have d2 : decide (64 ≤ cnt isHeap l) = false := decide_eq_false h
    have HV := hid (show fullErr l = 0 by unfold fullErr; rw [if_neg h])
    clear h
    go_enter Try.func102, Try.ntmps102
    go_wp2_with (first | (go_at_call 52; refine (heaps_any ho fi A n c A1 c1 l _ (Kd.C_below hr hbel) hl).mono ?_; rintro e w4 ⟨rfl, hb⟩))
    go_ret
    exact ⟨ret_int HV.out.symm, hbel.trans (hb.mono hbel.size)⟩
end Go.Proofs.Ytbmkbokkmmdjdaa
end
section
namespace Go.Proofs.Ytbmkbokkmmdjdaa
open Go.RowKit Go.Proofs.YtbmkbokkmmdjdaaW.PrintWords Go.Proofs.YtbmkbokkmmdjdaaW.PrintLast Go.Proofs.YtbmkbokkmmdjdaaW.PrintMore
open Q Go.Shelf
attribute [local go_sem] Oper.semAt_some wide_depth wide_fn
set_option linter.unusedVariables false
set_option linter.unusedSimpArgs false
def closedB (lot : Int) (l : List S36) : Bool := decide (0 ≤ idx (isLot 4 lot) l) && (l.drop (idx (isLot 4 lot) l).toNat).any (isKind 6)
set_option maxRecDepth 100000 in
set_option maxHeartbeats 2000000 in
set_option pp.deepTerms true in
set_option pp.maxSteps 1000000 in
theorem closed_any (ho fi : S23) (A : Option Addr) (n c : Nat) (A1 : Option Addr) (c1 : Nat) (l : List S36) (lot : Int) (w : World) (hr : Kd.C k36 w A1 l.length l) (hl : l.length ≤ 1000000) (hc : l.length ≤ c1) :
    Calls Try.prog 28 #[.agg #[.int .i64 ho.f0, .int .i64 ho.f1, .int .i64 fi.f0, .int .i64 fi.f1, .slice A n c, .slice A1 l.length c1], .int .i64 lot] w (RetBool (closedB lot l) w) := by
  have hu2 := Try.underlying67
  have hmf := makeFunc_any
  have HB := Below.refl w.heap.size w
  go_enter Try.func28, Try.ntmps28
  go_wp2_with fail
  have e0 := alloc_old (o' := .cells #[.int .i64 lot] 3) (World.alloc_heap_new w (.cells #[.int .i64 ho.f0, .int .i64 ho.f1, .int .i64 fi.f0, .int .i64 fi.f1, .slice A n c, .slice A1 l.length c1] 67))
  have e1 := World.alloc_heap_new (w.alloc (.cells #[.int .i64 ho.f0, .int .i64 ho.f1, .int .i64 fi.f0, .int .i64 fi.f1, .slice A n c, .slice A1 l.length c1] 67)) (.cells #[.int .i64 lot] 3)
  have hbel := (HB.alloc (Nat.le_refl _) (.cells #[.int .i64 ho.f0, .int .i64 ho.f1, .int .i64 fi.f0, .int .i64 fi.f1, .slice A n c, .slice A1 l.length c1] 67)).alloc (by simp) (.cells #[.int .i64 lot] 3)
  simp only [World.size_alloc] at e1
  generalize ((w.alloc (.cells #[.int .i64 ho.f0, .int .i64 ho.f1, .int .i64 fi.f0, .int .i64 fi.f1, .slice A n c, .slice A1 l.length c1] 67)).alloc (.cells #[.int .i64 lot] 3)) = W1 at *
  have hp : AsksP 55 #[.pointer (some ⟨w.heap.size + 1, 0, none⟩)] (isLot 4 lot) l W1 := by
    intro W x _ hW
    have := closedp_any x (w.heap.size + 1) lot W (blkCell (heap_grow e1 hW) 0)
    simpa only [postV, List.push_toArray, List.append_toArray, List.cons_append, List.nil_append] using this
  refine (index_any 55 _ enters55 (isLot 4 lot) A1 c1 l _ (Kd.C_below hr hbel) hl hp).mono ?_
  rintro e W2 ⟨rfl, hb⟩
  have HB2 := hid (hbel.trans (hb.mono hbel.size))
  have e0 := heap_grow e0 hb
  have y0 := blkCell e0 0
  have y1 := blkCell e0 1
  have y2 := blkCell e0 2
  have y3 := blkCell e0 3
  have y4 := blkCell e0 4
  have y5 := blkCell e0 5
  simp at y0 y1 y2 y3 y4 y5
  clear e0 e1 hbel hb hp HB
  by_cases h0 : 0 ≤ idx (isLot 4 lot) l
  · have hd : decide (0 ≤ idx (isLot 4 lot) l) = true := decide_eq_true h0
    obtain ⟨i1, i2⟩ := idx_lt h0
    have hC := Kd.C_drop (m := (idx (isLot 4 lot) l).toNat) (Kd.C_below hr HB2.out) (by omega) hc
    rw [if_neg (by omega)] at hC
    have HH := hid (And.intro h0 (And.intro i1 (And.intro i2 hC)))
    have g1 : decide (idx (isLot 4 lot) l ≤ (l.length : Int)) = true := decide_eq_true (by omega)
    have g2 : decide (idx (isLot 4 lot) l ≤ (c1 : Int)) = true := decide_eq_true (by omega)
    clear i1 i2 hC h0
    go_wp2_with fail
    refine wp_flow8 [[], [0], [1, 0], [2, 1, 0], [3, 2, 1, 0], [2, 1, 0], [4, 3, 2, 1, 0, 5], [2, 1, 0], [6, 4, 3, 2, 1, 0, 5, 7], [2, 1, 0, 8, 6, 4, 3, 5, 7], [9, 2, 1, 0, 8, 6, 4, 3, 5, 7]] 7
      (fun V => V.cell? ⟨w.heap.size, 0, none⟩ = some (.int .i64 ho.f0) ∧ V.cell? ⟨w.heap.size, 1, none⟩ = some (.int .i64 ho.f1) ∧ V.cell? ⟨w.heap.size, 2, none⟩ = some (.int .i64 fi.f0) ∧ V.cell? ⟨w.heap.size, 3, none⟩ = some (.int .i64 fi.f1) ∧ V.cell? ⟨w.heap.size, 4, none⟩ = some (.slice A n c) ∧ V.cell? ⟨w.heap.size, 5, none⟩ = some (.slice A1 l.length c1) ∧ Below W2.heap.size W2 V)
      (fun u V => (V.cell? ⟨w.heap.size, 0, none⟩ = some (.int .i64 ho.f0) ∧ V.cell? ⟨w.heap.size, 1, none⟩ = some (.int .i64 ho.f1) ∧ V.cell? ⟨w.heap.size, 2, none⟩ = some (.int .i64 fi.f0) ∧ V.cell? ⟨w.heap.size, 3, none⟩ = some (.int .i64 fi.f1) ∧ V.cell? ⟨w.heap.size, 4, none⟩ = some (.slice A n c) ∧ V.cell? ⟨w.heap.size, 5, none⟩ = some (.slice A1 l.length c1) ∧ Below W2.heap.size W2 V) ∧ ∃ Bx, u = .func (.func 82) #[] #[.pointer (some ⟨Bx, 0, none⟩)] ∧ V.cell? ⟨Bx, 0, none⟩ = some (.int .u8 6))
      { tmps := #[.agg #[.int .i64 ho.f0, .int .i64 ho.f1, .int .i64 fi.f0, .int .i64 fi.f1, .slice A n c, .slice A1 l.length c1], .int .i64 lot, .pointer (some ⟨w.heap.size, 0, none⟩), .pointer (some ⟨w.heap.size + 1, 0, none⟩), .bool false, .int .i64 (idx (isLot 4 lot) l), .pointer (some ⟨w.heap.size, 5, none⟩), .slice A1 l.length c1, .func (.func 55) #[] #[.pointer (some ⟨w.heap.size + 1, 0, none⟩)], .int .i64 (idx (isLot 4 lot) l), .int .i64 (idx (isLot 4 lot) l), .bool true, .bool true, .pointer (some ⟨w.heap.size, 5, none⟩), .slice A1 l.length c1, .int .i64 (idx (isLot 4 lot) l), .slice (A1.map (·.add ((idx (isLot 4 lot) l).toNat * 11))) (l.length - (idx (isLot 4 lot) l).toNat) (c1 - (idx (isLot 4 lot) l).toNat), undef, undef, undef], defers := [] }
      mixed (by kernel_rfl) rfl (Ahead.of3 10 17 rfl rfl (by kernel_rfl) rfl rfl) ?_ ?_ ?_ rfl ?_
    · exact ⟨y0, y1, y2, y3, y4, y5, (Below.refl _ _).drew⟩
    · refine EachOp3.ops rfl ⟨?_, ?_, ?_, ?_, ?_, ?_, ?_, trivial⟩
      · exact .inr (LookOp.either (fun _ _ h => h.1) (LookOp.val 10 _ rfl rfl fun V ⟨y0, y1, y2, y3, y4, y5, hB_⟩ => by go_simp))
      · exact .inr (LookOp.either (fun _ _ h => h.1) (LookOp.val 11 _ rfl rfl fun V ⟨y0, y1, y2, y3, y4, y5, hB_⟩ => by go_simp))
      · exact .inr (LookOp.either (fun _ _ h => h.1) (LookOp.val 12 _ rfl rfl fun V ⟨y0, y1, y2, y3, y4, y5, hB_⟩ => by go_simp))
      · exact .inr (LookOp.either (fun _ _ h => h.1) (LookOp.val 13 _ rfl rfl fun V ⟨y0, y1, y2, y3, y4, y5, hB_⟩ => by go_simp))
      · exact .inr (LookOp.either (fun _ _ h => h.1) (LookOp.val 14 _ rfl rfl fun V ⟨y0, y1, y2, y3, y4, y5, hB_⟩ => by go_simp))
      · exact .inr (LookOp.either (fun _ _ h => h.1) (LookOp.val 15 _ rfl rfl fun V ⟨y0, y1, y2, y3, y4, y5, hB_⟩ => by go_simp))
      · exact .inr (LookOp.either (fun _ _ h => h.1) (LookOp.val 16 _ rfl rfl fun V ⟨y0, y1, y2, y3, y4, y5, hB_⟩ => by go_simp <;> rw [if_pos ⟨HH.out.1, by have := HH.out.2.1; omega⟩, if_neg (by have := HH.out.2.1; omega)]))
    · refine ⟨rfl, fun V ⟨y0, y1, y2, y3, y4, y5, hB_⟩ => ⟨57, #[.int .u8 6], V, by go_simp, ?_⟩⟩
      refine (ofKind_any 6 V).mono ?_
      rintro e w' ⟨rfl, rfl⟩
      have hgr := (Below.refl V.heap.size V).alloc (Nat.le_refl _) (.cells #[.int .u8 6] 34)
      exact ⟨_, rfl, ⟨cell_grow y0 hgr, cell_grow y1 hgr, cell_grow y2 hgr, cell_grow y3 hgr, cell_grow y4 hgr, cell_grow y5 hgr, hB_.trans (hgr.mono hB_.size)⟩, _, rfl, blkCell (World.alloc_heap_new V (.cells #[.int .u8 6] 34)) 0⟩
    · rintro u W8 ⟨⟨y0, y1, y2, y3, y4, y5, hB_⟩, Bx, rfl, hbx⟩
      have HB8 := hid (HB2.out.trans (hB_.mono HB2.out.size))
      have hC := Kd.C_below HH.out.2.2.2 hB_
      have hp : AsksP 82 #[.pointer (some ⟨Bx, 0, none⟩)] (isKind 6) (l.drop (idx (isLot 4 lot) l).toNat) W8 := by
        intro W x _ hW
        have := kindp_any x Bx 6 W (cell_grow hbx hW)
        simpa only [postV, List.push_toArray, List.append_toArray, List.cons_append, List.nil_append] using this
      have hcon := containsP_any 82 _ enters82 (isKind 6) (A1.map (·.add ((idx (isLot 4 lot) l).toNat * 11))) (c1 - (idx (isLot 4 lot) l).toNat) (l.drop (idx (isLot 4 lot) l).toNat) W8 hC (by simp; omega) hp
      rw [List.length_drop] at hcon
      have HCON := hid hcon
      clear hC hp hcon y0 y1 y2 y3 y4 y5 hB_ hbx hd g1 g2
      go_wp2_with fail
      refine HCON.out.mono ?_
      rintro e w9 ⟨rfl, hb⟩
      have HB9 := hid (HB8.out.trans (hb.mono HB8.out.size))
      clear hb HCON
      go_wp2
      go_ret
      exact ⟨ret_bool (by unfold closedB; rw [decide_eq_true HH.out.1]; rfl), HB9.out⟩
  · have hd : decide (0 ≤ idx (isLot 4 lot) l) = false := decide_eq_false h0
    have HV := hid (show closedB lot l = false by unfold closedB; rw [hd]; rfl)
    clear h0
    go_wp2_with fail
    refine wp_flow [[], [0], [1, 0], [2, 1, 0], [3, 2, 1, 0], [2, 1, 0], [4, 3, 2, 1, 0, 5], [2, 1, 0], [6, 4, 3, 2, 1, 0, 5, 7], [2, 1, 0, 8, 6, 4, 3, 5, 7], [9, 2, 1, 0, 8, 6, 4, 3, 5, 7]] 10
      (fun V => Below W2.heap.size W2 V)
      { tmps := #[.agg #[.int .i64 ho.f0, .int .i64 ho.f1, .int .i64 fi.f0, .int .i64 fi.f1, .slice A n c, .slice A1 l.length c1], .int .i64 lot, .pointer (some ⟨w.heap.size, 0, none⟩), .pointer (some ⟨w.heap.size + 1, 0, none⟩), .bool false, .int .i64 (idx (isLot 4 lot) l), .pointer (some ⟨w.heap.size, 5, none⟩), .slice A1 l.length c1, .func (.func 55) #[] #[.pointer (some ⟨w.heap.size + 1, 0, none⟩)], .int .i64 (idx (isLot 4 lot) l), .int .i64 (idx (isLot 4 lot) l), .bool false, .bool false, undef, undef, undef, undef, undef, undef, .bool false], defers := [] }
      mixed (by kernel_rfl) rfl (Ahead.of3 10 20 rfl rfl (by kernel_rfl) rfl rfl) ?_ (AllFlow.ops rfl ?_) rfl ?_
    · exact (Below.refl _ _).drew
    · refine ⟨?_, ?_, ?_, ?_, ?_, ?_, ?_, ?_, ?_, ?_, trivial⟩
      · exact .val 10 _ rfl rfl fun V hB_ => by go_simp
      · exact .val 11 _ rfl rfl fun V hB_ => by go_simp
      · exact .val 12 _ rfl rfl fun V hB_ => by go_simp
      · exact .off 13 rfl rfl
      · exact .off 14 rfl rfl
      · exact .off 15 rfl rfl
      · exact .off 16 rfl rfl
      · exact .off 17 rfl rfl
      · exact .off 18 rfl rfl
      · exact .val 19 _ rfl rfl fun V hB_ => by go_simp
    · rintro V7 hB_
      have HB7 := hid (HB2.out.trans (hB_.mono HB2.out.size))
      clear hB_ y0 y1 y2 y3 y4 y5
      go_wp2
      go_ret
      exact ⟨ret_bool HV.out.symm, HB7.out⟩
end Go.Proofs.Ytbmkbokkmmdjdaa
end
