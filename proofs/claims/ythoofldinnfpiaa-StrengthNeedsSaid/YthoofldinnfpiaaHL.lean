import Derived.Test.YthoofldinnfpiaaIM
namespace Go.Proofs.Ythoofldinnfpiaa
open Go.RowKit Go.Proofs.YthoofldinnfpiaaW.PrintWords Go.Proofs.YthoofldinnfpiaaW.PrintLast Go.Proofs.YthoofldinnfpiaaW.PrintMore
open Q Go.Shelf
attribute [local go_sem] Oper.semAt_some wide_depth wide_fn
set_option linter.unusedVariables false
/-- an operation of a flow, whatever the event has yielded -/
theorem FlowOp.behind {P : Program} {ops : Array Oper} {S1 : World → Prop} {T : Act} {o : Oper} {D : Option Tmp} {u : Value} (h : FlowOp P ops S1 T o) (hl : ∀ t ∈ o.looksAt ops, D ≠ some t) (hne : ∀ d, o.dst = some d → D ≠ some d) (hpl : Op.plainOp o.op = true) : FlowOp P ops S1 (T.put D u) o := by
  have he : ∀ t ∈ o.looksAt ops, (T.put D u).tmps[t]? = T.tmps[t]? := fun t ht => put_get (hl t ht)
  unfold FlowOp at h ⊢
  rw [wanted_of_looks he]
  split
  · rename_i hw
    rw [if_pos hw] at h
    intro W hW
    obtain ⟨v, h1, h2⟩ := h W hW
    refine ⟨v, fun d hd => by rw [put_get (hne d hd)]; exact h1 d hd, ?_⟩
    rw [execOp_congr o (plain_select hpl) (eval_of_looks he)]
    exact h2
  · rename_i hw
    rw [if_neg hw] at h
    intro d hd
    rw [put_get (hne d hd)]; exact h d hd
/-- an operation that may stand ahead of the event or behind it -/
def EitherOp (P : Program) (ops : Array Oper) (S : World → Prop) (S1 : Value → World → Prop) (T : Act) (o : Oper) : Prop := FlowOp P ops S T o ∧ ∀ u, FlowOp P ops (S1 u) T o
theorem LookOp.either {P : Program} {ops : Array Oper} {S : World → Prop} {S1 : Value → World → Prop} {T : Act} {o : Oper} (hSS : ∀ u W, S1 u W → S W) (h : LookOp P ops S T o) : EitherOp P ops S S1 T o :=
  ⟨h.flow, fun u => LookOp.flow ⟨h.1, fun W hW => h.2 W (hSS u W hW)⟩⟩
theorem wpIn_flow3 {l n : Nat} {P : Program} {id : Nat} {ops : Array Oper} {Q : Exit → Act → World → Prop} {a : Act} {w : World} (anc : List (List Nat)) (e : Nat) (S : World → Prop) (S1 : Value → World → Prop) (T : Act) {oe : Oper}
    (hm : P.follows .mixedOrders = true) (hb : flowB ops anc (e + 1) = true) (hoe : ops[e]? = some oe) (hA : Ahead ops e T a) (hS : S w.drew)
    (hop : ∀ i o, i < e → ops[i]? = some o → (i ∈ anc.getD e [] ∧ FlowOp P ops S T o) ∨ EitherOp P ops S S1 T o) (hev : EventOp P ops S S1 T oe)
    {tl : List Oper} (htl : ops.toList.drop (e + 1) = tl) (hT : ∀ u w, S1 u w → wpListIn (Fence.wide.inRound l) n P ops Q tl (T.put oe.dst u) w) :
    (Code.region id ops true).wpIn (Fence.wide.inRound l) n P Q a w := by
  have hok := FlowOk.of hb
  have helt := (Array.getElem?_eq_some_iff.1 hoe).1
  have hf : ∀ j, (Array.replicate ops.size false).getD j false = false := fun j => by
    simp [Array.getD_eq_getD_getElem?, Array.getElem?_replicate]
    split <;> rfl
  refine wpIn_region_any hm (anyG_wpIn _ _ _ _ (any_flow2 (T := T) (S := S) (S1 := S1) hoe hok (fun i o hi ho K a w hl hs hd hS hK => flow_opIn ho (hok.plain i o ho) ?_ hl hs hd hS hK) (fun K a w hl hs hd hS hK => ?_) (fun u i o hi hna ho K a w hl hs hd hS hK => flow_opIn ho (hok.plain i o ho) ?_ hl hs hd hS hK)
    (fun u w hS => seqG_wpIn _ _ _ (by rw [range_drop, wpOpsIn_eq_wpListIn _ _ (drop_get (e + 1)), htl]; exact hT u w hS)) (fun i K K' a w h => wpOpIn_mono h) _ _ _ _ (by simp) (by simp [List.countP_replicate]) (fun i hi => by rw [hf i] at hi; cases hi) (fun j _ => hf j) ⟨hA.1, hA.2.1, fun t ht => hA.2.2 t fun j o hj ho hd => by have := ht j o hj ho hd; rw [hf j] at this; cases this⟩ hS))
  · rcases hop i o hi ho with h | h
    · exact h.2
    · exact h.1
  · unfold wpOpIn
    simp only [hoe]
    rw [wanted_of_looks hl, if_pos hev.1]
    refine ⟨fun _ _ => trivial, ?_⟩
    rw [Fence.inRound_round, Oper.semAt_some l _ oe (plain_defer (hok.plain e oe hoe)), execOp_congr oe (plain_select (hok.plain e oe hoe)) (eval_of_looks hl)]
    obtain ⟨u, W', hr, hS'⟩ := hev.2 w hS
    rw [hr]
    exact hK u W' hS'
  · rcases hop i o hi ho with h | h
    · exact absurd h.1 hna
    · refine (h.2 u).behind (fun t ht hd => ?_) (fun d hd hd' => ?_) (hok.plain i o ho)
      · have h1 := hok.looks i o ho t ht e oe (by omega) hoe hd
        exact absurd (back_anc hok i o ho e h1) (by omega)
      · exact hok.dst i o ho e oe hoe (by omega) d hd hd'
def EachOp3 (P : Program) (ops : Array Oper) (S : World → Prop) (S1 : Value → World → Prop) (T : Act) (bs : List Nat) : Nat → List Oper → Prop
  | _, [] => True
  | i, o :: r => ((i ∈ bs ∧ FlowOp P ops S T o) ∨ EitherOp P ops S S1 T o) ∧ EachOp3 P ops S S1 T bs (i + 1) r
theorem EachOp3.get {P : Program} {ops : Array Oper} {S : World → Prop} {S1 : Value → World → Prop} {T : Act} {bs : List Nat} : ∀ {l : List Oper} {k : Nat}, EachOp3 P ops S S1 T bs k l → ∀ (i : Nat) (o : Oper), l[i]? = some o → (k + i ∈ bs ∧ FlowOp P ops S T o) ∨ EitherOp P ops S S1 T o
  | [], _, _, i, o, h => by simp at h
  | x :: r, k, h, 0, o, ho => by simp at ho; subst ho; exact h.1
  | x :: r, k, h, i + 1, o, ho => by
    have := EachOp3.get h.2 i o (by simpa using ho)
    rwa [Nat.add_right_comm, Nat.add_assoc] at this
theorem EachOp3.ops {P : Program} {ops : Array Oper} {S : World → Prop} {S1 : Value → World → Prop} {T : Act} {bs : List Nat} {q : Nat} {l : List Oper} (hl : ops.toList.take q = l) (h : EachOp3 P ops S S1 T bs 0 l) : ∀ i o, i < q → ops[i]? = some o → (i ∈ bs ∧ FlowOp P ops S T o) ∨ EitherOp P ops S S1 T o := fun i o hi ho => by
  subst hl
  have := h.get i o (by rw [List.getElem?_take_of_lt hi]; simpa using ho)
  simpa using this
theorem cell_ltp {W : World} {p : Addr} {v : Value} (h : W.cell? p = some v) : p.block < W.heap.size := by
  apply Decidable.byContradiction
  intro hn
  have : W.heap[p.block]? = none := Array.getElem?_eq_none (by omega)
  simp [World.cell?, this] at h
theorem cell_growp {W W' : World} {p : Addr} {v : Value} (h : W.cell? p = some v) (hb : Below W.heap.size W W') : W'.cell? p = some v := (hb.cell (cell_ltp h)).trans h
def yesOf (m p f s o : Int) (ps : List (S82 × S29)) : Bool := ps.all fun x => decide (stHi x.1 x.2 p f s o ≤ m)
def brkOf (m p f s o : Int) (ps : List (S82 × S29)) : Bool := ps.any fun x => decide (m < stLo x.1 x.2 p f s o)
theorem zip_take {α β : Type} {l : List α} {m : List β} {k : Nat} (h : k < l.length) (h' : k < m.length) : (l.zip m).take (k + 1) = (l.zip m).take k ++ [(l[k], m[k])] := by
  rw [List.take_succ_eq_append_getElem (by rw [List.length_zip]; omega), List.getElem_zip]
theorem yes_snoc {m p f s o : Int} {l : List S82} {th : List S29} {k : Nat} (h : k < l.length) (h' : k < th.length) : yesOf m p f s o ((l.zip th).take (k + 1)) = (yesOf m p f s o ((l.zip th).take k) && decide (stHi l[k] th[k] p f s o ≤ m)) := by
  unfold yesOf; rw [zip_take h h', List.all_append]; simp
theorem brk_snoc {m p f s o : Int} {l : List S82} {th : List S29} {k : Nat} (h : k < l.length) (h' : k < th.length) : brkOf m p f s o ((l.zip th).take (k + 1)) = (brkOf m p f s o ((l.zip th).take k) || decide (m < stLo l[k] th[k] p f s o)) := by
  unfold brkOf; rw [zip_take h h', List.any_append]; simp
/-- the boxes of 'holds' -/
structure HoldB (w : World) (T : Value) (p f s o : Int) (Bm : Nat) (m : Int) (y b : Bool) (W : World) : Prop where
  h1 : W.heap[w.heap.size + 1]? = some (.cells #[T] 25 (0, 0))
  h2 : W.heap[w.heap.size + 1 + 1]? = some (.cells #[.int .i64 p, .int .i64 f, .int .i64 s, .int .i64 o] 27 (0, 0))
  h3 : W.heap[w.heap.size + 1 + 1 + 1]? = some (.cells #[.bool y] 4 (0, 0))
  h4 : W.heap[w.heap.size + 1 + 1 + 1 + 1]? = some (.cells #[.bool b] 4 (0, 0))
  h5 : W.heap[Bm]? = some (.cells #[.int .i64 m] 3 (0, 0))
  hm : w.heap.size + 1 + 1 + 1 + 1 < Bm
  hb : Below w.heap.size w W
theorem HoldB.grow {w W W' : World} {T : Value} {p f s o : Int} {Bm : Nat} {m : Int} {y b : Bool} (h : HoldB w T p f s o Bm m y b W) (hb : Below W.heap.size W W') : HoldB w T p f s o Bm m y b W' :=
  ⟨heap_grow h.h1 hb, heap_grow h.h2 hb, heap_grow h.h3 hb, heap_grow h.h4 hb, heap_grow h.h5 hb, h.hm, h.hb.trans (hb.mono h.hb.size)⟩
theorem HoldB.turn {w W W' : World} {T : Value} {p f s o : Int} {Bm : Nat} {m : Int} {y b : Bool} (h : HoldB w T p f s o Bm m y b W) {B : Nat} (hB : w.heap.size ≤ B) (ht : Turn B W W') : HoldB w T p f s o Bm m y b W' :=
  ⟨ht.cells _ _ h.h1 rfl, ht.cells _ _ h.h2 rfl, ht.cells _ _ h.h3 rfl, ht.cells _ _ h.h4 rfl, ht.cells _ _ h.h5 rfl, h.hm, h.hb.trans (ht.below.mono hB)⟩
theorem HoldB.setY {w W : World} {T : Value} {p f s o : Int} {Bm : Nat} {m : Int} {y b : Bool} (h : HoldB w T p f s o Bm m y b W) (y' : Bool) : HoldB w T p f s o Bm m y' b (W.setCell ⟨w.heap.size + 1 + 1 + 1, 0, none⟩ (.bool y')) :=
  ⟨heap_set_other (by omega) h.h1, heap_set_other (by omega) h.h2, heap_set_same h.h3, heap_set_other (by omega) h.h4, heap_set_other (by have := h.hm; omega) h.h5, h.hm, h.hb.setCell (by simp; omega) _⟩
theorem HoldB.setB {w W : World} {T : Value} {p f s o : Int} {Bm : Nat} {m : Int} {y b : Bool} (h : HoldB w T p f s o Bm m y b W) (b' : Bool) : HoldB w T p f s o Bm m y b' (W.setCell ⟨w.heap.size + 1 + 1 + 1 + 1, 0, none⟩ (.bool b')) :=
  ⟨heap_set_other (by omega) h.h1, heap_set_other (by omega) h.h2, heap_set_other (by omega) h.h3, heap_set_same h.h4, heap_set_other (by have := h.hm; omega) h.h5, h.hm, h.hb.setCell (by simp; omega) _⟩
theorem HoldB.setX {w W : World} {T : Value} {p f s o : Int} {Bm : Nat} {m : Int} {y b : Bool} (h : HoldB w T p f s o Bm m y b W) {a : Addr} (ha : w.heap.size + 1 + 1 + 1 + 1 < a.block) (hab : a.block ≠ Bm) (v : Value) : HoldB w T p f s o Bm m y b (W.setCell a v) :=
  ⟨set_other (by omega) h.h1, set_other (by omega) h.h2, set_other (by omega) h.h3, set_other (by omega) h.h4, set_other (by omega) h.h5, h.hm, h.hb.setCell (by omega) _⟩
def HoldI (w : World) (Bb : Nat) (A : Option Addr) (c : Nat) (l : List S82) (fl tg : Int) (T : Value) (th : List S29) (p f s o : Int) (Bm : Nat) (k : Nat) (W : World) : Prop :=
  Reads Bb A c l fl tg W ∧ HoldB w T p f s o Bm (limitOf fl tg) (yesOf (limitOf fl tg) p f s o ((l.zip th).take k)) (brkOf (limitOf fl tg) p f s o ((l.zip th).take k)) W
def RetTwo (y b : Bool) (w : World) (e : Ending) (w' : World) : Prop := e = .returned (.tuple #[.bool y, .bool b]) ∧ Below w.heap.size w w'
set_option maxRecDepth 100000 in
set_option maxHeartbeats 2000000 in
theorem holds_any (A : Option Addr) (c : Nat) (l : List S82) (fl tg : Int) (A0 : Option Addr) (c0 : Nat) (th : List S29) (p f s o : Int) (w : World) (hr : Kd.C k82 w A l.length l) (hr0 : Kd.C k29 w A0 th.length th)
    (hk : checkOf l fl tg = 0) (ht : th.all okThick = true) (hn : th.length = l.length) (hl : loadOk p f s o = true) :
    Calls Try.prog 77 #[.agg #[.slice A l.length c, .int .i64 fl, .int .i64 tg], .slice A0 th.length c0, .agg #[.int .i64 p, .int .i64 f, .int .i64 s, .int .i64 o]] w (RetTwo (yesOf (limitOf fl tg) p f s o (l.zip th)) (brkOf (limitOf fl tg) p f s o (l.zip th)) w) := by
  have HB := Below.refl w.heap.size w
  obtain ⟨k1, k2, hall, _, _, k3, k4, k5, k6⟩ := check_zero hk
  obtain ⟨ad, rfl⟩ : ∃ ad, A0 = some ad := by
    obtain ⟨ad, h, _⟩ := at_T29 hr0 0 (by omega) (by omega)
    exact ⟨ad, h⟩
  have HK := hid (And.intro k1 (And.intro k2 (And.intro hall (And.intro k3 (And.intro k4 (And.intro k5 k6))))))
  have HN := hid hn
  clear k1 k2 hall k3 k4 k5 k6 hn
  refine calls_of_wpF Try.func77 rfl ?_
  simp only [Try.ntmps77, List.size_toArray, List.length_cons, List.length_nil, Nat.reduceAdd, Nat.reduceSub, Array.replicate_succ, Array.replicate_zero, List.push_toArray, List.append_toArray, List.nil_append, List.cons_append]
  refine wpF_seq (wpF_of_wp ?_)
  go_wp2
  have e0 := World.alloc_heap_new w (.cells #[.slice A l.length c, .int .i64 fl, .int .i64 tg] 24)
  have e1 := World.alloc_heap_new (w.alloc (.cells #[.slice A l.length c, .int .i64 fl, .int .i64 tg] 24)) (.cells #[.slice (some ad) th.length c0] 25)
  have e2 := World.alloc_heap_new ((w.alloc (.cells #[.slice A l.length c, .int .i64 fl, .int .i64 tg] 24)).alloc (.cells #[.slice (some ad) th.length c0] 25)) (.cells #[.int .i64 p, .int .i64 f, .int .i64 s, .int .i64 o] 27)
  have e3 := World.alloc_heap_new (((w.alloc (.cells #[.slice A l.length c, .int .i64 fl, .int .i64 tg] 24)).alloc (.cells #[.slice (some ad) th.length c0] 25)).alloc (.cells #[.int .i64 p, .int .i64 f, .int .i64 s, .int .i64 o] 27)) (.cells #[.bool false] 4)
  have e4 := World.alloc_heap_new ((((w.alloc (.cells #[.slice A l.length c, .int .i64 fl, .int .i64 tg] 24)).alloc (.cells #[.slice (some ad) th.length c0] 25)).alloc (.cells #[.int .i64 p, .int .i64 f, .int .i64 s, .int .i64 o] 27)).alloc (.cells #[.bool false] 4)) (.cells #[.bool false] 4)
  have e0 := alloc_old (o' := .cells #[.bool false] 4) (alloc_old (o' := .cells #[.bool false] 4) (alloc_old (o' := .cells #[.int .i64 p, .int .i64 f, .int .i64 s, .int .i64 o] 27) (alloc_old (o' := .cells #[.slice (some ad) th.length c0] 25) e0)))
  have e1 := alloc_old (o' := .cells #[.bool false] 4) (alloc_old (o' := .cells #[.bool false] 4) (alloc_old (o' := .cells #[.int .i64 p, .int .i64 f, .int .i64 s, .int .i64 o] 27) e1))
  have e2 := alloc_old (o' := .cells #[.bool false] 4) (alloc_old (o' := .cells #[.bool false] 4) e2)
  have e3 := alloc_old (o' := .cells #[.bool false] 4) e3
  have hbel := ((((HB.alloc (Nat.le_refl _) (.cells #[.slice A l.length c, .int .i64 fl, .int .i64 tg] 24)).alloc (by simp) (.cells #[.slice (some ad) th.length c0] 25)).alloc (by simp; omega) (.cells #[.int .i64 p, .int .i64 f, .int .i64 s, .int .i64 o] 27)).alloc (by simp; omega) (.cells #[.bool false] 4)).alloc (by simp; omega) (.cells #[.bool false] 4)
  have hsz : w.heap.size + 1 + 1 + 1 + 1 < (((((w.alloc (.cells #[.slice A l.length c, .int .i64 fl, .int .i64 tg] 24)).alloc (.cells #[.slice (some ad) th.length c0] 25)).alloc (.cells #[.int .i64 p, .int .i64 f, .int .i64 s, .int .i64 o] 27)).alloc (.cells #[.bool false] 4)).alloc (.cells #[.bool false] 4)).heap.size := by simp
  simp only [World.size_alloc] at e1 e2 e3 e4
  generalize (((((w.alloc (.cells #[.slice A l.length c, .int .i64 fl, .int .i64 tg] 24)).alloc (.cells #[.slice (some ad) th.length c0] 25)).alloc (.cells #[.int .i64 p, .int .i64 f, .int .i64 s, .int .i64 o] 27)).alloc (.cells #[.bool false] 4)).alloc (.cells #[.bool false] 4)) = W5 at *
  have HE := hid (And.intro e0 (And.intro e1 (And.intro e2 (And.intro e3 (And.intro e4 (And.intro hbel hsz))))))
  have c0' := blkCell e0 0
  have c1' := blkCell e0 1
  have c2' := blkCell e0 2
  simp at c0' c1' c2'
  clear hbel e0 e1 e2 e3 e4 hsz HB
  refine wpF_seq (wpF_of_wp ?_)
  go_wp2_with fail
  refine (limit_any A c l.length fl tg _ HK.out.2.2.2.1 HK.out.2.2.2.2.1 HK.out.2.2.2.2.2.1 HK.out.2.2.2.2.2.2).mono ?_
  rintro e w1 ⟨rfl, hb⟩
  obtain ⟨e0, e1, e2, e3, e4, hbel, hsz⟩ := HE.out
  have hH0 : HoldB w (.slice (some ad) th.length c0) p f s o w1.heap.size (limitOf fl tg) false false (w1.alloc (.cells #[.int .i64 (limitOf fl tg)] 3)) :=
    ⟨alloc_old (heap_grow e1 hb), alloc_old (heap_grow e2 hb), alloc_old (heap_grow e3 hb), alloc_old (heap_grow e4 hb), World.alloc_heap_new _ _, Nat.lt_of_lt_of_le hsz hb.size, (hbel.trans (hb.mono hbel.size)).alloc (hbel.trans (hb.mono hbel.size)).size _⟩
  have hE0 : (w1.alloc (.cells #[.int .i64 (limitOf fl tg)] 3)).heap[w.heap.size]? = some (.cells #[.slice A l.length c, .int .i64 fl, .int .i64 tg] 24 (0, 0)) := alloc_old (heap_grow e0 hb)
  clear hb e0 e1 e2 e3 e4 hbel hsz HE c0' c1' c2'
  go_wp2
  generalize w1.alloc (.cells #[.int .i64 (limitOf fl tg)] 3) = W6 at *
  generalize w1.heap.size = Bm at *
  have HH0 := hid hH0
  have HE0 := hid hE0
  have c3' := blkCell hH0.h3 0
  have f3' := blkFrozen hH0.h3 0
  simp at c3'
  clear hH0 hE0
  refine wpF_seq (wpF_of_wp ?_)
  go_wp2
  have hH1 := HH0.out.setY true
  have hE1 : (W6.setCell ⟨w.heap.size + 1 + 1 + 1, 0, none⟩ (.bool true)).heap[w.heap.size]? = some (.cells #[.slice A l.length c, .int .i64 fl, .int .i64 tg] 24 (0, 0)) := heap_set_other (by omega) HE0.out
  clear c3' f3' HH0 HE0
  generalize W6.setCell ⟨w.heap.size + 1 + 1 + 1, 0, none⟩ (.bool true) = W7 at *
  have c0' := blkCell hE1 0
  have c1' := blkCell hE1 1
  have c2' := blkCell hE1 2
  simp at c0' c1' c2'
  have HH1 := hid hH1
  clear hH1 hE1
  refine wpF_seq (wpF_seq (wpF_of_wp ?_))
  go_wp2_with (first | (go_at_call 54; refine (rings_any _ _ _ _ _ _).mono ?_; rintro e w' ⟨rfl, rfl⟩))
  generalize hBb : W7.heap.size = Bb
  clear c0' c1' c2'
  refine wpF_block ?_
  refine wpF_range (N := l.length) Try.func77 rfl enters99 (rings_iter Bb A c l fl tg (by have := HK.out.1; omega)) (fun _ => rfl) (HoldI w Bb A c l fl tg (.slice (some ad) th.length c0) th p f s o Bm) (fun _ _ => False) (fun _ _ => False) ?hI ?hIr ?hsz ?hRd ?h0 ?round ?done ?stop ?pan
  case hI => exact fun k W W' h ht => ⟨⟨ht.cells _ _ h.1.box rfl, Kd.C_below hr (h.2.turn (by have := HH1.out.hb.size; simp; omega) ht).hb⟩, h.2.turn (by have := HH1.out.hb.size; simp; omega) ht⟩
  case hIr => exact fun _ _ _ h _ => h
  case hsz => exact fun k W h => by have := cell_lt (blkCell h.1.box 0); simp; omega
  case hRd => exact fun k W h => h.1
  case stop => exact fun _ _ _ h => h.elim
  case pan => exact fun _ _ _ h => h.elim
  case h0 =>
    have hn := World.alloc_heap_new W7 (.cells #[.slice A l.length c, .int .i64 fl, .int .i64 tg] 24)
    rw [hBb] at hn
    have hb := HH1.out.hb.alloc HH1.out.hb.size (.cells #[.slice A l.length c, .int .i64 fl, .int .i64 tg] 24)
    exact ⟨⟨hn, Kd.C_below hr hb⟩, HH1.out.grow ((Below.refl _ _).alloc (Nat.le_refl _) _)⟩
  case round =>
    intro lp k W hlt hI
    have hg : l.getD k z82 = l[k] := by simp [List.getD, hlt]
    simp only [ringV, hg]
    gi_wp2
    refine ⟨(KeepsOthers.alloc _ _), fun w₂ ht2 => ?_⟩
    have hT : Turn (Bb + 1) W w₂ := (Turn.alloc (B := Bb + 1) (by have := cell_lt (blkCell hI.1.box 0); omega) _).trans (by simpa [hBb] using ht2)
    have hI2 := hI.2.turn (by have := HH1.out.hb.size; omega) hT
    have hbox := hT.cells _ _ hI.1.box rfl
    have hrg : w₂.heap[W.heap.size]? = some (.cells (ringC l[k]) 82 (0, 0)) := ht2.cells _ _ (World.alloc_heap_new _ _) rfl
    have hBs : w.heap.size + 1 + 1 + 1 + 1 < W.heap.size := Nat.lt_trans hI.2.hm (cell_lt (blkCell hI.2.h5 0))
    have hWB : Bb < W.heap.size := cell_lt (blkCell hI.1.box 0)
    generalize W.heap.size = B at *
    have hlt' : k < th.length := by rw [HN.out]; exact hlt
    have hth := at_T29 (Kd.C_below hr0 hI2.hb) k (by omega) (by omega)
    have hrd : rd_T29 th (k : Int) = th[k] := by simp [rd_T29, List.getD, hlt']
    rw [hrd] at hth
    simp only [Int.toNat_natCast] at hth
    obtain ⟨ad', had, t0, t1⟩ := hth
    cases had
    have hr1 := all_get HK.out.2.2.1 hlt
    have ht1 : okThick th[k] = true := List.all_eq_true.1 ht _ (List.getElem_mem hlt')
    have hl1 := hl
    have HI := hid hI2
    have HX := hid hbox
    have HG := hid hrg
    have HQ := hid (And.intro hr1 (And.intro ht1 (And.intro hl1 (And.intro t0 t1))))
    have HZ := hid (And.intro hBs (show w.heap.size + 1 + 1 + 1 + 1 < Bb ∧ Bb < w₂.heap.size from ⟨by have := HH1.out.hm; have := cell_lt (blkCell HH1.out.h5 0); omega, cell_lt (blkCell hbox 0)⟩))
    clear ht2 hT hI2 hbox hrg hI hg hrd t0 t1 hr1 ht1 hl1 hBs hWB
    gi_wp2_with fail
    obtain ⟨hr1, ht1, hl1, t0, t1⟩ := HQ.out
    have hI2 := HI.out
    have hrg := HG.out
    have hlt'' : (k : Int) < th.length := by omega
    refine wpIn_flow3 [[], [], [], [1, 2], [3, 1, 2], [], [0, 4, 3, 1, 2, 5], [], [7, 6, 0, 4, 3, 1, 2, 5]] 7
      (fun W => W.cell? ⟨B, 0, none⟩ = some (.int .i64 (l[k].f0.f0)) ∧ W.cell? ⟨B, 1, none⟩ = some (.int .i64 (l[k].f0.f1)) ∧ W.cell? ⟨B, 2, none⟩ = some (.int .i64 (l[k].f1.f0)) ∧ W.cell? ⟨B, 3, none⟩ = some (.int .i64 (l[k].f1.f1)) ∧ W.cell? ⟨B, 4, none⟩ = some (.int .i64 (l[k].f2.f0)) ∧ W.cell? ⟨B, 5, none⟩ = some (.int .i64 (l[k].f2.f1)) ∧ W.cell? ⟨B, 6, none⟩ = some (.int .i64 (l[k].f3.f0)) ∧ W.cell? ⟨B, 7, none⟩ = some (.int .i64 (l[k].f3.f1)) ∧ W.cell? ⟨B, 8, none⟩ = some (.int .i64 (l[k].f4.f0)) ∧ W.cell? ⟨B, 9, none⟩ = some (.int .i64 (l[k].f4.f1)) ∧ W.cell? ⟨(w.heap.size + 1), 0, none⟩ = some (.slice (some ad) th.length c0) ∧ W.cell? ⟨(w.heap.size + 1 + 1), 0, none⟩ = some (.int .i64 p) ∧ W.cell? ⟨(w.heap.size + 1 + 1), 1, none⟩ = some (.int .i64 f) ∧ W.cell? ⟨(w.heap.size + 1 + 1), 2, none⟩ = some (.int .i64 s) ∧ W.cell? ⟨(w.heap.size + 1 + 1), 3, none⟩ = some (.int .i64 o) ∧ W.cell? (ad.add (k * 2)) = some (.int .i64 th[k].f0) ∧ W.cell? ⟨(ad.add (k * 2)).block, (ad.add (k * 2)).off + 1, none⟩ = some (.int .i64 th[k].f1) ∧ Below w₂.heap.size w₂ W)
      (fun u W => (W.cell? ⟨B, 0, none⟩ = some (.int .i64 (l[k].f0.f0)) ∧ W.cell? ⟨B, 1, none⟩ = some (.int .i64 (l[k].f0.f1)) ∧ W.cell? ⟨B, 2, none⟩ = some (.int .i64 (l[k].f1.f0)) ∧ W.cell? ⟨B, 3, none⟩ = some (.int .i64 (l[k].f1.f1)) ∧ W.cell? ⟨B, 4, none⟩ = some (.int .i64 (l[k].f2.f0)) ∧ W.cell? ⟨B, 5, none⟩ = some (.int .i64 (l[k].f2.f1)) ∧ W.cell? ⟨B, 6, none⟩ = some (.int .i64 (l[k].f3.f0)) ∧ W.cell? ⟨B, 7, none⟩ = some (.int .i64 (l[k].f3.f1)) ∧ W.cell? ⟨B, 8, none⟩ = some (.int .i64 (l[k].f4.f0)) ∧ W.cell? ⟨B, 9, none⟩ = some (.int .i64 (l[k].f4.f1)) ∧ W.cell? ⟨(w.heap.size + 1), 0, none⟩ = some (.slice (some ad) th.length c0) ∧ W.cell? ⟨(w.heap.size + 1 + 1), 0, none⟩ = some (.int .i64 p) ∧ W.cell? ⟨(w.heap.size + 1 + 1), 1, none⟩ = some (.int .i64 f) ∧ W.cell? ⟨(w.heap.size + 1 + 1), 2, none⟩ = some (.int .i64 s) ∧ W.cell? ⟨(w.heap.size + 1 + 1), 3, none⟩ = some (.int .i64 o) ∧ W.cell? (ad.add (k * 2)) = some (.int .i64 th[k].f0) ∧ W.cell? ⟨(ad.add (k * 2)).block, (ad.add (k * 2)).off + 1, none⟩ = some (.int .i64 th[k].f1) ∧ Below w₂.heap.size w₂ W) ∧ ∃ Bx, u = .pointer (some ⟨Bx, 0, none⟩) ∧ W.heap[Bx]? = some (.cells #[.int .i64 0, .int .i64 0] 29 (0, 0)) ∧ w₂.heap.size ≤ Bx)
      { tmps := #[.agg #[.slice A l.length c, .int .i64 fl, .int .i64 tg], .slice (some ad) th.length c0, .agg #[.int .i64 p, .int .i64 f, .int .i64 s, .int .i64 o], .pointer (some ⟨w.heap.size, 0, none⟩), .pointer (some ⟨(w.heap.size + 1), 0, none⟩), .pointer (some ⟨(w.heap.size + 1 + 1), 0, none⟩), .pointer (some ⟨(w.heap.size + 1 + 1 + 1), 0, none⟩), .pointer (some ⟨(w.heap.size + 1 + 1 + 1 + 1), 0, none⟩), .pointer (some ⟨Bm, 0, none⟩), .int .i64 k, .pointer (some ⟨B, 0, none⟩), undef, .agg #[.slice A l.length c, .int .i64 fl, .int .i64 tg], .int .i64 (limitOf fl tg), .agg #[.slice A l.length c, .int .i64 fl, .int .i64 tg], .func (.func 99) #[] #[.pointer (some ⟨Bb, 0, none⟩)], .int .i64 k, .agg #[.int .i64 (l[k].f0.f0), .int .i64 (l[k].f0.f1), .int .i64 (l[k].f1.f0), .int .i64 (l[k].f1.f1), .int .i64 (l[k].f2.f0), .int .i64 (l[k].f2.f1), .int .i64 (l[k].f3.f0), .int .i64 (l[k].f3.f1), .int .i64 (l[k].f4.f0), .int .i64 (l[k].f4.f1)], .agg #[.int .i64 (l[k].f0.f0), .int .i64 (l[k].f0.f1), .int .i64 (l[k].f1.f0), .int .i64 (l[k].f1.f1), .int .i64 (l[k].f2.f0), .int .i64 (l[k].f2.f1), .int .i64 (l[k].f3.f0), .int .i64 (l[k].f3.f1), .int .i64 (l[k].f4.f0), .int .i64 (l[k].f4.f1)], .slice (some ad) th.length c0, .int .i64 k, .pointer (some (ad.add (k * 2))), .agg #[.int .i64 (th[k].f0), .int .i64 (th[k].f1)], .agg #[.int .i64 p, .int .i64 f, .int .i64 s, .int .i64 o], .agg #[.int .i64 (stLo l[k] th[k] p f s o), .int .i64 (stHi l[k] th[k] p f s o)], undef, undef, undef, undef, undef, undef, undef, undef, undef, undef, undef, undef, undef, undef, undef, undef], defers := [] }
      mixed (by kernel_rfl) rfl (Ahead.of [0, 1, 2, 3, 4, 5, 6, 7, 8, 9, 10, 11, 12, 13, 14, 15, 16, 17, 25, 26, 27, 28, 29, 30, 31, 32, 33, 34, 35, 36, 37, 38, 39, 40] rfl rfl (by kernel_rfl) (by simp)) ?_ ?_ ?_ rfl ?_
    · exact ⟨blkCell hrg 0, blkCell hrg 1, blkCell hrg 2, blkCell hrg 3, blkCell hrg 4, blkCell hrg 5, blkCell hrg 6, blkCell hrg 7, blkCell hrg 8, blkCell hrg 9, blkCell hI2.h1 0, blkCell hI2.h2 0, blkCell hI2.h2 1, blkCell hI2.h2 2, blkCell hI2.h2 3, t0, t1, (Below.refl _ _).drew⟩
    · refine EachOp3.ops rfl ⟨?_, ?_, ?_, ?_, ?_, ?_, ?_, trivial⟩
      · exact .inr (LookOp.either (fun _ _ h => h.1) (LookOp.val 18 _ rfl rfl fun W ⟨c0, c1, c2, c3, c4, c5, c6, c7, c8, c9, c10, c11, c12, c13, c14, x0, x1, hB_⟩ => by go_simp))
      · exact .inr (LookOp.either (fun _ _ h => h.1) (LookOp.val 19 _ rfl rfl fun W ⟨c0, c1, c2, c3, c4, c5, c6, c7, c8, c9, c10, c11, c12, c13, c14, x0, x1, hB_⟩ => by go_simp))
      · exact .inr (LookOp.either (fun _ _ h => h.1) (LookOp.val 20 _ rfl rfl fun W ⟨c0, c1, c2, c3, c4, c5, c6, c7, c8, c9, c10, c11, c12, c13, c14, x0, x1, hB_⟩ => by go_simp))
      · exact .inr (LookOp.either (fun _ _ h => h.1) (LookOp.val 21 _ rfl rfl fun W ⟨c0, c1, c2, c3, c4, c5, c6, c7, c8, c9, c10, c11, c12, c13, c14, x0, x1, hB_⟩ => by go_simp))
      · exact .inr (LookOp.either (fun _ _ h => h.1) (LookOp.val 22 _ rfl rfl fun W ⟨c0, c1, c2, c3, c4, c5, c6, c7, c8, c9, c10, c11, c12, c13, c14, x0, x1, hB_⟩ => by go_simp))
      · exact .inr (LookOp.either (fun _ _ h => h.1) (LookOp.val 23 _ rfl rfl fun W ⟨c0, c1, c2, c3, c4, c5, c6, c7, c8, c9, c10, c11, c12, c13, c14, x0, x1, hB_⟩ => by go_simp))
      · right
        refine ⟨?_, fun u => ?_⟩
        · refine FlowOp.call 24 (.agg #[.int .i64 (stLo l[k] th[k] p f s o), .int .i64 (stHi l[k] th[k] p f s o)]) 82 #[.agg #[.int .i64 (l[k].f0.f0), .int .i64 (l[k].f0.f1), .int .i64 (l[k].f1.f0), .int .i64 (l[k].f1.f1), .int .i64 (l[k].f2.f0), .int .i64 (l[k].f2.f1), .int .i64 (l[k].f3.f0), .int .i64 (l[k].f3.f1), .int .i64 (l[k].f4.f0), .int .i64 (l[k].f4.f1)], .agg #[.int .i64 (th[k].f0), .int .i64 (th[k].f1)], .agg #[.int .i64 p, .int .i64 f, .int .i64 s, .int .i64 o]] rfl rfl (fun W ⟨c0, c1, c2, c3, c4, c5, c6, c7, c8, c9, c10, c11, c12, c13, c14, x0, x1, hB_⟩ => by go_simp) fun W ⟨c0, c1, c2, c3, c4, c5, c6, c7, c8, c9, c10, c11, c12, c13, c14, x0, x1, hB_⟩ => ?_
          refine (stress_any l[k] th[k] p f s o _ hr1 ht1 hl1).mono ?_
          rintro e w' ⟨rfl, hb⟩
          exact ⟨rfl, cell_grow c0 hb, cell_grow c1 hb, cell_grow c2 hb, cell_grow c3 hb, cell_grow c4 hb, cell_grow c5 hb, cell_grow c6 hb, cell_grow c7 hb, cell_grow c8 hb, cell_grow c9 hb, cell_grow c10 hb, cell_grow c11 hb, cell_grow c12 hb, cell_grow c13 hb, cell_grow c14 hb, cell_growp x0 hb, cell_growp x1 hb, hB_.trans (hb.mono hB_.size)⟩
        · refine FlowOp.call 24 (.agg #[.int .i64 (stLo l[k] th[k] p f s o), .int .i64 (stHi l[k] th[k] p f s o)]) 82 #[.agg #[.int .i64 (l[k].f0.f0), .int .i64 (l[k].f0.f1), .int .i64 (l[k].f1.f0), .int .i64 (l[k].f1.f1), .int .i64 (l[k].f2.f0), .int .i64 (l[k].f2.f1), .int .i64 (l[k].f3.f0), .int .i64 (l[k].f3.f1), .int .i64 (l[k].f4.f0), .int .i64 (l[k].f4.f1)], .agg #[.int .i64 (th[k].f0), .int .i64 (th[k].f1)], .agg #[.int .i64 p, .int .i64 f, .int .i64 s, .int .i64 o]] rfl rfl (fun W ⟨⟨c0, c1, c2, c3, c4, c5, c6, c7, c8, c9, c10, c11, c12, c13, c14, x0, x1, hB_⟩, Bx, hu_, hx_, hle_⟩ => by go_simp) fun W ⟨⟨c0, c1, c2, c3, c4, c5, c6, c7, c8, c9, c10, c11, c12, c13, c14, x0, x1, hB_⟩, Bx, hu_, hx_, hle_⟩ => ?_
          refine (stress_any l[k] th[k] p f s o _ hr1 ht1 hl1).mono ?_
          rintro e w' ⟨rfl, hb⟩
          exact ⟨rfl, ⟨cell_grow c0 hb, cell_grow c1 hb, cell_grow c2 hb, cell_grow c3 hb, cell_grow c4 hb, cell_grow c5 hb, cell_grow c6 hb, cell_grow c7 hb, cell_grow c8 hb, cell_grow c9 hb, cell_grow c10 hb, cell_grow c11 hb, cell_grow c12 hb, cell_grow c13 hb, cell_grow c14 hb, cell_growp x0 hb, cell_growp x1 hb, hB_.trans (hb.mono hB_.size)⟩, Bx, hu_, heap_grow hx_ hb, hle_⟩
    · refine ⟨rfl, fun W2 ⟨c0, c1, c2, c3, c4, c5, c6, c7, c8, c9, c10, c11, c12, c13, c14, x0, x1, hB_⟩ => ?_⟩
      have hgr := (Below.refl W2.heap.size W2).alloc (Nat.le_refl _) (.cells #[.int .i64 0, .int .i64 0] 29)
      exact ⟨.pointer (some ⟨W2.heap.size, 0, none⟩), W2.alloc (.cells #[.int .i64 0, .int .i64 0] 29), by go_simp, ⟨cell_grow c0 hgr, cell_grow c1 hgr, cell_grow c2 hgr, cell_grow c3 hgr, cell_grow c4 hgr, cell_grow c5 hgr, cell_grow c6 hgr, cell_grow c7 hgr, cell_grow c8 hgr, cell_grow c9 hgr, cell_grow c10 hgr, cell_grow c11 hgr, cell_grow c12 hgr, cell_grow c13 hgr, cell_grow c14 hgr, cell_growp x0 hgr, cell_growp x1 hgr, hB_.trans (hgr.mono hB_.size)⟩, W2.heap.size, rfl, World.alloc_heap_new _ _, hB_.size⟩
    · rintro _ W2 ⟨⟨c0, c1, c2, c3, c4, c5, c6, c7, c8, c9, c10, c11, c12, c13, c14, x0, x1, hB_⟩, Bx, rfl, hx, hle⟩
      have HX2 := hid hx
      have z0 := blkCell hx 0
      have z1 := blkCell hx 1
      have z2 := blkFrozen hx 0
      have z3 := blkFrozen hx 1
      simp at z0 z1
      have HI3 := hid (hI2.grow hB_)
      have HBB := hid (And.intro hB_ hle)
      have hbx : w.heap.size + 1 + 1 + 1 + 1 < Bx := by have := hI2.hm; have := cell_lt (blkCell hI2.h5 0); omega
      have n1 : ¬ Bx = w.heap.size + 1 + 1 + 1 := by omega
      have n2 : ¬ Bx = w.heap.size + 1 + 1 + 1 + 1 := by omega
      have n3 : ¬ w.heap.size + 1 + 1 + 1 = Bx := by omega
      have n4 : ¬ w.heap.size + 1 + 1 + 1 + 1 = Bx := by omega
      have n5 : ¬ Bm = Bx := by have := cell_lt (blkCell hI2.h5 0); omega
      have n6 : ¬ Bx = Bm := by omega
      have n7 : ¬ Bm = w.heap.size + 1 + 1 + 1 := by have := hI2.hm; omega
      have n8 : ¬ Bm = w.heap.size + 1 + 1 + 1 + 1 := by have := hI2.hm; omega
      have q0 := blkCell HI3.out.h3 0
      have q1 := blkFrozen HI3.out.h3 0
      have q2 := blkCell HI3.out.h4 0
      have q3 := blkFrozen HI3.out.h4 0
      have q4 := blkCell HI3.out.h5 0
      simp at q0 q2 q4
      have HN1 := hid (And.intro hbx (And.intro n1 (And.intro n2 n6)))
      have HBX := hid (heap_grow HX.out hB_)
      clear c0 c1 c2 c3 c4 c5 c6 c7 c8 c9 c10 c11 c12 c13 c14 x0 x1 hB_ hx hle hr1 ht1 hl1 t0 t1 hI2 hrg
      clear hbx
      cases hy : yesOf (limitOf fl tg) p f s o ((l.zip th).take k) <;> cases hbk : brkOf (limitOf fl tg) p f s o ((l.zip th).take k) <;> rw [hy] at q0 <;> rw [hbk] at q2
      · gi_wp2_with fail
        have ey : yesOf (limitOf fl tg) p f s o ((l.zip th).take (k + 1)) = false := by rw [yes_snoc hlt hlt', hy]; rfl
        have eb : brkOf (limitOf fl tg) p f s o ((l.zip th).take (k + 1)) = decide (limitOf fl tg < stLo l[k] th[k] p f s o) := by rw [brk_snoc hlt hlt', hbk]; rfl
        obtain ⟨hbx, m1, m2, m3⟩ := HN1.out
        obtain ⟨hB_, hle⟩ := HBB.out
        obtain ⟨hBs, hWB1, hWB2⟩ := HZ.out
        have hF := (((HI3.out.setX (a := ⟨Bx, 0, none⟩) hbx m3 (.int .i64 (stLo l[k] th[k] p f s o))).setX (a := ⟨Bx, 1, none⟩) hbx m3 (.int .i64 (stHi l[k] th[k] p f s o))).setY (false)).setB (decide (limitOf fl tg < stLo l[k] th[k] p f s o))
        refine ⟨((((keeps_of_below hB_).trans (KeepsOthers.setCell _ _ _)).trans (KeepsOthers.setCell _ _ _)).trans (KeepsOthers.setCell _ _ _)).trans (KeepsOthers.setCell _ _ _), ⟨set_other (by simp; omega) (set_other (by simp; omega) (set_other (by simp; omega) (set_other (by simp; omega) HBX.out))), Kd.C_below hr hF.hb⟩, ?_⟩
        rw [ey, eb]
        exact hF
      · gi_wp2_with fail
        have ey : yesOf (limitOf fl tg) p f s o ((l.zip th).take (k + 1)) = false := by rw [yes_snoc hlt hlt', hy]; rfl
        have eb : brkOf (limitOf fl tg) p f s o ((l.zip th).take (k + 1)) = true := by rw [brk_snoc hlt hlt', hbk]; rfl
        obtain ⟨hbx, m1, m2, m3⟩ := HN1.out
        obtain ⟨hB_, hle⟩ := HBB.out
        obtain ⟨hBs, hWB1, hWB2⟩ := HZ.out
        have hF := (((HI3.out.setX (a := ⟨Bx, 0, none⟩) hbx m3 (.int .i64 (stLo l[k] th[k] p f s o))).setX (a := ⟨Bx, 1, none⟩) hbx m3 (.int .i64 (stHi l[k] th[k] p f s o))).setY (false)).setB (true)
        refine ⟨((((keeps_of_below hB_).trans (KeepsOthers.setCell _ _ _)).trans (KeepsOthers.setCell _ _ _)).trans (KeepsOthers.setCell _ _ _)).trans (KeepsOthers.setCell _ _ _), ⟨set_other (by simp; omega) (set_other (by simp; omega) (set_other (by simp; omega) (set_other (by simp; omega) HBX.out))), Kd.C_below hr hF.hb⟩, ?_⟩
        rw [ey, eb]
        exact hF
      · gi_wp2_with fail
        have ey : yesOf (limitOf fl tg) p f s o ((l.zip th).take (k + 1)) = decide (stHi l[k] th[k] p f s o ≤ limitOf fl tg) := by rw [yes_snoc hlt hlt', hy]; rfl
        have eb : brkOf (limitOf fl tg) p f s o ((l.zip th).take (k + 1)) = decide (limitOf fl tg < stLo l[k] th[k] p f s o) := by rw [brk_snoc hlt hlt', hbk]; rfl
        obtain ⟨hbx, m1, m2, m3⟩ := HN1.out
        obtain ⟨hB_, hle⟩ := HBB.out
        obtain ⟨hBs, hWB1, hWB2⟩ := HZ.out
        have hF := (((HI3.out.setX (a := ⟨Bx, 0, none⟩) hbx m3 (.int .i64 (stLo l[k] th[k] p f s o))).setX (a := ⟨Bx, 1, none⟩) hbx m3 (.int .i64 (stHi l[k] th[k] p f s o))).setY (decide (stHi l[k] th[k] p f s o ≤ limitOf fl tg))).setB (decide (limitOf fl tg < stLo l[k] th[k] p f s o))
        refine ⟨((((keeps_of_below hB_).trans (KeepsOthers.setCell _ _ _)).trans (KeepsOthers.setCell _ _ _)).trans (KeepsOthers.setCell _ _ _)).trans (KeepsOthers.setCell _ _ _), ⟨set_other (by simp; omega) (set_other (by simp; omega) (set_other (by simp; omega) (set_other (by simp; omega) HBX.out))), Kd.C_below hr hF.hb⟩, ?_⟩
        rw [ey, eb]
        exact hF
      · gi_wp2_with fail
        have ey : yesOf (limitOf fl tg) p f s o ((l.zip th).take (k + 1)) = decide (stHi l[k] th[k] p f s o ≤ limitOf fl tg) := by rw [yes_snoc hlt hlt', hy]; rfl
        have eb : brkOf (limitOf fl tg) p f s o ((l.zip th).take (k + 1)) = true := by rw [brk_snoc hlt hlt', hbk]; rfl
        obtain ⟨hbx, m1, m2, m3⟩ := HN1.out
        obtain ⟨hB_, hle⟩ := HBB.out
        obtain ⟨hBs, hWB1, hWB2⟩ := HZ.out
        have hF := (((HI3.out.setX (a := ⟨Bx, 0, none⟩) hbx m3 (.int .i64 (stLo l[k] th[k] p f s o))).setX (a := ⟨Bx, 1, none⟩) hbx m3 (.int .i64 (stHi l[k] th[k] p f s o))).setY (decide (stHi l[k] th[k] p f s o ≤ limitOf fl tg))).setB (true)
        refine ⟨((((keeps_of_below hB_).trans (KeepsOthers.setCell _ _ _)).trans (KeepsOthers.setCell _ _ _)).trans (KeepsOthers.setCell _ _ _)).trans (KeepsOthers.setCell _ _ _), ⟨set_other (by simp; omega) (set_other (by simp; omega) (set_other (by simp; omega) (set_other (by simp; omega) HBX.out))), Kd.C_below hr hF.hb⟩, ?_⟩
        rw [ey, eb]
        exact hF

  case done =>
    intro D W hI hD hle
    show wpF Try.prog 77 _ _ _ _
    have hDw : w.heap.size + 1 + 1 + 1 + 1 < D := by
      have h1 := HH1.out.hm
      have h2 := cell_lt (blkCell HH1.out.h5 0)
      simp only [World.size_alloc] at hle
      omega
    have hI2 := hI.2
    have hz : (l.zip th).length ≤ l.length := by rw [List.length_zip]; omega
    rw [List.take_of_length_le hz] at hI2
    have H := hid (And.intro hI2 (And.intro hD hDw))
    clear hI hI2 hD hDw hle hz
    refine wpF_of_wp ?_
    go_wp2_with fail
    obtain ⟨hI2, hD, hDw⟩ := H.out
    generalize yesOf (limitOf fl tg) p f s o (l.zip th) = y at *
    generalize brkOf (limitOf fl tg) p f s o (l.zip th) = b at *
    refine wp_flow [[], [], [0], [1, 2, 0]] 4
      (fun W => W.heap[w.heap.size + 1 + 1 + 1]? = some (.cells #[.bool y] 4 (0, 0)) ∧ W.heap[w.heap.size + 1 + 1 + 1 + 1]? = some (.cells #[.bool b] 4 (0, 0)) ∧ W.heap[D]? = some (.deferred (some [])) ∧ Below w.heap.size w W)
      { tmps := #[.agg #[.slice A l.length c, .int .i64 fl, .int .i64 tg], .slice (some ad) th.length c0, .agg #[.int .i64 p, .int .i64 f, .int .i64 s, .int .i64 o], .pointer (some ⟨w.heap.size, 0, none⟩), .pointer (some ⟨(w.heap.size + 1), 0, none⟩), .pointer (some ⟨(w.heap.size + 1 + 1), 0, none⟩), .pointer (some ⟨(w.heap.size + 1 + 1 + 1), 0, none⟩), .pointer (some ⟨(w.heap.size + 1 + 1 + 1 + 1), 0, none⟩), .pointer (some ⟨Bm, 0, none⟩), undef, undef, undef, .agg #[.slice A l.length c, .int .i64 fl, .int .i64 tg], .int .i64 (limitOf fl tg), .agg #[.slice A l.length c, .int .i64 fl, .int .i64 tg], .func (.func 99) #[] #[.pointer (some ⟨Bb, 0, none⟩)], undef, undef, undef, undef, undef, undef, undef, undef, undef, undef, undef, undef, undef, undef, undef, undef, undef, undef, undef, undef, undef, undef, undef, .bool y, .bool b], defers := [{ target := .collected D, args := #[] }] }
      mixed (by kernel_rfl) rfl (Ahead.of [0, 1, 2, 3, 4, 5, 6, 7, 8, 9, 10, 11, 12, 13, 14, 15, 16, 17, 18, 19, 20, 21, 22, 23, 24, 25, 26, 27, 28, 29, 30, 31, 32, 33, 34, 35, 36, 37, 38] rfl rfl (by kernel_rfl) (by simp)) ?_ (AllFlow.ops rfl ?_) rfl ?_
    · exact ⟨hI2.h3, hI2.h4, hD, hI2.hb.drew⟩
    · refine ⟨?_, ?_, ?_, ?_, trivial⟩
      · exact .val 39 _ rfl rfl fun W ⟨c0, c1, _, _⟩ => by have c0 := blkCell c0 0; simp at c0; go_simp
      · exact .val 40 _ rfl rfl fun W ⟨c0, c1, _, _⟩ => by have c1 := blkCell c1 0; simp at c1; go_simp
      · exact .store rfl fun W ⟨c0, c1, c2, hb⟩ => ⟨W.setCell ⟨w.heap.size + 1 + 1 + 1, 0, none⟩ (.bool y), by have f0 := blkFrozen c0 0; have c0 := blkCell c0 0; simp at c0; clear c1 c2 hb; simp [execOp, go_sem, c0, f0], heap_set_same c0, heap_set_other (by omega) c1, heap_set_other (by omega) c2, hb.setCell (by simp; omega) _⟩
      · exact .store rfl fun W ⟨c0, c1, c2, hb⟩ => ⟨W.setCell ⟨w.heap.size + 1 + 1 + 1 + 1, 0, none⟩ (.bool b), by have f0 := blkFrozen c1 0; have c1 := blkCell c1 0; simp at c1; clear c0 c2 hb; simp [execOp, go_sem, c1, f0], heap_set_other (by omega) c0, heap_set_same c1, heap_set_other (by omega) c2, hb.setCell (by simp; omega) _⟩
    · rintro W2 ⟨c0, c1, c2, hb⟩
      have H2 := hid (And.intro c0 (And.intro c1 (And.intro c2 hb)))
      clear c0 c1 c2 hb hI2 hD
      go_wp2
      obtain ⟨c0, c1, c2, hb⟩ := H2.out
      refine ⟨by simp, .inl ⟨_, _, rfl, run_takeDeferred c2, ?_⟩⟩
      have k3 := blkCell ((World.putObj_heap_other (r := D) (o := .deferred none) (by omega)).trans c0) 0
      have k4 := blkCell ((World.putObj_heap_other (r := D) (o := .deferred none) (by omega)).trans c1) 0
      simp at k3 k4
      exact ⟨.tuple #[.bool y, .bool b], by simp [results, Try.results77, go_sem, k3, k4], rfl, hb.trans (below_putObj _ _ (by omega))⟩
theorem asked_zero {l : List S82} {fl tg : Int} {th : List S29} {p f s o : Int} (h : askedOf l fl tg th p f s o = 0) : checkOf l fl tg = 0 ∧ th.length = l.length ∧ th.all okThick = true ∧ loadOk p f s o = true := by
  unfold askedOf at h
  split at h
  · rename_i h0
    split at h
    · cases h
    · rename_i h1
      split at h
      · cases h
      · rename_i h2
        simp only [Bool.not_eq_false, Bool.and_eq_true, decide_eq_true_eq] at h1 h2
        exact ⟨h0, h1.1, h1.2, h2⟩
  · rename_i h0; exact absurd h h0
def holdsRes (l : List S82) (fl tg : Int) (th : List S29) (p f s o : Int) : Bool × Bool × Int :=
  if askedOf l fl tg th p f s o = 0 then (yesOf (limitOf fl tg) p f s o (l.zip th), brkOf (limitOf fl tg) p f s o (l.zip th), 0) else (false, false, askedOf l fl tg th p f s o)
set_option maxRecDepth 100000 in
set_option maxHeartbeats 1000000 in
theorem Holds_any (A : Option Addr) (c : Nat) (l : List S82) (fl tg : Int) (A0 : Option Addr) (c0 : Nat) (th : List S29) (p f s o : Int) (w : World) (hr : Kd.C k82 w A l.length l) (hr0 : Kd.C k29 w A0 th.length th) (hth : th.length ≤ 100000) (hl : l.length ≤ 100000) :
    Calls Try.prog 29 #[.agg #[.slice A l.length c, .int .i64 fl, .int .i64 tg], .slice A0 th.length c0, .agg #[.int .i64 p, .int .i64 f, .int .i64 s, .int .i64 o]] w fun e w' => e = .returned (.tuple #[.bool (holdsRes l fl tg th p f s o).1, .bool (holdsRes l fl tg th p f s o).2.1, .int .i64 (holdsRes l fl tg th p f s o).2.2]) ∧ Below w.heap.size w w' := by
  have HB := Below.refl w.heap.size w
  have hmf := makeFunc_any
  refine calls_of_wpF Try.func29 rfl (wpF_of_wp ?_)
  simp only [Try.ntmps29, List.size_toArray, List.length_cons, List.length_nil, Nat.reduceAdd, Nat.reduceSub, Array.replicate_succ, Array.replicate_zero, List.push_toArray, List.append_toArray, List.nil_append, List.cons_append]
  go_wp2_with fail
  have hbel := ((HB.alloc (Nat.le_refl _) (.cells #[.slice A l.length c, .int .i64 fl, .int .i64 tg] 24)).alloc (by simp) (.cells #[.int .i64 p, .int .i64 f, .int .i64 s, .int .i64 o] 27)).alloc (by simp; omega) (.cells #[.int .i64 0] 36)
  refine (asked_any A c l fl tg A0 c0 th p f s o _ (Kd.C_below hr hbel) (Kd.C_below hr0 hbel) hl hth).mono ?_
  rintro e w1 ⟨he, hb⟩
  have hc : w1.cell? ⟨w.heap.size + 1 + 1, 0, none⟩ = some (.int .i64 0) := cell_grow (by go_simp) hb
  have hf : w1.frozen? ⟨w.heap.size + 1 + 1, 0, none⟩ = false := frozen_grow (v := .int .i64 0) (by go_simp) (by go_simp) hb
  have b0 : w1.cell? ⟨w.heap.size, 0, none⟩ = some (.slice A l.length c) := cell_grow (by go_simp) hb
  have b1 : w1.cell? ⟨w.heap.size, 1, none⟩ = some (.int .i64 fl) := cell_grow (by go_simp) hb
  have b2 : w1.cell? ⟨w.heap.size, 2, none⟩ = some (.int .i64 tg) := cell_grow (by go_simp) hb
  have l0 : w1.cell? ⟨w.heap.size + 1, 0, none⟩ = some (.int .i64 p) := cell_grow (by go_simp) hb
  have l1 : w1.cell? ⟨w.heap.size + 1, 1, none⟩ = some (.int .i64 f) := cell_grow (by go_simp) hb
  have l2 : w1.cell? ⟨w.heap.size + 1, 2, none⟩ = some (.int .i64 s) := cell_grow (by go_simp) hb
  have l3 : w1.cell? ⟨w.heap.size + 1, 3, none⟩ = some (.int .i64 o) := cell_grow (by go_simp) hb
  have HBB := hid (hbel.trans (hb.mono (by simp; omega)))
  clear hb hbel HB
  by_cases h0 : ¬ askedOf l fl tg th p f s o = 0
  · rw [if_neg h0] at he
    subst he
    refine leaves_fail catches75 enters75 hc hf ?_
    exact ⟨.tuple #[.bool false, .bool false, .int .i64 (askedOf l fl tg th p f s o)], by simp [results, Try.results29, go_sem, caughtW_cell hc], by unfold holdsRes; rw [if_neg h0], caughtW_below HBB.out (by omega)⟩
  have h0' := Decidable.not_not.1 h0
  rw [if_pos h0'] at he
  subst he
  have H0 := hid h0'
  have HF := hid hf
  clear h0 h0' hf
  go_wp2_with fail
  obtain ⟨q1, q2, q3, q4⟩ := asked_zero H0.out
  refine (holds_any A c l fl tg A0 c0 th p f s o _ (Kd.C_below hr HBB.out) (Kd.C_below hr0 HBB.out) q1 q3 q2 q4).mono ?_
  rintro e w2 ⟨rfl, hb⟩
  have hc2 := cell_grow hc hb
  have hf2 := frozen_grow hc HF.out hb
  have HB2 := hid (HBB.out.trans (hb.mono HBB.out.size))
  clear q1 q2 q3 q4 hb HF hc b0 b1 b2 l0 l1 l2 l3
  go_wp2
  refine leaves_idle catches75 enters75 ?_
  exact ⟨.tuple #[.bool (yesOf (limitOf fl tg) p f s o (l.zip th)), .bool (brkOf (limitOf fl tg) p f s o (l.zip th)), .int .i64 0], by simp [results, Try.results29, go_sem, hc2], by unfold holdsRes; rw [if_pos H0.out], HB2.out.setCell (p := ⟨w.heap.size + 1 + 1, 0, none⟩) (by simp; omega) _⟩
end Go.Proofs.Ythoofldinnfpiaa
