import Derived.Test.YthoofldinnfpiaaG
namespace Go.Proofs.Ythoofldinnfpiaa
open Go.RowKit Go.Proofs.YthoofldinnfpiaaW.PrintWords Go.Proofs.YthoofldinnfpiaaW.PrintLast Go.Proofs.YthoofldinnfpiaaW.PrintMore
open Q Go.Shelf
attribute [local go_sem] Oper.semAt_some wide_depth wide_fn
theorem ring_ok {r : S82} (h : ringOk r = true) : 1 ≤ r.f0.f0 ∧ r.f0.f0 ≤ r.f0.f1 ∧ r.f0.f1 ≤ 1000 ∧ 1 ≤ r.f1.f0 ∧ r.f1.f0 ≤ r.f1.f1 ∧ r.f1.f1 ≤ 5000 ∧ 0 ≤ r.f2.f0 ∧ r.f2.f0 ≤ r.f2.f1 ∧ r.f2.f1 ≤ 1000 ∧ 0 ≤ r.f3.f0 ∧ r.f3.f0 ≤ r.f3.f1 ∧ r.f3.f1 ≤ 10000 ∧ 0 ≤ r.f4.f0 ∧ r.f4.f0 ≤ r.f4.f1 ∧ r.f4.f1 ≤ 10000 := by
  simp only [ringOk, okA, okB, okC, okD, okE, spanB, Bool.and_eq_true, decide_eq_true_eq] at h
  omega
theorem mul_pos_le {a b A B : Int} (h1 : 1 ≤ a) (h2 : a ≤ A) (h3 : 1 ≤ b) (h4 : b ≤ B) : 1 ≤ a * b ∧ a * b ≤ A * B := by
  refine ⟨?_, ?_⟩
  · have := Int.mul_le_mul h1 h3 (by omega) (by omega); omega
  · exact Int.mul_le_mul h2 h4 (by omega) (by omega)
theorem mul_nn_le {a b A B : Int} (h1 : 0 ≤ a) (h2 : a ≤ A) (h3 : 0 ≤ b) (h4 : b ≤ B) : 0 ≤ a * b ∧ a * b ≤ A * B := ⟨Int.mul_nonneg h1 h3, Int.mul_le_mul h2 h4 h3 (by omega)⟩
theorem wrap_in {n : Int} (h0 : 0 ≤ n) (h1 : n ≤ 9223372036854775807) : IntKind.i64.wrap n = n := IntWalk.i64_in _ (by omega)
theorem thick_div {r : S82} (h : ringOk r = true) : ¬ (IntKind.i64.wrap ((IntKind.i64.wrap (355 * r.f0.f1)) * r.f1.f1)) = 0 ∧ ¬ (IntKind.i64.wrap ((IntKind.i64.wrap (333 * r.f0.f0)) * r.f1.f0)) = 0 := by
  obtain ⟨h1, h2, h3, h4, h5, h6, _⟩ := ring_ok h
  have a1 := mul_pos_le (a := 355 * r.f0.f1) (b := r.f1.f1) (A := 355000) (B := 5000) (by omega) (by omega) (by omega) (by omega)
  have a2 := mul_pos_le (a := 333 * r.f0.f0) (b := r.f1.f0) (A := 333000) (B := 5000) (by omega) (by omega) (by omega) (by omega)
  rw [wrap_in (n := 355 * r.f0.f1) (by omega) (by omega), wrap_in (n := 333 * r.f0.f0) (by omega) (by omega), wrap_in (by omega) (by omega), wrap_in (by omega) (by omega)]
  omega
theorem all_get {l : List S82} (h : l.all ringOk = true) {k : Nat} (hk : k < l.length) : ringOk l[k] = true := List.all_eq_true.1 h _ (List.getElem_mem hk)
theorem check_zero {l : List S82} {fl tg : Int} (h : checkOf l fl tg = 0) : l.length ≤ 24 ∧ 0 < l.length ∧ l.all ringOk = true ∧ lowSum l ≤ 1000 ∧ 1000 ≤ highSum l ∧ 1 ≤ fl ∧ fl ≤ 1000 ∧ 0 ≤ tg ∧ tg ≤ 1000000000000000 := by
  unfold checkOf at h
  split at h
  · cases h
  split at h
  · cases h
  split at h
  · cases h
  split at h
  · cases h
  split at h
  · cases h
  rename_i h1 h2 h3 h4 h5
  simp only [Bool.not_eq_false, betw, Bool.and_eq_true, decide_eq_true_eq] at h3 h4 h5
  exact ⟨by omega, by omega, h3, h4.1, h4.2, h5.1.1, h5.1.2, h5.2.1, h5.2.2⟩
theorem rings_set {w : World} {base : Nat} {e : TypeId} {size n : Nat} {v : Value} {xs : List Value} (h : w.ownsRow base e size v n xs) {w1 : World} (hb : Below w.heap.size w w1) : w1.ownsRow base e size v n xs :=
  own_move h fun k hk => by
    obtain ⟨cells, hc⟩ := own_typed h k hk
    exact (hb.block k (Array.getElem?_eq_some_iff.1 hc).1)
theorem own_turn {w w1 : World} {base B : Nat} {e : TypeId} {size n : Nat} {v : Value} {xs : List Value} (h : w.ownsRow base e size v n xs) (ht : Turn B w w1) : w1.ownsRow base e size v n xs :=
  own_move h fun k hk => by
    obtain ⟨cells, hc⟩ := own_typed h k hk
    rw [hc]; exact ht.cells _ _ hc rfl
theorem own_lower {w : World} {base base' : Nat} {e : TypeId} {size n : Nat} {v : Value} {xs : List Value} (hb : base' ≤ base) (h : w.ownsRow base e size v n xs) : w.ownsRow base' e size v n xs := by
  obtain ⟨h1, h2⟩ := h
  refine ⟨h1, h2.imp id ?_⟩
  rintro ⟨g, cap, cur, a, b, r⟩
  exact ⟨g, cap, cur, a, by omega, r⟩
theorem reps_flat {α β : Type} {R : β → List Value → Prop} {sz : Nat} {f : α → β} {g : α → List Value} (hR : ∀ x, R (f x) (g x)) (hg : ∀ x, (g x).length = sz) : ∀ l : List α, Reps R sz (l.map f) (l.flatMap g) := by
  intro l
  refine ⟨?_, ?_⟩
  · induction l with
    | nil => simp
    | cons x l ih => simp only [List.flatMap_cons, List.length_append, hg, ih, List.map_cons, List.length_cons, Nat.add_mul]; omega
  · induction l with
    | nil => intro j p h; simp at h
    | cons x l ih =>
      intro j p h
      cases j with
      | zero =>
        simp at h; subst h
        simp only [Nat.zero_mul, List.drop_zero, List.flatMap_cons]
        rw [List.take_append_of_le_length (by rw [hg]; exact Nat.le_refl _), List.take_of_length_le (by rw [hg]; exact Nat.le_refl _)]
        exact hR x
      | succ j =>
        simp only [List.map_cons, List.getElem?_cons_succ] at h
        have := ih j p h
        simp only [List.flatMap_cons]
        rw [Nat.add_mul, Nat.one_mul, Nat.add_comm, List.drop_append, hg, Nat.add_sub_cancel_left, List.drop_of_length_le (by rw [hg]; omega), List.nil_append]
        exact this
/-- a row of spans of the call's own -/
theorem R29_of {w : World} {base : Nat} {v : Value} {α : Type} {l : List α} {f : α → S29} (h : w.ownsRow base 29 2 v l.length (l.flatMap fun x => [.int .i64 (f x).f0, .int .i64 (f x).f1])) : Kd.R k29 29 w base (fun _ => True) v (l.map f) :=
  ⟨fun _ _ => trivial, _, by rw [List.length_map]; exact h, reps_flat (R := k29.M w base (fun k => True ∧ some k ≠ v.ownBlock)) (f := f) (g := fun x => [.int .i64 (f x).f0, .int .i64 (f x).f1]) (fun x => k29_mkM w base _ (f x)) (fun _ => rfl) l⟩
/- Thickness -/
def thickC (a b : Int) (r : S82) : List Value := [.int .i64 (thickLo r a), .int .i64 (thickHi r b)]
def thickOf (l : List S82) (fl tg a b : Int) : List S29 × Int :=
  if checkOf l fl tg = 0 then (if spanB a b 1 100000 = true then (l.map (fun r => (⟨thickLo r a, thickHi r b⟩ : S29)), 0) else ([], 1)) else ([], checkOf l fl tg)
def RetSpans (p : List S29 × Int) (w : World) (e : Ending) (w' : World) : Prop := ∃ v0_ : Value, e = .returned (.tuple #[v0_, .int .i64 p.2]) ∧ Kd.R k29 29 w' w.heap.size (fun _ => True) v0_ p.1 ∧ Below w.heap.size w w'
/-- what holds between two rounds -/
def ThickI (w : World) (Bb : Nat) (A : Option Addr) (c : Nat) (l : List S82) (fl tg a b : Int) (k : Nat) (W : World) : Prop :=
  Reads Bb A c l fl tg W ∧ W.heap[w.heap.size + 1]? = some (.cells #[.int .i64 a, .int .i64 b] 29 (0, 0)) ∧
  (∃ v, W.heap[w.heap.size + 1 + 1]? = some (.cells #[v] 25 (0, 0)) ∧ W.ownsRow (Bb + 1) 29 2 v k ((l.take k).flatMap (thickC a b))) ∧ W.heap[w.heap.size + 1 + 1 + 1]? = some (.cells #[.int .i64 0] 36 (0, 0)) ∧ Below w.heap.size w W
theorem ThickI.turn {w W W' : World} {Bb : Nat} {A : Option Addr} {c : Nat} {l : List S82} {fl tg a b : Int} {k : Nat} (hr : Kd.C k82 w A l.length l) (h : ThickI w Bb A c l fl tg a b k W) {B : Nat} (hB : w.heap.size ≤ B) (ht : Turn B W W') : ThickI w Bb A c l fl tg a b k W' := by
  obtain ⟨⟨a1, _⟩, a3, ⟨v, a4, a5⟩, a6, a7⟩ := h
  have hb := a7.trans (ht.below.mono hB)
  exact ⟨⟨ht.cells _ _ a1 rfl, Kd.C_below hr hb⟩, ht.cells _ _ a3 rfl, ⟨v, ht.cells _ _ a4 rfl, own_turn a5 ht⟩, ht.cells _ _ a6 rfl, hb⟩
theorem hbel2 {p q r s t : Prop} {n m : Nat} (h : p ∧ q ∧ r ∧ s ∧ t ∧ n + 4 ≤ m) : n + 4 ≤ m := h.2.2.2.2.2
theorem two_cells {W : World} {Bx : Nat} {u v : Value} {t : TypeId} (h : W.heap[Bx]? = some (.cells #[u, v] t (0, 0))) : ∀ (j : Nat) (x : Value), [u, v][j]? = some x → W.cell? ((⟨Bx, 0, none⟩ : Addr).add j) = some x := fun j x hj => by
  rw [show (⟨Bx, 0, none⟩ : Addr).add j = ⟨Bx, j, none⟩ by simp [Addr.add]; intro h; omega]
  rw [blkCell h j]
  simpa using hj
theorem grown_keep {W W' : World} {base : Nat} {e : TypeId} {size n : Nat} {v : Value} {xs : List Value} (ho : W.ownsRow base e size v n xs) (hg : W.grownBy W' v.ownBlock) {k : Nat} {o : Obj} (hk : k < base) (h : W.heap[k]? = some o) : W'.heap[k]? = some o := by
  refine (hg.block k (Array.getElem?_eq_some_iff.1 h).1 fun he => ?_).trans h
  rcases ho.2 with ⟨rfl, _⟩ | ⟨g, cap, cur, rfl, hb, _⟩
  · cases he
  · simp [Value.ownBlock] at he; omega
theorem own_base {W : World} {base B : Nat} {e : TypeId} {size n : Nat} {v : Value} {xs : List Value} (ho : W.ownsRow base e size v n xs) {j : Nat} (hj : v.ownBlock = some j) (hB : B ≤ base) : B ≤ j := by
  rcases ho.2 with ⟨rfl, _⟩ | ⟨g, cap, cur, rfl, hb, _⟩
  · cases hj
  · simp [Value.ownBlock] at hj; omega
theorem own_cells {W : World} {base : Nat} {e : TypeId} {size n : Nat} {v : Value} {xs : List Value} (ho : W.ownsRow base e size v n xs) : ∀ (j : Nat) (o : Obj), v.ownBlock = some j → W.heap[j]? = some o → o.isCells = true := fun j o hj ho' => by
  obtain ⟨cells, hc⟩ := own_typed ho j hj
  rw [hc] at ho'; cases ho'; rfl
theorem info29' : ∃ i0, Try.prog.info? 29 = some i0 ∧ i0.zero = some (.agg #[(.int .i64 0), (.int .i64 0)]) ∧ i0.size = 2 ∧ i0.bytes = 16 := info_parts info29
set_option maxRecDepth 100000 in
set_option maxHeartbeats 2000000 in
theorem Thickness_any (A : Option Addr) (c : Nat) (l : List S82) (fl tg a b : Int) (w : World) (hr : Kd.C k82 w A l.length l) :
    Calls Try.prog 15 #[.agg #[.slice A l.length c, .int .i64 fl, .int .i64 tg], .agg #[.int .i64 a, .int .i64 b]] w (RetSpans (thickOf l fl tg a b) w) := by
  have HB := Below.refl w.heap.size w
  have hmf := makeFunc_any
  refine calls_of_wpF Try.func15 rfl ?_
  simp only [Try.ntmps15, List.size_toArray, List.length_cons, List.length_nil, Nat.reduceAdd, Nat.reduceSub, Array.replicate_succ, Array.replicate_zero, List.push_toArray, List.append_toArray, List.nil_append, List.cons_append]
  refine wpF_seq (wpF_of_wp ?_)
  go_wp2
  refine wpF_seq (wpF_of_wp ?_)
  go_wp2
  have hbel := (((HB.alloc (Nat.le_refl _) (.cells #[.slice A l.length c, .int .i64 fl, .int .i64 tg] 24)).alloc (by simp) (.cells #[.int .i64 a, .int .i64 b] 29)).alloc (by simp; omega) (.cells #[.slice none 0 0] 25)).alloc (by simp; omega) (.cells #[.int .i64 0] 36)
  have e0 := World.alloc_heap_new w (.cells #[.slice A l.length c, .int .i64 fl, .int .i64 tg] 24)
  have e1 := World.alloc_heap_new (w.alloc (.cells #[.slice A l.length c, .int .i64 fl, .int .i64 tg] 24)) (.cells #[.int .i64 a, .int .i64 b] 29)
  have e2 := World.alloc_heap_new ((w.alloc (.cells #[.slice A l.length c, .int .i64 fl, .int .i64 tg] 24)).alloc (.cells #[.int .i64 a, .int .i64 b] 29)) (.cells #[.slice none 0 0] 25)
  have e3 := World.alloc_heap_new (((w.alloc (.cells #[.slice A l.length c, .int .i64 fl, .int .i64 tg] 24)).alloc (.cells #[.int .i64 a, .int .i64 b] 29)).alloc (.cells #[.slice none 0 0] 25)) (.cells #[.int .i64 0] 36)
  have hsz : w.heap.size + 4 ≤ ((((w.alloc (.cells #[.slice A l.length c, .int .i64 fl, .int .i64 tg] 24)).alloc (.cells #[.int .i64 a, .int .i64 b] 29)).alloc (.cells #[.slice none 0 0] 25)).alloc (.cells #[.int .i64 0] 36)).heap.size := by simp
  have e0 := alloc_old (o' := .cells #[.int .i64 0] 36) (alloc_old (o' := .cells #[.slice none 0 0] 25) (alloc_old (o' := .cells #[.int .i64 a, .int .i64 b] 29) e0))
  have e1 := alloc_old (o' := .cells #[.int .i64 0] 36) (alloc_old (o' := .cells #[.slice none 0 0] 25) e1)
  have e2 := alloc_old (o' := .cells #[.int .i64 0] 36) e2
  simp only [World.size_alloc] at e1 e2 e3
  generalize ((((w.alloc (.cells #[.slice A l.length c, .int .i64 fl, .int .i64 tg] 24)).alloc (.cells #[.int .i64 a, .int .i64 b] 29)).alloc (.cells #[.slice none 0 0] 25)).alloc (.cells #[.int .i64 0] 36)) = W4 at *
  have HE := hid (And.intro e0 (And.intro e1 (And.intro e2 (And.intro e3 (And.intro hbel hsz)))))
  have c0 := blkCell e0 0
  have c1 := blkCell e0 1
  have c2 := blkCell e0 2
  simp at c0 c1 c2
  clear hbel e0 e1 e2 e3 hsz HB
  refine wpF_seq (wpF_of_wp ?_)
  go_wp2_with fail
  obtain ⟨e0, e1, e2, e3, hbel, hsz⟩ := HE.out
  refine (check_any A c l fl tg _ (Kd.C_below hr hbel)).mono ?_
  rintro e w1 ⟨he, hb⟩
  have HE1 := hid (And.intro (heap_grow e0 hb) (And.intro (heap_grow e1 hb) (And.intro (heap_grow e2 hb) (And.intro (heap_grow e3 hb) (And.intro (hbel.trans (hb.mono hbel.size)) (Nat.le_trans hsz hb.size))))))
  clear e0 e1 e2 e3 hbel hsz hb HE
  by_cases h0 : ¬ checkOf l fl tg = 0
  · rw [if_neg h0] at he
    subst he
    obtain ⟨e0, e1, e2, e3, hbel, hsz⟩ := HE1.out
    refine leaves_fail catches49 enters49 (blkCell e3 0) (blkFrozen e3 0) ?_
    refine ⟨.tuple #[.slice none 0 0, .int .i64 (checkOf l fl tg)], ?_, .slice none 0 0, ?_, ?_, caughtW_below hbel (by omega)⟩
    · have := caughtW_cell (c := checkOf l fl tg) (blkCell e3 0)
      have k2 := blkCell (caughtW_other (c := checkOf l fl tg) (B := w.heap.size + 1 + 1 + 1) (by omega) e2) 0
      simp at k2
      simp [results, Try.results15, go_sem, this, k2]
    · unfold thickOf; rw [if_neg h0]
    · unfold thickOf; rw [if_neg h0]; exact Kd.R_nil _ _ _ _ _
  have h0' : checkOf l fl tg = 0 := Decidable.not_not.1 h0
  rw [if_pos h0'] at he
  subst he
  clear c0 c1 c2
  obtain ⟨e0, e1, e2, e3, hbel, hsz⟩ := HE1.out
  have c0 := blkCell e1 0
  have c1 := blkCell e1 1
  simp at c0 c1
  clear e0 e1 e2 e3 hbel hsz
  go_wp2_with fail
  refine wpF_seq (wpF_of_wp ?_)
  go_wp2_with fail
  refine (span_any _ _ _ _ _).mono ?_
  rintro e w2 ⟨rfl, hb⟩
  obtain ⟨e0, e1, e2, e3, hbel, hsz⟩ := HE1.out
  have HE2 := hid (And.intro (heap_grow e0 hb) (And.intro (heap_grow e1 hb) (And.intro (heap_grow e2 hb) (And.intro (heap_grow e3 hb) (And.intro (hbel.trans (hb.mono hbel.size)) (Nat.le_trans hsz hb.size))))))
  clear e0 e1 e2 e3 hbel hsz hb HE1 c0 c1
  by_cases hs : ¬ spanB a b 1 100000 = true
  · have hs' : spanB a b 1 100000 = false := by simpa using hs
    rw [hs']
    have HS := hid hs'
    clear hs hs'
    go_wp2_with (first | (go_at_call 52; refine (demand_no _ _).mono ?_; rintro e w' ⟨rfl, rfl⟩))
    obtain ⟨e0, e1, e2, e3, hbel, hsz⟩ := HE2.out
    refine leaves_fail catches49 enters49 (blkCell e3 0) (blkFrozen e3 0) ?_
    refine ⟨.tuple #[.slice none 0 0, .int .i64 1], ?_, .slice none 0 0, ?_, ?_, caughtW_below hbel (by omega)⟩
    · have := caughtW_cell (c := 1) (blkCell e3 0)
      have k2 := blkCell (caughtW_other (c := 1) (B := w.heap.size + 1 + 1 + 1) (by omega) e2) 0
      simp at k2
      simp [results, Try.results15, go_sem, this, k2]
    · unfold thickOf; rw [if_pos h0', if_neg (by rw [HS.out]; simp)]
    · unfold thickOf; rw [if_pos h0', if_neg (by rw [HS.out]; simp)]; exact Kd.R_nil _ _ _ _ _
  have hs' : spanB a b 1 100000 = true := Decidable.not_not.1 hs
  rw [hs']
  have HS := hid hs'
  have H0 := hid h0'
  clear hs hs' h0 h0'
  go_wp2_with (first | (go_at_call 52; refine (demand_ok _ _).mono ?_; rintro e w' ⟨rfl, rfl⟩))
  obtain ⟨e0, e1, e2, e3, hbel, hsz⟩ := HE2.out
  have c0 := blkCell e0 0
  have c1 := blkCell e0 1
  have c2 := blkCell e0 2
  simp at c0 c1 c2
  clear e0 e1 e2 e3 hbel hsz
  refine wpF_seq (wpF_seq (wpF_of_wp ?_))
  go_wp2_with (first | (go_at_call 54; refine (rings_any _ _ _ _ _ _).mono ?_; rintro e w' ⟨rfl, rfl⟩))
  generalize hBb : w2.heap.size = Bb
  clear c0 c1 c2
  refine wpF_block ?_
  have hck := check_zero H0.out
  have hall := hck.2.2.1
  refine wpF_range (N := l.length) Try.func15 rfl enters99 (rings_iter Bb A c l fl tg (by omega)) (fun _ => rfl) (ThickI w Bb A c l fl tg a b) (fun _ _ => False) (fun _ _ => False) ?hI ?hIr ?hsz ?hRd ?h0 ?round ?done ?stop ?pan
  case hI => exact fun k W W' h ht => ThickI.turn hr h (by have := hbel2 HE2.out; simp; omega) ht
  case hIr => exact fun _ _ _ h _ => h
  case hsz => exact fun k W h => by have := cell_lt (blkCell h.1.box 0); simp; omega
  case hRd => exact fun k W h => h.1
  case stop => exact fun _ _ _ h => h.elim
  case pan => exact fun _ _ _ h => h.elim
  case h0 =>
    obtain ⟨e0, e1, e2, e3, hbel, hsz⟩ := HE2.out
    have hn := World.alloc_heap_new w2 (.cells #[.slice A l.length c, .int .i64 fl, .int .i64 tg] 24)
    rw [hBb] at hn
    have hb := hbel.alloc hbel.size (.cells #[.slice A l.length c, .int .i64 fl, .int .i64 tg] 24)
    exact ⟨⟨hn, Kd.C_below hr hb⟩, alloc_old e1, ⟨_, alloc_old e2, own_nil _ _ _ _⟩, alloc_old e3, hb⟩
  case round =>
    intro lp k W hlt hI
    have hg : l.getD k z82 = l[k] := by simp [List.getD, hlt]
    simp only [ringV, hg]
    gi_wp2
    refine ⟨(KeepsOthers.alloc _ _), fun w₂ ht => ?_⟩
    have hBl := hbel2 HE2.out
    have hI2 : ThickI w Bb A c l fl tg a b k w₂ := hI.turn hr (by omega) ((Turn.alloc (B := Bb + 1) (by have := cell_lt (blkCell hI.1.box 0); omega) _).trans (by simpa [hBb] using ht))
    have hrg : w₂.heap[W.heap.size]? = some (.cells (ringC l[k]) 82 (0, 0)) := ht.cells _ _ (World.alloc_heap_new _ _) rfl
    generalize W.heap.size = B at *
    have hl24 := hck.1
    have hdv := thick_div (all_get hall hlt)
    obtain ⟨d1, d2⟩ := hdv
    obtain ⟨i0, hi, hz0, hz1, hz2⟩ := info29'
    obtain ⟨q0, q1, ⟨v, q2, qo⟩, q3, qb⟩ := hI2
    have HQ := hid (And.intro q0 (And.intro q1 (And.intro q2 (And.intro qo (And.intro q3 qb)))))
    have HG := hid hrg
    have HD1 := hid d1
    have HD2 := hid d2
    have HI0 := hid (And.intro hi (And.intro hz0 (And.intro hz1 hz2)))
    clear q0 q1 q2 qo q3 qb hrg ht hI hg hall hck d1 d2 hi hz0 hz1 hz2
    gi_wp2_with fail
    have d1 := HD1.out
    have d2 := HD2.out
    obtain ⟨q0, q1, q2, qo, q3, qb⟩ := HQ.out
    have hrg := HG.out
    refine wpIn_flow2 [[], [], [], [1, 2], [3, 1, 2], [0, 4, 3, 1, 2], [5, 0, 4, 3, 1, 2]] 4
      (fun W => W.cell? ⟨(w.heap.size + 1 + 1), 0, none⟩ = some (v) ∧ W.cell? ⟨B, 0, none⟩ = some (.int .i64 (l[k].f0.f0)) ∧ W.cell? ⟨B, 1, none⟩ = some (.int .i64 (l[k].f0.f1)) ∧ W.cell? ⟨B, 2, none⟩ = some (.int .i64 (l[k].f1.f0)) ∧ W.cell? ⟨B, 3, none⟩ = some (.int .i64 (l[k].f1.f1)) ∧ W.cell? ⟨B, 4, none⟩ = some (.int .i64 (l[k].f2.f0)) ∧ W.cell? ⟨B, 5, none⟩ = some (.int .i64 (l[k].f2.f1)) ∧ W.cell? ⟨B, 6, none⟩ = some (.int .i64 (l[k].f3.f0)) ∧ W.cell? ⟨B, 7, none⟩ = some (.int .i64 (l[k].f3.f1)) ∧ W.cell? ⟨B, 8, none⟩ = some (.int .i64 (l[k].f4.f0)) ∧ W.cell? ⟨B, 9, none⟩ = some (.int .i64 (l[k].f4.f1)) ∧ W.cell? ⟨(w.heap.size + 1), 0, none⟩ = some (.int .i64 a) ∧ W.cell? ⟨(w.heap.size + 1), 1, none⟩ = some (.int .i64 b) ∧ Below w₂.heap.size w₂ W)
      (fun u W => (W.cell? ⟨(w.heap.size + 1 + 1), 0, none⟩ = some (v) ∧ W.cell? ⟨B, 0, none⟩ = some (.int .i64 (l[k].f0.f0)) ∧ W.cell? ⟨B, 1, none⟩ = some (.int .i64 (l[k].f0.f1)) ∧ W.cell? ⟨B, 2, none⟩ = some (.int .i64 (l[k].f1.f0)) ∧ W.cell? ⟨B, 3, none⟩ = some (.int .i64 (l[k].f1.f1)) ∧ W.cell? ⟨B, 4, none⟩ = some (.int .i64 (l[k].f2.f0)) ∧ W.cell? ⟨B, 5, none⟩ = some (.int .i64 (l[k].f2.f1)) ∧ W.cell? ⟨B, 6, none⟩ = some (.int .i64 (l[k].f3.f0)) ∧ W.cell? ⟨B, 7, none⟩ = some (.int .i64 (l[k].f3.f1)) ∧ W.cell? ⟨B, 8, none⟩ = some (.int .i64 (l[k].f4.f0)) ∧ W.cell? ⟨B, 9, none⟩ = some (.int .i64 (l[k].f4.f1)) ∧ W.cell? ⟨(w.heap.size + 1), 0, none⟩ = some (.int .i64 a) ∧ W.cell? ⟨(w.heap.size + 1), 1, none⟩ = some (.int .i64 b) ∧ Below w₂.heap.size w₂ W) ∧ ∃ Bx, u = .slice (some ⟨Bx, 0, none⟩) 1 1 ∧ W.heap[Bx]? = some (.cells #[.int .i64 (thickLo l[k] a), .int .i64 (thickHi l[k] b)] 29 (0, 0)) ∧ w₂.heap.size ≤ Bx)
      { tmps := #[.agg #[.slice A l.length c, .int .i64 fl, .int .i64 tg], .agg #[.int .i64 a, .int .i64 b], .pointer (some ⟨w.heap.size, 0, none⟩), .pointer (some ⟨(w.heap.size + 1), 0, none⟩), .pointer (some ⟨(w.heap.size + 1 + 1), 0, none⟩), .pointer (some ⟨(w.heap.size + 1 + 1 + 1), 0, none⟩), undef, .pointer (some ⟨B, 0, none⟩), .func (.func 49) #[] #[.pointer (some ⟨(w.heap.size + 1 + 1 + 1), 0, none⟩)], .agg #[.slice A l.length c, .int .i64 fl, .int .i64 tg], .tuple #[], .agg #[.int .i64 a, .int .i64 b], .bool true, .tuple #[], .agg #[.slice A l.length c, .int .i64 fl, .int .i64 tg], .func (.func 99) #[] #[.pointer (some ⟨Bb, 0, none⟩)], .int .i64 k, .agg #[.int .i64 (l[k].f0.f0), .int .i64 (l[k].f0.f1), .int .i64 (l[k].f1.f0), .int .i64 (l[k].f1.f1), .int .i64 (l[k].f2.f0), .int .i64 (l[k].f2.f1), .int .i64 (l[k].f3.f0), .int .i64 (l[k].f3.f1), .int .i64 (l[k].f4.f0), .int .i64 (l[k].f4.f1)], v, .agg #[.int .i64 (l[k].f0.f0), .int .i64 (l[k].f0.f1), .int .i64 (l[k].f1.f0), .int .i64 (l[k].f1.f1), .int .i64 (l[k].f2.f0), .int .i64 (l[k].f2.f1), .int .i64 (l[k].f3.f0), .int .i64 (l[k].f3.f1), .int .i64 (l[k].f4.f0), .int .i64 (l[k].f4.f1)], .agg #[.int .i64 a, .int .i64 b], .agg #[.int .i64 (thickLo l[k] a), .int .i64 (thickHi l[k] b)], undef, undef, undef], defers := [] }
      mixed (by kernel_rfl) rfl (Ahead.of [0, 1, 2, 3, 4, 5, 6, 7, 8, 9, 10, 11, 12, 13, 14, 15, 16, 17, 22, 23, 24] rfl rfl (by kernel_rfl) (by simp)) ?_ (fun _ _ h => h.1) ?_ ?_ rfl ?_
    · exact ⟨blkCell q2 0, blkCell hrg 0, blkCell hrg 1, blkCell hrg 2, blkCell hrg 3, blkCell hrg 4, blkCell hrg 5, blkCell hrg 6, blkCell hrg 7, blkCell hrg 8, blkCell hrg 9, blkCell q1 0, blkCell q1 1, (Below.refl _ _).drew⟩
    · refine EachOp.ops rfl ⟨?_, ?_, ?_, ?_, trivial⟩
      · exact .inr (LookOp.val 18 _ rfl rfl fun W ⟨c0, c1, c2, c3, c4, c5, c6, c7, c8, c9, c10, c11, c12, hB_⟩ => by go_simp)
      · exact .inr (LookOp.val 19 _ rfl rfl fun W ⟨c0, c1, c2, c3, c4, c5, c6, c7, c8, c9, c10, c11, c12, hB_⟩ => by go_simp)
      · exact .inr (LookOp.val 20 _ rfl rfl fun W ⟨c0, c1, c2, c3, c4, c5, c6, c7, c8, c9, c10, c11, c12, hB_⟩ => by go_simp)
      · left
        refine ⟨by simp, ?_⟩
        refine FlowOp.call 21 (.agg #[.int .i64 (thickLo l[k] a), .int .i64 (thickHi l[k] b)]) 55 #[.agg #[.int .i64 (l[k].f0.f0), .int .i64 (l[k].f0.f1), .int .i64 (l[k].f1.f0), .int .i64 (l[k].f1.f1), .int .i64 (l[k].f2.f0), .int .i64 (l[k].f2.f1), .int .i64 (l[k].f3.f0), .int .i64 (l[k].f3.f1), .int .i64 (l[k].f4.f0), .int .i64 (l[k].f4.f1)], .agg #[.int .i64 a, .int .i64 b]] rfl rfl (fun W ⟨c0, c1, c2, c3, c4, c5, c6, c7, c8, c9, c10, c11, c12, hB_⟩ => by go_simp) fun W ⟨c0, c1, c2, c3, c4, c5, c6, c7, c8, c9, c10, c11, c12, hB_⟩ => ?_
        refine (thickness_any l[k] a b _ d1 d2).mono ?_
        rintro e w' ⟨rfl, hb⟩
        exact ⟨rfl, cell_grow c0 hb, cell_grow c1 hb, cell_grow c2 hb, cell_grow c3 hb, cell_grow c4 hb, cell_grow c5 hb, cell_grow c6 hb, cell_grow c7 hb, cell_grow c8 hb, cell_grow c9 hb, cell_grow c10 hb, cell_grow c11 hb, cell_grow c12 hb, hB_.trans (hb.mono hB_.size)⟩
    · refine ⟨rfl, fun W2 ⟨c0, c1, c2, c3, c4, c5, c6, c7, c8, c9, c10, c11, c12, hB_⟩ => ?_⟩
      have hgr := (Below.refl W2.heap.size W2).alloc (Nat.le_refl _) (.cells #[.int .i64 (thickLo l[k] a), .int .i64 (thickHi l[k] b)] 29)
      exact ⟨.slice (some ⟨W2.heap.size, 0, none⟩) 1 1, W2.alloc (.cells #[.int .i64 (thickLo l[k] a), .int .i64 (thickHi l[k] b)] 29), by go_simp, ⟨cell_grow c0 hgr, cell_grow c1 hgr, cell_grow c2 hgr, cell_grow c3 hgr, cell_grow c4 hgr, cell_grow c5 hgr, cell_grow c6 hgr, cell_grow c7 hgr, cell_grow c8 hgr, cell_grow c9 hgr, cell_grow c10 hgr, cell_grow c11 hgr, cell_grow c12 hgr, hB_.trans (hgr.mono hB_.size)⟩, W2.heap.size, rfl, World.alloc_heap_new _ _, hB_.size⟩
    · rintro _ W2 ⟨⟨_, _, _, _, _, _, _, _, _, _, _, _, _, hB_⟩, Bx, rfl, hx, hle⟩
      obtain ⟨hi, hz0, hz1, hz2⟩ := HI0.out
      refine wpListIn_append_own W2 rfl _ _ 25 rfl (Bb + 1) 29 i0 _ 2 16 Try.underlying25 hi hz0 hz1 hz2 rfl (by decide) v k _ rfl (rings_set qo hB_) ⟨Bx, 0, none⟩ 1 1 [.int .i64 (thickLo l[k] a), .int .i64 (thickHi l[k] b)] rfl rfl (two_cells hx) (by simp [Value.oneCell']) (by unfold maxLen; omega) (by omega) (by have := cell_lt (blkCell q0.box 0); have := hB_.size; omega) ?_
      intro v' w3 hown' hgrow _
      have g2 := grown_keep (rings_set qo hB_) hgrow (by omega) (heap_grow q2 hB_)
      have hcv := blkCell g2 0
      have hfv := blkFrozen g2 0
      simp at hcv
      have HK := hid (And.intro hown' (And.intro hgrow g2))
      have HB2 := hid hB_
      clear hown' hgrow g2 hB_ hx hle q0 q1 q2 qo q3 qb hrg d1 d2 hi hz0 hz1 hz2
      obtain ⟨g', cap', rfl⟩ := ownsRow_succ HK.out.1
      gi_wp2
      obtain ⟨hown', hgrow, g2⟩ := HK.out
      obtain ⟨q0, q1, q2, qo, q3, qb⟩ := HQ.out
      have own2 := rings_set qo HB2.out
      have hb3 := ((qb.trans (HB2.out.mono qb.size)).grown hgrow (by have := qb.size; have := HB2.out.size; omega) (fun j hj => own_base own2 hj (by omega))).setCell (p := ⟨w.heap.size + 1 + 1, 0, none⟩) (by simp; omega) (.slice (some ⟨g', 0, none⟩) (k + 1) cap')
      refine ⟨((keeps_of_below HB2.out).trans (KeepsOthers.of_grownBy hgrow (own_cells own2))).trans (KeepsOthers.setCell _ _ _), ⟨heap_set_other (by omega) (grown_keep own2 hgrow (by omega) (heap_grow q0.box HB2.out)), Kd.C_below hr hb3⟩, heap_set_other (by omega) (grown_keep own2 hgrow (by omega) (heap_grow q1 HB2.out)), ⟨_, heap_set_same g2, ?_⟩, heap_set_other (by omega) (grown_keep own2 hgrow (by omega) (heap_grow q3 HB2.out)), hb3⟩
      rw [List.take_succ_eq_append_getElem hlt, List.flatMap_append]
      simp only [List.flatMap_cons, List.flatMap_nil, List.append_nil]
      exact ownsRow_setCell_below hown' (by simp; omega) _
  case done =>
    intro D W hI hD hle
    show wpF Try.prog 15 _ _ _ _
    have hBl := hbel2 HE2.out
    simp only [World.size_alloc] at hle
    obtain ⟨q0, q1, ⟨v, q2, qo⟩, q3, qb⟩ := hI
    rw [List.take_length] at qo
    have HQ := hid (And.intro q2 (And.intro qo (And.intro q3 qb)))
    have HD := hid hD
    have c2 := blkCell q2 0
    have f2 := blkFrozen q2 0
    have c3 := blkCell q3 0
    have f3 := blkFrozen q3 0
    simp at c2 c3
    clear q0 q1 q2 qo q3 qb hD
    have hvs : ∃ A' n' c', v = .slice A' n' c' := by
      rcases HQ.out.2.1.2 with ⟨rfl, _⟩ | ⟨g, cap, cur, rfl, _⟩
      · exact ⟨_, _, _, rfl⟩
      · exact ⟨_, _, _, rfl⟩
    obtain ⟨A', n', c', rfl⟩ := hvs
    refine wpF_of_wp ?_
    go_wp2
    obtain ⟨q2, qo, q3, qb⟩ := HQ.out
    have hD2 := heap_set_other (b := w.heap.size + 1 + 1 + 1) (v := .int .i64 0) (by omega) (heap_set_other (b := w.heap.size + 1 + 1) (v := .slice A' n' c') (by omega) HD.out)
    have k2 := (World.putObj_heap_other (r := D) (o := .deferred none) (by omega)).trans (heap_set_other (b := w.heap.size + 1 + 1 + 1) (v := .int .i64 0) (by omega) (heap_set_same (v := .slice A' n' c') q2))
    have k3 := (World.putObj_heap_other (r := D) (o := .deferred none) (by omega)).trans (heap_set_same (v := .int .i64 0) (heap_set_other (b := w.heap.size + 1 + 1) (v := .slice A' n' c') (by omega) q3))
    have j2 := blkCell k2 0
    have j3 := blkCell k3 0
    simp at j2 j3
    have ho := own_turn (ownsRow_setCell_below (ownsRow_setCell_below qo (a := ⟨w.heap.size + 1 + 1, 0, none⟩) (by simp; omega) (.slice A' n' c')) (a := ⟨w.heap.size + 1 + 1 + 1, 0, none⟩) (by simp; omega) (.int .i64 0)) (Turn.putObj (B := 0) (.deferred none) (Nat.zero_le _) hD2 rfl)
    refine ⟨by simp, .inl ⟨_, _, rfl, run_takeDeferred hD2, leaves_idle catches49 enters49 ?_⟩⟩
    refine ⟨.tuple #[.slice A' n' c', .int .i64 0], by simp [results, Try.results15, go_sem, j2, j3], .slice A' n' c', ?_, ?_, ?_⟩
    · unfold thickOf; rw [if_pos H0.out, if_pos HS.out]
    · unfold thickOf; rw [if_pos H0.out, if_pos HS.out]
      exact R29_of (f := fun r => (⟨thickLo r a, thickHi r b⟩ : S29)) (own_lower (by omega) ho)
    · exact ((qb.setCell (p := ⟨w.heap.size + 1 + 1, 0, none⟩) (by simp; omega) _).setCell (p := ⟨w.heap.size + 1 + 1 + 1, 0, none⟩) (by simp; omega) _).trans (below_putObj _ _ (by omega))
end Go.Proofs.Ythoofldinnfpiaa
