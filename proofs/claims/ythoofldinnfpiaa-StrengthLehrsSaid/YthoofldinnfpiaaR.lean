/- Laws for a range over a function whose rounds may panic or return, and for the functions that hold one. -/
import Derived.RangeFuncNested
import Derived.Recover
import Derived.Below
namespace Go.Proofs.Ythoofldinnfpiaa
open Go Go.RowKit
variable {P : Program} {n : Nat}

/-! ### code in a frame of a known function -/
def wpF (P : Program) (f₀ : FuncId) (c : Code) (Q : Exit → Act → World → Prop) (a : Act) (w : World) : Prop :=
  ∀ (b : Frame) (k : List Item) (cs : List Frame), b.fn = f₀ → b.roundOf = none →
    ∃ e a' w', Q e a' w' ∧ ArrivesIn (Machine.fenced P Fence.wide) P (lone (b.atR a (.code c :: k)) cs w) b k cs e a' w'

theorem wpF_of_wp {f₀ : FuncId} {c : Code} {Q : Exit → Act → World → Prop} {a : Act} {w : World} (h : c.wp P Q a w) : wpF P f₀ c Q a w :=
  fun b k cs _ hr => (wpIn_wide (n := 0)).2 h b k cs hr trivial (room_wide _)

theorem calm {fr : Frame} {cs : List Frame} {w : World} : (lone fr cs w).fenced P Fence.wide := fenced_wide P _

theorem wpF_seq {f₀ : FuncId} {x y : Code} {Q : Exit → Act → World → Prop} {a : Act} {w : World} (h : wpF P f₀ x (Exit.then (wpF P f₀ y Q) Q) a w) : wpF P f₀ (.seq x y) Q a w := by
  intro b k cs hb hr
  have hx : ∀ id, exitTo id (.code y :: k) = exitTo id k := fun id => exitTo_plain (x := .code y) rfl id k
  have hg : ∀ id, gotoIn id (.code y :: k) = gotoIn id k := fun id => gotoIn_plain (x := .code y) rfl id k
  have s0 : StepsIn (Machine.fenced P Fence.wide) P (lone (b.atR a (.code (.seq x y) :: k)) cs w) (lone (b.atR a (.code x :: .code y :: k)) cs w) := .one calm stepR_seq
  obtain ⟨e, a₁, w₁, hq, harr⟩ := h b (.code y :: k) cs hb hr
  cases e with
  | normal =>
    obtain ⟨e₂, a₂, w₂, hq₂, harr₂⟩ := hq b k cs hb hr
    exact ⟨e₂, a₂, w₂, hq₂, .of_steps (s0.trans harr) harr₂⟩
  | exit id => exact ⟨_, a₁, w₁, hq, fun k' hk => s0.trans (harr.1 k' (by rw [hx]; exact hk)), fun hr' => by rw [hr] at hr'; cases hr'⟩
  | goto id => exact ⟨_, a₁, w₁, hq, fun k' hk => s0.trans (harr.1 k' (by rw [hg]; exact hk)), fun hr' => by rw [hr] at hr'; cases hr'⟩
  | ret => exact ⟨_, a₁, w₁, hq, .of_steps (b := b) (k := k) (cs := cs) (e := .ret) s0 ⟨harr.1, harr.2⟩⟩
  | panic ch => exact ⟨_, a₁, w₁, hq, .of_steps (b := b) (k := k) (cs := cs) (e := .panic ch) s0 harr⟩
  | outgrown => exact ⟨_, a₁, w₁, hq, .of_steps (b := b) (k := k) (cs := cs) (e := .outgrown) s0 harr⟩

theorem wpF_block {f₀ : FuncId} {id : Nat} {c : Code} {Q : Exit → Act → World → Prop} {a : Act} {w : World} (h : wpF P f₀ c (Exit.inBlock id Q) a w) : wpF P f₀ (.block id c) Q a w := by
  intro b k cs hb hr
  have s0 : StepsIn (Machine.fenced P Fence.wide) P (lone (b.atR a (.code (.block id c) :: k)) cs w) (lone (b.atR a (.code c :: .inBlock id :: k)) cs w) := .one calm stepR_block
  obtain ⟨e, a₁, w₁, hq, harr⟩ := h b (.inBlock id :: k) cs hb hr
  cases e with
  | normal => exact ⟨.normal, a₁, w₁, hq, s0.trans (StepsIn.trans harr (.one calm stepR_inBlock))⟩
  | exit id' =>
    by_cases hid : id' = id
    · simp only [Exit.inBlock, hid, if_true] at hq
      exact ⟨.normal, a₁, w₁, hq, s0.trans (harr.1 k (by simp [exitTo, hid]))⟩
    · simp only [Exit.inBlock, hid, if_false] at hq
      have this : (id == id') = false := by simp; exact fun h => hid h.symm
      have hx : exitTo id' (.inBlock id :: k) = exitTo id' k := by simp [exitTo, this]
      exact ⟨.exit id', a₁, w₁, hq, fun k' hk => s0.trans (harr.1 k' (by rw [hx]; exact hk)), fun hr' => by rw [hr] at hr'; cases hr'⟩
  | goto l => exact ⟨_, a₁, w₁, hq, fun k' hk => s0.trans (harr.1 k' (by simpa [gotoIn] using hk)), fun hr' => by rw [hr] at hr'; cases hr'⟩
  | ret => exact ⟨_, a₁, w₁, hq, .of_steps (b := b) (k := k) (cs := cs) (e := .ret) s0 ⟨harr.1, harr.2⟩⟩
  | panic ch => exact ⟨_, a₁, w₁, hq, .of_steps (b := b) (k := k) (cs := cs) (e := .panic ch) s0 harr⟩
  | outgrown => exact ⟨_, a₁, w₁, hq, .of_steps (b := b) (k := k) (cs := cs) (e := .outgrown) s0 harr⟩

/-- A function's contract from its body, marks and deferred calls and all. -/
theorem calls_of_wpF {f : FuncId} {fn : Func} {c : Code} {args : Array Value} {w : World} {R : Ending → World → Prop}
    (hf : P.funcs[f]? = some fn) (hb : fn.body = some c)
    (h : wpF P f c (bodyPostM Fence.wide 0 P fn R) { tmps := args ++ Array.replicate (fn.ntmps - args.size) undef, defers := [] } w) : Calls P f args w R := by
  refine (callsIn_wide (n := 0)).1 ⟨trivial, fun cs hr => ?_⟩
  let b : Frame := { (default : Frame) with fn := f, kind := .normal, roundOf := none }
  have henter : Frame.enter P f args .normal =
      b.atR { tmps := args ++ Array.replicate (fn.ntmps - args.size) undef, defers := [] } [.code c] := by
    simp [Frame.enter, Frame.atR, hf, hb, b]
  obtain ⟨e, a', w', hq, harr⟩ := h b [] cs rfl rfl
  rw [← henter] at harr
  cases e with
  | normal =>
    obtain ⟨e', w'', fr', hR, hs, hfn, hl⟩ := leaves_stepsInM a'.defers .returning w' { b.atR a' [] with mode := .returning } cs rfl rfl rfl hf rfl trivial hr hq
    exact ⟨e', w'', fr', hR, ComesIn.of_steps (StepsIn.trans harr (.one calm (stepR_end rfl))) hs, hfn, hl⟩
  | ret =>
    obtain ⟨todo, hs₀⟩ := harr.1 rfl
    obtain ⟨e', w'', fr', hR, hs, hfn, hl⟩ := leaves_stepsInM a'.defers .returning w' { b.atR a' todo with mode := .returning } cs rfl rfl rfl hf rfl trivial hr hq
    exact ⟨e', w'', fr', hR, ComesIn.of_steps hs₀ hs, hfn, hl⟩
  | panic chain =>
    obtain ⟨todo, hs₀⟩ := harr
    obtain ⟨e', w'', fr', hR, hs, hfn, hl⟩ := leaves_stepsInM a'.defers (.panicking chain) w' { b.atR a' todo with mode := .panicking chain } cs rfl rfl rfl hf rfl trivial hr hq
    exact ⟨e', w'', fr', hR, ComesIn.of_steps hs₀ hs, hfn, hl⟩
  | exit id => exact hq.elim
  | goto l => exact hq.elim
  | outgrown => exact ⟨.outgrown, w', b, hq, harr.resolve_left (by simp [b]), rfl, trivial⟩

/-! ### a round that may panic -/
def roundPostP (P : Program) (l : Nat) (R : Ending → World → Prop) : Exit → Act → World → Prop
  | .normal, _, w => ∃ v w', (Instr.endRound l none).run P w = .ok v w' ∧ R (.returned v) w'
  | .ret, _, w => ∃ v w', (Instr.endRound l (some .ret)).run P w = .ok v w' ∧ R (.returned v) w'
  | .exit id, _, w => ∃ v w', (Instr.endRound l (some (.exit id))).run P w = .ok v w' ∧ R (.returned v) w'
  | .goto t, _, w => ∃ v w', (Instr.endRound l (some (.goto t))).run P w = .ok v w' ∧ R (.returned v) w'
  | .panic chain, a, w => a.defers = [] ∧ R (.panicked chain) w
  | .outgrown, _, _ => False

theorem step_round_panic {fr c : Frame} {cs : List Frame} {w : World} {fn : Func} {chain : List PanicEntry} (hf : P.funcs[fr.fn]? = some fn) (hm : fr.mode = .panicking chain) (hd : fr.defers = []) :
    step P (lone fr (c :: cs) w) = .next (lone (c.raise chain) cs w) :=
  step_lone_go (by simp [stepG, unwind, Frame.catches, hm, hd, hf])

theorem roundIn_P {F : Fence} {l : Nat} {f : FuncId} {fn : Func} {tmps : Array Value} {assign body : Code} {w : World} {R : Ending → World → Prop} (hF : F.fn f) (hfn : P.funcs[f]? = some fn)
    (h : assign.wpIn (F.inRound l) n P (Exit.then (fun a₁ w₁ => ∃ w₂, (Instr.beginRound l).run P w₁ = .ok () w₂ ∧ body.wpIn (F.inRound l) n P (roundPostP P l R) a₁ w₂) (fun _ _ _ => False))
      { tmps := tmps, defers := [] } w) :
    RoundIn F n P l f tmps assign body w R := by
  refine ⟨hF, fun c cs hr => ?_⟩
  let b : Frame := { (default : Frame) with fn := f, kind := .normal, roundOf := some l }
  have hb0 : Frame.round l f tmps assign body .normal = b.atR { tmps := tmps, defers := [] } [.code assign, .beginRound, .code body] := by
    simp [Frame.round, Frame.atR, b]
  have hr' : (F.inRound l).room ((c :: cs).length + 1 + n) := hr
  have hF' : (F.inRound l).fn b.fn := hF
  obtain ⟨e, a₁, w₁, hq, harr⟩ := h b [.beginRound, .code body] (c :: cs) rfl hF' hr'
  rw [← hb0] at harr
  cases e with
  | normal =>
    obtain ⟨w₂, hbr, hbody⟩ := hq
    have s1 : StepsIn (Machine.fenced P (F.inRound l)) P (lone (b.atR a₁ [.beginRound, .code body]) (c :: cs) w₁) (lone (b.atR a₁ [.code body]) (c :: cs) w₂) :=
      .one (fenced_calm (fr := b.atR a₁ [.beginRound, .code body]) hF' hr' rfl) (stepR_beginRound rfl hbr)
    obtain ⟨e₂, a₂, w₃, hq₂, harr₂⟩ := hbody b [] (c :: cs) rfl hF' hr'
    cases e₂ with
    | normal =>
      obtain ⟨v, w₄, hend, hR⟩ := hq₂
      exact ⟨.returned v, w₄, hR, (StepsIn.trans harr s1).trans (StepsIn.trans harr₂ (.one (fenced_calm (fr := b.atR a₂ []) hF' hr' rfl) (stepR_round_end rfl rfl hend)))⟩
    | ret =>
      obtain ⟨v, w₄, hend, hR⟩ := hq₂
      obtain ⟨k₁, hs⟩ := harr₂.2 rfl
      exact ⟨.returned v, w₄, hR, (StepsIn.trans harr s1).trans (StepsIn.trans hs (.one (fenced_calm (fr := b.atR a₂ (.code .ret :: k₁)) hF' hr' rfl) (stepR_round_ret rfl rfl hend)))⟩
    | exit id =>
      obtain ⟨v, w₄, hend, hR⟩ := hq₂
      obtain ⟨k₁, hk, hs⟩ := harr₂.2 rfl rfl
      exact ⟨.returned v, w₄, hR, (StepsIn.trans harr s1).trans (StepsIn.trans hs (.one (fenced_calm (fr := b.atR a₂ (.code (.exit id) :: k₁)) hF' hr' rfl) (stepR_round_exit rfl rfl hk hend)))⟩
    | goto t =>
      obtain ⟨v, w₄, hend, hR⟩ := hq₂
      obtain ⟨k₁, hk, hs⟩ := harr₂.2 rfl rfl
      exact ⟨.returned v, w₄, hR, (StepsIn.trans harr s1).trans (StepsIn.trans hs (.one (fenced_calm (fr := b.atR a₂ (.code (.goto t) :: k₁)) hF' hr' rfl) (stepR_round_goto rfl rfl hk hend)))⟩
    | panic chain =>
      obtain ⟨hd, hR⟩ := hq₂
      obtain ⟨todo, hs⟩ := harr₂
      refine ⟨.panicked chain, w₃, hR, (StepsIn.trans harr s1).trans (StepsIn.trans hs (.one (fenced_calm (fr := { b.atR a₂ todo with mode := .panicking chain }) hF' hr' ?_) (step_round_panic (fn := fn) hfn rfl hd)))⟩
      simp [Frame.about, Frame.atR, hd]
    | outgrown => exact hq₂.elim
  | exit id => exact hq.elim
  | goto t => exact hq.elim
  | ret => exact hq.elim
  | panic chain => exact hq.elim
  | outgrown => exact hq.elim

/-! ### the statement -/
/-- below B all lies as it lay, and so do all cells -/
structure Turn (B : Nat) (W W' : World) : Prop where
  below : Below B W W'
  cells : ∀ (k : Nat) (o : Obj), W.heap[k]? = some o → o.isCells = true → W'.heap[k]? = some o

theorem Turn.refl (B : Nat) (W : World) : Turn B W W := ⟨Below.refl _ _, fun _ _ h _ => h⟩
theorem Turn.trans {B : Nat} {a b c : World} (h : Turn B a b) (k : Turn B b c) : Turn B a c := ⟨h.below.trans k.below, fun i o hi ho => k.cells i o (h.cells i o hi ho) ho⟩
theorem Turn.mono {B B' : Nat} {a b : World} (h : Turn B a b) (hB : B' ≤ B) : Turn B' a b := ⟨h.below.mono hB, h.cells⟩
theorem Turn.of_below {W W' : World} (h : Below W.heap.size W W') : Turn W.heap.size W W' :=
  ⟨h, fun k _ hk _ => (h.block k (Array.getElem?_eq_some_iff.1 hk).1).trans hk⟩
theorem Turn.alloc {B : Nat} {W : World} (hB : B ≤ W.heap.size) (o : Obj) : Turn B W (W.alloc o) := (Turn.of_below ((Below.refl _ W).alloc (Nat.le_refl _) o)).mono hB
theorem below_putObj {B : Nat} (W : World) {l : Nat} (o : Obj) (hB : B ≤ l) : Below B W (W.putObj l o) :=
  ⟨rfl, rfl, rfl, by simp, fun k hk => World.putObj_heap_other (by omega)⟩
theorem Turn.putObj {B : Nat} {W : World} {l : Nat} {o : Obj} (o' : Obj) (hB : B ≤ l) (h : W.heap[l]? = some o) (hc : o.isCells = false) : Turn B W (W.putObj l o') :=
  ⟨below_putObj W o' hB, fun k o2 hk ho => by
    by_cases e : k = l
    · subst e; rw [h] at hk; cases hk; rw [hc] at ho; cases ho
    · exact (World.putObj_heap_other e).trans hk⟩

/-- what an iterator promises: for each round's contract there is the call's -/
def Iter (P : Program) (gf : Nat) (lb : Array Value) (enc : Nat → Array Value) (N : Nat) (Rd : World → Prop) : Prop :=
  ∀ (l : Nat) (J : Nat → World → Prop) (R : Ending → World → Prop) (W : World),
    (∀ i W W', J i W → Turn W.heap.size W W' → J i W') → (∀ i W, J i W → Rd W) →
    (∀ i W, i < N → J i W → YieldAt Fence.wide 0 P l (enc i) W fun e W' =>
      (e = .returned (.bool true) ∧ J (i + 1) W') ∨ (e = .returned (.bool false) ∧ R (.returned (.tuple #[])) W') ∨ (∃ ch, e = .panicked ch ∧ R (.panicked ch) W')) →
    (∀ W, J N W → R (.returned (.tuple #[])) W) → J 0 W →
    CallsIn Fence.wide 0 P gf (#[.func (.yield l) #[] #[]] ++ lb) W R

/-- how a round's body is left -/
def bodyP (I : World → Prop) (Ir : Code → World → Prop) (Ip : List PanicEntry → World → Prop) (W : World) : Exit → Act → World → Prop
  | .normal, _, W' => KeepsOthers W W' ∧ I W'
  | .ret, _, W' => KeepsOthers W W' ∧ Ir .ret W'
  | .exit id, _, W' => KeepsOthers W W' ∧ Ir (.exit id) W'
  | .goto t, _, W' => KeepsOthers W W' ∧ Ir (.goto t) W'
  | .panic ch, a', W' => a'.defers = [] ∧ KeepsOthers W W' ∧ Ip ch W'
  | .outgrown, _, _ => False

theorem wpF_range {f₀ : FuncId} {fn₀ : Func} {g : Operand} {ps : Array Tmp} {assign body : Code} {Q : Exit → Act → World → Prop} {a : Act} {w : World}
    (hf₀ : P.funcs[f₀]? = some fn₀) {gf : Nat} {lb : Array Value} (hg : a.eval g = .func (.func gf) #[] lb) (eg : ∀ args w, (callFunc gf args).run P w = .ok (.enter gf args) w)
    {enc : Nat → Array Value} {N : Nat} {Rd : World → Prop} (hiter : Iter P gf lb enc N Rd) (henc : ∀ i, (enc i).size = ps.size)
    (I : Nat → World → Prop) (Ir : Code → World → Prop) (Ip : List PanicEntry → World → Prop)
    (hI : ∀ i W W', I i W → Turn w.heap.size W W' → I i W') (hIr : ∀ c W W', Ir c W → Turn w.heap.size W W' → Ir c W')
    (hsz : ∀ i W, I i W → w.heap.size ≤ W.heap.size)
    (hRd : ∀ i W, I i W → Rd W) (h0 : I 0 w)
    (hround : ∀ (l : Nat) (i : Nat) (W : World), i < N → I i W →
      assign.wpIn (Fence.wide.inRound l) 0 P (Exit.then (fun a₁ w₁ => KeepsOthers W w₁ ∧ ∀ w₂, Turn w.heap.size w₁ w₂ → body.wpIn (Fence.wide.inRound l) 0 P (bodyP (I (i + 1)) Ir Ip w₂) a₁ w₂) (fun _ _ _ => False)) { tmps := (ps.zip (enc i)).foldl (fun t (p, v) => t.setIfInBounds p v) a.tmps, defers := [] } W)
    (hdone : ∀ (D : Nat) (W : World), I N W → W.heap[D]? = some (.deferred (some [])) → w.heap.size ≤ D → Q .normal { a with defers := { target := .collected D, args := #[] } :: a.defers } W)
    (hstop : ∀ (D : Nat) (c : Code) (W : World), Ir c W → W.heap[D]? = some (.deferred (some [])) → w.heap.size ≤ D → wpF P f₀ c Q { a with defers := { target := .collected D, args := #[] } :: a.defers } W)
    (hpan : ∀ (D : Nat) (ch : List PanicEntry) (W : World), Ip ch W → W.heap[D]? = some (.deferred (some [])) → w.heap.size ≤ D → Q (.panic ch) { a with defers := { target := .collected D, args := #[] } :: a.defers } W) :
    wpF P f₀ (.rangeFunc g ps assign body) Q a w := by
  intro b k cs0 hb hro
  obtain ⟨rec, hrec⟩ : ∃ rec : LoopState → Option Code → Loop, rec = fun st pe => { state := st, pending := pe, fn := f₀, tmps := a.tmps, params := ps, assign, body, defers := w.heap.size } := ⟨_, rfl⟩
  obtain ⟨W1, hW1⟩ : ∃ W1, (w.alloc (.deferred (some []))).alloc (.loop (rec .ready none)) = W1 := ⟨_, rfl⟩
  have hL1 : W1.heap[w.heap.size + 1]? = some (.loop (rec .ready none)) := by
    rw [← hW1]; have := World.alloc_heap_new (w.alloc (.deferred (some []))) (.loop (rec .ready none)); rwa [World.size_alloc] at this
  have hK1 : W1.heap[w.heap.size]? = some (.deferred (some [])) := by
    rw [← hW1]; exact (Below.heap_alloc _ _ _ (by simp)).trans (World.alloc_heap_new w _)
  have hI1 : I 0 W1 := by rw [← hW1]; exact hI _ _ _ h0 ((Turn.alloc (Nat.le_refl _) _).trans (Turn.alloc (by simp) _))
  have he : (Instr.enterLoop b.fn a.tmps ps assign body b.roundOf).run P w = .ok (w.heap.size + 1, [{ target := .collected w.heap.size, args := #[] }]) W1 := by
    rw [hro, hb, ← hW1, hrec]; exact run_enterLoop_outer _ _ _ _ _
  have hres : (resolve a.eval (rangeCall g (w.heap.size + 1)) 0).run P W1 = .ok { target := .fn (.func gf) lb, args := #[.func (.yield (w.heap.size + 1)) #[] #[]] } W1 := by
    simp only [resolve, hg]; simp [go_sem]
  have hinv : (invoke (.fn (.func gf) lb) #[.func (.yield (w.heap.size + 1)) #[] #[]]).run P W1 = .ok (.enter gf (#[.func (.yield (w.heap.size + 1)) #[] #[]] ++ lb)) W1 := by
    simp [invoke, go_sem, eg]
  have henter := stepR_rangeFunc (P := P) (b := b) (a := a) (k := k) (cs := cs0) (w := w) he hres hinv
  -- the iterator's call
  have hcall := hiter (w.heap.size + 1)
    (fun i W => I i W ∧ W.heap[w.heap.size + 1]? = some (.loop (rec .ready none)) ∧ W.heap[w.heap.size]? = some (.deferred (some [])))
    (fun e W => W.heap[w.heap.size]? = some (.deferred (some [])) ∧ match e with
      | .returned _ => (I N W ∧ W.heap[w.heap.size + 1]? = some (.loop (rec .ready none))) ∨ (∃ c, Ir c W ∧ W.heap[w.heap.size + 1]? = some (.loop (rec .done (some c))))
      | .panicked ch => Ip ch W
      | .outgrown => False) W1
    (fun i W W' h ht => by
      have hs := hsz i W h.1
      have hb1 : ∀ k o, W.heap[k]? = some o → W'.heap[k]? = some o := fun k o hk => (ht.below.block k (Array.getElem?_eq_some_iff.1 hk).1).trans hk
      exact ⟨hI _ _ _ h.1 (ht.mono hs), hb1 _ _ h.2.1, hb1 _ _ h.2.2⟩)
    (fun i W h => hRd i W h.1)
    (by
      rintro i W hlt ⟨hi, hl, hk⟩
      have hlt' : w.heap.size + 1 < W.heap.size := (Array.getElem?_eq_some_iff.1 hl).1
      have hy := run_yield (P := P) (args := enc i) hl (by rw [hrec]; exact henc i)
      rw [hrec] at hy
      refine ⟨f₀, _, assign, body, hy, roundIn_P (fn := fn₀) trivial hf₀ (wpIn_mono (hround _ i W hlt hi) ?_)⟩
      intro e a₁ w₁ hp₁
      cases e with
      | exit id => exact hp₁.elim
      | goto t => exact hp₁.elim
      | ret => exact hp₁.elim
      | panic ch => exact hp₁.elim
      | outgrown => exact hp₁.elim
      | normal =>
      obtain ⟨hk1, hbody⟩ := hp₁
      -- behind the assignment
      have hl1 := hk1.same _ _ hl rfl
      have hk1' := hk1.same _ _ hk rfl
      refine ⟨_, run_beginRound hl1 (by rw [hrec]), ?_⟩
      have hlt1 : w.heap.size + 1 < w₁.heap.size := (Array.getElem?_eq_some_iff.1 hl1).1
      have hl2 : (w₁.putObj (w.heap.size + 1) (.loop { rec .ready none with state := .busy })).heap[w.heap.size + 1]? = some (.loop { rec .ready none with state := .busy }) := World.putObj_heap_same hlt1
      have hk2 : (w₁.putObj (w.heap.size + 1) (.loop { rec .ready none with state := .busy })).heap[w.heap.size]? = some (.deferred (some [])) := (World.putObj_heap_other (by omega)).trans hk1'
      refine wpIn_mono (hbody _ (Turn.putObj _ (by omega) hl1 rfl)) ?_
      have fin : ∀ (jump : Option Code) (W3 : World), KeepsOthers (w₁.putObj (w.heap.size + 1) (.loop { rec .ready none with state := .busy })) W3 →
          (Instr.endRound (w.heap.size + 1) jump).run P W3 = .ok (.bool jump.isNone) (W3.putObj (w.heap.size + 1) (.loop (rec (if jump.isNone then .ready else .done) jump))) ∧
          Turn w.heap.size W3 (W3.putObj (w.heap.size + 1) (.loop (rec (if jump.isNone then .ready else .done) jump))) ∧
          (W3.putObj (w.heap.size + 1) (.loop (rec (if jump.isNone then .ready else .done) jump))).heap[w.heap.size + 1]? = some (.loop (rec (if jump.isNone then .ready else .done) jump)) ∧
          (W3.putObj (w.heap.size + 1) (.loop (rec (if jump.isNone then .ready else .done) jump))).heap[w.heap.size]? = some (.deferred (some [])) := fun jump W3 hk3 => by
        have hl3 := hk3.same _ _ hl2 rfl
        have := run_endRound (P := P) jump hl3
        rw [hrec] at this ⊢
        exact ⟨this, Turn.putObj _ (by omega) hl3 rfl, World.putObj_heap_same (Array.getElem?_eq_some_iff.1 hl3).1, (World.putObj_heap_other (by omega)).trans (hk3.same _ _ hk2 rfl)⟩
      rintro e a3 W3 hp
      cases e with
      | normal =>
        obtain ⟨hk3, hi3⟩ := hp
        obtain ⟨hr, ht3, hl4, hk4⟩ := fin none W3 hk3
        exact ⟨_, _, hr, .inl ⟨rfl, hI _ _ _ hi3 ht3, hl4, hk4⟩⟩
      | ret =>
        obtain ⟨hk3, hi3⟩ := hp
        obtain ⟨hr, ht3, hl4, hk4⟩ := fin (some .ret) W3 hk3
        exact ⟨_, _, hr, .inr (.inl ⟨rfl, hk4, .inr ⟨.ret, hIr _ _ _ hi3 ht3, hl4⟩⟩)⟩
      | exit id =>
        obtain ⟨hk3, hi3⟩ := hp
        obtain ⟨hr, ht3, hl4, hk4⟩ := fin (some (.exit id)) W3 hk3
        exact ⟨_, _, hr, .inr (.inl ⟨rfl, hk4, .inr ⟨.exit id, hIr _ _ _ hi3 ht3, hl4⟩⟩)⟩
      | goto t =>
        obtain ⟨hk3, hi3⟩ := hp
        obtain ⟨hr, ht3, hl4, hk4⟩ := fin (some (.goto t)) W3 hk3
        exact ⟨_, _, hr, .inr (.inl ⟨rfl, hk4, .inr ⟨.goto t, hIr _ _ _ hi3 ht3, hl4⟩⟩)⟩
      | panic ch =>
        obtain ⟨hd3, hk3, hi3⟩ := hp
        exact ⟨hd3, .inr (.inr ⟨ch, rfl, hk3.same _ _ hk2 rfl, hi3⟩)⟩
      | outgrown => exact hp.elim)
    (fun W h => ⟨h.2.2, .inl ⟨h.1, h.2.1⟩⟩) ⟨hI1, hL1, hK1⟩
  obtain ⟨e, w₃, fr, hR, hsteps, hfn, hleave⟩ := hcall.2 (b.atR { a with defers := [{ target := .collected w.heap.size, args := #[] }] ++ a.defers } (.inRangeFunc (w.heap.size + 1) :: k) :: cs0) (room_wide _)
  cases e with
  | outgrown => exact hR.2.elim
  | panicked chain =>
    refine ⟨.panic chain, _, w₃, hpan w.heap.size chain w₃ hR.2 hR.1 (Nat.le_refl _), .inRangeFunc (w.heap.size + 1) :: k, .head calm henter (StepsIn.trans hsteps (.one calm ?_))⟩
    have := step_leave_panicked (P := P) (c := b.atR { a with defers := [{ target := .collected w.heap.size, args := #[] }] ++ a.defers } (.inRangeFunc (w.heap.size + 1) :: k)) (cs := cs0) hleave
    rw [this]; rfl
  | returned v =>
    have sback : ∀ (jump : Option Code) (w₄ : World), (Instr.endLoop (w.heap.size + 1)).run P w₃ = .ok jump w₄ →
        StepsIn (Machine.fenced P Fence.wide) P (lone (b.atR a (.code (.rangeFunc g ps assign body) :: k)) cs0 w) (lone (b.atR { a with defers := [{ target := .collected w.heap.size, args := #[] }] ++ a.defers } ((jump.map Item.code).toList ++ k)) cs0 w₄) := fun jump w₄ hend => by
      refine .head calm henter (StepsIn.trans hsteps (.head calm ?_ (.one calm (stepR_endRangeFunc hend))))
      rw [← finish_atR_inRangeFunc (w.heap.size + 1) v]; exact step_leave_returned hleave
    obtain ⟨hD, hR⟩ := hR
    rcases hR with ⟨hi, hl⟩ | ⟨c, hi, hl⟩
    · have hend := run_endLoop (P := P) hl (by rw [hrec]; simp)
      rw [hrec] at hend
      have ht := Turn.putObj (B := w.heap.size) (.loop { rec .ready none with state := .exhausted }) (Nat.le_succ _) hl rfl
      rw [hrec] at ht
      have s := sback _ _ hend
      exact ⟨.normal, _, _, hdone w.heap.size _ (hI _ _ _ hi ht) ((World.putObj_heap_other (by omega)).trans hD) (Nat.le_refl _), s⟩
    · have hend := run_endLoop (P := P) hl (by rw [hrec]; simp)
      rw [hrec] at hend
      have ht := Turn.putObj (B := w.heap.size) (.loop { rec .done (some c) with state := .exhausted }) (Nat.le_succ _) hl rfl
      rw [hrec] at ht
      have s := sback _ _ hend
      obtain ⟨e', a'', w₅, hq, harr⟩ := hstop w.heap.size c _ (hIr _ _ _ hi ht) ((World.putObj_heap_other (by omega)).trans hD) (Nat.le_refl _) b k cs0 hb hro
      exact ⟨e', a'', w₅, hq, .of_steps s harr⟩
end Go.Proofs.Ythoofldinnfpiaa
