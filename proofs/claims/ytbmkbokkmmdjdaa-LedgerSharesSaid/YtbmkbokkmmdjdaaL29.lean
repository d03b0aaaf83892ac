-- T3 (wip/pack9.py)
import Derived.Deep.AppendLies
import Derived.Test.YtbmkbokkmmdjdaaL28
section
namespace Go.Proofs.Ytbmkbokkmmdjdaa
open Go.RowKit Go.Proofs.YtbmkbokkmmdjdaaW.PrintWords Go.Proofs.YtbmkbokkmmdjdaaW.PrintLast Go.Proofs.YtbmkbokkmmdjdaaW.PrintMore
open Q Go.Shelf
attribute [local go_sem] Oper.semAt_some wide_depth wide_fn
set_option linter.unusedVariables false
set_option linter.unusedSimpArgs false

theorem exec_append {P : Program} {a : Act} {o : Oper} {s x : Operand} {t : TypeId} (ho : o.op = .call { callee := .builtin .append, args := #[s, x], argTypes := #[t, t] }) {q y u : Value} (hs : a.eval s = q) (hx : a.eval x = y) {W W' : World}
    (hr : (Builtin.append_ #[t, t] o.type #[q, y]).run P W = .ok u W') : (execOp a.eval o).run P W = .ok (.value u) W' := by
  unfold execOp
  simp only [ho, resolve, invoke, builtin, Sem.run_bind, Sem.run_pure, Result.andThen_ok, List.map_toArray, List.map_cons, List.map_nil, hs, hx, hr]
def updV (v : Nat → Value) (i : Nat) (x : Value) : Nat → Value := fun j => if j = i then x else v j
def updI (L : Nat → List Int) (i : Nat) (x : Int) : Nat → List Int := fun j => if j = i then L j ++ [x] else L j
structure RI (base : Nat) (v : Nat → Value) (L : Nat → List Int) (W : World) : Prop where
  row : ∀ i, i < 4 → W.ownsRow base 3 1 (v i) (L i).length (cF (L i))
  ne : ∀ i j, i < 4 → j < 4 → i ≠ j → ∀ k, (v i).ownBlock = some k → (v j).ownBlock ≠ some k
theorem RI.grow {base : Nat} {v : Nat → Value} {L : Nat → List Int} {W W' : World} (h : RI base v L W) (hb : Below W.heap.size W W') : RI base v L W' := ⟨fun i hi => rings_set (h.row i hi) hb, h.ne⟩
theorem RI.add {base : Nat} {v : Nat → Value} {L : Nat → List Int} {W W' : World} (h : RI base v L W) {i : Nat} (hi : i < 4) {g cap : Nat} {x : Int}
    (hown : W'.ownsRow base 3 1 (.slice (some ⟨g, 0, none⟩) ((L i).length + 1) cap) ((L i).length + 1) (cF (L i) ++ [.int .i64 x])) (hgrow : W.grownBy W' (v i).ownBlock) (hat : (v i).ownBlock = some g ∨ g = W.heap.size) :
    RI base (updV v i (.slice (some ⟨g, 0, none⟩) ((L i).length + 1) cap)) (updI L i x) W' := by
  have hne : ∀ j, j < 4 → j ≠ i → (v j).ownBlock ≠ some g := fun j hj hji e => by
    rcases hat with h1 | h1
    · exact h.ne j i hj hi hji g e h1
    · have := ((h.row j hj).lt g e).2; omega
  refine ⟨fun j hj => ?_, fun j1 j2 h1 h2 hn k hk => ?_⟩
  · unfold updV updI
    by_cases e : j = i
    · subst e
      rw [if_pos rfl, if_pos rfl, List.length_append, show cF (L j ++ [x]) = cF (L j) ++ [.int .i64 x] by simp [cF]]
      exact hown
    · rw [if_neg e, if_neg e]
      refine (h.row j hj).kept hgrow ?_
      cases hb : (v j).ownBlock with
      | none => exact .inl rfl
      | some k => exact .inr fun e2 => h.ne j i hj hi e k hb e2.symm
  · unfold updV at hk ⊢
    by_cases e1 : j1 = i
    · rw [if_pos e1] at hk
      have : g = k := by simpa [Value.ownBlock] using hk
      subst this
      rw [if_neg (by omega)]
      exact hne j2 h2 (by omega)
    · rw [if_neg e1] at hk
      by_cases e2 : j2 = i
      · rw [if_pos e2]
        intro e
        have : g = k := by simpa [Value.ownBlock] using e
        subst this
        exact hne j1 h1 e1 hk
      · rw [if_neg e2]
        exact h.ne j1 j2 h1 h2 hn k hk
structure BXI (w : World) (ho fi : S23) (A : Option Addr) (c : Nat) (l : List S36) (v : Nat → Value) (x : S36) (wt : S84) (B9 B10 : Nat) (W : World) : Prop where
  bx : W.heap[w.heap.size]? = some (.cells #[.int .i64 ho.f0, .int .i64 ho.f1, .int .i64 fi.f0, .int .i64 fi.f1, .slice A l.length c] 26 (0, 0))
  b6 : W.heap[w.heap.size + 1]? = some (.cells #[.slice none 0 0, .slice none 0 0, .slice none 0 0, .slice none 0 0] 44 (0, 0))
  b7 : W.heap[w.heap.size + 1 + 1]? = some (.cells #[v 0, v 1, v 2, v 3] 44 (0, 0))
  b9 : W.heap[B9]? = some (.cells #[.int .i64 x.f0, .int .u8 x.f1, .int .i64 x.f2, .int .i64 x.f3, .int .i64 x.f4.f0, .int .i64 x.f4.f1, .int .i64 x.f5.f0, .int .i64 x.f5.f1, .int .i64 x.f6.f0, .int .i64 x.f6.f1, .int .i64 x.f7] 36 (0, 0))
  b10 : W.heap[B10]? = some (.cells #[.int .i64 wt.f0, .int .i64 wt.f1, .int .i64 wt.f2] 84 (0, 0))
  be : Below w.heap.size w W
theorem BXI.grow {w W W' : World} {ho fi : S23} {A : Option Addr} {c : Nat} {l : List S36} {v : Nat → Value} {x : S36} {wt : S84} {B9 B10 : Nat} (h : BXI w ho fi A c l v x wt B9 B10 W) (hb : Below W.heap.size W W') : BXI w ho fi A c l v x wt B9 B10 W' :=
  ⟨heap_grow h.bx hb, heap_grow h.b6 hb, heap_grow h.b7 hb, heap_grow h.b9 hb, heap_grow h.b10 hb, h.be.trans (hb.mono h.be.size)⟩
theorem BXI.grown {w W W' : World} {ho fi : S23} {A : Option Addr} {c : Nat} {l : List S36} {v : Nat → Value} {x : S36} {wt : S84} {B9 B10 : Nat} (h : BXI w ho fi A c l v x wt B9 B10 W) {u : Value} {n : Nat} {xs : List Value} (hg : W.grownBy W' u.ownBlock) (hr : W.ownsRow (w.heap.size + 1 + 1 + 1) 3 1 u n xs) : BXI w ho fi A c l v x wt B9 B10 W' :=
  ⟨grown_blk hg (row_ne_base hr (by omega)) h.bx, grown_blk hg (row_ne_base hr (by omega)) h.b6, grown_blk hg (row_ne_base hr (by omega)) h.b7, grown_blk hg (row_ne_blk hr h.b9 (by decide)) h.b9, grown_blk hg (row_ne_blk hr h.b10 (by decide)) h.b10, h.be.grown hg h.be.size (fun j hj => by have := (hr.lt j hj).1; omega)⟩
theorem BXI.put {w W : World} {ho fi : S23} {A : Option Addr} {c : Nat} {l : List S36} {v : Nat → Value} {x : S36} {wt : S84} {B9 B10 : Nat} (h : BXI w ho fi A c l v x wt B9 B10 W) (hB9 : w.heap.size + 1 + 1 < B9) (hB10 : w.heap.size + 1 + 1 < B10) (i : Nat) (hi : i < 4) (u : Value) :
    BXI w ho fi A c l (updV v i u) x wt B9 B10 (W.setCell ⟨w.heap.size + 1 + 1, i, none⟩ u) := by
  refine ⟨set_other (by show w.heap.size ≠ w.heap.size + 1 + 1; omega) h.bx, set_other (by show w.heap.size + 1 ≠ w.heap.size + 1 + 1; omega) h.b6, ?_, set_other (by show B9 ≠ w.heap.size + 1 + 1; omega) h.b9, set_other (by show B10 ≠ w.heap.size + 1 + 1; omega) h.b10, h.be.setCell (by show w.heap.size ≤ w.heap.size + 1 + 1; omega) u⟩
  have := set_at h.b7 i u
  rw [this]
  match i, hi with
  | 0, _ => rfl
  | 1, _ => rfl
  | 2, _ => rfl
  | 3, _ => rfl
theorem RI.put {base b i : Nat} {v : Nat → Value} {L : Nat → List Int} {W : World} (h : RI base v L W) (hb : b < base) (u : Value) : RI base v L (W.setCell ⟨b, i, none⟩ u) :=
  ⟨fun j hj => ownsRow_setCell_other (a := ⟨b, i, none⟩) (h.row j hj) (row_ne_base (h.row j hj) hb) u, h.ne⟩
theorem st4_same {W : World} {b : Nat} {t : TypeId} {a0 a1 a2 a3 : Value} (h : W.heap[b]? = some (.cells #[a0, a1, a2, a3] t (0, 0))) (v0 v1 v2 v3 : Value) : ((((W.setCell ⟨b, 0, none⟩ v0).setCell ⟨b, 1, none⟩ v1).setCell ⟨b, 2, none⟩ v2).setCell ⟨b, 3, none⟩ v3).heap[b]? = some (.cells #[v0, v1, v2, v3] t (0, 0)) := by
  have h0 : (W.setCell ⟨b, 0, none⟩ v0).heap[b]? = some (.cells #[v0, a1, a2, a3] t (0, 0)) := set_at h 0 v0
  have h1 : ((W.setCell ⟨b, 0, none⟩ v0).setCell ⟨b, 1, none⟩ v1).heap[b]? = some (.cells #[v0, v1, a2, a3] t (0, 0)) := set_at h0 1 v1
  have h2 : (((W.setCell ⟨b, 0, none⟩ v0).setCell ⟨b, 1, none⟩ v1).setCell ⟨b, 2, none⟩ v2).heap[b]? = some (.cells #[v0, v1, v2, a3] t (0, 0)) := set_at h1 2 v2
  exact set_at h2 3 v3
def Lf (t : TS) : Nat → List Int := fun i => if i = 0 then t.kl else if i = 1 then t.gl else if i = 2 then t.rc else if i = 3 then t.ls else []
theorem Lf_zero (hs : List S60) (wl : List S84) (l : List S36) (i : Nat) : Lf (toldK hs wl l 0) i = [] := by
  unfold Lf toldK
  repeat' split
  all_goals rfl
set_option maxRecDepth 100000 in
set_option maxHeartbeats 8000000 in
set_option pp.deepTerms true in
set_option pp.maxSteps 1000000 in
theorem told_any (ho fi : S23) (A : Option Addr) (c : Nat) (l : List S36) (vh : Value) (A2 : Option Addr) (c2 : Nat) (wl : List S84) (w : World) (hr : Kd.C k36 w A l.length l) (hc : l.length ≤ c) (hv : bookErr ho fi l = 0)
    (hrh : w.ownsRow 0 60 6 vh (keptOf l).hs.length (hF (keptOf l).hs)) (hr2 : Kd.C k84 w A2 wl.length wl) (hc2 : wl.length ≤ c2) :
    Calls Try.prog 14 #[.agg #[.int .i64 ho.f0, .int .i64 ho.f1, .int .i64 fi.f0, .int .i64 fi.f1, .slice A l.length c], vh, .slice A2 wl.length c2] w fun e w' => ∃ v : Nat → Value, e = .returned (.agg #[v 0, v 1, v 2, v 3]) ∧ RI w.heap.size v (Lf (toldK (keptOf l).hs wl l l.length)) w' ∧ Below w.heap.size w w' := by
  have hu1 := Try.underlying26
  have hu2 := Try.underlying44
  have hu := Try.underlying36
  have hu3 := Try.underlying84
  have hu4 := Try.underlying60
  have hu6 := Try.underlying23
  have hu7 := Try.underlying42
  have HB := Below.refl w.heap.size w
  have hbel := hid (((HB.alloc (Nat.le_refl _) (.cells #[.int .i64 ho.f0, .int .i64 ho.f1, .int .i64 fi.f0, .int .i64 fi.f1, .slice A l.length c] 26)).alloc (by simp) (.cells #[.slice none 0 0, .slice none 0 0, .slice none 0 0, .slice none 0 0] 44)).alloc (by simp; omega) (.cells #[.slice none 0 0, .slice none 0 0, .slice none 0 0, .slice none 0 0] 44))
  have e0 := alloc_old (o' := (.cells #[.slice none 0 0, .slice none 0 0, .slice none 0 0, .slice none 0 0] 44)) (alloc_old (o' := (.cells #[.slice none 0 0, .slice none 0 0, .slice none 0 0, .slice none 0 0] 44)) (World.alloc_heap_new w (.cells #[.int .i64 ho.f0, .int .i64 ho.f1, .int .i64 fi.f0, .int .i64 fi.f1, .slice A l.length c] 26)))
  have e1 := alloc_old (o' := (.cells #[.slice none 0 0, .slice none 0 0, .slice none 0 0, .slice none 0 0] 44)) (World.alloc_heap_new (w.alloc (.cells #[.int .i64 ho.f0, .int .i64 ho.f1, .int .i64 fi.f0, .int .i64 fi.f1, .slice A l.length c] 26)) (.cells #[.slice none 0 0, .slice none 0 0, .slice none 0 0, .slice none 0 0] 44))
  have e2 := World.alloc_heap_new ((w.alloc (.cells #[.int .i64 ho.f0, .int .i64 ho.f1, .int .i64 fi.f0, .int .i64 fi.f1, .slice A l.length c] 26)).alloc (.cells #[.slice none 0 0, .slice none 0 0, .slice none 0 0, .slice none 0 0] 44)) (.cells #[.slice none 0 0, .slice none 0 0, .slice none 0 0, .slice none 0 0] 44)
  simp only [World.size_alloc] at e1 e2
  have HR := hid hr
  have HC := hid (And.intro hc (bookOk_of hv).len)
  have HV := hid hv
  have HRH := hid hrh
  have HR2 := hid (And.intro hr2 hc2)
  have HE0 := hid e0
  have HE1 := hid e1
  have HE2 := hid e2
  clear hr hc hv hrh hr2 hc2 HB e0 e1 e2
  go_enter Try.func14, Try.ntmps14
  go_upto_region 2 with fail
  generalize (((w.alloc (.cells #[.int .i64 ho.f0, .int .i64 ho.f1, .int .i64 fi.f0, .int .i64 fi.f1, .slice A l.length c] 26)).alloc (.cells #[.slice none 0 0, .slice none 0 0, .slice none 0 0, .slice none 0 0] 44)).alloc (.cells #[.slice none 0 0, .slice none 0 0, .slice none 0 0, .slice none 0 0] 44)) = W3 at *
  go_wp2_with fail
  go_loopw [8] (fun v8 X => ∃ j : Nat, j ≤ l.length ∧ v8 = .int .i64 j ∧ Hid (∃ v : Nat → Value, X.heap[w.heap.size]? = some (.cells #[.int .i64 ho.f0, .int .i64 ho.f1, .int .i64 fi.f0, .int .i64 fi.f1, .slice A l.length c] 26 (0, 0)) ∧ X.heap[w.heap.size + 1]? = some (.cells #[.slice none 0 0, .slice none 0 0, .slice none 0 0, .slice none 0 0] 44 (0, 0)) ∧ X.heap[w.heap.size + 1 + 1]? = some (.cells #[v 0, v 1, v 2, v 3] 44 (0, 0)) ∧ RI (w.heap.size + 1 + 1 + 1) v (Lf (toldK (keptOf l).hs wl l j)) X ∧ Below w.heap.size w X)) (fun v8 _ => l.length - (intOf v8).toNat)
  case atStart => exact ⟨0, by omega, rfl, hid ⟨fun _ => .slice none 0 0, HE0.out, HE1.out, HE2.out, ⟨fun i hi => by rw [Lf_zero]; exact World.ownsRow_nil _ _ _ _, fun i j _ _ _ k hk => by simp [Value.ownBlock] at hk⟩, hbel.out⟩⟩
  case round =>
    obtain ⟨j, hj, rfl, HX0⟩ := hrel
    rename World => Wk
    obtain ⟨v, g1, g2, g3, g4, g5⟩ := HX0.out
    have b4 := blkCell g1 4
    simp at b4
    by_cases hlt : j < l.length
    · obtain ⟨x, hx⟩ : ∃ x, l[j] = x := ⟨_, rfl⟩
      obtain ⟨wt, hwt⟩ : ∃ q, wl.getD j z84 = q := ⟨_, rfl⟩
      have HXX := hid hx
      have HWT := hid hwt
      have HLT := hid hlt
      have hks := kilos_all HV.out hlt
      rw [hx] at hks
      have hcc := at_T36 (Kd.C_below HR.out g5) j (by omega) (by have := HC.out.2; omega)
      rw [rdP hlt, hx] at hcc
      simp only [Int.toNat_natCast] at hcc
      obtain ⟨ad, rfl, k0, k1, k2, k3, k4, k5, k6, k7, k8, k9, k10⟩ := hcc
      have hjl : (j : Int) < (l.length : Int) := by omega
      have hgr := (Below.refl Wk.heap.size Wk).alloc (Nat.le_refl _) (.cells #[.int .i64 x.f0, .int .u8 x.f1, .int .i64 x.f2, .int .i64 x.f3, .int .i64 x.f4.f0, .int .i64 x.f4.f1, .int .i64 x.f5.f0, .int .i64 x.f5.f1, .int .i64 x.f6.f0, .int .i64 x.f6.f1, .int .i64 x.f7] 36)
      have HG9 := hid (World.alloc_heap_new Wk (.cells #[.int .i64 x.f0, .int .u8 x.f1, .int .i64 x.f2, .int .i64 x.f3, .int .i64 x.f4.f0, .int .i64 x.f4.f1, .int .i64 x.f5.f0, .int .i64 x.f5.f1, .int .i64 x.f6.f0, .int .i64 x.f6.f1, .int .i64 x.f7] 36))
      have HGG := hid (And.intro (heap_grow g1 hgr) (And.intro (heap_grow g2 hgr) (And.intro (heap_grow g3 hgr) (And.intro (g4.grow hgr) (g5.trans (hgr.mono g5.size))))))
      have HS9 := hid (show w.heap.size + 1 + 1 < Wk.heap.size from cell_lt (blkCell g3 0))
      have HAT0 := hid (fun (V : World) (hb : Below w.heap.size w V) => at_any A2 c2 wl j V (Kd.C_below HR2.out.1 hb) HR2.out.2)
      have HKS := hid hks
      clear hgr hx hwt HX0 g1 g2 g3 g4 g5 hks
      go_upto_region 6 with fail
      clear k0 k1 k2 k3 k4 k5 k6 k7 k8 k9 k10 b4
      generalize Wk.alloc (.cells #[.int .i64 x.f0, .int .u8 x.f1, .int .i64 x.f2, .int .i64 x.f3, .int .i64 x.f4.f0, .int .i64 x.f4.f1, .int .i64 x.f5.f0, .int .i64 x.f5.f1, .int .i64 x.f6.f0, .int .i64 x.f6.f1, .int .i64 x.f7] 36) = W5 at *
      generalize Wk.heap.size = B9 at *
      go_wp2_with fail
      refine (HAT0.out W5 HGG.out.2.2.2.2).mono ?_
      rintro e W5b ⟨rfl, hb⟩
      rw [HWT.out]
      have hgr := (Below.refl W5b.heap.size W5b).alloc (Nat.le_refl _) (.cells #[.int .i64 wt.f0, .int .i64 wt.f1, .int .i64 wt.f2] 84)
      have hG9 := heap_grow (heap_grow HG9.out hb) hgr
      have hGG := HGG.out
      have HX6 := hid (show BXI w ho fi (some ad) c l v x wt B9 W5b.heap.size (W5b.alloc (.cells #[.int .i64 wt.f0, .int .i64 wt.f1, .int .i64 wt.f2] 84)) from ⟨heap_grow (heap_grow hGG.1 hb) hgr, heap_grow (heap_grow hGG.2.1 hb) hgr, heap_grow (heap_grow hGG.2.2.1 hb) hgr, hG9, World.alloc_heap_new W5b _, (hGG.2.2.2.2.trans (hb.mono hGG.2.2.2.2.size)).trans (hgr.mono (hGG.2.2.2.2.trans (hb.mono hGG.2.2.2.2.size)).size)⟩)
      have HRI := hid ((hGG.2.2.2.1.grow hb).grow hgr)
      have HS10 := hid (show w.heap.size + 1 + 1 < W5b.heap.size by have := cell_lt (blkCell (heap_grow hGG.2.2.1 hb) 0); omega)
      clear hb hgr hG9 hGG HG9 HGG HAT0
      go_upto_region 7 with fail
      generalize W5b.alloc (.cells #[.int .i64 wt.f0, .int .i64 wt.f1, .int .i64 wt.f2] 84) = W6 at *
      generalize W5b.heap.size = B10 at *
      obtain ⟨L, hL⟩ : ∃ q, Lf (toldK (keptOf l).hs wl l j) = q := ⟨_, rfl⟩
      rw [hL] at HRI
      have HLE := hid hL
      have HTL := hid (told_len (keptOf l).hs wl l j (by omega))
      have HLL := hid (show ∀ i, (L i).length ≤ 300 from fun i => by
        have h1 := HTL.out
        have h2 := HC.out.2
        have h3 := cnt_take_le isHeap l j
        have h4 : cnt isHeap l ≤ l.length := List.countP_le_length
        rw [← hL]; unfold Lf
        repeat' split
        all_goals first | omega | simp)
      obtain ⟨p0, hp0⟩ : ∃ q, pickS wt.f0 x.f4 = q := ⟨_, rfl⟩
      have hks := HKS.out
      have HP0 := hid hp0
      have HPK := hid (fun V : World => by
        have := picked_any wt.f0 (s := x.f4) hks.1 hks.2.1 (by omega) V
        rw [hp0] at this
        exact this)
      clear hL hp0
      refine wp_flow11 [[], [0], [], [2], [], [4], [5, 4], [], [7], [8, 7], [3, 2, 6, 5, 4, 9, 8, 7], [10, 3, 2, 6, 5, 4, 9, 8, 7], [1, 0, 11, 10, 3, 2, 6, 5, 4, 9, 8, 7], [0, 1, 2, 3, 4, 5, 6, 7, 8, 9, 10, 11, 12], [13, 0, 1, 2, 3, 4, 5, 6, 7, 8, 9, 10, 11, 12]] 14 [(11, some 39), (12, some 40)]
        (fun g V => BXI w ho fi (some ad) c l v x wt B9 B10 V ∧ (g 12 = none → RI (w.heap.size + 1 + 1 + 1) v L V) ∧ (∀ u, g 12 = some u → ∃ g1 c1, u = .slice (some ⟨g1, 0, none⟩) ((L 0).length + 1) c1 ∧ RI (w.heap.size + 1 + 1 + 1) (updV v 0 (.slice (some ⟨g1, 0, none⟩) ((L 0).length + 1) c1)) (updI L 0 p0) V) ∧ (∀ u, g 11 = some u → ∃ b, u = .slice (some ⟨b, 0, none⟩) 1 1 ∧ (g 12 = none → V.heap[b]? = some (.cells #[.int .i64 p0] 3 (0, 0)))))
        { tmps := #[.agg #[.int .i64 ho.f0, .int .i64 ho.f1, .int .i64 fi.f0, .int .i64 fi.f1, .slice (some ad) l.length c], vh, .slice A2 wl.length c2, .pointer (some ⟨w.heap.size, 0, none⟩), undef, undef, .pointer (some ⟨w.heap.size + 1, 0, none⟩), .pointer (some ⟨(w.heap.size + 1 + 1), 0, none⟩), .int .i64 j, .pointer (some ⟨B9, 0, none⟩), .pointer (some ⟨B10, 0, none⟩), u11, u12, .int .i64 j, .pointer (some ⟨w.heap.size, 4, none⟩), .slice (some ad) l.length c, .int .i64 l.length, .bool true, u18, u19, .pointer (some ⟨w.heap.size, 4, none⟩), .slice (some ad) l.length c, .int .i64 j, .pointer (some (ad.add (j * 11))), .agg #[.int .i64 x.f0, .int .u8 x.f1, .int .i64 x.f2, .int .i64 x.f3, .int .i64 x.f4.f0, .int .i64 x.f4.f1, .int .i64 x.f5.f0, .int .i64 x.f5.f1, .int .i64 x.f6.f0, .int .i64 x.f6.f1, .int .i64 x.f7], .slice A2 wl.length c2, .int .i64 j, .agg #[.int .i64 wt.f0, .int .i64 wt.f1, .int .i64 wt.f2], .pointer (some ⟨(w.heap.size + 1 + 1), 0, none⟩), (v 0), .pointer (some ⟨B10, 0, none⟩), .int .i64 wt.f0, .pointer (some ⟨B9, 4, none⟩), .pointer (some ⟨B9, 4, none⟩), .int .i64 x.f4.f0, .pointer (some ⟨B9, 4, none⟩), .pointer (some ⟨B9, 5, none⟩), .int .i64 x.f4.f1, .int .i64 p0, undef, undef, .pointer (some ⟨(w.heap.size + 1 + 1), 0, none⟩), u42, u43, u44, u45, u46, u47, u48, u49, u50, u51, u52, u53, u54, u55, u56, u57, u58, u59, u60, u61, u62, u63, u64, u65, u66, u67, u68, u69, u70, u71, u72, u73, u74, u75, u76, u77, u78, u79, u80, u81, u82, u83, u84, u85, u86, u87, u88, u89, u90, u91, u92, u93, u94, u95, u96, u97, u98, u99, u100, u101, u102, u103, u104, u105, u106, u107, u108, u109, u110, u111, u112, u113, u114, undef], defers := [] }
        mixed (by kernel_rfl) rfl (by kernel_rfl) (by kernel_rfl) (by kernel_rfl) (Ahead.of3 28 42 rfl rfl (by kernel_rfl) rfl rfl) ?_ rfl ?_ rfl ?_
      · exact ⟨HX6.out.grow (Below.refl _ _).drew, fun _ => HRI.out.grow (Below.refl _ _).drew, fun u h => (by cases h), fun u h => (by cases h)⟩
      · refine ⟨?_, ?_, ?_, ?_, ?_, ?_, ?_, ?_, ?_, ?_, ?_, ?_, ?_, ?_, trivial⟩
        · exact fun g hbe => FlowOp.val 28 _ rfl rfl fun V ⟨hx_, hi_, ha_, hb_⟩ => by have s0 := blkCell hx_.b7 0; have y4 := blkCell hx_.b9 4; have y5 := blkCell hx_.b9 5; have z0 := blkCell hx_.b10 0; simp at s0 y4 y5 z0; go_simp
        · exact fun g hbe => FlowOp.val 29 _ rfl rfl fun V ⟨hx_, hi_, ha_, hb_⟩ => by have s0 := blkCell hx_.b7 0; have y4 := blkCell hx_.b9 4; have y5 := blkCell hx_.b9 5; have z0 := blkCell hx_.b10 0; simp at s0 y4 y5 z0; go_simp
        · exact fun g hbe => FlowOp.val 30 _ rfl rfl fun V ⟨hx_, hi_, ha_, hb_⟩ => by have s0 := blkCell hx_.b7 0; have y4 := blkCell hx_.b9 4; have y5 := blkCell hx_.b9 5; have z0 := blkCell hx_.b10 0; simp at s0 y4 y5 z0; go_simp
        · exact fun g hbe => FlowOp.val 31 _ rfl rfl fun V ⟨hx_, hi_, ha_, hb_⟩ => by have s0 := blkCell hx_.b7 0; have y4 := blkCell hx_.b9 4; have y5 := blkCell hx_.b9 5; have z0 := blkCell hx_.b10 0; simp at s0 y4 y5 z0; go_simp
        · exact fun g hbe => FlowOp.val 32 _ rfl rfl fun V ⟨hx_, hi_, ha_, hb_⟩ => by have s0 := blkCell hx_.b7 0; have y4 := blkCell hx_.b9 4; have y5 := blkCell hx_.b9 5; have z0 := blkCell hx_.b10 0; simp at s0 y4 y5 z0; go_simp
        · exact fun g hbe => FlowOp.val 33 _ rfl rfl fun V ⟨hx_, hi_, ha_, hb_⟩ => by have s0 := blkCell hx_.b7 0; have y4 := blkCell hx_.b9 4; have y5 := blkCell hx_.b9 5; have z0 := blkCell hx_.b10 0; simp at s0 y4 y5 z0; go_simp
        · exact fun g hbe => FlowOp.val 34 _ rfl rfl fun V ⟨hx_, hi_, ha_, hb_⟩ => by have s0 := blkCell hx_.b7 0; have y4 := blkCell hx_.b9 4; have y5 := blkCell hx_.b9 5; have z0 := blkCell hx_.b10 0; simp at s0 y4 y5 z0; go_simp
        · exact fun g hbe => FlowOp.val 35 _ rfl rfl fun V ⟨hx_, hi_, ha_, hb_⟩ => by have s0 := blkCell hx_.b7 0; have y4 := blkCell hx_.b9 4; have y5 := blkCell hx_.b9 5; have z0 := blkCell hx_.b10 0; simp at s0 y4 y5 z0; go_simp
        · exact fun g hbe => FlowOp.val 36 _ rfl rfl fun V ⟨hx_, hi_, ha_, hb_⟩ => by have s0 := blkCell hx_.b7 0; have y4 := blkCell hx_.b9 4; have y5 := blkCell hx_.b9 5; have z0 := blkCell hx_.b10 0; simp at s0 y4 y5 z0; go_simp
        · exact fun g hbe => FlowOp.val 37 _ rfl rfl fun V ⟨hx_, hi_, ha_, hb_⟩ => by have s0 := blkCell hx_.b7 0; have y4 := blkCell hx_.b9 4; have y5 := blkCell hx_.b9 5; have z0 := blkCell hx_.b10 0; simp at s0 y4 y5 z0; go_simp
        · intro g hbe
          refine FlowOp.call 38 (.int .i64 p0) 17 #[.int .i64 wt.f0, .int .i64 x.f4.f0, .int .i64 x.f4.f1] rfl rfl (fun V ⟨hx_, hi_, ha_, hb_⟩ => by have s0 := blkCell hx_.b7 0; have y4 := blkCell hx_.b9 4; have y5 := blkCell hx_.b9 5; have z0 := blkCell hx_.b10 0; simp at s0 y4 y5 z0; go_simp) fun V ⟨hx_, hi_, ha_, hb_⟩ => ?_
          refine (HPK.out _).mono ?_
          rintro e w' ⟨rfl, hb⟩
          exact ⟨rfl, hx_.grow hb, fun h => (hi_ h).grow hb, fun u h => (by obtain ⟨g1, c1, h1, h2⟩ := ha_ u h; exact ⟨g1, c1, h1, h2.grow hb⟩), fun u h => (by obtain ⟨b, h1, h2⟩ := hb_ u h; exact ⟨b, h1, fun h3 => heap_grow (h2 h3) hb⟩)⟩
        · refine ⟨fun r => by rfl, fun r W hr hga hbe ⟨hx_, hi_, ha_, hb_⟩ => ?_⟩
          dsimp only [putE, Act.put]
          have hn := hbe (12, some 40) (by simp) (by decide)
          simp only at hn
          have hgr := (Below.refl W.heap.size W).alloc (Nat.le_refl _) (.cells #[.int .i64 p0] 3)
          exact .inl ⟨.slice (some ⟨W.heap.size, 0, none⟩) 1 1, W.alloc (.cells #[.int .i64 p0] 3), by go_simp, hx_.grow hgr, fun h => (hi_ hn).grow hgr, fun u h => (by simp [Got.upd, hn] at h), fun u h => by
            simp [Got.upd] at h
            exact ⟨W.heap.size, h.symm, fun _ => World.alloc_heap_new W _⟩⟩
        · refine ⟨fun r => by rfl, fun r W hr hga hbe ⟨hx_, hi_, ha_, hb_⟩ => ?_⟩
          dsimp only [putE, Act.put]
          obtain ⟨u, hu⟩ := hga (11, some 39) (by simp) (by decide)
          simp only at hu
          obtain ⟨b, rfl, hbx⟩ := hb_ u hu
          have hbx := hbx hr
          have hri := hi_ hr
          obtain ⟨i0, hi0, hz0, hz1, hz2⟩ := info3'
          have hLL := HLL.out
          obtain ⟨g1, c1, w1, hrun, hown, hgrow, hat, hlt⟩ := run_append_lies (P := Try.prog) W 42 42 (w.heap.size + 1 + 1 + 1) 3 i0 _ 1 8 Try.underlying42 hi0 hz0 hz1 hz2 rfl (by decide) (v 0) (L 0).length (cF (L 0)) (hri.row 0 (by decide)) ⟨b, 0, none⟩ 1 1 [.int .i64 p0] rfl (row_cells hbx) (by simp [Value.oneCell']) (by decide) (by have := hLL 0; unfold maxLen; omega) (by have := hLL 0; omega) (by have := cell_lt (blkCell hx_.b7 0); omega) _ rfl
          refine .inl ⟨.slice (some ⟨g1, 0, none⟩) ((L 0).length + 1) c1, w1, ?_, hx_.grown hgrow (hri.row 0 (by decide)), fun h => (by simp [Got.upd] at h), fun u h => ?_, fun u h => ?_⟩
          · rw [hu]
            exact exec_append rfl (q := v 0) (y := .slice (some ⟨b, 0, none⟩) 1 1) (by first | rfl | go_simp) (by first | rfl | go_simp) hrun
          · simp [Got.upd] at h
            exact ⟨g1, c1, h.symm, hri.add (i := 0) (by decide) hown hgrow hat⟩
          · simp [Got.upd] at h
            rw [hu] at h
            exact ⟨b, (Option.some.inj h).symm, fun h3 => by simp [Got.upd] at h3⟩
        · exact fun g hbe => FlowOp.val 41 _ rfl rfl fun V ⟨hx_, hi_, ha_, hb_⟩ => by have s0 := blkCell hx_.b7 0; have y4 := blkCell hx_.b9 4; have y5 := blkCell hx_.b9 5; have z0 := blkCell hx_.b10 0; simp at s0 y4 y5 z0; go_simp
      · rintro r V ⟨hx_, hi_, ha_, hb_⟩ hall
        obtain ⟨ub, h1⟩ := hall (11, some 39) (by simp)
        obtain ⟨uc, h2⟩ := hall (12, some 40) (by simp)
        simp only at h1 h2
        obtain ⟨gn, cn, rfl, hri⟩ := ha_ _ h2
        have HXn := hid (hx_.put HS9.out HS10.out 0 (by decide) (.slice (some ⟨gn, 0, none⟩) ((L 0).length + 1) cn))
        have HRn := hid (hri.put (b := w.heap.size + 1 + 1) (i := 0) (by omega) (.slice (some ⟨gn, 0, none⟩) ((L 0).length + 1) cn))
        have z0 := blkCell hx_.b7 0
        have gf := blkFrozen hx_.b7 0
        simp at z0
        clear HX6 HRI hx_ hi_ ha_ hb_ hri hall
        dsimp only [putE, Act.put]
        simp only [h1, h2, Option.getD_some, List.drop_succ_cons, List.drop_zero, List.drop_nil]
        clear h1 h2
        go_upto_region 8 with fail
        generalize V.setCell ⟨w.heap.size + 1 + 1, 0, none⟩ (.slice (some ⟨gn, 0, none⟩) ((L 0).length + 1) cn) = W6 at *
        clear z0 gf
        obtain ⟨v1, hv1⟩ : ∃ q, updV v 0 (.slice (some ⟨gn, 0, none⟩) ((L 0).length + 1) cn) = q := ⟨_, rfl⟩
        obtain ⟨L1, hL1⟩ : ∃ q, updI L 0 p0 = q := ⟨_, rfl⟩
        rw [hv1] at HXn HRn
        rw [hL1] at HRn
        have HV1 := hid (And.intro (show v1 0 = .slice (some ⟨gn, 0, none⟩) ((L 0).length + 1) cn by rw [← hv1]; rfl) (show v1 3 = v 3 by rw [← hv1]; rfl))
        have HL1 := hid hL1
        clear hv1 hL1
        obtain ⟨gT, hgT⟩ : ∃ q, glassT p0 x (toldK (keptOf l).hs wl l j).ls = q := ⟨_, rfl⟩
        have HGT := hid hgT
        clear hgT
        have y1 := blkCell HXn.out.b9 1
        simp at y1
        go_upto_if 44 with fail
        clear y1
        go_cut [11] from 44 to 57 (fun v11 wc => v11 = .int .i64 gT ∧ Hid (Below W6.heap.size W6 wc))
        case first =>
          by_cases k2 : x.f1 = 2
          · have f2 : (x.f1 == 2) = true := by simp [k2]
            have hch := (stepOk_all HV.out j HLT.out).charge (by rw [HXX.out]; exact k2)
            rw [HXX.out, (pki_take l j (by omega)).hs, ← HTL.out.2.2.2] at hch
            have hl3 : L 3 = (toldK (keptOf l).hs wl l j).ls := by rw [← HLE.out]; rfl
            rw [← hl3] at hch
            obtain ⟨jh, hjh⟩ : ∃ jh : Nat, x.f2 = jh := ⟨x.f2.toNat, by omega⟩
            have hj3 : jh < (L 3).length := by omega
            have hL13 : L1 3 = L 3 := by rw [← HL1.out]; rfl
            have hL10 : L1 0 = L 0 ++ [p0] := by rw [← HL1.out]; rfl
            have hl0 : (L 0).length = j := by rw [← HLE.out]; exact HTL.out.1
            have row3 := HRn.out.row 3 (by decide)
            rw [hL13] at row3
            obtain ⟨g3, c3, hv3⟩ : ∃ g3 c3, v1 3 = .slice (some ⟨g3, 0, none⟩) (L 3).length c3 := by
              rcases row3.2 with ⟨h1, h2⟩ | ⟨g1, c1, u1, h1, _⟩
              · omega
              · exact ⟨g1, c1, h1⟩
            rw [hv3] at row3
            obtain ⟨lv, hlv⟩ : ∃ lv, (L 3).getD jh 0 = lv := ⟨_, rfl⟩
            have r3 : W6.cell? ⟨g3, jh, none⟩ = some (.int .i64 lv) := by
              have e := row3.cellAt jh (by omega)
              rw [cF_at hj3, hlv] at e; exact e
            have row0 := HRn.out.row 0 (by decide)
            rw [hL10, HV1.out.1, List.length_append] at row0
            have r0 : W6.cell? ⟨gn, j, none⟩ = some (.int .i64 p0) := by
              have e := row0.cellAt j (by simp; omega)
              rw [cF_at (by simp; omega)] at e
              rw [show (L 0 ++ [p0]).getD j 0 = p0 by rw [← hl0]; simp [List.getD]] at e
              exact e
            have s0 := blkCell HXn.out.b7 0
            have s1 := blkCell HXn.out.b7 1
            have s2 := blkCell HXn.out.b7 2
            have s3 := blkCell HXn.out.b7 3
            have x0_ := blkCell HXn.out.b9 0
            have x1_ := blkCell HXn.out.b9 1
            have x2_ := blkCell HXn.out.b9 2
            have x3_ := blkCell HXn.out.b9 3
            have x4_ := blkCell HXn.out.b9 4
            have x5_ := blkCell HXn.out.b9 5
            have x6_ := blkCell HXn.out.b9 6
            have x7_ := blkCell HXn.out.b9 7
            have x8_ := blkCell HXn.out.b9 8
            have x9_ := blkCell HXn.out.b9 9
            have x10_ := blkCell HXn.out.b9 10
            simp at s0 s1 s2 s3 x0_ x1_ x2_ x3_ x4_ x5_ x6_ x7_ x8_ x9_ x10_
            rw [HV1.out.1] at s0
            rw [hv3] at s3
            rw [hjh] at x2_
            have hres : gT = wrap64 (p0 * wrap64 (1000 - lv)) := by
              rw [← HGT.out]; unfold glassT; rw [if_pos k2, hjh, Int.toNat_natCast, ← hl3, hlv]
            have HRS := hid hres
            have HL0 := hid hl0
            have hj5 : (jh : Int) < ((L 3).length : Int) := by omega
            have hj6 : (j : Int) < (((L 0).length + 1 : Nat) : Int) := by omega
            have hj7 : j < (L 0).length + 1 := by omega
            have hj8 : (j : Int) < ((L 0).length : Int) + 1 := by omega
            clear hch hl3 hL13 hL10 row3 row0 hlv hres hjh k2 hl0
            go_upto_region 10 with fail
            refine wp_flow [[], [0], [], [1, 0, 2], [3, 1, 0, 2], [], [5], [], [7], [6, 5, 8, 7], [9, 6, 5, 8, 7], [10, 9, 6, 5, 8, 7], [4, 3, 1, 0, 2, 11, 10, 9, 6, 5, 8, 7], [12, 4, 3, 1, 0, 2, 11, 10, 9, 6, 5, 8, 7]] 14
              (fun V => V.cell? ⟨(w.heap.size + 1 + 1), 0, none⟩ = some (.slice (some ⟨gn, 0, none⟩) ((L 0).length + 1) cn) ∧ V.cell? ⟨(w.heap.size + 1 + 1), 1, none⟩ = some ((v1 1)) ∧ V.cell? ⟨(w.heap.size + 1 + 1), 2, none⟩ = some ((v1 2)) ∧ V.cell? ⟨(w.heap.size + 1 + 1), 3, none⟩ = some (.slice (some ⟨g3, 0, none⟩) (L 3).length c3) ∧ V.cell? ⟨B9, 0, none⟩ = some (.int .i64 x.f0) ∧ V.cell? ⟨B9, 1, none⟩ = some (.int .u8 x.f1) ∧ V.cell? ⟨B9, 2, none⟩ = some (.int .i64 ((jh : Int))) ∧ V.cell? ⟨B9, 3, none⟩ = some (.int .i64 x.f3) ∧ V.cell? ⟨B9, 4, none⟩ = some (.int .i64 x.f4.f0) ∧ V.cell? ⟨B9, 5, none⟩ = some (.int .i64 x.f4.f1) ∧ V.cell? ⟨B9, 6, none⟩ = some (.int .i64 x.f5.f0) ∧ V.cell? ⟨B9, 7, none⟩ = some (.int .i64 x.f5.f1) ∧ V.cell? ⟨B9, 8, none⟩ = some (.int .i64 x.f6.f0) ∧ V.cell? ⟨B9, 9, none⟩ = some (.int .i64 x.f6.f1) ∧ V.cell? ⟨B9, 10, none⟩ = some (.int .i64 x.f7) ∧ V.cell? ⟨gn, j, none⟩ = some (.int .i64 p0) ∧ V.cell? ⟨g3, jh, none⟩ = some (.int .i64 lv) ∧ Below W6.heap.size W6 V)
              { tmps := #[.agg #[.int .i64 ho.f0, .int .i64 ho.f1, .int .i64 fi.f0, .int .i64 fi.f1, .slice (some ad) l.length c], vh, .slice A2 wl.length c2, .pointer (some ⟨w.heap.size, 0, none⟩), undef, undef, .pointer (some ⟨w.heap.size + 1, 0, none⟩), .pointer (some ⟨(w.heap.size + 1 + 1), 0, none⟩), .int .i64 ((j : Int)), .pointer (some ⟨B9, 0, none⟩), .pointer (some ⟨B10, 0, none⟩), .int .i64 (wrap64 (p0 * (wrap64 (1000 - lv)))), u12, .int .i64 j, .pointer (some ⟨w.heap.size, 4, none⟩), .slice (some ad) l.length c, .int .i64 l.length, .bool true, u18, u19, .pointer (some ⟨w.heap.size, 4, none⟩), .slice (some ad) l.length c, .int .i64 j, .pointer (some (ad.add (j * 11))), .agg #[.int .i64 x.f0, .int .u8 x.f1, .int .i64 x.f2, .int .i64 x.f3, .int .i64 x.f4.f0, .int .i64 x.f4.f1, .int .i64 x.f5.f0, .int .i64 x.f5.f1, .int .i64 x.f6.f0, .int .i64 x.f6.f1, .int .i64 x.f7], .slice A2 wl.length c2, .int .i64 j, .agg #[.int .i64 wt.f0, .int .i64 wt.f1, .int .i64 wt.f2], .pointer (some ⟨w.heap.size + 1 + 1, 0, none⟩), v 0, .pointer (some ⟨B10, 0, none⟩), .int .i64 wt.f0, .pointer (some ⟨B9, 4, none⟩), .pointer (some ⟨B9, 4, none⟩), .int .i64 x.f4.f0, .pointer (some ⟨B9, 4, none⟩), .pointer (some ⟨B9, 5, none⟩), .int .i64 x.f4.f1, .int .i64 p0, ub, .slice (some ⟨gn, 0, none⟩) ((L 0).length + 1) cn, .pointer (some ⟨w.heap.size + 1 + 1, 0, none⟩), .pointer (some ⟨B9, 1, none⟩), .int .u8 x.f1, .bool (x.f1 == 2), .pointer (some ⟨(w.heap.size + 1 + 1), 0, none⟩), .slice (some ⟨gn, 0, none⟩) ((L 0).length + 1) cn, .int .i64 ((j : Int)), .pointer (some ⟨gn, j, none⟩), .int .i64 p0, .pointer (some ⟨(w.heap.size + 1 + 1), 3, none⟩), .slice (some ⟨g3, 0, none⟩) (L 3).length c3, .pointer (some ⟨B9, 2, none⟩), .int .i64 ((jh : Int)), .pointer (some ⟨g3, jh, none⟩), .int .i64 lv, .int .i64 (wrap64 (1000 - lv)), .int .i64 (wrap64 (p0 * (wrap64 (1000 - lv)))), u58, u59, u60, u61, u62, u63, u64, u65, u66, u67, u68, u69, u70, u71, u72, u73, u74, u75, u76, u77, u78, u79, u80, u81, u82, u83, u84, u85, u86, u87, u88, u89, u90, u91, u92, u93, u94, u95, u96, u97, u98, u99, u100, u101, u102, u103, u104, u105, u106, u107, u108, u109, u110, u111, u112, u113, u114, undef], defers := [] }
              mixed (by kernel_rfl) rfl (Ahead.of4 11 12 45 58 rfl rfl (by kernel_rfl) rfl rfl rfl) ?_ (AllFlow.ops rfl ?_) rfl ?_
            · exact ⟨s0, s1, s2, s3, x0_, x1_, x2_, x3_, x4_, x5_, x6_, x7_, x8_, x9_, x10_, r0, r3, (Below.refl _ _).drew⟩
            · refine ⟨?_, ?_, ?_, ?_, ?_, ?_, ?_, ?_, ?_, ?_, ?_, ?_, ?_, ?_, trivial⟩
              · exact .val 45 _ rfl rfl fun V ⟨y0, y1, y2, y3, y4, y5, y6, y7, y8, y9, y10, y11, y12, y13, y14, x0, x1, hB_⟩ => by go_simp <;> exact wrap_i _
              · exact .val 46 _ rfl rfl fun V ⟨y0, y1, y2, y3, y4, y5, y6, y7, y8, y9, y10, y11, y12, y13, y14, x0, x1, hB_⟩ => by go_simp <;> exact wrap_i _
              · exact .val 47 _ rfl rfl fun V ⟨y0, y1, y2, y3, y4, y5, y6, y7, y8, y9, y10, y11, y12, y13, y14, x0, x1, hB_⟩ => by go_simp <;> exact wrap_i _
              · exact .val 48 _ rfl rfl fun V ⟨y0, y1, y2, y3, y4, y5, y6, y7, y8, y9, y10, y11, y12, y13, y14, x0, x1, hB_⟩ => by go_simp <;> exact fun hh => absurd hh (by omega)
              · exact .val 49 _ rfl rfl fun V ⟨y0, y1, y2, y3, y4, y5, y6, y7, y8, y9, y10, y11, y12, y13, y14, x0, x1, hB_⟩ => by go_simp
              · exact .val 50 _ rfl rfl fun V ⟨y0, y1, y2, y3, y4, y5, y6, y7, y8, y9, y10, y11, y12, y13, y14, x0, x1, hB_⟩ => by go_simp <;> exact wrap_i _
              · exact .val 51 _ rfl rfl fun V ⟨y0, y1, y2, y3, y4, y5, y6, y7, y8, y9, y10, y11, y12, y13, y14, x0, x1, hB_⟩ => by go_simp <;> exact wrap_i _
              · exact .val 52 _ rfl rfl fun V ⟨y0, y1, y2, y3, y4, y5, y6, y7, y8, y9, y10, y11, y12, y13, y14, x0, x1, hB_⟩ => by go_simp <;> exact wrap_i _
              · exact .val 53 _ rfl rfl fun V ⟨y0, y1, y2, y3, y4, y5, y6, y7, y8, y9, y10, y11, y12, y13, y14, x0, x1, hB_⟩ => by go_simp <;> exact wrap_i _
              · exact .val 54 _ rfl rfl fun V ⟨y0, y1, y2, y3, y4, y5, y6, y7, y8, y9, y10, y11, y12, y13, y14, x0, x1, hB_⟩ => by go_simp <;> exact fun hh => absurd hh (by omega)
              · exact .val 55 _ rfl rfl fun V ⟨y0, y1, y2, y3, y4, y5, y6, y7, y8, y9, y10, y11, y12, y13, y14, x0, x1, hB_⟩ => by go_simp
              · exact .val 56 _ rfl rfl fun V ⟨y0, y1, y2, y3, y4, y5, y6, y7, y8, y9, y10, y11, y12, y13, y14, x0, x1, hB_⟩ => by go_simp <;> exact wrap_i _
              · exact .val 57 _ rfl rfl fun V ⟨y0, y1, y2, y3, y4, y5, y6, y7, y8, y9, y10, y11, y12, y13, y14, x0, x1, hB_⟩ => by go_simp <;> exact wrap_i _
              · exact .val 11 _ rfl rfl fun V ⟨y0, y1, y2, y3, y4, y5, y6, y7, y8, y9, y10, y11, y12, y13, y14, x0, x1, hB_⟩ => by go_simp <;> exact wrap_i _
            rintro V ⟨y0, y1, y2, y3, y4, y5, y6, y7, y8, y9, y10, y11, y12, y13, y14, x0, x1, hB_⟩
            have HBZ := hid hB_
            clear hB_ y0 y1 y2 y3 y4 y5 y6 y7 y8 y9 y10 y11 y12 y13 y14
            go_wp2
            go_meet
            case rel => exact ⟨by rw [HRS.out], HBZ⟩
          · have f2 : (x.f1 == 2) = false := by simp [k2]
            have hres : gT = 0 := by rw [← HGT.out]; unfold glassT; rw [if_neg k2]
            have HRF := hid (Below.refl W6.heap.size W6)
            clear k2
            go_wp2
            go_meet
            case rel => exact ⟨by rw [hres], HRF⟩
        case rest =>
        obtain ⟨rfl, hcb⟩ := hcut
        have HX8 := hid (HXn.out.grow hcb.out)
        have HR8 := hid (HRn.out.grow hcb.out)
        clear hcb HXn HRn
        clear W6
        rename World => W6
        have s1 := blkCell HX8.out.b7 1
        simp at s1
        go_wp2_with (at_builtin; refine Hid.out ?_)
        refine hid ?_
        have hgr := (Below.refl W6.heap.size W6).alloc (Nat.le_refl _) (.cells #[.int .i64 gT] 3)
        have hnew := World.alloc_heap_new W6 (.cells #[.int .i64 gT] 3)
        have HXa := hid (HX8.out.grow hgr)
        have HRa := hid (HR8.out.grow hgr)
        clear s1 HX8 HR8 hgr
        generalize W6.alloc (.cells #[.int .i64 gT] 3) = Wa at *
        generalize W6.heap.size = Ba at *
        have HLL1 := hid (show ∀ i, (L1 i).length ≤ 301 from fun i => by
          rw [← HL1.out]
          have := HLL.out i
          unfold updI
          split
          · simp; omega
          · omega)
        have hll1 := HLL1.out 1
        obtain ⟨i0, hi0, hz0, hz1, hz2⟩ := info3'
        refine wpList_append_lies Wa rfl _ _ 42 rfl (w.heap.size + 1 + 1 + 1) 3 i0 _ 1 8 Try.underlying42 hi0 hz0 hz1 hz2 rfl (by decide) (v1 1) (L1 1).length (cF (L1 1)) rfl (HRa.out.row 1 (by decide)) ⟨Ba, 0, none⟩ 1 1 [.int .i64 gT] rfl rfl (row_cells hnew) (by simp [Value.oneCell']) (by decide) (by unfold maxLen; omega) (by omega) (by have := cell_lt (blkCell HXa.out.b7 0); omega) _ rfl ?_
        intro ga ca Wb hown hgrow hat hlt
        have hXb := HXa.out.grown hgrow (HRa.out.row 1 (by decide))
        have hRb := HRa.out.add (i := 1) (by decide) hown hgrow hat
        have HXc := hid (hXb.put HS9.out HS10.out 1 (by decide) (.slice (some ⟨ga, 0, none⟩) ((L1 1).length + 1) ca))
        have HRc := hid (hRb.put (b := w.heap.size + 1 + 1) (i := 1) (by omega) (.slice (some ⟨ga, 0, none⟩) ((L1 1).length + 1) ca))
        have z0 := blkCell hXb.b7 1
        have gf := blkFrozen hXb.b7 1
        simp at z0
        clear hnew HXa HRa hll1 hi0 hz0 hz1 hz2 hown hgrow hat hlt hXb hRb
        go_upto_region 12 with fail
        generalize Wb.setCell ⟨w.heap.size + 1 + 1, 1, none⟩ (.slice (some ⟨ga, 0, none⟩) ((L1 1).length + 1) ca) = W6 at *
        clear z0 gf
        obtain ⟨v2, hv2⟩ : ∃ q, updV v1 1 (.slice (some ⟨ga, 0, none⟩) ((L1 1).length + 1) ca) = q := ⟨_, rfl⟩
        obtain ⟨L2, hL2⟩ : ∃ q, updI L1 1 gT = q := ⟨_, rfl⟩
        rw [hv2] at HXc HRc
        rw [hL2] at HRc
        have HL2 := hid hL2
        have HLL2 := hid (show ∀ i, (L2 i).length ≤ 302 from fun i => by
          rw [← hL2]
          have := HLL1.out i
          unfold updI
          split
          · simp; omega
          · omega)
        clear hv2 hL2
        have y1 := blkCell HXc.out.b9 1
        simp at y1
        go_cut [71] from 64 to 70 (fun v71 wc => v71 = .bool (isHeap x) ∧ Hid (Below W6.heap.size W6 wc))
        case first =>
          have HRF := hid (Below.refl W6.heap.size W6)
          by_cases x1 : x.f1 = 1
          · have f1 : (x.f1 == 1) = true := by simp [x1]
            have hb : isHeap x = true := by unfold isHeap; simp [x1]
            clear x1
            go_wp2
            go_meet
            case rel => exact ⟨by rw [hb], HRF⟩
          · have f1 : (x.f1 == 1) = false := by simp [x1]
            by_cases x5 : x.f1 = 5
            · have f5 : (x.f1 == 5) = true := by simp [x5]
              have hb : isHeap x = true := by unfold isHeap; simp [x5]
              clear x1 x5
              go_wp2
              go_meet
              case rel => exact ⟨by rw [hb], HRF⟩
            · have f5 : (x.f1 == 5) = false := by simp [x5]
              have hb : isHeap x = false := by unfold isHeap; simp [x1, x5]
              clear x1 x5
              go_wp2
              go_meet
              case rel => exact ⟨by rw [hb], HRF⟩
        case rest =>
        obtain ⟨rfl, hcb⟩ := hcut
        have HX6 := hid (HXc.out.grow hcb.out)
        have HRI := hid (HRc.out.grow hcb.out)
        clear hcb y1 HXc HRc
        clear W6
        rename World => W6
        have hgd : l.getD j z36 = x := by rw [← HXX.out]; simp [List.getD, HLT.out]
        have HNT := hid (show toldK (keptOf l).hs wl l (j + 1) = stepT (keptOf l).hs wt x (toldK (keptOf l).hs wl l j) by
          show stepT _ (wl.getD j z84) (l.getD j z36) _ = _
          rw [hgd, HWT.out])
        clear hgd
        cases hb : isHeap x with
        | false =>
          have HF := hid (show Lf (toldK (keptOf l).hs wl l (j + 1)) = L2 by
            rw [HNT.out, ← HL2.out, ← HL1.out, ← HLE.out]
            funext i
            unfold stepT Lf updI
            simp only [hb, Bool.false_eq_true, if_false]
            rw [HP0.out, HGT.out]
            repeat' split
            all_goals first | rfl | omega)
          have hl2 := HC.out.2
          have hj2 := HLT.out
          clear hb
          go_wp2
          go_roundw
          case rel => exact ⟨j + 1, by have := HLT.out; omega, by go_num, hid ⟨v2, HX6.out.bx, HX6.out.b6, HX6.out.b7, by rw [HF.out]; exact HRI.out, HX6.out.be⟩⟩
          case measure => have := HLT.out; simp [intOf]; omega
        | true =>
        have hcn := cnt_next HLT.out
        rw [HXX.out, if_pos hb] at hcn
        have hnh : (toldK (keptOf l).hs wl l j).ls.length < (keptOf l).hs.length := by
          rw [HTL.out.2.2.2, hs_cnt]
          have := cnt_take_le isHeap l (j + 1)
          omega
        obtain ⟨nn, hnn⟩ : ∃ q, (toldK (keptOf l).hs wl l j).ls.length = q := ⟨_, rfl⟩
        rw [hnn] at hnh
        obtain ⟨hh, hhh⟩ : ∃ q, (keptOf l).hs.getD nn z60 = q := ⟨_, rfl⟩
        have HHH := hid hhh
        have HNH := hid hnh
        have HNN := hid hnn
        have hsp := heap_sp HV.out nn
        rw [hhh] at hsp
        have HSP := hid hsp
        obtain ⟨gh, ch, hvh⟩ : ∃ gh ch, vh = .slice (some ⟨gh, 0, none⟩) (keptOf l).hs.length ch := by
          rcases HRH.out.2 with ⟨h1, h2⟩ | ⟨g1, c1, u1, h1, _⟩
          · omega
          · exact ⟨g1, c1, h1⟩
        subst hvh
        have hl23 : (L2 3).length = nn := by rw [← HL2.out, ← HL1.out, ← HLE.out]; exact hnn
        have row3 := HRI.out.row 3 (by decide)
        obtain ⟨A3, c3, hv3⟩ := own_slice row3
        have s3 := blkCell HX6.out.b7 3
        simp at s3
        rw [hv3, hl23] at s3
        obtain ⟨p2, hp2⟩ : ∃ q, pickS wt.f1 hh.f1 = q := ⟨_, rfl⟩
        obtain ⟨p3, hp3⟩ : ∃ q, pickS wt.f2 hh.f2 = q := ⟨_, rfl⟩
        have HP2 := hid hp2
        have HP3 := hid hp3
        have HPK2 := hid (fun V : World => by
          have := picked_any wt.f1 (s := hh.f1) hsp.r0 hsp.r1 (by have := hsp.r2; omega) V
          rw [hp2] at this
          exact this)
        have HPK3 := hid (fun V : World => by
          have := picked_any wt.f2 (s := hh.f2) hsp.ok.l0 hsp.ok.l1 (by have := hsp.ok.l2; omega) V
          rw [hp3] at this
          exact this)
        have HBB := hid hb
        have hnh2 : (nn : Int) < ((keptOf l).hs.length : Int) := by omega
        have HLLs := HLL2
        clear HLL
        have HLL := hid (show ∀ i, (L2 i).length ≤ 310 from fun i => by have := HLLs.out i; omega)
        clear hcn hnn hhh hsp hl23 row3 hv3 hp2 hp3 hb
        go_upto_region 14 with fail
        clear s3
        refine wp_flow11 [[], [0], [], [2], [], [], [4, 5], [6, 4, 5], [7, 6, 4, 5], [8, 7, 6, 4, 5], [], [], [10, 11], [12, 10, 11], [13, 12, 10, 11], [14, 13, 12, 10, 11], [3, 2, 9, 8, 7, 6, 4, 5, 15, 14, 13, 12, 10, 11], [16, 3, 2, 9, 8, 7, 6, 4, 5, 15, 14, 13, 12, 10, 11], [1, 0, 17, 16, 3, 2, 9, 8, 7, 6, 4, 5, 15, 14, 13, 12, 10, 11], [0, 1, 2, 3, 4, 5, 6, 7, 8, 9, 10, 11, 12, 13, 14, 15, 16, 17, 18], [19, 0, 1, 2, 3, 4, 5, 6, 7, 8, 9, 10, 11, 12, 13, 14, 15, 16, 17, 18]] 20 [(17, some 92), (18, some 93)]
          (fun g V => BXI w ho fi (some ad) c l v2 x wt B9 B10 V ∧ (g 18 = none → RI (w.heap.size + 1 + 1 + 1) v2 L2 V) ∧ (∀ u, g 18 = some u → ∃ g1 c1, u = .slice (some ⟨g1, 0, none⟩) ((L2 2).length + 1) c1 ∧ RI (w.heap.size + 1 + 1 + 1) (updV v2 2 (.slice (some ⟨g1, 0, none⟩) ((L2 2).length + 1) c1)) (updI L2 2 p2) V) ∧ (∀ u, g 17 = some u → ∃ b, u = .slice (some ⟨b, 0, none⟩) 1 1 ∧ (g 18 = none → V.heap[b]? = some (.cells #[.int .i64 p2] 3 (0, 0)))))
          { tmps := #[.agg #[.int .i64 ho.f0, .int .i64 ho.f1, .int .i64 fi.f0, .int .i64 fi.f1, .slice (some ad) l.length c], .slice (some ⟨gh, 0, none⟩) (keptOf l).hs.length ch, .slice A2 wl.length c2, .pointer (some ⟨w.heap.size, 0, none⟩), undef, undef, .pointer (some ⟨w.heap.size + 1, 0, none⟩), .pointer (some ⟨(w.heap.size + 1 + 1), 0, none⟩), .int .i64 j, .pointer (some ⟨B9, 0, none⟩), .pointer (some ⟨B10, 0, none⟩), .int .i64 gT, .int .i64 nn, .int .i64 j, .pointer (some ⟨w.heap.size, 4, none⟩), .slice (some ad) l.length c, .int .i64 l.length, .bool true, u18, u19, .pointer (some ⟨w.heap.size, 4, none⟩), .slice (some ad) l.length c, .int .i64 j, .pointer (some (ad.add (j * 11))), .agg #[.int .i64 x.f0, .int .u8 x.f1, .int .i64 x.f2, .int .i64 x.f3, .int .i64 x.f4.f0, .int .i64 x.f4.f1, .int .i64 x.f5.f0, .int .i64 x.f5.f1, .int .i64 x.f6.f0, .int .i64 x.f6.f1, .int .i64 x.f7], .slice A2 wl.length c2, .int .i64 j, .agg #[.int .i64 wt.f0, .int .i64 wt.f1, .int .i64 wt.f2], .pointer (some ⟨w.heap.size + 1 + 1, 0, none⟩), v 0, .pointer (some ⟨B10, 0, none⟩), .int .i64 wt.f0, .pointer (some ⟨B9, 4, none⟩), .pointer (some ⟨B9, 4, none⟩), .int .i64 x.f4.f0, .pointer (some ⟨B9, 4, none⟩), .pointer (some ⟨B9, 5, none⟩), .int .i64 x.f4.f1, .int .i64 p0, ub, .slice (some ⟨gn, 0, none⟩) ((L 0).length + 1) cn, .pointer (some ⟨w.heap.size + 1 + 1, 0, none⟩), .pointer (some ⟨B9, 1, none⟩), .int .u8 x.f1, u44, u45, u46, u47, u48, u49, u50, u51, u52, u53, u54, u55, u56, u57, .pointer (some ⟨w.heap.size + 1 + 1, 1, none⟩), v1 1, .int .i64 gT, .slice (some ⟨Ba, 0, none⟩) 1 1, .slice (some ⟨ga, 0, none⟩) ((L1 1).length + 1) ca, .pointer (some ⟨w.heap.size + 1 + 1, 1, none⟩), u64, u65, u66, u67, u68, u69, u70, .bool true, .pointer (some ⟨w.heap.size + 1 + 1, 3, none⟩), .slice A3 nn c3, .int .i64 nn, .pointer (some ⟨(w.heap.size + 1 + 1), 2, none⟩), (v2 2), .pointer (some ⟨B10, 1, none⟩), .int .i64 wt.f1, .slice (some ⟨gh, 0, none⟩) (keptOf l).hs.length ch, .int .i64 nn, .pointer (some ⟨gh, nn * 6, none⟩), .pointer (some ⟨gh, nn * 6 + 2, none⟩), .pointer (some ⟨gh, nn * 6 + 2, none⟩), .int .i64 hh.f1.f0, .slice (some ⟨gh, 0, none⟩) (keptOf l).hs.length ch, .int .i64 nn, .pointer (some ⟨gh, nn * 6, none⟩), .pointer (some ⟨gh, nn * 6 + 2, none⟩), .pointer (some ⟨gh, nn * 6 + 3, none⟩), .int .i64 hh.f1.f1, .int .i64 p2, undef, undef, .pointer (some ⟨(w.heap.size + 1 + 1), 2, none⟩), u95, u96, u97, u98, u99, u100, u101, u102, u103, u104, u105, u106, u107, u108, u109, u110, u111, u112, u113, u114, undef], defers := [] }
          mixed (by kernel_rfl) rfl (by kernel_rfl) (by kernel_rfl) (by kernel_rfl) (Ahead.of3 75 95 rfl rfl (by kernel_rfl) rfl rfl) ?_ rfl ?_ rfl ?_
        · exact ⟨HX6.out.grow (Below.refl _ _).drew, fun _ => HRI.out.grow (Below.refl _ _).drew, fun u h => (by cases h), fun u h => (by cases h)⟩
        · refine ⟨?_, ?_, ?_, ?_, ?_, ?_, ?_, ?_, ?_, ?_, ?_, ?_, ?_, ?_, ?_, ?_, ?_, ?_, ?_, ?_, trivial⟩
          · exact fun g hbe => FlowOp.val 75 _ rfl rfl fun V ⟨hx_, hi_, ha_, hb_⟩ => by have s2 := blkCell hx_.b7 2; have z1 := blkCell hx_.b10 1; simp at s2 z1; obtain ⟨q0, q1, q2, q3, q4, q5⟩ := heap_cells (rings_set HRH.out hx_.be) HNH.out HHH.out; go_simp
          · exact fun g hbe => FlowOp.val 76 _ rfl rfl fun V ⟨hx_, hi_, ha_, hb_⟩ => by have s2 := blkCell hx_.b7 2; have z1 := blkCell hx_.b10 1; simp at s2 z1; obtain ⟨q0, q1, q2, q3, q4, q5⟩ := heap_cells (rings_set HRH.out hx_.be) HNH.out HHH.out; go_simp
          · exact fun g hbe => FlowOp.val 77 _ rfl rfl fun V ⟨hx_, hi_, ha_, hb_⟩ => by have s2 := blkCell hx_.b7 2; have z1 := blkCell hx_.b10 1; simp at s2 z1; obtain ⟨q0, q1, q2, q3, q4, q5⟩ := heap_cells (rings_set HRH.out hx_.be) HNH.out HHH.out; go_simp
          · exact fun g hbe => FlowOp.val 78 _ rfl rfl fun V ⟨hx_, hi_, ha_, hb_⟩ => by have s2 := blkCell hx_.b7 2; have z1 := blkCell hx_.b10 1; simp at s2 z1; obtain ⟨q0, q1, q2, q3, q4, q5⟩ := heap_cells (rings_set HRH.out hx_.be) HNH.out HHH.out; go_simp
          · exact fun g hbe => FlowOp.val 79 _ rfl rfl fun V ⟨hx_, hi_, ha_, hb_⟩ => by have s2 := blkCell hx_.b7 2; have z1 := blkCell hx_.b10 1; simp at s2 z1; obtain ⟨q0, q1, q2, q3, q4, q5⟩ := heap_cells (rings_set HRH.out hx_.be) HNH.out HHH.out; go_simp
          · exact fun g hbe => FlowOp.val 80 _ rfl rfl fun V ⟨hx_, hi_, ha_, hb_⟩ => by have s2 := blkCell hx_.b7 2; have z1 := blkCell hx_.b10 1; simp at s2 z1; obtain ⟨q0, q1, q2, q3, q4, q5⟩ := heap_cells (rings_set HRH.out hx_.be) HNH.out HHH.out; go_simp
          · exact fun g hbe => FlowOp.val 81 _ rfl rfl fun V ⟨hx_, hi_, ha_, hb_⟩ => by have s2 := blkCell hx_.b7 2; have z1 := blkCell hx_.b10 1; simp at s2 z1; obtain ⟨q0, q1, q2, q3, q4, q5⟩ := heap_cells (rings_set HRH.out hx_.be) HNH.out HHH.out; go_simp <;> exact fun hh => absurd hh (by omega)
          · exact fun g hbe => FlowOp.val 82 _ rfl rfl fun V ⟨hx_, hi_, ha_, hb_⟩ => by have s2 := blkCell hx_.b7 2; have z1 := blkCell hx_.b10 1; simp at s2 z1; obtain ⟨q0, q1, q2, q3, q4, q5⟩ := heap_cells (rings_set HRH.out hx_.be) HNH.out HHH.out; go_simp
          · exact fun g hbe => FlowOp.val 83 _ rfl rfl fun V ⟨hx_, hi_, ha_, hb_⟩ => by have s2 := blkCell hx_.b7 2; have z1 := blkCell hx_.b10 1; simp at s2 z1; obtain ⟨q0, q1, q2, q3, q4, q5⟩ := heap_cells (rings_set HRH.out hx_.be) HNH.out HHH.out; go_simp
          · exact fun g hbe => FlowOp.val 84 _ rfl rfl fun V ⟨hx_, hi_, ha_, hb_⟩ => by have s2 := blkCell hx_.b7 2; have z1 := blkCell hx_.b10 1; simp at s2 z1; obtain ⟨q0, q1, q2, q3, q4, q5⟩ := heap_cells (rings_set HRH.out hx_.be) HNH.out HHH.out; go_simp
          · exact fun g hbe => FlowOp.val 85 _ rfl rfl fun V ⟨hx_, hi_, ha_, hb_⟩ => by have s2 := blkCell hx_.b7 2; have z1 := blkCell hx_.b10 1; simp at s2 z1; obtain ⟨q0, q1, q2, q3, q4, q5⟩ := heap_cells (rings_set HRH.out hx_.be) HNH.out HHH.out; go_simp
          · exact fun g hbe => FlowOp.val 86 _ rfl rfl fun V ⟨hx_, hi_, ha_, hb_⟩ => by have s2 := blkCell hx_.b7 2; have z1 := blkCell hx_.b10 1; simp at s2 z1; obtain ⟨q0, q1, q2, q3, q4, q5⟩ := heap_cells (rings_set HRH.out hx_.be) HNH.out HHH.out; go_simp
          · exact fun g hbe => FlowOp.val 87 _ rfl rfl fun V ⟨hx_, hi_, ha_, hb_⟩ => by have s2 := blkCell hx_.b7 2; have z1 := blkCell hx_.b10 1; simp at s2 z1; obtain ⟨q0, q1, q2, q3, q4, q5⟩ := heap_cells (rings_set HRH.out hx_.be) HNH.out HHH.out; go_simp <;> exact fun hh => absurd hh (by omega)
          · exact fun g hbe => FlowOp.val 88 _ rfl rfl fun V ⟨hx_, hi_, ha_, hb_⟩ => by have s2 := blkCell hx_.b7 2; have z1 := blkCell hx_.b10 1; simp at s2 z1; obtain ⟨q0, q1, q2, q3, q4, q5⟩ := heap_cells (rings_set HRH.out hx_.be) HNH.out HHH.out; go_simp
          · exact fun g hbe => FlowOp.val 89 _ rfl rfl fun V ⟨hx_, hi_, ha_, hb_⟩ => by have s2 := blkCell hx_.b7 2; have z1 := blkCell hx_.b10 1; simp at s2 z1; obtain ⟨q0, q1, q2, q3, q4, q5⟩ := heap_cells (rings_set HRH.out hx_.be) HNH.out HHH.out; go_simp
          · exact fun g hbe => FlowOp.val 90 _ rfl rfl fun V ⟨hx_, hi_, ha_, hb_⟩ => by have s2 := blkCell hx_.b7 2; have z1 := blkCell hx_.b10 1; simp at s2 z1; obtain ⟨q0, q1, q2, q3, q4, q5⟩ := heap_cells (rings_set HRH.out hx_.be) HNH.out HHH.out; go_simp
          · intro g hbe
            refine FlowOp.call 91 (.int .i64 p2) 17 #[.int .i64 wt.f1, .int .i64 hh.f1.f0, .int .i64 hh.f1.f1] rfl rfl (fun V ⟨hx_, hi_, ha_, hb_⟩ => by have s2 := blkCell hx_.b7 2; have z1 := blkCell hx_.b10 1; simp at s2 z1; obtain ⟨q0, q1, q2, q3, q4, q5⟩ := heap_cells (rings_set HRH.out hx_.be) HNH.out HHH.out; go_simp) fun V ⟨hx_, hi_, ha_, hb_⟩ => ?_
            refine (HPK2.out _).mono ?_
            rintro e w' ⟨rfl, hb⟩
            exact ⟨rfl, hx_.grow hb, fun h => (hi_ h).grow hb, fun u h => (by obtain ⟨g1, c1, h1, h2⟩ := ha_ u h; exact ⟨g1, c1, h1, h2.grow hb⟩), fun u h => (by obtain ⟨b, h1, h2⟩ := hb_ u h; exact ⟨b, h1, fun h3 => heap_grow (h2 h3) hb⟩)⟩
          · refine ⟨fun r => by rfl, fun r W hr hga hbe ⟨hx_, hi_, ha_, hb_⟩ => ?_⟩
            dsimp only [putE, Act.put]
            have hn := hbe (18, some 93) (by simp) (by decide)
            simp only at hn
            have hgr := (Below.refl W.heap.size W).alloc (Nat.le_refl _) (.cells #[.int .i64 p2] 3)
            exact .inl ⟨.slice (some ⟨W.heap.size, 0, none⟩) 1 1, W.alloc (.cells #[.int .i64 p2] 3), by go_simp, hx_.grow hgr, fun h => (hi_ hn).grow hgr, fun u h => (by simp [Got.upd, hn] at h), fun u h => by
              simp [Got.upd] at h
              exact ⟨W.heap.size, h.symm, fun _ => World.alloc_heap_new W _⟩⟩
          · refine ⟨fun r => by rfl, fun r W hr hga hbe ⟨hx_, hi_, ha_, hb_⟩ => ?_⟩
            dsimp only [putE, Act.put]
            obtain ⟨u, hu⟩ := hga (17, some 92) (by simp) (by decide)
            simp only at hu
            obtain ⟨b, rfl, hbx⟩ := hb_ u hu
            have hbx := hbx hr
            have hri := hi_ hr
            obtain ⟨i0, hi0, hz0, hz1, hz2⟩ := info3'
            have hLL := HLL.out
            obtain ⟨g1, c1, w1, hrun, hown, hgrow, hat, hlt⟩ := run_append_lies (P := Try.prog) W 42 42 (w.heap.size + 1 + 1 + 1) 3 i0 _ 1 8 Try.underlying42 hi0 hz0 hz1 hz2 rfl (by decide) (v2 2) (L2 2).length (cF (L2 2)) (hri.row 2 (by decide)) ⟨b, 0, none⟩ 1 1 [.int .i64 p2] rfl (row_cells hbx) (by simp [Value.oneCell']) (by decide) (by have := hLL 2; unfold maxLen; omega) (by have := hLL 2; omega) (by have := cell_lt (blkCell hx_.b7 0); omega) _ rfl
            refine .inl ⟨.slice (some ⟨g1, 0, none⟩) ((L2 2).length + 1) c1, w1, ?_, hx_.grown hgrow (hri.row 2 (by decide)), fun h => (by simp [Got.upd] at h), fun u h => ?_, fun u h => ?_⟩
            · rw [hu]
              exact exec_append rfl (q := v2 2) (y := .slice (some ⟨b, 0, none⟩) 1 1) (by first | rfl | go_simp) (by first | rfl | go_simp) hrun
            · simp [Got.upd] at h
              exact ⟨g1, c1, h.symm, hri.add (i := 2) (by decide) hown hgrow hat⟩
            · simp [Got.upd] at h
              rw [hu] at h
              exact ⟨b, (Option.some.inj h).symm, fun h3 => by simp [Got.upd] at h3⟩
          · exact fun g hbe => FlowOp.val 94 _ rfl rfl fun V ⟨hx_, hi_, ha_, hb_⟩ => by have s2 := blkCell hx_.b7 2; have z1 := blkCell hx_.b10 1; simp at s2 z1; obtain ⟨q0, q1, q2, q3, q4, q5⟩ := heap_cells (rings_set HRH.out hx_.be) HNH.out HHH.out; go_simp
        · rintro r V ⟨hx_, hi_, ha_, hb_⟩ hall
          obtain ⟨ub2, h1⟩ := hall (17, some 92) (by simp)
          obtain ⟨uc2, h2⟩ := hall (18, some 93) (by simp)
          simp only at h1 h2
          obtain ⟨gn2, cn2, rfl, hri⟩ := ha_ _ h2
          have HXn := hid (hx_.put HS9.out HS10.out 2 (by decide) (.slice (some ⟨gn2, 0, none⟩) ((L2 2).length + 1) cn2))
          have HRn := hid (hri.put (b := w.heap.size + 1 + 1) (i := 2) (by omega) (.slice (some ⟨gn2, 0, none⟩) ((L2 2).length + 1) cn2))
          have z0 := blkCell hx_.b7 2
          have gf := blkFrozen hx_.b7 2
          simp at z0
          clear HX6 HRI hx_ hi_ ha_ hb_ hri hall
          dsimp only [putE, Act.put]
          simp only [h1, h2, Option.getD_some, List.drop_succ_cons, List.drop_zero, List.drop_nil]
          clear h1 h2
          go_upto_region 15 with fail
          generalize V.setCell ⟨w.heap.size + 1 + 1, 2, none⟩ (.slice (some ⟨gn2, 0, none⟩) ((L2 2).length + 1) cn2) = W6 at *
          clear z0 gf
          obtain ⟨v3, hv3⟩ : ∃ q, updV v2 2 (.slice (some ⟨gn2, 0, none⟩) ((L2 2).length + 1) cn2) = q := ⟨_, rfl⟩
          obtain ⟨L3, hL3⟩ : ∃ q, updI L2 2 p2 = q := ⟨_, rfl⟩
          rw [hv3] at HXn HRn
          rw [hL3] at HRn
          have HL3 := hid hL3
          clear HLL
          have HLL := hid (show ∀ i, (L3 i).length ≤ 311 from fun i => by
            rw [← hL3]
            have := HLLs.out i
            unfold updI
            split
            · simp; omega
            · omega)
          clear hv3 hL3
          have HX6 := HXn
          have HRI := HRn
          clear HXn HRn
          refine wp_flow11 [[], [0], [], [2], [], [], [4, 5], [6, 4, 5], [7, 6, 4, 5], [8, 7, 6, 4, 5], [], [], [10, 11], [12, 10, 11], [13, 12, 10, 11], [14, 13, 12, 10, 11], [3, 2, 9, 8, 7, 6, 4, 5, 15, 14, 13, 12, 10, 11], [16, 3, 2, 9, 8, 7, 6, 4, 5, 15, 14, 13, 12, 10, 11], [1, 0, 17, 16, 3, 2, 9, 8, 7, 6, 4, 5, 15, 14, 13, 12, 10, 11], [0, 1, 2, 3, 4, 5, 6, 7, 8, 9, 10, 11, 12, 13, 14, 15, 16, 17, 18], [19, 0, 1, 2, 3, 4, 5, 6, 7, 8, 9, 10, 11, 12, 13, 14, 15, 16, 17, 18]] 20 [(17, some 112), (18, some 113)]
            (fun g V => BXI w ho fi (some ad) c l v3 x wt B9 B10 V ∧ (g 18 = none → RI (w.heap.size + 1 + 1 + 1) v3 L3 V) ∧ (∀ u, g 18 = some u → ∃ g1 c1, u = .slice (some ⟨g1, 0, none⟩) ((L3 3).length + 1) c1 ∧ RI (w.heap.size + 1 + 1 + 1) (updV v3 3 (.slice (some ⟨g1, 0, none⟩) ((L3 3).length + 1) c1)) (updI L3 3 p3) V) ∧ (∀ u, g 17 = some u → ∃ b, u = .slice (some ⟨b, 0, none⟩) 1 1 ∧ (g 18 = none → V.heap[b]? = some (.cells #[.int .i64 p3] 3 (0, 0)))))
            { tmps := #[.agg #[.int .i64 ho.f0, .int .i64 ho.f1, .int .i64 fi.f0, .int .i64 fi.f1, .slice (some ad) l.length c], .slice (some ⟨gh, 0, none⟩) (keptOf l).hs.length ch, .slice A2 wl.length c2, .pointer (some ⟨w.heap.size, 0, none⟩), undef, undef, .pointer (some ⟨w.heap.size + 1, 0, none⟩), .pointer (some ⟨(w.heap.size + 1 + 1), 0, none⟩), .int .i64 j, .pointer (some ⟨B9, 0, none⟩), .pointer (some ⟨B10, 0, none⟩), .int .i64 gT, .int .i64 nn, .int .i64 j, .pointer (some ⟨w.heap.size, 4, none⟩), .slice (some ad) l.length c, .int .i64 l.length, .bool true, u18, u19, .pointer (some ⟨w.heap.size, 4, none⟩), .slice (some ad) l.length c, .int .i64 j, .pointer (some (ad.add (j * 11))), .agg #[.int .i64 x.f0, .int .u8 x.f1, .int .i64 x.f2, .int .i64 x.f3, .int .i64 x.f4.f0, .int .i64 x.f4.f1, .int .i64 x.f5.f0, .int .i64 x.f5.f1, .int .i64 x.f6.f0, .int .i64 x.f6.f1, .int .i64 x.f7], .slice A2 wl.length c2, .int .i64 j, .agg #[.int .i64 wt.f0, .int .i64 wt.f1, .int .i64 wt.f2], .pointer (some ⟨w.heap.size + 1 + 1, 0, none⟩), v 0, .pointer (some ⟨B10, 0, none⟩), .int .i64 wt.f0, .pointer (some ⟨B9, 4, none⟩), .pointer (some ⟨B9, 4, none⟩), .int .i64 x.f4.f0, .pointer (some ⟨B9, 4, none⟩), .pointer (some ⟨B9, 5, none⟩), .int .i64 x.f4.f1, .int .i64 p0, ub, .slice (some ⟨gn, 0, none⟩) ((L 0).length + 1) cn, .pointer (some ⟨w.heap.size + 1 + 1, 0, none⟩), .pointer (some ⟨B9, 1, none⟩), .int .u8 x.f1, u44, u45, u46, u47, u48, u49, u50, u51, u52, u53, u54, u55, u56, u57, .pointer (some ⟨w.heap.size + 1 + 1, 1, none⟩), v1 1, .int .i64 gT, .slice (some ⟨Ba, 0, none⟩) 1 1, .slice (some ⟨ga, 0, none⟩) ((L1 1).length + 1) ca, .pointer (some ⟨w.heap.size + 1 + 1, 1, none⟩), u64, u65, u66, u67, u68, u69, u70, .bool true, .pointer (some ⟨w.heap.size + 1 + 1, 3, none⟩), .slice A3 nn c3, .int .i64 nn, .pointer (some ⟨w.heap.size + 1 + 1, 2, none⟩), v2 2, .pointer (some ⟨B10, 1, none⟩), .int .i64 wt.f1, .slice (some ⟨gh, 0, none⟩) (keptOf l).hs.length ch, .int .i64 nn, .pointer (some ⟨gh, nn * 6, none⟩), .pointer (some ⟨gh, nn * 6 + 2, none⟩), .pointer (some ⟨gh, nn * 6 + 2, none⟩), .int .i64 hh.f1.f0, .slice (some ⟨gh, 0, none⟩) (keptOf l).hs.length ch, .int .i64 nn, .pointer (some ⟨gh, nn * 6, none⟩), .pointer (some ⟨gh, nn * 6 + 2, none⟩), .pointer (some ⟨gh, nn * 6 + 3, none⟩), .int .i64 hh.f1.f1, .int .i64 p2, ub2, .slice (some ⟨gn2, 0, none⟩) ((L2 2).length + 1) cn2, .pointer (some ⟨w.heap.size + 1 + 1, 2, none⟩), .pointer (some ⟨(w.heap.size + 1 + 1), 3, none⟩), (v3 3), .pointer (some ⟨B10, 2, none⟩), .int .i64 wt.f2, .slice (some ⟨gh, 0, none⟩) (keptOf l).hs.length ch, .int .i64 nn, .pointer (some ⟨gh, nn * 6, none⟩), .pointer (some ⟨gh, nn * 6 + 4, none⟩), .pointer (some ⟨gh, nn * 6 + 4, none⟩), .int .i64 hh.f2.f0, .slice (some ⟨gh, 0, none⟩) (keptOf l).hs.length ch, .int .i64 nn, .pointer (some ⟨gh, nn * 6, none⟩), .pointer (some ⟨gh, nn * 6 + 4, none⟩), .pointer (some ⟨gh, nn * 6 + 5, none⟩), .int .i64 hh.f2.f1, .int .i64 p3, undef, undef, .pointer (some ⟨(w.heap.size + 1 + 1), 3, none⟩), undef], defers := [] }
            mixed (by kernel_rfl) rfl (by kernel_rfl) (by kernel_rfl) (by kernel_rfl) (Ahead.of3 95 115 rfl rfl (by kernel_rfl) rfl rfl) ?_ rfl ?_ rfl ?_
          · exact ⟨HX6.out.grow (Below.refl _ _).drew, fun _ => HRI.out.grow (Below.refl _ _).drew, fun u h => (by cases h), fun u h => (by cases h)⟩
          · refine ⟨?_, ?_, ?_, ?_, ?_, ?_, ?_, ?_, ?_, ?_, ?_, ?_, ?_, ?_, ?_, ?_, ?_, ?_, ?_, ?_, trivial⟩
            · exact fun g hbe => FlowOp.val 95 _ rfl rfl fun V ⟨hx_, hi_, ha_, hb_⟩ => by have s3 := blkCell hx_.b7 3; have z2 := blkCell hx_.b10 2; simp at s3 z2; obtain ⟨q0, q1, q2, q3, q4, q5⟩ := heap_cells (rings_set HRH.out hx_.be) HNH.out HHH.out; go_simp
            · exact fun g hbe => FlowOp.val 96 _ rfl rfl fun V ⟨hx_, hi_, ha_, hb_⟩ => by have s3 := blkCell hx_.b7 3; have z2 := blkCell hx_.b10 2; simp at s3 z2; obtain ⟨q0, q1, q2, q3, q4, q5⟩ := heap_cells (rings_set HRH.out hx_.be) HNH.out HHH.out; go_simp
            · exact fun g hbe => FlowOp.val 97 _ rfl rfl fun V ⟨hx_, hi_, ha_, hb_⟩ => by have s3 := blkCell hx_.b7 3; have z2 := blkCell hx_.b10 2; simp at s3 z2; obtain ⟨q0, q1, q2, q3, q4, q5⟩ := heap_cells (rings_set HRH.out hx_.be) HNH.out HHH.out; go_simp
            · exact fun g hbe => FlowOp.val 98 _ rfl rfl fun V ⟨hx_, hi_, ha_, hb_⟩ => by have s3 := blkCell hx_.b7 3; have z2 := blkCell hx_.b10 2; simp at s3 z2; obtain ⟨q0, q1, q2, q3, q4, q5⟩ := heap_cells (rings_set HRH.out hx_.be) HNH.out HHH.out; go_simp
            · exact fun g hbe => FlowOp.val 99 _ rfl rfl fun V ⟨hx_, hi_, ha_, hb_⟩ => by have s3 := blkCell hx_.b7 3; have z2 := blkCell hx_.b10 2; simp at s3 z2; obtain ⟨q0, q1, q2, q3, q4, q5⟩ := heap_cells (rings_set HRH.out hx_.be) HNH.out HHH.out; go_simp
            · exact fun g hbe => FlowOp.val 100 _ rfl rfl fun V ⟨hx_, hi_, ha_, hb_⟩ => by have s3 := blkCell hx_.b7 3; have z2 := blkCell hx_.b10 2; simp at s3 z2; obtain ⟨q0, q1, q2, q3, q4, q5⟩ := heap_cells (rings_set HRH.out hx_.be) HNH.out HHH.out; go_simp
            · exact fun g hbe => FlowOp.val 101 _ rfl rfl fun V ⟨hx_, hi_, ha_, hb_⟩ => by have s3 := blkCell hx_.b7 3; have z2 := blkCell hx_.b10 2; simp at s3 z2; obtain ⟨q0, q1, q2, q3, q4, q5⟩ := heap_cells (rings_set HRH.out hx_.be) HNH.out HHH.out; go_simp <;> exact fun hh => absurd hh (by omega)
            · exact fun g hbe => FlowOp.val 102 _ rfl rfl fun V ⟨hx_, hi_, ha_, hb_⟩ => by have s3 := blkCell hx_.b7 3; have z2 := blkCell hx_.b10 2; simp at s3 z2; obtain ⟨q0, q1, q2, q3, q4, q5⟩ := heap_cells (rings_set HRH.out hx_.be) HNH.out HHH.out; go_simp
            · exact fun g hbe => FlowOp.val 103 _ rfl rfl fun V ⟨hx_, hi_, ha_, hb_⟩ => by have s3 := blkCell hx_.b7 3; have z2 := blkCell hx_.b10 2; simp at s3 z2; obtain ⟨q0, q1, q2, q3, q4, q5⟩ := heap_cells (rings_set HRH.out hx_.be) HNH.out HHH.out; go_simp
            · exact fun g hbe => FlowOp.val 104 _ rfl rfl fun V ⟨hx_, hi_, ha_, hb_⟩ => by have s3 := blkCell hx_.b7 3; have z2 := blkCell hx_.b10 2; simp at s3 z2; obtain ⟨q0, q1, q2, q3, q4, q5⟩ := heap_cells (rings_set HRH.out hx_.be) HNH.out HHH.out; go_simp
            · exact fun g hbe => FlowOp.val 105 _ rfl rfl fun V ⟨hx_, hi_, ha_, hb_⟩ => by have s3 := blkCell hx_.b7 3; have z2 := blkCell hx_.b10 2; simp at s3 z2; obtain ⟨q0, q1, q2, q3, q4, q5⟩ := heap_cells (rings_set HRH.out hx_.be) HNH.out HHH.out; go_simp
            · exact fun g hbe => FlowOp.val 106 _ rfl rfl fun V ⟨hx_, hi_, ha_, hb_⟩ => by have s3 := blkCell hx_.b7 3; have z2 := blkCell hx_.b10 2; simp at s3 z2; obtain ⟨q0, q1, q2, q3, q4, q5⟩ := heap_cells (rings_set HRH.out hx_.be) HNH.out HHH.out; go_simp
            · exact fun g hbe => FlowOp.val 107 _ rfl rfl fun V ⟨hx_, hi_, ha_, hb_⟩ => by have s3 := blkCell hx_.b7 3; have z2 := blkCell hx_.b10 2; simp at s3 z2; obtain ⟨q0, q1, q2, q3, q4, q5⟩ := heap_cells (rings_set HRH.out hx_.be) HNH.out HHH.out; go_simp <;> exact fun hh => absurd hh (by omega)
            · exact fun g hbe => FlowOp.val 108 _ rfl rfl fun V ⟨hx_, hi_, ha_, hb_⟩ => by have s3 := blkCell hx_.b7 3; have z2 := blkCell hx_.b10 2; simp at s3 z2; obtain ⟨q0, q1, q2, q3, q4, q5⟩ := heap_cells (rings_set HRH.out hx_.be) HNH.out HHH.out; go_simp
            · exact fun g hbe => FlowOp.val 109 _ rfl rfl fun V ⟨hx_, hi_, ha_, hb_⟩ => by have s3 := blkCell hx_.b7 3; have z2 := blkCell hx_.b10 2; simp at s3 z2; obtain ⟨q0, q1, q2, q3, q4, q5⟩ := heap_cells (rings_set HRH.out hx_.be) HNH.out HHH.out; go_simp
            · exact fun g hbe => FlowOp.val 110 _ rfl rfl fun V ⟨hx_, hi_, ha_, hb_⟩ => by have s3 := blkCell hx_.b7 3; have z2 := blkCell hx_.b10 2; simp at s3 z2; obtain ⟨q0, q1, q2, q3, q4, q5⟩ := heap_cells (rings_set HRH.out hx_.be) HNH.out HHH.out; go_simp
            · intro g hbe
              refine FlowOp.call 111 (.int .i64 p3) 17 #[.int .i64 wt.f2, .int .i64 hh.f2.f0, .int .i64 hh.f2.f1] rfl rfl (fun V ⟨hx_, hi_, ha_, hb_⟩ => by have s3 := blkCell hx_.b7 3; have z2 := blkCell hx_.b10 2; simp at s3 z2; obtain ⟨q0, q1, q2, q3, q4, q5⟩ := heap_cells (rings_set HRH.out hx_.be) HNH.out HHH.out; go_simp) fun V ⟨hx_, hi_, ha_, hb_⟩ => ?_
              refine (HPK3.out _).mono ?_
              rintro e w' ⟨rfl, hb⟩
              exact ⟨rfl, hx_.grow hb, fun h => (hi_ h).grow hb, fun u h => (by obtain ⟨g1, c1, h1, h2⟩ := ha_ u h; exact ⟨g1, c1, h1, h2.grow hb⟩), fun u h => (by obtain ⟨b, h1, h2⟩ := hb_ u h; exact ⟨b, h1, fun h3 => heap_grow (h2 h3) hb⟩)⟩
            · refine ⟨fun r => by rfl, fun r W hr hga hbe ⟨hx_, hi_, ha_, hb_⟩ => ?_⟩
              dsimp only [putE, Act.put]
              have hn := hbe (18, some 113) (by simp) (by decide)
              simp only at hn
              have hgr := (Below.refl W.heap.size W).alloc (Nat.le_refl _) (.cells #[.int .i64 p3] 3)
              exact .inl ⟨.slice (some ⟨W.heap.size, 0, none⟩) 1 1, W.alloc (.cells #[.int .i64 p3] 3), by go_simp, hx_.grow hgr, fun h => (hi_ hn).grow hgr, fun u h => (by simp [Got.upd, hn] at h), fun u h => by
                simp [Got.upd] at h
                exact ⟨W.heap.size, h.symm, fun _ => World.alloc_heap_new W _⟩⟩
            · refine ⟨fun r => by rfl, fun r W hr hga hbe ⟨hx_, hi_, ha_, hb_⟩ => ?_⟩
              dsimp only [putE, Act.put]
              obtain ⟨u, hu⟩ := hga (17, some 112) (by simp) (by decide)
              simp only at hu
              obtain ⟨b, rfl, hbx⟩ := hb_ u hu
              have hbx := hbx hr
              have hri := hi_ hr
              obtain ⟨i0, hi0, hz0, hz1, hz2⟩ := info3'
              have hLL := HLL.out
              obtain ⟨g1, c1, w1, hrun, hown, hgrow, hat, hlt⟩ := run_append_lies (P := Try.prog) W 42 42 (w.heap.size + 1 + 1 + 1) 3 i0 _ 1 8 Try.underlying42 hi0 hz0 hz1 hz2 rfl (by decide) (v3 3) (L3 3).length (cF (L3 3)) (hri.row 3 (by decide)) ⟨b, 0, none⟩ 1 1 [.int .i64 p3] rfl (row_cells hbx) (by simp [Value.oneCell']) (by decide) (by have := hLL 3; unfold maxLen; omega) (by have := hLL 3; omega) (by have := cell_lt (blkCell hx_.b7 0); omega) _ rfl
              refine .inl ⟨.slice (some ⟨g1, 0, none⟩) ((L3 3).length + 1) c1, w1, ?_, hx_.grown hgrow (hri.row 3 (by decide)), fun h => (by simp [Got.upd] at h), fun u h => ?_, fun u h => ?_⟩
              · rw [hu]
                exact exec_append rfl (q := v3 3) (y := .slice (some ⟨b, 0, none⟩) 1 1) (by first | rfl | go_simp) (by first | rfl | go_simp) hrun
              · simp [Got.upd] at h
                exact ⟨g1, c1, h.symm, hri.add (i := 3) (by decide) hown hgrow hat⟩
              · simp [Got.upd] at h
                rw [hu] at h
                exact ⟨b, (Option.some.inj h).symm, fun h3 => by simp [Got.upd] at h3⟩
            · exact fun g hbe => FlowOp.val 114 _ rfl rfl fun V ⟨hx_, hi_, ha_, hb_⟩ => by have s3 := blkCell hx_.b7 3; have z2 := blkCell hx_.b10 2; simp at s3 z2; obtain ⟨q0, q1, q2, q3, q4, q5⟩ := heap_cells (rings_set HRH.out hx_.be) HNH.out HHH.out; go_simp
          · rintro r V ⟨hx_, hi_, ha_, hb_⟩ hall
            obtain ⟨ub3, h1⟩ := hall (17, some 112) (by simp)
            obtain ⟨uc3, h2⟩ := hall (18, some 113) (by simp)
            simp only at h1 h2
            obtain ⟨gn3, cn3, rfl, hri⟩ := ha_ _ h2
            have HXn := hid (hx_.put HS9.out HS10.out 3 (by decide) (.slice (some ⟨gn3, 0, none⟩) ((L3 3).length + 1) cn3))
            have HRn := hid (hri.put (b := w.heap.size + 1 + 1) (i := 3) (by omega) (.slice (some ⟨gn3, 0, none⟩) ((L3 3).length + 1) cn3))
            have z0 := blkCell hx_.b7 3
            have gf := blkFrozen hx_.b7 3
            simp at z0
            clear HX6 HRI hx_ hi_ ha_ hb_ hri hall
            dsimp only [putE, Act.put]
            simp only [h1, h2, Option.getD_some, List.drop_succ_cons, List.drop_zero, List.drop_nil]
            clear h1 h2
            have HF := hid (show Lf (toldK (keptOf l).hs wl l (j + 1)) = updI L3 3 p3 by
              rw [HNT.out, ← HL3.out, ← HL2.out, ← HL1.out, ← HLE.out]
              funext i
              unfold stepT Lf updI
              simp only [HBB.out, if_true]
              rw [HP0.out, HGT.out, HNN.out, HHH.out, HP2.out, HP3.out]
              repeat' split
              all_goals first | rfl | omega)
            have hl2 := HC.out.2
            have hj2 := HLT.out
            go_wp2
            go_roundw
            case rel => exact ⟨j + 1, by have := HLT.out; omega, by go_num, hid ⟨_, HXn.out.bx, HXn.out.b6, HXn.out.b7, by rw [HF.out]; exact HRn.out, HXn.out.be⟩⟩
            case measure => have := HLT.out; simp [intOf]; omega
    · obtain rfl : j = l.length := by omega
      have hjl : ¬ (l.length : Int) < (l.length : Int) := by omega
      have s0 := blkCell g3 0
      have s1 := blkCell g3 1
      have s2 := blkCell g3 2
      have s3 := blkCell g3 3
      have z0 := blkCell g2 0
      have z1 := blkCell g2 1
      have z2 := blkCell g2 2
      have z3 := blkCell g2 3
      have e0 := blkFrozen g2 0
      have e1 := blkFrozen g2 1
      have e2 := blkFrozen g2 2
      have e3 := blkFrozen g2 3
      simp at s0 s1 s2 s3 z0 z1 z2 z3
      obtain ⟨A0, c0, hv0⟩ := own_slice (g4.row 0 (by decide))
      obtain ⟨A1, c1, hv1⟩ := own_slice (g4.row 1 (by decide))
      obtain ⟨A3, c3, hv2⟩ := own_slice (g4.row 2 (by decide))
      obtain ⟨A4, c4, hv3⟩ := own_slice (g4.row 3 (by decide))
      generalize hn0 : (Lf (toldK (keptOf l).hs wl l l.length) 0).length = n0 at hv0
      generalize hn1 : (Lf (toldK (keptOf l).hs wl l l.length) 1).length = n1 at hv1
      generalize hn2 : (Lf (toldK (keptOf l).hs wl l l.length) 2).length = n2 at hv2
      generalize hn3 : (Lf (toldK (keptOf l).hs wl l l.length) 3).length = n3 at hv3
      rw [hv0] at s0
      rw [hv1] at s1
      rw [hv2] at s2
      rw [hv3] at s3
      have hq := st4_same g2 (.slice A0 n0 c0) (.slice A1 n1 c1) (.slice A3 n2 c3) (.slice A4 n3 c4)
      have HRF := hid ((((g4.put (b := w.heap.size + 1) (i := 0) (by omega) (.slice A0 n0 c0)).put (b := w.heap.size + 1) (i := 1) (by omega) (.slice A1 n1 c1)).put (b := w.heap.size + 1) (i := 2) (by omega) (.slice A3 n2 c3)).put (b := w.heap.size + 1) (i := 3) (by omega) (.slice A4 n3 c4))
      have HBF := hid ((((g5.setCell (p := ⟨w.heap.size + 1, 0, none⟩) (by show w.heap.size ≤ w.heap.size + 1; omega) (.slice A0 n0 c0)).setCell (p := ⟨w.heap.size + 1, 1, none⟩) (by show w.heap.size ≤ w.heap.size + 1; omega) (.slice A1 n1 c1)).setCell (p := ⟨w.heap.size + 1, 2, none⟩) (by show w.heap.size ≤ w.heap.size + 1; omega) (.slice A3 n2 c3)).setCell (p := ⟨w.heap.size + 1, 3, none⟩) (by show w.heap.size ≤ w.heap.size + 1; omega) (.slice A4 n3 c4))
      have HVV := hid (And.intro hv0 (And.intro hv1 (And.intro hv2 hv3)))
      have HQ := hid hq
      clear g1 g2 g3 g4 g5 HX0 hn0 hn1 hn2 hn3 hv0 hv1 hv2 hv3 hq
      go_wp2
      generalize ((((Wk.setCell ⟨w.heap.size + 1, 0, none⟩ (.slice A0 n0 c0)).setCell ⟨w.heap.size + 1, 1, none⟩ (.slice A1 n1 c1)).setCell ⟨w.heap.size + 1, 2, none⟩ (.slice A3 n2 c3)).setCell ⟨w.heap.size + 1, 3, none⟩ (.slice A4 n3 c4)) = w5 at *
      have q0 := blkCell HQ.out 0
      have q1 := blkCell HQ.out 1
      have q2 := blkCell HQ.out 2
      have q3 := blkCell HQ.out 3
      simp at q0 q1 q2 q3
      refine bodyPost_ret (v := .agg #[.slice A0 n0 c0, .slice A1 n1 c1, .slice A3 n2 c3, .slice A4 n3 c4]) (by simp [results, Try.results14, go_sem, q0, q1, q2, q3]) rfl ⟨v, by rw [HVV.out.1, HVV.out.2.1, HVV.out.2.2.1, HVV.out.2.2.2], ⟨fun i hi => own_lower (by omega) (HRF.out.row i hi), HRF.out.ne⟩, HBF.out⟩
end Go.Proofs.Ytbmkbokkmmdjdaa
end
