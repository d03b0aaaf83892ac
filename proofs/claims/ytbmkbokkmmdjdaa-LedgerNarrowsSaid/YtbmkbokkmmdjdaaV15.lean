-- A5 (wip/pack9.py)
import Derived.Test.YtbmkbokkmmdjdaaV14
section
namespace Go.Proofs.Ytbmkbokkmmdjdaa
open Go.RowKit Go.Proofs.YtbmkbokkmmdjdaaW.PrintWords Go.Proofs.YtbmkbokkmmdjdaaW.PrintLast Go.Proofs.YtbmkbokkmmdjdaaW.PrintMore
open Q Go.Shelf
attribute [local go_sem] Oper.semAt_some wide_depth wide_fn
set_option linter.unusedVariables false
set_option linter.unusedSimpArgs false

theorem AI.lower {W : World} {base base' Bm n : Nat} {K : List (Int × Int)} {g : Int × Int → Nat} {L : Int × Int → List S23} (h : AI W base Bm n K g L) (hb : base' ≤ base) : AI W base' Bm n K g L :=
  ⟨h.mp, h.bl, fun a ha => Nat.le_trans hb (h.le a ha), h.ln, h.inj⟩
structure CI (w : World) (ho fi : S23) (A : Option Addr) (c : Nat) (l : List S36) (vh : Value) (hs : List S60) (K : List (Int × Int)) (g : Int × Int → Nat) (L : Int × Int → List S23) (W : World) : Prop where
  bx : W.heap[w.heap.size]? = some (.cells #[.int .i64 ho.f0, .int .i64 ho.f1, .int .i64 fi.f0, .int .i64 fi.f1, .slice A l.length c] 26 (0, 0))
  ou : W.heap[w.heap.size + 1 + 1]? = some (.cells #[.map (some (w.heap.size + 1))] 97 (0, 0))
  rh : W.ownsRow (w.heap.size + 1 + 1 + 1) 60 6 vh hs.length (hF hs)
  ai : AI W (w.heap.size + 1 + 1 + 1) (w.heap.size + 1) l.length K g L
  be : Below w.heap.size w W
theorem CI.grow {w W W' : World} {ho fi : S23} {A : Option Addr} {c : Nat} {l : List S36} {vh : Value} {hs : List S60} {K : List (Int × Int)} {g : Int × Int → Nat} {L : Int × Int → List S23} (h : CI w ho fi A c l vh hs K g L W) (hb : Below W.heap.size W W') : CI w ho fi A c l vh hs K g L W' :=
  ⟨heap_grow h.bx hb, heap_grow h.ou hb, rings_set h.rh hb, h.ai.grow hb, h.be.trans (hb.mono h.be.size)⟩
theorem CI.lt {w W : World} {ho fi : S23} {A : Option Addr} {c : Nat} {l : List S36} {vh : Value} {hs : List S60} {K : List (Int × Int)} {g : Int × Int → Nat} {L : Int × Int → List S23} (h : CI w ho fi A c l vh hs K g L W) : w.heap.size + 1 + 1 < W.heap.size := cell_lt (blkCell h.ou 0)
theorem CI.lo {w W : World} {ho fi : S23} {A : Option Addr} {c : Nat} {l : List S36} {vh : Value} {hs : List S60} {g : Int × Int → Nat} {L : Int × Int → List S23} (h : CI w ho fi A c l vh hs [] g L W) (L' : Int × Int → List S23) : CI w ho fi A c l vh hs [] g L' W :=
  ⟨h.bx, h.ou, h.rh, ⟨h.ai.mp, by simp, by simp, by simp, by simp⟩, h.be⟩
theorem CI.add {w W : World} {ho fi : S23} {A : Option Addr} {c : Nat} {l : List S36} {vh : Value} {hs : List S60} {K : List (Int × Int)} {g : Int × Int → Nat} {L : Int × Int → List S23} (h : CI w ho fi A c l vh hs K g L W) {V : World} {a : Int × Int} {Bx : Nat} {Lx : List S23} {es : Array MapEntry} {cl : Nat} (hV : Below W.heap.size W V) (hx : V.heap[Bx]? = some (.cells (sF Lx).toArray 23 (0, 0))) (hB : W.heap.size ≤ Bx) (hL : Lx.length = l.length) (ha : a ∉ K)
    (hm : MapA (V.putObj (w.heap.size + 1) (.map es cl)) (w.heap.size + 1) l.length ((K.map fun a => (a, g a)) ++ [(a, Bx)])) :
    CI w ho fi A c l vh hs (K ++ [a]) (fun x => if x = a then Bx else g x) (fun x => if x = a then Lx else L x) (V.putObj (w.heap.size + 1) (.map es cl)) := by
  have h' := h.grow hV
  obtain ⟨es', cl', m1, m2⟩ := h'.ai.mp
  have hlt := h.lt
  have hg : ∀ x ∈ K, g x < W.heap.size := fun x hx => (Array.getElem?_eq_some_iff.1 (h.ai.bl x hx)).1
  have hna : ∀ x ∈ K, x ≠ a := fun x hx e => ha (e ▸ hx)
  refine ⟨putObj_other (by omega) h'.bx, putObj_other (by omega) h'.ou, ownsRow_putObj h'.rh _ m1 rfl, ⟨?_, ?_, ?_, ?_, ?_⟩, h'.be.trans (below_putObj _ _ (by omega))⟩
  · rw [List.map_append]
    have e1 : (K.map fun x => (x, if x = a then Bx else g x)) = K.map fun x => (x, g x) := List.map_congr_left fun x hx => by rw [if_neg (hna x hx)]
    rw [e1]
    simpa using hm
  · intro x hx'
    rcases List.mem_append.1 hx' with hx1 | hx1
    · simp only [if_neg (hna x hx1)]
      exact putObj_other (fun e => h'.ai.neM hx1 e.symm) (h'.ai.bl x hx1)
    · obtain rfl := List.mem_singleton.1 hx1
      simp only [↓reduceIte]
      exact putObj_other (by omega) hx
  · intro x hx'
    rcases List.mem_append.1 hx' with hx1 | hx1
    · simp only [if_neg (hna x hx1)]; exact h.ai.le x hx1
    · obtain rfl := List.mem_singleton.1 hx1
      simp only [↓reduceIte]; omega
  · intro x hx'
    rcases List.mem_append.1 hx' with hx1 | hx1
    · simp only [if_neg (hna x hx1)]; exact h.ai.ln x hx1
    · obtain rfl := List.mem_singleton.1 hx1
      simp only [↓reduceIte]; exact hL
  · intro x hx' y hy' e
    rcases List.mem_append.1 hx' with hx1 | hx1 <;> rcases List.mem_append.1 hy' with hy1 | hy1
    · simp only [if_neg (hna x hx1), if_neg (hna y hy1)] at e; exact h.ai.inj x hx1 y hy1 e
    · obtain rfl := List.mem_singleton.1 hy1
      simp only [if_neg (hna x hx1), ↓reduceIte] at e
      have := hg x hx1; omega
    · obtain rfl := List.mem_singleton.1 hx1
      simp only [if_neg (hna y hy1), ↓reduceIte] at e
      have := hg y hy1; omega
    · rw [List.mem_singleton.1 hx1, List.mem_singleton.1 hy1]
theorem CI.put {w W : World} {ho fi : S23} {A : Option Addr} {c : Nat} {l : List S36} {vh : Value} {hs : List S60} {K : List (Int × Int)} {g : Int × Int → Nat} {L : Int × Int → List S23} (h : CI w ho fi A c l vh hs K g L W) {a : Int × Int} (ha : a ∈ K) {i : Nat} (hi : i < l.length) (s : S23) :
    CI w ho fi A c l vh hs K g (updL L a i s) ((W.setCell ⟨g a, i * 2, none⟩ (.int .i64 s.f0)).setCell ⟨g a, i * 2 + 1, none⟩ (.int .i64 s.f1)) := by
  have hle := h.ai.le a ha
  have o : ∀ {k : Nat} {ob : Obj}, k ≠ g a → W.heap[k]? = some ob → ((W.setCell ⟨g a, i * 2, none⟩ (.int .i64 s.f0)).setCell ⟨g a, i * 2 + 1, none⟩ (.int .i64 s.f1)).heap[k]? = some ob :=
    fun h1 hk => set_other (p := ⟨g a, i * 2 + 1, none⟩) h1 (set_other (p := ⟨g a, i * 2, none⟩) h1 hk)
  have hne := row_ne_blk h.rh (h.ai.bl a ha) (by decide)
  refine ⟨o (by omega) h.bx, o (by omega) h.ou, ?_, h.ai.put ha hi s, (h.be.setCell (p := ⟨g a, i * 2, none⟩) (by simp; omega) _).setCell (p := ⟨g a, i * 2 + 1, none⟩) (by simp; omega) _⟩
  exact ownsRow_setCell_other (ownsRow_setCell_other h.rh hne _) hne _
theorem accs_nodup (n : Nat) : (accs n).Nodup := by
  unfold accs
  refine List.nodup_cons.2 ⟨by simp, List.nodup_cons.2 ⟨by simp, ?_⟩⟩
  exact List.pairwise_map.2 ((List.nodup_range).imp fun h e => h (by have e2 := congrArg Prod.snd e; simp only at e2; omega))
theorem accs_next {n k : Nat} (h : k < (accs n).length) : (accs n)[k] ∉ (accs n).take k := by
  intro hm
  obtain ⟨j, hj, e⟩ := List.getElem_of_mem hm
  simp at hj
  rw [List.getElem_take] at e
  have := (List.getElem_inj (accs_nodup n)).1 e
  omega
def chgX (x : S36) (cm : Int) (hs : List S60) (a : Int × Int) : S23 :=
  if x.f1 = 1 then (if a = (2, cm) then gramsS x.f4 else z23)
  else if x.f1 = 5 then (if a = (2, cm) then gramsS x.f4 else if a = (1, 0) then minusS (gramsS x.f4) else z23)
  else if x.f1 = 2 then (if a = (2, x.f2) then minusS (gramsS x.f4) else if a = (0, 0) then glassS x.f4 (hs.getD x.f2.toNat z60) else z23)
  else if x.f1 = 3 then (if a = (1, 0) then gramsS x.f4 else if a = (0, 0) then minusS (gramsS x.f4) else z23)
  else if x.f1 = 4 then (if a = (1, 0) then minusS (gramsS x.f4) else z23)
  else z23
def chgK (l : List S36) (hs : List S60) (k : Nat) (a : Int × Int) : List S23 :=
  (List.range l.length).map fun j => if j < k then chgX (l.getD j z36) (cnt isHeap (l.take j) : Nat) hs a else z23
def chgL (l : List S36) (a : Int × Int) : List S23 := chgK l (keptOf l).hs l.length a
theorem chgK_zero (l : List S36) (hs : List S60) : chgK l hs 0 = fun _ => List.replicate l.length z23 := by
  funext a
  unfold chgK
  apply List.ext_getElem
  · simp
  · intro i h1 h2; simp
theorem chgK_len (l : List S36) (hs : List S60) (k : Nat) (a : Int × Int) : (chgK l hs k a).length = l.length := by simp [chgK]
theorem set_z (l : List S36) (hs : List S60) (k : Nat) (a : Int × Int) : (chgK l hs k a).set k z23 = chgK l hs k a := by
  apply List.ext_getElem
  · simp
  · intro i h1 h2
    rw [List.getElem_set]
    split
    · rename_i e; subst e; simp [chgK]
    · rfl
theorem chgK_succ (l : List S36) (hs : List S60) {k : Nat} (hk : k < l.length) (a : Int × Int) : chgK l hs (k + 1) a = (chgK l hs k a).set k (chgX l[k] (cnt isHeap (l.take k) : Nat) hs a) := by
  apply List.ext_getElem
  · simp [chgK]
  · intro i h1 h2
    rw [List.getElem_set]
    simp only [chgK, List.getElem_map, List.getElem_range]
    by_cases e : k = i
    · subst e
      rw [if_pos rfl, if_pos (by omega)]
      simp [List.getD, hk]
    · rw [if_neg e]
      by_cases h : i < k
      · rw [if_pos h, if_pos (by omega)]
      · rw [if_neg h, if_neg (by omega)]
theorem upd_one (l : List S36) (hs : List S60) {k : Nat} (hk : k < l.length) {x : S36} (hx : l[k] = x) (b : Int × Int) (s : S23) (h : ∀ a, chgX x (cnt isHeap (l.take k) : Nat) hs a = if a = b then s else z23) : updL (chgK l hs k) b k s = chgK l hs (k + 1) := by
  funext a
  rw [chgK_succ l hs hk, hx, h a]
  unfold updL
  split
  · rfl
  · rw [set_z]
theorem upd_two (l : List S36) (hs : List S60) {k : Nat} (hk : k < l.length) {x : S36} (hx : l[k] = x) (b b' : Int × Int) (s s' : S23) (h : ∀ a, chgX x (cnt isHeap (l.take k) : Nat) hs a = if a = b' then s' else if a = b then s else z23) : updL (updL (chgK l hs k) b k s) b' k s' = chgK l hs (k + 1) := by
  funext a
  rw [chgK_succ l hs hk, hx, h a]
  unfold updL
  split
  · split
    · rw [List.set_set]
    · rfl
  · split
    · rfl
    · rw [set_z]
theorem upd_no (l : List S36) (hs : List S60) {k : Nat} (hk : k < l.length) {x : S36} (hx : l[k] = x) (h : ∀ a, chgX x (cnt isHeap (l.take k) : Nat) hs a = z23) : chgK l hs k = chgK l hs (k + 1) := by
  funext a
  rw [chgK_succ l hs hk, hx, h a, set_z]
theorem acc_f (n : Nat) : ((0, 0) : Int × Int) ∈ accs n := by simp [accs]
theorem acc_o (n : Nat) : ((1, 0) : Int × Int) ∈ accs n := by simp [accs]
theorem acc_h {n : Nat} {j : Int} (h0 : 0 ≤ j) (h1 : j < n) : ((2, j) : Int × Int) ∈ accs n := by
  unfold accs
  refine List.mem_cons_of_mem _ (List.mem_cons_of_mem _ (List.mem_map.2 ⟨j.toNat, by simp; omega, ?_⟩))
  rw [Int.toNat_of_nonneg h0]
theorem cnt_take_le (p : S36 → Bool) (l : List S36) (k : Nat) : cnt p (l.take k) ≤ cnt p l := by
  unfold cnt
  exact (List.take_sublist k l).countP_le
theorem cnt_next {l : List S36} {k : Nat} (hk : k < l.length) : cnt isHeap (l.take (k + 1)) = cnt isHeap (l.take k) + (if isHeap l[k] = true then 1 else 0) := by
  rw [List.take_succ_eq_append_getElem hk, cnt_snoc]
theorem hs_cnt (l : List S36) : (keptOf l).hs.length = cnt isHeap l := by
  have := (pki_take l l.length (Nat.le_refl _)).hs
  rwa [List.take_length] at this
theorem round_ok {ho fi : S23} {l : List S36} (hv : bookErr ho fi l = 0) {k : Nat} (hk : k < l.length) {x : S36} (hx : l[k] = x) :
    (x.f1 = 1 ∨ x.f1 = 5 → cnt isHeap (l.take k) < (keptOf l).hs.length ∧ cnt isHeap (l.take (k + 1)) = cnt isHeap (l.take k) + 1) ∧ (¬ (x.f1 = 1 ∨ x.f1 = 5) → cnt isHeap (l.take (k + 1)) = cnt isHeap (l.take k)) ∧
    (x.f1 = 2 → 0 ≤ x.f2 ∧ x.f2 < (keptOf l).hs.length) := by
  have h1 := cnt_next hk
  have h2 := cnt_take_le isHeap l (k + 1)
  have h3 := cnt_take_le isHeap l k
  rw [hx] at h1
  rw [hs_cnt]
  have hi : isHeap x = true ↔ x.f1 = 1 ∨ x.f1 = 5 := by unfold isHeap; simp
  refine ⟨fun h => ?_, fun h => ?_, fun h => ?_⟩
  · rw [if_pos (hi.2 h)] at h1; omega
  · rw [if_neg (fun e => h (hi.1 e))] at h1; omega
  · have h4 := (stepOk_all hv k hk).charge (by rw [hx]; exact h)
    rw [hx, (pki_take l k (by omega)).hs] at h4
    omega
def RetCh (l : List S36) (h : Nat) (w : World) (e : Ending) (w' : World) : Prop := ∃ Bm g, e = .returned (.map (some Bm)) ∧ AI w' w.heap.size Bm l.length (accs h) g (chgL l) ∧ Below w.heap.size w w'
theorem info23' : ∃ i0, Try.prog.info? 23 = some i0 ∧ i0.zero = some (.agg #[.int .i64 0, .int .i64 0]) ∧ i0.size = 2 ∧ i0.bytes = 16 := info_parts (by kernel_rfl)
theorem make_spans {n : Nat} (hn : n ≤ 1000000) (w : World) : (Instr.makeSlice 96 (.int .i64 n) (.int .i64 n)).run Try.prog w = .ok (.slice (some ⟨w.heap.size, 0, none⟩) n n) (w.alloc (.cells (sF (List.replicate n z23)).toArray 23)) := by
  obtain ⟨i0, hi, hz0, hz1, hz2⟩ := info23'
  have := run_makeSlice (P := Try.prog) w 96 23 i0 _ Try.underlying96 hi hz0 .i64 .i64 n n (by omega) (by omega) (by rw [hz1]; simp; omega) (by rw [hz2]; omega) (by omega)
  rw [this, hz1]
  simp only [Int.toNat_natCast]
  rw [← made_spans]
  rfl
set_option maxRecDepth 100000 in
set_option maxHeartbeats 8000000 in
set_option pp.deepTerms true in
set_option pp.maxSteps 1000000 in
theorem changes_any (ho fi : S23) (A : Option Addr) (c : Nat) (l : List S36) (w : World) (hr : Kd.C k36 w A l.length l) (hv : bookErr ho fi l = 0) :
    Calls Try.prog 41 #[.agg #[.int .i64 ho.f0, .int .i64 ho.f1, .int .i64 fi.f0, .int .i64 fi.f1, .slice A l.length c]] w (RetCh l (keptOf l).hs.length w) := by
  have hu := Try.underlying73
  have hu1 := Try.underlying39
  have hu2 := Try.underlying92
  have hu3 := Try.underlying94
  have hu4 := Try.underlying36
  have hu5 := Try.underlying23
  have hu6 := Try.underlying60
  have hu7 := Try.underlying26
  have hmm := @run_makeMap Try.prog
  have hmf := makeFunc_any
  have HB := Below.refl w.heap.size w
  have HV := hid hv
  have HL := hid (bookOk_of hv).len
  go_enter Try.func41, Try.ntmps41
  go_upto_region 2 with fail
  have e0 := alloc_old (o' := (.cells #[.map (some (w.heap.size + 1))] 97)) (alloc_old (o' := (.map #[] 0)) (World.alloc_heap_new w (.cells #[.int .i64 ho.f0, .int .i64 ho.f1, .int .i64 fi.f0, .int .i64 fi.f1, .slice A l.length c] 26)))
  have e1 := alloc_old (o' := (.cells #[.map (some (w.heap.size + 1))] 97)) (World.alloc_heap_new (w.alloc (.cells #[.int .i64 ho.f0, .int .i64 ho.f1, .int .i64 fi.f0, .int .i64 fi.f1, .slice A l.length c] 26)) (.map #[] 0))
  have e2 := World.alloc_heap_new ((w.alloc (.cells #[.int .i64 ho.f0, .int .i64 ho.f1, .int .i64 fi.f0, .int .i64 fi.f1, .slice A l.length c] 26)).alloc (.map #[] 0)) (.cells #[.map (some (w.heap.size + 1))] 97)
  simp only [World.size_alloc] at e1 e2
  have hbel := ((HB.alloc (Nat.le_refl _) (.cells #[.int .i64 ho.f0, .int .i64 ho.f1, .int .i64 fi.f0, .int .i64 fi.f1, .slice A l.length c] 26)).alloc (by simp) (.map #[] 0)).alloc (by simp; omega) (.cells #[.map (some (w.heap.size + 1))] 97)
  have hs3 : (((w.alloc (.cells #[.int .i64 ho.f0, .int .i64 ho.f1, .int .i64 fi.f0, .int .i64 fi.f1, .slice A l.length c] 26)).alloc (.map #[] 0)).alloc (.cells #[.map (some (w.heap.size + 1))] 97)).heap.size = w.heap.size + 1 + 1 + 1 := by simp
  generalize (((w.alloc (.cells #[.int .i64 ho.f0, .int .i64 ho.f1, .int .i64 fi.f0, .int .i64 fi.f1, .slice A l.length c] 26)).alloc (.map #[] 0)).alloc (.cells #[.map (some (w.heap.size + 1))] 97)) = W1 at *
  have y0 := blkCell e0 0
  have y1 := blkCell e0 1
  have y2 := blkCell e0 2
  have y3 := blkCell e0 3
  have y4 := blkCell e0 4
  simp at y0 y1 y2 y3 y4
  have HE := hid (And.intro e0 (And.intro e1 (And.intro e2 (And.intro hbel hs3))))
  clear e0 e1 e2 hbel hs3 HB hv
  go_wp2_with fail
  refine (kept_any ho fi A c l _ (Kd.C_below hr HE.out.2.2.2.1) (by have := HL.out; omega) (stepOk_all HV.out)).mono ?_
  rintro e W3 ⟨vh, vp, Bm, rfl, hBm, hrh, hrp, hmp, hb⟩
  obtain ⟨Ah, ch, rfl⟩ := own_slice hrh
  obtain ⟨Ap, cp, rfl⟩ := own_slice hrp
  have hf := fieldB0 Ah Ap (keptOf l).hs.length ch (keptOf l).ps.length cp (some Bm) W3
  have e0 := heap_grow HE.out.1 hb
  have HE3 := hid (And.intro e0 (And.intro (heap_grow HE.out.2.1 hb) (And.intro (heap_grow HE.out.2.2.1 hb) (And.intro (HE.out.2.2.2.1.trans (hb.mono HE.out.2.2.2.1.size)) (own_lower (by have := HE.out.2.2.2.2; omega) hrh : W3.ownsRow (w.heap.size + 1 + 1 + 1) 60 6 _ _ _)))))
  clear y0 y1 y2 y3 y4 hb hBm hrh hrp hmp HE
  have y0 := blkCell e0 0
  have y1 := blkCell e0 1
  have y2 := blkCell e0 2
  have y3 := blkCell e0 3
  have y4 := blkCell e0 4
  simp at y0 y1 y2 y3 y4
  clear e0
  go_upto_region 3 with fail
  clear hf
  go_wp2_with fail
  refine (accounts_any ho fi A c l _ (Kd.C_below hr HE3.out.2.2.2.1) HV.out).mono ?_
  rintro e W4 ⟨va, rfl, hra, hb⟩
  obtain ⟨Aa, ca, rfl⟩ := own_slice hra
  have hC0 : CI w ho fi A c l (.slice Ah (keptOf l).hs.length ch) (keptOf l).hs [] (fun _ => 0) (fun _ => []) W4 :=
    ⟨heap_grow HE3.out.1 hb, heap_grow HE3.out.2.2.1 hb, rings_set HE3.out.2.2.2.2 hb, ⟨⟨_, _, heap_grow HE3.out.2.1 hb, rfl⟩, by simp, by simp, by simp, by simp⟩, HE3.out.2.2.2.1.trans (hb.mono HE3.out.2.2.2.1.size)⟩
  have HC0 := hid (And.intro (hC0.lo (fun _ => List.replicate l.length z23)) (own_lower (show 0 ≤ W3.heap.size by omega) hra))
  have HAL := hid (accs_len (keptOf l).hs.length)
  have HN := hid (show (keptOf l).hs.length ≤ 256 by have := kept_len l l.length (Nat.le_refl _); rw [List.take_length] at this; have := HL.out; omega)
  clear hC0 hra hb HE3 y0 y1 y2 y3 y4
  obtain ⟨hs, hhs⟩ : ∃ hs, (keptOf l).hs = hs := ⟨_, rfl⟩
  have HHS := hid hhs
  rw [hhs] at HC0 HAL HN
  rw [hhs]
  clear hhs
  obtain ⟨KA, hKA⟩ : ∃ KA, accs hs.length = KA := ⟨_, rfl⟩
  have HKA := hid hKA
  have HNX := hid (show ∀ k (h : k < KA.length), KA[k] ∉ KA.take k by subst hKA; exact fun k h => accs_next h)
  rw [hKA] at HC0 HAL
  have hbn : KA.length ≤ 258 := by have := HAL.out; have := HN.out; omega
  rw [hKA]
  clear hKA
  go_wp2
  go_loopw [18] (fun v18 X => ∃ k : Nat, k ≤ KA.length ∧ v18 = .int .i64 k ∧ Hid (∃ g, CI w ho fi A c l (.slice Ah hs.length ch) hs (KA.take k) g (fun _ => List.replicate l.length z23) X ∧ X.ownsRow 0 92 2 (.slice Aa KA.length ca) KA.length (aF KA))) (fun v18 _ => KA.length - (intOf v18).toNat)
  case atStart => exact ⟨0, by omega, rfl, hid ⟨_, HC0.out.1, HC0.out.2⟩⟩
  case round =>
    obtain ⟨k, hk, rfl, HX⟩ := hrel
    rename World => Wk
    by_cases hlt : k < KA.length
    · obtain ⟨g, hC, hra⟩ := HX.out
      obtain ⟨a, hka⟩ : ∃ a, KA[k] = a := ⟨_, rfl⟩
      have hkd : KA.getD k (0, 0) = a := by rw [← hka]; simp [List.getD, hlt]
      obtain ⟨ga, gc, hga⟩ : ∃ ga gc, Aa = some ⟨ga, 0, none⟩ ∧ gc = ca := by
        rcases hra.2 with ⟨h1, h2⟩ | ⟨g1, c1, u1, h1, _⟩
        · injection h1 with e1 e2 e3; omega
        · injection h1 with e1 e2 e3; exact ⟨g1, c1, e1, e3.symm⟩
      obtain ⟨rfl, rfl⟩ := hga
      have q0 : Wk.cell? ⟨ga, k * 2, none⟩ = some (.int .u8 a.1) := by
        have e := hra.cellAt (k * 2 + 0) (by omega)
        rw [aF_at hlt (by omega), hkd] at e; exact e
      have q1 : Wk.cell? ⟨ga, k * 2 + 1, none⟩ = some (.int .i64 a.2) := by
        have e := hra.cellAt (k * 2 + 1) (by omega)
        rw [aF_at hlt (by omega), hkd] at e; exact e
      have HK := hid (And.intro hC hra)
      have HA := hid (And.intro hka (show a ∉ KA.take k by rw [← hka]; have := HNX.out k hlt; exact this))
      have HLT := hid hlt
      clear hC hra hka hkd HX
      go_upto_region 6 with fail
      have hgr := (Below.refl Wk.heap.size Wk).alloc (Nat.le_refl _) (.cells #[.int .u8 a.1, .int .i64 a.2] 92)
      have hnew := World.alloc_heap_new Wk (.cells #[.int .u8 a.1, .int .i64 a.2] 92)
      have hC5 := HK.out.1.grow hgr
      have hra5 := rings_set HK.out.2 hgr
      generalize Wk.alloc (.cells #[.int .u8 a.1, .int .i64 a.2] 92) = W5 at *
      generalize Wk.heap.size = B6 at *
      have y0 := blkCell hC5.bx 0
      have y1 := blkCell hC5.bx 1
      have y2 := blkCell hC5.bx 2
      have y3 := blkCell hC5.bx 3
      have y4 := blkCell hC5.bx 4
      have y5 := blkCell hC5.ou 0
      have y6 := blkCell hnew 0
      have y7 := blkCell hnew 1
      simp at y0 y1 y2 y3 y4 y5 y6 y7
      have HQ := hid (And.intro hC5 hra5)
      clear hgr hnew hC5 hra5 q0 q1 HK
      refine wp_flow3 [[], [], [], [2], [3, 2], [4, 3, 2], [0, 1, 5, 4, 3, 2]] 5
        (fun V => V.cell? ⟨w.heap.size, 0, none⟩ = some (.int .i64 ho.f0) ∧ V.cell? ⟨w.heap.size, 1, none⟩ = some (.int .i64 ho.f1) ∧ V.cell? ⟨w.heap.size, 2, none⟩ = some (.int .i64 fi.f0) ∧ V.cell? ⟨w.heap.size, 3, none⟩ = some (.int .i64 fi.f1) ∧ V.cell? ⟨w.heap.size, 4, none⟩ = some (.slice A l.length c) ∧ V.cell? ⟨(w.heap.size + 1 + 1), 0, none⟩ = some (.map (some (w.heap.size + 1))) ∧ V.cell? ⟨B6, 0, none⟩ = some (.int .u8 a.1) ∧ V.cell? ⟨B6, 1, none⟩ = some (.int .i64 a.2) ∧ Below W5.heap.size W5 V)
        (fun u V => (V.cell? ⟨w.heap.size, 0, none⟩ = some (.int .i64 ho.f0) ∧ V.cell? ⟨w.heap.size, 1, none⟩ = some (.int .i64 ho.f1) ∧ V.cell? ⟨w.heap.size, 2, none⟩ = some (.int .i64 fi.f0) ∧ V.cell? ⟨w.heap.size, 3, none⟩ = some (.int .i64 fi.f1) ∧ V.cell? ⟨w.heap.size, 4, none⟩ = some (.slice A l.length c) ∧ V.cell? ⟨(w.heap.size + 1 + 1), 0, none⟩ = some (.map (some (w.heap.size + 1))) ∧ V.cell? ⟨B6, 0, none⟩ = some (.int .u8 a.1) ∧ V.cell? ⟨B6, 1, none⟩ = some (.int .i64 a.2) ∧ Below W5.heap.size W5 V) ∧ ∃ V0, u = .slice (some ⟨V0.heap.size, 0, none⟩) l.length l.length ∧ Below W5.heap.size W5 V0 ∧ V = V0.alloc (.cells (sF (List.replicate l.length z23)).toArray 23))
        { tmps := #[.agg #[.int .i64 ho.f0, .int .i64 ho.f1, .int .i64 fi.f0, .int .i64 fi.f1, .slice A l.length c], .pointer (some ⟨w.heap.size, 0, none⟩), .map none, .pointer (some ⟨(w.heap.size + 1 + 1), 0, none⟩), .slice Ah hs.length ch, undef, .pointer (some ⟨B6, 0, none⟩), undef, undef, undef, undef, .map (some (w.heap.size + 1)), .agg #[.int .i64 ho.f0, .int .i64 ho.f1, .int .i64 fi.f0, .int .i64 fi.f1, .slice A l.length c], .agg #[.slice Ah hs.length ch, .slice Ap (keptOf l).ps.length cp, .map (some Bm)], .slice Ah hs.length ch, .agg #[.int .i64 ho.f0, .int .i64 ho.f1, .int .i64 fi.f0, .int .i64 fi.f1, .slice A l.length c], .slice (some ⟨ga, 0, none⟩) KA.length gc, .int .i64 KA.length, .int .i64 k, .bool true, .pointer (some ⟨ga, k * 2, none⟩), .agg #[.int .u8 a.1, .int .i64 a.2], .map (some (w.heap.size + 1)), .agg #[.int .u8 a.1, .int .i64 a.2], .pointer (some ⟨w.heap.size, 4, none⟩), .slice A l.length c, .int .i64 ((l.length : Int)), u27, u28, undef, undef, undef, undef, undef, undef, undef, undef, undef, undef, undef, undef, undef, undef, undef, undef, undef, undef, undef, undef, undef, undef, undef, undef, undef, undef, undef, undef, undef, undef, undef, undef, undef, undef, undef, undef, undef, undef, undef, undef, undef, undef, undef, undef, undef, undef, undef, undef, undef, undef, undef, undef, undef, undef, undef, undef, undef, undef, undef, undef, undef, undef, undef, undef, undef, undef, undef, undef, undef, undef, undef, undef, undef, undef, undef, undef, undef, undef, undef, undef, undef, undef, undef, undef, undef, undef, undef, undef], defers := [] }
        mixed (by kernel_rfl) rfl (Ahead.of3 22 27 rfl rfl (by kernel_rfl) rfl rfl) ?_ ?_ ?_ rfl ?_
      · exact ⟨y0, y1, y2, y3, y4, y5, y6, y7, (Below.refl _ _).drew⟩
      · refine EachOp3.ops rfl ⟨?_, ?_, ?_, ?_, ?_, trivial⟩
        · exact .inr (LookOp.either (fun _ _ h => h.1) (LookOp.val 22 _ rfl rfl fun V ⟨y0, y1, y2, y3, y4, y5, y6, y7, hB_⟩ => by go_simp))
        · exact .inr (LookOp.either (fun _ _ h => h.1) (LookOp.val 23 _ rfl rfl fun V ⟨y0, y1, y2, y3, y4, y5, y6, y7, hB_⟩ => by go_simp))
        · exact .inr (LookOp.either (fun _ _ h => h.1) (LookOp.val 24 _ rfl rfl fun V ⟨y0, y1, y2, y3, y4, y5, y6, y7, hB_⟩ => by go_simp))
        · exact .inr (LookOp.either (fun _ _ h => h.1) (LookOp.val 25 _ rfl rfl fun V ⟨y0, y1, y2, y3, y4, y5, y6, y7, hB_⟩ => by go_simp))
        · exact .inr (LookOp.either (fun _ _ h => h.1) (LookOp.val 26 _ rfl rfl fun V ⟨y0, y1, y2, y3, y4, y5, y6, y7, hB_⟩ => by go_simp))
      · refine ⟨rfl, fun V ⟨y0, y1, y2, y3, y4, y5, y6, y7, hB_⟩ => ?_⟩
        have hms := make_spans (n := l.length) (by have := HL.out; omega) V
        have hgr := (Below.refl V.heap.size V).alloc (Nat.le_refl _) (.cells (sF (List.replicate l.length z23)).toArray 23)
        exact ⟨.slice (some ⟨V.heap.size, 0, none⟩) l.length l.length, V.alloc (.cells (sF (List.replicate l.length z23)).toArray 23), by go_simp, ⟨cell_grow y0 hgr, cell_grow y1 hgr, cell_grow y2 hgr, cell_grow y3 hgr, cell_grow y4 hgr, cell_grow y5 hgr, cell_grow y6 hgr, cell_grow y7 hgr, hB_.trans (hgr.mono hB_.size)⟩, V, rfl, hB_, rfl⟩
      · rintro u V1 ⟨⟨y0, y1, y2, y3, y4, y5, y6, y7, hB_⟩, V, rfl, hV, rfl⟩
        obtain ⟨hC5, hra5⟩ := HQ.out
        have hgr := (Below.refl V.heap.size V).alloc (Nat.le_refl _) (.cells (sF (List.replicate l.length z23)).toArray 23)
        have hV2 := hV.trans (hgr.mono hV.size)
        have hnx := World.alloc_heap_new V (.cells (sF (List.replicate l.length z23)).toArray 23)
        obtain ⟨es, cl, hmu, hmi⟩ := run_putA (a := a) (g := V.heap.size) (hC5.grow hV2).ai.mp (find_notin HA.out.2)
        have hadd := hC5.add hV2 hnx hV.size (by simp) HA.out.2 hmi
        simp only [ite_self] at hadd
        obtain ⟨es', cl', m1, _⟩ := (hC5.grow hV2).ai.mp
        have hra6 := ownsRow_putObj (rings_set hra5 hV2) (.map es cl) m1 rfl
        generalize V.alloc (.cells (sF (List.replicate l.length z23)).toArray 23) = V2 at *
        generalize V.heap.size = Bx at *
        have hta : KA.take (k + 1) = KA.take k ++ [a] := by rw [List.take_succ_eq_append_getElem HLT.out, HA.out.1]
        have HF := hid (And.intro hadd (And.intro hra6 hta))
        clear hC5 hra5 hgr hV2 hnx hmi hadd hra6 m1 hV hta HQ hB_ y0 y1 y2 y3 y4 y5 y6 y7
        go_wp2
        go_roundw
        case rel => exact ⟨k + 1, by have := HLT.out; omega, by go_num, hid ⟨_, by rw [HF.out.2.2]; exact HF.out.1, HF.out.2.1⟩⟩
        case measure => have := HLT.out; simp [intOf]; omega
    · obtain rfl : k = KA.length := by omega
      obtain ⟨g, hC, _⟩ := HX.out
      rw [List.take_length] at hC
      have HC := hid hC
      clear hC HX
      have y4 := blkCell HC.out.bx 4
      simp at y4
      have HM := hid (show ∀ a ∈ accs hs.length, a ∈ KA by rw [HKA.out]; exact fun a h => h)
      have HRO := hid (show ∀ k (h : k < l.length) (x : S36), l[k] = x → (x.f1 = 1 ∨ x.f1 = 5 → cnt isHeap (l.take k) < hs.length ∧ cnt isHeap (l.take (k + 1)) = cnt isHeap (l.take k) + 1) ∧ (¬ (x.f1 = 1 ∨ x.f1 = 5) → cnt isHeap (l.take (k + 1)) = cnt isHeap (l.take k)) ∧ (x.f1 = 2 → 0 ≤ x.f2 ∧ x.f2 < hs.length) by rw [← HHS.out]; exact fun k h x hx => round_ok HV.out h hx)
      go_upto_region 11 with fail
      clear y4
      go_loopw [7, 33] (fun v7 v33 X => ∃ k : Nat, k ≤ l.length ∧ v33 = .int .i64 k ∧ v7 = .int .i64 (cnt isHeap (l.take k) : Nat) ∧ Hid (CI w ho fi A c l (.slice Ah hs.length ch) hs KA g (chgK l hs k) X)) (fun v7 v33 _ => l.length - (intOf v33).toNat)
      case atStart => exact ⟨0, by omega, rfl, rfl, hid (by rw [chgK_zero]; exact HC.out)⟩
      case round =>
        obtain ⟨k, hk, rfl, rfl, HX⟩ := hrel
        rename World => Wk
        by_cases hlt : k < l.length
        · obtain ⟨x, hx⟩ : ∃ x, l[k] = x := ⟨_, rfl⟩
          have hro := HRO.out k hlt x hx
          have hcm : cnt isHeap (l.take k) ≤ 256 := by have := cnt_take_le isHeap l k; have := hs_cnt l; rw [HHS.out] at this; have := HN.out; omega
          have hcc := at_T36 (Kd.C_below hr HX.out.be) k (by omega) (by omega)
          rw [rdP hlt, hx] at hcc
          simp only [Int.toNat_natCast] at hcc
          obtain ⟨ad, rfl, k0, k1, k2, k3, k4, k5, k6, k7, k8, k9, k10⟩ := hcc
          have hkl : k ≤ 256 := by have := HL.out; omega
          have HXX := hid (And.intro hlt (And.intro hx hro))
          clear hro hx
          obtain ⟨cm, hcmE⟩ : ∃ cm, cnt isHeap (l.take k) = cm := ⟨_, rfl⟩
          have HCM := hid hcmE
          rw [hcmE] at hcm ⊢
          go_upto_region 14 with fail
          have hgr := (Below.refl Wk.heap.size Wk).alloc (Nat.le_refl _) (.cells #[.int .i64 x.f0, .int .u8 x.f1, .int .i64 x.f2, .int .i64 x.f3, .int .i64 x.f4.f0, .int .i64 x.f4.f1, .int .i64 x.f5.f0, .int .i64 x.f5.f1, .int .i64 x.f6.f0, .int .i64 x.f6.f1, .int .i64 x.f7] 36)
          have hnew := World.alloc_heap_new Wk (.cells #[.int .i64 x.f0, .int .u8 x.f1, .int .i64 x.f2, .int .i64 x.f3, .int .i64 x.f4.f0, .int .i64 x.f4.f1, .int .i64 x.f5.f0, .int .i64 x.f5.f1, .int .i64 x.f6.f0, .int .i64 x.f6.f1, .int .i64 x.f7] 36)
          have hC5 := HX.out.grow hgr
          generalize Wk.alloc (.cells #[.int .i64 x.f0, .int .u8 x.f1, .int .i64 x.f2, .int .i64 x.f3, .int .i64 x.f4.f0, .int .i64 x.f4.f1, .int .i64 x.f5.f0, .int .i64 x.f5.f1, .int .i64 x.f6.f0, .int .i64 x.f6.f1, .int .i64 x.f7] 36) = W5 at *
          generalize Wk.heap.size = B5 at *
          have HC5 := hid hC5
          have HE5 := hid hnew
          clear hgr hnew hC5 k0 k1 k2 k3 k4 k5 k6 k7 k8 k9 k10 HX
          by_cases hk1 : x.f1 = 1
          · have f1 : (x.f1 == 1) = true := by simpa using hk1
            have HKE := hid hk1
            clear hk1
            have y4 := blkCell HE5.out 4
            have y5 := blkCell HE5.out 5
            simp at y4 y5
            go_wp2_with fail
            refine (grams_any x.f4 _).mono ?_
            rintro e W6 ⟨rfl, hb⟩
            have HW6 := hid (HC5.out.grow hb)
            have hE5 := hid (heap_grow HE5.out hb)
            clear HE5
            have HE5 := hid hE5.out
            clear hb hE5
            have hmem1 : ((2, (cm : Int)) : Int × Int) ∈ KA := HM.out _ (acc_h (by omega) (by have := (HXX.out.2.2.1 (.inl HKE.out)).1; rw [HCM.out] at this; omega))
            have HP := hid (put_any W6 _ _ _ KA g _ HW6.out.ai ((2, (cm : Int))) hmem1 k HXX.out.1 (by have := HL.out; omega) (gramsS x.f4) (w.heap.size + 1 + 1) (blkCell HW6.out.ou 0))
            clear y4 y5
            go_wp2_with fail
            refine HP.out.mono ?_
            rintro e W7 ⟨rfl, V, hV, rfl⟩
            have hC7 := (HW6.out.grow hV).put hmem1 HXX.out.1 (gramsS x.f4)
            have hE7 := set_other (p := ⟨g ((2, (cm : Int))), k * 2 + 1, none⟩) (v := .int .i64 (gramsS x.f4).f1) (by exact (blk_ne (heap_grow HE5.out hV) ((HW6.out.grow hV).ai.bl _ hmem1) (by decide))) (set_other (p := ⟨g ((2, (cm : Int))), k * 2, none⟩) (v := .int .i64 (gramsS x.f4).f0) (by exact (blk_ne (heap_grow HE5.out hV) ((HW6.out.grow hV).ai.bl _ hmem1) (by decide))) (heap_grow HE5.out hV))
            generalize ((V.setCell ⟨g ((2, (cm : Int))), k * 2, none⟩ (.int .i64 (gramsS x.f4).f0)).setCell ⟨g ((2, (cm : Int))), k * 2 + 1, none⟩ (.int .i64 (gramsS x.f4).f1)) = W8 at *
            clear HP hV
            rw [upd_one l hs HXX.out.1 HXX.out.2.1 _ _ (fun a => by unfold chgX; rw [if_pos HKE.out, HCM.out])] at hC7
            have HF := hid hC7
            clear hC7 hE7
            go_wp2
            go_roundw
            case rel => exact ⟨k + 1, by have := HXX.out.1; omega, by go_num, by rw [(HXX.out.2.2.1 (.inl HKE.out)).2, HCM.out] <;> go_num, hid HF.out⟩
            case measure => have := HXX.out.1; simp [intOf]; omega
          by_cases hk5 : x.f1 = 5
          · have f1 : (x.f1 == 1) = false := by simpa using hk1
            have f5 : (x.f1 == 5) = true := by simpa using hk5
            have HKE := hid hk5
            have HN1 := hid hk1
            clear hk5
            clear hk1
            have y4 := blkCell HE5.out 4
            have y5 := blkCell HE5.out 5
            simp at y4 y5
            go_wp2_with fail
            refine (grams_any x.f4 _).mono ?_
            rintro e W6 ⟨rfl, hb⟩
            have HW6 := hid (HC5.out.grow hb)
            have hE5 := hid (heap_grow HE5.out hb)
            clear HE5
            have HE5 := hid hE5.out
            clear hb hE5
            go_wp2_with fail
            refine (minus_any (gramsS x.f4) _).mono ?_
            rintro e W7 ⟨rfl, hb⟩
            have HW7 := hid (HW6.out.grow hb)
            have hE5 := hid (heap_grow HE5.out hb)
            clear HE5
            have HE5 := hid hE5.out
            clear hb hE5
            have hmem1 : ((1, 0) : Int × Int) ∈ KA := HM.out _ (acc_o _)
            have HP := hid (put_any W7 _ _ _ KA g _ HW7.out.ai ((1, 0)) hmem1 k HXX.out.1 (by have := HL.out; omega) (minusS (gramsS x.f4)) (w.heap.size + 1 + 1) (blkCell HW7.out.ou 0))
            clear y4 y5
            go_wp2_with fail
            refine HP.out.mono ?_
            rintro e W7 ⟨rfl, V, hV, rfl⟩
            have hC7 := (HW7.out.grow hV).put hmem1 HXX.out.1 (minusS (gramsS x.f4))
            have hE7 := set_other (p := ⟨g ((1, 0)), k * 2 + 1, none⟩) (v := .int .i64 (minusS (gramsS x.f4)).f1) (by exact (blk_ne (heap_grow HE5.out hV) ((HW7.out.grow hV).ai.bl _ hmem1) (by decide))) (set_other (p := ⟨g ((1, 0)), k * 2, none⟩) (v := .int .i64 (minusS (gramsS x.f4)).f0) (by exact (blk_ne (heap_grow HE5.out hV) ((HW7.out.grow hV).ai.bl _ hmem1) (by decide))) (heap_grow HE5.out hV))
            generalize ((V.setCell ⟨g ((1, 0)), k * 2, none⟩ (.int .i64 (minusS (gramsS x.f4)).f0)).setCell ⟨g ((1, 0)), k * 2 + 1, none⟩ (.int .i64 (minusS (gramsS x.f4)).f1)) = W8 at *
            clear HP hV
            clear HE5
            have HE5 := hid hE7
            have HW8 := hid hC7
            clear hC7 hE7
            have y4 := blkCell HE5.out 4
            have y5 := blkCell HE5.out 5
            simp at y4 y5
            go_wp2_with fail
            refine (grams_any x.f4 _).mono ?_
            rintro e W9 ⟨rfl, hb⟩
            have HW9 := hid (HW8.out.grow hb)
            have hE5 := hid (heap_grow HE5.out hb)
            clear HE5
            have HE5 := hid hE5.out
            clear hb hE5
            have hmem2 : ((2, (cm : Int)) : Int × Int) ∈ KA := HM.out _ (acc_h (by omega) (by have := (HXX.out.2.2.1 (.inr HKE.out)).1; rw [HCM.out] at this; omega))
            have HP := hid (put_any W9 _ _ _ KA g _ HW9.out.ai ((2, (cm : Int))) hmem2 k HXX.out.1 (by have := HL.out; omega) (gramsS x.f4) (w.heap.size + 1 + 1) (blkCell HW9.out.ou 0))
            clear y4 y5
            go_wp2_with fail
            refine HP.out.mono ?_
            rintro e W7 ⟨rfl, V, hV, rfl⟩
            have hC7 := (HW9.out.grow hV).put hmem2 HXX.out.1 (gramsS x.f4)
            have hE7 := set_other (p := ⟨g ((2, (cm : Int))), k * 2 + 1, none⟩) (v := .int .i64 (gramsS x.f4).f1) (by exact (blk_ne (heap_grow HE5.out hV) ((HW9.out.grow hV).ai.bl _ hmem2) (by decide))) (set_other (p := ⟨g ((2, (cm : Int))), k * 2, none⟩) (v := .int .i64 (gramsS x.f4).f0) (by exact (blk_ne (heap_grow HE5.out hV) ((HW9.out.grow hV).ai.bl _ hmem2) (by decide))) (heap_grow HE5.out hV))
            generalize ((V.setCell ⟨g ((2, (cm : Int))), k * 2, none⟩ (.int .i64 (gramsS x.f4).f0)).setCell ⟨g ((2, (cm : Int))), k * 2 + 1, none⟩ (.int .i64 (gramsS x.f4).f1)) = Wb at *
            clear HP hV
            rw [upd_two l hs HXX.out.1 HXX.out.2.1 _ _ _ _ (fun a => by unfold chgX; rw [if_neg HN1.out, if_pos HKE.out, HCM.out])] at hC7
            have HF := hid hC7
            clear hC7 hE7
            go_wp2
            go_roundw
            case rel => exact ⟨k + 1, by have := HXX.out.1; omega, by go_num, by rw [(HXX.out.2.2.1 (.inr HKE.out)).2, HCM.out] <;> go_num, hid HF.out⟩
            case measure => have := HXX.out.1; simp [intOf]; omega
          by_cases hk2 : x.f1 = 2
          · have f1 : (x.f1 == 1) = false := by simpa using hk1
            have f5 : (x.f1 == 5) = false := by simpa using hk5
            have f2 : (x.f1 == 2) = true := by simpa using hk2
            have HKE := hid hk2
            have HN1 := hid hk1
            have HN5 := hid hk5
            clear hk2
            clear hk1 hk5
            obtain ⟨gh, gc2, hgh⟩ : ∃ gh gc2, Ah = some ⟨gh, 0, none⟩ ∧ gc2 = ch := by
              rcases HC5.out.rh.2 with ⟨h1, h2⟩ | ⟨g1, c1, u1, h1, _⟩
              · injection h1 with e1 e2 e3; have := HXX.out.2.2.2.2 HKE.out; omega
              · injection h1 with e1 e2 e3; exact ⟨g1, c1, e1, e3.symm⟩
            obtain ⟨rfl, rfl⟩ := hgh
            obtain ⟨jh, hjh⟩ : ∃ jh : Nat, x.f2 = jh := ⟨x.f2.toNat, by have := HXX.out.2.2.2.2 HKE.out; omega⟩
            have HJ := hid (And.intro hjh (show jh < hs.length by have := HXX.out.2.2.2.2 HKE.out; omega))
            clear hjh
            have y2 := blkCell HE5.out 2
            have y4 := blkCell HE5.out 4
            have y5 := blkCell HE5.out 5
            simp at y2 y4 y5
            rw [HJ.out.1] at y2
            obtain ⟨hp, hhp⟩ : ∃ hp, hs.getD jh z60 = hp := ⟨_, rfl⟩
            have r0 : W5.cell? ⟨gh, jh * 6, none⟩ = some (.int .i64 hp.f0.f0) := by have e := HC5.out.rh.cellAt (jh * 6 + 0) (by have := HJ.out.2; omega); rw [hF_at HJ.out.2 (by omega), hhp] at e; exact e
            have r1 : W5.cell? ⟨gh, jh * 6 + 1, none⟩ = some (.int .i64 hp.f0.f1) := by have e := HC5.out.rh.cellAt (jh * 6 + 1) (by have := HJ.out.2; omega); rw [hF_at HJ.out.2 (by omega), hhp] at e; exact e
            have r2 : W5.cell? ⟨gh, jh * 6 + 2, none⟩ = some (.int .i64 hp.f1.f0) := by have e := HC5.out.rh.cellAt (jh * 6 + 2) (by have := HJ.out.2; omega); rw [hF_at HJ.out.2 (by omega), hhp] at e; exact e
            have r3 : W5.cell? ⟨gh, jh * 6 + 3, none⟩ = some (.int .i64 hp.f1.f1) := by have e := HC5.out.rh.cellAt (jh * 6 + 3) (by have := HJ.out.2; omega); rw [hF_at HJ.out.2 (by omega), hhp] at e; exact e
            have r4 : W5.cell? ⟨gh, jh * 6 + 4, none⟩ = some (.int .i64 hp.f2.f0) := by have e := HC5.out.rh.cellAt (jh * 6 + 4) (by have := HJ.out.2; omega); rw [hF_at HJ.out.2 (by omega), hhp] at e; exact e
            have r5 : W5.cell? ⟨gh, jh * 6 + 5, none⟩ = some (.int .i64 hp.f2.f1) := by have e := HC5.out.rh.cellAt (jh * 6 + 5) (by have := HJ.out.2; omega); rw [hF_at HJ.out.2 (by omega), hhp] at e; exact e
            have hjl : (jh : Int) < (hs.length : Int) := by have := HJ.out.2; omega
            have hjl2 := HJ.out.2
            have hjd : decide ((jh : Int) < (hs.length : Int)) = true := decide_eq_true hjl
            go_upto_region 22 with fail
            refine wp_flow [[], [], [], [2], [], [], [5], [4, 6, 5], [7, 4, 6, 5], [3, 2, 8, 7, 4, 6, 5], [0, 1, 9, 3, 2, 8, 7, 4, 6, 5]] 10
              (fun V => V.cell? ⟨B5, 2, none⟩ = some (.int .i64 (jh : Int)) ∧ V.cell? ⟨B5, 4, none⟩ = some (.int .i64 x.f4.f0) ∧ V.cell? ⟨B5, 5, none⟩ = some (.int .i64 x.f4.f1) ∧ V.cell? ⟨gh, jh * 6, none⟩ = some (.int .i64 hp.f0.f0) ∧ V.cell? ⟨gh, jh * 6 + 1, none⟩ = some (.int .i64 hp.f0.f1) ∧ V.cell? ⟨gh, jh * 6 + 2, none⟩ = some (.int .i64 hp.f1.f0) ∧ V.cell? ⟨gh, jh * 6 + 3, none⟩ = some (.int .i64 hp.f1.f1) ∧ V.cell? ⟨gh, jh * 6 + 4, none⟩ = some (.int .i64 hp.f2.f0) ∧ V.cell? ⟨gh, jh * 6 + 5, none⟩ = some (.int .i64 hp.f2.f1) ∧ Below W5.heap.size W5 V)
              { tmps := #[.agg #[.int .i64 ho.f0, .int .i64 ho.f1, .int .i64 fi.f0, .int .i64 fi.f1, .slice (some ad) l.length c], .pointer (some ⟨w.heap.size, 0, none⟩), .map none, .pointer (some ⟨w.heap.size + 1 + 1, 0, none⟩), .slice (some ⟨gh, 0, none⟩) hs.length gc2, undef, u6, .int .i64 ((cm : Int)), .func (.func 70) #[] #[.pointer (some ⟨w.heap.size + 1 + 1, 0, none⟩)], .int .i64 k, .pointer (some ⟨B5, 0, none⟩), .map (some (w.heap.size + 1)), .agg #[.int .i64 ho.f0, .int .i64 ho.f1, .int .i64 fi.f0, .int .i64 fi.f1, .slice (some ad) l.length c], .agg #[.slice (some ⟨gh, 0, none⟩) hs.length gc2, .slice Ap (keptOf l).ps.length cp, .map (some Bm)], .slice (some ⟨gh, 0, none⟩) hs.length gc2, .agg #[.int .i64 ho.f0, .int .i64 ho.f1, .int .i64 fi.f0, .int .i64 fi.f1, .slice (some ad) l.length c], .slice Aa KA.length ca, .int .i64 KA.length, .int .i64 KA.length, .bool false, u20, u21, u22, u23, u24, u25, u26, u27, u28, .func (.func 70) #[] #[.pointer (some ⟨w.heap.size + 1 + 1, 0, none⟩)], .pointer (some ⟨w.heap.size, 4, none⟩), .slice (some ad) l.length c, .int .i64 l.length, .int .i64 k, .bool true, .int .i64 k, .pointer (some (ad.add (k * 11))), .agg #[.int .i64 x.f0, .int .u8 x.f1, .int .i64 x.f2, .int .i64 x.f3, .int .i64 x.f4.f0, .int .i64 x.f4.f1, .int .i64 x.f5.f0, .int .i64 x.f5.f1, .int .i64 x.f6.f0, .int .i64 x.f6.f1, .int .i64 x.f7], .pointer (some ⟨B5, 1, none⟩), .int .u8 x.f1, .bool false, .bool false, u42, u43, u44, u45, u46, u47, u48, u49, u50, .bool false, .bool false, u53, u54, u55, u56, u57, u58, u59, u60, u61, u62, u63, u64, u65, u66, u67, u68, .bool true, .bool true, .func (.func 70) #[] #[.pointer (some ⟨w.heap.size + 1 + 1, 0, none⟩)], .int .i64 k, .pointer (some ⟨B5, 4, none⟩), .agg #[.int .i64 x.f4.f0, .int .i64 x.f4.f1], .slice (some ⟨gh, 0, none⟩) hs.length gc2, .pointer (some ⟨B5, 2, none⟩), .int .i64 ((jh : Int)), .pointer (some ⟨gh, jh * 6, none⟩), .agg #[.int .i64 hp.f0.f0, .int .i64 hp.f0.f1, .int .i64 hp.f1.f0, .int .i64 hp.f1.f1, .int .i64 hp.f2.f0, .int .i64 hp.f2.f1], .agg #[.int .i64 ((glassS x.f4 hp).f0), .int .i64 ((glassS x.f4 hp).f1)], u81, u82, u83, u84, u85, u86, u87, u88, u89, u90, u91, u92, u93, u94, u95, u96, u97, u98, u99, u100, u101, u102, u103, u104, u105, u106, u107, u108, u109, u110, u111, u112, u113, u114, u115, undef], defers := [] }
              mixed (by kernel_rfl) rfl (Ahead.of3 71 81 rfl rfl (by kernel_rfl) rfl rfl) ?_ (AllFlow.ops rfl ?_) rfl ?_
            · exact ⟨y2, y4, y5, r0, r1, r2, r3, r4, r5, (Below.refl _ _).drew⟩
            · refine ⟨?_, ?_, ?_, ?_, ?_, ?_, ?_, ?_, ?_, ?_, trivial⟩
              · exact .val 71 _ rfl rfl fun V ⟨x0, x1, x2, x3, x4, x5, x6, x7, x8, hB_⟩ => by go_simp
              · exact .val 72 _ rfl rfl fun V ⟨x0, x1, x2, x3, x4, x5, x6, x7, x8, hB_⟩ => by go_simp
              · exact .val 73 _ rfl rfl fun V ⟨x0, x1, x2, x3, x4, x5, x6, x7, x8, hB_⟩ => by go_simp
              · exact .val 74 _ rfl rfl fun V ⟨x0, x1, x2, x3, x4, x5, x6, x7, x8, hB_⟩ => by go_simp
              · exact .val 75 _ rfl rfl fun V ⟨x0, x1, x2, x3, x4, x5, x6, x7, x8, hB_⟩ => by go_simp
              · exact .val 76 _ rfl rfl fun V ⟨x0, x1, x2, x3, x4, x5, x6, x7, x8, hB_⟩ => by go_simp
              · exact .val 77 _ rfl rfl fun V ⟨x0, x1, x2, x3, x4, x5, x6, x7, x8, hB_⟩ => by go_simp
              · exact .val 78 _ rfl rfl fun V ⟨x0, x1, x2, x3, x4, x5, x6, x7, x8, hB_⟩ => by go_simp
              · exact .val 79 _ rfl rfl fun V ⟨x0, x1, x2, x3, x4, x5, x6, x7, x8, hB_⟩ => by go_simp
              · refine .call 80 (.agg #[.int .i64 ((glassS x.f4 hp).f0), .int .i64 ((glassS x.f4 hp).f1)]) 59 #[.agg #[.int .i64 x.f4.f0, .int .i64 x.f4.f1], .agg #[.int .i64 hp.f0.f0, .int .i64 hp.f0.f1, .int .i64 hp.f1.f0, .int .i64 hp.f1.f1, .int .i64 hp.f2.f0, .int .i64 hp.f2.f1]] rfl rfl (fun V ⟨x0, x1, x2, x3, x4, x5, x6, x7, x8, hB_⟩ => by go_simp) fun V ⟨x0, x1, x2, x3, x4, x5, x6, x7, x8, hB_⟩ => ?_
                refine (glass_any x.f4 hp _).mono ?_
                rintro e w' ⟨rfl, hb⟩
                exact ⟨rfl, cell_grow x0 hb, cell_grow x1 hb, cell_grow x2 hb, cell_grow x3 hb, cell_grow x4 hb, cell_grow x5 hb, cell_grow x6 hb, cell_grow x7 hb, cell_grow x8 hb, hB_.trans (hb.mono hB_.size)⟩
            rintro V ⟨x0, x1, x2, x3, x4, x5, x6, x7, x8, hB_⟩
            have HV6 := hid (HC5.out.grow hB_)
            have hE5 := hid (heap_grow HE5.out hB_)
            clear HE5
            have HE5 := hid hE5.out
            have HHP := hid hhp
            clear hE5 hhp hB_ x0 x1 x2 x3 x4 x5 x6 x7 x8
            have hmem1 : ((0, 0) : Int × Int) ∈ KA := HM.out _ (acc_f _)
            have HP := hid (put_any V _ _ _ KA g _ HV6.out.ai ((0, 0)) hmem1 k HXX.out.1 (by have := HL.out; omega) (glassS x.f4 hp) (w.heap.size + 1 + 1) (blkCell HV6.out.ou 0))
            clear y2 y4 y5 r0 r1 r2 r3 r4 r5 hjl hjl2 hjd
            go_wp2_with fail
            refine HP.out.mono ?_
            rintro e W7 ⟨rfl, V2, hV, rfl⟩
            have hC7 := (HV6.out.grow hV).put hmem1 HXX.out.1 (glassS x.f4 hp)
            have hE7 := set_other (p := ⟨g ((0, 0)), k * 2 + 1, none⟩) (v := .int .i64 (glassS x.f4 hp).f1) (by exact (blk_ne (heap_grow HE5.out hV) ((HV6.out.grow hV).ai.bl _ hmem1) (by decide))) (set_other (p := ⟨g ((0, 0)), k * 2, none⟩) (v := .int .i64 (glassS x.f4 hp).f0) (by exact (blk_ne (heap_grow HE5.out hV) ((HV6.out.grow hV).ai.bl _ hmem1) (by decide))) (heap_grow HE5.out hV))
            generalize ((V2.setCell ⟨g ((0, 0)), k * 2, none⟩ (.int .i64 (glassS x.f4 hp).f0)).setCell ⟨g ((0, 0)), k * 2 + 1, none⟩ (.int .i64 (glassS x.f4 hp).f1)) = W8 at *
            clear HP hV
            clear HE5
            have HE5 := hid hE7
            have HW8 := hid hC7
            clear hC7 hE7
            have y2 := blkCell HE5.out 2
            have y4 := blkCell HE5.out 4
            have y5 := blkCell HE5.out 5
            simp at y2 y4 y5
            rw [HJ.out.1] at y2
            go_upto_region 23 with fail
            refine wp_flow [[], [], [1], [], [], [4], [5, 4], [6, 5, 4], [0, 2, 1, 3, 7, 6, 5, 4]] 8
              (fun V => V.cell? ⟨B5, 2, none⟩ = some (.int .i64 (jh : Int)) ∧ V.cell? ⟨B5, 4, none⟩ = some (.int .i64 x.f4.f0) ∧ V.cell? ⟨B5, 5, none⟩ = some (.int .i64 x.f4.f1) ∧ Below W8.heap.size W8 V)
              { tmps := #[.agg #[.int .i64 ho.f0, .int .i64 ho.f1, .int .i64 fi.f0, .int .i64 fi.f1, .slice (some ad) l.length c], .pointer (some ⟨w.heap.size, 0, none⟩), .map none, .pointer (some ⟨w.heap.size + 1 + 1, 0, none⟩), .slice (some ⟨gh, 0, none⟩) hs.length gc2, undef, u6, .int .i64 ((cm : Int)), .func (.func 70) #[] #[.pointer (some ⟨w.heap.size + 1 + 1, 0, none⟩)], .int .i64 k, .pointer (some ⟨B5, 0, none⟩), .map (some (w.heap.size + 1)), .agg #[.int .i64 ho.f0, .int .i64 ho.f1, .int .i64 fi.f0, .int .i64 fi.f1, .slice (some ad) l.length c], .agg #[.slice (some ⟨gh, 0, none⟩) hs.length gc2, .slice Ap (keptOf l).ps.length cp, .map (some Bm)], .slice (some ⟨gh, 0, none⟩) hs.length gc2, .agg #[.int .i64 ho.f0, .int .i64 ho.f1, .int .i64 fi.f0, .int .i64 fi.f1, .slice (some ad) l.length c], .slice Aa KA.length ca, .int .i64 KA.length, .int .i64 KA.length, .bool false, u20, u21, u22, u23, u24, u25, u26, u27, u28, .func (.func 70) #[] #[.pointer (some ⟨w.heap.size + 1 + 1, 0, none⟩)], .pointer (some ⟨w.heap.size, 4, none⟩), .slice (some ad) l.length c, .int .i64 l.length, .int .i64 k, .bool true, .int .i64 k, .pointer (some (ad.add (k * 11))), .agg #[.int .i64 x.f0, .int .u8 x.f1, .int .i64 x.f2, .int .i64 x.f3, .int .i64 x.f4.f0, .int .i64 x.f4.f1, .int .i64 x.f5.f0, .int .i64 x.f5.f1, .int .i64 x.f6.f0, .int .i64 x.f6.f1, .int .i64 x.f7], .pointer (some ⟨B5, 1, none⟩), .int .u8 x.f1, .bool false, .bool false, u42, u43, u44, u45, u46, u47, u48, u49, u50, .bool false, .bool false, u53, u54, u55, u56, u57, u58, u59, u60, u61, u62, u63, u64, u65, u66, u67, u68, .bool true, .bool true, .func (.func 70) #[] #[.pointer (some ⟨w.heap.size + 1 + 1, 0, none⟩)], .int .i64 k, .pointer (some ⟨B5, 4, none⟩), .agg #[.int .i64 x.f4.f0, .int .i64 x.f4.f1], .slice (some ⟨gh, 0, none⟩) hs.length gc2, .pointer (some ⟨B5, 2, none⟩), .int .i64 jh, .pointer (some ⟨gh, jh * 6, none⟩), .agg #[.int .i64 hp.f0.f0, .int .i64 hp.f0.f1, .int .i64 hp.f1.f0, .int .i64 hp.f1.f1, .int .i64 hp.f2.f0, .int .i64 hp.f2.f1], .agg #[.int .i64 (glassS x.f4 hp).f0, .int .i64 (glassS x.f4 hp).f1], .tuple #[], .func (.func 70) #[] #[.pointer (some ⟨w.heap.size + 1 + 1, 0, none⟩)], .pointer (some ⟨B5, 2, none⟩), .int .i64 ((jh : Int)), .int .i64 k, .pointer (some ⟨B5, 4, none⟩), .agg #[.int .i64 x.f4.f0, .int .i64 x.f4.f1], .agg #[.int .i64 ((gramsS x.f4).f0), .int .i64 ((gramsS x.f4).f1)], .agg #[.int .i64 ((minusS (gramsS x.f4)).f0), .int .i64 ((minusS (gramsS x.f4)).f1)], u90, u91, u92, u93, u94, u95, u96, u97, u98, u99, u100, u101, u102, u103, u104, u105, u106, u107, u108, u109, u110, u111, u112, u113, u114, u115, undef], defers := [] }
              mixed (by kernel_rfl) rfl (Ahead.of3 82 90 rfl rfl (by kernel_rfl) rfl rfl) ?_ (AllFlow.ops rfl ?_) rfl ?_
            · exact ⟨y2, y4, y5, (Below.refl _ _).drew⟩
            · refine ⟨?_, ?_, ?_, ?_, ?_, ?_, ?_, ?_, trivial⟩
              · exact .val 82 _ rfl rfl fun V ⟨x0, x1, x2, hB_⟩ => by go_simp
              · exact .val 83 _ rfl rfl fun V ⟨x0, x1, x2, hB_⟩ => by go_simp
              · exact .val 84 _ rfl rfl fun V ⟨x0, x1, x2, hB_⟩ => by go_simp
              · exact .val 85 _ rfl rfl fun V ⟨x0, x1, x2, hB_⟩ => by go_simp
              · exact .val 86 _ rfl rfl fun V ⟨x0, x1, x2, hB_⟩ => by go_simp
              · exact .val 87 _ rfl rfl fun V ⟨x0, x1, x2, hB_⟩ => by go_simp
              · refine .call 88 (.agg #[.int .i64 ((gramsS x.f4).f0), .int .i64 ((gramsS x.f4).f1)]) 71 #[.agg #[.int .i64 x.f4.f0, .int .i64 x.f4.f1]] rfl rfl (fun V ⟨x0, x1, x2, hB_⟩ => by go_simp) fun V ⟨x0, x1, x2, hB_⟩ => ?_
                refine (grams_any x.f4 _).mono ?_
                rintro e w' ⟨rfl, hb⟩
                exact ⟨rfl, cell_grow x0 hb, cell_grow x1 hb, cell_grow x2 hb, hB_.trans (hb.mono hB_.size)⟩
              · refine .call 89 (.agg #[.int .i64 ((minusS (gramsS x.f4)).f0), .int .i64 ((minusS (gramsS x.f4)).f1)]) 72 #[.agg #[.int .i64 ((gramsS x.f4).f0), .int .i64 ((gramsS x.f4).f1)]] rfl rfl (fun V ⟨x0, x1, x2, hB_⟩ => by go_simp) fun V ⟨x0, x1, x2, hB_⟩ => ?_
                refine (minus_any (gramsS x.f4) _).mono ?_
                rintro e w' ⟨rfl, hb⟩
                exact ⟨rfl, cell_grow x0 hb, cell_grow x1 hb, cell_grow x2 hb, hB_.trans (hb.mono hB_.size)⟩
            rintro V ⟨x0, x1, x2, hB_⟩
            have HV9 := hid (HW8.out.grow hB_)
            have hE5 := hid (heap_grow HE5.out hB_)
            clear HE5
            have HE5 := hid hE5.out
            clear hE5 hB_ x0 x1 x2
            have hmem2 : ((2, (jh : Int)) : Int × Int) ∈ KA := HM.out _ (acc_h (by omega) (by have := HJ.out.2; omega))
            have HP := hid (put_any V _ _ _ KA g _ HV9.out.ai ((2, (jh : Int))) hmem2 k HXX.out.1 (by have := HL.out; omega) (minusS (gramsS x.f4)) (w.heap.size + 1 + 1) (blkCell HV9.out.ou 0))
            clear y2 y4 y5
            go_wp2_with fail
            refine HP.out.mono ?_
            rintro e W7 ⟨rfl, V2, hV, rfl⟩
            have hC7 := (HV9.out.grow hV).put hmem2 HXX.out.1 (minusS (gramsS x.f4))
            have hE7 := set_other (p := ⟨g ((2, (jh : Int))), k * 2 + 1, none⟩) (v := .int .i64 (minusS (gramsS x.f4)).f1) (by exact (blk_ne (heap_grow HE5.out hV) ((HV9.out.grow hV).ai.bl _ hmem2) (by decide))) (set_other (p := ⟨g ((2, (jh : Int))), k * 2, none⟩) (v := .int .i64 (minusS (gramsS x.f4)).f0) (by exact (blk_ne (heap_grow HE5.out hV) ((HV9.out.grow hV).ai.bl _ hmem2) (by decide))) (heap_grow HE5.out hV))
            generalize ((V2.setCell ⟨g ((2, (jh : Int))), k * 2, none⟩ (.int .i64 (minusS (gramsS x.f4)).f0)).setCell ⟨g ((2, (jh : Int))), k * 2 + 1, none⟩ (.int .i64 (minusS (gramsS x.f4)).f1)) = Wb at *
            clear HP hV
            rw [upd_two l hs HXX.out.1 HXX.out.2.1 _ _ _ _ (fun a => by unfold chgX; rw [if_neg HN1.out, if_neg HN5.out, if_pos HKE.out, HJ.out.1, Int.toNat_natCast, HHP.out])] at hC7
            have HF := hid hC7
            clear hC7 hE7
            go_wp2
            go_roundw
            case rel =>
              iterate 86 apply Exists.intro
              refine ⟨?_, rfl⟩
              exact ⟨k + 1, by have := HXX.out.1; omega, by go_num, by rw [(HXX.out.2.2.2.1 (by have := HKE.out; omega)), HCM.out] <;> go_num, hid HF.out⟩
            case measure => have := HXX.out.1; simp [intOf]; omega
          by_cases hk3 : x.f1 = 3
          · have f1 : (x.f1 == 1) = false := by simpa using hk1
            have f5 : (x.f1 == 5) = false := by simpa using hk5
            have f2 : (x.f1 == 2) = false := by simpa using hk2
            have f3 : (x.f1 == 3) = true := by simpa using hk3
            have HKE := hid hk3
            have HN1 := hid hk1
            have HN5 := hid hk5
            have HN2 := hid hk2
            clear hk3
            clear hk1 hk5 hk2
            have y4 := blkCell HE5.out 4
            have y5 := blkCell HE5.out 5
            simp at y4 y5
            go_wp2_with fail
            refine (grams_any x.f4 _).mono ?_
            rintro e W6 ⟨rfl, hb⟩
            have HW6 := hid (HC5.out.grow hb)
            have hE5 := hid (heap_grow HE5.out hb)
            clear HE5
            have HE5 := hid hE5.out
            clear hb hE5
            go_wp2_with fail
            refine (minus_any (gramsS x.f4) _).mono ?_
            rintro e W7 ⟨rfl, hb⟩
            have HW7 := hid (HW6.out.grow hb)
            have hE5 := hid (heap_grow HE5.out hb)
            clear HE5
            have HE5 := hid hE5.out
            clear hb hE5
            have hmem1 : ((0, 0) : Int × Int) ∈ KA := HM.out _ (acc_f _)
            have HP := hid (put_any W7 _ _ _ KA g _ HW7.out.ai ((0, 0)) hmem1 k HXX.out.1 (by have := HL.out; omega) (minusS (gramsS x.f4)) (w.heap.size + 1 + 1) (blkCell HW7.out.ou 0))
            clear y4 y5
            go_wp2_with fail
            refine HP.out.mono ?_
            rintro e W7 ⟨rfl, V, hV, rfl⟩
            have hC7 := (HW7.out.grow hV).put hmem1 HXX.out.1 (minusS (gramsS x.f4))
            have hE7 := set_other (p := ⟨g ((0, 0)), k * 2 + 1, none⟩) (v := .int .i64 (minusS (gramsS x.f4)).f1) (by exact (blk_ne (heap_grow HE5.out hV) ((HW7.out.grow hV).ai.bl _ hmem1) (by decide))) (set_other (p := ⟨g ((0, 0)), k * 2, none⟩) (v := .int .i64 (minusS (gramsS x.f4)).f0) (by exact (blk_ne (heap_grow HE5.out hV) ((HW7.out.grow hV).ai.bl _ hmem1) (by decide))) (heap_grow HE5.out hV))
            generalize ((V.setCell ⟨g ((0, 0)), k * 2, none⟩ (.int .i64 (minusS (gramsS x.f4)).f0)).setCell ⟨g ((0, 0)), k * 2 + 1, none⟩ (.int .i64 (minusS (gramsS x.f4)).f1)) = W8 at *
            clear HP hV
            clear HE5
            have HE5 := hid hE7
            have HW8 := hid hC7
            clear hC7 hE7
            have y4 := blkCell HE5.out 4
            have y5 := blkCell HE5.out 5
            simp at y4 y5
            go_wp2_with fail
            refine (grams_any x.f4 _).mono ?_
            rintro e W9 ⟨rfl, hb⟩
            have HW9 := hid (HW8.out.grow hb)
            have hE5 := hid (heap_grow HE5.out hb)
            clear HE5
            have HE5 := hid hE5.out
            clear hb hE5
            have hmem2 : ((1, 0) : Int × Int) ∈ KA := HM.out _ (acc_o _)
            have HP := hid (put_any W9 _ _ _ KA g _ HW9.out.ai ((1, 0)) hmem2 k HXX.out.1 (by have := HL.out; omega) (gramsS x.f4) (w.heap.size + 1 + 1) (blkCell HW9.out.ou 0))
            clear y4 y5
            go_wp2_with fail
            refine HP.out.mono ?_
            rintro e W7 ⟨rfl, V, hV, rfl⟩
            have hC7 := (HW9.out.grow hV).put hmem2 HXX.out.1 (gramsS x.f4)
            have hE7 := set_other (p := ⟨g ((1, 0)), k * 2 + 1, none⟩) (v := .int .i64 (gramsS x.f4).f1) (by exact (blk_ne (heap_grow HE5.out hV) ((HW9.out.grow hV).ai.bl _ hmem2) (by decide))) (set_other (p := ⟨g ((1, 0)), k * 2, none⟩) (v := .int .i64 (gramsS x.f4).f0) (by exact (blk_ne (heap_grow HE5.out hV) ((HW9.out.grow hV).ai.bl _ hmem2) (by decide))) (heap_grow HE5.out hV))
            generalize ((V.setCell ⟨g ((1, 0)), k * 2, none⟩ (.int .i64 (gramsS x.f4).f0)).setCell ⟨g ((1, 0)), k * 2 + 1, none⟩ (.int .i64 (gramsS x.f4).f1)) = Wb at *
            clear HP hV
            rw [upd_two l hs HXX.out.1 HXX.out.2.1 _ _ _ _ (fun a => by unfold chgX; rw [if_neg HN1.out, if_neg HN5.out, if_neg HN2.out, if_pos HKE.out])] at hC7
            have HF := hid hC7
            clear hC7 hE7
            go_wp2
            go_roundw
            case rel => exact ⟨k + 1, by have := HXX.out.1; omega, by go_num, by rw [(HXX.out.2.2.2.1 (by have := HKE.out; omega)), HCM.out] <;> go_num, hid HF.out⟩
            case measure => have := HXX.out.1; simp [intOf]; omega
          by_cases hk4 : x.f1 = 4
          · have f1 : (x.f1 == 1) = false := by simpa using hk1
            have f5 : (x.f1 == 5) = false := by simpa using hk5
            have f2 : (x.f1 == 2) = false := by simpa using hk2
            have f3 : (x.f1 == 3) = false := by simpa using hk3
            have f4 : (x.f1 == 4) = true := by simpa using hk4
            have HKE := hid hk4
            have HN1 := hid hk1
            have HN5 := hid hk5
            have HN2 := hid hk2
            have HN3 := hid hk3
            clear hk4
            clear hk1 hk5 hk2 hk3
            have y4 := blkCell HE5.out 4
            have y5 := blkCell HE5.out 5
            simp at y4 y5
            go_wp2_with fail
            refine (grams_any x.f4 _).mono ?_
            rintro e W6 ⟨rfl, hb⟩
            have HW6 := hid (HC5.out.grow hb)
            have hE5 := hid (heap_grow HE5.out hb)
            clear HE5
            have HE5 := hid hE5.out
            clear hb hE5
            go_wp2_with fail
            refine (minus_any (gramsS x.f4) _).mono ?_
            rintro e W7 ⟨rfl, hb⟩
            have HW7 := hid (HW6.out.grow hb)
            have hE5 := hid (heap_grow HE5.out hb)
            clear HE5
            have HE5 := hid hE5.out
            clear hb hE5
            have hmem1 : ((1, 0) : Int × Int) ∈ KA := HM.out _ (acc_o _)
            have HP := hid (put_any W7 _ _ _ KA g _ HW7.out.ai ((1, 0)) hmem1 k HXX.out.1 (by have := HL.out; omega) (minusS (gramsS x.f4)) (w.heap.size + 1 + 1) (blkCell HW7.out.ou 0))
            clear y4 y5
            go_wp2_with fail
            refine HP.out.mono ?_
            rintro e W7 ⟨rfl, V, hV, rfl⟩
            have hC7 := (HW7.out.grow hV).put hmem1 HXX.out.1 (minusS (gramsS x.f4))
            have hE7 := set_other (p := ⟨g ((1, 0)), k * 2 + 1, none⟩) (v := .int .i64 (minusS (gramsS x.f4)).f1) (by exact (blk_ne (heap_grow HE5.out hV) ((HW7.out.grow hV).ai.bl _ hmem1) (by decide))) (set_other (p := ⟨g ((1, 0)), k * 2, none⟩) (v := .int .i64 (minusS (gramsS x.f4)).f0) (by exact (blk_ne (heap_grow HE5.out hV) ((HW7.out.grow hV).ai.bl _ hmem1) (by decide))) (heap_grow HE5.out hV))
            generalize ((V.setCell ⟨g ((1, 0)), k * 2, none⟩ (.int .i64 (minusS (gramsS x.f4)).f0)).setCell ⟨g ((1, 0)), k * 2 + 1, none⟩ (.int .i64 (minusS (gramsS x.f4)).f1)) = W8 at *
            clear HP hV
            rw [upd_one l hs HXX.out.1 HXX.out.2.1 _ _ (fun a => by unfold chgX; rw [if_neg HN1.out, if_neg HN5.out, if_neg HN2.out, if_neg HN3.out, if_pos HKE.out])] at hC7
            have HF := hid hC7
            clear hC7 hE7
            go_wp2
            go_roundw
            case rel => exact ⟨k + 1, by have := HXX.out.1; omega, by go_num, by rw [(HXX.out.2.2.2.1 (by have := HKE.out; omega)), HCM.out] <;> go_num, hid HF.out⟩
            case measure => have := HXX.out.1; simp [intOf]; omega
          have f1 : (x.f1 == 1) = false := by simpa using hk1
          have f5 : (x.f1 == 5) = false := by simpa using hk5
          have f2 : (x.f1 == 2) = false := by simpa using hk2
          have f3 : (x.f1 == 3) = false := by simpa using hk3
          have f4 : (x.f1 == 4) = false := by simpa using hk4
          have HN1 := hid hk1
          have HN5 := hid hk5
          have HN2 := hid hk2
          have HN3 := hid hk3
          have HN4 := hid hk4
          clear hk1 hk5 hk2 hk3 hk4
          have hC7 := HC5.out
          rw [upd_no l hs HXX.out.1 HXX.out.2.1 (fun a => by unfold chgX; rw [if_neg HN1.out, if_neg HN5.out, if_neg HN2.out, if_neg HN3.out, if_neg HN4.out])] at hC7
          have HF := hid hC7
          clear hC7
          go_wp2
          go_roundw
          case rel => exact ⟨k + 1, by have := HXX.out.1; omega, by go_num, by rw [(HXX.out.2.2.2.1 (by have := HN1.out; have := HN5.out; omega)), HCM.out] <;> go_num, hid HF.out⟩
          case measure => have := HXX.out.1; simp [intOf]; omega
        · obtain rfl : k = l.length := by omega
          have y0 := blkCell HX.out.ou 0
          simp at y0
          go_wp2
          go_ret
          exact ⟨_, g, rfl, by have e : chgL l = chgK l hs l.length := by { funext a; unfold chgL; rw [HHS.out] }; rw [e, HHS.out, HKA.out]; exact HX.out.ai.lower (by omega), HX.out.be⟩
end Go.Proofs.Ytbmkbokkmmdjdaa
end
