-- X0 O X1 OT (wip/pack9.py)
import Derived.Below
import Derived.Deep.Draws
import Derived.Deep.AppendLies
import Derived.Maps.AppendAt
import Derived.OwnWalk
import Derived.Laws.BytesArg
import Derived.Laws.MakeOwn
import Derived.Laws.OwnMore
import Derived.Deep.OwnRows
import Derived.Tactics
import Derived.Lib.ConvBytes
import Derived.Laws.Slices
import Derived.WalkKit
import Derived.KernelRfl
import Derived.RowKit3
import Derived.Deep.LoopGhost
import Derived.Deep.QuietTactic
import Derived.BigQuiet
import Derived.WideLaws
import Derived.Deep.DeepCutAuto
import Derived.Deep.CutBlock
import Derived.Deep.RegionHeld3
import Derived.Laws.Rows
import Derived.Lib.AppendStr
import Derived.ArgAppend
import Derived.Laws.IdiomCopy
import Derived.OrdersHeld
import Derived.Laws.BitsLemmas
import Derived.RowKit
import Derived.ProofKit
import Derived.OpenShut
import Derived.ChangeOld
import Derived.SizedLaws
import Derived.Deep.Slices
import Derived.Test.YtbmkbokkmmdjdaaProg
import Derived.Test.YtbmkbokkmmdjdaaV0
import Derived.Test.YtbmkbokkmmdjdaaV1
section
namespace Go.Proofs.Ytbmkbokkmmdjdaa.Q
open Go.RowKit Go.Proofs.YtbmkbokkmmdjdaaW.PrintWords Go.Proofs.YtbmkbokkmmdjdaaW.PrintLast Go.Proofs.YtbmkbokkmmdjdaaW.PrintMore
attribute [local go_sem] max2_int min2_int max_two min_two max_three min_three max_four min_four   -- for this text's walks alone
set_option linter.unusedVariables false
set_option linter.unusedSimpArgs false



def errW : Option Int → Value
  | none => .nilIface
  | some c => .iface 0 (.int .i64 c)
theorem errW_none : errW none = .nilIface := rfl
theorem errW_some (c : Int) : errW (some c) = .iface 0 (.int .i64 c) := rfl

structure S23 where
  f0 : Int
  f1 : Int
def z23 : S23 := ⟨(0 : Int), (0 : Int)⟩
def k23 : Kd S23 := Kd.iso (Kd.pair (Kd.int .i64) (Kd.int .i64)) (fun x : S23 => (x.f0, x.f1))
theorem k23_open {w : World} {x : S23} {cs : List Value} (h : k23.K w x cs) : cs = [.int .i64 x.f0, .int .i64 x.f1] := by
  obtain ⟨_, _, rfl, rfl, rfl⟩ := h
  exact rfl
theorem k23_mk (w : World) (x : S23)  : k23.K w x [.int .i64 x.f0, .int .i64 x.f1] := ⟨[.int .i64 x.f0], [.int .i64 x.f1], rfl, rfl, rfl⟩
theorem k23_mkM (w : World) (base : Nat) (ok : Nat → Prop) (x : S23)  : k23.M w base ok x [.int .i64 x.f0, .int .i64 x.f1] := ⟨[.int .i64 x.f0], [.int .i64 x.f1], rfl, rfl, rfl⟩
def rd_T23 (xs : List S23) (i : Int) : S23 := xs.getD i.toNat z23
theorem at_T23 {w : World} {A : Option Addr} {n : Nat} {xs : List S23} (h : Kd.C k23 w A n xs) (i : Int) (h0 : 0 ≤ i) (h1 : i < n) : ∃ ad , A = some ad ∧ w.cell? (ad.add (i.toNat * 2)) = some (.int .i64 (rd_T23 xs i).f0) ∧ w.cell? ⟨(ad.add (i.toNat * 2)).block, (ad.add (i.toNat * 2)).off + 1, none⟩ = some (.int .i64 (rd_T23 xs i).f1) := by
  obtain ⟨ad, c, e, _, hK, hc0⟩ := Kd.C_get h z23 i h0 h1
  have hc : ∀ j u, c[j]? = some u → w.cell? (ad.add (i.toNat * 2 + j)) = some u := hc0
  obtain rfl := k23_open hK
  exact ⟨ad, e, hc 0 _ rfl, by rw [← add_field _ _ 1 (by omega)]; exact hc 1 _ rfl⟩

structure S36 where
  f0 : Int
  f1 : Int
  f2 : Int
  f3 : Int
  f4 : S23
  f5 : S23
  f6 : S23
  f7 : Int
def z36 : S36 := ⟨(0 : Int), (0 : Int), (0 : Int), (0 : Int), z23, z23, z23, (0 : Int)⟩
def k36 : Kd S36 := Kd.iso (Kd.pair (Kd.int .i64) (Kd.pair (Kd.int .u8) (Kd.pair (Kd.int .i64) (Kd.pair (Kd.int .i64) (Kd.pair k23 (Kd.pair k23 (Kd.pair k23 (Kd.int .i64)))))))) (fun x : S36 => (x.f0, x.f1, x.f2, x.f3, x.f4, x.f5, x.f6, x.f7))
theorem k36_open {w : World} {x : S36} {cs : List Value} (h : k36.K w x cs) : cs = [.int .i64 x.f0, .int .u8 x.f1, .int .i64 x.f2, .int .i64 x.f3, .int .i64 x.f4.f0, .int .i64 x.f4.f1, .int .i64 x.f5.f0, .int .i64 x.f5.f1, .int .i64 x.f6.f0, .int .i64 x.f6.f1, .int .i64 x.f7] := by
  obtain ⟨_, _, rfl, rfl, ⟨_, _, rfl, rfl, ⟨_, _, rfl, rfl, ⟨_, _, rfl, rfl, ⟨_, _, rfl, s4, ⟨_, _, rfl, s6, ⟨_, _, rfl, s8, rfl⟩⟩⟩⟩⟩⟩⟩ := h
  obtain rfl := k23_open s4
  obtain rfl := k23_open s6
  obtain rfl := k23_open s8
  exact rfl
theorem k36_mk (w : World) (x : S36)  : k36.K w x [.int .i64 x.f0, .int .u8 x.f1, .int .i64 x.f2, .int .i64 x.f3, .int .i64 x.f4.f0, .int .i64 x.f4.f1, .int .i64 x.f5.f0, .int .i64 x.f5.f1, .int .i64 x.f6.f0, .int .i64 x.f6.f1, .int .i64 x.f7] := ⟨[.int .i64 x.f0], [.int .u8 x.f1, .int .i64 x.f2, .int .i64 x.f3, .int .i64 x.f4.f0, .int .i64 x.f4.f1, .int .i64 x.f5.f0, .int .i64 x.f5.f1, .int .i64 x.f6.f0, .int .i64 x.f6.f1, .int .i64 x.f7], rfl, rfl, ⟨[.int .u8 x.f1], [.int .i64 x.f2, .int .i64 x.f3, .int .i64 x.f4.f0, .int .i64 x.f4.f1, .int .i64 x.f5.f0, .int .i64 x.f5.f1, .int .i64 x.f6.f0, .int .i64 x.f6.f1, .int .i64 x.f7], rfl, rfl, ⟨[.int .i64 x.f2], [.int .i64 x.f3, .int .i64 x.f4.f0, .int .i64 x.f4.f1, .int .i64 x.f5.f0, .int .i64 x.f5.f1, .int .i64 x.f6.f0, .int .i64 x.f6.f1, .int .i64 x.f7], rfl, rfl, ⟨[.int .i64 x.f3], [.int .i64 x.f4.f0, .int .i64 x.f4.f1, .int .i64 x.f5.f0, .int .i64 x.f5.f1, .int .i64 x.f6.f0, .int .i64 x.f6.f1, .int .i64 x.f7], rfl, rfl, ⟨[.int .i64 x.f4.f0, .int .i64 x.f4.f1], [.int .i64 x.f5.f0, .int .i64 x.f5.f1, .int .i64 x.f6.f0, .int .i64 x.f6.f1, .int .i64 x.f7], rfl, (k23_mk w x.f4 ), ⟨[.int .i64 x.f5.f0, .int .i64 x.f5.f1], [.int .i64 x.f6.f0, .int .i64 x.f6.f1, .int .i64 x.f7], rfl, (k23_mk w x.f5 ), ⟨[.int .i64 x.f6.f0, .int .i64 x.f6.f1], [.int .i64 x.f7], rfl, (k23_mk w x.f6 ), rfl⟩⟩⟩⟩⟩⟩⟩
theorem k36_mkM (w : World) (base : Nat) (ok : Nat → Prop) (x : S36)  : k36.M w base ok x [.int .i64 x.f0, .int .u8 x.f1, .int .i64 x.f2, .int .i64 x.f3, .int .i64 x.f4.f0, .int .i64 x.f4.f1, .int .i64 x.f5.f0, .int .i64 x.f5.f1, .int .i64 x.f6.f0, .int .i64 x.f6.f1, .int .i64 x.f7] := ⟨[.int .i64 x.f0], [.int .u8 x.f1, .int .i64 x.f2, .int .i64 x.f3, .int .i64 x.f4.f0, .int .i64 x.f4.f1, .int .i64 x.f5.f0, .int .i64 x.f5.f1, .int .i64 x.f6.f0, .int .i64 x.f6.f1, .int .i64 x.f7], rfl, rfl, ⟨[.int .u8 x.f1], [.int .i64 x.f2, .int .i64 x.f3, .int .i64 x.f4.f0, .int .i64 x.f4.f1, .int .i64 x.f5.f0, .int .i64 x.f5.f1, .int .i64 x.f6.f0, .int .i64 x.f6.f1, .int .i64 x.f7], rfl, rfl, ⟨[.int .i64 x.f2], [.int .i64 x.f3, .int .i64 x.f4.f0, .int .i64 x.f4.f1, .int .i64 x.f5.f0, .int .i64 x.f5.f1, .int .i64 x.f6.f0, .int .i64 x.f6.f1, .int .i64 x.f7], rfl, rfl, ⟨[.int .i64 x.f3], [.int .i64 x.f4.f0, .int .i64 x.f4.f1, .int .i64 x.f5.f0, .int .i64 x.f5.f1, .int .i64 x.f6.f0, .int .i64 x.f6.f1, .int .i64 x.f7], rfl, rfl, ⟨[.int .i64 x.f4.f0, .int .i64 x.f4.f1], [.int .i64 x.f5.f0, .int .i64 x.f5.f1, .int .i64 x.f6.f0, .int .i64 x.f6.f1, .int .i64 x.f7], rfl, (k23_mkM w base ok x.f4 ), ⟨[.int .i64 x.f5.f0, .int .i64 x.f5.f1], [.int .i64 x.f6.f0, .int .i64 x.f6.f1, .int .i64 x.f7], rfl, (k23_mkM w base ok x.f5 ), ⟨[.int .i64 x.f6.f0, .int .i64 x.f6.f1], [.int .i64 x.f7], rfl, (k23_mkM w base ok x.f6 ), rfl⟩⟩⟩⟩⟩⟩⟩
def rd_T36 (xs : List S36) (i : Int) : S36 := xs.getD i.toNat z36
theorem at_T36 {w : World} {A : Option Addr} {n : Nat} {xs : List S36} (h : Kd.C k36 w A n xs) (i : Int) (h0 : 0 ≤ i) (h1 : i < n) : ∃ ad , A = some ad ∧ w.cell? (ad.add (i.toNat * 11)) = some (.int .i64 (rd_T36 xs i).f0) ∧ w.cell? ⟨(ad.add (i.toNat * 11)).block, (ad.add (i.toNat * 11)).off + 1, none⟩ = some (.int .u8 (rd_T36 xs i).f1) ∧ w.cell? ⟨(ad.add (i.toNat * 11)).block, (ad.add (i.toNat * 11)).off + 2, none⟩ = some (.int .i64 (rd_T36 xs i).f2) ∧ w.cell? ⟨(ad.add (i.toNat * 11)).block, (ad.add (i.toNat * 11)).off + 3, none⟩ = some (.int .i64 (rd_T36 xs i).f3) ∧ w.cell? ⟨(ad.add (i.toNat * 11)).block, (ad.add (i.toNat * 11)).off + 4, none⟩ = some (.int .i64 (rd_T36 xs i).f4.f0) ∧ w.cell? ⟨(ad.add (i.toNat * 11)).block, (ad.add (i.toNat * 11)).off + 5, none⟩ = some (.int .i64 (rd_T36 xs i).f4.f1) ∧ w.cell? ⟨(ad.add (i.toNat * 11)).block, (ad.add (i.toNat * 11)).off + 6, none⟩ = some (.int .i64 (rd_T36 xs i).f5.f0) ∧ w.cell? ⟨(ad.add (i.toNat * 11)).block, (ad.add (i.toNat * 11)).off + 7, none⟩ = some (.int .i64 (rd_T36 xs i).f5.f1) ∧ w.cell? ⟨(ad.add (i.toNat * 11)).block, (ad.add (i.toNat * 11)).off + 8, none⟩ = some (.int .i64 (rd_T36 xs i).f6.f0) ∧ w.cell? ⟨(ad.add (i.toNat * 11)).block, (ad.add (i.toNat * 11)).off + 9, none⟩ = some (.int .i64 (rd_T36 xs i).f6.f1) ∧ w.cell? ⟨(ad.add (i.toNat * 11)).block, (ad.add (i.toNat * 11)).off + 10, none⟩ = some (.int .i64 (rd_T36 xs i).f7) := by
  obtain ⟨ad, c, e, _, hK, hc0⟩ := Kd.C_get h z36 i h0 h1
  have hc : ∀ j u, c[j]? = some u → w.cell? (ad.add (i.toNat * 11 + j)) = some u := hc0
  obtain rfl := k36_open hK
  exact ⟨ad, e, hc 0 _ rfl, by rw [← add_field _ _ 1 (by omega)]; exact hc 1 _ rfl, by rw [← add_field _ _ 2 (by omega)]; exact hc 2 _ rfl, by rw [← add_field _ _ 3 (by omega)]; exact hc 3 _ rfl, by rw [← add_field _ _ 4 (by omega)]; exact hc 4 _ rfl, by rw [← add_field _ _ 5 (by omega)]; exact hc 5 _ rfl, by rw [← add_field _ _ 6 (by omega)]; exact hc 6 _ rfl, by rw [← add_field _ _ 7 (by omega)]; exact hc 7 _ rfl, by rw [← add_field _ _ 8 (by omega)]; exact hc 8 _ rfl, by rw [← add_field _ _ 9 (by omega)]; exact hc 9 _ rfl, by rw [← add_field _ _ 10 (by omega)]; exact hc 10 _ rfl⟩

structure S52 where
  f0 : S23
  f1 : S23
  f2 : S23
  f3 : S23
  f4 : Int
def z52 : S52 := ⟨z23, z23, z23, z23, (0 : Int)⟩
structure S60 where
  f0 : S23
  f1 : S23
  f2 : S23
def z60 : S60 := ⟨z23, z23, z23⟩
structure S84 where
  f0 : Int
  f1 : Int
  f2 : Int
def z84 : S84 := ⟨(0 : Int), (0 : Int), (0 : Int)⟩
def k84 : Kd S84 := Kd.iso (Kd.pair (Kd.int .i64) (Kd.pair (Kd.int .i64) (Kd.int .i64))) (fun x : S84 => (x.f0, x.f1, x.f2))
theorem k84_open {w : World} {x : S84} {cs : List Value} (h : k84.K w x cs) : cs = [.int .i64 x.f0, .int .i64 x.f1, .int .i64 x.f2] := by
  obtain ⟨_, _, rfl, rfl, ⟨_, _, rfl, rfl, rfl⟩⟩ := h
  exact rfl
def rd_T84 (xs : List S84) (i : Int) : S84 := xs.getD i.toNat z84
theorem at_T84 {w : World} {A : Option Addr} {n : Nat} {xs : List S84} (h : Kd.C k84 w A n xs) (i : Int) (h0 : 0 ≤ i) (h1 : i < n) : ∃ ad , A = some ad ∧ w.cell? (ad.add (i.toNat * 3)) = some (.int .i64 (rd_T84 xs i).f0) ∧ w.cell? ⟨(ad.add (i.toNat * 3)).block, (ad.add (i.toNat * 3)).off + 1, none⟩ = some (.int .i64 (rd_T84 xs i).f1) ∧ w.cell? ⟨(ad.add (i.toNat * 3)).block, (ad.add (i.toNat * 3)).off + 2, none⟩ = some (.int .i64 (rd_T84 xs i).f2) := by
  obtain ⟨ad, c, e, _, hK, hc0⟩ := Kd.C_get h z84 i h0 h1
  have hc : ∀ j u, c[j]? = some u → w.cell? (ad.add (i.toNat * 3 + j)) = some u := hc0
  obtain rfl := k84_open hK
  exact ⟨ad, e, hc 0 _ rfl, by rw [← add_field _ _ 1 (by omega)]; exact hc 1 _ rfl, by rw [← add_field _ _ 2 (by omega)]; exact hc 2 _ rfl⟩

end Go.Proofs.Ytbmkbokkmmdjdaa.Q
end
section
namespace Go.Proofs.Ytbmkbokkmmdjdaa
open Go.RowKit Go.Proofs.YtbmkbokkmmdjdaaW.PrintWords Go.Deep Go.ChangeShapes Go.WideShapes
def Opens {α : Type} (P : Program) (d : Kd α) (t : TypeId) (Wf : α → Prop) : Prop :=
  ∀ (H : Type) (enc : TypeId × Value → H) (W : World) (base : Nat) (spare : Nat → Bool) (held : Bool) (fuel : Nat) (cs : List Value) (x : DataW H × List MemPlace),
    DataW.trod enc P W base spare held fuel t cs = some x → ∃ y, d.K W y cs ∧ Wf y
variable {P : Program}
theorem opens_int {t : TypeId} {k : IntKind} (h : P.underlying t = some (.int k)) : Opens P (Kd.int k) t (fun n => (Lit.int k n).wf = true) := fun H enc W base spare held fuel cs x hx => by
  obtain ⟨n, rfl, _, hw⟩ := DataW.trod_int h hx
  exact ⟨n, rfl, hw⟩
theorem cells_get {w : World} {base n : Nat} {a : Addr} {cs : List Value} (h : w.cells? base a n = some cs) : cs.length = n ∧ ∀ i u, cs[i]? = some u → w.cell? (a.add i) = some u := by
  unfold World.cells? at h
  split at h
  · refine ⟨by have := mapM_some_length h; simpa using this, fun i u hu => ?_⟩
    have hl : cs.length = n := by have := mapM_some_length h; simpa using this
    have hi : i < n := by have := (List.getElem?_eq_some_iff.1 hu).1; omega
    have := mapM_some_get h i i (by simp [hi])
    rw [hu] at this
    exact this
  · cases h
theorem addr_add (a : Addr) (p q : Nat) : (a.add p).add q = a.add (p + q) := by
  unfold Addr.add
  by_cases hq : q = 0
  · subst hq; simp
  · by_cases hp : p = 0
    · subst hp; simp
    · simp [hp, hq, Nat.add_assoc]
theorem opens_slice {α : Type} {d : Kd α} {t e : TypeId} {Wf : α → Prop} (h : P.underlying t = some (.slice e)) (hsz : P.cellsOf e = d.sz) (he : Opens P d e Wf) : Opens P (Kd.slice e d) t (fun l => ∀ y ∈ l, Wf y) := fun H enc W base spare held fuel cs x hx => by
  rcases open_slice h hx with ⟨rfl, _⟩ | ⟨a, len, cap, m, n, D, Pl, rfl, _, hl, hc, hm, _, hel⟩
  · exact ⟨[], ⟨none, 0, rfl, Nat.le_refl _, Kd.C_nil _ _⟩, fun _ h => by cases h⟩
  · have hlm : len ≤ m := by rw [hm]; split <;> omega
    have key : ∀ i : Fin len, ∃ y, Wf y ∧ ∃ c, c.length = d.sz ∧ d.K W y c ∧ ∀ j u, c[j]? = some u → W.cell? (a.add (i.1 * d.sz + j)) = some u := fun i => by
      obtain ⟨cs', h1, h2⟩ := hel i.1 (by omega)
      obtain ⟨y, hy, hw⟩ := he H enc W base spare held n cs' _ h2
      obtain ⟨g1, g2⟩ := cells_get h1
      refine ⟨y, hw, cs', by rw [g1, hsz], hy, fun j u hu => ?_⟩
      have := g2 j u hu
      rw [hsz] at this
      rwa [addr_add] at this
    let f : Fin len → α := fun i => Classical.choose (key i)
    have hf : ∀ i, Wf (f i) ∧ _ := fun i => Classical.choose_spec (key i)
    have hlen : (List.ofFn f).length = len := by simp
    refine ⟨List.ofFn f, ⟨some a, cap, by rw [hlen], by rw [hlen]; exact hl, rfl, ?_, fun _ => ⟨a, rfl, fun j p hp => ?_⟩⟩, fun y hy => ?_⟩
    · rw [hlen]; unfold maxLen at hc; omega
    · obtain ⟨hj, rfl⟩ := List.getElem?_eq_some_iff.1 hp
      rw [hlen] at hj
      rw [List.getElem_ofFn]
      exact (hf ⟨j, hj⟩).2
    · obtain ⟨i, hi, rfl⟩ := List.getElem_of_mem hy
      rw [List.getElem_ofFn]
      exact (hf _).1
def Seg {α : Type} (W : World) (d : Kd α) (Wf : α → Prop) (cs : List Value) (o : Nat) : Prop := ∃ y, d.K W y (cs.drop o) ∧ Wf y
theorem seg_last {α : Type} {W : World} {d : Kd α} {Wf : α → Prop} {cs : List Value} {o n : Nat} (h : ∃ y, d.K W y ((cs.drop o).take n) ∧ Wf y) (hl : cs.length = o + n) : Seg W d Wf cs o := by
  rwa [List.take_of_length_le (by simp; omega)] at h
theorem seg_cons {α β : Type} {W : World} {d : Kd α} {d' : Kd β} {Wf : α → Prop} {Wf' : β → Prop} {cs : List Value} {o n : Nat} (h : ∃ y, d.K W y ((cs.drop o).take n) ∧ Wf y) (h' : Seg W d' Wf' cs (o + n)) : Seg W (Kd.pair d d') (fun p => Wf p.1 ∧ Wf' p.2) cs o := by
  obtain ⟨y, hy, hw⟩ := h
  obtain ⟨z, hz, hw'⟩ := h'
  refine ⟨(y, z), ⟨(cs.drop o).take n, cs.drop (o + n), ?_, hy, hz⟩, hw, hw'⟩
  rw [← List.drop_drop, List.take_append_drop]
theorem seg_iso {α β : Type} {W : World} {d : Kd α} {Wf : α → Prop} {cs : List Value} (f : β → α) (g : α → β) (hfg : ∀ p, f (g p) = p) (h : Seg W d Wf cs 0) : ∃ y, (Kd.iso d f).K W y cs ∧ Wf (f y) := by
  obtain ⟨y, hy, hw⟩ := h
  refine ⟨g y, ?_, ?_⟩
  · show d.K W (f (g y)) cs
    rw [hfg]; simpa using hy
  · rw [hfg]; exact hw
theorem opens_field {α : Type} {d : Kd α} {Wf : α → Prop} {t : TypeId} {fs : Array Field} (hs : P.underlying t = some (.struct fs)) {H : Type} {enc : TypeId × Value → H} {W : World} {base : Nat} {spare : Nat → Bool} {held : Bool} {fuel : Nat} {cs : List Value} {x : DataW H × List MemPlace}
    (hx : DataW.trod enc P W base spare held fuel t cs = some x) (i : Nat) {f : Field} (hf : fs[i]? = some f) {ty : TypeId} {off m : Nat} (he : Opens P d ty Wf) (hm : P.cellsOf ty = m) (hty : f.type = ty) (hoff : f.offset = off) : ∃ y, d.K W y ((cs.drop off).take m) ∧ Wf y := by
  subst hty
  subst hoff
  subst hm
  obtain ⟨xs, n, _, _, _, hl, h⟩ := DataW.trod_struct hs hx
  have hi := (Array.getElem?_eq_some_iff.1 hf).1
  have := h i f hf
  obtain ⟨z, hz⟩ : ∃ z, xs[i]? = some z := ⟨xs[i]'(by omega), by simp⟩
  rw [hz] at this
  exact he H enc W base spare held n _ _ this
theorem cells_len {t : TypeId} {fs : Array Field} (hs : P.underlying t = some (.struct fs)) {H : Type} {enc : TypeId × Value → H} {W : World} {base : Nat} {spare : Nat → Bool} {held : Bool} {fuel : Nat} {cs : List Value} {x : DataW H × List MemPlace}
    (hx : DataW.trod enc P W base spare held fuel t cs = some x) : cs.length = P.cellsOf t := (DataW.trod_struct hs hx).choose_spec.choose_spec.2.2.1
end Go.Proofs.Ytbmkbokkmmdjdaa
end
section
namespace Go.Proofs.Ytbmkbokkmmdjdaa.Q
open Go.RowKit Go.Proofs.YtbmkbokkmmdjdaaW.PrintWords Go.Proofs.YtbmkbokkmmdjdaaW.PrintLast Go.Proofs.YtbmkbokkmmdjdaaW.PrintMore
attribute [local go_sem] max2_int min2_int max_two min_two max_three min_three max_four min_four   -- for this text's walks alone
set_option linter.unusedVariables false
set_option linter.unusedSimpArgs false

theorem eqA23 (d : Nat) (w : World) (x0 y0 : Int) (x1 y1 : Int) :
    (Op.equalIn (d + 2) 23 (.agg #[.int .i64 x0, .int .i64 x1]) (.agg #[.int .i64 y0, .int .i64 y1])).run Try.prog w = .ok (x0 == y0 && (x1 == y1)) w := by
  refine eqA_of Try.underlying23 (by kernel_rfl) ?_
  refine eqf_cons (by rfl) (by go_simp; rfl) (by go_simp; rfl) (by go_simp) ?_
  exact eqf_last (by rfl) (by go_simp; rfl) (by go_simp; rfl) (by go_simp)
end Go.Proofs.Ytbmkbokkmmdjdaa.Q
end
section
namespace Go.Proofs.Ytbmkbokkmmdjdaa
open Go.RowKit Go.Proofs.YtbmkbokkmmdjdaaW.PrintWords Go.Deep Go.ChangeShapes Go.WideShapes
open Q
def W64 (n : Int) : Prop := (Lit.int .i64 n).wf = true
def W8 (n : Int) : Prop := (Lit.int .u8 n).wf = true
theorem cell3 : Try.prog.cellsOf 3 = 1 := by kernel_rfl
theorem cell34 : Try.prog.cellsOf 34 = 1 := by kernel_rfl
theorem cell23 : Try.prog.cellsOf 23 = 2 := by kernel_rfl
theorem cell36 : Try.prog.cellsOf 36 = 11 := by kernel_rfl
theorem cell24 : Try.prog.cellsOf 24 = 1 := by kernel_rfl
theorem cell26 : Try.prog.cellsOf 26 = 5 := by kernel_rfl
theorem opens3 : Opens Try.prog (Kd.int .i64) 3 W64 := opens_int Try.underlying3
theorem opens34 : Opens Try.prog (Kd.int .u8) 34 W8 := opens_int Try.underlying34
theorem seg23 {H : Type} {enc : TypeId × Value → H} {W : World} {base : Nat} {spare : Nat → Bool} {held : Bool} {fuel : Nat} {cs : List Value} {x : DataW H × List MemPlace} (hx : DataW.trod enc Try.prog W base spare held fuel 23 cs = some x) : Seg W (Kd.pair (Kd.int .i64) (Kd.int .i64)) (fun p => W64 p.1 ∧ W64 p.2) cs 0 := by
  have hl := cells_len Try.underlying23 hx
  rw [cell23] at hl
  have h0 := opens_field (off := 0) Try.underlying23 hx 0 rfl opens3 cell3 rfl rfl
  have h1 := opens_field (off := 1) Try.underlying23 hx 1 rfl opens3 cell3 rfl rfl
  exact seg_cons (o := 0) (n := 1) h0 (seg_last (o := 1) h1 hl)
def Wsp (x : S23) : Prop := W64 x.f0 ∧ W64 x.f1
theorem opens23 : Opens Try.prog k23 23 Wsp := fun _ _ _ _ _ _ _ _ _ hx => seg_iso _ (fun p : Int × Int => (⟨p.1, p.2⟩ : S23)) (fun _ => rfl) (seg23 hx)
theorem seg36 {H : Type} {enc : TypeId × Value → H} {W : World} {base : Nat} {spare : Nat → Bool} {held : Bool} {fuel : Nat} {cs : List Value} {x : DataW H × List MemPlace} (hx : DataW.trod enc Try.prog W base spare held fuel 36 cs = some x) : Seg W (Kd.pair (Kd.int .i64) (Kd.pair (Kd.int .u8) (Kd.pair (Kd.int .i64) (Kd.pair (Kd.int .i64) (Kd.pair k23 (Kd.pair k23 (Kd.pair k23 (Kd.int .i64)))))))) (fun p => W64 p.1 ∧ W8 p.2.1 ∧ W64 p.2.2.1 ∧ W64 p.2.2.2.1 ∧ Wsp p.2.2.2.2.1 ∧ Wsp p.2.2.2.2.2.1 ∧ Wsp p.2.2.2.2.2.2.1 ∧ W64 p.2.2.2.2.2.2.2) cs 0 := by
  have hl := cells_len Try.underlying36 hx
  rw [cell36] at hl
  have h0 := opens_field (off := 0) Try.underlying36 hx 0 rfl opens3 cell3 rfl rfl
  have h1 := opens_field (off := 1) Try.underlying36 hx 1 rfl opens34 cell34 rfl rfl
  have h2 := opens_field (off := 2) Try.underlying36 hx 2 rfl opens3 cell3 rfl rfl
  have h3 := opens_field (off := 3) Try.underlying36 hx 3 rfl opens3 cell3 rfl rfl
  have h4 := opens_field (off := 4) Try.underlying36 hx 4 rfl opens23 cell23 rfl rfl
  have h5 := opens_field (off := 6) Try.underlying36 hx 5 rfl opens23 cell23 rfl rfl
  have h6 := opens_field (off := 8) Try.underlying36 hx 6 rfl opens23 cell23 rfl rfl
  have h7 := opens_field (off := 10) Try.underlying36 hx 7 rfl opens3 cell3 rfl rfl
  exact seg_cons (o := 0) (n := 1) h0 (seg_cons (o := 1) (n := 1) h1 (seg_cons (o := 2) (n := 1) h2 (seg_cons (o := 3) (n := 1) h3 (seg_cons (o := 4) (n := 2) h4 (seg_cons (o := 6) (n := 2) h5 (seg_cons (o := 8) (n := 2) h6 (seg_last (o := 10) h7 hl)))))))
def Wpo (x : S36) : Prop := W64 x.f0 ∧ W8 x.f1 ∧ W64 x.f2 ∧ W64 x.f3 ∧ Wsp x.f4 ∧ Wsp x.f5 ∧ Wsp x.f6 ∧ W64 x.f7
theorem opens36 : Opens Try.prog k36 36 Wpo := fun _ _ _ _ _ _ _ _ _ hx => seg_iso _ (fun p : Int × Int × Int × Int × S23 × S23 × S23 × Int => (⟨p.1, p.2.1, p.2.2.1, p.2.2.2.1, p.2.2.2.2.1, p.2.2.2.2.2.1, p.2.2.2.2.2.2.1, p.2.2.2.2.2.2.2⟩ : S36)) (fun _ => rfl) (seg36 hx)
theorem opens24 : Opens Try.prog (Kd.slice 36 k36) 24 (fun l => ∀ y ∈ l, Wpo y) := opens_slice Try.underlying24 cell36 opens36
theorem seg26 {H : Type} {enc : TypeId × Value → H} {W : World} {base : Nat} {spare : Nat → Bool} {held : Bool} {fuel : Nat} {cs : List Value} {x : DataW H × List MemPlace} (hx : DataW.trod enc Try.prog W base spare held fuel 26 cs = some x) : Seg W (Kd.pair k23 (Kd.pair k23 (Kd.slice 36 k36))) (fun p => Wsp p.1 ∧ Wsp p.2.1 ∧ (∀ y ∈ p.2.2, Wpo y)) cs 0 := by
  have hl := cells_len Try.underlying26 hx
  rw [cell26] at hl
  have h0 := opens_field (off := 0) Try.underlying26 hx 0 rfl opens23 cell23 rfl rfl
  have h1 := opens_field (off := 2) Try.underlying26 hx 1 rfl opens23 cell23 rfl rfl
  have h2 := opens_field (off := 4) Try.underlying26 hx 2 rfl opens24 cell24 rfl rfl
  exact seg_cons (o := 0) (n := 2) h0 (seg_cons (o := 2) (n := 2) h1 (seg_last (o := 4) h2 hl))
set_option maxRecDepth 100000 in
theorem open_book {H : Type} {enc : TypeId × Value → H} {W : World} {base b0 : Nat} {r : Reach} {spare : Nat → Bool} {held : Bool} {v : Value} {d : DataW H} {p : List MemPlace} (hv : Value.okWide Try.prog W r b0 26 v) (h : DataW.Trod enc Try.prog W base spare held 26 v d p) :
    ∃ (ho fi : S23) (A : Option Addr) (c : Nat) (l : List S36), v = .agg #[.int .i64 ho.f0, .int .i64 ho.f1, .int .i64 fi.f0, .int .i64 fi.f1, .slice A l.length c] ∧ Kd.C k36 W A l.length l ∧ l.length ≤ c ∧ Wsp ho ∧ Wsp fi ∧ ∀ y ∈ l, Wpo y := by
  obtain ⟨cs, rfl, hsz⟩ := okWide_struct Try.underlying26 hv
  obtain ⟨fuel, hf⟩ := h
  obtain ⟨⟨ho, fi, l⟩, ⟨_, _, hcs, k1, ⟨_, _, rfl, k2, ⟨A, c, rfl, hl, hC⟩⟩⟩, w1, w2, w3⟩ := seg26 hf
  obtain rfl := k23_open k1
  obtain rfl := k23_open k2
  refine ⟨ho, fi, A, c, l, ?_, hC, hl, w1, w2, w3⟩
  simp [Value.cells] at hcs
  obtain ⟨cs⟩ := cs
  simp at hcs
  rw [hcs]
set_option maxRecDepth 100000 in
theorem open_int {H : Type} {enc : TypeId × Value → H} {W : World} {base b0 : Nat} {r : Reach} {spare : Nat → Bool} {held : Bool} {v : Value} {d : DataW H} {p : List MemPlace} (hv : Value.okWide Try.prog W r b0 3 v) (h : DataW.Trod enc Try.prog W base spare held 3 v d p) : ∃ n, v = .int .i64 n ∧ W64 n := by
  obtain ⟨fuel, hf⟩ := h
  obtain ⟨n, h1, h2⟩ := opens3 _ _ _ _ _ _ _ _ _ hf
  refine ⟨n, ?_, h2⟩
  obtain ⟨m, rfl⟩ := okWide_int Try.underlying3 hv
  obtain ⟨_, e⟩ : ∃ u : Unit, [Value.int .i64 m] = [Value.int .i64 n] := ⟨(), h1⟩
  injection e
end Go.Proofs.Ytbmkbokkmmdjdaa
end
