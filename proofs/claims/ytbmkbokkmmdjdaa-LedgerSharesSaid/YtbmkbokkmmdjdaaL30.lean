-- N51 N25 D1 D12 QX (wip/pack9.py)
import Derived.Test.YtbmkbokkmmdjdaaL2
import Derived.Test.YtbmkbokkmmdjdaaL19
import Derived.Test.YtbmkbokkmmdjdaaL27
import Derived.Test.YtbmkbokkmmdjdaaL28
section
namespace Go.Proofs.Ytbmkbokkmmdjdaa.Q
open Go.RowKit Go.Proofs.YtbmkbokkmmdjdaaW.PrintWords Go.Proofs.YtbmkbokkmmdjdaaW.PrintLast Go.Proofs.YtbmkbokkmmdjdaaW.PrintMore
attribute [local go_sem] max2_int min2_int max_two min_two max_three min_three max_four min_four   -- for this text's walks alone
set_option linter.unusedVariables false
set_option linter.unusedSimpArgs false

def culletlaw09_k.f (a0 : Int) (a1 : Int) : Option (Int × Int) := some (a0, a1)
set_option maxHeartbeats 8000000 in
set_option maxRecDepth 100000 in
theorem culletlaw09_k.calls (a0 : Int) (a1 : Int) (r1 : Int) (r2 : Int) (w : World) (h : culletlaw09_k.f a0 a1 = some (r1, r2)) :
    Calls Try.prog 51 #[.int .i64 a0, .int .i64 a1] w fun e w' => e = .returned (.agg #[.int .i64 r1, .int .i64 r2]) ∧ Below w.heap.size w w' := by
  have hu23 := Try.underlying23
  have HB := Aside0.mk (Below.refl w.heap.size w)
  have H : (some (a0, a1)) = some (r1, r2) := h
  clear h
  simp only [Option.some.injEq, Prod.mk.injEq] at H
  obtain ⟨rfl, rfl⟩ := H
  go_enter Try.func51, Try.ntmps51
  go_wp2_with (first | ((with_reducible refine gate_dst (N := 4) rfl ?_); refine box_event ?hg (N := 4) ?hd (cs := #[.int .i64 0, .int .i64 0]) (t := 23) ?hr ?_; (case hd => rfl); (case hg => rfl); (case hr => first | (go_simp; done) | (go_simp; rfl)); intro gb163 hg w3 hbox hb; have n0_ := Aside0.mk (below_step (by repeat (first | (with_reducible first | exact HB.out | apply below_alloc | apply pw_below_drewN | apply below_drew1) | exact HB.out)) hb); have n1_ := Aside0.mk (hbox); have n2_ := Aside0.mk ((by rw [hg]; exact (below_size (by repeat (first | (with_reducible first | exact HB.out | apply below_alloc | apply pw_below_drewN | apply below_drew1) | exact HB.out))) : w.heap.size ≤ gb163)); have n3_ := Aside0.mk ((by rw [hg]; exact (below_size (by repeat (first | (with_reducible first | exact HB.out | apply below_alloc | apply pw_below_drewN | apply below_drew1) | exact HB.out))) : w.heap.size ≤ gb163)); clear HB; have HB := n0_; have BK163 := n1_; have GW163 := n2_; have GE163 := n3_; clear n0_ n1_ n2_ n3_; clear hb hbox hg; have hcz4_0 : w3.cell? ⟨gb163, 0, none⟩ = some (.int .i64 0) := (blk_cell BK163.out 0).trans rfl; have hcz4_1 : w3.cell? ⟨gb163, 1, none⟩ = some (.int .i64 0) := (blk_cell BK163.out 1).trans rfl; have hfz4_0 := blk_frozen BK163.out 0; have hfz4_1 := blk_frozen BK163.out 1))
  refine bodyPost_ret (results_cell_row rfl _ _ gb163 23 #[.int .i64 a0, .int .i64 a1] (0, 0) _ rfl (by (with_reducible repeat (first | refine blk_drewN ?_ _ | refine blk_drew ?_ | refine blk_alloc ?_ _)); refine blk_put (cs := #[.int .i64 a0, .int .i64 0]) ?_ 1 _ rfl; (with_reducible repeat (first | refine blk_drewN ?_ _ | refine blk_drew ?_ | refine blk_alloc ?_ _)); refine blk_put (cs := #[.int .i64 0, .int .i64 0]) ?_ 0 _ rfl; (with_reducible repeat (first | refine blk_drewN ?_ _ | refine blk_drew ?_ | refine blk_alloc ?_ _)); exact BK163.out) Try.underlying23 rfl (by kernel_rfl)) rfl ?_
  exact ⟨by first | rfl | (simp [errW_none, errW_some] <;> rfl) | (simp [*, errW_none, errW_some] <;> rfl), by repeat (first | (with_reducible first | exact HB.out | apply below_alloc | apply pw_below_drewN | apply below_drew1 | refine below_set ?_ GE163.out) | exact HB.out)⟩

end Go.Proofs.Ytbmkbokkmmdjdaa.Q
end
section
namespace Go.Proofs.Ytbmkbokkmmdjdaa.Q
open Go.RowKit Go.Proofs.YtbmkbokkmmdjdaaW.PrintWords Go.Proofs.YtbmkbokkmmdjdaaW.PrintLast Go.Proofs.YtbmkbokkmmdjdaaW.PrintMore
attribute [local go_sem] max2_int min2_int max_two min_two max_three min_three max_four min_four   -- for this text's walks alone
set_option linter.unusedVariables false
set_option linter.unusedSimpArgs false

def culletlaw09_year.f  : Option (Int × Int × Int × Int × (List (S36))) := (culletlaw09_k.f 900 1300).bind fun bt165 => ((culletlaw09_k.f 1000 1000).bind fun bt167 => ((culletlaw09_k.f 500 500).bind fun bt169 => ((culletlaw09_k.f 600 700).bind fun bt171 => ((culletlaw09_k.f 200 210).bind fun bt173 => ((culletlaw09_k.f 190 200).bind fun bt175 => ((culletlaw09_k.f 180 180).bind fun bt177 => (some (bt165.1, bt165.2, bt167.1, bt167.2, (([(⟨0, 1, 0, 0, (⟨bt169.1, bt169.2⟩ : S23), (⟨bt171.1, bt171.2⟩ : S23), (⟨0, 0⟩ : S23), 0⟩ : S36), (⟨0, 2, 0, 0, (⟨bt173.1, bt173.2⟩ : S23), (⟨0, 0⟩ : S23), (⟨0, 0⟩ : S23), 0⟩ : S36), (⟨0, 3, 0, 0, (⟨bt175.1, bt175.2⟩ : S23), (⟨0, 0⟩ : S23), (⟨0, 0⟩ : S23), 0⟩ : S36), (⟨0, 4, 0, 7, (⟨bt177.1, bt177.2⟩ : S23), (⟨0, 0⟩ : S23), (⟨0, 0⟩ : S23), 0⟩ : S36), (⟨0, 6, 0, 0, (⟨0, 0⟩ : S23), (⟨0, 0⟩ : S23), (⟨0, 0⟩ : S23), 0⟩ : S36)] : List (S36)))))))))))
set_option maxHeartbeats 8000000 in
set_option maxRecDepth 100000 in
theorem culletlaw09_year.calls  (r1 : Int) (r2 : Int) (r3 : Int) (r4 : Int) (r5 : List (S36)) (w : World) (h : culletlaw09_year.f  = some (r1, r2, r3, r4, r5)) :
    Calls Try.prog 25 #[] w fun e w' => ∃ v4_ : Value, e = .returned (.agg #[.int .i64 r1, .int .i64 r2, .int .i64 r3, .int .i64 r4, v4_]) ∧ Kd.R k36 36 w' w.heap.size (fun _ => True) v4_ r5 ∧ Below w.heap.size w w' := by
  have hu26 := Try.underlying26
  have hu36 := Try.underlying36
  have HB := Aside0.mk (Below.refl w.heap.size w)
  have H : ((culletlaw09_k.f 900 1300).bind fun bt165 => ((culletlaw09_k.f 1000 1000).bind fun bt167 => ((culletlaw09_k.f 500 500).bind fun bt169 => ((culletlaw09_k.f 600 700).bind fun bt171 => ((culletlaw09_k.f 200 210).bind fun bt173 => ((culletlaw09_k.f 190 200).bind fun bt175 => ((culletlaw09_k.f 180 180).bind fun bt177 => (some (bt165.1, bt165.2, bt167.1, bt167.2, (([(⟨0, 1, 0, 0, (⟨bt169.1, bt169.2⟩ : S23), (⟨bt171.1, bt171.2⟩ : S23), (⟨0, 0⟩ : S23), 0⟩ : S36), (⟨0, 2, 0, 0, (⟨bt173.1, bt173.2⟩ : S23), (⟨0, 0⟩ : S23), (⟨0, 0⟩ : S23), 0⟩ : S36), (⟨0, 3, 0, 0, (⟨bt175.1, bt175.2⟩ : S23), (⟨0, 0⟩ : S23), (⟨0, 0⟩ : S23), 0⟩ : S36), (⟨0, 4, 0, 7, (⟨bt177.1, bt177.2⟩ : S23), (⟨0, 0⟩ : S23), (⟨0, 0⟩ : S23), 0⟩ : S36), (⟨0, 6, 0, 0, (⟨0, 0⟩ : S23), (⟨0, 0⟩ : S23), (⟨0, 0⟩ : S23), 0⟩ : S36)] : List (S36)))))))))))) = some (r1, r2, r3, r4, r5) := h
  clear h
  replace H := Option.bind_eq_some_iff.mp H
  obtain ⟨⟨t165, t166⟩, A10, H⟩ := H
  replace H : ((culletlaw09_k.f 1000 1000).bind fun bt167 => ((culletlaw09_k.f 500 500).bind fun bt169 => ((culletlaw09_k.f 600 700).bind fun bt171 => ((culletlaw09_k.f 200 210).bind fun bt173 => ((culletlaw09_k.f 190 200).bind fun bt175 => ((culletlaw09_k.f 180 180).bind fun bt177 => (some (t165, t166, bt167.1, bt167.2, (([(⟨0, 1, 0, 0, (⟨bt169.1, bt169.2⟩ : S23), (⟨bt171.1, bt171.2⟩ : S23), (⟨0, 0⟩ : S23), 0⟩ : S36), (⟨0, 2, 0, 0, (⟨bt173.1, bt173.2⟩ : S23), (⟨0, 0⟩ : S23), (⟨0, 0⟩ : S23), 0⟩ : S36), (⟨0, 3, 0, 0, (⟨bt175.1, bt175.2⟩ : S23), (⟨0, 0⟩ : S23), (⟨0, 0⟩ : S23), 0⟩ : S36), (⟨0, 4, 0, 7, (⟨bt177.1, bt177.2⟩ : S23), (⟨0, 0⟩ : S23), (⟨0, 0⟩ : S23), 0⟩ : S36), (⟨0, 6, 0, 0, (⟨0, 0⟩ : S23), (⟨0, 0⟩ : S23), (⟨0, 0⟩ : S23), 0⟩ : S36)] : List (S36))))))))))) = some (r1, r2, r3, r4, r5) := H
  have A1 := Aside0.mk A10
  clear A10
  replace H := Option.bind_eq_some_iff.mp H
  obtain ⟨⟨t167, t168⟩, A20, H⟩ := H
  replace H : ((culletlaw09_k.f 500 500).bind fun bt169 => ((culletlaw09_k.f 600 700).bind fun bt171 => ((culletlaw09_k.f 200 210).bind fun bt173 => ((culletlaw09_k.f 190 200).bind fun bt175 => ((culletlaw09_k.f 180 180).bind fun bt177 => (some (t165, t166, t167, t168, (([(⟨0, 1, 0, 0, (⟨bt169.1, bt169.2⟩ : S23), (⟨bt171.1, bt171.2⟩ : S23), (⟨0, 0⟩ : S23), 0⟩ : S36), (⟨0, 2, 0, 0, (⟨bt173.1, bt173.2⟩ : S23), (⟨0, 0⟩ : S23), (⟨0, 0⟩ : S23), 0⟩ : S36), (⟨0, 3, 0, 0, (⟨bt175.1, bt175.2⟩ : S23), (⟨0, 0⟩ : S23), (⟨0, 0⟩ : S23), 0⟩ : S36), (⟨0, 4, 0, 7, (⟨bt177.1, bt177.2⟩ : S23), (⟨0, 0⟩ : S23), (⟨0, 0⟩ : S23), 0⟩ : S36), (⟨0, 6, 0, 0, (⟨0, 0⟩ : S23), (⟨0, 0⟩ : S23), (⟨0, 0⟩ : S23), 0⟩ : S36)] : List (S36)))))))))) = some (r1, r2, r3, r4, r5) := H
  have A2 := Aside0.mk A20
  clear A20
  replace H := Option.bind_eq_some_iff.mp H
  obtain ⟨⟨t169, t170⟩, A30, H⟩ := H
  replace H : ((culletlaw09_k.f 600 700).bind fun bt171 => ((culletlaw09_k.f 200 210).bind fun bt173 => ((culletlaw09_k.f 190 200).bind fun bt175 => ((culletlaw09_k.f 180 180).bind fun bt177 => (some (t165, t166, t167, t168, (([(⟨0, 1, 0, 0, (⟨t169, t170⟩ : S23), (⟨bt171.1, bt171.2⟩ : S23), (⟨0, 0⟩ : S23), 0⟩ : S36), (⟨0, 2, 0, 0, (⟨bt173.1, bt173.2⟩ : S23), (⟨0, 0⟩ : S23), (⟨0, 0⟩ : S23), 0⟩ : S36), (⟨0, 3, 0, 0, (⟨bt175.1, bt175.2⟩ : S23), (⟨0, 0⟩ : S23), (⟨0, 0⟩ : S23), 0⟩ : S36), (⟨0, 4, 0, 7, (⟨bt177.1, bt177.2⟩ : S23), (⟨0, 0⟩ : S23), (⟨0, 0⟩ : S23), 0⟩ : S36), (⟨0, 6, 0, 0, (⟨0, 0⟩ : S23), (⟨0, 0⟩ : S23), (⟨0, 0⟩ : S23), 0⟩ : S36)] : List (S36))))))))) = some (r1, r2, r3, r4, r5) := H
  have A3 := Aside0.mk A30
  clear A30
  replace H := Option.bind_eq_some_iff.mp H
  obtain ⟨⟨t171, t172⟩, A40, H⟩ := H
  replace H : ((culletlaw09_k.f 200 210).bind fun bt173 => ((culletlaw09_k.f 190 200).bind fun bt175 => ((culletlaw09_k.f 180 180).bind fun bt177 => (some (t165, t166, t167, t168, (([(⟨0, 1, 0, 0, (⟨t169, t170⟩ : S23), (⟨t171, t172⟩ : S23), (⟨0, 0⟩ : S23), 0⟩ : S36), (⟨0, 2, 0, 0, (⟨bt173.1, bt173.2⟩ : S23), (⟨0, 0⟩ : S23), (⟨0, 0⟩ : S23), 0⟩ : S36), (⟨0, 3, 0, 0, (⟨bt175.1, bt175.2⟩ : S23), (⟨0, 0⟩ : S23), (⟨0, 0⟩ : S23), 0⟩ : S36), (⟨0, 4, 0, 7, (⟨bt177.1, bt177.2⟩ : S23), (⟨0, 0⟩ : S23), (⟨0, 0⟩ : S23), 0⟩ : S36), (⟨0, 6, 0, 0, (⟨0, 0⟩ : S23), (⟨0, 0⟩ : S23), (⟨0, 0⟩ : S23), 0⟩ : S36)] : List (S36)))))))) = some (r1, r2, r3, r4, r5) := H
  have A4 := Aside0.mk A40
  clear A40
  replace H := Option.bind_eq_some_iff.mp H
  obtain ⟨⟨t173, t174⟩, A50, H⟩ := H
  replace H : ((culletlaw09_k.f 190 200).bind fun bt175 => ((culletlaw09_k.f 180 180).bind fun bt177 => (some (t165, t166, t167, t168, (([(⟨0, 1, 0, 0, (⟨t169, t170⟩ : S23), (⟨t171, t172⟩ : S23), (⟨0, 0⟩ : S23), 0⟩ : S36), (⟨0, 2, 0, 0, (⟨t173, t174⟩ : S23), (⟨0, 0⟩ : S23), (⟨0, 0⟩ : S23), 0⟩ : S36), (⟨0, 3, 0, 0, (⟨bt175.1, bt175.2⟩ : S23), (⟨0, 0⟩ : S23), (⟨0, 0⟩ : S23), 0⟩ : S36), (⟨0, 4, 0, 7, (⟨bt177.1, bt177.2⟩ : S23), (⟨0, 0⟩ : S23), (⟨0, 0⟩ : S23), 0⟩ : S36), (⟨0, 6, 0, 0, (⟨0, 0⟩ : S23), (⟨0, 0⟩ : S23), (⟨0, 0⟩ : S23), 0⟩ : S36)] : List (S36))))))) = some (r1, r2, r3, r4, r5) := H
  have A5 := Aside0.mk A50
  clear A50
  replace H := Option.bind_eq_some_iff.mp H
  obtain ⟨⟨t175, t176⟩, A60, H⟩ := H
  replace H : ((culletlaw09_k.f 180 180).bind fun bt177 => (some (t165, t166, t167, t168, (([(⟨0, 1, 0, 0, (⟨t169, t170⟩ : S23), (⟨t171, t172⟩ : S23), (⟨0, 0⟩ : S23), 0⟩ : S36), (⟨0, 2, 0, 0, (⟨t173, t174⟩ : S23), (⟨0, 0⟩ : S23), (⟨0, 0⟩ : S23), 0⟩ : S36), (⟨0, 3, 0, 0, (⟨t175, t176⟩ : S23), (⟨0, 0⟩ : S23), (⟨0, 0⟩ : S23), 0⟩ : S36), (⟨0, 4, 0, 7, (⟨bt177.1, bt177.2⟩ : S23), (⟨0, 0⟩ : S23), (⟨0, 0⟩ : S23), 0⟩ : S36), (⟨0, 6, 0, 0, (⟨0, 0⟩ : S23), (⟨0, 0⟩ : S23), (⟨0, 0⟩ : S23), 0⟩ : S36)] : List (S36)))))) = some (r1, r2, r3, r4, r5) := H
  have A6 := Aside0.mk A60
  clear A60
  replace H := Option.bind_eq_some_iff.mp H
  obtain ⟨⟨t177, t178⟩, A70, H⟩ := H
  replace H : (some (t165, t166, t167, t168, (([(⟨0, 1, 0, 0, (⟨t169, t170⟩ : S23), (⟨t171, t172⟩ : S23), (⟨0, 0⟩ : S23), 0⟩ : S36), (⟨0, 2, 0, 0, (⟨t173, t174⟩ : S23), (⟨0, 0⟩ : S23), (⟨0, 0⟩ : S23), 0⟩ : S36), (⟨0, 3, 0, 0, (⟨t175, t176⟩ : S23), (⟨0, 0⟩ : S23), (⟨0, 0⟩ : S23), 0⟩ : S36), (⟨0, 4, 0, 7, (⟨t177, t178⟩ : S23), (⟨0, 0⟩ : S23), (⟨0, 0⟩ : S23), 0⟩ : S36), (⟨0, 6, 0, 0, (⟨0, 0⟩ : S23), (⟨0, 0⟩ : S23), (⟨0, 0⟩ : S23), 0⟩ : S36)] : List (S36))))) = some (r1, r2, r3, r4, r5) := H
  have A7 := Aside0.mk A70
  clear A70
  obtain ⟨y179, hy179⟩ : ∃ y_ : List (S36), y_ = (([(⟨0, 1, 0, 0, (⟨t169, t170⟩ : S23), (⟨t171, t172⟩ : S23), (⟨0, 0⟩ : S23), 0⟩ : S36), (⟨0, 2, 0, 0, (⟨t173, t174⟩ : S23), (⟨0, 0⟩ : S23), (⟨0, 0⟩ : S23), 0⟩ : S36), (⟨0, 3, 0, 0, (⟨t175, t176⟩ : S23), (⟨0, 0⟩ : S23), (⟨0, 0⟩ : S23), 0⟩ : S36), (⟨0, 4, 0, 7, (⟨t177, t178⟩ : S23), (⟨0, 0⟩ : S23), (⟨0, 0⟩ : S23), 0⟩ : S36), (⟨0, 6, 0, 0, (⟨0, 0⟩ : S23), (⟨0, 0⟩ : S23), (⟨0, 0⟩ : S23), 0⟩ : S36)] : List (S36))) := ⟨_, rfl⟩
  replace H : (some (t165, t166, t167, t168, y179)) = some (r1, r2, r3, r4, r5) := by first | (rw [hy179]; with_reducible exact H) | (have H2_ := (Option.bind_some _ _).symm.trans H; rw [hy179]; with_reducible exact H2_) | (have H2_ := (Option.bind_some _ _).symm.trans H; with_reducible exact H2_) | with_reducible exact H | (rw [hy179]; exact H) | exact H
  have Ny179 := Aside0.mk hy179
  clear hy179
  simp only [Option.some.injEq, Prod.mk.injEq] at H
  obtain ⟨rfl, rfl, rfl, rfl, rfl⟩ := H
  go_enter Try.func25, Try.ntmps25
  go_wp2_with (first | ((with_reducible refine gate_dst (N := 0) rfl ?_); refine box_event ?hg (N := 0) ?hd (cs := #[.int .i64 0, .int .i64 0, .int .i64 0, .int .i64 0, .slice none 0 0]) (t := 26) ?hr ?_; (case hd => rfl); (case hg => rfl); (case hr => first | (go_simp; done) | (go_simp; rfl)); intro gb164 hg w8 hbox hb; have n0_ := Aside0.mk (below_step (by repeat (first | (with_reducible first | exact HB.out | apply below_alloc | apply pw_below_drewN | apply below_drew1) | exact HB.out)) hb); have n1_ := Aside0.mk (hbox); have n2_ := Aside0.mk ((by rw [hg]; exact (below_size (by repeat (first | (with_reducible first | exact HB.out | apply below_alloc | apply pw_below_drewN | apply below_drew1) | exact HB.out))) : w.heap.size ≤ gb164)); have n3_ := Aside0.mk ((by rw [hg]; exact (below_size (by repeat (first | (with_reducible first | exact HB.out | apply below_alloc | apply pw_below_drewN | apply below_drew1) | exact HB.out))) : w.heap.size ≤ gb164)); clear HB; have HB := n0_; have BK164 := n1_; have GW164 := n2_; have GE164 := n3_; clear n0_ n1_ n2_ n3_; clear hb hbox hg) | ((with_reducible refine gate_callee (f := 51) rfl ?_); refine goesL_ (some 1) rfl rfl Try.func51 (by kernel_rfl) rfl #[.int .i64 900, .int .i64 1300] rfl (by (try simp only [List.map_toArray, List.map_cons, List.map_nil]); first | done | rfl | (simp only [List.length_drop, List.length_take]; rfl)) ?_; (with_reducible refine (culletlaw09_k.calls 900 1300 t165 t166 _ A1.out).mono ?_); rintro e w9 ⟨rfl, hb⟩; refine ⟨_, rfl, ?_⟩; have n0_ := Aside0.mk (blk_below (g := gb164) (o := .cells #[.int .i64 0, .int .i64 0, .int .i64 0, .int .i64 0, .slice none 0 0] 26 (0, 0)) (by (with_reducible repeat (first | refine blk_drewN ?_ _ | refine blk_drew ?_ | refine blk_alloc ?_ _)); exact BK164.out) hb); have n1_ := Aside0.mk (below_step (by repeat (first | (with_reducible first | exact HB.out | apply below_alloc | apply pw_below_drewN | apply below_drew1 | refine below_set ?_ GE164.out) | exact HB.out)) hb); clear BK164; clear HB; have BK164 := n0_; have HB := n1_; clear n0_ n1_; (try clear hb); (try clear hb2); (try clear hk); (try clear hi)) | ((with_reducible refine gate_callee (f := 51) rfl ?_); refine goesL_ (some 2) rfl rfl Try.func51 (by kernel_rfl) rfl #[.int .i64 1000, .int .i64 1000] rfl (by (try simp only [List.map_toArray, List.map_cons, List.map_nil]); first | done | rfl | (simp only [List.length_drop, List.length_take]; rfl)) ?_; (with_reducible refine (culletlaw09_k.calls 1000 1000 t167 t168 _ A2.out).mono ?_); rintro e w10 ⟨rfl, hb⟩; refine ⟨_, rfl, ?_⟩; have n0_ := Aside0.mk (blk_below (g := gb164) (o := .cells #[.int .i64 0, .int .i64 0, .int .i64 0, .int .i64 0, .slice none 0 0] 26 (0, 0)) (by (with_reducible repeat (first | refine blk_drewN ?_ _ | refine blk_drew ?_ | refine blk_alloc ?_ _)); exact BK164.out) hb); have n1_ := Aside0.mk (below_step (by repeat (first | (with_reducible first | exact HB.out | apply below_alloc | apply pw_below_drewN | apply below_drew1 | refine below_set ?_ GE164.out) | exact HB.out)) hb); clear BK164; clear HB; have BK164 := n0_; have HB := n1_; clear n0_ n1_; (try clear hb); (try clear hb2); (try clear hk); (try clear hi)) | ((with_reducible refine gate_callee (f := 51) rfl ?_); refine goesL_ (some 3) rfl rfl Try.func51 (by kernel_rfl) rfl #[.int .i64 500, .int .i64 500] rfl (by (try simp only [List.map_toArray, List.map_cons, List.map_nil]); first | done | rfl | (simp only [List.length_drop, List.length_take]; rfl)) ?_; (with_reducible refine (culletlaw09_k.calls 500 500 t169 t170 _ A3.out).mono ?_); rintro e w11 ⟨rfl, hb⟩; refine ⟨_, rfl, ?_⟩; have n0_ := Aside0.mk (blk_below (g := gb164) (o := .cells #[.int .i64 0, .int .i64 0, .int .i64 0, .int .i64 0, .slice none 0 0] 26 (0, 0)) (by (with_reducible repeat (first | refine blk_drewN ?_ _ | refine blk_drew ?_ | refine blk_alloc ?_ _)); exact BK164.out) hb); have n1_ := Aside0.mk (below_step (by repeat (first | (with_reducible first | exact HB.out | apply below_alloc | apply pw_below_drewN | apply below_drew1 | refine below_set ?_ GE164.out) | exact HB.out)) hb); clear BK164; clear HB; have BK164 := n0_; have HB := n1_; clear n0_ n1_; (try clear hb); (try clear hb2); (try clear hk); (try clear hi)) | ((with_reducible refine gate_callee (f := 51) rfl ?_); refine goesL_ (some 4) rfl rfl Try.func51 (by kernel_rfl) rfl #[.int .i64 600, .int .i64 700] rfl (by (try simp only [List.map_toArray, List.map_cons, List.map_nil]); first | done | rfl | (simp only [List.length_drop, List.length_take]; rfl)) ?_; (with_reducible refine (culletlaw09_k.calls 600 700 t171 t172 _ A4.out).mono ?_); rintro e w12 ⟨rfl, hb⟩; refine ⟨_, rfl, ?_⟩; have n0_ := Aside0.mk (blk_below (g := gb164) (o := .cells #[.int .i64 0, .int .i64 0, .int .i64 0, .int .i64 0, .slice none 0 0] 26 (0, 0)) (by (with_reducible repeat (first | refine blk_drewN ?_ _ | refine blk_drew ?_ | refine blk_alloc ?_ _)); exact BK164.out) hb); have n1_ := Aside0.mk (below_step (by repeat (first | (with_reducible first | exact HB.out | apply below_alloc | apply pw_below_drewN | apply below_drew1 | refine below_set ?_ GE164.out) | exact HB.out)) hb); clear BK164; clear HB; have BK164 := n0_; have HB := n1_; clear n0_ n1_; (try clear hb); (try clear hb2); (try clear hk); (try clear hi)) | ((with_reducible refine gate_callee (f := 51) rfl ?_); refine goesL_ (some 6) rfl rfl Try.func51 (by kernel_rfl) rfl #[.int .i64 200, .int .i64 210] rfl (by (try simp only [List.map_toArray, List.map_cons, List.map_nil]); first | done | rfl | (simp only [List.length_drop, List.length_take]; rfl)) ?_; (with_reducible refine (culletlaw09_k.calls 200 210 t173 t174 _ A5.out).mono ?_); rintro e w13 ⟨rfl, hb⟩; refine ⟨_, rfl, ?_⟩; have n0_ := Aside0.mk (blk_below (g := gb164) (o := .cells #[.int .i64 0, .int .i64 0, .int .i64 0, .int .i64 0, .slice none 0 0] 26 (0, 0)) (by (with_reducible repeat (first | refine blk_drewN ?_ _ | refine blk_drew ?_ | refine blk_alloc ?_ _)); exact BK164.out) hb); have n1_ := Aside0.mk (below_step (by repeat (first | (with_reducible first | exact HB.out | apply below_alloc | apply pw_below_drewN | apply below_drew1 | refine below_set ?_ GE164.out) | exact HB.out)) hb); clear BK164; clear HB; have BK164 := n0_; have HB := n1_; clear n0_ n1_; (try clear hb); (try clear hb2); (try clear hk); (try clear hi)) | ((with_reducible refine gate_callee (f := 51) rfl ?_); refine goesL_ (some 8) rfl rfl Try.func51 (by kernel_rfl) rfl #[.int .i64 190, .int .i64 200] rfl (by (try simp only [List.map_toArray, List.map_cons, List.map_nil]); first | done | rfl | (simp only [List.length_drop, List.length_take]; rfl)) ?_; (with_reducible refine (culletlaw09_k.calls 190 200 t175 t176 _ A6.out).mono ?_); rintro e w14 ⟨rfl, hb⟩; refine ⟨_, rfl, ?_⟩; have n0_ := Aside0.mk (blk_below (g := gb164) (o := .cells #[.int .i64 0, .int .i64 0, .int .i64 0, .int .i64 0, .slice none 0 0] 26 (0, 0)) (by (with_reducible repeat (first | refine blk_drewN ?_ _ | refine blk_drew ?_ | refine blk_alloc ?_ _)); exact BK164.out) hb); have n1_ := Aside0.mk (below_step (by repeat (first | (with_reducible first | exact HB.out | apply below_alloc | apply pw_below_drewN | apply below_drew1 | refine below_set ?_ GE164.out) | exact HB.out)) hb); clear BK164; clear HB; have BK164 := n0_; have HB := n1_; clear n0_ n1_; (try clear hb); (try clear hb2); (try clear hk); (try clear hi)) | ((with_reducible refine gate_callee (f := 51) rfl ?_); refine goesL_ (some 10) rfl rfl Try.func51 (by kernel_rfl) rfl #[.int .i64 180, .int .i64 180] rfl (by (try simp only [List.map_toArray, List.map_cons, List.map_nil]); first | done | rfl | (simp only [List.length_drop, List.length_take]; rfl)) ?_; (with_reducible refine (culletlaw09_k.calls 180 180 t177 t178 _ A7.out).mono ?_); rintro e w15 ⟨rfl, hb⟩; refine ⟨_, rfl, ?_⟩; have n0_ := Aside0.mk (blk_below (g := gb164) (o := .cells #[.int .i64 0, .int .i64 0, .int .i64 0, .int .i64 0, .slice none 0 0] 26 (0, 0)) (by (with_reducible repeat (first | refine blk_drewN ?_ _ | refine blk_drew ?_ | refine blk_alloc ?_ _)); exact BK164.out) hb); have n1_ := Aside0.mk (below_step (by repeat (first | (with_reducible first | exact HB.out | apply below_alloc | apply pw_below_drewN | apply below_drew1 | refine below_set ?_ GE164.out) | exact HB.out)) hb); clear BK164; clear HB; have BK164 := n0_; have HB := n1_; clear n0_ n1_; (try clear hb); (try clear hb2); (try clear hk); (try clear hi)) | ((with_reducible refine gate_dst (N := 13) rfl ?_); refine Kd.R_lit k36 _ 36 ?hg (N := 13) ?hd (xs := ([(⟨0, 1, 0, 0, (⟨t169, t170⟩ : S23), (⟨t171, t172⟩ : S23), (⟨0, 0⟩ : S23), 0⟩ : S36), (⟨0, 2, 0, 0, (⟨t173, t174⟩ : S23), (⟨0, 0⟩ : S23), (⟨0, 0⟩ : S23), 0⟩ : S36), (⟨0, 3, 0, 0, (⟨t175, t176⟩ : S23), (⟨0, 0⟩ : S23), (⟨0, 0⟩ : S23), 0⟩ : S36), (⟨0, 4, 0, 7, (⟨t177, t178⟩ : S23), (⟨0, 0⟩ : S23), (⟨0, 0⟩ : S23), 0⟩ : S36), (⟨0, 6, 0, 0, (⟨0, 0⟩ : S23), (⟨0, 0⟩ : S23), (⟨0, 0⟩ : S23), 0⟩ : S36)] : List (S36))) (inner := [.int .i64 0, .int .u8 1, .int .i64 0, .int .i64 0, .int .i64 t169, .int .i64 t170, .int .i64 t171, .int .i64 t172, .int .i64 0, .int .i64 0, .int .i64 0, .int .i64 0, .int .u8 2, .int .i64 0, .int .i64 0, .int .i64 t173, .int .i64 t174, .int .i64 0, .int .i64 0, .int .i64 0, .int .i64 0, .int .i64 0, .int .i64 0, .int .u8 3, .int .i64 0, .int .i64 0, .int .i64 t175, .int .i64 t176, .int .i64 0, .int .i64 0, .int .i64 0, .int .i64 0, .int .i64 0, .int .i64 0, .int .u8 4, .int .i64 0, .int .i64 7, .int .i64 t177, .int .i64 t178, .int .i64 0, .int .i64 0, .int .i64 0, .int .i64 0, .int .i64 0, .int .i64 0, .int .u8 6, .int .i64 0, .int .i64 0, .int .i64 0, .int .i64 0, .int .i64 0, .int .i64 0, .int .i64 0, .int .i64 0, .int .i64 0]) (ok := fun _ => True) (okp := fun _ => True) ?hr ?hp (fun _ hk => hk) trivial (Below.refl _ _) (Nat.le_refl _) (by simp) ?_; (case hd => rfl); (case hg => rfl); (case hr => first | (go_simp; done) | (go_simp; rfl)); (case hp => exact (Reps.front (show Kd.M k36 _ _ _ (⟨0, 1, 0, 0, (⟨t169, t170⟩ : S23), (⟨t171, t172⟩ : S23), (⟨0, 0⟩ : S23), 0⟩ : S36) [.int .i64 0, .int .u8 1, .int .i64 0, .int .i64 0, .int .i64 t169, .int .i64 t170, .int .i64 t171, .int .i64 t172, .int .i64 0, .int .i64 0, .int .i64 0] from (k36_mkM _ _ _ (⟨0, 1, 0, 0, (⟨t169, t170⟩ : S23), (⟨t171, t172⟩ : S23), (⟨0, 0⟩ : S23), 0⟩ : S36) )) rfl (Reps.front (show Kd.M k36 _ _ _ (⟨0, 2, 0, 0, (⟨t173, t174⟩ : S23), (⟨0, 0⟩ : S23), (⟨0, 0⟩ : S23), 0⟩ : S36) [.int .i64 0, .int .u8 2, .int .i64 0, .int .i64 0, .int .i64 t173, .int .i64 t174, .int .i64 0, .int .i64 0, .int .i64 0, .int .i64 0, .int .i64 0] from (k36_mkM _ _ _ (⟨0, 2, 0, 0, (⟨t173, t174⟩ : S23), (⟨0, 0⟩ : S23), (⟨0, 0⟩ : S23), 0⟩ : S36) )) rfl (Reps.front (show Kd.M k36 _ _ _ (⟨0, 3, 0, 0, (⟨t175, t176⟩ : S23), (⟨0, 0⟩ : S23), (⟨0, 0⟩ : S23), 0⟩ : S36) [.int .i64 0, .int .u8 3, .int .i64 0, .int .i64 0, .int .i64 t175, .int .i64 t176, .int .i64 0, .int .i64 0, .int .i64 0, .int .i64 0, .int .i64 0] from (k36_mkM _ _ _ (⟨0, 3, 0, 0, (⟨t175, t176⟩ : S23), (⟨0, 0⟩ : S23), (⟨0, 0⟩ : S23), 0⟩ : S36) )) rfl (Reps.front (show Kd.M k36 _ _ _ (⟨0, 4, 0, 7, (⟨t177, t178⟩ : S23), (⟨0, 0⟩ : S23), (⟨0, 0⟩ : S23), 0⟩ : S36) [.int .i64 0, .int .u8 4, .int .i64 0, .int .i64 7, .int .i64 t177, .int .i64 t178, .int .i64 0, .int .i64 0, .int .i64 0, .int .i64 0, .int .i64 0] from (k36_mkM _ _ _ (⟨0, 4, 0, 7, (⟨t177, t178⟩ : S23), (⟨0, 0⟩ : S23), (⟨0, 0⟩ : S23), 0⟩ : S36) )) rfl (Reps.front (show Kd.M k36 _ _ _ (⟨0, 6, 0, 0, (⟨0, 0⟩ : S23), (⟨0, 0⟩ : S23), (⟨0, 0⟩ : S23), 0⟩ : S36) [.int .i64 0, .int .u8 6, .int .i64 0, .int .i64 0, .int .i64 0, .int .i64 0, .int .i64 0, .int .i64 0, .int .i64 0, .int .i64 0, .int .i64 0] from (k36_mkM _ _ _ (⟨0, 6, 0, 0, (⟨0, 0⟩ : S23), (⟨0, 0⟩ : S23), (⟨0, 0⟩ : S23), 0⟩ : S36) )) rfl (Reps.none _ _) rfl) rfl) rfl) rfl) rfl)); intro v180 w16 ho17 hb hg_ hnew_; clear hg_ hnew_; (first | rw [← Ny179.out] at ho17 | (simp only [Int.reduceToNat] at ho17; rw [← Ny179.out] at ho17)); have n0_ := Aside0.mk (Kd.R_lower ho17 (below_size (by repeat (first | (with_reducible first | exact HB.out | apply below_alloc | apply pw_below_drewN | apply below_drew1 | refine below_set ?_ GE164.out) | exact HB.out)))); have n1_ := Aside0.mk (blk_below (g := gb164) (o := .cells #[.int .i64 0, .int .i64 0, .int .i64 0, .int .i64 0, .slice none 0 0] 26 (0, 0)) (by (with_reducible repeat (first | refine blk_drewN ?_ _ | refine blk_drew ?_ | refine blk_alloc ?_ _)); exact BK164.out) hb); have n2_ := Aside0.mk (below_step (by repeat (first | (with_reducible first | exact HB.out | apply below_alloc | apply pw_below_drewN | apply below_drew1 | refine below_set ?_ GE164.out) | exact HB.out)) hb); clear BK164; clear HB; have HO181 := n0_; have BK164 := n1_; have HB := n2_; clear n0_ n1_ n2_; clear hb ho17; obtain ⟨Ao18, co18, eo18⟩ := Kd.R_slice HO181.out; subst eo18; have hcz19_0 : w16.cell? ⟨gb164, 0, none⟩ = some (.int .i64 0) := (blk_cell BK164.out 0).trans rfl; have hcz19_1 : w16.cell? ⟨gb164, 1, none⟩ = some (.int .i64 0) := (blk_cell BK164.out 1).trans rfl; have hcz19_2 : w16.cell? ⟨gb164, 2, none⟩ = some (.int .i64 0) := (blk_cell BK164.out 2).trans rfl; have hcz19_3 : w16.cell? ⟨gb164, 3, none⟩ = some (.int .i64 0) := (blk_cell BK164.out 3).trans rfl; have hcz19_4 : w16.cell? ⟨gb164, 4, none⟩ = some (.slice none 0 0) := (blk_cell BK164.out 4).trans rfl; have hfz19_0 := blk_frozen BK164.out 0; have hfz19_1 := blk_frozen BK164.out 1; have hfz19_2 := blk_frozen BK164.out 2; have hfz19_3 := blk_frozen BK164.out 3; have hfz19_4 := blk_frozen BK164.out 4))
  refine bodyPost_ret (results_cell_row rfl _ _ gb164 26 #[.int .i64 t165, .int .i64 t166, .int .i64 t167, .int .i64 t168, .slice Ao18 y179.length co18] (0, 0) _ rfl (by (with_reducible repeat (first | refine blk_drewN ?_ _ | refine blk_drew ?_ | refine blk_alloc ?_ _)); refine blk_put (cs := #[.int .i64 t165, .int .i64 t166, .int .i64 t167, .int .i64 t168, .slice none 0 0]) ?_ 4 _ rfl; (with_reducible repeat (first | refine blk_drewN ?_ _ | refine blk_drew ?_ | refine blk_alloc ?_ _)); refine blk_put (cs := #[.int .i64 t165, .int .i64 t166, .int .i64 t167, .int .i64 0, .slice none 0 0]) ?_ 3 _ rfl; (with_reducible repeat (first | refine blk_drewN ?_ _ | refine blk_drew ?_ | refine blk_alloc ?_ _)); refine blk_put (cs := #[.int .i64 t165, .int .i64 t166, .int .i64 0, .int .i64 0, .slice none 0 0]) ?_ 2 _ rfl; (with_reducible repeat (first | refine blk_drewN ?_ _ | refine blk_drew ?_ | refine blk_alloc ?_ _)); refine blk_put (cs := #[.int .i64 t165, .int .i64 0, .int .i64 0, .int .i64 0, .slice none 0 0]) ?_ 1 _ rfl; (with_reducible repeat (first | refine blk_drewN ?_ _ | refine blk_drew ?_ | refine blk_alloc ?_ _)); refine blk_put (cs := #[.int .i64 0, .int .i64 0, .int .i64 0, .int .i64 0, .slice none 0 0]) ?_ 0 _ rfl; (with_reducible repeat (first | refine blk_drewN ?_ _ | refine blk_drew ?_ | refine blk_alloc ?_ _)); exact BK164.out) Try.underlying26 rfl (by kernel_rfl)) rfl ?_
  exact ⟨_, by first | rfl | (simp [errW_none, errW_some] <;> rfl) | (simp [*, errW_none, errW_some] <;> rfl), by (with_reducible repeat (first | apply Kd.R_alloc | apply Kd.R_drewN | apply Kd.R_drew)); exact Kd.R_mono (Kd.R_far (p := ⟨gb164, 4, none⟩) (Kd.R_far (p := ⟨gb164, 3, none⟩) (Kd.R_far (p := ⟨gb164, 2, none⟩) (Kd.R_far (p := ⟨gb164, 1, none⟩) (Kd.R_far (p := ⟨gb164, 0, none⟩) (Kd.R_types HO181.out BK164.out (by decide)) (fun _ hk => hk.2) (.int .i64 t165)) (fun _ hk => hk.2) (.int .i64 t166)) (fun _ hk => hk.2) (.int .i64 t167)) (fun _ hk => hk.2) (.int .i64 t168)) (fun _ hk => hk.2) (.slice Ao18 y179.length co18)) (fun _ hk => trivial), by repeat (first | (with_reducible first | exact HB.out | apply below_alloc | apply pw_below_drewN | apply below_drew1 | refine below_set ?_ GE164.out) | exact HB.out)⟩

end Go.Proofs.Ytbmkbokkmmdjdaa.Q
end
section
namespace Go.Proofs.Ytbmkbokkmmdjdaa
open Go.RowKit Go.Proofs.YtbmkbokkmmdjdaaW.PrintWords Go.Proofs.YtbmkbokkmmdjdaaW.PrintLast Go.Proofs.YtbmkbokkmmdjdaaW.PrintMore
open Q Go.Shelf
attribute [local go_sem] Oper.semAt_some wide_depth wide_fn
set_option linter.unusedVariables false
set_option linter.unusedSimpArgs false

attribute [local go_sem high] eqA23
def yearL : List S36 := [⟨0, 1, 0, 0, ⟨500, 500⟩, ⟨600, 700⟩, ⟨0, 0⟩, 0⟩, ⟨0, 2, 0, 0, ⟨200, 210⟩, ⟨0, 0⟩, ⟨0, 0⟩, 0⟩, ⟨0, 3, 0, 0, ⟨190, 200⟩, ⟨0, 0⟩, ⟨0, 0⟩, 0⟩, ⟨0, 4, 0, 7, ⟨180, 180⟩, ⟨0, 0⟩, ⟨0, 0⟩, 0⟩, ⟨0, 6, 0, 0, ⟨0, 0⟩, ⟨0, 0⟩, ⟨0, 0⟩, 0⟩]
theorem year_any (w : World) : Calls Try.prog 25 #[] w fun e w' => ∃ A c, e = .returned (.agg #[.int .i64 900, .int .i64 1300, .int .i64 1000, .int .i64 1000, .slice A yearL.length c]) ∧ yearL.length ≤ c ∧ Kd.C k36 w' A yearL.length yearL ∧ Below w.heap.size w w' := by
  refine (culletlaw09_year.calls 900 1300 1000 1000 yearL w (by rfl)).mono ?_
  rintro e w' ⟨v, rfl, hR, hb⟩
  obtain ⟨A, c, rfl, hl, hC⟩ := Kd.R_reads hR
  exact ⟨A, c, rfl, hl, hC, hb⟩
theorem year_wrong : wrongV ⟨900, 1300⟩ ⟨1000, 1000⟩ yearL = .tuple #[.int .i64 5, .int .u8 0, .int .i64 0, .int .i64 0] := by kernel_rfl
theorem year_a0 : amountV ⟨900, 1300⟩ ⟨1000, 1000⟩ yearL 0 0 5 = (⟨1000000, 1020000⟩, 0) := by kernel_rfl
theorem year_a2 : amountV ⟨900, 1300⟩ ⟨1000, 1000⟩ yearL 2 0 5 = (⟨290000, 300000⟩, 0) := by kernel_rfl
theorem year_a1 : amountV ⟨900, 1300⟩ ⟨1000, 1000⟩ yearL 1 0 5 = (⟨10000, 20000⟩, 0) := by kernel_rfl
theorem year_share : shareRes ⟨900, 1300⟩ ⟨1000, 1000⟩ yearL 0 = (⟨571, 735⟩, 0) := by kernel_rfl
theorem year_most : mostV ⟨900, 1300⟩ ⟨1000, 1000⟩ yearL 7 = (571, 0) := by kernel_rfl
set_option maxRecDepth 100000 in
set_option maxHeartbeats 8000000 in
theorem sums_any (w : World) : Calls Try.prog 9 #[] w (RetBool true w) := by
  have hu := Try.underlying23
  have HB0 := hid (Below.refl w.heap.size w)
  go_enter Try.func9, Try.ntmps9
  go_wp2_with fail
  refine (year_any _).mono ?_
  rintro e W1 ⟨A1, c1, rfl, hc1, hk1, hb⟩
  have HB1 := hid (HB0.out.trans (hb.mono HB0.out.size))
  clear hb
  go_wp2_with fail
  refine (Wrong_any ⟨900, 1300⟩ ⟨1000, 1000⟩ A1 c1 yearL _ hk1 hc1).mono ?_
  rintro e W2 ⟨rfl, hb⟩
  rw [year_wrong]
  have HB2 := hid (HB1.out.trans (hb.mono HB1.out.size))
  clear hb hk1 hc1
  go_wp2_with fail
  refine (year_any _).mono ?_
  rintro e W1 ⟨A1, c1, rfl, hc1, hk1, hb⟩
  have HB3 := hid (HB2.out.trans (hb.mono HB2.out.size))
  clear hb
  go_wp2_with fail
  refine (Amount_any ⟨900, 1300⟩ ⟨1000, 1000⟩ A1 c1 yearL 0 0 5 _ hk1 hc1).mono ?_
  rintro e W2 ⟨rfl, hb⟩
  rw [year_a0]
  have HB4 := hid (HB3.out.trans (hb.mono HB3.out.size))
  clear hb hk1 hc1
  go_upto_region 3 with fail
  have hgr := (Below.refl W2.heap.size W2).alloc (Nat.le_refl _) (.cells #[.int .i64 1000000, .int .i64 1020000] 23)
  have e1 := World.alloc_heap_new W2 (.cells #[.int .i64 1000000, .int .i64 1020000] 23)
  have HX1 := hid (HB4.out.trans (hgr.mono HB4.out.size))
  clear HB4 hgr
  have HB4 := hid HX1.out
  generalize W2.alloc (.cells #[.int .i64 1000000, .int .i64 1020000] 23) = W3 at *
  generalize W2.heap.size = Bx1 at *
  go_wp2_with fail
  refine (year_any _).mono ?_
  rintro e W1 ⟨A1, c1, rfl, hc1, hk1, hb⟩
  have HB5 := hid (HB4.out.trans (hb.mono HB4.out.size))
  have e1' := heap_grow e1 hb
  clear e1
  have e1 := e1'
  clear e1'
  clear hb
  go_wp2_with fail
  refine (Amount_any ⟨900, 1300⟩ ⟨1000, 1000⟩ A1 c1 yearL 2 0 5 _ hk1 hc1).mono ?_
  rintro e W2 ⟨rfl, hb⟩
  rw [year_a2]
  have HB6 := hid (HB5.out.trans (hb.mono HB5.out.size))
  have e1' := heap_grow e1 hb
  clear e1
  have e1 := e1'
  clear e1'
  clear hb hk1 hc1
  go_upto_region 4 with fail
  have hgr := (Below.refl W2.heap.size W2).alloc (Nat.le_refl _) (.cells #[.int .i64 290000, .int .i64 300000] 23)
  have e2 := World.alloc_heap_new W2 (.cells #[.int .i64 290000, .int .i64 300000] 23)
  have e1' := heap_grow e1 hgr
  clear e1
  have e1 := e1'
  clear e1'
  have HX2 := hid (HB6.out.trans (hgr.mono HB6.out.size))
  clear HB6 hgr
  have HB6 := hid HX2.out
  generalize W2.alloc (.cells #[.int .i64 290000, .int .i64 300000] 23) = W3 at *
  generalize W2.heap.size = Bx2 at *
  go_wp2_with fail
  refine (year_any _).mono ?_
  rintro e W1 ⟨A1, c1, rfl, hc1, hk1, hb⟩
  have HB7 := hid (HB6.out.trans (hb.mono HB6.out.size))
  have e1' := heap_grow e1 hb
  clear e1
  have e2' := heap_grow e2 hb
  clear e2
  have e1 := e1'
  clear e1'
  have e2 := e2'
  clear e2'
  clear hb
  go_wp2_with fail
  refine (Amount_any ⟨900, 1300⟩ ⟨1000, 1000⟩ A1 c1 yearL 1 0 5 _ hk1 hc1).mono ?_
  rintro e W2 ⟨rfl, hb⟩
  rw [year_a1]
  have HB8 := hid (HB7.out.trans (hb.mono HB7.out.size))
  have e1' := heap_grow e1 hb
  clear e1
  have e2' := heap_grow e2 hb
  clear e2
  have e1 := e1'
  clear e1'
  have e2 := e2'
  clear e2'
  clear hb hk1 hc1
  go_upto_region 5 with fail
  have hgr := (Below.refl W2.heap.size W2).alloc (Nat.le_refl _) (.cells #[.int .i64 10000, .int .i64 20000] 23)
  have e3 := World.alloc_heap_new W2 (.cells #[.int .i64 10000, .int .i64 20000] 23)
  have e1' := heap_grow e1 hgr
  clear e1
  have e2' := heap_grow e2 hgr
  clear e2
  have e1 := e1'
  clear e1'
  have e2 := e2'
  clear e2'
  have HX3 := hid (HB8.out.trans (hgr.mono HB8.out.size))
  clear HB8 hgr
  have HB8 := hid HX3.out
  generalize W2.alloc (.cells #[.int .i64 10000, .int .i64 20000] 23) = W3 at *
  generalize W2.heap.size = Bx3 at *
  go_wp2_with fail
  refine (year_any _).mono ?_
  rintro e W1 ⟨A1, c1, rfl, hc1, hk1, hb⟩
  have HB9 := hid (HB8.out.trans (hb.mono HB8.out.size))
  have e1' := heap_grow e1 hb
  clear e1
  have e2' := heap_grow e2 hb
  clear e2
  have e3' := heap_grow e3 hb
  clear e3
  have e1 := e1'
  clear e1'
  have e2 := e2'
  clear e2'
  have e3 := e3'
  clear e3'
  clear hb
  go_wp2_with fail
  refine (Share_any ⟨900, 1300⟩ ⟨1000, 1000⟩ A1 c1 yearL 0 _ hk1 hc1).mono ?_
  rintro e W2 ⟨rfl, hb⟩
  rw [year_share]
  have HB10 := hid (HB9.out.trans (hb.mono HB9.out.size))
  have e1' := heap_grow e1 hb
  clear e1
  have e2' := heap_grow e2 hb
  clear e2
  have e3' := heap_grow e3 hb
  clear e3
  have e1 := e1'
  clear e1'
  have e2 := e2'
  clear e2'
  have e3 := e3'
  clear e3'
  clear hb hk1 hc1
  go_upto_region 6 with fail
  have hgr := (Below.refl W2.heap.size W2).alloc (Nat.le_refl _) (.cells #[.int .i64 571, .int .i64 735] 23)
  have e4 := World.alloc_heap_new W2 (.cells #[.int .i64 571, .int .i64 735] 23)
  have e1' := heap_grow e1 hgr
  clear e1
  have e2' := heap_grow e2 hgr
  clear e2
  have e3' := heap_grow e3 hgr
  clear e3
  have e1 := e1'
  clear e1'
  have e2 := e2'
  clear e2'
  have e3 := e3'
  clear e3'
  have HX4 := hid (HB10.out.trans (hgr.mono HB10.out.size))
  clear HB10 hgr
  have HB10 := hid HX4.out
  generalize W2.alloc (.cells #[.int .i64 571, .int .i64 735] 23) = W3 at *
  generalize W2.heap.size = Bx4 at *
  go_wp2_with fail
  refine (year_any _).mono ?_
  rintro e W1 ⟨A1, c1, rfl, hc1, hk1, hb⟩
  have HB11 := hid (HB10.out.trans (hb.mono HB10.out.size))
  have e1' := heap_grow e1 hb
  clear e1
  have e2' := heap_grow e2 hb
  clear e2
  have e3' := heap_grow e3 hb
  clear e3
  have e4' := heap_grow e4 hb
  clear e4
  have e1 := e1'
  clear e1'
  have e2 := e2'
  clear e2'
  have e3 := e3'
  clear e3'
  have e4 := e4'
  clear e4'
  clear hb
  go_wp2_with fail
  refine (Most_any ⟨900, 1300⟩ ⟨1000, 1000⟩ A1 c1 yearL 7 _ hk1 hc1).mono ?_
  rintro e W2 ⟨rfl, hb⟩
  rw [year_most]
  have HB12 := hid (HB11.out.trans (hb.mono HB11.out.size))
  have e1' := heap_grow e1 hb
  clear e1
  have e2' := heap_grow e2 hb
  clear e2
  have e3' := heap_grow e3 hb
  clear e3
  have e4' := heap_grow e4 hb
  clear e4
  have e1 := e1'
  clear e1'
  have e2 := e2'
  clear e2'
  have e3 := e3'
  clear e3'
  have e4 := e4'
  clear e4'
  clear hb hk1 hc1
  have y0 := blkCell e1 0
  have z0 := blkCell e1 1
  have y1 := blkCell e2 0
  have z1 := blkCell e2 1
  have y2 := blkCell e3 0
  have z2 := blkCell e3 1
  have y3 := blkCell e4 0
  have z3 := blkCell e4 1
  simp at y0 z0 y1 z1 y2 z2 y3 z3
  clear e1 e2 e3 e4
  go_wp2
  go_ret
  exact ⟨rfl, HB12.out⟩
end Go.Proofs.Ytbmkbokkmmdjdaa
end
section
namespace Go.Proofs.Ytbmkbokkmmdjdaa
open Go.RowKit Go.Proofs.YtbmkbokkmmdjdaaW.PrintWords Go.Proofs.YtbmkbokkmmdjdaaW.PrintLast Go.Proofs.YtbmkbokkmmdjdaaW.PrintMore
open Q Go.Shelf
attribute [local go_sem] Oper.semAt_some wide_depth wide_fn
set_option linter.unusedVariables false
set_option linter.unusedSimpArgs false
set_option maxRecDepth 100000 in
set_option maxHeartbeats 4000000 in
theorem HeapsR_any (ho fi : S23) (A : Option Addr) (c : Nat) (l : List S36) (w : World) (hr : Kd.C k36 w A l.length l) (hc : l.length ≤ c) :
    Calls Try.prog 13 #[.agg #[.int .i64 ho.f0, .int .i64 ho.f1, .int .i64 fi.f0, .int .i64 fi.f1, .slice A l.length c]] w (RetHeaps (bookErr ho fi l) (heapsOf ho fi l) w) := by
  have hu := Try.underlying73
  have hu1 := Try.underlying39
  have HB := Below.refl w.heap.size w
  have hbel := hid (HB.alloc (Nat.le_refl _) (.cells #[.int .i64 ho.f0, .int .i64 ho.f1, .int .i64 fi.f0, .int .i64 fi.f1, .slice A l.length c] 26))
  have e0 := World.alloc_heap_new w (.cells #[.int .i64 ho.f0, .int .i64 ho.f1, .int .i64 fi.f0, .int .i64 fi.f1, .slice A l.length c] 26)
  go_enter Try.func13, Try.ntmps13
  go_wp2_with fail
  generalize w.alloc (.cells #[.int .i64 ho.f0, .int .i64 ho.f1, .int .i64 fi.f0, .int .i64 fi.f1, .slice A l.length c] 26) = W1 at *
  refine (checkR_any ho fi A c l _ (Kd.C_below hr hbel.out) hc).mono ?_
  rintro e W2 ⟨rfl, hb⟩
  have e0 := heap_grow e0 hb
  have HB2 := hid (hbel.out.trans (hb.mono hbel.out.size))
  have y0 := blkCell e0 0
  have y1 := blkCell e0 1
  have y2 := blkCell e0 2
  have y3 := blkCell e0 3
  have y4 := blkCell e0 4
  simp at y0 y1 y2 y3 y4
  clear hb hbel HB
  by_cases h1 : bookErr ho fi l = 0
  · have HV := hid h1
    have HL := hid (bookOk_of h1).len
    have HE := hid (show heapsOf ho fi l = (keptOf l).hs by unfold heapsOf; rw [if_pos h1])
    have d1 : (bookErr ho fi l != 0) = false := by simpa using h1
    clear h1
    go_wp2_with fail
    refine (periodsR_any ho fi A c l _ (Kd.C_below hr HB2.out) hc HV.out).mono ?_
    rintro e W3 ⟨vp, vh, rfl, hrp, hrh, hb⟩
    obtain ⟨Ah, ch, rfl⟩ := own_slice hrh
    obtain ⟨Ap, cp, rfl⟩ := own_slice hrp
    have HB3 := hid (HB2.out.trans (hb.mono HB2.out.size))
    have HR := hid (own_lower HB2.out.size hrh)
    clear y0 y1 y2 y3 y4 e0 hb hrh hrp
    go_wp2
    refine bodyPost_ret (v := .tuple #[.slice Ah (keptOf l).hs.length ch, .int .i64 0]) (by simp [results, Try.results13, go_sem]) rfl ?_
    exact ⟨_, by rw [HV.out], by rw [HE.out]; exact HR.out, HB3.out⟩
  · have HV := hid h1
    have HE := hid (show heapsOf ho fi l = [] by unfold heapsOf; rw [if_neg h1])
    have d1 : (bookErr ho fi l != 0) = true := by simpa using h1
    clear h1
    go_wp2
    refine bodyPost_ret (v := .tuple #[.slice none 0 0, .int .i64 (bookErr ho fi l)]) (by simp [results, Try.results13, go_sem]) rfl ?_
    exact ⟨_, rfl, by rw [HE.out]; exact own_nil _ _ _ _, HB2.out⟩
end Go.Proofs.Ytbmkbokkmmdjdaa
end
section
namespace Go.Proofs.Ytbmkbokkmmdjdaa
open Go.RowKit Go.Proofs.YtbmkbokkmmdjdaaW.PrintWords Go.Proofs.YtbmkbokkmmdjdaaW.PrintLast Go.Proofs.YtbmkbokkmmdjdaaW.PrintMore
open Q Go.Shelf
set_option linter.unusedVariables false
set_option linter.unusedSimpArgs false
structure In3 (p : S52) (g r c : Int) : Prop where
  g0 : p.f0.f0 ≤ g
  g1 : g ≤ p.f0.f1
  r0 : p.f1.f0 ≤ r
  r1 : r ≤ p.f1.f1
  c0 : p.f2.f0 ≤ c
  c1 : c ≤ p.f2.f1
theorem share_in {m : Int} {p : S52} (h : PR m p) (hm : m ≤ 1000000000000) {g r c : Int} (hi : In3 p g r c) (hrg : r ≤ g) (hg : 0 < g) : (shareS p).f0 * g ≤ 1000 * r ∧ 1000 * r ≤ (shareS p).f1 * g := by
  have a1 := h.g0; have a2 := h.g1; have a3 := h.g2; have a4 := h.r0; have a5 := h.r1; have a6 := h.r2; have a7 := h.rg
  have b1 := hi.g0; have b2 := hi.g1; have b3 := hi.r0; have b4 := hi.r1
  show shareLo p * g ≤ 1000 * r ∧ 1000 * r ≤ shareHi p * g
  refine ⟨?_, ?_⟩
  · unfold shareLo
    rw [if_pos (by omega)]
    generalize p.f1.f0 = R at *
    generalize p.f0.f1 = G at *
    rw [wrap64_id (n := 1000 * R) (by omega) (by omega), Int.tdiv_eq_ediv_of_nonneg (by omega)]
    have q1 : 0 ≤ 1000 * R / G := Int.ediv_nonneg (by omega) (by omega)
    have q2 : 1000 * R / G ≤ 1000 := Int.ediv_le_of_le_mul (by omega) (by omega)
    rw [wrap64_id (by omega) (by omega)]
    have e1 : 1000 * R / G * G ≤ 1000 * R := Int.ediv_mul_le _ (by omega)
    have e2 : 1000 * R / G * g ≤ 1000 * R / G * G := Int.mul_le_mul_of_nonneg_left b2 q1
    omega
  · unfold shareHi
    by_cases hf : 0 < p.f0.f0
    · rw [if_pos hf]
      unfold shareQ
      generalize p.f1.f1 = S at *
      generalize p.f0.f0 = F at *
      rw [wrap64_id (n := 1000 * S) (by omega) (by omega), wrap64_id (n := 1000 * S + F) (by omega) (by omega), wrap64_id (n := 1000 * S + F - 1) (by omega) (by omega), Int.tdiv_eq_ediv_of_nonneg (by omega)]
      have e4 : (1000 * S + F - 1) / F ≤ 1000 * S + F - 1 := Int.ediv_le_self _ (by omega)
      have e5 : 0 ≤ (1000 * S + F - 1) / F := Int.ediv_nonneg (by omega) (by omega)
      rw [wrap64_id (by omega) (by omega)]
      have e6 : 1000 * S ≤ (1000 * S + F - 1) / F * F := by
        have h1 := Int.lt_ediv_add_one_mul_self (1000 * S + F - 1) hf
        rw [Int.add_mul] at h1
        omega
      generalize (1000 * S + F - 1) / F = q at *
      have e7 : q * F ≤ q * g := Int.mul_le_mul_of_nonneg_left b1 e5
      unfold mn
      split
      · omega
      · omega
    · rw [if_neg hf]; omega
theorem charge_in {p : S52} {k : S23} {h : S60} {m g r c kl L rc : Int} (hp : PR m p) (hm : m ≤ 1000000000000) (hc0 : -1000000000000 ≤ p.f2.f0 ∧ p.f2.f0 ≤ 1000000000000 ∧ -1000000000000 ≤ p.f2.f1 ∧ p.f2.f1 ≤ 1000000000000) (hi : In3 p g r c) (hk : 0 ≤ k.f0 ∧ k.f0 ≤ k.f1 ∧ k.f1 ≤ 1000000) (hh : HR1 h)
    (h1 : k.f0 ≤ kl ∧ kl ≤ k.f1) (h2 : h.f2.f0 ≤ L ∧ L ≤ h.f2.f1) (h3 : h.f1.f0 ≤ rc ∧ rc ≤ h.f1.f1) : In3 (chargeP p k h) (g + kl * (1000 - L)) (r + kl * rc) (c + (1000 * kl - kl * (1000 - L))) := by
  obtain ⟨g1, g2, g3, g4⟩ := glassS_val hk ⟨hh.ok.l0, hh.ok.l1, hh.ok.l2⟩
  have c1 := hh.r0; have c2 := hh.r1; have c3 := hh.r2; have c5 := hh.ok.l0; have c6 := hh.ok.l1; have c7 := hh.ok.l2
  have t1 : k.f0 * (1000 - h.f2.f1) ≤ kl * (1000 - L) := Int.mul_le_mul h1.1 (by omega) (by omega) (by omega)
  have t2 : kl * (1000 - L) ≤ k.f1 * (1000 - h.f2.f0) := Int.mul_le_mul h1.2 (by omega) (by omega) (by omega)
  have t3 : k.f0 * h.f1.f0 ≤ kl * rc := Int.mul_le_mul h1.1 h3.1 c1 (by omega)
  have t4 : kl * rc ≤ k.f1 * h.f1.f1 := Int.mul_le_mul h1.2 h3.2 (by omega) (by omega)
  have t5 : k.f1 * h.f1.f1 ≤ 1000000 * 1000 := Int.mul_le_mul hk.2.2 c3 (by omega) (by omega)
  have t6 : 0 ≤ k.f0 * h.f1.f0 := Int.mul_nonneg hk.1 c1
  have t7 : k.f0 * h.f2.f0 ≤ kl * L := Int.mul_le_mul h1.1 h2.1 c5 (by omega)
  have t8 : kl * L ≤ k.f1 * h.f2.f1 := Int.mul_le_mul h1.2 h2.2 (by omega) (by omega)
  have t9 : k.f1 * h.f2.f1 ≤ 1000000 * 1000 := Int.mul_le_mul hk.2.2 c7 (by omega) (by omega)
  have t10 : 0 ≤ k.f0 * h.f2.f0 := Int.mul_nonneg hk.1 c5
  have e0 : 1000 * kl - kl * (1000 - L) = kl * L := by rw [Int.mul_sub]; omega
  have a1 := hp.g0; have a2 := hp.g1; have a3 := hp.g2; have a4 := hp.r0; have a5 := hp.r1; have a6 := hp.r2
  have b1 := hi.g0; have b2 := hi.g1; have b3 := hi.r0; have b4 := hi.r1; have b5 := hi.c0; have b6 := hi.c1
  have x1 : (chargeP p k h).f0 = ⟨p.f0.f0 + k.f0 * (1000 - h.f2.f1), p.f0.f1 + k.f1 * (1000 - h.f2.f0)⟩ := by
    show plusS p.f0 (glassS k h) = _
    rw [g1]
    unfold plusS
    simp only
    generalize k.f0 * (1000 - h.f2.f1) = u at *
    generalize k.f1 * (1000 - h.f2.f0) = v at *
    clear g1
    rw [wrap64_id (n := p.f0.f0 + u) (by omega) (by omega), wrap64_id (n := p.f0.f1 + v) (by omega) (by omega)]
  have x2 : (chargeP p k h).f1 = ⟨p.f1.f0 + k.f0 * h.f1.f0, p.f1.f1 + k.f1 * h.f1.f1⟩ := by
    show plusS p.f1 (timesS k h.f1) = _
    unfold plusS timesS
    simp only
    generalize k.f0 * h.f1.f0 = u at *
    generalize k.f1 * h.f1.f1 = v at *
    clear g1 x1
    rw [wrap64_id (n := u) (by omega) (by omega), wrap64_id (n := v) (by omega) (by omega), wrap64_id (n := p.f1.f0 + u) (by omega) (by omega), wrap64_id (n := p.f1.f1 + v) (by omega) (by omega)]
  have x3 : (chargeP p k h).f2 = ⟨p.f2.f0 + k.f0 * h.f2.f0, p.f2.f1 + k.f1 * h.f2.f1⟩ := by
    show plusS p.f2 (timesS k h.f2) = _
    unfold plusS timesS
    simp only
    generalize k.f0 * h.f2.f0 = u at *
    generalize k.f1 * h.f2.f1 = v at *
    clear g1 x1 x2
    rw [wrap64_id (n := u) (by omega) (by omega), wrap64_id (n := v) (by omega) (by omega), wrap64_id (n := p.f2.f0 + u) (by omega) (by omega), wrap64_id (n := p.f2.f1 + v) (by omega) (by omega)]
  rw [e0]
  refine ⟨?_, ?_, ?_, ?_, ?_, ?_⟩
  all_goals first | rw [x1] | rw [x2] | rw [x3]
  all_goals simp only
  all_goals omega
end Go.Proofs.Ytbmkbokkmmdjdaa
end
