-- N25 D1 N22 N46 (wip/pack9.py)
import Derived.Test.YtbmkbokkmmdjdaaV2
import Derived.Test.YtbmkbokkmmdjdaaV20
section
namespace Go.Proofs.Ytbmkbokkmmdjdaa.Q
open Go.RowKit Go.Proofs.YtbmkbokkmmdjdaaW.PrintWords Go.Proofs.YtbmkbokkmmdjdaaW.PrintLast Go.Proofs.YtbmkbokkmmdjdaaW.PrintMore
attribute [local go_sem] max2_int min2_int max_two min_two max_three min_three max_four min_four   -- for this text's walks alone
set_option linter.unusedVariables false
set_option linter.unusedSimpArgs false

def culletlaw09_year.f  : Option (Int × Int × Int × Int × (List (S36))) := (culletlaw09_k.f 900 1300).bind fun bt165 => ((culletlaw09_k.f 1000 1000).bind fun bt167 => ((culletlaw09_k.f 500 500).bind fun bt169 => ((culletlaw09_k.f 600 700).bind fun bt171 => ((culletlaw09_k.f 200 210).bind fun bt173 => ((culletlaw09_k.f 190 200).bind fun bt175 => ((culletlaw09_k.f 180 180).bind fun bt177 => (some (bt165.1, bt165.2, bt167.1, bt167.2, (([(⟨0, 1, 0, 0, (⟨bt169.1, bt169.2⟩ : S23), (⟨bt171.1, bt171.2⟩ : S23), (⟨0, 0⟩ : S23), 0⟩ : S36), (⟨0, 2, 0, 0, (⟨bt173.1, bt173.2⟩ : S23), (⟨0, 0⟩ : S23), (⟨0, 0⟩ : S23), 0⟩ : S36), (⟨0, 3, 0, 0, (⟨bt175.1, bt175.2⟩ : S23), (⟨0, 0⟩ : S23), (⟨0, 0⟩ : S23), 0⟩ : S36), (⟨0, 4, 0, 7, (⟨bt177.1, bt177.2⟩ : S23), (⟨0, 0⟩ : S23), (⟨0, 0⟩ : S23), 0⟩ : S36), (⟨0, 6, 0, 0, (⟨0, 0⟩ : S23), (⟨0, 0⟩ : S23), (⟨0, 0⟩ : S23), 0⟩ : S36)] : List (S36)))))))))))
set_option maxHeartbeats 8000000 in
set_option maxRecDepth 100000 in
theorem culletlaw09_year.calls  (r1 : Int) (r2 : Int) (r3 : Int) (r4 : Int) (r5 : List (S36)) (w : World) (h : culletlaw09_year.f  = some (r1, r2, r3, r4, r5)) :
    Calls Try.prog 25 #[] w fun e w' => ∃ v4_ : Value, e = .returned (.agg #[.int .i64 r1, .int .i64 r2, .int .i64 r3, .int .i64 r4, v4_]) ∧ Kd.R k36 36 w' w.heap.size (fun _ => True) v4_ r5 ∧ Below w.heap.size w w' := by
  have hu26 := Try.underlying26
  have hu36 := Try.underlying36
  have HB := Aside0.mk (Below.refl w.heap.size w)
  have H : ((culletlaw09_k.f 900 1300).bind fun bt165 => ((culletlaw09_k.f 1000 1000).bind fun bt167 => ((culletlaw09_k.f 500 500).bind fun bt169 => ((culletlaw09_k.f 600 700).bind fun bt171 => ((culletlaw09_k.f 200 210).bind fun bt173 => ((culletlaw09_k.f 190 200).bind fun bt175 => ((culletlaw09_k.f 180 180).bind fun bt177 => (some (bt165.1, bt165.2, bt167.1, bt167.2, (([(⟨0, 1, 0, 0, (⟨bt169.1, bt169.2⟩ : S23), (⟨bt171.1, bt171.2⟩ : S23), (⟨0, 0⟩ : S23), 0⟩ : S36), (⟨0, 2, 0, 0, (⟨bt173.1, bt173.2⟩ : S23), (⟨0, 0⟩ : S23), (⟨0, 0⟩ : S23), 0⟩ : S36), (⟨0, 3, 0, 0, (⟨bt175.1, bt175.2⟩ : S23), (⟨0, 0⟩ : S23), (⟨0, 0⟩ : S23), 0⟩ : S36), (⟨0, 4, 0, 7, (⟨bt177.1, bt177.2⟩ : S23), (⟨0, 0⟩ : S23), (⟨0, 0⟩ : S23), 0⟩ : S36), (⟨0, 6, 0, 0, (⟨0, 0⟩ : S23), (⟨0, 0⟩ : S23), (⟨0, 0⟩ : S23), 0⟩ : S36)] : List (S36)))))))))))) = some (r1, r2, r3, r4, r5) := h
  clear h
  replace H := Option.bind_eq_some_iff.mp H
  obtain ⟨⟨t165, t166⟩, A10, H⟩ := H
  replace H : ((culletlaw09_k.f 1000 1000).bind fun bt167 => ((culletlaw09_k.f 500 500).bind fun bt169 => ((culletlaw09_k.f 600 700).bind fun bt171 => ((culletlaw09_k.f 200 210).bind fun bt173 => ((culletlaw09_k.f 190 200).bind fun bt175 => ((culletlaw09_k.f 180 180).bind fun bt177 => (some (t165, t166, bt167.1, bt167.2, (([(⟨0, 1, 0, 0, (⟨bt169.1, bt169.2⟩ : S23), (⟨bt171.1, bt171.2⟩ : S23), (⟨0, 0⟩ : S23), 0⟩ : S36), (⟨0, 2, 0, 0, (⟨bt173.1, bt173.2⟩ : S23), (⟨0, 0⟩ : S23), (⟨0, 0⟩ : S23), 0⟩ : S36), (⟨0, 3, 0, 0, (⟨bt175.1, bt175.2⟩ : S23), (⟨0, 0⟩ : S23), (⟨0, 0⟩ : S23), 0⟩ : S36), (⟨0, 4, 0, 7, (⟨bt177.1, bt177.2⟩ : S23), (⟨0, 0⟩ : S23), (⟨0, 0⟩ : S23), 0⟩ : S36), (⟨0, 6, 0, 0, (⟨0, 0⟩ : S23), (⟨0, 0⟩ : S23), (⟨0, 0⟩ : S23), 0⟩ : S36)] : List (S36))))))))))) = some (r1, r2, r3, r4, r5) := H
  have A1 := Aside0.mk A10
  clear A10
  replace H := Option.bind_eq_some_iff.mp H
  obtain ⟨⟨t167, t168⟩, A20, H⟩ := H
  replace H : ((culletlaw09_k.f 500 500).bind fun bt169 => ((culletlaw09_k.f 600 700).bind fun bt171 => ((culletlaw09_k.f 200 210).bind fun bt173 => ((culletlaw09_k.f 190 200).bind fun bt175 => ((culletlaw09_k.f 180 180).bind fun bt177 => (some (t165, t166, t167, t168, (([(⟨0, 1, 0, 0, (⟨bt169.1, bt169.2⟩ : S23), (⟨bt171.1, bt171.2⟩ : S23), (⟨0, 0⟩ : S23), 0⟩ : S36), (⟨0, 2, 0, 0, (⟨bt173.1, bt173.2⟩ : S23), (⟨0, 0⟩ : S23), (⟨0, 0⟩ : S23), 0⟩ : S36), (⟨0, 3, 0, 0, (⟨bt175.1, bt175.2⟩ : S23), (⟨0, 0⟩ : S23), (⟨0, 0⟩ : S23), 0⟩ : S36), (⟨0, 4, 0, 7, (⟨bt177.1, bt177.2⟩ : S23), (⟨0, 0⟩ : S23), (⟨0, 0⟩ : S23), 0⟩ : S36), (⟨0, 6, 0, 0, (⟨0, 0⟩ : S23), (⟨0, 0⟩ : S23), (⟨0, 0⟩ : S23), 0⟩ : S36)] : List (S36)))))))))) = some (r1, r2, r3, r4, r5) := H
  have A2 := Aside0.mk A20
  clear A20
  replace H := Option.bind_eq_some_iff.mp H
  obtain ⟨⟨t169, t170⟩, A30, H⟩ := H
  replace H : ((culletlaw09_k.f 600 700).bind fun bt171 => ((culletlaw09_k.f 200 210).bind fun bt173 => ((culletlaw09_k.f 190 200).bind fun bt175 => ((culletlaw09_k.f 180 180).bind fun bt177 => (some (t165, t166, t167, t168, (([(⟨0, 1, 0, 0, (⟨t169, t170⟩ : S23), (⟨bt171.1, bt171.2⟩ : S23), (⟨0, 0⟩ : S23), 0⟩ : S36), (⟨0, 2, 0, 0, (⟨bt173.1, bt173.2⟩ : S23), (⟨0, 0⟩ : S23), (⟨0, 0⟩ : S23), 0⟩ : S36), (⟨0, 3, 0, 0, (⟨bt175.1, bt175.2⟩ : S23), (⟨0, 0⟩ : S23), (⟨0, 0⟩ : S23), 0⟩ : S36), (⟨0, 4, 0, 7, (⟨bt177.1, bt177.2⟩ : S23), (⟨0, 0⟩ : S23), (⟨0, 0⟩ : S23), 0⟩ : S36), (⟨0, 6, 0, 0, (⟨0, 0⟩ : S23), (⟨0, 0⟩ : S23), (⟨0, 0⟩ : S23), 0⟩ : S36)] : List (S36))))))))) = some (r1, r2, r3, r4, r5) := H
  have A3 := Aside0.mk A30
  clear A30
  replace H := Option.bind_eq_some_iff.mp H
  obtain ⟨⟨t171, t172⟩, A40, H⟩ := H
  replace H : ((culletlaw09_k.f 200 210).bind fun bt173 => ((culletlaw09_k.f 190 200).bind fun bt175 => ((culletlaw09_k.f 180 180).bind fun bt177 => (some (t165, t166, t167, t168, (([(⟨0, 1, 0, 0, (⟨t169, t170⟩ : S23), (⟨t171, t172⟩ : S23), (⟨0, 0⟩ : S23), 0⟩ : S36), (⟨0, 2, 0, 0, (⟨bt173.1, bt173.2⟩ : S23), (⟨0, 0⟩ : S23), (⟨0, 0⟩ : S23), 0⟩ : S36), (⟨0, 3, 0, 0, (⟨bt175.1, bt175.2⟩ : S23), (⟨0, 0⟩ : S23), (⟨0, 0⟩ : S23), 0⟩ : S36), (⟨0, 4, 0, 7, (⟨bt177.1, bt177.2⟩ : S23), (⟨0, 0⟩ : S23), (⟨0, 0⟩ : S23), 0⟩ : S36), (⟨0, 6, 0, 0, (⟨0, 0⟩ : S23), (⟨0, 0⟩ : S23), (⟨0, 0⟩ : S23), 0⟩ : S36)] : List (S36)))))))) = some (r1, r2, r3, r4, r5) := H
  have A4 := Aside0.mk A40
  clear A40
  replace H := Option.bind_eq_some_iff.mp H
  obtain ⟨⟨t173, t174⟩, A50, H⟩ := H
  replace H : ((culletlaw09_k.f 190 200).bind fun bt175 => ((culletlaw09_k.f 180 180).bind fun bt177 => (some (t165, t166, t167, t168, (([(⟨0, 1, 0, 0, (⟨t169, t170⟩ : S23), (⟨t171, t172⟩ : S23), (⟨0, 0⟩ : S23), 0⟩ : S36), (⟨0, 2, 0, 0, (⟨t173, t174⟩ : S23), (⟨0, 0⟩ : S23), (⟨0, 0⟩ : S23), 0⟩ : S36), (⟨0, 3, 0, 0, (⟨bt175.1, bt175.2⟩ : S23), (⟨0, 0⟩ : S23), (⟨0, 0⟩ : S23), 0⟩ : S36), (⟨0, 4, 0, 7, (⟨bt177.1, bt177.2⟩ : S23), (⟨0, 0⟩ : S23), (⟨0, 0⟩ : S23), 0⟩ : S36), (⟨0, 6, 0, 0, (⟨0, 0⟩ : S23), (⟨0, 0⟩ : S23), (⟨0, 0⟩ : S23), 0⟩ : S36)] : List (S36))))))) = some (r1, r2, r3, r4, r5) := H
  have A5 := Aside0.mk A50
  clear A50
  replace H := Option.bind_eq_some_iff.mp H
  obtain ⟨⟨t175, t176⟩, A60, H⟩ := H
  replace H : ((culletlaw09_k.f 180 180).bind fun bt177 => (some (t165, t166, t167, t168, (([(⟨0, 1, 0, 0, (⟨t169, t170⟩ : S23), (⟨t171, t172⟩ : S23), (⟨0, 0⟩ : S23), 0⟩ : S36), (⟨0, 2, 0, 0, (⟨t173, t174⟩ : S23), (⟨0, 0⟩ : S23), (⟨0, 0⟩ : S23), 0⟩ : S36), (⟨0, 3, 0, 0, (⟨t175, t176⟩ : S23), (⟨0, 0⟩ : S23), (⟨0, 0⟩ : S23), 0⟩ : S36), (⟨0, 4, 0, 7, (⟨bt177.1, bt177.2⟩ : S23), (⟨0, 0⟩ : S23), (⟨0, 0⟩ : S23), 0⟩ : S36), (⟨0, 6, 0, 0, (⟨0, 0⟩ : S23), (⟨0, 0⟩ : S23), (⟨0, 0⟩ : S23), 0⟩ : S36)] : List (S36)))))) = some (r1, r2, r3, r4, r5) := H
  have A6 := Aside0.mk A60
  clear A60
  replace H := Option.bind_eq_some_iff.mp H
  obtain ⟨⟨t177, t178⟩, A70, H⟩ := H
  replace H : (some (t165, t166, t167, t168, (([(⟨0, 1, 0, 0, (⟨t169, t170⟩ : S23), (⟨t171, t172⟩ : S23), (⟨0, 0⟩ : S23), 0⟩ : S36), (⟨0, 2, 0, 0, (⟨t173, t174⟩ : S23), (⟨0, 0⟩ : S23), (⟨0, 0⟩ : S23), 0⟩ : S36), (⟨0, 3, 0, 0, (⟨t175, t176⟩ : S23), (⟨0, 0⟩ : S23), (⟨0, 0⟩ : S23), 0⟩ : S36), (⟨0, 4, 0, 7, (⟨t177, t178⟩ : S23), (⟨0, 0⟩ : S23), (⟨0, 0⟩ : S23), 0⟩ : S36), (⟨0, 6, 0, 0, (⟨0, 0⟩ : S23), (⟨0, 0⟩ : S23), (⟨0, 0⟩ : S23), 0⟩ : S36)] : List (S36))))) = some (r1, r2, r3, r4, r5) := H
  have A7 := Aside0.mk A70
  clear A70
  obtain ⟨y179, hy179⟩ : ∃ y_ : List (S36), y_ = (([(⟨0, 1, 0, 0, (⟨t169, t170⟩ : S23), (⟨t171, t172⟩ : S23), (⟨0, 0⟩ : S23), 0⟩ : S36), (⟨0, 2, 0, 0, (⟨t173, t174⟩ : S23), (⟨0, 0⟩ : S23), (⟨0, 0⟩ : S23), 0⟩ : S36), (⟨0, 3, 0, 0, (⟨t175, t176⟩ : S23), (⟨0, 0⟩ : S23), (⟨0, 0⟩ : S23), 0⟩ : S36), (⟨0, 4, 0, 7, (⟨t177, t178⟩ : S23), (⟨0, 0⟩ : S23), (⟨0, 0⟩ : S23), 0⟩ : S36), (⟨0, 6, 0, 0, (⟨0, 0⟩ : S23), (⟨0, 0⟩ : S23), (⟨0, 0⟩ : S23), 0⟩ : S36)] : List (S36))) := ⟨_, rfl⟩
  replace H : (some (t165, t166, t167, t168, y179)) = some (r1, r2, r3, r4, r5) := by first | (rw [hy179]; with_reducible exact H) | (have H2_ := (Option.bind_some _ _).symm.trans H; rw [hy179]; with_reducible exact H2_) | (have H2_ := (Option.bind_some _ _).symm.trans H; with_reducible exact H2_) | with_reducible exact H | (rw [hy179]; exact H) | exact H
  have Ny179 := Aside0.mk hy179
  clear hy179
  simp only [Option.some.injEq, Prod.mk.injEq] at H
  obtain ⟨rfl, rfl, rfl, rfl, rfl⟩ := H
  go_enter Try.func25, Try.ntmps25
  go_wp2_with (first | ((with_reducible refine gate_dst (N := 0) rfl ?_); refine box_event ?hg (N := 0) ?hd (cs := #[.int .i64 0, .int .i64 0, .int .i64 0, .int .i64 0, .slice none 0 0]) (t := 26) ?hr ?_; (case hd => rfl); (case hg => rfl); (case hr => first | (go_simp; done) | (go_simp; rfl)); intro gb164 hg w8 hbox hb; have n0_ := Aside0.mk (below_step (by repeat (first | (with_reducible first | exact HB.out | apply below_alloc | apply pw_below_drewN | apply below_drew1) | exact HB.out)) hb); have n1_ := Aside0.mk (hbox); have n2_ := Aside0.mk ((by rw [hg]; exact (below_size (by repeat (first | (with_reducible first | exact HB.out | apply below_alloc | apply pw_below_drewN | apply below_drew1) | exact HB.out))) : w.heap.size ≤ gb164)); have n3_ := Aside0.mk ((by rw [hg]; exact (below_size (by repeat (first | (with_reducible first | exact HB.out | apply below_alloc | apply pw_below_drewN | apply below_drew1) | exact HB.out))) : w.heap.size ≤ gb164)); clear HB; have HB := n0_; have BK164 := n1_; have GW164 := n2_; have GE164 := n3_; clear n0_ n1_ n2_ n3_; clear hb hbox hg) | ((with_reducible refine gate_callee (f := 51) rfl ?_); refine goesL_ (some 1) rfl rfl Try.func51 (by kernel_rfl) rfl #[.int .i64 900, .int .i64 1300] rfl (by (try simp only [List.map_toArray, List.map_cons, List.map_nil]); first | done | rfl | (simp only [List.length_drop, List.length_take]; rfl)) ?_; (with_reducible refine (culletlaw09_k.calls 900 1300 t165 t166 _ A1.out).mono ?_); rintro e w9 ⟨rfl, hb⟩; refine ⟨_, rfl, ?_⟩; have n0_ := Aside0.mk (blk_below (g := gb164) (o := .cells #[.int .i64 0, .int .i64 0, .int .i64 0, .int .i64 0, .slice none 0 0] 26 (0, 0)) (by (with_reducible repeat (first | refine blk_drewN ?_ _ | refine blk_drew ?_ | refine blk_alloc ?_ _)); exact BK164.out) hb); have n1_ := Aside0.mk (below_step (by repeat (first | (with_reducible first | exact HB.out | apply below_alloc | apply pw_below_drewN | apply below_drew1 | refine below_set ?_ GE164.out) | exact HB.out)) hb); clear BK164; clear HB; have BK164 := n0_; have HB := n1_; clear n0_ n1_; (try clear hb); (try clear hb2); (try clear hk); (try clear hi)) | ((with_reducible refine gate_callee (f := 51) rfl ?_); refine goesL_ (some 2) rfl rfl Try.func51 (by kernel_rfl) rfl #[.int .i64 1000, .int .i64 1000] rfl (by (try simp only [List.map_toArray, List.map_cons, List.map_nil]); first | done | rfl | (simp only [List.length_drop, List.length_take]; rfl)) ?_; (with_reducible refine (culletlaw09_k.calls 1000 1000 t167 t168 _ A2.out).mono ?_); rintro e w10 ⟨rfl, hb⟩; refine ⟨_, rfl, ?_⟩; have n0_ := Aside0.mk (blk_below (g := gb164) (o := .cells #[.int .i64 0, .int .i64 0, .int .i64 0, .int .i64 0, .slice none 0 0] 26 (0, 0)) (by (with_reducible repeat (first | refine blk_drewN ?_ _ | refine blk_drew ?_ | refine blk_alloc ?_ _)); exact BK164.out) hb); have n1_ := Aside0.mk (below_step (by repeat (first | (with_reducible first | exact HB.out | apply below_alloc | apply pw_below_drewN | apply below_drew1 | refine below_set ?_ GE164.out) | exact HB.out)) hb); clear BK164; clear HB; have BK164 := n0_; have HB := n1_; clear n0_ n1_; (try clear hb); (try clear hb2); (try clear hk); (try clear hi)) | ((with_reducible refine gate_callee (f := 51) rfl ?_); refine goesL_ (some 3) rfl rfl Try.func51 (by kernel_rfl) rfl #[.int .i64 500, .int .i64 500] rfl (by (try simp only [List.map_toArray, List.map_cons, List.map_nil]); first | done | rfl | (simp only [List.length_drop, List.length_take]; rfl)) ?_; (with_reducible refine (culletlaw09_k.calls 500 500 t169 t170 _ A3.out).mono ?_); rintro e w11 ⟨rfl, hb⟩; refine ⟨_, rfl, ?_⟩; have n0_ := Aside0.mk (blk_below (g := gb164) (o := .cells #[.int .i64 0, .int .i64 0, .int .i64 0, .int .i64 0, .slice none 0 0] 26 (0, 0)) (by (with_reducible repeat (first | refine blk_drewN ?_ _ | refine blk_drew ?_ | refine blk_alloc ?_ _)); exact BK164.out) hb); have n1_ := Aside0.mk (below_step (by repeat (first | (with_reducible first | exact HB.out | apply below_alloc | apply pw_below_drewN | apply below_drew1 | refine below_set ?_ GE164.out) | exact HB.out)) hb); clear BK164; clear HB; have BK164 := n0_; have HB := n1_; clear n0_ n1_; (try clear hb); (try clear hb2); (try clear hk); (try clear hi)) | ((with_reducible refine gate_callee (f := 51) rfl ?_); refine goesL_ (some 4) rfl rfl Try.func51 (by kernel_rfl) rfl #[.int .i64 600, .int .i64 700] rfl (by (try simp only [List.map_toArray, List.map_cons, List.map_nil]); first | done | rfl | (simp only [List.length_drop, List.length_take]; rfl)) ?_; (with_reducible refine (culletlaw09_k.calls 600 700 t171 t172 _ A4.out).mono ?_); rintro e w12 ⟨rfl, hb⟩; refine ⟨_, rfl, ?_⟩; have n0_ := Aside0.mk (blk_below (g := gb164) (o := .cells #[.int .i64 0, .int .i64 0, .int .i64 0, .int .i64 0, .slice none 0 0] 26 (0, 0)) (by (with_reducible repeat (first | refine blk_drewN ?_ _ | refine blk_drew ?_ | refine blk_alloc ?_ _)); exact BK164.out) hb); have n1_ := Aside0.mk (below_step (by repeat (first | (with_reducible first | exact HB.out | apply below_alloc | apply pw_below_drewN | apply below_drew1 | refine below_set ?_ GE164.out) | exact HB.out)) hb); clear BK164; clear HB; have BK164 := n0_; have HB := n1_; clear n0_ n1_; (try clear hb); (try clear hb2); (try clear hk); (try clear hi)) | ((with_reducible refine gate_callee (f := 51) rfl ?_); refine goesL_ (some 6) rfl rfl Try.func51 (by kernel_rfl) rfl #[.int .i64 200, .int .i64 210] rfl (by (try simp only [List.map_toArray, List.map_cons, List.map_nil]); first | done | rfl | (simp only [List.length_drop, List.length_take]; rfl)) ?_; (with_reducible refine (culletlaw09_k.calls 200 210 t173 t174 _ A5.out).mono ?_); rintro e w13 ⟨rfl, hb⟩; refine ⟨_, rfl, ?_⟩; have n0_ := Aside0.mk (blk_below (g := gb164) (o := .cells #[.int .i64 0, .int .i64 0, .int .i64 0, .int .i64 0, .slice none 0 0] 26 (0, 0)) (by (with_reducible repeat (first | refine blk_drewN ?_ _ | refine blk_drew ?_ | refine blk_alloc ?_ _)); exact BK164.out) hb); have n1_ := Aside0.mk (below_step (by repeat (first | (with_reducible first | exact HB.out | apply below_alloc | apply pw_below_drewN | apply below_drew1 | refine below_set ?_ GE164.out) | exact HB.out)) hb); clear BK164; clear HB; have BK164 := n0_; have HB := n1_; clear n0_ n1_; (try clear hb); (try clear hb2); (try clear hk); (try clear hi)) | ((with_reducible refine gate_callee (f := 51) rfl ?_); refine goesL_ (some 8) rfl rfl Try.func51 (by kernel_rfl) rfl #[.int .i64 190, .int .i64 200] rfl (by (try simp only [List.map_toArray, List.map_cons, List.map_nil]); first | done | rfl | (simp only [List.length_drop, List.length_take]; rfl)) ?_; (with_reducible refine (culletlaw09_k.calls 190 200 t175 t176 _ A6.out).mono ?_); rintro e w14 ⟨rfl, hb⟩; refine ⟨_, rfl, ?_⟩; have n0_ := Aside0.mk (blk_below (g := gb164) (o := .cells #[.int .i64 0, .int .i64 0, .int .i64 0, .int .i64 0, .slice none 0 0] 26 (0, 0)) (by (with_reducible repeat (first | refine blk_drewN ?_ _ | refine blk_drew ?_ | refine blk_alloc ?_ _)); exact BK164.out) hb); have n1_ := Aside0.mk (below_step (by repeat (first | (with_reducible first | exact HB.out | apply below_alloc | apply pw_below_drewN | apply below_drew1 | refine below_set ?_ GE164.out) | exact HB.out)) hb); clear BK164; clear HB; have BK164 := n0_; have HB := n1_; clear n0_ n1_; (try clear hb); (try clear hb2); (try clear hk); (try clear hi)) | ((with_reducible refine gate_callee (f := 51) rfl ?_); refine goesL_ (some 10) rfl rfl Try.func51 (by kernel_rfl) rfl #[.int .i64 180, .int .i64 180] rfl (by (try simp only [List.map_toArray, List.map_cons, List.map_nil]); first | done | rfl | (simp only [List.length_drop, List.length_take]; rfl)) ?_; (with_reducible refine (culletlaw09_k.calls 180 180 t177 t178 _ A7.out).mono ?_); rintro e w15 ⟨rfl, hb⟩; refine ⟨_, rfl, ?_⟩; have n0_ := Aside0.mk (blk_below (g := gb164) (o := .cells #[.int .i64 0, .int .i64 0, .int .i64 0, .int .i64 0, .slice none 0 0] 26 (0, 0)) (by (with_reducible repeat (first | refine blk_drewN ?_ _ | refine blk_drew ?_ | refine blk_alloc ?_ _)); exact BK164.out) hb); have n1_ := Aside0.mk (below_step (by repeat (first | (with_reducible first | exact HB.out | apply below_alloc | apply pw_below_drewN | apply below_drew1 | refine below_set ?_ GE164.out) | exact HB.out)) hb); clear BK164; clear HB; have BK164 := n0_; have HB := n1_; clear n0_ n1_; (try clear hb); (try clear hb2); (try clear hk); (try clear hi)) | ((with_reducible refine gate_dst (N := 13) rfl ?_); refine Kd.R_lit k36 _ 36 ?hg (N := 13) ?hd (xs := ([(⟨0, 1, 0, 0, (⟨t169, t170⟩ : S23), (⟨t171, t172⟩ : S23), (⟨0, 0⟩ : S23), 0⟩ : S36), (⟨0, 2, 0, 0, (⟨t173, t174⟩ : S23), (⟨0, 0⟩ : S23), (⟨0, 0⟩ : S23), 0⟩ : S36), (⟨0, 3, 0, 0, (⟨t175, t176⟩ : S23), (⟨0, 0⟩ : S23), (⟨0, 0⟩ : S23), 0⟩ : S36), (⟨0, 4, 0, 7, (⟨t177, t178⟩ : S23), (⟨0, 0⟩ : S23), (⟨0, 0⟩ : S23), 0⟩ : S36), (⟨0, 6, 0, 0, (⟨0, 0⟩ : S23), (⟨0, 0⟩ : S23), (⟨0, 0⟩ : S23), 0⟩ : S36)] : List (S36))) (inner := [.int .i64 0, .int .u8 1, .int .i64 0, .int .i64 0, .int .i64 t169, .int .i64 t170, .int .i64 t171, .int .i64 t172, .int .i64 0, .int .i64 0, .int .i64 0, .int .i64 0, .int .u8 2, .int .i64 0, .int .i64 0, .int .i64 t173, .int .i64 t174, .int .i64 0, .int .i64 0, .int .i64 0, .int .i64 0, .int .i64 0, .int .i64 0, .int .u8 3, .int .i64 0, .int .i64 0, .int .i64 t175, .int .i64 t176, .int .i64 0, .int .i64 0, .int .i64 0, .int .i64 0, .int .i64 0, .int .i64 0, .int .u8 4, .int .i64 0, .int .i64 7, .int .i64 t177, .int .i64 t178, .int .i64 0, .int .i64 0, .int .i64 0, .int .i64 0, .int .i64 0, .int .i64 0, .int .u8 6, .int .i64 0, .int .i64 0, .int .i64 0, .int .i64 0, .int .i64 0, .int .i64 0, .int .i64 0, .int .i64 0, .int .i64 0]) (ok := fun _ => True) (okp := fun _ => True) ?hr ?hp (fun _ hk => hk) trivial (Below.refl _ _) (Nat.le_refl _) (by simp) ?_; (case hd => rfl); (case hg => rfl); (case hr => first | (go_simp; done) | (go_simp; rfl)); (case hp => exact (Reps.front (show Kd.M k36 _ _ _ (⟨0, 1, 0, 0, (⟨t169, t170⟩ : S23), (⟨t171, t172⟩ : S23), (⟨0, 0⟩ : S23), 0⟩ : S36) [.int .i64 0, .int .u8 1, .int .i64 0, .int .i64 0, .int .i64 t169, .int .i64 t170, .int .i64 t171, .int .i64 t172, .int .i64 0, .int .i64 0, .int .i64 0] from (k36_mkM _ _ _ (⟨0, 1, 0, 0, (⟨t169, t170⟩ : S23), (⟨t171, t172⟩ : S23), (⟨0, 0⟩ : S23), 0⟩ : S36) )) rfl (Reps.front (show Kd.M k36 _ _ _ (⟨0, 2, 0, 0, (⟨t173, t174⟩ : S23), (⟨0, 0⟩ : S23), (⟨0, 0⟩ : S23), 0⟩ : S36) [.int .i64 0, .int .u8 2, .int .i64 0, .int .i64 0, .int .i64 t173, .int .i64 t174, .int .i64 0, .int .i64 0, .int .i64 0, .int .i64 0, .int .i64 0] from (k36_mkM _ _ _ (⟨0, 2, 0, 0, (⟨t173, t174⟩ : S23), (⟨0, 0⟩ : S23), (⟨0, 0⟩ : S23), 0⟩ : S36) )) rfl (Reps.front (show Kd.M k36 _ _ _ (⟨0, 3, 0, 0, (⟨t175, t176⟩ : S23), (⟨0, 0⟩ : S23), (⟨0, 0⟩ : S23), 0⟩ : S36) [.int .i64 0, .int .u8 3, .int .i64 0, .int .i64 0, .int .i64 t175, .int .i64 t176, .int .i64 0, .int .i64 0, .int .i64 0, .int .i64 0, .int .i64 0] from (k36_mkM _ _ _ (⟨0, 3, 0, 0, (⟨t175, t176⟩ : S23), (⟨0, 0⟩ : S23), (⟨0, 0⟩ : S23), 0⟩ : S36) )) rfl (Reps.front (show Kd.M k36 _ _ _ (⟨0, 4, 0, 7, (⟨t177, t178⟩ : S23), (⟨0, 0⟩ : S23), (⟨0, 0⟩ : S23), 0⟩ : S36) [.int .i64 0, .int .u8 4, .int .i64 0, .int .i64 7, .int .i64 t177, .int .i64 t178, .int .i64 0, .int .i64 0, .int .i64 0, .int .i64 0, .int .i64 0] from (k36_mkM _ _ _ (⟨0, 4, 0, 7, (⟨t177, t178⟩ : S23), (⟨0, 0⟩ : S23), (⟨0, 0⟩ : S23), 0⟩ : S36) )) rfl (Reps.front (show Kd.M k36 _ _ _ (⟨0, 6, 0, 0, (⟨0, 0⟩ : S23), (⟨0, 0⟩ : S23), (⟨0, 0⟩ : S23), 0⟩ : S36) [.int .i64 0, .int .u8 6, .int .i64 0, .int .i64 0, .int .i64 0, .int .i64 0, .int .i64 0, .int .i64 0, .int .i64 0, .int .i64 0, .int .i64 0] from (k36_mkM _ _ _ (⟨0, 6, 0, 0, (⟨0, 0⟩ : S23), (⟨0, 0⟩ : S23), (⟨0, 0⟩ : S23), 0⟩ : S36) )) rfl (Reps.none _ _) rfl) rfl) rfl) rfl) rfl)); intro v180 w16 ho17 hb hg_ hnew_; clear hg_ hnew_; (first | rw [← Ny179.out] at ho17 | (simp only [Int.reduceToNat] at ho17; rw [← Ny179.out] at ho17)); have n0_ := Aside0.mk (Kd.R_lower ho17 (below_size (by repeat (first | (with_reducible first | exact HB.out | apply below_alloc | apply pw_below_drewN | apply below_drew1 | refine below_set ?_ GE164.out) | exact HB.out)))); have n1_ := Aside0.mk (blk_below (g := gb164) (o := .cells #[.int .i64 0, .int .i64 0, .int .i64 0, .int .i64 0, .slice none 0 0] 26 (0, 0)) (by (with_reducible repeat (first | refine blk_drewN ?_ _ | refine blk_drew ?_ | refine blk_alloc ?_ _)); exact BK164.out) hb); have n2_ := Aside0.mk (below_step (by repeat (first | (with_reducible first | exact HB.out | apply below_alloc | apply pw_below_drewN | apply below_drew1 | refine below_set ?_ GE164.out) | exact HB.out)) hb); clear BK164; clear HB; have HO181 := n0_; have BK164 := n1_; have HB := n2_; clear n0_ n1_ n2_; clear hb ho17; obtain ⟨Ao18, co18, eo18⟩ := Kd.R_slice HO181.out; subst eo18; have hcz19_0 : w16.cell? ⟨gb164, 0, none⟩ = some (.int .i64 0) := (blk_cell BK164.out 0).trans rfl; have hcz19_1 : w16.cell? ⟨gb164, 1, none⟩ = some (.int .i64 0) := (blk_cell BK164.out 1).trans rfl; have hcz19_2 : w16.cell? ⟨gb164, 2, none⟩ = some (.int .i64 0) := (blk_cell BK164.out 2).trans rfl; have hcz19_3 : w16.cell? ⟨gb164, 3, none⟩ = some (.int .i64 0) := (blk_cell BK164.out 3).trans rfl; have hcz19_4 : w16.cell? ⟨gb164, 4, none⟩ = some (.slice none 0 0) := (blk_cell BK164.out 4).trans rfl; have hfz19_0 := blk_frozen BK164.out 0; have hfz19_1 := blk_frozen BK164.out 1; have hfz19_2 := blk_frozen BK164.out 2; have hfz19_3 := blk_frozen BK164.out 3; have hfz19_4 := blk_frozen BK164.out 4))
  refine bodyPost_ret (results_cell_row rfl _ _ gb164 26 #[.int .i64 t165, .int .i64 t166, .int .i64 t167, .int .i64 t168, .slice Ao18 y179.length co18] (0, 0) _ rfl (by (with_reducible repeat (first | refine blk_drewN ?_ _ | refine blk_drew ?_ | refine blk_alloc ?_ _)); refine blk_put (cs := #[.int .i64 t165, .int .i64 t166, .int .i64 t167, .int .i64 t168, .slice none 0 0]) ?_ 4 _ rfl; (with_reducible repeat (first | refine blk_drewN ?_ _ | refine blk_drew ?_ | refine blk_alloc ?_ _)); refine blk_put (cs := #[.int .i64 t165, .int .i64 t166, .int .i64 t167, .int .i64 0, .slice none 0 0]) ?_ 3 _ rfl; (with_reducible repeat (first | refine blk_drewN ?_ _ | refine blk_drew ?_ | refine blk_alloc ?_ _)); refine blk_put (cs := #[.int .i64 t165, .int .i64 t166, .int .i64 0, .int .i64 0, .slice none 0 0]) ?_ 2 _ rfl; (with_reducible repeat (first | refine blk_drewN ?_ _ | refine blk_drew ?_ | refine blk_alloc ?_ _)); refine blk_put (cs := #[.int .i64 t165, .int .i64 0, .int .i64 0, .int .i64 0, .slice none 0 0]) ?_ 1 _ rfl; (with_reducible repeat (first | refine blk_drewN ?_ _ | refine blk_drew ?_ | refine blk_alloc ?_ _)); refine blk_put (cs := #[.int .i64 0, .int .i64 0, .int .i64 0, .int .i64 0, .slice none 0 0]) ?_ 0 _ rfl; (with_reducible repeat (first | refine blk_drewN ?_ _ | refine blk_drew ?_ | refine blk_alloc ?_ _)); exact BK164.out) Try.underlying26 rfl (by kernel_rfl)) rfl ?_
  exact ⟨_, by first | rfl | (simp [errW_none, errW_some] <;> rfl) | (simp [*, errW_none, errW_some] <;> rfl), by (with_reducible repeat (first | apply Kd.R_alloc | apply Kd.R_drewN | apply Kd.R_drew)); exact Kd.R_mono (Kd.R_far (p := ⟨gb164, 4, none⟩) (Kd.R_far (p := ⟨gb164, 3, none⟩) (Kd.R_far (p := ⟨gb164, 2, none⟩) (Kd.R_far (p := ⟨gb164, 1, none⟩) (Kd.R_far (p := ⟨gb164, 0, none⟩) (Kd.R_types HO181.out BK164.out (by decide)) (fun _ hk => hk.2) (.int .i64 t165)) (fun _ hk => hk.2) (.int .i64 t166)) (fun _ hk => hk.2) (.int .i64 t167)) (fun _ hk => hk.2) (.int .i64 t168)) (fun _ hk => hk.2) (.slice Ao18 y179.length co18)) (fun _ hk => trivial), by repeat (first | (with_reducible first | exact HB.out | apply below_alloc | apply pw_below_drewN | apply below_drew1 | refine below_set ?_ GE164.out) | exact HB.out)⟩

end Go.Proofs.Ytbmkbokkmmdjdaa.Q
end
section
namespace Go.Proofs.Ytbmkbokkmmdjdaa
open Go.RowKit Go.Proofs.YtbmkbokkmmdjdaaW.PrintWords Go.Proofs.YtbmkbokkmmdjdaaW.PrintLast Go.Proofs.YtbmkbokkmmdjdaaW.PrintMore
open Q Go.Shelf
attribute [local go_sem] Oper.semAt_some wide_depth wide_fn
set_option linter.unusedVariables false
set_option linter.unusedSimpArgs false

attribute [local go_sem high] eqA23
def yearL : List S36 := [⟨0, 1, 0, 0, ⟨500, 500⟩, ⟨600, 700⟩, ⟨0, 0⟩, 0⟩, ⟨0, 2, 0, 0, ⟨200, 210⟩, ⟨0, 0⟩, ⟨0, 0⟩, 0⟩, ⟨0, 3, 0, 0, ⟨190, 200⟩, ⟨0, 0⟩, ⟨0, 0⟩, 0⟩, ⟨0, 4, 0, 7, ⟨180, 180⟩, ⟨0, 0⟩, ⟨0, 0⟩, 0⟩, ⟨0, 6, 0, 0, ⟨0, 0⟩, ⟨0, 0⟩, ⟨0, 0⟩, 0⟩]
theorem year_any (w : World) : Calls Try.prog 25 #[] w fun e w' => ∃ A c, e = .returned (.agg #[.int .i64 900, .int .i64 1300, .int .i64 1000, .int .i64 1000, .slice A yearL.length c]) ∧ yearL.length ≤ c ∧ Kd.C k36 w' A yearL.length yearL ∧ Below w.heap.size w w' := by
  refine (culletlaw09_year.calls 900 1300 1000 1000 yearL w (by rfl)).mono ?_
  rintro e w' ⟨v, rfl, hR, hb⟩
  obtain ⟨A, c, rfl, hl, hC⟩ := Kd.R_reads hR
  exact ⟨A, c, rfl, hl, hC, hb⟩
theorem year_wrong : wrongV ⟨900, 1300⟩ ⟨1000, 1000⟩ yearL = .tuple #[.int .i64 5, .int .u8 0, .int .i64 0, .int .i64 0] := by kernel_rfl
theorem year_a0 : amountV ⟨900, 1300⟩ ⟨1000, 1000⟩ yearL 0 0 5 = (⟨1000000, 1020000⟩, 0) := by kernel_rfl
theorem year_a2 : amountV ⟨900, 1300⟩ ⟨1000, 1000⟩ yearL 2 0 5 = (⟨290000, 300000⟩, 0) := by kernel_rfl
theorem year_a1 : amountV ⟨900, 1300⟩ ⟨1000, 1000⟩ yearL 1 0 5 = (⟨10000, 20000⟩, 0) := by kernel_rfl
theorem year_share : shareRes ⟨900, 1300⟩ ⟨1000, 1000⟩ yearL 0 = (⟨571, 735⟩, 0) := by kernel_rfl
theorem year_most : mostV ⟨900, 1300⟩ ⟨1000, 1000⟩ yearL 7 = (571, 0) := by kernel_rfl
set_option maxRecDepth 100000 in
set_option maxHeartbeats 8000000 in
theorem sums_any (w : World) : Calls Try.prog 9 #[] w (RetBool true w) := by
  have hu := Try.underlying23
  have HB0 := hid (Below.refl w.heap.size w)
  go_enter Try.func9, Try.ntmps9
  go_wp2_with fail
  refine (year_any _).mono ?_
  rintro e W1 ⟨A1, c1, rfl, hc1, hk1, hb⟩
  have HB1 := hid (HB0.out.trans (hb.mono HB0.out.size))
  clear hb
  go_wp2_with fail
  refine (Wrong_any ⟨900, 1300⟩ ⟨1000, 1000⟩ A1 c1 yearL _ hk1 hc1).mono ?_
  rintro e W2 ⟨rfl, hb⟩
  rw [year_wrong]
  have HB2 := hid (HB1.out.trans (hb.mono HB1.out.size))
  clear hb hk1 hc1
  go_wp2_with fail
  refine (year_any _).mono ?_
  rintro e W1 ⟨A1, c1, rfl, hc1, hk1, hb⟩
  have HB3 := hid (HB2.out.trans (hb.mono HB2.out.size))
  clear hb
  go_wp2_with fail
  refine (Amount_any ⟨900, 1300⟩ ⟨1000, 1000⟩ A1 c1 yearL 0 0 5 _ hk1 hc1).mono ?_
  rintro e W2 ⟨rfl, hb⟩
  rw [year_a0]
  have HB4 := hid (HB3.out.trans (hb.mono HB3.out.size))
  clear hb hk1 hc1
  go_upto_region 3 with fail
  have hgr := (Below.refl W2.heap.size W2).alloc (Nat.le_refl _) (.cells #[.int .i64 1000000, .int .i64 1020000] 23)
  have e1 := World.alloc_heap_new W2 (.cells #[.int .i64 1000000, .int .i64 1020000] 23)
  have HX1 := hid (HB4.out.trans (hgr.mono HB4.out.size))
  clear HB4 hgr
  have HB4 := hid HX1.out
  generalize W2.alloc (.cells #[.int .i64 1000000, .int .i64 1020000] 23) = W3 at *
  generalize W2.heap.size = Bx1 at *
  go_wp2_with fail
  refine (year_any _).mono ?_
  rintro e W1 ⟨A1, c1, rfl, hc1, hk1, hb⟩
  have HB5 := hid (HB4.out.trans (hb.mono HB4.out.size))
  have e1' := heap_grow e1 hb
  clear e1
  have e1 := e1'
  clear e1'
  clear hb
  go_wp2_with fail
  refine (Amount_any ⟨900, 1300⟩ ⟨1000, 1000⟩ A1 c1 yearL 2 0 5 _ hk1 hc1).mono ?_
  rintro e W2 ⟨rfl, hb⟩
  rw [year_a2]
  have HB6 := hid (HB5.out.trans (hb.mono HB5.out.size))
  have e1' := heap_grow e1 hb
  clear e1
  have e1 := e1'
  clear e1'
  clear hb hk1 hc1
  go_upto_region 4 with fail
  have hgr := (Below.refl W2.heap.size W2).alloc (Nat.le_refl _) (.cells #[.int .i64 290000, .int .i64 300000] 23)
  have e2 := World.alloc_heap_new W2 (.cells #[.int .i64 290000, .int .i64 300000] 23)
  have e1' := heap_grow e1 hgr
  clear e1
  have e1 := e1'
  clear e1'
  have HX2 := hid (HB6.out.trans (hgr.mono HB6.out.size))
  clear HB6 hgr
  have HB6 := hid HX2.out
  generalize W2.alloc (.cells #[.int .i64 290000, .int .i64 300000] 23) = W3 at *
  generalize W2.heap.size = Bx2 at *
  go_wp2_with fail
  refine (year_any _).mono ?_
  rintro e W1 ⟨A1, c1, rfl, hc1, hk1, hb⟩
  have HB7 := hid (HB6.out.trans (hb.mono HB6.out.size))
  have e1' := heap_grow e1 hb
  clear e1
  have e2' := heap_grow e2 hb
  clear e2
  have e1 := e1'
  clear e1'
  have e2 := e2'
  clear e2'
  clear hb
  go_wp2_with fail
  refine (Amount_any ⟨900, 1300⟩ ⟨1000, 1000⟩ A1 c1 yearL 1 0 5 _ hk1 hc1).mono ?_
  rintro e W2 ⟨rfl, hb⟩
  rw [year_a1]
  have HB8 := hid (HB7.out.trans (hb.mono HB7.out.size))
  have e1' := heap_grow e1 hb
  clear e1
  have e2' := heap_grow e2 hb
  clear e2
  have e1 := e1'
  clear e1'
  have e2 := e2'
  clear e2'
  clear hb hk1 hc1
  go_upto_region 5 with fail
  have hgr := (Below.refl W2.heap.size W2).alloc (Nat.le_refl _) (.cells #[.int .i64 10000, .int .i64 20000] 23)
  have e3 := World.alloc_heap_new W2 (.cells #[.int .i64 10000, .int .i64 20000] 23)
  have e1' := heap_grow e1 hgr
  clear e1
  have e2' := heap_grow e2 hgr
  clear e2
  have e1 := e1'
  clear e1'
  have e2 := e2'
  clear e2'
  have HX3 := hid (HB8.out.trans (hgr.mono HB8.out.size))
  clear HB8 hgr
  have HB8 := hid HX3.out
  generalize W2.alloc (.cells #[.int .i64 10000, .int .i64 20000] 23) = W3 at *
  generalize W2.heap.size = Bx3 at *
  go_wp2_with fail
  refine (year_any _).mono ?_
  rintro e W1 ⟨A1, c1, rfl, hc1, hk1, hb⟩
  have HB9 := hid (HB8.out.trans (hb.mono HB8.out.size))
  have e1' := heap_grow e1 hb
  clear e1
  have e2' := heap_grow e2 hb
  clear e2
  have e3' := heap_grow e3 hb
  clear e3
  have e1 := e1'
  clear e1'
  have e2 := e2'
  clear e2'
  have e3 := e3'
  clear e3'
  clear hb
  go_wp2_with fail
  refine (Share_any ⟨900, 1300⟩ ⟨1000, 1000⟩ A1 c1 yearL 0 _ hk1 hc1).mono ?_
  rintro e W2 ⟨rfl, hb⟩
  rw [year_share]
  have HB10 := hid (HB9.out.trans (hb.mono HB9.out.size))
  have e1' := heap_grow e1 hb
  clear e1
  have e2' := heap_grow e2 hb
  clear e2
  have e3' := heap_grow e3 hb
  clear e3
  have e1 := e1'
  clear e1'
  have e2 := e2'
  clear e2'
  have e3 := e3'
  clear e3'
  clear hb hk1 hc1
  go_upto_region 6 with fail
  have hgr := (Below.refl W2.heap.size W2).alloc (Nat.le_refl _) (.cells #[.int .i64 571, .int .i64 735] 23)
  have e4 := World.alloc_heap_new W2 (.cells #[.int .i64 571, .int .i64 735] 23)
  have e1' := heap_grow e1 hgr
  clear e1
  have e2' := heap_grow e2 hgr
  clear e2
  have e3' := heap_grow e3 hgr
  clear e3
  have e1 := e1'
  clear e1'
  have e2 := e2'
  clear e2'
  have e3 := e3'
  clear e3'
  have HX4 := hid (HB10.out.trans (hgr.mono HB10.out.size))
  clear HB10 hgr
  have HB10 := hid HX4.out
  generalize W2.alloc (.cells #[.int .i64 571, .int .i64 735] 23) = W3 at *
  generalize W2.heap.size = Bx4 at *
  go_wp2_with fail
  refine (year_any _).mono ?_
  rintro e W1 ⟨A1, c1, rfl, hc1, hk1, hb⟩
  have HB11 := hid (HB10.out.trans (hb.mono HB10.out.size))
  have e1' := heap_grow e1 hb
  clear e1
  have e2' := heap_grow e2 hb
  clear e2
  have e3' := heap_grow e3 hb
  clear e3
  have e4' := heap_grow e4 hb
  clear e4
  have e1 := e1'
  clear e1'
  have e2 := e2'
  clear e2'
  have e3 := e3'
  clear e3'
  have e4 := e4'
  clear e4'
  clear hb
  go_wp2_with fail
  refine (Most_any ⟨900, 1300⟩ ⟨1000, 1000⟩ A1 c1 yearL 7 _ hk1 hc1).mono ?_
  rintro e W2 ⟨rfl, hb⟩
  rw [year_most]
  have HB12 := hid (HB11.out.trans (hb.mono HB11.out.size))
  have e1' := heap_grow e1 hb
  clear e1
  have e2' := heap_grow e2 hb
  clear e2
  have e3' := heap_grow e3 hb
  clear e3
  have e4' := heap_grow e4 hb
  clear e4
  have e1 := e1'
  clear e1'
  have e2 := e2'
  clear e2'
  have e3 := e3'
  clear e3'
  have e4 := e4'
  clear e4'
  clear hb hk1 hc1
  have y0 := blkCell e1 0
  have z0 := blkCell e1 1
  have y1 := blkCell e2 0
  have z1 := blkCell e2 1
  have y2 := blkCell e3 0
  have z2 := blkCell e3 1
  have y3 := blkCell e4 0
  have z3 := blkCell e4 1
  simp at y0 z0 y1 z1 y2 z2 y3 z3
  clear e1 e2 e3 e4
  go_wp2
  go_ret
  exact ⟨rfl, HB12.out⟩
end Go.Proofs.Ytbmkbokkmmdjdaa
end
section
namespace Go.Proofs.Ytbmkbokkmmdjdaa.Q
open Go.RowKit Go.Proofs.YtbmkbokkmmdjdaaW.PrintWords Go.Proofs.YtbmkbokkmmdjdaaW.PrintLast Go.Proofs.YtbmkbokkmmdjdaaW.PrintMore
attribute [local go_sem] max2_int min2_int max_two min_two max_three min_three max_four min_four   -- for this text's walks alone
set_option linter.unusedVariables false
set_option linter.unusedSimpArgs false

def culletref09_span.f (a0_0 : Int) (a0_1 : Int) : Option (Bool) := if a0_0 ≥ 0 then (if a0_0 ≤ a0_1 then (some (decide (a0_1 ≤ 1000000))) else (some false)) else (some false)
set_option maxHeartbeats 8000000 in
set_option maxRecDepth 100000 in
theorem culletref09_span.calls (a0_0 : Int) (a0_1 : Int) (r : Bool) (w : World) (h : culletref09_span.f a0_0 a0_1 = some r) :
    Calls Try.prog 22 #[.agg #[.int .i64 a0_0, .int .i64 a0_1]] w fun e w' => e = .returned (.bool r) ∧ Below w.heap.size w w' := by
  have hu23 := Try.underlying23
  have HB := Aside0.mk (Below.refl w.heap.size w)
  have H : (if a0_0 ≥ 0 then (if a0_0 ≤ a0_1 then (some (decide (a0_1 ≤ 1000000))) else (some false)) else (some false)) = some r := h
  clear h
  by_cases c2 : a0_0 ≥ 0
  · rw [if_pos c2] at H
    have c2b0 : decide (0 ≤ a0_0) = true := decide_eq_true c2
    clear c2
    by_cases c3 : a0_0 ≤ a0_1
    · rw [if_pos c3] at H
      have c3b0 : decide (a0_0 ≤ a0_1) = true := decide_eq_true c3
      clear c3
      obtain rfl := Option.some.inj H
      go_enter Try.func22, Try.ntmps22
      go_wp2_with (first | ((with_reducible refine gate_dst (N := 1) rfl ?_); refine box_event ?hg (N := 1) ?hd (cs := #[.int .i64 a0_0, .int .i64 a0_1]) (t := 23) ?hr ?_; (case hd => rfl); (case hg => rfl); (case hr => first | (go_simp; done) | (go_simp; rfl)); intro gb102 hg w4 hbox hb; have n0_ := Aside0.mk (below_step (by repeat (first | (with_reducible first | exact HB.out | apply below_alloc | apply pw_below_drewN | apply below_drew1) | exact HB.out)) hb); have n1_ := Aside0.mk (hbox); have n2_ := Aside0.mk ((by rw [hg]; exact (below_size (by repeat (first | (with_reducible first | exact HB.out | apply below_alloc | apply pw_below_drewN | apply below_drew1) | exact HB.out))) : w.heap.size ≤ gb102)); have n3_ := Aside0.mk ((by rw [hg]; exact (below_size (by repeat (first | (with_reducible first | exact HB.out | apply below_alloc | apply pw_below_drewN | apply below_drew1) | exact HB.out))) : w.heap.size ≤ gb102)); clear HB; have HB := n0_; have BK102 := n1_; have GW102 := n2_; have GE102 := n3_; clear n0_ n1_ n2_ n3_; clear hb hbox hg; have hcz5_0 : w4.cell? ⟨gb102, 0, none⟩ = some (.int .i64 a0_0) := (blk_cell BK102.out 0).trans rfl; have hcz5_1 : w4.cell? ⟨gb102, 1, none⟩ = some (.int .i64 a0_1) := (blk_cell BK102.out 1).trans rfl; have hfz5_0 := blk_frozen BK102.out 0; have hfz5_1 := blk_frozen BK102.out 1))
      go_ret
      exact ⟨by first | rfl | (simp [errW_none, errW_some] <;> rfl) | (simp [*, errW_none, errW_some] <;> rfl), by repeat (first | (with_reducible first | exact HB.out | apply below_alloc | apply pw_below_drewN | apply below_drew1 | refine below_set ?_ GE102.out) | exact HB.out)⟩
    · rw [if_neg c3] at H
      have c3b0 : decide (a0_0 ≤ a0_1) = false := decide_eq_false c3
      clear c3
      obtain rfl := Option.some.inj H
      go_enter Try.func22, Try.ntmps22
      go_wp2_with (first | ((with_reducible refine gate_dst (N := 1) rfl ?_); refine box_event ?hg (N := 1) ?hd (cs := #[.int .i64 a0_0, .int .i64 a0_1]) (t := 23) ?hr ?_; (case hd => rfl); (case hg => rfl); (case hr => first | (go_simp; done) | (go_simp; rfl)); intro gb102 hg w6 hbox hb; have n0_ := Aside0.mk (below_step (by repeat (first | (with_reducible first | exact HB.out | apply below_alloc | apply pw_below_drewN | apply below_drew1) | exact HB.out)) hb); have n1_ := Aside0.mk (hbox); have n2_ := Aside0.mk ((by rw [hg]; exact (below_size (by repeat (first | (with_reducible first | exact HB.out | apply below_alloc | apply pw_below_drewN | apply below_drew1) | exact HB.out))) : w.heap.size ≤ gb102)); have n3_ := Aside0.mk ((by rw [hg]; exact (below_size (by repeat (first | (with_reducible first | exact HB.out | apply below_alloc | apply pw_below_drewN | apply below_drew1) | exact HB.out))) : w.heap.size ≤ gb102)); clear HB; have HB := n0_; have BK102 := n1_; have GW102 := n2_; have GE102 := n3_; clear n0_ n1_ n2_ n3_; clear hb hbox hg; have hcz7_0 : w6.cell? ⟨gb102, 0, none⟩ = some (.int .i64 a0_0) := (blk_cell BK102.out 0).trans rfl; have hcz7_1 : w6.cell? ⟨gb102, 1, none⟩ = some (.int .i64 a0_1) := (blk_cell BK102.out 1).trans rfl; have hfz7_0 := blk_frozen BK102.out 0; have hfz7_1 := blk_frozen BK102.out 1))
      go_ret
      exact ⟨by first | rfl | (simp [errW_none, errW_some] <;> rfl) | (simp [*, errW_none, errW_some] <;> rfl), by repeat (first | (with_reducible first | exact HB.out | apply below_alloc | apply pw_below_drewN | apply below_drew1 | refine below_set ?_ GE102.out) | exact HB.out)⟩
  · rw [if_neg c2] at H
    have c2b0 : decide (0 ≤ a0_0) = false := decide_eq_false c2
    clear c2
    obtain rfl := Option.some.inj H
    go_enter Try.func22, Try.ntmps22
    go_wp2_with (first | ((with_reducible refine gate_dst (N := 1) rfl ?_); refine box_event ?hg (N := 1) ?hd (cs := #[.int .i64 a0_0, .int .i64 a0_1]) (t := 23) ?hr ?_; (case hd => rfl); (case hg => rfl); (case hr => first | (go_simp; done) | (go_simp; rfl)); intro gb102 hg w8 hbox hb; have n0_ := Aside0.mk (below_step (by repeat (first | (with_reducible first | exact HB.out | apply below_alloc | apply pw_below_drewN | apply below_drew1) | exact HB.out)) hb); have n1_ := Aside0.mk (hbox); have n2_ := Aside0.mk ((by rw [hg]; exact (below_size (by repeat (first | (with_reducible first | exact HB.out | apply below_alloc | apply pw_below_drewN | apply below_drew1) | exact HB.out))) : w.heap.size ≤ gb102)); have n3_ := Aside0.mk ((by rw [hg]; exact (below_size (by repeat (first | (with_reducible first | exact HB.out | apply below_alloc | apply pw_below_drewN | apply below_drew1) | exact HB.out))) : w.heap.size ≤ gb102)); clear HB; have HB := n0_; have BK102 := n1_; have GW102 := n2_; have GE102 := n3_; clear n0_ n1_ n2_ n3_; clear hb hbox hg; have hcz9_0 : w8.cell? ⟨gb102, 0, none⟩ = some (.int .i64 a0_0) := (blk_cell BK102.out 0).trans rfl; have hcz9_1 : w8.cell? ⟨gb102, 1, none⟩ = some (.int .i64 a0_1) := (blk_cell BK102.out 1).trans rfl; have hfz9_0 := blk_frozen BK102.out 0; have hfz9_1 := blk_frozen BK102.out 1))
    go_ret
    exact ⟨by first | rfl | (simp [errW_none, errW_some] <;> rfl) | (simp [*, errW_none, errW_some] <;> rfl), by repeat (first | (with_reducible first | exact HB.out | apply below_alloc | apply pw_below_drewN | apply below_drew1 | refine below_set ?_ GE102.out) | exact HB.out)⟩

end Go.Proofs.Ytbmkbokkmmdjdaa.Q
end
section
namespace Go.Proofs.Ytbmkbokkmmdjdaa.Q
open Go.RowKit Go.Proofs.YtbmkbokkmmdjdaaW.PrintWords Go.Proofs.YtbmkbokkmmdjdaaW.PrintLast Go.Proofs.YtbmkbokkmmdjdaaW.PrintMore
attribute [local go_sem] max2_int min2_int max_two min_two max_three min_three max_four min_four   -- for this text's walks alone
set_option linter.unusedVariables false
set_option linter.unusedSimpArgs false

def culletref09_weighs.f (a0 : Int) : Option (Bool) := if a0 = 1 then (some true) else (if a0 = 2 then (some true) else (if a0 = 3 then (some true) else (if a0 = 4 then (some true) else (some (a0 == 5)))))
set_option maxHeartbeats 8000000 in
set_option maxRecDepth 100000 in
theorem culletref09_weighs.calls (a0 : Int) (r : Bool) (w : World) (h : culletref09_weighs.f a0 = some r) :
    Calls Try.prog 46 #[.int .u8 a0] w fun e w' => e = .returned (.bool r) ∧ Drawn0 w w' := by
  have H : (if a0 = 1 then (some true) else (if a0 = 2 then (some true) else (if a0 = 3 then (some true) else (if a0 = 4 then (some true) else (some (a0 == 5)))))) = some r := h
  clear h
  by_cases c2 : a0 = 1
  · rw [if_pos c2] at H
    have c2b0 : (a0 == 1) = true := beq_iff_eq.mpr c2
    have c2b1 : (a0 != 1) = false := bne_eq_false_iff_eq.mpr c2
    clear c2
    obtain rfl := Option.some.inj H
    go_enter Try.func46, Try.ntmps46
    go_wp2
    go_ret
    exact ⟨by first | rfl | (simp; done) | (simp [*]; done), by repeat (first | exact Drawn0.refl _ | apply Drawn0.step)⟩
  · rw [if_neg c2] at H
    have c2b0 : (a0 == 1) = false := beq_eq_false_iff_ne.mpr c2
    have c2b1 : (a0 != 1) = true := bne_iff_ne.mpr c2
    by_cases c3 : a0 = 2
    · rw [if_pos c3] at H
      have c3b0 : (a0 == 2) = true := beq_iff_eq.mpr c3
      have c3b1 : (a0 != 2) = false := bne_eq_false_iff_eq.mpr c3
      clear c3
      obtain rfl := Option.some.inj H
      go_enter Try.func46, Try.ntmps46
      go_wp2
      go_ret
      exact ⟨by first | rfl | (simp; done) | (simp [*]; done), by repeat (first | exact Drawn0.refl _ | apply Drawn0.step)⟩
    · rw [if_neg c3] at H
      have c3b0 : (a0 == 2) = false := beq_eq_false_iff_ne.mpr c3
      have c3b1 : (a0 != 2) = true := bne_iff_ne.mpr c3
      by_cases c4 : a0 = 3
      · rw [if_pos c4] at H
        have c4b0 : (a0 == 3) = true := beq_iff_eq.mpr c4
        have c4b1 : (a0 != 3) = false := bne_eq_false_iff_eq.mpr c4
        clear c4
        obtain rfl := Option.some.inj H
        go_enter Try.func46, Try.ntmps46
        go_wp2
        go_ret
        exact ⟨by first | rfl | (simp; done) | (simp [*]; done), by repeat (first | exact Drawn0.refl _ | apply Drawn0.step)⟩
      · rw [if_neg c4] at H
        have c4b0 : (a0 == 3) = false := beq_eq_false_iff_ne.mpr c4
        have c4b1 : (a0 != 3) = true := bne_iff_ne.mpr c4
        by_cases c5 : a0 = 4
        · rw [if_pos c5] at H
          have c5b0 : (a0 == 4) = true := beq_iff_eq.mpr c5
          have c5b1 : (a0 != 4) = false := bne_eq_false_iff_eq.mpr c5
          clear c5
          obtain rfl := Option.some.inj H
          go_enter Try.func46, Try.ntmps46
          go_wp2
          go_ret
          exact ⟨by first | rfl | (simp; done) | (simp [*]; done), by repeat (first | exact Drawn0.refl _ | apply Drawn0.step)⟩
        · rw [if_neg c5] at H
          have c5b0 : (a0 == 4) = false := beq_eq_false_iff_ne.mpr c5
          have c5b1 : (a0 != 4) = true := bne_iff_ne.mpr c5
          obtain rfl := Option.some.inj H
          go_enter Try.func46, Try.ntmps46
          go_wp2
          go_ret
          exact ⟨by first | rfl | (simp; done) | (simp [*]; done), by repeat (first | exact Drawn0.refl _ | apply Drawn0.step)⟩

end Go.Proofs.Ytbmkbokkmmdjdaa.Q
end
