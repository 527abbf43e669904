/- What the proof of FnExactCountOfSaid rests on, part 4: plain lemmas and contracts of the functions that the law reaches (in part written by a printing program over the translation). No condition. -/
import Derived.Test.YtbkahdpmpmalhaaBFnExactCountOfc
section
namespace Go.Proofs.Ytbkahdpmpmalhaa.P
open Go.RowKit Go.Proofs.YtbkahdpmpmalhaaW.PrintWords Go.Proofs.YtbkahdpmpmalhaaW.PrintLast Go.Proofs.YtbkahdpmpmalhaaW.PrintMore
attribute [local go_sem] max2_int min2_int max_two min_two max_three min_three max_four min_four   -- for this text's walks alone
set_option linter.unusedVariables false
set_option linter.unusedSimpArgs false

/-! ### laws_toMachine: function 27 -/
def laws_toMachine.f (k : Nat) (l0_0 : List (List Int)) (l0_1 : List Int) (l0_2 : List (S151)) (l0_3 : List (S74)) (l0_4 : List (S155)) (a0_5 : Int) (l0_6 : List (S144)) (l0_7 : List (S147)) (l0_8 : List Int) (l0_9 : List Int) : Option ((List (List Int)) × List Int × (List (S149)) × (List (S76)) × (List (S153)) × Int × (List (S116)) × (List (S157)) × List Int × List Int) := (laws_toIntSS.f k l0_0).bind fun t523 => ((laws_toIntS.f k l0_1).bind fun t526 => ((laws_toRunS.f k l0_2).bind fun t529 => ((laws_toSlabS.f k l0_3).bind fun t532 => ((laws_toObjectS.f k l0_4).bind fun t535 => ((laws_toSpaceS.f k l0_6).bind fun t538 => ((laws_toSlotS.f k l0_7).bind fun t541 => ((laws_toIntS.f k l0_8).bind fun t544 => ((laws_toIntS.f k l0_9).bind fun t547 => (some (t523, t526, t529, t532, t535, a0_5, t538, t541, t544, t547))))))))))
theorem laws_toMachine.mono : ∀ a0 a1 a2 a3 a4 a5 a6 a7 a8 a9 k, LeO (laws_toMachine.f k a0 a1 a2 a3 a4 a5 a6 a7 a8 a9) (laws_toMachine.f (k + 1) a0 a1 a2 a3 a4 a5 a6 a7 a8 a9) := by
  intro a0 a1 a2 a3 a4 a5 a6 a7 a8 a9 k
  unfold laws_toMachine.f
  repeat' first
      | (with_reducible exact laws_toIntS.mono _ _)
      | (with_reducible exact laws_toIntSS.mono _ _)
      | (with_reducible exact laws_toObjectS.mono _ _)
      | (with_reducible exact laws_toRunS.mono _ _)
      | (with_reducible exact laws_toSlabS.mono _ _)
      | (with_reducible exact laws_toSlotS.mono _ _)
      | (with_reducible exact laws_toSpaceS.mono _ _)
      | (with_reducible exact LeO.refl _)
      | (with_reducible exact LeO.none _)
      | (with_reducible refine LeO.ite ?_ ?_)
      | (with_reducible refine LeO.bind ?_ (fun _ => ?_))
      | exact laws_toIntS.mono _ _
      | exact laws_toIntSS.mono _ _
      | exact laws_toObjectS.mono _ _
      | exact laws_toRunS.mono _ _
      | exact laws_toSlabS.mono _ _
      | exact laws_toSlotS.mono _ _
      | exact laws_toSpaceS.mono _ _
      | exact LeO.none _
      | refine LeO.ite ?_ ?_
      | refine LeO.bind ?_ (fun _ => ?_)
set_option maxHeartbeats 8000000 in
set_option maxRecDepth 100000 in
theorem laws_toMachine.calls (k : Nat) (A0_0 : Option Addr) (c0_0 : Nat) (l0_0 : List (List Int)) (A0_1 : Option Addr) (c0_1 : Nat) (l0_1 : List Int) (A0_2 : Option Addr) (c0_2 : Nat) (l0_2 : List (S151)) (A0_3 : Option Addr) (c0_3 : Nat) (l0_3 : List (S74)) (A0_4 : Option Addr) (c0_4 : Nat) (l0_4 : List (S155)) (a0_5 : Int) (A0_6 : Option Addr) (c0_6 : Nat) (l0_6 : List (S144)) (A0_7 : Option Addr) (c0_7 : Nat) (l0_7 : List (S147)) (A0_8 : Option Addr) (c0_8 : Nat) (l0_8 : List Int) (A0_9 : Option Addr) (c0_9 : Nat) (l0_9 : List Int) (r1 : List (List Int)) (r2 : List Int) (r3 : List (S149)) (r4 : List (S76)) (r5 : List (S153)) (r6 : Int) (r7 : List (S116)) (r8 : List (S157)) (r9 : List Int) (r10 : List Int) (w : World) (hr0_0 : Kd.C (Kd.slice 3 (Kd.int .i64)) w A0_0 l0_0.length l0_0) (hc0_0 : l0_0.length ≤ c0_0) (hr0_1 : Kd.C (Kd.int .i64) w A0_1 l0_1.length l0_1) (hc0_1 : l0_1.length ≤ c0_1) (hr0_2 : Kd.C k151 w A0_2 l0_2.length l0_2) (hc0_2 : l0_2.length ≤ c0_2) (hr0_3 : Kd.C k74 w A0_3 l0_3.length l0_3) (hc0_3 : l0_3.length ≤ c0_3) (hr0_4 : Kd.C k155 w A0_4 l0_4.length l0_4) (hc0_4 : l0_4.length ≤ c0_4) (hr0_6 : Kd.C k144 w A0_6 l0_6.length l0_6) (hc0_6 : l0_6.length ≤ c0_6) (hr0_7 : Kd.C k147 w A0_7 l0_7.length l0_7) (hc0_7 : l0_7.length ≤ c0_7) (hr0_8 : Kd.C (Kd.int .i64) w A0_8 l0_8.length l0_8) (hc0_8 : l0_8.length ≤ c0_8) (hr0_9 : Kd.C (Kd.int .i64) w A0_9 l0_9.length l0_9) (hc0_9 : l0_9.length ≤ c0_9) (h : laws_toMachine.f k l0_0 l0_1 l0_2 l0_3 l0_4 a0_5 l0_6 l0_7 l0_8 l0_9 = some (r1, r2, r3, r4, r5, r6, r7, r8, r9, r10)) :
    Calls Try.prog 27 #[.agg #[.slice A0_0 l0_0.length c0_0, .slice A0_1 l0_1.length c0_1, .slice A0_2 l0_2.length c0_2, .slice A0_3 l0_3.length c0_3, .slice A0_4 l0_4.length c0_4, .int .i64 a0_5, .slice A0_6 l0_6.length c0_6, .slice A0_7 l0_7.length c0_7, .slice A0_8 l0_8.length c0_8, .slice A0_9 l0_9.length c0_9]] w fun e w' => ∃ v0_ v1_ v2_ v3_ v4_ v6_ v7_ v8_ v9_ : Value, e = .returned (.agg #[v0_, v1_, v2_, v3_, v4_, .int .i64 r6, v6_, v7_, v8_, v9_]) ∧ Kd.S (Kd.slice 3 (Kd.int .i64)) 38 w' w.heap.size (fun k_ => some k_ ≠ (v1_ : Value).ownBlock ∧ some k_ ≠ (v8_ : Value).ownBlock ∧ some k_ ≠ (v9_ : Value).ownBlock) v0_ r1 ∧ Kd.R (Kd.int .i64) 3 w' w.heap.size (fun k_ => some k_ ≠ (v8_ : Value).ownBlock ∧ some k_ ≠ (v9_ : Value).ownBlock) v1_ r2 ∧ Kd.R k149 149 w' w.heap.size (fun _ => True) v2_ r3 ∧ Kd.S k76 76 w' w.heap.size (fun _ => True) v3_ r4 ∧ Kd.R k153 153 w' w.heap.size (fun _ => True) v4_ r5 ∧ Kd.S k116 116 w' w.heap.size (fun _ => True) v6_ r7 ∧ Kd.S k157 157 w' w.heap.size (fun k_ => some k_ ≠ (v1_ : Value).ownBlock ∧ some k_ ≠ (v8_ : Value).ownBlock ∧ some k_ ≠ (v9_ : Value).ownBlock) v7_ r8 ∧ Kd.R (Kd.int .i64) 3 w' w.heap.size (fun k_ => some k_ ≠ (v1_ : Value).ownBlock ∧ some k_ ≠ (v9_ : Value).ownBlock) v8_ r9 ∧ Kd.R (Kd.int .i64) 3 w' w.heap.size (fun k_ => some k_ ≠ (v1_ : Value).ownBlock ∧ some k_ ≠ (v8_ : Value).ownBlock) v9_ r10 ∧ Below w.heap.size w w' := by
  have hu48 := Try.underlying48
  have hu56 := Try.underlying56
  have HR0_0 := Aside0.mk hr0_0
  have HC0_0 := Aside0.mk hc0_0
  clear hr0_0 hc0_0
  have HR0_1 := Aside0.mk hr0_1
  have HC0_1 := Aside0.mk hc0_1
  clear hr0_1 hc0_1
  have HR0_2 := Aside0.mk hr0_2
  have HC0_2 := Aside0.mk hc0_2
  clear hr0_2 hc0_2
  have HR0_3 := Aside0.mk hr0_3
  have HC0_3 := Aside0.mk hc0_3
  clear hr0_3 hc0_3
  have HR0_4 := Aside0.mk hr0_4
  have HC0_4 := Aside0.mk hc0_4
  clear hr0_4 hc0_4
  have HR0_6 := Aside0.mk hr0_6
  have HC0_6 := Aside0.mk hc0_6
  clear hr0_6 hc0_6
  have HR0_7 := Aside0.mk hr0_7
  have HC0_7 := Aside0.mk hc0_7
  clear hr0_7 hc0_7
  have HR0_8 := Aside0.mk hr0_8
  have HC0_8 := Aside0.mk hc0_8
  clear hr0_8 hc0_8
  have HR0_9 := Aside0.mk hr0_9
  have HC0_9 := Aside0.mk hc0_9
  clear hr0_9 hc0_9
  have HB := Aside0.mk (Below.refl w.heap.size w)
  have H : ((laws_toIntSS.f k l0_0).bind fun t523 => ((laws_toIntS.f k l0_1).bind fun t526 => ((laws_toRunS.f k l0_2).bind fun t529 => ((laws_toSlabS.f k l0_3).bind fun t532 => ((laws_toObjectS.f k l0_4).bind fun t535 => ((laws_toSpaceS.f k l0_6).bind fun t538 => ((laws_toSlotS.f k l0_7).bind fun t541 => ((laws_toIntS.f k l0_8).bind fun t544 => ((laws_toIntS.f k l0_9).bind fun t547 => (some (t523, t526, t529, t532, t535, a0_5, t538, t541, t544, t547))))))))))) = some (r1, r2, r3, r4, r5, r6, r7, r8, r9, r10) := h
  clear h
  replace H := Option.bind_eq_some_iff.mp H
  obtain ⟨t523, A20, H⟩ := H
  replace H : ((laws_toIntS.f k l0_1).bind fun t526 => ((laws_toRunS.f k l0_2).bind fun t529 => ((laws_toSlabS.f k l0_3).bind fun t532 => ((laws_toObjectS.f k l0_4).bind fun t535 => ((laws_toSpaceS.f k l0_6).bind fun t538 => ((laws_toSlotS.f k l0_7).bind fun t541 => ((laws_toIntS.f k l0_8).bind fun t544 => ((laws_toIntS.f k l0_9).bind fun t547 => (some (t523, t526, t529, t532, t535, a0_5, t538, t541, t544, t547)))))))))) = some (r1, r2, r3, r4, r5, r6, r7, r8, r9, r10) := H
  have A2 := Aside0.mk A20
  clear A20
  replace H := Option.bind_eq_some_iff.mp H
  obtain ⟨t526, A30, H⟩ := H
  replace H : ((laws_toRunS.f k l0_2).bind fun t529 => ((laws_toSlabS.f k l0_3).bind fun t532 => ((laws_toObjectS.f k l0_4).bind fun t535 => ((laws_toSpaceS.f k l0_6).bind fun t538 => ((laws_toSlotS.f k l0_7).bind fun t541 => ((laws_toIntS.f k l0_8).bind fun t544 => ((laws_toIntS.f k l0_9).bind fun t547 => (some (t523, t526, t529, t532, t535, a0_5, t538, t541, t544, t547))))))))) = some (r1, r2, r3, r4, r5, r6, r7, r8, r9, r10) := H
  have A3 := Aside0.mk A30
  clear A30
  replace H := Option.bind_eq_some_iff.mp H
  obtain ⟨t529, A40, H⟩ := H
  replace H : ((laws_toSlabS.f k l0_3).bind fun t532 => ((laws_toObjectS.f k l0_4).bind fun t535 => ((laws_toSpaceS.f k l0_6).bind fun t538 => ((laws_toSlotS.f k l0_7).bind fun t541 => ((laws_toIntS.f k l0_8).bind fun t544 => ((laws_toIntS.f k l0_9).bind fun t547 => (some (t523, t526, t529, t532, t535, a0_5, t538, t541, t544, t547)))))))) = some (r1, r2, r3, r4, r5, r6, r7, r8, r9, r10) := H
  have A4 := Aside0.mk A40
  clear A40
  replace H := Option.bind_eq_some_iff.mp H
  obtain ⟨t532, A50, H⟩ := H
  replace H : ((laws_toObjectS.f k l0_4).bind fun t535 => ((laws_toSpaceS.f k l0_6).bind fun t538 => ((laws_toSlotS.f k l0_7).bind fun t541 => ((laws_toIntS.f k l0_8).bind fun t544 => ((laws_toIntS.f k l0_9).bind fun t547 => (some (t523, t526, t529, t532, t535, a0_5, t538, t541, t544, t547))))))) = some (r1, r2, r3, r4, r5, r6, r7, r8, r9, r10) := H
  have A5 := Aside0.mk A50
  clear A50
  replace H := Option.bind_eq_some_iff.mp H
  obtain ⟨t535, A60, H⟩ := H
  replace H : ((laws_toSpaceS.f k l0_6).bind fun t538 => ((laws_toSlotS.f k l0_7).bind fun t541 => ((laws_toIntS.f k l0_8).bind fun t544 => ((laws_toIntS.f k l0_9).bind fun t547 => (some (t523, t526, t529, t532, t535, a0_5, t538, t541, t544, t547)))))) = some (r1, r2, r3, r4, r5, r6, r7, r8, r9, r10) := H
  have A6 := Aside0.mk A60
  clear A60
  replace H := Option.bind_eq_some_iff.mp H
  obtain ⟨t538, A70, H⟩ := H
  replace H : ((laws_toSlotS.f k l0_7).bind fun t541 => ((laws_toIntS.f k l0_8).bind fun t544 => ((laws_toIntS.f k l0_9).bind fun t547 => (some (t523, t526, t529, t532, t535, a0_5, t538, t541, t544, t547))))) = some (r1, r2, r3, r4, r5, r6, r7, r8, r9, r10) := H
  have A7 := Aside0.mk A70
  clear A70
  replace H := Option.bind_eq_some_iff.mp H
  obtain ⟨t541, A80, H⟩ := H
  replace H : ((laws_toIntS.f k l0_8).bind fun t544 => ((laws_toIntS.f k l0_9).bind fun t547 => (some (t523, t526, t529, t532, t535, a0_5, t538, t541, t544, t547)))) = some (r1, r2, r3, r4, r5, r6, r7, r8, r9, r10) := H
  have A8 := Aside0.mk A80
  clear A80
  replace H := Option.bind_eq_some_iff.mp H
  obtain ⟨t544, A90, H⟩ := H
  replace H : ((laws_toIntS.f k l0_9).bind fun t547 => (some (t523, t526, t529, t532, t535, a0_5, t538, t541, t544, t547))) = some (r1, r2, r3, r4, r5, r6, r7, r8, r9, r10) := H
  have A9 := Aside0.mk A90
  clear A90
  replace H := Option.bind_eq_some_iff.mp H
  obtain ⟨t547, A100, H⟩ := H
  replace H : (some (t523, t526, t529, t532, t535, a0_5, t538, t541, t544, t547)) = some (r1, r2, r3, r4, r5, r6, r7, r8, r9, r10) := H
  have A10 := Aside0.mk A100
  clear A100
  simp only [Option.some.injEq, Prod.mk.injEq] at H
  obtain ⟨rfl, rfl, rfl, rfl, rfl, rfl, rfl, rfl, rfl, rfl⟩ := H
  go_enter Try.func27, Try.ntmps27
  go_wp2_with (first | ((with_reducible refine gate_dst (N := 1) rfl ?_); refine box_event ?hg (N := 1) ?hd (cs := #[.slice A0_0 l0_0.length c0_0, .slice A0_1 l0_1.length c0_1, .slice A0_2 l0_2.length c0_2, .slice A0_3 l0_3.length c0_3, .slice A0_4 l0_4.length c0_4, .int .i64 a0_5, .slice A0_6 l0_6.length c0_6, .slice A0_7 l0_7.length c0_7, .slice A0_8 l0_8.length c0_8, .slice A0_9 l0_9.length c0_9]) (t := 48) ?hr ?_; (case hd => rfl); (case hg => rfl); (case hr => first | (go_simp; done) | (go_simp; rfl)); intro gb520 hg w11 hbox hb; have n0_ := Aside0.mk (below_step (by repeat (first | (with_reducible first | exact HB.out | apply below_alloc | apply pw_below_drewN | apply below_drew1) | exact HB.out)) hb); have n1_ := Aside0.mk (hbox); have n2_ := Aside0.mk ((by rw [hg]; exact (below_size (by repeat (first | (with_reducible first | exact HB.out | apply below_alloc | apply pw_below_drewN | apply below_drew1) | exact HB.out))) : w.heap.size ≤ gb520)); have n3_ := Aside0.mk ((by rw [hg]; exact (below_size (by repeat (first | (with_reducible first | exact HB.out | apply below_alloc | apply pw_below_drewN | apply below_drew1) | exact HB.out))) : w.heap.size ≤ gb520)); clear HB; have HB := n0_; have BK520 := n1_; have GW520 := n2_; have GE520 := n3_; clear n0_ n1_ n2_ n3_; clear hb hbox hg) | ((with_reducible refine gate_dst (N := 2) rfl ?_); refine box_event ?hg (N := 2) ?hd (cs := #[.slice none 0 0, .slice none 0 0, .slice none 0 0, .slice none 0 0, .slice none 0 0, .int .i64 0, .slice none 0 0, .slice none 0 0, .slice none 0 0, .slice none 0 0]) (t := 56) ?hr ?_; (case hd => rfl); (case hg => rfl); (case hr => first | (go_simp; done) | (go_simp; rfl)); intro gb521 hg w12 hbox hb; have n0_ := Aside0.mk (blk_below (g := gb520) (o := .cells #[.slice A0_0 l0_0.length c0_0, .slice A0_1 l0_1.length c0_1, .slice A0_2 l0_2.length c0_2, .slice A0_3 l0_3.length c0_3, .slice A0_4 l0_4.length c0_4, .int .i64 a0_5, .slice A0_6 l0_6.length c0_6, .slice A0_7 l0_7.length c0_7, .slice A0_8 l0_8.length c0_8, .slice A0_9 l0_9.length c0_9] 48 (0, 0)) (by (with_reducible repeat (first | refine blk_drewN ?_ _ | refine blk_drew ?_ | refine blk_alloc ?_ _)); exact BK520.out) hb); have n1_ := Aside0.mk (below_step (by repeat (first | (with_reducible first | exact HB.out | apply below_alloc | apply pw_below_drewN | apply below_drew1 | refine below_set ?_ GE520.out) | exact HB.out)) hb); have n2_ := Aside0.mk (hbox); have n3_ := Aside0.mk ((by rw [hg]; exact (below_size (by repeat (first | (with_reducible first | exact HB.out | apply below_alloc | apply pw_below_drewN | apply below_drew1 | refine below_set ?_ GE520.out) | exact HB.out))) : w.heap.size ≤ gb521)); have n4_ := Aside0.mk ((by rw [hg]; exact (below_size (by repeat (first | (with_reducible first | exact HB.out | apply below_alloc | apply pw_below_drewN | apply below_drew1 | refine below_set ?_ GE520.out) | exact HB.out))) : w.heap.size ≤ gb521)); have n5_ := Aside0.mk ((by rw [hg]; exact Nat.ne_of_lt (blk_lt (g := gb520) (o := .cells #[.slice A0_0 l0_0.length c0_0, .slice A0_1 l0_1.length c0_1, .slice A0_2 l0_2.length c0_2, .slice A0_3 l0_3.length c0_3, .slice A0_4 l0_4.length c0_4, .int .i64 a0_5, .slice A0_6 l0_6.length c0_6, .slice A0_7 l0_7.length c0_7, .slice A0_8 l0_8.length c0_8, .slice A0_9 l0_9.length c0_9] 48 (0, 0)) (by (with_reducible repeat (first | refine blk_drewN ?_ _ | refine blk_drew ?_ | refine blk_alloc ?_ _)); exact BK520.out)) : gb520 ≠ gb521)); have n6_ := Aside0.mk ((by rw [hg]; exact Nat.ne_of_gt (blk_lt (g := gb520) (o := .cells #[.slice A0_0 l0_0.length c0_0, .slice A0_1 l0_1.length c0_1, .slice A0_2 l0_2.length c0_2, .slice A0_3 l0_3.length c0_3, .slice A0_4 l0_4.length c0_4, .int .i64 a0_5, .slice A0_6 l0_6.length c0_6, .slice A0_7 l0_7.length c0_7, .slice A0_8 l0_8.length c0_8, .slice A0_9 l0_9.length c0_9] 48 (0, 0)) (by (with_reducible repeat (first | refine blk_drewN ?_ _ | refine blk_drew ?_ | refine blk_alloc ?_ _)); exact BK520.out)) : gb521 ≠ gb520)); clear BK520; clear HB; have BK520 := n0_; have HB := n1_; have BK521 := n2_; have GW521 := n3_; have GE521 := n4_; have NB520_521 := n5_; have NB521_520 := n6_; clear n0_ n1_ n2_ n3_ n4_ n5_ n6_; clear hb hbox hg) | ((with_reducible refine gate_dst (N := 3) rfl ?_); refine box_event ?hg (N := 3) ?hd (cs := #[.slice none 0 0, .slice none 0 0, .slice none 0 0, .slice none 0 0, .slice none 0 0, .int .i64 0, .slice none 0 0, .slice none 0 0, .slice none 0 0, .slice none 0 0]) (t := 56) ?hr ?_; (case hd => rfl); (case hg => rfl); (case hr => first | (go_simp; done) | (go_simp; rfl)); intro gb522 hg w13 hbox hb; have n0_ := Aside0.mk (blk_below (g := gb520) (o := .cells #[.slice A0_0 l0_0.length c0_0, .slice A0_1 l0_1.length c0_1, .slice A0_2 l0_2.length c0_2, .slice A0_3 l0_3.length c0_3, .slice A0_4 l0_4.length c0_4, .int .i64 a0_5, .slice A0_6 l0_6.length c0_6, .slice A0_7 l0_7.length c0_7, .slice A0_8 l0_8.length c0_8, .slice A0_9 l0_9.length c0_9] 48 (0, 0)) (by (with_reducible repeat (first | refine blk_drewN ?_ _ | refine blk_drew ?_ | refine blk_alloc ?_ _)); exact BK520.out) hb); have n1_ := Aside0.mk (blk_below (g := gb521) (o := .cells #[.slice none 0 0, .slice none 0 0, .slice none 0 0, .slice none 0 0, .slice none 0 0, .int .i64 0, .slice none 0 0, .slice none 0 0, .slice none 0 0, .slice none 0 0] 56 (0, 0)) (by (with_reducible repeat (first | refine blk_drewN ?_ _ | refine blk_drew ?_ | refine blk_alloc ?_ _)); exact BK521.out) hb); have n2_ := Aside0.mk (below_step (by repeat (first | (with_reducible first | exact HB.out | apply below_alloc | apply pw_below_drewN | apply below_drew1 | refine below_set ?_ GE520.out | refine below_set ?_ GE521.out) | exact HB.out)) hb); have n3_ := Aside0.mk (hbox); have n4_ := Aside0.mk ((by rw [hg]; exact (below_size (by repeat (first | (with_reducible first | exact HB.out | apply below_alloc | apply pw_below_drewN | apply below_drew1 | refine below_set ?_ GE520.out | refine below_set ?_ GE521.out) | exact HB.out))) : w.heap.size ≤ gb522)); have n5_ := Aside0.mk ((by rw [hg]; exact (below_size (by repeat (first | (with_reducible first | exact HB.out | apply below_alloc | apply pw_below_drewN | apply below_drew1 | refine below_set ?_ GE520.out | refine below_set ?_ GE521.out) | exact HB.out))) : w.heap.size ≤ gb522)); have n6_ := Aside0.mk ((by rw [hg]; exact Nat.ne_of_lt (blk_lt (g := gb520) (o := .cells #[.slice A0_0 l0_0.length c0_0, .slice A0_1 l0_1.length c0_1, .slice A0_2 l0_2.length c0_2, .slice A0_3 l0_3.length c0_3, .slice A0_4 l0_4.length c0_4, .int .i64 a0_5, .slice A0_6 l0_6.length c0_6, .slice A0_7 l0_7.length c0_7, .slice A0_8 l0_8.length c0_8, .slice A0_9 l0_9.length c0_9] 48 (0, 0)) (by (with_reducible repeat (first | refine blk_drewN ?_ _ | refine blk_drew ?_ | refine blk_alloc ?_ _)); exact BK520.out)) : gb520 ≠ gb522)); have n7_ := Aside0.mk ((by rw [hg]; exact Nat.ne_of_gt (blk_lt (g := gb520) (o := .cells #[.slice A0_0 l0_0.length c0_0, .slice A0_1 l0_1.length c0_1, .slice A0_2 l0_2.length c0_2, .slice A0_3 l0_3.length c0_3, .slice A0_4 l0_4.length c0_4, .int .i64 a0_5, .slice A0_6 l0_6.length c0_6, .slice A0_7 l0_7.length c0_7, .slice A0_8 l0_8.length c0_8, .slice A0_9 l0_9.length c0_9] 48 (0, 0)) (by (with_reducible repeat (first | refine blk_drewN ?_ _ | refine blk_drew ?_ | refine blk_alloc ?_ _)); exact BK520.out)) : gb522 ≠ gb520)); have n8_ := Aside0.mk ((by rw [hg]; exact Nat.ne_of_lt (blk_lt (g := gb521) (o := .cells #[.slice none 0 0, .slice none 0 0, .slice none 0 0, .slice none 0 0, .slice none 0 0, .int .i64 0, .slice none 0 0, .slice none 0 0, .slice none 0 0, .slice none 0 0] 56 (0, 0)) (by (with_reducible repeat (first | refine blk_drewN ?_ _ | refine blk_drew ?_ | refine blk_alloc ?_ _)); exact BK521.out)) : gb521 ≠ gb522)); have n9_ := Aside0.mk ((by rw [hg]; exact Nat.ne_of_gt (blk_lt (g := gb521) (o := .cells #[.slice none 0 0, .slice none 0 0, .slice none 0 0, .slice none 0 0, .slice none 0 0, .int .i64 0, .slice none 0 0, .slice none 0 0, .slice none 0 0, .slice none 0 0] 56 (0, 0)) (by (with_reducible repeat (first | refine blk_drewN ?_ _ | refine blk_drew ?_ | refine blk_alloc ?_ _)); exact BK521.out)) : gb522 ≠ gb521)); clear BK520; clear BK521; clear HB; have BK520 := n0_; have BK521 := n1_; have HB := n2_; have BK522 := n3_; have GW522 := n4_; have GE522 := n5_; have NB520_522 := n6_; have NB522_520 := n7_; have NB521_522 := n8_; have NB522_521 := n9_; clear n0_ n1_ n2_ n3_ n4_ n5_ n6_ n7_ n8_ n9_; clear hb hbox hg; have hnb14 := NB520_521.out; have hnc14 := NB521_520.out; have hnb15 := NB520_522.out; have hnc15 := NB522_520.out; have hcz16_0 : w13.cell? ⟨gb520, 0, none⟩ = some (.slice A0_0 l0_0.length c0_0) := (blk_cell BK520.out 0).trans rfl; have hcz16_1 : w13.cell? ⟨gb520, 1, none⟩ = some (.slice A0_1 l0_1.length c0_1) := (blk_cell BK520.out 1).trans rfl; have hcz16_2 : w13.cell? ⟨gb520, 2, none⟩ = some (.slice A0_2 l0_2.length c0_2) := (blk_cell BK520.out 2).trans rfl; have hcz16_3 : w13.cell? ⟨gb520, 3, none⟩ = some (.slice A0_3 l0_3.length c0_3) := (blk_cell BK520.out 3).trans rfl; have hcz16_4 : w13.cell? ⟨gb520, 4, none⟩ = some (.slice A0_4 l0_4.length c0_4) := (blk_cell BK520.out 4).trans rfl; have hcz16_5 : w13.cell? ⟨gb520, 5, none⟩ = some (.int .i64 a0_5) := (blk_cell BK520.out 5).trans rfl; have hcz16_6 : w13.cell? ⟨gb520, 6, none⟩ = some (.slice A0_6 l0_6.length c0_6) := (blk_cell BK520.out 6).trans rfl; have hcz16_7 : w13.cell? ⟨gb520, 7, none⟩ = some (.slice A0_7 l0_7.length c0_7) := (blk_cell BK520.out 7).trans rfl; have hcz16_8 : w13.cell? ⟨gb520, 8, none⟩ = some (.slice A0_8 l0_8.length c0_8) := (blk_cell BK520.out 8).trans rfl; have hcz16_9 : w13.cell? ⟨gb520, 9, none⟩ = some (.slice A0_9 l0_9.length c0_9) := (blk_cell BK520.out 9).trans rfl; have hfz16_0 := blk_frozen BK520.out 0; have hfz16_1 := blk_frozen BK520.out 1; have hfz16_2 := blk_frozen BK520.out 2; have hfz16_3 := blk_frozen BK520.out 3; have hfz16_4 := blk_frozen BK520.out 4; have hfz16_5 := blk_frozen BK520.out 5; have hfz16_6 := blk_frozen BK520.out 6; have hfz16_7 := blk_frozen BK520.out 7; have hfz16_8 := blk_frozen BK520.out 8; have hfz16_9 := blk_frozen BK520.out 9) | ((with_reducible refine gate_callee (f := 68) rfl ?_); refine goesL_ (some 6) rfl rfl Try.func68 (by kernel_rfl) rfl #[.slice A0_0 l0_0.length c0_0] rfl (by (try simp only [List.map_toArray, List.map_cons, List.map_nil]); first | done | rfl | (simp only [List.length_drop, List.length_take]; rfl)) ?_; (with_reducible refine (laws_toIntSS.calls k _ _ l0_0 t523 _ ?side1 ?side2 A2.out).mono ?_); (case side1 => repeat (first | exact (Kd.C_below HR0_0.out HB.out) | (with_reducible refine Kd.C_alloc ?_ _) | (with_reducible refine Kd.C_drewN ?_ _) | (with_reducible refine Kd.C_drew ?_))); (case side2 => exact HC0_0.out); rintro e w17 ⟨v524, rfl, ho0, hb⟩; refine ⟨_, rfl, ?_⟩; have n0_ := Aside0.mk (Kd.S_lower ho0 (below_size (by repeat (first | (with_reducible first | exact HB.out | apply below_alloc | apply pw_below_drewN | apply below_drew1 | refine below_set ?_ GE520.out | refine below_set ?_ GE521.out | refine below_set ?_ GE522.out) | exact HB.out)))); have n1_ := Aside0.mk (blk_below (g := gb520) (o := .cells #[.slice A0_0 l0_0.length c0_0, .slice A0_1 l0_1.length c0_1, .slice A0_2 l0_2.length c0_2, .slice A0_3 l0_3.length c0_3, .slice A0_4 l0_4.length c0_4, .int .i64 a0_5, .slice A0_6 l0_6.length c0_6, .slice A0_7 l0_7.length c0_7, .slice A0_8 l0_8.length c0_8, .slice A0_9 l0_9.length c0_9] 48 (0, 0)) (by (with_reducible repeat (first | refine blk_drewN ?_ _ | refine blk_drew ?_ | refine blk_alloc ?_ _)); exact BK520.out) hb); have n2_ := Aside0.mk (blk_below (g := gb521) (o := .cells #[.slice none 0 0, .slice none 0 0, .slice none 0 0, .slice none 0 0, .slice none 0 0, .int .i64 0, .slice none 0 0, .slice none 0 0, .slice none 0 0, .slice none 0 0] 56 (0, 0)) (by (with_reducible repeat (first | refine blk_drewN ?_ _ | refine blk_drew ?_ | refine blk_alloc ?_ _)); exact BK521.out) hb); have n3_ := Aside0.mk (blk_below (g := gb522) (o := .cells #[.slice none 0 0, .slice none 0 0, .slice none 0 0, .slice none 0 0, .slice none 0 0, .int .i64 0, .slice none 0 0, .slice none 0 0, .slice none 0 0, .slice none 0 0] 56 (0, 0)) (by (with_reducible repeat (first | refine blk_drewN ?_ _ | refine blk_drew ?_ | refine blk_alloc ?_ _)); exact BK522.out) hb); have n4_ := Aside0.mk (below_step (by repeat (first | (with_reducible first | exact HB.out | apply below_alloc | apply pw_below_drewN | apply below_drew1 | refine below_set ?_ GE520.out | refine below_set ?_ GE521.out | refine below_set ?_ GE522.out) | exact HB.out)) hb); clear BK520; clear BK521; clear BK522; clear HB; have HO525 := n0_; have BK520 := n1_; have BK521 := n2_; have BK522 := n3_; have HB := n4_; clear n0_ n1_ n2_ n3_ n4_; (try clear hb); (try clear hb2); (try clear hk); (try clear hi); (try clear ho0); obtain ⟨Ao18, co18, eo18⟩ := Kd.S_slice HO525.out; subst eo18; have hnb19 := NB522_521.out; have hnc19 := NB521_522.out; have hcz20_0 : w17.cell? ⟨gb522, 0, none⟩ = some (.slice none 0 0) := (blk_cell BK522.out 0).trans rfl; have hcz20_1 : w17.cell? ⟨gb522, 1, none⟩ = some (.slice none 0 0) := (blk_cell BK522.out 1).trans rfl; have hcz20_2 : w17.cell? ⟨gb522, 2, none⟩ = some (.slice none 0 0) := (blk_cell BK522.out 2).trans rfl; have hcz20_3 : w17.cell? ⟨gb522, 3, none⟩ = some (.slice none 0 0) := (blk_cell BK522.out 3).trans rfl; have hcz20_4 : w17.cell? ⟨gb522, 4, none⟩ = some (.slice none 0 0) := (blk_cell BK522.out 4).trans rfl; have hcz20_5 : w17.cell? ⟨gb522, 5, none⟩ = some (.int .i64 0) := (blk_cell BK522.out 5).trans rfl; have hcz20_6 : w17.cell? ⟨gb522, 6, none⟩ = some (.slice none 0 0) := (blk_cell BK522.out 6).trans rfl; have hcz20_7 : w17.cell? ⟨gb522, 7, none⟩ = some (.slice none 0 0) := (blk_cell BK522.out 7).trans rfl; have hcz20_8 : w17.cell? ⟨gb522, 8, none⟩ = some (.slice none 0 0) := (blk_cell BK522.out 8).trans rfl; have hcz20_9 : w17.cell? ⟨gb522, 9, none⟩ = some (.slice none 0 0) := (blk_cell BK522.out 9).trans rfl; have hfz20_0 := blk_frozen BK522.out 0; have hfz20_1 := blk_frozen BK522.out 1; have hfz20_2 := blk_frozen BK522.out 2; have hfz20_3 := blk_frozen BK522.out 3; have hfz20_4 := blk_frozen BK522.out 4; have hfz20_5 := blk_frozen BK522.out 5; have hfz20_6 := blk_frozen BK522.out 6; have hfz20_7 := blk_frozen BK522.out 7; have hfz20_8 := blk_frozen BK522.out 8; have hfz20_9 := blk_frozen BK522.out 9; have hcz21_0 : w17.cell? ⟨gb520, 0, none⟩ = some (.slice A0_0 l0_0.length c0_0) := (blk_cell BK520.out 0).trans rfl; have hcz21_1 : w17.cell? ⟨gb520, 1, none⟩ = some (.slice A0_1 l0_1.length c0_1) := (blk_cell BK520.out 1).trans rfl; have hcz21_2 : w17.cell? ⟨gb520, 2, none⟩ = some (.slice A0_2 l0_2.length c0_2) := (blk_cell BK520.out 2).trans rfl; have hcz21_3 : w17.cell? ⟨gb520, 3, none⟩ = some (.slice A0_3 l0_3.length c0_3) := (blk_cell BK520.out 3).trans rfl; have hcz21_4 : w17.cell? ⟨gb520, 4, none⟩ = some (.slice A0_4 l0_4.length c0_4) := (blk_cell BK520.out 4).trans rfl; have hcz21_5 : w17.cell? ⟨gb520, 5, none⟩ = some (.int .i64 a0_5) := (blk_cell BK520.out 5).trans rfl; have hcz21_6 : w17.cell? ⟨gb520, 6, none⟩ = some (.slice A0_6 l0_6.length c0_6) := (blk_cell BK520.out 6).trans rfl; have hcz21_7 : w17.cell? ⟨gb520, 7, none⟩ = some (.slice A0_7 l0_7.length c0_7) := (blk_cell BK520.out 7).trans rfl; have hcz21_8 : w17.cell? ⟨gb520, 8, none⟩ = some (.slice A0_8 l0_8.length c0_8) := (blk_cell BK520.out 8).trans rfl; have hcz21_9 : w17.cell? ⟨gb520, 9, none⟩ = some (.slice A0_9 l0_9.length c0_9) := (blk_cell BK520.out 9).trans rfl; have hfz21_0 := blk_frozen BK520.out 0; have hfz21_1 := blk_frozen BK520.out 1; have hfz21_2 := blk_frozen BK520.out 2; have hfz21_3 := blk_frozen BK520.out 3; have hfz21_4 := blk_frozen BK520.out 4; have hfz21_5 := blk_frozen BK520.out 5; have hfz21_6 := blk_frozen BK520.out 6; have hfz21_7 := blk_frozen BK520.out 7; have hfz21_8 := blk_frozen BK520.out 8; have hfz21_9 := blk_frozen BK520.out 9) | ((with_reducible refine gate_callee (f := 69) rfl ?_); refine goesL_ (some 10) rfl rfl Try.func69 (by kernel_rfl) rfl #[.slice A0_1 l0_1.length c0_1] rfl (by (try simp only [List.map_toArray, List.map_cons, List.map_nil]); first | done | rfl | (simp only [List.length_drop, List.length_take]; rfl)) ?_; (with_reducible refine (laws_toIntS.calls k _ _ l0_1 t526 _ ?side1 ?side2 A3.out).mono ?_); (case side1 => exact Kd.C_below HR0_1.out (by repeat (first | (with_reducible first | exact HB.out | apply below_alloc | apply pw_below_drewN | apply below_drew1 | refine below_set ?_ GE520.out | refine below_set ?_ GE521.out | refine below_set ?_ GE522.out) | exact HB.out))); (case side2 => exact HC0_1.out); rintro e w22 ⟨v527, rfl, ho0, hb⟩; refine ⟨_, rfl, ?_⟩; have n0_ := Aside0.mk (Kd.S_elder' (by (with_reducible repeat (first | apply Kd.S_alloc | apply Kd.S_drewN | apply Kd.S_drew)); exact (Kd.S_mono (Kd.S_far (p := ⟨gb522, 0, none⟩) (Kd.S_types HO525.out BK522.out (by decide)) (fun _ hk => hk.2) (.slice Ao18 t523.length co18)) (fun _ h_ => h_.1))) (Kd.R_base ho0) hb); have n1_ := Aside0.mk (Kd.R_lower ho0 (below_size (by repeat (first | (with_reducible first | exact HB.out | apply below_alloc | apply pw_below_drewN | apply below_drew1 | refine below_set ?_ GE520.out | refine below_set ?_ GE521.out | refine below_set ?_ GE522.out) | exact HB.out)))); have n2_ := Aside0.mk (blk_below (g := gb520) (o := .cells #[.slice A0_0 l0_0.length c0_0, .slice A0_1 l0_1.length c0_1, .slice A0_2 l0_2.length c0_2, .slice A0_3 l0_3.length c0_3, .slice A0_4 l0_4.length c0_4, .int .i64 a0_5, .slice A0_6 l0_6.length c0_6, .slice A0_7 l0_7.length c0_7, .slice A0_8 l0_8.length c0_8, .slice A0_9 l0_9.length c0_9] 48 (0, 0)) (by (with_reducible repeat (first | refine blk_drewN ?_ _ | refine blk_drew ?_ | refine blk_alloc ?_ _)); refine blk_far ?_ NB520_522.out _; (with_reducible repeat (first | refine blk_drewN ?_ _ | refine blk_drew ?_ | refine blk_alloc ?_ _)); exact BK520.out) hb); have n3_ := Aside0.mk (blk_below (g := gb521) (o := .cells #[.slice none 0 0, .slice none 0 0, .slice none 0 0, .slice none 0 0, .slice none 0 0, .int .i64 0, .slice none 0 0, .slice none 0 0, .slice none 0 0, .slice none 0 0] 56 (0, 0)) (by (with_reducible repeat (first | refine blk_drewN ?_ _ | refine blk_drew ?_ | refine blk_alloc ?_ _)); refine blk_far ?_ NB521_522.out _; (with_reducible repeat (first | refine blk_drewN ?_ _ | refine blk_drew ?_ | refine blk_alloc ?_ _)); exact BK521.out) hb); have n4_ := Aside0.mk (blk_below (g := gb522) (o := .cells #[.slice Ao18 t523.length co18, .slice none 0 0, .slice none 0 0, .slice none 0 0, .slice none 0 0, .int .i64 0, .slice none 0 0, .slice none 0 0, .slice none 0 0, .slice none 0 0] 56 (0, 0)) (by (with_reducible repeat (first | refine blk_drewN ?_ _ | refine blk_drew ?_ | refine blk_alloc ?_ _)); refine blk_put (cs := #[.slice none 0 0, .slice none 0 0, .slice none 0 0, .slice none 0 0, .slice none 0 0, .int .i64 0, .slice none 0 0, .slice none 0 0, .slice none 0 0, .slice none 0 0]) ?_ 0 _ rfl; (with_reducible repeat (first | refine blk_drewN ?_ _ | refine blk_drew ?_ | refine blk_alloc ?_ _)); exact BK522.out) hb); have n5_ := Aside0.mk (below_step (by repeat (first | (with_reducible first | exact HB.out | apply below_alloc | apply pw_below_drewN | apply below_drew1 | refine below_set ?_ GE520.out | refine below_set ?_ GE521.out | refine below_set ?_ GE522.out) | exact HB.out)) hb); clear HO525; clear BK520; clear BK521; clear BK522; clear HB; have HO525 := n0_; have HO528 := n1_; have BK520 := n2_; have BK521 := n3_; have BK522 := n4_; have HB := n5_; clear n0_ n1_ n2_ n3_ n4_ n5_; (try clear hb); (try clear hb2); (try clear hk); (try clear hi); (try clear ho0); obtain ⟨Ao23, co23, eo23⟩ := Kd.R_slice HO528.out; subst eo23; have hcz24_0 : w22.cell? ⟨gb522, 0, none⟩ = some (.slice Ao18 t523.length co18) := (blk_cell BK522.out 0).trans rfl; have hcz24_1 : w22.cell? ⟨gb522, 1, none⟩ = some (.slice none 0 0) := (blk_cell BK522.out 1).trans rfl; have hcz24_2 : w22.cell? ⟨gb522, 2, none⟩ = some (.slice none 0 0) := (blk_cell BK522.out 2).trans rfl; have hcz24_3 : w22.cell? ⟨gb522, 3, none⟩ = some (.slice none 0 0) := (blk_cell BK522.out 3).trans rfl; have hcz24_4 : w22.cell? ⟨gb522, 4, none⟩ = some (.slice none 0 0) := (blk_cell BK522.out 4).trans rfl; have hcz24_5 : w22.cell? ⟨gb522, 5, none⟩ = some (.int .i64 0) := (blk_cell BK522.out 5).trans rfl; have hcz24_6 : w22.cell? ⟨gb522, 6, none⟩ = some (.slice none 0 0) := (blk_cell BK522.out 6).trans rfl; have hcz24_7 : w22.cell? ⟨gb522, 7, none⟩ = some (.slice none 0 0) := (blk_cell BK522.out 7).trans rfl; have hcz24_8 : w22.cell? ⟨gb522, 8, none⟩ = some (.slice none 0 0) := (blk_cell BK522.out 8).trans rfl; have hcz24_9 : w22.cell? ⟨gb522, 9, none⟩ = some (.slice none 0 0) := (blk_cell BK522.out 9).trans rfl; have hfz24_0 := blk_frozen BK522.out 0; have hfz24_1 := blk_frozen BK522.out 1; have hfz24_2 := blk_frozen BK522.out 2; have hfz24_3 := blk_frozen BK522.out 3; have hfz24_4 := blk_frozen BK522.out 4; have hfz24_5 := blk_frozen BK522.out 5; have hfz24_6 := blk_frozen BK522.out 6; have hfz24_7 := blk_frozen BK522.out 7; have hfz24_8 := blk_frozen BK522.out 8; have hfz24_9 := blk_frozen BK522.out 9; have hcz25_0 : w22.cell? ⟨gb520, 0, none⟩ = some (.slice A0_0 l0_0.length c0_0) := (blk_cell BK520.out 0).trans rfl; have hcz25_1 : w22.cell? ⟨gb520, 1, none⟩ = some (.slice A0_1 l0_1.length c0_1) := (blk_cell BK520.out 1).trans rfl; have hcz25_2 : w22.cell? ⟨gb520, 2, none⟩ = some (.slice A0_2 l0_2.length c0_2) := (blk_cell BK520.out 2).trans rfl; have hcz25_3 : w22.cell? ⟨gb520, 3, none⟩ = some (.slice A0_3 l0_3.length c0_3) := (blk_cell BK520.out 3).trans rfl; have hcz25_4 : w22.cell? ⟨gb520, 4, none⟩ = some (.slice A0_4 l0_4.length c0_4) := (blk_cell BK520.out 4).trans rfl; have hcz25_5 : w22.cell? ⟨gb520, 5, none⟩ = some (.int .i64 a0_5) := (blk_cell BK520.out 5).trans rfl; have hcz25_6 : w22.cell? ⟨gb520, 6, none⟩ = some (.slice A0_6 l0_6.length c0_6) := (blk_cell BK520.out 6).trans rfl; have hcz25_7 : w22.cell? ⟨gb520, 7, none⟩ = some (.slice A0_7 l0_7.length c0_7) := (blk_cell BK520.out 7).trans rfl; have hcz25_8 : w22.cell? ⟨gb520, 8, none⟩ = some (.slice A0_8 l0_8.length c0_8) := (blk_cell BK520.out 8).trans rfl; have hcz25_9 : w22.cell? ⟨gb520, 9, none⟩ = some (.slice A0_9 l0_9.length c0_9) := (blk_cell BK520.out 9).trans rfl; have hfz25_0 := blk_frozen BK520.out 0; have hfz25_1 := blk_frozen BK520.out 1; have hfz25_2 := blk_frozen BK520.out 2; have hfz25_3 := blk_frozen BK520.out 3; have hfz25_4 := blk_frozen BK520.out 4; have hfz25_5 := blk_frozen BK520.out 5; have hfz25_6 := blk_frozen BK520.out 6; have hfz25_7 := blk_frozen BK520.out 7; have hfz25_8 := blk_frozen BK520.out 8; have hfz25_9 := blk_frozen BK520.out 9) | ((with_reducible refine gate_callee (f := 70) rfl ?_); refine goesL_ (some 14) rfl rfl Try.func70 (by kernel_rfl) rfl #[.slice A0_2 l0_2.length c0_2] rfl (by (try simp only [List.map_toArray, List.map_cons, List.map_nil]); first | done | rfl | (simp only [List.length_drop, List.length_take]; rfl)) ?_; (with_reducible refine (laws_toRunS.calls k _ _ l0_2 t529 _ ?side1 ?side2 A4.out).mono ?_); (case side1 => exact Kd.C_below HR0_2.out (by repeat (first | (with_reducible first | exact HB.out | apply below_alloc | apply pw_below_drewN | apply below_drew1 | refine below_set ?_ GE520.out | refine below_set ?_ GE521.out | refine below_set ?_ GE522.out) | exact HB.out))); (case side2 => exact HC0_2.out); rintro e w26 ⟨v530, rfl, ho0, hb⟩; refine ⟨_, rfl, ?_⟩; have n0_ := Aside0.mk (Kd.S_below (by (with_reducible repeat (first | apply Kd.S_alloc | apply Kd.S_drewN | apply Kd.S_drew)); exact (Kd.S_mono (Kd.S_far (p := ⟨gb522, 1, none⟩) (Kd.S_types HO525.out BK522.out (by decide)) (fun _ hk => hk.2) (.slice Ao23 t526.length co23)) (fun _ h_ => h_.1))) hb); have n1_ := Aside0.mk (Kd.R_below (by (with_reducible repeat (first | apply Kd.R_alloc | apply Kd.R_drewN | apply Kd.R_drew)); exact (Kd.R_mono (Kd.R_far (p := ⟨gb522, 1, none⟩) (Kd.R_types HO528.out BK522.out (by decide)) (fun _ hk => hk.2) (.slice Ao23 t526.length co23)) (fun _ h_ => h_.1))) hb); have n2_ := Aside0.mk (Kd.R_lower ho0 (below_size (by repeat (first | (with_reducible first | exact HB.out | apply below_alloc | apply pw_below_drewN | apply below_drew1 | refine below_set ?_ GE520.out | refine below_set ?_ GE521.out | refine below_set ?_ GE522.out) | exact HB.out)))); have n3_ := Aside0.mk (blk_below (g := gb520) (o := .cells #[.slice A0_0 l0_0.length c0_0, .slice A0_1 l0_1.length c0_1, .slice A0_2 l0_2.length c0_2, .slice A0_3 l0_3.length c0_3, .slice A0_4 l0_4.length c0_4, .int .i64 a0_5, .slice A0_6 l0_6.length c0_6, .slice A0_7 l0_7.length c0_7, .slice A0_8 l0_8.length c0_8, .slice A0_9 l0_9.length c0_9] 48 (0, 0)) (by (with_reducible repeat (first | refine blk_drewN ?_ _ | refine blk_drew ?_ | refine blk_alloc ?_ _)); refine blk_far ?_ NB520_522.out _; (with_reducible repeat (first | refine blk_drewN ?_ _ | refine blk_drew ?_ | refine blk_alloc ?_ _)); exact BK520.out) hb); have n4_ := Aside0.mk (blk_below (g := gb521) (o := .cells #[.slice none 0 0, .slice none 0 0, .slice none 0 0, .slice none 0 0, .slice none 0 0, .int .i64 0, .slice none 0 0, .slice none 0 0, .slice none 0 0, .slice none 0 0] 56 (0, 0)) (by (with_reducible repeat (first | refine blk_drewN ?_ _ | refine blk_drew ?_ | refine blk_alloc ?_ _)); refine blk_far ?_ NB521_522.out _; (with_reducible repeat (first | refine blk_drewN ?_ _ | refine blk_drew ?_ | refine blk_alloc ?_ _)); exact BK521.out) hb); have n5_ := Aside0.mk (blk_below (g := gb522) (o := .cells #[.slice Ao18 t523.length co18, .slice Ao23 t526.length co23, .slice none 0 0, .slice none 0 0, .slice none 0 0, .int .i64 0, .slice none 0 0, .slice none 0 0, .slice none 0 0, .slice none 0 0] 56 (0, 0)) (by (with_reducible repeat (first | refine blk_drewN ?_ _ | refine blk_drew ?_ | refine blk_alloc ?_ _)); refine blk_put (cs := #[.slice Ao18 t523.length co18, .slice none 0 0, .slice none 0 0, .slice none 0 0, .slice none 0 0, .int .i64 0, .slice none 0 0, .slice none 0 0, .slice none 0 0, .slice none 0 0]) ?_ 1 _ rfl; (with_reducible repeat (first | refine blk_drewN ?_ _ | refine blk_drew ?_ | refine blk_alloc ?_ _)); exact BK522.out) hb); have n6_ := Aside0.mk (below_step (by repeat (first | (with_reducible first | exact HB.out | apply below_alloc | apply pw_below_drewN | apply below_drew1 | refine below_set ?_ GE520.out | refine below_set ?_ GE521.out | refine below_set ?_ GE522.out) | exact HB.out)) hb); clear HO525; clear HO528; clear BK520; clear BK521; clear BK522; clear HB; have HO525 := n0_; have HO528 := n1_; have HO531 := n2_; have BK520 := n3_; have BK521 := n4_; have BK522 := n5_; have HB := n6_; clear n0_ n1_ n2_ n3_ n4_ n5_ n6_; (try clear hb); (try clear hb2); (try clear hk); (try clear hi); (try clear ho0); obtain ⟨Ao27, co27, eo27⟩ := Kd.R_slice HO531.out; subst eo27; have hcz28_0 : w26.cell? ⟨gb522, 0, none⟩ = some (.slice Ao18 t523.length co18) := (blk_cell BK522.out 0).trans rfl; have hcz28_1 : w26.cell? ⟨gb522, 1, none⟩ = some (.slice Ao23 t526.length co23) := (blk_cell BK522.out 1).trans rfl; have hcz28_2 : w26.cell? ⟨gb522, 2, none⟩ = some (.slice none 0 0) := (blk_cell BK522.out 2).trans rfl; have hcz28_3 : w26.cell? ⟨gb522, 3, none⟩ = some (.slice none 0 0) := (blk_cell BK522.out 3).trans rfl; have hcz28_4 : w26.cell? ⟨gb522, 4, none⟩ = some (.slice none 0 0) := (blk_cell BK522.out 4).trans rfl; have hcz28_5 : w26.cell? ⟨gb522, 5, none⟩ = some (.int .i64 0) := (blk_cell BK522.out 5).trans rfl; have hcz28_6 : w26.cell? ⟨gb522, 6, none⟩ = some (.slice none 0 0) := (blk_cell BK522.out 6).trans rfl; have hcz28_7 : w26.cell? ⟨gb522, 7, none⟩ = some (.slice none 0 0) := (blk_cell BK522.out 7).trans rfl; have hcz28_8 : w26.cell? ⟨gb522, 8, none⟩ = some (.slice none 0 0) := (blk_cell BK522.out 8).trans rfl; have hcz28_9 : w26.cell? ⟨gb522, 9, none⟩ = some (.slice none 0 0) := (blk_cell BK522.out 9).trans rfl; have hfz28_0 := blk_frozen BK522.out 0; have hfz28_1 := blk_frozen BK522.out 1; have hfz28_2 := blk_frozen BK522.out 2; have hfz28_3 := blk_frozen BK522.out 3; have hfz28_4 := blk_frozen BK522.out 4; have hfz28_5 := blk_frozen BK522.out 5; have hfz28_6 := blk_frozen BK522.out 6; have hfz28_7 := blk_frozen BK522.out 7; have hfz28_8 := blk_frozen BK522.out 8; have hfz28_9 := blk_frozen BK522.out 9; have hcz29_0 : w26.cell? ⟨gb520, 0, none⟩ = some (.slice A0_0 l0_0.length c0_0) := (blk_cell BK520.out 0).trans rfl; have hcz29_1 : w26.cell? ⟨gb520, 1, none⟩ = some (.slice A0_1 l0_1.length c0_1) := (blk_cell BK520.out 1).trans rfl; have hcz29_2 : w26.cell? ⟨gb520, 2, none⟩ = some (.slice A0_2 l0_2.length c0_2) := (blk_cell BK520.out 2).trans rfl; have hcz29_3 : w26.cell? ⟨gb520, 3, none⟩ = some (.slice A0_3 l0_3.length c0_3) := (blk_cell BK520.out 3).trans rfl; have hcz29_4 : w26.cell? ⟨gb520, 4, none⟩ = some (.slice A0_4 l0_4.length c0_4) := (blk_cell BK520.out 4).trans rfl; have hcz29_5 : w26.cell? ⟨gb520, 5, none⟩ = some (.int .i64 a0_5) := (blk_cell BK520.out 5).trans rfl; have hcz29_6 : w26.cell? ⟨gb520, 6, none⟩ = some (.slice A0_6 l0_6.length c0_6) := (blk_cell BK520.out 6).trans rfl; have hcz29_7 : w26.cell? ⟨gb520, 7, none⟩ = some (.slice A0_7 l0_7.length c0_7) := (blk_cell BK520.out 7).trans rfl; have hcz29_8 : w26.cell? ⟨gb520, 8, none⟩ = some (.slice A0_8 l0_8.length c0_8) := (blk_cell BK520.out 8).trans rfl; have hcz29_9 : w26.cell? ⟨gb520, 9, none⟩ = some (.slice A0_9 l0_9.length c0_9) := (blk_cell BK520.out 9).trans rfl; have hfz29_0 := blk_frozen BK520.out 0; have hfz29_1 := blk_frozen BK520.out 1; have hfz29_2 := blk_frozen BK520.out 2; have hfz29_3 := blk_frozen BK520.out 3; have hfz29_4 := blk_frozen BK520.out 4; have hfz29_5 := blk_frozen BK520.out 5; have hfz29_6 := blk_frozen BK520.out 6; have hfz29_7 := blk_frozen BK520.out 7; have hfz29_8 := blk_frozen BK520.out 8; have hfz29_9 := blk_frozen BK520.out 9) | ((with_reducible refine gate_callee (f := 12) rfl ?_); refine goesL_ (some 18) rfl rfl Try.func12 (by kernel_rfl) rfl #[.slice A0_3 l0_3.length c0_3] rfl (by (try simp only [List.map_toArray, List.map_cons, List.map_nil]); first | done | rfl | (simp only [List.length_drop, List.length_take]; rfl)) ?_; (with_reducible refine (laws_toSlabS.calls k _ _ l0_3 t532 _ ?side1 ?side2 A5.out).mono ?_); (case side1 => exact Kd.C_below HR0_3.out (by repeat (first | (with_reducible first | exact HB.out | apply below_alloc | apply pw_below_drewN | apply below_drew1 | refine below_set ?_ GE520.out | refine below_set ?_ GE521.out | refine below_set ?_ GE522.out) | exact HB.out))); (case side2 => exact HC0_3.out); rintro e w30 ⟨v533, rfl, ho0, hb⟩; refine ⟨_, rfl, ?_⟩; have n0_ := Aside0.mk (Kd.S_below (by (with_reducible repeat (first | apply Kd.S_alloc | apply Kd.S_drewN | apply Kd.S_drew)); exact (Kd.S_mono (Kd.S_far (p := ⟨gb522, 2, none⟩) (Kd.S_types HO525.out BK522.out (by decide)) (fun _ hk => hk.2) (.slice Ao27 t529.length co27)) (fun _ h_ => h_.1))) hb); have n1_ := Aside0.mk (Kd.R_below (by (with_reducible repeat (first | apply Kd.R_alloc | apply Kd.R_drewN | apply Kd.R_drew)); exact (Kd.R_mono (Kd.R_far (p := ⟨gb522, 2, none⟩) (Kd.R_types HO528.out BK522.out (by decide)) (fun _ hk => hk.2) (.slice Ao27 t529.length co27)) (fun _ h_ => h_.1))) hb); have n2_ := Aside0.mk (Kd.R_below (by (with_reducible repeat (first | apply Kd.R_alloc | apply Kd.R_drewN | apply Kd.R_drew)); exact (Kd.R_mono (Kd.R_far (p := ⟨gb522, 2, none⟩) (Kd.R_types HO531.out BK522.out (by decide)) (fun _ hk => hk.2) (.slice Ao27 t529.length co27)) (fun _ h_ => h_.1))) hb); have n3_ := Aside0.mk (Kd.S_lower ho0 (below_size (by repeat (first | (with_reducible first | exact HB.out | apply below_alloc | apply pw_below_drewN | apply below_drew1 | refine below_set ?_ GE520.out | refine below_set ?_ GE521.out | refine below_set ?_ GE522.out) | exact HB.out)))); have n4_ := Aside0.mk (blk_below (g := gb520) (o := .cells #[.slice A0_0 l0_0.length c0_0, .slice A0_1 l0_1.length c0_1, .slice A0_2 l0_2.length c0_2, .slice A0_3 l0_3.length c0_3, .slice A0_4 l0_4.length c0_4, .int .i64 a0_5, .slice A0_6 l0_6.length c0_6, .slice A0_7 l0_7.length c0_7, .slice A0_8 l0_8.length c0_8, .slice A0_9 l0_9.length c0_9] 48 (0, 0)) (by (with_reducible repeat (first | refine blk_drewN ?_ _ | refine blk_drew ?_ | refine blk_alloc ?_ _)); refine blk_far ?_ NB520_522.out _; (with_reducible repeat (first | refine blk_drewN ?_ _ | refine blk_drew ?_ | refine blk_alloc ?_ _)); exact BK520.out) hb); have n5_ := Aside0.mk (blk_below (g := gb521) (o := .cells #[.slice none 0 0, .slice none 0 0, .slice none 0 0, .slice none 0 0, .slice none 0 0, .int .i64 0, .slice none 0 0, .slice none 0 0, .slice none 0 0, .slice none 0 0] 56 (0, 0)) (by (with_reducible repeat (first | refine blk_drewN ?_ _ | refine blk_drew ?_ | refine blk_alloc ?_ _)); refine blk_far ?_ NB521_522.out _; (with_reducible repeat (first | refine blk_drewN ?_ _ | refine blk_drew ?_ | refine blk_alloc ?_ _)); exact BK521.out) hb); have n6_ := Aside0.mk (blk_below (g := gb522) (o := .cells #[.slice Ao18 t523.length co18, .slice Ao23 t526.length co23, .slice Ao27 t529.length co27, .slice none 0 0, .slice none 0 0, .int .i64 0, .slice none 0 0, .slice none 0 0, .slice none 0 0, .slice none 0 0] 56 (0, 0)) (by (with_reducible repeat (first | refine blk_drewN ?_ _ | refine blk_drew ?_ | refine blk_alloc ?_ _)); refine blk_put (cs := #[.slice Ao18 t523.length co18, .slice Ao23 t526.length co23, .slice none 0 0, .slice none 0 0, .slice none 0 0, .int .i64 0, .slice none 0 0, .slice none 0 0, .slice none 0 0, .slice none 0 0]) ?_ 2 _ rfl; (with_reducible repeat (first | refine blk_drewN ?_ _ | refine blk_drew ?_ | refine blk_alloc ?_ _)); exact BK522.out) hb); have n7_ := Aside0.mk (below_step (by repeat (first | (with_reducible first | exact HB.out | apply below_alloc | apply pw_below_drewN | apply below_drew1 | refine below_set ?_ GE520.out | refine below_set ?_ GE521.out | refine below_set ?_ GE522.out) | exact HB.out)) hb); clear HO525; clear HO528; clear HO531; clear BK520; clear BK521; clear BK522; clear HB; have HO525 := n0_; have HO528 := n1_; have HO531 := n2_; have HO534 := n3_; have BK520 := n4_; have BK521 := n5_; have BK522 := n6_; have HB := n7_; clear n0_ n1_ n2_ n3_ n4_ n5_ n6_ n7_; (try clear hb); (try clear hb2); (try clear hk); (try clear hi); (try clear ho0); obtain ⟨Ao31, co31, eo31⟩ := Kd.S_slice HO534.out; subst eo31; have hcz32_0 : w30.cell? ⟨gb522, 0, none⟩ = some (.slice Ao18 t523.length co18) := (blk_cell BK522.out 0).trans rfl; have hcz32_1 : w30.cell? ⟨gb522, 1, none⟩ = some (.slice Ao23 t526.length co23) := (blk_cell BK522.out 1).trans rfl; have hcz32_2 : w30.cell? ⟨gb522, 2, none⟩ = some (.slice Ao27 t529.length co27) := (blk_cell BK522.out 2).trans rfl; have hcz32_3 : w30.cell? ⟨gb522, 3, none⟩ = some (.slice none 0 0) := (blk_cell BK522.out 3).trans rfl; have hcz32_4 : w30.cell? ⟨gb522, 4, none⟩ = some (.slice none 0 0) := (blk_cell BK522.out 4).trans rfl; have hcz32_5 : w30.cell? ⟨gb522, 5, none⟩ = some (.int .i64 0) := (blk_cell BK522.out 5).trans rfl; have hcz32_6 : w30.cell? ⟨gb522, 6, none⟩ = some (.slice none 0 0) := (blk_cell BK522.out 6).trans rfl; have hcz32_7 : w30.cell? ⟨gb522, 7, none⟩ = some (.slice none 0 0) := (blk_cell BK522.out 7).trans rfl; have hcz32_8 : w30.cell? ⟨gb522, 8, none⟩ = some (.slice none 0 0) := (blk_cell BK522.out 8).trans rfl; have hcz32_9 : w30.cell? ⟨gb522, 9, none⟩ = some (.slice none 0 0) := (blk_cell BK522.out 9).trans rfl; have hfz32_0 := blk_frozen BK522.out 0; have hfz32_1 := blk_frozen BK522.out 1; have hfz32_2 := blk_frozen BK522.out 2; have hfz32_3 := blk_frozen BK522.out 3; have hfz32_4 := blk_frozen BK522.out 4; have hfz32_5 := blk_frozen BK522.out 5; have hfz32_6 := blk_frozen BK522.out 6; have hfz32_7 := blk_frozen BK522.out 7; have hfz32_8 := blk_frozen BK522.out 8; have hfz32_9 := blk_frozen BK522.out 9; have hcz33_0 : w30.cell? ⟨gb520, 0, none⟩ = some (.slice A0_0 l0_0.length c0_0) := (blk_cell BK520.out 0).trans rfl; have hcz33_1 : w30.cell? ⟨gb520, 1, none⟩ = some (.slice A0_1 l0_1.length c0_1) := (blk_cell BK520.out 1).trans rfl; have hcz33_2 : w30.cell? ⟨gb520, 2, none⟩ = some (.slice A0_2 l0_2.length c0_2) := (blk_cell BK520.out 2).trans rfl; have hcz33_3 : w30.cell? ⟨gb520, 3, none⟩ = some (.slice A0_3 l0_3.length c0_3) := (blk_cell BK520.out 3).trans rfl; have hcz33_4 : w30.cell? ⟨gb520, 4, none⟩ = some (.slice A0_4 l0_4.length c0_4) := (blk_cell BK520.out 4).trans rfl; have hcz33_5 : w30.cell? ⟨gb520, 5, none⟩ = some (.int .i64 a0_5) := (blk_cell BK520.out 5).trans rfl; have hcz33_6 : w30.cell? ⟨gb520, 6, none⟩ = some (.slice A0_6 l0_6.length c0_6) := (blk_cell BK520.out 6).trans rfl; have hcz33_7 : w30.cell? ⟨gb520, 7, none⟩ = some (.slice A0_7 l0_7.length c0_7) := (blk_cell BK520.out 7).trans rfl; have hcz33_8 : w30.cell? ⟨gb520, 8, none⟩ = some (.slice A0_8 l0_8.length c0_8) := (blk_cell BK520.out 8).trans rfl; have hcz33_9 : w30.cell? ⟨gb520, 9, none⟩ = some (.slice A0_9 l0_9.length c0_9) := (blk_cell BK520.out 9).trans rfl; have hfz33_0 := blk_frozen BK520.out 0; have hfz33_1 := blk_frozen BK520.out 1; have hfz33_2 := blk_frozen BK520.out 2; have hfz33_3 := blk_frozen BK520.out 3; have hfz33_4 := blk_frozen BK520.out 4; have hfz33_5 := blk_frozen BK520.out 5; have hfz33_6 := blk_frozen BK520.out 6; have hfz33_7 := blk_frozen BK520.out 7; have hfz33_8 := blk_frozen BK520.out 8; have hfz33_9 := blk_frozen BK520.out 9) | ((with_reducible refine gate_callee (f := 71) rfl ?_); refine goesL_ (some 22) rfl rfl Try.func71 (by kernel_rfl) rfl #[.slice A0_4 l0_4.length c0_4] rfl (by (try simp only [List.map_toArray, List.map_cons, List.map_nil]); first | done | rfl | (simp only [List.length_drop, List.length_take]; rfl)) ?_; (with_reducible refine (laws_toObjectS.calls k _ _ l0_4 t535 _ ?side1 ?side2 A6.out).mono ?_); (case side1 => exact Kd.C_below HR0_4.out (by repeat (first | (with_reducible first | exact HB.out | apply below_alloc | apply pw_below_drewN | apply below_drew1 | refine below_set ?_ GE520.out | refine below_set ?_ GE521.out | refine below_set ?_ GE522.out) | exact HB.out))); (case side2 => exact HC0_4.out); rintro e w34 ⟨v536, rfl, ho0, hb⟩; refine ⟨_, rfl, ?_⟩; have n0_ := Aside0.mk (Kd.S_below (by (with_reducible repeat (first | apply Kd.S_alloc | apply Kd.S_drewN | apply Kd.S_drew)); exact (Kd.S_mono (Kd.S_far (p := ⟨gb522, 3, none⟩) (Kd.S_types HO525.out BK522.out (by decide)) (fun _ hk => hk.2) (.slice Ao31 t532.length co31)) (fun _ h_ => h_.1))) hb); have n1_ := Aside0.mk (Kd.R_below (by (with_reducible repeat (first | apply Kd.R_alloc | apply Kd.R_drewN | apply Kd.R_drew)); exact (Kd.R_mono (Kd.R_far (p := ⟨gb522, 3, none⟩) (Kd.R_types HO528.out BK522.out (by decide)) (fun _ hk => hk.2) (.slice Ao31 t532.length co31)) (fun _ h_ => h_.1))) hb); have n2_ := Aside0.mk (Kd.R_below (by (with_reducible repeat (first | apply Kd.R_alloc | apply Kd.R_drewN | apply Kd.R_drew)); exact (Kd.R_mono (Kd.R_far (p := ⟨gb522, 3, none⟩) (Kd.R_types HO531.out BK522.out (by decide)) (fun _ hk => hk.2) (.slice Ao31 t532.length co31)) (fun _ h_ => h_.1))) hb); have n3_ := Aside0.mk (Kd.S_below (by (with_reducible repeat (first | apply Kd.S_alloc | apply Kd.S_drewN | apply Kd.S_drew)); exact (Kd.S_mono (Kd.S_far (p := ⟨gb522, 3, none⟩) (Kd.S_types HO534.out BK522.out (by decide)) (fun _ hk => hk.2) (.slice Ao31 t532.length co31)) (fun _ h_ => h_.1))) hb); have n4_ := Aside0.mk (Kd.R_lower ho0 (below_size (by repeat (first | (with_reducible first | exact HB.out | apply below_alloc | apply pw_below_drewN | apply below_drew1 | refine below_set ?_ GE520.out | refine below_set ?_ GE521.out | refine below_set ?_ GE522.out) | exact HB.out)))); have n5_ := Aside0.mk (blk_below (g := gb520) (o := .cells #[.slice A0_0 l0_0.length c0_0, .slice A0_1 l0_1.length c0_1, .slice A0_2 l0_2.length c0_2, .slice A0_3 l0_3.length c0_3, .slice A0_4 l0_4.length c0_4, .int .i64 a0_5, .slice A0_6 l0_6.length c0_6, .slice A0_7 l0_7.length c0_7, .slice A0_8 l0_8.length c0_8, .slice A0_9 l0_9.length c0_9] 48 (0, 0)) (by (with_reducible repeat (first | refine blk_drewN ?_ _ | refine blk_drew ?_ | refine blk_alloc ?_ _)); refine blk_far ?_ NB520_522.out _; (with_reducible repeat (first | refine blk_drewN ?_ _ | refine blk_drew ?_ | refine blk_alloc ?_ _)); exact BK520.out) hb); have n6_ := Aside0.mk (blk_below (g := gb521) (o := .cells #[.slice none 0 0, .slice none 0 0, .slice none 0 0, .slice none 0 0, .slice none 0 0, .int .i64 0, .slice none 0 0, .slice none 0 0, .slice none 0 0, .slice none 0 0] 56 (0, 0)) (by (with_reducible repeat (first | refine blk_drewN ?_ _ | refine blk_drew ?_ | refine blk_alloc ?_ _)); refine blk_far ?_ NB521_522.out _; (with_reducible repeat (first | refine blk_drewN ?_ _ | refine blk_drew ?_ | refine blk_alloc ?_ _)); exact BK521.out) hb); have n7_ := Aside0.mk (blk_below (g := gb522) (o := .cells #[.slice Ao18 t523.length co18, .slice Ao23 t526.length co23, .slice Ao27 t529.length co27, .slice Ao31 t532.length co31, .slice none 0 0, .int .i64 0, .slice none 0 0, .slice none 0 0, .slice none 0 0, .slice none 0 0] 56 (0, 0)) (by (with_reducible repeat (first | refine blk_drewN ?_ _ | refine blk_drew ?_ | refine blk_alloc ?_ _)); refine blk_put (cs := #[.slice Ao18 t523.length co18, .slice Ao23 t526.length co23, .slice Ao27 t529.length co27, .slice none 0 0, .slice none 0 0, .int .i64 0, .slice none 0 0, .slice none 0 0, .slice none 0 0, .slice none 0 0]) ?_ 3 _ rfl; (with_reducible repeat (first | refine blk_drewN ?_ _ | refine blk_drew ?_ | refine blk_alloc ?_ _)); exact BK522.out) hb); have n8_ := Aside0.mk (below_step (by repeat (first | (with_reducible first | exact HB.out | apply below_alloc | apply pw_below_drewN | apply below_drew1 | refine below_set ?_ GE520.out | refine below_set ?_ GE521.out | refine below_set ?_ GE522.out) | exact HB.out)) hb); clear HO525; clear HO528; clear HO531; clear HO534; clear BK520; clear BK521; clear BK522; clear HB; have HO525 := n0_; have HO528 := n1_; have HO531 := n2_; have HO534 := n3_; have HO537 := n4_; have BK520 := n5_; have BK521 := n6_; have BK522 := n7_; have HB := n8_; clear n0_ n1_ n2_ n3_ n4_ n5_ n6_ n7_ n8_; (try clear hb); (try clear hb2); (try clear hk); (try clear hi); (try clear ho0); obtain ⟨Ao35, co35, eo35⟩ := Kd.R_slice HO537.out; subst eo35; have hcz36_0 : w34.cell? ⟨gb522, 0, none⟩ = some (.slice Ao18 t523.length co18) := (blk_cell BK522.out 0).trans rfl; have hcz36_1 : w34.cell? ⟨gb522, 1, none⟩ = some (.slice Ao23 t526.length co23) := (blk_cell BK522.out 1).trans rfl; have hcz36_2 : w34.cell? ⟨gb522, 2, none⟩ = some (.slice Ao27 t529.length co27) := (blk_cell BK522.out 2).trans rfl; have hcz36_3 : w34.cell? ⟨gb522, 3, none⟩ = some (.slice Ao31 t532.length co31) := (blk_cell BK522.out 3).trans rfl; have hcz36_4 : w34.cell? ⟨gb522, 4, none⟩ = some (.slice none 0 0) := (blk_cell BK522.out 4).trans rfl; have hcz36_5 : w34.cell? ⟨gb522, 5, none⟩ = some (.int .i64 0) := (blk_cell BK522.out 5).trans rfl; have hcz36_6 : w34.cell? ⟨gb522, 6, none⟩ = some (.slice none 0 0) := (blk_cell BK522.out 6).trans rfl; have hcz36_7 : w34.cell? ⟨gb522, 7, none⟩ = some (.slice none 0 0) := (blk_cell BK522.out 7).trans rfl; have hcz36_8 : w34.cell? ⟨gb522, 8, none⟩ = some (.slice none 0 0) := (blk_cell BK522.out 8).trans rfl; have hcz36_9 : w34.cell? ⟨gb522, 9, none⟩ = some (.slice none 0 0) := (blk_cell BK522.out 9).trans rfl; have hfz36_0 := blk_frozen BK522.out 0; have hfz36_1 := blk_frozen BK522.out 1; have hfz36_2 := blk_frozen BK522.out 2; have hfz36_3 := blk_frozen BK522.out 3; have hfz36_4 := blk_frozen BK522.out 4; have hfz36_5 := blk_frozen BK522.out 5; have hfz36_6 := blk_frozen BK522.out 6; have hfz36_7 := blk_frozen BK522.out 7; have hfz36_8 := blk_frozen BK522.out 8; have hfz36_9 := blk_frozen BK522.out 9; have hcz37_0 : w34.cell? ⟨gb520, 0, none⟩ = some (.slice A0_0 l0_0.length c0_0) := (blk_cell BK520.out 0).trans rfl; have hcz37_1 : w34.cell? ⟨gb520, 1, none⟩ = some (.slice A0_1 l0_1.length c0_1) := (blk_cell BK520.out 1).trans rfl; have hcz37_2 : w34.cell? ⟨gb520, 2, none⟩ = some (.slice A0_2 l0_2.length c0_2) := (blk_cell BK520.out 2).trans rfl; have hcz37_3 : w34.cell? ⟨gb520, 3, none⟩ = some (.slice A0_3 l0_3.length c0_3) := (blk_cell BK520.out 3).trans rfl; have hcz37_4 : w34.cell? ⟨gb520, 4, none⟩ = some (.slice A0_4 l0_4.length c0_4) := (blk_cell BK520.out 4).trans rfl; have hcz37_5 : w34.cell? ⟨gb520, 5, none⟩ = some (.int .i64 a0_5) := (blk_cell BK520.out 5).trans rfl; have hcz37_6 : w34.cell? ⟨gb520, 6, none⟩ = some (.slice A0_6 l0_6.length c0_6) := (blk_cell BK520.out 6).trans rfl; have hcz37_7 : w34.cell? ⟨gb520, 7, none⟩ = some (.slice A0_7 l0_7.length c0_7) := (blk_cell BK520.out 7).trans rfl; have hcz37_8 : w34.cell? ⟨gb520, 8, none⟩ = some (.slice A0_8 l0_8.length c0_8) := (blk_cell BK520.out 8).trans rfl; have hcz37_9 : w34.cell? ⟨gb520, 9, none⟩ = some (.slice A0_9 l0_9.length c0_9) := (blk_cell BK520.out 9).trans rfl; have hfz37_0 := blk_frozen BK520.out 0; have hfz37_1 := blk_frozen BK520.out 1; have hfz37_2 := blk_frozen BK520.out 2; have hfz37_3 := blk_frozen BK520.out 3; have hfz37_4 := blk_frozen BK520.out 4; have hfz37_5 := blk_frozen BK520.out 5; have hfz37_6 := blk_frozen BK520.out 6; have hfz37_7 := blk_frozen BK520.out 7; have hfz37_8 := blk_frozen BK520.out 8; have hfz37_9 := blk_frozen BK520.out 9) | ((with_reducible refine gate_callee (f := 72) rfl ?_); refine goesL_ (some 29) rfl rfl Try.func72 (by kernel_rfl) rfl #[.slice A0_6 l0_6.length c0_6] rfl (by (try simp only [List.map_toArray, List.map_cons, List.map_nil]); first | done | rfl | (simp only [List.length_drop, List.length_take]; rfl)) ?_; (with_reducible refine (laws_toSpaceS.calls k _ _ l0_6 t538 _ ?side1 ?side2 A7.out).mono ?_); (case side1 => exact Kd.C_below HR0_6.out (by repeat (first | (with_reducible first | exact HB.out | apply below_alloc | apply pw_below_drewN | apply below_drew1 | refine below_set ?_ GE520.out | refine below_set ?_ GE521.out | refine below_set ?_ GE522.out) | exact HB.out))); (case side2 => exact HC0_6.out); rintro e w38 ⟨v539, rfl, ho0, hb⟩; refine ⟨_, rfl, ?_⟩; have n0_ := Aside0.mk (Kd.S_below (by (with_reducible repeat (first | apply Kd.S_alloc | apply Kd.S_drewN | apply Kd.S_drew)); exact (Kd.S_mono (Kd.S_far (p := ⟨gb522, 5, none⟩) (Kd.S_far (p := ⟨gb522, 4, none⟩) (Kd.S_types HO525.out BK522.out (by decide)) (fun _ hk => hk.2) (.slice Ao35 t535.length co35)) (fun _ hk => hk.2) (.int .i64 a0_5)) (fun _ h_ => h_.1))) hb); have n1_ := Aside0.mk (Kd.R_below (by (with_reducible repeat (first | apply Kd.R_alloc | apply Kd.R_drewN | apply Kd.R_drew)); exact (Kd.R_mono (Kd.R_far (p := ⟨gb522, 5, none⟩) (Kd.R_far (p := ⟨gb522, 4, none⟩) (Kd.R_types HO528.out BK522.out (by decide)) (fun _ hk => hk.2) (.slice Ao35 t535.length co35)) (fun _ hk => hk.2) (.int .i64 a0_5)) (fun _ h_ => h_.1))) hb); have n2_ := Aside0.mk (Kd.R_below (by (with_reducible repeat (first | apply Kd.R_alloc | apply Kd.R_drewN | apply Kd.R_drew)); exact (Kd.R_mono (Kd.R_far (p := ⟨gb522, 5, none⟩) (Kd.R_far (p := ⟨gb522, 4, none⟩) (Kd.R_types HO531.out BK522.out (by decide)) (fun _ hk => hk.2) (.slice Ao35 t535.length co35)) (fun _ hk => hk.2) (.int .i64 a0_5)) (fun _ h_ => h_.1))) hb); have n3_ := Aside0.mk (Kd.S_below (by (with_reducible repeat (first | apply Kd.S_alloc | apply Kd.S_drewN | apply Kd.S_drew)); exact (Kd.S_mono (Kd.S_far (p := ⟨gb522, 5, none⟩) (Kd.S_far (p := ⟨gb522, 4, none⟩) (Kd.S_types HO534.out BK522.out (by decide)) (fun _ hk => hk.2) (.slice Ao35 t535.length co35)) (fun _ hk => hk.2) (.int .i64 a0_5)) (fun _ h_ => h_.1))) hb); have n4_ := Aside0.mk (Kd.R_below (by (with_reducible repeat (first | apply Kd.R_alloc | apply Kd.R_drewN | apply Kd.R_drew)); exact (Kd.R_mono (Kd.R_far (p := ⟨gb522, 5, none⟩) (Kd.R_far (p := ⟨gb522, 4, none⟩) (Kd.R_types HO537.out BK522.out (by decide)) (fun _ hk => hk.2) (.slice Ao35 t535.length co35)) (fun _ hk => hk.2) (.int .i64 a0_5)) (fun _ h_ => h_.1))) hb); have n5_ := Aside0.mk (Kd.S_lower ho0 (below_size (by repeat (first | (with_reducible first | exact HB.out | apply below_alloc | apply pw_below_drewN | apply below_drew1 | refine below_set ?_ GE520.out | refine below_set ?_ GE521.out | refine below_set ?_ GE522.out) | exact HB.out)))); have n6_ := Aside0.mk (blk_below (g := gb520) (o := .cells #[.slice A0_0 l0_0.length c0_0, .slice A0_1 l0_1.length c0_1, .slice A0_2 l0_2.length c0_2, .slice A0_3 l0_3.length c0_3, .slice A0_4 l0_4.length c0_4, .int .i64 a0_5, .slice A0_6 l0_6.length c0_6, .slice A0_7 l0_7.length c0_7, .slice A0_8 l0_8.length c0_8, .slice A0_9 l0_9.length c0_9] 48 (0, 0)) (by (with_reducible repeat (first | refine blk_drewN ?_ _ | refine blk_drew ?_ | refine blk_alloc ?_ _)); refine blk_far ?_ NB520_522.out _; (with_reducible repeat (first | refine blk_drewN ?_ _ | refine blk_drew ?_ | refine blk_alloc ?_ _)); refine blk_far ?_ NB520_522.out _; (with_reducible repeat (first | refine blk_drewN ?_ _ | refine blk_drew ?_ | refine blk_alloc ?_ _)); exact BK520.out) hb); have n7_ := Aside0.mk (blk_below (g := gb521) (o := .cells #[.slice none 0 0, .slice none 0 0, .slice none 0 0, .slice none 0 0, .slice none 0 0, .int .i64 0, .slice none 0 0, .slice none 0 0, .slice none 0 0, .slice none 0 0] 56 (0, 0)) (by (with_reducible repeat (first | refine blk_drewN ?_ _ | refine blk_drew ?_ | refine blk_alloc ?_ _)); refine blk_far ?_ NB521_522.out _; (with_reducible repeat (first | refine blk_drewN ?_ _ | refine blk_drew ?_ | refine blk_alloc ?_ _)); refine blk_far ?_ NB521_522.out _; (with_reducible repeat (first | refine blk_drewN ?_ _ | refine blk_drew ?_ | refine blk_alloc ?_ _)); exact BK521.out) hb); have n8_ := Aside0.mk (blk_below (g := gb522) (o := .cells #[.slice Ao18 t523.length co18, .slice Ao23 t526.length co23, .slice Ao27 t529.length co27, .slice Ao31 t532.length co31, .slice Ao35 t535.length co35, .int .i64 a0_5, .slice none 0 0, .slice none 0 0, .slice none 0 0, .slice none 0 0] 56 (0, 0)) (by (with_reducible repeat (first | refine blk_drewN ?_ _ | refine blk_drew ?_ | refine blk_alloc ?_ _)); refine blk_put (cs := #[.slice Ao18 t523.length co18, .slice Ao23 t526.length co23, .slice Ao27 t529.length co27, .slice Ao31 t532.length co31, .slice Ao35 t535.length co35, .int .i64 0, .slice none 0 0, .slice none 0 0, .slice none 0 0, .slice none 0 0]) ?_ 5 _ rfl; (with_reducible repeat (first | refine blk_drewN ?_ _ | refine blk_drew ?_ | refine blk_alloc ?_ _)); refine blk_put (cs := #[.slice Ao18 t523.length co18, .slice Ao23 t526.length co23, .slice Ao27 t529.length co27, .slice Ao31 t532.length co31, .slice none 0 0, .int .i64 0, .slice none 0 0, .slice none 0 0, .slice none 0 0, .slice none 0 0]) ?_ 4 _ rfl; (with_reducible repeat (first | refine blk_drewN ?_ _ | refine blk_drew ?_ | refine blk_alloc ?_ _)); exact BK522.out) hb); have n9_ := Aside0.mk (below_step (by repeat (first | (with_reducible first | exact HB.out | apply below_alloc | apply pw_below_drewN | apply below_drew1 | refine below_set ?_ GE520.out | refine below_set ?_ GE521.out | refine below_set ?_ GE522.out) | exact HB.out)) hb); clear HO525; clear HO528; clear HO531; clear HO534; clear HO537; clear BK520; clear BK521; clear BK522; clear HB; have HO525 := n0_; have HO528 := n1_; have HO531 := n2_; have HO534 := n3_; have HO537 := n4_; have HO540 := n5_; have BK520 := n6_; have BK521 := n7_; have BK522 := n8_; have HB := n9_; clear n0_ n1_ n2_ n3_ n4_ n5_ n6_ n7_ n8_ n9_; (try clear hb); (try clear hb2); (try clear hk); (try clear hi); (try clear ho0); obtain ⟨Ao39, co39, eo39⟩ := Kd.S_slice HO540.out; subst eo39; have hcz40_0 : w38.cell? ⟨gb522, 0, none⟩ = some (.slice Ao18 t523.length co18) := (blk_cell BK522.out 0).trans rfl; have hcz40_1 : w38.cell? ⟨gb522, 1, none⟩ = some (.slice Ao23 t526.length co23) := (blk_cell BK522.out 1).trans rfl; have hcz40_2 : w38.cell? ⟨gb522, 2, none⟩ = some (.slice Ao27 t529.length co27) := (blk_cell BK522.out 2).trans rfl; have hcz40_3 : w38.cell? ⟨gb522, 3, none⟩ = some (.slice Ao31 t532.length co31) := (blk_cell BK522.out 3).trans rfl; have hcz40_4 : w38.cell? ⟨gb522, 4, none⟩ = some (.slice Ao35 t535.length co35) := (blk_cell BK522.out 4).trans rfl; have hcz40_5 : w38.cell? ⟨gb522, 5, none⟩ = some (.int .i64 a0_5) := (blk_cell BK522.out 5).trans rfl; have hcz40_6 : w38.cell? ⟨gb522, 6, none⟩ = some (.slice none 0 0) := (blk_cell BK522.out 6).trans rfl; have hcz40_7 : w38.cell? ⟨gb522, 7, none⟩ = some (.slice none 0 0) := (blk_cell BK522.out 7).trans rfl; have hcz40_8 : w38.cell? ⟨gb522, 8, none⟩ = some (.slice none 0 0) := (blk_cell BK522.out 8).trans rfl; have hcz40_9 : w38.cell? ⟨gb522, 9, none⟩ = some (.slice none 0 0) := (blk_cell BK522.out 9).trans rfl; have hfz40_0 := blk_frozen BK522.out 0; have hfz40_1 := blk_frozen BK522.out 1; have hfz40_2 := blk_frozen BK522.out 2; have hfz40_3 := blk_frozen BK522.out 3; have hfz40_4 := blk_frozen BK522.out 4; have hfz40_5 := blk_frozen BK522.out 5; have hfz40_6 := blk_frozen BK522.out 6; have hfz40_7 := blk_frozen BK522.out 7; have hfz40_8 := blk_frozen BK522.out 8; have hfz40_9 := blk_frozen BK522.out 9; have hcz41_0 : w38.cell? ⟨gb520, 0, none⟩ = some (.slice A0_0 l0_0.length c0_0) := (blk_cell BK520.out 0).trans rfl; have hcz41_1 : w38.cell? ⟨gb520, 1, none⟩ = some (.slice A0_1 l0_1.length c0_1) := (blk_cell BK520.out 1).trans rfl; have hcz41_2 : w38.cell? ⟨gb520, 2, none⟩ = some (.slice A0_2 l0_2.length c0_2) := (blk_cell BK520.out 2).trans rfl; have hcz41_3 : w38.cell? ⟨gb520, 3, none⟩ = some (.slice A0_3 l0_3.length c0_3) := (blk_cell BK520.out 3).trans rfl; have hcz41_4 : w38.cell? ⟨gb520, 4, none⟩ = some (.slice A0_4 l0_4.length c0_4) := (blk_cell BK520.out 4).trans rfl; have hcz41_5 : w38.cell? ⟨gb520, 5, none⟩ = some (.int .i64 a0_5) := (blk_cell BK520.out 5).trans rfl; have hcz41_6 : w38.cell? ⟨gb520, 6, none⟩ = some (.slice A0_6 l0_6.length c0_6) := (blk_cell BK520.out 6).trans rfl; have hcz41_7 : w38.cell? ⟨gb520, 7, none⟩ = some (.slice A0_7 l0_7.length c0_7) := (blk_cell BK520.out 7).trans rfl; have hcz41_8 : w38.cell? ⟨gb520, 8, none⟩ = some (.slice A0_8 l0_8.length c0_8) := (blk_cell BK520.out 8).trans rfl; have hcz41_9 : w38.cell? ⟨gb520, 9, none⟩ = some (.slice A0_9 l0_9.length c0_9) := (blk_cell BK520.out 9).trans rfl; have hfz41_0 := blk_frozen BK520.out 0; have hfz41_1 := blk_frozen BK520.out 1; have hfz41_2 := blk_frozen BK520.out 2; have hfz41_3 := blk_frozen BK520.out 3; have hfz41_4 := blk_frozen BK520.out 4; have hfz41_5 := blk_frozen BK520.out 5; have hfz41_6 := blk_frozen BK520.out 6; have hfz41_7 := blk_frozen BK520.out 7; have hfz41_8 := blk_frozen BK520.out 8; have hfz41_9 := blk_frozen BK520.out 9) | ((with_reducible refine gate_callee (f := 73) rfl ?_); refine goesL_ (some 33) rfl rfl Try.func73 (by kernel_rfl) rfl #[.slice A0_7 l0_7.length c0_7] rfl (by (try simp only [List.map_toArray, List.map_cons, List.map_nil]); first | done | rfl | (simp only [List.length_drop, List.length_take]; rfl)) ?_; (with_reducible refine (laws_toSlotS.calls k _ _ l0_7 t541 _ ?side1 ?side2 A8.out).mono ?_); (case side1 => exact Kd.C_below HR0_7.out (by repeat (first | (with_reducible first | exact HB.out | apply below_alloc | apply pw_below_drewN | apply below_drew1 | refine below_set ?_ GE520.out | refine below_set ?_ GE521.out | refine below_set ?_ GE522.out) | exact HB.out))); (case side2 => exact HC0_7.out); rintro e w42 ⟨v542, rfl, ho0, hb⟩; refine ⟨_, rfl, ?_⟩; have n0_ := Aside0.mk (Kd.S_below (by (with_reducible repeat (first | apply Kd.S_alloc | apply Kd.S_drewN | apply Kd.S_drew)); exact (Kd.S_mono (Kd.S_far (p := ⟨gb522, 6, none⟩) (Kd.S_types HO525.out BK522.out (by decide)) (fun _ hk => hk.2) (.slice Ao39 t538.length co39)) (fun _ h_ => h_.1))) hb); have n1_ := Aside0.mk (Kd.R_below (by (with_reducible repeat (first | apply Kd.R_alloc | apply Kd.R_drewN | apply Kd.R_drew)); exact (Kd.R_mono (Kd.R_far (p := ⟨gb522, 6, none⟩) (Kd.R_types HO528.out BK522.out (by decide)) (fun _ hk => hk.2) (.slice Ao39 t538.length co39)) (fun _ h_ => h_.1))) hb); have n2_ := Aside0.mk (Kd.R_below (by (with_reducible repeat (first | apply Kd.R_alloc | apply Kd.R_drewN | apply Kd.R_drew)); exact (Kd.R_mono (Kd.R_far (p := ⟨gb522, 6, none⟩) (Kd.R_types HO531.out BK522.out (by decide)) (fun _ hk => hk.2) (.slice Ao39 t538.length co39)) (fun _ h_ => h_.1))) hb); have n3_ := Aside0.mk (Kd.S_below (by (with_reducible repeat (first | apply Kd.S_alloc | apply Kd.S_drewN | apply Kd.S_drew)); exact (Kd.S_mono (Kd.S_far (p := ⟨gb522, 6, none⟩) (Kd.S_types HO534.out BK522.out (by decide)) (fun _ hk => hk.2) (.slice Ao39 t538.length co39)) (fun _ h_ => h_.1))) hb); have n4_ := Aside0.mk (Kd.R_below (by (with_reducible repeat (first | apply Kd.R_alloc | apply Kd.R_drewN | apply Kd.R_drew)); exact (Kd.R_mono (Kd.R_far (p := ⟨gb522, 6, none⟩) (Kd.R_types HO537.out BK522.out (by decide)) (fun _ hk => hk.2) (.slice Ao39 t538.length co39)) (fun _ h_ => h_.1))) hb); have n5_ := Aside0.mk (Kd.S_below (by (with_reducible repeat (first | apply Kd.S_alloc | apply Kd.S_drewN | apply Kd.S_drew)); exact (Kd.S_mono (Kd.S_far (p := ⟨gb522, 6, none⟩) (Kd.S_types HO540.out BK522.out (by decide)) (fun _ hk => hk.2) (.slice Ao39 t538.length co39)) (fun _ h_ => h_.1))) hb); have n6_ := Aside0.mk (Kd.S_lower (Kd.S_new' ho0 (Kd.R_lt (by (with_reducible repeat (first | apply Kd.R_alloc | apply Kd.R_drewN | apply Kd.R_drew)); exact (Kd.R_mono (Kd.R_far (p := ⟨gb522, 6, none⟩) (Kd.R_types HO528.out BK522.out (by decide)) (fun _ hk => hk.2) (.slice Ao39 t538.length co39)) (fun _ h_ => h_.1))))) (below_size (by repeat (first | (with_reducible first | exact HB.out | apply below_alloc | apply pw_below_drewN | apply below_drew1 | refine below_set ?_ GE520.out | refine below_set ?_ GE521.out | refine below_set ?_ GE522.out) | exact HB.out)))); have n7_ := Aside0.mk (blk_below (g := gb520) (o := .cells #[.slice A0_0 l0_0.length c0_0, .slice A0_1 l0_1.length c0_1, .slice A0_2 l0_2.length c0_2, .slice A0_3 l0_3.length c0_3, .slice A0_4 l0_4.length c0_4, .int .i64 a0_5, .slice A0_6 l0_6.length c0_6, .slice A0_7 l0_7.length c0_7, .slice A0_8 l0_8.length c0_8, .slice A0_9 l0_9.length c0_9] 48 (0, 0)) (by (with_reducible repeat (first | refine blk_drewN ?_ _ | refine blk_drew ?_ | refine blk_alloc ?_ _)); refine blk_far ?_ NB520_522.out _; (with_reducible repeat (first | refine blk_drewN ?_ _ | refine blk_drew ?_ | refine blk_alloc ?_ _)); exact BK520.out) hb); have n8_ := Aside0.mk (blk_below (g := gb521) (o := .cells #[.slice none 0 0, .slice none 0 0, .slice none 0 0, .slice none 0 0, .slice none 0 0, .int .i64 0, .slice none 0 0, .slice none 0 0, .slice none 0 0, .slice none 0 0] 56 (0, 0)) (by (with_reducible repeat (first | refine blk_drewN ?_ _ | refine blk_drew ?_ | refine blk_alloc ?_ _)); refine blk_far ?_ NB521_522.out _; (with_reducible repeat (first | refine blk_drewN ?_ _ | refine blk_drew ?_ | refine blk_alloc ?_ _)); exact BK521.out) hb); have n9_ := Aside0.mk (blk_below (g := gb522) (o := .cells #[.slice Ao18 t523.length co18, .slice Ao23 t526.length co23, .slice Ao27 t529.length co27, .slice Ao31 t532.length co31, .slice Ao35 t535.length co35, .int .i64 a0_5, .slice Ao39 t538.length co39, .slice none 0 0, .slice none 0 0, .slice none 0 0] 56 (0, 0)) (by (with_reducible repeat (first | refine blk_drewN ?_ _ | refine blk_drew ?_ | refine blk_alloc ?_ _)); refine blk_put (cs := #[.slice Ao18 t523.length co18, .slice Ao23 t526.length co23, .slice Ao27 t529.length co27, .slice Ao31 t532.length co31, .slice Ao35 t535.length co35, .int .i64 a0_5, .slice none 0 0, .slice none 0 0, .slice none 0 0, .slice none 0 0]) ?_ 6 _ rfl; (with_reducible repeat (first | refine blk_drewN ?_ _ | refine blk_drew ?_ | refine blk_alloc ?_ _)); exact BK522.out) hb); have n10_ := Aside0.mk (below_step (by repeat (first | (with_reducible first | exact HB.out | apply below_alloc | apply pw_below_drewN | apply below_drew1 | refine below_set ?_ GE520.out | refine below_set ?_ GE521.out | refine below_set ?_ GE522.out) | exact HB.out)) hb); clear HO525; clear HO528; clear HO531; clear HO534; clear HO537; clear HO540; clear BK520; clear BK521; clear BK522; clear HB; have HO525 := n0_; have HO528 := n1_; have HO531 := n2_; have HO534 := n3_; have HO537 := n4_; have HO540 := n5_; have HO543 := n6_; have BK520 := n7_; have BK521 := n8_; have BK522 := n9_; have HB := n10_; clear n0_ n1_ n2_ n3_ n4_ n5_ n6_ n7_ n8_ n9_ n10_; (try clear hb); (try clear hb2); (try clear hk); (try clear hi); (try clear ho0); obtain ⟨Ao43, co43, eo43⟩ := Kd.S_slice HO543.out; subst eo43; have hcz44_0 : w42.cell? ⟨gb522, 0, none⟩ = some (.slice Ao18 t523.length co18) := (blk_cell BK522.out 0).trans rfl; have hcz44_1 : w42.cell? ⟨gb522, 1, none⟩ = some (.slice Ao23 t526.length co23) := (blk_cell BK522.out 1).trans rfl; have hcz44_2 : w42.cell? ⟨gb522, 2, none⟩ = some (.slice Ao27 t529.length co27) := (blk_cell BK522.out 2).trans rfl; have hcz44_3 : w42.cell? ⟨gb522, 3, none⟩ = some (.slice Ao31 t532.length co31) := (blk_cell BK522.out 3).trans rfl; have hcz44_4 : w42.cell? ⟨gb522, 4, none⟩ = some (.slice Ao35 t535.length co35) := (blk_cell BK522.out 4).trans rfl; have hcz44_5 : w42.cell? ⟨gb522, 5, none⟩ = some (.int .i64 a0_5) := (blk_cell BK522.out 5).trans rfl; have hcz44_6 : w42.cell? ⟨gb522, 6, none⟩ = some (.slice Ao39 t538.length co39) := (blk_cell BK522.out 6).trans rfl; have hcz44_7 : w42.cell? ⟨gb522, 7, none⟩ = some (.slice none 0 0) := (blk_cell BK522.out 7).trans rfl; have hcz44_8 : w42.cell? ⟨gb522, 8, none⟩ = some (.slice none 0 0) := (blk_cell BK522.out 8).trans rfl; have hcz44_9 : w42.cell? ⟨gb522, 9, none⟩ = some (.slice none 0 0) := (blk_cell BK522.out 9).trans rfl; have hfz44_0 := blk_frozen BK522.out 0; have hfz44_1 := blk_frozen BK522.out 1; have hfz44_2 := blk_frozen BK522.out 2; have hfz44_3 := blk_frozen BK522.out 3; have hfz44_4 := blk_frozen BK522.out 4; have hfz44_5 := blk_frozen BK522.out 5; have hfz44_6 := blk_frozen BK522.out 6; have hfz44_7 := blk_frozen BK522.out 7; have hfz44_8 := blk_frozen BK522.out 8; have hfz44_9 := blk_frozen BK522.out 9; have hcz45_0 : w42.cell? ⟨gb520, 0, none⟩ = some (.slice A0_0 l0_0.length c0_0) := (blk_cell BK520.out 0).trans rfl; have hcz45_1 : w42.cell? ⟨gb520, 1, none⟩ = some (.slice A0_1 l0_1.length c0_1) := (blk_cell BK520.out 1).trans rfl; have hcz45_2 : w42.cell? ⟨gb520, 2, none⟩ = some (.slice A0_2 l0_2.length c0_2) := (blk_cell BK520.out 2).trans rfl; have hcz45_3 : w42.cell? ⟨gb520, 3, none⟩ = some (.slice A0_3 l0_3.length c0_3) := (blk_cell BK520.out 3).trans rfl; have hcz45_4 : w42.cell? ⟨gb520, 4, none⟩ = some (.slice A0_4 l0_4.length c0_4) := (blk_cell BK520.out 4).trans rfl; have hcz45_5 : w42.cell? ⟨gb520, 5, none⟩ = some (.int .i64 a0_5) := (blk_cell BK520.out 5).trans rfl; have hcz45_6 : w42.cell? ⟨gb520, 6, none⟩ = some (.slice A0_6 l0_6.length c0_6) := (blk_cell BK520.out 6).trans rfl; have hcz45_7 : w42.cell? ⟨gb520, 7, none⟩ = some (.slice A0_7 l0_7.length c0_7) := (blk_cell BK520.out 7).trans rfl; have hcz45_8 : w42.cell? ⟨gb520, 8, none⟩ = some (.slice A0_8 l0_8.length c0_8) := (blk_cell BK520.out 8).trans rfl; have hcz45_9 : w42.cell? ⟨gb520, 9, none⟩ = some (.slice A0_9 l0_9.length c0_9) := (blk_cell BK520.out 9).trans rfl; have hfz45_0 := blk_frozen BK520.out 0; have hfz45_1 := blk_frozen BK520.out 1; have hfz45_2 := blk_frozen BK520.out 2; have hfz45_3 := blk_frozen BK520.out 3; have hfz45_4 := blk_frozen BK520.out 4; have hfz45_5 := blk_frozen BK520.out 5; have hfz45_6 := blk_frozen BK520.out 6; have hfz45_7 := blk_frozen BK520.out 7; have hfz45_8 := blk_frozen BK520.out 8; have hfz45_9 := blk_frozen BK520.out 9) | ((with_reducible refine gate_callee (f := 69) rfl ?_); refine goesL_ (some 37) rfl rfl Try.func69 (by kernel_rfl) rfl #[.slice A0_8 l0_8.length c0_8] rfl (by (try simp only [List.map_toArray, List.map_cons, List.map_nil]); first | done | rfl | (simp only [List.length_drop, List.length_take]; rfl)) ?_; (with_reducible refine (laws_toIntS.calls k _ _ l0_8 t544 _ ?side1 ?side2 A9.out).mono ?_); (case side1 => exact Kd.C_below HR0_8.out (by repeat (first | (with_reducible first | exact HB.out | apply below_alloc | apply pw_below_drewN | apply below_drew1 | refine below_set ?_ GE520.out | refine below_set ?_ GE521.out | refine below_set ?_ GE522.out) | exact HB.out))); (case side2 => exact HC0_8.out); rintro e w46 ⟨v545, rfl, ho0, hb⟩; refine ⟨_, rfl, ?_⟩; have n0_ := Aside0.mk (Kd.S_elder' (by (with_reducible repeat (first | apply Kd.S_alloc | apply Kd.S_drewN | apply Kd.S_drew)); exact (Kd.S_mono (Kd.S_far (p := ⟨gb522, 7, none⟩) (Kd.S_types HO525.out BK522.out (by decide)) (fun _ hk => hk.2) (.slice Ao43 t541.length co43)) (fun _ h_ => h_.1))) (Kd.R_base ho0) hb); have n1_ := Aside0.mk (Kd.R_elder' (by (with_reducible repeat (first | apply Kd.R_alloc | apply Kd.R_drewN | apply Kd.R_drew)); exact (Kd.R_mono (Kd.R_far (p := ⟨gb522, 7, none⟩) (Kd.R_types HO528.out BK522.out (by decide)) (fun _ hk => hk.2) (.slice Ao43 t541.length co43)) (fun _ h_ => h_.1))) (Kd.R_base ho0) hb); have n2_ := Aside0.mk (Kd.R_below (by (with_reducible repeat (first | apply Kd.R_alloc | apply Kd.R_drewN | apply Kd.R_drew)); exact (Kd.R_mono (Kd.R_far (p := ⟨gb522, 7, none⟩) (Kd.R_types HO531.out BK522.out (by decide)) (fun _ hk => hk.2) (.slice Ao43 t541.length co43)) (fun _ h_ => h_.1))) hb); have n3_ := Aside0.mk (Kd.S_below (by (with_reducible repeat (first | apply Kd.S_alloc | apply Kd.S_drewN | apply Kd.S_drew)); exact (Kd.S_mono (Kd.S_far (p := ⟨gb522, 7, none⟩) (Kd.S_types HO534.out BK522.out (by decide)) (fun _ hk => hk.2) (.slice Ao43 t541.length co43)) (fun _ h_ => h_.1))) hb); have n4_ := Aside0.mk (Kd.R_below (by (with_reducible repeat (first | apply Kd.R_alloc | apply Kd.R_drewN | apply Kd.R_drew)); exact (Kd.R_mono (Kd.R_far (p := ⟨gb522, 7, none⟩) (Kd.R_types HO537.out BK522.out (by decide)) (fun _ hk => hk.2) (.slice Ao43 t541.length co43)) (fun _ h_ => h_.1))) hb); have n5_ := Aside0.mk (Kd.S_below (by (with_reducible repeat (first | apply Kd.S_alloc | apply Kd.S_drewN | apply Kd.S_drew)); exact (Kd.S_mono (Kd.S_far (p := ⟨gb522, 7, none⟩) (Kd.S_types HO540.out BK522.out (by decide)) (fun _ hk => hk.2) (.slice Ao43 t541.length co43)) (fun _ h_ => h_.1))) hb); have n6_ := Aside0.mk (Kd.S_elder' (by (with_reducible repeat (first | apply Kd.S_alloc | apply Kd.S_drewN | apply Kd.S_drew)); exact (Kd.S_mono (Kd.S_far (p := ⟨gb522, 7, none⟩) (Kd.S_types HO543.out BK522.out (by decide)) (fun _ hk => hk.2) (.slice Ao43 t541.length co43)) (fun _ h_ => h_.1))) (Kd.R_base ho0) hb); have n7_ := Aside0.mk (Kd.R_lower (Kd.R_new' ho0 (Kd.R_lt (by (with_reducible repeat (first | apply Kd.R_alloc | apply Kd.R_drewN | apply Kd.R_drew)); exact (Kd.R_mono (Kd.R_far (p := ⟨gb522, 7, none⟩) (Kd.R_types HO528.out BK522.out (by decide)) (fun _ hk => hk.2) (.slice Ao43 t541.length co43)) (fun _ h_ => h_.1))))) (below_size (by repeat (first | (with_reducible first | exact HB.out | apply below_alloc | apply pw_below_drewN | apply below_drew1 | refine below_set ?_ GE520.out | refine below_set ?_ GE521.out | refine below_set ?_ GE522.out) | exact HB.out)))); have n8_ := Aside0.mk (blk_below (g := gb520) (o := .cells #[.slice A0_0 l0_0.length c0_0, .slice A0_1 l0_1.length c0_1, .slice A0_2 l0_2.length c0_2, .slice A0_3 l0_3.length c0_3, .slice A0_4 l0_4.length c0_4, .int .i64 a0_5, .slice A0_6 l0_6.length c0_6, .slice A0_7 l0_7.length c0_7, .slice A0_8 l0_8.length c0_8, .slice A0_9 l0_9.length c0_9] 48 (0, 0)) (by (with_reducible repeat (first | refine blk_drewN ?_ _ | refine blk_drew ?_ | refine blk_alloc ?_ _)); refine blk_far ?_ NB520_522.out _; (with_reducible repeat (first | refine blk_drewN ?_ _ | refine blk_drew ?_ | refine blk_alloc ?_ _)); exact BK520.out) hb); have n9_ := Aside0.mk (blk_below (g := gb521) (o := .cells #[.slice none 0 0, .slice none 0 0, .slice none 0 0, .slice none 0 0, .slice none 0 0, .int .i64 0, .slice none 0 0, .slice none 0 0, .slice none 0 0, .slice none 0 0] 56 (0, 0)) (by (with_reducible repeat (first | refine blk_drewN ?_ _ | refine blk_drew ?_ | refine blk_alloc ?_ _)); refine blk_far ?_ NB521_522.out _; (with_reducible repeat (first | refine blk_drewN ?_ _ | refine blk_drew ?_ | refine blk_alloc ?_ _)); exact BK521.out) hb); have n10_ := Aside0.mk (blk_below (g := gb522) (o := .cells #[.slice Ao18 t523.length co18, .slice Ao23 t526.length co23, .slice Ao27 t529.length co27, .slice Ao31 t532.length co31, .slice Ao35 t535.length co35, .int .i64 a0_5, .slice Ao39 t538.length co39, .slice Ao43 t541.length co43, .slice none 0 0, .slice none 0 0] 56 (0, 0)) (by (with_reducible repeat (first | refine blk_drewN ?_ _ | refine blk_drew ?_ | refine blk_alloc ?_ _)); refine blk_put (cs := #[.slice Ao18 t523.length co18, .slice Ao23 t526.length co23, .slice Ao27 t529.length co27, .slice Ao31 t532.length co31, .slice Ao35 t535.length co35, .int .i64 a0_5, .slice Ao39 t538.length co39, .slice none 0 0, .slice none 0 0, .slice none 0 0]) ?_ 7 _ rfl; (with_reducible repeat (first | refine blk_drewN ?_ _ | refine blk_drew ?_ | refine blk_alloc ?_ _)); exact BK522.out) hb); have n11_ := Aside0.mk (below_step (by repeat (first | (with_reducible first | exact HB.out | apply below_alloc | apply pw_below_drewN | apply below_drew1 | refine below_set ?_ GE520.out | refine below_set ?_ GE521.out | refine below_set ?_ GE522.out) | exact HB.out)) hb); clear HO525; clear HO528; clear HO531; clear HO534; clear HO537; clear HO540; clear HO543; clear BK520; clear BK521; clear BK522; clear HB; have HO525 := n0_; have HO528 := n1_; have HO531 := n2_; have HO534 := n3_; have HO537 := n4_; have HO540 := n5_; have HO543 := n6_; have HO546 := n7_; have BK520 := n8_; have BK521 := n9_; have BK522 := n10_; have HB := n11_; clear n0_ n1_ n2_ n3_ n4_ n5_ n6_ n7_ n8_ n9_ n10_ n11_; (try clear hb); (try clear hb2); (try clear hk); (try clear hi); (try clear ho0); obtain ⟨Ao47, co47, eo47⟩ := Kd.R_slice HO546.out; subst eo47; have hcz48_0 : w46.cell? ⟨gb522, 0, none⟩ = some (.slice Ao18 t523.length co18) := (blk_cell BK522.out 0).trans rfl; have hcz48_1 : w46.cell? ⟨gb522, 1, none⟩ = some (.slice Ao23 t526.length co23) := (blk_cell BK522.out 1).trans rfl; have hcz48_2 : w46.cell? ⟨gb522, 2, none⟩ = some (.slice Ao27 t529.length co27) := (blk_cell BK522.out 2).trans rfl; have hcz48_3 : w46.cell? ⟨gb522, 3, none⟩ = some (.slice Ao31 t532.length co31) := (blk_cell BK522.out 3).trans rfl; have hcz48_4 : w46.cell? ⟨gb522, 4, none⟩ = some (.slice Ao35 t535.length co35) := (blk_cell BK522.out 4).trans rfl; have hcz48_5 : w46.cell? ⟨gb522, 5, none⟩ = some (.int .i64 a0_5) := (blk_cell BK522.out 5).trans rfl; have hcz48_6 : w46.cell? ⟨gb522, 6, none⟩ = some (.slice Ao39 t538.length co39) := (blk_cell BK522.out 6).trans rfl; have hcz48_7 : w46.cell? ⟨gb522, 7, none⟩ = some (.slice Ao43 t541.length co43) := (blk_cell BK522.out 7).trans rfl; have hcz48_8 : w46.cell? ⟨gb522, 8, none⟩ = some (.slice none 0 0) := (blk_cell BK522.out 8).trans rfl; have hcz48_9 : w46.cell? ⟨gb522, 9, none⟩ = some (.slice none 0 0) := (blk_cell BK522.out 9).trans rfl; have hfz48_0 := blk_frozen BK522.out 0; have hfz48_1 := blk_frozen BK522.out 1; have hfz48_2 := blk_frozen BK522.out 2; have hfz48_3 := blk_frozen BK522.out 3; have hfz48_4 := blk_frozen BK522.out 4; have hfz48_5 := blk_frozen BK522.out 5; have hfz48_6 := blk_frozen BK522.out 6; have hfz48_7 := blk_frozen BK522.out 7; have hfz48_8 := blk_frozen BK522.out 8; have hfz48_9 := blk_frozen BK522.out 9; have hcz49_0 : w46.cell? ⟨gb520, 0, none⟩ = some (.slice A0_0 l0_0.length c0_0) := (blk_cell BK520.out 0).trans rfl; have hcz49_1 : w46.cell? ⟨gb520, 1, none⟩ = some (.slice A0_1 l0_1.length c0_1) := (blk_cell BK520.out 1).trans rfl; have hcz49_2 : w46.cell? ⟨gb520, 2, none⟩ = some (.slice A0_2 l0_2.length c0_2) := (blk_cell BK520.out 2).trans rfl; have hcz49_3 : w46.cell? ⟨gb520, 3, none⟩ = some (.slice A0_3 l0_3.length c0_3) := (blk_cell BK520.out 3).trans rfl; have hcz49_4 : w46.cell? ⟨gb520, 4, none⟩ = some (.slice A0_4 l0_4.length c0_4) := (blk_cell BK520.out 4).trans rfl; have hcz49_5 : w46.cell? ⟨gb520, 5, none⟩ = some (.int .i64 a0_5) := (blk_cell BK520.out 5).trans rfl; have hcz49_6 : w46.cell? ⟨gb520, 6, none⟩ = some (.slice A0_6 l0_6.length c0_6) := (blk_cell BK520.out 6).trans rfl; have hcz49_7 : w46.cell? ⟨gb520, 7, none⟩ = some (.slice A0_7 l0_7.length c0_7) := (blk_cell BK520.out 7).trans rfl; have hcz49_8 : w46.cell? ⟨gb520, 8, none⟩ = some (.slice A0_8 l0_8.length c0_8) := (blk_cell BK520.out 8).trans rfl; have hcz49_9 : w46.cell? ⟨gb520, 9, none⟩ = some (.slice A0_9 l0_9.length c0_9) := (blk_cell BK520.out 9).trans rfl; have hfz49_0 := blk_frozen BK520.out 0; have hfz49_1 := blk_frozen BK520.out 1; have hfz49_2 := blk_frozen BK520.out 2; have hfz49_3 := blk_frozen BK520.out 3; have hfz49_4 := blk_frozen BK520.out 4; have hfz49_5 := blk_frozen BK520.out 5; have hfz49_6 := blk_frozen BK520.out 6; have hfz49_7 := blk_frozen BK520.out 7; have hfz49_8 := blk_frozen BK520.out 8; have hfz49_9 := blk_frozen BK520.out 9) | ((with_reducible refine gate_callee (f := 69) rfl ?_); refine goesL_ (some 41) rfl rfl Try.func69 (by kernel_rfl) rfl #[.slice A0_9 l0_9.length c0_9] rfl (by (try simp only [List.map_toArray, List.map_cons, List.map_nil]); first | done | rfl | (simp only [List.length_drop, List.length_take]; rfl)) ?_; (with_reducible refine (laws_toIntS.calls k _ _ l0_9 t547 _ ?side1 ?side2 A10.out).mono ?_); (case side1 => exact Kd.C_below HR0_9.out (by repeat (first | (with_reducible first | exact HB.out | apply below_alloc | apply pw_below_drewN | apply below_drew1 | refine below_set ?_ GE520.out | refine below_set ?_ GE521.out | refine below_set ?_ GE522.out) | exact HB.out))); (case side2 => exact HC0_9.out); rintro e w50 ⟨v548, rfl, ho0, hb⟩; refine ⟨_, rfl, ?_⟩; have n0_ := Aside0.mk (Kd.S_elder' (by (with_reducible repeat (first | apply Kd.S_alloc | apply Kd.S_drewN | apply Kd.S_drew)); exact (Kd.S_mono (Kd.S_far (p := ⟨gb522, 8, none⟩) (Kd.S_types HO525.out BK522.out (by decide)) (fun _ hk => hk.2) (.slice Ao47 t544.length co47)) (fun _ h_ => h_.1))) (Kd.R_base ho0) hb); have n1_ := Aside0.mk (Kd.R_elder' (by (with_reducible repeat (first | apply Kd.R_alloc | apply Kd.R_drewN | apply Kd.R_drew)); exact (Kd.R_mono (Kd.R_far (p := ⟨gb522, 8, none⟩) (Kd.R_types HO528.out BK522.out (by decide)) (fun _ hk => hk.2) (.slice Ao47 t544.length co47)) (fun _ h_ => h_.1))) (Kd.R_base ho0) hb); have n2_ := Aside0.mk (Kd.R_below (by (with_reducible repeat (first | apply Kd.R_alloc | apply Kd.R_drewN | apply Kd.R_drew)); exact (Kd.R_mono (Kd.R_far (p := ⟨gb522, 8, none⟩) (Kd.R_types HO531.out BK522.out (by decide)) (fun _ hk => hk.2) (.slice Ao47 t544.length co47)) (fun _ h_ => h_.1))) hb); have n3_ := Aside0.mk (Kd.S_below (by (with_reducible repeat (first | apply Kd.S_alloc | apply Kd.S_drewN | apply Kd.S_drew)); exact (Kd.S_mono (Kd.S_far (p := ⟨gb522, 8, none⟩) (Kd.S_types HO534.out BK522.out (by decide)) (fun _ hk => hk.2) (.slice Ao47 t544.length co47)) (fun _ h_ => h_.1))) hb); have n4_ := Aside0.mk (Kd.R_below (by (with_reducible repeat (first | apply Kd.R_alloc | apply Kd.R_drewN | apply Kd.R_drew)); exact (Kd.R_mono (Kd.R_far (p := ⟨gb522, 8, none⟩) (Kd.R_types HO537.out BK522.out (by decide)) (fun _ hk => hk.2) (.slice Ao47 t544.length co47)) (fun _ h_ => h_.1))) hb); have n5_ := Aside0.mk (Kd.S_below (by (with_reducible repeat (first | apply Kd.S_alloc | apply Kd.S_drewN | apply Kd.S_drew)); exact (Kd.S_mono (Kd.S_far (p := ⟨gb522, 8, none⟩) (Kd.S_types HO540.out BK522.out (by decide)) (fun _ hk => hk.2) (.slice Ao47 t544.length co47)) (fun _ h_ => h_.1))) hb); have n6_ := Aside0.mk (Kd.S_elder' (by (with_reducible repeat (first | apply Kd.S_alloc | apply Kd.S_drewN | apply Kd.S_drew)); exact (Kd.S_mono (Kd.S_far (p := ⟨gb522, 8, none⟩) (Kd.S_types HO543.out BK522.out (by decide)) (fun _ hk => hk.2) (.slice Ao47 t544.length co47)) (fun _ h_ => h_.1))) (Kd.R_base ho0) hb); have n7_ := Aside0.mk (Kd.R_elder' (by (with_reducible repeat (first | apply Kd.R_alloc | apply Kd.R_drewN | apply Kd.R_drew)); exact (Kd.R_mono (Kd.R_far (p := ⟨gb522, 8, none⟩) (Kd.R_types HO546.out BK522.out (by decide)) (fun _ hk => hk.2) (.slice Ao47 t544.length co47)) (fun _ h_ => h_.1))) (Kd.R_base ho0) hb); have n8_ := Aside0.mk (Kd.R_lower (Kd.R_new' (Kd.R_new' ho0 (Kd.R_lt (by (with_reducible repeat (first | apply Kd.R_alloc | apply Kd.R_drewN | apply Kd.R_drew)); exact (Kd.R_mono (Kd.R_far (p := ⟨gb522, 8, none⟩) (Kd.R_types HO528.out BK522.out (by decide)) (fun _ hk => hk.2) (.slice Ao47 t544.length co47)) (fun _ h_ => h_.1))))) (Kd.R_lt (by (with_reducible repeat (first | apply Kd.R_alloc | apply Kd.R_drewN | apply Kd.R_drew)); exact (Kd.R_mono (Kd.R_far (p := ⟨gb522, 8, none⟩) (Kd.R_types HO546.out BK522.out (by decide)) (fun _ hk => hk.2) (.slice Ao47 t544.length co47)) (fun _ h_ => h_.1))))) (below_size (by repeat (first | (with_reducible first | exact HB.out | apply below_alloc | apply pw_below_drewN | apply below_drew1 | refine below_set ?_ GE520.out | refine below_set ?_ GE521.out | refine below_set ?_ GE522.out) | exact HB.out)))); have n9_ := Aside0.mk (blk_below (g := gb520) (o := .cells #[.slice A0_0 l0_0.length c0_0, .slice A0_1 l0_1.length c0_1, .slice A0_2 l0_2.length c0_2, .slice A0_3 l0_3.length c0_3, .slice A0_4 l0_4.length c0_4, .int .i64 a0_5, .slice A0_6 l0_6.length c0_6, .slice A0_7 l0_7.length c0_7, .slice A0_8 l0_8.length c0_8, .slice A0_9 l0_9.length c0_9] 48 (0, 0)) (by (with_reducible repeat (first | refine blk_drewN ?_ _ | refine blk_drew ?_ | refine blk_alloc ?_ _)); refine blk_far ?_ NB520_522.out _; (with_reducible repeat (first | refine blk_drewN ?_ _ | refine blk_drew ?_ | refine blk_alloc ?_ _)); exact BK520.out) hb); have n10_ := Aside0.mk (blk_below (g := gb521) (o := .cells #[.slice none 0 0, .slice none 0 0, .slice none 0 0, .slice none 0 0, .slice none 0 0, .int .i64 0, .slice none 0 0, .slice none 0 0, .slice none 0 0, .slice none 0 0] 56 (0, 0)) (by (with_reducible repeat (first | refine blk_drewN ?_ _ | refine blk_drew ?_ | refine blk_alloc ?_ _)); refine blk_far ?_ NB521_522.out _; (with_reducible repeat (first | refine blk_drewN ?_ _ | refine blk_drew ?_ | refine blk_alloc ?_ _)); exact BK521.out) hb); have n11_ := Aside0.mk (blk_below (g := gb522) (o := .cells #[.slice Ao18 t523.length co18, .slice Ao23 t526.length co23, .slice Ao27 t529.length co27, .slice Ao31 t532.length co31, .slice Ao35 t535.length co35, .int .i64 a0_5, .slice Ao39 t538.length co39, .slice Ao43 t541.length co43, .slice Ao47 t544.length co47, .slice none 0 0] 56 (0, 0)) (by (with_reducible repeat (first | refine blk_drewN ?_ _ | refine blk_drew ?_ | refine blk_alloc ?_ _)); refine blk_put (cs := #[.slice Ao18 t523.length co18, .slice Ao23 t526.length co23, .slice Ao27 t529.length co27, .slice Ao31 t532.length co31, .slice Ao35 t535.length co35, .int .i64 a0_5, .slice Ao39 t538.length co39, .slice Ao43 t541.length co43, .slice none 0 0, .slice none 0 0]) ?_ 8 _ rfl; (with_reducible repeat (first | refine blk_drewN ?_ _ | refine blk_drew ?_ | refine blk_alloc ?_ _)); exact BK522.out) hb); have n12_ := Aside0.mk (below_step (by repeat (first | (with_reducible first | exact HB.out | apply below_alloc | apply pw_below_drewN | apply below_drew1 | refine below_set ?_ GE520.out | refine below_set ?_ GE521.out | refine below_set ?_ GE522.out) | exact HB.out)) hb); clear HO525; clear HO528; clear HO531; clear HO534; clear HO537; clear HO540; clear HO543; clear HO546; clear BK520; clear BK521; clear BK522; clear HB; have HO525 := n0_; have HO528 := n1_; have HO531 := n2_; have HO534 := n3_; have HO537 := n4_; have HO540 := n5_; have HO543 := n6_; have HO546 := n7_; have HO549 := n8_; have BK520 := n9_; have BK521 := n10_; have BK522 := n11_; have HB := n12_; clear n0_ n1_ n2_ n3_ n4_ n5_ n6_ n7_ n8_ n9_ n10_ n11_ n12_; (try clear hb); (try clear hb2); (try clear hk); (try clear hi); (try clear ho0); obtain ⟨Ao51, co51, eo51⟩ := Kd.R_slice HO549.out; subst eo51; have hcz52_0 : w50.cell? ⟨gb522, 0, none⟩ = some (.slice Ao18 t523.length co18) := (blk_cell BK522.out 0).trans rfl; have hcz52_1 : w50.cell? ⟨gb522, 1, none⟩ = some (.slice Ao23 t526.length co23) := (blk_cell BK522.out 1).trans rfl; have hcz52_2 : w50.cell? ⟨gb522, 2, none⟩ = some (.slice Ao27 t529.length co27) := (blk_cell BK522.out 2).trans rfl; have hcz52_3 : w50.cell? ⟨gb522, 3, none⟩ = some (.slice Ao31 t532.length co31) := (blk_cell BK522.out 3).trans rfl; have hcz52_4 : w50.cell? ⟨gb522, 4, none⟩ = some (.slice Ao35 t535.length co35) := (blk_cell BK522.out 4).trans rfl; have hcz52_5 : w50.cell? ⟨gb522, 5, none⟩ = some (.int .i64 a0_5) := (blk_cell BK522.out 5).trans rfl; have hcz52_6 : w50.cell? ⟨gb522, 6, none⟩ = some (.slice Ao39 t538.length co39) := (blk_cell BK522.out 6).trans rfl; have hcz52_7 : w50.cell? ⟨gb522, 7, none⟩ = some (.slice Ao43 t541.length co43) := (blk_cell BK522.out 7).trans rfl; have hcz52_8 : w50.cell? ⟨gb522, 8, none⟩ = some (.slice Ao47 t544.length co47) := (blk_cell BK522.out 8).trans rfl; have hcz52_9 : w50.cell? ⟨gb522, 9, none⟩ = some (.slice none 0 0) := (blk_cell BK522.out 9).trans rfl; have hfz52_0 := blk_frozen BK522.out 0; have hfz52_1 := blk_frozen BK522.out 1; have hfz52_2 := blk_frozen BK522.out 2; have hfz52_3 := blk_frozen BK522.out 3; have hfz52_4 := blk_frozen BK522.out 4; have hfz52_5 := blk_frozen BK522.out 5; have hfz52_6 := blk_frozen BK522.out 6; have hfz52_7 := blk_frozen BK522.out 7; have hfz52_8 := blk_frozen BK522.out 8; have hfz52_9 := blk_frozen BK522.out 9; have hcz53_0 : w50.cell? ⟨gb521, 0, none⟩ = some (.slice none 0 0) := (blk_cell BK521.out 0).trans rfl; have hcz53_1 : w50.cell? ⟨gb521, 1, none⟩ = some (.slice none 0 0) := (blk_cell BK521.out 1).trans rfl; have hcz53_2 : w50.cell? ⟨gb521, 2, none⟩ = some (.slice none 0 0) := (blk_cell BK521.out 2).trans rfl; have hcz53_3 : w50.cell? ⟨gb521, 3, none⟩ = some (.slice none 0 0) := (blk_cell BK521.out 3).trans rfl; have hcz53_4 : w50.cell? ⟨gb521, 4, none⟩ = some (.slice none 0 0) := (blk_cell BK521.out 4).trans rfl; have hcz53_5 : w50.cell? ⟨gb521, 5, none⟩ = some (.int .i64 0) := (blk_cell BK521.out 5).trans rfl; have hcz53_6 : w50.cell? ⟨gb521, 6, none⟩ = some (.slice none 0 0) := (blk_cell BK521.out 6).trans rfl; have hcz53_7 : w50.cell? ⟨gb521, 7, none⟩ = some (.slice none 0 0) := (blk_cell BK521.out 7).trans rfl; have hcz53_8 : w50.cell? ⟨gb521, 8, none⟩ = some (.slice none 0 0) := (blk_cell BK521.out 8).trans rfl; have hcz53_9 : w50.cell? ⟨gb521, 9, none⟩ = some (.slice none 0 0) := (blk_cell BK521.out 9).trans rfl; have hfz53_0 := blk_frozen BK521.out 0; have hfz53_1 := blk_frozen BK521.out 1; have hfz53_2 := blk_frozen BK521.out 2; have hfz53_3 := blk_frozen BK521.out 3; have hfz53_4 := blk_frozen BK521.out 4; have hfz53_5 := blk_frozen BK521.out 5; have hfz53_6 := blk_frozen BK521.out 6; have hfz53_7 := blk_frozen BK521.out 7; have hfz53_8 := blk_frozen BK521.out 8; have hfz53_9 := blk_frozen BK521.out 9))
  refine bodyPost_ret (results_cell_row rfl _ _ gb521 56 #[.slice Ao18 t523.length co18, .slice Ao23 t526.length co23, .slice Ao27 t529.length co27, .slice Ao31 t532.length co31, .slice Ao35 t535.length co35, .int .i64 a0_5, .slice Ao39 t538.length co39, .slice Ao43 t541.length co43, .slice Ao47 t544.length co47, .slice Ao51 t547.length co51] (0, 0) _ rfl (by (with_reducible repeat (first | refine blk_drewN ?_ _ | refine blk_drew ?_ | refine blk_alloc ?_ _)); refine blk_put (cs := #[.slice Ao18 t523.length co18, .slice Ao23 t526.length co23, .slice Ao27 t529.length co27, .slice Ao31 t532.length co31, .slice Ao35 t535.length co35, .int .i64 a0_5, .slice Ao39 t538.length co39, .slice Ao43 t541.length co43, .slice Ao47 t544.length co47, .slice none 0 0]) ?_ 9 _ rfl; (with_reducible repeat (first | refine blk_drewN ?_ _ | refine blk_drew ?_ | refine blk_alloc ?_ _)); refine blk_put (cs := #[.slice Ao18 t523.length co18, .slice Ao23 t526.length co23, .slice Ao27 t529.length co27, .slice Ao31 t532.length co31, .slice Ao35 t535.length co35, .int .i64 a0_5, .slice Ao39 t538.length co39, .slice Ao43 t541.length co43, .slice none 0 0, .slice none 0 0]) ?_ 8 _ rfl; (with_reducible repeat (first | refine blk_drewN ?_ _ | refine blk_drew ?_ | refine blk_alloc ?_ _)); refine blk_put (cs := #[.slice Ao18 t523.length co18, .slice Ao23 t526.length co23, .slice Ao27 t529.length co27, .slice Ao31 t532.length co31, .slice Ao35 t535.length co35, .int .i64 a0_5, .slice Ao39 t538.length co39, .slice none 0 0, .slice none 0 0, .slice none 0 0]) ?_ 7 _ rfl; (with_reducible repeat (first | refine blk_drewN ?_ _ | refine blk_drew ?_ | refine blk_alloc ?_ _)); refine blk_put (cs := #[.slice Ao18 t523.length co18, .slice Ao23 t526.length co23, .slice Ao27 t529.length co27, .slice Ao31 t532.length co31, .slice Ao35 t535.length co35, .int .i64 a0_5, .slice none 0 0, .slice none 0 0, .slice none 0 0, .slice none 0 0]) ?_ 6 _ rfl; (with_reducible repeat (first | refine blk_drewN ?_ _ | refine blk_drew ?_ | refine blk_alloc ?_ _)); refine blk_put (cs := #[.slice Ao18 t523.length co18, .slice Ao23 t526.length co23, .slice Ao27 t529.length co27, .slice Ao31 t532.length co31, .slice Ao35 t535.length co35, .int .i64 0, .slice none 0 0, .slice none 0 0, .slice none 0 0, .slice none 0 0]) ?_ 5 _ rfl; (with_reducible repeat (first | refine blk_drewN ?_ _ | refine blk_drew ?_ | refine blk_alloc ?_ _)); refine blk_put (cs := #[.slice Ao18 t523.length co18, .slice Ao23 t526.length co23, .slice Ao27 t529.length co27, .slice Ao31 t532.length co31, .slice none 0 0, .int .i64 0, .slice none 0 0, .slice none 0 0, .slice none 0 0, .slice none 0 0]) ?_ 4 _ rfl; (with_reducible repeat (first | refine blk_drewN ?_ _ | refine blk_drew ?_ | refine blk_alloc ?_ _)); refine blk_put (cs := #[.slice Ao18 t523.length co18, .slice Ao23 t526.length co23, .slice Ao27 t529.length co27, .slice none 0 0, .slice none 0 0, .int .i64 0, .slice none 0 0, .slice none 0 0, .slice none 0 0, .slice none 0 0]) ?_ 3 _ rfl; (with_reducible repeat (first | refine blk_drewN ?_ _ | refine blk_drew ?_ | refine blk_alloc ?_ _)); refine blk_put (cs := #[.slice Ao18 t523.length co18, .slice Ao23 t526.length co23, .slice none 0 0, .slice none 0 0, .slice none 0 0, .int .i64 0, .slice none 0 0, .slice none 0 0, .slice none 0 0, .slice none 0 0]) ?_ 2 _ rfl; (with_reducible repeat (first | refine blk_drewN ?_ _ | refine blk_drew ?_ | refine blk_alloc ?_ _)); refine blk_put (cs := #[.slice Ao18 t523.length co18, .slice none 0 0, .slice none 0 0, .slice none 0 0, .slice none 0 0, .int .i64 0, .slice none 0 0, .slice none 0 0, .slice none 0 0, .slice none 0 0]) ?_ 1 _ rfl; (with_reducible repeat (first | refine blk_drewN ?_ _ | refine blk_drew ?_ | refine blk_alloc ?_ _)); refine blk_put (cs := #[.slice none 0 0, .slice none 0 0, .slice none 0 0, .slice none 0 0, .slice none 0 0, .int .i64 0, .slice none 0 0, .slice none 0 0, .slice none 0 0, .slice none 0 0]) ?_ 0 _ rfl; (with_reducible repeat (first | refine blk_drewN ?_ _ | refine blk_drew ?_ | refine blk_alloc ?_ _)); refine blk_far ?_ NB521_522.out _; (with_reducible repeat (first | refine blk_drewN ?_ _ | refine blk_drew ?_ | refine blk_alloc ?_ _)); exact BK521.out) Try.underlying56 rfl (by kernel_rfl)) rfl ?_
  exact ⟨_, _, _, _, _, _, _, _, _, by first | rfl | (simp [errW_none, errW_some] <;> rfl) | (simp [*, errW_none, errW_some] <;> rfl), by (with_reducible repeat (first | apply Kd.S_alloc | apply Kd.S_drewN | apply Kd.S_drew)); exact Kd.S_mono (Kd.S_far (p := ⟨gb521, 9, none⟩) (Kd.S_far (p := ⟨gb521, 8, none⟩) (Kd.S_far (p := ⟨gb521, 7, none⟩) (Kd.S_far (p := ⟨gb521, 6, none⟩) (Kd.S_far (p := ⟨gb521, 5, none⟩) (Kd.S_far (p := ⟨gb521, 4, none⟩) (Kd.S_far (p := ⟨gb521, 3, none⟩) (Kd.S_far (p := ⟨gb521, 2, none⟩) (Kd.S_far (p := ⟨gb521, 1, none⟩) (Kd.S_far (p := ⟨gb521, 0, none⟩) (Kd.S_far (p := ⟨gb522, 9, none⟩) (Kd.S_types (Kd.S_types HO525.out BK522.out (by decide)) BK521.out (by decide)) (fun _ hk => hk.1.2) (.slice Ao51 t547.length co51)) (fun _ hk => hk.2) (.slice Ao18 t523.length co18)) (fun _ hk => hk.2) (.slice Ao23 t526.length co23)) (fun _ hk => hk.2) (.slice Ao27 t529.length co27)) (fun _ hk => hk.2) (.slice Ao31 t532.length co31)) (fun _ hk => hk.2) (.slice Ao35 t535.length co35)) (fun _ hk => hk.2) (.int .i64 a0_5)) (fun _ hk => hk.2) (.slice Ao39 t538.length co39)) (fun _ hk => hk.2) (.slice Ao43 t541.length co43)) (fun _ hk => hk.2) (.slice Ao47 t544.length co47)) (fun _ hk => hk.2) (.slice Ao51 t547.length co51)) (fun _ hk => ⟨hk.1.1.1.1.2, ⟨hk.1.1.1.2, hk.1.1.2⟩⟩), by (with_reducible repeat (first | apply Kd.R_alloc | apply Kd.R_drewN | apply Kd.R_drew)); exact Kd.R_mono (Kd.R_far (p := ⟨gb521, 9, none⟩) (Kd.R_far (p := ⟨gb521, 8, none⟩) (Kd.R_far (p := ⟨gb521, 7, none⟩) (Kd.R_far (p := ⟨gb521, 6, none⟩) (Kd.R_far (p := ⟨gb521, 5, none⟩) (Kd.R_far (p := ⟨gb521, 4, none⟩) (Kd.R_far (p := ⟨gb521, 3, none⟩) (Kd.R_far (p := ⟨gb521, 2, none⟩) (Kd.R_far (p := ⟨gb521, 1, none⟩) (Kd.R_far (p := ⟨gb521, 0, none⟩) (Kd.R_far (p := ⟨gb522, 9, none⟩) (Kd.R_types (Kd.R_types HO528.out BK522.out (by decide)) BK521.out (by decide)) (fun _ hk => hk.1.2) (.slice Ao51 t547.length co51)) (fun _ hk => hk.2) (.slice Ao18 t523.length co18)) (fun _ hk => hk.2) (.slice Ao23 t526.length co23)) (fun _ hk => hk.2) (.slice Ao27 t529.length co27)) (fun _ hk => hk.2) (.slice Ao31 t532.length co31)) (fun _ hk => hk.2) (.slice Ao35 t535.length co35)) (fun _ hk => hk.2) (.int .i64 a0_5)) (fun _ hk => hk.2) (.slice Ao39 t538.length co39)) (fun _ hk => hk.2) (.slice Ao43 t541.length co43)) (fun _ hk => hk.2) (.slice Ao47 t544.length co47)) (fun _ hk => hk.2) (.slice Ao51 t547.length co51)) (fun _ hk => ⟨hk.1.1.1.2, hk.1.1.2⟩), by (with_reducible repeat (first | apply Kd.R_alloc | apply Kd.R_drewN | apply Kd.R_drew)); exact Kd.R_mono (Kd.R_far (p := ⟨gb521, 9, none⟩) (Kd.R_far (p := ⟨gb521, 8, none⟩) (Kd.R_far (p := ⟨gb521, 7, none⟩) (Kd.R_far (p := ⟨gb521, 6, none⟩) (Kd.R_far (p := ⟨gb521, 5, none⟩) (Kd.R_far (p := ⟨gb521, 4, none⟩) (Kd.R_far (p := ⟨gb521, 3, none⟩) (Kd.R_far (p := ⟨gb521, 2, none⟩) (Kd.R_far (p := ⟨gb521, 1, none⟩) (Kd.R_far (p := ⟨gb521, 0, none⟩) (Kd.R_far (p := ⟨gb522, 9, none⟩) (Kd.R_types (Kd.R_types HO531.out BK522.out (by decide)) BK521.out (by decide)) (fun _ hk => hk.1.2) (.slice Ao51 t547.length co51)) (fun _ hk => hk.2) (.slice Ao18 t523.length co18)) (fun _ hk => hk.2) (.slice Ao23 t526.length co23)) (fun _ hk => hk.2) (.slice Ao27 t529.length co27)) (fun _ hk => hk.2) (.slice Ao31 t532.length co31)) (fun _ hk => hk.2) (.slice Ao35 t535.length co35)) (fun _ hk => hk.2) (.int .i64 a0_5)) (fun _ hk => hk.2) (.slice Ao39 t538.length co39)) (fun _ hk => hk.2) (.slice Ao43 t541.length co43)) (fun _ hk => hk.2) (.slice Ao47 t544.length co47)) (fun _ hk => hk.2) (.slice Ao51 t547.length co51)) (fun _ hk => trivial), by (with_reducible repeat (first | apply Kd.S_alloc | apply Kd.S_drewN | apply Kd.S_drew)); exact Kd.S_mono (Kd.S_far (p := ⟨gb521, 9, none⟩) (Kd.S_far (p := ⟨gb521, 8, none⟩) (Kd.S_far (p := ⟨gb521, 7, none⟩) (Kd.S_far (p := ⟨gb521, 6, none⟩) (Kd.S_far (p := ⟨gb521, 5, none⟩) (Kd.S_far (p := ⟨gb521, 4, none⟩) (Kd.S_far (p := ⟨gb521, 3, none⟩) (Kd.S_far (p := ⟨gb521, 2, none⟩) (Kd.S_far (p := ⟨gb521, 1, none⟩) (Kd.S_far (p := ⟨gb521, 0, none⟩) (Kd.S_far (p := ⟨gb522, 9, none⟩) (Kd.S_types (Kd.S_types HO534.out BK522.out (by decide)) BK521.out (by decide)) (fun _ hk => hk.1.2) (.slice Ao51 t547.length co51)) (fun _ hk => hk.2) (.slice Ao18 t523.length co18)) (fun _ hk => hk.2) (.slice Ao23 t526.length co23)) (fun _ hk => hk.2) (.slice Ao27 t529.length co27)) (fun _ hk => hk.2) (.slice Ao31 t532.length co31)) (fun _ hk => hk.2) (.slice Ao35 t535.length co35)) (fun _ hk => hk.2) (.int .i64 a0_5)) (fun _ hk => hk.2) (.slice Ao39 t538.length co39)) (fun _ hk => hk.2) (.slice Ao43 t541.length co43)) (fun _ hk => hk.2) (.slice Ao47 t544.length co47)) (fun _ hk => hk.2) (.slice Ao51 t547.length co51)) (fun _ hk => trivial), by (with_reducible repeat (first | apply Kd.R_alloc | apply Kd.R_drewN | apply Kd.R_drew)); exact Kd.R_mono (Kd.R_far (p := ⟨gb521, 9, none⟩) (Kd.R_far (p := ⟨gb521, 8, none⟩) (Kd.R_far (p := ⟨gb521, 7, none⟩) (Kd.R_far (p := ⟨gb521, 6, none⟩) (Kd.R_far (p := ⟨gb521, 5, none⟩) (Kd.R_far (p := ⟨gb521, 4, none⟩) (Kd.R_far (p := ⟨gb521, 3, none⟩) (Kd.R_far (p := ⟨gb521, 2, none⟩) (Kd.R_far (p := ⟨gb521, 1, none⟩) (Kd.R_far (p := ⟨gb521, 0, none⟩) (Kd.R_far (p := ⟨gb522, 9, none⟩) (Kd.R_types (Kd.R_types HO537.out BK522.out (by decide)) BK521.out (by decide)) (fun _ hk => hk.1.2) (.slice Ao51 t547.length co51)) (fun _ hk => hk.2) (.slice Ao18 t523.length co18)) (fun _ hk => hk.2) (.slice Ao23 t526.length co23)) (fun _ hk => hk.2) (.slice Ao27 t529.length co27)) (fun _ hk => hk.2) (.slice Ao31 t532.length co31)) (fun _ hk => hk.2) (.slice Ao35 t535.length co35)) (fun _ hk => hk.2) (.int .i64 a0_5)) (fun _ hk => hk.2) (.slice Ao39 t538.length co39)) (fun _ hk => hk.2) (.slice Ao43 t541.length co43)) (fun _ hk => hk.2) (.slice Ao47 t544.length co47)) (fun _ hk => hk.2) (.slice Ao51 t547.length co51)) (fun _ hk => trivial), by (with_reducible repeat (first | apply Kd.S_alloc | apply Kd.S_drewN | apply Kd.S_drew)); exact Kd.S_mono (Kd.S_far (p := ⟨gb521, 9, none⟩) (Kd.S_far (p := ⟨gb521, 8, none⟩) (Kd.S_far (p := ⟨gb521, 7, none⟩) (Kd.S_far (p := ⟨gb521, 6, none⟩) (Kd.S_far (p := ⟨gb521, 5, none⟩) (Kd.S_far (p := ⟨gb521, 4, none⟩) (Kd.S_far (p := ⟨gb521, 3, none⟩) (Kd.S_far (p := ⟨gb521, 2, none⟩) (Kd.S_far (p := ⟨gb521, 1, none⟩) (Kd.S_far (p := ⟨gb521, 0, none⟩) (Kd.S_far (p := ⟨gb522, 9, none⟩) (Kd.S_types (Kd.S_types HO540.out BK522.out (by decide)) BK521.out (by decide)) (fun _ hk => hk.1.2) (.slice Ao51 t547.length co51)) (fun _ hk => hk.2) (.slice Ao18 t523.length co18)) (fun _ hk => hk.2) (.slice Ao23 t526.length co23)) (fun _ hk => hk.2) (.slice Ao27 t529.length co27)) (fun _ hk => hk.2) (.slice Ao31 t532.length co31)) (fun _ hk => hk.2) (.slice Ao35 t535.length co35)) (fun _ hk => hk.2) (.int .i64 a0_5)) (fun _ hk => hk.2) (.slice Ao39 t538.length co39)) (fun _ hk => hk.2) (.slice Ao43 t541.length co43)) (fun _ hk => hk.2) (.slice Ao47 t544.length co47)) (fun _ hk => hk.2) (.slice Ao51 t547.length co51)) (fun _ hk => trivial), by (with_reducible repeat (first | apply Kd.S_alloc | apply Kd.S_drewN | apply Kd.S_drew)); exact Kd.S_mono (Kd.S_far (p := ⟨gb521, 9, none⟩) (Kd.S_far (p := ⟨gb521, 8, none⟩) (Kd.S_far (p := ⟨gb521, 7, none⟩) (Kd.S_far (p := ⟨gb521, 6, none⟩) (Kd.S_far (p := ⟨gb521, 5, none⟩) (Kd.S_far (p := ⟨gb521, 4, none⟩) (Kd.S_far (p := ⟨gb521, 3, none⟩) (Kd.S_far (p := ⟨gb521, 2, none⟩) (Kd.S_far (p := ⟨gb521, 1, none⟩) (Kd.S_far (p := ⟨gb521, 0, none⟩) (Kd.S_far (p := ⟨gb522, 9, none⟩) (Kd.S_types (Kd.S_types HO543.out BK522.out (by decide)) BK521.out (by decide)) (fun _ hk => hk.1.2) (.slice Ao51 t547.length co51)) (fun _ hk => hk.2) (.slice Ao18 t523.length co18)) (fun _ hk => hk.2) (.slice Ao23 t526.length co23)) (fun _ hk => hk.2) (.slice Ao27 t529.length co27)) (fun _ hk => hk.2) (.slice Ao31 t532.length co31)) (fun _ hk => hk.2) (.slice Ao35 t535.length co35)) (fun _ hk => hk.2) (.int .i64 a0_5)) (fun _ hk => hk.2) (.slice Ao39 t538.length co39)) (fun _ hk => hk.2) (.slice Ao43 t541.length co43)) (fun _ hk => hk.2) (.slice Ao47 t544.length co47)) (fun _ hk => hk.2) (.slice Ao51 t547.length co51)) (fun _ hk => ⟨hk.1.1.1.1.2, ⟨hk.1.1.1.2, hk.1.1.2⟩⟩), by (with_reducible repeat (first | apply Kd.R_alloc | apply Kd.R_drewN | apply Kd.R_drew)); exact Kd.R_mono (Kd.R_far (p := ⟨gb521, 9, none⟩) (Kd.R_far (p := ⟨gb521, 8, none⟩) (Kd.R_far (p := ⟨gb521, 7, none⟩) (Kd.R_far (p := ⟨gb521, 6, none⟩) (Kd.R_far (p := ⟨gb521, 5, none⟩) (Kd.R_far (p := ⟨gb521, 4, none⟩) (Kd.R_far (p := ⟨gb521, 3, none⟩) (Kd.R_far (p := ⟨gb521, 2, none⟩) (Kd.R_far (p := ⟨gb521, 1, none⟩) (Kd.R_far (p := ⟨gb521, 0, none⟩) (Kd.R_far (p := ⟨gb522, 9, none⟩) (Kd.R_types (Kd.R_types HO546.out BK522.out (by decide)) BK521.out (by decide)) (fun _ hk => hk.1.2) (.slice Ao51 t547.length co51)) (fun _ hk => hk.2) (.slice Ao18 t523.length co18)) (fun _ hk => hk.2) (.slice Ao23 t526.length co23)) (fun _ hk => hk.2) (.slice Ao27 t529.length co27)) (fun _ hk => hk.2) (.slice Ao31 t532.length co31)) (fun _ hk => hk.2) (.slice Ao35 t535.length co35)) (fun _ hk => hk.2) (.int .i64 a0_5)) (fun _ hk => hk.2) (.slice Ao39 t538.length co39)) (fun _ hk => hk.2) (.slice Ao43 t541.length co43)) (fun _ hk => hk.2) (.slice Ao47 t544.length co47)) (fun _ hk => hk.2) (.slice Ao51 t547.length co51)) (fun _ hk => ⟨hk.1.1.1.2, hk.1.1.2⟩), by (with_reducible repeat (first | apply Kd.R_alloc | apply Kd.R_drewN | apply Kd.R_drew)); exact Kd.R_mono (Kd.R_far (p := ⟨gb521, 9, none⟩) (Kd.R_far (p := ⟨gb521, 8, none⟩) (Kd.R_far (p := ⟨gb521, 7, none⟩) (Kd.R_far (p := ⟨gb521, 6, none⟩) (Kd.R_far (p := ⟨gb521, 5, none⟩) (Kd.R_far (p := ⟨gb521, 4, none⟩) (Kd.R_far (p := ⟨gb521, 3, none⟩) (Kd.R_far (p := ⟨gb521, 2, none⟩) (Kd.R_far (p := ⟨gb521, 1, none⟩) (Kd.R_far (p := ⟨gb521, 0, none⟩) (Kd.R_far (p := ⟨gb522, 9, none⟩) (Kd.R_types (Kd.R_types HO549.out BK522.out (by decide)) BK521.out (by decide)) (fun _ hk => hk.1.2) (.slice Ao51 t547.length co51)) (fun _ hk => hk.2) (.slice Ao18 t523.length co18)) (fun _ hk => hk.2) (.slice Ao23 t526.length co23)) (fun _ hk => hk.2) (.slice Ao27 t529.length co27)) (fun _ hk => hk.2) (.slice Ao31 t532.length co31)) (fun _ hk => hk.2) (.slice Ao35 t535.length co35)) (fun _ hk => hk.2) (.int .i64 a0_5)) (fun _ hk => hk.2) (.slice Ao39 t538.length co39)) (fun _ hk => hk.2) (.slice Ao43 t541.length co43)) (fun _ hk => hk.2) (.slice Ao47 t544.length co47)) (fun _ hk => hk.2) (.slice Ao51 t547.length co51)) (fun _ hk => ⟨hk.1.1.1.2, hk.1.1.2⟩), by repeat (first | (with_reducible first | exact HB.out | apply below_alloc | apply pw_below_drewN | apply below_drew1 | refine below_set ?_ GE520.out | refine below_set ?_ GE521.out | refine below_set ?_ GE522.out) | exact HB.out)⟩

end Go.Proofs.Ytbkahdpmpmalhaa.P
end
section
namespace Go.Proofs.Ytbkahdpmpmalhaa.P
open Go.RowKit Go.Proofs.YtbkahdpmpmalhaaW.PrintWords Go.Proofs.YtbkahdpmpmalhaaW.PrintLast Go.Proofs.YtbkahdpmpmalhaaW.PrintMore
attribute [local go_sem] max2_int min2_int max_two min_two max_three min_three max_four min_four   -- for this text's walks alone
set_option linter.unusedVariables false
set_option linter.unusedSimpArgs false

/-- A state of type 56 at block g of W; what its slices lead to came in by w0. -/
def IsS56 (w0 W : World) (g : Nat) (f0 : List (List Int)) (f1 : List Int) (f2 : List (S149)) (f3 : List (S76)) (f4 : List (S153)) (f5 : Int) (f6 : List (S116)) (f7 : List (S157)) (f8 : List Int) (f9 : List Int) : Prop := ∃ A0 c0, ∃ A1 c1, ∃ A2 c2, ∃ A3 c3, ∃ A4 c4, ∃ A6 c6, ∃ A7 c7, ∃ A8 c8, ∃ A9 c9, W.heap[g]? = some (.cells #[.slice A0 f0.length c0, .slice A1 f1.length c1, .slice A2 f2.length c2, .slice A3 f3.length c3, .slice A4 f4.length c4, .int .i64 f5, .slice A6 f6.length c6, .slice A7 f7.length c7, .slice A8 f8.length c8, .slice A9 f9.length c9] 56 (0, 0)) ∧ w0.heap.size ≤ g ∧ Kd.C (Kd.slice 3 (Kd.int .i64)) w0 A0 f0.length f0 ∧ Kd.C (Kd.int .i64) w0 A1 f1.length f1 ∧ Kd.C k149 w0 A2 f2.length f2 ∧ Kd.C k76 w0 A3 f3.length f3 ∧ Kd.C k153 w0 A4 f4.length f4 ∧ Kd.C k116 w0 A6 f6.length f6 ∧ Kd.C k157 w0 A7 f7.length f7 ∧ Kd.C (Kd.int .i64) w0 A8 f8.length f8 ∧ Kd.C (Kd.int .i64) w0 A9 f9.length f9
theorem IsS56.grown {w0 W : World} {g : Nat} {f0 : List (List Int)} {f1 : List Int} {f2 : List (S149)} {f3 : List (S76)} {f4 : List (S153)} {f5 : Int} {f6 : List (S116)} {f7 : List (S157)} {f8 : List Int} {f9 : List Int} {W1 : World} {row : Option Nat} (h : IsS56 w0 W g f0 f1 f2 f3 f4 f5 f6 f7 f8 f9) (hw : W.grownBy W1 row) (hne : some g ≠ row) : IsS56 w0 W1 g f0 f1 f2 f3 f4 f5 f6 f7 f8 f9 := by
  obtain ⟨A0, c0, A1, c1, A2, c2, A3, c3, A4, c4, A6, c6, A7, c7, A8, c8, A9, c9, hb, hg, hr0, hr1, hr2, hr3, hr4, hr6, hr7, hr8, hr9⟩ := h
  exact ⟨A0, c0, A1, c1, A2, c2, A3, c3, A4, c4, A6, c6, A7, c7, A8, c8, A9, c9, blk_grown hb hw hne, hg, hr0, hr1, hr2, hr3, hr4, hr6, hr7, hr8, hr9⟩
theorem IsS56.own_neN {w0 W : World} {g : Nat} {f0 : List (List Int)} {f1 : List Int} {f2 : List (S149)} {f3 : List (S76)} {f4 : List (S153)} {f5 : Int} {f6 : List (S116)} {f7 : List (S157)} {f8 : List Int} {f9 : List Int} {α : Type} {d : Kd α} {e : Nat} {base : Nat} {ok : Nat → Prop} {v : Value} {xs : List α} (h : IsS56 w0 W g f0 f1 f2 f3 f4 f5 f6 f7 f8 f9) (ho : Kd.N d e W base ok v xs) (ht : e ≠ 56) : some g ≠ v.ownBlock := by
  obtain ⟨A0, c0, A1, c1, A2, c2, A3, c3, A4, c4, A6, c6, A7, c7, A8, c8, A9, c9, hb, hg, hr0, hr1, hr2, hr3, hr4, hr6, hr7, hr8, hr9⟩ := h
  exact Kd.N_ne ho hb ht
theorem IsS56.fresh {w0 W : World} {g : Nat} {f0 : List (List Int)} {f1 : List Int} {f2 : List (S149)} {f3 : List (S76)} {f4 : List (S153)} {f5 : Int} {f6 : List (S116)} {f7 : List (S157)} {f8 : List Int} {f9 : List Int} (h : IsS56 w0 W g f0 f1 f2 f3 f4 f5 f6 f7 f8 f9) : ∀ k, W.heap.size ≤ k → k ≠ g := by
  obtain ⟨A0, c0, A1, c1, A2, c2, A3, c3, A4, c4, A6, c6, A7, c7, A8, c8, A9, c9, hb, hg, hr0, hr1, hr2, hr3, hr4, hr6, hr7, hr8, hr9⟩ := h
  exact Kd.freshB hb
theorem IsS56.kept {w0 W : World} {g : Nat} {f0 : List (List Int)} {f1 : List Int} {f2 : List (S149)} {f3 : List (S76)} {f4 : List (S153)} {f5 : Int} {f6 : List (S116)} {f7 : List (S157)} {f8 : List Int} {f9 : List Int} {W1 : World} {S : Nat → Prop} (h : IsS56 w0 W g f0 f1 f2 f3 f4 f5 f6 f7 f8 f9) (hk : Kept W W1 S) (hne : ¬ S g) : IsS56 w0 W1 g f0 f1 f2 f3 f4 f5 f6 f7 f8 f9 := by
  obtain ⟨A0, c0, A1, c1, A2, c2, A3, c3, A4, c4, A6, c6, A7, c7, A8, c8, A9, c9, hb, hg, hr0, hr1, hr2, hr3, hr4, hr6, hr7, hr8, hr9⟩ := h
  exact ⟨A0, c0, A1, c1, A2, c2, A3, c3, A4, c4, A6, c6, A7, c7, A8, c8, A9, c9, blk_kept hb hk hne, hg, hr0, hr1, hr2, hr3, hr4, hr6, hr7, hr8, hr9⟩
theorem IsS56.below {w0 W : World} {g : Nat} {f0 : List (List Int)} {f1 : List Int} {f2 : List (S149)} {f3 : List (S76)} {f4 : List (S153)} {f5 : Int} {f6 : List (S116)} {f7 : List (S157)} {f8 : List Int} {f9 : List Int} {W1 : World} (h : IsS56 w0 W g f0 f1 f2 f3 f4 f5 f6 f7 f8 f9) (hw : Below W.heap.size W W1) : IsS56 w0 W1 g f0 f1 f2 f3 f4 f5 f6 f7 f8 f9 := h.grown (grown_of_below hw none) (by simp)
theorem IsS56.alloc {w0 W : World} {g : Nat} {f0 : List (List Int)} {f1 : List Int} {f2 : List (S149)} {f3 : List (S76)} {f4 : List (S153)} {f5 : Int} {f6 : List (S116)} {f7 : List (S157)} {f8 : List Int} {f9 : List Int} (h : IsS56 w0 W g f0 f1 f2 f3 f4 f5 f6 f7 f8 f9) (o : Obj) : IsS56 w0 (W.alloc o) g f0 f1 f2 f3 f4 f5 f6 f7 f8 f9 := h.below (below_alloc (Below.refl _ _) o)
theorem IsS56.drewN {w0 W : World} {g : Nat} {f0 : List (List Int)} {f1 : List Int} {f2 : List (S149)} {f3 : List (S76)} {f4 : List (S153)} {f5 : Int} {f6 : List (S116)} {f7 : List (S157)} {f8 : List Int} {f9 : List Int} (h : IsS56 w0 W g f0 f1 f2 f3 f4 f5 f6 f7 f8 f9) (m : Nat) : IsS56 w0 (W.drewN m) g f0 f1 f2 f3 f4 f5 f6 f7 f8 f9 := h
theorem IsS56.drew {w0 W : World} {g : Nat} {f0 : List (List Int)} {f1 : List Int} {f2 : List (S149)} {f3 : List (S76)} {f4 : List (S153)} {f5 : Int} {f6 : List (S116)} {f7 : List (S157)} {f8 : List Int} {f9 : List Int} (h : IsS56 w0 W g f0 f1 f2 f3 f4 f5 f6 f7 f8 f9) : IsS56 w0 W.drew g f0 f1 f2 f3 f4 f5 f6 f7 f8 f9 := h
theorem IsS56.at_ {w0 W : World} {g : Nat} {f0 : List (List Int)} {f1 : List Int} {f2 : List (S149)} {f3 : List (S76)} {f4 : List (S153)} {f5 : Int} {f6 : List (S116)} {f7 : List (S157)} {f8 : List Int} {f9 : List Int} {w' : World} {m : Nat} (hq : W.drewN m = w') (h : IsS56 w0 W g f0 f1 f2 f3 f4 f5 f6 f7 f8 f9) : IsS56 w0 w' g f0 f1 f2 f3 f4 f5 f6 f7 f8 f9 := by subst hq; exact IsS56.drewN h m
theorem IsS56.apart {w0 W : World} {g : Nat} {f0 : List (List Int)} {f1 : List Int} {f2 : List (S149)} {f3 : List (S76)} {f4 : List (S153)} {f5 : Int} {f6 : List (S116)} {f7 : List (S157)} {f8 : List Int} {f9 : List Int} {α : Type} {d : Kd α} {e : Nat} {base : Nat} {ok : Nat → Prop} {v : Value} {xs : List α} (h : IsS56 w0 W g f0 f1 f2 f3 f4 f5 f6 f7 f8 f9) (ho : d.R e W base ok v xs) (ht : ∀ q, q ∈ e :: d.E → q ≠ 56) : d.R e W base (fun k => ok k ∧ k ≠ g) v xs := by
  obtain ⟨A0, c0, A1, c1, A2, c2, A3, c3, A4, c4, A6, c6, A7, c7, A8, c8, A9, c9, hb, hg, hr0, hr1, hr2, hr3, hr4, hr6, hr7, hr8, hr9⟩ := h
  exact Kd.R_types ho hb ht
theorem IsS56.own_ne {w0 W : World} {g : Nat} {f0 : List (List Int)} {f1 : List Int} {f2 : List (S149)} {f3 : List (S76)} {f4 : List (S153)} {f5 : Int} {f6 : List (S116)} {f7 : List (S157)} {f8 : List Int} {f9 : List Int} {α : Type} {d : Kd α} {e : Nat} {base : Nat} {ok : Nat → Prop} {v : Value} {xs : List α} (h : IsS56 w0 W g f0 f1 f2 f3 f4 f5 f6 f7 f8 f9) (ho : d.R e W base ok v xs) (ht : e ≠ 56) : some g ≠ v.ownBlock := by
  obtain ⟨A0, c0, A1, c1, A2, c2, A3, c3, A4, c4, A6, c6, A7, c7, A8, c8, A9, c9, hb, hg, hr0, hr1, hr2, hr3, hr4, hr6, hr7, hr8, hr9⟩ := h
  exact Kd.R_ne ho hb ht
theorem IsS56.apartQ {w0 W : World} {g : Nat} {f0 : List (List Int)} {f1 : List Int} {f2 : List (S149)} {f3 : List (S76)} {f4 : List (S153)} {f5 : Int} {f6 : List (S116)} {f7 : List (S157)} {f8 : List Int} {f9 : List Int} {α : Type} {d : Kd α} {e : Nat} {base : Nat} {ok : Nat → Prop} {v : Value} {xs : List α} (h : IsS56 w0 W g f0 f1 f2 f3 f4 f5 f6 f7 f8 f9) (ho : d.Q e W base ok v xs) (ht : ∀ q, q ∈ e :: d.E → q ≠ 56) : d.Q e W base (fun k => ok k ∧ k ≠ g) v xs := by
  obtain ⟨A0, c0, A1, c1, A2, c2, A3, c3, A4, c4, A6, c6, A7, c7, A8, c8, A9, c9, hb, hg, hr0, hr1, hr2, hr3, hr4, hr6, hr7, hr8, hr9⟩ := h
  exact Kd.Q_types ho hb ht
theorem IsS56.own_neQ {w0 W : World} {g : Nat} {f0 : List (List Int)} {f1 : List Int} {f2 : List (S149)} {f3 : List (S76)} {f4 : List (S153)} {f5 : Int} {f6 : List (S116)} {f7 : List (S157)} {f8 : List Int} {f9 : List Int} {α : Type} {d : Kd α} {e : Nat} {base : Nat} {ok : Nat → Prop} {v : Value} {xs : List α} (h : IsS56 w0 W g f0 f1 f2 f3 f4 f5 f6 f7 f8 f9) (ho : d.Q e W base ok v xs) (ht : e ≠ 56) : some g ≠ v.ownBlock := by
  obtain ⟨A0, c0, A1, c1, A2, c2, A3, c3, A4, c4, A6, c6, A7, c7, A8, c8, A9, c9, hb, hg, hr0, hr1, hr2, hr3, hr4, hr6, hr7, hr8, hr9⟩ := h
  exact Kd.Q_ne ho hb ht
theorem IsS56.apartS {w0 W : World} {g : Nat} {f0 : List (List Int)} {f1 : List Int} {f2 : List (S149)} {f3 : List (S76)} {f4 : List (S153)} {f5 : Int} {f6 : List (S116)} {f7 : List (S157)} {f8 : List Int} {f9 : List Int} {α : Type} {d : Kd α} {e : Nat} {base : Nat} {ok : Nat → Prop} {v : Value} {xs : List α} (h : IsS56 w0 W g f0 f1 f2 f3 f4 f5 f6 f7 f8 f9) (ho : d.S e W base ok v xs) (ht : ∀ q, q ∈ e :: d.E → q ≠ 56) : d.S e W base (fun k => ok k ∧ k ≠ g) v xs := by
  obtain ⟨A0, c0, A1, c1, A2, c2, A3, c3, A4, c4, A6, c6, A7, c7, A8, c8, A9, c9, hb, hg, hr0, hr1, hr2, hr3, hr4, hr6, hr7, hr8, hr9⟩ := h
  exact Kd.S_types ho hb ht
theorem IsS56.own_neS {w0 W : World} {g : Nat} {f0 : List (List Int)} {f1 : List Int} {f2 : List (S149)} {f3 : List (S76)} {f4 : List (S153)} {f5 : Int} {f6 : List (S116)} {f7 : List (S157)} {f8 : List Int} {f9 : List Int} {α : Type} {d : Kd α} {e : Nat} {base : Nat} {ok : Nat → Prop} {v : Value} {xs : List α} (h : IsS56 w0 W g f0 f1 f2 f3 f4 f5 f6 f7 f8 f9) (ho : d.S e W base ok v xs) (ht : e ≠ 56) : some g ≠ v.ownBlock := by
  obtain ⟨A0, c0, A1, c1, A2, c2, A3, c3, A4, c4, A6, c6, A7, c7, A8, c8, A9, c9, hb, hg, hr0, hr1, hr2, hr3, hr4, hr6, hr7, hr8, hr9⟩ := h
  exact Kd.S_ne ho hb ht
theorem IsS56.lt {w0 W : World} {g : Nat} {f0 : List (List Int)} {f1 : List Int} {f2 : List (S149)} {f3 : List (S76)} {f4 : List (S153)} {f5 : Int} {f6 : List (S116)} {f7 : List (S157)} {f8 : List Int} {f9 : List Int} (h : IsS56 w0 W g f0 f1 f2 f3 f4 f5 f6 f7 f8 f9) : g < W.heap.size := by
  obtain ⟨A0, c0, A1, c1, A2, c2, A3, c3, A4, c4, A6, c6, A7, c7, A8, c8, A9, c9, hb, hg, hr0, hr1, hr2, hr3, hr4, hr6, hr7, hr8, hr9⟩ := h
  exact blk_lt hb
theorem IsS56.ge {w0 W : World} {g : Nat} {f0 : List (List Int)} {f1 : List Int} {f2 : List (S149)} {f3 : List (S76)} {f4 : List (S153)} {f5 : Int} {f6 : List (S116)} {f7 : List (S157)} {f8 : List Int} {f9 : List Int} (h : IsS56 w0 W g f0 f1 f2 f3 f4 f5 f6 f7 f8 f9) : w0.heap.size ≤ g := by
  obtain ⟨A0, c0, A1, c1, A2, c2, A3, c3, A4, c4, A6, c6, A7, c7, A8, c8, A9, c9, hb, hg, hr0, hr1, hr2, hr3, hr4, hr6, hr7, hr8, hr9⟩ := h
  exact hg
theorem IsS56.ne_blk {w0 W : World} {g : Nat} {f0 : List (List Int)} {f1 : List Int} {f2 : List (S149)} {f3 : List (S76)} {f4 : List (S153)} {f5 : Int} {f6 : List (S116)} {f7 : List (S157)} {f8 : List Int} {f9 : List Int} {a : Nat} {cs : Array Value} {t : TypeId} {fr : Nat × Nat} (h : IsS56 w0 W g f0 f1 f2 f3 f4 f5 f6 f7 f8 f9) (hb2 : W.heap[a]? = some (.cells cs t fr)) (ht : t ≠ 56) : g ≠ a := by
  obtain ⟨A0, c0, A1, c1, A2, c2, A3, c3, A4, c4, A6, c6, A7, c7, A8, c8, A9, c9, hb, hg, hr0, hr1, hr2, hr3, hr4, hr6, hr7, hr8, hr9⟩ := h
  rintro rfl
  rw [hb] at hb2
  injection hb2 with hb2
  injection hb2 with _ ht2
  exact ht ht2.symm
theorem IsS56.far {w0 W : World} {g : Nat} {f0 : List (List Int)} {f1 : List Int} {f2 : List (S149)} {f3 : List (S76)} {f4 : List (S153)} {f5 : Int} {f6 : List (S116)} {f7 : List (S157)} {f8 : List Int} {f9 : List Int} {p : Addr} (h : IsS56 w0 W g f0 f1 f2 f3 f4 f5 f6 f7 f8 f9) (hne : g ≠ p.block) (u : Value) : IsS56 w0 (W.setCell p u) g f0 f1 f2 f3 f4 f5 f6 f7 f8 f9 := by
  obtain ⟨A0, c0, A1, c1, A2, c2, A3, c3, A4, c4, A6, c6, A7, c7, A8, c8, A9, c9, hb, hg, hr0, hr1, hr2, hr3, hr4, hr6, hr7, hr8, hr9⟩ := h
  exact ⟨A0, c0, A1, c1, A2, c2, A3, c3, A4, c4, A6, c6, A7, c7, A8, c8, A9, c9, blk_far hb hne u, hg, hr0, hr1, hr2, hr3, hr4, hr6, hr7, hr8, hr9⟩
theorem cellS56_0 {W : World} {g : Nat} {A0 : Option Addr} {c0 : Nat} {A1 : Option Addr} {c1 : Nat} {A2 : Option Addr} {c2 : Nat} {A3 : Option Addr} {c3 : Nat} {A4 : Option Addr} {c4 : Nat} {A6 : Option Addr} {c6 : Nat} {A7 : Option Addr} {c7 : Nat} {A8 : Option Addr} {c8 : Nat} {A9 : Option Addr} {c9 : Nat} {f0 : List (List Int)} {f1 : List Int} {f2 : List (S149)} {f3 : List (S76)} {f4 : List (S153)} {f5 : Int} {f6 : List (S116)} {f7 : List (S157)} {f8 : List Int} {f9 : List Int} (h : W.heap[g]? = some (.cells #[.slice A0 f0.length c0, .slice A1 f1.length c1, .slice A2 f2.length c2, .slice A3 f3.length c3, .slice A4 f4.length c4, .int .i64 f5, .slice A6 f6.length c6, .slice A7 f7.length c7, .slice A8 f8.length c8, .slice A9 f9.length c9] 56 (0, 0))) : W.cell? ⟨g, 0, none⟩ = some (.slice A0 f0.length c0) := (blk_cell h 0).trans rfl
theorem cellS56_1 {W : World} {g : Nat} {A0 : Option Addr} {c0 : Nat} {A1 : Option Addr} {c1 : Nat} {A2 : Option Addr} {c2 : Nat} {A3 : Option Addr} {c3 : Nat} {A4 : Option Addr} {c4 : Nat} {A6 : Option Addr} {c6 : Nat} {A7 : Option Addr} {c7 : Nat} {A8 : Option Addr} {c8 : Nat} {A9 : Option Addr} {c9 : Nat} {f0 : List (List Int)} {f1 : List Int} {f2 : List (S149)} {f3 : List (S76)} {f4 : List (S153)} {f5 : Int} {f6 : List (S116)} {f7 : List (S157)} {f8 : List Int} {f9 : List Int} (h : W.heap[g]? = some (.cells #[.slice A0 f0.length c0, .slice A1 f1.length c1, .slice A2 f2.length c2, .slice A3 f3.length c3, .slice A4 f4.length c4, .int .i64 f5, .slice A6 f6.length c6, .slice A7 f7.length c7, .slice A8 f8.length c8, .slice A9 f9.length c9] 56 (0, 0))) : W.cell? ⟨g, 1, none⟩ = some (.slice A1 f1.length c1) := (blk_cell h 1).trans rfl
theorem cellS56_2 {W : World} {g : Nat} {A0 : Option Addr} {c0 : Nat} {A1 : Option Addr} {c1 : Nat} {A2 : Option Addr} {c2 : Nat} {A3 : Option Addr} {c3 : Nat} {A4 : Option Addr} {c4 : Nat} {A6 : Option Addr} {c6 : Nat} {A7 : Option Addr} {c7 : Nat} {A8 : Option Addr} {c8 : Nat} {A9 : Option Addr} {c9 : Nat} {f0 : List (List Int)} {f1 : List Int} {f2 : List (S149)} {f3 : List (S76)} {f4 : List (S153)} {f5 : Int} {f6 : List (S116)} {f7 : List (S157)} {f8 : List Int} {f9 : List Int} (h : W.heap[g]? = some (.cells #[.slice A0 f0.length c0, .slice A1 f1.length c1, .slice A2 f2.length c2, .slice A3 f3.length c3, .slice A4 f4.length c4, .int .i64 f5, .slice A6 f6.length c6, .slice A7 f7.length c7, .slice A8 f8.length c8, .slice A9 f9.length c9] 56 (0, 0))) : W.cell? ⟨g, 2, none⟩ = some (.slice A2 f2.length c2) := (blk_cell h 2).trans rfl
theorem cellS56_3 {W : World} {g : Nat} {A0 : Option Addr} {c0 : Nat} {A1 : Option Addr} {c1 : Nat} {A2 : Option Addr} {c2 : Nat} {A3 : Option Addr} {c3 : Nat} {A4 : Option Addr} {c4 : Nat} {A6 : Option Addr} {c6 : Nat} {A7 : Option Addr} {c7 : Nat} {A8 : Option Addr} {c8 : Nat} {A9 : Option Addr} {c9 : Nat} {f0 : List (List Int)} {f1 : List Int} {f2 : List (S149)} {f3 : List (S76)} {f4 : List (S153)} {f5 : Int} {f6 : List (S116)} {f7 : List (S157)} {f8 : List Int} {f9 : List Int} (h : W.heap[g]? = some (.cells #[.slice A0 f0.length c0, .slice A1 f1.length c1, .slice A2 f2.length c2, .slice A3 f3.length c3, .slice A4 f4.length c4, .int .i64 f5, .slice A6 f6.length c6, .slice A7 f7.length c7, .slice A8 f8.length c8, .slice A9 f9.length c9] 56 (0, 0))) : W.cell? ⟨g, 3, none⟩ = some (.slice A3 f3.length c3) := (blk_cell h 3).trans rfl
theorem cellS56_4 {W : World} {g : Nat} {A0 : Option Addr} {c0 : Nat} {A1 : Option Addr} {c1 : Nat} {A2 : Option Addr} {c2 : Nat} {A3 : Option Addr} {c3 : Nat} {A4 : Option Addr} {c4 : Nat} {A6 : Option Addr} {c6 : Nat} {A7 : Option Addr} {c7 : Nat} {A8 : Option Addr} {c8 : Nat} {A9 : Option Addr} {c9 : Nat} {f0 : List (List Int)} {f1 : List Int} {f2 : List (S149)} {f3 : List (S76)} {f4 : List (S153)} {f5 : Int} {f6 : List (S116)} {f7 : List (S157)} {f8 : List Int} {f9 : List Int} (h : W.heap[g]? = some (.cells #[.slice A0 f0.length c0, .slice A1 f1.length c1, .slice A2 f2.length c2, .slice A3 f3.length c3, .slice A4 f4.length c4, .int .i64 f5, .slice A6 f6.length c6, .slice A7 f7.length c7, .slice A8 f8.length c8, .slice A9 f9.length c9] 56 (0, 0))) : W.cell? ⟨g, 4, none⟩ = some (.slice A4 f4.length c4) := (blk_cell h 4).trans rfl
theorem cellS56_5 {W : World} {g : Nat} {A0 : Option Addr} {c0 : Nat} {A1 : Option Addr} {c1 : Nat} {A2 : Option Addr} {c2 : Nat} {A3 : Option Addr} {c3 : Nat} {A4 : Option Addr} {c4 : Nat} {A6 : Option Addr} {c6 : Nat} {A7 : Option Addr} {c7 : Nat} {A8 : Option Addr} {c8 : Nat} {A9 : Option Addr} {c9 : Nat} {f0 : List (List Int)} {f1 : List Int} {f2 : List (S149)} {f3 : List (S76)} {f4 : List (S153)} {f5 : Int} {f6 : List (S116)} {f7 : List (S157)} {f8 : List Int} {f9 : List Int} (h : W.heap[g]? = some (.cells #[.slice A0 f0.length c0, .slice A1 f1.length c1, .slice A2 f2.length c2, .slice A3 f3.length c3, .slice A4 f4.length c4, .int .i64 f5, .slice A6 f6.length c6, .slice A7 f7.length c7, .slice A8 f8.length c8, .slice A9 f9.length c9] 56 (0, 0))) : W.cell? ⟨g, 5, none⟩ = some (.int .i64 f5) := (blk_cell h 5).trans rfl
theorem IsS56.set_5 {w0 W : World} {g : Nat} {f0 : List (List Int)} {f1 : List Int} {f2 : List (S149)} {f3 : List (S76)} {f4 : List (S153)} {f5 : Int} {f6 : List (S116)} {f7 : List (S157)} {f8 : List Int} {f9 : List Int} (h : IsS56 w0 W g f0 f1 f2 f3 f4 f5 f6 f7 f8 f9) (x : Int) : IsS56 w0 (W.setCell ⟨g, 5, none⟩ (.int .i64 x)) g f0 f1 f2 f3 f4 x f6 f7 f8 f9 := by
  obtain ⟨A0, c0, A1, c1, A2, c2, A3, c3, A4, c4, A6, c6, A7, c7, A8, c8, A9, c9, hb, hg, hr0, hr1, hr2, hr3, hr4, hr6, hr7, hr8, hr9⟩ := h
  exact ⟨A0, c0, A1, c1, A2, c2, A3, c3, A4, c4, A6, c6, A7, c7, A8, c8, A9, c9, by simpa using blk_set hb 5 (.int .i64 x), hg, hr0, hr1, hr2, hr3, hr4, hr6, hr7, hr8, hr9⟩
theorem cellS56_6 {W : World} {g : Nat} {A0 : Option Addr} {c0 : Nat} {A1 : Option Addr} {c1 : Nat} {A2 : Option Addr} {c2 : Nat} {A3 : Option Addr} {c3 : Nat} {A4 : Option Addr} {c4 : Nat} {A6 : Option Addr} {c6 : Nat} {A7 : Option Addr} {c7 : Nat} {A8 : Option Addr} {c8 : Nat} {A9 : Option Addr} {c9 : Nat} {f0 : List (List Int)} {f1 : List Int} {f2 : List (S149)} {f3 : List (S76)} {f4 : List (S153)} {f5 : Int} {f6 : List (S116)} {f7 : List (S157)} {f8 : List Int} {f9 : List Int} (h : W.heap[g]? = some (.cells #[.slice A0 f0.length c0, .slice A1 f1.length c1, .slice A2 f2.length c2, .slice A3 f3.length c3, .slice A4 f4.length c4, .int .i64 f5, .slice A6 f6.length c6, .slice A7 f7.length c7, .slice A8 f8.length c8, .slice A9 f9.length c9] 56 (0, 0))) : W.cell? ⟨g, 6, none⟩ = some (.slice A6 f6.length c6) := (blk_cell h 6).trans rfl
theorem cellS56_7 {W : World} {g : Nat} {A0 : Option Addr} {c0 : Nat} {A1 : Option Addr} {c1 : Nat} {A2 : Option Addr} {c2 : Nat} {A3 : Option Addr} {c3 : Nat} {A4 : Option Addr} {c4 : Nat} {A6 : Option Addr} {c6 : Nat} {A7 : Option Addr} {c7 : Nat} {A8 : Option Addr} {c8 : Nat} {A9 : Option Addr} {c9 : Nat} {f0 : List (List Int)} {f1 : List Int} {f2 : List (S149)} {f3 : List (S76)} {f4 : List (S153)} {f5 : Int} {f6 : List (S116)} {f7 : List (S157)} {f8 : List Int} {f9 : List Int} (h : W.heap[g]? = some (.cells #[.slice A0 f0.length c0, .slice A1 f1.length c1, .slice A2 f2.length c2, .slice A3 f3.length c3, .slice A4 f4.length c4, .int .i64 f5, .slice A6 f6.length c6, .slice A7 f7.length c7, .slice A8 f8.length c8, .slice A9 f9.length c9] 56 (0, 0))) : W.cell? ⟨g, 7, none⟩ = some (.slice A7 f7.length c7) := (blk_cell h 7).trans rfl
theorem cellS56_8 {W : World} {g : Nat} {A0 : Option Addr} {c0 : Nat} {A1 : Option Addr} {c1 : Nat} {A2 : Option Addr} {c2 : Nat} {A3 : Option Addr} {c3 : Nat} {A4 : Option Addr} {c4 : Nat} {A6 : Option Addr} {c6 : Nat} {A7 : Option Addr} {c7 : Nat} {A8 : Option Addr} {c8 : Nat} {A9 : Option Addr} {c9 : Nat} {f0 : List (List Int)} {f1 : List Int} {f2 : List (S149)} {f3 : List (S76)} {f4 : List (S153)} {f5 : Int} {f6 : List (S116)} {f7 : List (S157)} {f8 : List Int} {f9 : List Int} (h : W.heap[g]? = some (.cells #[.slice A0 f0.length c0, .slice A1 f1.length c1, .slice A2 f2.length c2, .slice A3 f3.length c3, .slice A4 f4.length c4, .int .i64 f5, .slice A6 f6.length c6, .slice A7 f7.length c7, .slice A8 f8.length c8, .slice A9 f9.length c9] 56 (0, 0))) : W.cell? ⟨g, 8, none⟩ = some (.slice A8 f8.length c8) := (blk_cell h 8).trans rfl
theorem cellS56_9 {W : World} {g : Nat} {A0 : Option Addr} {c0 : Nat} {A1 : Option Addr} {c1 : Nat} {A2 : Option Addr} {c2 : Nat} {A3 : Option Addr} {c3 : Nat} {A4 : Option Addr} {c4 : Nat} {A6 : Option Addr} {c6 : Nat} {A7 : Option Addr} {c7 : Nat} {A8 : Option Addr} {c8 : Nat} {A9 : Option Addr} {c9 : Nat} {f0 : List (List Int)} {f1 : List Int} {f2 : List (S149)} {f3 : List (S76)} {f4 : List (S153)} {f5 : Int} {f6 : List (S116)} {f7 : List (S157)} {f8 : List Int} {f9 : List Int} (h : W.heap[g]? = some (.cells #[.slice A0 f0.length c0, .slice A1 f1.length c1, .slice A2 f2.length c2, .slice A3 f3.length c3, .slice A4 f4.length c4, .int .i64 f5, .slice A6 f6.length c6, .slice A7 f7.length c7, .slice A8 f8.length c8, .slice A9 f9.length c9] 56 (0, 0))) : W.cell? ⟨g, 9, none⟩ = some (.slice A9 f9.length c9) := (blk_cell h 9).trans rfl
theorem IsS56.new (w0 W : World) (A0 : Option Addr) (c0 : Nat) (A1 : Option Addr) (c1 : Nat) (A2 : Option Addr) (c2 : Nat) (A3 : Option Addr) (c3 : Nat) (A4 : Option Addr) (c4 : Nat) (A6 : Option Addr) (c6 : Nat) (A7 : Option Addr) (c7 : Nat) (A8 : Option Addr) (c8 : Nat) (A9 : Option Addr) (c9 : Nat) (f0 : List (List Int)) (f1 : List Int) (f2 : List (S149)) (f3 : List (S76)) (f4 : List (S153)) (f5 : Int) (f6 : List (S116)) (f7 : List (S157)) (f8 : List Int) (f9 : List Int) (hB : Below w0.heap.size w0 W) (hr0 : Kd.C (Kd.slice 3 (Kd.int .i64)) w0 A0 f0.length f0) (hr1 : Kd.C (Kd.int .i64) w0 A1 f1.length f1) (hr2 : Kd.C k149 w0 A2 f2.length f2) (hr3 : Kd.C k76 w0 A3 f3.length f3) (hr4 : Kd.C k153 w0 A4 f4.length f4) (hr6 : Kd.C k116 w0 A6 f6.length f6) (hr7 : Kd.C k157 w0 A7 f7.length f7) (hr8 : Kd.C (Kd.int .i64) w0 A8 f8.length f8) (hr9 : Kd.C (Kd.int .i64) w0 A9 f9.length f9) : IsS56 w0 (W.alloc (.cells #[.slice A0 f0.length c0, .slice A1 f1.length c1, .slice A2 f2.length c2, .slice A3 f3.length c3, .slice A4 f4.length c4, .int .i64 f5, .slice A6 f6.length c6, .slice A7 f7.length c7, .slice A8 f8.length c8, .slice A9 f9.length c9] 56)) W.heap.size f0 f1 f2 f3 f4 f5 f6 f7 f8 f9 := ⟨A0, c0, A1, c1, A2, c2, A3, c3, A4, c4, A6, c6, A7, c7, A8, c8, A9, c9, by simpa using heap_alloc_new W _, hB.size, hr0, hr1, hr2, hr3, hr4, hr6, hr7, hr8, hr9⟩

/-! ### impl_Machine_framesIn: function 74 -/
def impl_Machine_framesIn.l0 : Nat → Int → List Int → List Int → Int → Int → List (List Int) → List Int → List (S149) → List (S76) → List (S153) → Int → List (S116) → List (S157) → List Int → List Int → Option (List Int × Int)
  | 0, _, _, _, _, _, _, _, _, _, _, _, _, _, _, _ => none
  | k + 1, x1, x5, x12, x13, x14, x1000, x1001, x1002, x1003, x1004, x1005, x1006, x1007, x1008, x1009 => if x14 < x13 then (if 0 ≤ x14 then (if x14 < (x12.length : Int) then (if (rd x12 x14) = x1 then (if x5.length < 17592186044416 then (impl_Machine_framesIn.l0 k x1 (x5 ++ [x14]) x12 x13 (wrap64 (x14 + 1)) x1000 x1001 x1002 x1003 x1004 x1005 x1006 x1007 x1008 x1009) else (none)) else (impl_Machine_framesIn.l0 k x1 x5 x12 x13 (wrap64 (x14 + 1)) x1000 x1001 x1002 x1003 x1004 x1005 x1006 x1007 x1008 x1009)) else (none)) else (none)) else (some (x5, x1005))
def impl_Machine_framesIn.f (k : Nat) (s0_0 : List (List Int)) (s0_1 : List Int) (s0_2 : List (S149)) (s0_3 : List (S76)) (s0_4 : List (S153)) (s0_5 : Int) (s0_6 : List (S116)) (s0_7 : List (S157)) (s0_8 : List Int) (s0_9 : List Int) (a1 : Int) : Option (List Int × Int) := impl_Machine_framesIn.l0 k a1 (([] : List Int)) s0_1 (s0_1.length : Int) 0 s0_0 s0_1 s0_2 s0_3 s0_4 s0_5 s0_6 s0_7 s0_8 s0_9
theorem impl_Machine_framesIn.mono_l : ∀ k, (∀ y0 y1 y2 y3 y4 y5 y6 y7 y8 y9 y10 y11 y12 y13 y14, LeO (impl_Machine_framesIn.l0 k y0 y1 y2 y3 y4 y5 y6 y7 y8 y9 y10 y11 y12 y13 y14) (impl_Machine_framesIn.l0 (k + 1) y0 y1 y2 y3 y4 y5 y6 y7 y8 y9 y10 y11 y12 y13 y14))
  | 0 => fun _ _ _ _ _ _ _ _ _ _ _ _ _ _ _ r h => by simp [impl_Machine_framesIn.l0] at h
  | k + 1 => by
    have ih0 := impl_Machine_framesIn.mono_l k
    · intro y0 y1 y2 y3 y4 y5 y6 y7 y8 y9 y10 y11 y12 y13 y14
      unfold impl_Machine_framesIn.l0
      repeat' first
      | (with_reducible exact ih0 _ _ _ _ _ _ _ _ _ _ _ _ _ _ _)
      | (with_reducible exact LeO.refl _)
      | (with_reducible exact LeO.none _)
      | (with_reducible refine LeO.ite ?_ ?_)
      | (with_reducible refine LeO.bind ?_ (fun _ => ?_))
      | exact ih0 _ _ _ _ _ _ _ _ _ _ _ _ _ _ _
      | exact LeO.none _
      | refine LeO.ite ?_ ?_
      | refine LeO.bind ?_ (fun _ => ?_)
theorem impl_Machine_framesIn.mono : ∀ a0 a1 a2 a3 a4 a5 a6 a7 a8 a9 a10 k, LeO (impl_Machine_framesIn.f k a0 a1 a2 a3 a4 a5 a6 a7 a8 a9 a10) (impl_Machine_framesIn.f (k + 1) a0 a1 a2 a3 a4 a5 a6 a7 a8 a9 a10) := by
  intro a0 a1 a2 a3 a4 a5 a6 a7 a8 a9 a10 k
  have ih0 := impl_Machine_framesIn.mono_l k
  unfold impl_Machine_framesIn.f
  repeat' first
      | (with_reducible exact ih0 _ _ _ _ _ _ _ _ _ _ _ _ _ _ _)
      | (with_reducible exact LeO.refl _)
      | (with_reducible exact LeO.none _)
      | (with_reducible refine LeO.ite ?_ ?_)
      | (with_reducible refine LeO.bind ?_ (fun _ => ?_))
      | exact ih0 _ _ _ _ _ _ _ _ _ _ _ _ _ _ _
      | exact LeO.none _
      | refine LeO.ite ?_ ?_
      | refine LeO.bind ?_ (fun _ => ?_)
set_option maxHeartbeats 8000000 in
set_option maxRecDepth 100000 in
theorem impl_Machine_framesIn.calls (k : Nat) (g : Nat) (s0_0 : List (List Int)) (s0_1 : List Int) (s0_2 : List (S149)) (s0_3 : List (S76)) (s0_4 : List (S153)) (s0_5 : Int) (s0_6 : List (S116)) (s0_7 : List (S157)) (s0_8 : List Int) (s0_9 : List Int) (a1 : Int) (r1 : List Int) (r2 : Int) (w0 w : World) (hI : IsS56 w0 w g s0_0 s0_1 s0_2 s0_3 s0_4 s0_5 s0_6 s0_7 s0_8 s0_9) (hB : Below w0.heap.size w0 w) (h : impl_Machine_framesIn.f k s0_0 s0_1 s0_2 s0_3 s0_4 s0_5 s0_6 s0_7 s0_8 s0_9 a1 = some (r1, r2)) :
    Calls Try.prog 74 #[.pointer (some ⟨g, 0, none⟩), .int .i64 a1] w fun e w' => ∃ v0_ : Value, e = .returned (v0_) ∧ Kd.R (Kd.int .i64) 3 w' w.heap.size (fun _ => True) v0_ r1 ∧ IsS56 w0 w' g s0_0 s0_1 s0_2 s0_3 s0_4 r2 s0_6 s0_7 s0_8 s0_9 ∧ Below w0.heap.size w0 w' ∧ KeepBut w w' g none := by
  have HI0 := Aside0.mk hI
  have HK := Aside0.mk (KeepBut.refl w g none)
  have HL := Aside0.mk hB.size
  clear hI
  have HW0 := Aside0.mk hB.size
  have HB := Aside0.mk hB
  clear hB
  have H : (impl_Machine_framesIn.l0 k a1 (([] : List Int)) s0_1 (s0_1.length : Int) 0 s0_0 s0_1 s0_2 s0_3 s0_4 s0_5 s0_6 s0_7 s0_8 s0_9) = some (r1, r2) := h
  clear h
  obtain ⟨y550, hy550⟩ : ∃ y_ : List Int, y_ = (([] : List Int)) := ⟨_, rfl⟩
  replace H : (impl_Machine_framesIn.l0 k a1 y550 s0_1 (s0_1.length : Int) 0 s0_0 s0_1 s0_2 s0_3 s0_4 s0_5 s0_6 s0_7 s0_8 s0_9) = some (r1, r2) := by first | (rw [hy550]; with_reducible exact H) | (have H2_ := (Option.bind_some _ _).symm.trans H; rw [hy550]; with_reducible exact H2_) | (have H2_ := (Option.bind_some _ _).symm.trans H; with_reducible exact H2_) | with_reducible exact H | (rw [hy550]; exact H) | exact H
  have Ny550 := Aside0.mk hy550
  clear hy550
  have H' := Aside0.mk H
  clear H
  go_enter Try.func74, Try.ntmps74
  go_wp2_with (first | ((with_reducible refine gate_dst (N := 8) rfl ?_); refine Kd.R_lit (Kd.int .i64) _ 3 ?hg (N := 8) ?hd (xs := ([] : List Int)) (inner := []) (ok := fun _ => True) (okp := fun _ => True) ?hr ?hp (fun _ hk => hk) trivial (Below.refl _ _) (Nat.le_refl _) (by simp) ?_; (case hd => rfl); (case hg => rfl); (case hr => first | (go_simp; done) | (go_simp; rfl)); (case hp => exact (Reps.none _ _)); intro v551 w3 ho4 hb hg_ hnew_; clear hg_ hnew_; (first | rw [← Ny550.out] at ho4 | (simp only [Int.reduceToNat] at ho4; rw [← Ny550.out] at ho4)); have n0_ := Aside0.mk (Kd.R_lower ho4 (keep_size (w := w) (g := g) (row := none) (by repeat (first | (with_reducible first | exact HK.out | apply KeepBut.set_ | apply keep_drewN | apply keep_drew | apply keep_alloc) | exact HK.out)))); have n1_ := Aside0.mk (IsS56.below (by repeat (first | (with_reducible first | exact HI0.out | apply IsS56.alloc | apply IsS56.drewN | apply IsS56.drew | apply IsS56.set_5) | exact HI0.out)) hb); have n2_ := Aside0.mk (KeepBut.trans (by repeat (first | (with_reducible first | exact HK.out | apply KeepBut.set_ | apply keep_drewN | apply keep_drew | apply keep_alloc) | exact HK.out)) (KeepBut.of_below hb g none) (.inl rfl)); have n3_ := Aside0.mk (below_step (by repeat (first | (with_reducible first | exact HB.out | apply below_alloc | apply pw_below_drewN | apply below_drew1 | refine below_set ?_ (IsS56.ge HI0.out)) | exact HB.out)) hb); clear HI0; clear HK; clear HB; have HO552 := n0_; have HI0 := n1_; have HK := n2_; have HB := n3_; clear n0_ n1_ n2_ n3_; clear hb ho4; obtain ⟨ASz5_0, cSz5_0, ASz5_1, cSz5_1, ASz5_2, cSz5_2, ASz5_3, cSz5_3, ASz5_4, cSz5_4, ASz5_6, cSz5_6, ASz5_7, cSz5_7, ASz5_8, cSz5_8, ASz5_9, cSz5_9, HGz5, hgz5, HSz5_0, HSz5_1, HSz5_2, HSz5_3, HSz5_4, HSz5_6, HSz5_7, HSz5_8, HSz5_9⟩ := HI0.out; have hcz5_0 := cellS56_0 HGz5; have hcz5_1 := cellS56_1 HGz5; have hcz5_2 := cellS56_2 HGz5; have hcz5_3 := cellS56_3 HGz5; have hcz5_4 := cellS56_4 HGz5; have hcz5_5 := cellS56_5 HGz5; have hcz5_6 := cellS56_6 HGz5; have hcz5_7 := cellS56_7 HGz5; have hcz5_8 := cellS56_8 HGz5; have hcz5_9 := cellS56_9 HGz5; have hfz5_5 := blk_frozen HGz5 5; clear HGz5 hgz5))
  go_loopg [5, 14] k (fun kq v5 v14 w' => ∃ (x5_1 : List Int) (x14_1 : Int), v14 = .int .i64 x14_1 ∧ Aside0 (impl_Machine_framesIn.l0 kq a1 x5_1 s0_1 (s0_1.length : Int) x14_1 s0_0 s0_1 s0_2 s0_3 s0_4 s0_5 s0_6 s0_7 s0_8 s0_9 = some (r1, r2)) ∧ Aside0 (kq ≤ k) ∧ Aside0 (Kd.R (Kd.int .i64) 3 w' w.heap.size (fun _ => True) v5 x5_1) ∧ Aside0 (IsS56 w0 w' g s0_0 s0_1 s0_2 s0_3 s0_4 s0_5 s0_6 s0_7 s0_8 s0_9) ∧ Aside0 (KeepBut w w' g none) ∧ Aside0 (Below w0.heap.size w0 w'))
  case atStart => exact ⟨(y550), (0), (by first | rfl | (simp; done) | (simp [*]; done)), H', ⟨Nat.le_refl _⟩, ⟨by (with_reducible repeat (first | apply Kd.R_alloc | apply Kd.R_drewN | apply Kd.R_drew)); exact HO552.out⟩, ⟨by repeat (first | (with_reducible first | exact HI0.out | apply IsS56.alloc | apply IsS56.drewN | apply IsS56.drew | apply IsS56.set_5) | exact HI0.out)⟩, ⟨by repeat (first | (with_reducible first | exact HK.out | apply KeepBut.set_ | apply keep_drewN | apply keep_drew | apply keep_alloc) | exact HK.out)⟩, ⟨by repeat (first | (with_reducible first | exact HB.out | apply below_alloc | apply pw_below_drewN | apply below_drew1 | refine below_set ?_ (IsS56.ge HI0.out)) | exact HB.out)⟩⟩
  case round =>
    clear H'
    try clear p2
    try clear hcz5_0
    try clear hcz5_1
    try clear hcz5_2
    try clear hcz5_3
    try clear hcz5_4
    try clear hcz5_5
    try clear hcz5_6
    try clear hcz5_7
    try clear hcz5_8
    try clear hcz5_9
    try clear hfz5_5
    obtain ⟨x5_1, x14_1, rfl, HA, HK1, HO_5, HI0, HK, HB⟩ := hrel
    cases gk with
    | zero => exact absurd HA.out (by simp [impl_Machine_framesIn.l0])
    | succ k1 =>
      have H := HA.out
      clear HA
      simp only [impl_Machine_framesIn.l0] at H
      by_cases c6 : x14_1 < (s0_1.length : Int)
      · rw [if_pos c6] at H
        have c6b0 : decide (x14_1 < (s0_1.length : Int)) = true := decide_eq_true c6
        clear c6
        by_cases c7 : 0 ≤ x14_1
        · rw [if_pos c7] at H
          have c7b0 : decide (0 ≤ x14_1) = true := decide_eq_true c7
          clear c7
          by_cases c8 : x14_1 < (s0_1.length : Int)
          · rw [if_pos c8] at H
            have c8b0 : decide (x14_1 < (s0_1.length : Int)) = true := decide_eq_true c8
            clear c8
            by_cases c9 : (rd s0_1 x14_1) = a1
            · rw [if_pos c9] at H
              have c9b0 : ((rd s0_1 x14_1) == a1) = true := beq_iff_eq.mpr c9
              have c9b1 : ((rd s0_1 x14_1) != a1) = false := bne_eq_false_iff_eq.mpr c9
              clear c9
              by_cases c10 : x5_1.length < 17592186044416
              · rw [if_pos c10] at H
                have LMc10 := Aside0.mk c10
                clear c10
                obtain ⟨y554, hy554⟩ : ∃ y_ : List Int, y_ = (x5_1 ++ [x14_1]) := ⟨_, rfl⟩
                replace H : (impl_Machine_framesIn.l0 k1 a1 y554 s0_1 (s0_1.length : Int) (wrap64 (x14_1 + 1)) s0_0 s0_1 s0_2 s0_3 s0_4 s0_5 s0_6 s0_7 s0_8 s0_9) = some (r1, r2) := by first | (rw [hy554]; with_reducible exact H) | (have H2_ := (Option.bind_some _ _).symm.trans H; rw [hy554]; with_reducible exact H2_) | (have H2_ := (Option.bind_some _ _).symm.trans H; with_reducible exact H2_) | with_reducible exact H | (rw [hy554]; exact H) | exact H
                have Ny554 := Aside0.mk hy554
                clear hy554
                have H' := Aside0.mk H
                clear H
                obtain ⟨ASz11_0, cSz11_0, ASz11_1, cSz11_1, ASz11_2, cSz11_2, ASz11_3, cSz11_3, ASz11_4, cSz11_4, ASz11_6, cSz11_6, ASz11_7, cSz11_7, ASz11_8, cSz11_8, ASz11_9, cSz11_9, HGz11, hgz11, HSz11_0, HSz11_1, HSz11_2, HSz11_3, HSz11_4, HSz11_6, HSz11_7, HSz11_8, HSz11_9⟩ := HI0.out
                have hcz11_0 := cellS56_0 HGz11
                have hcz11_1 := cellS56_1 HGz11
                have hcz11_2 := cellS56_2 HGz11
                have hcz11_3 := cellS56_3 HGz11
                have hcz11_4 := cellS56_4 HGz11
                have hcz11_5 := cellS56_5 HGz11
                have hcz11_6 := cellS56_6 HGz11
                have hcz11_7 := cellS56_7 HGz11
                have hcz11_8 := cellS56_8 HGz11
                have hcz11_9 := cellS56_9 HGz11
                have hfz11_5 := blk_frozen HGz11 5
                clear HGz11 hgz11
                have p553 : 0 ≤ (x14_1 : Int) := of_decide_eq_true (by first | (with_reducible assumption) | assumption)
                have q553 : x14_1 < (s0_1.length : Int) := of_decide_eq_true (by first | (with_reducible assumption) | assumption)
                obtain ⟨ad553, e553, hx553_0⟩ := Kd.at_int HSz5_1 x14_1 p553 q553
                cases e553
                replace hx553_0 := pw_cell_below HB.out hx553_0
                replace p553 := eq_true p553
                replace q553 := eq_true q553
                go_wp2_with (first | ((with_reducible refine gate_builtin (b := .append) (xs := #[.tmp 22, .tmp 24]) rfl ?_); at_builtin; refine Kd.R_append (Kd.int .i64) w.heap.size rfl (.tmp 22) (.tmp 24) 38 3 (.int .i64 0) 8 rfl Try.underlying38 info3 rfl (by decide) (by omega) u5 x5_1 x14_1 [.int .i64 x14_1] (fun _ => True) (fun _ => False) rfl rfl ?aP (fun _ hk => hk.elim) ?aF ?aO (Below.refl _ _) ?aS ?aL ?_; (case aP => exact rfl); (case aF => exact (fun _ _ => trivial)); (case aO => exact (by (with_reducible repeat (first | apply Kd.R_alloc | apply Kd.R_drewN | apply Kd.R_drew)); exact HO_5.out)); (case aS => exact (keep_size (w := w) (g := g) (row := none) (by repeat (first | (with_reducible first | exact HK.out | apply KeepBut.set_ | apply keep_drewN | apply keep_drew | apply keep_alloc) | exact HK.out)))); (case aL => have := LMc10.out; omega); intro v555 w12 ho hb hg hat; rw [← Ny554.out] at ho; have n0_ := Aside0.mk (IsS56.grown (by repeat (first | (with_reducible first | exact HI0.out | apply IsS56.alloc | apply IsS56.drewN | apply IsS56.drew | apply IsS56.set_5) | exact HI0.out)) hg (IsS56.own_ne HI0.out HO_5.out (by decide))); have n1_ := Aside0.mk (below_weaken (by repeat (first | (with_reducible first | exact HB.out | apply below_alloc | apply pw_below_drewN | apply below_drew1 | refine below_set ?_ (IsS56.ge HI0.out)) | exact HB.out)) HL.out hb); have n2_ := Aside0.mk (KeepBut.trans (by repeat (first | (with_reducible first | exact HK.out | apply KeepBut.set_ | apply keep_drewN | apply keep_drew | apply keep_alloc) | exact HK.out)) (KeepBut.of_grown hg g) (Kd.R_base2 HO_5.out)); have n3_ := Aside0.mk (ho); clear HI0; clear HB; clear HK; clear HO_5; have HI0 := n0_; have HB := n1_; have HK := n2_; have HO556 := n3_; clear n0_ n1_ n2_ n3_; clear ho hb hg hat))
                go_roundg k1
                case measure => have := HK1.out; omega
                case rel => exact ⟨(y554), (wrap64 (x14_1 + 1)), (by first | rfl | (simp; done) | (simp [*]; done)), H', ⟨by have := HK1.out; omega⟩, ⟨by (with_reducible repeat (first | apply Kd.R_alloc | apply Kd.R_drewN | apply Kd.R_drew)); exact HO556.out⟩, ⟨by repeat (first | (with_reducible first | exact HI0.out | apply IsS56.alloc | apply IsS56.drewN | apply IsS56.drew | apply IsS56.set_5) | exact HI0.out)⟩, ⟨by repeat (first | (with_reducible first | exact HK.out | apply KeepBut.set_ | apply keep_drewN | apply keep_drew | apply keep_alloc) | exact HK.out)⟩, ⟨by repeat (first | (with_reducible first | exact HB.out | apply below_alloc | apply pw_below_drewN | apply below_drew1 | refine below_set ?_ (IsS56.ge HI0.out)) | exact HB.out)⟩⟩
              · rw [if_neg c10] at H
                exact absurd H (by simp)
            · rw [if_neg c9] at H
              have c9b0 : ((rd s0_1 x14_1) == a1) = false := beq_eq_false_iff_ne.mpr c9
              have c9b1 : ((rd s0_1 x14_1) != a1) = true := bne_iff_ne.mpr c9
              have H' := Aside0.mk H
              clear H
              obtain ⟨ASz13_0, cSz13_0, ASz13_1, cSz13_1, ASz13_2, cSz13_2, ASz13_3, cSz13_3, ASz13_4, cSz13_4, ASz13_6, cSz13_6, ASz13_7, cSz13_7, ASz13_8, cSz13_8, ASz13_9, cSz13_9, HGz13, hgz13, HSz13_0, HSz13_1, HSz13_2, HSz13_3, HSz13_4, HSz13_6, HSz13_7, HSz13_8, HSz13_9⟩ := HI0.out
              have hcz13_0 := cellS56_0 HGz13
              have hcz13_1 := cellS56_1 HGz13
              have hcz13_2 := cellS56_2 HGz13
              have hcz13_3 := cellS56_3 HGz13
              have hcz13_4 := cellS56_4 HGz13
              have hcz13_5 := cellS56_5 HGz13
              have hcz13_6 := cellS56_6 HGz13
              have hcz13_7 := cellS56_7 HGz13
              have hcz13_8 := cellS56_8 HGz13
              have hcz13_9 := cellS56_9 HGz13
              have hfz13_5 := blk_frozen HGz13 5
              clear HGz13 hgz13
              have p553 : 0 ≤ (x14_1 : Int) := of_decide_eq_true (by first | (with_reducible assumption) | assumption)
              have q553 : x14_1 < (s0_1.length : Int) := of_decide_eq_true (by first | (with_reducible assumption) | assumption)
              obtain ⟨ad553, e553, hx553_0⟩ := Kd.at_int HSz5_1 x14_1 p553 q553
              cases e553
              replace hx553_0 := pw_cell_below HB.out hx553_0
              replace p553 := eq_true p553
              replace q553 := eq_true q553
              go_wp2
              go_roundg k1
              case measure => have := HK1.out; omega
              case rel => exact ⟨(x5_1), (wrap64 (x14_1 + 1)), (by first | rfl | (simp; done) | (simp [*]; done)), H', ⟨by have := HK1.out; omega⟩, ⟨by (with_reducible repeat (first | apply Kd.R_alloc | apply Kd.R_drewN | apply Kd.R_drew)); exact HO_5.out⟩, ⟨by repeat (first | (with_reducible first | exact HI0.out | apply IsS56.alloc | apply IsS56.drewN | apply IsS56.drew | apply IsS56.set_5) | exact HI0.out)⟩, ⟨by repeat (first | (with_reducible first | exact HK.out | apply KeepBut.set_ | apply keep_drewN | apply keep_drew | apply keep_alloc) | exact HK.out)⟩, ⟨by repeat (first | (with_reducible first | exact HB.out | apply below_alloc | apply pw_below_drewN | apply below_drew1 | refine below_set ?_ (IsS56.ge HI0.out)) | exact HB.out)⟩⟩
          · rw [if_neg c8] at H
            exact absurd H (by simp)
        · rw [if_neg c7] at H
          exact absurd H (by simp)
      · rw [if_neg c6] at H
        have c6b0 : decide (x14_1 < (s0_1.length : Int)) = false := decide_eq_false c6
        clear c6
        simp only [Option.some.injEq, Prod.mk.injEq] at H
        obtain ⟨rfl, rfl⟩ := H
        go_wp2
        go_ret
        exact ⟨_, by first | rfl | (simp [errW_none, errW_some] <;> rfl) | (simp [*, errW_none, errW_some] <;> rfl), by (with_reducible repeat (first | apply Kd.R_alloc | apply Kd.R_drewN | apply Kd.R_drew)); exact HO_5.out, by repeat (first | (with_reducible first | exact HI0.out | apply IsS56.alloc | apply IsS56.drewN | apply IsS56.drew | apply IsS56.set_5) | exact HI0.out), by repeat (first | (with_reducible first | exact HB.out | apply below_alloc | apply pw_below_drewN | apply below_drew1 | refine below_set ?_ (IsS56.ge HI0.out)) | exact HB.out), by repeat (first | (with_reducible first | exact HK.out | apply KeepBut.set_ | apply keep_drewN | apply keep_drew | apply keep_alloc) | exact HK.out)⟩

end Go.Proofs.Ytbkahdpmpmalhaa.P
end
section
namespace Go.Proofs.Ytbkahdpmpmalhaa.P
open Go.RowKit Go.Proofs.YtbkahdpmpmalhaaW.PrintWords Go.Proofs.YtbkahdpmpmalhaaW.PrintLast Go.Proofs.YtbkahdpmpmalhaaW.PrintMore
attribute [local go_sem] max2_int min2_int max_two min_two max_three min_three max_four min_four   -- for this text's walks alone
set_option linter.unusedVariables false
set_option linter.unusedSimpArgs false

/-! ### impl_CountOf: function 28 -/
def impl_CountOf.f (k : Nat) (l0_0 : List (List Int)) (l0_1 : List Int) (l0_2 : List S149) (l0_3 : List S76) (l0_4 : List S153) (a0_5 : Int) (l0_6 : List S116) (l0_7 : List S157) (l0_8 : List Int) (l0_9 : List Int) (a1 : Int) : Option Int := (impl_Machine_framesIn.f k l0_0 l0_1 l0_2 l0_3 l0_4 a0_5 l0_6 l0_7 l0_8 l0_9 a1).bind fun t => (some (t.1.length : Int))
theorem impl_CountOf.mono : ∀ a0 a1 a2 a3 a4 a5 a6 a7 a8 a9 a10 k, LeO (impl_CountOf.f k a0 a1 a2 a3 a4 a5 a6 a7 a8 a9 a10) (impl_CountOf.f (k + 1) a0 a1 a2 a3 a4 a5 a6 a7 a8 a9 a10) := by
  intro a0 a1 a2 a3 a4 a5 a6 a7 a8 a9 a10 k
  unfold impl_CountOf.f
  exact LeO.bind (impl_Machine_framesIn.mono _ _ _ _ _ _ _ _ _ _ _ _) (fun _ => LeO.refl _)
set_option maxHeartbeats 8000000 in
set_option maxRecDepth 100000 in
theorem impl_CountOf.calls (k : Nat) (A0_0 : Option Addr) (c0_0 : Nat) (l0_0 : List (List Int)) (A0_1 : Option Addr) (c0_1 : Nat) (l0_1 : List Int) (A0_2 : Option Addr) (c0_2 : Nat) (l0_2 : List S149) (A0_3 : Option Addr) (c0_3 : Nat) (l0_3 : List S76) (A0_4 : Option Addr) (c0_4 : Nat) (l0_4 : List S153) (a0_5 : Int) (A0_6 : Option Addr) (c0_6 : Nat) (l0_6 : List S116) (A0_7 : Option Addr) (c0_7 : Nat) (l0_7 : List S157) (A0_8 : Option Addr) (c0_8 : Nat) (l0_8 : List Int) (A0_9 : Option Addr) (c0_9 : Nat) (l0_9 : List Int) (a1 : Int) (r : Int) (w : World) (hr0_0 : Kd.C (Kd.slice 3 (Kd.int .i64)) w A0_0 l0_0.length l0_0) (hc0_0 : l0_0.length ≤ c0_0) (hr0_1 : Kd.C (Kd.int .i64) w A0_1 l0_1.length l0_1) (hc0_1 : l0_1.length ≤ c0_1) (hr0_2 : Kd.C k149 w A0_2 l0_2.length l0_2) (hc0_2 : l0_2.length ≤ c0_2) (hr0_3 : Kd.C k76 w A0_3 l0_3.length l0_3) (hc0_3 : l0_3.length ≤ c0_3) (hr0_4 : Kd.C k153 w A0_4 l0_4.length l0_4) (hc0_4 : l0_4.length ≤ c0_4) (hr0_6 : Kd.C k116 w A0_6 l0_6.length l0_6) (hc0_6 : l0_6.length ≤ c0_6) (hr0_7 : Kd.C k157 w A0_7 l0_7.length l0_7) (hc0_7 : l0_7.length ≤ c0_7) (hr0_8 : Kd.C (Kd.int .i64) w A0_8 l0_8.length l0_8) (hc0_8 : l0_8.length ≤ c0_8) (hr0_9 : Kd.C (Kd.int .i64) w A0_9 l0_9.length l0_9) (hc0_9 : l0_9.length ≤ c0_9) (h : impl_CountOf.f k l0_0 l0_1 l0_2 l0_3 l0_4 a0_5 l0_6 l0_7 l0_8 l0_9 a1 = some r) :
    Calls Try.prog 28 #[.agg #[.slice A0_0 l0_0.length c0_0, .slice A0_1 l0_1.length c0_1, .slice A0_2 l0_2.length c0_2, .slice A0_3 l0_3.length c0_3, .slice A0_4 l0_4.length c0_4, .int .i64 a0_5, .slice A0_6 l0_6.length c0_6, .slice A0_7 l0_7.length c0_7, .slice A0_8 l0_8.length c0_8, .slice A0_9 l0_9.length c0_9], .int .i64 a1] w fun e w' => e = .returned (.int .i64 r) ∧ Below w.heap.size w w' := by
  have hu56 := Try.underlying56
  have HR0_0 := Aside0.mk hr0_0
  have HC0_0 := Aside0.mk hc0_0
  clear hr0_0 hc0_0
  have HR0_1 := Aside0.mk hr0_1
  have HC0_1 := Aside0.mk hc0_1
  clear hr0_1 hc0_1
  have HR0_2 := Aside0.mk hr0_2
  have HC0_2 := Aside0.mk hc0_2
  clear hr0_2 hc0_2
  have HR0_3 := Aside0.mk hr0_3
  have HC0_3 := Aside0.mk hc0_3
  clear hr0_3 hc0_3
  have HR0_4 := Aside0.mk hr0_4
  have HC0_4 := Aside0.mk hc0_4
  clear hr0_4 hc0_4
  have HR0_6 := Aside0.mk hr0_6
  have HC0_6 := Aside0.mk hc0_6
  clear hr0_6 hc0_6
  have HR0_7 := Aside0.mk hr0_7
  have HC0_7 := Aside0.mk hc0_7
  clear hr0_7 hc0_7
  have HR0_8 := Aside0.mk hr0_8
  have HC0_8 := Aside0.mk hc0_8
  clear hr0_8 hc0_8
  have HR0_9 := Aside0.mk hr0_9
  have HC0_9 := Aside0.mk hc0_9
  clear hr0_9 hc0_9
  have HB := Aside0.mk (Below.refl w.heap.size w)
  have H := h
  clear h
  unfold impl_CountOf.f at H
  obtain ⟨⟨t, t2⟩, A3, H⟩ := Option.bind_eq_some_iff.mp H
  have A3 := Aside0.mk A3
  obtain rfl := Option.some.inj H
  go_enter Try.func28, Try.ntmps28
  go_wp2_with (first | ((with_reducible refine gate_dst (N := 2) rfl ?_); refine box_event ?hg (N := 2) ?hd (cs := #[.slice A0_0 l0_0.length c0_0, .slice A0_1 l0_1.length c0_1, .slice A0_2 l0_2.length c0_2, .slice A0_3 l0_3.length c0_3, .slice A0_4 l0_4.length c0_4, .int .i64 a0_5, .slice A0_6 l0_6.length c0_6, .slice A0_7 l0_7.length c0_7, .slice A0_8 l0_8.length c0_8, .slice A0_9 l0_9.length c0_9]) (t := 56) ?hr ?_; (case hd => rfl); (case hg => rfl); (case hr => first | (go_simp; done) | (go_simp; rfl)); intro gb hg w4 hbox hb; have n0_ := Aside0.mk (below_step (by repeat (first | (with_reducible first | exact HB.out | apply below_alloc | apply pw_below_drewN | apply below_drew1) | exact HB.out)) hb); have n1_ := Aside0.mk hbox; have n2_ := Aside0.mk ((by rw [hg]; exact (below_size (by repeat (first | (with_reducible first | exact HB.out | apply below_alloc | apply pw_below_drewN | apply below_drew1) | exact HB.out))) : w.heap.size ≤ gb)); clear HB; have HB := n0_; have BK := n1_; have GW := n2_; clear n0_ n1_ n2_; clear hb hbox hg) | ((with_reducible refine gate_callee (f := 74) rfl ?_); refine goesL_ (some 6) rfl rfl Try.func74 (by kernel_rfl) rfl #[.pointer (some ⟨gb, 0, none⟩), .int .i64 a1] rfl (by (try simp only [List.map_toArray, List.map_cons, List.map_nil]); first | done | rfl) ?_; (with_reducible refine (impl_Machine_framesIn.calls k gb l0_0 l0_1 l0_2 l0_3 l0_4 a0_5 l0_6 l0_7 l0_8 l0_9 a1 t t2 w _ ?sI ?sB A3.out).mono ?_); (case sI => exact ⟨_, _, _, _, _, _, _, _, _, _, _, _, _, _, _, _, _, _, (by (with_reducible repeat (first | refine blk_drewN ?_ _ | refine blk_drew ?_ | refine blk_alloc ?_ _)); exact BK.out), GW.out, HR0_0.out, HR0_1.out, HR0_2.out, HR0_3.out, HR0_4.out, HR0_6.out, HR0_7.out, HR0_8.out, HR0_9.out⟩); (case sB => exact (by repeat (first | (with_reducible first | exact HB.out | apply below_alloc | apply pw_below_drewN | apply below_drew1) | exact HB.out))); rintro e w9 ⟨v9, rfl, ho, hi, hb, hk⟩; refine ⟨_, rfl, ?_⟩; obtain ⟨A9_, c9_, e9_⟩ := Kd.R_slice ho; subst e9_; clear HB; have HB := Aside0.mk hb; clear hb hi hk))
  go_ret
  exact ⟨rfl, HB.out⟩

end Go.Proofs.Ytbkahdpmpmalhaa.P
end
section
namespace Go.Proofs.Ytbkahdpmpmalhaa.P
open Go.RowKit Go.Proofs.YtbkahdpmpmalhaaW.PrintWords Go.Proofs.YtbkahdpmpmalhaaW.PrintLast Go.Proofs.YtbkahdpmpmalhaaW.PrintMore
attribute [local go_sem] max2_int min2_int max_two min_two max_three min_three max_four min_four   -- for this text's walks alone
set_option linter.unusedVariables false
set_option linter.unusedSimpArgs false

/-! ### laws_eqBoolS: function 107 -/
def laws_eqBoolS.l0 : Nat → List Bool → List Bool → Int → Option (Bool)
  | 0, _, _, _ => none
  | k + 1, x0, x1, x5 => if x5 < (x0.length : Int) then (if 0 ≤ x5 then (if x5 < (x1.length : Int) then (if ((rdOf false x0 x5) != (rdOf false x1 x5)) = true then (some false) else (laws_eqBoolS.l0 k x0 x1 (wrap64 (x5 + 1)))) else (none)) else (none)) else (some true)
def laws_eqBoolS.f (k : Nat) (l0 : List Bool) (l1 : List Bool) : Option (Bool) := if (l0.length : Int) = (l1.length : Int) then (laws_eqBoolS.l0 k l0 l1 0) else (some false)
theorem laws_eqBoolS.mono_l : ∀ k, (∀ y0 y1 y2, LeO (laws_eqBoolS.l0 k y0 y1 y2) (laws_eqBoolS.l0 (k + 1) y0 y1 y2))
  | 0 => fun _ _ _ r h => by simp [laws_eqBoolS.l0] at h
  | k + 1 => by
    have ih0 := laws_eqBoolS.mono_l k
    · intro y0 y1 y2
      unfold laws_eqBoolS.l0
      repeat' first
      | (with_reducible exact ih0 _ _ _)
      | (with_reducible exact LeO.refl _)
      | (with_reducible exact LeO.none _)
      | (with_reducible refine LeO.ite ?_ ?_)
      | (with_reducible refine LeO.bind ?_ (fun _ => ?_))
      | exact ih0 _ _ _
      | exact LeO.none _
      | refine LeO.ite ?_ ?_
      | refine LeO.bind ?_ (fun _ => ?_)
theorem laws_eqBoolS.mono : ∀ a0 a1 k, LeO (laws_eqBoolS.f k a0 a1) (laws_eqBoolS.f (k + 1) a0 a1) := by
  intro a0 a1 k
  have ih0 := laws_eqBoolS.mono_l k
  unfold laws_eqBoolS.f
  repeat' first
      | (with_reducible exact ih0 _ _ _)
      | (with_reducible exact LeO.refl _)
      | (with_reducible exact LeO.none _)
      | (with_reducible refine LeO.ite ?_ ?_)
      | (with_reducible refine LeO.bind ?_ (fun _ => ?_))
      | exact ih0 _ _ _
      | exact LeO.none _
      | refine LeO.ite ?_ ?_
      | refine LeO.bind ?_ (fun _ => ?_)
set_option maxHeartbeats 8000000 in
set_option maxRecDepth 100000 in
theorem laws_eqBoolS.calls (k : Nat) (A0 : Option Addr) (c0 : Nat) (l0 : List Bool) (A1 : Option Addr) (c1 : Nat) (l1 : List Bool) (r : Bool) (w : World) (hr0 : Kd.C Kd.bool w A0 l0.length l0) (hc0 : l0.length ≤ c0) (hr1 : Kd.C Kd.bool w A1 l1.length l1) (hc1 : l1.length ≤ c1) (h : laws_eqBoolS.f k l0 l1 = some r) :
    Calls Try.prog 107 #[.slice A0 l0.length c0, .slice A1 l1.length c1] w fun e w' => e = .returned (.bool r) ∧ Drawn0 w w' := by
  have HR0 := Aside0.mk hr0
  have HC0 := Aside0.mk hc0
  clear hr0 hc0
  have HR1 := Aside0.mk hr1
  have HC1 := Aside0.mk hc1
  clear hr1 hc1
  have H : (if (l0.length : Int) = (l1.length : Int) then (laws_eqBoolS.l0 k l0 l1 0) else (some false)) = some r := h
  clear h
  by_cases c3 : (l0.length : Int) = (l1.length : Int)
  · rw [if_pos c3] at H
    have c3b0 : ((l0.length : Int) == (l1.length : Int)) = true := beq_iff_eq.mpr c3
    have c3b1 : ((l0.length : Int) != (l1.length : Int)) = false := bne_eq_false_iff_eq.mpr c3
    have c3b2 : (l0.length == l1.length) = true := by first | simpa using c3 | (simp at c3 ⊢; omega)
    clear c3
    have H' := Aside0.mk H
    clear H
    go_enter Try.func107, Try.ntmps107
    go_wp2
    repeat (go_quiet (fail); try go_wp2)
    go_loopg [5] k (fun kq v5 w' => ∃ (x5_1 : Int), v5 = .int .i64 x5_1 ∧ Aside0 (laws_eqBoolS.l0 kq l0 l1 x5_1 = some r) ∧ Aside0 (kq ≤ k) ∧ Drawn0 w w')
    case atStart => exact ⟨(0), (by first | rfl | (simp; done) | (simp [*]; done)), H', ⟨Nat.le_refl _⟩, by repeat (first | exact Drawn0.refl _ | apply Drawn0.step)⟩
    case round =>
      clear H'
      try clear c1
      try clear p2
      try clear c3
      try clear c3b0
      try clear c3b1
      try clear c3b2
      obtain ⟨x5_1, rfl, HA, HK1, ⟨m1, rfl⟩⟩ := hrel
      cases gk with
      | zero => exact absurd HA.out (by simp [laws_eqBoolS.l0])
      | succ k1 =>
        have H := HA.out
        clear HA
        simp only [laws_eqBoolS.l0] at H
        by_cases c4 : x5_1 < (l0.length : Int)
        · rw [if_pos c4] at H
          have c4b0 : decide (x5_1 < (l0.length : Int)) = true := decide_eq_true c4
          clear c4
          by_cases c5 : 0 ≤ x5_1
          · rw [if_pos c5] at H
            have c5b0 : decide (0 ≤ x5_1) = true := decide_eq_true c5
            clear c5
            by_cases c6 : x5_1 < (l1.length : Int)
            · rw [if_pos c6] at H
              have c6b0 : decide (x5_1 < (l1.length : Int)) = true := decide_eq_true c6
              clear c6
              by_cases c7 : ((rdOf false l0 x5_1) != (rdOf false l1 x5_1)) = true
              · rw [if_pos c7] at H
                have c7b0 : ((rdOf false l0 x5_1) != (rdOf false l1 x5_1)) = true := c7
                (try (have c7b1 : decide ((rdOf false l0 x5_1) = (rdOf false l1 x5_1)) = false := by simpa using c7))
                (try (have c7b2 : ((rdOf false l0 x5_1) == (rdOf false l1 x5_1)) = false := by simpa using c7))
                (try (have c7b3 : ¬ ((rdOf false l0 x5_1) = (rdOf false l1 x5_1)) := by simpa using c7))
                clear c7
                obtain rfl := Option.some.inj H
                have p209 : 0 ≤ (x5_1 : Int) := of_decide_eq_true (by first | (with_reducible assumption) | assumption)
                have q209 : x5_1 < (l0.length : Int) := of_decide_eq_true (by first | (with_reducible assumption) | assumption)
                obtain ⟨ad209, e209, hx209_0⟩ := Kd.at_bool HR0.out x5_1 p209 q209
                cases e209
                replace p209 := eq_true p209
                replace q209 := eq_true q209
                have p210 : 0 ≤ (x5_1 : Int) := of_decide_eq_true (by first | (with_reducible assumption) | assumption)
                have q210 : x5_1 < (l1.length : Int) := of_decide_eq_true (by first | (with_reducible assumption) | assumption)
                obtain ⟨ad210, e210, hx210_0⟩ := Kd.at_bool HR1.out x5_1 p210 q210
                cases e210
                replace p210 := eq_true p210
                replace q210 := eq_true q210
                go_wp2
                repeat (go_quiet (fail); try go_wp2)
                go_ret
                exact ⟨by first | rfl | (simp; done) | (simp [*]; done), by repeat (first | exact Drawn0.refl _ | apply Drawn0.step)⟩
              · rw [if_neg c7] at H
                have c7b0 : ((rdOf false l0 x5_1) != (rdOf false l1 x5_1)) = false := by simpa using c7
                (try (have c7b1 : decide ((rdOf false l0 x5_1) = (rdOf false l1 x5_1)) = true := by simpa using c7))
                (try (have c7b2 : ((rdOf false l0 x5_1) == (rdOf false l1 x5_1)) = true := by simpa using c7))
                clear c7
                have H' := Aside0.mk H
                clear H
                have p209 : 0 ≤ (x5_1 : Int) := of_decide_eq_true (by first | (with_reducible assumption) | assumption)
                have q209 : x5_1 < (l0.length : Int) := of_decide_eq_true (by first | (with_reducible assumption) | assumption)
                obtain ⟨ad209, e209, hx209_0⟩ := Kd.at_bool HR0.out x5_1 p209 q209
                cases e209
                replace p209 := eq_true p209
                replace q209 := eq_true q209
                have p210 : 0 ≤ (x5_1 : Int) := of_decide_eq_true (by first | (with_reducible assumption) | assumption)
                have q210 : x5_1 < (l1.length : Int) := of_decide_eq_true (by first | (with_reducible assumption) | assumption)
                obtain ⟨ad210, e210, hx210_0⟩ := Kd.at_bool HR1.out x5_1 p210 q210
                cases e210
                replace p210 := eq_true p210
                replace q210 := eq_true q210
                go_wp2
                repeat (go_quiet (fail); try go_wp2)
                go_roundg k1
                case measure => have := HK1.out; omega
                case rel => exact ⟨(wrap64 (x5_1 + 1)), (by first | rfl | (simp; done) | (simp [*]; done)), H', ⟨by have := HK1.out; omega⟩, by repeat (first | exact Drawn0.refl _ | apply Drawn0.step)⟩
            · rw [if_neg c6] at H
              exact absurd H (by simp)
          · rw [if_neg c5] at H
            exact absurd H (by simp)
        · rw [if_neg c4] at H
          have c4b0 : decide (x5_1 < (l0.length : Int)) = false := decide_eq_false c4
          clear c4
          obtain rfl := Option.some.inj H
          go_wp2
          repeat (go_quiet (fail); try go_wp2)
          go_ret
          exact ⟨by first | rfl | (simp; done) | (simp [*]; done), by repeat (first | exact Drawn0.refl _ | apply Drawn0.step)⟩
  · rw [if_neg c3] at H
    have c3b0 : ((l0.length : Int) == (l1.length : Int)) = false := beq_eq_false_iff_ne.mpr c3
    have c3b1 : ((l0.length : Int) != (l1.length : Int)) = true := bne_iff_ne.mpr c3
    have c3b2 : (l0.length == l1.length) = false := by first | simpa using c3 | (simp at c3 ⊢; omega)
    obtain rfl := Option.some.inj H
    go_enter Try.func107, Try.ntmps107
    go_wp2
    repeat (go_quiet (fail); try go_wp2)
    go_ret
    exact ⟨by first | rfl | (simp; done) | (simp [*]; done), by repeat (first | exact Drawn0.refl _ | apply Drawn0.step)⟩

end Go.Proofs.Ytbkahdpmpmalhaa.P
end
section
namespace Go.Proofs.Ytbkahdpmpmalhaa.P
open Go.RowKit Go.Proofs.YtbkahdpmpmalhaaW.PrintWords Go.Proofs.YtbkahdpmpmalhaaW.PrintLast Go.Proofs.YtbkahdpmpmalhaaW.PrintMore
attribute [local go_sem] max2_int min2_int max_two min_two max_three min_three max_four min_four   -- for this text's walks alone
set_option linter.unusedVariables false
set_option linter.unusedSimpArgs false

/-! ### laws_eqSlab: function 52 -/
def laws_eqSlab.f (k : Nat) (a0_0 : Int) (a0_1 : Int) (l0_2 : List Bool) (a1_0 : Int) (a1_1 : Int) (l1_2 : List Bool) : Option (Bool) := if a0_0 = a1_0 then (if a0_1 = a1_1 then ((laws_eqBoolS.f k l0_2 l1_2).bind fun t213 => (if t213 = true then (some true) else (some false))) else (some false)) else (some false)
theorem laws_eqSlab.mono : ∀ a0 a1 a2 a3 a4 a5 k, LeO (laws_eqSlab.f k a0 a1 a2 a3 a4 a5) (laws_eqSlab.f (k + 1) a0 a1 a2 a3 a4 a5) := by
  intro a0 a1 a2 a3 a4 a5 k
  unfold laws_eqSlab.f
  repeat' first
      | (with_reducible exact laws_eqBoolS.mono _ _ _)
      | (with_reducible exact LeO.refl _)
      | (with_reducible exact LeO.none _)
      | (with_reducible refine LeO.ite ?_ ?_)
      | (with_reducible refine LeO.bind ?_ (fun _ => ?_))
      | exact laws_eqBoolS.mono _ _ _
      | exact LeO.none _
      | refine LeO.ite ?_ ?_
      | refine LeO.bind ?_ (fun _ => ?_)
set_option maxHeartbeats 8000000 in
set_option maxRecDepth 100000 in
theorem laws_eqSlab.calls (k : Nat) (a0_0 : Int) (a0_1 : Int) (A0_2 : Option Addr) (c0_2 : Nat) (l0_2 : List Bool) (a1_0 : Int) (a1_1 : Int) (A1_2 : Option Addr) (c1_2 : Nat) (l1_2 : List Bool) (r : Bool) (w : World) (hr0_2 : Kd.C Kd.bool w A0_2 l0_2.length l0_2) (hc0_2 : l0_2.length ≤ c0_2) (hr1_2 : Kd.C Kd.bool w A1_2 l1_2.length l1_2) (hc1_2 : l1_2.length ≤ c1_2) (h : laws_eqSlab.f k a0_0 a0_1 l0_2 a1_0 a1_1 l1_2 = some r) :
    Calls Try.prog 52 #[.agg #[.int .i64 a0_0, .int .i64 a0_1, .slice A0_2 l0_2.length c0_2], .agg #[.int .i64 a1_0, .int .i64 a1_1, .slice A1_2 l1_2.length c1_2]] w fun e w' => e = .returned (.bool r) ∧ Below w.heap.size w w' := by
  have hu76 := Try.underlying76
  have HR0_2 := Aside0.mk hr0_2
  have HC0_2 := Aside0.mk hc0_2
  clear hr0_2 hc0_2
  have HR1_2 := Aside0.mk hr1_2
  have HC1_2 := Aside0.mk hc1_2
  clear hr1_2 hc1_2
  have HB := Aside0.mk (Below.refl w.heap.size w)
  have H : (if a0_0 = a1_0 then (if a0_1 = a1_1 then ((laws_eqBoolS.f k l0_2 l1_2).bind fun t213 => (if t213 = true then (some true) else (some false))) else (some false)) else (some false)) = some r := h
  clear h
  by_cases c3 : a0_0 = a1_0
  · rw [if_pos c3] at H
    have c3b0 : (a0_0 == a1_0) = true := beq_iff_eq.mpr c3
    have c3b1 : (a0_0 != a1_0) = false := bne_eq_false_iff_eq.mpr c3
    clear c3
    by_cases c4 : a0_1 = a1_1
    · rw [if_pos c4] at H
      have c4b0 : (a0_1 == a1_1) = true := beq_iff_eq.mpr c4
      have c4b1 : (a0_1 != a1_1) = false := bne_eq_false_iff_eq.mpr c4
      clear c4
      replace H := Option.bind_eq_some_iff.mp H
      obtain ⟨t213, A50, H⟩ := H
      replace H : (if t213 = true then (some true) else (some false)) = some r := H
      have A5 := Aside0.mk A50
      clear A50
      by_cases c6 : t213 = true
      · subst c6
        have H1 : (some true) = some r := by rw [if_pos rfl] at H; exact H
        clear H
        have H := H1
        clear H1
        obtain rfl := Option.some.inj H
        go_enter Try.func52, Try.ntmps52
        go_wp2_with (first | ((with_reducible refine gate_dst (N := 2) rfl ?_); refine box_event ?hg (N := 2) ?hd (cs := #[.int .i64 a0_0, .int .i64 a0_1, .slice A0_2 l0_2.length c0_2]) (t := 76) ?hr ?_; (case hd => rfl); (case hg => rfl); (case hr => first | (go_simp; done) | (go_simp; rfl)); intro gb211 hg w7 hbox hb; have n0_ := Aside0.mk (below_step (by repeat (first | (with_reducible first | exact HB.out | apply below_alloc | apply pw_below_drewN | apply below_drew1) | exact HB.out)) hb); have n1_ := Aside0.mk (hbox); have n2_ := Aside0.mk ((by rw [hg]; exact (below_size (by repeat (first | (with_reducible first | exact HB.out | apply below_alloc | apply pw_below_drewN | apply below_drew1) | exact HB.out))) : w.heap.size ≤ gb211)); have n3_ := Aside0.mk ((by rw [hg]; exact (below_size (by repeat (first | (with_reducible first | exact HB.out | apply below_alloc | apply pw_below_drewN | apply below_drew1) | exact HB.out))) : w.heap.size ≤ gb211)); clear HB; have HB := n0_; have BK211 := n1_; have GW211 := n2_; have GE211 := n3_; clear n0_ n1_ n2_ n3_; clear hb hbox hg) | ((with_reducible refine gate_dst (N := 3) rfl ?_); refine box_event ?hg (N := 3) ?hd (cs := #[.int .i64 a1_0, .int .i64 a1_1, .slice A1_2 l1_2.length c1_2]) (t := 76) ?hr ?_; (case hd => rfl); (case hg => rfl); (case hr => first | (go_simp; done) | (go_simp; rfl)); intro gb212 hg w8 hbox hb; have n0_ := Aside0.mk (blk_below (g := gb211) (o := .cells #[.int .i64 a0_0, .int .i64 a0_1, .slice A0_2 l0_2.length c0_2] 76 (0, 0)) (by (with_reducible repeat (first | refine blk_drewN ?_ _ | refine blk_drew ?_ | refine blk_alloc ?_ _)); exact BK211.out) hb); have n1_ := Aside0.mk (below_step (by repeat (first | (with_reducible first | exact HB.out | apply below_alloc | apply pw_below_drewN | apply below_drew1 | refine below_set ?_ GE211.out) | exact HB.out)) hb); have n2_ := Aside0.mk (hbox); have n3_ := Aside0.mk ((by rw [hg]; exact (below_size (by repeat (first | (with_reducible first | exact HB.out | apply below_alloc | apply pw_below_drewN | apply below_drew1 | refine below_set ?_ GE211.out) | exact HB.out))) : w.heap.size ≤ gb212)); have n4_ := Aside0.mk ((by rw [hg]; exact (below_size (by repeat (first | (with_reducible first | exact HB.out | apply below_alloc | apply pw_below_drewN | apply below_drew1 | refine below_set ?_ GE211.out) | exact HB.out))) : w.heap.size ≤ gb212)); have n5_ := Aside0.mk ((by rw [hg]; exact Nat.ne_of_lt (blk_lt (g := gb211) (o := .cells #[.int .i64 a0_0, .int .i64 a0_1, .slice A0_2 l0_2.length c0_2] 76 (0, 0)) (by (with_reducible repeat (first | refine blk_drewN ?_ _ | refine blk_drew ?_ | refine blk_alloc ?_ _)); exact BK211.out)) : gb211 ≠ gb212)); have n6_ := Aside0.mk ((by rw [hg]; exact Nat.ne_of_gt (blk_lt (g := gb211) (o := .cells #[.int .i64 a0_0, .int .i64 a0_1, .slice A0_2 l0_2.length c0_2] 76 (0, 0)) (by (with_reducible repeat (first | refine blk_drewN ?_ _ | refine blk_drew ?_ | refine blk_alloc ?_ _)); exact BK211.out)) : gb212 ≠ gb211)); clear BK211; clear HB; have BK211 := n0_; have HB := n1_; have BK212 := n2_; have GW212 := n3_; have GE212 := n4_; have NB211_212 := n5_; have NB212_211 := n6_; clear n0_ n1_ n2_ n3_ n4_ n5_ n6_; clear hb hbox hg; have hnb9 := NB211_212.out; have hnc9 := NB212_211.out; have hcz10_0 : w8.cell? ⟨gb211, 0, none⟩ = some (.int .i64 a0_0) := (blk_cell BK211.out 0).trans rfl; have hcz10_1 : w8.cell? ⟨gb211, 1, none⟩ = some (.int .i64 a0_1) := (blk_cell BK211.out 1).trans rfl; have hcz10_2 : w8.cell? ⟨gb211, 2, none⟩ = some (.slice A0_2 l0_2.length c0_2) := (blk_cell BK211.out 2).trans rfl; have hfz10_0 := blk_frozen BK211.out 0; have hfz10_1 := blk_frozen BK211.out 1; have hfz10_2 := blk_frozen BK211.out 2; have hcz11_0 : w8.cell? ⟨gb212, 0, none⟩ = some (.int .i64 a1_0) := (blk_cell BK212.out 0).trans rfl; have hcz11_1 : w8.cell? ⟨gb212, 1, none⟩ = some (.int .i64 a1_1) := (blk_cell BK212.out 1).trans rfl; have hcz11_2 : w8.cell? ⟨gb212, 2, none⟩ = some (.slice A1_2 l1_2.length c1_2) := (blk_cell BK212.out 2).trans rfl; have hfz11_0 := blk_frozen BK212.out 0; have hfz11_1 := blk_frozen BK212.out 1; have hfz11_2 := blk_frozen BK212.out 2) | ((with_reducible refine gate_callee (f := 107) rfl ?_); refine goesL_ (some 19) rfl rfl Try.func107 (by kernel_rfl) rfl #[.slice A0_2 l0_2.length c0_2, .slice A1_2 l1_2.length c1_2] rfl (by (try simp only [List.map_toArray, List.map_cons, List.map_nil]); first | done | rfl | (simp only [List.length_drop, List.length_take]; rfl)) ?_; (with_reducible refine (laws_eqBoolS.calls k _ _ l0_2 _ _ l1_2 true _ ?side1 ?side2 ?side3 ?side4 A5.out).mono ?_); (case side1 => repeat (first | exact (Kd.C_below HR0_2.out HB.out) | (with_reducible refine Kd.C_alloc ?_ _) | (with_reducible refine Kd.C_drewN ?_ _) | (with_reducible refine Kd.C_drew ?_))); (case side2 => exact HC0_2.out); (case side3 => repeat (first | exact (Kd.C_below HR1_2.out HB.out) | (with_reducible refine Kd.C_alloc ?_ _) | (with_reducible refine Kd.C_drewN ?_ _) | (with_reducible refine Kd.C_drew ?_))); (case side4 => exact HC1_2.out); rintro e w' ⟨rfl, ⟨nd, rfl⟩⟩; refine ⟨_, rfl, ?_⟩))
        go_ret
        exact ⟨by first | rfl | (simp [errW_none, errW_some] <;> rfl) | (simp [*, errW_none, errW_some] <;> rfl), by repeat (first | (with_reducible first | exact HB.out | apply below_alloc | apply pw_below_drewN | apply below_drew1 | refine below_set ?_ GE211.out | refine below_set ?_ GE212.out) | exact HB.out)⟩
      · replace c6 := Bool.eq_false_iff.mpr c6
        subst c6
        have H1 : (some false) = some r := by rw [if_neg (show ¬ (false = true) by decide)] at H; exact H
        clear H
        have H := H1
        clear H1
        obtain rfl := Option.some.inj H
        go_enter Try.func52, Try.ntmps52
        go_wp2_with (first | ((with_reducible refine gate_dst (N := 2) rfl ?_); refine box_event ?hg (N := 2) ?hd (cs := #[.int .i64 a0_0, .int .i64 a0_1, .slice A0_2 l0_2.length c0_2]) (t := 76) ?hr ?_; (case hd => rfl); (case hg => rfl); (case hr => first | (go_simp; done) | (go_simp; rfl)); intro gb211 hg w12 hbox hb; have n0_ := Aside0.mk (below_step (by repeat (first | (with_reducible first | exact HB.out | apply below_alloc | apply pw_below_drewN | apply below_drew1) | exact HB.out)) hb); have n1_ := Aside0.mk (hbox); have n2_ := Aside0.mk ((by rw [hg]; exact (below_size (by repeat (first | (with_reducible first | exact HB.out | apply below_alloc | apply pw_below_drewN | apply below_drew1) | exact HB.out))) : w.heap.size ≤ gb211)); have n3_ := Aside0.mk ((by rw [hg]; exact (below_size (by repeat (first | (with_reducible first | exact HB.out | apply below_alloc | apply pw_below_drewN | apply below_drew1) | exact HB.out))) : w.heap.size ≤ gb211)); clear HB; have HB := n0_; have BK211 := n1_; have GW211 := n2_; have GE211 := n3_; clear n0_ n1_ n2_ n3_; clear hb hbox hg) | ((with_reducible refine gate_dst (N := 3) rfl ?_); refine box_event ?hg (N := 3) ?hd (cs := #[.int .i64 a1_0, .int .i64 a1_1, .slice A1_2 l1_2.length c1_2]) (t := 76) ?hr ?_; (case hd => rfl); (case hg => rfl); (case hr => first | (go_simp; done) | (go_simp; rfl)); intro gb212 hg w13 hbox hb; have n0_ := Aside0.mk (blk_below (g := gb211) (o := .cells #[.int .i64 a0_0, .int .i64 a0_1, .slice A0_2 l0_2.length c0_2] 76 (0, 0)) (by (with_reducible repeat (first | refine blk_drewN ?_ _ | refine blk_drew ?_ | refine blk_alloc ?_ _)); exact BK211.out) hb); have n1_ := Aside0.mk (below_step (by repeat (first | (with_reducible first | exact HB.out | apply below_alloc | apply pw_below_drewN | apply below_drew1 | refine below_set ?_ GE211.out) | exact HB.out)) hb); have n2_ := Aside0.mk (hbox); have n3_ := Aside0.mk ((by rw [hg]; exact (below_size (by repeat (first | (with_reducible first | exact HB.out | apply below_alloc | apply pw_below_drewN | apply below_drew1 | refine below_set ?_ GE211.out) | exact HB.out))) : w.heap.size ≤ gb212)); have n4_ := Aside0.mk ((by rw [hg]; exact (below_size (by repeat (first | (with_reducible first | exact HB.out | apply below_alloc | apply pw_below_drewN | apply below_drew1 | refine below_set ?_ GE211.out) | exact HB.out))) : w.heap.size ≤ gb212)); have n5_ := Aside0.mk ((by rw [hg]; exact Nat.ne_of_lt (blk_lt (g := gb211) (o := .cells #[.int .i64 a0_0, .int .i64 a0_1, .slice A0_2 l0_2.length c0_2] 76 (0, 0)) (by (with_reducible repeat (first | refine blk_drewN ?_ _ | refine blk_drew ?_ | refine blk_alloc ?_ _)); exact BK211.out)) : gb211 ≠ gb212)); have n6_ := Aside0.mk ((by rw [hg]; exact Nat.ne_of_gt (blk_lt (g := gb211) (o := .cells #[.int .i64 a0_0, .int .i64 a0_1, .slice A0_2 l0_2.length c0_2] 76 (0, 0)) (by (with_reducible repeat (first | refine blk_drewN ?_ _ | refine blk_drew ?_ | refine blk_alloc ?_ _)); exact BK211.out)) : gb212 ≠ gb211)); clear BK211; clear HB; have BK211 := n0_; have HB := n1_; have BK212 := n2_; have GW212 := n3_; have GE212 := n4_; have NB211_212 := n5_; have NB212_211 := n6_; clear n0_ n1_ n2_ n3_ n4_ n5_ n6_; clear hb hbox hg; have hnb14 := NB211_212.out; have hnc14 := NB212_211.out; have hcz15_0 : w13.cell? ⟨gb211, 0, none⟩ = some (.int .i64 a0_0) := (blk_cell BK211.out 0).trans rfl; have hcz15_1 : w13.cell? ⟨gb211, 1, none⟩ = some (.int .i64 a0_1) := (blk_cell BK211.out 1).trans rfl; have hcz15_2 : w13.cell? ⟨gb211, 2, none⟩ = some (.slice A0_2 l0_2.length c0_2) := (blk_cell BK211.out 2).trans rfl; have hfz15_0 := blk_frozen BK211.out 0; have hfz15_1 := blk_frozen BK211.out 1; have hfz15_2 := blk_frozen BK211.out 2; have hcz16_0 : w13.cell? ⟨gb212, 0, none⟩ = some (.int .i64 a1_0) := (blk_cell BK212.out 0).trans rfl; have hcz16_1 : w13.cell? ⟨gb212, 1, none⟩ = some (.int .i64 a1_1) := (blk_cell BK212.out 1).trans rfl; have hcz16_2 : w13.cell? ⟨gb212, 2, none⟩ = some (.slice A1_2 l1_2.length c1_2) := (blk_cell BK212.out 2).trans rfl; have hfz16_0 := blk_frozen BK212.out 0; have hfz16_1 := blk_frozen BK212.out 1; have hfz16_2 := blk_frozen BK212.out 2) | ((with_reducible refine gate_callee (f := 107) rfl ?_); refine goesL_ (some 19) rfl rfl Try.func107 (by kernel_rfl) rfl #[.slice A0_2 l0_2.length c0_2, .slice A1_2 l1_2.length c1_2] rfl (by (try simp only [List.map_toArray, List.map_cons, List.map_nil]); first | done | rfl | (simp only [List.length_drop, List.length_take]; rfl)) ?_; (with_reducible refine (laws_eqBoolS.calls k _ _ l0_2 _ _ l1_2 false _ ?side1 ?side2 ?side3 ?side4 A5.out).mono ?_); (case side1 => repeat (first | exact (Kd.C_below HR0_2.out HB.out) | (with_reducible refine Kd.C_alloc ?_ _) | (with_reducible refine Kd.C_drewN ?_ _) | (with_reducible refine Kd.C_drew ?_))); (case side2 => exact HC0_2.out); (case side3 => repeat (first | exact (Kd.C_below HR1_2.out HB.out) | (with_reducible refine Kd.C_alloc ?_ _) | (with_reducible refine Kd.C_drewN ?_ _) | (with_reducible refine Kd.C_drew ?_))); (case side4 => exact HC1_2.out); rintro e w' ⟨rfl, ⟨nd, rfl⟩⟩; refine ⟨_, rfl, ?_⟩))
        go_ret
        exact ⟨by first | rfl | (simp [errW_none, errW_some] <;> rfl) | (simp [*, errW_none, errW_some] <;> rfl), by repeat (first | (with_reducible first | exact HB.out | apply below_alloc | apply pw_below_drewN | apply below_drew1 | refine below_set ?_ GE211.out | refine below_set ?_ GE212.out) | exact HB.out)⟩
    · rw [if_neg c4] at H
      have c4b0 : (a0_1 == a1_1) = false := beq_eq_false_iff_ne.mpr c4
      have c4b1 : (a0_1 != a1_1) = true := bne_iff_ne.mpr c4
      obtain rfl := Option.some.inj H
      go_enter Try.func52, Try.ntmps52
      go_wp2_with (first | ((with_reducible refine gate_dst (N := 2) rfl ?_); refine box_event ?hg (N := 2) ?hd (cs := #[.int .i64 a0_0, .int .i64 a0_1, .slice A0_2 l0_2.length c0_2]) (t := 76) ?hr ?_; (case hd => rfl); (case hg => rfl); (case hr => first | (go_simp; done) | (go_simp; rfl)); intro gb211 hg w17 hbox hb; have n0_ := Aside0.mk (below_step (by repeat (first | (with_reducible first | exact HB.out | apply below_alloc | apply pw_below_drewN | apply below_drew1) | exact HB.out)) hb); have n1_ := Aside0.mk (hbox); have n2_ := Aside0.mk ((by rw [hg]; exact (below_size (by repeat (first | (with_reducible first | exact HB.out | apply below_alloc | apply pw_below_drewN | apply below_drew1) | exact HB.out))) : w.heap.size ≤ gb211)); have n3_ := Aside0.mk ((by rw [hg]; exact (below_size (by repeat (first | (with_reducible first | exact HB.out | apply below_alloc | apply pw_below_drewN | apply below_drew1) | exact HB.out))) : w.heap.size ≤ gb211)); clear HB; have HB := n0_; have BK211 := n1_; have GW211 := n2_; have GE211 := n3_; clear n0_ n1_ n2_ n3_; clear hb hbox hg) | ((with_reducible refine gate_dst (N := 3) rfl ?_); refine box_event ?hg (N := 3) ?hd (cs := #[.int .i64 a1_0, .int .i64 a1_1, .slice A1_2 l1_2.length c1_2]) (t := 76) ?hr ?_; (case hd => rfl); (case hg => rfl); (case hr => first | (go_simp; done) | (go_simp; rfl)); intro gb212 hg w18 hbox hb; have n0_ := Aside0.mk (blk_below (g := gb211) (o := .cells #[.int .i64 a0_0, .int .i64 a0_1, .slice A0_2 l0_2.length c0_2] 76 (0, 0)) (by (with_reducible repeat (first | refine blk_drewN ?_ _ | refine blk_drew ?_ | refine blk_alloc ?_ _)); exact BK211.out) hb); have n1_ := Aside0.mk (below_step (by repeat (first | (with_reducible first | exact HB.out | apply below_alloc | apply pw_below_drewN | apply below_drew1 | refine below_set ?_ GE211.out) | exact HB.out)) hb); have n2_ := Aside0.mk (hbox); have n3_ := Aside0.mk ((by rw [hg]; exact (below_size (by repeat (first | (with_reducible first | exact HB.out | apply below_alloc | apply pw_below_drewN | apply below_drew1 | refine below_set ?_ GE211.out) | exact HB.out))) : w.heap.size ≤ gb212)); have n4_ := Aside0.mk ((by rw [hg]; exact (below_size (by repeat (first | (with_reducible first | exact HB.out | apply below_alloc | apply pw_below_drewN | apply below_drew1 | refine below_set ?_ GE211.out) | exact HB.out))) : w.heap.size ≤ gb212)); have n5_ := Aside0.mk ((by rw [hg]; exact Nat.ne_of_lt (blk_lt (g := gb211) (o := .cells #[.int .i64 a0_0, .int .i64 a0_1, .slice A0_2 l0_2.length c0_2] 76 (0, 0)) (by (with_reducible repeat (first | refine blk_drewN ?_ _ | refine blk_drew ?_ | refine blk_alloc ?_ _)); exact BK211.out)) : gb211 ≠ gb212)); have n6_ := Aside0.mk ((by rw [hg]; exact Nat.ne_of_gt (blk_lt (g := gb211) (o := .cells #[.int .i64 a0_0, .int .i64 a0_1, .slice A0_2 l0_2.length c0_2] 76 (0, 0)) (by (with_reducible repeat (first | refine blk_drewN ?_ _ | refine blk_drew ?_ | refine blk_alloc ?_ _)); exact BK211.out)) : gb212 ≠ gb211)); clear BK211; clear HB; have BK211 := n0_; have HB := n1_; have BK212 := n2_; have GW212 := n3_; have GE212 := n4_; have NB211_212 := n5_; have NB212_211 := n6_; clear n0_ n1_ n2_ n3_ n4_ n5_ n6_; clear hb hbox hg; have hnb19 := NB211_212.out; have hnc19 := NB212_211.out; have hcz20_0 : w18.cell? ⟨gb211, 0, none⟩ = some (.int .i64 a0_0) := (blk_cell BK211.out 0).trans rfl; have hcz20_1 : w18.cell? ⟨gb211, 1, none⟩ = some (.int .i64 a0_1) := (blk_cell BK211.out 1).trans rfl; have hcz20_2 : w18.cell? ⟨gb211, 2, none⟩ = some (.slice A0_2 l0_2.length c0_2) := (blk_cell BK211.out 2).trans rfl; have hfz20_0 := blk_frozen BK211.out 0; have hfz20_1 := blk_frozen BK211.out 1; have hfz20_2 := blk_frozen BK211.out 2; have hcz21_0 : w18.cell? ⟨gb212, 0, none⟩ = some (.int .i64 a1_0) := (blk_cell BK212.out 0).trans rfl; have hcz21_1 : w18.cell? ⟨gb212, 1, none⟩ = some (.int .i64 a1_1) := (blk_cell BK212.out 1).trans rfl; have hcz21_2 : w18.cell? ⟨gb212, 2, none⟩ = some (.slice A1_2 l1_2.length c1_2) := (blk_cell BK212.out 2).trans rfl; have hfz21_0 := blk_frozen BK212.out 0; have hfz21_1 := blk_frozen BK212.out 1; have hfz21_2 := blk_frozen BK212.out 2))
      go_ret
      exact ⟨by first | rfl | (simp [errW_none, errW_some] <;> rfl) | (simp [*, errW_none, errW_some] <;> rfl), by repeat (first | (with_reducible first | exact HB.out | apply below_alloc | apply pw_below_drewN | apply below_drew1 | refine below_set ?_ GE211.out | refine below_set ?_ GE212.out) | exact HB.out)⟩
  · rw [if_neg c3] at H
    have c3b0 : (a0_0 == a1_0) = false := beq_eq_false_iff_ne.mpr c3
    have c3b1 : (a0_0 != a1_0) = true := bne_iff_ne.mpr c3
    obtain rfl := Option.some.inj H
    go_enter Try.func52, Try.ntmps52
    go_wp2_with (first | ((with_reducible refine gate_dst (N := 2) rfl ?_); refine box_event ?hg (N := 2) ?hd (cs := #[.int .i64 a0_0, .int .i64 a0_1, .slice A0_2 l0_2.length c0_2]) (t := 76) ?hr ?_; (case hd => rfl); (case hg => rfl); (case hr => first | (go_simp; done) | (go_simp; rfl)); intro gb211 hg w22 hbox hb; have n0_ := Aside0.mk (below_step (by repeat (first | (with_reducible first | exact HB.out | apply below_alloc | apply pw_below_drewN | apply below_drew1) | exact HB.out)) hb); have n1_ := Aside0.mk (hbox); have n2_ := Aside0.mk ((by rw [hg]; exact (below_size (by repeat (first | (with_reducible first | exact HB.out | apply below_alloc | apply pw_below_drewN | apply below_drew1) | exact HB.out))) : w.heap.size ≤ gb211)); have n3_ := Aside0.mk ((by rw [hg]; exact (below_size (by repeat (first | (with_reducible first | exact HB.out | apply below_alloc | apply pw_below_drewN | apply below_drew1) | exact HB.out))) : w.heap.size ≤ gb211)); clear HB; have HB := n0_; have BK211 := n1_; have GW211 := n2_; have GE211 := n3_; clear n0_ n1_ n2_ n3_; clear hb hbox hg) | ((with_reducible refine gate_dst (N := 3) rfl ?_); refine box_event ?hg (N := 3) ?hd (cs := #[.int .i64 a1_0, .int .i64 a1_1, .slice A1_2 l1_2.length c1_2]) (t := 76) ?hr ?_; (case hd => rfl); (case hg => rfl); (case hr => first | (go_simp; done) | (go_simp; rfl)); intro gb212 hg w23 hbox hb; have n0_ := Aside0.mk (blk_below (g := gb211) (o := .cells #[.int .i64 a0_0, .int .i64 a0_1, .slice A0_2 l0_2.length c0_2] 76 (0, 0)) (by (with_reducible repeat (first | refine blk_drewN ?_ _ | refine blk_drew ?_ | refine blk_alloc ?_ _)); exact BK211.out) hb); have n1_ := Aside0.mk (below_step (by repeat (first | (with_reducible first | exact HB.out | apply below_alloc | apply pw_below_drewN | apply below_drew1 | refine below_set ?_ GE211.out) | exact HB.out)) hb); have n2_ := Aside0.mk (hbox); have n3_ := Aside0.mk ((by rw [hg]; exact (below_size (by repeat (first | (with_reducible first | exact HB.out | apply below_alloc | apply pw_below_drewN | apply below_drew1 | refine below_set ?_ GE211.out) | exact HB.out))) : w.heap.size ≤ gb212)); have n4_ := Aside0.mk ((by rw [hg]; exact (below_size (by repeat (first | (with_reducible first | exact HB.out | apply below_alloc | apply pw_below_drewN | apply below_drew1 | refine below_set ?_ GE211.out) | exact HB.out))) : w.heap.size ≤ gb212)); have n5_ := Aside0.mk ((by rw [hg]; exact Nat.ne_of_lt (blk_lt (g := gb211) (o := .cells #[.int .i64 a0_0, .int .i64 a0_1, .slice A0_2 l0_2.length c0_2] 76 (0, 0)) (by (with_reducible repeat (first | refine blk_drewN ?_ _ | refine blk_drew ?_ | refine blk_alloc ?_ _)); exact BK211.out)) : gb211 ≠ gb212)); have n6_ := Aside0.mk ((by rw [hg]; exact Nat.ne_of_gt (blk_lt (g := gb211) (o := .cells #[.int .i64 a0_0, .int .i64 a0_1, .slice A0_2 l0_2.length c0_2] 76 (0, 0)) (by (with_reducible repeat (first | refine blk_drewN ?_ _ | refine blk_drew ?_ | refine blk_alloc ?_ _)); exact BK211.out)) : gb212 ≠ gb211)); clear BK211; clear HB; have BK211 := n0_; have HB := n1_; have BK212 := n2_; have GW212 := n3_; have GE212 := n4_; have NB211_212 := n5_; have NB212_211 := n6_; clear n0_ n1_ n2_ n3_ n4_ n5_ n6_; clear hb hbox hg; have hnb24 := NB211_212.out; have hnc24 := NB212_211.out; have hcz25_0 : w23.cell? ⟨gb211, 0, none⟩ = some (.int .i64 a0_0) := (blk_cell BK211.out 0).trans rfl; have hcz25_1 : w23.cell? ⟨gb211, 1, none⟩ = some (.int .i64 a0_1) := (blk_cell BK211.out 1).trans rfl; have hcz25_2 : w23.cell? ⟨gb211, 2, none⟩ = some (.slice A0_2 l0_2.length c0_2) := (blk_cell BK211.out 2).trans rfl; have hfz25_0 := blk_frozen BK211.out 0; have hfz25_1 := blk_frozen BK211.out 1; have hfz25_2 := blk_frozen BK211.out 2; have hcz26_0 : w23.cell? ⟨gb212, 0, none⟩ = some (.int .i64 a1_0) := (blk_cell BK212.out 0).trans rfl; have hcz26_1 : w23.cell? ⟨gb212, 1, none⟩ = some (.int .i64 a1_1) := (blk_cell BK212.out 1).trans rfl; have hcz26_2 : w23.cell? ⟨gb212, 2, none⟩ = some (.slice A1_2 l1_2.length c1_2) := (blk_cell BK212.out 2).trans rfl; have hfz26_0 := blk_frozen BK212.out 0; have hfz26_1 := blk_frozen BK212.out 1; have hfz26_2 := blk_frozen BK212.out 2))
    go_ret
    exact ⟨by first | rfl | (simp [errW_none, errW_some] <;> rfl) | (simp [*, errW_none, errW_some] <;> rfl), by repeat (first | (with_reducible first | exact HB.out | apply below_alloc | apply pw_below_drewN | apply below_drew1 | refine below_set ?_ GE211.out | refine below_set ?_ GE212.out) | exact HB.out)⟩

end Go.Proofs.Ytbkahdpmpmalhaa.P
end
section
namespace Go.Proofs.Ytbkahdpmpmalhaa.P
open Go.RowKit Go.Proofs.YtbkahdpmpmalhaaW.PrintWords Go.Proofs.YtbkahdpmpmalhaaW.PrintLast Go.Proofs.YtbkahdpmpmalhaaW.PrintMore
attribute [local go_sem] max2_int min2_int max_two min_two max_three min_three max_four min_four   -- for this text's walks alone
set_option linter.unusedVariables false
set_option linter.unusedSimpArgs false

/-! ### laws_eqSlabS: function 14 -/
def laws_eqSlabS.l0 : Nat → List (S76) → List (S76) → Int → Option (Bool)
  | 0, _, _, _ => none
  | k + 1, x0, x1, x5 => if x5 < (x0.length : Int) then (if 0 ≤ x5 then (if x5 < (x1.length : Int) then ((laws_eqSlab.f k ((rd_T76 x0 x5).f0) ((rd_T76 x0 x5).f1) ((rd_T76 x0 x5).f2) ((rd_T76 x1 x5).f0) ((rd_T76 x1 x5).f1) ((rd_T76 x1 x5).f2)).bind fun t216 => (if t216 = true then (laws_eqSlabS.l0 k x0 x1 (wrap64 (x5 + 1))) else (some false))) else (none)) else (none)) else (some true)
def laws_eqSlabS.f (k : Nat) (l0 : List (S76)) (l1 : List (S76)) : Option (Bool) := if (l0.length : Int) = (l1.length : Int) then (laws_eqSlabS.l0 k l0 l1 0) else (some false)
theorem laws_eqSlabS.mono_l : ∀ k, (∀ y0 y1 y2, LeO (laws_eqSlabS.l0 k y0 y1 y2) (laws_eqSlabS.l0 (k + 1) y0 y1 y2))
  | 0 => fun _ _ _ r h => by simp [laws_eqSlabS.l0] at h
  | k + 1 => by
    have ih0 := laws_eqSlabS.mono_l k
    · intro y0 y1 y2
      unfold laws_eqSlabS.l0
      repeat' first
      | (with_reducible exact ih0 _ _ _)
      | (with_reducible exact laws_eqSlab.mono _ _ _ _ _ _ _)
      | (with_reducible exact LeO.refl _)
      | (with_reducible exact LeO.none _)
      | (with_reducible refine LeO.ite ?_ ?_)
      | (with_reducible refine LeO.bind ?_ (fun _ => ?_))
      | exact ih0 _ _ _
      | exact laws_eqSlab.mono _ _ _ _ _ _ _
      | exact LeO.none _
      | refine LeO.ite ?_ ?_
      | refine LeO.bind ?_ (fun _ => ?_)
theorem laws_eqSlabS.mono : ∀ a0 a1 k, LeO (laws_eqSlabS.f k a0 a1) (laws_eqSlabS.f (k + 1) a0 a1) := by
  intro a0 a1 k
  have ih0 := laws_eqSlabS.mono_l k
  unfold laws_eqSlabS.f
  repeat' first
      | (with_reducible exact ih0 _ _ _)
      | (with_reducible exact laws_eqSlab.mono _ _ _ _ _ _ _)
      | (with_reducible exact LeO.refl _)
      | (with_reducible exact LeO.none _)
      | (with_reducible refine LeO.ite ?_ ?_)
      | (with_reducible refine LeO.bind ?_ (fun _ => ?_))
      | exact ih0 _ _ _
      | exact laws_eqSlab.mono _ _ _ _ _ _ _
      | exact LeO.none _
      | refine LeO.ite ?_ ?_
      | refine LeO.bind ?_ (fun _ => ?_)
def laws_eqSlabS.T6 : Bool × List (List Nat × List Nat) := (true, [([], []), ([], []), ([0, 1], [0, 1]), ([2], [2]), ([], []), ([], []), ([4, 5], [4, 5]), ([6], [6]), ([3, 7], [3, 7]), ([8], [8])])
def laws_eqSlabS.B6 : List Nat := [0, 0, 3, 7, 0, 0, 48, 112, 255, 511]
theorem laws_eqSlabS.tab6 : rtab .any (opsOf Try.f14 6) = laws_eqSlabS.T6 := by kernel_rfl
theorem laws_eqSlabS.bits6 : waitsOk laws_eqSlabS.T6.2 laws_eqSlabS.B6 = true := by kernel_rfl
set_option maxHeartbeats 8000000 in
set_option maxRecDepth 100000 in
theorem laws_eqSlabS.calls (k : Nat) (A0 : Option Addr) (c0 : Nat) (l0 : List (S76)) (A1 : Option Addr) (c1 : Nat) (l1 : List (S76)) (r : Bool) (w : World) (hr0 : Kd.C k76 w A0 l0.length l0) (hc0 : l0.length ≤ c0) (hr1 : Kd.C k76 w A1 l1.length l1) (hc1 : l1.length ≤ c1) (h : laws_eqSlabS.f k l0 l1 = some r) :
    Calls Try.prog 14 #[.slice A0 l0.length c0, .slice A1 l1.length c1] w fun e w' => e = .returned (.bool r) ∧ Below w.heap.size w w' := by
  have hu76 := Try.underlying76
  have HR0 := Aside0.mk hr0
  have HC0 := Aside0.mk hc0
  clear hr0 hc0
  have HR1 := Aside0.mk hr1
  have HC1 := Aside0.mk hc1
  clear hr1 hc1
  have HB := Aside0.mk (Below.refl w.heap.size w)
  have H : (if (l0.length : Int) = (l1.length : Int) then (laws_eqSlabS.l0 k l0 l1 0) else (some false)) = some r := h
  clear h
  by_cases c3 : (l0.length : Int) = (l1.length : Int)
  · rw [if_pos c3] at H
    have c3b0 : ((l0.length : Int) == (l1.length : Int)) = true := beq_iff_eq.mpr c3
    have c3b1 : ((l0.length : Int) != (l1.length : Int)) = false := bne_eq_false_iff_eq.mpr c3
    have c3b2 : (l0.length == l1.length) = true := by first | simpa using c3 | (simp at c3 ⊢; omega)
    clear c3
    have H' := Aside0.mk H
    clear H
    go_enter Try.func14, Try.ntmps14
    go_wp2
    go_loopg [5] k (fun kq v5 w' => ∃ (x5_1 : Int), v5 = .int .i64 x5_1 ∧ Aside0 (laws_eqSlabS.l0 kq l0 l1 x5_1 = some r) ∧ Aside0 (kq ≤ k) ∧ Aside0 (Below w.heap.size w w'))
    case atStart => exact ⟨(0), (by first | rfl | (simp; done) | (simp [*]; done)), H', ⟨Nat.le_refl _⟩, ⟨by repeat (first | (with_reducible first | exact HB.out | apply below_alloc | apply pw_below_drewN | apply below_drew1) | exact HB.out)⟩⟩
    case round =>
      clear H'
      try clear c1
      try clear p2
      try clear c3
      try clear c3b0
      try clear c3b1
      try clear c3b2
      obtain ⟨x5_1, rfl, HA, HK1, HB⟩ := hrel
      cases gk with
      | zero => exact absurd HA.out (by simp [laws_eqSlabS.l0])
      | succ k1 =>
        have H := HA.out
        clear HA
        simp only [laws_eqSlabS.l0] at H
        by_cases c4 : x5_1 < (l0.length : Int)
        · rw [if_pos c4] at H
          have c4b0 : decide (x5_1 < (l0.length : Int)) = true := decide_eq_true c4
          clear c4
          by_cases c5 : 0 ≤ x5_1
          · rw [if_pos c5] at H
            have c5b0 : decide (0 ≤ x5_1) = true := decide_eq_true c5
            clear c5
            by_cases c6 : x5_1 < (l1.length : Int)
            · rw [if_pos c6] at H
              have c6b0 : decide (x5_1 < (l1.length : Int)) = true := decide_eq_true c6
              clear c6
              replace H := Option.bind_eq_some_iff.mp H
              obtain ⟨t216, A70, H⟩ := H
              replace H : (if t216 = true then (laws_eqSlabS.l0 k1 l0 l1 (wrap64 (x5_1 + 1))) else (some false)) = some r := H
              have A7 := Aside0.mk A70
              clear A70
              by_cases c8 : t216 = true
              · subst c8
                have H1 : (laws_eqSlabS.l0 k1 l0 l1 (wrap64 (x5_1 + 1))) = some r := by rw [if_pos rfl] at H; exact H
                clear H
                have H := H1
                clear H1
                have H' := Aside0.mk H
                clear H
                try go_wp2
                have n0_ := Aside0.mk (below_drew1 HB.out)
                clear HB
                have HB := n0_
                clear n0_
                have p214 : 0 ≤ (x5_1 : Int) := of_decide_eq_true (by first | (with_reducible assumption) | assumption)
                have q214 : x5_1 < (l0.length : Int) := of_decide_eq_true (by first | (with_reducible assumption) | assumption)
                obtain ⟨ad214, A214_2, c214_2, e214, hx214_0, hx214_1, hx214_2, hl214_2, hi214_2⟩ := at_T76 HR0.out x5_1 p214 q214
                have hw214_2 := hx214_2
                have hw214_1 := hx214_1
                have hw214_0 := hx214_0
                cases e214
                replace hx214_0 := (HB.out.cell (World.block_lt_of_cell? w _ hx214_0)).trans hx214_0
                replace hx214_1 := (HB.out.cell (World.block_lt_of_cell? w _ hx214_1)).trans hx214_1
                replace hx214_2 := (HB.out.cell (World.block_lt_of_cell? w _ hx214_2)).trans hx214_2
                have HR214_2 := Aside0.mk hi214_2
                have HC214_2 := Aside0.mk hl214_2
                clear hi214_2 hl214_2
                replace p214 := eq_true p214
                replace q214 := eq_true q214
                have p215 : 0 ≤ (x5_1 : Int) := of_decide_eq_true (by first | (with_reducible assumption) | assumption)
                have q215 : x5_1 < (l1.length : Int) := of_decide_eq_true (by first | (with_reducible assumption) | assumption)
                obtain ⟨ad215, A215_2, c215_2, e215, hx215_0, hx215_1, hx215_2, hl215_2, hi215_2⟩ := at_T76 HR1.out x5_1 p215 q215
                have hw215_2 := hx215_2
                have hw215_1 := hx215_1
                have hw215_0 := hx215_0
                cases e215
                replace hx215_0 := (HB.out.cell (World.block_lt_of_cell? w _ hx215_0)).trans hx215_0
                replace hx215_1 := (HB.out.cell (World.block_lt_of_cell? w _ hx215_1)).trans hx215_1
                replace hx215_2 := (HB.out.cell (World.block_lt_of_cell? w _ hx215_2)).trans hx215_2
                have HR215_2 := Aside0.mk hi215_2
                have HC215_2 := Aside0.mk hl215_2
                clear hi215_2 hl215_2
                replace p215 := eq_true p215
                replace q215 := eq_true q215
                refine start_ (n := 10) (S := fun w' => w'.cell? (ad214.add ((x5_1).toNat * 3)) = some (.int .i64 ((rd_T76 l0 x5_1).f0)) ∧ w'.cell? ⟨(ad214.add ((x5_1).toNat * 3)).block, (ad214.add ((x5_1).toNat * 3)).off + 1, none⟩ = some (.int .i64 ((rd_T76 l0 x5_1).f1)) ∧ w'.cell? ⟨(ad214.add ((x5_1).toNat * 3)).block, (ad214.add ((x5_1).toNat * 3)).off + 2, none⟩ = some (.slice A214_2 ((rd_T76 l0 x5_1).f2).length c214_2) ∧ w'.cell? (ad215.add ((x5_1).toNat * 3)) = some (.int .i64 ((rd_T76 l1 x5_1).f0)) ∧ w'.cell? ⟨(ad215.add ((x5_1).toNat * 3)).block, (ad215.add ((x5_1).toNat * 3)).off + 1, none⟩ = some (.int .i64 ((rd_T76 l1 x5_1).f1)) ∧ w'.cell? ⟨(ad215.add ((x5_1).toNat * 3)).block, (ad215.add ((x5_1).toNat * 3)).off + 2, none⟩ = some (.slice A215_2 ((rd_T76 l1 x5_1).f2).length c215_2)) (ds := []) #[false, false, false, false, false, false, false, false, false, false] (by kernel_rfl) rfl rfl ⟨((HB.out.cell (World.block_lt_of_cell? w _ hw214_0)).trans hw214_0), ((HB.out.cell (World.block_lt_of_cell? w _ hw214_1)).trans hw214_1), ((HB.out.cell (World.block_lt_of_cell? w _ hw214_2)).trans hw214_2), ((HB.out.cell (World.block_lt_of_cell? w _ hw215_0)).trans hw215_0), ((HB.out.cell (World.block_lt_of_cell? w _ hw215_1)).trans hw215_1), ((HB.out.cell (World.block_lt_of_cell? w _ hw215_2)).trans hw215_2)⟩ (fun hHeld => ?_); refine with_tabW laws_eqSlabS.tab6 laws_eqSlabS.bits6 (fun HT_ HW_ => ?_)
                generalize wr.drew = w9 at HB HR214_2 HR215_2 hx214_0 hx214_1 hx214_2 hx215_0 hx215_1 hx215_2 hHeld ⊢
                refine pure_ (i := 0) (N := some 17) (v := ?_) (a' := ?_) #[true, false, false, false, false, false, false, false, false, false] rfl rfl (any_of HT_.out (by kernel_rfl)) (fun _ _ _ h => h) (Or.inl ⟨by rfl, ?_⟩) ?_ ?_
                rotate_left
                · intro w'
                  go_simp
                  with_reducible rfl
                rotate_left
                · simp only [Act.put, List.setIfInBounds_toArray, List.set_cons_zero, List.set_cons_succ, i64_w, i32_w]
                  rfl
                refine pure_ (i := 1) (N := some 18) (v := ?_) (a' := ?_) #[true, true, false, false, false, false, false, false, false, false] rfl rfl (any_of HT_.out (by kernel_rfl)) (fun _ _ _ h => h) (Or.inl ⟨by rfl, ?_⟩) ?_ ?_
                rotate_left
                · intro w'
                  go_simp
                  with_reducible rfl
                rotate_left
                · simp only [Act.put, List.setIfInBounds_toArray, List.set_cons_zero, List.set_cons_succ, i64_w, i32_w]
                  rfl
                refine pure_ (i := 2) (N := some 19) (v := ?_) (a' := ?_) #[true, true, true, false, false, false, false, false, false, false] rfl rfl (any_of HT_.out (by kernel_rfl)) (fun _ _ _ h => h) (Or.inl ⟨by rfl, ?_⟩) ?_ ?_
                rotate_left
                · intro w'
                  go_simp
                  with_reducible rfl
                rotate_left
                · simp only [Act.put, List.setIfInBounds_toArray, List.set_cons_zero, List.set_cons_succ, i64_w, i32_w]
                  rfl
                refine pure_ (i := 4) (N := some 21) (v := ?_) (a' := ?_) #[true, true, true, false, true, false, false, false, false, false] rfl rfl (any_of HT_.out (by kernel_rfl)) (fun _ _ _ h => h) (Or.inl ⟨by rfl, ?_⟩) ?_ ?_
                rotate_left
                · intro w'
                  go_simp
                  with_reducible rfl
                rotate_left
                · simp only [Act.put, List.setIfInBounds_toArray, List.set_cons_zero, List.set_cons_succ, i64_w, i32_w]
                  rfl
                refine pure_ (i := 5) (N := some 22) (v := ?_) (a' := ?_) #[true, true, true, false, true, true, false, false, false, false] rfl rfl (any_of HT_.out (by kernel_rfl)) (fun _ _ _ h => h) (Or.inl ⟨by rfl, ?_⟩) ?_ ?_
                rotate_left
                · intro w'
                  go_simp
                  with_reducible rfl
                rotate_left
                · simp only [Act.put, List.setIfInBounds_toArray, List.set_cons_zero, List.set_cons_succ, i64_w, i32_w]
                  rfl
                refine pure_ (i := 6) (N := some 23) (v := ?_) (a' := ?_) #[true, true, true, false, true, true, true, false, false, false] rfl rfl (any_of HT_.out (by kernel_rfl)) (fun _ _ _ h => h) (Or.inl ⟨by rfl, ?_⟩) ?_ ?_
                rotate_left
                · intro w'
                  go_simp
                  with_reducible rfl
                rotate_left
                · simp only [Act.put, List.setIfInBounds_toArray, List.set_cons_zero, List.set_cons_succ, i64_w, i32_w]
                  rfl
                refine take_ (i := 3) (N := some 20) (v := ?_) (a' := ?_) #[true, true, true, true, true, true, true, false, false, false] rfl rfl (take_ofW HT_.out HW_.out (by kernel_rfl)) (fun _ _ _ h => h) (Or.inl ⟨by rfl, ?_⟩) hHeld ?_ ?_
                rotate_left
                · rintro w' ⟨s0, s1, s2, s3, s4, s5⟩
                  go_simp
                  with_reducible rfl
                rotate_left
                · simp only [Act.put, List.setIfInBounds_toArray, List.set_cons_zero, List.set_cons_succ, i64_w, i32_w]
                  rfl
                refine take_ (i := 7) (N := some 24) (v := ?_) (a' := ?_) #[true, true, true, true, true, true, true, true, false, false] rfl rfl (take_ofW HT_.out HW_.out (by kernel_rfl)) (fun _ _ _ h => h) (Or.inl ⟨by rfl, ?_⟩) hHeld ?_ ?_
                rotate_left
                · rintro w' ⟨s0, s1, s2, s3, s4, s5⟩
                  go_simp
                  with_reducible rfl
                rotate_left
                · simp only [Act.put, List.setIfInBounds_toArray, List.set_cons_zero, List.set_cons_succ, i64_w, i32_w]
                  rfl
                refine one_ (i := 8) (N := some 25) #[true, true, true, true, true, true, true, true, true, false] rfl rfl (one_of HT_.out (by kernel_rfl)) (by decide) (fun K hK => ?_)
                refine goes_ Try.func52 (by kernel_rfl) rfl #[.agg #[.int .i64 ((rd_T76 l0 x5_1).f0), .int .i64 ((rd_T76 l0 x5_1).f1), .slice A214_2 ((rd_T76 l0 x5_1).f2).length c214_2], .agg #[.int .i64 ((rd_T76 l1 x5_1).f0), .int .i64 ((rd_T76 l1 x5_1).f1), .slice A215_2 ((rd_T76 l1 x5_1).f2).length c215_2]] (by rfl) rfl rfl (by (try simp only [List.map_toArray, List.map_cons, List.map_nil]); first | done | rfl | (simp only [List.length_drop, List.length_take]; rfl)) ?_
                with_reducible refine (laws_eqSlab.calls k1 ((rd_T76 l0 x5_1).f0) ((rd_T76 l0 x5_1).f1) _ _ ((rd_T76 l0 x5_1).f2) ((rd_T76 l1 x5_1).f0) ((rd_T76 l1 x5_1).f1) _ _ ((rd_T76 l1 x5_1).f2) true _ ?side1 ?side2 ?side3 ?side4 A7.out).mono ?_
                (case side1 => repeat (first | exact (Kd.C_below HR214_2.out HB.out) | (with_reducible refine Kd.C_alloc ?_ _) | (with_reducible refine Kd.C_drewN ?_ _) | (with_reducible refine Kd.C_drew ?_)))
                (case side2 => exact HC214_2.out)
                (case side3 => repeat (first | exact (Kd.C_below HR215_2.out HB.out) | (with_reducible refine Kd.C_alloc ?_ _) | (with_reducible refine Kd.C_drewN ?_ _) | (with_reducible refine Kd.C_drew ?_)))
                (case side4 => exact HC215_2.out)
                rintro e w10 ⟨rfl, hb⟩
                refine ⟨_, rfl, ?_⟩
                have n0_ := Aside0.mk (below_step (by repeat (first | (with_reducible first | exact HB.out | apply below_alloc | apply pw_below_drewN | apply below_drew1) | exact HB.out)) hb)
                clear HB
                have HB := n0_
                clear n0_
                (try clear hb)
                (try clear hb2)
                (try clear hk)
                (try clear hi)
                refine hK.out _ _ ⟨((HB.out.cell (World.block_lt_of_cell? w _ hw214_0)).trans hw214_0), ((HB.out.cell (World.block_lt_of_cell? w _ hw214_1)).trans hw214_1), ((HB.out.cell (World.block_lt_of_cell? w _ hw214_2)).trans hw214_2), ((HB.out.cell (World.block_lt_of_cell? w _ hw215_0)).trans hw215_0), ((HB.out.cell (World.block_lt_of_cell? w _ hw215_1)).trans hw215_1), ((HB.out.cell (World.block_lt_of_cell? w _ hw215_2)).trans hw215_2)⟩ (fun hHeld => ?_)
                clear hK K
                refine norm_ (a' := ?_) ?_ ?_
                rotate_left
                · show Act.put _ (some 25) _ = _
                  simp only [Act.put, List.setIfInBounds_toArray, List.set_cons_zero, List.set_cons_succ, i64_w, i32_w]
                  rfl
                refine pure_ (i := 9) (N := some 26) (v := ?_) (a' := ?_) #[true, true, true, true, true, true, true, true, true, true] rfl rfl (any_of HT_.out (by kernel_rfl)) (fun _ _ _ h => h) (Or.inl ⟨by rfl, ?_⟩) ?_ ?_
                rotate_left
                · intro w'
                  go_simp
                  with_reducible rfl
                rotate_left
                · simp only [Act.put, List.setIfInBounds_toArray, List.set_cons_zero, List.set_cons_succ, i64_w, i32_w]
                  rfl
                refine done_ (done_of HT_.out (by kernel_rfl)) ?_
                try go_wp2
                go_roundg k1
                case measure => have := HK1.out; omega
                case rel => exact ⟨(wrap64 (x5_1 + 1)), (by first | rfl | (simp; done) | (simp [*]; done)), H', ⟨by have := HK1.out; omega⟩, ⟨by repeat (first | (with_reducible first | exact HB.out | apply below_alloc | apply pw_below_drewN | apply below_drew1) | exact HB.out)⟩⟩
              · replace c8 := Bool.eq_false_iff.mpr c8
                subst c8
                have H1 : (some false) = some r := by rw [if_neg (show ¬ (false = true) by decide)] at H; exact H
                clear H
                have H := H1
                clear H1
                obtain rfl := Option.some.inj H
                try go_wp2
                have n0_ := Aside0.mk (below_drew1 HB.out)
                clear HB
                have HB := n0_
                clear n0_
                have p214 : 0 ≤ (x5_1 : Int) := of_decide_eq_true (by first | (with_reducible assumption) | assumption)
                have q214 : x5_1 < (l0.length : Int) := of_decide_eq_true (by first | (with_reducible assumption) | assumption)
                obtain ⟨ad214, A214_2, c214_2, e214, hx214_0, hx214_1, hx214_2, hl214_2, hi214_2⟩ := at_T76 HR0.out x5_1 p214 q214
                have hw214_2 := hx214_2
                have hw214_1 := hx214_1
                have hw214_0 := hx214_0
                cases e214
                replace hx214_0 := (HB.out.cell (World.block_lt_of_cell? w _ hx214_0)).trans hx214_0
                replace hx214_1 := (HB.out.cell (World.block_lt_of_cell? w _ hx214_1)).trans hx214_1
                replace hx214_2 := (HB.out.cell (World.block_lt_of_cell? w _ hx214_2)).trans hx214_2
                have HR214_2 := Aside0.mk hi214_2
                have HC214_2 := Aside0.mk hl214_2
                clear hi214_2 hl214_2
                replace p214 := eq_true p214
                replace q214 := eq_true q214
                have p215 : 0 ≤ (x5_1 : Int) := of_decide_eq_true (by first | (with_reducible assumption) | assumption)
                have q215 : x5_1 < (l1.length : Int) := of_decide_eq_true (by first | (with_reducible assumption) | assumption)
                obtain ⟨ad215, A215_2, c215_2, e215, hx215_0, hx215_1, hx215_2, hl215_2, hi215_2⟩ := at_T76 HR1.out x5_1 p215 q215
                have hw215_2 := hx215_2
                have hw215_1 := hx215_1
                have hw215_0 := hx215_0
                cases e215
                replace hx215_0 := (HB.out.cell (World.block_lt_of_cell? w _ hx215_0)).trans hx215_0
                replace hx215_1 := (HB.out.cell (World.block_lt_of_cell? w _ hx215_1)).trans hx215_1
                replace hx215_2 := (HB.out.cell (World.block_lt_of_cell? w _ hx215_2)).trans hx215_2
                have HR215_2 := Aside0.mk hi215_2
                have HC215_2 := Aside0.mk hl215_2
                clear hi215_2 hl215_2
                replace p215 := eq_true p215
                replace q215 := eq_true q215
                refine start_ (n := 10) (S := fun w' => w'.cell? (ad214.add ((x5_1).toNat * 3)) = some (.int .i64 ((rd_T76 l0 x5_1).f0)) ∧ w'.cell? ⟨(ad214.add ((x5_1).toNat * 3)).block, (ad214.add ((x5_1).toNat * 3)).off + 1, none⟩ = some (.int .i64 ((rd_T76 l0 x5_1).f1)) ∧ w'.cell? ⟨(ad214.add ((x5_1).toNat * 3)).block, (ad214.add ((x5_1).toNat * 3)).off + 2, none⟩ = some (.slice A214_2 ((rd_T76 l0 x5_1).f2).length c214_2) ∧ w'.cell? (ad215.add ((x5_1).toNat * 3)) = some (.int .i64 ((rd_T76 l1 x5_1).f0)) ∧ w'.cell? ⟨(ad215.add ((x5_1).toNat * 3)).block, (ad215.add ((x5_1).toNat * 3)).off + 1, none⟩ = some (.int .i64 ((rd_T76 l1 x5_1).f1)) ∧ w'.cell? ⟨(ad215.add ((x5_1).toNat * 3)).block, (ad215.add ((x5_1).toNat * 3)).off + 2, none⟩ = some (.slice A215_2 ((rd_T76 l1 x5_1).f2).length c215_2)) (ds := []) #[false, false, false, false, false, false, false, false, false, false] (by kernel_rfl) rfl rfl ⟨((HB.out.cell (World.block_lt_of_cell? w _ hw214_0)).trans hw214_0), ((HB.out.cell (World.block_lt_of_cell? w _ hw214_1)).trans hw214_1), ((HB.out.cell (World.block_lt_of_cell? w _ hw214_2)).trans hw214_2), ((HB.out.cell (World.block_lt_of_cell? w _ hw215_0)).trans hw215_0), ((HB.out.cell (World.block_lt_of_cell? w _ hw215_1)).trans hw215_1), ((HB.out.cell (World.block_lt_of_cell? w _ hw215_2)).trans hw215_2)⟩ (fun hHeld => ?_); refine with_tabW laws_eqSlabS.tab6 laws_eqSlabS.bits6 (fun HT_ HW_ => ?_)
                generalize wr.drew = w11 at HB HR214_2 HR215_2 hx214_0 hx214_1 hx214_2 hx215_0 hx215_1 hx215_2 hHeld ⊢
                refine pure_ (i := 0) (N := some 17) (v := ?_) (a' := ?_) #[true, false, false, false, false, false, false, false, false, false] rfl rfl (any_of HT_.out (by kernel_rfl)) (fun _ _ _ h => h) (Or.inl ⟨by rfl, ?_⟩) ?_ ?_
                rotate_left
                · intro w'
                  go_simp
                  with_reducible rfl
                rotate_left
                · simp only [Act.put, List.setIfInBounds_toArray, List.set_cons_zero, List.set_cons_succ, i64_w, i32_w]
                  rfl
                refine pure_ (i := 1) (N := some 18) (v := ?_) (a' := ?_) #[true, true, false, false, false, false, false, false, false, false] rfl rfl (any_of HT_.out (by kernel_rfl)) (fun _ _ _ h => h) (Or.inl ⟨by rfl, ?_⟩) ?_ ?_
                rotate_left
                · intro w'
                  go_simp
                  with_reducible rfl
                rotate_left
                · simp only [Act.put, List.setIfInBounds_toArray, List.set_cons_zero, List.set_cons_succ, i64_w, i32_w]
                  rfl
                refine pure_ (i := 2) (N := some 19) (v := ?_) (a' := ?_) #[true, true, true, false, false, false, false, false, false, false] rfl rfl (any_of HT_.out (by kernel_rfl)) (fun _ _ _ h => h) (Or.inl ⟨by rfl, ?_⟩) ?_ ?_
                rotate_left
                · intro w'
                  go_simp
                  with_reducible rfl
                rotate_left
                · simp only [Act.put, List.setIfInBounds_toArray, List.set_cons_zero, List.set_cons_succ, i64_w, i32_w]
                  rfl
                refine pure_ (i := 4) (N := some 21) (v := ?_) (a' := ?_) #[true, true, true, false, true, false, false, false, false, false] rfl rfl (any_of HT_.out (by kernel_rfl)) (fun _ _ _ h => h) (Or.inl ⟨by rfl, ?_⟩) ?_ ?_
                rotate_left
                · intro w'
                  go_simp
                  with_reducible rfl
                rotate_left
                · simp only [Act.put, List.setIfInBounds_toArray, List.set_cons_zero, List.set_cons_succ, i64_w, i32_w]
                  rfl
                refine pure_ (i := 5) (N := some 22) (v := ?_) (a' := ?_) #[true, true, true, false, true, true, false, false, false, false] rfl rfl (any_of HT_.out (by kernel_rfl)) (fun _ _ _ h => h) (Or.inl ⟨by rfl, ?_⟩) ?_ ?_
                rotate_left
                · intro w'
                  go_simp
                  with_reducible rfl
                rotate_left
                · simp only [Act.put, List.setIfInBounds_toArray, List.set_cons_zero, List.set_cons_succ, i64_w, i32_w]
                  rfl
                refine pure_ (i := 6) (N := some 23) (v := ?_) (a' := ?_) #[true, true, true, false, true, true, true, false, false, false] rfl rfl (any_of HT_.out (by kernel_rfl)) (fun _ _ _ h => h) (Or.inl ⟨by rfl, ?_⟩) ?_ ?_
                rotate_left
                · intro w'
                  go_simp
                  with_reducible rfl
                rotate_left
                · simp only [Act.put, List.setIfInBounds_toArray, List.set_cons_zero, List.set_cons_succ, i64_w, i32_w]
                  rfl
                refine take_ (i := 3) (N := some 20) (v := ?_) (a' := ?_) #[true, true, true, true, true, true, true, false, false, false] rfl rfl (take_ofW HT_.out HW_.out (by kernel_rfl)) (fun _ _ _ h => h) (Or.inl ⟨by rfl, ?_⟩) hHeld ?_ ?_
                rotate_left
                · rintro w' ⟨s0, s1, s2, s3, s4, s5⟩
                  go_simp
                  with_reducible rfl
                rotate_left
                · simp only [Act.put, List.setIfInBounds_toArray, List.set_cons_zero, List.set_cons_succ, i64_w, i32_w]
                  rfl
                refine take_ (i := 7) (N := some 24) (v := ?_) (a' := ?_) #[true, true, true, true, true, true, true, true, false, false] rfl rfl (take_ofW HT_.out HW_.out (by kernel_rfl)) (fun _ _ _ h => h) (Or.inl ⟨by rfl, ?_⟩) hHeld ?_ ?_
                rotate_left
                · rintro w' ⟨s0, s1, s2, s3, s4, s5⟩
                  go_simp
                  with_reducible rfl
                rotate_left
                · simp only [Act.put, List.setIfInBounds_toArray, List.set_cons_zero, List.set_cons_succ, i64_w, i32_w]
                  rfl
                refine one_ (i := 8) (N := some 25) #[true, true, true, true, true, true, true, true, true, false] rfl rfl (one_of HT_.out (by kernel_rfl)) (by decide) (fun K hK => ?_)
                refine goes_ Try.func52 (by kernel_rfl) rfl #[.agg #[.int .i64 ((rd_T76 l0 x5_1).f0), .int .i64 ((rd_T76 l0 x5_1).f1), .slice A214_2 ((rd_T76 l0 x5_1).f2).length c214_2], .agg #[.int .i64 ((rd_T76 l1 x5_1).f0), .int .i64 ((rd_T76 l1 x5_1).f1), .slice A215_2 ((rd_T76 l1 x5_1).f2).length c215_2]] (by rfl) rfl rfl (by (try simp only [List.map_toArray, List.map_cons, List.map_nil]); first | done | rfl | (simp only [List.length_drop, List.length_take]; rfl)) ?_
                with_reducible refine (laws_eqSlab.calls k1 ((rd_T76 l0 x5_1).f0) ((rd_T76 l0 x5_1).f1) _ _ ((rd_T76 l0 x5_1).f2) ((rd_T76 l1 x5_1).f0) ((rd_T76 l1 x5_1).f1) _ _ ((rd_T76 l1 x5_1).f2) false _ ?side1 ?side2 ?side3 ?side4 A7.out).mono ?_
                (case side1 => repeat (first | exact (Kd.C_below HR214_2.out HB.out) | (with_reducible refine Kd.C_alloc ?_ _) | (with_reducible refine Kd.C_drewN ?_ _) | (with_reducible refine Kd.C_drew ?_)))
                (case side2 => exact HC214_2.out)
                (case side3 => repeat (first | exact (Kd.C_below HR215_2.out HB.out) | (with_reducible refine Kd.C_alloc ?_ _) | (with_reducible refine Kd.C_drewN ?_ _) | (with_reducible refine Kd.C_drew ?_)))
                (case side4 => exact HC215_2.out)
                rintro e w12 ⟨rfl, hb⟩
                refine ⟨_, rfl, ?_⟩
                have n0_ := Aside0.mk (below_step (by repeat (first | (with_reducible first | exact HB.out | apply below_alloc | apply pw_below_drewN | apply below_drew1) | exact HB.out)) hb)
                clear HB
                have HB := n0_
                clear n0_
                (try clear hb)
                (try clear hb2)
                (try clear hk)
                (try clear hi)
                refine hK.out _ _ ⟨((HB.out.cell (World.block_lt_of_cell? w _ hw214_0)).trans hw214_0), ((HB.out.cell (World.block_lt_of_cell? w _ hw214_1)).trans hw214_1), ((HB.out.cell (World.block_lt_of_cell? w _ hw214_2)).trans hw214_2), ((HB.out.cell (World.block_lt_of_cell? w _ hw215_0)).trans hw215_0), ((HB.out.cell (World.block_lt_of_cell? w _ hw215_1)).trans hw215_1), ((HB.out.cell (World.block_lt_of_cell? w _ hw215_2)).trans hw215_2)⟩ (fun hHeld => ?_)
                clear hK K
                refine norm_ (a' := ?_) ?_ ?_
                rotate_left
                · show Act.put _ (some 25) _ = _
                  simp only [Act.put, List.setIfInBounds_toArray, List.set_cons_zero, List.set_cons_succ, i64_w, i32_w]
                  rfl
                refine pure_ (i := 9) (N := some 26) (v := ?_) (a' := ?_) #[true, true, true, true, true, true, true, true, true, true] rfl rfl (any_of HT_.out (by kernel_rfl)) (fun _ _ _ h => h) (Or.inl ⟨by rfl, ?_⟩) ?_ ?_
                rotate_left
                · intro w'
                  go_simp
                  with_reducible rfl
                rotate_left
                · simp only [Act.put, List.setIfInBounds_toArray, List.set_cons_zero, List.set_cons_succ, i64_w, i32_w]
                  rfl
                refine done_ (done_of HT_.out (by kernel_rfl)) ?_
                try go_wp2
                go_ret
                exact ⟨by first | rfl | (simp [errW_none, errW_some] <;> rfl) | (simp [*, errW_none, errW_some] <;> rfl), by repeat (first | (with_reducible first | exact HB.out | apply below_alloc | apply pw_below_drewN | apply below_drew1) | exact HB.out)⟩
            · rw [if_neg c6] at H
              exact absurd H (by simp)
          · rw [if_neg c5] at H
            exact absurd H (by simp)
        · rw [if_neg c4] at H
          have c4b0 : decide (x5_1 < (l0.length : Int)) = false := decide_eq_false c4
          clear c4
          obtain rfl := Option.some.inj H
          go_wp2
          go_ret
          exact ⟨by first | rfl | (simp [errW_none, errW_some] <;> rfl) | (simp [*, errW_none, errW_some] <;> rfl), by repeat (first | (with_reducible first | exact HB.out | apply below_alloc | apply pw_below_drewN | apply below_drew1) | exact HB.out)⟩
  · rw [if_neg c3] at H
    have c3b0 : ((l0.length : Int) == (l1.length : Int)) = false := beq_eq_false_iff_ne.mpr c3
    have c3b1 : ((l0.length : Int) != (l1.length : Int)) = true := bne_iff_ne.mpr c3
    have c3b2 : (l0.length == l1.length) = false := by first | simpa using c3 | (simp at c3 ⊢; omega)
    obtain rfl := Option.some.inj H
    go_enter Try.func14, Try.ntmps14
    go_wp2
    go_ret
    exact ⟨by first | rfl | (simp [errW_none, errW_some] <;> rfl) | (simp [*, errW_none, errW_some] <;> rfl), by repeat (first | (with_reducible first | exact HB.out | apply below_alloc | apply pw_below_drewN | apply below_drew1) | exact HB.out)⟩

end Go.Proofs.Ytbkahdpmpmalhaa.P
end
section
namespace Go.Proofs.Ytbkahdpmpmalhaa.P
open Go.RowKit Go.Proofs.YtbkahdpmpmalhaaW.PrintWords Go.Proofs.YtbkahdpmpmalhaaW.PrintLast Go.Proofs.YtbkahdpmpmalhaaW.PrintMore
attribute [local go_sem] max2_int min2_int max_two min_two max_three min_three max_four min_four   -- for this text's walks alone
set_option linter.unusedVariables false
set_option linter.unusedSimpArgs false

/-! ### laws_eqIntS: function 39 -/
def laws_eqIntS.l0 : Nat → List Int → List Int → Int → Option (Bool)
  | 0, _, _, _ => none
  | k + 1, x0, x1, x5 => if x5 < (x0.length : Int) then (if 0 ≤ x5 then (if x5 < (x1.length : Int) then (if (rd x0 x5) = (rd x1 x5) then (laws_eqIntS.l0 k x0 x1 (wrap64 (x5 + 1))) else (some false)) else (none)) else (none)) else (some true)
def laws_eqIntS.f (k : Nat) (l0 : List Int) (l1 : List Int) : Option (Bool) := if (l0.length : Int) = (l1.length : Int) then (laws_eqIntS.l0 k l0 l1 0) else (some false)
theorem laws_eqIntS.mono_l : ∀ k, (∀ y0 y1 y2, LeO (laws_eqIntS.l0 k y0 y1 y2) (laws_eqIntS.l0 (k + 1) y0 y1 y2))
  | 0 => fun _ _ _ r h => by simp [laws_eqIntS.l0] at h
  | k + 1 => by
    have ih0 := laws_eqIntS.mono_l k
    · intro y0 y1 y2
      unfold laws_eqIntS.l0
      repeat' first
      | (with_reducible exact ih0 _ _ _)
      | (with_reducible exact LeO.refl _)
      | (with_reducible exact LeO.none _)
      | (with_reducible refine LeO.ite ?_ ?_)
      | (with_reducible refine LeO.bind ?_ (fun _ => ?_))
      | exact ih0 _ _ _
      | exact LeO.none _
      | refine LeO.ite ?_ ?_
      | refine LeO.bind ?_ (fun _ => ?_)
theorem laws_eqIntS.mono : ∀ a0 a1 k, LeO (laws_eqIntS.f k a0 a1) (laws_eqIntS.f (k + 1) a0 a1) := by
  intro a0 a1 k
  have ih0 := laws_eqIntS.mono_l k
  unfold laws_eqIntS.f
  repeat' first
      | (with_reducible exact ih0 _ _ _)
      | (with_reducible exact LeO.refl _)
      | (with_reducible exact LeO.none _)
      | (with_reducible refine LeO.ite ?_ ?_)
      | (with_reducible refine LeO.bind ?_ (fun _ => ?_))
      | exact ih0 _ _ _
      | exact LeO.none _
      | refine LeO.ite ?_ ?_
      | refine LeO.bind ?_ (fun _ => ?_)
set_option maxHeartbeats 8000000 in
set_option maxRecDepth 100000 in
theorem laws_eqIntS.calls (k : Nat) (A0 : Option Addr) (c0 : Nat) (l0 : List Int) (A1 : Option Addr) (c1 : Nat) (l1 : List Int) (r : Bool) (w : World) (hr0 : Kd.C (Kd.int .i64) w A0 l0.length l0) (hc0 : l0.length ≤ c0) (hr1 : Kd.C (Kd.int .i64) w A1 l1.length l1) (hc1 : l1.length ≤ c1) (h : laws_eqIntS.f k l0 l1 = some r) :
    Calls Try.prog 39 #[.slice A0 l0.length c0, .slice A1 l1.length c1] w fun e w' => e = .returned (.bool r) ∧ Drawn0 w w' := by
  have HR0 := Aside0.mk hr0
  have HC0 := Aside0.mk hc0
  clear hr0 hc0
  have HR1 := Aside0.mk hr1
  have HC1 := Aside0.mk hc1
  clear hr1 hc1
  have H : (if (l0.length : Int) = (l1.length : Int) then (laws_eqIntS.l0 k l0 l1 0) else (some false)) = some r := h
  clear h
  by_cases c3 : (l0.length : Int) = (l1.length : Int)
  · rw [if_pos c3] at H
    have c3b0 : ((l0.length : Int) == (l1.length : Int)) = true := beq_iff_eq.mpr c3
    have c3b1 : ((l0.length : Int) != (l1.length : Int)) = false := bne_eq_false_iff_eq.mpr c3
    have c3b2 : (l0.length == l1.length) = true := by first | simpa using c3 | (simp at c3 ⊢; omega)
    clear c3
    have H' := Aside0.mk H
    clear H
    go_enter Try.func39, Try.ntmps39
    go_wp2
    repeat (go_quiet (fail); try go_wp2)
    go_loopg [5] k (fun kq v5 w' => ∃ (x5_1 : Int), v5 = .int .i64 x5_1 ∧ Aside0 (laws_eqIntS.l0 kq l0 l1 x5_1 = some r) ∧ Aside0 (kq ≤ k) ∧ Drawn0 w w')
    case atStart => exact ⟨(0), (by first | rfl | (simp; done) | (simp [*]; done)), H', ⟨Nat.le_refl _⟩, by repeat (first | exact Drawn0.refl _ | apply Drawn0.step)⟩
    case round =>
      clear H'
      try clear c1
      try clear p2
      try clear c3
      try clear c3b0
      try clear c3b1
      try clear c3b2
      obtain ⟨x5_1, rfl, HA, HK1, ⟨m1, rfl⟩⟩ := hrel
      cases gk with
      | zero => exact absurd HA.out (by simp [laws_eqIntS.l0])
      | succ k1 =>
        have H := HA.out
        clear HA
        simp only [laws_eqIntS.l0] at H
        by_cases c4 : x5_1 < (l0.length : Int)
        · rw [if_pos c4] at H
          have c4b0 : decide (x5_1 < (l0.length : Int)) = true := decide_eq_true c4
          clear c4
          by_cases c5 : 0 ≤ x5_1
          · rw [if_pos c5] at H
            have c5b0 : decide (0 ≤ x5_1) = true := decide_eq_true c5
            clear c5
            by_cases c6 : x5_1 < (l1.length : Int)
            · rw [if_pos c6] at H
              have c6b0 : decide (x5_1 < (l1.length : Int)) = true := decide_eq_true c6
              clear c6
              by_cases c7 : (rd l0 x5_1) = (rd l1 x5_1)
              · rw [if_pos c7] at H
                have c7b0 : ((rd l0 x5_1) == (rd l1 x5_1)) = true := beq_iff_eq.mpr c7
                have c7b1 : ((rd l0 x5_1) != (rd l1 x5_1)) = false := bne_eq_false_iff_eq.mpr c7
                clear c7
                have H' := Aside0.mk H
                clear H
                have p557 : 0 ≤ (x5_1 : Int) := of_decide_eq_true (by first | (with_reducible assumption) | assumption)
                have q557 : x5_1 < (l0.length : Int) := of_decide_eq_true (by first | (with_reducible assumption) | assumption)
                obtain ⟨ad557, e557, hx557_0⟩ := Kd.at_int HR0.out x5_1 p557 q557
                cases e557
                replace p557 := eq_true p557
                replace q557 := eq_true q557
                have p558 : 0 ≤ (x5_1 : Int) := of_decide_eq_true (by first | (with_reducible assumption) | assumption)
                have q558 : x5_1 < (l1.length : Int) := of_decide_eq_true (by first | (with_reducible assumption) | assumption)
                obtain ⟨ad558, e558, hx558_0⟩ := Kd.at_int HR1.out x5_1 p558 q558
                cases e558
                replace p558 := eq_true p558
                replace q558 := eq_true q558
                go_wp2
                repeat (go_quiet (fail); try go_wp2)
                go_roundg k1
                case measure => have := HK1.out; omega
                case rel => exact ⟨(wrap64 (x5_1 + 1)), (by first | rfl | (simp; done) | (simp [*]; done)), H', ⟨by have := HK1.out; omega⟩, by repeat (first | exact Drawn0.refl _ | apply Drawn0.step)⟩
              · rw [if_neg c7] at H
                have c7b0 : ((rd l0 x5_1) == (rd l1 x5_1)) = false := beq_eq_false_iff_ne.mpr c7
                have c7b1 : ((rd l0 x5_1) != (rd l1 x5_1)) = true := bne_iff_ne.mpr c7
                obtain rfl := Option.some.inj H
                have p557 : 0 ≤ (x5_1 : Int) := of_decide_eq_true (by first | (with_reducible assumption) | assumption)
                have q557 : x5_1 < (l0.length : Int) := of_decide_eq_true (by first | (with_reducible assumption) | assumption)
                obtain ⟨ad557, e557, hx557_0⟩ := Kd.at_int HR0.out x5_1 p557 q557
                cases e557
                replace p557 := eq_true p557
                replace q557 := eq_true q557
                have p558 : 0 ≤ (x5_1 : Int) := of_decide_eq_true (by first | (with_reducible assumption) | assumption)
                have q558 : x5_1 < (l1.length : Int) := of_decide_eq_true (by first | (with_reducible assumption) | assumption)
                obtain ⟨ad558, e558, hx558_0⟩ := Kd.at_int HR1.out x5_1 p558 q558
                cases e558
                replace p558 := eq_true p558
                replace q558 := eq_true q558
                go_wp2
                repeat (go_quiet (fail); try go_wp2)
                go_ret
                exact ⟨by first | rfl | (simp; done) | (simp [*]; done), by repeat (first | exact Drawn0.refl _ | apply Drawn0.step)⟩
            · rw [if_neg c6] at H
              exact absurd H (by simp)
          · rw [if_neg c5] at H
            exact absurd H (by simp)
        · rw [if_neg c4] at H
          have c4b0 : decide (x5_1 < (l0.length : Int)) = false := decide_eq_false c4
          clear c4
          obtain rfl := Option.some.inj H
          go_wp2
          repeat (go_quiet (fail); try go_wp2)
          go_ret
          exact ⟨by first | rfl | (simp; done) | (simp [*]; done), by repeat (first | exact Drawn0.refl _ | apply Drawn0.step)⟩
  · rw [if_neg c3] at H
    have c3b0 : ((l0.length : Int) == (l1.length : Int)) = false := beq_eq_false_iff_ne.mpr c3
    have c3b1 : ((l0.length : Int) != (l1.length : Int)) = true := bne_iff_ne.mpr c3
    have c3b2 : (l0.length == l1.length) = false := by first | simpa using c3 | (simp at c3 ⊢; omega)
    obtain rfl := Option.some.inj H
    go_enter Try.func39, Try.ntmps39
    go_wp2
    repeat (go_quiet (fail); try go_wp2)
    go_ret
    exact ⟨by first | rfl | (simp; done) | (simp [*]; done), by repeat (first | exact Drawn0.refl _ | apply Drawn0.step)⟩

end Go.Proofs.Ytbkahdpmpmalhaa.P
end
section
namespace Go.Proofs.Ytbkahdpmpmalhaa.P
open Go.RowKit Go.Proofs.YtbkahdpmpmalhaaW.PrintWords Go.Proofs.YtbkahdpmpmalhaaW.PrintLast Go.Proofs.YtbkahdpmpmalhaaW.PrintMore
attribute [local go_sem] max2_int min2_int max_two min_two max_three min_three max_four min_four   -- for this text's walks alone
set_option linter.unusedVariables false
set_option linter.unusedSimpArgs false

/-! ### laws_eqIntSS: function 75 -/
def laws_eqIntSS.l0 : Nat → List (List Int) → List (List Int) → Int → Option (Bool)
  | 0, _, _, _ => none
  | k + 1, x0, x1, x5 => if x5 < (x0.length : Int) then (if 0 ≤ x5 then (if x5 < (x1.length : Int) then ((laws_eqIntS.f k (rd_L7 x0 x5) (rd_L7 x1 x5)).bind fun t561 => (if t561 = true then (laws_eqIntSS.l0 k x0 x1 (wrap64 (x5 + 1))) else (some false))) else (none)) else (none)) else (some true)
def laws_eqIntSS.f (k : Nat) (l0 : List (List Int)) (l1 : List (List Int)) : Option (Bool) := if (l0.length : Int) = (l1.length : Int) then (laws_eqIntSS.l0 k l0 l1 0) else (some false)
theorem laws_eqIntSS.mono_l : ∀ k, (∀ y0 y1 y2, LeO (laws_eqIntSS.l0 k y0 y1 y2) (laws_eqIntSS.l0 (k + 1) y0 y1 y2))
  | 0 => fun _ _ _ r h => by simp [laws_eqIntSS.l0] at h
  | k + 1 => by
    have ih0 := laws_eqIntSS.mono_l k
    · intro y0 y1 y2
      unfold laws_eqIntSS.l0
      repeat' first
      | (with_reducible exact ih0 _ _ _)
      | (with_reducible exact laws_eqIntS.mono _ _ _)
      | (with_reducible exact LeO.refl _)
      | (with_reducible exact LeO.none _)
      | (with_reducible refine LeO.ite ?_ ?_)
      | (with_reducible refine LeO.bind ?_ (fun _ => ?_))
      | exact ih0 _ _ _
      | exact laws_eqIntS.mono _ _ _
      | exact LeO.none _
      | refine LeO.ite ?_ ?_
      | refine LeO.bind ?_ (fun _ => ?_)
theorem laws_eqIntSS.mono : ∀ a0 a1 k, LeO (laws_eqIntSS.f k a0 a1) (laws_eqIntSS.f (k + 1) a0 a1) := by
  intro a0 a1 k
  have ih0 := laws_eqIntSS.mono_l k
  unfold laws_eqIntSS.f
  repeat' first
      | (with_reducible exact ih0 _ _ _)
      | (with_reducible exact laws_eqIntS.mono _ _ _)
      | (with_reducible exact LeO.refl _)
      | (with_reducible exact LeO.none _)
      | (with_reducible refine LeO.ite ?_ ?_)
      | (with_reducible refine LeO.bind ?_ (fun _ => ?_))
      | exact ih0 _ _ _
      | exact laws_eqIntS.mono _ _ _
      | exact LeO.none _
      | refine LeO.ite ?_ ?_
      | refine LeO.bind ?_ (fun _ => ?_)
set_option maxHeartbeats 8000000 in
set_option maxRecDepth 100000 in
theorem laws_eqIntSS.calls (k : Nat) (A0 : Option Addr) (c0 : Nat) (l0 : List (List Int)) (A1 : Option Addr) (c1 : Nat) (l1 : List (List Int)) (r : Bool) (w : World) (hr0 : Kd.C (Kd.slice 3 (Kd.int .i64)) w A0 l0.length l0) (hc0 : l0.length ≤ c0) (hr1 : Kd.C (Kd.slice 3 (Kd.int .i64)) w A1 l1.length l1) (hc1 : l1.length ≤ c1) (h : laws_eqIntSS.f k l0 l1 = some r) :
    Calls Try.prog 75 #[.slice A0 l0.length c0, .slice A1 l1.length c1] w fun e w' => e = .returned (.bool r) ∧ Drawn0 w w' := by
  have HR0 := Aside0.mk hr0
  have HC0 := Aside0.mk hc0
  clear hr0 hc0
  have HR1 := Aside0.mk hr1
  have HC1 := Aside0.mk hc1
  clear hr1 hc1
  have H : (if (l0.length : Int) = (l1.length : Int) then (laws_eqIntSS.l0 k l0 l1 0) else (some false)) = some r := h
  clear h
  by_cases c3 : (l0.length : Int) = (l1.length : Int)
  · rw [if_pos c3] at H
    have c3b0 : ((l0.length : Int) == (l1.length : Int)) = true := beq_iff_eq.mpr c3
    have c3b1 : ((l0.length : Int) != (l1.length : Int)) = false := bne_eq_false_iff_eq.mpr c3
    have c3b2 : (l0.length == l1.length) = true := by first | simpa using c3 | (simp at c3 ⊢; omega)
    clear c3
    have H' := Aside0.mk H
    clear H
    go_enter Try.func75, Try.ntmps75
    go_wp2
    repeat (go_quiet (fail); try go_wp2)
    go_loopg [5] k (fun kq v5 w' => ∃ (x5_1 : Int), v5 = .int .i64 x5_1 ∧ Aside0 (laws_eqIntSS.l0 kq l0 l1 x5_1 = some r) ∧ Aside0 (kq ≤ k) ∧ Drawn0 w w')
    case atStart => exact ⟨(0), (by first | rfl | (simp; done) | (simp [*]; done)), H', ⟨Nat.le_refl _⟩, by repeat (first | exact Drawn0.refl _ | apply Drawn0.step)⟩
    case round =>
      clear H'
      try clear c1
      try clear p2
      try clear c3
      try clear c3b0
      try clear c3b1
      try clear c3b2
      obtain ⟨x5_1, rfl, HA, HK1, ⟨m1, rfl⟩⟩ := hrel
      cases gk with
      | zero => exact absurd HA.out (by simp [laws_eqIntSS.l0])
      | succ k1 =>
        have H := HA.out
        clear HA
        simp only [laws_eqIntSS.l0] at H
        by_cases c4 : x5_1 < (l0.length : Int)
        · rw [if_pos c4] at H
          have c4b0 : decide (x5_1 < (l0.length : Int)) = true := decide_eq_true c4
          clear c4
          by_cases c5 : 0 ≤ x5_1
          · rw [if_pos c5] at H
            have c5b0 : decide (0 ≤ x5_1) = true := decide_eq_true c5
            clear c5
            by_cases c6 : x5_1 < (l1.length : Int)
            · rw [if_pos c6] at H
              have c6b0 : decide (x5_1 < (l1.length : Int)) = true := decide_eq_true c6
              clear c6
              replace H := Option.bind_eq_some_iff.mp H
              obtain ⟨t561, A70, H⟩ := H
              replace H : (if t561 = true then (laws_eqIntSS.l0 k1 l0 l1 (wrap64 (x5_1 + 1))) else (some false)) = some r := H
              have A7 := Aside0.mk A70
              clear A70
              by_cases c8 : t561 = true
              · subst c8
                have H1 : (laws_eqIntSS.l0 k1 l0 l1 (wrap64 (x5_1 + 1))) = some r := by rw [if_pos rfl] at H; exact H
                clear H
                have H := H1
                clear H1
                have H' := Aside0.mk H
                clear H
                have p559 : 0 ≤ (x5_1 : Int) := of_decide_eq_true (by first | (with_reducible assumption) | assumption)
                have q559 : x5_1 < (l0.length : Int) := of_decide_eq_true (by first | (with_reducible assumption) | assumption)
                obtain ⟨ad559, A559_0, c559_0, e559, hx559_0, hl559_0, hi559_0⟩ := at_L7 HR0.out x5_1 p559 q559
                cases e559
                have HR559_0 := Aside0.mk hi559_0
                have HC559_0 := Aside0.mk hl559_0
                clear hi559_0 hl559_0
                replace p559 := eq_true p559
                replace q559 := eq_true q559
                have p560 : 0 ≤ (x5_1 : Int) := of_decide_eq_true (by first | (with_reducible assumption) | assumption)
                have q560 : x5_1 < (l1.length : Int) := of_decide_eq_true (by first | (with_reducible assumption) | assumption)
                obtain ⟨ad560, A560_0, c560_0, e560, hx560_0, hl560_0, hi560_0⟩ := at_L7 HR1.out x5_1 p560 q560
                cases e560
                have HR560_0 := Aside0.mk hi560_0
                have HC560_0 := Aside0.mk hl560_0
                clear hi560_0 hl560_0
                replace p560 := eq_true p560
                replace q560 := eq_true q560
                go_wp2_with (first | (go_at_call 39; (with_reducible refine (laws_eqIntS.calls k1 _ _ (rd_L7 l0 x5_1) _ _ (rd_L7 l1 x5_1) true _ ?side1 ?side2 ?side3 ?side4 A7.out).mono ?_); (case side1 => repeat (first | exact HR559_0.out | (with_reducible refine Kd.C_alloc ?_ _) | (with_reducible refine Kd.C_drewN ?_ _) | (with_reducible refine Kd.C_drew ?_))); (case side2 => exact HC559_0.out); (case side3 => repeat (first | exact HR560_0.out | (with_reducible refine Kd.C_alloc ?_ _) | (with_reducible refine Kd.C_drewN ?_ _) | (with_reducible refine Kd.C_drew ?_))); (case side4 => exact HC560_0.out); rintro e w' ⟨rfl, ⟨nd, rfl⟩⟩; (try first | exact ⟨rfl, _, World.drewN_drewN _ _ _⟩ | exact ⟨rfl, _, Eq.trans (World.drewN_drewN _ _ _) (congrArg (World.drewN _) (Nat.add_assoc _ _ _))⟩)))
                repeat (go_quiet (first | (go_at_call 39; (with_reducible refine (laws_eqIntS.calls k1 _ _ (rd_L7 l0 x5_1) _ _ (rd_L7 l1 x5_1) true _ ?side1 ?side2 ?side3 ?side4 A7.out).mono ?_); (case side1 => repeat (first | exact HR559_0.out | (with_reducible refine Kd.C_alloc ?_ _) | (with_reducible refine Kd.C_drewN ?_ _) | (with_reducible refine Kd.C_drew ?_))); (case side2 => exact HC559_0.out); (case side3 => repeat (first | exact HR560_0.out | (with_reducible refine Kd.C_alloc ?_ _) | (with_reducible refine Kd.C_drewN ?_ _) | (with_reducible refine Kd.C_drew ?_))); (case side4 => exact HC560_0.out); rintro e w' ⟨rfl, ⟨nd, rfl⟩⟩; (try first | exact ⟨rfl, _, World.drewN_drewN _ _ _⟩ | exact ⟨rfl, _, Eq.trans (World.drewN_drewN _ _ _) (congrArg (World.drewN _) (Nat.add_assoc _ _ _))⟩))); try go_wp2_with (first | (go_at_call 39; (with_reducible refine (laws_eqIntS.calls k1 _ _ (rd_L7 l0 x5_1) _ _ (rd_L7 l1 x5_1) true _ ?side1 ?side2 ?side3 ?side4 A7.out).mono ?_); (case side1 => repeat (first | exact HR559_0.out | (with_reducible refine Kd.C_alloc ?_ _) | (with_reducible refine Kd.C_drewN ?_ _) | (with_reducible refine Kd.C_drew ?_))); (case side2 => exact HC559_0.out); (case side3 => repeat (first | exact HR560_0.out | (with_reducible refine Kd.C_alloc ?_ _) | (with_reducible refine Kd.C_drewN ?_ _) | (with_reducible refine Kd.C_drew ?_))); (case side4 => exact HC560_0.out); rintro e w' ⟨rfl, ⟨nd, rfl⟩⟩; (try first | exact ⟨rfl, _, World.drewN_drewN _ _ _⟩ | exact ⟨rfl, _, Eq.trans (World.drewN_drewN _ _ _) (congrArg (World.drewN _) (Nat.add_assoc _ _ _))⟩))))
                go_roundg k1
                case measure => have := HK1.out; omega
                case rel => exact ⟨(wrap64 (x5_1 + 1)), (by first | rfl | (simp; done) | (simp [*]; done)), H', ⟨by have := HK1.out; omega⟩, by repeat (first | exact Drawn0.refl _ | apply Drawn0.step)⟩
              · replace c8 := Bool.eq_false_iff.mpr c8
                subst c8
                have H1 : (some false) = some r := by rw [if_neg (show ¬ (false = true) by decide)] at H; exact H
                clear H
                have H := H1
                clear H1
                obtain rfl := Option.some.inj H
                have p559 : 0 ≤ (x5_1 : Int) := of_decide_eq_true (by first | (with_reducible assumption) | assumption)
                have q559 : x5_1 < (l0.length : Int) := of_decide_eq_true (by first | (with_reducible assumption) | assumption)
                obtain ⟨ad559, A559_0, c559_0, e559, hx559_0, hl559_0, hi559_0⟩ := at_L7 HR0.out x5_1 p559 q559
                cases e559
                have HR559_0 := Aside0.mk hi559_0
                have HC559_0 := Aside0.mk hl559_0
                clear hi559_0 hl559_0
                replace p559 := eq_true p559
                replace q559 := eq_true q559
                have p560 : 0 ≤ (x5_1 : Int) := of_decide_eq_true (by first | (with_reducible assumption) | assumption)
                have q560 : x5_1 < (l1.length : Int) := of_decide_eq_true (by first | (with_reducible assumption) | assumption)
                obtain ⟨ad560, A560_0, c560_0, e560, hx560_0, hl560_0, hi560_0⟩ := at_L7 HR1.out x5_1 p560 q560
                cases e560
                have HR560_0 := Aside0.mk hi560_0
                have HC560_0 := Aside0.mk hl560_0
                clear hi560_0 hl560_0
                replace p560 := eq_true p560
                replace q560 := eq_true q560
                go_wp2_with (first | (go_at_call 39; (with_reducible refine (laws_eqIntS.calls k1 _ _ (rd_L7 l0 x5_1) _ _ (rd_L7 l1 x5_1) false _ ?side1 ?side2 ?side3 ?side4 A7.out).mono ?_); (case side1 => repeat (first | exact HR559_0.out | (with_reducible refine Kd.C_alloc ?_ _) | (with_reducible refine Kd.C_drewN ?_ _) | (with_reducible refine Kd.C_drew ?_))); (case side2 => exact HC559_0.out); (case side3 => repeat (first | exact HR560_0.out | (with_reducible refine Kd.C_alloc ?_ _) | (with_reducible refine Kd.C_drewN ?_ _) | (with_reducible refine Kd.C_drew ?_))); (case side4 => exact HC560_0.out); rintro e w' ⟨rfl, ⟨nd, rfl⟩⟩; (try first | exact ⟨rfl, _, World.drewN_drewN _ _ _⟩ | exact ⟨rfl, _, Eq.trans (World.drewN_drewN _ _ _) (congrArg (World.drewN _) (Nat.add_assoc _ _ _))⟩)))
                repeat (go_quiet (first | (go_at_call 39; (with_reducible refine (laws_eqIntS.calls k1 _ _ (rd_L7 l0 x5_1) _ _ (rd_L7 l1 x5_1) false _ ?side1 ?side2 ?side3 ?side4 A7.out).mono ?_); (case side1 => repeat (first | exact HR559_0.out | (with_reducible refine Kd.C_alloc ?_ _) | (with_reducible refine Kd.C_drewN ?_ _) | (with_reducible refine Kd.C_drew ?_))); (case side2 => exact HC559_0.out); (case side3 => repeat (first | exact HR560_0.out | (with_reducible refine Kd.C_alloc ?_ _) | (with_reducible refine Kd.C_drewN ?_ _) | (with_reducible refine Kd.C_drew ?_))); (case side4 => exact HC560_0.out); rintro e w' ⟨rfl, ⟨nd, rfl⟩⟩; (try first | exact ⟨rfl, _, World.drewN_drewN _ _ _⟩ | exact ⟨rfl, _, Eq.trans (World.drewN_drewN _ _ _) (congrArg (World.drewN _) (Nat.add_assoc _ _ _))⟩))); try go_wp2_with (first | (go_at_call 39; (with_reducible refine (laws_eqIntS.calls k1 _ _ (rd_L7 l0 x5_1) _ _ (rd_L7 l1 x5_1) false _ ?side1 ?side2 ?side3 ?side4 A7.out).mono ?_); (case side1 => repeat (first | exact HR559_0.out | (with_reducible refine Kd.C_alloc ?_ _) | (with_reducible refine Kd.C_drewN ?_ _) | (with_reducible refine Kd.C_drew ?_))); (case side2 => exact HC559_0.out); (case side3 => repeat (first | exact HR560_0.out | (with_reducible refine Kd.C_alloc ?_ _) | (with_reducible refine Kd.C_drewN ?_ _) | (with_reducible refine Kd.C_drew ?_))); (case side4 => exact HC560_0.out); rintro e w' ⟨rfl, ⟨nd, rfl⟩⟩; (try first | exact ⟨rfl, _, World.drewN_drewN _ _ _⟩ | exact ⟨rfl, _, Eq.trans (World.drewN_drewN _ _ _) (congrArg (World.drewN _) (Nat.add_assoc _ _ _))⟩))))
                go_ret
                exact ⟨by first | rfl | (simp; done) | (simp [*]; done), by repeat (first | exact Drawn0.refl _ | apply Drawn0.step)⟩
            · rw [if_neg c6] at H
              exact absurd H (by simp)
          · rw [if_neg c5] at H
            exact absurd H (by simp)
        · rw [if_neg c4] at H
          have c4b0 : decide (x5_1 < (l0.length : Int)) = false := decide_eq_false c4
          clear c4
          obtain rfl := Option.some.inj H
          go_wp2
          repeat (go_quiet (fail); try go_wp2)
          go_ret
          exact ⟨by first | rfl | (simp; done) | (simp [*]; done), by repeat (first | exact Drawn0.refl _ | apply Drawn0.step)⟩
  · rw [if_neg c3] at H
    have c3b0 : ((l0.length : Int) == (l1.length : Int)) = false := beq_eq_false_iff_ne.mpr c3
    have c3b1 : ((l0.length : Int) != (l1.length : Int)) = true := bne_iff_ne.mpr c3
    have c3b2 : (l0.length == l1.length) = false := by first | simpa using c3 | (simp at c3 ⊢; omega)
    obtain rfl := Option.some.inj H
    go_enter Try.func75, Try.ntmps75
    go_wp2
    repeat (go_quiet (fail); try go_wp2)
    go_ret
    exact ⟨by first | rfl | (simp; done) | (simp [*]; done), by repeat (first | exact Drawn0.refl _ | apply Drawn0.step)⟩

end Go.Proofs.Ytbkahdpmpmalhaa.P
end
section
namespace Go.Proofs.Ytbkahdpmpmalhaa.P
open Go.RowKit Go.Proofs.YtbkahdpmpmalhaaW.PrintWords Go.Proofs.YtbkahdpmpmalhaaW.PrintLast Go.Proofs.YtbkahdpmpmalhaaW.PrintMore
attribute [local go_sem] max2_int min2_int max_two min_two max_three min_three max_four min_four   -- for this text's walks alone
set_option linter.unusedVariables false
set_option linter.unusedSimpArgs false

/-! ### laws_eqRun: function 118 -/
def laws_eqRun.f (a0_0 : Int) (a0_1 : Int) (a1_0 : Int) (a1_1 : Int) : Option (Bool) := if a0_0 = a1_0 then (if a0_1 = a1_1 then (some true) else (some false)) else (some false)
set_option maxHeartbeats 8000000 in
set_option maxRecDepth 100000 in
theorem laws_eqRun.calls (a0_0 : Int) (a0_1 : Int) (a1_0 : Int) (a1_1 : Int) (r : Bool) (w : World) (h : laws_eqRun.f a0_0 a0_1 a1_0 a1_1 = some r) :
    Calls Try.prog 118 #[.agg #[.int .i64 a0_0, .int .i64 a0_1], .agg #[.int .i64 a1_0, .int .i64 a1_1]] w fun e w' => e = .returned (.bool r) ∧ Below w.heap.size w w' := by
  have hu149 := Try.underlying149
  have HB := Aside0.mk (Below.refl w.heap.size w)
  have H : (if a0_0 = a1_0 then (if a0_1 = a1_1 then (some true) else (some false)) else (some false)) = some r := h
  clear h
  by_cases c3 : a0_0 = a1_0
  · rw [if_pos c3] at H
    have c3b0 : (a0_0 == a1_0) = true := beq_iff_eq.mpr c3
    have c3b1 : (a0_0 != a1_0) = false := bne_eq_false_iff_eq.mpr c3
    clear c3
    by_cases c4 : a0_1 = a1_1
    · rw [if_pos c4] at H
      have c4b0 : (a0_1 == a1_1) = true := beq_iff_eq.mpr c4
      have c4b1 : (a0_1 != a1_1) = false := bne_eq_false_iff_eq.mpr c4
      clear c4
      obtain rfl := Option.some.inj H
      go_enter Try.func118, Try.ntmps118
      go_wp2_with (first | ((with_reducible refine gate_dst (N := 2) rfl ?_); refine box_event ?hg (N := 2) ?hd (cs := #[.int .i64 a0_0, .int .i64 a0_1]) (t := 149) ?hr ?_; (case hd => rfl); (case hg => rfl); (case hr => first | (go_simp; done) | (go_simp; rfl)); intro gb562 hg w5 hbox hb; have n0_ := Aside0.mk (below_step (by repeat (first | (with_reducible first | exact HB.out | apply below_alloc | apply pw_below_drewN | apply below_drew1) | exact HB.out)) hb); have n1_ := Aside0.mk (hbox); have n2_ := Aside0.mk ((by rw [hg]; exact (below_size (by repeat (first | (with_reducible first | exact HB.out | apply below_alloc | apply pw_below_drewN | apply below_drew1) | exact HB.out))) : w.heap.size ≤ gb562)); have n3_ := Aside0.mk ((by rw [hg]; exact (below_size (by repeat (first | (with_reducible first | exact HB.out | apply below_alloc | apply pw_below_drewN | apply below_drew1) | exact HB.out))) : w.heap.size ≤ gb562)); clear HB; have HB := n0_; have BK562 := n1_; have GW562 := n2_; have GE562 := n3_; clear n0_ n1_ n2_ n3_; clear hb hbox hg) | ((with_reducible refine gate_dst (N := 3) rfl ?_); refine box_event ?hg (N := 3) ?hd (cs := #[.int .i64 a1_0, .int .i64 a1_1]) (t := 149) ?hr ?_; (case hd => rfl); (case hg => rfl); (case hr => first | (go_simp; done) | (go_simp; rfl)); intro gb563 hg w6 hbox hb; have n0_ := Aside0.mk (blk_below (g := gb562) (o := .cells #[.int .i64 a0_0, .int .i64 a0_1] 149 (0, 0)) (by (with_reducible repeat (first | refine blk_drewN ?_ _ | refine blk_drew ?_ | refine blk_alloc ?_ _)); exact BK562.out) hb); have n1_ := Aside0.mk (below_step (by repeat (first | (with_reducible first | exact HB.out | apply below_alloc | apply pw_below_drewN | apply below_drew1 | refine below_set ?_ GE562.out) | exact HB.out)) hb); have n2_ := Aside0.mk (hbox); have n3_ := Aside0.mk ((by rw [hg]; exact (below_size (by repeat (first | (with_reducible first | exact HB.out | apply below_alloc | apply pw_below_drewN | apply below_drew1 | refine below_set ?_ GE562.out) | exact HB.out))) : w.heap.size ≤ gb563)); have n4_ := Aside0.mk ((by rw [hg]; exact (below_size (by repeat (first | (with_reducible first | exact HB.out | apply below_alloc | apply pw_below_drewN | apply below_drew1 | refine below_set ?_ GE562.out) | exact HB.out))) : w.heap.size ≤ gb563)); have n5_ := Aside0.mk ((by rw [hg]; exact Nat.ne_of_lt (blk_lt (g := gb562) (o := .cells #[.int .i64 a0_0, .int .i64 a0_1] 149 (0, 0)) (by (with_reducible repeat (first | refine blk_drewN ?_ _ | refine blk_drew ?_ | refine blk_alloc ?_ _)); exact BK562.out)) : gb562 ≠ gb563)); have n6_ := Aside0.mk ((by rw [hg]; exact Nat.ne_of_gt (blk_lt (g := gb562) (o := .cells #[.int .i64 a0_0, .int .i64 a0_1] 149 (0, 0)) (by (with_reducible repeat (first | refine blk_drewN ?_ _ | refine blk_drew ?_ | refine blk_alloc ?_ _)); exact BK562.out)) : gb563 ≠ gb562)); clear BK562; clear HB; have BK562 := n0_; have HB := n1_; have BK563 := n2_; have GW563 := n3_; have GE563 := n4_; have NB562_563 := n5_; have NB563_562 := n6_; clear n0_ n1_ n2_ n3_ n4_ n5_ n6_; clear hb hbox hg; have hnb7 := NB562_563.out; have hnc7 := NB563_562.out; have hcz8_0 : w6.cell? ⟨gb562, 0, none⟩ = some (.int .i64 a0_0) := (blk_cell BK562.out 0).trans rfl; have hcz8_1 : w6.cell? ⟨gb562, 1, none⟩ = some (.int .i64 a0_1) := (blk_cell BK562.out 1).trans rfl; have hfz8_0 := blk_frozen BK562.out 0; have hfz8_1 := blk_frozen BK562.out 1; have hcz9_0 : w6.cell? ⟨gb563, 0, none⟩ = some (.int .i64 a1_0) := (blk_cell BK563.out 0).trans rfl; have hcz9_1 : w6.cell? ⟨gb563, 1, none⟩ = some (.int .i64 a1_1) := (blk_cell BK563.out 1).trans rfl; have hfz9_0 := blk_frozen BK563.out 0; have hfz9_1 := blk_frozen BK563.out 1))
      go_ret
      exact ⟨by first | rfl | (simp [errW_none, errW_some] <;> rfl) | (simp [*, errW_none, errW_some] <;> rfl), by repeat (first | (with_reducible first | exact HB.out | apply below_alloc | apply pw_below_drewN | apply below_drew1 | refine below_set ?_ GE562.out | refine below_set ?_ GE563.out) | exact HB.out)⟩
    · rw [if_neg c4] at H
      have c4b0 : (a0_1 == a1_1) = false := beq_eq_false_iff_ne.mpr c4
      have c4b1 : (a0_1 != a1_1) = true := bne_iff_ne.mpr c4
      obtain rfl := Option.some.inj H
      go_enter Try.func118, Try.ntmps118
      go_wp2_with (first | ((with_reducible refine gate_dst (N := 2) rfl ?_); refine box_event ?hg (N := 2) ?hd (cs := #[.int .i64 a0_0, .int .i64 a0_1]) (t := 149) ?hr ?_; (case hd => rfl); (case hg => rfl); (case hr => first | (go_simp; done) | (go_simp; rfl)); intro gb562 hg w10 hbox hb; have n0_ := Aside0.mk (below_step (by repeat (first | (with_reducible first | exact HB.out | apply below_alloc | apply pw_below_drewN | apply below_drew1) | exact HB.out)) hb); have n1_ := Aside0.mk (hbox); have n2_ := Aside0.mk ((by rw [hg]; exact (below_size (by repeat (first | (with_reducible first | exact HB.out | apply below_alloc | apply pw_below_drewN | apply below_drew1) | exact HB.out))) : w.heap.size ≤ gb562)); have n3_ := Aside0.mk ((by rw [hg]; exact (below_size (by repeat (first | (with_reducible first | exact HB.out | apply below_alloc | apply pw_below_drewN | apply below_drew1) | exact HB.out))) : w.heap.size ≤ gb562)); clear HB; have HB := n0_; have BK562 := n1_; have GW562 := n2_; have GE562 := n3_; clear n0_ n1_ n2_ n3_; clear hb hbox hg) | ((with_reducible refine gate_dst (N := 3) rfl ?_); refine box_event ?hg (N := 3) ?hd (cs := #[.int .i64 a1_0, .int .i64 a1_1]) (t := 149) ?hr ?_; (case hd => rfl); (case hg => rfl); (case hr => first | (go_simp; done) | (go_simp; rfl)); intro gb563 hg w11 hbox hb; have n0_ := Aside0.mk (blk_below (g := gb562) (o := .cells #[.int .i64 a0_0, .int .i64 a0_1] 149 (0, 0)) (by (with_reducible repeat (first | refine blk_drewN ?_ _ | refine blk_drew ?_ | refine blk_alloc ?_ _)); exact BK562.out) hb); have n1_ := Aside0.mk (below_step (by repeat (first | (with_reducible first | exact HB.out | apply below_alloc | apply pw_below_drewN | apply below_drew1 | refine below_set ?_ GE562.out) | exact HB.out)) hb); have n2_ := Aside0.mk (hbox); have n3_ := Aside0.mk ((by rw [hg]; exact (below_size (by repeat (first | (with_reducible first | exact HB.out | apply below_alloc | apply pw_below_drewN | apply below_drew1 | refine below_set ?_ GE562.out) | exact HB.out))) : w.heap.size ≤ gb563)); have n4_ := Aside0.mk ((by rw [hg]; exact (below_size (by repeat (first | (with_reducible first | exact HB.out | apply below_alloc | apply pw_below_drewN | apply below_drew1 | refine below_set ?_ GE562.out) | exact HB.out))) : w.heap.size ≤ gb563)); have n5_ := Aside0.mk ((by rw [hg]; exact Nat.ne_of_lt (blk_lt (g := gb562) (o := .cells #[.int .i64 a0_0, .int .i64 a0_1] 149 (0, 0)) (by (with_reducible repeat (first | refine blk_drewN ?_ _ | refine blk_drew ?_ | refine blk_alloc ?_ _)); exact BK562.out)) : gb562 ≠ gb563)); have n6_ := Aside0.mk ((by rw [hg]; exact Nat.ne_of_gt (blk_lt (g := gb562) (o := .cells #[.int .i64 a0_0, .int .i64 a0_1] 149 (0, 0)) (by (with_reducible repeat (first | refine blk_drewN ?_ _ | refine blk_drew ?_ | refine blk_alloc ?_ _)); exact BK562.out)) : gb563 ≠ gb562)); clear BK562; clear HB; have BK562 := n0_; have HB := n1_; have BK563 := n2_; have GW563 := n3_; have GE563 := n4_; have NB562_563 := n5_; have NB563_562 := n6_; clear n0_ n1_ n2_ n3_ n4_ n5_ n6_; clear hb hbox hg; have hnb12 := NB562_563.out; have hnc12 := NB563_562.out; have hcz13_0 : w11.cell? ⟨gb562, 0, none⟩ = some (.int .i64 a0_0) := (blk_cell BK562.out 0).trans rfl; have hcz13_1 : w11.cell? ⟨gb562, 1, none⟩ = some (.int .i64 a0_1) := (blk_cell BK562.out 1).trans rfl; have hfz13_0 := blk_frozen BK562.out 0; have hfz13_1 := blk_frozen BK562.out 1; have hcz14_0 : w11.cell? ⟨gb563, 0, none⟩ = some (.int .i64 a1_0) := (blk_cell BK563.out 0).trans rfl; have hcz14_1 : w11.cell? ⟨gb563, 1, none⟩ = some (.int .i64 a1_1) := (blk_cell BK563.out 1).trans rfl; have hfz14_0 := blk_frozen BK563.out 0; have hfz14_1 := blk_frozen BK563.out 1))
      go_ret
      exact ⟨by first | rfl | (simp [errW_none, errW_some] <;> rfl) | (simp [*, errW_none, errW_some] <;> rfl), by repeat (first | (with_reducible first | exact HB.out | apply below_alloc | apply pw_below_drewN | apply below_drew1 | refine below_set ?_ GE562.out | refine below_set ?_ GE563.out) | exact HB.out)⟩
  · rw [if_neg c3] at H
    have c3b0 : (a0_0 == a1_0) = false := beq_eq_false_iff_ne.mpr c3
    have c3b1 : (a0_0 != a1_0) = true := bne_iff_ne.mpr c3
    obtain rfl := Option.some.inj H
    go_enter Try.func118, Try.ntmps118
    go_wp2_with (first | ((with_reducible refine gate_dst (N := 2) rfl ?_); refine box_event ?hg (N := 2) ?hd (cs := #[.int .i64 a0_0, .int .i64 a0_1]) (t := 149) ?hr ?_; (case hd => rfl); (case hg => rfl); (case hr => first | (go_simp; done) | (go_simp; rfl)); intro gb562 hg w15 hbox hb; have n0_ := Aside0.mk (below_step (by repeat (first | (with_reducible first | exact HB.out | apply below_alloc | apply pw_below_drewN | apply below_drew1) | exact HB.out)) hb); have n1_ := Aside0.mk (hbox); have n2_ := Aside0.mk ((by rw [hg]; exact (below_size (by repeat (first | (with_reducible first | exact HB.out | apply below_alloc | apply pw_below_drewN | apply below_drew1) | exact HB.out))) : w.heap.size ≤ gb562)); have n3_ := Aside0.mk ((by rw [hg]; exact (below_size (by repeat (first | (with_reducible first | exact HB.out | apply below_alloc | apply pw_below_drewN | apply below_drew1) | exact HB.out))) : w.heap.size ≤ gb562)); clear HB; have HB := n0_; have BK562 := n1_; have GW562 := n2_; have GE562 := n3_; clear n0_ n1_ n2_ n3_; clear hb hbox hg) | ((with_reducible refine gate_dst (N := 3) rfl ?_); refine box_event ?hg (N := 3) ?hd (cs := #[.int .i64 a1_0, .int .i64 a1_1]) (t := 149) ?hr ?_; (case hd => rfl); (case hg => rfl); (case hr => first | (go_simp; done) | (go_simp; rfl)); intro gb563 hg w16 hbox hb; have n0_ := Aside0.mk (blk_below (g := gb562) (o := .cells #[.int .i64 a0_0, .int .i64 a0_1] 149 (0, 0)) (by (with_reducible repeat (first | refine blk_drewN ?_ _ | refine blk_drew ?_ | refine blk_alloc ?_ _)); exact BK562.out) hb); have n1_ := Aside0.mk (below_step (by repeat (first | (with_reducible first | exact HB.out | apply below_alloc | apply pw_below_drewN | apply below_drew1 | refine below_set ?_ GE562.out) | exact HB.out)) hb); have n2_ := Aside0.mk (hbox); have n3_ := Aside0.mk ((by rw [hg]; exact (below_size (by repeat (first | (with_reducible first | exact HB.out | apply below_alloc | apply pw_below_drewN | apply below_drew1 | refine below_set ?_ GE562.out) | exact HB.out))) : w.heap.size ≤ gb563)); have n4_ := Aside0.mk ((by rw [hg]; exact (below_size (by repeat (first | (with_reducible first | exact HB.out | apply below_alloc | apply pw_below_drewN | apply below_drew1 | refine below_set ?_ GE562.out) | exact HB.out))) : w.heap.size ≤ gb563)); have n5_ := Aside0.mk ((by rw [hg]; exact Nat.ne_of_lt (blk_lt (g := gb562) (o := .cells #[.int .i64 a0_0, .int .i64 a0_1] 149 (0, 0)) (by (with_reducible repeat (first | refine blk_drewN ?_ _ | refine blk_drew ?_ | refine blk_alloc ?_ _)); exact BK562.out)) : gb562 ≠ gb563)); have n6_ := Aside0.mk ((by rw [hg]; exact Nat.ne_of_gt (blk_lt (g := gb562) (o := .cells #[.int .i64 a0_0, .int .i64 a0_1] 149 (0, 0)) (by (with_reducible repeat (first | refine blk_drewN ?_ _ | refine blk_drew ?_ | refine blk_alloc ?_ _)); exact BK562.out)) : gb563 ≠ gb562)); clear BK562; clear HB; have BK562 := n0_; have HB := n1_; have BK563 := n2_; have GW563 := n3_; have GE563 := n4_; have NB562_563 := n5_; have NB563_562 := n6_; clear n0_ n1_ n2_ n3_ n4_ n5_ n6_; clear hb hbox hg; have hnb17 := NB562_563.out; have hnc17 := NB563_562.out; have hcz18_0 : w16.cell? ⟨gb562, 0, none⟩ = some (.int .i64 a0_0) := (blk_cell BK562.out 0).trans rfl; have hcz18_1 : w16.cell? ⟨gb562, 1, none⟩ = some (.int .i64 a0_1) := (blk_cell BK562.out 1).trans rfl; have hfz18_0 := blk_frozen BK562.out 0; have hfz18_1 := blk_frozen BK562.out 1; have hcz19_0 : w16.cell? ⟨gb563, 0, none⟩ = some (.int .i64 a1_0) := (blk_cell BK563.out 0).trans rfl; have hcz19_1 : w16.cell? ⟨gb563, 1, none⟩ = some (.int .i64 a1_1) := (blk_cell BK563.out 1).trans rfl; have hfz19_0 := blk_frozen BK563.out 0; have hfz19_1 := blk_frozen BK563.out 1))
    go_ret
    exact ⟨by first | rfl | (simp [errW_none, errW_some] <;> rfl) | (simp [*, errW_none, errW_some] <;> rfl), by repeat (first | (with_reducible first | exact HB.out | apply below_alloc | apply pw_below_drewN | apply below_drew1 | refine below_set ?_ GE562.out | refine below_set ?_ GE563.out) | exact HB.out)⟩

end Go.Proofs.Ytbkahdpmpmalhaa.P
end
