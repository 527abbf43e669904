-- Printed by a program of this session's (wip/myprint.py), over the kit's printer, with texts of this session's own among it. Lean checks it.
import Derived.Test.YtpkhoanaifpopaaP0
import Derived.Test.YtpkhoanaifpopaaP3
namespace Go.Proofs.Ytpkhoanaifpopaa.P
open Go.RowKit Go.Proofs.YtpkhoanaifpopaaW.PrintWords Go.Proofs.YtpkhoanaifpopaaW.PrintLast Go.Proofs.YtpkhoanaifpopaaW.PrintMore
attribute [local go_sem] max2_int min2_int max_two min_two max_three min_three max_four min_four   -- for this text's walks alone
set_option linter.unusedVariables false
set_option linter.unusedSimpArgs false

/-! ### spec_EntryOk: function 52 -/
def spec_EntryOk.f (a0_0 : Int) (a0_1 : Int) (a0_2 : Bool) (a0_3 : Bool) : Option (Bool) := if a0_0 = (-1) then (if a0_2 = true then (some false) else (if a0_3 = true then (some false) else ((spec_l01In.f a0_1 (-1) 15).bind fun t617 => (some t617)))) else ((spec_l01In.f a0_0 0 31).bind fun t618 => (if t618 = true then (some (a0_1 == (-1))) else (some false)))
set_option maxHeartbeats 8000000 in
set_option maxRecDepth 100000 in
theorem spec_EntryOk.calls (a0_0 : Int) (a0_1 : Int) (a0_2 : Bool) (a0_3 : Bool) (r : Bool) (w : World) (h : spec_EntryOk.f a0_0 a0_1 a0_2 a0_3 = some r) :
    Calls Try.prog 52 #[.agg #[.int .i64 a0_0, .int .i64 a0_1, .bool a0_2, .bool a0_3]] w fun e w' => e = .returned (.bool r) ∧ Below w.heap.size w w' := by
  have hu70 := Try.underlying70
  have HB := Aside0.mk (Below.refl w.heap.size w)
  have H : (if a0_0 = (-1) then (if a0_2 = true then (some false) else (if a0_3 = true then (some false) else ((spec_l01In.f a0_1 (-1) 15).bind fun t617 => (some t617)))) else ((spec_l01In.f a0_0 0 31).bind fun t618 => (if t618 = true then (some (a0_1 == (-1))) else (some false)))) = some r := h
  clear h
  by_cases c2 : a0_0 = (-1)
  · rw [if_pos c2] at H
    have c2b0 : (a0_0 == (-1)) = true := beq_iff_eq.mpr c2
    have c2b1 : (a0_0 != (-1)) = false := bne_eq_false_iff_eq.mpr c2
    clear c2
    by_cases c3 : a0_2 = true
    · subst c3
      have H1 : (some false) = some r := by rw [if_pos rfl] at H; exact H
      clear H
      have H := H1
      clear H1
      obtain rfl := Option.some.inj H
      go_enter Try.func52, Try.ntmps52
      go_wp2_with (first | ((with_reducible refine gate_dst (N := 1) rfl ?_); refine box_event ?hg (N := 1) ?hd (cs := #[.int .i64 a0_0, .int .i64 a0_1, .bool true, .bool a0_3]) (t := 70) ?hr ?_; (case hd => rfl); (case hg => rfl); (case hr => first | (go_simp; done) | (go_simp; rfl)); intro gb616 hg w4 hbox hb; have n0_ := Aside0.mk (below_step (by repeat (first | (with_reducible first | exact HB.out | apply below_alloc | apply pw_below_drewN | apply below_drew1) | exact HB.out)) hb); have n1_ := Aside0.mk (hbox); have n2_ := Aside0.mk ((by rw [hg]; exact (below_size (by repeat (first | (with_reducible first | exact HB.out | apply below_alloc | apply pw_below_drewN | apply below_drew1) | exact HB.out))) : w.heap.size ≤ gb616)); have n3_ := Aside0.mk ((by rw [hg]; exact (below_size (by repeat (first | (with_reducible first | exact HB.out | apply below_alloc | apply pw_below_drewN | apply below_drew1) | exact HB.out))) : w.heap.size ≤ gb616)); clear HB; have HB := n0_; have BK616 := n1_; have GW616 := n2_; have GE616 := n3_; clear n0_ n1_ n2_ n3_; clear hb hbox hg; have hcz5_0 : w4.cell? ⟨gb616, 0, none⟩ = some (.int .i64 a0_0) := (blk_cell BK616.out 0).trans rfl; have hcz5_1 : w4.cell? ⟨gb616, 1, none⟩ = some (.int .i64 a0_1) := (blk_cell BK616.out 1).trans rfl; have hcz5_2 : w4.cell? ⟨gb616, 2, none⟩ = some (.bool true) := (blk_cell BK616.out 2).trans rfl; have hcz5_3 : w4.cell? ⟨gb616, 3, none⟩ = some (.bool a0_3) := (blk_cell BK616.out 3).trans rfl; have hfz5_0 := blk_frozen BK616.out 0; have hfz5_1 := blk_frozen BK616.out 1; have hfz5_2 := blk_frozen BK616.out 2; have hfz5_3 := blk_frozen BK616.out 3))
      go_ret
      exact ⟨by first | rfl | (simp [errW_none, errW_some] <;> rfl) | (simp [*, errW_none, errW_some] <;> rfl), by repeat (first | (with_reducible first | exact HB.out | apply below_alloc | apply pw_below_drewN | apply below_drew1 | refine below_set ?_ GE616.out) | exact HB.out)⟩
    · replace c3 := Bool.eq_false_iff.mpr c3
      subst c3
      have H1 : (if a0_3 = true then (some false) else ((spec_l01In.f a0_1 (-1) 15).bind fun t617 => (some t617))) = some r := by rw [if_neg (show ¬ (false = true) by decide)] at H; exact H
      clear H
      have H := H1
      clear H1
      by_cases c6 : a0_3 = true
      · subst c6
        have H1 : (some false) = some r := by rw [if_pos rfl] at H; exact H
        clear H
        have H := H1
        clear H1
        obtain rfl := Option.some.inj H
        go_enter Try.func52, Try.ntmps52
        go_wp2_with (first | ((with_reducible refine gate_dst (N := 1) rfl ?_); refine box_event ?hg (N := 1) ?hd (cs := #[.int .i64 a0_0, .int .i64 a0_1, .bool false, .bool true]) (t := 70) ?hr ?_; (case hd => rfl); (case hg => rfl); (case hr => first | (go_simp; done) | (go_simp; rfl)); intro gb616 hg w7 hbox hb; have n0_ := Aside0.mk (below_step (by repeat (first | (with_reducible first | exact HB.out | apply below_alloc | apply pw_below_drewN | apply below_drew1) | exact HB.out)) hb); have n1_ := Aside0.mk (hbox); have n2_ := Aside0.mk ((by rw [hg]; exact (below_size (by repeat (first | (with_reducible first | exact HB.out | apply below_alloc | apply pw_below_drewN | apply below_drew1) | exact HB.out))) : w.heap.size ≤ gb616)); have n3_ := Aside0.mk ((by rw [hg]; exact (below_size (by repeat (first | (with_reducible first | exact HB.out | apply below_alloc | apply pw_below_drewN | apply below_drew1) | exact HB.out))) : w.heap.size ≤ gb616)); clear HB; have HB := n0_; have BK616 := n1_; have GW616 := n2_; have GE616 := n3_; clear n0_ n1_ n2_ n3_; clear hb hbox hg; have hcz8_0 : w7.cell? ⟨gb616, 0, none⟩ = some (.int .i64 a0_0) := (blk_cell BK616.out 0).trans rfl; have hcz8_1 : w7.cell? ⟨gb616, 1, none⟩ = some (.int .i64 a0_1) := (blk_cell BK616.out 1).trans rfl; have hcz8_2 : w7.cell? ⟨gb616, 2, none⟩ = some (.bool false) := (blk_cell BK616.out 2).trans rfl; have hcz8_3 : w7.cell? ⟨gb616, 3, none⟩ = some (.bool true) := (blk_cell BK616.out 3).trans rfl; have hfz8_0 := blk_frozen BK616.out 0; have hfz8_1 := blk_frozen BK616.out 1; have hfz8_2 := blk_frozen BK616.out 2; have hfz8_3 := blk_frozen BK616.out 3))
        go_ret
        exact ⟨by first | rfl | (simp [errW_none, errW_some] <;> rfl) | (simp [*, errW_none, errW_some] <;> rfl), by repeat (first | (with_reducible first | exact HB.out | apply below_alloc | apply pw_below_drewN | apply below_drew1 | refine below_set ?_ GE616.out) | exact HB.out)⟩
      · replace c6 := Bool.eq_false_iff.mpr c6
        subst c6
        have H1 : ((spec_l01In.f a0_1 (-1) 15).bind fun t617 => (some t617)) = some r := by rw [if_neg (show ¬ (false = true) by decide)] at H; exact H
        clear H
        have H := H1
        clear H1
        replace H := Option.bind_eq_some_iff.mp H
        obtain ⟨t617, A90, H⟩ := H
        replace H : (some t617) = some r := H
        have A9 := Aside0.mk A90
        clear A90
        obtain rfl := Option.some.inj H
        go_enter Try.func52, Try.ntmps52
        go_wp2_with (first | ((with_reducible refine gate_dst (N := 1) rfl ?_); refine box_event ?hg (N := 1) ?hd (cs := #[.int .i64 a0_0, .int .i64 a0_1, .bool false, .bool false]) (t := 70) ?hr ?_; (case hd => rfl); (case hg => rfl); (case hr => first | (go_simp; done) | (go_simp; rfl)); intro gb616 hg w10 hbox hb; have n0_ := Aside0.mk (below_step (by repeat (first | (with_reducible first | exact HB.out | apply below_alloc | apply pw_below_drewN | apply below_drew1) | exact HB.out)) hb); have n1_ := Aside0.mk (hbox); have n2_ := Aside0.mk ((by rw [hg]; exact (below_size (by repeat (first | (with_reducible first | exact HB.out | apply below_alloc | apply pw_below_drewN | apply below_drew1) | exact HB.out))) : w.heap.size ≤ gb616)); have n3_ := Aside0.mk ((by rw [hg]; exact (below_size (by repeat (first | (with_reducible first | exact HB.out | apply below_alloc | apply pw_below_drewN | apply below_drew1) | exact HB.out))) : w.heap.size ≤ gb616)); clear HB; have HB := n0_; have BK616 := n1_; have GW616 := n2_; have GE616 := n3_; clear n0_ n1_ n2_ n3_; clear hb hbox hg; have hcz11_0 : w10.cell? ⟨gb616, 0, none⟩ = some (.int .i64 a0_0) := (blk_cell BK616.out 0).trans rfl; have hcz11_1 : w10.cell? ⟨gb616, 1, none⟩ = some (.int .i64 a0_1) := (blk_cell BK616.out 1).trans rfl; have hcz11_2 : w10.cell? ⟨gb616, 2, none⟩ = some (.bool false) := (blk_cell BK616.out 2).trans rfl; have hcz11_3 : w10.cell? ⟨gb616, 3, none⟩ = some (.bool false) := (blk_cell BK616.out 3).trans rfl; have hfz11_0 := blk_frozen BK616.out 0; have hfz11_1 := blk_frozen BK616.out 1; have hfz11_2 := blk_frozen BK616.out 2; have hfz11_3 := blk_frozen BK616.out 3) | (go_at_call 75; (with_reducible refine (spec_l01In.calls a0_1 (-1) 15 t617 _ A9.out).mono ?_); rintro e w' ⟨rfl, ⟨nd, rfl⟩⟩))
        go_ret
        exact ⟨by first | rfl | (simp [errW_none, errW_some] <;> rfl) | (simp [*, errW_none, errW_some] <;> rfl), by repeat (first | (with_reducible first | exact HB.out | apply below_alloc | apply pw_below_drewN | apply below_drew1 | refine below_set ?_ GE616.out) | exact HB.out)⟩
  · rw [if_neg c2] at H
    have c2b0 : (a0_0 == (-1)) = false := beq_eq_false_iff_ne.mpr c2
    have c2b1 : (a0_0 != (-1)) = true := bne_iff_ne.mpr c2
    replace H := Option.bind_eq_some_iff.mp H
    obtain ⟨t618, A120, H⟩ := H
    replace H : (if t618 = true then (some (a0_1 == (-1))) else (some false)) = some r := H
    have A12 := Aside0.mk A120
    clear A120
    by_cases c13 : t618 = true
    · subst c13
      have H1 : (some (a0_1 == (-1))) = some r := by rw [if_pos rfl] at H; exact H
      clear H
      have H := H1
      clear H1
      obtain rfl := Option.some.inj H
      go_enter Try.func52, Try.ntmps52
      go_wp2_with (first | ((with_reducible refine gate_dst (N := 1) rfl ?_); refine box_event ?hg (N := 1) ?hd (cs := #[.int .i64 a0_0, .int .i64 a0_1, .bool a0_2, .bool a0_3]) (t := 70) ?hr ?_; (case hd => rfl); (case hg => rfl); (case hr => first | (go_simp; done) | (go_simp; rfl)); intro gb616 hg w14 hbox hb; have n0_ := Aside0.mk (below_step (by repeat (first | (with_reducible first | exact HB.out | apply below_alloc | apply pw_below_drewN | apply below_drew1) | exact HB.out)) hb); have n1_ := Aside0.mk (hbox); have n2_ := Aside0.mk ((by rw [hg]; exact (below_size (by repeat (first | (with_reducible first | exact HB.out | apply below_alloc | apply pw_below_drewN | apply below_drew1) | exact HB.out))) : w.heap.size ≤ gb616)); have n3_ := Aside0.mk ((by rw [hg]; exact (below_size (by repeat (first | (with_reducible first | exact HB.out | apply below_alloc | apply pw_below_drewN | apply below_drew1) | exact HB.out))) : w.heap.size ≤ gb616)); clear HB; have HB := n0_; have BK616 := n1_; have GW616 := n2_; have GE616 := n3_; clear n0_ n1_ n2_ n3_; clear hb hbox hg; have hcz15_0 : w14.cell? ⟨gb616, 0, none⟩ = some (.int .i64 a0_0) := (blk_cell BK616.out 0).trans rfl; have hcz15_1 : w14.cell? ⟨gb616, 1, none⟩ = some (.int .i64 a0_1) := (blk_cell BK616.out 1).trans rfl; have hcz15_2 : w14.cell? ⟨gb616, 2, none⟩ = some (.bool a0_2) := (blk_cell BK616.out 2).trans rfl; have hcz15_3 : w14.cell? ⟨gb616, 3, none⟩ = some (.bool a0_3) := (blk_cell BK616.out 3).trans rfl; have hfz15_0 := blk_frozen BK616.out 0; have hfz15_1 := blk_frozen BK616.out 1; have hfz15_2 := blk_frozen BK616.out 2; have hfz15_3 := blk_frozen BK616.out 3) | ((with_reducible refine gate_callee (f := 75) rfl ?_); refine goesL_ (some 21) rfl rfl Try.func75 (by kernel_rfl) rfl #[.int .i64 a0_0, .int .i64 0, .int .i64 31] rfl (by (try simp only [List.map_toArray, List.map_cons, List.map_nil]); first | done | rfl | (simp only [List.length_drop, List.length_take]; rfl)) ?_; (with_reducible refine (spec_l01In.calls a0_0 0 31 true _ A12.out).mono ?_); rintro e w' ⟨rfl, ⟨nd, rfl⟩⟩; refine ⟨_, rfl, ?_⟩))
      go_ret
      exact ⟨by first | rfl | (simp [errW_none, errW_some] <;> rfl) | (simp [*, errW_none, errW_some] <;> rfl), by repeat (first | (with_reducible first | exact HB.out | apply below_alloc | apply pw_below_drewN | apply below_drew1 | refine below_set ?_ GE616.out) | exact HB.out)⟩
    · replace c13 := Bool.eq_false_iff.mpr c13
      subst c13
      have H1 : (some false) = some r := by rw [if_neg (show ¬ (false = true) by decide)] at H; exact H
      clear H
      have H := H1
      clear H1
      obtain rfl := Option.some.inj H
      go_enter Try.func52, Try.ntmps52
      go_wp2_with (first | ((with_reducible refine gate_dst (N := 1) rfl ?_); refine box_event ?hg (N := 1) ?hd (cs := #[.int .i64 a0_0, .int .i64 a0_1, .bool a0_2, .bool a0_3]) (t := 70) ?hr ?_; (case hd => rfl); (case hg => rfl); (case hr => first | (go_simp; done) | (go_simp; rfl)); intro gb616 hg w16 hbox hb; have n0_ := Aside0.mk (below_step (by repeat (first | (with_reducible first | exact HB.out | apply below_alloc | apply pw_below_drewN | apply below_drew1) | exact HB.out)) hb); have n1_ := Aside0.mk (hbox); have n2_ := Aside0.mk ((by rw [hg]; exact (below_size (by repeat (first | (with_reducible first | exact HB.out | apply below_alloc | apply pw_below_drewN | apply below_drew1) | exact HB.out))) : w.heap.size ≤ gb616)); have n3_ := Aside0.mk ((by rw [hg]; exact (below_size (by repeat (first | (with_reducible first | exact HB.out | apply below_alloc | apply pw_below_drewN | apply below_drew1) | exact HB.out))) : w.heap.size ≤ gb616)); clear HB; have HB := n0_; have BK616 := n1_; have GW616 := n2_; have GE616 := n3_; clear n0_ n1_ n2_ n3_; clear hb hbox hg; have hcz17_0 : w16.cell? ⟨gb616, 0, none⟩ = some (.int .i64 a0_0) := (blk_cell BK616.out 0).trans rfl; have hcz17_1 : w16.cell? ⟨gb616, 1, none⟩ = some (.int .i64 a0_1) := (blk_cell BK616.out 1).trans rfl; have hcz17_2 : w16.cell? ⟨gb616, 2, none⟩ = some (.bool a0_2) := (blk_cell BK616.out 2).trans rfl; have hcz17_3 : w16.cell? ⟨gb616, 3, none⟩ = some (.bool a0_3) := (blk_cell BK616.out 3).trans rfl; have hfz17_0 := blk_frozen BK616.out 0; have hfz17_1 := blk_frozen BK616.out 1; have hfz17_2 := blk_frozen BK616.out 2; have hfz17_3 := blk_frozen BK616.out 3) | ((with_reducible refine gate_callee (f := 75) rfl ?_); refine goesL_ (some 21) rfl rfl Try.func75 (by kernel_rfl) rfl #[.int .i64 a0_0, .int .i64 0, .int .i64 31] rfl (by (try simp only [List.map_toArray, List.map_cons, List.map_nil]); first | done | rfl | (simp only [List.length_drop, List.length_take]; rfl)) ?_; (with_reducible refine (spec_l01In.calls a0_0 0 31 false _ A12.out).mono ?_); rintro e w' ⟨rfl, ⟨nd, rfl⟩⟩; refine ⟨_, rfl, ?_⟩))
      go_ret
      exact ⟨by first | rfl | (simp [errW_none, errW_some] <;> rfl) | (simp [*, errW_none, errW_some] <;> rfl), by repeat (first | (with_reducible first | exact HB.out | apply below_alloc | apply pw_below_drewN | apply below_drew1 | refine below_set ?_ GE616.out) | exact HB.out)⟩

end Go.Proofs.Ytpkhoanaifpopaa.P
