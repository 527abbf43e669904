/- What the proof of FnExactMachineNewSaid rests on, part 5: plain lemmas and contracts of the functions that the law reaches (in part written by a printing program over the translation). No condition. -/
import Derived.Test.YtngonhgghncdiaaBFnExactMachineNewd
section
namespace Go.Proofs.Ytngonhgghncdiaa.P
open Go.Proofs.Ytngonhgghncdiaa.Up
open Go.RowKit Go.Proofs.YtngonhgghncdiaaW.PrintWords Go.Proofs.YtngonhgghncdiaaW.PrintLast Go.Proofs.YtngonhgghncdiaaW.PrintMore
attribute [local go_sem] max2_int min2_int max_two min_two max_three min_three max_four min_four
set_option linter.unusedVariables false
set_option linter.unusedSimpArgs false
def laws_heldMachine.f (k : Nat) (l0_0 : List (List Int)) (l0_1 : List Int) (l0_2 : List (S124)) (l0_3 : List (S131)) (l0_4 : List (S134)) (a0_5 : Int) (l0_6 : List (S79)) (l0_7 : List (S138)) (l0_8 : List Int) (l0_9 : List Int) (a1 : Int) : Option (Int) := (laws_heldIntSS.f k l0_0 a1).bind fun t478 => (if t478 < 0 then (some (-1)) else ((laws_heldIntS.f k l0_1 t478).bind fun t479 => (if t479 < 0 then (some (-1)) else ((laws_heldRunS.f k l0_2 t479).bind fun t480 => (if t480 < 0 then (some (-1)) else ((laws_heldSlabS.f k l0_3 t480).bind fun t481 => (if t481 < 0 then (some (-1)) else ((laws_heldObjectS.f k l0_4 t481).bind fun t482 => (if t482 < 0 then (some (-1)) else ((laws_heldSpaceS.f k l0_6 t482).bind fun t483 => (if t483 < 0 then (some (-1)) else ((laws_heldSlotS.f k l0_7 t483).bind fun t484 => (if t484 < 0 then (some (-1)) else ((laws_heldIntS.f k l0_8 t484).bind fun t485 => (if t485 < 0 then (some (-1)) else ((laws_heldIntS.f k l0_9 t485).bind fun t486 => (if t486 < 0 then (some (-1)) else (some t486))))))))))))))))))
theorem laws_heldMachine.mono : ∀ a0 a1 a2 a3 a4 a5 a6 a7 a8 a9 a10 k, LeO (laws_heldMachine.f k a0 a1 a2 a3 a4 a5 a6 a7 a8 a9 a10) (laws_heldMachine.f (k + 1) a0 a1 a2 a3 a4 a5 a6 a7 a8 a9 a10) := by
 intro a0 a1 a2 a3 a4 a5 a6 a7 a8 a9 a10 k; unfold laws_heldMachine.f
 repeat' first
   | (with_reducible exact laws_heldIntS.mono _ _ _)
   | (with_reducible exact laws_heldIntSS.mono _ _ _)
   | (with_reducible exact laws_heldObjectS.mono _ _ _)
   | (with_reducible exact laws_heldRunS.mono _ _ _)
   | (with_reducible exact laws_heldSlabS.mono _ _ _)
   | (with_reducible exact laws_heldSlotS.mono _ _ _)
   | (with_reducible exact laws_heldSpaceS.mono _ _ _)
   | (with_reducible exact LeO.refl _)
   | (with_reducible exact LeO.none _)
   | (with_reducible refine LeO.ite ?_ ?_)
   | (with_reducible refine LeO.bind ?_ (fun _ => ?_))
   | exact laws_heldIntS.mono _ _ _
   | exact laws_heldIntSS.mono _ _ _
   | exact laws_heldObjectS.mono _ _ _
   | exact laws_heldRunS.mono _ _ _
   | exact laws_heldSlabS.mono _ _ _
   | exact laws_heldSlotS.mono _ _ _
   | exact laws_heldSpaceS.mono _ _ _
   | exact LeO.none _
   | refine LeO.ite ?_ ?_
   | refine LeO.bind ?_ (fun _ => ?_)
set_option maxHeartbeats 8000000 in
set_option maxRecDepth 100000 in
theorem laws_heldMachine.calls (k : Nat) (A0_0 : Option Addr) (c0_0 : Nat) (l0_0 : List (List Int)) (A0_1 : Option Addr) (c0_1 : Nat) (l0_1 : List Int) (A0_2 : Option Addr) (c0_2 : Nat) (l0_2 : List (S124)) (A0_3 : Option Addr) (c0_3 : Nat) (l0_3 : List (S131)) (A0_4 : Option Addr) (c0_4 : Nat) (l0_4 : List (S134)) (a0_5 : Int) (A0_6 : Option Addr) (c0_6 : Nat) (l0_6 : List (S79)) (A0_7 : Option Addr) (c0_7 : Nat) (l0_7 : List (S138)) (A0_8 : Option Addr) (c0_8 : Nat) (l0_8 : List Int) (A0_9 : Option Addr) (c0_9 : Nat) (l0_9 : List Int) (a1 : Int) (r : Int) (w : World) (hr0_0 : Kd.C (Kd.slice 3 (Kd.int .i64)) w A0_0 l0_0.length l0_0) (hc0_0 : l0_0.length ≤ c0_0) (hr0_1 : Kd.C (Kd.int .i64) w A0_1 l0_1.length l0_1) (hc0_1 : l0_1.length ≤ c0_1) (hr0_2 : Kd.C k124 w A0_2 l0_2.length l0_2) (hc0_2 : l0_2.length ≤ c0_2) (hr0_3 : Kd.C k131 w A0_3 l0_3.length l0_3) (hc0_3 : l0_3.length ≤ c0_3) (hr0_4 : Kd.C k134 w A0_4 l0_4.length l0_4) (hc0_4 : l0_4.length ≤ c0_4) (hr0_6 : Kd.C k79 w A0_6 l0_6.length l0_6) (hc0_6 : l0_6.length ≤ c0_6) (hr0_7 : Kd.C k138 w A0_7 l0_7.length l0_7) (hc0_7 : l0_7.length ≤ c0_7) (hr0_8 : Kd.C (Kd.int .i64) w A0_8 l0_8.length l0_8) (hc0_8 : l0_8.length ≤ c0_8) (hr0_9 : Kd.C (Kd.int .i64) w A0_9 l0_9.length l0_9) (hc0_9 : l0_9.length ≤ c0_9) (h : laws_heldMachine.f k l0_0 l0_1 l0_2 l0_3 l0_4 a0_5 l0_6 l0_7 l0_8 l0_9 a1 = some r) :
  Calls Try.prog 19 #[.agg #[.slice A0_0 l0_0.length c0_0, .slice A0_1 l0_1.length c0_1, .slice A0_2 l0_2.length c0_2, .slice A0_3 l0_3.length c0_3, .slice A0_4 l0_4.length c0_4, .int .i64 a0_5, .slice A0_6 l0_6.length c0_6, .slice A0_7 l0_7.length c0_7, .slice A0_8 l0_8.length c0_8, .slice A0_9 l0_9.length c0_9], .int .i64 a1] w fun e w' => e = .returned (.int .i64 r) ∧ Below w.heap.size w w' := by
 have hu41 := Try.underlying41; have HR0_0 := Aside0.mk hr0_0; have HC0_0 := Aside0.mk hc0_0; clear hr0_0 hc0_0; have HR0_1 := Aside0.mk hr0_1; have HC0_1 := Aside0.mk hc0_1; clear hr0_1 hc0_1; have HR0_2 := Aside0.mk hr0_2; have HC0_2 := Aside0.mk hc0_2; clear hr0_2 hc0_2; have HR0_3 := Aside0.mk hr0_3; have HC0_3 := Aside0.mk hc0_3; clear hr0_3 hc0_3; have HR0_4 := Aside0.mk hr0_4; have HC0_4 := Aside0.mk hc0_4; clear hr0_4 hc0_4; have HR0_6 := Aside0.mk hr0_6; have HC0_6 := Aside0.mk hc0_6; clear hr0_6 hc0_6; have HR0_7 := Aside0.mk hr0_7; have HC0_7 := Aside0.mk hc0_7; clear hr0_7 hc0_7; have HR0_8 := Aside0.mk hr0_8; have HC0_8 := Aside0.mk hc0_8; clear hr0_8 hc0_8; have HR0_9 := Aside0.mk hr0_9; have HC0_9 := Aside0.mk hc0_9; clear hr0_9 hc0_9; have HB := Aside0.mk (Below.refl w.heap.size w); have H : ((laws_heldIntSS.f k l0_0 a1).bind fun t478 => (if t478 < 0 then (some (-1)) else ((laws_heldIntS.f k l0_1 t478).bind fun t479 => (if t479 < 0 then (some (-1)) else ((laws_heldRunS.f k l0_2 t479).bind fun t480 => (if t480 < 0 then (some (-1)) else ((laws_heldSlabS.f k l0_3 t480).bind fun t481 => (if t481 < 0 then (some (-1)) else ((laws_heldObjectS.f k l0_4 t481).bind fun t482 => (if t482 < 0 then (some (-1)) else ((laws_heldSpaceS.f k l0_6 t482).bind fun t483 => (if t483 < 0 then (some (-1)) else ((laws_heldSlotS.f k l0_7 t483).bind fun t484 => (if t484 < 0 then (some (-1)) else ((laws_heldIntS.f k l0_8 t484).bind fun t485 => (if t485 < 0 then (some (-1)) else ((laws_heldIntS.f k l0_9 t485).bind fun t486 => (if t486 < 0 then (some (-1)) else (some t486))))))))))))))))))) = some r := h; clear h; replace H := Option.bind_eq_some_iff.mp H; obtain ⟨t478, A30, H⟩ := H
 replace H : (if t478 < 0 then (some (-1)) else ((laws_heldIntS.f k l0_1 t478).bind fun t479 => (if t479 < 0 then (some (-1)) else ((laws_heldRunS.f k l0_2 t479).bind fun t480 => (if t480 < 0 then (some (-1)) else ((laws_heldSlabS.f k l0_3 t480).bind fun t481 => (if t481 < 0 then (some (-1)) else ((laws_heldObjectS.f k l0_4 t481).bind fun t482 => (if t482 < 0 then (some (-1)) else ((laws_heldSpaceS.f k l0_6 t482).bind fun t483 => (if t483 < 0 then (some (-1)) else ((laws_heldSlotS.f k l0_7 t483).bind fun t484 => (if t484 < 0 then (some (-1)) else ((laws_heldIntS.f k l0_8 t484).bind fun t485 => (if t485 < 0 then (some (-1)) else ((laws_heldIntS.f k l0_9 t485).bind fun t486 => (if t486 < 0 then (some (-1)) else (some t486)))))))))))))))))) = some r := H; have A3 := Aside0.mk A30; clear A30
 by_cases c4 : t478 < 0
 ·rw [if_pos c4] at H; have c4b0 : decide (t478 < 0) = true := decide_eq_true c4; clear c4; obtain rfl := Option.some.inj H
  go_enter Try.func19, Try.ntmps19
  go_wp2_with (first | ((with_reducible refine gate_dst (N := 2) rfl ?_); refine box_event ?hg (N := 2) ?hd (cs := #[.slice A0_0 l0_0.length c0_0, .slice A0_1 l0_1.length c0_1, .slice A0_2 l0_2.length c0_2, .slice A0_3 l0_3.length c0_3, .slice A0_4 l0_4.length c0_4, .int .i64 a0_5, .slice A0_6 l0_6.length c0_6, .slice A0_7 l0_7.length c0_7, .slice A0_8 l0_8.length c0_8, .slice A0_9 l0_9.length c0_9]) (t := 41) ?hr ?_; (case hd => rfl); (case hg => rfl); (case hr => first | (go_simp; done) | (go_simp; rfl)); intro gb477 hg w5 hbox hb; have BK477 := Aside0.mk (hbox); have GW477 := Aside0.mk ((by rw [hg]; exact (below_size (gB HB)) : w.heap.size ≤ gb477)); have GE477 := Aside0.mk ((by rw [hg]; exact (below_size (gB HB)) : w.heap.size ≤ gb477)); replace HB := Aside0.mk (below_step (gB HB) hb); clear hb hbox hg; obtain ⟨hcz6_0, hcz6_1, hcz6_2, hcz6_3, hcz6_4, hcz6_5, hcz6_6, hcz6_7, hcz6_8, hcz6_9⟩ := gk10 BK477; obtain ⟨hfz6_0, hfz6_1, hfz6_2, hfz6_3, hfz6_4, hfz6_5, hfz6_6, hfz6_7, hfz6_8, hfz6_9⟩ := gf10 BK477) | ((with_reducible refine gate_callee (f := 57) rfl ?_); refine goesL_ (some 8) rfl rfl Try.func57 (by kernel_rfl) rfl #[.slice A0_0 l0_0.length c0_0, .int .i64 a1] rfl (by (try simp only [List.map_toArray, List.map_cons, List.map_nil]); first | done | rfl) ?_; (with_reducible refine (laws_heldIntSS.calls k _ _ l0_0 a1 t478 _ ?side1 ?side2 A3.out).mono ?_); (case side1 => exact gE HR0_0 HB); (case side2 => exact HC0_0.out); rintro e w' ⟨rfl, ⟨nd, rfl⟩⟩; refine ⟨_, rfl, ?_⟩))
  go_ret
  exact ⟨by first | rfl | (simp [errW_none, errW_some] <;> rfl) | (simp [*, errW_none, errW_some] <;> rfl), gT1 GE477.out HB⟩
 ·rw [if_neg c4] at H; have c4b0 : decide (t478 < 0) = false := decide_eq_false c4; clear c4; replace H := Option.bind_eq_some_iff.mp H; obtain ⟨t479, A70, H⟩ := H; replace H : (if t479 < 0 then (some (-1)) else ((laws_heldRunS.f k l0_2 t479).bind fun t480 => (if t480 < 0 then (some (-1)) else ((laws_heldSlabS.f k l0_3 t480).bind fun t481 => (if t481 < 0 then (some (-1)) else ((laws_heldObjectS.f k l0_4 t481).bind fun t482 => (if t482 < 0 then (some (-1)) else ((laws_heldSpaceS.f k l0_6 t482).bind fun t483 => (if t483 < 0 then (some (-1)) else ((laws_heldSlotS.f k l0_7 t483).bind fun t484 => (if t484 < 0 then (some (-1)) else ((laws_heldIntS.f k l0_8 t484).bind fun t485 => (if t485 < 0 then (some (-1)) else ((laws_heldIntS.f k l0_9 t485).bind fun t486 => (if t486 < 0 then (some (-1)) else (some t486)))))))))))))))) = some r := H; have A7 := Aside0.mk A70; clear A70
  by_cases c8 : t479 < 0
  ·rw [if_pos c8] at H; have c8b0 : decide (t479 < 0) = true := decide_eq_true c8; clear c8; obtain rfl := Option.some.inj H
   go_enter Try.func19, Try.ntmps19
   go_wp2_with (first | ((with_reducible refine gate_dst (N := 2) rfl ?_); refine box_event ?hg (N := 2) ?hd (cs := #[.slice A0_0 l0_0.length c0_0, .slice A0_1 l0_1.length c0_1, .slice A0_2 l0_2.length c0_2, .slice A0_3 l0_3.length c0_3, .slice A0_4 l0_4.length c0_4, .int .i64 a0_5, .slice A0_6 l0_6.length c0_6, .slice A0_7 l0_7.length c0_7, .slice A0_8 l0_8.length c0_8, .slice A0_9 l0_9.length c0_9]) (t := 41) ?hr ?_; (case hd => rfl); (case hg => rfl); (case hr => first | (go_simp; done) | (go_simp; rfl)); intro gb477 hg w9 hbox hb; have BK477 := Aside0.mk (hbox); have GW477 := Aside0.mk ((by rw [hg]; exact (below_size (gB HB)) : w.heap.size ≤ gb477)); have GE477 := Aside0.mk ((by rw [hg]; exact (below_size (gB HB)) : w.heap.size ≤ gb477)); replace HB := Aside0.mk (below_step (gB HB) hb); clear hb hbox hg; obtain ⟨hcz10_0, hcz10_1, hcz10_2, hcz10_3, hcz10_4, hcz10_5, hcz10_6, hcz10_7, hcz10_8, hcz10_9⟩ := gk10 BK477; obtain ⟨hfz10_0, hfz10_1, hfz10_2, hfz10_3, hfz10_4, hfz10_5, hfz10_6, hfz10_7, hfz10_8, hfz10_9⟩ := gf10 BK477) | ((with_reducible refine gate_callee (f := 57) rfl ?_); refine goesL_ (some 8) rfl rfl Try.func57 (by kernel_rfl) rfl #[.slice A0_0 l0_0.length c0_0, .int .i64 a1] rfl (by (try simp only [List.map_toArray, List.map_cons, List.map_nil]); first | done | rfl) ?_; (with_reducible refine (laws_heldIntSS.calls k _ _ l0_0 a1 t478 _ ?side1 ?side2 A3.out).mono ?_); (case side1 => exact gE HR0_0 HB); (case side2 => exact HC0_0.out); rintro e w' ⟨rfl, ⟨nd, rfl⟩⟩; refine ⟨_, rfl, ?_⟩) | ((with_reducible refine gate_callee (f := 58) rfl ?_); refine goesL_ (some 14) rfl rfl Try.func58 (by kernel_rfl) rfl #[.slice A0_1 l0_1.length c0_1, .int .i64 t478] rfl (by (try simp only [List.map_toArray, List.map_cons, List.map_nil]); first | done | rfl) ?_; (with_reducible refine (laws_heldIntS.calls k _ _ l0_1 t478 t479 _ ?side1 ?side2 A7.out).mono ?_); (case side1 => repeat (first | exact (Kd.C_below HR0_1.out (gT1 GE477.out HB)) | (with_reducible refine Kd.C_alloc ?_ _) | (with_reducible refine Kd.C_drewN ?_ _) | (with_reducible refine Kd.C_drew ?_))); (case side2 => exact HC0_1.out); rintro e w' ⟨rfl, ⟨nd, rfl⟩⟩; refine ⟨_, rfl, ?_⟩))
   go_ret
   exact ⟨by first | rfl | (simp [errW_none, errW_some] <;> rfl) | (simp [*, errW_none, errW_some] <;> rfl), gT1 GE477.out HB⟩
  ·rw [if_neg c8] at H; have c8b0 : decide (t479 < 0) = false := decide_eq_false c8; clear c8; replace H := Option.bind_eq_some_iff.mp H; obtain ⟨t480, A110, H⟩ := H; replace H : (if t480 < 0 then (some (-1)) else ((laws_heldSlabS.f k l0_3 t480).bind fun t481 => (if t481 < 0 then (some (-1)) else ((laws_heldObjectS.f k l0_4 t481).bind fun t482 => (if t482 < 0 then (some (-1)) else ((laws_heldSpaceS.f k l0_6 t482).bind fun t483 => (if t483 < 0 then (some (-1)) else ((laws_heldSlotS.f k l0_7 t483).bind fun t484 => (if t484 < 0 then (some (-1)) else ((laws_heldIntS.f k l0_8 t484).bind fun t485 => (if t485 < 0 then (some (-1)) else ((laws_heldIntS.f k l0_9 t485).bind fun t486 => (if t486 < 0 then (some (-1)) else (some t486)))))))))))))) = some r := H; have A11 := Aside0.mk A110; clear A110
   by_cases c12 : t480 < 0
   ·rw [if_pos c12] at H; have c12b0 : decide (t480 < 0) = true := decide_eq_true c12; clear c12; obtain rfl := Option.some.inj H
    go_enter Try.func19, Try.ntmps19
    go_wp2_with (first | ((with_reducible refine gate_dst (N := 2) rfl ?_); refine box_event ?hg (N := 2) ?hd (cs := #[.slice A0_0 l0_0.length c0_0, .slice A0_1 l0_1.length c0_1, .slice A0_2 l0_2.length c0_2, .slice A0_3 l0_3.length c0_3, .slice A0_4 l0_4.length c0_4, .int .i64 a0_5, .slice A0_6 l0_6.length c0_6, .slice A0_7 l0_7.length c0_7, .slice A0_8 l0_8.length c0_8, .slice A0_9 l0_9.length c0_9]) (t := 41) ?hr ?_; (case hd => rfl); (case hg => rfl); (case hr => first | (go_simp; done) | (go_simp; rfl)); intro gb477 hg w13 hbox hb; have BK477 := Aside0.mk (hbox); have GW477 := Aside0.mk ((by rw [hg]; exact (below_size (gB HB)) : w.heap.size ≤ gb477)); have GE477 := Aside0.mk ((by rw [hg]; exact (below_size (gB HB)) : w.heap.size ≤ gb477)); replace HB := Aside0.mk (below_step (gB HB) hb); clear hb hbox hg; obtain ⟨hcz14_0, hcz14_1, hcz14_2, hcz14_3, hcz14_4, hcz14_5, hcz14_6, hcz14_7, hcz14_8, hcz14_9⟩ := gk10 BK477; obtain ⟨hfz14_0, hfz14_1, hfz14_2, hfz14_3, hfz14_4, hfz14_5, hfz14_6, hfz14_7, hfz14_8, hfz14_9⟩ := gf10 BK477) | ((with_reducible refine gate_callee (f := 57) rfl ?_); refine goesL_ (some 8) rfl rfl Try.func57 (by kernel_rfl) rfl #[.slice A0_0 l0_0.length c0_0, .int .i64 a1] rfl (by (try simp only [List.map_toArray, List.map_cons, List.map_nil]); first | done | rfl) ?_; (with_reducible refine (laws_heldIntSS.calls k _ _ l0_0 a1 t478 _ ?side1 ?side2 A3.out).mono ?_); (case side1 => exact gE HR0_0 HB); (case side2 => exact HC0_0.out); rintro e w' ⟨rfl, ⟨nd, rfl⟩⟩; refine ⟨_, rfl, ?_⟩) | ((with_reducible refine gate_callee (f := 58) rfl ?_); refine goesL_ (some 14) rfl rfl Try.func58 (by kernel_rfl) rfl #[.slice A0_1 l0_1.length c0_1, .int .i64 t478] rfl (by (try simp only [List.map_toArray, List.map_cons, List.map_nil]); first | done | rfl) ?_; (with_reducible refine (laws_heldIntS.calls k _ _ l0_1 t478 t479 _ ?side1 ?side2 A7.out).mono ?_); (case side1 => repeat (first | exact (Kd.C_below HR0_1.out (gT1 GE477.out HB)) | (with_reducible refine Kd.C_alloc ?_ _) | (with_reducible refine Kd.C_drewN ?_ _) | (with_reducible refine Kd.C_drew ?_))); (case side2 => exact HC0_1.out); rintro e w' ⟨rfl, ⟨nd, rfl⟩⟩; refine ⟨_, rfl, ?_⟩) | ((with_reducible refine gate_callee (f := 59) rfl ?_); refine goesL_ (some 20) rfl rfl Try.func59 (by kernel_rfl) rfl #[.slice A0_2 l0_2.length c0_2, .int .i64 t479] rfl (by (try simp only [List.map_toArray, List.map_cons, List.map_nil]); first | done | rfl) ?_; (with_reducible refine (laws_heldRunS.calls k _ _ l0_2 t479 t480 _ ?side1 ?side2 A11.out).mono ?_); (case side1 => repeat (first | exact (Kd.C_below HR0_2.out (gT1 GE477.out HB)) | (with_reducible refine Kd.C_alloc ?_ _) | (with_reducible refine Kd.C_drewN ?_ _) | (with_reducible refine Kd.C_drew ?_))); (case side2 => exact HC0_2.out); rintro e w' ⟨rfl, ⟨nd, rfl⟩⟩; refine ⟨_, rfl, ?_⟩))
    go_ret
    exact ⟨by first | rfl | (simp [errW_none, errW_some] <;> rfl) | (simp [*, errW_none, errW_some] <;> rfl), gT1 GE477.out HB⟩
   ·rw [if_neg c12] at H; have c12b0 : decide (t480 < 0) = false := decide_eq_false c12; clear c12; replace H := Option.bind_eq_some_iff.mp H; obtain ⟨t481, A150, H⟩ := H; replace H : (if t481 < 0 then (some (-1)) else ((laws_heldObjectS.f k l0_4 t481).bind fun t482 => (if t482 < 0 then (some (-1)) else ((laws_heldSpaceS.f k l0_6 t482).bind fun t483 => (if t483 < 0 then (some (-1)) else ((laws_heldSlotS.f k l0_7 t483).bind fun t484 => (if t484 < 0 then (some (-1)) else ((laws_heldIntS.f k l0_8 t484).bind fun t485 => (if t485 < 0 then (some (-1)) else ((laws_heldIntS.f k l0_9 t485).bind fun t486 => (if t486 < 0 then (some (-1)) else (some t486)))))))))))) = some r := H; have A15 := Aside0.mk A150; clear A150
    by_cases c16 : t481 < 0
    ·rw [if_pos c16] at H; have c16b0 : decide (t481 < 0) = true := decide_eq_true c16; clear c16; obtain rfl := Option.some.inj H
     go_enter Try.func19, Try.ntmps19
     go_wp2_with (first | ((with_reducible refine gate_dst (N := 2) rfl ?_); refine box_event ?hg (N := 2) ?hd (cs := #[.slice A0_0 l0_0.length c0_0, .slice A0_1 l0_1.length c0_1, .slice A0_2 l0_2.length c0_2, .slice A0_3 l0_3.length c0_3, .slice A0_4 l0_4.length c0_4, .int .i64 a0_5, .slice A0_6 l0_6.length c0_6, .slice A0_7 l0_7.length c0_7, .slice A0_8 l0_8.length c0_8, .slice A0_9 l0_9.length c0_9]) (t := 41) ?hr ?_; (case hd => rfl); (case hg => rfl); (case hr => first | (go_simp; done) | (go_simp; rfl)); intro gb477 hg w17 hbox hb; have BK477 := Aside0.mk (hbox); have GW477 := Aside0.mk ((by rw [hg]; exact (below_size (gB HB)) : w.heap.size ≤ gb477)); have GE477 := Aside0.mk ((by rw [hg]; exact (below_size (gB HB)) : w.heap.size ≤ gb477)); replace HB := Aside0.mk (below_step (gB HB) hb); clear hb hbox hg; obtain ⟨hcz18_0, hcz18_1, hcz18_2, hcz18_3, hcz18_4, hcz18_5, hcz18_6, hcz18_7, hcz18_8, hcz18_9⟩ := gk10 BK477; obtain ⟨hfz18_0, hfz18_1, hfz18_2, hfz18_3, hfz18_4, hfz18_5, hfz18_6, hfz18_7, hfz18_8, hfz18_9⟩ := gf10 BK477) | ((with_reducible refine gate_callee (f := 57) rfl ?_); refine goesL_ (some 8) rfl rfl Try.func57 (by kernel_rfl) rfl #[.slice A0_0 l0_0.length c0_0, .int .i64 a1] rfl (by (try simp only [List.map_toArray, List.map_cons, List.map_nil]); first | done | rfl) ?_; (with_reducible refine (laws_heldIntSS.calls k _ _ l0_0 a1 t478 _ ?side1 ?side2 A3.out).mono ?_); (case side1 => exact gE HR0_0 HB); (case side2 => exact HC0_0.out); rintro e w' ⟨rfl, ⟨nd, rfl⟩⟩; refine ⟨_, rfl, ?_⟩) | ((with_reducible refine gate_callee (f := 58) rfl ?_); refine goesL_ (some 14) rfl rfl Try.func58 (by kernel_rfl) rfl #[.slice A0_1 l0_1.length c0_1, .int .i64 t478] rfl (by (try simp only [List.map_toArray, List.map_cons, List.map_nil]); first | done | rfl) ?_; (with_reducible refine (laws_heldIntS.calls k _ _ l0_1 t478 t479 _ ?side1 ?side2 A7.out).mono ?_); (case side1 => repeat (first | exact (Kd.C_below HR0_1.out (gT1 GE477.out HB)) | (with_reducible refine Kd.C_alloc ?_ _) | (with_reducible refine Kd.C_drewN ?_ _) | (with_reducible refine Kd.C_drew ?_))); (case side2 => exact HC0_1.out); rintro e w' ⟨rfl, ⟨nd, rfl⟩⟩; refine ⟨_, rfl, ?_⟩) | ((with_reducible refine gate_callee (f := 59) rfl ?_); refine goesL_ (some 20) rfl rfl Try.func59 (by kernel_rfl) rfl #[.slice A0_2 l0_2.length c0_2, .int .i64 t479] rfl (by (try simp only [List.map_toArray, List.map_cons, List.map_nil]); first | done | rfl) ?_; (with_reducible refine (laws_heldRunS.calls k _ _ l0_2 t479 t480 _ ?side1 ?side2 A11.out).mono ?_); (case side1 => repeat (first | exact (Kd.C_below HR0_2.out (gT1 GE477.out HB)) | (with_reducible refine Kd.C_alloc ?_ _) | (with_reducible refine Kd.C_drewN ?_ _) | (with_reducible refine Kd.C_drew ?_))); (case side2 => exact HC0_2.out); rintro e w' ⟨rfl, ⟨nd, rfl⟩⟩; refine ⟨_, rfl, ?_⟩) | ((with_reducible refine gate_callee (f := 60) rfl ?_); refine goesL_ (some 26) rfl rfl Try.func60 (by kernel_rfl) rfl #[.slice A0_3 l0_3.length c0_3, .int .i64 t480] rfl (by (try simp only [List.map_toArray, List.map_cons, List.map_nil]); first | done | rfl) ?_; (with_reducible refine (laws_heldSlabS.calls k _ _ l0_3 t480 t481 _ ?side1 ?side2 A15.out).mono ?_); (case side1 => repeat (first | exact (Kd.C_below HR0_3.out (gT1 GE477.out HB)) | (with_reducible refine Kd.C_alloc ?_ _) | (with_reducible refine Kd.C_drewN ?_ _) | (with_reducible refine Kd.C_drew ?_))); (case side2 => exact HC0_3.out); rintro e w' ⟨rfl, ⟨nd, rfl⟩⟩; refine ⟨_, rfl, ?_⟩))
     go_ret
     exact ⟨by first | rfl | (simp [errW_none, errW_some] <;> rfl) | (simp [*, errW_none, errW_some] <;> rfl), gT1 GE477.out HB⟩
    ·rw [if_neg c16] at H; have c16b0 : decide (t481 < 0) = false := decide_eq_false c16; clear c16; replace H := Option.bind_eq_some_iff.mp H; obtain ⟨t482, A190, H⟩ := H; replace H : (if t482 < 0 then (some (-1)) else ((laws_heldSpaceS.f k l0_6 t482).bind fun t483 => (if t483 < 0 then (some (-1)) else ((laws_heldSlotS.f k l0_7 t483).bind fun t484 => (if t484 < 0 then (some (-1)) else ((laws_heldIntS.f k l0_8 t484).bind fun t485 => (if t485 < 0 then (some (-1)) else ((laws_heldIntS.f k l0_9 t485).bind fun t486 => (if t486 < 0 then (some (-1)) else (some t486)))))))))) = some r := H; have A19 := Aside0.mk A190; clear A190
     by_cases c20 : t482 < 0
     ·rw [if_pos c20] at H; have c20b0 : decide (t482 < 0) = true := decide_eq_true c20; clear c20; obtain rfl := Option.some.inj H
      go_enter Try.func19, Try.ntmps19
      go_wp2_with (first | ((with_reducible refine gate_dst (N := 2) rfl ?_); refine box_event ?hg (N := 2) ?hd (cs := #[.slice A0_0 l0_0.length c0_0, .slice A0_1 l0_1.length c0_1, .slice A0_2 l0_2.length c0_2, .slice A0_3 l0_3.length c0_3, .slice A0_4 l0_4.length c0_4, .int .i64 a0_5, .slice A0_6 l0_6.length c0_6, .slice A0_7 l0_7.length c0_7, .slice A0_8 l0_8.length c0_8, .slice A0_9 l0_9.length c0_9]) (t := 41) ?hr ?_; (case hd => rfl); (case hg => rfl); (case hr => first | (go_simp; done) | (go_simp; rfl)); intro gb477 hg w21 hbox hb; have BK477 := Aside0.mk (hbox); have GW477 := Aside0.mk ((by rw [hg]; exact (below_size (gB HB)) : w.heap.size ≤ gb477)); have GE477 := Aside0.mk ((by rw [hg]; exact (below_size (gB HB)) : w.heap.size ≤ gb477)); replace HB := Aside0.mk (below_step (gB HB) hb); clear hb hbox hg; obtain ⟨hcz22_0, hcz22_1, hcz22_2, hcz22_3, hcz22_4, hcz22_5, hcz22_6, hcz22_7, hcz22_8, hcz22_9⟩ := gk10 BK477; obtain ⟨hfz22_0, hfz22_1, hfz22_2, hfz22_3, hfz22_4, hfz22_5, hfz22_6, hfz22_7, hfz22_8, hfz22_9⟩ := gf10 BK477) | ((with_reducible refine gate_callee (f := 57) rfl ?_); refine goesL_ (some 8) rfl rfl Try.func57 (by kernel_rfl) rfl #[.slice A0_0 l0_0.length c0_0, .int .i64 a1] rfl (by (try simp only [List.map_toArray, List.map_cons, List.map_nil]); first | done | rfl) ?_; (with_reducible refine (laws_heldIntSS.calls k _ _ l0_0 a1 t478 _ ?side1 ?side2 A3.out).mono ?_); (case side1 => exact gE HR0_0 HB); (case side2 => exact HC0_0.out); rintro e w' ⟨rfl, ⟨nd, rfl⟩⟩; refine ⟨_, rfl, ?_⟩) | ((with_reducible refine gate_callee (f := 58) rfl ?_); refine goesL_ (some 14) rfl rfl Try.func58 (by kernel_rfl) rfl #[.slice A0_1 l0_1.length c0_1, .int .i64 t478] rfl (by (try simp only [List.map_toArray, List.map_cons, List.map_nil]); first | done | rfl) ?_; (with_reducible refine (laws_heldIntS.calls k _ _ l0_1 t478 t479 _ ?side1 ?side2 A7.out).mono ?_); (case side1 => repeat (first | exact (Kd.C_below HR0_1.out (gT1 GE477.out HB)) | (with_reducible refine Kd.C_alloc ?_ _) | (with_reducible refine Kd.C_drewN ?_ _) | (with_reducible refine Kd.C_drew ?_))); (case side2 => exact HC0_1.out); rintro e w' ⟨rfl, ⟨nd, rfl⟩⟩; refine ⟨_, rfl, ?_⟩) | ((with_reducible refine gate_callee (f := 59) rfl ?_); refine goesL_ (some 20) rfl rfl Try.func59 (by kernel_rfl) rfl #[.slice A0_2 l0_2.length c0_2, .int .i64 t479] rfl (by (try simp only [List.map_toArray, List.map_cons, List.map_nil]); first | done | rfl) ?_; (with_reducible refine (laws_heldRunS.calls k _ _ l0_2 t479 t480 _ ?side1 ?side2 A11.out).mono ?_); (case side1 => repeat (first | exact (Kd.C_below HR0_2.out (gT1 GE477.out HB)) | (with_reducible refine Kd.C_alloc ?_ _) | (with_reducible refine Kd.C_drewN ?_ _) | (with_reducible refine Kd.C_drew ?_))); (case side2 => exact HC0_2.out); rintro e w' ⟨rfl, ⟨nd, rfl⟩⟩; refine ⟨_, rfl, ?_⟩) | ((with_reducible refine gate_callee (f := 60) rfl ?_); refine goesL_ (some 26) rfl rfl Try.func60 (by kernel_rfl) rfl #[.slice A0_3 l0_3.length c0_3, .int .i64 t480] rfl (by (try simp only [List.map_toArray, List.map_cons, List.map_nil]); first | done | rfl) ?_; (with_reducible refine (laws_heldSlabS.calls k _ _ l0_3 t480 t481 _ ?side1 ?side2 A15.out).mono ?_); (case side1 => repeat (first | exact (Kd.C_below HR0_3.out (gT1 GE477.out HB)) | (with_reducible refine Kd.C_alloc ?_ _) | (with_reducible refine Kd.C_drewN ?_ _) | (with_reducible refine Kd.C_drew ?_))); (case side2 => exact HC0_3.out); rintro e w' ⟨rfl, ⟨nd, rfl⟩⟩; refine ⟨_, rfl, ?_⟩) | ((with_reducible refine gate_callee (f := 61) rfl ?_); refine goesL_ (some 32) rfl rfl Try.func61 (by kernel_rfl) rfl #[.slice A0_4 l0_4.length c0_4, .int .i64 t481] rfl (by (try simp only [List.map_toArray, List.map_cons, List.map_nil]); first | done | rfl) ?_; (with_reducible refine (laws_heldObjectS.calls k _ _ l0_4 t481 t482 _ ?side1 ?side2 A19.out).mono ?_); (case side1 => repeat (first | exact (Kd.C_below HR0_4.out (gT1 GE477.out HB)) | (with_reducible refine Kd.C_alloc ?_ _) | (with_reducible refine Kd.C_drewN ?_ _) | (with_reducible refine Kd.C_drew ?_))); (case side2 => exact HC0_4.out); rintro e w' ⟨rfl, ⟨nd, rfl⟩⟩; refine ⟨_, rfl, ?_⟩))
      go_ret
      exact ⟨by first | rfl | (simp [errW_none, errW_some] <;> rfl) | (simp [*, errW_none, errW_some] <;> rfl), gT1 GE477.out HB⟩
     ·rw [if_neg c20] at H; have c20b0 : decide (t482 < 0) = false := decide_eq_false c20; clear c20; replace H := Option.bind_eq_some_iff.mp H; obtain ⟨t483, A230, H⟩ := H; replace H : (if t483 < 0 then (some (-1)) else ((laws_heldSlotS.f k l0_7 t483).bind fun t484 => (if t484 < 0 then (some (-1)) else ((laws_heldIntS.f k l0_8 t484).bind fun t485 => (if t485 < 0 then (some (-1)) else ((laws_heldIntS.f k l0_9 t485).bind fun t486 => (if t486 < 0 then (some (-1)) else (some t486)))))))) = some r := H; have A23 := Aside0.mk A230; clear A230
      by_cases c24 : t483 < 0
      ·rw [if_pos c24] at H; have c24b0 : decide (t483 < 0) = true := decide_eq_true c24; clear c24; obtain rfl := Option.some.inj H
       go_enter Try.func19, Try.ntmps19
       go_wp2_with (first | ((with_reducible refine gate_dst (N := 2) rfl ?_); refine box_event ?hg (N := 2) ?hd (cs := #[.slice A0_0 l0_0.length c0_0, .slice A0_1 l0_1.length c0_1, .slice A0_2 l0_2.length c0_2, .slice A0_3 l0_3.length c0_3, .slice A0_4 l0_4.length c0_4, .int .i64 a0_5, .slice A0_6 l0_6.length c0_6, .slice A0_7 l0_7.length c0_7, .slice A0_8 l0_8.length c0_8, .slice A0_9 l0_9.length c0_9]) (t := 41) ?hr ?_; (case hd => rfl); (case hg => rfl); (case hr => first | (go_simp; done) | (go_simp; rfl)); intro gb477 hg w25 hbox hb; have BK477 := Aside0.mk (hbox); have GW477 := Aside0.mk ((by rw [hg]; exact (below_size (gB HB)) : w.heap.size ≤ gb477)); have GE477 := Aside0.mk ((by rw [hg]; exact (below_size (gB HB)) : w.heap.size ≤ gb477)); replace HB := Aside0.mk (below_step (gB HB) hb); clear hb hbox hg; obtain ⟨hcz26_0, hcz26_1, hcz26_2, hcz26_3, hcz26_4, hcz26_5, hcz26_6, hcz26_7, hcz26_8, hcz26_9⟩ := gk10 BK477; obtain ⟨hfz26_0, hfz26_1, hfz26_2, hfz26_3, hfz26_4, hfz26_5, hfz26_6, hfz26_7, hfz26_8, hfz26_9⟩ := gf10 BK477) | ((with_reducible refine gate_callee (f := 57) rfl ?_); refine goesL_ (some 8) rfl rfl Try.func57 (by kernel_rfl) rfl #[.slice A0_0 l0_0.length c0_0, .int .i64 a1] rfl (by (try simp only [List.map_toArray, List.map_cons, List.map_nil]); first | done | rfl) ?_; (with_reducible refine (laws_heldIntSS.calls k _ _ l0_0 a1 t478 _ ?side1 ?side2 A3.out).mono ?_); (case side1 => exact gE HR0_0 HB); (case side2 => exact HC0_0.out); rintro e w' ⟨rfl, ⟨nd, rfl⟩⟩; refine ⟨_, rfl, ?_⟩) | ((with_reducible refine gate_callee (f := 58) rfl ?_); refine goesL_ (some 14) rfl rfl Try.func58 (by kernel_rfl) rfl #[.slice A0_1 l0_1.length c0_1, .int .i64 t478] rfl (by (try simp only [List.map_toArray, List.map_cons, List.map_nil]); first | done | rfl) ?_; (with_reducible refine (laws_heldIntS.calls k _ _ l0_1 t478 t479 _ ?side1 ?side2 A7.out).mono ?_); (case side1 => repeat (first | exact (Kd.C_below HR0_1.out (gT1 GE477.out HB)) | (with_reducible refine Kd.C_alloc ?_ _) | (with_reducible refine Kd.C_drewN ?_ _) | (with_reducible refine Kd.C_drew ?_))); (case side2 => exact HC0_1.out); rintro e w' ⟨rfl, ⟨nd, rfl⟩⟩; refine ⟨_, rfl, ?_⟩) | ((with_reducible refine gate_callee (f := 59) rfl ?_); refine goesL_ (some 20) rfl rfl Try.func59 (by kernel_rfl) rfl #[.slice A0_2 l0_2.length c0_2, .int .i64 t479] rfl (by (try simp only [List.map_toArray, List.map_cons, List.map_nil]); first | done | rfl) ?_; (with_reducible refine (laws_heldRunS.calls k _ _ l0_2 t479 t480 _ ?side1 ?side2 A11.out).mono ?_); (case side1 => repeat (first | exact (Kd.C_below HR0_2.out (gT1 GE477.out HB)) | (with_reducible refine Kd.C_alloc ?_ _) | (with_reducible refine Kd.C_drewN ?_ _) | (with_reducible refine Kd.C_drew ?_))); (case side2 => exact HC0_2.out); rintro e w' ⟨rfl, ⟨nd, rfl⟩⟩; refine ⟨_, rfl, ?_⟩) | ((with_reducible refine gate_callee (f := 60) rfl ?_); refine goesL_ (some 26) rfl rfl Try.func60 (by kernel_rfl) rfl #[.slice A0_3 l0_3.length c0_3, .int .i64 t480] rfl (by (try simp only [List.map_toArray, List.map_cons, List.map_nil]); first | done | rfl) ?_; (with_reducible refine (laws_heldSlabS.calls k _ _ l0_3 t480 t481 _ ?side1 ?side2 A15.out).mono ?_); (case side1 => repeat (first | exact (Kd.C_below HR0_3.out (gT1 GE477.out HB)) | (with_reducible refine Kd.C_alloc ?_ _) | (with_reducible refine Kd.C_drewN ?_ _) | (with_reducible refine Kd.C_drew ?_))); (case side2 => exact HC0_3.out); rintro e w' ⟨rfl, ⟨nd, rfl⟩⟩; refine ⟨_, rfl, ?_⟩) | ((with_reducible refine gate_callee (f := 61) rfl ?_); refine goesL_ (some 32) rfl rfl Try.func61 (by kernel_rfl) rfl #[.slice A0_4 l0_4.length c0_4, .int .i64 t481] rfl (by (try simp only [List.map_toArray, List.map_cons, List.map_nil]); first | done | rfl) ?_; (with_reducible refine (laws_heldObjectS.calls k _ _ l0_4 t481 t482 _ ?side1 ?side2 A19.out).mono ?_); (case side1 => repeat (first | exact (Kd.C_below HR0_4.out (gT1 GE477.out HB)) | (with_reducible refine Kd.C_alloc ?_ _) | (with_reducible refine Kd.C_drewN ?_ _) | (with_reducible refine Kd.C_drew ?_))); (case side2 => exact HC0_4.out); rintro e w' ⟨rfl, ⟨nd, rfl⟩⟩; refine ⟨_, rfl, ?_⟩) | ((with_reducible refine gate_callee (f := 62) rfl ?_); refine goesL_ (some 38) rfl rfl Try.func62 (by kernel_rfl) rfl #[.slice A0_6 l0_6.length c0_6, .int .i64 t482] rfl (by (try simp only [List.map_toArray, List.map_cons, List.map_nil]); first | done | rfl) ?_; (with_reducible refine (laws_heldSpaceS.calls k _ _ l0_6 t482 t483 _ ?side1 ?side2 A23.out).mono ?_); (case side1 => repeat (first | exact (Kd.C_below HR0_6.out (gT1 GE477.out HB)) | (with_reducible refine Kd.C_alloc ?_ _) | (with_reducible refine Kd.C_drewN ?_ _) | (with_reducible refine Kd.C_drew ?_))); (case side2 => exact HC0_6.out); rintro e w' ⟨rfl, ⟨nd, rfl⟩⟩; refine ⟨_, rfl, ?_⟩))
       go_ret
       exact ⟨by first | rfl | (simp [errW_none, errW_some] <;> rfl) | (simp [*, errW_none, errW_some] <;> rfl), gT1 GE477.out HB⟩
      ·rw [if_neg c24] at H; have c24b0 : decide (t483 < 0) = false := decide_eq_false c24; clear c24; replace H := Option.bind_eq_some_iff.mp H; obtain ⟨t484, A270, H⟩ := H; replace H : (if t484 < 0 then (some (-1)) else ((laws_heldIntS.f k l0_8 t484).bind fun t485 => (if t485 < 0 then (some (-1)) else ((laws_heldIntS.f k l0_9 t485).bind fun t486 => (if t486 < 0 then (some (-1)) else (some t486)))))) = some r := H; have A27 := Aside0.mk A270; clear A270
       by_cases c28 : t484 < 0
       ·rw [if_pos c28] at H; have c28b0 : decide (t484 < 0) = true := decide_eq_true c28; clear c28; obtain rfl := Option.some.inj H
        go_enter Try.func19, Try.ntmps19
        go_wp2_with (first | ((with_reducible refine gate_dst (N := 2) rfl ?_); refine box_event ?hg (N := 2) ?hd (cs := #[.slice A0_0 l0_0.length c0_0, .slice A0_1 l0_1.length c0_1, .slice A0_2 l0_2.length c0_2, .slice A0_3 l0_3.length c0_3, .slice A0_4 l0_4.length c0_4, .int .i64 a0_5, .slice A0_6 l0_6.length c0_6, .slice A0_7 l0_7.length c0_7, .slice A0_8 l0_8.length c0_8, .slice A0_9 l0_9.length c0_9]) (t := 41) ?hr ?_; (case hd => rfl); (case hg => rfl); (case hr => first | (go_simp; done) | (go_simp; rfl)); intro gb477 hg w29 hbox hb; have BK477 := Aside0.mk (hbox); have GW477 := Aside0.mk ((by rw [hg]; exact (below_size (gB HB)) : w.heap.size ≤ gb477)); have GE477 := Aside0.mk ((by rw [hg]; exact (below_size (gB HB)) : w.heap.size ≤ gb477)); replace HB := Aside0.mk (below_step (gB HB) hb); clear hb hbox hg; obtain ⟨hcz30_0, hcz30_1, hcz30_2, hcz30_3, hcz30_4, hcz30_5, hcz30_6, hcz30_7, hcz30_8, hcz30_9⟩ := gk10 BK477; obtain ⟨hfz30_0, hfz30_1, hfz30_2, hfz30_3, hfz30_4, hfz30_5, hfz30_6, hfz30_7, hfz30_8, hfz30_9⟩ := gf10 BK477) | ((with_reducible refine gate_callee (f := 57) rfl ?_); refine goesL_ (some 8) rfl rfl Try.func57 (by kernel_rfl) rfl #[.slice A0_0 l0_0.length c0_0, .int .i64 a1] rfl (by (try simp only [List.map_toArray, List.map_cons, List.map_nil]); first | done | rfl) ?_; (with_reducible refine (laws_heldIntSS.calls k _ _ l0_0 a1 t478 _ ?side1 ?side2 A3.out).mono ?_); (case side1 => exact gE HR0_0 HB); (case side2 => exact HC0_0.out); rintro e w' ⟨rfl, ⟨nd, rfl⟩⟩; refine ⟨_, rfl, ?_⟩) | ((with_reducible refine gate_callee (f := 58) rfl ?_); refine goesL_ (some 14) rfl rfl Try.func58 (by kernel_rfl) rfl #[.slice A0_1 l0_1.length c0_1, .int .i64 t478] rfl (by (try simp only [List.map_toArray, List.map_cons, List.map_nil]); first | done | rfl) ?_; (with_reducible refine (laws_heldIntS.calls k _ _ l0_1 t478 t479 _ ?side1 ?side2 A7.out).mono ?_); (case side1 => repeat (first | exact (Kd.C_below HR0_1.out (gT1 GE477.out HB)) | (with_reducible refine Kd.C_alloc ?_ _) | (with_reducible refine Kd.C_drewN ?_ _) | (with_reducible refine Kd.C_drew ?_))); (case side2 => exact HC0_1.out); rintro e w' ⟨rfl, ⟨nd, rfl⟩⟩; refine ⟨_, rfl, ?_⟩) | ((with_reducible refine gate_callee (f := 59) rfl ?_); refine goesL_ (some 20) rfl rfl Try.func59 (by kernel_rfl) rfl #[.slice A0_2 l0_2.length c0_2, .int .i64 t479] rfl (by (try simp only [List.map_toArray, List.map_cons, List.map_nil]); first | done | rfl) ?_; (with_reducible refine (laws_heldRunS.calls k _ _ l0_2 t479 t480 _ ?side1 ?side2 A11.out).mono ?_); (case side1 => repeat (first | exact (Kd.C_below HR0_2.out (gT1 GE477.out HB)) | (with_reducible refine Kd.C_alloc ?_ _) | (with_reducible refine Kd.C_drewN ?_ _) | (with_reducible refine Kd.C_drew ?_))); (case side2 => exact HC0_2.out); rintro e w' ⟨rfl, ⟨nd, rfl⟩⟩; refine ⟨_, rfl, ?_⟩) | ((with_reducible refine gate_callee (f := 60) rfl ?_); refine goesL_ (some 26) rfl rfl Try.func60 (by kernel_rfl) rfl #[.slice A0_3 l0_3.length c0_3, .int .i64 t480] rfl (by (try simp only [List.map_toArray, List.map_cons, List.map_nil]); first | done | rfl) ?_; (with_reducible refine (laws_heldSlabS.calls k _ _ l0_3 t480 t481 _ ?side1 ?side2 A15.out).mono ?_); (case side1 => repeat (first | exact (Kd.C_below HR0_3.out (gT1 GE477.out HB)) | (with_reducible refine Kd.C_alloc ?_ _) | (with_reducible refine Kd.C_drewN ?_ _) | (with_reducible refine Kd.C_drew ?_))); (case side2 => exact HC0_3.out); rintro e w' ⟨rfl, ⟨nd, rfl⟩⟩; refine ⟨_, rfl, ?_⟩) | ((with_reducible refine gate_callee (f := 61) rfl ?_); refine goesL_ (some 32) rfl rfl Try.func61 (by kernel_rfl) rfl #[.slice A0_4 l0_4.length c0_4, .int .i64 t481] rfl (by (try simp only [List.map_toArray, List.map_cons, List.map_nil]); first | done | rfl) ?_; (with_reducible refine (laws_heldObjectS.calls k _ _ l0_4 t481 t482 _ ?side1 ?side2 A19.out).mono ?_); (case side1 => repeat (first | exact (Kd.C_below HR0_4.out (gT1 GE477.out HB)) | (with_reducible refine Kd.C_alloc ?_ _) | (with_reducible refine Kd.C_drewN ?_ _) | (with_reducible refine Kd.C_drew ?_))); (case side2 => exact HC0_4.out); rintro e w' ⟨rfl, ⟨nd, rfl⟩⟩; refine ⟨_, rfl, ?_⟩) | ((with_reducible refine gate_callee (f := 62) rfl ?_); refine goesL_ (some 38) rfl rfl Try.func62 (by kernel_rfl) rfl #[.slice A0_6 l0_6.length c0_6, .int .i64 t482] rfl (by (try simp only [List.map_toArray, List.map_cons, List.map_nil]); first | done | rfl) ?_; (with_reducible refine (laws_heldSpaceS.calls k _ _ l0_6 t482 t483 _ ?side1 ?side2 A23.out).mono ?_); (case side1 => repeat (first | exact (Kd.C_below HR0_6.out (gT1 GE477.out HB)) | (with_reducible refine Kd.C_alloc ?_ _) | (with_reducible refine Kd.C_drewN ?_ _) | (with_reducible refine Kd.C_drew ?_))); (case side2 => exact HC0_6.out); rintro e w' ⟨rfl, ⟨nd, rfl⟩⟩; refine ⟨_, rfl, ?_⟩) | ((with_reducible refine gate_callee (f := 63) rfl ?_); refine goesL_ (some 44) rfl rfl Try.func63 (by kernel_rfl) rfl #[.slice A0_7 l0_7.length c0_7, .int .i64 t483] rfl (by (try simp only [List.map_toArray, List.map_cons, List.map_nil]); first | done | rfl) ?_; (with_reducible refine (laws_heldSlotS.calls k _ _ l0_7 t483 t484 _ ?side1 ?side2 A27.out).mono ?_); (case side1 => repeat (first | exact (Kd.C_below HR0_7.out (gT1 GE477.out HB)) | (with_reducible refine Kd.C_alloc ?_ _) | (with_reducible refine Kd.C_drewN ?_ _) | (with_reducible refine Kd.C_drew ?_))); (case side2 => exact HC0_7.out); rintro e w' ⟨rfl, ⟨nd, rfl⟩⟩; refine ⟨_, rfl, ?_⟩))
        go_ret
        exact ⟨by first | rfl | (simp [errW_none, errW_some] <;> rfl) | (simp [*, errW_none, errW_some] <;> rfl), gT1 GE477.out HB⟩
       ·rw [if_neg c28] at H; have c28b0 : decide (t484 < 0) = false := decide_eq_false c28; clear c28; replace H := Option.bind_eq_some_iff.mp H; obtain ⟨t485, A310, H⟩ := H; replace H : (if t485 < 0 then (some (-1)) else ((laws_heldIntS.f k l0_9 t485).bind fun t486 => (if t486 < 0 then (some (-1)) else (some t486)))) = some r := H; have A31 := Aside0.mk A310; clear A310
        by_cases c32 : t485 < 0
        ·rw [if_pos c32] at H; have c32b0 : decide (t485 < 0) = true := decide_eq_true c32; clear c32; obtain rfl := Option.some.inj H
         go_enter Try.func19, Try.ntmps19
         go_wp2_with (first | ((with_reducible refine gate_dst (N := 2) rfl ?_); refine box_event ?hg (N := 2) ?hd (cs := #[.slice A0_0 l0_0.length c0_0, .slice A0_1 l0_1.length c0_1, .slice A0_2 l0_2.length c0_2, .slice A0_3 l0_3.length c0_3, .slice A0_4 l0_4.length c0_4, .int .i64 a0_5, .slice A0_6 l0_6.length c0_6, .slice A0_7 l0_7.length c0_7, .slice A0_8 l0_8.length c0_8, .slice A0_9 l0_9.length c0_9]) (t := 41) ?hr ?_; (case hd => rfl); (case hg => rfl); (case hr => first | (go_simp; done) | (go_simp; rfl)); intro gb477 hg w33 hbox hb; have BK477 := Aside0.mk (hbox); have GW477 := Aside0.mk ((by rw [hg]; exact (below_size (gB HB)) : w.heap.size ≤ gb477)); have GE477 := Aside0.mk ((by rw [hg]; exact (below_size (gB HB)) : w.heap.size ≤ gb477)); replace HB := Aside0.mk (below_step (gB HB) hb); clear hb hbox hg; obtain ⟨hcz34_0, hcz34_1, hcz34_2, hcz34_3, hcz34_4, hcz34_5, hcz34_6, hcz34_7, hcz34_8, hcz34_9⟩ := gk10 BK477; obtain ⟨hfz34_0, hfz34_1, hfz34_2, hfz34_3, hfz34_4, hfz34_5, hfz34_6, hfz34_7, hfz34_8, hfz34_9⟩ := gf10 BK477) | ((with_reducible refine gate_callee (f := 57) rfl ?_); refine goesL_ (some 8) rfl rfl Try.func57 (by kernel_rfl) rfl #[.slice A0_0 l0_0.length c0_0, .int .i64 a1] rfl (by (try simp only [List.map_toArray, List.map_cons, List.map_nil]); first | done | rfl) ?_; (with_reducible refine (laws_heldIntSS.calls k _ _ l0_0 a1 t478 _ ?side1 ?side2 A3.out).mono ?_); (case side1 => exact gE HR0_0 HB); (case side2 => exact HC0_0.out); rintro e w' ⟨rfl, ⟨nd, rfl⟩⟩; refine ⟨_, rfl, ?_⟩) | ((with_reducible refine gate_callee (f := 58) rfl ?_); refine goesL_ (some 14) rfl rfl Try.func58 (by kernel_rfl) rfl #[.slice A0_1 l0_1.length c0_1, .int .i64 t478] rfl (by (try simp only [List.map_toArray, List.map_cons, List.map_nil]); first | done | rfl) ?_; (with_reducible refine (laws_heldIntS.calls k _ _ l0_1 t478 t479 _ ?side1 ?side2 A7.out).mono ?_); (case side1 => repeat (first | exact (Kd.C_below HR0_1.out (gT1 GE477.out HB)) | (with_reducible refine Kd.C_alloc ?_ _) | (with_reducible refine Kd.C_drewN ?_ _) | (with_reducible refine Kd.C_drew ?_))); (case side2 => exact HC0_1.out); rintro e w' ⟨rfl, ⟨nd, rfl⟩⟩; refine ⟨_, rfl, ?_⟩) | ((with_reducible refine gate_callee (f := 59) rfl ?_); refine goesL_ (some 20) rfl rfl Try.func59 (by kernel_rfl) rfl #[.slice A0_2 l0_2.length c0_2, .int .i64 t479] rfl (by (try simp only [List.map_toArray, List.map_cons, List.map_nil]); first | done | rfl) ?_; (with_reducible refine (laws_heldRunS.calls k _ _ l0_2 t479 t480 _ ?side1 ?side2 A11.out).mono ?_); (case side1 => repeat (first | exact (Kd.C_below HR0_2.out (gT1 GE477.out HB)) | (with_reducible refine Kd.C_alloc ?_ _) | (with_reducible refine Kd.C_drewN ?_ _) | (with_reducible refine Kd.C_drew ?_))); (case side2 => exact HC0_2.out); rintro e w' ⟨rfl, ⟨nd, rfl⟩⟩; refine ⟨_, rfl, ?_⟩) | ((with_reducible refine gate_callee (f := 60) rfl ?_); refine goesL_ (some 26) rfl rfl Try.func60 (by kernel_rfl) rfl #[.slice A0_3 l0_3.length c0_3, .int .i64 t480] rfl (by (try simp only [List.map_toArray, List.map_cons, List.map_nil]); first | done | rfl) ?_; (with_reducible refine (laws_heldSlabS.calls k _ _ l0_3 t480 t481 _ ?side1 ?side2 A15.out).mono ?_); (case side1 => repeat (first | exact (Kd.C_below HR0_3.out (gT1 GE477.out HB)) | (with_reducible refine Kd.C_alloc ?_ _) | (with_reducible refine Kd.C_drewN ?_ _) | (with_reducible refine Kd.C_drew ?_))); (case side2 => exact HC0_3.out); rintro e w' ⟨rfl, ⟨nd, rfl⟩⟩; refine ⟨_, rfl, ?_⟩) | ((with_reducible refine gate_callee (f := 61) rfl ?_); refine goesL_ (some 32) rfl rfl Try.func61 (by kernel_rfl) rfl #[.slice A0_4 l0_4.length c0_4, .int .i64 t481] rfl (by (try simp only [List.map_toArray, List.map_cons, List.map_nil]); first | done | rfl) ?_; (with_reducible refine (laws_heldObjectS.calls k _ _ l0_4 t481 t482 _ ?side1 ?side2 A19.out).mono ?_); (case side1 => repeat (first | exact (Kd.C_below HR0_4.out (gT1 GE477.out HB)) | (with_reducible refine Kd.C_alloc ?_ _) | (with_reducible refine Kd.C_drewN ?_ _) | (with_reducible refine Kd.C_drew ?_))); (case side2 => exact HC0_4.out); rintro e w' ⟨rfl, ⟨nd, rfl⟩⟩; refine ⟨_, rfl, ?_⟩) | ((with_reducible refine gate_callee (f := 62) rfl ?_); refine goesL_ (some 38) rfl rfl Try.func62 (by kernel_rfl) rfl #[.slice A0_6 l0_6.length c0_6, .int .i64 t482] rfl (by (try simp only [List.map_toArray, List.map_cons, List.map_nil]); first | done | rfl) ?_; (with_reducible refine (laws_heldSpaceS.calls k _ _ l0_6 t482 t483 _ ?side1 ?side2 A23.out).mono ?_); (case side1 => repeat (first | exact (Kd.C_below HR0_6.out (gT1 GE477.out HB)) | (with_reducible refine Kd.C_alloc ?_ _) | (with_reducible refine Kd.C_drewN ?_ _) | (with_reducible refine Kd.C_drew ?_))); (case side2 => exact HC0_6.out); rintro e w' ⟨rfl, ⟨nd, rfl⟩⟩; refine ⟨_, rfl, ?_⟩) | ((with_reducible refine gate_callee (f := 63) rfl ?_); refine goesL_ (some 44) rfl rfl Try.func63 (by kernel_rfl) rfl #[.slice A0_7 l0_7.length c0_7, .int .i64 t483] rfl (by (try simp only [List.map_toArray, List.map_cons, List.map_nil]); first | done | rfl) ?_; (with_reducible refine (laws_heldSlotS.calls k _ _ l0_7 t483 t484 _ ?side1 ?side2 A27.out).mono ?_); (case side1 => repeat (first | exact (Kd.C_below HR0_7.out (gT1 GE477.out HB)) | (with_reducible refine Kd.C_alloc ?_ _) | (with_reducible refine Kd.C_drewN ?_ _) | (with_reducible refine Kd.C_drew ?_))); (case side2 => exact HC0_7.out); rintro e w' ⟨rfl, ⟨nd, rfl⟩⟩; refine ⟨_, rfl, ?_⟩) | ((with_reducible refine gate_callee (f := 58) rfl ?_); refine goesL_ (some 50) rfl rfl Try.func58 (by kernel_rfl) rfl #[.slice A0_8 l0_8.length c0_8, .int .i64 t484] rfl (by (try simp only [List.map_toArray, List.map_cons, List.map_nil]); first | done | rfl) ?_; (with_reducible refine (laws_heldIntS.calls k _ _ l0_8 t484 t485 _ ?side1 ?side2 A31.out).mono ?_); (case side1 => repeat (first | exact (Kd.C_below HR0_8.out (gT1 GE477.out HB)) | (with_reducible refine Kd.C_alloc ?_ _) | (with_reducible refine Kd.C_drewN ?_ _) | (with_reducible refine Kd.C_drew ?_))); (case side2 => exact HC0_8.out); rintro e w' ⟨rfl, ⟨nd, rfl⟩⟩; refine ⟨_, rfl, ?_⟩))
         go_ret
         exact ⟨by first | rfl | (simp [errW_none, errW_some] <;> rfl) | (simp [*, errW_none, errW_some] <;> rfl), gT1 GE477.out HB⟩
        ·rw [if_neg c32] at H; have c32b0 : decide (t485 < 0) = false := decide_eq_false c32; clear c32; replace H := Option.bind_eq_some_iff.mp H; obtain ⟨t486, A350, H⟩ := H; replace H : (if t486 < 0 then (some (-1)) else (some t486)) = some r := H; have A35 := Aside0.mk A350; clear A350
         by_cases c36 : t486 < 0
         ·rw [if_pos c36] at H; have c36b0 : decide (t486 < 0) = true := decide_eq_true c36; clear c36; obtain rfl := Option.some.inj H
          go_enter Try.func19, Try.ntmps19
          go_wp2_with (first | ((with_reducible refine gate_dst (N := 2) rfl ?_); refine box_event ?hg (N := 2) ?hd (cs := #[.slice A0_0 l0_0.length c0_0, .slice A0_1 l0_1.length c0_1, .slice A0_2 l0_2.length c0_2, .slice A0_3 l0_3.length c0_3, .slice A0_4 l0_4.length c0_4, .int .i64 a0_5, .slice A0_6 l0_6.length c0_6, .slice A0_7 l0_7.length c0_7, .slice A0_8 l0_8.length c0_8, .slice A0_9 l0_9.length c0_9]) (t := 41) ?hr ?_; (case hd => rfl); (case hg => rfl); (case hr => first | (go_simp; done) | (go_simp; rfl)); intro gb477 hg w37 hbox hb; have BK477 := Aside0.mk (hbox); have GW477 := Aside0.mk ((by rw [hg]; exact (below_size (gB HB)) : w.heap.size ≤ gb477)); have GE477 := Aside0.mk ((by rw [hg]; exact (below_size (gB HB)) : w.heap.size ≤ gb477)); replace HB := Aside0.mk (below_step (gB HB) hb); clear hb hbox hg; obtain ⟨hcz38_0, hcz38_1, hcz38_2, hcz38_3, hcz38_4, hcz38_5, hcz38_6, hcz38_7, hcz38_8, hcz38_9⟩ := gk10 BK477; obtain ⟨hfz38_0, hfz38_1, hfz38_2, hfz38_3, hfz38_4, hfz38_5, hfz38_6, hfz38_7, hfz38_8, hfz38_9⟩ := gf10 BK477) | ((with_reducible refine gate_callee (f := 57) rfl ?_); refine goesL_ (some 8) rfl rfl Try.func57 (by kernel_rfl) rfl #[.slice A0_0 l0_0.length c0_0, .int .i64 a1] rfl (by (try simp only [List.map_toArray, List.map_cons, List.map_nil]); first | done | rfl) ?_; (with_reducible refine (laws_heldIntSS.calls k _ _ l0_0 a1 t478 _ ?side1 ?side2 A3.out).mono ?_); (case side1 => exact gE HR0_0 HB); (case side2 => exact HC0_0.out); rintro e w' ⟨rfl, ⟨nd, rfl⟩⟩; refine ⟨_, rfl, ?_⟩) | ((with_reducible refine gate_callee (f := 58) rfl ?_); refine goesL_ (some 14) rfl rfl Try.func58 (by kernel_rfl) rfl #[.slice A0_1 l0_1.length c0_1, .int .i64 t478] rfl (by (try simp only [List.map_toArray, List.map_cons, List.map_nil]); first | done | rfl) ?_; (with_reducible refine (laws_heldIntS.calls k _ _ l0_1 t478 t479 _ ?side1 ?side2 A7.out).mono ?_); (case side1 => repeat (first | exact (Kd.C_below HR0_1.out (gT1 GE477.out HB)) | (with_reducible refine Kd.C_alloc ?_ _) | (with_reducible refine Kd.C_drewN ?_ _) | (with_reducible refine Kd.C_drew ?_))); (case side2 => exact HC0_1.out); rintro e w' ⟨rfl, ⟨nd, rfl⟩⟩; refine ⟨_, rfl, ?_⟩) | ((with_reducible refine gate_callee (f := 59) rfl ?_); refine goesL_ (some 20) rfl rfl Try.func59 (by kernel_rfl) rfl #[.slice A0_2 l0_2.length c0_2, .int .i64 t479] rfl (by (try simp only [List.map_toArray, List.map_cons, List.map_nil]); first | done | rfl) ?_; (with_reducible refine (laws_heldRunS.calls k _ _ l0_2 t479 t480 _ ?side1 ?side2 A11.out).mono ?_); (case side1 => repeat (first | exact (Kd.C_below HR0_2.out (gT1 GE477.out HB)) | (with_reducible refine Kd.C_alloc ?_ _) | (with_reducible refine Kd.C_drewN ?_ _) | (with_reducible refine Kd.C_drew ?_))); (case side2 => exact HC0_2.out); rintro e w' ⟨rfl, ⟨nd, rfl⟩⟩; refine ⟨_, rfl, ?_⟩) | ((with_reducible refine gate_callee (f := 60) rfl ?_); refine goesL_ (some 26) rfl rfl Try.func60 (by kernel_rfl) rfl #[.slice A0_3 l0_3.length c0_3, .int .i64 t480] rfl (by (try simp only [List.map_toArray, List.map_cons, List.map_nil]); first | done | rfl) ?_; (with_reducible refine (laws_heldSlabS.calls k _ _ l0_3 t480 t481 _ ?side1 ?side2 A15.out).mono ?_); (case side1 => repeat (first | exact (Kd.C_below HR0_3.out (gT1 GE477.out HB)) | (with_reducible refine Kd.C_alloc ?_ _) | (with_reducible refine Kd.C_drewN ?_ _) | (with_reducible refine Kd.C_drew ?_))); (case side2 => exact HC0_3.out); rintro e w' ⟨rfl, ⟨nd, rfl⟩⟩; refine ⟨_, rfl, ?_⟩) | ((with_reducible refine gate_callee (f := 61) rfl ?_); refine goesL_ (some 32) rfl rfl Try.func61 (by kernel_rfl) rfl #[.slice A0_4 l0_4.length c0_4, .int .i64 t481] rfl (by (try simp only [List.map_toArray, List.map_cons, List.map_nil]); first | done | rfl) ?_; (with_reducible refine (laws_heldObjectS.calls k _ _ l0_4 t481 t482 _ ?side1 ?side2 A19.out).mono ?_); (case side1 => repeat (first | exact (Kd.C_below HR0_4.out (gT1 GE477.out HB)) | (with_reducible refine Kd.C_alloc ?_ _) | (with_reducible refine Kd.C_drewN ?_ _) | (with_reducible refine Kd.C_drew ?_))); (case side2 => exact HC0_4.out); rintro e w' ⟨rfl, ⟨nd, rfl⟩⟩; refine ⟨_, rfl, ?_⟩) | ((with_reducible refine gate_callee (f := 62) rfl ?_); refine goesL_ (some 38) rfl rfl Try.func62 (by kernel_rfl) rfl #[.slice A0_6 l0_6.length c0_6, .int .i64 t482] rfl (by (try simp only [List.map_toArray, List.map_cons, List.map_nil]); first | done | rfl) ?_; (with_reducible refine (laws_heldSpaceS.calls k _ _ l0_6 t482 t483 _ ?side1 ?side2 A23.out).mono ?_); (case side1 => repeat (first | exact (Kd.C_below HR0_6.out (gT1 GE477.out HB)) | (with_reducible refine Kd.C_alloc ?_ _) | (with_reducible refine Kd.C_drewN ?_ _) | (with_reducible refine Kd.C_drew ?_))); (case side2 => exact HC0_6.out); rintro e w' ⟨rfl, ⟨nd, rfl⟩⟩; refine ⟨_, rfl, ?_⟩) | ((with_reducible refine gate_callee (f := 63) rfl ?_); refine goesL_ (some 44) rfl rfl Try.func63 (by kernel_rfl) rfl #[.slice A0_7 l0_7.length c0_7, .int .i64 t483] rfl (by (try simp only [List.map_toArray, List.map_cons, List.map_nil]); first | done | rfl) ?_; (with_reducible refine (laws_heldSlotS.calls k _ _ l0_7 t483 t484 _ ?side1 ?side2 A27.out).mono ?_); (case side1 => repeat (first | exact (Kd.C_below HR0_7.out (gT1 GE477.out HB)) | (with_reducible refine Kd.C_alloc ?_ _) | (with_reducible refine Kd.C_drewN ?_ _) | (with_reducible refine Kd.C_drew ?_))); (case side2 => exact HC0_7.out); rintro e w' ⟨rfl, ⟨nd, rfl⟩⟩; refine ⟨_, rfl, ?_⟩) | ((with_reducible refine gate_callee (f := 58) rfl ?_); refine goesL_ (some 50) rfl rfl Try.func58 (by kernel_rfl) rfl #[.slice A0_8 l0_8.length c0_8, .int .i64 t484] rfl (by (try simp only [List.map_toArray, List.map_cons, List.map_nil]); first | done | rfl) ?_; (with_reducible refine (laws_heldIntS.calls k _ _ l0_8 t484 t485 _ ?side1 ?side2 A31.out).mono ?_); (case side1 => repeat (first | exact (Kd.C_below HR0_8.out (gT1 GE477.out HB)) | (with_reducible refine Kd.C_alloc ?_ _) | (with_reducible refine Kd.C_drewN ?_ _) | (with_reducible refine Kd.C_drew ?_))); (case side2 => exact HC0_8.out); rintro e w' ⟨rfl, ⟨nd, rfl⟩⟩; refine ⟨_, rfl, ?_⟩) | ((with_reducible refine gate_callee (f := 58) rfl ?_); refine goesL_ (some 56) rfl rfl Try.func58 (by kernel_rfl) rfl #[.slice A0_9 l0_9.length c0_9, .int .i64 t485] rfl (by (try simp only [List.map_toArray, List.map_cons, List.map_nil]); first | done | rfl) ?_; (with_reducible refine (laws_heldIntS.calls k _ _ l0_9 t485 t486 _ ?side1 ?side2 A35.out).mono ?_); (case side1 => repeat (first | exact (Kd.C_below HR0_9.out (gT1 GE477.out HB)) | (with_reducible refine Kd.C_alloc ?_ _) | (with_reducible refine Kd.C_drewN ?_ _) | (with_reducible refine Kd.C_drew ?_))); (case side2 => exact HC0_9.out); rintro e w' ⟨rfl, ⟨nd, rfl⟩⟩; refine ⟨_, rfl, ?_⟩))
          go_ret
          exact ⟨by first | rfl | (simp [errW_none, errW_some] <;> rfl) | (simp [*, errW_none, errW_some] <;> rfl), gT1 GE477.out HB⟩
         ·rw [if_neg c36] at H; have c36b0 : decide (t486 < 0) = false := decide_eq_false c36; clear c36; obtain rfl := Option.some.inj H
          go_enter Try.func19, Try.ntmps19
          go_wp2_with (first | ((with_reducible refine gate_dst (N := 2) rfl ?_); refine box_event ?hg (N := 2) ?hd (cs := #[.slice A0_0 l0_0.length c0_0, .slice A0_1 l0_1.length c0_1, .slice A0_2 l0_2.length c0_2, .slice A0_3 l0_3.length c0_3, .slice A0_4 l0_4.length c0_4, .int .i64 a0_5, .slice A0_6 l0_6.length c0_6, .slice A0_7 l0_7.length c0_7, .slice A0_8 l0_8.length c0_8, .slice A0_9 l0_9.length c0_9]) (t := 41) ?hr ?_; (case hd => rfl); (case hg => rfl); (case hr => first | (go_simp; done) | (go_simp; rfl)); intro gb477 hg w39 hbox hb; have BK477 := Aside0.mk (hbox); have GW477 := Aside0.mk ((by rw [hg]; exact (below_size (gB HB)) : w.heap.size ≤ gb477)); have GE477 := Aside0.mk ((by rw [hg]; exact (below_size (gB HB)) : w.heap.size ≤ gb477)); replace HB := Aside0.mk (below_step (gB HB) hb); clear hb hbox hg; obtain ⟨hcz40_0, hcz40_1, hcz40_2, hcz40_3, hcz40_4, hcz40_5, hcz40_6, hcz40_7, hcz40_8, hcz40_9⟩ := gk10 BK477; obtain ⟨hfz40_0, hfz40_1, hfz40_2, hfz40_3, hfz40_4, hfz40_5, hfz40_6, hfz40_7, hfz40_8, hfz40_9⟩ := gf10 BK477) | ((with_reducible refine gate_callee (f := 57) rfl ?_); refine goesL_ (some 8) rfl rfl Try.func57 (by kernel_rfl) rfl #[.slice A0_0 l0_0.length c0_0, .int .i64 a1] rfl (by (try simp only [List.map_toArray, List.map_cons, List.map_nil]); first | done | rfl) ?_; (with_reducible refine (laws_heldIntSS.calls k _ _ l0_0 a1 t478 _ ?side1 ?side2 A3.out).mono ?_); (case side1 => exact gE HR0_0 HB); (case side2 => exact HC0_0.out); rintro e w' ⟨rfl, ⟨nd, rfl⟩⟩; refine ⟨_, rfl, ?_⟩) | ((with_reducible refine gate_callee (f := 58) rfl ?_); refine goesL_ (some 14) rfl rfl Try.func58 (by kernel_rfl) rfl #[.slice A0_1 l0_1.length c0_1, .int .i64 t478] rfl (by (try simp only [List.map_toArray, List.map_cons, List.map_nil]); first | done | rfl) ?_; (with_reducible refine (laws_heldIntS.calls k _ _ l0_1 t478 t479 _ ?side1 ?side2 A7.out).mono ?_); (case side1 => repeat (first | exact (Kd.C_below HR0_1.out (gT1 GE477.out HB)) | (with_reducible refine Kd.C_alloc ?_ _) | (with_reducible refine Kd.C_drewN ?_ _) | (with_reducible refine Kd.C_drew ?_))); (case side2 => exact HC0_1.out); rintro e w' ⟨rfl, ⟨nd, rfl⟩⟩; refine ⟨_, rfl, ?_⟩) | ((with_reducible refine gate_callee (f := 59) rfl ?_); refine goesL_ (some 20) rfl rfl Try.func59 (by kernel_rfl) rfl #[.slice A0_2 l0_2.length c0_2, .int .i64 t479] rfl (by (try simp only [List.map_toArray, List.map_cons, List.map_nil]); first | done | rfl) ?_; (with_reducible refine (laws_heldRunS.calls k _ _ l0_2 t479 t480 _ ?side1 ?side2 A11.out).mono ?_); (case side1 => repeat (first | exact (Kd.C_below HR0_2.out (gT1 GE477.out HB)) | (with_reducible refine Kd.C_alloc ?_ _) | (with_reducible refine Kd.C_drewN ?_ _) | (with_reducible refine Kd.C_drew ?_))); (case side2 => exact HC0_2.out); rintro e w' ⟨rfl, ⟨nd, rfl⟩⟩; refine ⟨_, rfl, ?_⟩) | ((with_reducible refine gate_callee (f := 60) rfl ?_); refine goesL_ (some 26) rfl rfl Try.func60 (by kernel_rfl) rfl #[.slice A0_3 l0_3.length c0_3, .int .i64 t480] rfl (by (try simp only [List.map_toArray, List.map_cons, List.map_nil]); first | done | rfl) ?_; (with_reducible refine (laws_heldSlabS.calls k _ _ l0_3 t480 t481 _ ?side1 ?side2 A15.out).mono ?_); (case side1 => repeat (first | exact (Kd.C_below HR0_3.out (gT1 GE477.out HB)) | (with_reducible refine Kd.C_alloc ?_ _) | (with_reducible refine Kd.C_drewN ?_ _) | (with_reducible refine Kd.C_drew ?_))); (case side2 => exact HC0_3.out); rintro e w' ⟨rfl, ⟨nd, rfl⟩⟩; refine ⟨_, rfl, ?_⟩) | ((with_reducible refine gate_callee (f := 61) rfl ?_); refine goesL_ (some 32) rfl rfl Try.func61 (by kernel_rfl) rfl #[.slice A0_4 l0_4.length c0_4, .int .i64 t481] rfl (by (try simp only [List.map_toArray, List.map_cons, List.map_nil]); first | done | rfl) ?_; (with_reducible refine (laws_heldObjectS.calls k _ _ l0_4 t481 t482 _ ?side1 ?side2 A19.out).mono ?_); (case side1 => repeat (first | exact (Kd.C_below HR0_4.out (gT1 GE477.out HB)) | (with_reducible refine Kd.C_alloc ?_ _) | (with_reducible refine Kd.C_drewN ?_ _) | (with_reducible refine Kd.C_drew ?_))); (case side2 => exact HC0_4.out); rintro e w' ⟨rfl, ⟨nd, rfl⟩⟩; refine ⟨_, rfl, ?_⟩) | ((with_reducible refine gate_callee (f := 62) rfl ?_); refine goesL_ (some 38) rfl rfl Try.func62 (by kernel_rfl) rfl #[.slice A0_6 l0_6.length c0_6, .int .i64 t482] rfl (by (try simp only [List.map_toArray, List.map_cons, List.map_nil]); first | done | rfl) ?_; (with_reducible refine (laws_heldSpaceS.calls k _ _ l0_6 t482 t483 _ ?side1 ?side2 A23.out).mono ?_); (case side1 => repeat (first | exact (Kd.C_below HR0_6.out (gT1 GE477.out HB)) | (with_reducible refine Kd.C_alloc ?_ _) | (with_reducible refine Kd.C_drewN ?_ _) | (with_reducible refine Kd.C_drew ?_))); (case side2 => exact HC0_6.out); rintro e w' ⟨rfl, ⟨nd, rfl⟩⟩; refine ⟨_, rfl, ?_⟩) | ((with_reducible refine gate_callee (f := 63) rfl ?_); refine goesL_ (some 44) rfl rfl Try.func63 (by kernel_rfl) rfl #[.slice A0_7 l0_7.length c0_7, .int .i64 t483] rfl (by (try simp only [List.map_toArray, List.map_cons, List.map_nil]); first | done | rfl) ?_; (with_reducible refine (laws_heldSlotS.calls k _ _ l0_7 t483 t484 _ ?side1 ?side2 A27.out).mono ?_); (case side1 => repeat (first | exact (Kd.C_below HR0_7.out (gT1 GE477.out HB)) | (with_reducible refine Kd.C_alloc ?_ _) | (with_reducible refine Kd.C_drewN ?_ _) | (with_reducible refine Kd.C_drew ?_))); (case side2 => exact HC0_7.out); rintro e w' ⟨rfl, ⟨nd, rfl⟩⟩; refine ⟨_, rfl, ?_⟩) | ((with_reducible refine gate_callee (f := 58) rfl ?_); refine goesL_ (some 50) rfl rfl Try.func58 (by kernel_rfl) rfl #[.slice A0_8 l0_8.length c0_8, .int .i64 t484] rfl (by (try simp only [List.map_toArray, List.map_cons, List.map_nil]); first | done | rfl) ?_; (with_reducible refine (laws_heldIntS.calls k _ _ l0_8 t484 t485 _ ?side1 ?side2 A31.out).mono ?_); (case side1 => repeat (first | exact (Kd.C_below HR0_8.out (gT1 GE477.out HB)) | (with_reducible refine Kd.C_alloc ?_ _) | (with_reducible refine Kd.C_drewN ?_ _) | (with_reducible refine Kd.C_drew ?_))); (case side2 => exact HC0_8.out); rintro e w' ⟨rfl, ⟨nd, rfl⟩⟩; refine ⟨_, rfl, ?_⟩) | ((with_reducible refine gate_callee (f := 58) rfl ?_); refine goesL_ (some 56) rfl rfl Try.func58 (by kernel_rfl) rfl #[.slice A0_9 l0_9.length c0_9, .int .i64 t485] rfl (by (try simp only [List.map_toArray, List.map_cons, List.map_nil]); first | done | rfl) ?_; (with_reducible refine (laws_heldIntS.calls k _ _ l0_9 t485 t486 _ ?side1 ?side2 A35.out).mono ?_); (case side1 => repeat (first | exact (Kd.C_below HR0_9.out (gT1 GE477.out HB)) | (with_reducible refine Kd.C_alloc ?_ _) | (with_reducible refine Kd.C_drewN ?_ _) | (with_reducible refine Kd.C_drew ?_))); (case side2 => exact HC0_9.out); rintro e w' ⟨rfl, ⟨nd, rfl⟩⟩; refine ⟨_, rfl, ?_⟩))
          go_ret
          exact ⟨by first | rfl | (simp [errW_none, errW_some] <;> rfl) | (simp [*, errW_none, errW_some] <;> rfl), gT1 GE477.out HB⟩
end Go.Proofs.Ytngonhgghncdiaa.P
end
section
namespace Go.Proofs.Ytngonhgghncdiaa.P
open Go.Proofs.Ytngonhgghncdiaa.Up
open Go.RowKit Go.Proofs.YtngonhgghncdiaaW.PrintWords Go.Proofs.YtngonhgghncdiaaW.PrintLast Go.Proofs.YtngonhgghncdiaaW.PrintMore
set_option linter.unusedVariables false
set_option linter.unusedSimpArgs false
structure MF (w : World) (base : Nat) (P : Nat → Nat → Prop) (A : Nat → Option Addr) (n c : Nat → Nat) (l0 : List (List Int)) (l1 : List Int) (l2 : List S124) (l3 : List S131) (l4 : List S134) (l6 : List S79) (l7 : List S138) (l8 : List Int) (l9 : List Int) : Prop where
  h0 : Kd.S (Kd.slice 3 (Kd.int .i64)) 26 w base (P 0) (.slice (A 0) (n 0) (c 0)) l0
  h1 : Kd.R (Kd.int .i64) 3 w base (P 1) (.slice (A 1) (n 1) (c 1)) l1
  h2 : Kd.R k124 124 w base (P 2) (.slice (A 2) (n 2) (c 2)) l2
  h3 : Kd.S k131 131 w base (P 3) (.slice (A 3) (n 3) (c 3)) l3
  h4 : Kd.R k134 134 w base (P 4) (.slice (A 4) (n 4) (c 4)) l4
  h6 : Kd.S k79 79 w base (P 6) (.slice (A 6) (n 6) (c 6)) l6
  h7 : Kd.S k138 138 w base (P 7) (.slice (A 7) (n 7) (c 7)) l7
  h8 : Kd.R (Kd.int .i64) 3 w base (P 8) (.slice (A 8) (n 8) (c 8)) l8
  h9 : Kd.R (Kd.int .i64) 3 w base (P 9) (.slice (A 9) (n 9) (c 9)) l9
section
variable {w w' : World} {base : Nat} {P : Nat → Nat → Prop} {A : Nat → Option Addr} {n c : Nat → Nat} {l0 : List (List Int)} {l1 : List Int} {l2 : List S124} {l3 : List S131} {l4 : List S134} {l6 : List S79} {l7 : List S138} {l8 : List Int} {l9 : List Int}
theorem MF.step (h : MF w base P A n c l0 l1 l2 l3 l4 l6 l7 l8 l9) (hb : Below w.heap.size w w') : MF w' base P A n c l0 l1 l2 l3 l4 l6 l7 l8 l9 := ⟨Kd.S_below h.h0 hb, Kd.R_below h.h1 hb, Kd.R_below h.h2 hb, Kd.S_below h.h3 hb, Kd.R_below h.h4 hb, Kd.S_below h.h6 hb, Kd.S_below h.h7 hb, Kd.R_below h.h8 hb, Kd.R_below h.h9 hb⟩
theorem MF.mono {P' : Nat → Nat → Prop} (h : MF w base P A n c l0 l1 l2 l3 l4 l6 l7 l8 l9) (hp : ∀ i k, P i k → P' i k) : MF w base P' A n c l0 l1 l2 l3 l4 l6 l7 l8 l9 := ⟨Kd.S_mono h.h0 (hp 0), Kd.R_mono h.h1 (hp 1), Kd.R_mono h.h2 (hp 2), Kd.S_mono h.h3 (hp 3), Kd.R_mono h.h4 (hp 4), Kd.S_mono h.h6 (hp 6), Kd.S_mono h.h7 (hp 7), Kd.R_mono h.h8 (hp 8), Kd.R_mono h.h9 (hp 9)⟩
theorem MF.bound (h : MF w base P A n c l0 l1 l2 l3 l4 l6 l7 l8 l9) : MF w base (fun i k => P i k ∧ k < w.heap.size) A n c l0 l1 l2 l3 l4 l6 l7 l8 l9 := ⟨Kd.S_mono (Kd.S_bound h.h0) (fun _ hk => ⟨hk.1, hk.2.2.1⟩), Kd.R_mono (Kd.R_bound h.h1) (fun _ hk => ⟨hk.1, hk.2.2.1⟩), Kd.R_mono (Kd.R_bound h.h2) (fun _ hk => ⟨hk.1, hk.2.2.1⟩), Kd.S_mono (Kd.S_bound h.h3) (fun _ hk => ⟨hk.1, hk.2.2.1⟩), Kd.R_mono (Kd.R_bound h.h4) (fun _ hk => ⟨hk.1, hk.2.2.1⟩), Kd.S_mono (Kd.S_bound h.h6) (fun _ hk => ⟨hk.1, hk.2.2.1⟩), Kd.S_mono (Kd.S_bound h.h7) (fun _ hk => ⟨hk.1, hk.2.2.1⟩), Kd.R_mono (Kd.R_bound h.h8) (fun _ hk => ⟨hk.1, hk.2.2.1⟩), Kd.R_mono (Kd.R_bound h.h9) (fun _ hk => ⟨hk.1, hk.2.2.1⟩)⟩
theorem gM (h : Aside0 (MF w base P A n c l0 l1 l2 l3 l4 l6 l7 l8 l9)) [i : Upw w w'] : MF w' base P A n c l0 l1 l2 l3 l4 l6 l7 l8 l9 := h.out.step i.below
theorem gF {g : Nat} {cs : Array Value} (h : Aside0 (MF w base P A n c l0 l1 l2 l3 l4 l6 l7 l8 l9)) (hb : Aside0 (w.heap[g]? = some (.cells cs 41 (0, 0)))) [i : Far g w w'] : MF w' base P A n c l0 l1 l2 l3 l4 l6 l7 l8 l9 := ⟨fS ⟨h.out.h0⟩ hb (by decide), fR ⟨h.out.h1⟩ hb (by decide), fR ⟨h.out.h2⟩ hb (by decide), fS ⟨h.out.h3⟩ hb (by decide), fR ⟨h.out.h4⟩ hb (by decide), fS ⟨h.out.h6⟩ hb (by decide), fS ⟨h.out.h7⟩ hb (by decide), fR ⟨h.out.h8⟩ hb (by decide), fR ⟨h.out.h9⟩ hb (by decide)⟩
theorem MF.len (h : MF w base P A n c l0 l1 l2 l3 l4 l6 l7 l8 l9) : n 0 = l0.length ∧ n 1 = l1.length ∧ n 2 = l2.length ∧ n 3 = l3.length ∧ n 4 = l4.length ∧ n 6 = l6.length ∧ n 7 = l7.length ∧ n 8 = l8.length ∧ n 9 = l9.length := ⟨(Kd.S_reads' h.h0).1, (Kd.R_reads' h.h1).1, (Kd.R_reads' h.h2).1, (Kd.S_reads' h.h3).1, (Kd.R_reads' h.h4).1, (Kd.S_reads' h.h6).1, (Kd.S_reads' h.h7).1, (Kd.R_reads' h.h8).1, (Kd.R_reads' h.h9).1⟩
def PJ (own : Nat → Nat) (Z j : Nat) (i k : Nat) : Prop := (own k = i ∧ k < Z) ∨ (i < j ∧ Z ≤ k)
theorem MF.mk0 {own : Nat → Nat} {Z : Nat} {r : List (List Int)} (h : MF w base (PJ own Z 0) A n c l0 l1 l2 l3 l4 l6 l7 l8 l9) (hZ : Z ≤ w.heap.size) (ho : Kd.S (Kd.slice 3 (Kd.int .i64)) 26 w' base (fun k => (own k = 0 ∧ k < Z) ∨ w.heap.size ≤ k) (.slice (A 0) (n 0) (c 0)) r) (hk : Kept w w' (fun k => own k = 0 ∧ k < Z)) : MF w' base (PJ own Z 1) A n c r l1 l2 l3 l4 l6 l7 l8 l9 := ⟨Kd.S_mono ho (fun k q => by unfold PJ; omega), Kd.R_mono (Kd.R_kept h.h1 hk (fun k q => by unfold PJ at q; omega)) (fun k q => by unfold PJ at *; omega), Kd.R_mono (Kd.R_kept h.h2 hk (fun k q => by unfold PJ at q; omega)) (fun k q => by unfold PJ at *; omega), Kd.S_mono (Kd.S_kept h.h3 hk (fun k q => by unfold PJ at q; omega)) (fun k q => by unfold PJ at *; omega), Kd.R_mono (Kd.R_kept h.h4 hk (fun k q => by unfold PJ at q; omega)) (fun k q => by unfold PJ at *; omega), Kd.S_mono (Kd.S_kept h.h6 hk (fun k q => by unfold PJ at q; omega)) (fun k q => by unfold PJ at *; omega), Kd.S_mono (Kd.S_kept h.h7 hk (fun k q => by unfold PJ at q; omega)) (fun k q => by unfold PJ at *; omega), Kd.R_mono (Kd.R_kept h.h8 hk (fun k q => by unfold PJ at q; omega)) (fun k q => by unfold PJ at *; omega), Kd.R_mono (Kd.R_kept h.h9 hk (fun k q => by unfold PJ at q; omega)) (fun k q => by unfold PJ at *; omega)⟩
theorem MF.mk1 {own : Nat → Nat} {Z : Nat} {r : List Int} (h : MF w base (PJ own Z 1) A n c l0 l1 l2 l3 l4 l6 l7 l8 l9) (hZ : Z ≤ w.heap.size) (ho : Kd.R (Kd.int .i64) 3 w' base (fun k => (own k = 1 ∧ k < Z) ∨ w.heap.size ≤ k) (.slice (A 1) (n 1) (c 1)) r) (hk : Kept w w' (fun k => own k = 1 ∧ k < Z)) : MF w' base (PJ own Z 2) A n c l0 r l2 l3 l4 l6 l7 l8 l9 := ⟨Kd.S_mono (Kd.S_kept h.h0 hk (fun k q => by unfold PJ at q; omega)) (fun k q => by unfold PJ at *; omega), Kd.R_mono ho (fun k q => by unfold PJ; omega), Kd.R_mono (Kd.R_kept h.h2 hk (fun k q => by unfold PJ at q; omega)) (fun k q => by unfold PJ at *; omega), Kd.S_mono (Kd.S_kept h.h3 hk (fun k q => by unfold PJ at q; omega)) (fun k q => by unfold PJ at *; omega), Kd.R_mono (Kd.R_kept h.h4 hk (fun k q => by unfold PJ at q; omega)) (fun k q => by unfold PJ at *; omega), Kd.S_mono (Kd.S_kept h.h6 hk (fun k q => by unfold PJ at q; omega)) (fun k q => by unfold PJ at *; omega), Kd.S_mono (Kd.S_kept h.h7 hk (fun k q => by unfold PJ at q; omega)) (fun k q => by unfold PJ at *; omega), Kd.R_mono (Kd.R_kept h.h8 hk (fun k q => by unfold PJ at q; omega)) (fun k q => by unfold PJ at *; omega), Kd.R_mono (Kd.R_kept h.h9 hk (fun k q => by unfold PJ at q; omega)) (fun k q => by unfold PJ at *; omega)⟩
theorem MF.mk2 {own : Nat → Nat} {Z : Nat} {r : List S124} (h : MF w base (PJ own Z 2) A n c l0 l1 l2 l3 l4 l6 l7 l8 l9) (hZ : Z ≤ w.heap.size) (ho : Kd.R k124 124 w' base (fun k => (own k = 2 ∧ k < Z) ∨ w.heap.size ≤ k) (.slice (A 2) (n 2) (c 2)) r) (hk : Kept w w' (fun k => own k = 2 ∧ k < Z)) : MF w' base (PJ own Z 3) A n c l0 l1 r l3 l4 l6 l7 l8 l9 := ⟨Kd.S_mono (Kd.S_kept h.h0 hk (fun k q => by unfold PJ at q; omega)) (fun k q => by unfold PJ at *; omega), Kd.R_mono (Kd.R_kept h.h1 hk (fun k q => by unfold PJ at q; omega)) (fun k q => by unfold PJ at *; omega), Kd.R_mono ho (fun k q => by unfold PJ; omega), Kd.S_mono (Kd.S_kept h.h3 hk (fun k q => by unfold PJ at q; omega)) (fun k q => by unfold PJ at *; omega), Kd.R_mono (Kd.R_kept h.h4 hk (fun k q => by unfold PJ at q; omega)) (fun k q => by unfold PJ at *; omega), Kd.S_mono (Kd.S_kept h.h6 hk (fun k q => by unfold PJ at q; omega)) (fun k q => by unfold PJ at *; omega), Kd.S_mono (Kd.S_kept h.h7 hk (fun k q => by unfold PJ at q; omega)) (fun k q => by unfold PJ at *; omega), Kd.R_mono (Kd.R_kept h.h8 hk (fun k q => by unfold PJ at q; omega)) (fun k q => by unfold PJ at *; omega), Kd.R_mono (Kd.R_kept h.h9 hk (fun k q => by unfold PJ at q; omega)) (fun k q => by unfold PJ at *; omega)⟩
theorem MF.mk3 {own : Nat → Nat} {Z : Nat} {r : List S131} (h : MF w base (PJ own Z 3) A n c l0 l1 l2 l3 l4 l6 l7 l8 l9) (hZ : Z ≤ w.heap.size) (ho : Kd.S k131 131 w' base (fun k => (own k = 3 ∧ k < Z) ∨ w.heap.size ≤ k) (.slice (A 3) (n 3) (c 3)) r) (hk : Kept w w' (fun k => own k = 3 ∧ k < Z)) : MF w' base (PJ own Z 4) A n c l0 l1 l2 r l4 l6 l7 l8 l9 := ⟨Kd.S_mono (Kd.S_kept h.h0 hk (fun k q => by unfold PJ at q; omega)) (fun k q => by unfold PJ at *; omega), Kd.R_mono (Kd.R_kept h.h1 hk (fun k q => by unfold PJ at q; omega)) (fun k q => by unfold PJ at *; omega), Kd.R_mono (Kd.R_kept h.h2 hk (fun k q => by unfold PJ at q; omega)) (fun k q => by unfold PJ at *; omega), Kd.S_mono ho (fun k q => by unfold PJ; omega), Kd.R_mono (Kd.R_kept h.h4 hk (fun k q => by unfold PJ at q; omega)) (fun k q => by unfold PJ at *; omega), Kd.S_mono (Kd.S_kept h.h6 hk (fun k q => by unfold PJ at q; omega)) (fun k q => by unfold PJ at *; omega), Kd.S_mono (Kd.S_kept h.h7 hk (fun k q => by unfold PJ at q; omega)) (fun k q => by unfold PJ at *; omega), Kd.R_mono (Kd.R_kept h.h8 hk (fun k q => by unfold PJ at q; omega)) (fun k q => by unfold PJ at *; omega), Kd.R_mono (Kd.R_kept h.h9 hk (fun k q => by unfold PJ at q; omega)) (fun k q => by unfold PJ at *; omega)⟩
theorem MF.mk4 {own : Nat → Nat} {Z : Nat} {r : List S134} (h : MF w base (PJ own Z 4) A n c l0 l1 l2 l3 l4 l6 l7 l8 l9) (hZ : Z ≤ w.heap.size) (ho : Kd.R k134 134 w' base (fun k => (own k = 4 ∧ k < Z) ∨ w.heap.size ≤ k) (.slice (A 4) (n 4) (c 4)) r) (hk : Kept w w' (fun k => own k = 4 ∧ k < Z)) : MF w' base (PJ own Z 6) A n c l0 l1 l2 l3 r l6 l7 l8 l9 := ⟨Kd.S_mono (Kd.S_kept h.h0 hk (fun k q => by unfold PJ at q; omega)) (fun k q => by unfold PJ at *; omega), Kd.R_mono (Kd.R_kept h.h1 hk (fun k q => by unfold PJ at q; omega)) (fun k q => by unfold PJ at *; omega), Kd.R_mono (Kd.R_kept h.h2 hk (fun k q => by unfold PJ at q; omega)) (fun k q => by unfold PJ at *; omega), Kd.S_mono (Kd.S_kept h.h3 hk (fun k q => by unfold PJ at q; omega)) (fun k q => by unfold PJ at *; omega), Kd.R_mono ho (fun k q => by unfold PJ; omega), Kd.S_mono (Kd.S_kept h.h6 hk (fun k q => by unfold PJ at q; omega)) (fun k q => by unfold PJ at *; omega), Kd.S_mono (Kd.S_kept h.h7 hk (fun k q => by unfold PJ at q; omega)) (fun k q => by unfold PJ at *; omega), Kd.R_mono (Kd.R_kept h.h8 hk (fun k q => by unfold PJ at q; omega)) (fun k q => by unfold PJ at *; omega), Kd.R_mono (Kd.R_kept h.h9 hk (fun k q => by unfold PJ at q; omega)) (fun k q => by unfold PJ at *; omega)⟩
theorem MF.mk6 {own : Nat → Nat} {Z : Nat} {r : List S79} (h : MF w base (PJ own Z 6) A n c l0 l1 l2 l3 l4 l6 l7 l8 l9) (hZ : Z ≤ w.heap.size) (ho : Kd.S k79 79 w' base (fun k => (own k = 6 ∧ k < Z) ∨ w.heap.size ≤ k) (.slice (A 6) (n 6) (c 6)) r) (hk : Kept w w' (fun k => own k = 6 ∧ k < Z)) : MF w' base (PJ own Z 7) A n c l0 l1 l2 l3 l4 r l7 l8 l9 := ⟨Kd.S_mono (Kd.S_kept h.h0 hk (fun k q => by unfold PJ at q; omega)) (fun k q => by unfold PJ at *; omega), Kd.R_mono (Kd.R_kept h.h1 hk (fun k q => by unfold PJ at q; omega)) (fun k q => by unfold PJ at *; omega), Kd.R_mono (Kd.R_kept h.h2 hk (fun k q => by unfold PJ at q; omega)) (fun k q => by unfold PJ at *; omega), Kd.S_mono (Kd.S_kept h.h3 hk (fun k q => by unfold PJ at q; omega)) (fun k q => by unfold PJ at *; omega), Kd.R_mono (Kd.R_kept h.h4 hk (fun k q => by unfold PJ at q; omega)) (fun k q => by unfold PJ at *; omega), Kd.S_mono ho (fun k q => by unfold PJ; omega), Kd.S_mono (Kd.S_kept h.h7 hk (fun k q => by unfold PJ at q; omega)) (fun k q => by unfold PJ at *; omega), Kd.R_mono (Kd.R_kept h.h8 hk (fun k q => by unfold PJ at q; omega)) (fun k q => by unfold PJ at *; omega), Kd.R_mono (Kd.R_kept h.h9 hk (fun k q => by unfold PJ at q; omega)) (fun k q => by unfold PJ at *; omega)⟩
theorem MF.mk7 {own : Nat → Nat} {Z : Nat} {r : List S138} (h : MF w base (PJ own Z 7) A n c l0 l1 l2 l3 l4 l6 l7 l8 l9) (hZ : Z ≤ w.heap.size) (ho : Kd.S k138 138 w' base (fun k => (own k = 7 ∧ k < Z) ∨ w.heap.size ≤ k) (.slice (A 7) (n 7) (c 7)) r) (hk : Kept w w' (fun k => own k = 7 ∧ k < Z)) : MF w' base (PJ own Z 8) A n c l0 l1 l2 l3 l4 l6 r l8 l9 := ⟨Kd.S_mono (Kd.S_kept h.h0 hk (fun k q => by unfold PJ at q; omega)) (fun k q => by unfold PJ at *; omega), Kd.R_mono (Kd.R_kept h.h1 hk (fun k q => by unfold PJ at q; omega)) (fun k q => by unfold PJ at *; omega), Kd.R_mono (Kd.R_kept h.h2 hk (fun k q => by unfold PJ at q; omega)) (fun k q => by unfold PJ at *; omega), Kd.S_mono (Kd.S_kept h.h3 hk (fun k q => by unfold PJ at q; omega)) (fun k q => by unfold PJ at *; omega), Kd.R_mono (Kd.R_kept h.h4 hk (fun k q => by unfold PJ at q; omega)) (fun k q => by unfold PJ at *; omega), Kd.S_mono (Kd.S_kept h.h6 hk (fun k q => by unfold PJ at q; omega)) (fun k q => by unfold PJ at *; omega), Kd.S_mono ho (fun k q => by unfold PJ; omega), Kd.R_mono (Kd.R_kept h.h8 hk (fun k q => by unfold PJ at q; omega)) (fun k q => by unfold PJ at *; omega), Kd.R_mono (Kd.R_kept h.h9 hk (fun k q => by unfold PJ at q; omega)) (fun k q => by unfold PJ at *; omega)⟩
theorem MF.mk8 {own : Nat → Nat} {Z : Nat} {r : List Int} (h : MF w base (PJ own Z 8) A n c l0 l1 l2 l3 l4 l6 l7 l8 l9) (hZ : Z ≤ w.heap.size) (ho : Kd.R (Kd.int .i64) 3 w' base (fun k => (own k = 8 ∧ k < Z) ∨ w.heap.size ≤ k) (.slice (A 8) (n 8) (c 8)) r) (hk : Kept w w' (fun k => own k = 8 ∧ k < Z)) : MF w' base (PJ own Z 9) A n c l0 l1 l2 l3 l4 l6 l7 r l9 := ⟨Kd.S_mono (Kd.S_kept h.h0 hk (fun k q => by unfold PJ at q; omega)) (fun k q => by unfold PJ at *; omega), Kd.R_mono (Kd.R_kept h.h1 hk (fun k q => by unfold PJ at q; omega)) (fun k q => by unfold PJ at *; omega), Kd.R_mono (Kd.R_kept h.h2 hk (fun k q => by unfold PJ at q; omega)) (fun k q => by unfold PJ at *; omega), Kd.S_mono (Kd.S_kept h.h3 hk (fun k q => by unfold PJ at q; omega)) (fun k q => by unfold PJ at *; omega), Kd.R_mono (Kd.R_kept h.h4 hk (fun k q => by unfold PJ at q; omega)) (fun k q => by unfold PJ at *; omega), Kd.S_mono (Kd.S_kept h.h6 hk (fun k q => by unfold PJ at q; omega)) (fun k q => by unfold PJ at *; omega), Kd.S_mono (Kd.S_kept h.h7 hk (fun k q => by unfold PJ at q; omega)) (fun k q => by unfold PJ at *; omega), Kd.R_mono ho (fun k q => by unfold PJ; omega), Kd.R_mono (Kd.R_kept h.h9 hk (fun k q => by unfold PJ at q; omega)) (fun k q => by unfold PJ at *; omega)⟩
theorem MF.mk9 {own : Nat → Nat} {Z : Nat} {r : List Int} (h : MF w base (PJ own Z 9) A n c l0 l1 l2 l3 l4 l6 l7 l8 l9) (hZ : Z ≤ w.heap.size) (ho : Kd.R (Kd.int .i64) 3 w' base (fun k => (own k = 9 ∧ k < Z) ∨ w.heap.size ≤ k) (.slice (A 9) (n 9) (c 9)) r) (hk : Kept w w' (fun k => own k = 9 ∧ k < Z)) : MF w' base (PJ own Z 10) A n c l0 l1 l2 l3 l4 l6 l7 l8 r := ⟨Kd.S_mono (Kd.S_kept h.h0 hk (fun k q => by unfold PJ at q; omega)) (fun k q => by unfold PJ at *; omega), Kd.R_mono (Kd.R_kept h.h1 hk (fun k q => by unfold PJ at q; omega)) (fun k q => by unfold PJ at *; omega), Kd.R_mono (Kd.R_kept h.h2 hk (fun k q => by unfold PJ at q; omega)) (fun k q => by unfold PJ at *; omega), Kd.S_mono (Kd.S_kept h.h3 hk (fun k q => by unfold PJ at q; omega)) (fun k q => by unfold PJ at *; omega), Kd.R_mono (Kd.R_kept h.h4 hk (fun k q => by unfold PJ at q; omega)) (fun k q => by unfold PJ at *; omega), Kd.S_mono (Kd.S_kept h.h6 hk (fun k q => by unfold PJ at q; omega)) (fun k q => by unfold PJ at *; omega), Kd.S_mono (Kd.S_kept h.h7 hk (fun k q => by unfold PJ at q; omega)) (fun k q => by unfold PJ at *; omega), Kd.R_mono (Kd.R_kept h.h8 hk (fun k q => by unfold PJ at q; omega)) (fun k q => by unfold PJ at *; omega), Kd.R_mono ho (fun k q => by unfold PJ; omega)⟩
theorem gP {w0 : World} {S : Nat → Prop} (h : Aside0 (Kept w0 w S)) [i : Upw w w'] : Kept w0 w' S := h.out.below i.below
theorem kept_blk {S : Nat → Prop} {g : Nat} {o : Obj} (h : w.heap[g]? = some o) (hk : Kept w w' S) (hn : ¬ S g) : w'.heap[g]? = some o := (hk.2 g (blk_lt h) hn).trans h
end
def ownF (q : Nat) : Nat := if q = 26 ∨ q = 3 then 0 else if q = 124 then 2 else if q = 131 ∨ q = 4 then 3 else if q = 134 then 4 else 6
theorem owner {w : World} {base : Nat} {v0 v1 v2 v3 v4 v6 v7 v8 v9 : Value} {r0 : List (List Int)} {r1 : List Int} {r2 : List S124} {r3 : List S131} {r4 : List S134} {r6 : List S79} {r7 : List S138} {r8 : List Int} {r9 : List Int} (h0 : Kd.S (Kd.slice 3 (Kd.int .i64)) 26 w base (fun k_ => some k_ ≠ (v1 : Value).ownBlock ∧ some k_ ≠ (v8 : Value).ownBlock ∧ some k_ ≠ (v9 : Value).ownBlock) v0 r0) (h1 : Kd.R (Kd.int .i64) 3 w base (fun k_ => some k_ ≠ (v8 : Value).ownBlock ∧ some k_ ≠ (v9 : Value).ownBlock) v1 r1) (h2 : Kd.R k124 124 w base (fun _ => True) v2 r2) (h3 : Kd.S k131 131 w base (fun _ => True) v3 r3) (h4 : Kd.R k134 134 w base (fun _ => True) v4 r4) (h6 : Kd.S k79 79 w base (fun _ => True) v6 r6) (h7 : Kd.S k138 138 w base (fun k_ => some k_ = (v7 : Value).ownBlock ∧ some k_ ≠ (v1 : Value).ownBlock ∧ some k_ ≠ (v8 : Value).ownBlock ∧ some k_ ≠ (v9 : Value).ownBlock) v7 r7) (h8 : Kd.R (Kd.int .i64) 3 w base (fun k_ => some k_ ≠ (v1 : Value).ownBlock ∧ some k_ ≠ (v9 : Value).ownBlock) v8 r8) (h9 : Kd.R (Kd.int .i64) 3 w base (fun k_ => some k_ ≠ (v1 : Value).ownBlock ∧ some k_ ≠ (v8 : Value).ownBlock) v9 r9) :
    ∃ own : Nat → Nat, Kd.S (Kd.slice 3 (Kd.int .i64)) 26 w base (fun k => own k = 0) v0 r0 ∧ Kd.R (Kd.int .i64) 3 w base (fun k => own k = 1) v1 r1 ∧ Kd.R k124 124 w base (fun k => own k = 2) v2 r2 ∧ Kd.S k131 131 w base (fun k => own k = 3) v3 r3 ∧ Kd.R k134 134 w base (fun k => own k = 4) v4 r4 ∧ Kd.S k79 79 w base (fun k => own k = 6) v6 r6 ∧ Kd.S k138 138 w base (fun k => own k = 7) v7 r7 ∧ Kd.R (Kd.int .i64) 3 w base (fun k => own k = 8) v8 r8 ∧ Kd.R (Kd.int .i64) 3 w base (fun k => own k = 9) v9 r9 := by
  let tag : Nat → Nat := fun k => match w.heap[k]? with | some (.cells _ q _) => ownF q | _ => 0
  let own : Nat → Nat := fun k => if some k = v1.ownBlock then 1 else if some k = v8.ownBlock then 8 else if some k = v9.ownBlock then 9 else if some k = v7.ownBlock then 7 else tag k
  have htag : ∀ k cs q, w.heap[k]? = some (.cells cs q (0, 0)) → tag k = ownF q := fun k cs q h => by show (match w.heap[k]? with | some (.cells _ q _) => ownF q | _ => 0) = _; rw [h]
  have hown : ∀ k, some k ≠ v1.ownBlock → some k ≠ v8.ownBlock → some k ≠ v9.ownBlock → some k ≠ v7.ownBlock → own k = tag k := fun k x y z u => by show (if _ then _ else _) = _; rw [if_neg x, if_neg y, if_neg z, if_neg u]
  have far : ∀ k cs q, w.heap[k]? = some (.cells cs q (0, 0)) → q ≠ 3 → q ≠ 138 → own k = ownF q := fun k cs q hc hq hq' => by
    rw [hown k (Kd.R_ne h1 hc hq.symm) (Kd.R_ne h8 hc hq.symm) (Kd.R_ne h9 hc hq.symm) (Kd.R_ne (Kd.S_R h7) hc hq'.symm), htag k cs q hc]
  refine ⟨own, ?_, ?_, ?_, ?_, ?_, ?_, ?_, ?_, ?_⟩
  · exact Kd.S_mono (Kd.S_bound h0) (fun k hk => by obtain ⟨⟨x, y, z⟩, _, _, q, hq, cs, hc⟩ := hk; obtain ⟨e1, e2⟩ := (by decide : ∀ q, q ∈ 26 :: (Kd.slice 3 (Kd.int .i64)).E → ownF q = 0 ∧ q ≠ 138) q hq; exact (hown k x y z (Kd.R_ne (Kd.S_R h7) hc e2.symm)).trans ((htag k cs q hc).trans e1))
  · exact Kd.R_mono (Kd.R_tight2 rfl h1) (fun k hk => by show (if _ then _ else _) = _; rw [if_pos hk.1])
  · exact Kd.R_mono (Kd.R_bound h2) (fun k hk => by obtain ⟨_, _, _, q, hq, cs, hc⟩ := hk; obtain ⟨e1, e2, e3⟩ := (by decide : ∀ q, q ∈ 124 :: k124.E → ownF q = 2 ∧ q ≠ 3 ∧ q ≠ 138) q hq; exact (far k cs q hc e2 e3).trans e1)
  · exact Kd.S_mono (Kd.S_bound h3) (fun k hk => by obtain ⟨_, _, _, q, hq, cs, hc⟩ := hk; obtain ⟨e1, e2, e3⟩ := (by decide : ∀ q, q ∈ 131 :: k131.E → ownF q = 3 ∧ q ≠ 3 ∧ q ≠ 138) q hq; exact (far k cs q hc e2 e3).trans e1)
  · exact Kd.R_mono (Kd.R_bound h4) (fun k hk => by obtain ⟨_, _, _, q, hq, cs, hc⟩ := hk; obtain ⟨e1, e2, e3⟩ := (by decide : ∀ q, q ∈ 134 :: k134.E → ownF q = 4 ∧ q ≠ 3 ∧ q ≠ 138) q hq; exact (far k cs q hc e2 e3).trans e1)
  · exact Kd.S_mono (Kd.S_bound h6) (fun k hk => by obtain ⟨_, _, _, q, hq, cs, hc⟩ := hk; obtain ⟨e1, e2, e3⟩ := (by decide : ∀ q, q ∈ 79 :: k79.E → ownF q = 6 ∧ q ≠ 3 ∧ q ≠ 138) q hq; exact (far k cs q hc e2 e3).trans e1)
  · exact Kd.S_mono h7 (fun k hk => by show (if _ then _ else _) = _; rw [if_neg hk.2.1, if_neg hk.2.2.1, if_neg hk.2.2.2, if_pos hk.1])
  · exact Kd.R_mono (Kd.R_tight2 rfl h8) (fun k hk => by show (if _ then _ else _) = _; rw [if_neg hk.2.1, if_pos hk.1])
  · exact Kd.R_mono (Kd.R_tight2 rfl h9) (fun k hk => by show (if _ then _ else _) = _; rw [if_neg hk.2.1, if_neg hk.2.2, if_pos hk.1])
theorem spec_MachineNew' (k : Nat) (a0 a1 : Int) (r0 : List (List Int)) (r1 : List Int) (r2 : List S124) (r3 : List S131) (r4 : List S134) (r6 : List S79) (r7 : List S138) (r8 : List Int) (r9 : List Int) (r5 : Int) (b : Bool) (w : World) (h : spec_MachineNew.f k a0 a1 = some (r0, r1, r2, r3, r4, r5, r6, r7, r8, r9, b)) :
    Calls Try.prog 15 #[.int .i64 a0, .int .i64 a1] w fun e w' => ∃ (A : Nat → Option Addr) (n c : Nat → Nat), e = .returned (.tuple #[.agg #[.slice (A 0) (n 0) (c 0), .slice (A 1) (n 1) (c 1), .slice (A 2) (n 2) (c 2), .slice (A 3) (n 3) (c 3), .slice (A 4) (n 4) (c 4), .int .i64 r5, .slice (A 6) (n 6) (c 6), .slice (A 7) (n 7) (c 7), .slice (A 8) (n 8) (c 8), .slice (A 9) (n 9) (c 9)], .bool b]) ∧ MF w' w.heap.size (fun _ _ => True) A n c r0 r1 r2 r3 r4 r6 r7 r8 r9 ∧ Below w.heap.size w w' := by
  refine (spec_MachineNew.calls k a0 a1 r0 r1 r2 r3 r4 r5 r6 r7 r8 r9 b w h).mono ?_
  rintro e w' ⟨v0, v1, v2, v3, v4, v6, v7, v8, v9, rfl, h0, h1, h2, h3, h4, h6, h7, h8, h9, hb⟩
  replace h0 := Kd.S_mono h0 (fun _ _ => trivial : ∀ k, _ → True)
  replace h1 := Kd.R_mono h1 (fun _ _ => trivial : ∀ k, _ → True)
  replace h2 := Kd.R_mono h2 (fun _ _ => trivial : ∀ k, _ → True)
  replace h3 := Kd.S_mono h3 (fun _ _ => trivial : ∀ k, _ → True)
  replace h4 := Kd.R_mono h4 (fun _ _ => trivial : ∀ k, _ → True)
  replace h6 := Kd.S_mono h6 (fun _ _ => trivial : ∀ k, _ → True)
  replace h7 := Kd.S_mono h7 (fun _ _ => trivial : ∀ k, _ → True)
  replace h8 := Kd.R_mono h8 (fun _ _ => trivial : ∀ k, _ → True)
  replace h9 := Kd.R_mono h9 (fun _ _ => trivial : ∀ k, _ → True)
  obtain ⟨A0, c0, rfl⟩ := Kd.S_slice h0
  obtain ⟨A1, c1, rfl⟩ := Kd.R_slice h1
  obtain ⟨A2, c2, rfl⟩ := Kd.R_slice h2
  obtain ⟨A3, c3, rfl⟩ := Kd.S_slice h3
  obtain ⟨A4, c4, rfl⟩ := Kd.R_slice h4
  obtain ⟨A6, c6, rfl⟩ := Kd.S_slice h6
  obtain ⟨A7, c7, rfl⟩ := Kd.S_slice h7
  obtain ⟨A8, c8, rfl⟩ := Kd.R_slice h8
  obtain ⟨A9, c9, rfl⟩ := Kd.R_slice h9
  exact ⟨(fun i => match i with | 0 => A0 | 1 => A1 | 2 => A2 | 3 => A3 | 4 => A4 | 6 => A6 | 7 => A7 | 8 => A8 | 9 => A9 | _ => none), (fun i => match i with | 0 => r0.length | 1 => r1.length | 2 => r2.length | 3 => r3.length | 4 => r4.length | 6 => r6.length | 7 => r7.length | 8 => r8.length | 9 => r9.length | _ => 0), (fun i => match i with | 0 => c0 | 1 => c1 | 2 => c2 | 3 => c3 | 4 => c4 | 6 => c6 | 7 => c7 | 8 => c8 | 9 => c9 | _ => 0), rfl, ⟨h0, h1, h2, h3, h4, h6, h7, h8, h9⟩, hb⟩
theorem impl_MachineNew' (k : Nat) (a0 a1 : Int) (r0 : List (List Int)) (r1 : List Int) (r2 : List S124) (r3 : List S131) (r4 : List S134) (r6 : List S79) (r7 : List S138) (r8 : List Int) (r9 : List Int) (r5 : Int) (b : Bool) (w : World) (h : impl_MachineNew.f k a0 a1 = some (r0, r1, r2, r3, r4, r5, r6, r7, r8, r9, b)) :
    Calls Try.prog 16 #[.int .i64 a0, .int .i64 a1] w fun e w' => ∃ (A : Nat → Option Addr) (n c own : Nat → Nat), e = .returned (.tuple #[.agg #[.slice (A 0) (n 0) (c 0), .slice (A 1) (n 1) (c 1), .slice (A 2) (n 2) (c 2), .slice (A 3) (n 3) (c 3), .slice (A 4) (n 4) (c 4), .int .i64 r5, .slice (A 6) (n 6) (c 6), .slice (A 7) (n 7) (c 7), .slice (A 8) (n 8) (c 8), .slice (A 9) (n 9) (c 9)], .bool b]) ∧ (∀ k, w'.heap.size ≤ k → own k = 5) ∧ MF w' w.heap.size (fun i k => own k = i) A n c r0 r1 r2 r3 r4 r6 r7 r8 r9 ∧ Below w.heap.size w w' := by
  refine (impl_MachineNew.calls k a0 a1 r0 r1 r2 r3 r4 r5 r6 r7 r8 r9 b w h).mono ?_
  rintro e w' ⟨v0, v1, v2, v3, v4, v6, v7, v8, v9, rfl, h0, h1, h2, h3, h4, h6, h7, h8, h9, hb⟩
  obtain ⟨own, o0, o1, o2, o3, o4, o6, o7, o8, o9⟩ := owner h0 h1 h2 h3 h4 h6 h7 h8 h9
  clear h0 h1 h2 h3 h4 h6 h7 h8 h9
  replace o0 : Kd.S (Kd.slice 3 (Kd.int .i64)) 26 w' w.heap.size (fun k => (if k < w'.heap.size then own k else 5) = 0) v0 r0 := Kd.S_mono (Kd.S_bound o0) (fun k hk => by rw [if_pos hk.2.2.1]; exact hk.1)
  replace o1 : Kd.R (Kd.int .i64) 3 w' w.heap.size (fun k => (if k < w'.heap.size then own k else 5) = 1) v1 r1 := Kd.R_mono (Kd.R_bound o1) (fun k hk => by rw [if_pos hk.2.2.1]; exact hk.1)
  replace o2 : Kd.R k124 124 w' w.heap.size (fun k => (if k < w'.heap.size then own k else 5) = 2) v2 r2 := Kd.R_mono (Kd.R_bound o2) (fun k hk => by rw [if_pos hk.2.2.1]; exact hk.1)
  replace o3 : Kd.S k131 131 w' w.heap.size (fun k => (if k < w'.heap.size then own k else 5) = 3) v3 r3 := Kd.S_mono (Kd.S_bound o3) (fun k hk => by rw [if_pos hk.2.2.1]; exact hk.1)
  replace o4 : Kd.R k134 134 w' w.heap.size (fun k => (if k < w'.heap.size then own k else 5) = 4) v4 r4 := Kd.R_mono (Kd.R_bound o4) (fun k hk => by rw [if_pos hk.2.2.1]; exact hk.1)
  replace o6 : Kd.S k79 79 w' w.heap.size (fun k => (if k < w'.heap.size then own k else 5) = 6) v6 r6 := Kd.S_mono (Kd.S_bound o6) (fun k hk => by rw [if_pos hk.2.2.1]; exact hk.1)
  replace o7 : Kd.S k138 138 w' w.heap.size (fun k => (if k < w'.heap.size then own k else 5) = 7) v7 r7 := Kd.S_mono (Kd.S_bound o7) (fun k hk => by rw [if_pos hk.2.2.1]; exact hk.1)
  replace o8 : Kd.R (Kd.int .i64) 3 w' w.heap.size (fun k => (if k < w'.heap.size then own k else 5) = 8) v8 r8 := Kd.R_mono (Kd.R_bound o8) (fun k hk => by rw [if_pos hk.2.2.1]; exact hk.1)
  replace o9 : Kd.R (Kd.int .i64) 3 w' w.heap.size (fun k => (if k < w'.heap.size then own k else 5) = 9) v9 r9 := Kd.R_mono (Kd.R_bound o9) (fun k hk => by rw [if_pos hk.2.2.1]; exact hk.1)
  obtain ⟨A0, c0, rfl⟩ := Kd.S_slice o0
  obtain ⟨A1, c1, rfl⟩ := Kd.R_slice o1
  obtain ⟨A2, c2, rfl⟩ := Kd.R_slice o2
  obtain ⟨A3, c3, rfl⟩ := Kd.S_slice o3
  obtain ⟨A4, c4, rfl⟩ := Kd.R_slice o4
  obtain ⟨A6, c6, rfl⟩ := Kd.S_slice o6
  obtain ⟨A7, c7, rfl⟩ := Kd.S_slice o7
  obtain ⟨A8, c8, rfl⟩ := Kd.R_slice o8
  obtain ⟨A9, c9, rfl⟩ := Kd.R_slice o9
  exact ⟨(fun i => match i with | 0 => A0 | 1 => A1 | 2 => A2 | 3 => A3 | 4 => A4 | 6 => A6 | 7 => A7 | 8 => A8 | 9 => A9 | _ => none), (fun i => match i with | 0 => r0.length | 1 => r1.length | 2 => r2.length | 3 => r3.length | 4 => r4.length | 6 => r6.length | 7 => r7.length | 8 => r8.length | 9 => r9.length | _ => 0), (fun i => match i with | 0 => c0 | 1 => c1 | 2 => c2 | 3 => c3 | 4 => c4 | 6 => c6 | 7 => c7 | 8 => c8 | 9 => c9 | _ => 0), fun k => if k < w'.heap.size then own k else 5, rfl, fun k hk => if_neg (Nat.not_lt.2 hk), ⟨o0, o1, o2, o3, o4, o6, o7, o8, o9⟩, hb⟩
theorem eqMachine' (k : Nat) (A A' : Nat → Option Addr) (n c n' c' : Nat → Nat) (l0 : List (List Int)) (l1 : List Int) (l2 : List S124) (l3 : List S131) (l4 : List S134) (l6 : List S79) (l7 : List S138) (l8 : List Int) (l9 : List Int) (m0 : List (List Int)) (m1 : List Int) (m2 : List S124) (m3 : List S131) (m4 : List S134) (m6 : List S79) (m7 : List S138) (m8 : List Int) (m9 : List Int) (x y : Int) (w : World) (b b' : Nat) (P P' : Nat → Nat → Prop) (H : MF w b P A n c l0 l1 l2 l3 l4 l6 l7 l8 l9) (H' : MF w b' P' A' n' c' m0 m1 m2 m3 m4 m6 m7 m8 m9) (h : laws_eqMachine.f k l0 l1 l2 l3 l4 x l6 l7 l8 l9 m0 m1 m2 m3 m4 y m6 m7 m8 m9 = some true) :
    Calls Try.prog 17 #[.agg #[.slice (A 0) (n 0) (c 0), .slice (A 1) (n 1) (c 1), .slice (A 2) (n 2) (c 2), .slice (A 3) (n 3) (c 3), .slice (A 4) (n 4) (c 4), .int .i64 x, .slice (A 6) (n 6) (c 6), .slice (A 7) (n 7) (c 7), .slice (A 8) (n 8) (c 8), .slice (A 9) (n 9) (c 9)], .agg #[.slice (A' 0) (n' 0) (c' 0), .slice (A' 1) (n' 1) (c' 1), .slice (A' 2) (n' 2) (c' 2), .slice (A' 3) (n' 3) (c' 3), .slice (A' 4) (n' 4) (c' 4), .int .i64 y, .slice (A' 6) (n' 6) (c' 6), .slice (A' 7) (n' 7) (c' 7), .slice (A' 8) (n' 8) (c' 8), .slice (A' 9) (n' 9) (c' 9)]] w fun e w' => e = .returned (.bool true) ∧ Below w.heap.size w w' := by
  obtain ⟨e0, e1, e2, e3, e4, e6, e7, e8, e9⟩ := H.len
  rw [e0, e1, e2, e3, e4, e6, e7, e8, e9]
  clear e0 e1 e2 e3 e4 e6 e7 e8 e9
  obtain ⟨e0, e1, e2, e3, e4, e6, e7, e8, e9⟩ := H'.len
  rw [e0, e1, e2, e3, e4, e6, e7, e8, e9]
  exact laws_eqMachine.calls k (A 0) (c 0) l0 (A 1) (c 1) l1 (A 2) (c 2) l2 (A 3) (c 3) l3 (A 4) (c 4) l4 x (A 6) (c 6) l6 (A 7) (c 7) l7 (A 8) (c 8) l8 (A 9) (c 9) l9 (A' 0) (c' 0) m0 (A' 1) (c' 1) m1 (A' 2) (c' 2) m2 (A' 3) (c' 3) m3 (A' 4) (c' 4) m4 y (A' 6) (c' 6) m6 (A' 7) (c' 7) m7 (A' 8) (c' 8) m8 (A' 9) (c' 9) m9 true w (Kd.S_reads' H.h0).2.2 (Nat.le_trans (Nat.le_of_eq (Kd.S_reads' H.h0).1.symm) (Kd.S_reads' H.h0).2.1) (Kd.R_reads' H.h1).2.2 (Nat.le_trans (Nat.le_of_eq (Kd.R_reads' H.h1).1.symm) (Kd.R_reads' H.h1).2.1) (Kd.R_reads' H.h2).2.2 (Nat.le_trans (Nat.le_of_eq (Kd.R_reads' H.h2).1.symm) (Kd.R_reads' H.h2).2.1) (Kd.S_reads' H.h3).2.2 (Nat.le_trans (Nat.le_of_eq (Kd.S_reads' H.h3).1.symm) (Kd.S_reads' H.h3).2.1) (Kd.R_reads' H.h4).2.2 (Nat.le_trans (Nat.le_of_eq (Kd.R_reads' H.h4).1.symm) (Kd.R_reads' H.h4).2.1) (Kd.S_reads' H.h6).2.2 (Nat.le_trans (Nat.le_of_eq (Kd.S_reads' H.h6).1.symm) (Kd.S_reads' H.h6).2.1) (Kd.S_reads' H.h7).2.2 (Nat.le_trans (Nat.le_of_eq (Kd.S_reads' H.h7).1.symm) (Kd.S_reads' H.h7).2.1) (Kd.R_reads' H.h8).2.2 (Nat.le_trans (Nat.le_of_eq (Kd.R_reads' H.h8).1.symm) (Kd.R_reads' H.h8).2.1) (Kd.R_reads' H.h9).2.2 (Nat.le_trans (Nat.le_of_eq (Kd.R_reads' H.h9).1.symm) (Kd.R_reads' H.h9).2.1) (Kd.S_reads' H'.h0).2.2 (Nat.le_trans (Nat.le_of_eq (Kd.S_reads' H'.h0).1.symm) (Kd.S_reads' H'.h0).2.1) (Kd.R_reads' H'.h1).2.2 (Nat.le_trans (Nat.le_of_eq (Kd.R_reads' H'.h1).1.symm) (Kd.R_reads' H'.h1).2.1) (Kd.R_reads' H'.h2).2.2 (Nat.le_trans (Nat.le_of_eq (Kd.R_reads' H'.h2).1.symm) (Kd.R_reads' H'.h2).2.1) (Kd.S_reads' H'.h3).2.2 (Nat.le_trans (Nat.le_of_eq (Kd.S_reads' H'.h3).1.symm) (Kd.S_reads' H'.h3).2.1) (Kd.R_reads' H'.h4).2.2 (Nat.le_trans (Nat.le_of_eq (Kd.R_reads' H'.h4).1.symm) (Kd.R_reads' H'.h4).2.1) (Kd.S_reads' H'.h6).2.2 (Nat.le_trans (Nat.le_of_eq (Kd.S_reads' H'.h6).1.symm) (Kd.S_reads' H'.h6).2.1) (Kd.S_reads' H'.h7).2.2 (Nat.le_trans (Nat.le_of_eq (Kd.S_reads' H'.h7).1.symm) (Kd.S_reads' H'.h7).2.1) (Kd.R_reads' H'.h8).2.2 (Nat.le_trans (Nat.le_of_eq (Kd.R_reads' H'.h8).1.symm) (Kd.R_reads' H'.h8).2.1) (Kd.R_reads' H'.h9).2.2 (Nat.le_trans (Nat.le_of_eq (Kd.R_reads' H'.h9).1.symm) (Kd.R_reads' H'.h9).2.1) h rfl
theorem heldMachine' (k : Nat) (A : Nat → Option Addr) (n c : Nat → Nat) (l0 : List (List Int)) (l1 : List Int) (l2 : List S124) (l3 : List S131) (l4 : List S134) (l6 : List S79) (l7 : List S138) (l8 : List Int) (l9 : List Int) (x a1 r : Int) (w : World) (b : Nat) (P : Nat → Nat → Prop) (H : MF w b P A n c l0 l1 l2 l3 l4 l6 l7 l8 l9) (h : laws_heldMachine.f k l0 l1 l2 l3 l4 x l6 l7 l8 l9 a1 = some r) :
    Calls Try.prog 19 #[.agg #[.slice (A 0) (n 0) (c 0), .slice (A 1) (n 1) (c 1), .slice (A 2) (n 2) (c 2), .slice (A 3) (n 3) (c 3), .slice (A 4) (n 4) (c 4), .int .i64 x, .slice (A 6) (n 6) (c 6), .slice (A 7) (n 7) (c 7), .slice (A 8) (n 8) (c 8), .slice (A 9) (n 9) (c 9)], .int .i64 a1] w fun e w' => e = .returned (.int .i64 r) ∧ Below w.heap.size w w' := by
  obtain ⟨e0, e1, e2, e3, e4, e6, e7, e8, e9⟩ := H.len
  rw [e0, e1, e2, e3, e4, e6, e7, e8, e9]
  exact laws_heldMachine.calls k (A 0) (c 0) l0 (A 1) (c 1) l1 (A 2) (c 2) l2 (A 3) (c 3) l3 (A 4) (c 4) l4 x (A 6) (c 6) l6 (A 7) (c 7) l7 (A 8) (c 8) l8 (A 9) (c 9) l9 a1 r w (Kd.S_reads' H.h0).2.2 (Nat.le_trans (Nat.le_of_eq (Kd.S_reads' H.h0).1.symm) (Kd.S_reads' H.h0).2.1) (Kd.R_reads' H.h1).2.2 (Nat.le_trans (Nat.le_of_eq (Kd.R_reads' H.h1).1.symm) (Kd.R_reads' H.h1).2.1) (Kd.R_reads' H.h2).2.2 (Nat.le_trans (Nat.le_of_eq (Kd.R_reads' H.h2).1.symm) (Kd.R_reads' H.h2).2.1) (Kd.S_reads' H.h3).2.2 (Nat.le_trans (Nat.le_of_eq (Kd.S_reads' H.h3).1.symm) (Kd.S_reads' H.h3).2.1) (Kd.R_reads' H.h4).2.2 (Nat.le_trans (Nat.le_of_eq (Kd.R_reads' H.h4).1.symm) (Kd.R_reads' H.h4).2.1) (Kd.S_reads' H.h6).2.2 (Nat.le_trans (Nat.le_of_eq (Kd.S_reads' H.h6).1.symm) (Kd.S_reads' H.h6).2.1) (Kd.S_reads' H.h7).2.2 (Nat.le_trans (Nat.le_of_eq (Kd.S_reads' H.h7).1.symm) (Kd.S_reads' H.h7).2.1) (Kd.R_reads' H.h8).2.2 (Nat.le_trans (Nat.le_of_eq (Kd.R_reads' H.h8).1.symm) (Kd.R_reads' H.h8).2.1) (Kd.R_reads' H.h9).2.2 (Nat.le_trans (Nat.le_of_eq (Kd.R_reads' H.h9).1.symm) (Kd.R_reads' H.h9).2.1) h
set_option maxHeartbeats 8000000 in
set_option maxRecDepth 100000 in
theorem markMachine' (k : Nat) (A : Nat → Option Addr) (n c own : Nat → Nat) (l0 : List (List Int)) (l1 : List Int) (l2 : List S124) (l3 : List S131) (l4 : List S134) (l6 : List S79) (l7 : List S138) (l8 : List Int) (l9 : List Int) (r0 : List (List Int)) (r1 : List Int) (r2 : List S124) (r3 : List S131) (r4 : List S134) (r6 : List S79) (r7 : List S138) (r8 : List Int) (r9 : List Int) (x a1 m0 m1 m2 m3 m4 m6 m7 m8 m9 : Int) (w0 w : World) (hB : Below w0.heap.size w0 w) (H : MF w w0.heap.size (fun i k => own k = i) A n c l0 l1 l2 l3 l4 l6 l7 l8 l9) (g0 : laws_markIntSS.f k l0 a1 = some (m0, r0)) (g1 : laws_markIntS.f k l1 m0 = some (m1, r1)) (g2 : laws_markRunS.f k l2 m1 = some (m2, r2)) (g3 : laws_markSlabS.f k l3 m2 = some (m3, r3)) (g4 : laws_markObjectS.f k l4 m3 = some (m4, r4)) (g6 : laws_markSpaceS.f k l6 m4 = some (m6, r6)) (g7 : laws_markSlotS.f k l7 m6 = some (m7, r7)) (g8 : laws_markIntS.f k l8 m7 = some (m8, r8)) (g9 : laws_markIntS.f k l9 m8 = some (m9, r9)) :
    Calls Try.prog 18 #[.agg #[.slice (A 0) (n 0) (c 0), .slice (A 1) (n 1) (c 1), .slice (A 2) (n 2) (c 2), .slice (A 3) (n 3) (c 3), .slice (A 4) (n 4) (c 4), .int .i64 x, .slice (A 6) (n 6) (c 6), .slice (A 7) (n 7) (c 7), .slice (A 8) (n 8) (c 8), .slice (A 9) (n 9) (c 9)], .int .i64 a1] w fun e w' => e = .returned (.int .i64 m9) ∧ MF w' w0.heap.size (fun _ _ => True) A n c r0 r1 r2 r3 r4 r6 r7 r8 r9 ∧ Below w0.heap.size w0 w' ∧ Kept w w' (fun k => own k ≠ 5) := by
  have hu41 := Try.underlying41
  obtain ⟨Z, hZ⟩ : ∃ z, z = w.heap.size := ⟨_, rfl⟩
  have HM := Aside0.mk (H.bound.mono (P' := PJ own Z 0) (fun i k q => .inl ⟨q.1, hZ ▸ q.2⟩))
  have HB := Aside0.mk hB
  have HK := Aside0.mk (Kept.refl w (fun k => own k ≠ 5))
  clear H hB
  have F0 := Aside0.mk g0
  have F1 := Aside0.mk g1
  have F2 := Aside0.mk g2
  have F3 := Aside0.mk g3
  have F4 := Aside0.mk g4
  have F6 := Aside0.mk g6
  have F7 := Aside0.mk g7
  have F8 := Aside0.mk g8
  have F9 := Aside0.mk g9
  clear g0 g1 g2 g3 g4 g6 g7 g8 g9
  go_enter Try.func18, Try.ntmps18
  go_wp2_with (first | ((with_reducible refine gate_dst (N := 2) rfl ?_); refine box_event ?hg (N := 2) ?hd (cs := #[.slice (A 0) (n 0) (c 0), .slice (A 1) (n 1) (c 1), .slice (A 2) (n 2) (c 2), .slice (A 3) (n 3) (c 3), .slice (A 4) (n 4) (c 4), .int .i64 x, .slice (A 6) (n 6) (c 6), .slice (A 7) (n 7) (c 7), .slice (A 8) (n 8) (c 8), .slice (A 9) (n 9) (c 9)]) (t := 41) ?hr ?_; (case hd => rfl); (case hg => rfl); (case hr => first | (go_simp; done) | (go_simp; rfl)); intro gb hg w4 hbox hb; have GZ := Aside0.mk (show Z ≤ gb by rw [hg, hZ]; exact Nat.le_refl _); replace HM := Aside0.mk ((gM HM).step hb); replace HK := Aside0.mk ((gP HK).below hb); replace HB := Aside0.mk (below_step (gB HB) hb); have BK := Aside0.mk hbox; clear hb hbox hg; have hcz_0 := gk10 BK; replace hcz_0 := hcz_0.1) | ((with_reducible refine gate_callee (f := 50) rfl ?_); refine goesL_ (some 8) rfl rfl Try.func50 (by kernel_rfl) rfl #[.slice (A 0) (n 0) (c 0), .int .i64 a1] rfl (by (try simp only [List.map_toArray, List.map_cons, List.map_nil]); first | done | rfl) ?_; (with_reducible refine (laws_markIntSS.calls k (fun k_ => own k_ = 0 ∧ k_ < Z) _ l0 a1 m0 r0 w0 _ ?sB ?sO F0.out).mono ?_); (case sB => exact gB HB); (case sO => exact Kd.S_mono (gM HM).h0 (fun k_ q => by unfold PJ at q; omega)); rintro e wm0 ⟨rfl, ho, hb, hk⟩; refine ⟨_, rfl, ?_⟩; replace HM := Aside0.mk (MF.mk0 (gM HM) (Nat.le_trans GZ.out (Nat.le_of_lt (blk_lt (gK BK)))) ho hk); replace BK := Aside0.mk (kept_blk (gK BK) hk (fun q => by have := GZ.out; omega)); replace HK := Aside0.mk ((gP HK).then_ hk (fun k q => .inl (by rw [q.1]; decide))); replace HB := Aside0.mk hb; clear ho hb hk; have hcz_1 := gk10 BK; replace hcz_1 := hcz_1.2.1) | ((with_reducible refine gate_callee (f := 51) rfl ?_); refine goesL_ (some 12) rfl rfl Try.func51 (by kernel_rfl) rfl #[.slice (A 1) (n 1) (c 1), .int .i64 m0] rfl (by (try simp only [List.map_toArray, List.map_cons, List.map_nil]); first | done | rfl) ?_; (with_reducible refine (laws_markIntS.calls k (fun k_ => own k_ = 1 ∧ k_ < Z) _ l1 m0 m1 r1 w0 _ ?sB ?sO F1.out).mono ?_); (case sB => exact gB HB); (case sO => exact Kd.R_mono (gM HM).h1 (fun k_ q => by unfold PJ at q; omega)); rintro e wm1 ⟨rfl, ho, hb, hk⟩; refine ⟨_, rfl, ?_⟩; replace HM := Aside0.mk (MF.mk1 (gM HM) (Nat.le_trans GZ.out (Nat.le_of_lt (blk_lt (gK BK)))) ho hk); replace BK := Aside0.mk (kept_blk (gK BK) hk (fun q => by have := GZ.out; omega)); replace HK := Aside0.mk ((gP HK).then_ hk (fun k q => .inl (by rw [q.1]; decide))); replace HB := Aside0.mk hb; clear ho hb hk; have hcz_2 := gk10 BK; replace hcz_2 := hcz_2.2.2.1) | ((with_reducible refine gate_callee (f := 52) rfl ?_); refine goesL_ (some 16) rfl rfl Try.func52 (by kernel_rfl) rfl #[.slice (A 2) (n 2) (c 2), .int .i64 m1] rfl (by (try simp only [List.map_toArray, List.map_cons, List.map_nil]); first | done | rfl) ?_; (with_reducible refine (laws_markRunS.calls k (fun k_ => own k_ = 2 ∧ k_ < Z) _ l2 m1 m2 r2 w0 _ ?sB ?sO F2.out).mono ?_); (case sB => exact gB HB); (case sO => exact Kd.R_mono (gM HM).h2 (fun k_ q => by unfold PJ at q; omega)); rintro e wm2 ⟨rfl, ho, hb, hk⟩; refine ⟨_, rfl, ?_⟩; replace HM := Aside0.mk (MF.mk2 (gM HM) (Nat.le_trans GZ.out (Nat.le_of_lt (blk_lt (gK BK)))) ho hk); replace BK := Aside0.mk (kept_blk (gK BK) hk (fun q => by have := GZ.out; omega)); replace HK := Aside0.mk ((gP HK).then_ hk (fun k q => .inl (by rw [q.1]; decide))); replace HB := Aside0.mk hb; clear ho hb hk; have hcz_3 := gk10 BK; replace hcz_3 := hcz_3.2.2.2.1) | ((with_reducible refine gate_callee (f := 53) rfl ?_); refine goesL_ (some 20) rfl rfl Try.func53 (by kernel_rfl) rfl #[.slice (A 3) (n 3) (c 3), .int .i64 m2] rfl (by (try simp only [List.map_toArray, List.map_cons, List.map_nil]); first | done | rfl) ?_; (with_reducible refine (laws_markSlabS.calls k (fun k_ => own k_ = 3 ∧ k_ < Z) _ l3 m2 m3 r3 w0 _ ?sB ?sO F3.out).mono ?_); (case sB => exact gB HB); (case sO => exact Kd.S_mono (gM HM).h3 (fun k_ q => by unfold PJ at q; omega)); rintro e wm3 ⟨rfl, ho, hb, hk⟩; refine ⟨_, rfl, ?_⟩; replace HM := Aside0.mk (MF.mk3 (gM HM) (Nat.le_trans GZ.out (Nat.le_of_lt (blk_lt (gK BK)))) ho hk); replace BK := Aside0.mk (kept_blk (gK BK) hk (fun q => by have := GZ.out; omega)); replace HK := Aside0.mk ((gP HK).then_ hk (fun k q => .inl (by rw [q.1]; decide))); replace HB := Aside0.mk hb; clear ho hb hk; have hcz_4 := gk10 BK; replace hcz_4 := hcz_4.2.2.2.2.1) | ((with_reducible refine gate_callee (f := 54) rfl ?_); refine goesL_ (some 24) rfl rfl Try.func54 (by kernel_rfl) rfl #[.slice (A 4) (n 4) (c 4), .int .i64 m3] rfl (by (try simp only [List.map_toArray, List.map_cons, List.map_nil]); first | done | rfl) ?_; (with_reducible refine (laws_markObjectS.calls k (fun k_ => own k_ = 4 ∧ k_ < Z) _ l4 m3 m4 r4 w0 _ ?sB ?sO F4.out).mono ?_); (case sB => exact gB HB); (case sO => exact Kd.R_mono (gM HM).h4 (fun k_ q => by unfold PJ at q; omega)); rintro e wm4 ⟨rfl, ho, hb, hk⟩; refine ⟨_, rfl, ?_⟩; replace HM := Aside0.mk (MF.mk4 (gM HM) (Nat.le_trans GZ.out (Nat.le_of_lt (blk_lt (gK BK)))) ho hk); replace BK := Aside0.mk (kept_blk (gK BK) hk (fun q => by have := GZ.out; omega)); replace HK := Aside0.mk ((gP HK).then_ hk (fun k q => .inl (by rw [q.1]; decide))); replace HB := Aside0.mk hb; clear ho hb hk; have hcz_6 := gk10 BK; replace hcz_6 := hcz_6.2.2.2.2.2.2.1) | ((with_reducible refine gate_callee (f := 55) rfl ?_); refine goesL_ (some 28) rfl rfl Try.func55 (by kernel_rfl) rfl #[.slice (A 6) (n 6) (c 6), .int .i64 m4] rfl (by (try simp only [List.map_toArray, List.map_cons, List.map_nil]); first | done | rfl) ?_; (with_reducible refine (laws_markSpaceS.calls k (fun k_ => own k_ = 6 ∧ k_ < Z) _ l6 m4 m6 r6 w0 _ ?sB ?sO F6.out).mono ?_); (case sB => exact gB HB); (case sO => exact Kd.S_mono (gM HM).h6 (fun k_ q => by unfold PJ at q; omega)); rintro e wm6 ⟨rfl, ho, hb, hk⟩; refine ⟨_, rfl, ?_⟩; replace HM := Aside0.mk (MF.mk6 (gM HM) (Nat.le_trans GZ.out (Nat.le_of_lt (blk_lt (gK BK)))) ho hk); replace BK := Aside0.mk (kept_blk (gK BK) hk (fun q => by have := GZ.out; omega)); replace HK := Aside0.mk ((gP HK).then_ hk (fun k q => .inl (by rw [q.1]; decide))); replace HB := Aside0.mk hb; clear ho hb hk; have hcz_7 := gk10 BK; replace hcz_7 := hcz_7.2.2.2.2.2.2.2.1) | ((with_reducible refine gate_callee (f := 56) rfl ?_); refine goesL_ (some 32) rfl rfl Try.func56 (by kernel_rfl) rfl #[.slice (A 7) (n 7) (c 7), .int .i64 m6] rfl (by (try simp only [List.map_toArray, List.map_cons, List.map_nil]); first | done | rfl) ?_; (with_reducible refine (laws_markSlotS.calls k (fun k_ => own k_ = 7 ∧ k_ < Z) _ l7 m6 m7 r7 w0 _ ?sB ?sO F7.out).mono ?_); (case sB => exact gB HB); (case sO => exact Kd.S_mono (gM HM).h7 (fun k_ q => by unfold PJ at q; omega)); rintro e wm7 ⟨rfl, ho, hb, hk⟩; refine ⟨_, rfl, ?_⟩; replace HM := Aside0.mk (MF.mk7 (gM HM) (Nat.le_trans GZ.out (Nat.le_of_lt (blk_lt (gK BK)))) ho hk); replace BK := Aside0.mk (kept_blk (gK BK) hk (fun q => by have := GZ.out; omega)); replace HK := Aside0.mk ((gP HK).then_ hk (fun k q => .inl (by rw [q.1]; decide))); replace HB := Aside0.mk hb; clear ho hb hk; have hcz_8 := gk10 BK; replace hcz_8 := hcz_8.2.2.2.2.2.2.2.2.1) | ((with_reducible refine gate_callee (f := 51) rfl ?_); refine goesL_ (some 36) rfl rfl Try.func51 (by kernel_rfl) rfl #[.slice (A 8) (n 8) (c 8), .int .i64 m7] rfl (by (try simp only [List.map_toArray, List.map_cons, List.map_nil]); first | done | rfl) ?_; (with_reducible refine (laws_markIntS.calls k (fun k_ => own k_ = 8 ∧ k_ < Z) _ l8 m7 m8 r8 w0 _ ?sB ?sO F8.out).mono ?_); (case sB => exact gB HB); (case sO => exact Kd.R_mono (gM HM).h8 (fun k_ q => by unfold PJ at q; omega)); rintro e wm8 ⟨rfl, ho, hb, hk⟩; refine ⟨_, rfl, ?_⟩; replace HM := Aside0.mk (MF.mk8 (gM HM) (Nat.le_trans GZ.out (Nat.le_of_lt (blk_lt (gK BK)))) ho hk); replace BK := Aside0.mk (kept_blk (gK BK) hk (fun q => by have := GZ.out; omega)); replace HK := Aside0.mk ((gP HK).then_ hk (fun k q => .inl (by rw [q.1]; decide))); replace HB := Aside0.mk hb; clear ho hb hk; have hcz_9 := gk10 BK; replace hcz_9 := hcz_9.2.2.2.2.2.2.2.2.2) | ((with_reducible refine gate_callee (f := 51) rfl ?_); refine goesL_ (some 40) rfl rfl Try.func51 (by kernel_rfl) rfl #[.slice (A 9) (n 9) (c 9), .int .i64 m8] rfl (by (try simp only [List.map_toArray, List.map_cons, List.map_nil]); first | done | rfl) ?_; (with_reducible refine (laws_markIntS.calls k (fun k_ => own k_ = 9 ∧ k_ < Z) _ l9 m8 m9 r9 w0 _ ?sB ?sO F9.out).mono ?_); (case sB => exact gB HB); (case sO => exact Kd.R_mono (gM HM).h9 (fun k_ q => by unfold PJ at q; omega)); rintro e wm9 ⟨rfl, ho, hb, hk⟩; refine ⟨_, rfl, ?_⟩; replace HM := Aside0.mk (MF.mk9 (gM HM) (Nat.le_trans GZ.out (Nat.le_of_lt (blk_lt (gK BK)))) ho hk); replace BK := Aside0.mk (kept_blk (gK BK) hk (fun q => by have := GZ.out; omega)); replace HK := Aside0.mk ((gP HK).then_ hk (fun k q => .inl (by rw [q.1]; decide))); replace HB := Aside0.mk hb; clear ho hb hk))
  go_ret
  exact ⟨rfl, (gM HM).mono (fun _ _ _ => trivial), gB HB, gP HK⟩
variable {P : Program} {ops : Array Oper} {o : Oper} {rest : List Oper} {a : Act} {Q : Exit → Act → World → Prop} in
theorem gateLd {W : World} {q : Addr} {v : Value} {t : TypeId} {p : Operand} (_ho : o.op = .load t p) (h : wpList P ops Q (o :: rest) a (W.setCell q v)) : wpList P ops Q (o :: rest) a (W.setCell q v) := h
variable {P : Program} {ops : Array Oper} {o : Oper} {rest : List Oper} {a : Act} {Q : Exit → Act → World → Prop} in
theorem anew {W : World} (Φ : World → Prop) (hΦ : Φ W) (h : ∀ W', Φ W' → wpList P ops Q (o :: rest) a W') : wpList P ops Q (o :: rest) a W := h W hΦ
class Off (g : Nat) (W W' : World) : Prop where b : ∀ g' {o : Obj}, g' ≠ g → W.heap[g']? = some o → W'.heap[g']? = some o
instance (g : Nat) (W : World) : Off g W W := ⟨fun _ _ _ h => h⟩
instance (g : Nat) (W W' : World) [i : Off g W W'] (n : Nat) : Off g W (W'.drewN n) := ⟨fun g' _ hn h => i.b g' hn h⟩
instance (g : Nat) (W W' : World) [i : Off g W W'] : Off g W W'.drew := ⟨fun g' _ hn h => i.b g' hn h⟩
instance (g j : Nat) (W W' : World) [i : Off g W W'] (u : Value) : Off g W (W'.setCell ⟨g, j, none⟩ u) := ⟨fun g' _ hn h => (Below.heap_setCell W' ⟨g, j, none⟩ u g' hn).trans (i.b g' hn h)⟩
theorem set10 {W : World} {g t : Nat} {z0 z1 z2 z3 z4 z5 z6 z7 z8 z9 a0 a1 a2 a3 a4 a5 a6 a7 a8 a9 : Value} (h : W.heap[g]? = some (.cells #[z0, z1, z2, z3, z4, z5, z6, z7, z8, z9] t (0, 0))) : ((((((((((W.setCell ⟨g, 0, none⟩ a0).setCell ⟨g, 1, none⟩ a1).setCell ⟨g, 2, none⟩ a2).setCell ⟨g, 3, none⟩ a3).setCell ⟨g, 4, none⟩ a4).setCell ⟨g, 5, none⟩ a5).setCell ⟨g, 6, none⟩ a6).setCell ⟨g, 7, none⟩ a7).setCell ⟨g, 8, none⟩ a8).setCell ⟨g, 9, none⟩ a9).heap[g]? = some (.cells #[a0, a1, a2, a3, a4, a5, a6, a7, a8, a9] t (0, 0)) := by
  replace h := blk_put h 0 a0 (cs' := #[a0, z1, z2, z3, z4, z5, z6, z7, z8, z9]) rfl
  replace h := blk_put h 1 a1 (cs' := #[a0, a1, z2, z3, z4, z5, z6, z7, z8, z9]) rfl
  replace h := blk_put h 2 a2 (cs' := #[a0, a1, a2, z3, z4, z5, z6, z7, z8, z9]) rfl
  replace h := blk_put h 3 a3 (cs' := #[a0, a1, a2, a3, z4, z5, z6, z7, z8, z9]) rfl
  replace h := blk_put h 4 a4 (cs' := #[a0, a1, a2, a3, a4, z5, z6, z7, z8, z9]) rfl
  replace h := blk_put h 5 a5 (cs' := #[a0, a1, a2, a3, a4, a5, z6, z7, z8, z9]) rfl
  replace h := blk_put h 6 a6 (cs' := #[a0, a1, a2, a3, a4, a5, a6, z7, z8, z9]) rfl
  replace h := blk_put h 7 a7 (cs' := #[a0, a1, a2, a3, a4, a5, a6, a7, z8, z9]) rfl
  replace h := blk_put h 8 a8 (cs' := #[a0, a1, a2, a3, a4, a5, a6, a7, a8, z9]) rfl
  replace h := blk_put h 9 a9 (cs' := #[a0, a1, a2, a3, a4, a5, a6, a7, a8, a9]) rfl
  exact h
theorem upsz {W W' : World} [i : Upw W W'] : W.heap.size ≤ W'.heap.size := i.below.size
theorem farBlk {g g' : Nat} {cs : Array Value} {t : TypeId} {W W' : World} (h : Aside0 (W.heap[g']? = some (.cells cs t (0, 0)))) (hn : g' ≠ g) [i : Off g W W'] : W'.heap[g']? = some (.cells cs t (0, 0)) := i.b g' hn h.out
set_option maxHeartbeats 8000000 in
set_option maxRecDepth 100000 in
theorem laws_FnExactMachineNew.walk (k : Nat) (a0 : Int) (a1 : Int) (u0 : List (List Int)) (u1 : List Int) (u2 : List S124) (u3 : List S131) (u4 : List S134) (u6 : List S79) (u7 : List S138) (u8 : List Int) (u9 : List Int) (xu : Int) (v0 : List (List Int)) (v1 : List Int) (v2 : List S124) (v3 : List S131) (v4 : List S134) (v6 : List S79) (v7 : List S138) (v8 : List Int) (v9 : List Int) (xv : Int) (bb : Bool) (r0 : List (List Int)) (r1 : List Int) (r2 : List S124) (r3 : List S131) (r4 : List S134) (r6 : List S79) (r7 : List S138) (r8 : List Int) (r9 : List Int) (m0 : Int) (m1 : Int) (m2 : Int) (m3 : Int) (m4 : Int) (m6 : Int) (m7 : Int) (m8 : Int) (m9 : Int) (w : World) (f0 : spec_MachineNew.f k a0 a1 = some (u0, u1, u2, u3, u4, xu, u6, u7, u8, u9, bb)) (f1 : impl_MachineNew.f k a0 a1 = some (v0, v1, v2, v3, v4, xv, v6, v7, v8, v9, bb)) (f2 : laws_eqMachine.f k v0 v1 v2 v3 v4 xv v6 v7 v8 v9 u0 u1 u2 u3 u4 xu u6 u7 u8 u9 = some true) (f3 : laws_markIntSS.f k v0 1 = some (m0, r0)) (f4 : laws_markIntS.f k v1 m0 = some (m1, r1)) (f5 : laws_markRunS.f k v2 m1 = some (m2, r2)) (f6 : laws_markSlabS.f k v3 m2 = some (m3, r3)) (f7 : laws_markObjectS.f k v4 m3 = some (m4, r4)) (f8 : laws_markSpaceS.f k v6 m4 = some (m6, r6)) (f9 : laws_markSlotS.f k v7 m6 = some (m7, r7)) (f10 : laws_markIntS.f k v8 m7 = some (m8, r8)) (f11 : laws_markIntS.f k v9 m8 = some (m9, r9)) (f12 : laws_heldMachine.f k r0 r1 r2 r3 r4 xv r6 r7 r8 r9 1 = some m9) (n0 : ¬ m9 < 0) :
    Calls Try.prog 4 #[.int .i64 a0, .int .i64 a1] w fun e w' => e = .returned (.bool true) ∧ Below w.heap.size w w' := by
  have hu41 := Try.underlying41
  have nb0 : decide (m9 < 0) = false := decide_eq_false n0
  have eb0 : (m9 != m9) = false := bne_self_eq_false m9
  have eb1 : (bb != bb) = false := bne_self_eq_false bb
  have HB := Aside0.mk (Below.refl w.heap.size w)
  have F0 := Aside0.mk f0
  have F1 := Aside0.mk f1
  have F2 := Aside0.mk f2
  have F3 := Aside0.mk f3
  have F4 := Aside0.mk f4
  have F5 := Aside0.mk f5
  have F6 := Aside0.mk f6
  have F7 := Aside0.mk f7
  have F8 := Aside0.mk f8
  have F9 := Aside0.mk f9
  have F10 := Aside0.mk f10
  have F11 := Aside0.mk f11
  have F12 := Aside0.mk f12
  clear f0 f1 f2 f3 f4 f5 f6 f7 f8 f9 f10 f11 f12
  go_enter Try.func4, Try.ntmps4
  go_wp2_with (first | ((with_reducible refine gate_callee (f := 15) rfl ?_); refine goesL_ (some 16) rfl rfl Try.func15 (by kernel_rfl) rfl #[.int .i64 a0, .int .i64 a1] rfl (by (try simp only [List.map_toArray, List.map_cons, List.map_nil]); first | done | rfl) ?_; (with_reducible refine (spec_MachineNew' k a0 a1 u0 u1 u2 u3 u4 u6 u7 u8 u9 xu bb _ F0.out).mono ?_); rintro e w1_ ⟨Au, nu, cu, rfl, hm, hb⟩; refine ⟨_, rfl, ?_⟩; have HU := Aside0.mk hm; replace HB := Aside0.mk (below_step (gB HB) hb); clear hm hb) | ((with_reducible refine gate_dst (N := 5) rfl ?_); refine box_event ?hg (N := 5) ?hd (cs := #[.slice none 0 0, .slice none 0 0, .slice none 0 0, .slice none 0 0, .slice none 0 0, .int .i64 0, .slice none 0 0, .slice none 0 0, .slice none 0 0, .slice none 0 0]) (t := 41) ?hr ?_; (case hd => rfl); (case hg => rfl); (case hr => first | (go_simp; done) | (go_simp; rfl)); intro gu hg w2_ hbox hb; have GU := Aside0.mk (show w.heap.size ≤ gu by rw [hg]; exact below_size (gB HB)); replace HU := Aside0.mk ((gM HU).step hb); replace HB := Aside0.mk (below_step (gB HB) hb); have BU := Aside0.mk hbox; clear hb hbox hg; obtain ⟨hu_0, hu_1, hu_2, hu_3, hu_4, hu_5, hu_6, hu_7, hu_8, hu_9⟩ := gk10 BU; obtain ⟨huf_0, huf_1, huf_2, huf_3, huf_4, huf_5, huf_6, huf_7, huf_8, huf_9⟩ := gf10 BU) | ((with_reducible refine gate_callee (f := 16) rfl ?_); refine anew (fun W_ => MF W_ _ _ Au nu cu u0 u1 u2 u3 u4 u6 u7 u8 u9 ∧ W_.heap[gu]? = some (.cells #[.slice (Au 0) (nu 0) (cu 0), .slice (Au 1) (nu 1) (cu 1), .slice (Au 2) (nu 2) (cu 2), .slice (Au 3) (nu 3) (cu 3), .slice (Au 4) (nu 4) (cu 4), .int .i64 xu, .slice (Au 6) (nu 6) (cu 6), .slice (Au 7) (nu 7) (cu 7), .slice (Au 8) (nu 8) (cu 8), .slice (Au 9) (nu 9) (cu 9)] 41 (0, 0)) ∧ Below w.heap.size w W_) ⟨gF HU BU, (by (with_reducible repeat (first | refine blk_drewN ?_ _ | refine blk_drew ?_)); exact set10 BU.out), gT1 GU.out HB⟩ ?_; rintro w3_ ⟨hm, hbk, hb⟩; clear HU BU HB; (try clear hu_0 hu_1 hu_2 hu_3 hu_4 hu_5 hu_6 hu_7 hu_8 hu_9); (try clear huf_0 huf_1 huf_2 huf_3 huf_4 huf_5 huf_6 huf_7 huf_8 huf_9); have HU := Aside0.mk hm; have BU := Aside0.mk hbk; have HB := Aside0.mk hb; clear hm hbk hb; refine goesL_ (some 22) rfl rfl Try.func16 (by kernel_rfl) rfl #[.int .i64 a0, .int .i64 a1] rfl (by (try simp only [List.map_toArray, List.map_cons, List.map_nil]); first | done | rfl) ?_; (with_reducible refine (impl_MachineNew' k a0 a1 v0 v1 v2 v3 v4 v6 v7 v8 v9 xv bb _ F1.out).mono ?_); rintro e w4_ ⟨Av, nv, cv, own, rfl, h5, hm, hb⟩; refine ⟨_, rfl, ?_⟩; have H5 := Aside0.mk h5; have HV := Aside0.mk hm; have HQ := Aside0.mk hb; clear h5 hm hb) | ((with_reducible refine gate_dst (N := 7) rfl ?_); refine box_event ?hg (N := 7) ?hd (cs := #[.slice none 0 0, .slice none 0 0, .slice none 0 0, .slice none 0 0, .slice none 0 0, .int .i64 0, .slice none 0 0, .slice none 0 0, .slice none 0 0, .slice none 0 0]) (t := 41) ?hr ?_; (case hd => rfl); (case hg => rfl); (case hr => first | (go_simp; done) | (go_simp; rfl)); intro gv hg w5_ hbox hb; have GV := Aside0.mk (show w3_.heap.size ≤ gv by rw [hg]; exact below_size (gB HQ)); have GO := Aside0.mk (show own gv = 5 from H5.out gv (by rw [hg]; exact upsz)); clear H5; replace HV := Aside0.mk ((gM HV).step hb); replace HQ := Aside0.mk (below_step (gB HQ) hb); have BV := Aside0.mk hbox; clear hb hbox hg; obtain ⟨hv_0, hv_1, hv_2, hv_3, hv_4, hv_5, hv_6, hv_7, hv_8, hv_9⟩ := gk10 BV; obtain ⟨hvf_0, hvf_1, hvf_2, hvf_3, hvf_4, hvf_5, hvf_6, hvf_7, hvf_8, hvf_9⟩ := gf10 BV) | ((with_reducible refine gateLd rfl ?_); refine anew (fun W_ => MF W_ _ _ Av nv cv v0 v1 v2 v3 v4 v6 v7 v8 v9 ∧ W_.heap[gv]? = some (.cells #[.slice (Av 0) (nv 0) (cv 0), .slice (Av 1) (nv 1) (cv 1), .slice (Av 2) (nv 2) (cv 2), .slice (Av 3) (nv 3) (cv 3), .slice (Av 4) (nv 4) (cv 4), .int .i64 xv, .slice (Av 6) (nv 6) (cv 6), .slice (Av 7) (nv 7) (cv 7), .slice (Av 8) (nv 8) (cv 8), .slice (Av 9) (nv 9) (cv 9)] 41 (0, 0)) ∧ Below w3_.heap.size w3_ W_) ⟨gF HV BV, (by (with_reducible repeat (first | refine blk_drewN ?_ _ | refine blk_drew ?_)); exact set10 BV.out), gT1 GV.out HQ⟩ ?_; rintro w6_ ⟨hm, hbk, hb⟩; clear HV BV HQ; (try clear hv_0 hv_1 hv_2 hv_3 hv_4 hv_5 hv_6 hv_7 hv_8 hv_9); (try clear hvf_0 hvf_1 hvf_2 hvf_3 hvf_4 hvf_5 hvf_6 hvf_7 hvf_8 hvf_9); have HV := Aside0.mk hm; have BV := Aside0.mk hbk; have HQ := Aside0.mk hb; clear hm hbk hb; obtain ⟨hv_0, hv_1, hv_2, hv_3, hv_4, hv_5, hv_6, hv_7, hv_8, hv_9⟩ := gk10 BV; obtain ⟨hu_0, hu_1, hu_2, hu_3, hu_4, hu_5, hu_6, hu_7, hu_8, hu_9⟩ := gk10 (Aside0.mk (blk_below BU.out HQ.out))) | ((with_reducible refine gate_callee (f := 17) rfl ?_); refine goesL_ (some 27) rfl rfl Try.func17 (by kernel_rfl) rfl #[.agg #[.slice (Av 0) (nv 0) (cv 0), .slice (Av 1) (nv 1) (cv 1), .slice (Av 2) (nv 2) (cv 2), .slice (Av 3) (nv 3) (cv 3), .slice (Av 4) (nv 4) (cv 4), .int .i64 xv, .slice (Av 6) (nv 6) (cv 6), .slice (Av 7) (nv 7) (cv 7), .slice (Av 8) (nv 8) (cv 8), .slice (Av 9) (nv 9) (cv 9)], .agg #[.slice (Au 0) (nu 0) (cu 0), .slice (Au 1) (nu 1) (cu 1), .slice (Au 2) (nu 2) (cu 2), .slice (Au 3) (nu 3) (cu 3), .slice (Au 4) (nu 4) (cu 4), .int .i64 xu, .slice (Au 6) (nu 6) (cu 6), .slice (Au 7) (nu 7) (cu 7), .slice (Au 8) (nu 8) (cu 8), .slice (Au 9) (nu 9) (cu 9)]] rfl (by (try simp only [List.map_toArray, List.map_cons, List.map_nil]); first | done | rfl) ?_; (with_reducible refine (eqMachine' k Av Au nv cv nu cu v0 v1 v2 v3 v4 v6 v7 v8 v9 u0 u1 u2 u3 u4 u6 u7 u8 u9 xv xu _ _ _ _ _ (gM HV) (HU.out.step (gB HQ)) F2.out).mono ?_); rintro e w7_ ⟨rfl, hb⟩; refine ⟨_, rfl, ?_⟩; replace HV := Aside0.mk ((gM HV).step hb); replace BV := Aside0.mk (blk_below (gK BV) hb); replace HQ := Aside0.mk (below_step (gB HQ) hb); clear hb; (try clear hv_0 hv_1 hv_2 hv_3 hv_4 hv_5 hv_6 hv_7 hv_8 hv_9); (try clear hvf_0 hvf_1 hvf_2 hvf_3 hvf_4 hvf_5 hvf_6 hvf_7 hvf_8 hvf_9); (try clear hu_0 hu_1 hu_2 hu_3 hu_4 hu_5 hu_6 hu_7 hu_8 hu_9); (try clear huf_0 huf_1 huf_2 huf_3 huf_4 huf_5 huf_6 huf_7 huf_8 huf_9); obtain ⟨hv_0, hv_1, hv_2, hv_3, hv_4, hv_5, hv_6, hv_7, hv_8, hv_9⟩ := gk10 BV) | ((with_reducible refine gate_callee (f := 18) rfl ?_); refine goesL_ (some 36) rfl rfl Try.func18 (by kernel_rfl) rfl #[.agg #[.slice (Av 0) (nv 0) (cv 0), .slice (Av 1) (nv 1) (cv 1), .slice (Av 2) (nv 2) (cv 2), .slice (Av 3) (nv 3) (cv 3), .slice (Av 4) (nv 4) (cv 4), .int .i64 xv, .slice (Av 6) (nv 6) (cv 6), .slice (Av 7) (nv 7) (cv 7), .slice (Av 8) (nv 8) (cv 8), .slice (Av 9) (nv 9) (cv 9)], .int .i64 1] rfl (by (try simp only [List.map_toArray, List.map_cons, List.map_nil]); first | done | rfl) ?_; (with_reducible refine (markMachine' k Av nv cv own v0 v1 v2 v3 v4 v6 v7 v8 v9 r0 r1 r2 r3 r4 r6 r7 r8 r9 xv 1 m0 m1 m2 m3 m4 m6 m7 m8 m9 w3_ _ (gB HQ) (gM HV) F3.out F4.out F5.out F6.out F7.out F8.out F9.out F10.out F11.out).mono ?_); rintro e w8_ ⟨rfl, hm, hb, hk⟩; refine ⟨_, rfl, ?_⟩; replace HV := Aside0.mk hm; replace BV := Aside0.mk (kept_blk (gK BV) hk (fun q => q GO.out)); replace HQ := Aside0.mk hb; clear hm hb hk GO; (try clear hv_0 hv_1 hv_2 hv_3 hv_4 hv_5 hv_6 hv_7 hv_8 hv_9); (try clear hvf_0 hvf_1 hvf_2 hvf_3 hvf_4 hvf_5 hvf_6 hvf_7 hvf_8 hvf_9); obtain ⟨hv_0, hv_1, hv_2, hv_3, hv_4, hv_5, hv_6, hv_7, hv_8, hv_9⟩ := gk10 BV) | ((with_reducible refine gate_callee (f := 19) rfl ?_); refine goesL_ (some 39) rfl rfl Try.func19 (by kernel_rfl) rfl #[.agg #[.slice (Av 0) (nv 0) (cv 0), .slice (Av 1) (nv 1) (cv 1), .slice (Av 2) (nv 2) (cv 2), .slice (Av 3) (nv 3) (cv 3), .slice (Av 4) (nv 4) (cv 4), .int .i64 xv, .slice (Av 6) (nv 6) (cv 6), .slice (Av 7) (nv 7) (cv 7), .slice (Av 8) (nv 8) (cv 8), .slice (Av 9) (nv 9) (cv 9)], .int .i64 1] rfl (by (try simp only [List.map_toArray, List.map_cons, List.map_nil]); first | done | rfl) ?_; (with_reducible refine (heldMachine' k Av nv cv r0 r1 r2 r3 r4 r6 r7 r8 r9 xv 1 m9 _ _ _ (gM HV) F12.out).mono ?_); rintro e w9_ ⟨rfl, hb⟩; refine ⟨_, rfl, ?_⟩; replace HV := Aside0.mk ((gM HV).step hb); replace BV := Aside0.mk (blk_below (gK BV) hb); replace HQ := Aside0.mk (below_step (gB HQ) hb); clear hb; (try clear hv_0 hv_1 hv_2 hv_3 hv_4 hv_5 hv_6 hv_7 hv_8 hv_9); (try clear hvf_0 hvf_1 hvf_2 hvf_3 hvf_4 hvf_5 hvf_6 hvf_7 hvf_8 hvf_9)) | ((with_reducible refine gate_callee (f := 16) rfl ?_); refine goesL_ (some 48) rfl rfl Try.func16 (by kernel_rfl) rfl #[.int .i64 a0, .int .i64 a1] rfl (by (try simp only [List.map_toArray, List.map_cons, List.map_nil]); first | done | rfl) ?_; (with_reducible refine (impl_MachineNew' k a0 a1 v0 v1 v2 v3 v4 v6 v7 v8 v9 xv bb _ F1.out).mono ?_); rintro e w10_ ⟨Ah, nh, ch, own2, rfl, h5, hm, hb⟩; refine ⟨_, rfl, ?_⟩; replace HV := Aside0.mk ((gM HV).step hb); replace BV := Aside0.mk (blk_below (gK BV) hb); replace HQ := Aside0.mk (below_step (gB HQ) hb); have HH := Aside0.mk hm; clear h5 hm hb) | ((with_reducible refine gate_dst (N := 11) rfl ?_); refine box_event ?hg (N := 11) ?hd (cs := #[.slice none 0 0, .slice none 0 0, .slice none 0 0, .slice none 0 0, .slice none 0 0, .int .i64 0, .slice none 0 0, .slice none 0 0, .slice none 0 0, .slice none 0 0]) (t := 41) ?hr ?_; (case hd => rfl); (case hg => rfl); (case hr => first | (go_simp; done) | (go_simp; rfl)); intro gh hg w11_ hbox hb; have GH := Aside0.mk (show w3_.heap.size ≤ gh by rw [hg]; exact below_size (gB HQ)); have NE := Aside0.mk (show gv ≠ gh by rw [hg]; exact Nat.ne_of_lt (blk_lt (gK BV))); replace HH := Aside0.mk ((gM HH).step hb); replace HV := Aside0.mk ((gM HV).step hb); replace BV := Aside0.mk (blk_below (gK BV) hb); replace HQ := Aside0.mk (below_step (gB HQ) hb); have BH := Aside0.mk hbox; clear hb hbox hg; obtain ⟨hh_0, hh_1, hh_2, hh_3, hh_4, hh_5, hh_6, hh_7, hh_8, hh_9⟩ := gk10 BH; obtain ⟨hhf_0, hhf_1, hhf_2, hhf_3, hhf_4, hhf_5, hhf_6, hhf_7, hhf_8, hhf_9⟩ := gf10 BH) | ((with_reducible refine gateLd rfl ?_); refine anew (fun W_ => MF W_ _ _ Ah nh ch v0 v1 v2 v3 v4 v6 v7 v8 v9 ∧ MF W_ _ _ Av nv cv r0 r1 r2 r3 r4 r6 r7 r8 r9 ∧ W_.heap[gh]? = some (.cells #[.slice (Ah 0) (nh 0) (ch 0), .slice (Ah 1) (nh 1) (ch 1), .slice (Ah 2) (nh 2) (ch 2), .slice (Ah 3) (nh 3) (ch 3), .slice (Ah 4) (nh 4) (ch 4), .int .i64 xv, .slice (Ah 6) (nh 6) (ch 6), .slice (Ah 7) (nh 7) (ch 7), .slice (Ah 8) (nh 8) (ch 8), .slice (Ah 9) (nh 9) (ch 9)] 41 (0, 0)) ∧ W_.heap[gv]? = some (.cells #[.slice (Av 0) (nv 0) (cv 0), .slice (Av 1) (nv 1) (cv 1), .slice (Av 2) (nv 2) (cv 2), .slice (Av 3) (nv 3) (cv 3), .slice (Av 4) (nv 4) (cv 4), .int .i64 xv, .slice (Av 6) (nv 6) (cv 6), .slice (Av 7) (nv 7) (cv 7), .slice (Av 8) (nv 8) (cv 8), .slice (Av 9) (nv 9) (cv 9)] 41 (0, 0)) ∧ Below w3_.heap.size w3_ W_) ⟨gF HH BH, gF HV BH, (by (with_reducible repeat (first | refine blk_drewN ?_ _ | refine blk_drew ?_)); exact set10 BH.out), farBlk BV NE.out, gT1 GH.out HQ⟩ ?_; rintro w12_ ⟨hm, hm2, hbk, hbk2, hb⟩; clear HH HV BH BV HQ; (try clear hh_0 hh_1 hh_2 hh_3 hh_4 hh_5 hh_6 hh_7 hh_8 hh_9); (try clear hhf_0 hhf_1 hhf_2 hhf_3 hhf_4 hhf_5 hhf_6 hhf_7 hhf_8 hhf_9); have HH := Aside0.mk hm; have HV := Aside0.mk hm2; have BH := Aside0.mk hbk; have BV := Aside0.mk hbk2; have HQ := Aside0.mk hb; clear hm hm2 hbk hbk2 hb; obtain ⟨hh_0, hh_1, hh_2, hh_3, hh_4, hh_5, hh_6, hh_7, hh_8, hh_9⟩ := gk10 BH; obtain ⟨hu_0, hu_1, hu_2, hu_3, hu_4, hu_5, hu_6, hu_7, hu_8, hu_9⟩ := gk10 (Aside0.mk (blk_below BU.out HQ.out))) | ((with_reducible refine gate_callee (f := 17) rfl ?_); refine goesL_ (some 53) rfl rfl Try.func17 (by kernel_rfl) rfl #[.agg #[.slice (Ah 0) (nh 0) (ch 0), .slice (Ah 1) (nh 1) (ch 1), .slice (Ah 2) (nh 2) (ch 2), .slice (Ah 3) (nh 3) (ch 3), .slice (Ah 4) (nh 4) (ch 4), .int .i64 xv, .slice (Ah 6) (nh 6) (ch 6), .slice (Ah 7) (nh 7) (ch 7), .slice (Ah 8) (nh 8) (ch 8), .slice (Ah 9) (nh 9) (ch 9)], .agg #[.slice (Au 0) (nu 0) (cu 0), .slice (Au 1) (nu 1) (cu 1), .slice (Au 2) (nu 2) (cu 2), .slice (Au 3) (nu 3) (cu 3), .slice (Au 4) (nu 4) (cu 4), .int .i64 xu, .slice (Au 6) (nu 6) (cu 6), .slice (Au 7) (nu 7) (cu 7), .slice (Au 8) (nu 8) (cu 8), .slice (Au 9) (nu 9) (cu 9)]] rfl (by (try simp only [List.map_toArray, List.map_cons, List.map_nil]); first | done | rfl) ?_; (with_reducible refine (eqMachine' k Ah Au nh ch nu cu v0 v1 v2 v3 v4 v6 v7 v8 v9 u0 u1 u2 u3 u4 u6 u7 u8 u9 xv xu _ _ _ _ _ (gM HH) (HU.out.step (gB HQ)) F2.out).mono ?_); rintro e w13_ ⟨rfl, hb⟩; refine ⟨_, rfl, ?_⟩; replace HV := Aside0.mk ((gM HV).step hb); replace BV := Aside0.mk (blk_below (gK BV) hb); replace HQ := Aside0.mk (below_step (gB HQ) hb); clear hb HH BH; (try clear hh_0 hh_1 hh_2 hh_3 hh_4 hh_5 hh_6 hh_7 hh_8 hh_9); (try clear hhf_0 hhf_1 hhf_2 hhf_3 hhf_4 hhf_5 hhf_6 hhf_7 hhf_8 hhf_9); (try clear hu_0 hu_1 hu_2 hu_3 hu_4 hu_5 hu_6 hu_7 hu_8 hu_9); (try clear huf_0 huf_1 huf_2 huf_3 huf_4 huf_5 huf_6 huf_7 huf_8 huf_9); obtain ⟨hv_0, hv_1, hv_2, hv_3, hv_4, hv_5, hv_6, hv_7, hv_8, hv_9⟩ := gk10 BV) | ((with_reducible refine gate_callee (f := 19) rfl ?_); refine goesL_ (some 62) rfl rfl Try.func19 (by kernel_rfl) rfl #[.agg #[.slice (Av 0) (nv 0) (cv 0), .slice (Av 1) (nv 1) (cv 1), .slice (Av 2) (nv 2) (cv 2), .slice (Av 3) (nv 3) (cv 3), .slice (Av 4) (nv 4) (cv 4), .int .i64 xv, .slice (Av 6) (nv 6) (cv 6), .slice (Av 7) (nv 7) (cv 7), .slice (Av 8) (nv 8) (cv 8), .slice (Av 9) (nv 9) (cv 9)], .int .i64 1] rfl (by (try simp only [List.map_toArray, List.map_cons, List.map_nil]); first | done | rfl) ?_; (with_reducible refine (heldMachine' k Av nv cv r0 r1 r2 r3 r4 r6 r7 r8 r9 xv 1 m9 _ _ _ (gM HV) F12.out).mono ?_); rintro e w14_ ⟨rfl, hb⟩; refine ⟨_, rfl, ?_⟩; replace HV := Aside0.mk ((gM HV).step hb); replace BV := Aside0.mk (blk_below (gK BV) hb); replace HQ := Aside0.mk (below_step (gB HQ) hb); clear hb; (try clear hv_0 hv_1 hv_2 hv_3 hv_4 hv_5 hv_6 hv_7 hv_8 hv_9); (try clear hvf_0 hvf_1 hvf_2 hvf_3 hvf_4 hvf_5 hvf_6 hvf_7 hvf_8 hvf_9)))
  go_ret
  exact ⟨rfl, below_step HB.out (gB HQ)⟩
end Go.Proofs.Ytngonhgghncdiaa.P
end
section
namespace Go.Proofs.Ytngonhgghncdiaa.P
open Go.Proofs.Ytngonhgghncdiaa.Up
open Go.RowKit Go.Proofs.YtngonhgghncdiaaW.PrintWords Go.Proofs.YtngonhgghncdiaaW.PrintLast Go.Proofs.YtngonhgghncdiaaW.PrintMore
attribute [local go_sem] max2_int min2_int max_two min_two max_three min_three max_four min_four
set_option linter.unusedVariables false
set_option linter.unusedSimpArgs false
def laws_szIntS.f (l0 : List Int) (a1 : Int) : Option (Int) := if (wrap64 (a1 - (l0.length : Int))) < 0 then (some (-1)) else (some (wrap64 (a1 - (l0.length : Int))))
set_option maxHeartbeats 8000000 in
set_option maxRecDepth 100000 in
theorem laws_szIntS.calls (A0 : Option Addr) (c0 : Nat) (l0 : List Int) (a1 : Int) (r : Int) (w : World) (hr0 : Kd.C (Kd.int .i64) w A0 l0.length l0) (hc0 : l0.length ≤ c0) (h : laws_szIntS.f l0 a1 = some r) :
    Calls Try.prog 65 #[.slice A0 l0.length c0, .int .i64 a1] w fun e w' => e = .returned (.int .i64 r) ∧ Drawn0 w w' := by
  have HR0 := Aside0.mk hr0
  have HC0 := Aside0.mk hc0
  clear hr0 hc0
  have H : (if (wrap64 (a1 - (l0.length : Int))) < 0 then (some (-1)) else (some (wrap64 (a1 - (l0.length : Int))))) = some r := h
  clear h
  by_cases c3 : (wrap64 (a1 - (l0.length : Int))) < 0
  · rw [if_pos c3] at H
    have c3b0 : decide ((wrap64 (a1 - (l0.length : Int))) < 0) = true := decide_eq_true c3
    clear c3
    obtain rfl := Option.some.inj H
    go_enter Try.func65, Try.ntmps65
    go_wp2
    go_ret
    exact ⟨by first | rfl | (simp; done) | (simp [*]; done), by repeat (first | exact Drawn0.refl _ | apply Drawn0.step)⟩
  · rw [if_neg c3] at H
    have c3b0 : decide ((wrap64 (a1 - (l0.length : Int))) < 0) = false := decide_eq_false c3
    clear c3
    obtain rfl := Option.some.inj H
    go_enter Try.func65, Try.ntmps65
    go_wp2
    go_ret
    exact ⟨by first | rfl | (simp; done) | (simp [*]; done), by repeat (first | exact Drawn0.refl _ | apply Drawn0.step)⟩
def laws_szIntSS.l0 : Nat → List (List Int) → Int → Int → Option (Int)
  | 0, _, _, _ => none
  | k + 1, x0, x1, x5 => if x5 < (x0.length : Int) then (if 0 ≤ x5 then ((laws_szIntS.f (rd_L2 x0 x5) x1).bind fun t549 => (if t549 < 0 then (some (-1)) else (laws_szIntSS.l0 k x0 t549 (wrap64 (x5 + 1))))) else (none)) else (some x1)
def laws_szIntSS.f (k : Nat) (l0 : List (List Int)) (a1 : Int) : Option (Int) := if (wrap64 (a1 - (l0.length : Int))) < 0 then (some (-1)) else (laws_szIntSS.l0 k l0 (wrap64 (a1 - (l0.length : Int))) 0)
theorem laws_szIntSS.mono_l : ∀ k, (∀ y0 y1 y2, LeO (laws_szIntSS.l0 k y0 y1 y2) (laws_szIntSS.l0 (k + 1) y0 y1 y2))
  | 0 => fun _ _ _ r h => by simp [laws_szIntSS.l0] at h
  | k + 1 => by
    have ih0 := laws_szIntSS.mono_l k
    · intro y0 y1 y2
      unfold laws_szIntSS.l0
      repeat' first
      | (with_reducible exact ih0 _ _ _)
      | (with_reducible exact LeO.refl _)
      | (with_reducible exact LeO.none _)
      | (with_reducible refine LeO.ite ?_ ?_)
      | (with_reducible refine LeO.bind ?_ (fun _ => ?_))
      | exact ih0 _ _ _
      | exact LeO.none _
      | refine LeO.ite ?_ ?_
      | refine LeO.bind ?_ (fun _ => ?_)
theorem laws_szIntSS.mono : ∀ a0 a1 k, LeO (laws_szIntSS.f k a0 a1) (laws_szIntSS.f (k + 1) a0 a1) := by
  intro a0 a1 k
  have ih0 := laws_szIntSS.mono_l k
  unfold laws_szIntSS.f
  repeat' first
      | (with_reducible exact ih0 _ _ _)
      | (with_reducible exact LeO.refl _)
      | (with_reducible exact LeO.none _)
      | (with_reducible refine LeO.ite ?_ ?_)
      | (with_reducible refine LeO.bind ?_ (fun _ => ?_))
      | exact ih0 _ _ _
      | exact LeO.none _
      | refine LeO.ite ?_ ?_
      | refine LeO.bind ?_ (fun _ => ?_)
set_option maxHeartbeats 8000000 in
set_option maxRecDepth 100000 in
theorem laws_szIntSS.calls (k : Nat) (A0 : Option Addr) (c0 : Nat) (l0 : List (List Int)) (a1 : Int) (r : Int) (w : World) (hr0 : Kd.C (Kd.slice 3 (Kd.int .i64)) w A0 l0.length l0) (hc0 : l0.length ≤ c0) (h : laws_szIntSS.f k l0 a1 = some r) :
    Calls Try.prog 64 #[.slice A0 l0.length c0, .int .i64 a1] w fun e w' => e = .returned (.int .i64 r) ∧ Drawn0 w w' := by
  have HR0 := Aside0.mk hr0
  have HC0 := Aside0.mk hc0
  clear hr0 hc0
  have H : (if (wrap64 (a1 - (l0.length : Int))) < 0 then (some (-1)) else (laws_szIntSS.l0 k l0 (wrap64 (a1 - (l0.length : Int))) 0)) = some r := h
  clear h
  by_cases c3 : (wrap64 (a1 - (l0.length : Int))) < 0
  · rw [if_pos c3] at H
    have c3b0 : decide ((wrap64 (a1 - (l0.length : Int))) < 0) = true := decide_eq_true c3
    clear c3
    obtain rfl := Option.some.inj H
    go_enter Try.func64, Try.ntmps64
    go_wp2
    go_ret
    exact ⟨by first | rfl | (simp; done) | (simp [*]; done), by repeat (first | exact Drawn0.refl _ | apply Drawn0.step)⟩
  · rw [if_neg c3] at H
    have c3b0 : decide ((wrap64 (a1 - (l0.length : Int))) < 0) = false := decide_eq_false c3
    clear c3
    have H' := Aside0.mk H
    clear H
    go_enter Try.func64, Try.ntmps64
    go_wp2
    go_loopg [1, 5] k (fun kq v1 v5 w' => ∃ (x1_1 : Int) (x5_1 : Int), v1 = .int .i64 x1_1 ∧ v5 = .int .i64 x5_1 ∧ Aside0 (laws_szIntSS.l0 kq l0 x1_1 x5_1 = some r) ∧ Aside0 (kq ≤ k) ∧ Drawn0 w w')
    case atStart => exact ⟨(wrap64 (a1 - (l0.length : Int))), (0), (by first | rfl | (simp; done) | (simp [*]; done)), (by first | rfl | (simp; done) | (simp [*]; done)), H', ⟨Nat.le_refl _⟩, by repeat (first | exact Drawn0.refl _ | apply Drawn0.step)⟩
    case round =>
      clear H'
      try clear p2
      try clear c3
      try clear c3b0
      obtain ⟨x1_1, x5_1, rfl, rfl, HA, HK1, ⟨m1, rfl⟩⟩ := hrel
      cases gk with
      | zero => exact absurd HA.out (by simp [laws_szIntSS.l0])
      | succ k1 =>
        have H := HA.out
        clear HA
        simp only [laws_szIntSS.l0] at H
        by_cases c4 : x5_1 < (l0.length : Int)
        · rw [if_pos c4] at H
          have c4b0 : decide (x5_1 < (l0.length : Int)) = true := decide_eq_true c4
          clear c4
          by_cases c5 : 0 ≤ x5_1
          · rw [if_pos c5] at H
            have c5b0 : decide (0 ≤ x5_1) = true := decide_eq_true c5
            clear c5
            replace H := Option.bind_eq_some_iff.mp H
            obtain ⟨t549, A60, H⟩ := H
            replace H : (if t549 < 0 then (some (-1)) else (laws_szIntSS.l0 k1 l0 t549 (wrap64 (x5_1 + 1)))) = some r := H
            have A6 := Aside0.mk A60
            clear A60
            by_cases c7 : t549 < 0
            · rw [if_pos c7] at H
              have c7b0 : decide (t549 < 0) = true := decide_eq_true c7
              clear c7
              obtain rfl := Option.some.inj H
              have p548 : 0 ≤ (x5_1 : Int) := of_decide_eq_true (by first | (with_reducible assumption) | assumption)
              have q548 : x5_1 < (l0.length : Int) := of_decide_eq_true (by first | (with_reducible assumption) | assumption)
              obtain ⟨ad548, A548_0, c548_0, e548, hx548_0, hl548_0, hi548_0⟩ := at_L2 HR0.out x5_1 p548 q548
              cases e548
              have HR548_0 := Aside0.mk hi548_0
              have HC548_0 := Aside0.mk hl548_0
              clear hi548_0 hl548_0
              replace p548 := eq_true p548
              replace q548 := eq_true q548
              go_wp2_with (first | ((with_reducible refine gate_callee (f := 65) rfl ?_); refine goesL_ (some 23) rfl rfl Try.func65 (by kernel_rfl) rfl #[.slice A548_0 (rd_L2 l0 x5_1).length c548_0, .int .i64 x1_1] rfl (by (try simp only [List.map_toArray, List.map_cons, List.map_nil]); first | done | rfl | (simp only [List.length_drop, List.length_take]; rfl)) ?_; (with_reducible refine (laws_szIntS.calls _ _ (rd_L2 l0 x5_1) x1_1 t549 _ ?side1 ?side2 A6.out).mono ?_); (case side1 => repeat (first | exact HR548_0.out | (with_reducible refine Kd.C_alloc ?_ _) | (with_reducible refine Kd.C_drewN ?_ _) | (with_reducible refine Kd.C_drew ?_))); (case side2 => exact HC548_0.out); rintro e w' ⟨rfl, ⟨nd, rfl⟩⟩; refine ⟨_, rfl, ?_⟩))
              go_ret
              exact ⟨by first | rfl | (simp; done) | (simp [*]; done), by repeat (first | exact Drawn0.refl _ | apply Drawn0.step)⟩
            · rw [if_neg c7] at H
              have c7b0 : decide (t549 < 0) = false := decide_eq_false c7
              clear c7
              have H' := Aside0.mk H
              clear H
              have p548 : 0 ≤ (x5_1 : Int) := of_decide_eq_true (by first | (with_reducible assumption) | assumption)
              have q548 : x5_1 < (l0.length : Int) := of_decide_eq_true (by first | (with_reducible assumption) | assumption)
              obtain ⟨ad548, A548_0, c548_0, e548, hx548_0, hl548_0, hi548_0⟩ := at_L2 HR0.out x5_1 p548 q548
              cases e548
              have HR548_0 := Aside0.mk hi548_0
              have HC548_0 := Aside0.mk hl548_0
              clear hi548_0 hl548_0
              replace p548 := eq_true p548
              replace q548 := eq_true q548
              go_wp2_with (first | ((with_reducible refine gate_callee (f := 65) rfl ?_); refine goesL_ (some 23) rfl rfl Try.func65 (by kernel_rfl) rfl #[.slice A548_0 (rd_L2 l0 x5_1).length c548_0, .int .i64 x1_1] rfl (by (try simp only [List.map_toArray, List.map_cons, List.map_nil]); first | done | rfl | (simp only [List.length_drop, List.length_take]; rfl)) ?_; (with_reducible refine (laws_szIntS.calls _ _ (rd_L2 l0 x5_1) x1_1 t549 _ ?side1 ?side2 A6.out).mono ?_); (case side1 => repeat (first | exact HR548_0.out | (with_reducible refine Kd.C_alloc ?_ _) | (with_reducible refine Kd.C_drewN ?_ _) | (with_reducible refine Kd.C_drew ?_))); (case side2 => exact HC548_0.out); rintro e w' ⟨rfl, ⟨nd, rfl⟩⟩; refine ⟨_, rfl, ?_⟩))
              go_roundg k1
              case measure => have := HK1.out; omega
              case rel => exact ⟨(t549), (wrap64 (x5_1 + 1)), (by first | rfl | (simp; done) | (simp [*]; done)), (by first | rfl | (simp; done) | (simp [*]; done)), H', ⟨by have := HK1.out; omega⟩, by repeat (first | exact Drawn0.refl _ | apply Drawn0.step)⟩
          · rw [if_neg c5] at H
            exact absurd H (by simp)
        · rw [if_neg c4] at H
          have c4b0 : decide (x5_1 < (l0.length : Int)) = false := decide_eq_false c4
          clear c4
          obtain rfl := Option.some.inj H
          go_wp2
          go_ret
          exact ⟨by first | rfl | (simp; done) | (simp [*]; done), by repeat (first | exact Drawn0.refl _ | apply Drawn0.step)⟩
def laws_szRunS.f (l0 : List (S151)) (a1 : Int) : Option (Int) := if (wrap64 (a1 - (l0.length : Int))) < 0 then (some (-1)) else (some (wrap64 (a1 - (l0.length : Int))))
set_option maxHeartbeats 8000000 in
set_option maxRecDepth 100000 in
theorem laws_szRunS.calls (A0 : Option Addr) (c0 : Nat) (l0 : List (S151)) (a1 : Int) (r : Int) (w : World) (hr0 : Kd.C k151 w A0 l0.length l0) (hc0 : l0.length ≤ c0) (h : laws_szRunS.f l0 a1 = some r) :
    Calls Try.prog 66 #[.slice A0 l0.length c0, .int .i64 a1] w fun e w' => e = .returned (.int .i64 r) ∧ Drawn0 w w' := by
  have HR0 := Aside0.mk hr0
  have HC0 := Aside0.mk hc0
  clear hr0 hc0
  have H : (if (wrap64 (a1 - (l0.length : Int))) < 0 then (some (-1)) else (some (wrap64 (a1 - (l0.length : Int))))) = some r := h
  clear h
  by_cases c3 : (wrap64 (a1 - (l0.length : Int))) < 0
  · rw [if_pos c3] at H
    have c3b0 : decide ((wrap64 (a1 - (l0.length : Int))) < 0) = true := decide_eq_true c3
    clear c3
    obtain rfl := Option.some.inj H
    go_enter Try.func66, Try.ntmps66
    go_wp2
    go_ret
    exact ⟨by first | rfl | (simp; done) | (simp [*]; done), by repeat (first | exact Drawn0.refl _ | apply Drawn0.step)⟩
  · rw [if_neg c3] at H
    have c3b0 : decide ((wrap64 (a1 - (l0.length : Int))) < 0) = false := decide_eq_false c3
    clear c3
    obtain rfl := Option.some.inj H
    go_enter Try.func66, Try.ntmps66
    go_wp2
    go_ret
    exact ⟨by first | rfl | (simp; done) | (simp [*]; done), by repeat (first | exact Drawn0.refl _ | apply Drawn0.step)⟩
def laws_szBoolS.f (l0 : List Bool) (a1 : Int) : Option (Int) := if (wrap64 (a1 - (l0.length : Int))) < 0 then (some (-1)) else (some (wrap64 (a1 - (l0.length : Int))))
set_option maxHeartbeats 8000000 in
set_option maxRecDepth 100000 in
theorem laws_szBoolS.calls (A0 : Option Addr) (c0 : Nat) (l0 : List Bool) (a1 : Int) (r : Int) (w : World) (hr0 : Kd.C Kd.bool w A0 l0.length l0) (hc0 : l0.length ≤ c0) (h : laws_szBoolS.f l0 a1 = some r) :
    Calls Try.prog 144 #[.slice A0 l0.length c0, .int .i64 a1] w fun e w' => e = .returned (.int .i64 r) ∧ Drawn0 w w' := by
  have HR0 := Aside0.mk hr0
  have HC0 := Aside0.mk hc0
  clear hr0 hc0
  have H : (if (wrap64 (a1 - (l0.length : Int))) < 0 then (some (-1)) else (some (wrap64 (a1 - (l0.length : Int))))) = some r := h
  clear h
  by_cases c3 : (wrap64 (a1 - (l0.length : Int))) < 0
  · rw [if_pos c3] at H
    have c3b0 : decide ((wrap64 (a1 - (l0.length : Int))) < 0) = true := decide_eq_true c3
    clear c3
    obtain rfl := Option.some.inj H
    go_enter Try.func144, Try.ntmps144
    go_wp2
    go_ret
    exact ⟨by first | rfl | (simp; done) | (simp [*]; done), by repeat (first | exact Drawn0.refl _ | apply Drawn0.step)⟩
  · rw [if_neg c3] at H
    have c3b0 : decide ((wrap64 (a1 - (l0.length : Int))) < 0) = false := decide_eq_false c3
    clear c3
    obtain rfl := Option.some.inj H
    go_enter Try.func144, Try.ntmps144
    go_wp2
    go_ret
    exact ⟨by first | rfl | (simp; done) | (simp [*]; done), by repeat (first | exact Drawn0.refl _ | apply Drawn0.step)⟩
def laws_szSlab.f (a0_0 : Int) (a0_1 : Int) (l0_2 : List Bool) (a1 : Int) : Option (Int) := (laws_szBoolS.f l0_2 a1).bind fun t551 => (if t551 < 0 then (some (-1)) else (some t551))
set_option maxHeartbeats 8000000 in
set_option maxRecDepth 100000 in
theorem laws_szSlab.calls (a0_0 : Int) (a0_1 : Int) (A0_2 : Option Addr) (c0_2 : Nat) (l0_2 : List Bool) (a1 : Int) (r : Int) (w : World) (hr0_2 : Kd.C Kd.bool w A0_2 l0_2.length l0_2) (hc0_2 : l0_2.length ≤ c0_2) (h : laws_szSlab.f a0_0 a0_1 l0_2 a1 = some r) :
    Calls Try.prog 108 #[.agg #[.int .i64 a0_0, .int .i64 a0_1, .slice A0_2 l0_2.length c0_2], .int .i64 a1] w fun e w' => e = .returned (.int .i64 r) ∧ Below w.heap.size w w' := by
  have hu142 := Try.underlying142
  have HR0_2 := Aside0.mk hr0_2
  have HC0_2 := Aside0.mk hc0_2
  clear hr0_2 hc0_2
  have HB := Aside0.mk (Below.refl w.heap.size w)
  have H : ((laws_szBoolS.f l0_2 a1).bind fun t551 => (if t551 < 0 then (some (-1)) else (some t551))) = some r := h
  clear h
  replace H := Option.bind_eq_some_iff.mp H
  obtain ⟨t551, A30, H⟩ := H
  replace H : (if t551 < 0 then (some (-1)) else (some t551)) = some r := H
  have A3 := Aside0.mk A30
  clear A30
  by_cases c4 : t551 < 0
  · rw [if_pos c4] at H
    have c4b0 : decide (t551 < 0) = true := decide_eq_true c4
    clear c4
    obtain rfl := Option.some.inj H
    go_enter Try.func108, Try.ntmps108
    go_wp2_with (first | ((with_reducible refine gate_dst (N := 2) rfl ?_); refine box_event ?hg (N := 2) ?hd (cs := #[.int .i64 a0_0, .int .i64 a0_1, .slice A0_2 l0_2.length c0_2]) (t := 142) ?hr ?_; (case hd => rfl); (case hg => rfl); (case hr => first | (go_simp; done) | (go_simp; rfl)); intro gb550 hg w5 hbox hb; have n0_ := Aside0.mk (below_step (by repeat (first | (with_reducible first | exact HB.out | apply below_alloc | apply pw_below_drewN | apply below_drew1) | exact HB.out)) hb); have n1_ := Aside0.mk (hbox); have n2_ := Aside0.mk ((by rw [hg]; exact (below_size (by repeat (first | (with_reducible first | exact HB.out | apply below_alloc | apply pw_below_drewN | apply below_drew1) | exact HB.out))) : w.heap.size ≤ gb550)); have n3_ := Aside0.mk ((by rw [hg]; exact (below_size (by repeat (first | (with_reducible first | exact HB.out | apply below_alloc | apply pw_below_drewN | apply below_drew1) | exact HB.out))) : w.heap.size ≤ gb550)); clear HB; have HB := n0_; have BK550 := n1_; have GW550 := n2_; have GE550 := n3_; clear n0_ n1_ n2_ n3_; clear hb hbox hg; have hcz6_0 : w5.cell? ⟨gb550, 0, none⟩ = some (.int .i64 a0_0) := (blk_cell BK550.out 0).trans rfl; have hcz6_1 : w5.cell? ⟨gb550, 1, none⟩ = some (.int .i64 a0_1) := (blk_cell BK550.out 1).trans rfl; have hcz6_2 : w5.cell? ⟨gb550, 2, none⟩ = some (.slice A0_2 l0_2.length c0_2) := (blk_cell BK550.out 2).trans rfl; have hfz6_0 := blk_frozen BK550.out 0; have hfz6_1 := blk_frozen BK550.out 1; have hfz6_2 := blk_frozen BK550.out 2) | ((with_reducible refine gate_callee (f := 144) rfl ?_); refine goesL_ (some 8) rfl rfl Try.func144 (by kernel_rfl) rfl #[.slice A0_2 l0_2.length c0_2, .int .i64 a1] rfl (by (try simp only [List.map_toArray, List.map_cons, List.map_nil]); first | done | rfl | (simp only [List.length_drop, List.length_take]; rfl)) ?_; (with_reducible refine (laws_szBoolS.calls _ _ l0_2 a1 t551 _ ?side1 ?side2 A3.out).mono ?_); (case side1 => repeat (first | exact (Kd.C_below HR0_2.out HB.out) | (with_reducible refine Kd.C_alloc ?_ _) | (with_reducible refine Kd.C_drewN ?_ _) | (with_reducible refine Kd.C_drew ?_))); (case side2 => exact HC0_2.out); rintro e w' ⟨rfl, ⟨nd, rfl⟩⟩; refine ⟨_, rfl, ?_⟩))
    go_ret
    exact ⟨by first | rfl | (simp [errW_none, errW_some] <;> rfl) | (simp [*, errW_none, errW_some] <;> rfl), by repeat (first | (with_reducible first | exact HB.out | apply below_alloc | apply pw_below_drewN | apply below_drew1 | refine below_set ?_ GE550.out) | exact HB.out)⟩
  · rw [if_neg c4] at H
    have c4b0 : decide (t551 < 0) = false := decide_eq_false c4
    clear c4
    obtain rfl := Option.some.inj H
    go_enter Try.func108, Try.ntmps108
    go_wp2_with (first | ((with_reducible refine gate_dst (N := 2) rfl ?_); refine box_event ?hg (N := 2) ?hd (cs := #[.int .i64 a0_0, .int .i64 a0_1, .slice A0_2 l0_2.length c0_2]) (t := 142) ?hr ?_; (case hd => rfl); (case hg => rfl); (case hr => first | (go_simp; done) | (go_simp; rfl)); intro gb550 hg w7 hbox hb; have n0_ := Aside0.mk (below_step (by repeat (first | (with_reducible first | exact HB.out | apply below_alloc | apply pw_below_drewN | apply below_drew1) | exact HB.out)) hb); have n1_ := Aside0.mk (hbox); have n2_ := Aside0.mk ((by rw [hg]; exact (below_size (by repeat (first | (with_reducible first | exact HB.out | apply below_alloc | apply pw_below_drewN | apply below_drew1) | exact HB.out))) : w.heap.size ≤ gb550)); have n3_ := Aside0.mk ((by rw [hg]; exact (below_size (by repeat (first | (with_reducible first | exact HB.out | apply below_alloc | apply pw_below_drewN | apply below_drew1) | exact HB.out))) : w.heap.size ≤ gb550)); clear HB; have HB := n0_; have BK550 := n1_; have GW550 := n2_; have GE550 := n3_; clear n0_ n1_ n2_ n3_; clear hb hbox hg; have hcz8_0 : w7.cell? ⟨gb550, 0, none⟩ = some (.int .i64 a0_0) := (blk_cell BK550.out 0).trans rfl; have hcz8_1 : w7.cell? ⟨gb550, 1, none⟩ = some (.int .i64 a0_1) := (blk_cell BK550.out 1).trans rfl; have hcz8_2 : w7.cell? ⟨gb550, 2, none⟩ = some (.slice A0_2 l0_2.length c0_2) := (blk_cell BK550.out 2).trans rfl; have hfz8_0 := blk_frozen BK550.out 0; have hfz8_1 := blk_frozen BK550.out 1; have hfz8_2 := blk_frozen BK550.out 2) | ((with_reducible refine gate_callee (f := 144) rfl ?_); refine goesL_ (some 8) rfl rfl Try.func144 (by kernel_rfl) rfl #[.slice A0_2 l0_2.length c0_2, .int .i64 a1] rfl (by (try simp only [List.map_toArray, List.map_cons, List.map_nil]); first | done | rfl | (simp only [List.length_drop, List.length_take]; rfl)) ?_; (with_reducible refine (laws_szBoolS.calls _ _ l0_2 a1 t551 _ ?side1 ?side2 A3.out).mono ?_); (case side1 => repeat (first | exact (Kd.C_below HR0_2.out HB.out) | (with_reducible refine Kd.C_alloc ?_ _) | (with_reducible refine Kd.C_drewN ?_ _) | (with_reducible refine Kd.C_drew ?_))); (case side2 => exact HC0_2.out); rintro e w' ⟨rfl, ⟨nd, rfl⟩⟩; refine ⟨_, rfl, ?_⟩))
    go_ret
    exact ⟨by first | rfl | (simp [errW_none, errW_some] <;> rfl) | (simp [*, errW_none, errW_some] <;> rfl), by repeat (first | (with_reducible first | exact HB.out | apply below_alloc | apply pw_below_drewN | apply below_drew1 | refine below_set ?_ GE550.out) | exact HB.out)⟩
def laws_szSlabS.l0 : Nat → List (S142) → Int → Int → Option (Int)
  | 0, _, _, _ => none
  | k + 1, x0, x1, x5 => if x5 < (x0.length : Int) then (if 0 ≤ x5 then ((laws_szSlab.f ((rd_T142 x0 x5).f0) ((rd_T142 x0 x5).f1) ((rd_T142 x0 x5).f2) x1).bind fun t553 => (if t553 < 0 then (some (-1)) else (laws_szSlabS.l0 k x0 t553 (wrap64 (x5 + 1))))) else (none)) else (some x1)
def laws_szSlabS.f (k : Nat) (l0 : List (S142)) (a1 : Int) : Option (Int) := if (wrap64 (a1 - (l0.length : Int))) < 0 then (some (-1)) else (laws_szSlabS.l0 k l0 (wrap64 (a1 - (l0.length : Int))) 0)
theorem laws_szSlabS.mono_l : ∀ k, (∀ y0 y1 y2, LeO (laws_szSlabS.l0 k y0 y1 y2) (laws_szSlabS.l0 (k + 1) y0 y1 y2))
  | 0 => fun _ _ _ r h => by simp [laws_szSlabS.l0] at h
  | k + 1 => by
    have ih0 := laws_szSlabS.mono_l k
    · intro y0 y1 y2
      unfold laws_szSlabS.l0
      repeat' first
      | (with_reducible exact ih0 _ _ _)
      | (with_reducible exact LeO.refl _)
      | (with_reducible exact LeO.none _)
      | (with_reducible refine LeO.ite ?_ ?_)
      | (with_reducible refine LeO.bind ?_ (fun _ => ?_))
      | exact ih0 _ _ _
      | exact LeO.none _
      | refine LeO.ite ?_ ?_
      | refine LeO.bind ?_ (fun _ => ?_)
theorem laws_szSlabS.mono : ∀ a0 a1 k, LeO (laws_szSlabS.f k a0 a1) (laws_szSlabS.f (k + 1) a0 a1) := by
  intro a0 a1 k
  have ih0 := laws_szSlabS.mono_l k
  unfold laws_szSlabS.f
  repeat' first
      | (with_reducible exact ih0 _ _ _)
      | (with_reducible exact LeO.refl _)
      | (with_reducible exact LeO.none _)
      | (with_reducible refine LeO.ite ?_ ?_)
      | (with_reducible refine LeO.bind ?_ (fun _ => ?_))
      | exact ih0 _ _ _
      | exact LeO.none _
      | refine LeO.ite ?_ ?_
      | refine LeO.bind ?_ (fun _ => ?_)
set_option maxHeartbeats 8000000 in
set_option maxRecDepth 100000 in
theorem laws_szSlabS.calls (k : Nat) (A0 : Option Addr) (c0 : Nat) (l0 : List (S142)) (a1 : Int) (r : Int) (w : World) (hr0 : Kd.C k142 w A0 l0.length l0) (hc0 : l0.length ≤ c0) (h : laws_szSlabS.f k l0 a1 = some r) :
    Calls Try.prog 67 #[.slice A0 l0.length c0, .int .i64 a1] w fun e w' => e = .returned (.int .i64 r) ∧ Below w.heap.size w w' := by
  have hu142 := Try.underlying142
  have HR0 := Aside0.mk hr0
  have HC0 := Aside0.mk hc0
  clear hr0 hc0
  have HB := Aside0.mk (Below.refl w.heap.size w)
  have H : (if (wrap64 (a1 - (l0.length : Int))) < 0 then (some (-1)) else (laws_szSlabS.l0 k l0 (wrap64 (a1 - (l0.length : Int))) 0)) = some r := h
  clear h
  by_cases c3 : (wrap64 (a1 - (l0.length : Int))) < 0
  · rw [if_pos c3] at H
    have c3b0 : decide ((wrap64 (a1 - (l0.length : Int))) < 0) = true := decide_eq_true c3
    clear c3
    obtain rfl := Option.some.inj H
    go_enter Try.func67, Try.ntmps67
    go_wp2
    go_ret
    exact ⟨by first | rfl | (simp [errW_none, errW_some] <;> rfl) | (simp [*, errW_none, errW_some] <;> rfl), by repeat (first | (with_reducible first | exact HB.out | apply below_alloc | apply pw_below_drewN | apply below_drew1) | exact HB.out)⟩
  · rw [if_neg c3] at H
    have c3b0 : decide ((wrap64 (a1 - (l0.length : Int))) < 0) = false := decide_eq_false c3
    clear c3
    have H' := Aside0.mk H
    clear H
    go_enter Try.func67, Try.ntmps67
    go_wp2
    go_loopg [1, 5] k (fun kq v1 v5 w' => ∃ (x1_1 : Int) (x5_1 : Int), v1 = .int .i64 x1_1 ∧ v5 = .int .i64 x5_1 ∧ Aside0 (laws_szSlabS.l0 kq l0 x1_1 x5_1 = some r) ∧ Aside0 (kq ≤ k) ∧ Aside0 (Below w.heap.size w w'))
    case atStart => exact ⟨(wrap64 (a1 - (l0.length : Int))), (0), (by first | rfl | (simp; done) | (simp [*]; done)), (by first | rfl | (simp; done) | (simp [*]; done)), H', ⟨Nat.le_refl _⟩, ⟨by repeat (first | (with_reducible first | exact HB.out | apply below_alloc | apply pw_below_drewN | apply below_drew1) | exact HB.out)⟩⟩
    case round =>
      clear H'
      try clear p2
      try clear c3
      try clear c3b0
      obtain ⟨x1_1, x5_1, rfl, rfl, HA, HK1, HB⟩ := hrel
      cases gk with
      | zero => exact absurd HA.out (by simp [laws_szSlabS.l0])
      | succ k1 =>
        have H := HA.out
        clear HA
        simp only [laws_szSlabS.l0] at H
        by_cases c4 : x5_1 < (l0.length : Int)
        · rw [if_pos c4] at H
          have c4b0 : decide (x5_1 < (l0.length : Int)) = true := decide_eq_true c4
          clear c4
          by_cases c5 : 0 ≤ x5_1
          · rw [if_pos c5] at H
            have c5b0 : decide (0 ≤ x5_1) = true := decide_eq_true c5
            clear c5
            replace H := Option.bind_eq_some_iff.mp H
            obtain ⟨t553, A60, H⟩ := H
            replace H : (if t553 < 0 then (some (-1)) else (laws_szSlabS.l0 k1 l0 t553 (wrap64 (x5_1 + 1)))) = some r := H
            have A6 := Aside0.mk A60
            clear A60
            by_cases c7 : t553 < 0
            · rw [if_pos c7] at H
              have c7b0 : decide (t553 < 0) = true := decide_eq_true c7
              clear c7
              obtain rfl := Option.some.inj H
              have p552 : 0 ≤ (x5_1 : Int) := of_decide_eq_true (by first | (with_reducible assumption) | assumption)
              have q552 : x5_1 < (l0.length : Int) := of_decide_eq_true (by first | (with_reducible assumption) | assumption)
              obtain ⟨ad552, A552_2, c552_2, e552, hx552_0, hx552_1, hx552_2, hl552_2, hi552_2⟩ := at_T142 HR0.out x5_1 p552 q552
              cases e552
              replace hx552_0 := (HB.out.cell (World.block_lt_of_cell? w _ hx552_0)).trans hx552_0
              replace hx552_1 := (HB.out.cell (World.block_lt_of_cell? w _ hx552_1)).trans hx552_1
              replace hx552_2 := (HB.out.cell (World.block_lt_of_cell? w _ hx552_2)).trans hx552_2
              have HR552_2 := Aside0.mk hi552_2
              have HC552_2 := Aside0.mk hl552_2
              clear hi552_2 hl552_2
              replace p552 := eq_true p552
              replace q552 := eq_true q552
              go_wp2_with (first | ((with_reducible refine gate_callee (f := 108) rfl ?_); refine goesL_ (some 23) rfl rfl Try.func108 (by kernel_rfl) rfl #[.agg #[.int .i64 ((rd_T142 l0 x5_1).f0), .int .i64 ((rd_T142 l0 x5_1).f1), .slice A552_2 ((rd_T142 l0 x5_1).f2).length c552_2], .int .i64 x1_1] rfl (by (try simp only [List.map_toArray, List.map_cons, List.map_nil]); first | done | rfl | (simp only [List.length_drop, List.length_take]; rfl)) ?_; (with_reducible refine (laws_szSlab.calls ((rd_T142 l0 x5_1).f0) ((rd_T142 l0 x5_1).f1) _ _ ((rd_T142 l0 x5_1).f2) x1_1 t553 _ ?side1 ?side2 A6.out).mono ?_); (case side1 => repeat (first | exact (Kd.C_below HR552_2.out HB.out) | (with_reducible refine Kd.C_alloc ?_ _) | (with_reducible refine Kd.C_drewN ?_ _) | (with_reducible refine Kd.C_drew ?_))); (case side2 => exact HC552_2.out); rintro e w8 ⟨rfl, hb⟩; refine ⟨_, rfl, ?_⟩; have n0_ := Aside0.mk (below_step (by repeat (first | (with_reducible first | exact HB.out | apply below_alloc | apply pw_below_drewN | apply below_drew1) | exact HB.out)) hb); clear HB; have HB := n0_; clear n0_; (try clear hb); (try clear hb2); (try clear hk); (try clear hi)))
              go_ret
              exact ⟨by first | rfl | (simp [errW_none, errW_some] <;> rfl) | (simp [*, errW_none, errW_some] <;> rfl), by repeat (first | (with_reducible first | exact HB.out | apply below_alloc | apply pw_below_drewN | apply below_drew1) | exact HB.out)⟩
            · rw [if_neg c7] at H
              have c7b0 : decide (t553 < 0) = false := decide_eq_false c7
              clear c7
              have H' := Aside0.mk H
              clear H
              have p552 : 0 ≤ (x5_1 : Int) := of_decide_eq_true (by first | (with_reducible assumption) | assumption)
              have q552 : x5_1 < (l0.length : Int) := of_decide_eq_true (by first | (with_reducible assumption) | assumption)
              obtain ⟨ad552, A552_2, c552_2, e552, hx552_0, hx552_1, hx552_2, hl552_2, hi552_2⟩ := at_T142 HR0.out x5_1 p552 q552
              cases e552
              replace hx552_0 := (HB.out.cell (World.block_lt_of_cell? w _ hx552_0)).trans hx552_0
              replace hx552_1 := (HB.out.cell (World.block_lt_of_cell? w _ hx552_1)).trans hx552_1
              replace hx552_2 := (HB.out.cell (World.block_lt_of_cell? w _ hx552_2)).trans hx552_2
              have HR552_2 := Aside0.mk hi552_2
              have HC552_2 := Aside0.mk hl552_2
              clear hi552_2 hl552_2
              replace p552 := eq_true p552
              replace q552 := eq_true q552
              go_wp2_with (first | ((with_reducible refine gate_callee (f := 108) rfl ?_); refine goesL_ (some 23) rfl rfl Try.func108 (by kernel_rfl) rfl #[.agg #[.int .i64 ((rd_T142 l0 x5_1).f0), .int .i64 ((rd_T142 l0 x5_1).f1), .slice A552_2 ((rd_T142 l0 x5_1).f2).length c552_2], .int .i64 x1_1] rfl (by (try simp only [List.map_toArray, List.map_cons, List.map_nil]); first | done | rfl | (simp only [List.length_drop, List.length_take]; rfl)) ?_; (with_reducible refine (laws_szSlab.calls ((rd_T142 l0 x5_1).f0) ((rd_T142 l0 x5_1).f1) _ _ ((rd_T142 l0 x5_1).f2) x1_1 t553 _ ?side1 ?side2 A6.out).mono ?_); (case side1 => repeat (first | exact (Kd.C_below HR552_2.out HB.out) | (with_reducible refine Kd.C_alloc ?_ _) | (with_reducible refine Kd.C_drewN ?_ _) | (with_reducible refine Kd.C_drew ?_))); (case side2 => exact HC552_2.out); rintro e w9 ⟨rfl, hb⟩; refine ⟨_, rfl, ?_⟩; have n0_ := Aside0.mk (below_step (by repeat (first | (with_reducible first | exact HB.out | apply below_alloc | apply pw_below_drewN | apply below_drew1) | exact HB.out)) hb); clear HB; have HB := n0_; clear n0_; (try clear hb); (try clear hb2); (try clear hk); (try clear hi)))
              go_roundg k1
              case measure => have := HK1.out; omega
              case rel => exact ⟨(t553), (wrap64 (x5_1 + 1)), (by first | rfl | (simp; done) | (simp [*]; done)), (by first | rfl | (simp; done) | (simp [*]; done)), H', ⟨by have := HK1.out; omega⟩, ⟨by repeat (first | (with_reducible first | exact HB.out | apply below_alloc | apply pw_below_drewN | apply below_drew1) | exact HB.out)⟩⟩
          · rw [if_neg c5] at H
            exact absurd H (by simp)
        · rw [if_neg c4] at H
          have c4b0 : decide (x5_1 < (l0.length : Int)) = false := decide_eq_false c4
          clear c4
          obtain rfl := Option.some.inj H
          go_wp2
          go_ret
          exact ⟨by first | rfl | (simp [errW_none, errW_some] <;> rfl) | (simp [*, errW_none, errW_some] <;> rfl), by repeat (first | (with_reducible first | exact HB.out | apply below_alloc | apply pw_below_drewN | apply below_drew1) | exact HB.out)⟩
def laws_szRegionS.f (l0 : List (S209)) (a1 : Int) : Option (Int) := if (wrap64 (a1 - (l0.length : Int))) < 0 then (some (-1)) else (some (wrap64 (a1 - (l0.length : Int))))
set_option maxHeartbeats 8000000 in
set_option maxRecDepth 100000 in
theorem laws_szRegionS.calls (A0 : Option Addr) (c0 : Nat) (l0 : List (S209)) (a1 : Int) (r : Int) (w : World) (hr0 : Kd.C k209 w A0 l0.length l0) (hc0 : l0.length ≤ c0) (h : laws_szRegionS.f l0 a1 = some r) :
    Calls Try.prog 145 #[.slice A0 l0.length c0, .int .i64 a1] w fun e w' => e = .returned (.int .i64 r) ∧ Drawn0 w w' := by
  have HR0 := Aside0.mk hr0
  have HC0 := Aside0.mk hc0
  clear hr0 hc0
  have H : (if (wrap64 (a1 - (l0.length : Int))) < 0 then (some (-1)) else (some (wrap64 (a1 - (l0.length : Int))))) = some r := h
  clear h
  by_cases c3 : (wrap64 (a1 - (l0.length : Int))) < 0
  · rw [if_pos c3] at H
    have c3b0 : decide ((wrap64 (a1 - (l0.length : Int))) < 0) = true := decide_eq_true c3
    clear c3
    obtain rfl := Option.some.inj H
    go_enter Try.func145, Try.ntmps145
    go_wp2
    go_ret
    exact ⟨by first | rfl | (simp; done) | (simp [*]; done), by repeat (first | exact Drawn0.refl _ | apply Drawn0.step)⟩
  · rw [if_neg c3] at H
    have c3b0 : decide ((wrap64 (a1 - (l0.length : Int))) < 0) = false := decide_eq_false c3
    clear c3
    obtain rfl := Option.some.inj H
    go_enter Try.func145, Try.ntmps145
    go_wp2
    go_ret
    exact ⟨by first | rfl | (simp; done) | (simp [*]; done), by repeat (first | exact Drawn0.refl _ | apply Drawn0.step)⟩
def laws_szSlot.f (a0_0 : Int) (l0_1 : List Int) (a1 : Int) : Option (Int) := (laws_szIntS.f l0_1 a1).bind fun t559 => (if t559 < 0 then (some (-1)) else (some t559))
set_option maxHeartbeats 8000000 in
set_option maxRecDepth 100000 in
theorem laws_szSlot.calls (a0_0 : Int) (A0_1 : Option Addr) (c0_1 : Nat) (l0_1 : List Int) (a1 : Int) (r : Int) (w : World) (hr0_1 : Kd.C (Kd.int .i64) w A0_1 l0_1.length l0_1) (hc0_1 : l0_1.length ≤ c0_1) (h : laws_szSlot.f a0_0 l0_1 a1 = some r) :
    Calls Try.prog 110 #[.agg #[.int .i64 a0_0, .slice A0_1 l0_1.length c0_1], .int .i64 a1] w fun e w' => e = .returned (.int .i64 r) ∧ Below w.heap.size w w' := by
  have hu148 := Try.underlying148
  have HR0_1 := Aside0.mk hr0_1
  have HC0_1 := Aside0.mk hc0_1
  clear hr0_1 hc0_1
  have HB := Aside0.mk (Below.refl w.heap.size w)
  have H : ((laws_szIntS.f l0_1 a1).bind fun t559 => (if t559 < 0 then (some (-1)) else (some t559))) = some r := h
  clear h
  replace H := Option.bind_eq_some_iff.mp H
  obtain ⟨t559, A30, H⟩ := H
  replace H : (if t559 < 0 then (some (-1)) else (some t559)) = some r := H
  have A3 := Aside0.mk A30
  clear A30
  by_cases c4 : t559 < 0
  · rw [if_pos c4] at H
    have c4b0 : decide (t559 < 0) = true := decide_eq_true c4
    clear c4
    obtain rfl := Option.some.inj H
    go_enter Try.func110, Try.ntmps110
    go_wp2_with (first | ((with_reducible refine gate_dst (N := 2) rfl ?_); refine box_event ?hg (N := 2) ?hd (cs := #[.int .i64 a0_0, .slice A0_1 l0_1.length c0_1]) (t := 148) ?hr ?_; (case hd => rfl); (case hg => rfl); (case hr => first | (go_simp; done) | (go_simp; rfl)); intro gb558 hg w5 hbox hb; have n0_ := Aside0.mk (below_step (by repeat (first | (with_reducible first | exact HB.out | apply below_alloc | apply pw_below_drewN | apply below_drew1) | exact HB.out)) hb); have n1_ := Aside0.mk (hbox); have n2_ := Aside0.mk ((by rw [hg]; exact (below_size (by repeat (first | (with_reducible first | exact HB.out | apply below_alloc | apply pw_below_drewN | apply below_drew1) | exact HB.out))) : w.heap.size ≤ gb558)); have n3_ := Aside0.mk ((by rw [hg]; exact (below_size (by repeat (first | (with_reducible first | exact HB.out | apply below_alloc | apply pw_below_drewN | apply below_drew1) | exact HB.out))) : w.heap.size ≤ gb558)); clear HB; have HB := n0_; have BK558 := n1_; have GW558 := n2_; have GE558 := n3_; clear n0_ n1_ n2_ n3_; clear hb hbox hg; have hcz6_0 : w5.cell? ⟨gb558, 0, none⟩ = some (.int .i64 a0_0) := (blk_cell BK558.out 0).trans rfl; have hcz6_1 : w5.cell? ⟨gb558, 1, none⟩ = some (.slice A0_1 l0_1.length c0_1) := (blk_cell BK558.out 1).trans rfl; have hfz6_0 := blk_frozen BK558.out 0; have hfz6_1 := blk_frozen BK558.out 1) | ((with_reducible refine gate_callee (f := 65) rfl ?_); refine goesL_ (some 8) rfl rfl Try.func65 (by kernel_rfl) rfl #[.slice A0_1 l0_1.length c0_1, .int .i64 a1] rfl (by (try simp only [List.map_toArray, List.map_cons, List.map_nil]); first | done | rfl | (simp only [List.length_drop, List.length_take]; rfl)) ?_; (with_reducible refine (laws_szIntS.calls _ _ l0_1 a1 t559 _ ?side1 ?side2 A3.out).mono ?_); (case side1 => repeat (first | exact (Kd.C_below HR0_1.out HB.out) | (with_reducible refine Kd.C_alloc ?_ _) | (with_reducible refine Kd.C_drewN ?_ _) | (with_reducible refine Kd.C_drew ?_))); (case side2 => exact HC0_1.out); rintro e w' ⟨rfl, ⟨nd, rfl⟩⟩; refine ⟨_, rfl, ?_⟩))
    go_ret
    exact ⟨by first | rfl | (simp [errW_none, errW_some] <;> rfl) | (simp [*, errW_none, errW_some] <;> rfl), by repeat (first | (with_reducible first | exact HB.out | apply below_alloc | apply pw_below_drewN | apply below_drew1 | refine below_set ?_ GE558.out) | exact HB.out)⟩
  · rw [if_neg c4] at H
    have c4b0 : decide (t559 < 0) = false := decide_eq_false c4
    clear c4
    obtain rfl := Option.some.inj H
    go_enter Try.func110, Try.ntmps110
    go_wp2_with (first | ((with_reducible refine gate_dst (N := 2) rfl ?_); refine box_event ?hg (N := 2) ?hd (cs := #[.int .i64 a0_0, .slice A0_1 l0_1.length c0_1]) (t := 148) ?hr ?_; (case hd => rfl); (case hg => rfl); (case hr => first | (go_simp; done) | (go_simp; rfl)); intro gb558 hg w7 hbox hb; have n0_ := Aside0.mk (below_step (by repeat (first | (with_reducible first | exact HB.out | apply below_alloc | apply pw_below_drewN | apply below_drew1) | exact HB.out)) hb); have n1_ := Aside0.mk (hbox); have n2_ := Aside0.mk ((by rw [hg]; exact (below_size (by repeat (first | (with_reducible first | exact HB.out | apply below_alloc | apply pw_below_drewN | apply below_drew1) | exact HB.out))) : w.heap.size ≤ gb558)); have n3_ := Aside0.mk ((by rw [hg]; exact (below_size (by repeat (first | (with_reducible first | exact HB.out | apply below_alloc | apply pw_below_drewN | apply below_drew1) | exact HB.out))) : w.heap.size ≤ gb558)); clear HB; have HB := n0_; have BK558 := n1_; have GW558 := n2_; have GE558 := n3_; clear n0_ n1_ n2_ n3_; clear hb hbox hg; have hcz8_0 : w7.cell? ⟨gb558, 0, none⟩ = some (.int .i64 a0_0) := (blk_cell BK558.out 0).trans rfl; have hcz8_1 : w7.cell? ⟨gb558, 1, none⟩ = some (.slice A0_1 l0_1.length c0_1) := (blk_cell BK558.out 1).trans rfl; have hfz8_0 := blk_frozen BK558.out 0; have hfz8_1 := blk_frozen BK558.out 1) | ((with_reducible refine gate_callee (f := 65) rfl ?_); refine goesL_ (some 8) rfl rfl Try.func65 (by kernel_rfl) rfl #[.slice A0_1 l0_1.length c0_1, .int .i64 a1] rfl (by (try simp only [List.map_toArray, List.map_cons, List.map_nil]); first | done | rfl | (simp only [List.length_drop, List.length_take]; rfl)) ?_; (with_reducible refine (laws_szIntS.calls _ _ l0_1 a1 t559 _ ?side1 ?side2 A3.out).mono ?_); (case side1 => repeat (first | exact (Kd.C_below HR0_1.out HB.out) | (with_reducible refine Kd.C_alloc ?_ _) | (with_reducible refine Kd.C_drewN ?_ _) | (with_reducible refine Kd.C_drew ?_))); (case side2 => exact HC0_1.out); rintro e w' ⟨rfl, ⟨nd, rfl⟩⟩; refine ⟨_, rfl, ?_⟩))
    go_ret
    exact ⟨by first | rfl | (simp [errW_none, errW_some] <;> rfl) | (simp [*, errW_none, errW_some] <;> rfl), by repeat (first | (with_reducible first | exact HB.out | apply below_alloc | apply pw_below_drewN | apply below_drew1 | refine below_set ?_ GE558.out) | exact HB.out)⟩
def laws_szSlotS.l0 : Nat → List (S148) → Int → Int → Option (Int)
  | 0, _, _, _ => none
  | k + 1, x0, x1, x5 => if x5 < (x0.length : Int) then (if 0 ≤ x5 then ((laws_szSlot.f ((rd_T148 x0 x5).f0) ((rd_T148 x0 x5).f1) x1).bind fun t561 => (if t561 < 0 then (some (-1)) else (laws_szSlotS.l0 k x0 t561 (wrap64 (x5 + 1))))) else (none)) else (some x1)
def laws_szSlotS.f (k : Nat) (l0 : List (S148)) (a1 : Int) : Option (Int) := if (wrap64 (a1 - (l0.length : Int))) < 0 then (some (-1)) else (laws_szSlotS.l0 k l0 (wrap64 (a1 - (l0.length : Int))) 0)
theorem laws_szSlotS.mono_l : ∀ k, (∀ y0 y1 y2, LeO (laws_szSlotS.l0 k y0 y1 y2) (laws_szSlotS.l0 (k + 1) y0 y1 y2))
  | 0 => fun _ _ _ r h => by simp [laws_szSlotS.l0] at h
  | k + 1 => by
    have ih0 := laws_szSlotS.mono_l k
    · intro y0 y1 y2
      unfold laws_szSlotS.l0
      repeat' first
      | (with_reducible exact ih0 _ _ _)
      | (with_reducible exact LeO.refl _)
      | (with_reducible exact LeO.none _)
      | (with_reducible refine LeO.ite ?_ ?_)
      | (with_reducible refine LeO.bind ?_ (fun _ => ?_))
      | exact ih0 _ _ _
      | exact LeO.none _
      | refine LeO.ite ?_ ?_
      | refine LeO.bind ?_ (fun _ => ?_)
theorem laws_szSlotS.mono : ∀ a0 a1 k, LeO (laws_szSlotS.f k a0 a1) (laws_szSlotS.f (k + 1) a0 a1) := by
  intro a0 a1 k
  have ih0 := laws_szSlotS.mono_l k
  unfold laws_szSlotS.f
  repeat' first
      | (with_reducible exact ih0 _ _ _)
      | (with_reducible exact LeO.refl _)
      | (with_reducible exact LeO.none _)
      | (with_reducible refine LeO.ite ?_ ?_)
      | (with_reducible refine LeO.bind ?_ (fun _ => ?_))
      | exact ih0 _ _ _
      | exact LeO.none _
      | refine LeO.ite ?_ ?_
      | refine LeO.bind ?_ (fun _ => ?_)
set_option maxHeartbeats 8000000 in
set_option maxRecDepth 100000 in
theorem laws_szSlotS.calls (k : Nat) (A0 : Option Addr) (c0 : Nat) (l0 : List (S148)) (a1 : Int) (r : Int) (w : World) (hr0 : Kd.C k148 w A0 l0.length l0) (hc0 : l0.length ≤ c0) (h : laws_szSlotS.f k l0 a1 = some r) :
    Calls Try.prog 70 #[.slice A0 l0.length c0, .int .i64 a1] w fun e w' => e = .returned (.int .i64 r) ∧ Below w.heap.size w w' := by
  have hu148 := Try.underlying148
  have HR0 := Aside0.mk hr0
  have HC0 := Aside0.mk hc0
  clear hr0 hc0
  have HB := Aside0.mk (Below.refl w.heap.size w)
  have H : (if (wrap64 (a1 - (l0.length : Int))) < 0 then (some (-1)) else (laws_szSlotS.l0 k l0 (wrap64 (a1 - (l0.length : Int))) 0)) = some r := h
  clear h
  by_cases c3 : (wrap64 (a1 - (l0.length : Int))) < 0
  · rw [if_pos c3] at H
    have c3b0 : decide ((wrap64 (a1 - (l0.length : Int))) < 0) = true := decide_eq_true c3
    clear c3
    obtain rfl := Option.some.inj H
    go_enter Try.func70, Try.ntmps70
    go_wp2
    go_ret
    exact ⟨by first | rfl | (simp [errW_none, errW_some] <;> rfl) | (simp [*, errW_none, errW_some] <;> rfl), by repeat (first | (with_reducible first | exact HB.out | apply below_alloc | apply pw_below_drewN | apply below_drew1) | exact HB.out)⟩
  · rw [if_neg c3] at H
    have c3b0 : decide ((wrap64 (a1 - (l0.length : Int))) < 0) = false := decide_eq_false c3
    clear c3
    have H' := Aside0.mk H
    clear H
    go_enter Try.func70, Try.ntmps70
    go_wp2
    go_loopg [1, 5] k (fun kq v1 v5 w' => ∃ (x1_1 : Int) (x5_1 : Int), v1 = .int .i64 x1_1 ∧ v5 = .int .i64 x5_1 ∧ Aside0 (laws_szSlotS.l0 kq l0 x1_1 x5_1 = some r) ∧ Aside0 (kq ≤ k) ∧ Aside0 (Below w.heap.size w w'))
    case atStart => exact ⟨(wrap64 (a1 - (l0.length : Int))), (0), (by first | rfl | (simp; done) | (simp [*]; done)), (by first | rfl | (simp; done) | (simp [*]; done)), H', ⟨Nat.le_refl _⟩, ⟨by repeat (first | (with_reducible first | exact HB.out | apply below_alloc | apply pw_below_drewN | apply below_drew1) | exact HB.out)⟩⟩
    case round =>
      clear H'
      try clear p2
      try clear c3
      try clear c3b0
      obtain ⟨x1_1, x5_1, rfl, rfl, HA, HK1, HB⟩ := hrel
      cases gk with
      | zero => exact absurd HA.out (by simp [laws_szSlotS.l0])
      | succ k1 =>
        have H := HA.out
        clear HA
        simp only [laws_szSlotS.l0] at H
        by_cases c4 : x5_1 < (l0.length : Int)
        · rw [if_pos c4] at H
          have c4b0 : decide (x5_1 < (l0.length : Int)) = true := decide_eq_true c4
          clear c4
          by_cases c5 : 0 ≤ x5_1
          · rw [if_pos c5] at H
            have c5b0 : decide (0 ≤ x5_1) = true := decide_eq_true c5
            clear c5
            replace H := Option.bind_eq_some_iff.mp H
            obtain ⟨t561, A60, H⟩ := H
            replace H : (if t561 < 0 then (some (-1)) else (laws_szSlotS.l0 k1 l0 t561 (wrap64 (x5_1 + 1)))) = some r := H
            have A6 := Aside0.mk A60
            clear A60
            by_cases c7 : t561 < 0
            · rw [if_pos c7] at H
              have c7b0 : decide (t561 < 0) = true := decide_eq_true c7
              clear c7
              obtain rfl := Option.some.inj H
              have p560 : 0 ≤ (x5_1 : Int) := of_decide_eq_true (by first | (with_reducible assumption) | assumption)
              have q560 : x5_1 < (l0.length : Int) := of_decide_eq_true (by first | (with_reducible assumption) | assumption)
              obtain ⟨ad560, A560_1, c560_1, e560, hx560_0, hx560_1, hl560_1, hi560_1⟩ := at_T148 HR0.out x5_1 p560 q560
              cases e560
              replace hx560_0 := (HB.out.cell (World.block_lt_of_cell? w _ hx560_0)).trans hx560_0
              replace hx560_1 := (HB.out.cell (World.block_lt_of_cell? w _ hx560_1)).trans hx560_1
              have HR560_1 := Aside0.mk hi560_1
              have HC560_1 := Aside0.mk hl560_1
              clear hi560_1 hl560_1
              replace p560 := eq_true p560
              replace q560 := eq_true q560
              go_wp2_with (first | ((with_reducible refine gate_callee (f := 110) rfl ?_); refine goesL_ (some 23) rfl rfl Try.func110 (by kernel_rfl) rfl #[.agg #[.int .i64 ((rd_T148 l0 x5_1).f0), .slice A560_1 ((rd_T148 l0 x5_1).f1).length c560_1], .int .i64 x1_1] rfl (by (try simp only [List.map_toArray, List.map_cons, List.map_nil]); first | done | rfl | (simp only [List.length_drop, List.length_take]; rfl)) ?_; (with_reducible refine (laws_szSlot.calls ((rd_T148 l0 x5_1).f0) _ _ ((rd_T148 l0 x5_1).f1) x1_1 t561 _ ?side1 ?side2 A6.out).mono ?_); (case side1 => repeat (first | exact (Kd.C_below HR560_1.out HB.out) | (with_reducible refine Kd.C_alloc ?_ _) | (with_reducible refine Kd.C_drewN ?_ _) | (with_reducible refine Kd.C_drew ?_))); (case side2 => exact HC560_1.out); rintro e w8 ⟨rfl, hb⟩; refine ⟨_, rfl, ?_⟩; have n0_ := Aside0.mk (below_step (by repeat (first | (with_reducible first | exact HB.out | apply below_alloc | apply pw_below_drewN | apply below_drew1) | exact HB.out)) hb); clear HB; have HB := n0_; clear n0_; (try clear hb); (try clear hb2); (try clear hk); (try clear hi)))
              go_ret
              exact ⟨by first | rfl | (simp [errW_none, errW_some] <;> rfl) | (simp [*, errW_none, errW_some] <;> rfl), by repeat (first | (with_reducible first | exact HB.out | apply below_alloc | apply pw_below_drewN | apply below_drew1) | exact HB.out)⟩
            · rw [if_neg c7] at H
              have c7b0 : decide (t561 < 0) = false := decide_eq_false c7
              clear c7
              have H' := Aside0.mk H
              clear H
              have p560 : 0 ≤ (x5_1 : Int) := of_decide_eq_true (by first | (with_reducible assumption) | assumption)
              have q560 : x5_1 < (l0.length : Int) := of_decide_eq_true (by first | (with_reducible assumption) | assumption)
              obtain ⟨ad560, A560_1, c560_1, e560, hx560_0, hx560_1, hl560_1, hi560_1⟩ := at_T148 HR0.out x5_1 p560 q560
              cases e560
              replace hx560_0 := (HB.out.cell (World.block_lt_of_cell? w _ hx560_0)).trans hx560_0
              replace hx560_1 := (HB.out.cell (World.block_lt_of_cell? w _ hx560_1)).trans hx560_1
              have HR560_1 := Aside0.mk hi560_1
              have HC560_1 := Aside0.mk hl560_1
              clear hi560_1 hl560_1
              replace p560 := eq_true p560
              replace q560 := eq_true q560
              go_wp2_with (first | ((with_reducible refine gate_callee (f := 110) rfl ?_); refine goesL_ (some 23) rfl rfl Try.func110 (by kernel_rfl) rfl #[.agg #[.int .i64 ((rd_T148 l0 x5_1).f0), .slice A560_1 ((rd_T148 l0 x5_1).f1).length c560_1], .int .i64 x1_1] rfl (by (try simp only [List.map_toArray, List.map_cons, List.map_nil]); first | done | rfl | (simp only [List.length_drop, List.length_take]; rfl)) ?_; (with_reducible refine (laws_szSlot.calls ((rd_T148 l0 x5_1).f0) _ _ ((rd_T148 l0 x5_1).f1) x1_1 t561 _ ?side1 ?side2 A6.out).mono ?_); (case side1 => repeat (first | exact (Kd.C_below HR560_1.out HB.out) | (with_reducible refine Kd.C_alloc ?_ _) | (with_reducible refine Kd.C_drewN ?_ _) | (with_reducible refine Kd.C_drew ?_))); (case side2 => exact HC560_1.out); rintro e w9 ⟨rfl, hb⟩; refine ⟨_, rfl, ?_⟩; have n0_ := Aside0.mk (below_step (by repeat (first | (with_reducible first | exact HB.out | apply below_alloc | apply pw_below_drewN | apply below_drew1) | exact HB.out)) hb); clear HB; have HB := n0_; clear n0_; (try clear hb); (try clear hb2); (try clear hk); (try clear hi)))
              go_roundg k1
              case measure => have := HK1.out; omega
              case rel => exact ⟨(t561), (wrap64 (x5_1 + 1)), (by first | rfl | (simp; done) | (simp [*]; done)), (by first | rfl | (simp; done) | (simp [*]; done)), H', ⟨by have := HK1.out; omega⟩, ⟨by repeat (first | (with_reducible first | exact HB.out | apply below_alloc | apply pw_below_drewN | apply below_drew1) | exact HB.out)⟩⟩
          · rw [if_neg c5] at H
            exact absurd H (by simp)
        · rw [if_neg c4] at H
          have c4b0 : decide (x5_1 < (l0.length : Int)) = false := decide_eq_false c4
          clear c4
          obtain rfl := Option.some.inj H
          go_wp2
          go_ret
          exact ⟨by first | rfl | (simp [errW_none, errW_some] <;> rfl) | (simp [*, errW_none, errW_some] <;> rfl), by repeat (first | (with_reducible first | exact HB.out | apply below_alloc | apply pw_below_drewN | apply below_drew1) | exact HB.out)⟩
def laws_toIntS.l0 : Nat → List Int → List Int → Int → Option (List Int)
  | 0, _, _, _ => none
  | k + 1, x0, x3, x4 => if x4 < (x0.length : Int) then (if 0 ≤ x4 then (if x4 < (x3.length : Int) then (laws_toIntS.l0 k x0 (x3.set (x4 : Int).toNat (rd x0 x4)) (wrap64 (x4 + 1))) else (none)) else (none)) else (some x3)
def laws_toIntS.f (k : Nat) (l0 : List Int) : Option (List Int) := if 0 ≤ (l0.length : Int) then (if ((l0.length : Int) : Int).toNat ≤ 35184372088832 then (laws_toIntS.l0 k l0 (List.replicate ((l0.length : Int) : Int).toNat 0) 0) else (none)) else (none)
theorem laws_toIntS.mono_l : ∀ k, (∀ y0 y1 y2, LeO (laws_toIntS.l0 k y0 y1 y2) (laws_toIntS.l0 (k + 1) y0 y1 y2))
  | 0 => fun _ _ _ r h => by simp [laws_toIntS.l0] at h
  | k + 1 => by
    have ih0 := laws_toIntS.mono_l k
    · intro y0 y1 y2
      unfold laws_toIntS.l0
      repeat' first
      | (with_reducible exact ih0 _ _ _)
      | (with_reducible exact LeO.refl _)
      | (with_reducible exact LeO.none _)
      | (with_reducible refine LeO.ite ?_ ?_)
      | (with_reducible refine LeO.bind ?_ (fun _ => ?_))
      | exact ih0 _ _ _
      | exact LeO.none _
      | refine LeO.ite ?_ ?_
      | refine LeO.bind ?_ (fun _ => ?_)
theorem laws_toIntS.mono : ∀ a0 k, LeO (laws_toIntS.f k a0) (laws_toIntS.f (k + 1) a0) := by
  intro a0 k
  have ih0 := laws_toIntS.mono_l k
  unfold laws_toIntS.f
  repeat' first
      | (with_reducible exact ih0 _ _ _)
      | (with_reducible exact LeO.refl _)
      | (with_reducible exact LeO.none _)
      | (with_reducible refine LeO.ite ?_ ?_)
      | (with_reducible refine LeO.bind ?_ (fun _ => ?_))
      | exact ih0 _ _ _
      | exact LeO.none _
      | refine LeO.ite ?_ ?_
      | refine LeO.bind ?_ (fun _ => ?_)
set_option maxHeartbeats 8000000 in
set_option maxRecDepth 100000 in
theorem laws_toIntS.calls (k : Nat) (A0 : Option Addr) (c0 : Nat) (l0 : List Int) (r : List Int) (w : World) (hr0 : Kd.C (Kd.int .i64) w A0 l0.length l0) (hc0 : l0.length ≤ c0) (h : laws_toIntS.f k l0 = some r) :
    Calls Try.prog 77 #[.slice A0 l0.length c0] w fun e w' => ∃ v0_ : Value, e = .returned (v0_) ∧ Kd.R (Kd.int .i64) 3 w' w.heap.size (fun _ => True) v0_ r ∧ Below w.heap.size w w' := by
  have HR0 := Aside0.mk hr0
  have HC0 := Aside0.mk hc0
  clear hr0 hc0
  have HB := Aside0.mk (Below.refl w.heap.size w)
  have H : (if 0 ≤ (l0.length : Int) then (if ((l0.length : Int) : Int).toNat ≤ 35184372088832 then (laws_toIntS.l0 k l0 (List.replicate ((l0.length : Int) : Int).toNat 0) 0) else (none)) else (none)) = some r := h
  clear h
  by_cases c2 : 0 ≤ (l0.length : Int)
  · rw [if_pos c2] at H
    have c2b0 := eq_true c2
    have c2b1 : decide (0 ≤ (l0.length : Int)) = true := decide_eq_true c2
    clear c2
    by_cases c3 : ((l0.length : Int) : Int).toNat ≤ 35184372088832
    · rw [if_pos c3] at H
      have c3b0 := eq_true c3
      have c3b1 : decide (((l0.length : Int) : Int).toNat ≤ 35184372088832) = true := decide_eq_true c3
      clear c3
      obtain ⟨y645, hy645⟩ : ∃ y_ : List Int, y_ = (List.replicate ((l0.length : Int) : Int).toNat 0) := ⟨_, rfl⟩
      replace H : (laws_toIntS.l0 k l0 y645 0) = some r := by first | (rw [hy645]; with_reducible exact H) | (have H2_ := (Option.bind_some _ _).symm.trans H; rw [hy645]; with_reducible exact H2_) | (have H2_ := (Option.bind_some _ _).symm.trans H; with_reducible exact H2_) | with_reducible exact H | (rw [hy645]; exact H) | exact H
      have Ny645 := Aside0.mk hy645
      clear hy645
      have H' := Aside0.mk H
      clear H
      go_enter Try.func77, Try.ntmps77
      go_wp2_with (first | ((with_reducible refine gate_dst (N := 7) rfl ?_); refine Kd.R_make (Kd.int .i64) _ 3 rfl (N := 7) rfl 26 _ _ rfl (l0.length : Int) rfl rfl Try.underlying26 (.int .i64 0) 8 info3 rfl (by decide) (by omega) 0 (ok := fun _ => True) (okp := fun _ => True) rfl (fun _ hk => hk) trivial (of_decide_eq_true (by first | (with_reducible assumption) | assumption)) (Nat.le_trans (Nat.mul_le_mul_right _ (of_decide_eq_true (by first | (with_reducible assumption) | assumption) : (l0.length : Int).toNat ≤ 35184372088832)) (by omega)) (Below.refl _ _) (Nat.le_refl _) ?_; intro v646 w4 ho5 hb hg_ hnew_; clear hg_ hnew_; (first | rw [← Ny645.out] at ho5 | (simp only [Int.reduceToNat] at ho5; rw [← Ny645.out] at ho5)); have n0_ := Aside0.mk (Kd.R_lower ho5 (below_size (by repeat (first | (with_reducible first | exact HB.out | apply below_alloc | apply pw_below_drewN | apply below_drew1) | exact HB.out)))); have n1_ := Aside0.mk (below_step (by repeat (first | (with_reducible first | exact HB.out | apply below_alloc | apply pw_below_drewN | apply below_drew1) | exact HB.out)) hb); clear HB; have HO647 := n0_; have HB := n1_; clear n0_ n1_; clear hb ho5))
      go_loopg [4] k (fun kq v4 w' => ∃ (x3_1 : List Int) (x4_1 : Int), v4 = .int .i64 x4_1 ∧ Aside0 (laws_toIntS.l0 kq l0 x3_1 x4_1 = some r) ∧ Aside0 (kq ≤ k) ∧ Aside0 (Kd.R (Kd.int .i64) 3 w' w.heap.size (fun _ => True) v646 x3_1) ∧ Aside0 (Below w.heap.size w w'))
      case atStart => exact ⟨(y645), (0), (by first | rfl | (simp; done) | (simp [*]; done)), H', ⟨Nat.le_refl _⟩, ⟨by (with_reducible repeat (first | apply Kd.R_alloc | apply Kd.R_drewN | apply Kd.R_drew)); exact HO647.out⟩, ⟨by repeat (first | (with_reducible first | exact HB.out | apply below_alloc | apply pw_below_drewN | apply below_drew1) | exact HB.out)⟩⟩
      case round =>
        clear H'
        try clear c2
        try clear c2b0
        try clear c2b1
        try clear p2
        try clear c3
        try clear c3b0
        try clear c3b1
        obtain ⟨x3_1, x4_1, rfl, HA, HK1, HO_3, HB⟩ := hrel
        cases gk with
        | zero => exact absurd HA.out (by simp [laws_toIntS.l0])
        | succ k1 =>
          have H := HA.out
          clear HA
          simp only [laws_toIntS.l0] at H
          by_cases c6 : x4_1 < (l0.length : Int)
          · rw [if_pos c6] at H
            have c6b0 : decide (x4_1 < (l0.length : Int)) = true := decide_eq_true c6
            clear c6
            by_cases c7 : 0 ≤ x4_1
            · rw [if_pos c7] at H
              have c7b0 : decide (0 ≤ x4_1) = true := decide_eq_true c7
              clear c7
              by_cases c8 : x4_1 < (x3_1.length : Int)
              · rw [if_pos c8] at H
                have c8b0 : decide (x4_1 < (x3_1.length : Int)) = true := decide_eq_true c8
                clear c8
                obtain ⟨y649, hy649⟩ : ∃ y_ : List Int, y_ = (x3_1.set (x4_1 : Int).toNat (rd l0 x4_1)) := ⟨_, rfl⟩
                replace H : (laws_toIntS.l0 k1 l0 y649 (wrap64 (x4_1 + 1))) = some r := by first | (rw [hy649]; with_reducible exact H) | (have H2_ := (Option.bind_some _ _).symm.trans H; rw [hy649]; with_reducible exact H2_) | (have H2_ := (Option.bind_some _ _).symm.trans H; with_reducible exact H2_) | with_reducible exact H | (rw [hy649]; exact H) | exact H
                have Ny649 := Aside0.mk hy649
                clear hy649
                have H' := Aside0.mk H
                clear H
                have p648 : 0 ≤ (x4_1 : Int) := of_decide_eq_true (by first | (with_reducible assumption) | assumption)
                have q648 : x4_1 < (l0.length : Int) := of_decide_eq_true (by first | (with_reducible assumption) | assumption)
                obtain ⟨ad648, e648, hx648_0⟩ := Kd.at_int HR0.out x4_1 p648 q648
                cases e648
                replace hx648_0 := (HB.out.cell (World.block_lt_of_cell? w _ hx648_0)).trans hx648_0
                replace p648 := eq_true p648
                replace q648 := eq_true q648
                have p9 : 0 ≤ (x4_1 : Int) := of_decide_eq_true (by first | (with_reducible assumption) | assumption)
                have q9 : (x4_1 : Int) < ((x3_1.length : Int) : Int) := of_decide_eq_true (by first | (with_reducible assumption) | assumption)
                obtain ⟨go9, co9, eo9, gb9, gl9, cl9, HG9⟩ := Kd.R_form HO_3.out (by omega)
                (first | cases eo9 | (injection eo9 with ea_ en_ ec_; (first | subst ea_ | (injection ea_ with ea_; subst ea_)); subst ec_; clear en_))
                have GB9 := Aside0.mk gb9
                have GG9 := Aside0.mk HG9
                clear gb9 gl9 HG9
                obtain ⟨hx9_0, hf9_0⟩ := Kd.R_celln 0 HO_3.out (x4_1 : Int) p9 q9
                replace p9 := eq_true p9
                replace q9 := eq_true q9
                have HP10 := Kd.R_putg HO_3.out (x4_1 : Int) (rd l0 x4_1)
                go_wp2_with (first | ((with_reducible refine gate_store (t := 3) (p := 20) rfl ?_); refine store_event (t := 3) (p := 20) (v := ?vo_w11) (w1 := (wr.setCell ⟨go9, (x4_1 : Int).toNat, none⟩ (.int .i64 (rd l0 x4_1)))) ?hg ?ho ?hn ?hr ?_; (case ho => rfl); (case hg => rfl); (case hn => rfl); (case hr => first | (go_simp; done) | (go_simp; rfl)); intro w11 hw; have hg : wr.grownBy w11 (some go9) := (by rw [hw]; exact HP10.2); have hp_ : Kd.R (Kd.int .i64) 3 w11 w.heap.size (fun _ => True) (.slice (some ⟨go9, 0, none⟩) x3_1.length co9) y649 := (by rw [hw, Ny649.out]; exact HP10.1); clear HP10; have n0_ := Aside0.mk (hp_); have n1_ := Aside0.mk ((by rw [hw]; exact below_set (HB.out) GB9.out : Below w.heap.size w w11)); clear HO_3; clear HB; have HO_3 := n0_; have HB := n1_; clear n0_ n1_; clear hg hw hp_))
                go_roundg k1
                case measure => have := HK1.out; omega
                case rel => exact ⟨(y649), (wrap64 (x4_1 + 1)), (by first | rfl | (simp; done) | (simp [*]; done)), H', ⟨by have := HK1.out; omega⟩, ⟨by (with_reducible repeat (first | apply Kd.R_alloc | apply Kd.R_drewN | apply Kd.R_drew)); exact HO_3.out⟩, ⟨by repeat (first | (with_reducible first | exact HB.out | apply below_alloc | apply pw_below_drewN | apply below_drew1) | exact HB.out)⟩⟩
              · rw [if_neg c8] at H
                exact absurd H (by simp)
            · rw [if_neg c7] at H
              exact absurd H (by simp)
          · rw [if_neg c6] at H
            have c6b0 : decide (x4_1 < (l0.length : Int)) = false := decide_eq_false c6
            clear c6
            obtain rfl := Option.some.inj H
            go_wp2
            go_ret
            exact ⟨_, by first | rfl | (simp [errW_none, errW_some] <;> rfl) | (simp [*, errW_none, errW_some] <;> rfl), by (with_reducible repeat (first | apply Kd.R_alloc | apply Kd.R_drewN | apply Kd.R_drew)); exact HO_3.out, by repeat (first | (with_reducible first | exact HB.out | apply below_alloc | apply pw_below_drewN | apply below_drew1) | exact HB.out)⟩
    · rw [if_neg c3] at H
      exact absurd H (by simp)
  · rw [if_neg c2] at H
    exact absurd H (by simp)
def laws_toIntSS.l0 : Nat → List (List Int) → List (List Int) → Int → Option ((List (List Int)))
 | 0, _, _, _ => none
 | k + 1, x0, x3, x4 => if x4 < (x0.length : Int) then (if 0 ≤ x4 then ((laws_toIntS.f k (rd_L2 x0 x4)).bind fun t654 => (if x4 < (x3.length : Int) then (laws_toIntSS.l0 k x0 (x3.set (x4 : Int).toNat t654) (wrap64 (x4 + 1))) else (none))) else (none)) else (some x3)
def laws_toIntSS.f (k : Nat) (l0 : List (List Int)) : Option ((List (List Int))) := if 0 ≤ (l0.length : Int) then (if ((l0.length : Int) : Int).toNat ≤ 11728124029610 then (laws_toIntSS.l0 k l0 (List.replicate ((l0.length : Int) : Int).toNat []) 0) else (none)) else (none)
theorem laws_toIntSS.mono_l : ∀ k, (∀ y0 y1 y2, LeO (laws_toIntSS.l0 k y0 y1 y2) (laws_toIntSS.l0 (k + 1) y0 y1 y2))
 | 0 => fun _ _ _ r h => by simp [laws_toIntSS.l0] at h
 | k + 1 => by
  have ih0 := laws_toIntSS.mono_l k
  ·intro y0 y1 y2; unfold laws_toIntSS.l0
   repeat' first
   | (with_reducible exact ih0 _ _ _)
   | (with_reducible exact laws_toIntS.mono _ _)
   | (with_reducible exact LeO.refl _)
   | (with_reducible exact LeO.none _)
   | (with_reducible refine LeO.ite ?_ ?_)
   | (with_reducible refine LeO.bind ?_ (fun _ => ?_))
   | exact ih0 _ _ _
   | exact laws_toIntS.mono _ _
   | exact LeO.none _
   | refine LeO.ite ?_ ?_
   | refine LeO.bind ?_ (fun _ => ?_)
theorem laws_toIntSS.mono : ∀ a0 k, LeO (laws_toIntSS.f k a0) (laws_toIntSS.f (k + 1) a0) := by
 intro a0 k; have ih0 := laws_toIntSS.mono_l k; unfold laws_toIntSS.f
 repeat' first
   | (with_reducible exact ih0 _ _ _)
   | (with_reducible exact laws_toIntS.mono _ _)
   | (with_reducible exact LeO.refl _)
   | (with_reducible exact LeO.none _)
   | (with_reducible refine LeO.ite ?_ ?_)
   | (with_reducible refine LeO.bind ?_ (fun _ => ?_))
   | exact ih0 _ _ _
   | exact laws_toIntS.mono _ _
   | exact LeO.none _
   | refine LeO.ite ?_ ?_
   | refine LeO.bind ?_ (fun _ => ?_)
set_option maxHeartbeats 8000000 in
set_option maxRecDepth 100000 in
theorem laws_toIntSS.calls (k : Nat) (A0 : Option Addr) (c0 : Nat) (l0 : List (List Int)) (r : List (List Int)) (w : World) (hr0 : Kd.C (Kd.slice 3 (Kd.int .i64)) w A0 l0.length l0) (hc0 : l0.length ≤ c0) (h : laws_toIntSS.f k l0 = some r) :
  Calls Try.prog 76 #[.slice A0 l0.length c0] w fun e w' => ∃ v0_ : Value, e = .returned (v0_) ∧ Kd.S (Kd.slice 3 (Kd.int .i64)) 26 w' w.heap.size (fun _ => True) v0_ r ∧ Below w.heap.size w w' := by
 have HR0 := Aside0.mk hr0; have HC0 := Aside0.mk hc0; clear hr0 hc0; have HB := Aside0.mk (Below.refl w.heap.size w); have H : (if 0 ≤ (l0.length : Int) then (if ((l0.length : Int) : Int).toNat ≤ 11728124029610 then (laws_toIntSS.l0 k l0 (List.replicate ((l0.length : Int) : Int).toNat []) 0) else (none)) else (none)) = some r := h; clear h
 by_cases c2 : 0 ≤ (l0.length : Int)
 ·rw [if_pos c2] at H; have c2b0 := eq_true c2; have c2b1 : decide (0 ≤ (l0.length : Int)) = true := decide_eq_true c2; clear c2
  by_cases c3 : ((l0.length : Int) : Int).toNat ≤ 11728124029610
  ·rw [if_pos c3] at H; have c3b0 := eq_true c3; have c3b1 : decide (((l0.length : Int) : Int).toNat ≤ 11728124029610) = true := decide_eq_true c3; clear c3
   obtain ⟨y650, hy650⟩ : ∃ y_ : List (List Int), y_ = (List.replicate ((l0.length : Int) : Int).toNat []) := ⟨_, rfl⟩
   replace H : (laws_toIntSS.l0 k l0 y650 0) = some r := by first | (rw [hy650]; with_reducible exact H) | (have H2_ := (Option.bind_some _ _).symm.trans H; rw [hy650]; with_reducible exact H2_) | (have H2_ := (Option.bind_some _ _).symm.trans H; with_reducible exact H2_) | with_reducible exact H | (rw [hy650]; exact H) | exact H
   have Ny650 := Aside0.mk hy650; clear hy650; have H' := Aside0.mk H; clear H
   go_enter Try.func76, Try.ntmps76
   go_wp2_with (first | ((with_reducible refine gate_dst (N := 7) rfl ?_); refine Kd.S_make (Kd.slice 3 (Kd.int .i64)) _ 26 rfl (N := 7) rfl 24 _ _ rfl (l0.length : Int) rfl rfl Try.underlying24 (.slice none 0 0) 24 info26 rfl (by decide) (by omega) [] (ok := fun _ => True) (okp := fun _ => True) ⟨_, rfl, Kd.R_nil _ _ _ _ _⟩ (fun _ hk => hk) trivial (of_decide_eq_true (by first | (with_reducible assumption) | assumption)) (Nat.le_trans (Nat.mul_le_mul_right _ (of_decide_eq_true (by first | (with_reducible assumption) | assumption) : (l0.length : Int).toNat ≤ 11728124029610)) (by omega)) (Below.refl _ _) (Nat.le_refl _) ?_; intro v651 w4 ho5 hb hg_ hnew_; clear hg_ hnew_; (first | rw [← Ny650.out] at ho5 | (simp only [Int.reduceToNat] at ho5; rw [← Ny650.out] at ho5)); have HO652 := Aside0.mk (Kd.S_lower ho5 (below_size (gB HB))); replace HB := Aside0.mk (below_step (gB HB) hb); clear hb ho5))
   go_loopg [4] k (fun kq v4 w' => ∃ (x3_1 : List (List Int)) (x4_1 : Int), v4 = .int .i64 x4_1 ∧ Aside0 (laws_toIntSS.l0 kq l0 x3_1 x4_1 = some r) ∧ Aside0 (kq ≤ k) ∧ Aside0 (Kd.S (Kd.slice 3 (Kd.int .i64)) 26 w' w.heap.size (fun _ => True) v651 x3_1) ∧ Aside0 (Below w.heap.size w w'))
   case atStart => exact ⟨(y650), (0), (by first | rfl | (simp; done) | (simp [*]; done)), H', ⟨Nat.le_refl _⟩, ⟨gS HO652⟩, ⟨gB HB⟩⟩
   case round =>
    clear H'; try clear c2
    try clear c2b0
    try clear c2b1
    try clear p2
    try clear c3
    try clear c3b0
    try clear c3b1
    obtain ⟨x3_1, x4_1, rfl, HA, HK1, HO_3, HB⟩ := hrel
    cases gk with
    | zero => exact absurd HA.out (by simp [laws_toIntSS.l0])
    | succ k1 =>
     have H := HA.out; clear HA; simp only [laws_toIntSS.l0] at H
     by_cases c6 : x4_1 < (l0.length : Int)
     ·rw [if_pos c6] at H; have c6b0 : decide (x4_1 < (l0.length : Int)) = true := decide_eq_true c6; clear c6
      by_cases c7 : 0 ≤ x4_1
      ·rw [if_pos c7] at H; have c7b0 : decide (0 ≤ x4_1) = true := decide_eq_true c7; clear c7; replace H := Option.bind_eq_some_iff.mp H; obtain ⟨t654, A80, H⟩ := H; replace H : (if x4_1 < (x3_1.length : Int) then (laws_toIntSS.l0 k1 l0 (x3_1.set (x4_1 : Int).toNat t654) (wrap64 (x4_1 + 1))) else (none)) = some r := H; have A8 := Aside0.mk A80; clear A80
       by_cases c9 : x4_1 < (x3_1.length : Int)
       ·rw [if_pos c9] at H; have c9b0 : decide (x4_1 < (x3_1.length : Int)) = true := decide_eq_true c9; clear c9
        obtain ⟨y657, hy657⟩ : ∃ y_ : List (List Int), y_ = (x3_1.set (x4_1 : Int).toNat t654) := ⟨_, rfl⟩
        replace H : (laws_toIntSS.l0 k1 l0 y657 (wrap64 (x4_1 + 1))) = some r := by first | (rw [hy657]; with_reducible exact H) | (have H2_ := (Option.bind_some _ _).symm.trans H; rw [hy657]; with_reducible exact H2_) | (have H2_ := (Option.bind_some _ _).symm.trans H; with_reducible exact H2_) | with_reducible exact H | (rw [hy657]; exact H) | exact H
        have Ny657 := Aside0.mk hy657; clear hy657; have H' := Aside0.mk H; clear H; have p653 : 0 ≤ (x4_1 : Int) := of_decide_eq_true (by first | (with_reducible assumption) | assumption); have q653 : x4_1 < (l0.length : Int) := of_decide_eq_true (by first | (with_reducible assumption) | assumption); obtain ⟨ad653, A653_0, c653_0, e653, hx653_0, hl653_0, hi653_0⟩ := at_L2 HR0.out x4_1 p653 q653
        cases e653; replace hx653_0 := (HB.out.cell (World.block_lt_of_cell? w _ hx653_0)).trans hx653_0; have HR653_0 := Aside0.mk hi653_0; have HC653_0 := Aside0.mk hl653_0; clear hi653_0 hl653_0; replace p653 := eq_true p653; replace q653 := eq_true q653
        go_wp2_with (first | ((with_reducible refine gate_callee (f := 77) rfl ?_); refine goesL_ (some 20) rfl rfl Try.func77 (by kernel_rfl) rfl #[.slice A653_0 (rd_L2 l0 x4_1).length c653_0] rfl (by (try simp only [List.map_toArray, List.map_cons, List.map_nil]); first | done | rfl) ?_; (with_reducible refine (laws_toIntS.calls k1 _ _ (rd_L2 l0 x4_1) t654 _ ?side1 ?side2 A8.out).mono ?_); (case side1 => exact gE HR653_0 HB); (case side2 => exact HC653_0.out); rintro e w11 ⟨v655, rfl, ho0, hb⟩; refine ⟨_, rfl, ?_⟩; replace HO_3 := Aside0.mk (Kd.S_elder' (gS HO_3) (Kd.R_base ho0) hb); have HO656 := Aside0.mk (Kd.R_lower ho0 (below_size (gB HB))); replace HB := Aside0.mk (below_step (gB HB) hb); (try clear hb); (try clear hb2); (try clear hk); (try clear hi); (try clear ho0); have p10 : 0 ≤ (x4_1 : Int) := of_decide_eq_true (by first | (with_reducible assumption) | assumption); have q10 : (x4_1 : Int) < ((x3_1.length : Int) : Int) := of_decide_eq_true (by first | (with_reducible assumption) | assumption); obtain ⟨go10, co10, eo10, gb10, gl10, cl10, HG10⟩ := Kd.S_form HO_3.out (by omega); (first | cases eo10 | (injection eo10 with ea_ en_ ec_; (first | subst ea_ | (injection ea_ with ea_; subst ea_)); subst ec_; clear en_)); have GB10 := Aside0.mk gb10; have GG10 := Aside0.mk HG10; clear gb10 gl10 HG10; obtain ⟨_, ce10, hcl10, hM10, hcc10, hfr10, _, _⟩ := Kd.S_elem HO_3.out [] (x4_1 : Int) p10 q10; obtain ⟨ve10_0, rfl, ge10_0⟩ := hM10; have hx10_0 := hcc10 0 _ rfl; have hf10_0 := hfr10 0; (try simp only [show ((Kd.slice 3 (Kd.int .i64))).sz = 1 from rfl, Nat.mul_one, Nat.add_zero] at hx10_0); (try simp only [show ((Kd.slice 3 (Kd.int .i64))).sz = 1 from rfl, Nat.mul_one, Nat.add_zero] at hf10_0); (try clear hcl10); (try clear hcc10); (try clear hfr10); (try clear hM10); replace p10 := eq_true p10; replace q10 := eq_true q10; have n_ := Aside0.mk (Kd.S_mono (ok' := (fun k_ => some k_ ≠ (v655 : Value).ownBlock)) HO_3.out (fun k_ hk => hk.2)); clear HO_3; have HO_3 := n_; clear n_; have HX12 := Aside0.mk (show Kd.S (Kd.slice 3 (Kd.int .i64)) 26 w11 w.heap.size (fun k_ => ((fun _ => True)) k_ ∧ ¬ ((fun k_ => some k_ = (v655 : Value).ownBlock)) k_) (.slice (some ⟨go10, 0, none⟩) x3_1.length co10) x3_1 from (by (with_reducible repeat (first | apply Kd.S_alloc | apply Kd.S_drewN | apply Kd.S_drew)); exact Kd.S_mono HO_3.out (fun k_ hk => ⟨trivial, fun e_ => hk e_⟩))); obtain ⟨oki12, ce12, hcl12, hM12, hcc12, hfr12, hoki12, hH12⟩ := Kd.S_elem HX12.out [] (x4_1 : Int) (of_decide_eq_true (by first | (with_reducible assumption) | assumption)) (by have h_ : (x4_1 : Int) < ((x3_1.length : Int) : Int) := of_decide_eq_true (by first | (with_reducible assumption) | assumption); first | exact h_ | (have e_ := (Kd.S_reads' HO_3.out).1; omega) | simpa using h_); obtain ⟨ve12_0, rfl, ge12_0⟩ := hM12; have HP12 := Kd.S_seg hH12 (of_decide_eq_true (by first | (with_reducible assumption) | assumption)) (by have h_ : (x4_1 : Int) < ((x3_1.length : Int) : Int) := of_decide_eq_true (by first | (with_reducible assumption) | assumption); first | exact h_ | (have e_ := (Kd.S_reads' HO_3.out).1; omega) | simpa using h_) (seg := [v655]) (j := 0) (show 1 ≤ 1 from by decide) (x' := t654) (Kd.M_row (Kd.R_mono (Kd.R_tight rfl (Kd.R_mono (ok' := fun k_ => ((fun _ => True)) k_ ∧ k_ ≠ go10) (Kd.R_apart' (HO656.out) (Kd.S_typed HO_3.out) (by decide)) (fun k_ hk => ⟨trivial, fun e_ => (hk.2) (by rw [e_]; rfl)⟩))) (fun _ h_ => Or.inr (h_)))) (fun _ hk => hk) (fun k_ hk_ => ((Kd.R_mono (ok' := fun k_ => ((fun _ => True)) k_ ∧ k_ ≠ go10) (Kd.R_apart' (HO656.out) (Kd.S_typed HO_3.out) (by decide)) (fun k_ hk => ⟨trivial, fun e_ => (hk.2) (by rw [e_]; rfl)⟩))).1 k_ hk_.symm); have hx12_0 := hcc12 0 _ rfl; (try simp only [show ((Kd.slice 3 (Kd.int .i64))).sz = 1 from rfl, Nat.mul_one, Nat.add_zero] at hx12_0); have hf12_0 := hfr12 0; (try simp only [show ((Kd.slice 3 (Kd.int .i64))).sz = 1 from rfl, Nat.mul_one, Nat.add_zero] at hf12_0); (try clear hcl12); (try clear hcc12); (try clear hfr12); (try clear hM12); (try clear hoki12); (try clear hH12); (try simp only [show ((Kd.slice 3 (Kd.int .i64))).sz = 1 from rfl, Nat.mul_one, Nat.add_zero] at HP12)) | ((with_reducible refine gate_store (t := 26) (p := 21) rfl ?_); refine store_event (t := 26) (p := 21) (v := ?vo_w13) (w1 := (w11.setCell ⟨go10, (x4_1 : Int).toNat, none⟩ (v655))) ?hg ?ho ?hn ?hr ?_; (case ho => rfl); (case hg => rfl); (case hn => rfl); (case hr => first | (go_simp; done) | (go_simp; rfl) | (obtain ⟨A_, c_, e_⟩ := Kd.R_slice HO656.out; rw [e_]; first | (go_simp; done) | (go_simp; rfl)) | (obtain ⟨A_, c_, e_⟩ := Kd.S_slice HO656.out; rw [e_]; first | (go_simp; done) | (go_simp; rfl))); intro w13 hw; have hg : w11.grownBy w13 (some go10) := (by rw [hw]; exact HP12.2); have hp_ : Kd.S (Kd.slice 3 (Kd.int .i64)) 26 w13 w.heap.size (fun _ => True) (.slice (some ⟨go10, 0, none⟩) x3_1.length co10) y657 := (by rw [hw, Ny657.out]; exact HP12.1); clear HP12; have n0_ := Aside0.mk (hp_); have n1_ := Aside0.mk ((by rw [hw]; exact below_set (HB.out) GB10.out : Below w.heap.size w w13)); clear HO_3; clear HB; clear HO656; have HO_3 := n0_; have HB := n1_; clear n0_ n1_; clear hg hw hp_))
        go_roundg k1
        case measure => have := HK1.out; omega
        case rel => exact ⟨(y657), (wrap64 (x4_1 + 1)), (by first | rfl | (simp; done) | (simp [*]; done)), H', ⟨by have := HK1.out; omega⟩, ⟨gS HO_3⟩, ⟨gB HB⟩⟩
       ·rw [if_neg c9] at H; exact absurd H (by simp)
      ·rw [if_neg c7] at H; exact absurd H (by simp)
     ·rw [if_neg c6] at H; have c6b0 : decide (x4_1 < (l0.length : Int)) = false := decide_eq_false c6; clear c6; obtain rfl := Option.some.inj H; go_wp2
      go_ret
      exact ⟨_, by first | rfl | (simp [errW_none, errW_some] <;> rfl) | (simp [*, errW_none, errW_some] <;> rfl), gS HO_3, gB HB⟩
  ·rw [if_neg c3] at H; exact absurd H (by simp)
 ·rw [if_neg c2] at H; exact absurd H (by simp)
def laws_toRun.f (a0_0 : Int) (a0_1 : Int) : Option (Int × Int) := some (a0_0, a0_1)
set_option maxHeartbeats 8000000 in
set_option maxRecDepth 100000 in
theorem laws_toRun.calls (a0_0 : Int) (a0_1 : Int) (r1 : Int) (r2 : Int) (w : World) (h : laws_toRun.f a0_0 a0_1 = some (r1, r2)) :
    Calls Try.prog 112 #[.agg #[.int .i64 a0_0, .int .i64 a0_1]] w fun e w' => e = .returned (.agg #[.int .i64 r1, .int .i64 r2]) ∧ Below w.heap.size w w' := by
  have hu151 := Try.underlying151
  have hu124 := Try.underlying124
  have HB := Aside0.mk (Below.refl w.heap.size w)
  have H : (some (a0_0, a0_1)) = some (r1, r2) := h
  clear h
  simp only [Option.some.injEq, Prod.mk.injEq] at H
  obtain ⟨rfl, rfl⟩ := H
  go_enter Try.func112, Try.ntmps112
  go_wp2_with (first | ((with_reducible refine gate_dst (N := 1) rfl ?_); refine box_event ?hg (N := 1) ?hd (cs := #[.int .i64 a0_0, .int .i64 a0_1]) (t := 151) ?hr ?_; (case hd => rfl); (case hg => rfl); (case hr => first | (go_simp; done) | (go_simp; rfl)); intro gb658 hg w2 hbox hb; have n0_ := Aside0.mk (below_step (by repeat (first | (with_reducible first | exact HB.out | apply below_alloc | apply pw_below_drewN | apply below_drew1) | exact HB.out)) hb); have n1_ := Aside0.mk (hbox); have n2_ := Aside0.mk ((by rw [hg]; exact (below_size (by repeat (first | (with_reducible first | exact HB.out | apply below_alloc | apply pw_below_drewN | apply below_drew1) | exact HB.out))) : w.heap.size ≤ gb658)); have n3_ := Aside0.mk ((by rw [hg]; exact (below_size (by repeat (first | (with_reducible first | exact HB.out | apply below_alloc | apply pw_below_drewN | apply below_drew1) | exact HB.out))) : w.heap.size ≤ gb658)); clear HB; have HB := n0_; have BK658 := n1_; have GW658 := n2_; have GE658 := n3_; clear n0_ n1_ n2_ n3_; clear hb hbox hg) | ((with_reducible refine gate_dst (N := 2) rfl ?_); refine box_event ?hg (N := 2) ?hd (cs := #[.int .i64 0, .int .i64 0]) (t := 124) ?hr ?_; (case hd => rfl); (case hg => rfl); (case hr => first | (go_simp; done) | (go_simp; rfl)); intro gb659 hg w3 hbox hb; have n0_ := Aside0.mk (blk_below (g := gb658) (o := .cells #[.int .i64 a0_0, .int .i64 a0_1] 151 (0, 0)) (by (with_reducible repeat (first | refine blk_drewN ?_ _ | refine blk_drew ?_ | refine blk_alloc ?_ _)); exact BK658.out) hb); have n1_ := Aside0.mk (below_step (by repeat (first | (with_reducible first | exact HB.out | apply below_alloc | apply pw_below_drewN | apply below_drew1 | refine below_set ?_ GE658.out) | exact HB.out)) hb); have n2_ := Aside0.mk (hbox); have n3_ := Aside0.mk ((by rw [hg]; exact (below_size (by repeat (first | (with_reducible first | exact HB.out | apply below_alloc | apply pw_below_drewN | apply below_drew1 | refine below_set ?_ GE658.out) | exact HB.out))) : w.heap.size ≤ gb659)); have n4_ := Aside0.mk ((by rw [hg]; exact (below_size (by repeat (first | (with_reducible first | exact HB.out | apply below_alloc | apply pw_below_drewN | apply below_drew1 | refine below_set ?_ GE658.out) | exact HB.out))) : w.heap.size ≤ gb659)); have n5_ := Aside0.mk ((by rw [hg]; exact Nat.ne_of_lt (blk_lt (g := gb658) (o := .cells #[.int .i64 a0_0, .int .i64 a0_1] 151 (0, 0)) (by (with_reducible repeat (first | refine blk_drewN ?_ _ | refine blk_drew ?_ | refine blk_alloc ?_ _)); exact BK658.out)) : gb658 ≠ gb659)); have n6_ := Aside0.mk ((by rw [hg]; exact Nat.ne_of_gt (blk_lt (g := gb658) (o := .cells #[.int .i64 a0_0, .int .i64 a0_1] 151 (0, 0)) (by (with_reducible repeat (first | refine blk_drewN ?_ _ | refine blk_drew ?_ | refine blk_alloc ?_ _)); exact BK658.out)) : gb659 ≠ gb658)); clear BK658; clear HB; have BK658 := n0_; have HB := n1_; have BK659 := n2_; have GW659 := n3_; have GE659 := n4_; have NB658_659 := n5_; have NB659_658 := n6_; clear n0_ n1_ n2_ n3_ n4_ n5_ n6_; clear hb hbox hg) | ((with_reducible refine gate_dst (N := 3) rfl ?_); refine box_event ?hg (N := 3) ?hd (cs := #[.int .i64 0, .int .i64 0]) (t := 124) ?hr ?_; (case hd => rfl); (case hg => rfl); (case hr => first | (go_simp; done) | (go_simp; rfl)); intro gb660 hg w4 hbox hb; have n0_ := Aside0.mk (blk_below (g := gb658) (o := .cells #[.int .i64 a0_0, .int .i64 a0_1] 151 (0, 0)) (by (with_reducible repeat (first | refine blk_drewN ?_ _ | refine blk_drew ?_ | refine blk_alloc ?_ _)); exact BK658.out) hb); have n1_ := Aside0.mk (blk_below (g := gb659) (o := .cells #[.int .i64 0, .int .i64 0] 124 (0, 0)) (by (with_reducible repeat (first | refine blk_drewN ?_ _ | refine blk_drew ?_ | refine blk_alloc ?_ _)); exact BK659.out) hb); have n2_ := Aside0.mk (below_step (by repeat (first | (with_reducible first | exact HB.out | apply below_alloc | apply pw_below_drewN | apply below_drew1 | refine below_set ?_ GE658.out | refine below_set ?_ GE659.out) | exact HB.out)) hb); have n3_ := Aside0.mk (hbox); have n4_ := Aside0.mk ((by rw [hg]; exact (below_size (by repeat (first | (with_reducible first | exact HB.out | apply below_alloc | apply pw_below_drewN | apply below_drew1 | refine below_set ?_ GE658.out | refine below_set ?_ GE659.out) | exact HB.out))) : w.heap.size ≤ gb660)); have n5_ := Aside0.mk ((by rw [hg]; exact (below_size (by repeat (first | (with_reducible first | exact HB.out | apply below_alloc | apply pw_below_drewN | apply below_drew1 | refine below_set ?_ GE658.out | refine below_set ?_ GE659.out) | exact HB.out))) : w.heap.size ≤ gb660)); have n6_ := Aside0.mk ((by rw [hg]; exact Nat.ne_of_lt (blk_lt (g := gb658) (o := .cells #[.int .i64 a0_0, .int .i64 a0_1] 151 (0, 0)) (by (with_reducible repeat (first | refine blk_drewN ?_ _ | refine blk_drew ?_ | refine blk_alloc ?_ _)); exact BK658.out)) : gb658 ≠ gb660)); have n7_ := Aside0.mk ((by rw [hg]; exact Nat.ne_of_gt (blk_lt (g := gb658) (o := .cells #[.int .i64 a0_0, .int .i64 a0_1] 151 (0, 0)) (by (with_reducible repeat (first | refine blk_drewN ?_ _ | refine blk_drew ?_ | refine blk_alloc ?_ _)); exact BK658.out)) : gb660 ≠ gb658)); have n8_ := Aside0.mk ((by rw [hg]; exact Nat.ne_of_lt (blk_lt (g := gb659) (o := .cells #[.int .i64 0, .int .i64 0] 124 (0, 0)) (by (with_reducible repeat (first | refine blk_drewN ?_ _ | refine blk_drew ?_ | refine blk_alloc ?_ _)); exact BK659.out)) : gb659 ≠ gb660)); have n9_ := Aside0.mk ((by rw [hg]; exact Nat.ne_of_gt (blk_lt (g := gb659) (o := .cells #[.int .i64 0, .int .i64 0] 124 (0, 0)) (by (with_reducible repeat (first | refine blk_drewN ?_ _ | refine blk_drew ?_ | refine blk_alloc ?_ _)); exact BK659.out)) : gb660 ≠ gb659)); clear BK658; clear BK659; clear HB; have BK658 := n0_; have BK659 := n1_; have HB := n2_; have BK660 := n3_; have GW660 := n4_; have GE660 := n5_; have NB658_660 := n6_; have NB660_658 := n7_; have NB659_660 := n8_; have NB660_659 := n9_; clear n0_ n1_ n2_ n3_ n4_ n5_ n6_ n7_ n8_ n9_; clear hb hbox hg; have hnb5 := NB658_659.out; have hnc5 := NB659_658.out; have hnb6 := NB658_660.out; have hnc6 := NB660_658.out; have hcz7_0 : w4.cell? ⟨gb658, 0, none⟩ = some (.int .i64 a0_0) := (blk_cell BK658.out 0).trans rfl; have hcz7_1 : w4.cell? ⟨gb658, 1, none⟩ = some (.int .i64 a0_1) := (blk_cell BK658.out 1).trans rfl; have hfz7_0 := blk_frozen BK658.out 0; have hfz7_1 := blk_frozen BK658.out 1; have hnb8 := NB660_659.out; have hnc8 := NB659_660.out; have hcz9_0 : w4.cell? ⟨gb660, 0, none⟩ = some (.int .i64 0) := (blk_cell BK660.out 0).trans rfl; have hcz9_1 : w4.cell? ⟨gb660, 1, none⟩ = some (.int .i64 0) := (blk_cell BK660.out 1).trans rfl; have hfz9_0 := blk_frozen BK660.out 0; have hfz9_1 := blk_frozen BK660.out 1; have hcz10_0 : w4.cell? ⟨gb659, 0, none⟩ = some (.int .i64 0) := (blk_cell BK659.out 0).trans rfl; have hcz10_1 : w4.cell? ⟨gb659, 1, none⟩ = some (.int .i64 0) := (blk_cell BK659.out 1).trans rfl; have hfz10_0 := blk_frozen BK659.out 0; have hfz10_1 := blk_frozen BK659.out 1))
  refine bodyPost_ret (results_cell_row rfl _ _ gb659 124 #[.int .i64 a0_0, .int .i64 a0_1] (0, 0) _ rfl (by (with_reducible repeat (first | refine blk_drewN ?_ _ | refine blk_drew ?_ | refine blk_alloc ?_ _)); refine blk_put (cs := #[.int .i64 a0_0, .int .i64 0]) ?_ 1 _ rfl; (with_reducible repeat (first | refine blk_drewN ?_ _ | refine blk_drew ?_ | refine blk_alloc ?_ _)); refine blk_put (cs := #[.int .i64 0, .int .i64 0]) ?_ 0 _ rfl; (with_reducible repeat (first | refine blk_drewN ?_ _ | refine blk_drew ?_ | refine blk_alloc ?_ _)); refine blk_far ?_ NB659_660.out _; (with_reducible repeat (first | refine blk_drewN ?_ _ | refine blk_drew ?_ | refine blk_alloc ?_ _)); refine blk_far ?_ NB659_660.out _; (with_reducible repeat (first | refine blk_drewN ?_ _ | refine blk_drew ?_ | refine blk_alloc ?_ _)); exact BK659.out) Try.underlying124 rfl (by kernel_rfl)) rfl ?_
  exact ⟨by first | rfl | (simp [errW_none, errW_some] <;> rfl) | (simp [*, errW_none, errW_some] <;> rfl), by repeat (first | (with_reducible first | exact HB.out | apply below_alloc | apply pw_below_drewN | apply below_drew1 | refine below_set ?_ GE658.out | refine below_set ?_ GE659.out | refine below_set ?_ GE660.out) | exact HB.out)⟩
def laws_toRunS.l0 : Nat → List (S151) → List (S124) → Int → Option ((List (S124)))
 | 0, _, _, _ => none
 | k + 1, x0, x3, x4 => if x4 < (x0.length : Int) then (if 0 ≤ x4 then ((laws_toRun.f ((rd_T151 x0 x4).f0) ((rd_T151 x0 x4).f1)).bind fun bt665 => (if x4 < (x3.length : Int) then (laws_toRunS.l0 k x0 (x3.set (x4 : Int).toNat (⟨bt665.1, bt665.2⟩ : S124)) (wrap64 (x4 + 1))) else (none))) else (none)) else (some x3)
def laws_toRunS.f (k : Nat) (l0 : List (S151)) : Option ((List (S124))) := if 0 ≤ (l0.length : Int) then (if ((l0.length : Int) : Int).toNat ≤ 17592186044416 then (laws_toRunS.l0 k l0 (List.replicate ((l0.length : Int) : Int).toNat z124) 0) else (none)) else (none)
theorem laws_toRunS.mono_l : ∀ k, (∀ y0 y1 y2, LeO (laws_toRunS.l0 k y0 y1 y2) (laws_toRunS.l0 (k + 1) y0 y1 y2))
 | 0 => fun _ _ _ r h => by simp [laws_toRunS.l0] at h
 | k + 1 => by
  have ih0 := laws_toRunS.mono_l k
  ·intro y0 y1 y2; unfold laws_toRunS.l0
   repeat' first
   | (with_reducible exact ih0 _ _ _)
   | (with_reducible exact LeO.refl _)
   | (with_reducible exact LeO.none _)
   | (with_reducible refine LeO.ite ?_ ?_)
   | (with_reducible refine LeO.bind ?_ (fun _ => ?_))
   | exact ih0 _ _ _
   | exact LeO.none _
   | refine LeO.ite ?_ ?_
   | refine LeO.bind ?_ (fun _ => ?_)
theorem laws_toRunS.mono : ∀ a0 k, LeO (laws_toRunS.f k a0) (laws_toRunS.f (k + 1) a0) := by
 intro a0 k; have ih0 := laws_toRunS.mono_l k; unfold laws_toRunS.f
 repeat' first
   | (with_reducible exact ih0 _ _ _)
   | (with_reducible exact LeO.refl _)
   | (with_reducible exact LeO.none _)
   | (with_reducible refine LeO.ite ?_ ?_)
   | (with_reducible refine LeO.bind ?_ (fun _ => ?_))
   | exact ih0 _ _ _
   | exact LeO.none _
   | refine LeO.ite ?_ ?_
   | refine LeO.bind ?_ (fun _ => ?_)
set_option maxHeartbeats 8000000 in
set_option maxRecDepth 100000 in
theorem laws_toRunS.calls (k : Nat) (A0 : Option Addr) (c0 : Nat) (l0 : List (S151)) (r : List (S124)) (w : World) (hr0 : Kd.C k151 w A0 l0.length l0) (hc0 : l0.length ≤ c0) (h : laws_toRunS.f k l0 = some r) :
  Calls Try.prog 78 #[.slice A0 l0.length c0] w fun e w' => ∃ v0_ : Value, e = .returned (v0_) ∧ Kd.R k124 124 w' w.heap.size (fun _ => True) v0_ r ∧ Below w.heap.size w w' := by
 have hu151 := Try.underlying151; have hu124 := Try.underlying124; have HR0 := Aside0.mk hr0; have HC0 := Aside0.mk hc0; clear hr0 hc0; have HB := Aside0.mk (Below.refl w.heap.size w); have H : (if 0 ≤ (l0.length : Int) then (if ((l0.length : Int) : Int).toNat ≤ 17592186044416 then (laws_toRunS.l0 k l0 (List.replicate ((l0.length : Int) : Int).toNat z124) 0) else (none)) else (none)) = some r := h; clear h
 by_cases c2 : 0 ≤ (l0.length : Int)
 ·rw [if_pos c2] at H; have c2b0 := eq_true c2; have c2b1 : decide (0 ≤ (l0.length : Int)) = true := decide_eq_true c2; clear c2
  by_cases c3 : ((l0.length : Int) : Int).toNat ≤ 17592186044416
  ·rw [if_pos c3] at H; have c3b0 := eq_true c3; have c3b1 : decide (((l0.length : Int) : Int).toNat ≤ 17592186044416) = true := decide_eq_true c3; clear c3
   obtain ⟨y661, hy661⟩ : ∃ y_ : List (S124), y_ = (List.replicate ((l0.length : Int) : Int).toNat z124) := ⟨_, rfl⟩
   replace H : (laws_toRunS.l0 k l0 y661 0) = some r := by first | (rw [hy661]; with_reducible exact H) | (have H2_ := (Option.bind_some _ _).symm.trans H; rw [hy661]; with_reducible exact H2_) | (have H2_ := (Option.bind_some _ _).symm.trans H; with_reducible exact H2_) | with_reducible exact H | (rw [hy661]; exact H) | exact H
   have Ny661 := Aside0.mk hy661; clear hy661; have H' := Aside0.mk H; clear H
   go_enter Try.func78, Try.ntmps78
   go_wp2_with (first | ((with_reducible refine gate_dst (N := 7) rfl ?_); refine Kd.R_make k124 _ 124 rfl (N := 7) rfl 35 _ _ rfl (l0.length : Int) rfl rfl Try.underlying35 (.agg #[(.int .i64 0), (.int .i64 0)]) 16 info124 rfl (by decide) (by omega) z124 (ok := fun _ => True) (okp := fun _ => True) (k124_mkM _ _ _ z124 ) (fun _ hk => hk) trivial (of_decide_eq_true (by first | (with_reducible assumption) | assumption)) (Nat.le_trans (Nat.mul_le_mul_right _ (of_decide_eq_true (by first | (with_reducible assumption) | assumption) : (l0.length : Int).toNat ≤ 17592186044416)) (by omega)) (Below.refl _ _) (Nat.le_refl _) ?_; intro v662 w4 ho5 hb hg_ hnew_; clear hg_ hnew_; (first | rw [← Ny661.out] at ho5 | (simp only [Int.reduceToNat] at ho5; rw [← Ny661.out] at ho5)); have HO663 := Aside0.mk (Kd.R_lower ho5 (below_size (gB HB))); replace HB := Aside0.mk (below_step (gB HB) hb); clear hb ho5))
   go_loopg [4] k (fun kq v4 w' => ∃ (x3_1 : List (S124)) (x4_1 : Int), v4 = .int .i64 x4_1 ∧ Aside0 (laws_toRunS.l0 kq l0 x3_1 x4_1 = some r) ∧ Aside0 (kq ≤ k) ∧ Aside0 (Kd.R k124 124 w' w.heap.size (fun _ => True) v662 x3_1) ∧ Aside0 (Below w.heap.size w w'))
   case atStart => exact ⟨(y661), (0), (by first | rfl | (simp; done) | (simp [*]; done)), H', ⟨Nat.le_refl _⟩, ⟨gR HO663⟩, ⟨gB HB⟩⟩
   case round =>
    clear H'; try clear c2
    try clear c2b0
    try clear c2b1
    try clear p2
    try clear c3
    try clear c3b0
    try clear c3b1
    obtain ⟨x3_1, x4_1, rfl, HA, HK1, HO_3, HB⟩ := hrel
    cases gk with
    | zero => exact absurd HA.out (by simp [laws_toRunS.l0])
    | succ k1 =>
     have H := HA.out; clear HA; simp only [laws_toRunS.l0] at H
     by_cases c6 : x4_1 < (l0.length : Int)
     ·rw [if_pos c6] at H; have c6b0 : decide (x4_1 < (l0.length : Int)) = true := decide_eq_true c6; clear c6
      by_cases c7 : 0 ≤ x4_1
      ·rw [if_pos c7] at H; have c7b0 : decide (0 ≤ x4_1) = true := decide_eq_true c7; clear c7; replace H := Option.bind_eq_some_iff.mp H; obtain ⟨⟨t665, t666⟩, A80, H⟩ := H; replace H : (if x4_1 < (x3_1.length : Int) then (laws_toRunS.l0 k1 l0 (x3_1.set (x4_1 : Int).toNat (⟨t665, t666⟩ : S124)) (wrap64 (x4_1 + 1))) else (none)) = some r := H; have A8 := Aside0.mk A80; clear A80
       by_cases c9 : x4_1 < (x3_1.length : Int)
       ·rw [if_pos c9] at H; have c9b0 : decide (x4_1 < (x3_1.length : Int)) = true := decide_eq_true c9; clear c9
        obtain ⟨y667, hy667⟩ : ∃ y_ : List (S124), y_ = (x3_1.set (x4_1 : Int).toNat (⟨t665, t666⟩ : S124)) := ⟨_, rfl⟩
        replace H : (laws_toRunS.l0 k1 l0 y667 (wrap64 (x4_1 + 1))) = some r := by first | (rw [hy667]; with_reducible exact H) | (have H2_ := (Option.bind_some _ _).symm.trans H; rw [hy667]; with_reducible exact H2_) | (have H2_ := (Option.bind_some _ _).symm.trans H; with_reducible exact H2_) | with_reducible exact H | (rw [hy667]; exact H) | exact H
        have Ny667 := Aside0.mk hy667; clear hy667; have H' := Aside0.mk H; clear H; have p664 : 0 ≤ (x4_1 : Int) := of_decide_eq_true (by first | (with_reducible assumption) | assumption); have q664 : x4_1 < (l0.length : Int) := of_decide_eq_true (by first | (with_reducible assumption) | assumption); obtain ⟨ad664, e664, hx664_0, hx664_1⟩ := at_T151 HR0.out x4_1 p664 q664
        cases e664; replace hx664_0 := (HB.out.cell (World.block_lt_of_cell? w _ hx664_0)).trans hx664_0; replace hx664_1 := (HB.out.cell (World.block_lt_of_cell? w _ hx664_1)).trans hx664_1; replace p664 := eq_true p664; replace q664 := eq_true q664
        go_wp2_with (first | ((with_reducible refine gate_callee (f := 112) rfl ?_); refine goesL_ (some 20) rfl rfl Try.func112 (by kernel_rfl) rfl #[.agg #[.int .i64 ((rd_T151 l0 x4_1).f0), .int .i64 ((rd_T151 l0 x4_1).f1)]] rfl (by (try simp only [List.map_toArray, List.map_cons, List.map_nil]); first | done | rfl) ?_; (with_reducible refine (laws_toRun.calls ((rd_T151 l0 x4_1).f0) ((rd_T151 l0 x4_1).f1) t665 t666 _ A8.out).mono ?_); rintro e w11 ⟨rfl, hb⟩; refine ⟨_, rfl, ?_⟩; replace HO_3 := Aside0.mk (Kd.R_below (gR HO_3) hb); replace HB := Aside0.mk (below_step (gB HB) hb); (try clear hb); (try clear hb2); (try clear hk); (try clear hi); have p10 : 0 ≤ (x4_1 : Int) := of_decide_eq_true (by first | (with_reducible assumption) | assumption); have q10 : (x4_1 : Int) < ((x3_1.length : Int) : Int) := of_decide_eq_true (by first | (with_reducible assumption) | assumption); obtain ⟨go10, co10, eo10, gb10, gl10, cl10, HG10⟩ := Kd.R_form HO_3.out (by omega); (first | cases eo10 | (injection eo10 with ea_ en_ ec_; (first | subst ea_ | (injection ea_ with ea_; subst ea_)); subst ec_; clear en_)); have GB10 := Aside0.mk gb10; have GG10 := Aside0.mk HG10; clear gb10 gl10 HG10; obtain ⟨ce10, hcl10, hM10, hcc10, hfr10⟩ := Kd.R_elem HO_3.out z124 (x4_1 : Int) p10 q10; obtain rfl := k124_openM hM10; have hx10_0 : w11.cell? ⟨go10, (x4_1 : Int).toNat * 2, none⟩ = some (.int .i64 ((rd_T124 x3_1 x4_1).f0)) := hcc10 0 _ rfl; have hx10_1 : w11.cell? ⟨go10, (x4_1 : Int).toNat * 2 + 1, none⟩ = some (.int .i64 ((rd_T124 x3_1 x4_1).f1)) := hcc10 1 _ rfl; have hf10_0 : w11.frozen? ⟨go10, (x4_1 : Int).toNat * 2, none⟩ = false := hfr10 0; have hf10_1 : w11.frozen? ⟨go10, (x4_1 : Int).toNat * 2 + 1, none⟩ = false := hfr10 1; (try clear hcl10); (try clear hcc10); (try clear hfr10); (try clear hM10); replace p10 := eq_true p10; replace q10 := eq_true q10; have HX12 := Aside0.mk (show Kd.R k124 124 w11 w.heap.size (fun _ => True) (.slice (some ⟨go10, 0, none⟩) x3_1.length co10) x3_1 from (gR HO_3)); obtain ⟨ce12, hcl12, hM12, hcc12, hfr12⟩ := Kd.R_elem HX12.out z124 (x4_1 : Int) (of_decide_eq_true (by first | (with_reducible assumption) | assumption)) (by have h_ : (x4_1 : Int) < ((x3_1.length : Int) : Int) := of_decide_eq_true (by first | (with_reducible assumption) | assumption); first | exact h_ | (have e_ := (Kd.R_reads' HO_3.out).1; omega) | simpa using h_); obtain rfl := k124_openM hM12; have HP12 := Kd.R_seg HX12.out (x4_1 : Int) (of_decide_eq_true (by first | (with_reducible assumption) | assumption)) (by have h_ : (x4_1 : Int) < ((x3_1.length : Int) : Int) := of_decide_eq_true (by first | (with_reducible assumption) | assumption); first | exact h_ | (have e_ := (Kd.R_reads' HO_3.out).1; omega) | simpa using h_) (seg := [.int .i64 t665, .int .i64 t666]) (j := 0) hcl12 hcc12 (show 2 ≤ 2 from by decide) (x' := (⟨t665, t666⟩ : S124)) (k124_mkM _ _ _ (⟨t665, t666⟩ : S124) ) (fun _ hk => hk); have hx12_0 := hcc12 0 _ rfl; (try simp only [show (k124).sz = 2 from rfl, Nat.mul_one, Nat.add_zero] at hx12_0); have hf12_0 := hfr12 0; (try simp only [show (k124).sz = 2 from rfl, Nat.mul_one, Nat.add_zero] at hf12_0); have hx12_1 := hcc12 1 _ rfl; (try simp only [show (k124).sz = 2 from rfl, Nat.mul_one, Nat.add_zero] at hx12_1); have hf12_1 := hfr12 1; (try simp only [show (k124).sz = 2 from rfl, Nat.mul_one, Nat.add_zero] at hf12_1); (try clear hcl12); (try clear hcc12); (try clear hfr12); (try clear hM12)) | ((with_reducible refine gate_store (t := 124) (p := 21) rfl ?_); refine store_event (t := 124) (p := 21) (v := ?vo_w13) (w1 := ((w11.setCell ⟨go10, (x4_1 : Int).toNat * 2, none⟩ (.int .i64 t665)).setCell ⟨go10, (x4_1 : Int).toNat * 2 + 1, none⟩ (.int .i64 t666))) ?hg ?ho ?hn ?hr ?_; (case ho => rfl); (case hg => rfl); (case hn => rfl); (case hr => first | (go_simp; done) | (go_simp; rfl)); intro w13 hw; have hg : w11.grownBy w13 (some go10) := (by rw [hw]; exact HP12.2); have hp_ : Kd.R k124 124 w13 w.heap.size (fun _ => True) (.slice (some ⟨go10, 0, none⟩) x3_1.length co10) y667 := (by rw [hw, Ny667.out]; exact HP12.1); clear HP12; replace HO_3 := Aside0.mk (hp_); replace HB := Aside0.mk ((by rw [hw]; exact below_set (below_set (HB.out) GB10.out) GB10.out : Below w.heap.size w w13)); clear hg hw hp_))
        go_roundg k1
        case measure => have := HK1.out; omega
        case rel => exact ⟨(y667), (wrap64 (x4_1 + 1)), (by first | rfl | (simp; done) | (simp [*]; done)), H', ⟨by have := HK1.out; omega⟩, ⟨gR HO_3⟩, ⟨gB HB⟩⟩
       ·rw [if_neg c9] at H; exact absurd H (by simp)
      ·rw [if_neg c7] at H; exact absurd H (by simp)
     ·rw [if_neg c6] at H; have c6b0 : decide (x4_1 < (l0.length : Int)) = false := decide_eq_false c6; clear c6; obtain rfl := Option.some.inj H; go_wp2
      go_ret
      exact ⟨_, by first | rfl | (simp [errW_none, errW_some] <;> rfl) | (simp [*, errW_none, errW_some] <;> rfl), gR HO_3, gB HB⟩
  ·rw [if_neg c3] at H; exact absurd H (by simp)
 ·rw [if_neg c2] at H; exact absurd H (by simp)
def laws_toBoolS.l0 : Nat → List Bool → List Bool → Int → Option (List Bool)
  | 0, _, _, _ => none
  | k + 1, x0, x3, x4 => if x4 < (x0.length : Int) then (if 0 ≤ x4 then (if x4 < (x3.length : Int) then (laws_toBoolS.l0 k x0 (x3.set (x4 : Int).toNat (rdOf false x0 x4)) (wrap64 (x4 + 1))) else (none)) else (none)) else (some x3)
def laws_toBoolS.f (k : Nat) (l0 : List Bool) : Option (List Bool) := if 0 ≤ (l0.length : Int) then (if ((l0.length : Int) : Int).toNat ≤ 281474976710656 then (laws_toBoolS.l0 k l0 (List.replicate ((l0.length : Int) : Int).toNat false) 0) else (none)) else (none)
theorem laws_toBoolS.mono_l : ∀ k, (∀ y0 y1 y2, LeO (laws_toBoolS.l0 k y0 y1 y2) (laws_toBoolS.l0 (k + 1) y0 y1 y2))
  | 0 => fun _ _ _ r h => by simp [laws_toBoolS.l0] at h
  | k + 1 => by
    have ih0 := laws_toBoolS.mono_l k
    · intro y0 y1 y2
      unfold laws_toBoolS.l0
      repeat' first
      | (with_reducible exact ih0 _ _ _)
      | (with_reducible exact LeO.refl _)
      | (with_reducible exact LeO.none _)
      | (with_reducible refine LeO.ite ?_ ?_)
      | (with_reducible refine LeO.bind ?_ (fun _ => ?_))
      | exact ih0 _ _ _
      | exact LeO.none _
      | refine LeO.ite ?_ ?_
      | refine LeO.bind ?_ (fun _ => ?_)
theorem laws_toBoolS.mono : ∀ a0 k, LeO (laws_toBoolS.f k a0) (laws_toBoolS.f (k + 1) a0) := by
  intro a0 k
  have ih0 := laws_toBoolS.mono_l k
  unfold laws_toBoolS.f
  repeat' first
      | (with_reducible exact ih0 _ _ _)
      | (with_reducible exact LeO.refl _)
      | (with_reducible exact LeO.none _)
      | (with_reducible refine LeO.ite ?_ ?_)
      | (with_reducible refine LeO.bind ?_ (fun _ => ?_))
      | exact ih0 _ _ _
      | exact LeO.none _
      | refine LeO.ite ?_ ?_
      | refine LeO.bind ?_ (fun _ => ?_)
set_option maxHeartbeats 8000000 in
set_option maxRecDepth 100000 in
theorem laws_toBoolS.calls (k : Nat) (A0 : Option Addr) (c0 : Nat) (l0 : List Bool) (r : List Bool) (w : World) (hr0 : Kd.C Kd.bool w A0 l0.length l0) (hc0 : l0.length ≤ c0) (h : laws_toBoolS.f k l0 = some r) :
    Calls Try.prog 147 #[.slice A0 l0.length c0] w fun e w' => ∃ v0_ : Value, e = .returned (v0_) ∧ Kd.R Kd.bool 4 w' w.heap.size (fun _ => True) v0_ r ∧ Below w.heap.size w w' := by
  have HR0 := Aside0.mk hr0
  have HC0 := Aside0.mk hc0
  clear hr0 hc0
  have HB := Aside0.mk (Below.refl w.heap.size w)
  have H : (if 0 ≤ (l0.length : Int) then (if ((l0.length : Int) : Int).toNat ≤ 281474976710656 then (laws_toBoolS.l0 k l0 (List.replicate ((l0.length : Int) : Int).toNat false) 0) else (none)) else (none)) = some r := h
  clear h
  by_cases c2 : 0 ≤ (l0.length : Int)
  · rw [if_pos c2] at H
    have c2b0 := eq_true c2
    have c2b1 : decide (0 ≤ (l0.length : Int)) = true := decide_eq_true c2
    clear c2
    by_cases c3 : ((l0.length : Int) : Int).toNat ≤ 281474976710656
    · rw [if_pos c3] at H
      have c3b0 := eq_true c3
      have c3b1 : decide (((l0.length : Int) : Int).toNat ≤ 281474976710656) = true := decide_eq_true c3
      clear c3
      obtain ⟨y668, hy668⟩ : ∃ y_ : List Bool, y_ = (List.replicate ((l0.length : Int) : Int).toNat false) := ⟨_, rfl⟩
      replace H : (laws_toBoolS.l0 k l0 y668 0) = some r := by first | (rw [hy668]; with_reducible exact H) | (have H2_ := (Option.bind_some _ _).symm.trans H; rw [hy668]; with_reducible exact H2_) | (have H2_ := (Option.bind_some _ _).symm.trans H; with_reducible exact H2_) | with_reducible exact H | (rw [hy668]; exact H) | exact H
      have Ny668 := Aside0.mk hy668
      clear hy668
      have H' := Aside0.mk H
      clear H
      go_enter Try.func147, Try.ntmps147
      go_wp2_with (first | ((with_reducible refine gate_dst (N := 7) rfl ?_); refine Kd.R_make Kd.bool _ 4 rfl (N := 7) rfl 126 _ _ rfl (l0.length : Int) rfl rfl Try.underlying126 (.bool false) 1 info4 rfl (by decide) (by omega) false (ok := fun _ => True) (okp := fun _ => True) rfl (fun _ hk => hk) trivial (of_decide_eq_true (by first | (with_reducible assumption) | assumption)) (Nat.le_trans (Nat.mul_le_mul_right _ (of_decide_eq_true (by first | (with_reducible assumption) | assumption) : (l0.length : Int).toNat ≤ 281474976710656)) (by omega)) (Below.refl _ _) (Nat.le_refl _) ?_; intro v669 w4 ho5 hb hg_ hnew_; clear hg_ hnew_; (first | rw [← Ny668.out] at ho5 | (simp only [Int.reduceToNat] at ho5; rw [← Ny668.out] at ho5)); have n0_ := Aside0.mk (Kd.R_lower ho5 (below_size (by repeat (first | (with_reducible first | exact HB.out | apply below_alloc | apply pw_below_drewN | apply below_drew1) | exact HB.out)))); have n1_ := Aside0.mk (below_step (by repeat (first | (with_reducible first | exact HB.out | apply below_alloc | apply pw_below_drewN | apply below_drew1) | exact HB.out)) hb); clear HB; have HO670 := n0_; have HB := n1_; clear n0_ n1_; clear hb ho5))
      go_loopg [4] k (fun kq v4 w' => ∃ (x3_1 : List Bool) (x4_1 : Int), v4 = .int .i64 x4_1 ∧ Aside0 (laws_toBoolS.l0 kq l0 x3_1 x4_1 = some r) ∧ Aside0 (kq ≤ k) ∧ Aside0 (Kd.R Kd.bool 4 w' w.heap.size (fun _ => True) v669 x3_1) ∧ Aside0 (Below w.heap.size w w'))
      case atStart => exact ⟨(y668), (0), (by first | rfl | (simp; done) | (simp [*]; done)), H', ⟨Nat.le_refl _⟩, ⟨by (with_reducible repeat (first | apply Kd.R_alloc | apply Kd.R_drewN | apply Kd.R_drew)); exact HO670.out⟩, ⟨by repeat (first | (with_reducible first | exact HB.out | apply below_alloc | apply pw_below_drewN | apply below_drew1) | exact HB.out)⟩⟩
      case round =>
        clear H'
        try clear c1
        try clear c2
        try clear c2b0
        try clear c2b1
        try clear p2
        try clear c3
        try clear c3b0
        try clear c3b1
        obtain ⟨x3_1, x4_1, rfl, HA, HK1, HO_3, HB⟩ := hrel
        cases gk with
        | zero => exact absurd HA.out (by simp [laws_toBoolS.l0])
        | succ k1 =>
          have H := HA.out
          clear HA
          simp only [laws_toBoolS.l0] at H
          by_cases c6 : x4_1 < (l0.length : Int)
          · rw [if_pos c6] at H
            have c6b0 : decide (x4_1 < (l0.length : Int)) = true := decide_eq_true c6
            clear c6
            by_cases c7 : 0 ≤ x4_1
            · rw [if_pos c7] at H
              have c7b0 : decide (0 ≤ x4_1) = true := decide_eq_true c7
              clear c7
              by_cases c8 : x4_1 < (x3_1.length : Int)
              · rw [if_pos c8] at H
                have c8b0 : decide (x4_1 < (x3_1.length : Int)) = true := decide_eq_true c8
                clear c8
                obtain ⟨y672, hy672⟩ : ∃ y_ : List Bool, y_ = (x3_1.set (x4_1 : Int).toNat (rdOf false l0 x4_1)) := ⟨_, rfl⟩
                replace H : (laws_toBoolS.l0 k1 l0 y672 (wrap64 (x4_1 + 1))) = some r := by first | (rw [hy672]; with_reducible exact H) | (have H2_ := (Option.bind_some _ _).symm.trans H; rw [hy672]; with_reducible exact H2_) | (have H2_ := (Option.bind_some _ _).symm.trans H; with_reducible exact H2_) | with_reducible exact H | (rw [hy672]; exact H) | exact H
                have Ny672 := Aside0.mk hy672
                clear hy672
                have H' := Aside0.mk H
                clear H
                have p671 : 0 ≤ (x4_1 : Int) := of_decide_eq_true (by first | (with_reducible assumption) | assumption)
                have q671 : x4_1 < (l0.length : Int) := of_decide_eq_true (by first | (with_reducible assumption) | assumption)
                obtain ⟨ad671, e671, hx671_0⟩ := Kd.at_bool HR0.out x4_1 p671 q671
                cases e671
                replace hx671_0 := (HB.out.cell (World.block_lt_of_cell? w _ hx671_0)).trans hx671_0
                replace p671 := eq_true p671
                replace q671 := eq_true q671
                have p9 : 0 ≤ (x4_1 : Int) := of_decide_eq_true (by first | (with_reducible assumption) | assumption)
                have q9 : (x4_1 : Int) < ((x3_1.length : Int) : Int) := of_decide_eq_true (by first | (with_reducible assumption) | assumption)
                obtain ⟨go9, co9, eo9, gb9, gl9, cl9, HG9⟩ := Kd.R_form HO_3.out (by omega)
                (first | cases eo9 | (injection eo9 with ea_ en_ ec_; (first | subst ea_ | (injection ea_ with ea_; subst ea_)); subst ec_; clear en_))
                have GB9 := Aside0.mk gb9
                have GG9 := Aside0.mk HG9
                clear gb9 gl9 HG9
                obtain ⟨hx9_0, hf9_0⟩ := Kd.R_celln false HO_3.out (x4_1 : Int) p9 q9
                replace p9 := eq_true p9
                replace q9 := eq_true q9
                have HP10 := Kd.R_putg HO_3.out (x4_1 : Int) (rdOf false l0 x4_1)
                go_wp2_with (first | ((with_reducible refine gate_store (t := 4) (p := 20) rfl ?_); refine store_event (t := 4) (p := 20) (v := ?vo_w11) (w1 := (wr.setCell ⟨go9, (x4_1 : Int).toNat, none⟩ (.bool (rdOf false l0 x4_1)))) ?hg ?ho ?hn ?hr ?_; (case ho => rfl); (case hg => rfl); (case hn => rfl); (case hr => first | (go_simp; done) | (go_simp; rfl)); intro w11 hw; have hg : wr.grownBy w11 (some go9) := (by rw [hw]; exact HP10.2); have hp_ : Kd.R Kd.bool 4 w11 w.heap.size (fun _ => True) (.slice (some ⟨go9, 0, none⟩) x3_1.length co9) y672 := (by rw [hw, Ny672.out]; exact HP10.1); clear HP10; have n0_ := Aside0.mk (hp_); have n1_ := Aside0.mk ((by rw [hw]; exact below_set (HB.out) GB9.out : Below w.heap.size w w11)); clear HO_3; clear HB; have HO_3 := n0_; have HB := n1_; clear n0_ n1_; clear hg hw hp_))
                go_roundg k1
                case measure => have := HK1.out; omega
                case rel => exact ⟨(y672), (wrap64 (x4_1 + 1)), (by first | rfl | (simp; done) | (simp [*]; done)), H', ⟨by have := HK1.out; omega⟩, ⟨by (with_reducible repeat (first | apply Kd.R_alloc | apply Kd.R_drewN | apply Kd.R_drew)); exact HO_3.out⟩, ⟨by repeat (first | (with_reducible first | exact HB.out | apply below_alloc | apply pw_below_drewN | apply below_drew1) | exact HB.out)⟩⟩
              · rw [if_neg c8] at H
                exact absurd H (by simp)
            · rw [if_neg c7] at H
              exact absurd H (by simp)
          · rw [if_neg c6] at H
            have c6b0 : decide (x4_1 < (l0.length : Int)) = false := decide_eq_false c6
            clear c6
            obtain rfl := Option.some.inj H
            go_wp2
            go_ret
            exact ⟨_, by first | rfl | (simp [errW_none, errW_some] <;> rfl) | (simp [*, errW_none, errW_some] <;> rfl), by (with_reducible repeat (first | apply Kd.R_alloc | apply Kd.R_drewN | apply Kd.R_drew)); exact HO_3.out, by repeat (first | (with_reducible first | exact HB.out | apply below_alloc | apply pw_below_drewN | apply below_drew1) | exact HB.out)⟩
    · rw [if_neg c3] at H
      exact absurd H (by simp)
  · rw [if_neg c2] at H
    exact absurd H (by simp)
def laws_toSlab.f (k : Nat) (a0_0 : Int) (a0_1 : Int) (l0_2 : List Bool) : Option (Int × Int × List Bool) := (laws_toBoolS.f k l0_2).bind fun t676 => (some (a0_0, a0_1, t676))
theorem laws_toSlab.mono : ∀ a0 a1 a2 k, LeO (laws_toSlab.f k a0 a1 a2) (laws_toSlab.f (k + 1) a0 a1 a2) := by
 intro a0 a1 a2 k; unfold laws_toSlab.f
 repeat' first
   | (with_reducible exact laws_toBoolS.mono _ _)
   | (with_reducible exact LeO.refl _)
   | (with_reducible exact LeO.none _)
   | (with_reducible refine LeO.ite ?_ ?_)
   | (with_reducible refine LeO.bind ?_ (fun _ => ?_))
   | exact laws_toBoolS.mono _ _
   | exact LeO.none _
   | refine LeO.ite ?_ ?_
   | refine LeO.bind ?_ (fun _ => ?_)
set_option maxHeartbeats 8000000 in
set_option maxRecDepth 100000 in
theorem laws_toSlab.calls (k : Nat) (a0_0 : Int) (a0_1 : Int) (A0_2 : Option Addr) (c0_2 : Nat) (l0_2 : List Bool) (r1 : Int) (r2 : Int) (r3 : List Bool) (w : World) (hr0_2 : Kd.C Kd.bool w A0_2 l0_2.length l0_2) (hc0_2 : l0_2.length ≤ c0_2) (h : laws_toSlab.f k a0_0 a0_1 l0_2 = some (r1, r2, r3)) :
  Calls Try.prog 113 #[.agg #[.int .i64 a0_0, .int .i64 a0_1, .slice A0_2 l0_2.length c0_2]] w fun e w' => ∃ v2_ : Value, e = .returned (.agg #[.int .i64 r1, .int .i64 r2, v2_]) ∧ Kd.R Kd.bool 4 w' w.heap.size (fun _ => True) v2_ r3 ∧ Below w.heap.size w w' := by
 have hu142 := Try.underlying142; have hu131 := Try.underlying131; have HR0_2 := Aside0.mk hr0_2; have HC0_2 := Aside0.mk hc0_2; clear hr0_2 hc0_2; have HB := Aside0.mk (Below.refl w.heap.size w); have H : ((laws_toBoolS.f k l0_2).bind fun t676 => (some (a0_0, a0_1, t676))) = some (r1, r2, r3) := h; clear h; replace H := Option.bind_eq_some_iff.mp H; obtain ⟨t676, A20, H⟩ := H; replace H : (some (a0_0, a0_1, t676)) = some (r1, r2, r3) := H; have A2 := Aside0.mk A20; clear A20; simp only [Option.some.injEq, Prod.mk.injEq] at H; obtain ⟨rfl, rfl, rfl⟩ := H
 go_enter Try.func113, Try.ntmps113
 go_wp2_with (first | ((with_reducible refine gate_dst (N := 1) rfl ?_); refine box_event ?hg (N := 1) ?hd (cs := #[.int .i64 a0_0, .int .i64 a0_1, .slice A0_2 l0_2.length c0_2]) (t := 142) ?hr ?_; (case hd => rfl); (case hg => rfl); (case hr => first | (go_simp; done) | (go_simp; rfl)); intro gb673 hg w3 hbox hb; have BK673 := Aside0.mk (hbox); have GW673 := Aside0.mk ((by rw [hg]; exact (below_size (gB HB)) : w.heap.size ≤ gb673)); have GE673 := Aside0.mk ((by rw [hg]; exact (below_size (gB HB)) : w.heap.size ≤ gb673)); replace HB := Aside0.mk (below_step (gB HB) hb); clear hb hbox hg) | ((with_reducible refine gate_dst (N := 2) rfl ?_); refine box_event ?hg (N := 2) ?hd (cs := #[.int .i64 0, .int .i64 0, .slice none 0 0]) (t := 131) ?hr ?_; (case hd => rfl); (case hg => rfl); (case hr => first | (go_simp; done) | (go_simp; rfl)); intro gb674 hg w4 hbox hb; have BK674 := Aside0.mk (hbox); have GW674 := Aside0.mk ((by rw [hg]; exact (below_size (gT1 GE673.out HB)) : w.heap.size ≤ gb674)); have GE674 := Aside0.mk ((by rw [hg]; exact (below_size (gT1 GE673.out HB)) : w.heap.size ≤ gb674)); replace HB := Aside0.mk (below_step (gT1 GE673.out HB) hb); have NB673_674 := Aside0.mk ((by rw [hg]; exact Nat.ne_of_lt (blk_lt (g := gb673) (gK BK673)) : gb673 ≠ gb674)); have NB674_673 := Aside0.mk ((by rw [hg]; exact Nat.ne_of_gt (blk_lt (g := gb673) (gK BK673)) : gb674 ≠ gb673)); replace BK673 := Aside0.mk (blk_below (g := gb673) (gK BK673) hb); clear hb hbox hg) | ((with_reducible refine gate_dst (N := 3) rfl ?_); refine box_event ?hg (N := 3) ?hd (cs := #[.int .i64 0, .int .i64 0, .slice none 0 0]) (t := 131) ?hr ?_; (case hd => rfl); (case hg => rfl); (case hr => first | (go_simp; done) | (go_simp; rfl)); intro gb675 hg w5 hbox hb; have BK675 := Aside0.mk (hbox); have GW675 := Aside0.mk ((by rw [hg]; exact (below_size (gT2 GE673.out GE674.out HB)) : w.heap.size ≤ gb675)); have GE675 := Aside0.mk ((by rw [hg]; exact (below_size (gT2 GE673.out GE674.out HB)) : w.heap.size ≤ gb675)); replace HB := Aside0.mk (below_step (gT2 GE673.out GE674.out HB) hb); have NB673_675 := Aside0.mk ((by rw [hg]; exact Nat.ne_of_lt (blk_lt (g := gb673) (gK BK673)) : gb673 ≠ gb675)); have NB675_673 := Aside0.mk ((by rw [hg]; exact Nat.ne_of_gt (blk_lt (g := gb673) (gK BK673)) : gb675 ≠ gb673)); replace BK673 := Aside0.mk (blk_below (g := gb673) (gK BK673) hb); have NB674_675 := Aside0.mk ((by rw [hg]; exact Nat.ne_of_lt (blk_lt (g := gb674) (gK BK674)) : gb674 ≠ gb675)); have NB675_674 := Aside0.mk ((by rw [hg]; exact Nat.ne_of_gt (blk_lt (g := gb674) (gK BK674)) : gb675 ≠ gb674)); replace BK674 := Aside0.mk (blk_below (g := gb674) (gK BK674) hb); clear hb hbox hg; have hnb6 := NB673_674.out; have hnc6 := NB674_673.out; have hnb7 := NB673_675.out; have hnc7 := NB675_673.out; have hcz8_0 : w5.cell? ⟨gb673, 0, none⟩ = some (.int .i64 a0_0) := (blk_cell BK673.out 0).trans rfl; have hcz8_1 : w5.cell? ⟨gb673, 1, none⟩ = some (.int .i64 a0_1) := (blk_cell BK673.out 1).trans rfl; have hcz8_2 : w5.cell? ⟨gb673, 2, none⟩ = some (.slice A0_2 l0_2.length c0_2) := (blk_cell BK673.out 2).trans rfl; have hfz8_0 := blk_frozen BK673.out 0; have hfz8_1 := blk_frozen BK673.out 1; have hfz8_2 := blk_frozen BK673.out 2; have hnb9 := NB675_674.out; have hnc9 := NB674_675.out; have hcz10_0 : w5.cell? ⟨gb675, 0, none⟩ = some (.int .i64 0) := (blk_cell BK675.out 0).trans rfl; have hcz10_1 : w5.cell? ⟨gb675, 1, none⟩ = some (.int .i64 0) := (blk_cell BK675.out 1).trans rfl; have hcz10_2 : w5.cell? ⟨gb675, 2, none⟩ = some (.slice none 0 0) := (blk_cell BK675.out 2).trans rfl; have hfz10_0 := blk_frozen BK675.out 0; have hfz10_1 := blk_frozen BK675.out 1; have hfz10_2 := blk_frozen BK675.out 2) | ((with_reducible refine gate_callee (f := 147) rfl ?_); refine goesL_ (some 12) rfl rfl Try.func147 (by kernel_rfl) rfl #[.slice A0_2 l0_2.length c0_2] rfl (by (try simp only [List.map_toArray, List.map_cons, List.map_nil]); first | done | rfl) ?_; (with_reducible refine (laws_toBoolS.calls k _ _ l0_2 t676 _ ?side1 ?side2 A2.out).mono ?_); (case side1 => exact Kd.C_below HR0_2.out (gT3 GE673.out GE674.out GE675.out HB)); (case side2 => exact HC0_2.out); rintro e w11 ⟨v677, rfl, ho0, hb⟩; refine ⟨_, rfl, ?_⟩; have HO678 := Aside0.mk (Kd.R_lower ho0 (below_size (gT3 GE673.out GE674.out GE675.out HB))); replace BK673 := Aside0.mk (blk_below (g := gb673) (o := .cells #[.int .i64 a0_0, .int .i64 a0_1, .slice A0_2 l0_2.length c0_2] 142 (0, 0)) (by (with_reducible repeat (first | refine blk_drewN ?_ _ | refine blk_drew ?_ | refine blk_alloc ?_ _)); refine blk_far ?_ NB673_675.out _; (with_reducible repeat (first | refine blk_drewN ?_ _ | refine blk_drew ?_ | refine blk_alloc ?_ _)); refine blk_far ?_ NB673_675.out _; (with_reducible repeat (first | refine blk_drewN ?_ _ | refine blk_drew ?_ | refine blk_alloc ?_ _)); exact BK673.out) hb); replace BK674 := Aside0.mk (blk_below (g := gb674) (o := .cells #[.int .i64 0, .int .i64 0, .slice none 0 0] 131 (0, 0)) (by (with_reducible repeat (first | refine blk_drewN ?_ _ | refine blk_drew ?_ | refine blk_alloc ?_ _)); refine blk_far ?_ NB674_675.out _; (with_reducible repeat (first | refine blk_drewN ?_ _ | refine blk_drew ?_ | refine blk_alloc ?_ _)); refine blk_far ?_ NB674_675.out _; (with_reducible repeat (first | refine blk_drewN ?_ _ | refine blk_drew ?_ | refine blk_alloc ?_ _)); exact BK674.out) hb); replace BK675 := Aside0.mk (blk_below (g := gb675) (o := .cells #[.int .i64 a0_0, .int .i64 a0_1, .slice none 0 0] 131 (0, 0)) (by (with_reducible repeat (first | refine blk_drewN ?_ _ | refine blk_drew ?_ | refine blk_alloc ?_ _)); refine blk_put (cs := #[.int .i64 a0_0, .int .i64 0, .slice none 0 0]) ?_ 1 _ rfl; (with_reducible repeat (first | refine blk_drewN ?_ _ | refine blk_drew ?_ | refine blk_alloc ?_ _)); refine blk_put (cs := #[.int .i64 0, .int .i64 0, .slice none 0 0]) ?_ 0 _ rfl; (with_reducible repeat (first | refine blk_drewN ?_ _ | refine blk_drew ?_ | refine blk_alloc ?_ _)); exact BK675.out) hb); replace HB := Aside0.mk (below_step (gT3 GE673.out GE674.out GE675.out HB) hb); (try clear hb); (try clear hb2); (try clear hk); (try clear hi); (try clear ho0); obtain ⟨Ao12, co12, eo12⟩ := Kd.R_slice HO678.out; subst eo12; have hcz13_0 : w11.cell? ⟨gb675, 0, none⟩ = some (.int .i64 a0_0) := (blk_cell BK675.out 0).trans rfl; have hcz13_1 : w11.cell? ⟨gb675, 1, none⟩ = some (.int .i64 a0_1) := (blk_cell BK675.out 1).trans rfl; have hcz13_2 : w11.cell? ⟨gb675, 2, none⟩ = some (.slice none 0 0) := (blk_cell BK675.out 2).trans rfl; have hfz13_0 := blk_frozen BK675.out 0; have hfz13_1 := blk_frozen BK675.out 1; have hfz13_2 := blk_frozen BK675.out 2; have hcz14_0 : w11.cell? ⟨gb674, 0, none⟩ = some (.int .i64 0) := (blk_cell BK674.out 0).trans rfl; have hcz14_1 : w11.cell? ⟨gb674, 1, none⟩ = some (.int .i64 0) := (blk_cell BK674.out 1).trans rfl; have hcz14_2 : w11.cell? ⟨gb674, 2, none⟩ = some (.slice none 0 0) := (blk_cell BK674.out 2).trans rfl; have hfz14_0 := blk_frozen BK674.out 0; have hfz14_1 := blk_frozen BK674.out 1; have hfz14_2 := blk_frozen BK674.out 2))
 refine bodyPost_ret (results_cell_row rfl _ _ gb674 131 #[.int .i64 a0_0, .int .i64 a0_1, .slice Ao12 t676.length co12] (0, 0) _ rfl (by (with_reducible repeat (first | refine blk_drewN ?_ _ | refine blk_drew ?_ | refine blk_alloc ?_ _)); refine blk_put (cs := #[.int .i64 a0_0, .int .i64 a0_1, .slice none 0 0]) ?_ 2 _ rfl; (with_reducible repeat (first | refine blk_drewN ?_ _ | refine blk_drew ?_ | refine blk_alloc ?_ _)); refine blk_put (cs := #[.int .i64 a0_0, .int .i64 0, .slice none 0 0]) ?_ 1 _ rfl; (with_reducible repeat (first | refine blk_drewN ?_ _ | refine blk_drew ?_ | refine blk_alloc ?_ _)); refine blk_put (cs := #[.int .i64 0, .int .i64 0, .slice none 0 0]) ?_ 0 _ rfl; (with_reducible repeat (first | refine blk_drewN ?_ _ | refine blk_drew ?_ | refine blk_alloc ?_ _)); refine blk_far ?_ NB674_675.out _; (with_reducible repeat (first | refine blk_drewN ?_ _ | refine blk_drew ?_ | refine blk_alloc ?_ _)); exact BK674.out) Try.underlying131 rfl (by kernel_rfl)) rfl ?_
 exact ⟨_, by first | rfl | (simp [errW_none, errW_some] <;> rfl) | (simp [*, errW_none, errW_some] <;> rfl), by (with_reducible repeat (first | apply Kd.R_alloc | apply Kd.R_drewN | apply Kd.R_drew)); exact Kd.R_mono (Kd.R_far (p := ⟨gb674, 2, none⟩) (Kd.R_far (p := ⟨gb674, 1, none⟩) (Kd.R_far (p := ⟨gb674, 0, none⟩) (Kd.R_far (p := ⟨gb675, 2, none⟩) (Kd.R_types (Kd.R_types HO678.out BK675.out (by decide)) BK674.out (by decide)) (fun _ hk => hk.1.2) (.slice Ao12 t676.length co12)) (fun _ hk => hk.2) (.int .i64 a0_0)) (fun _ hk => hk.2) (.int .i64 a0_1)) (fun _ hk => hk.2) (.slice Ao12 t676.length co12)) (fun _ hk => trivial), gT3 GE673.out GE674.out GE675.out HB⟩
def laws_toSlabS.l0 : Nat → List (S142) → List (S131) → Int → Option ((List (S131)))
 | 0, _, _, _ => none
 | k + 1, x0, x3, x4 => if x4 < (x0.length : Int) then (if 0 ≤ x4 then ((laws_toSlab.f k ((rd_T142 x0 x4).f0) ((rd_T142 x0 x4).f1) ((rd_T142 x0 x4).f2)).bind fun bt683 => (if x4 < (x3.length : Int) then (laws_toSlabS.l0 k x0 (x3.set (x4 : Int).toNat (⟨bt683.1, bt683.2.1, bt683.2.2⟩ : S131)) (wrap64 (x4 + 1))) else (none))) else (none)) else (some x3)
def laws_toSlabS.f (k : Nat) (l0 : List (S142)) : Option ((List (S131))) := if 0 ≤ (l0.length : Int) then (if ((l0.length : Int) : Int).toNat ≤ 7036874417766 then (laws_toSlabS.l0 k l0 (List.replicate ((l0.length : Int) : Int).toNat z131) 0) else (none)) else (none)
theorem laws_toSlabS.mono_l : ∀ k, (∀ y0 y1 y2, LeO (laws_toSlabS.l0 k y0 y1 y2) (laws_toSlabS.l0 (k + 1) y0 y1 y2))
 | 0 => fun _ _ _ r h => by simp [laws_toSlabS.l0] at h
 | k + 1 => by
  have ih0 := laws_toSlabS.mono_l k
  ·intro y0 y1 y2; unfold laws_toSlabS.l0
   repeat' first
   | (with_reducible exact ih0 _ _ _)
   | (with_reducible exact laws_toSlab.mono _ _ _ _)
   | (with_reducible exact LeO.refl _)
   | (with_reducible exact LeO.none _)
   | (with_reducible refine LeO.ite ?_ ?_)
   | (with_reducible refine LeO.bind ?_ (fun _ => ?_))
   | exact ih0 _ _ _
   | exact laws_toSlab.mono _ _ _ _
   | exact LeO.none _
   | refine LeO.ite ?_ ?_
   | refine LeO.bind ?_ (fun _ => ?_)
theorem laws_toSlabS.mono : ∀ a0 k, LeO (laws_toSlabS.f k a0) (laws_toSlabS.f (k + 1) a0) := by
 intro a0 k; have ih0 := laws_toSlabS.mono_l k; unfold laws_toSlabS.f
 repeat' first
   | (with_reducible exact ih0 _ _ _)
   | (with_reducible exact laws_toSlab.mono _ _ _ _)
   | (with_reducible exact LeO.refl _)
   | (with_reducible exact LeO.none _)
   | (with_reducible refine LeO.ite ?_ ?_)
   | (with_reducible refine LeO.bind ?_ (fun _ => ?_))
   | exact ih0 _ _ _
   | exact laws_toSlab.mono _ _ _ _
   | exact LeO.none _
   | refine LeO.ite ?_ ?_
   | refine LeO.bind ?_ (fun _ => ?_)
set_option maxHeartbeats 8000000 in
set_option maxRecDepth 100000 in
theorem laws_toSlabS.calls (k : Nat) (A0 : Option Addr) (c0 : Nat) (l0 : List (S142)) (r : List (S131)) (w : World) (hr0 : Kd.C k142 w A0 l0.length l0) (hc0 : l0.length ≤ c0) (h : laws_toSlabS.f k l0 = some r) :
  Calls Try.prog 79 #[.slice A0 l0.length c0] w fun e w' => ∃ v0_ : Value, e = .returned (v0_) ∧ Kd.S k131 131 w' w.heap.size (fun _ => True) v0_ r ∧ Below w.heap.size w w' := by
 have hu142 := Try.underlying142; have hu131 := Try.underlying131; have HR0 := Aside0.mk hr0; have HC0 := Aside0.mk hc0; clear hr0 hc0; have HB := Aside0.mk (Below.refl w.heap.size w); have H : (if 0 ≤ (l0.length : Int) then (if ((l0.length : Int) : Int).toNat ≤ 7036874417766 then (laws_toSlabS.l0 k l0 (List.replicate ((l0.length : Int) : Int).toNat z131) 0) else (none)) else (none)) = some r := h; clear h
 by_cases c2 : 0 ≤ (l0.length : Int)
 ·rw [if_pos c2] at H; have c2b0 := eq_true c2; have c2b1 : decide (0 ≤ (l0.length : Int)) = true := decide_eq_true c2; clear c2
  by_cases c3 : ((l0.length : Int) : Int).toNat ≤ 7036874417766
  ·rw [if_pos c3] at H; have c3b0 := eq_true c3; have c3b1 : decide (((l0.length : Int) : Int).toNat ≤ 7036874417766) = true := decide_eq_true c3; clear c3
   obtain ⟨y679, hy679⟩ : ∃ y_ : List (S131), y_ = (List.replicate ((l0.length : Int) : Int).toNat z131) := ⟨_, rfl⟩
   replace H : (laws_toSlabS.l0 k l0 y679 0) = some r := by first | (rw [hy679]; with_reducible exact H) | (have H2_ := (Option.bind_some _ _).symm.trans H; rw [hy679]; with_reducible exact H2_) | (have H2_ := (Option.bind_some _ _).symm.trans H; with_reducible exact H2_) | with_reducible exact H | (rw [hy679]; exact H) | exact H
   have Ny679 := Aside0.mk hy679; clear hy679; have H' := Aside0.mk H; clear H
   go_enter Try.func79, Try.ntmps79
   go_wp2_with (first | ((with_reducible refine gate_dst (N := 7) rfl ?_); refine Kd.S_make k131 _ 131 rfl (N := 7) rfl 36 _ _ rfl (l0.length : Int) rfl rfl Try.underlying36 (.agg #[(.int .i64 0), (.int .i64 0), (.slice none 0 0)]) 40 info131 rfl (by decide) (by omega) z131 (ok := fun _ => True) (okp := fun _ => True) (k131_mkM _ _ _ z131 (Kd.R_nil _ _ _ _ _)) (fun _ hk => hk) trivial (of_decide_eq_true (by first | (with_reducible assumption) | assumption)) (Nat.le_trans (Nat.mul_le_mul_right _ (of_decide_eq_true (by first | (with_reducible assumption) | assumption) : (l0.length : Int).toNat ≤ 7036874417766)) (by omega)) (Below.refl _ _) (Nat.le_refl _) ?_; intro v680 w4 ho5 hb hg_ hnew_; clear hg_ hnew_; (first | rw [← Ny679.out] at ho5 | (simp only [Int.reduceToNat] at ho5; rw [← Ny679.out] at ho5)); have HO681 := Aside0.mk (Kd.S_lower ho5 (below_size (gB HB))); replace HB := Aside0.mk (below_step (gB HB) hb); clear hb ho5))
   go_loopg [4] k (fun kq v4 w' => ∃ (x3_1 : List (S131)) (x4_1 : Int), v4 = .int .i64 x4_1 ∧ Aside0 (laws_toSlabS.l0 kq l0 x3_1 x4_1 = some r) ∧ Aside0 (kq ≤ k) ∧ Aside0 (Kd.S k131 131 w' w.heap.size (fun _ => True) v680 x3_1) ∧ Aside0 (Below w.heap.size w w'))
   case atStart => exact ⟨(y679), (0), (by first | rfl | (simp; done) | (simp [*]; done)), H', ⟨Nat.le_refl _⟩, ⟨gS HO681⟩, ⟨gB HB⟩⟩
   case round =>
    clear H'; try clear c2
    try clear c2b0
    try clear c2b1
    try clear p2
    try clear c3
    try clear c3b0
    try clear c3b1
    obtain ⟨x3_1, x4_1, rfl, HA, HK1, HO_3, HB⟩ := hrel
    cases gk with
    | zero => exact absurd HA.out (by simp [laws_toSlabS.l0])
    | succ k1 =>
     have H := HA.out; clear HA; simp only [laws_toSlabS.l0] at H
     by_cases c6 : x4_1 < (l0.length : Int)
     ·rw [if_pos c6] at H; have c6b0 : decide (x4_1 < (l0.length : Int)) = true := decide_eq_true c6; clear c6
      by_cases c7 : 0 ≤ x4_1
      ·rw [if_pos c7] at H; have c7b0 : decide (0 ≤ x4_1) = true := decide_eq_true c7; clear c7; replace H := Option.bind_eq_some_iff.mp H; obtain ⟨⟨t683, t684, t685⟩, A80, H⟩ := H; replace H : (if x4_1 < (x3_1.length : Int) then (laws_toSlabS.l0 k1 l0 (x3_1.set (x4_1 : Int).toNat (⟨t683, t684, t685⟩ : S131)) (wrap64 (x4_1 + 1))) else (none)) = some r := H; have A8 := Aside0.mk A80; clear A80
       by_cases c9 : x4_1 < (x3_1.length : Int)
       ·rw [if_pos c9] at H; have c9b0 : decide (x4_1 < (x3_1.length : Int)) = true := decide_eq_true c9; clear c9
        obtain ⟨y688, hy688⟩ : ∃ y_ : List (S131), y_ = (x3_1.set (x4_1 : Int).toNat (⟨t683, t684, t685⟩ : S131)) := ⟨_, rfl⟩
        replace H : (laws_toSlabS.l0 k1 l0 y688 (wrap64 (x4_1 + 1))) = some r := by first | (rw [hy688]; with_reducible exact H) | (have H2_ := (Option.bind_some _ _).symm.trans H; rw [hy688]; with_reducible exact H2_) | (have H2_ := (Option.bind_some _ _).symm.trans H; with_reducible exact H2_) | with_reducible exact H | (rw [hy688]; exact H) | exact H
        have Ny688 := Aside0.mk hy688; clear hy688; have H' := Aside0.mk H; clear H; have p682 : 0 ≤ (x4_1 : Int) := of_decide_eq_true (by first | (with_reducible assumption) | assumption); have q682 : x4_1 < (l0.length : Int) := of_decide_eq_true (by first | (with_reducible assumption) | assumption); obtain ⟨ad682, A682_2, c682_2, e682, hx682_0, hx682_1, hx682_2, hl682_2, hi682_2⟩ := at_T142 HR0.out x4_1 p682 q682
        cases e682; replace hx682_0 := (HB.out.cell (World.block_lt_of_cell? w _ hx682_0)).trans hx682_0; replace hx682_1 := (HB.out.cell (World.block_lt_of_cell? w _ hx682_1)).trans hx682_1; replace hx682_2 := (HB.out.cell (World.block_lt_of_cell? w _ hx682_2)).trans hx682_2; have HR682_2 := Aside0.mk hi682_2; have HC682_2 := Aside0.mk hl682_2; clear hi682_2 hl682_2; replace p682 := eq_true p682; replace q682 := eq_true q682
        go_wp2_with (first | ((with_reducible refine gate_callee (f := 113) rfl ?_); refine goesL_ (some 20) rfl rfl Try.func113 (by kernel_rfl) rfl #[.agg #[.int .i64 ((rd_T142 l0 x4_1).f0), .int .i64 ((rd_T142 l0 x4_1).f1), .slice A682_2 ((rd_T142 l0 x4_1).f2).length c682_2]] rfl (by (try simp only [List.map_toArray, List.map_cons, List.map_nil]); first | done | rfl) ?_; (with_reducible refine (laws_toSlab.calls k1 ((rd_T142 l0 x4_1).f0) ((rd_T142 l0 x4_1).f1) _ _ ((rd_T142 l0 x4_1).f2) t683 t684 t685 _ ?side1 ?side2 A8.out).mono ?_); (case side1 => exact gE HR682_2 HB); (case side2 => exact HC682_2.out); rintro e w11 ⟨v686, rfl, ho0, hb⟩; refine ⟨_, rfl, ?_⟩; replace HO_3 := Aside0.mk (Kd.S_elder' (gS HO_3) (Kd.R_base ho0) hb); have HO687 := Aside0.mk (Kd.R_lower ho0 (below_size (gB HB))); replace HB := Aside0.mk (below_step (gB HB) hb); (try clear hb); (try clear hb2); (try clear hk); (try clear hi); (try clear ho0); have p10 : 0 ≤ (x4_1 : Int) := of_decide_eq_true (by first | (with_reducible assumption) | assumption); have q10 : (x4_1 : Int) < ((x3_1.length : Int) : Int) := of_decide_eq_true (by first | (with_reducible assumption) | assumption); obtain ⟨go10, co10, eo10, gb10, gl10, cl10, HG10⟩ := Kd.S_form HO_3.out (by omega); (first | cases eo10 | (injection eo10 with ea_ en_ ec_; (first | subst ea_ | (injection ea_ with ea_; subst ea_)); subst ec_; clear en_)); have GB10 := Aside0.mk gb10; have GG10 := Aside0.mk HG10; clear gb10 gl10 HG10; obtain ⟨_, ce10, hcl10, hM10, hcc10, hfr10, _, _⟩ := Kd.S_elem HO_3.out z131 (x4_1 : Int) p10 q10; obtain ⟨ve10_2, rfl, ge10_2⟩ := k131_openM hM10; have hx10_0 : w11.cell? ⟨go10, (x4_1 : Int).toNat * 3, none⟩ = some (.int .i64 ((rd_T131 x3_1 x4_1).f0)) := hcc10 0 _ rfl; have hx10_1 : w11.cell? ⟨go10, (x4_1 : Int).toNat * 3 + 1, none⟩ = some (.int .i64 ((rd_T131 x3_1 x4_1).f1)) := hcc10 1 _ rfl; have hx10_2 : w11.cell? ⟨go10, (x4_1 : Int).toNat * 3 + 2, none⟩ = some (ve10_2) := hcc10 2 _ rfl; have hf10_0 : w11.frozen? ⟨go10, (x4_1 : Int).toNat * 3, none⟩ = false := hfr10 0; have hf10_1 : w11.frozen? ⟨go10, (x4_1 : Int).toNat * 3 + 1, none⟩ = false := hfr10 1; have hf10_2 : w11.frozen? ⟨go10, (x4_1 : Int).toNat * 3 + 2, none⟩ = false := hfr10 2; (try clear hcl10); (try clear hcc10); (try clear hfr10); (try clear hM10); replace p10 := eq_true p10; replace q10 := eq_true q10; have n_ := Aside0.mk (Kd.S_mono (ok' := (fun k_ => some k_ ≠ (v686 : Value).ownBlock)) HO_3.out (fun k_ hk => hk.2)); clear HO_3; have HO_3 := n_; clear n_; have HX12 := Aside0.mk (show Kd.S k131 131 w11 w.heap.size (fun k_ => ((fun _ => True)) k_ ∧ ¬ ((fun k_ => some k_ = (v686 : Value).ownBlock)) k_) (.slice (some ⟨go10, 0, none⟩) x3_1.length co10) x3_1 from (by (with_reducible repeat (first | apply Kd.S_alloc | apply Kd.S_drewN | apply Kd.S_drew)); exact Kd.S_mono HO_3.out (fun k_ hk => ⟨trivial, fun e_ => hk e_⟩))); obtain ⟨oki12, ce12, hcl12, hM12, hcc12, hfr12, hoki12, hH12⟩ := Kd.S_elem HX12.out z131 (x4_1 : Int) (of_decide_eq_true (by first | (with_reducible assumption) | assumption)) (by have h_ : (x4_1 : Int) < ((x3_1.length : Int) : Int) := of_decide_eq_true (by first | (with_reducible assumption) | assumption); first | exact h_ | (have e_ := (Kd.S_reads' HO_3.out).1; omega) | simpa using h_); obtain ⟨ve12_2, rfl, ge12_2⟩ := k131_openM hM12; have HP12 := Kd.S_seg hH12 (of_decide_eq_true (by first | (with_reducible assumption) | assumption)) (by have h_ : (x4_1 : Int) < ((x3_1.length : Int) : Int) := of_decide_eq_true (by first | (with_reducible assumption) | assumption); first | exact h_ | (have e_ := (Kd.S_reads' HO_3.out).1; omega) | simpa using h_) (seg := [.int .i64 t683, .int .i64 t684, v686]) (j := 0) (show 3 ≤ 3 from by decide) (x' := (⟨t683, t684, t685⟩ : S131)) (k131_mkM _ _ _ (⟨t683, t684, t685⟩ : S131) (Kd.R_mono (Kd.R_tight rfl (Kd.R_mono (ok' := fun k_ => ((fun _ => True)) k_ ∧ k_ ≠ go10) (Kd.R_apart' (HO687.out) (Kd.S_typed HO_3.out) (by decide)) (fun k_ hk => ⟨trivial, fun e_ => (hk.2) (by rw [e_]; rfl)⟩))) (fun _ h_ => Or.inr (h_)))) (fun _ hk => hk) (fun k_ hk_ => ((Kd.R_mono (ok' := fun k_ => ((fun _ => True)) k_ ∧ k_ ≠ go10) (Kd.R_apart' (HO687.out) (Kd.S_typed HO_3.out) (by decide)) (fun k_ hk => ⟨trivial, fun e_ => (hk.2) (by rw [e_]; rfl)⟩))).1 k_ hk_.symm); have hx12_0 := hcc12 0 _ rfl; (try simp only [show (k131).sz = 3 from rfl, Nat.mul_one, Nat.add_zero] at hx12_0); have hf12_0 := hfr12 0; (try simp only [show (k131).sz = 3 from rfl, Nat.mul_one, Nat.add_zero] at hf12_0); have hx12_1 := hcc12 1 _ rfl; (try simp only [show (k131).sz = 3 from rfl, Nat.mul_one, Nat.add_zero] at hx12_1); have hf12_1 := hfr12 1; (try simp only [show (k131).sz = 3 from rfl, Nat.mul_one, Nat.add_zero] at hf12_1); have hx12_2 := hcc12 2 _ rfl; (try simp only [show (k131).sz = 3 from rfl, Nat.mul_one, Nat.add_zero] at hx12_2); have hf12_2 := hfr12 2; (try simp only [show (k131).sz = 3 from rfl, Nat.mul_one, Nat.add_zero] at hf12_2); (try clear hcl12); (try clear hcc12); (try clear hfr12); (try clear hM12); (try clear hoki12); (try clear hH12)) | ((with_reducible refine gate_store (t := 131) (p := 21) rfl ?_); refine store_event (t := 131) (p := 21) (v := ?vo_w13) (w1 := (((w11.setCell ⟨go10, (x4_1 : Int).toNat * 3, none⟩ (.int .i64 t683)).setCell ⟨go10, (x4_1 : Int).toNat * 3 + 1, none⟩ (.int .i64 t684)).setCell ⟨go10, (x4_1 : Int).toNat * 3 + 2, none⟩ (v686))) ?hg ?ho ?hn ?hr ?_; (case ho => rfl); (case hg => rfl); (case hn => rfl); (case hr => first | (go_simp; done) | (go_simp; rfl) | (obtain ⟨A_, c_, e_⟩ := Kd.R_slice HO687.out; rw [e_]; first | (go_simp; done) | (go_simp; rfl)) | (obtain ⟨A_, c_, e_⟩ := Kd.S_slice HO687.out; rw [e_]; first | (go_simp; done) | (go_simp; rfl))); intro w13 hw; have hg : w11.grownBy w13 (some go10) := (by rw [hw]; exact HP12.2); have hp_ : Kd.S k131 131 w13 w.heap.size (fun _ => True) (.slice (some ⟨go10, 0, none⟩) x3_1.length co10) y688 := (by rw [hw, Ny688.out]; exact HP12.1); clear HP12; have n0_ := Aside0.mk (hp_); have n1_ := Aside0.mk ((by rw [hw]; exact below_set (below_set (below_set (HB.out) GB10.out) GB10.out) GB10.out : Below w.heap.size w w13)); clear HO_3; clear HB; clear HO687; have HO_3 := n0_; have HB := n1_; clear n0_ n1_; clear hg hw hp_))
        go_roundg k1
        case measure => have := HK1.out; omega
        case rel => exact ⟨(y688), (wrap64 (x4_1 + 1)), (by first | rfl | (simp; done) | (simp [*]; done)), H', ⟨by have := HK1.out; omega⟩, ⟨gS HO_3⟩, ⟨gB HB⟩⟩
       ·rw [if_neg c9] at H; exact absurd H (by simp)
      ·rw [if_neg c7] at H; exact absurd H (by simp)
     ·rw [if_neg c6] at H; have c6b0 : decide (x4_1 < (l0.length : Int)) = false := decide_eq_false c6; clear c6; obtain rfl := Option.some.inj H; go_wp2
      go_ret
      exact ⟨_, by first | rfl | (simp [errW_none, errW_some] <;> rfl) | (simp [*, errW_none, errW_some] <;> rfl), gS HO_3, gB HB⟩
  ·rw [if_neg c3] at H; exact absurd H (by simp)
 ·rw [if_neg c2] at H; exact absurd H (by simp)
def laws_toObject.f (a0_0 : Int) (a0_1 : Int) (a0_2 : Int) (a0_3 : Int) (a0_4 : Int) : Option (Int × Int × Int × Int × Int) := some (a0_0, a0_1, a0_2, a0_3, a0_4)
set_option maxHeartbeats 8000000 in
set_option maxRecDepth 100000 in
theorem laws_toObject.calls (a0_0 : Int) (a0_1 : Int) (a0_2 : Int) (a0_3 : Int) (a0_4 : Int) (r1 : Int) (r2 : Int) (r3 : Int) (r4 : Int) (r5 : Int) (w : World) (h : laws_toObject.f a0_0 a0_1 a0_2 a0_3 a0_4 = some (r1, r2, r3, r4, r5)) :
  Calls Try.prog 114 #[.agg #[.int .i64 a0_0, .int .i64 a0_1, .int .i64 a0_2, .int .i64 a0_3, .int .i64 a0_4]] w fun e w' => e = .returned (.agg #[.int .i64 r1, .int .i64 r2, .int .i64 r3, .int .i64 r4, .int .i64 r5]) ∧ Below w.heap.size w w' := by
 have hu154 := Try.underlying154; have hu134 := Try.underlying134; have HB := Aside0.mk (Below.refl w.heap.size w); have H : (some (a0_0, a0_1, a0_2, a0_3, a0_4)) = some (r1, r2, r3, r4, r5) := h; clear h; simp only [Option.some.injEq, Prod.mk.injEq] at H; obtain ⟨rfl, rfl, rfl, rfl, rfl⟩ := H
 go_enter Try.func114, Try.ntmps114
 go_wp2_with (first | ((with_reducible refine gate_dst (N := 1) rfl ?_); refine box_event ?hg (N := 1) ?hd (cs := #[.int .i64 a0_0, .int .i64 a0_1, .int .i64 a0_2, .int .i64 a0_3, .int .i64 a0_4]) (t := 154) ?hr ?_; (case hd => rfl); (case hg => rfl); (case hr => first | (go_simp; done) | (go_simp; rfl)); intro gb689 hg w2 hbox hb; have BK689 := Aside0.mk (hbox); have GW689 := Aside0.mk ((by rw [hg]; exact (below_size (gB HB)) : w.heap.size ≤ gb689)); have GE689 := Aside0.mk ((by rw [hg]; exact (below_size (gB HB)) : w.heap.size ≤ gb689)); replace HB := Aside0.mk (below_step (gB HB) hb); clear hb hbox hg) | ((with_reducible refine gate_dst (N := 2) rfl ?_); refine box_event ?hg (N := 2) ?hd (cs := #[.int .i64 0, .int .i64 0, .int .i64 0, .int .i64 0, .int .i64 0]) (t := 134) ?hr ?_; (case hd => rfl); (case hg => rfl); (case hr => first | (go_simp; done) | (go_simp; rfl)); intro gb690 hg w3 hbox hb; have BK690 := Aside0.mk (hbox); have GW690 := Aside0.mk ((by rw [hg]; exact (below_size (gT1 GE689.out HB)) : w.heap.size ≤ gb690)); have GE690 := Aside0.mk ((by rw [hg]; exact (below_size (gT1 GE689.out HB)) : w.heap.size ≤ gb690)); replace HB := Aside0.mk (below_step (gT1 GE689.out HB) hb); have NB689_690 := Aside0.mk ((by rw [hg]; exact Nat.ne_of_lt (blk_lt (g := gb689) (gK BK689)) : gb689 ≠ gb690)); have NB690_689 := Aside0.mk ((by rw [hg]; exact Nat.ne_of_gt (blk_lt (g := gb689) (gK BK689)) : gb690 ≠ gb689)); replace BK689 := Aside0.mk (blk_below (g := gb689) (gK BK689) hb); clear hb hbox hg) | ((with_reducible refine gate_dst (N := 3) rfl ?_); refine box_event ?hg (N := 3) ?hd (cs := #[.int .i64 0, .int .i64 0, .int .i64 0, .int .i64 0, .int .i64 0]) (t := 134) ?hr ?_; (case hd => rfl); (case hg => rfl); (case hr => first | (go_simp; done) | (go_simp; rfl)); intro gb691 hg w4 hbox hb; have BK691 := Aside0.mk (hbox); have GW691 := Aside0.mk ((by rw [hg]; exact (below_size (gT2 GE689.out GE690.out HB)) : w.heap.size ≤ gb691)); have GE691 := Aside0.mk ((by rw [hg]; exact (below_size (gT2 GE689.out GE690.out HB)) : w.heap.size ≤ gb691)); replace HB := Aside0.mk (below_step (gT2 GE689.out GE690.out HB) hb); have NB689_691 := Aside0.mk ((by rw [hg]; exact Nat.ne_of_lt (blk_lt (g := gb689) (gK BK689)) : gb689 ≠ gb691)); have NB691_689 := Aside0.mk ((by rw [hg]; exact Nat.ne_of_gt (blk_lt (g := gb689) (gK BK689)) : gb691 ≠ gb689)); replace BK689 := Aside0.mk (blk_below (g := gb689) (gK BK689) hb); have NB690_691 := Aside0.mk ((by rw [hg]; exact Nat.ne_of_lt (blk_lt (g := gb690) (gK BK690)) : gb690 ≠ gb691)); have NB691_690 := Aside0.mk ((by rw [hg]; exact Nat.ne_of_gt (blk_lt (g := gb690) (gK BK690)) : gb691 ≠ gb690)); replace BK690 := Aside0.mk (blk_below (g := gb690) (gK BK690) hb); clear hb hbox hg; have hnb5 := NB689_690.out; have hnc5 := NB690_689.out; have hnb6 := NB689_691.out; have hnc6 := NB691_689.out; have hcz7_0 : w4.cell? ⟨gb689, 0, none⟩ = some (.int .i64 a0_0) := (blk_cell BK689.out 0).trans rfl; have hcz7_1 : w4.cell? ⟨gb689, 1, none⟩ = some (.int .i64 a0_1) := (blk_cell BK689.out 1).trans rfl; have hcz7_2 : w4.cell? ⟨gb689, 2, none⟩ = some (.int .i64 a0_2) := (blk_cell BK689.out 2).trans rfl; have hcz7_3 : w4.cell? ⟨gb689, 3, none⟩ = some (.int .i64 a0_3) := (blk_cell BK689.out 3).trans rfl; have hcz7_4 : w4.cell? ⟨gb689, 4, none⟩ = some (.int .i64 a0_4) := (blk_cell BK689.out 4).trans rfl; have hfz7_0 := blk_frozen BK689.out 0; have hfz7_1 := blk_frozen BK689.out 1; have hfz7_2 := blk_frozen BK689.out 2; have hfz7_3 := blk_frozen BK689.out 3; have hfz7_4 := blk_frozen BK689.out 4; have hnb8 := NB691_690.out; have hnc8 := NB690_691.out; have hcz9_0 : w4.cell? ⟨gb691, 0, none⟩ = some (.int .i64 0) := (blk_cell BK691.out 0).trans rfl; have hcz9_1 : w4.cell? ⟨gb691, 1, none⟩ = some (.int .i64 0) := (blk_cell BK691.out 1).trans rfl; have hcz9_2 : w4.cell? ⟨gb691, 2, none⟩ = some (.int .i64 0) := (blk_cell BK691.out 2).trans rfl; have hcz9_3 : w4.cell? ⟨gb691, 3, none⟩ = some (.int .i64 0) := (blk_cell BK691.out 3).trans rfl; have hcz9_4 : w4.cell? ⟨gb691, 4, none⟩ = some (.int .i64 0) := (blk_cell BK691.out 4).trans rfl; have hfz9_0 := blk_frozen BK691.out 0; have hfz9_1 := blk_frozen BK691.out 1; have hfz9_2 := blk_frozen BK691.out 2; have hfz9_3 := blk_frozen BK691.out 3; have hfz9_4 := blk_frozen BK691.out 4; have hcz10_0 : w4.cell? ⟨gb690, 0, none⟩ = some (.int .i64 0) := (blk_cell BK690.out 0).trans rfl; have hcz10_1 : w4.cell? ⟨gb690, 1, none⟩ = some (.int .i64 0) := (blk_cell BK690.out 1).trans rfl; have hcz10_2 : w4.cell? ⟨gb690, 2, none⟩ = some (.int .i64 0) := (blk_cell BK690.out 2).trans rfl; have hcz10_3 : w4.cell? ⟨gb690, 3, none⟩ = some (.int .i64 0) := (blk_cell BK690.out 3).trans rfl; have hcz10_4 : w4.cell? ⟨gb690, 4, none⟩ = some (.int .i64 0) := (blk_cell BK690.out 4).trans rfl; have hfz10_0 := blk_frozen BK690.out 0; have hfz10_1 := blk_frozen BK690.out 1; have hfz10_2 := blk_frozen BK690.out 2; have hfz10_3 := blk_frozen BK690.out 3; have hfz10_4 := blk_frozen BK690.out 4))
 refine bodyPost_ret (results_cell_row rfl _ _ gb690 134 #[.int .i64 a0_0, .int .i64 a0_1, .int .i64 a0_2, .int .i64 a0_3, .int .i64 a0_4] (0, 0) _ rfl (by (with_reducible repeat (first | refine blk_drewN ?_ _ | refine blk_drew ?_ | refine blk_alloc ?_ _)); refine blk_put (cs := #[.int .i64 a0_0, .int .i64 a0_1, .int .i64 a0_2, .int .i64 a0_3, .int .i64 0]) ?_ 4 _ rfl; (with_reducible repeat (first | refine blk_drewN ?_ _ | refine blk_drew ?_ | refine blk_alloc ?_ _)); refine blk_put (cs := #[.int .i64 a0_0, .int .i64 a0_1, .int .i64 a0_2, .int .i64 0, .int .i64 0]) ?_ 3 _ rfl; (with_reducible repeat (first | refine blk_drewN ?_ _ | refine blk_drew ?_ | refine blk_alloc ?_ _)); refine blk_put (cs := #[.int .i64 a0_0, .int .i64 a0_1, .int .i64 0, .int .i64 0, .int .i64 0]) ?_ 2 _ rfl; (with_reducible repeat (first | refine blk_drewN ?_ _ | refine blk_drew ?_ | refine blk_alloc ?_ _)); refine blk_put (cs := #[.int .i64 a0_0, .int .i64 0, .int .i64 0, .int .i64 0, .int .i64 0]) ?_ 1 _ rfl; (with_reducible repeat (first | refine blk_drewN ?_ _ | refine blk_drew ?_ | refine blk_alloc ?_ _)); refine blk_put (cs := #[.int .i64 0, .int .i64 0, .int .i64 0, .int .i64 0, .int .i64 0]) ?_ 0 _ rfl; (with_reducible repeat (first | refine blk_drewN ?_ _ | refine blk_drew ?_ | refine blk_alloc ?_ _)); refine blk_far ?_ NB690_691.out _; (with_reducible repeat (first | refine blk_drewN ?_ _ | refine blk_drew ?_ | refine blk_alloc ?_ _)); refine blk_far ?_ NB690_691.out _; (with_reducible repeat (first | refine blk_drewN ?_ _ | refine blk_drew ?_ | refine blk_alloc ?_ _)); refine blk_far ?_ NB690_691.out _; (with_reducible repeat (first | refine blk_drewN ?_ _ | refine blk_drew ?_ | refine blk_alloc ?_ _)); refine blk_far ?_ NB690_691.out _; (with_reducible repeat (first | refine blk_drewN ?_ _ | refine blk_drew ?_ | refine blk_alloc ?_ _)); refine blk_far ?_ NB690_691.out _; (with_reducible repeat (first | refine blk_drewN ?_ _ | refine blk_drew ?_ | refine blk_alloc ?_ _)); exact BK690.out) Try.underlying134 rfl (by kernel_rfl)) rfl ?_
 exact ⟨by first | rfl | (simp [errW_none, errW_some] <;> rfl) | (simp [*, errW_none, errW_some] <;> rfl), gT3 GE689.out GE690.out GE691.out HB⟩
def laws_toObjectS.l0 : Nat → List (S154) → List (S134) → Int → Option ((List (S134)))
 | 0, _, _, _ => none
 | k + 1, x0, x3, x4 => if x4 < (x0.length : Int) then (if 0 ≤ x4 then ((laws_toObject.f ((rd_T154 x0 x4).f0) ((rd_T154 x0 x4).f1) ((rd_T154 x0 x4).f2) ((rd_T154 x0 x4).f3) ((rd_T154 x0 x4).f4)).bind fun bt696 => (if x4 < (x3.length : Int) then (laws_toObjectS.l0 k x0 (x3.set (x4 : Int).toNat (⟨bt696.1, bt696.2.1, bt696.2.2.1, bt696.2.2.2.1, bt696.2.2.2.2⟩ : S134)) (wrap64 (x4 + 1))) else (none))) else (none)) else (some x3)
def laws_toObjectS.f (k : Nat) (l0 : List (S154)) : Option ((List (S134))) := if 0 ≤ (l0.length : Int) then (if ((l0.length : Int) : Int).toNat ≤ 7036874417766 then (laws_toObjectS.l0 k l0 (List.replicate ((l0.length : Int) : Int).toNat z134) 0) else (none)) else (none)
theorem laws_toObjectS.mono_l : ∀ k, (∀ y0 y1 y2, LeO (laws_toObjectS.l0 k y0 y1 y2) (laws_toObjectS.l0 (k + 1) y0 y1 y2))
 | 0 => fun _ _ _ r h => by simp [laws_toObjectS.l0] at h
 | k + 1 => by
  have ih0 := laws_toObjectS.mono_l k
  ·intro y0 y1 y2; unfold laws_toObjectS.l0
   repeat' first
   | (with_reducible exact ih0 _ _ _)
   | (with_reducible exact LeO.refl _)
   | (with_reducible exact LeO.none _)
   | (with_reducible refine LeO.ite ?_ ?_)
   | (with_reducible refine LeO.bind ?_ (fun _ => ?_))
   | exact ih0 _ _ _
   | exact LeO.none _
   | refine LeO.ite ?_ ?_
   | refine LeO.bind ?_ (fun _ => ?_)
theorem laws_toObjectS.mono : ∀ a0 k, LeO (laws_toObjectS.f k a0) (laws_toObjectS.f (k + 1) a0) := by
 intro a0 k; have ih0 := laws_toObjectS.mono_l k; unfold laws_toObjectS.f
 repeat' first
   | (with_reducible exact ih0 _ _ _)
   | (with_reducible exact LeO.refl _)
   | (with_reducible exact LeO.none _)
   | (with_reducible refine LeO.ite ?_ ?_)
   | (with_reducible refine LeO.bind ?_ (fun _ => ?_))
   | exact ih0 _ _ _
   | exact LeO.none _
   | refine LeO.ite ?_ ?_
   | refine LeO.bind ?_ (fun _ => ?_)
set_option maxHeartbeats 8000000 in
set_option maxRecDepth 100000 in
theorem laws_toObjectS.calls (k : Nat) (A0 : Option Addr) (c0 : Nat) (l0 : List (S154)) (r : List (S134)) (w : World) (hr0 : Kd.C k154 w A0 l0.length l0) (hc0 : l0.length ≤ c0) (h : laws_toObjectS.f k l0 = some r) :
  Calls Try.prog 80 #[.slice A0 l0.length c0] w fun e w' => ∃ v0_ : Value, e = .returned (v0_) ∧ Kd.R k134 134 w' w.heap.size (fun _ => True) v0_ r ∧ Below w.heap.size w w' := by
 have hu154 := Try.underlying154; have hu134 := Try.underlying134; have HR0 := Aside0.mk hr0; have HC0 := Aside0.mk hc0; clear hr0 hc0; have HB := Aside0.mk (Below.refl w.heap.size w); have H : (if 0 ≤ (l0.length : Int) then (if ((l0.length : Int) : Int).toNat ≤ 7036874417766 then (laws_toObjectS.l0 k l0 (List.replicate ((l0.length : Int) : Int).toNat z134) 0) else (none)) else (none)) = some r := h; clear h
 by_cases c2 : 0 ≤ (l0.length : Int)
 ·rw [if_pos c2] at H; have c2b0 := eq_true c2; have c2b1 : decide (0 ≤ (l0.length : Int)) = true := decide_eq_true c2; clear c2
  by_cases c3 : ((l0.length : Int) : Int).toNat ≤ 7036874417766
  ·rw [if_pos c3] at H; have c3b0 := eq_true c3; have c3b1 : decide (((l0.length : Int) : Int).toNat ≤ 7036874417766) = true := decide_eq_true c3; clear c3
   obtain ⟨y692, hy692⟩ : ∃ y_ : List (S134), y_ = (List.replicate ((l0.length : Int) : Int).toNat z134) := ⟨_, rfl⟩
   replace H : (laws_toObjectS.l0 k l0 y692 0) = some r := by first | (rw [hy692]; with_reducible exact H) | (have H2_ := (Option.bind_some _ _).symm.trans H; rw [hy692]; with_reducible exact H2_) | (have H2_ := (Option.bind_some _ _).symm.trans H; with_reducible exact H2_) | with_reducible exact H | (rw [hy692]; exact H) | exact H
   have Ny692 := Aside0.mk hy692; clear hy692; have H' := Aside0.mk H; clear H
   go_enter Try.func80, Try.ntmps80
   go_wp2_with (first | ((with_reducible refine gate_dst (N := 7) rfl ?_); refine Kd.R_make k134 _ 134 rfl (N := 7) rfl 37 _ _ rfl (l0.length : Int) rfl rfl Try.underlying37 (.agg #[(.int .i64 0), (.int .i64 0), (.int .i64 0), (.int .i64 0), (.int .i64 0)]) 40 info134 rfl (by decide) (by omega) z134 (ok := fun _ => True) (okp := fun _ => True) (k134_mkM _ _ _ z134 ) (fun _ hk => hk) trivial (of_decide_eq_true (by first | (with_reducible assumption) | assumption)) (Nat.le_trans (Nat.mul_le_mul_right _ (of_decide_eq_true (by first | (with_reducible assumption) | assumption) : (l0.length : Int).toNat ≤ 7036874417766)) (by omega)) (Below.refl _ _) (Nat.le_refl _) ?_; intro v693 w4 ho5 hb hg_ hnew_; clear hg_ hnew_; (first | rw [← Ny692.out] at ho5 | (simp only [Int.reduceToNat] at ho5; rw [← Ny692.out] at ho5)); have HO694 := Aside0.mk (Kd.R_lower ho5 (below_size (gB HB))); replace HB := Aside0.mk (below_step (gB HB) hb); clear hb ho5))
   go_loopg [4] k (fun kq v4 w' => ∃ (x3_1 : List (S134)) (x4_1 : Int), v4 = .int .i64 x4_1 ∧ Aside0 (laws_toObjectS.l0 kq l0 x3_1 x4_1 = some r) ∧ Aside0 (kq ≤ k) ∧ Aside0 (Kd.R k134 134 w' w.heap.size (fun _ => True) v693 x3_1) ∧ Aside0 (Below w.heap.size w w'))
   case atStart => exact ⟨(y692), (0), (by first | rfl | (simp; done) | (simp [*]; done)), H', ⟨Nat.le_refl _⟩, ⟨gR HO694⟩, ⟨gB HB⟩⟩
   case round =>
    clear H'; try clear c2
    try clear c2b0
    try clear c2b1
    try clear p2
    try clear c3
    try clear c3b0
    try clear c3b1
    obtain ⟨x3_1, x4_1, rfl, HA, HK1, HO_3, HB⟩ := hrel
    cases gk with
    | zero => exact absurd HA.out (by simp [laws_toObjectS.l0])
    | succ k1 =>
     have H := HA.out; clear HA; simp only [laws_toObjectS.l0] at H
     by_cases c6 : x4_1 < (l0.length : Int)
     ·rw [if_pos c6] at H; have c6b0 : decide (x4_1 < (l0.length : Int)) = true := decide_eq_true c6; clear c6
      by_cases c7 : 0 ≤ x4_1
      ·rw [if_pos c7] at H; have c7b0 : decide (0 ≤ x4_1) = true := decide_eq_true c7; clear c7; replace H := Option.bind_eq_some_iff.mp H; obtain ⟨⟨t696, t697, t698, t699, t700⟩, A80, H⟩ := H; replace H : (if x4_1 < (x3_1.length : Int) then (laws_toObjectS.l0 k1 l0 (x3_1.set (x4_1 : Int).toNat (⟨t696, t697, t698, t699, t700⟩ : S134)) (wrap64 (x4_1 + 1))) else (none)) = some r := H; have A8 := Aside0.mk A80; clear A80
       by_cases c9 : x4_1 < (x3_1.length : Int)
       ·rw [if_pos c9] at H; have c9b0 : decide (x4_1 < (x3_1.length : Int)) = true := decide_eq_true c9; clear c9
        obtain ⟨y701, hy701⟩ : ∃ y_ : List (S134), y_ = (x3_1.set (x4_1 : Int).toNat (⟨t696, t697, t698, t699, t700⟩ : S134)) := ⟨_, rfl⟩
        replace H : (laws_toObjectS.l0 k1 l0 y701 (wrap64 (x4_1 + 1))) = some r := by first | (rw [hy701]; with_reducible exact H) | (have H2_ := (Option.bind_some _ _).symm.trans H; rw [hy701]; with_reducible exact H2_) | (have H2_ := (Option.bind_some _ _).symm.trans H; with_reducible exact H2_) | with_reducible exact H | (rw [hy701]; exact H) | exact H
        have Ny701 := Aside0.mk hy701; clear hy701; have H' := Aside0.mk H; clear H; have p695 : 0 ≤ (x4_1 : Int) := of_decide_eq_true (by first | (with_reducible assumption) | assumption); have q695 : x4_1 < (l0.length : Int) := of_decide_eq_true (by first | (with_reducible assumption) | assumption); obtain ⟨ad695, e695, hx695_0, hx695_1, hx695_2, hx695_3, hx695_4⟩ := at_T154 HR0.out x4_1 p695 q695
        cases e695; replace hx695_0 := (HB.out.cell (World.block_lt_of_cell? w _ hx695_0)).trans hx695_0; replace hx695_1 := (HB.out.cell (World.block_lt_of_cell? w _ hx695_1)).trans hx695_1; replace hx695_2 := (HB.out.cell (World.block_lt_of_cell? w _ hx695_2)).trans hx695_2; replace hx695_3 := (HB.out.cell (World.block_lt_of_cell? w _ hx695_3)).trans hx695_3; replace hx695_4 := (HB.out.cell (World.block_lt_of_cell? w _ hx695_4)).trans hx695_4; replace p695 := eq_true p695; replace q695 := eq_true q695
        go_wp2_with (first | ((with_reducible refine gate_callee (f := 114) rfl ?_); refine goesL_ (some 20) rfl rfl Try.func114 (by kernel_rfl) rfl #[.agg #[.int .i64 ((rd_T154 l0 x4_1).f0), .int .i64 ((rd_T154 l0 x4_1).f1), .int .i64 ((rd_T154 l0 x4_1).f2), .int .i64 ((rd_T154 l0 x4_1).f3), .int .i64 ((rd_T154 l0 x4_1).f4)]] rfl (by (try simp only [List.map_toArray, List.map_cons, List.map_nil]); first | done | rfl) ?_; (with_reducible refine (laws_toObject.calls ((rd_T154 l0 x4_1).f0) ((rd_T154 l0 x4_1).f1) ((rd_T154 l0 x4_1).f2) ((rd_T154 l0 x4_1).f3) ((rd_T154 l0 x4_1).f4) t696 t697 t698 t699 t700 _ A8.out).mono ?_); rintro e w11 ⟨rfl, hb⟩; refine ⟨_, rfl, ?_⟩; replace HO_3 := Aside0.mk (Kd.R_below (gR HO_3) hb); replace HB := Aside0.mk (below_step (gB HB) hb); (try clear hb); (try clear hb2); (try clear hk); (try clear hi); have p10 : 0 ≤ (x4_1 : Int) := of_decide_eq_true (by first | (with_reducible assumption) | assumption); have q10 : (x4_1 : Int) < ((x3_1.length : Int) : Int) := of_decide_eq_true (by first | (with_reducible assumption) | assumption); obtain ⟨go10, co10, eo10, gb10, gl10, cl10, HG10⟩ := Kd.R_form HO_3.out (by omega); (first | cases eo10 | (injection eo10 with ea_ en_ ec_; (first | subst ea_ | (injection ea_ with ea_; subst ea_)); subst ec_; clear en_)); have GB10 := Aside0.mk gb10; have GG10 := Aside0.mk HG10; clear gb10 gl10 HG10; obtain ⟨ce10, hcl10, hM10, hcc10, hfr10⟩ := Kd.R_elem HO_3.out z134 (x4_1 : Int) p10 q10; obtain rfl := k134_openM hM10; have hx10_0 : w11.cell? ⟨go10, (x4_1 : Int).toNat * 5, none⟩ = some (.int .i64 ((rd_T134 x3_1 x4_1).f0)) := hcc10 0 _ rfl; have hx10_1 : w11.cell? ⟨go10, (x4_1 : Int).toNat * 5 + 1, none⟩ = some (.int .i64 ((rd_T134 x3_1 x4_1).f1)) := hcc10 1 _ rfl; have hx10_2 : w11.cell? ⟨go10, (x4_1 : Int).toNat * 5 + 2, none⟩ = some (.int .i64 ((rd_T134 x3_1 x4_1).f2)) := hcc10 2 _ rfl; have hx10_3 : w11.cell? ⟨go10, (x4_1 : Int).toNat * 5 + 3, none⟩ = some (.int .i64 ((rd_T134 x3_1 x4_1).f3)) := hcc10 3 _ rfl; have hx10_4 : w11.cell? ⟨go10, (x4_1 : Int).toNat * 5 + 4, none⟩ = some (.int .i64 ((rd_T134 x3_1 x4_1).f4)) := hcc10 4 _ rfl; have hf10_0 : w11.frozen? ⟨go10, (x4_1 : Int).toNat * 5, none⟩ = false := hfr10 0; have hf10_1 : w11.frozen? ⟨go10, (x4_1 : Int).toNat * 5 + 1, none⟩ = false := hfr10 1; have hf10_2 : w11.frozen? ⟨go10, (x4_1 : Int).toNat * 5 + 2, none⟩ = false := hfr10 2; have hf10_3 : w11.frozen? ⟨go10, (x4_1 : Int).toNat * 5 + 3, none⟩ = false := hfr10 3; have hf10_4 : w11.frozen? ⟨go10, (x4_1 : Int).toNat * 5 + 4, none⟩ = false := hfr10 4; (try clear hcl10); (try clear hcc10); (try clear hfr10); (try clear hM10); replace p10 := eq_true p10; replace q10 := eq_true q10; have HX12 := Aside0.mk (show Kd.R k134 134 w11 w.heap.size (fun _ => True) (.slice (some ⟨go10, 0, none⟩) x3_1.length co10) x3_1 from (gR HO_3)); obtain ⟨ce12, hcl12, hM12, hcc12, hfr12⟩ := Kd.R_elem HX12.out z134 (x4_1 : Int) (of_decide_eq_true (by first | (with_reducible assumption) | assumption)) (by have h_ : (x4_1 : Int) < ((x3_1.length : Int) : Int) := of_decide_eq_true (by first | (with_reducible assumption) | assumption); first | exact h_ | (have e_ := (Kd.R_reads' HO_3.out).1; omega) | simpa using h_); obtain rfl := k134_openM hM12; have HP12 := Kd.R_seg HX12.out (x4_1 : Int) (of_decide_eq_true (by first | (with_reducible assumption) | assumption)) (by have h_ : (x4_1 : Int) < ((x3_1.length : Int) : Int) := of_decide_eq_true (by first | (with_reducible assumption) | assumption); first | exact h_ | (have e_ := (Kd.R_reads' HO_3.out).1; omega) | simpa using h_) (seg := [.int .i64 t696, .int .i64 t697, .int .i64 t698, .int .i64 t699, .int .i64 t700]) (j := 0) hcl12 hcc12 (show 5 ≤ 5 from by decide) (x' := (⟨t696, t697, t698, t699, t700⟩ : S134)) (k134_mkM _ _ _ (⟨t696, t697, t698, t699, t700⟩ : S134) ) (fun _ hk => hk); have hx12_0 := hcc12 0 _ rfl; (try simp only [show (k134).sz = 5 from rfl, Nat.mul_one, Nat.add_zero] at hx12_0); have hf12_0 := hfr12 0; (try simp only [show (k134).sz = 5 from rfl, Nat.mul_one, Nat.add_zero] at hf12_0); have hx12_1 := hcc12 1 _ rfl; (try simp only [show (k134).sz = 5 from rfl, Nat.mul_one, Nat.add_zero] at hx12_1); have hf12_1 := hfr12 1; (try simp only [show (k134).sz = 5 from rfl, Nat.mul_one, Nat.add_zero] at hf12_1); have hx12_2 := hcc12 2 _ rfl; (try simp only [show (k134).sz = 5 from rfl, Nat.mul_one, Nat.add_zero] at hx12_2); have hf12_2 := hfr12 2; (try simp only [show (k134).sz = 5 from rfl, Nat.mul_one, Nat.add_zero] at hf12_2); have hx12_3 := hcc12 3 _ rfl; (try simp only [show (k134).sz = 5 from rfl, Nat.mul_one, Nat.add_zero] at hx12_3); have hf12_3 := hfr12 3; (try simp only [show (k134).sz = 5 from rfl, Nat.mul_one, Nat.add_zero] at hf12_3); have hx12_4 := hcc12 4 _ rfl; (try simp only [show (k134).sz = 5 from rfl, Nat.mul_one, Nat.add_zero] at hx12_4); have hf12_4 := hfr12 4; (try simp only [show (k134).sz = 5 from rfl, Nat.mul_one, Nat.add_zero] at hf12_4); (try clear hcl12); (try clear hcc12); (try clear hfr12); (try clear hM12)) | ((with_reducible refine gate_store (t := 134) (p := 21) rfl ?_); refine store_event (t := 134) (p := 21) (v := ?vo_w13) (w1 := (((((w11.setCell ⟨go10, (x4_1 : Int).toNat * 5, none⟩ (.int .i64 t696)).setCell ⟨go10, (x4_1 : Int).toNat * 5 + 1, none⟩ (.int .i64 t697)).setCell ⟨go10, (x4_1 : Int).toNat * 5 + 2, none⟩ (.int .i64 t698)).setCell ⟨go10, (x4_1 : Int).toNat * 5 + 3, none⟩ (.int .i64 t699)).setCell ⟨go10, (x4_1 : Int).toNat * 5 + 4, none⟩ (.int .i64 t700))) ?hg ?ho ?hn ?hr ?_; (case ho => rfl); (case hg => rfl); (case hn => rfl); (case hr => first | (go_simp; done) | (go_simp; rfl)); intro w13 hw; have hg : w11.grownBy w13 (some go10) := (by rw [hw]; exact HP12.2); have hp_ : Kd.R k134 134 w13 w.heap.size (fun _ => True) (.slice (some ⟨go10, 0, none⟩) x3_1.length co10) y701 := (by rw [hw, Ny701.out]; exact HP12.1); clear HP12; replace HO_3 := Aside0.mk (hp_); replace HB := Aside0.mk ((by rw [hw]; exact below_set (below_set (below_set (below_set (below_set (HB.out) GB10.out) GB10.out) GB10.out) GB10.out) GB10.out : Below w.heap.size w w13)); clear hg hw hp_))
        go_roundg k1
        case measure => have := HK1.out; omega
        case rel => exact ⟨(y701), (wrap64 (x4_1 + 1)), (by first | rfl | (simp; done) | (simp [*]; done)), H', ⟨by have := HK1.out; omega⟩, ⟨gR HO_3⟩, ⟨gB HB⟩⟩
       ·rw [if_neg c9] at H; exact absurd H (by simp)
      ·rw [if_neg c7] at H; exact absurd H (by simp)
     ·rw [if_neg c6] at H; have c6b0 : decide (x4_1 < (l0.length : Int)) = false := decide_eq_false c6; clear c6; obtain rfl := Option.some.inj H; go_wp2
      go_ret
      exact ⟨_, by first | rfl | (simp [errW_none, errW_some] <;> rfl) | (simp [*, errW_none, errW_some] <;> rfl), gR HO_3, gB HB⟩
  ·rw [if_neg c3] at H; exact absurd H (by simp)
 ·rw [if_neg c2] at H; exact absurd H (by simp)
end Go.Proofs.Ytngonhgghncdiaa.P
end
