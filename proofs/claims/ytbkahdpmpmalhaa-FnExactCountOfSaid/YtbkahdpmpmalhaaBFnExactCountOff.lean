/- What the proof of FnExactCountOfSaid rests on, part 6: plain lemmas and contracts of the functions that the law reaches (in part written by a printing program over the translation). No condition. -/
import Derived.Test.YtbkahdpmpmalhaaBFnExactCountOfe
import Derived.RowKit
import Derived.Laws.BitsLemmas
section
namespace Go.Proofs.Ytbkahdpmpmalhaa.P
open Go.RowKit Go.Proofs.YtbkahdpmpmalhaaW.PrintWords Go.Proofs.YtbkahdpmpmalhaaW.PrintLast Go.Proofs.YtbkahdpmpmalhaaW.PrintMore
attribute [local go_sem] max2_int min2_int max_two min_two max_three min_three max_four min_four   -- for this text's walks alone
set_option linter.unusedVariables false
set_option linter.unusedSimpArgs false

/-! ### laws_eqMachine: function 29 -/
def laws_eqMachine.f (k : Nat) (l0_0 : List (List Int)) (l0_1 : List Int) (l0_2 : List (S149)) (l0_3 : List (S76)) (l0_4 : List (S153)) (a0_5 : Int) (l0_6 : List (S116)) (l0_7 : List (S157)) (l0_8 : List Int) (l0_9 : List Int) (l1_0 : List (List Int)) (l1_1 : List Int) (l1_2 : List (S149)) (l1_3 : List (S76)) (l1_4 : List (S153)) (a1_5 : Int) (l1_6 : List (S116)) (l1_7 : List (S157)) (l1_8 : List Int) (l1_9 : List Int) : Option (Bool) := (laws_eqIntSS.f k l0_0 l1_0).bind fun t591 => (if t591 = true then ((laws_eqIntS.f k l0_1 l1_1).bind fun t592 => (if t592 = true then ((laws_eqRunS.f k l0_2 l1_2).bind fun t593 => (if t593 = true then ((laws_eqSlabS.f k l0_3 l1_3).bind fun t594 => (if t594 = true then ((laws_eqObjectS.f k l0_4 l1_4).bind fun t595 => (if t595 = true then (if a0_5 = a1_5 then ((laws_eqSpaceS.f k l0_6 l1_6).bind fun t596 => (if t596 = true then ((laws_eqSlotS.f k l0_7 l1_7).bind fun t597 => (if t597 = true then ((laws_eqIntS.f k l0_8 l1_8).bind fun t598 => (if t598 = true then ((laws_eqIntS.f k l0_9 l1_9).bind fun t599 => (if t599 = true then (some true) else (some false))) else (some false))) else (some false))) else (some false))) else (some false)) else (some false))) else (some false))) else (some false))) else (some false))) else (some false))
theorem laws_eqMachine.mono : ∀ a0 a1 a2 a3 a4 a5 a6 a7 a8 a9 a10 a11 a12 a13 a14 a15 a16 a17 a18 a19 k, LeO (laws_eqMachine.f k a0 a1 a2 a3 a4 a5 a6 a7 a8 a9 a10 a11 a12 a13 a14 a15 a16 a17 a18 a19) (laws_eqMachine.f (k + 1) a0 a1 a2 a3 a4 a5 a6 a7 a8 a9 a10 a11 a12 a13 a14 a15 a16 a17 a18 a19) := by
 intro a0 a1 a2 a3 a4 a5 a6 a7 a8 a9 a10 a11 a12 a13 a14 a15 a16 a17 a18 a19 k
 unfold laws_eqMachine.f
 repeat' first
   | (with_reducible exact laws_eqIntS.mono _ _ _)
   | (with_reducible exact laws_eqIntSS.mono _ _ _)
   | (with_reducible exact laws_eqObjectS.mono _ _ _)
   | (with_reducible exact laws_eqRunS.mono _ _ _)
   | (with_reducible exact laws_eqSlabS.mono _ _ _)
   | (with_reducible exact laws_eqSlotS.mono _ _ _)
   | (with_reducible exact laws_eqSpaceS.mono _ _ _)
   | (with_reducible exact LeO.refl _)
   | (with_reducible exact LeO.none _)
   | (with_reducible refine LeO.ite ?_ ?_)
   | (with_reducible refine LeO.bind ?_ (fun _ => ?_))
   | exact laws_eqIntS.mono _ _ _
   | exact laws_eqIntSS.mono _ _ _
   | exact laws_eqObjectS.mono _ _ _
   | exact laws_eqRunS.mono _ _ _
   | exact laws_eqSlabS.mono _ _ _
   | exact laws_eqSlotS.mono _ _ _
   | exact laws_eqSpaceS.mono _ _ _
   | exact LeO.none _
   | refine LeO.ite ?_ ?_
   | refine LeO.bind ?_ (fun _ => ?_)
set_option maxHeartbeats 8000000 in
set_option maxRecDepth 100000 in
theorem laws_eqMachine.calls (k : Nat) (A0_0 : Option Addr) (c0_0 : Nat) (l0_0 : List (List Int)) (A0_1 : Option Addr) (c0_1 : Nat) (l0_1 : List Int) (A0_2 : Option Addr) (c0_2 : Nat) (l0_2 : List (S149)) (A0_3 : Option Addr) (c0_3 : Nat) (l0_3 : List (S76)) (A0_4 : Option Addr) (c0_4 : Nat) (l0_4 : List (S153)) (a0_5 : Int) (A0_6 : Option Addr) (c0_6 : Nat) (l0_6 : List (S116)) (A0_7 : Option Addr) (c0_7 : Nat) (l0_7 : List (S157)) (A0_8 : Option Addr) (c0_8 : Nat) (l0_8 : List Int) (A0_9 : Option Addr) (c0_9 : Nat) (l0_9 : List Int) (A1_0 : Option Addr) (c1_0 : Nat) (l1_0 : List (List Int)) (A1_1 : Option Addr) (c1_1 : Nat) (l1_1 : List Int) (A1_2 : Option Addr) (c1_2 : Nat) (l1_2 : List (S149)) (A1_3 : Option Addr) (c1_3 : Nat) (l1_3 : List (S76)) (A1_4 : Option Addr) (c1_4 : Nat) (l1_4 : List (S153)) (a1_5 : Int) (A1_6 : Option Addr) (c1_6 : Nat) (l1_6 : List (S116)) (A1_7 : Option Addr) (c1_7 : Nat) (l1_7 : List (S157)) (A1_8 : Option Addr) (c1_8 : Nat) (l1_8 : List Int) (A1_9 : Option Addr) (c1_9 : Nat) (l1_9 : List Int) (r : Bool) (w : World) (hr0_0 : Kd.C (Kd.slice 3 (Kd.int .i64)) w A0_0 l0_0.length l0_0) (hc0_0 : l0_0.length ≤ c0_0) (hr0_1 : Kd.C (Kd.int .i64) w A0_1 l0_1.length l0_1) (hc0_1 : l0_1.length ≤ c0_1) (hr0_2 : Kd.C k149 w A0_2 l0_2.length l0_2) (hc0_2 : l0_2.length ≤ c0_2) (hr0_3 : Kd.C k76 w A0_3 l0_3.length l0_3) (hc0_3 : l0_3.length ≤ c0_3) (hr0_4 : Kd.C k153 w A0_4 l0_4.length l0_4) (hc0_4 : l0_4.length ≤ c0_4) (hr0_6 : Kd.C k116 w A0_6 l0_6.length l0_6) (hc0_6 : l0_6.length ≤ c0_6) (hr0_7 : Kd.C k157 w A0_7 l0_7.length l0_7) (hc0_7 : l0_7.length ≤ c0_7) (hr0_8 : Kd.C (Kd.int .i64) w A0_8 l0_8.length l0_8) (hc0_8 : l0_8.length ≤ c0_8) (hr0_9 : Kd.C (Kd.int .i64) w A0_9 l0_9.length l0_9) (hc0_9 : l0_9.length ≤ c0_9) (hr1_0 : Kd.C (Kd.slice 3 (Kd.int .i64)) w A1_0 l1_0.length l1_0) (hc1_0 : l1_0.length ≤ c1_0) (hr1_1 : Kd.C (Kd.int .i64) w A1_1 l1_1.length l1_1) (hc1_1 : l1_1.length ≤ c1_1) (hr1_2 : Kd.C k149 w A1_2 l1_2.length l1_2) (hc1_2 : l1_2.length ≤ c1_2) (hr1_3 : Kd.C k76 w A1_3 l1_3.length l1_3) (hc1_3 : l1_3.length ≤ c1_3) (hr1_4 : Kd.C k153 w A1_4 l1_4.length l1_4) (hc1_4 : l1_4.length ≤ c1_4) (hr1_6 : Kd.C k116 w A1_6 l1_6.length l1_6) (hc1_6 : l1_6.length ≤ c1_6) (hr1_7 : Kd.C k157 w A1_7 l1_7.length l1_7) (hc1_7 : l1_7.length ≤ c1_7) (hr1_8 : Kd.C (Kd.int .i64) w A1_8 l1_8.length l1_8) (hc1_8 : l1_8.length ≤ c1_8) (hr1_9 : Kd.C (Kd.int .i64) w A1_9 l1_9.length l1_9) (hc1_9 : l1_9.length ≤ c1_9) (h : laws_eqMachine.f k l0_0 l0_1 l0_2 l0_3 l0_4 a0_5 l0_6 l0_7 l0_8 l0_9 l1_0 l1_1 l1_2 l1_3 l1_4 a1_5 l1_6 l1_7 l1_8 l1_9 = some r) (hr_ : r = true) :
  Calls Try.prog 29 #[.agg #[.slice A0_0 l0_0.length c0_0, .slice A0_1 l0_1.length c0_1, .slice A0_2 l0_2.length c0_2, .slice A0_3 l0_3.length c0_3, .slice A0_4 l0_4.length c0_4, .int .i64 a0_5, .slice A0_6 l0_6.length c0_6, .slice A0_7 l0_7.length c0_7, .slice A0_8 l0_8.length c0_8, .slice A0_9 l0_9.length c0_9], .agg #[.slice A1_0 l1_0.length c1_0, .slice A1_1 l1_1.length c1_1, .slice A1_2 l1_2.length c1_2, .slice A1_3 l1_3.length c1_3, .slice A1_4 l1_4.length c1_4, .int .i64 a1_5, .slice A1_6 l1_6.length c1_6, .slice A1_7 l1_7.length c1_7, .slice A1_8 l1_8.length c1_8, .slice A1_9 l1_9.length c1_9]] w fun e w' => e = .returned (.bool r) ∧ Below w.heap.size w w' := by
 have hu56 := Try.underlying56
 have HR0_0 := Aside0.mk hr0_0
 have HC0_0 := Aside0.mk hc0_0
 clear hr0_0 hc0_0
 have HR0_1 := Aside0.mk hr0_1
 have HC0_1 := Aside0.mk hc0_1
 clear hr0_1 hc0_1
 have HR0_2 := Aside0.mk hr0_2
 have HC0_2 := Aside0.mk hc0_2
 clear hr0_2 hc0_2
 have HR0_3 := Aside0.mk hr0_3
 have HC0_3 := Aside0.mk hc0_3
 clear hr0_3 hc0_3
 have HR0_4 := Aside0.mk hr0_4
 have HC0_4 := Aside0.mk hc0_4
 clear hr0_4 hc0_4
 have HR0_6 := Aside0.mk hr0_6
 have HC0_6 := Aside0.mk hc0_6
 clear hr0_6 hc0_6
 have HR0_7 := Aside0.mk hr0_7
 have HC0_7 := Aside0.mk hc0_7
 clear hr0_7 hc0_7
 have HR0_8 := Aside0.mk hr0_8
 have HC0_8 := Aside0.mk hc0_8
 clear hr0_8 hc0_8
 have HR0_9 := Aside0.mk hr0_9
 have HC0_9 := Aside0.mk hc0_9
 clear hr0_9 hc0_9
 have HR1_0 := Aside0.mk hr1_0
 have HC1_0 := Aside0.mk hc1_0
 clear hr1_0 hc1_0
 have HR1_1 := Aside0.mk hr1_1
 have HC1_1 := Aside0.mk hc1_1
 clear hr1_1 hc1_1
 have HR1_2 := Aside0.mk hr1_2
 have HC1_2 := Aside0.mk hc1_2
 clear hr1_2 hc1_2
 have HR1_3 := Aside0.mk hr1_3
 have HC1_3 := Aside0.mk hc1_3
 clear hr1_3 hc1_3
 have HR1_4 := Aside0.mk hr1_4
 have HC1_4 := Aside0.mk hc1_4
 clear hr1_4 hc1_4
 have HR1_6 := Aside0.mk hr1_6
 have HC1_6 := Aside0.mk hc1_6
 clear hr1_6 hc1_6
 have HR1_7 := Aside0.mk hr1_7
 have HC1_7 := Aside0.mk hc1_7
 clear hr1_7 hc1_7
 have HR1_8 := Aside0.mk hr1_8
 have HC1_8 := Aside0.mk hc1_8
 clear hr1_8 hc1_8
 have HR1_9 := Aside0.mk hr1_9
 have HC1_9 := Aside0.mk hc1_9
 clear hr1_9 hc1_9
 have HB := Aside0.mk (Below.refl w.heap.size w)
 have H : ((laws_eqIntSS.f k l0_0 l1_0).bind fun t591 => (if t591 = true then ((laws_eqIntS.f k l0_1 l1_1).bind fun t592 => (if t592 = true then ((laws_eqRunS.f k l0_2 l1_2).bind fun t593 => (if t593 = true then ((laws_eqSlabS.f k l0_3 l1_3).bind fun t594 => (if t594 = true then ((laws_eqObjectS.f k l0_4 l1_4).bind fun t595 => (if t595 = true then (if a0_5 = a1_5 then ((laws_eqSpaceS.f k l0_6 l1_6).bind fun t596 => (if t596 = true then ((laws_eqSlotS.f k l0_7 l1_7).bind fun t597 => (if t597 = true then ((laws_eqIntS.f k l0_8 l1_8).bind fun t598 => (if t598 = true then ((laws_eqIntS.f k l0_9 l1_9).bind fun t599 => (if t599 = true then (some true) else (some false))) else (some false))) else (some false))) else (some false))) else (some false)) else (some false))) else (some false))) else (some false))) else (some false))) else (some false))) = some r := h
 clear h
 replace H := Option.bind_eq_some_iff.mp H
 obtain ⟨t591, A30, H⟩ := H
 replace H : (if t591 = true then ((laws_eqIntS.f k l0_1 l1_1).bind fun t592 => (if t592 = true then ((laws_eqRunS.f k l0_2 l1_2).bind fun t593 => (if t593 = true then ((laws_eqSlabS.f k l0_3 l1_3).bind fun t594 => (if t594 = true then ((laws_eqObjectS.f k l0_4 l1_4).bind fun t595 => (if t595 = true then (if a0_5 = a1_5 then ((laws_eqSpaceS.f k l0_6 l1_6).bind fun t596 => (if t596 = true then ((laws_eqSlotS.f k l0_7 l1_7).bind fun t597 => (if t597 = true then ((laws_eqIntS.f k l0_8 l1_8).bind fun t598 => (if t598 = true then ((laws_eqIntS.f k l0_9 l1_9).bind fun t599 => (if t599 = true then (some true) else (some false))) else (some false))) else (some false))) else (some false))) else (some false)) else (some false))) else (some false))) else (some false))) else (some false))) else (some false)) = some r := H
 have A3 := Aside0.mk A30
 clear A30
 by_cases c4 : t591 = true
 ·subst c4
  have H1 : ((laws_eqIntS.f k l0_1 l1_1).bind fun t592 => (if t592 = true then ((laws_eqRunS.f k l0_2 l1_2).bind fun t593 => (if t593 = true then ((laws_eqSlabS.f k l0_3 l1_3).bind fun t594 => (if t594 = true then ((laws_eqObjectS.f k l0_4 l1_4).bind fun t595 => (if t595 = true then (if a0_5 = a1_5 then ((laws_eqSpaceS.f k l0_6 l1_6).bind fun t596 => (if t596 = true then ((laws_eqSlotS.f k l0_7 l1_7).bind fun t597 => (if t597 = true then ((laws_eqIntS.f k l0_8 l1_8).bind fun t598 => (if t598 = true then ((laws_eqIntS.f k l0_9 l1_9).bind fun t599 => (if t599 = true then (some true) else (some false))) else (some false))) else (some false))) else (some false))) else (some false)) else (some false))) else (some false))) else (some false))) else (some false))) = some r := by rw [if_pos rfl] at H; exact H
  clear H
  have H := H1
  clear H1
  replace H := Option.bind_eq_some_iff.mp H
  obtain ⟨t592, A50, H⟩ := H
  replace H : (if t592 = true then ((laws_eqRunS.f k l0_2 l1_2).bind fun t593 => (if t593 = true then ((laws_eqSlabS.f k l0_3 l1_3).bind fun t594 => (if t594 = true then ((laws_eqObjectS.f k l0_4 l1_4).bind fun t595 => (if t595 = true then (if a0_5 = a1_5 then ((laws_eqSpaceS.f k l0_6 l1_6).bind fun t596 => (if t596 = true then ((laws_eqSlotS.f k l0_7 l1_7).bind fun t597 => (if t597 = true then ((laws_eqIntS.f k l0_8 l1_8).bind fun t598 => (if t598 = true then ((laws_eqIntS.f k l0_9 l1_9).bind fun t599 => (if t599 = true then (some true) else (some false))) else (some false))) else (some false))) else (some false))) else (some false)) else (some false))) else (some false))) else (some false))) else (some false)) = some r := H
  have A5 := Aside0.mk A50
  clear A50
  by_cases c6 : t592 = true
  ·subst c6
   have H1 : ((laws_eqRunS.f k l0_2 l1_2).bind fun t593 => (if t593 = true then ((laws_eqSlabS.f k l0_3 l1_3).bind fun t594 => (if t594 = true then ((laws_eqObjectS.f k l0_4 l1_4).bind fun t595 => (if t595 = true then (if a0_5 = a1_5 then ((laws_eqSpaceS.f k l0_6 l1_6).bind fun t596 => (if t596 = true then ((laws_eqSlotS.f k l0_7 l1_7).bind fun t597 => (if t597 = true then ((laws_eqIntS.f k l0_8 l1_8).bind fun t598 => (if t598 = true then ((laws_eqIntS.f k l0_9 l1_9).bind fun t599 => (if t599 = true then (some true) else (some false))) else (some false))) else (some false))) else (some false))) else (some false)) else (some false))) else (some false))) else (some false))) = some r := by rw [if_pos rfl] at H; exact H
   clear H
   have H := H1
   clear H1
   replace H := Option.bind_eq_some_iff.mp H
   obtain ⟨t593, A70, H⟩ := H
   replace H : (if t593 = true then ((laws_eqSlabS.f k l0_3 l1_3).bind fun t594 => (if t594 = true then ((laws_eqObjectS.f k l0_4 l1_4).bind fun t595 => (if t595 = true then (if a0_5 = a1_5 then ((laws_eqSpaceS.f k l0_6 l1_6).bind fun t596 => (if t596 = true then ((laws_eqSlotS.f k l0_7 l1_7).bind fun t597 => (if t597 = true then ((laws_eqIntS.f k l0_8 l1_8).bind fun t598 => (if t598 = true then ((laws_eqIntS.f k l0_9 l1_9).bind fun t599 => (if t599 = true then (some true) else (some false))) else (some false))) else (some false))) else (some false))) else (some false)) else (some false))) else (some false))) else (some false)) = some r := H
   have A7 := Aside0.mk A70
   clear A70
   by_cases c8 : t593 = true
   ·subst c8
    have H1 : ((laws_eqSlabS.f k l0_3 l1_3).bind fun t594 => (if t594 = true then ((laws_eqObjectS.f k l0_4 l1_4).bind fun t595 => (if t595 = true then (if a0_5 = a1_5 then ((laws_eqSpaceS.f k l0_6 l1_6).bind fun t596 => (if t596 = true then ((laws_eqSlotS.f k l0_7 l1_7).bind fun t597 => (if t597 = true then ((laws_eqIntS.f k l0_8 l1_8).bind fun t598 => (if t598 = true then ((laws_eqIntS.f k l0_9 l1_9).bind fun t599 => (if t599 = true then (some true) else (some false))) else (some false))) else (some false))) else (some false))) else (some false)) else (some false))) else (some false))) = some r := by rw [if_pos rfl] at H; exact H
    clear H
    have H := H1
    clear H1
    replace H := Option.bind_eq_some_iff.mp H
    obtain ⟨t594, A90, H⟩ := H
    replace H : (if t594 = true then ((laws_eqObjectS.f k l0_4 l1_4).bind fun t595 => (if t595 = true then (if a0_5 = a1_5 then ((laws_eqSpaceS.f k l0_6 l1_6).bind fun t596 => (if t596 = true then ((laws_eqSlotS.f k l0_7 l1_7).bind fun t597 => (if t597 = true then ((laws_eqIntS.f k l0_8 l1_8).bind fun t598 => (if t598 = true then ((laws_eqIntS.f k l0_9 l1_9).bind fun t599 => (if t599 = true then (some true) else (some false))) else (some false))) else (some false))) else (some false))) else (some false)) else (some false))) else (some false)) = some r := H
    have A9 := Aside0.mk A90
    clear A90
    by_cases c10 : t594 = true
    ·subst c10
     have H1 : ((laws_eqObjectS.f k l0_4 l1_4).bind fun t595 => (if t595 = true then (if a0_5 = a1_5 then ((laws_eqSpaceS.f k l0_6 l1_6).bind fun t596 => (if t596 = true then ((laws_eqSlotS.f k l0_7 l1_7).bind fun t597 => (if t597 = true then ((laws_eqIntS.f k l0_8 l1_8).bind fun t598 => (if t598 = true then ((laws_eqIntS.f k l0_9 l1_9).bind fun t599 => (if t599 = true then (some true) else (some false))) else (some false))) else (some false))) else (some false))) else (some false)) else (some false))) = some r := by rw [if_pos rfl] at H; exact H
     clear H
     have H := H1
     clear H1
     replace H := Option.bind_eq_some_iff.mp H
     obtain ⟨t595, A110, H⟩ := H
     replace H : (if t595 = true then (if a0_5 = a1_5 then ((laws_eqSpaceS.f k l0_6 l1_6).bind fun t596 => (if t596 = true then ((laws_eqSlotS.f k l0_7 l1_7).bind fun t597 => (if t597 = true then ((laws_eqIntS.f k l0_8 l1_8).bind fun t598 => (if t598 = true then ((laws_eqIntS.f k l0_9 l1_9).bind fun t599 => (if t599 = true then (some true) else (some false))) else (some false))) else (some false))) else (some false))) else (some false)) else (some false)) = some r := H
     have A11 := Aside0.mk A110
     clear A110
     by_cases c12 : t595 = true
     ·subst c12
      have H1 : (if a0_5 = a1_5 then ((laws_eqSpaceS.f k l0_6 l1_6).bind fun t596 => (if t596 = true then ((laws_eqSlotS.f k l0_7 l1_7).bind fun t597 => (if t597 = true then ((laws_eqIntS.f k l0_8 l1_8).bind fun t598 => (if t598 = true then ((laws_eqIntS.f k l0_9 l1_9).bind fun t599 => (if t599 = true then (some true) else (some false))) else (some false))) else (some false))) else (some false))) else (some false)) = some r := by rw [if_pos rfl] at H; exact H
      clear H
      have H := H1
      clear H1
      by_cases c13 : a0_5 = a1_5
      ·rw [if_pos c13] at H
       have c13b0 : (a0_5 == a1_5) = true := beq_iff_eq.mpr c13
       have c13b1 : (a0_5 != a1_5) = false := bne_eq_false_iff_eq.mpr c13
       clear c13
       replace H := Option.bind_eq_some_iff.mp H
       obtain ⟨t596, A140, H⟩ := H
       replace H : (if t596 = true then ((laws_eqSlotS.f k l0_7 l1_7).bind fun t597 => (if t597 = true then ((laws_eqIntS.f k l0_8 l1_8).bind fun t598 => (if t598 = true then ((laws_eqIntS.f k l0_9 l1_9).bind fun t599 => (if t599 = true then (some true) else (some false))) else (some false))) else (some false))) else (some false)) = some r := H
       have A14 := Aside0.mk A140
       clear A140
       by_cases c15 : t596 = true
       ·subst c15
        have H1 : ((laws_eqSlotS.f k l0_7 l1_7).bind fun t597 => (if t597 = true then ((laws_eqIntS.f k l0_8 l1_8).bind fun t598 => (if t598 = true then ((laws_eqIntS.f k l0_9 l1_9).bind fun t599 => (if t599 = true then (some true) else (some false))) else (some false))) else (some false))) = some r := by rw [if_pos rfl] at H; exact H
        clear H
        have H := H1
        clear H1
        replace H := Option.bind_eq_some_iff.mp H
        obtain ⟨t597, A160, H⟩ := H
        replace H : (if t597 = true then ((laws_eqIntS.f k l0_8 l1_8).bind fun t598 => (if t598 = true then ((laws_eqIntS.f k l0_9 l1_9).bind fun t599 => (if t599 = true then (some true) else (some false))) else (some false))) else (some false)) = some r := H
        have A16 := Aside0.mk A160
        clear A160
        by_cases c17 : t597 = true
        ·subst c17
         have H1 : ((laws_eqIntS.f k l0_8 l1_8).bind fun t598 => (if t598 = true then ((laws_eqIntS.f k l0_9 l1_9).bind fun t599 => (if t599 = true then (some true) else (some false))) else (some false))) = some r := by rw [if_pos rfl] at H; exact H
         clear H
         have H := H1
         clear H1
         replace H := Option.bind_eq_some_iff.mp H
         obtain ⟨t598, A180, H⟩ := H
         replace H : (if t598 = true then ((laws_eqIntS.f k l0_9 l1_9).bind fun t599 => (if t599 = true then (some true) else (some false))) else (some false)) = some r := H
         have A18 := Aside0.mk A180
         clear A180
         by_cases c19 : t598 = true
         ·subst c19
          have H1 : ((laws_eqIntS.f k l0_9 l1_9).bind fun t599 => (if t599 = true then (some true) else (some false))) = some r := by rw [if_pos rfl] at H; exact H
          clear H
          have H := H1
          clear H1
          replace H := Option.bind_eq_some_iff.mp H
          obtain ⟨t599, A200, H⟩ := H
          replace H : (if t599 = true then (some true) else (some false)) = some r := H
          have A20 := Aside0.mk A200
          clear A200
          by_cases c21 : t599 = true
          ·subst c21
           have H1 : (some true) = some r := by rw [if_pos rfl] at H; exact H
           clear H
           have H := H1
           clear H1
           obtain rfl := Option.some.inj H
           first
           | exact absurd hr_ (by decide)
           | (skip
              go_enter Try.func29, Try.ntmps29
              go_wp2_with (first | ((with_reducible refine gate_dst (N := 2) rfl ?_); refine box_event ?hg (N := 2) ?hd (cs := #[.slice A0_0 l0_0.length c0_0, .slice A0_1 l0_1.length c0_1, .slice A0_2 l0_2.length c0_2, .slice A0_3 l0_3.length c0_3, .slice A0_4 l0_4.length c0_4, .int .i64 a0_5, .slice A0_6 l0_6.length c0_6, .slice A0_7 l0_7.length c0_7, .slice A0_8 l0_8.length c0_8, .slice A0_9 l0_9.length c0_9]) (t := 56) ?hr ?_; (case hd => rfl); (case hg => rfl); (case hr => first | (go_simp; done) | (go_simp; rfl)); intro gb589 hg w22 hbox hb; have n0_ := Aside0.mk (below_step (by repeat (first | (with_reducible first | exact HB.out | apply below_alloc | apply pw_below_drewN | apply below_drew1) | exact HB.out)) hb); have n1_ := Aside0.mk (hbox); have n2_ := Aside0.mk ((by rw [hg]; exact (below_size (by repeat (first | (with_reducible first | exact HB.out | apply below_alloc | apply pw_below_drewN | apply below_drew1) | exact HB.out))) : w.heap.size ≤ gb589)); have n3_ := Aside0.mk ((by rw [hg]; exact (below_size (by repeat (first | (with_reducible first | exact HB.out | apply below_alloc | apply pw_below_drewN | apply below_drew1) | exact HB.out))) : w.heap.size ≤ gb589)); clear HB; have HB := n0_; have BK589 := n1_; have GW589 := n2_; have GE589 := n3_; clear n0_ n1_ n2_ n3_; clear hb hbox hg) | ((with_reducible refine gate_dst (N := 3) rfl ?_); refine box_event ?hg (N := 3) ?hd (cs := #[.slice A1_0 l1_0.length c1_0, .slice A1_1 l1_1.length c1_1, .slice A1_2 l1_2.length c1_2, .slice A1_3 l1_3.length c1_3, .slice A1_4 l1_4.length c1_4, .int .i64 a1_5, .slice A1_6 l1_6.length c1_6, .slice A1_7 l1_7.length c1_7, .slice A1_8 l1_8.length c1_8, .slice A1_9 l1_9.length c1_9]) (t := 56) ?hr ?_; (case hd => rfl); (case hg => rfl); (case hr => first | (go_simp; done) | (go_simp; rfl)); intro gb590 hg w23 hbox hb; have n0_ := Aside0.mk (blk_below (g := gb589) (o := .cells #[.slice A0_0 l0_0.length c0_0, .slice A0_1 l0_1.length c0_1, .slice A0_2 l0_2.length c0_2, .slice A0_3 l0_3.length c0_3, .slice A0_4 l0_4.length c0_4, .int .i64 a0_5, .slice A0_6 l0_6.length c0_6, .slice A0_7 l0_7.length c0_7, .slice A0_8 l0_8.length c0_8, .slice A0_9 l0_9.length c0_9] 56 (0, 0)) (by (with_reducible repeat (first | refine blk_drewN ?_ _ | refine blk_drew ?_ | refine blk_alloc ?_ _)); exact BK589.out) hb); have n1_ := Aside0.mk (below_step (by repeat (first | (with_reducible first | exact HB.out | apply below_alloc | apply pw_below_drewN | apply below_drew1 | refine below_set ?_ GE589.out) | exact HB.out)) hb); have n2_ := Aside0.mk (hbox); have n3_ := Aside0.mk ((by rw [hg]; exact (below_size (by repeat (first | (with_reducible first | exact HB.out | apply below_alloc | apply pw_below_drewN | apply below_drew1 | refine below_set ?_ GE589.out) | exact HB.out))) : w.heap.size ≤ gb590)); have n4_ := Aside0.mk ((by rw [hg]; exact (below_size (by repeat (first | (with_reducible first | exact HB.out | apply below_alloc | apply pw_below_drewN | apply below_drew1 | refine below_set ?_ GE589.out) | exact HB.out))) : w.heap.size ≤ gb590)); have n5_ := Aside0.mk ((by rw [hg]; exact Nat.ne_of_lt (blk_lt (g := gb589) (o := .cells #[.slice A0_0 l0_0.length c0_0, .slice A0_1 l0_1.length c0_1, .slice A0_2 l0_2.length c0_2, .slice A0_3 l0_3.length c0_3, .slice A0_4 l0_4.length c0_4, .int .i64 a0_5, .slice A0_6 l0_6.length c0_6, .slice A0_7 l0_7.length c0_7, .slice A0_8 l0_8.length c0_8, .slice A0_9 l0_9.length c0_9] 56 (0, 0)) (by (with_reducible repeat (first | refine blk_drewN ?_ _ | refine blk_drew ?_ | refine blk_alloc ?_ _)); exact BK589.out)) : gb589 ≠ gb590)); have n6_ := Aside0.mk ((by rw [hg]; exact Nat.ne_of_gt (blk_lt (g := gb589) (o := .cells #[.slice A0_0 l0_0.length c0_0, .slice A0_1 l0_1.length c0_1, .slice A0_2 l0_2.length c0_2, .slice A0_3 l0_3.length c0_3, .slice A0_4 l0_4.length c0_4, .int .i64 a0_5, .slice A0_6 l0_6.length c0_6, .slice A0_7 l0_7.length c0_7, .slice A0_8 l0_8.length c0_8, .slice A0_9 l0_9.length c0_9] 56 (0, 0)) (by (with_reducible repeat (first | refine blk_drewN ?_ _ | refine blk_drew ?_ | refine blk_alloc ?_ _)); exact BK589.out)) : gb590 ≠ gb589)); clear BK589; clear HB; have BK589 := n0_; have HB := n1_; have BK590 := n2_; have GW590 := n3_; have GE590 := n4_; have NB589_590 := n5_; have NB590_589 := n6_; clear n0_ n1_ n2_ n3_ n4_ n5_ n6_; clear hb hbox hg; have hnb24 := NB589_590.out; have hnc24 := NB590_589.out; have hcz25_0 : w23.cell? ⟨gb589, 0, none⟩ = some (.slice A0_0 l0_0.length c0_0) := (blk_cell BK589.out 0).trans rfl; have hcz25_1 : w23.cell? ⟨gb589, 1, none⟩ = some (.slice A0_1 l0_1.length c0_1) := (blk_cell BK589.out 1).trans rfl; have hcz25_2 : w23.cell? ⟨gb589, 2, none⟩ = some (.slice A0_2 l0_2.length c0_2) := (blk_cell BK589.out 2).trans rfl; have hcz25_3 : w23.cell? ⟨gb589, 3, none⟩ = some (.slice A0_3 l0_3.length c0_3) := (blk_cell BK589.out 3).trans rfl; have hcz25_4 : w23.cell? ⟨gb589, 4, none⟩ = some (.slice A0_4 l0_4.length c0_4) := (blk_cell BK589.out 4).trans rfl; have hcz25_5 : w23.cell? ⟨gb589, 5, none⟩ = some (.int .i64 a0_5) := (blk_cell BK589.out 5).trans rfl; have hcz25_6 : w23.cell? ⟨gb589, 6, none⟩ = some (.slice A0_6 l0_6.length c0_6) := (blk_cell BK589.out 6).trans rfl; have hcz25_7 : w23.cell? ⟨gb589, 7, none⟩ = some (.slice A0_7 l0_7.length c0_7) := (blk_cell BK589.out 7).trans rfl; have hcz25_8 : w23.cell? ⟨gb589, 8, none⟩ = some (.slice A0_8 l0_8.length c0_8) := (blk_cell BK589.out 8).trans rfl; have hcz25_9 : w23.cell? ⟨gb589, 9, none⟩ = some (.slice A0_9 l0_9.length c0_9) := (blk_cell BK589.out 9).trans rfl; have hfz25_0 := blk_frozen BK589.out 0; have hfz25_1 := blk_frozen BK589.out 1; have hfz25_2 := blk_frozen BK589.out 2; have hfz25_3 := blk_frozen BK589.out 3; have hfz25_4 := blk_frozen BK589.out 4; have hfz25_5 := blk_frozen BK589.out 5; have hfz25_6 := blk_frozen BK589.out 6; have hfz25_7 := blk_frozen BK589.out 7; have hfz25_8 := blk_frozen BK589.out 8; have hfz25_9 := blk_frozen BK589.out 9; have hcz26_0 : w23.cell? ⟨gb590, 0, none⟩ = some (.slice A1_0 l1_0.length c1_0) := (blk_cell BK590.out 0).trans rfl; have hcz26_1 : w23.cell? ⟨gb590, 1, none⟩ = some (.slice A1_1 l1_1.length c1_1) := (blk_cell BK590.out 1).trans rfl; have hcz26_2 : w23.cell? ⟨gb590, 2, none⟩ = some (.slice A1_2 l1_2.length c1_2) := (blk_cell BK590.out 2).trans rfl; have hcz26_3 : w23.cell? ⟨gb590, 3, none⟩ = some (.slice A1_3 l1_3.length c1_3) := (blk_cell BK590.out 3).trans rfl; have hcz26_4 : w23.cell? ⟨gb590, 4, none⟩ = some (.slice A1_4 l1_4.length c1_4) := (blk_cell BK590.out 4).trans rfl; have hcz26_5 : w23.cell? ⟨gb590, 5, none⟩ = some (.int .i64 a1_5) := (blk_cell BK590.out 5).trans rfl; have hcz26_6 : w23.cell? ⟨gb590, 6, none⟩ = some (.slice A1_6 l1_6.length c1_6) := (blk_cell BK590.out 6).trans rfl; have hcz26_7 : w23.cell? ⟨gb590, 7, none⟩ = some (.slice A1_7 l1_7.length c1_7) := (blk_cell BK590.out 7).trans rfl; have hcz26_8 : w23.cell? ⟨gb590, 8, none⟩ = some (.slice A1_8 l1_8.length c1_8) := (blk_cell BK590.out 8).trans rfl; have hcz26_9 : w23.cell? ⟨gb590, 9, none⟩ = some (.slice A1_9 l1_9.length c1_9) := (blk_cell BK590.out 9).trans rfl; have hfz26_0 := blk_frozen BK590.out 0; have hfz26_1 := blk_frozen BK590.out 1; have hfz26_2 := blk_frozen BK590.out 2; have hfz26_3 := blk_frozen BK590.out 3; have hfz26_4 := blk_frozen BK590.out 4; have hfz26_5 := blk_frozen BK590.out 5; have hfz26_6 := blk_frozen BK590.out 6; have hfz26_7 := blk_frozen BK590.out 7; have hfz26_8 := blk_frozen BK590.out 8; have hfz26_9 := blk_frozen BK590.out 9) | ((with_reducible refine gate_callee (f := 75) rfl ?_); refine goesL_ (some 9) rfl rfl Try.func75 (by kernel_rfl) rfl #[.slice A0_0 l0_0.length c0_0, .slice A1_0 l1_0.length c1_0] rfl (by (try simp only [List.map_toArray, List.map_cons, List.map_nil]); first | done | rfl | (simp only [List.length_drop, List.length_take]; rfl)) ?_; (with_reducible refine (laws_eqIntSS.calls k _ _ l0_0 _ _ l1_0 true _ ?side1 ?side2 ?side3 ?side4 A3.out).mono ?_); (case side1 => repeat (first | exact (Kd.C_below HR0_0.out HB.out) | (with_reducible refine Kd.C_alloc ?_ _) | (with_reducible refine Kd.C_drewN ?_ _) | (with_reducible refine Kd.C_drew ?_))); (case side2 => exact HC0_0.out); (case side3 => repeat (first | exact (Kd.C_below HR1_0.out HB.out) | (with_reducible refine Kd.C_alloc ?_ _) | (with_reducible refine Kd.C_drewN ?_ _) | (with_reducible refine Kd.C_drew ?_))); (case side4 => exact HC1_0.out); rintro e w' ⟨rfl, ⟨nd, rfl⟩⟩; refine ⟨_, rfl, ?_⟩) | ((with_reducible refine gate_callee (f := 39) rfl ?_); refine goesL_ (some 15) rfl rfl Try.func39 (by kernel_rfl) rfl #[.slice A0_1 l0_1.length c0_1, .slice A1_1 l1_1.length c1_1] rfl (by (try simp only [List.map_toArray, List.map_cons, List.map_nil]); first | done | rfl | (simp only [List.length_drop, List.length_take]; rfl)) ?_; (with_reducible refine (laws_eqIntS.calls k _ _ l0_1 _ _ l1_1 true _ ?side1 ?side2 ?side3 ?side4 A5.out).mono ?_); (case side1 => repeat (first | exact (Kd.C_below HR0_1.out (by repeat (first | (with_reducible first | exact HB.out | apply below_alloc | apply pw_below_drewN | apply below_drew1 | refine below_set ?_ GE589.out | refine below_set ?_ GE590.out) | exact HB.out))) | (with_reducible refine Kd.C_alloc ?_ _) | (with_reducible refine Kd.C_drewN ?_ _) | (with_reducible refine Kd.C_drew ?_))); (case side2 => exact HC0_1.out); (case side3 => repeat (first | exact (Kd.C_below HR1_1.out (by repeat (first | (with_reducible first | exact HB.out | apply below_alloc | apply pw_below_drewN | apply below_drew1 | refine below_set ?_ GE589.out | refine below_set ?_ GE590.out) | exact HB.out))) | (with_reducible refine Kd.C_alloc ?_ _) | (with_reducible refine Kd.C_drewN ?_ _) | (with_reducible refine Kd.C_drew ?_))); (case side4 => exact HC1_1.out); rintro e w' ⟨rfl, ⟨nd, rfl⟩⟩; refine ⟨_, rfl, ?_⟩) | ((with_reducible refine gate_callee (f := 76) rfl ?_); refine goesL_ (some 21) rfl rfl Try.func76 (by kernel_rfl) rfl #[.slice A0_2 l0_2.length c0_2, .slice A1_2 l1_2.length c1_2] rfl (by (try simp only [List.map_toArray, List.map_cons, List.map_nil]); first | done | rfl | (simp only [List.length_drop, List.length_take]; rfl)) ?_; (with_reducible refine (laws_eqRunS.calls k _ _ l0_2 _ _ l1_2 true _ ?side1 ?side2 ?side3 ?side4 A7.out).mono ?_); (case side1 => repeat (first | exact (Kd.C_below HR0_2.out (by repeat (first | (with_reducible first | exact HB.out | apply below_alloc | apply pw_below_drewN | apply below_drew1 | refine below_set ?_ GE589.out | refine below_set ?_ GE590.out) | exact HB.out))) | (with_reducible refine Kd.C_alloc ?_ _) | (with_reducible refine Kd.C_drewN ?_ _) | (with_reducible refine Kd.C_drew ?_))); (case side2 => exact HC0_2.out); (case side3 => repeat (first | exact (Kd.C_below HR1_2.out (by repeat (first | (with_reducible first | exact HB.out | apply below_alloc | apply pw_below_drewN | apply below_drew1 | refine below_set ?_ GE589.out | refine below_set ?_ GE590.out) | exact HB.out))) | (with_reducible refine Kd.C_alloc ?_ _) | (with_reducible refine Kd.C_drewN ?_ _) | (with_reducible refine Kd.C_drew ?_))); (case side4 => exact HC1_2.out); rintro e w27 ⟨rfl, hb⟩; refine ⟨_, rfl, ?_⟩; have n0_ := Aside0.mk (blk_below (g := gb589) (o := .cells #[.slice A0_0 l0_0.length c0_0, .slice A0_1 l0_1.length c0_1, .slice A0_2 l0_2.length c0_2, .slice A0_3 l0_3.length c0_3, .slice A0_4 l0_4.length c0_4, .int .i64 a0_5, .slice A0_6 l0_6.length c0_6, .slice A0_7 l0_7.length c0_7, .slice A0_8 l0_8.length c0_8, .slice A0_9 l0_9.length c0_9] 56 (0, 0)) (by (with_reducible repeat (first | refine blk_drewN ?_ _ | refine blk_drew ?_ | refine blk_alloc ?_ _)); exact BK589.out) hb); have n1_ := Aside0.mk (blk_below (g := gb590) (o := .cells #[.slice A1_0 l1_0.length c1_0, .slice A1_1 l1_1.length c1_1, .slice A1_2 l1_2.length c1_2, .slice A1_3 l1_3.length c1_3, .slice A1_4 l1_4.length c1_4, .int .i64 a1_5, .slice A1_6 l1_6.length c1_6, .slice A1_7 l1_7.length c1_7, .slice A1_8 l1_8.length c1_8, .slice A1_9 l1_9.length c1_9] 56 (0, 0)) (by (with_reducible repeat (first | refine blk_drewN ?_ _ | refine blk_drew ?_ | refine blk_alloc ?_ _)); exact BK590.out) hb); have n2_ := Aside0.mk (below_step (by repeat (first | (with_reducible first | exact HB.out | apply below_alloc | apply pw_below_drewN | apply below_drew1 | refine below_set ?_ GE589.out | refine below_set ?_ GE590.out) | exact HB.out)) hb); clear BK589; clear BK590; clear HB; have BK589 := n0_; have BK590 := n1_; have HB := n2_; clear n0_ n1_ n2_; (try clear hb); (try clear hb2); (try clear hk); (try clear hi); have hcz28_0 : w27.cell? ⟨gb589, 0, none⟩ = some (.slice A0_0 l0_0.length c0_0) := (blk_cell BK589.out 0).trans rfl; have hcz28_1 : w27.cell? ⟨gb589, 1, none⟩ = some (.slice A0_1 l0_1.length c0_1) := (blk_cell BK589.out 1).trans rfl; have hcz28_2 : w27.cell? ⟨gb589, 2, none⟩ = some (.slice A0_2 l0_2.length c0_2) := (blk_cell BK589.out 2).trans rfl; have hcz28_3 : w27.cell? ⟨gb589, 3, none⟩ = some (.slice A0_3 l0_3.length c0_3) := (blk_cell BK589.out 3).trans rfl; have hcz28_4 : w27.cell? ⟨gb589, 4, none⟩ = some (.slice A0_4 l0_4.length c0_4) := (blk_cell BK589.out 4).trans rfl; have hcz28_5 : w27.cell? ⟨gb589, 5, none⟩ = some (.int .i64 a0_5) := (blk_cell BK589.out 5).trans rfl; have hcz28_6 : w27.cell? ⟨gb589, 6, none⟩ = some (.slice A0_6 l0_6.length c0_6) := (blk_cell BK589.out 6).trans rfl; have hcz28_7 : w27.cell? ⟨gb589, 7, none⟩ = some (.slice A0_7 l0_7.length c0_7) := (blk_cell BK589.out 7).trans rfl; have hcz28_8 : w27.cell? ⟨gb589, 8, none⟩ = some (.slice A0_8 l0_8.length c0_8) := (blk_cell BK589.out 8).trans rfl; have hcz28_9 : w27.cell? ⟨gb589, 9, none⟩ = some (.slice A0_9 l0_9.length c0_9) := (blk_cell BK589.out 9).trans rfl; have hfz28_0 := blk_frozen BK589.out 0; have hfz28_1 := blk_frozen BK589.out 1; have hfz28_2 := blk_frozen BK589.out 2; have hfz28_3 := blk_frozen BK589.out 3; have hfz28_4 := blk_frozen BK589.out 4; have hfz28_5 := blk_frozen BK589.out 5; have hfz28_6 := blk_frozen BK589.out 6; have hfz28_7 := blk_frozen BK589.out 7; have hfz28_8 := blk_frozen BK589.out 8; have hfz28_9 := blk_frozen BK589.out 9; have hcz29_0 : w27.cell? ⟨gb590, 0, none⟩ = some (.slice A1_0 l1_0.length c1_0) := (blk_cell BK590.out 0).trans rfl; have hcz29_1 : w27.cell? ⟨gb590, 1, none⟩ = some (.slice A1_1 l1_1.length c1_1) := (blk_cell BK590.out 1).trans rfl; have hcz29_2 : w27.cell? ⟨gb590, 2, none⟩ = some (.slice A1_2 l1_2.length c1_2) := (blk_cell BK590.out 2).trans rfl; have hcz29_3 : w27.cell? ⟨gb590, 3, none⟩ = some (.slice A1_3 l1_3.length c1_3) := (blk_cell BK590.out 3).trans rfl; have hcz29_4 : w27.cell? ⟨gb590, 4, none⟩ = some (.slice A1_4 l1_4.length c1_4) := (blk_cell BK590.out 4).trans rfl; have hcz29_5 : w27.cell? ⟨gb590, 5, none⟩ = some (.int .i64 a1_5) := (blk_cell BK590.out 5).trans rfl; have hcz29_6 : w27.cell? ⟨gb590, 6, none⟩ = some (.slice A1_6 l1_6.length c1_6) := (blk_cell BK590.out 6).trans rfl; have hcz29_7 : w27.cell? ⟨gb590, 7, none⟩ = some (.slice A1_7 l1_7.length c1_7) := (blk_cell BK590.out 7).trans rfl; have hcz29_8 : w27.cell? ⟨gb590, 8, none⟩ = some (.slice A1_8 l1_8.length c1_8) := (blk_cell BK590.out 8).trans rfl; have hcz29_9 : w27.cell? ⟨gb590, 9, none⟩ = some (.slice A1_9 l1_9.length c1_9) := (blk_cell BK590.out 9).trans rfl; have hfz29_0 := blk_frozen BK590.out 0; have hfz29_1 := blk_frozen BK590.out 1; have hfz29_2 := blk_frozen BK590.out 2; have hfz29_3 := blk_frozen BK590.out 3; have hfz29_4 := blk_frozen BK590.out 4; have hfz29_5 := blk_frozen BK590.out 5; have hfz29_6 := blk_frozen BK590.out 6; have hfz29_7 := blk_frozen BK590.out 7; have hfz29_8 := blk_frozen BK590.out 8; have hfz29_9 := blk_frozen BK590.out 9) | ((with_reducible refine gate_callee (f := 14) rfl ?_); refine goesL_ (some 27) rfl rfl Try.func14 (by kernel_rfl) rfl #[.slice A0_3 l0_3.length c0_3, .slice A1_3 l1_3.length c1_3] rfl (by (try simp only [List.map_toArray, List.map_cons, List.map_nil]); first | done | rfl | (simp only [List.length_drop, List.length_take]; rfl)) ?_; (with_reducible refine (laws_eqSlabS.calls k _ _ l0_3 _ _ l1_3 true _ ?side1 ?side2 ?side3 ?side4 A9.out).mono ?_); (case side1 => repeat (first | exact (Kd.C_below HR0_3.out HB.out) | (with_reducible refine Kd.C_alloc ?_ _) | (with_reducible refine Kd.C_drewN ?_ _) | (with_reducible refine Kd.C_drew ?_))); (case side2 => exact HC0_3.out); (case side3 => repeat (first | exact (Kd.C_below HR1_3.out HB.out) | (with_reducible refine Kd.C_alloc ?_ _) | (with_reducible refine Kd.C_drewN ?_ _) | (with_reducible refine Kd.C_drew ?_))); (case side4 => exact HC1_3.out); rintro e w30 ⟨rfl, hb⟩; refine ⟨_, rfl, ?_⟩; have n0_ := Aside0.mk (blk_below (g := gb589) (o := .cells #[.slice A0_0 l0_0.length c0_0, .slice A0_1 l0_1.length c0_1, .slice A0_2 l0_2.length c0_2, .slice A0_3 l0_3.length c0_3, .slice A0_4 l0_4.length c0_4, .int .i64 a0_5, .slice A0_6 l0_6.length c0_6, .slice A0_7 l0_7.length c0_7, .slice A0_8 l0_8.length c0_8, .slice A0_9 l0_9.length c0_9] 56 (0, 0)) (by (with_reducible repeat (first | refine blk_drewN ?_ _ | refine blk_drew ?_ | refine blk_alloc ?_ _)); exact BK589.out) hb); have n1_ := Aside0.mk (blk_below (g := gb590) (o := .cells #[.slice A1_0 l1_0.length c1_0, .slice A1_1 l1_1.length c1_1, .slice A1_2 l1_2.length c1_2, .slice A1_3 l1_3.length c1_3, .slice A1_4 l1_4.length c1_4, .int .i64 a1_5, .slice A1_6 l1_6.length c1_6, .slice A1_7 l1_7.length c1_7, .slice A1_8 l1_8.length c1_8, .slice A1_9 l1_9.length c1_9] 56 (0, 0)) (by (with_reducible repeat (first | refine blk_drewN ?_ _ | refine blk_drew ?_ | refine blk_alloc ?_ _)); exact BK590.out) hb); have n2_ := Aside0.mk (below_step (by repeat (first | (with_reducible first | exact HB.out | apply below_alloc | apply pw_below_drewN | apply below_drew1 | refine below_set ?_ GE589.out | refine below_set ?_ GE590.out) | exact HB.out)) hb); clear BK589; clear BK590; clear HB; have BK589 := n0_; have BK590 := n1_; have HB := n2_; clear n0_ n1_ n2_; (try clear hb); (try clear hb2); (try clear hk); (try clear hi); have hcz31_0 : w30.cell? ⟨gb589, 0, none⟩ = some (.slice A0_0 l0_0.length c0_0) := (blk_cell BK589.out 0).trans rfl; have hcz31_1 : w30.cell? ⟨gb589, 1, none⟩ = some (.slice A0_1 l0_1.length c0_1) := (blk_cell BK589.out 1).trans rfl; have hcz31_2 : w30.cell? ⟨gb589, 2, none⟩ = some (.slice A0_2 l0_2.length c0_2) := (blk_cell BK589.out 2).trans rfl; have hcz31_3 : w30.cell? ⟨gb589, 3, none⟩ = some (.slice A0_3 l0_3.length c0_3) := (blk_cell BK589.out 3).trans rfl; have hcz31_4 : w30.cell? ⟨gb589, 4, none⟩ = some (.slice A0_4 l0_4.length c0_4) := (blk_cell BK589.out 4).trans rfl; have hcz31_5 : w30.cell? ⟨gb589, 5, none⟩ = some (.int .i64 a0_5) := (blk_cell BK589.out 5).trans rfl; have hcz31_6 : w30.cell? ⟨gb589, 6, none⟩ = some (.slice A0_6 l0_6.length c0_6) := (blk_cell BK589.out 6).trans rfl; have hcz31_7 : w30.cell? ⟨gb589, 7, none⟩ = some (.slice A0_7 l0_7.length c0_7) := (blk_cell BK589.out 7).trans rfl; have hcz31_8 : w30.cell? ⟨gb589, 8, none⟩ = some (.slice A0_8 l0_8.length c0_8) := (blk_cell BK589.out 8).trans rfl; have hcz31_9 : w30.cell? ⟨gb589, 9, none⟩ = some (.slice A0_9 l0_9.length c0_9) := (blk_cell BK589.out 9).trans rfl; have hfz31_0 := blk_frozen BK589.out 0; have hfz31_1 := blk_frozen BK589.out 1; have hfz31_2 := blk_frozen BK589.out 2; have hfz31_3 := blk_frozen BK589.out 3; have hfz31_4 := blk_frozen BK589.out 4; have hfz31_5 := blk_frozen BK589.out 5; have hfz31_6 := blk_frozen BK589.out 6; have hfz31_7 := blk_frozen BK589.out 7; have hfz31_8 := blk_frozen BK589.out 8; have hfz31_9 := blk_frozen BK589.out 9; have hcz32_0 : w30.cell? ⟨gb590, 0, none⟩ = some (.slice A1_0 l1_0.length c1_0) := (blk_cell BK590.out 0).trans rfl; have hcz32_1 : w30.cell? ⟨gb590, 1, none⟩ = some (.slice A1_1 l1_1.length c1_1) := (blk_cell BK590.out 1).trans rfl; have hcz32_2 : w30.cell? ⟨gb590, 2, none⟩ = some (.slice A1_2 l1_2.length c1_2) := (blk_cell BK590.out 2).trans rfl; have hcz32_3 : w30.cell? ⟨gb590, 3, none⟩ = some (.slice A1_3 l1_3.length c1_3) := (blk_cell BK590.out 3).trans rfl; have hcz32_4 : w30.cell? ⟨gb590, 4, none⟩ = some (.slice A1_4 l1_4.length c1_4) := (blk_cell BK590.out 4).trans rfl; have hcz32_5 : w30.cell? ⟨gb590, 5, none⟩ = some (.int .i64 a1_5) := (blk_cell BK590.out 5).trans rfl; have hcz32_6 : w30.cell? ⟨gb590, 6, none⟩ = some (.slice A1_6 l1_6.length c1_6) := (blk_cell BK590.out 6).trans rfl; have hcz32_7 : w30.cell? ⟨gb590, 7, none⟩ = some (.slice A1_7 l1_7.length c1_7) := (blk_cell BK590.out 7).trans rfl; have hcz32_8 : w30.cell? ⟨gb590, 8, none⟩ = some (.slice A1_8 l1_8.length c1_8) := (blk_cell BK590.out 8).trans rfl; have hcz32_9 : w30.cell? ⟨gb590, 9, none⟩ = some (.slice A1_9 l1_9.length c1_9) := (blk_cell BK590.out 9).trans rfl; have hfz32_0 := blk_frozen BK590.out 0; have hfz32_1 := blk_frozen BK590.out 1; have hfz32_2 := blk_frozen BK590.out 2; have hfz32_3 := blk_frozen BK590.out 3; have hfz32_4 := blk_frozen BK590.out 4; have hfz32_5 := blk_frozen BK590.out 5; have hfz32_6 := blk_frozen BK590.out 6; have hfz32_7 := blk_frozen BK590.out 7; have hfz32_8 := blk_frozen BK590.out 8; have hfz32_9 := blk_frozen BK590.out 9) | ((with_reducible refine gate_callee (f := 77) rfl ?_); refine goesL_ (some 33) rfl rfl Try.func77 (by kernel_rfl) rfl #[.slice A0_4 l0_4.length c0_4, .slice A1_4 l1_4.length c1_4] rfl (by (try simp only [List.map_toArray, List.map_cons, List.map_nil]); first | done | rfl | (simp only [List.length_drop, List.length_take]; rfl)) ?_; (with_reducible refine (laws_eqObjectS.calls k _ _ l0_4 _ _ l1_4 true _ ?side1 ?side2 ?side3 ?side4 A11.out).mono ?_); (case side1 => repeat (first | exact (Kd.C_below HR0_4.out HB.out) | (with_reducible refine Kd.C_alloc ?_ _) | (with_reducible refine Kd.C_drewN ?_ _) | (with_reducible refine Kd.C_drew ?_))); (case side2 => exact HC0_4.out); (case side3 => repeat (first | exact (Kd.C_below HR1_4.out HB.out) | (with_reducible refine Kd.C_alloc ?_ _) | (with_reducible refine Kd.C_drewN ?_ _) | (with_reducible refine Kd.C_drew ?_))); (case side4 => exact HC1_4.out); rintro e w33 ⟨rfl, hb⟩; refine ⟨_, rfl, ?_⟩; have n0_ := Aside0.mk (blk_below (g := gb589) (o := .cells #[.slice A0_0 l0_0.length c0_0, .slice A0_1 l0_1.length c0_1, .slice A0_2 l0_2.length c0_2, .slice A0_3 l0_3.length c0_3, .slice A0_4 l0_4.length c0_4, .int .i64 a0_5, .slice A0_6 l0_6.length c0_6, .slice A0_7 l0_7.length c0_7, .slice A0_8 l0_8.length c0_8, .slice A0_9 l0_9.length c0_9] 56 (0, 0)) (by (with_reducible repeat (first | refine blk_drewN ?_ _ | refine blk_drew ?_ | refine blk_alloc ?_ _)); exact BK589.out) hb); have n1_ := Aside0.mk (blk_below (g := gb590) (o := .cells #[.slice A1_0 l1_0.length c1_0, .slice A1_1 l1_1.length c1_1, .slice A1_2 l1_2.length c1_2, .slice A1_3 l1_3.length c1_3, .slice A1_4 l1_4.length c1_4, .int .i64 a1_5, .slice A1_6 l1_6.length c1_6, .slice A1_7 l1_7.length c1_7, .slice A1_8 l1_8.length c1_8, .slice A1_9 l1_9.length c1_9] 56 (0, 0)) (by (with_reducible repeat (first | refine blk_drewN ?_ _ | refine blk_drew ?_ | refine blk_alloc ?_ _)); exact BK590.out) hb); have n2_ := Aside0.mk (below_step (by repeat (first | (with_reducible first | exact HB.out | apply below_alloc | apply pw_below_drewN | apply below_drew1 | refine below_set ?_ GE589.out | refine below_set ?_ GE590.out) | exact HB.out)) hb); clear BK589; clear BK590; clear HB; have BK589 := n0_; have BK590 := n1_; have HB := n2_; clear n0_ n1_ n2_; (try clear hb); (try clear hb2); (try clear hk); (try clear hi); have hcz34_0 : w33.cell? ⟨gb589, 0, none⟩ = some (.slice A0_0 l0_0.length c0_0) := (blk_cell BK589.out 0).trans rfl; have hcz34_1 : w33.cell? ⟨gb589, 1, none⟩ = some (.slice A0_1 l0_1.length c0_1) := (blk_cell BK589.out 1).trans rfl; have hcz34_2 : w33.cell? ⟨gb589, 2, none⟩ = some (.slice A0_2 l0_2.length c0_2) := (blk_cell BK589.out 2).trans rfl; have hcz34_3 : w33.cell? ⟨gb589, 3, none⟩ = some (.slice A0_3 l0_3.length c0_3) := (blk_cell BK589.out 3).trans rfl; have hcz34_4 : w33.cell? ⟨gb589, 4, none⟩ = some (.slice A0_4 l0_4.length c0_4) := (blk_cell BK589.out 4).trans rfl; have hcz34_5 : w33.cell? ⟨gb589, 5, none⟩ = some (.int .i64 a0_5) := (blk_cell BK589.out 5).trans rfl; have hcz34_6 : w33.cell? ⟨gb589, 6, none⟩ = some (.slice A0_6 l0_6.length c0_6) := (blk_cell BK589.out 6).trans rfl; have hcz34_7 : w33.cell? ⟨gb589, 7, none⟩ = some (.slice A0_7 l0_7.length c0_7) := (blk_cell BK589.out 7).trans rfl; have hcz34_8 : w33.cell? ⟨gb589, 8, none⟩ = some (.slice A0_8 l0_8.length c0_8) := (blk_cell BK589.out 8).trans rfl; have hcz34_9 : w33.cell? ⟨gb589, 9, none⟩ = some (.slice A0_9 l0_9.length c0_9) := (blk_cell BK589.out 9).trans rfl; have hfz34_0 := blk_frozen BK589.out 0; have hfz34_1 := blk_frozen BK589.out 1; have hfz34_2 := blk_frozen BK589.out 2; have hfz34_3 := blk_frozen BK589.out 3; have hfz34_4 := blk_frozen BK589.out 4; have hfz34_5 := blk_frozen BK589.out 5; have hfz34_6 := blk_frozen BK589.out 6; have hfz34_7 := blk_frozen BK589.out 7; have hfz34_8 := blk_frozen BK589.out 8; have hfz34_9 := blk_frozen BK589.out 9; have hcz35_0 : w33.cell? ⟨gb590, 0, none⟩ = some (.slice A1_0 l1_0.length c1_0) := (blk_cell BK590.out 0).trans rfl; have hcz35_1 : w33.cell? ⟨gb590, 1, none⟩ = some (.slice A1_1 l1_1.length c1_1) := (blk_cell BK590.out 1).trans rfl; have hcz35_2 : w33.cell? ⟨gb590, 2, none⟩ = some (.slice A1_2 l1_2.length c1_2) := (blk_cell BK590.out 2).trans rfl; have hcz35_3 : w33.cell? ⟨gb590, 3, none⟩ = some (.slice A1_3 l1_3.length c1_3) := (blk_cell BK590.out 3).trans rfl; have hcz35_4 : w33.cell? ⟨gb590, 4, none⟩ = some (.slice A1_4 l1_4.length c1_4) := (blk_cell BK590.out 4).trans rfl; have hcz35_5 : w33.cell? ⟨gb590, 5, none⟩ = some (.int .i64 a1_5) := (blk_cell BK590.out 5).trans rfl; have hcz35_6 : w33.cell? ⟨gb590, 6, none⟩ = some (.slice A1_6 l1_6.length c1_6) := (blk_cell BK590.out 6).trans rfl; have hcz35_7 : w33.cell? ⟨gb590, 7, none⟩ = some (.slice A1_7 l1_7.length c1_7) := (blk_cell BK590.out 7).trans rfl; have hcz35_8 : w33.cell? ⟨gb590, 8, none⟩ = some (.slice A1_8 l1_8.length c1_8) := (blk_cell BK590.out 8).trans rfl; have hcz35_9 : w33.cell? ⟨gb590, 9, none⟩ = some (.slice A1_9 l1_9.length c1_9) := (blk_cell BK590.out 9).trans rfl; have hfz35_0 := blk_frozen BK590.out 0; have hfz35_1 := blk_frozen BK590.out 1; have hfz35_2 := blk_frozen BK590.out 2; have hfz35_3 := blk_frozen BK590.out 3; have hfz35_4 := blk_frozen BK590.out 4; have hfz35_5 := blk_frozen BK590.out 5; have hfz35_6 := blk_frozen BK590.out 6; have hfz35_7 := blk_frozen BK590.out 7; have hfz35_8 := blk_frozen BK590.out 8; have hfz35_9 := blk_frozen BK590.out 9) | ((with_reducible refine gate_callee (f := 78) rfl ?_); refine goesL_ (some 44) rfl rfl Try.func78 (by kernel_rfl) rfl #[.slice A0_6 l0_6.length c0_6, .slice A1_6 l1_6.length c1_6] rfl (by (try simp only [List.map_toArray, List.map_cons, List.map_nil]); first | done | rfl | (simp only [List.length_drop, List.length_take]; rfl)) ?_; (with_reducible refine (laws_eqSpaceS.calls k _ _ l0_6 _ _ l1_6 true _ ?side1 ?side2 ?side3 ?side4 A14.out).mono ?_); (case side1 => repeat (first | exact (Kd.C_below HR0_6.out HB.out) | (with_reducible refine Kd.C_alloc ?_ _) | (with_reducible refine Kd.C_drewN ?_ _) | (with_reducible refine Kd.C_drew ?_))); (case side2 => exact HC0_6.out); (case side3 => repeat (first | exact (Kd.C_below HR1_6.out HB.out) | (with_reducible refine Kd.C_alloc ?_ _) | (with_reducible refine Kd.C_drewN ?_ _) | (with_reducible refine Kd.C_drew ?_))); (case side4 => exact HC1_6.out); rintro e w36 ⟨rfl, hb⟩; refine ⟨_, rfl, ?_⟩; have n0_ := Aside0.mk (blk_below (g := gb589) (o := .cells #[.slice A0_0 l0_0.length c0_0, .slice A0_1 l0_1.length c0_1, .slice A0_2 l0_2.length c0_2, .slice A0_3 l0_3.length c0_3, .slice A0_4 l0_4.length c0_4, .int .i64 a0_5, .slice A0_6 l0_6.length c0_6, .slice A0_7 l0_7.length c0_7, .slice A0_8 l0_8.length c0_8, .slice A0_9 l0_9.length c0_9] 56 (0, 0)) (by (with_reducible repeat (first | refine blk_drewN ?_ _ | refine blk_drew ?_ | refine blk_alloc ?_ _)); exact BK589.out) hb); have n1_ := Aside0.mk (blk_below (g := gb590) (o := .cells #[.slice A1_0 l1_0.length c1_0, .slice A1_1 l1_1.length c1_1, .slice A1_2 l1_2.length c1_2, .slice A1_3 l1_3.length c1_3, .slice A1_4 l1_4.length c1_4, .int .i64 a1_5, .slice A1_6 l1_6.length c1_6, .slice A1_7 l1_7.length c1_7, .slice A1_8 l1_8.length c1_8, .slice A1_9 l1_9.length c1_9] 56 (0, 0)) (by (with_reducible repeat (first | refine blk_drewN ?_ _ | refine blk_drew ?_ | refine blk_alloc ?_ _)); exact BK590.out) hb); have n2_ := Aside0.mk (below_step (by repeat (first | (with_reducible first | exact HB.out | apply below_alloc | apply pw_below_drewN | apply below_drew1 | refine below_set ?_ GE589.out | refine below_set ?_ GE590.out) | exact HB.out)) hb); clear BK589; clear BK590; clear HB; have BK589 := n0_; have BK590 := n1_; have HB := n2_; clear n0_ n1_ n2_; (try clear hb); (try clear hb2); (try clear hk); (try clear hi); have hcz37_0 : w36.cell? ⟨gb589, 0, none⟩ = some (.slice A0_0 l0_0.length c0_0) := (blk_cell BK589.out 0).trans rfl; have hcz37_1 : w36.cell? ⟨gb589, 1, none⟩ = some (.slice A0_1 l0_1.length c0_1) := (blk_cell BK589.out 1).trans rfl; have hcz37_2 : w36.cell? ⟨gb589, 2, none⟩ = some (.slice A0_2 l0_2.length c0_2) := (blk_cell BK589.out 2).trans rfl; have hcz37_3 : w36.cell? ⟨gb589, 3, none⟩ = some (.slice A0_3 l0_3.length c0_3) := (blk_cell BK589.out 3).trans rfl; have hcz37_4 : w36.cell? ⟨gb589, 4, none⟩ = some (.slice A0_4 l0_4.length c0_4) := (blk_cell BK589.out 4).trans rfl; have hcz37_5 : w36.cell? ⟨gb589, 5, none⟩ = some (.int .i64 a0_5) := (blk_cell BK589.out 5).trans rfl; have hcz37_6 : w36.cell? ⟨gb589, 6, none⟩ = some (.slice A0_6 l0_6.length c0_6) := (blk_cell BK589.out 6).trans rfl; have hcz37_7 : w36.cell? ⟨gb589, 7, none⟩ = some (.slice A0_7 l0_7.length c0_7) := (blk_cell BK589.out 7).trans rfl; have hcz37_8 : w36.cell? ⟨gb589, 8, none⟩ = some (.slice A0_8 l0_8.length c0_8) := (blk_cell BK589.out 8).trans rfl; have hcz37_9 : w36.cell? ⟨gb589, 9, none⟩ = some (.slice A0_9 l0_9.length c0_9) := (blk_cell BK589.out 9).trans rfl; have hfz37_0 := blk_frozen BK589.out 0; have hfz37_1 := blk_frozen BK589.out 1; have hfz37_2 := blk_frozen BK589.out 2; have hfz37_3 := blk_frozen BK589.out 3; have hfz37_4 := blk_frozen BK589.out 4; have hfz37_5 := blk_frozen BK589.out 5; have hfz37_6 := blk_frozen BK589.out 6; have hfz37_7 := blk_frozen BK589.out 7; have hfz37_8 := blk_frozen BK589.out 8; have hfz37_9 := blk_frozen BK589.out 9; have hcz38_0 : w36.cell? ⟨gb590, 0, none⟩ = some (.slice A1_0 l1_0.length c1_0) := (blk_cell BK590.out 0).trans rfl; have hcz38_1 : w36.cell? ⟨gb590, 1, none⟩ = some (.slice A1_1 l1_1.length c1_1) := (blk_cell BK590.out 1).trans rfl; have hcz38_2 : w36.cell? ⟨gb590, 2, none⟩ = some (.slice A1_2 l1_2.length c1_2) := (blk_cell BK590.out 2).trans rfl; have hcz38_3 : w36.cell? ⟨gb590, 3, none⟩ = some (.slice A1_3 l1_3.length c1_3) := (blk_cell BK590.out 3).trans rfl; have hcz38_4 : w36.cell? ⟨gb590, 4, none⟩ = some (.slice A1_4 l1_4.length c1_4) := (blk_cell BK590.out 4).trans rfl; have hcz38_5 : w36.cell? ⟨gb590, 5, none⟩ = some (.int .i64 a1_5) := (blk_cell BK590.out 5).trans rfl; have hcz38_6 : w36.cell? ⟨gb590, 6, none⟩ = some (.slice A1_6 l1_6.length c1_6) := (blk_cell BK590.out 6).trans rfl; have hcz38_7 : w36.cell? ⟨gb590, 7, none⟩ = some (.slice A1_7 l1_7.length c1_7) := (blk_cell BK590.out 7).trans rfl; have hcz38_8 : w36.cell? ⟨gb590, 8, none⟩ = some (.slice A1_8 l1_8.length c1_8) := (blk_cell BK590.out 8).trans rfl; have hcz38_9 : w36.cell? ⟨gb590, 9, none⟩ = some (.slice A1_9 l1_9.length c1_9) := (blk_cell BK590.out 9).trans rfl; have hfz38_0 := blk_frozen BK590.out 0; have hfz38_1 := blk_frozen BK590.out 1; have hfz38_2 := blk_frozen BK590.out 2; have hfz38_3 := blk_frozen BK590.out 3; have hfz38_4 := blk_frozen BK590.out 4; have hfz38_5 := blk_frozen BK590.out 5; have hfz38_6 := blk_frozen BK590.out 6; have hfz38_7 := blk_frozen BK590.out 7; have hfz38_8 := blk_frozen BK590.out 8; have hfz38_9 := blk_frozen BK590.out 9) | ((with_reducible refine gate_callee (f := 79) rfl ?_); refine goesL_ (some 50) rfl rfl Try.func79 (by kernel_rfl) rfl #[.slice A0_7 l0_7.length c0_7, .slice A1_7 l1_7.length c1_7] rfl (by (try simp only [List.map_toArray, List.map_cons, List.map_nil]); first | done | rfl | (simp only [List.length_drop, List.length_take]; rfl)) ?_; (with_reducible refine (laws_eqSlotS.calls k _ _ l0_7 _ _ l1_7 true _ ?side1 ?side2 ?side3 ?side4 A16.out).mono ?_); (case side1 => repeat (first | exact (Kd.C_below HR0_7.out HB.out) | (with_reducible refine Kd.C_alloc ?_ _) | (with_reducible refine Kd.C_drewN ?_ _) | (with_reducible refine Kd.C_drew ?_))); (case side2 => exact HC0_7.out); (case side3 => repeat (first | exact (Kd.C_below HR1_7.out HB.out) | (with_reducible refine Kd.C_alloc ?_ _) | (with_reducible refine Kd.C_drewN ?_ _) | (with_reducible refine Kd.C_drew ?_))); (case side4 => exact HC1_7.out); rintro e w39 ⟨rfl, hb⟩; refine ⟨_, rfl, ?_⟩; have n0_ := Aside0.mk (blk_below (g := gb589) (o := .cells #[.slice A0_0 l0_0.length c0_0, .slice A0_1 l0_1.length c0_1, .slice A0_2 l0_2.length c0_2, .slice A0_3 l0_3.length c0_3, .slice A0_4 l0_4.length c0_4, .int .i64 a0_5, .slice A0_6 l0_6.length c0_6, .slice A0_7 l0_7.length c0_7, .slice A0_8 l0_8.length c0_8, .slice A0_9 l0_9.length c0_9] 56 (0, 0)) (by (with_reducible repeat (first | refine blk_drewN ?_ _ | refine blk_drew ?_ | refine blk_alloc ?_ _)); exact BK589.out) hb); have n1_ := Aside0.mk (blk_below (g := gb590) (o := .cells #[.slice A1_0 l1_0.length c1_0, .slice A1_1 l1_1.length c1_1, .slice A1_2 l1_2.length c1_2, .slice A1_3 l1_3.length c1_3, .slice A1_4 l1_4.length c1_4, .int .i64 a1_5, .slice A1_6 l1_6.length c1_6, .slice A1_7 l1_7.length c1_7, .slice A1_8 l1_8.length c1_8, .slice A1_9 l1_9.length c1_9] 56 (0, 0)) (by (with_reducible repeat (first | refine blk_drewN ?_ _ | refine blk_drew ?_ | refine blk_alloc ?_ _)); exact BK590.out) hb); have n2_ := Aside0.mk (below_step (by repeat (first | (with_reducible first | exact HB.out | apply below_alloc | apply pw_below_drewN | apply below_drew1 | refine below_set ?_ GE589.out | refine below_set ?_ GE590.out) | exact HB.out)) hb); clear BK589; clear BK590; clear HB; have BK589 := n0_; have BK590 := n1_; have HB := n2_; clear n0_ n1_ n2_; (try clear hb); (try clear hb2); (try clear hk); (try clear hi); have hcz40_0 : w39.cell? ⟨gb589, 0, none⟩ = some (.slice A0_0 l0_0.length c0_0) := (blk_cell BK589.out 0).trans rfl; have hcz40_1 : w39.cell? ⟨gb589, 1, none⟩ = some (.slice A0_1 l0_1.length c0_1) := (blk_cell BK589.out 1).trans rfl; have hcz40_2 : w39.cell? ⟨gb589, 2, none⟩ = some (.slice A0_2 l0_2.length c0_2) := (blk_cell BK589.out 2).trans rfl; have hcz40_3 : w39.cell? ⟨gb589, 3, none⟩ = some (.slice A0_3 l0_3.length c0_3) := (blk_cell BK589.out 3).trans rfl; have hcz40_4 : w39.cell? ⟨gb589, 4, none⟩ = some (.slice A0_4 l0_4.length c0_4) := (blk_cell BK589.out 4).trans rfl; have hcz40_5 : w39.cell? ⟨gb589, 5, none⟩ = some (.int .i64 a0_5) := (blk_cell BK589.out 5).trans rfl; have hcz40_6 : w39.cell? ⟨gb589, 6, none⟩ = some (.slice A0_6 l0_6.length c0_6) := (blk_cell BK589.out 6).trans rfl; have hcz40_7 : w39.cell? ⟨gb589, 7, none⟩ = some (.slice A0_7 l0_7.length c0_7) := (blk_cell BK589.out 7).trans rfl; have hcz40_8 : w39.cell? ⟨gb589, 8, none⟩ = some (.slice A0_8 l0_8.length c0_8) := (blk_cell BK589.out 8).trans rfl; have hcz40_9 : w39.cell? ⟨gb589, 9, none⟩ = some (.slice A0_9 l0_9.length c0_9) := (blk_cell BK589.out 9).trans rfl; have hfz40_0 := blk_frozen BK589.out 0; have hfz40_1 := blk_frozen BK589.out 1; have hfz40_2 := blk_frozen BK589.out 2; have hfz40_3 := blk_frozen BK589.out 3; have hfz40_4 := blk_frozen BK589.out 4; have hfz40_5 := blk_frozen BK589.out 5; have hfz40_6 := blk_frozen BK589.out 6; have hfz40_7 := blk_frozen BK589.out 7; have hfz40_8 := blk_frozen BK589.out 8; have hfz40_9 := blk_frozen BK589.out 9; have hcz41_0 : w39.cell? ⟨gb590, 0, none⟩ = some (.slice A1_0 l1_0.length c1_0) := (blk_cell BK590.out 0).trans rfl; have hcz41_1 : w39.cell? ⟨gb590, 1, none⟩ = some (.slice A1_1 l1_1.length c1_1) := (blk_cell BK590.out 1).trans rfl; have hcz41_2 : w39.cell? ⟨gb590, 2, none⟩ = some (.slice A1_2 l1_2.length c1_2) := (blk_cell BK590.out 2).trans rfl; have hcz41_3 : w39.cell? ⟨gb590, 3, none⟩ = some (.slice A1_3 l1_3.length c1_3) := (blk_cell BK590.out 3).trans rfl; have hcz41_4 : w39.cell? ⟨gb590, 4, none⟩ = some (.slice A1_4 l1_4.length c1_4) := (blk_cell BK590.out 4).trans rfl; have hcz41_5 : w39.cell? ⟨gb590, 5, none⟩ = some (.int .i64 a1_5) := (blk_cell BK590.out 5).trans rfl; have hcz41_6 : w39.cell? ⟨gb590, 6, none⟩ = some (.slice A1_6 l1_6.length c1_6) := (blk_cell BK590.out 6).trans rfl; have hcz41_7 : w39.cell? ⟨gb590, 7, none⟩ = some (.slice A1_7 l1_7.length c1_7) := (blk_cell BK590.out 7).trans rfl; have hcz41_8 : w39.cell? ⟨gb590, 8, none⟩ = some (.slice A1_8 l1_8.length c1_8) := (blk_cell BK590.out 8).trans rfl; have hcz41_9 : w39.cell? ⟨gb590, 9, none⟩ = some (.slice A1_9 l1_9.length c1_9) := (blk_cell BK590.out 9).trans rfl; have hfz41_0 := blk_frozen BK590.out 0; have hfz41_1 := blk_frozen BK590.out 1; have hfz41_2 := blk_frozen BK590.out 2; have hfz41_3 := blk_frozen BK590.out 3; have hfz41_4 := blk_frozen BK590.out 4; have hfz41_5 := blk_frozen BK590.out 5; have hfz41_6 := blk_frozen BK590.out 6; have hfz41_7 := blk_frozen BK590.out 7; have hfz41_8 := blk_frozen BK590.out 8; have hfz41_9 := blk_frozen BK590.out 9) | ((with_reducible refine gate_callee (f := 39) rfl ?_); refine goesL_ (some 56) rfl rfl Try.func39 (by kernel_rfl) rfl #[.slice A0_8 l0_8.length c0_8, .slice A1_8 l1_8.length c1_8] rfl (by (try simp only [List.map_toArray, List.map_cons, List.map_nil]); first | done | rfl | (simp only [List.length_drop, List.length_take]; rfl)) ?_; (with_reducible refine (laws_eqIntS.calls k _ _ l0_8 _ _ l1_8 true _ ?side1 ?side2 ?side3 ?side4 A18.out).mono ?_); (case side1 => repeat (first | exact (Kd.C_below HR0_8.out HB.out) | (with_reducible refine Kd.C_alloc ?_ _) | (with_reducible refine Kd.C_drewN ?_ _) | (with_reducible refine Kd.C_drew ?_))); (case side2 => exact HC0_8.out); (case side3 => repeat (first | exact (Kd.C_below HR1_8.out HB.out) | (with_reducible refine Kd.C_alloc ?_ _) | (with_reducible refine Kd.C_drewN ?_ _) | (with_reducible refine Kd.C_drew ?_))); (case side4 => exact HC1_8.out); rintro e w' ⟨rfl, ⟨nd, rfl⟩⟩; refine ⟨_, rfl, ?_⟩) | ((with_reducible refine gate_callee (f := 39) rfl ?_); refine goesL_ (some 62) rfl rfl Try.func39 (by kernel_rfl) rfl #[.slice A0_9 l0_9.length c0_9, .slice A1_9 l1_9.length c1_9] rfl (by (try simp only [List.map_toArray, List.map_cons, List.map_nil]); first | done | rfl | (simp only [List.length_drop, List.length_take]; rfl)) ?_; (with_reducible refine (laws_eqIntS.calls k _ _ l0_9 _ _ l1_9 true _ ?side1 ?side2 ?side3 ?side4 A20.out).mono ?_); (case side1 => repeat (first | exact (Kd.C_below HR0_9.out (by repeat (first | (with_reducible first | exact HB.out | apply below_alloc | apply pw_below_drewN | apply below_drew1 | refine below_set ?_ GE589.out | refine below_set ?_ GE590.out) | exact HB.out))) | (with_reducible refine Kd.C_alloc ?_ _) | (with_reducible refine Kd.C_drewN ?_ _) | (with_reducible refine Kd.C_drew ?_))); (case side2 => exact HC0_9.out); (case side3 => repeat (first | exact (Kd.C_below HR1_9.out (by repeat (first | (with_reducible first | exact HB.out | apply below_alloc | apply pw_below_drewN | apply below_drew1 | refine below_set ?_ GE589.out | refine below_set ?_ GE590.out) | exact HB.out))) | (with_reducible refine Kd.C_alloc ?_ _) | (with_reducible refine Kd.C_drewN ?_ _) | (with_reducible refine Kd.C_drew ?_))); (case side4 => exact HC1_9.out); rintro e w' ⟨rfl, ⟨nd, rfl⟩⟩; refine ⟨_, rfl, ?_⟩))
              go_ret
              exact ⟨by first | rfl | (simp [errW_none, errW_some] <;> rfl) | (simp [*, errW_none, errW_some] <;> rfl), by repeat (first | (with_reducible first | exact HB.out | apply below_alloc | apply pw_below_drewN | apply below_drew1 | refine below_set ?_ GE589.out | refine below_set ?_ GE590.out) | exact HB.out)⟩)
          ·replace c21 := Bool.eq_false_iff.mpr c21
           subst c21
           have H1 : (some false) = some r := by rw [if_neg (show ¬ (false = true) by decide)] at H; exact H
           clear H
           have H := H1
           clear H1
           obtain rfl := Option.some.inj H
           exact absurd hr_ (by decide)
         ·replace c19 := Bool.eq_false_iff.mpr c19
          subst c19
          have H1 : (some false) = some r := by rw [if_neg (show ¬ (false = true) by decide)] at H; exact H
          clear H
          have H := H1
          clear H1
          obtain rfl := Option.some.inj H
          exact absurd hr_ (by decide)
        ·replace c17 := Bool.eq_false_iff.mpr c17
         subst c17
         have H1 : (some false) = some r := by rw [if_neg (show ¬ (false = true) by decide)] at H; exact H
         clear H
         have H := H1
         clear H1
         obtain rfl := Option.some.inj H
         exact absurd hr_ (by decide)
       ·replace c15 := Bool.eq_false_iff.mpr c15
        subst c15
        have H1 : (some false) = some r := by rw [if_neg (show ¬ (false = true) by decide)] at H; exact H
        clear H
        have H := H1
        clear H1
        obtain rfl := Option.some.inj H
        exact absurd hr_ (by decide)
      ·rw [if_neg c13] at H
       have c13b0 : (a0_5 == a1_5) = false := beq_eq_false_iff_ne.mpr c13
       have c13b1 : (a0_5 != a1_5) = true := bne_iff_ne.mpr c13
       obtain rfl := Option.some.inj H
       exact absurd hr_ (by decide)
     ·replace c12 := Bool.eq_false_iff.mpr c12
      subst c12
      have H1 : (some false) = some r := by rw [if_neg (show ¬ (false = true) by decide)] at H; exact H
      clear H
      have H := H1
      clear H1
      obtain rfl := Option.some.inj H
      exact absurd hr_ (by decide)
    ·replace c10 := Bool.eq_false_iff.mpr c10
     subst c10
     have H1 : (some false) = some r := by rw [if_neg (show ¬ (false = true) by decide)] at H; exact H
     clear H
     have H := H1
     clear H1
     obtain rfl := Option.some.inj H
     exact absurd hr_ (by decide)
   ·replace c8 := Bool.eq_false_iff.mpr c8
    subst c8
    have H1 : (some false) = some r := by rw [if_neg (show ¬ (false = true) by decide)] at H; exact H
    clear H
    have H := H1
    clear H1
    obtain rfl := Option.some.inj H
    exact absurd hr_ (by decide)
  ·replace c6 := Bool.eq_false_iff.mpr c6
   subst c6
   have H1 : (some false) = some r := by rw [if_neg (show ¬ (false = true) by decide)] at H; exact H
   clear H
   have H := H1
   clear H1
   obtain rfl := Option.some.inj H
   exact absurd hr_ (by decide)
 ·replace c4 := Bool.eq_false_iff.mpr c4
  subst c4
  have H1 : (some false) = some r := by rw [if_neg (show ¬ (false = true) by decide)] at H; exact H
  clear H
  have H := H1
  clear H1
  obtain rfl := Option.some.inj H
  exact absurd hr_ (by decide)
end Go.Proofs.Ytbkahdpmpmalhaa.P
end
section
namespace Go.Proofs.Ytbkahdpmpmalhaa.P
open Go.RowKit Go.Proofs.YtbkahdpmpmalhaaW.PrintWords Go.Proofs.YtbkahdpmpmalhaaW.PrintLast Go.Proofs.YtbkahdpmpmalhaaW.PrintMore
attribute [local go_sem] max2_int min2_int max_two min_two max_three min_three max_four min_four   -- for this text's walks alone
set_option linter.unusedVariables false
set_option linter.unusedSimpArgs false

/-! ### laws_FnExactCountOf: function 6 -/
def laws_FnExactCountOf.f (k : Nat) (l0_0 : List (List Int)) (l0_1 : List Int) (l0_2 : List (S151)) (l0_3 : List (S74)) (l0_4 : List (S155)) (a0_5 : Int) (l0_6 : List (S144)) (l0_7 : List (S147)) (l0_8 : List Int) (l0_9 : List Int) (a1 : Int) : Option (Bool) := (laws_szMachine.f k l0_0 l0_1 l0_2 l0_3 l0_4 a0_5 l0_6 l0_7 l0_8 l0_9 1048576).bind fun t601 => (if t601 < 0 then (some true) else ((laws_toMachine.f k l0_0 l0_1 l0_2 l0_3 l0_4 a0_5 l0_6 l0_7 l0_8 l0_9).bind fun bt602 => ((spec_CountOf.f k bt602.1 bt602.2.1 bt602.2.2.1 bt602.2.2.2.1 bt602.2.2.2.2.1 bt602.2.2.2.2.2.1 bt602.2.2.2.2.2.2.1 bt602.2.2.2.2.2.2.2.1 bt602.2.2.2.2.2.2.2.2.1 bt602.2.2.2.2.2.2.2.2.2 a1).bind fun t630 => ((laws_toMachine.f k l0_0 l0_1 l0_2 l0_3 l0_4 a0_5 l0_6 l0_7 l0_8 l0_9).bind fun bt631 => ((impl_CountOf.f k bt631.1 bt631.2.1 bt631.2.2.1 bt631.2.2.2.1 bt631.2.2.2.2.1 bt631.2.2.2.2.2.1 bt631.2.2.2.2.2.2.1 bt631.2.2.2.2.2.2.2.1 bt631.2.2.2.2.2.2.2.2.1 bt631.2.2.2.2.2.2.2.2.2 a1).bind fun t660 => (if t660 = t630 then ((laws_toMachine.f k l0_0 l0_1 l0_2 l0_3 l0_4 a0_5 l0_6 l0_7 l0_8 l0_9).bind fun bt661 => ((laws_eqMachine.f k bt631.1 bt631.2.1 bt631.2.2.1 bt631.2.2.2.1 bt631.2.2.2.2.1 bt631.2.2.2.2.2.1 bt631.2.2.2.2.2.2.1 bt631.2.2.2.2.2.2.2.1 bt631.2.2.2.2.2.2.2.2.1 bt631.2.2.2.2.2.2.2.2.2 bt661.1 bt661.2.1 bt661.2.2.1 bt661.2.2.2.1 bt661.2.2.2.2.1 bt661.2.2.2.2.2.1 bt661.2.2.2.2.2.2.1 bt661.2.2.2.2.2.2.2.1 bt661.2.2.2.2.2.2.2.2.1 bt661.2.2.2.2.2.2.2.2.2).bind fun t689 => (if t689 = true then (some true) else (some false)))) else (some false)))))))
theorem laws_FnExactCountOf.mono : ∀ a0 a1 a2 a3 a4 a5 a6 a7 a8 a9 a10 k, LeO (laws_FnExactCountOf.f k a0 a1 a2 a3 a4 a5 a6 a7 a8 a9 a10) (laws_FnExactCountOf.f (k + 1) a0 a1 a2 a3 a4 a5 a6 a7 a8 a9 a10) := by
 intro a0 a1 a2 a3 a4 a5 a6 a7 a8 a9 a10 k
 unfold laws_FnExactCountOf.f
 repeat' first
   | (with_reducible exact impl_CountOf.mono _ _ _ _ _ _ _ _ _ _ _ _)
   | (with_reducible exact laws_eqMachine.mono _ _ _ _ _ _ _ _ _ _ _ _ _ _ _ _ _ _ _ _ _)
   | (with_reducible exact laws_szMachine.mono _ _ _ _ _ _ _ _ _ _ _ _)
   | (with_reducible exact laws_toMachine.mono _ _ _ _ _ _ _ _ _ _ _)
   | (with_reducible exact spec_CountOf.mono _ _ _ _ _ _ _ _ _ _ _ _)
   | (with_reducible exact LeO.refl _)
   | (with_reducible exact LeO.none _)
   | (with_reducible refine LeO.ite ?_ ?_)
   | (with_reducible refine LeO.bind ?_ (fun _ => ?_))
   | exact impl_CountOf.mono _ _ _ _ _ _ _ _ _ _ _ _
   | exact laws_eqMachine.mono _ _ _ _ _ _ _ _ _ _ _ _ _ _ _ _ _ _ _ _ _
   | exact laws_szMachine.mono _ _ _ _ _ _ _ _ _ _ _ _
   | exact laws_toMachine.mono _ _ _ _ _ _ _ _ _ _ _
   | exact spec_CountOf.mono _ _ _ _ _ _ _ _ _ _ _ _
   | exact LeO.none _
   | refine LeO.ite ?_ ?_
   | refine LeO.bind ?_ (fun _ => ?_)
set_option maxHeartbeats 200000000 in
set_option maxRecDepth 100000 in
theorem laws_FnExactCountOf.calls (k : Nat) (A0_0 : Option Addr) (c0_0 : Nat) (l0_0 : List (List Int)) (A0_1 : Option Addr) (c0_1 : Nat) (l0_1 : List Int) (A0_2 : Option Addr) (c0_2 : Nat) (l0_2 : List (S151)) (A0_3 : Option Addr) (c0_3 : Nat) (l0_3 : List (S74)) (A0_4 : Option Addr) (c0_4 : Nat) (l0_4 : List (S155)) (a0_5 : Int) (A0_6 : Option Addr) (c0_6 : Nat) (l0_6 : List (S144)) (A0_7 : Option Addr) (c0_7 : Nat) (l0_7 : List (S147)) (A0_8 : Option Addr) (c0_8 : Nat) (l0_8 : List Int) (A0_9 : Option Addr) (c0_9 : Nat) (l0_9 : List Int) (a1 : Int) (r : Bool) (w : World) (hr0_0 : Kd.C (Kd.slice 3 (Kd.int .i64)) w A0_0 l0_0.length l0_0) (hc0_0 : l0_0.length ≤ c0_0) (hr0_1 : Kd.C (Kd.int .i64) w A0_1 l0_1.length l0_1) (hc0_1 : l0_1.length ≤ c0_1) (hr0_2 : Kd.C k151 w A0_2 l0_2.length l0_2) (hc0_2 : l0_2.length ≤ c0_2) (hr0_3 : Kd.C k74 w A0_3 l0_3.length l0_3) (hc0_3 : l0_3.length ≤ c0_3) (hr0_4 : Kd.C k155 w A0_4 l0_4.length l0_4) (hc0_4 : l0_4.length ≤ c0_4) (hr0_6 : Kd.C k144 w A0_6 l0_6.length l0_6) (hc0_6 : l0_6.length ≤ c0_6) (hr0_7 : Kd.C k147 w A0_7 l0_7.length l0_7) (hc0_7 : l0_7.length ≤ c0_7) (hr0_8 : Kd.C (Kd.int .i64) w A0_8 l0_8.length l0_8) (hc0_8 : l0_8.length ≤ c0_8) (hr0_9 : Kd.C (Kd.int .i64) w A0_9 l0_9.length l0_9) (hc0_9 : l0_9.length ≤ c0_9) (h : laws_FnExactCountOf.f k l0_0 l0_1 l0_2 l0_3 l0_4 a0_5 l0_6 l0_7 l0_8 l0_9 a1 = some r) (hr_ : r = true) :
  Calls Try.prog 6 #[.agg #[.slice A0_0 l0_0.length c0_0, .slice A0_1 l0_1.length c0_1, .slice A0_2 l0_2.length c0_2, .slice A0_3 l0_3.length c0_3, .slice A0_4 l0_4.length c0_4, .int .i64 a0_5, .slice A0_6 l0_6.length c0_6, .slice A0_7 l0_7.length c0_7, .slice A0_8 l0_8.length c0_8, .slice A0_9 l0_9.length c0_9], .int .i64 a1] w fun e w' => e = .returned (.bool r) ∧ Below w.heap.size w w' := by
 have hu48 := Try.underlying48
 have hu56 := Try.underlying56
 have HR0_0 := Aside0.mk hr0_0
 have HC0_0 := Aside0.mk hc0_0
 clear hr0_0 hc0_0
 have HR0_1 := Aside0.mk hr0_1
 have HC0_1 := Aside0.mk hc0_1
 clear hr0_1 hc0_1
 have HR0_2 := Aside0.mk hr0_2
 have HC0_2 := Aside0.mk hc0_2
 clear hr0_2 hc0_2
 have HR0_3 := Aside0.mk hr0_3
 have HC0_3 := Aside0.mk hc0_3
 clear hr0_3 hc0_3
 have HR0_4 := Aside0.mk hr0_4
 have HC0_4 := Aside0.mk hc0_4
 clear hr0_4 hc0_4
 have HR0_6 := Aside0.mk hr0_6
 have HC0_6 := Aside0.mk hc0_6
 clear hr0_6 hc0_6
 have HR0_7 := Aside0.mk hr0_7
 have HC0_7 := Aside0.mk hc0_7
 clear hr0_7 hc0_7
 have HR0_8 := Aside0.mk hr0_8
 have HC0_8 := Aside0.mk hc0_8
 clear hr0_8 hc0_8
 have HR0_9 := Aside0.mk hr0_9
 have HC0_9 := Aside0.mk hc0_9
 clear hr0_9 hc0_9
 have HB := Aside0.mk (Below.refl w.heap.size w)
 have H : ((laws_szMachine.f k l0_0 l0_1 l0_2 l0_3 l0_4 a0_5 l0_6 l0_7 l0_8 l0_9 1048576).bind fun t601 => (if t601 < 0 then (some true) else ((laws_toMachine.f k l0_0 l0_1 l0_2 l0_3 l0_4 a0_5 l0_6 l0_7 l0_8 l0_9).bind fun bt602 => ((spec_CountOf.f k bt602.1 bt602.2.1 bt602.2.2.1 bt602.2.2.2.1 bt602.2.2.2.2.1 bt602.2.2.2.2.2.1 bt602.2.2.2.2.2.2.1 bt602.2.2.2.2.2.2.2.1 bt602.2.2.2.2.2.2.2.2.1 bt602.2.2.2.2.2.2.2.2.2 a1).bind fun t630 => ((laws_toMachine.f k l0_0 l0_1 l0_2 l0_3 l0_4 a0_5 l0_6 l0_7 l0_8 l0_9).bind fun bt631 => ((impl_CountOf.f k bt631.1 bt631.2.1 bt631.2.2.1 bt631.2.2.2.1 bt631.2.2.2.2.1 bt631.2.2.2.2.2.1 bt631.2.2.2.2.2.2.1 bt631.2.2.2.2.2.2.2.1 bt631.2.2.2.2.2.2.2.2.1 bt631.2.2.2.2.2.2.2.2.2 a1).bind fun t660 => (if t660 = t630 then ((laws_toMachine.f k l0_0 l0_1 l0_2 l0_3 l0_4 a0_5 l0_6 l0_7 l0_8 l0_9).bind fun bt661 => ((laws_eqMachine.f k bt631.1 bt631.2.1 bt631.2.2.1 bt631.2.2.2.1 bt631.2.2.2.2.1 bt631.2.2.2.2.2.1 bt631.2.2.2.2.2.2.1 bt631.2.2.2.2.2.2.2.1 bt631.2.2.2.2.2.2.2.2.1 bt631.2.2.2.2.2.2.2.2.2 bt661.1 bt661.2.1 bt661.2.2.1 bt661.2.2.2.1 bt661.2.2.2.2.1 bt661.2.2.2.2.2.1 bt661.2.2.2.2.2.2.1 bt661.2.2.2.2.2.2.2.1 bt661.2.2.2.2.2.2.2.2.1 bt661.2.2.2.2.2.2.2.2.2).bind fun t689 => (if t689 = true then (some true) else (some false)))) else (some false)))))))) = some r := h
 clear h
 replace H := Option.bind_eq_some_iff.mp H
 obtain ⟨t601, A30, H⟩ := H
 replace H : (if t601 < 0 then (some true) else ((laws_toMachine.f k l0_0 l0_1 l0_2 l0_3 l0_4 a0_5 l0_6 l0_7 l0_8 l0_9).bind fun bt602 => ((spec_CountOf.f k bt602.1 bt602.2.1 bt602.2.2.1 bt602.2.2.2.1 bt602.2.2.2.2.1 bt602.2.2.2.2.2.1 bt602.2.2.2.2.2.2.1 bt602.2.2.2.2.2.2.2.1 bt602.2.2.2.2.2.2.2.2.1 bt602.2.2.2.2.2.2.2.2.2 a1).bind fun t630 => ((laws_toMachine.f k l0_0 l0_1 l0_2 l0_3 l0_4 a0_5 l0_6 l0_7 l0_8 l0_9).bind fun bt631 => ((impl_CountOf.f k bt631.1 bt631.2.1 bt631.2.2.1 bt631.2.2.2.1 bt631.2.2.2.2.1 bt631.2.2.2.2.2.1 bt631.2.2.2.2.2.2.1 bt631.2.2.2.2.2.2.2.1 bt631.2.2.2.2.2.2.2.2.1 bt631.2.2.2.2.2.2.2.2.2 a1).bind fun t660 => (if t660 = t630 then ((laws_toMachine.f k l0_0 l0_1 l0_2 l0_3 l0_4 a0_5 l0_6 l0_7 l0_8 l0_9).bind fun bt661 => ((laws_eqMachine.f k bt631.1 bt631.2.1 bt631.2.2.1 bt631.2.2.2.1 bt631.2.2.2.2.1 bt631.2.2.2.2.2.1 bt631.2.2.2.2.2.2.1 bt631.2.2.2.2.2.2.2.1 bt631.2.2.2.2.2.2.2.2.1 bt631.2.2.2.2.2.2.2.2.2 bt661.1 bt661.2.1 bt661.2.2.1 bt661.2.2.2.1 bt661.2.2.2.2.1 bt661.2.2.2.2.2.1 bt661.2.2.2.2.2.2.1 bt661.2.2.2.2.2.2.2.1 bt661.2.2.2.2.2.2.2.2.1 bt661.2.2.2.2.2.2.2.2.2).bind fun t689 => (if t689 = true then (some true) else (some false)))) else (some false))))))) = some r := H
 have A3 := Aside0.mk A30
 clear A30
 by_cases c4 : t601 < 0
 ·rw [if_pos c4] at H
  have c4b0 : decide (t601 < 0) = true := decide_eq_true c4
  clear c4
  obtain rfl := Option.some.inj H
  first
  | exact absurd hr_ (by decide)
  | (skip
     go_enter Try.func6, Try.ntmps6
     go_wp2_with (first | ((with_reducible refine gate_dst (N := 2) rfl ?_); refine box_event ?hg (N := 2) ?hd (cs := #[.slice A0_0 l0_0.length c0_0, .slice A0_1 l0_1.length c0_1, .slice A0_2 l0_2.length c0_2, .slice A0_3 l0_3.length c0_3, .slice A0_4 l0_4.length c0_4, .int .i64 a0_5, .slice A0_6 l0_6.length c0_6, .slice A0_7 l0_7.length c0_7, .slice A0_8 l0_8.length c0_8, .slice A0_9 l0_9.length c0_9]) (t := 48) ?hr ?_; (case hd => rfl); (case hg => rfl); (case hr => first | (go_simp; done) | (go_simp; rfl)); intro gb600 hg w5 hbox hb; have n0_ := Aside0.mk (below_step (by repeat (first | (with_reducible first | exact HB.out | apply below_alloc | apply pw_below_drewN | apply below_drew1) | exact HB.out)) hb); have n1_ := Aside0.mk (hbox); have n2_ := Aside0.mk ((by rw [hg]; exact (below_size (by repeat (first | (with_reducible first | exact HB.out | apply below_alloc | apply pw_below_drewN | apply below_drew1) | exact HB.out))) : w.heap.size ≤ gb600)); have n3_ := Aside0.mk ((by rw [hg]; exact (below_size (by repeat (first | (with_reducible first | exact HB.out | apply below_alloc | apply pw_below_drewN | apply below_drew1) | exact HB.out))) : w.heap.size ≤ gb600)); clear HB; have HB := n0_; have BK600 := n1_; have GW600 := n2_; have GE600 := n3_; clear n0_ n1_ n2_ n3_; clear hb hbox hg; have hcz6_0 : w5.cell? ⟨gb600, 0, none⟩ = some (.slice A0_0 l0_0.length c0_0) := (blk_cell BK600.out 0).trans rfl; have hcz6_1 : w5.cell? ⟨gb600, 1, none⟩ = some (.slice A0_1 l0_1.length c0_1) := (blk_cell BK600.out 1).trans rfl; have hcz6_2 : w5.cell? ⟨gb600, 2, none⟩ = some (.slice A0_2 l0_2.length c0_2) := (blk_cell BK600.out 2).trans rfl; have hcz6_3 : w5.cell? ⟨gb600, 3, none⟩ = some (.slice A0_3 l0_3.length c0_3) := (blk_cell BK600.out 3).trans rfl; have hcz6_4 : w5.cell? ⟨gb600, 4, none⟩ = some (.slice A0_4 l0_4.length c0_4) := (blk_cell BK600.out 4).trans rfl; have hcz6_5 : w5.cell? ⟨gb600, 5, none⟩ = some (.int .i64 a0_5) := (blk_cell BK600.out 5).trans rfl; have hcz6_6 : w5.cell? ⟨gb600, 6, none⟩ = some (.slice A0_6 l0_6.length c0_6) := (blk_cell BK600.out 6).trans rfl; have hcz6_7 : w5.cell? ⟨gb600, 7, none⟩ = some (.slice A0_7 l0_7.length c0_7) := (blk_cell BK600.out 7).trans rfl; have hcz6_8 : w5.cell? ⟨gb600, 8, none⟩ = some (.slice A0_8 l0_8.length c0_8) := (blk_cell BK600.out 8).trans rfl; have hcz6_9 : w5.cell? ⟨gb600, 9, none⟩ = some (.slice A0_9 l0_9.length c0_9) := (blk_cell BK600.out 9).trans rfl; have hfz6_0 := blk_frozen BK600.out 0; have hfz6_1 := blk_frozen BK600.out 1; have hfz6_2 := blk_frozen BK600.out 2; have hfz6_3 := blk_frozen BK600.out 3; have hfz6_4 := blk_frozen BK600.out 4; have hfz6_5 := blk_frozen BK600.out 5; have hfz6_6 := blk_frozen BK600.out 6; have hfz6_7 := blk_frozen BK600.out 7; have hfz6_8 := blk_frozen BK600.out 8; have hfz6_9 := blk_frozen BK600.out 9) | ((with_reducible refine gate_callee (f := 25) rfl ?_); refine goesL_ (some 11) rfl rfl Try.func25 (by kernel_rfl) rfl #[.agg #[.slice A0_0 l0_0.length c0_0, .slice A0_1 l0_1.length c0_1, .slice A0_2 l0_2.length c0_2, .slice A0_3 l0_3.length c0_3, .slice A0_4 l0_4.length c0_4, .int .i64 a0_5, .slice A0_6 l0_6.length c0_6, .slice A0_7 l0_7.length c0_7, .slice A0_8 l0_8.length c0_8, .slice A0_9 l0_9.length c0_9], .int .i64 1048576] rfl (by (try simp only [List.map_toArray, List.map_cons, List.map_nil]); first | done | rfl | (simp only [List.length_drop, List.length_take]; rfl)) ?_; (with_reducible refine (laws_szMachine.calls k _ _ l0_0 _ _ l0_1 _ _ l0_2 _ _ l0_3 _ _ l0_4 a0_5 _ _ l0_6 _ _ l0_7 _ _ l0_8 _ _ l0_9 1048576 t601 _ ?side1 ?side2 ?side3 ?side4 ?side5 ?side6 ?side7 ?side8 ?side9 ?side10 ?side11 ?side12 ?side13 ?side14 ?side15 ?side16 ?side17 ?side18 A3.out).mono ?_); (case side1 => repeat (first | exact (Kd.C_below HR0_0.out HB.out) | (with_reducible refine Kd.C_alloc ?_ _) | (with_reducible refine Kd.C_drewN ?_ _) | (with_reducible refine Kd.C_drew ?_))); (case side2 => exact HC0_0.out); (case side3 => repeat (first | exact (Kd.C_below HR0_1.out HB.out) | (with_reducible refine Kd.C_alloc ?_ _) | (with_reducible refine Kd.C_drewN ?_ _) | (with_reducible refine Kd.C_drew ?_))); (case side4 => exact HC0_1.out); (case side5 => repeat (first | exact (Kd.C_below HR0_2.out HB.out) | (with_reducible refine Kd.C_alloc ?_ _) | (with_reducible refine Kd.C_drewN ?_ _) | (with_reducible refine Kd.C_drew ?_))); (case side6 => exact HC0_2.out); (case side7 => repeat (first | exact (Kd.C_below HR0_3.out HB.out) | (with_reducible refine Kd.C_alloc ?_ _) | (with_reducible refine Kd.C_drewN ?_ _) | (with_reducible refine Kd.C_drew ?_))); (case side8 => exact HC0_3.out); (case side9 => repeat (first | exact (Kd.C_below HR0_4.out HB.out) | (with_reducible refine Kd.C_alloc ?_ _) | (with_reducible refine Kd.C_drewN ?_ _) | (with_reducible refine Kd.C_drew ?_))); (case side10 => exact HC0_4.out); (case side11 => repeat (first | exact (Kd.C_below HR0_6.out HB.out) | (with_reducible refine Kd.C_alloc ?_ _) | (with_reducible refine Kd.C_drewN ?_ _) | (with_reducible refine Kd.C_drew ?_))); (case side12 => exact HC0_6.out); (case side13 => repeat (first | exact (Kd.C_below HR0_7.out HB.out) | (with_reducible refine Kd.C_alloc ?_ _) | (with_reducible refine Kd.C_drewN ?_ _) | (with_reducible refine Kd.C_drew ?_))); (case side14 => exact HC0_7.out); (case side15 => repeat (first | exact (Kd.C_below HR0_8.out HB.out) | (with_reducible refine Kd.C_alloc ?_ _) | (with_reducible refine Kd.C_drewN ?_ _) | (with_reducible refine Kd.C_drew ?_))); (case side16 => exact HC0_8.out); (case side17 => repeat (first | exact (Kd.C_below HR0_9.out HB.out) | (with_reducible refine Kd.C_alloc ?_ _) | (with_reducible refine Kd.C_drewN ?_ _) | (with_reducible refine Kd.C_drew ?_))); (case side18 => exact HC0_9.out); rintro e w7 ⟨rfl, hb⟩; refine ⟨_, rfl, ?_⟩; have n0_ := Aside0.mk (blk_below (g := gb600) (o := .cells #[.slice A0_0 l0_0.length c0_0, .slice A0_1 l0_1.length c0_1, .slice A0_2 l0_2.length c0_2, .slice A0_3 l0_3.length c0_3, .slice A0_4 l0_4.length c0_4, .int .i64 a0_5, .slice A0_6 l0_6.length c0_6, .slice A0_7 l0_7.length c0_7, .slice A0_8 l0_8.length c0_8, .slice A0_9 l0_9.length c0_9] 48 (0, 0)) (by (with_reducible repeat (first | refine blk_drewN ?_ _ | refine blk_drew ?_ | refine blk_alloc ?_ _)); exact BK600.out) hb); have n1_ := Aside0.mk (below_step (by repeat (first | (with_reducible first | exact HB.out | apply below_alloc | apply pw_below_drewN | apply below_drew1 | refine below_set ?_ GE600.out) | exact HB.out)) hb); clear BK600; clear HB; have BK600 := n0_; have HB := n1_; clear n0_ n1_; (try clear hb); (try clear hb2); (try clear hk); (try clear hi)))
     go_ret
     exact ⟨by first | rfl | (simp [errW_none, errW_some] <;> rfl) | (simp [*, errW_none, errW_some] <;> rfl), by repeat (first | (with_reducible first | exact HB.out | apply below_alloc | apply pw_below_drewN | apply below_drew1 | refine below_set ?_ GE600.out) | exact HB.out)⟩)
 ·rw [if_neg c4] at H
  have c4b0 : decide (t601 < 0) = false := decide_eq_false c4
  clear c4
  replace H := Option.bind_eq_some_iff.mp H
  obtain ⟨⟨t602, t605, t608, t611, t614, t617, t618, t621, t624, t627⟩, A80, H⟩ := H
  replace H : ((spec_CountOf.f k t602 t605 t608 t611 t614 t617 t618 t621 t624 t627 a1).bind fun t630 => ((laws_toMachine.f k l0_0 l0_1 l0_2 l0_3 l0_4 a0_5 l0_6 l0_7 l0_8 l0_9).bind fun bt631 => ((impl_CountOf.f k bt631.1 bt631.2.1 bt631.2.2.1 bt631.2.2.2.1 bt631.2.2.2.2.1 bt631.2.2.2.2.2.1 bt631.2.2.2.2.2.2.1 bt631.2.2.2.2.2.2.2.1 bt631.2.2.2.2.2.2.2.2.1 bt631.2.2.2.2.2.2.2.2.2 a1).bind fun t660 => (if t660 = t630 then ((laws_toMachine.f k l0_0 l0_1 l0_2 l0_3 l0_4 a0_5 l0_6 l0_7 l0_8 l0_9).bind fun bt661 => ((laws_eqMachine.f k bt631.1 bt631.2.1 bt631.2.2.1 bt631.2.2.2.1 bt631.2.2.2.2.1 bt631.2.2.2.2.2.1 bt631.2.2.2.2.2.2.1 bt631.2.2.2.2.2.2.2.1 bt631.2.2.2.2.2.2.2.2.1 bt631.2.2.2.2.2.2.2.2.2 bt661.1 bt661.2.1 bt661.2.2.1 bt661.2.2.2.1 bt661.2.2.2.2.1 bt661.2.2.2.2.2.1 bt661.2.2.2.2.2.2.1 bt661.2.2.2.2.2.2.2.1 bt661.2.2.2.2.2.2.2.2.1 bt661.2.2.2.2.2.2.2.2.2).bind fun t689 => (if t689 = true then (some true) else (some false)))) else (some false))))) = some r := H
  have A8 := Aside0.mk A80
  clear A80
  replace H := Option.bind_eq_some_iff.mp H
  obtain ⟨t630, A90, H⟩ := H
  replace H : ((laws_toMachine.f k l0_0 l0_1 l0_2 l0_3 l0_4 a0_5 l0_6 l0_7 l0_8 l0_9).bind fun bt631 => ((impl_CountOf.f k bt631.1 bt631.2.1 bt631.2.2.1 bt631.2.2.2.1 bt631.2.2.2.2.1 bt631.2.2.2.2.2.1 bt631.2.2.2.2.2.2.1 bt631.2.2.2.2.2.2.2.1 bt631.2.2.2.2.2.2.2.2.1 bt631.2.2.2.2.2.2.2.2.2 a1).bind fun t660 => (if t660 = t630 then ((laws_toMachine.f k l0_0 l0_1 l0_2 l0_3 l0_4 a0_5 l0_6 l0_7 l0_8 l0_9).bind fun bt661 => ((laws_eqMachine.f k bt631.1 bt631.2.1 bt631.2.2.1 bt631.2.2.2.1 bt631.2.2.2.2.1 bt631.2.2.2.2.2.1 bt631.2.2.2.2.2.2.1 bt631.2.2.2.2.2.2.2.1 bt631.2.2.2.2.2.2.2.2.1 bt631.2.2.2.2.2.2.2.2.2 bt661.1 bt661.2.1 bt661.2.2.1 bt661.2.2.2.1 bt661.2.2.2.2.1 bt661.2.2.2.2.2.1 bt661.2.2.2.2.2.2.1 bt661.2.2.2.2.2.2.2.1 bt661.2.2.2.2.2.2.2.2.1 bt661.2.2.2.2.2.2.2.2.2).bind fun t689 => (if t689 = true then (some true) else (some false)))) else (some false)))) = some r := H
  have A9 := Aside0.mk A90
  clear A90
  replace H := Option.bind_eq_some_iff.mp H
  obtain ⟨⟨t631, t634, t637, t640, t643, t646, t647, t650, t653, t656⟩, A100, H⟩ := H
  replace H : ((impl_CountOf.f k t631 t634 t637 t640 t643 t646 t647 t650 t653 t656 a1).bind fun t660 => (if t660 = t630 then ((laws_toMachine.f k l0_0 l0_1 l0_2 l0_3 l0_4 a0_5 l0_6 l0_7 l0_8 l0_9).bind fun bt661 => ((laws_eqMachine.f k t631 t634 t637 t640 t643 t646 t647 t650 t653 t656 bt661.1 bt661.2.1 bt661.2.2.1 bt661.2.2.2.1 bt661.2.2.2.2.1 bt661.2.2.2.2.2.1 bt661.2.2.2.2.2.2.1 bt661.2.2.2.2.2.2.2.1 bt661.2.2.2.2.2.2.2.2.1 bt661.2.2.2.2.2.2.2.2.2).bind fun t689 => (if t689 = true then (some true) else (some false)))) else (some false))) = some r := H
  have A10 := Aside0.mk A100
  clear A100
  replace H := Option.bind_eq_some_iff.mp H
  obtain ⟨t660, A110, H⟩ := H
  replace H : (if t660 = t630 then ((laws_toMachine.f k l0_0 l0_1 l0_2 l0_3 l0_4 a0_5 l0_6 l0_7 l0_8 l0_9).bind fun bt661 => ((laws_eqMachine.f k t631 t634 t637 t640 t643 t646 t647 t650 t653 t656 bt661.1 bt661.2.1 bt661.2.2.1 bt661.2.2.2.1 bt661.2.2.2.2.1 bt661.2.2.2.2.2.1 bt661.2.2.2.2.2.2.1 bt661.2.2.2.2.2.2.2.1 bt661.2.2.2.2.2.2.2.2.1 bt661.2.2.2.2.2.2.2.2.2).bind fun t689 => (if t689 = true then (some true) else (some false)))) else (some false)) = some r := H
  have A11 := Aside0.mk A110
  clear A110
  by_cases c12 : t660 = t630
  ·rw [if_pos c12] at H
   have c12b0 : (t660 == t630) = true := beq_iff_eq.mpr c12
   have c12b1 : (t660 != t630) = false := bne_eq_false_iff_eq.mpr c12
   clear c12
   replace H := Option.bind_eq_some_iff.mp H
   obtain ⟨⟨t661, t664, t667, t670, t673, t676, t677, t680, t683, t686⟩, A130, H⟩ := H
   replace H : ((laws_eqMachine.f k t631 t634 t637 t640 t643 t646 t647 t650 t653 t656 t661 t664 t667 t670 t673 t676 t677 t680 t683 t686).bind fun t689 => (if t689 = true then (some true) else (some false))) = some r := H
   have A13 := Aside0.mk A130
   clear A130
   replace H := Option.bind_eq_some_iff.mp H
   obtain ⟨t689, A140, H⟩ := H
   replace H : (if t689 = true then (some true) else (some false)) = some r := H
   have A14 := Aside0.mk A140
   clear A140
   by_cases c15 : t689 = true
   ·subst c15
    have H1 : (some true) = some r := by rw [if_pos rfl] at H; exact H
    clear H
    have H := H1
    clear H1
    obtain rfl := Option.some.inj H
    first
    | exact absurd hr_ (by decide)
    | (skip
       go_enter Try.func6, Try.ntmps6
       try go_wp2_with (first | ((with_reducible refine gate_dst (N := 2) rfl ?_); refine box_event ?hg (N := 2) ?hd (cs := #[.slice A0_0 l0_0.length c0_0, .slice A0_1 l0_1.length c0_1, .slice A0_2 l0_2.length c0_2, .slice A0_3 l0_3.length c0_3, .slice A0_4 l0_4.length c0_4, .int .i64 a0_5, .slice A0_6 l0_6.length c0_6, .slice A0_7 l0_7.length c0_7, .slice A0_8 l0_8.length c0_8, .slice A0_9 l0_9.length c0_9]) (t := 48) ?hr ?_; (case hd => rfl); (case hg => rfl); (case hr => first | (go_simp; done) | (go_simp; rfl)); intro gb600 hg w16 hbox hb; have n0_ := Aside0.mk (below_step (by repeat (first | (with_reducible first | exact HB.out | apply below_alloc | apply pw_below_drewN | apply below_drew1) | exact HB.out)) hb); have n1_ := Aside0.mk (hbox); have n2_ := Aside0.mk ((by rw [hg]; exact (below_size (by repeat (first | (with_reducible first | exact HB.out | apply below_alloc | apply pw_below_drewN | apply below_drew1) | exact HB.out))) : w.heap.size ≤ gb600)); have n3_ := Aside0.mk ((by rw [hg]; exact (below_size (by repeat (first | (with_reducible first | exact HB.out | apply below_alloc | apply pw_below_drewN | apply below_drew1) | exact HB.out))) : w.heap.size ≤ gb600)); clear HB; have HB := n0_; have BK600 := n1_; have GW600 := n2_; have GE600 := n3_; clear n0_ n1_ n2_ n3_; clear hb hbox hg; have hcz17_0 : w16.cell? ⟨gb600, 0, none⟩ = some (.slice A0_0 l0_0.length c0_0) := (blk_cell BK600.out 0).trans rfl; have hcz17_1 : w16.cell? ⟨gb600, 1, none⟩ = some (.slice A0_1 l0_1.length c0_1) := (blk_cell BK600.out 1).trans rfl; have hcz17_2 : w16.cell? ⟨gb600, 2, none⟩ = some (.slice A0_2 l0_2.length c0_2) := (blk_cell BK600.out 2).trans rfl; have hcz17_3 : w16.cell? ⟨gb600, 3, none⟩ = some (.slice A0_3 l0_3.length c0_3) := (blk_cell BK600.out 3).trans rfl; have hcz17_4 : w16.cell? ⟨gb600, 4, none⟩ = some (.slice A0_4 l0_4.length c0_4) := (blk_cell BK600.out 4).trans rfl; have hcz17_5 : w16.cell? ⟨gb600, 5, none⟩ = some (.int .i64 a0_5) := (blk_cell BK600.out 5).trans rfl; have hcz17_6 : w16.cell? ⟨gb600, 6, none⟩ = some (.slice A0_6 l0_6.length c0_6) := (blk_cell BK600.out 6).trans rfl; have hcz17_7 : w16.cell? ⟨gb600, 7, none⟩ = some (.slice A0_7 l0_7.length c0_7) := (blk_cell BK600.out 7).trans rfl; have hcz17_8 : w16.cell? ⟨gb600, 8, none⟩ = some (.slice A0_8 l0_8.length c0_8) := (blk_cell BK600.out 8).trans rfl; have hcz17_9 : w16.cell? ⟨gb600, 9, none⟩ = some (.slice A0_9 l0_9.length c0_9) := (blk_cell BK600.out 9).trans rfl; have hfz17_0 := blk_frozen BK600.out 0; have hfz17_1 := blk_frozen BK600.out 1; have hfz17_2 := blk_frozen BK600.out 2; have hfz17_3 := blk_frozen BK600.out 3; have hfz17_4 := blk_frozen BK600.out 4; have hfz17_5 := blk_frozen BK600.out 5; have hfz17_6 := blk_frozen BK600.out 6; have hfz17_7 := blk_frozen BK600.out 7; have hfz17_8 := blk_frozen BK600.out 8; have hfz17_9 := blk_frozen BK600.out 9) | ((with_reducible refine gate_callee (f := 25) rfl ?_); refine goesL_ (some 11) rfl rfl Try.func25 (by kernel_rfl) rfl #[.agg #[.slice A0_0 l0_0.length c0_0, .slice A0_1 l0_1.length c0_1, .slice A0_2 l0_2.length c0_2, .slice A0_3 l0_3.length c0_3, .slice A0_4 l0_4.length c0_4, .int .i64 a0_5, .slice A0_6 l0_6.length c0_6, .slice A0_7 l0_7.length c0_7, .slice A0_8 l0_8.length c0_8, .slice A0_9 l0_9.length c0_9], .int .i64 1048576] rfl (by (try simp only [List.map_toArray, List.map_cons, List.map_nil]); first | done | rfl | (simp only [List.length_drop, List.length_take]; rfl)) ?_; (with_reducible refine (laws_szMachine.calls k _ _ l0_0 _ _ l0_1 _ _ l0_2 _ _ l0_3 _ _ l0_4 a0_5 _ _ l0_6 _ _ l0_7 _ _ l0_8 _ _ l0_9 1048576 t601 _ ?side1 ?side2 ?side3 ?side4 ?side5 ?side6 ?side7 ?side8 ?side9 ?side10 ?side11 ?side12 ?side13 ?side14 ?side15 ?side16 ?side17 ?side18 A3.out).mono ?_); (case side1 => repeat (first | exact (Kd.C_below HR0_0.out HB.out) | (with_reducible refine Kd.C_alloc ?_ _) | (with_reducible refine Kd.C_drewN ?_ _) | (with_reducible refine Kd.C_drew ?_))); (case side2 => exact HC0_0.out); (case side3 => repeat (first | exact (Kd.C_below HR0_1.out HB.out) | (with_reducible refine Kd.C_alloc ?_ _) | (with_reducible refine Kd.C_drewN ?_ _) | (with_reducible refine Kd.C_drew ?_))); (case side4 => exact HC0_1.out); (case side5 => repeat (first | exact (Kd.C_below HR0_2.out HB.out) | (with_reducible refine Kd.C_alloc ?_ _) | (with_reducible refine Kd.C_drewN ?_ _) | (with_reducible refine Kd.C_drew ?_))); (case side6 => exact HC0_2.out); (case side7 => repeat (first | exact (Kd.C_below HR0_3.out HB.out) | (with_reducible refine Kd.C_alloc ?_ _) | (with_reducible refine Kd.C_drewN ?_ _) | (with_reducible refine Kd.C_drew ?_))); (case side8 => exact HC0_3.out); (case side9 => repeat (first | exact (Kd.C_below HR0_4.out HB.out) | (with_reducible refine Kd.C_alloc ?_ _) | (with_reducible refine Kd.C_drewN ?_ _) | (with_reducible refine Kd.C_drew ?_))); (case side10 => exact HC0_4.out); (case side11 => repeat (first | exact (Kd.C_below HR0_6.out HB.out) | (with_reducible refine Kd.C_alloc ?_ _) | (with_reducible refine Kd.C_drewN ?_ _) | (with_reducible refine Kd.C_drew ?_))); (case side12 => exact HC0_6.out); (case side13 => repeat (first | exact (Kd.C_below HR0_7.out HB.out) | (with_reducible refine Kd.C_alloc ?_ _) | (with_reducible refine Kd.C_drewN ?_ _) | (with_reducible refine Kd.C_drew ?_))); (case side14 => exact HC0_7.out); (case side15 => repeat (first | exact (Kd.C_below HR0_8.out HB.out) | (with_reducible refine Kd.C_alloc ?_ _) | (with_reducible refine Kd.C_drewN ?_ _) | (with_reducible refine Kd.C_drew ?_))); (case side16 => exact HC0_8.out); (case side17 => repeat (first | exact (Kd.C_below HR0_9.out HB.out) | (with_reducible refine Kd.C_alloc ?_ _) | (with_reducible refine Kd.C_drewN ?_ _) | (with_reducible refine Kd.C_drew ?_))); (case side18 => exact HC0_9.out); rintro e w18 ⟨rfl, hb⟩; refine ⟨_, rfl, ?_⟩; have n0_ := Aside0.mk (blk_below (g := gb600) (o := .cells #[.slice A0_0 l0_0.length c0_0, .slice A0_1 l0_1.length c0_1, .slice A0_2 l0_2.length c0_2, .slice A0_3 l0_3.length c0_3, .slice A0_4 l0_4.length c0_4, .int .i64 a0_5, .slice A0_6 l0_6.length c0_6, .slice A0_7 l0_7.length c0_7, .slice A0_8 l0_8.length c0_8, .slice A0_9 l0_9.length c0_9] 48 (0, 0)) (by (with_reducible repeat (first | refine blk_drewN ?_ _ | refine blk_drew ?_ | refine blk_alloc ?_ _)); exact BK600.out) hb); have n1_ := Aside0.mk (below_step (by repeat (first | (with_reducible first | exact HB.out | apply below_alloc | apply pw_below_drewN | apply below_drew1 | refine below_set ?_ GE600.out) | exact HB.out)) hb); clear BK600; clear HB; have BK600 := n0_; have HB := n1_; clear n0_ n1_; (try clear hb); (try clear hb2); (try clear hk); (try clear hi); have hcz19_0 : w18.cell? ⟨gb600, 0, none⟩ = some (.slice A0_0 l0_0.length c0_0) := (blk_cell BK600.out 0).trans rfl; have hcz19_1 : w18.cell? ⟨gb600, 1, none⟩ = some (.slice A0_1 l0_1.length c0_1) := (blk_cell BK600.out 1).trans rfl; have hcz19_2 : w18.cell? ⟨gb600, 2, none⟩ = some (.slice A0_2 l0_2.length c0_2) := (blk_cell BK600.out 2).trans rfl; have hcz19_3 : w18.cell? ⟨gb600, 3, none⟩ = some (.slice A0_3 l0_3.length c0_3) := (blk_cell BK600.out 3).trans rfl; have hcz19_4 : w18.cell? ⟨gb600, 4, none⟩ = some (.slice A0_4 l0_4.length c0_4) := (blk_cell BK600.out 4).trans rfl; have hcz19_5 : w18.cell? ⟨gb600, 5, none⟩ = some (.int .i64 a0_5) := (blk_cell BK600.out 5).trans rfl; have hcz19_6 : w18.cell? ⟨gb600, 6, none⟩ = some (.slice A0_6 l0_6.length c0_6) := (blk_cell BK600.out 6).trans rfl; have hcz19_7 : w18.cell? ⟨gb600, 7, none⟩ = some (.slice A0_7 l0_7.length c0_7) := (blk_cell BK600.out 7).trans rfl; have hcz19_8 : w18.cell? ⟨gb600, 8, none⟩ = some (.slice A0_8 l0_8.length c0_8) := (blk_cell BK600.out 8).trans rfl; have hcz19_9 : w18.cell? ⟨gb600, 9, none⟩ = some (.slice A0_9 l0_9.length c0_9) := (blk_cell BK600.out 9).trans rfl; have hfz19_0 := blk_frozen BK600.out 0; have hfz19_1 := blk_frozen BK600.out 1; have hfz19_2 := blk_frozen BK600.out 2; have hfz19_3 := blk_frozen BK600.out 3; have hfz19_4 := blk_frozen BK600.out 4; have hfz19_5 := blk_frozen BK600.out 5; have hfz19_6 := blk_frozen BK600.out 6; have hfz19_7 := blk_frozen BK600.out 7; have hfz19_8 := blk_frozen BK600.out 8; have hfz19_9 := blk_frozen BK600.out 9) | ((with_reducible refine gate_callee (f := 27) rfl ?_); refine goesL_ (some 15) rfl rfl Try.func27 (by kernel_rfl) rfl #[.agg #[.slice A0_0 l0_0.length c0_0, .slice A0_1 l0_1.length c0_1, .slice A0_2 l0_2.length c0_2, .slice A0_3 l0_3.length c0_3, .slice A0_4 l0_4.length c0_4, .int .i64 a0_5, .slice A0_6 l0_6.length c0_6, .slice A0_7 l0_7.length c0_7, .slice A0_8 l0_8.length c0_8, .slice A0_9 l0_9.length c0_9]] rfl (by (try simp only [List.map_toArray, List.map_cons, List.map_nil]); first | done | rfl | (simp only [List.length_drop, List.length_take]; rfl)) ?_; (with_reducible refine (laws_toMachine.calls k _ _ l0_0 _ _ l0_1 _ _ l0_2 _ _ l0_3 _ _ l0_4 a0_5 _ _ l0_6 _ _ l0_7 _ _ l0_8 _ _ l0_9 t602 t605 t608 t611 t614 t617 t618 t621 t624 t627 _ ?side1 ?side2 ?side3 ?side4 ?side5 ?side6 ?side7 ?side8 ?side9 ?side10 ?side11 ?side12 ?side13 ?side14 ?side15 ?side16 ?side17 ?side18 A8.out).mono ?_); (case side1 => repeat (first | exact (Kd.C_below HR0_0.out HB.out) | (with_reducible refine Kd.C_alloc ?_ _) | (with_reducible refine Kd.C_drewN ?_ _) | (with_reducible refine Kd.C_drew ?_))); (case side2 => exact HC0_0.out); (case side3 => repeat (first | exact (Kd.C_below HR0_1.out HB.out) | (with_reducible refine Kd.C_alloc ?_ _) | (with_reducible refine Kd.C_drewN ?_ _) | (with_reducible refine Kd.C_drew ?_))); (case side4 => exact HC0_1.out); (case side5 => repeat (first | exact (Kd.C_below HR0_2.out HB.out) | (with_reducible refine Kd.C_alloc ?_ _) | (with_reducible refine Kd.C_drewN ?_ _) | (with_reducible refine Kd.C_drew ?_))); (case side6 => exact HC0_2.out); (case side7 => repeat (first | exact (Kd.C_below HR0_3.out HB.out) | (with_reducible refine Kd.C_alloc ?_ _) | (with_reducible refine Kd.C_drewN ?_ _) | (with_reducible refine Kd.C_drew ?_))); (case side8 => exact HC0_3.out); (case side9 => repeat (first | exact (Kd.C_below HR0_4.out HB.out) | (with_reducible refine Kd.C_alloc ?_ _) | (with_reducible refine Kd.C_drewN ?_ _) | (with_reducible refine Kd.C_drew ?_))); (case side10 => exact HC0_4.out); (case side11 => repeat (first | exact (Kd.C_below HR0_6.out HB.out) | (with_reducible refine Kd.C_alloc ?_ _) | (with_reducible refine Kd.C_drewN ?_ _) | (with_reducible refine Kd.C_drew ?_))); (case side12 => exact HC0_6.out); (case side13 => repeat (first | exact (Kd.C_below HR0_7.out HB.out) | (with_reducible refine Kd.C_alloc ?_ _) | (with_reducible refine Kd.C_drewN ?_ _) | (with_reducible refine Kd.C_drew ?_))); (case side14 => exact HC0_7.out); (case side15 => repeat (first | exact (Kd.C_below HR0_8.out HB.out) | (with_reducible refine Kd.C_alloc ?_ _) | (with_reducible refine Kd.C_drewN ?_ _) | (with_reducible refine Kd.C_drew ?_))); (case side16 => exact HC0_8.out); (case side17 => repeat (first | exact (Kd.C_below HR0_9.out HB.out) | (with_reducible refine Kd.C_alloc ?_ _) | (with_reducible refine Kd.C_drewN ?_ _) | (with_reducible refine Kd.C_drew ?_))); (case side18 => exact HC0_9.out); rintro e w20 ⟨v603, v606, v609, v612, v615, v619, v622, v625, v628, rfl, ho0, ho1, ho2, ho3, ho4, ho5, ho6, ho7, ho8, hb⟩; refine ⟨_, rfl, ?_⟩; have n0_ := Aside0.mk (Kd.S_lower ho0 (below_size (by repeat (first | (with_reducible first | exact HB.out | apply below_alloc | apply pw_below_drewN | apply below_drew1 | refine below_set ?_ GE600.out) | exact HB.out)))); have n1_ := Aside0.mk (Kd.R_lower ho1 (below_size (by repeat (first | (with_reducible first | exact HB.out | apply below_alloc | apply pw_below_drewN | apply below_drew1 | refine below_set ?_ GE600.out) | exact HB.out)))); have n2_ := Aside0.mk (Kd.R_lower ho2 (below_size (by repeat (first | (with_reducible first | exact HB.out | apply below_alloc | apply pw_below_drewN | apply below_drew1 | refine below_set ?_ GE600.out) | exact HB.out)))); have n3_ := Aside0.mk (Kd.S_lower ho3 (below_size (by repeat (first | (with_reducible first | exact HB.out | apply below_alloc | apply pw_below_drewN | apply below_drew1 | refine below_set ?_ GE600.out) | exact HB.out)))); have n4_ := Aside0.mk (Kd.R_lower ho4 (below_size (by repeat (first | (with_reducible first | exact HB.out | apply below_alloc | apply pw_below_drewN | apply below_drew1 | refine below_set ?_ GE600.out) | exact HB.out)))); have n5_ := Aside0.mk (Kd.S_lower ho5 (below_size (by repeat (first | (with_reducible first | exact HB.out | apply below_alloc | apply pw_below_drewN | apply below_drew1 | refine below_set ?_ GE600.out) | exact HB.out)))); have n6_ := Aside0.mk (Kd.S_lower ho6 (below_size (by repeat (first | (with_reducible first | exact HB.out | apply below_alloc | apply pw_below_drewN | apply below_drew1 | refine below_set ?_ GE600.out) | exact HB.out)))); have n7_ := Aside0.mk (Kd.R_lower ho7 (below_size (by repeat (first | (with_reducible first | exact HB.out | apply below_alloc | apply pw_below_drewN | apply below_drew1 | refine below_set ?_ GE600.out) | exact HB.out)))); have n8_ := Aside0.mk (Kd.R_lower ho8 (below_size (by repeat (first | (with_reducible first | exact HB.out | apply below_alloc | apply pw_below_drewN | apply below_drew1 | refine below_set ?_ GE600.out) | exact HB.out)))); have n9_ := Aside0.mk (blk_below (g := gb600) (o := .cells #[.slice A0_0 l0_0.length c0_0, .slice A0_1 l0_1.length c0_1, .slice A0_2 l0_2.length c0_2, .slice A0_3 l0_3.length c0_3, .slice A0_4 l0_4.length c0_4, .int .i64 a0_5, .slice A0_6 l0_6.length c0_6, .slice A0_7 l0_7.length c0_7, .slice A0_8 l0_8.length c0_8, .slice A0_9 l0_9.length c0_9] 48 (0, 0)) (by (with_reducible repeat (first | refine blk_drewN ?_ _ | refine blk_drew ?_ | refine blk_alloc ?_ _)); exact BK600.out) hb); have n10_ := Aside0.mk (below_step (by repeat (first | (with_reducible first | exact HB.out | apply below_alloc | apply pw_below_drewN | apply below_drew1 | refine below_set ?_ GE600.out) | exact HB.out)) hb); clear BK600; clear HB; have HO604 := n0_; have HO607 := n1_; have HO610 := n2_; have HO613 := n3_; have HO616 := n4_; have HO620 := n5_; have HO623 := n6_; have HO626 := n7_; have HO629 := n8_; have BK600 := n9_; have HB := n10_; clear n0_ n1_ n2_ n3_ n4_ n5_ n6_ n7_ n8_ n9_ n10_; (try clear hb); (try clear hb2); (try clear hk); (try clear hi); (try clear ho0); (try clear ho1); (try clear ho2); (try clear ho3); (try clear ho4); (try clear ho5); (try clear ho6); (try clear ho7); (try clear ho8); obtain ⟨Ao21, co21, eo21⟩ := Kd.S_slice HO604.out; subst eo21; obtain ⟨Ao22, co22, eo22⟩ := Kd.R_slice HO607.out; subst eo22; obtain ⟨Ao23, co23, eo23⟩ := Kd.R_slice HO610.out; subst eo23; obtain ⟨Ao24, co24, eo24⟩ := Kd.S_slice HO613.out; subst eo24; obtain ⟨Ao25, co25, eo25⟩ := Kd.R_slice HO616.out; subst eo25; obtain ⟨Ao26, co26, eo26⟩ := Kd.S_slice HO620.out; subst eo26; obtain ⟨Ao27, co27, eo27⟩ := Kd.S_slice HO623.out; subst eo27; obtain ⟨Ao28, co28, eo28⟩ := Kd.R_slice HO626.out; subst eo28; obtain ⟨Ao29, co29, eo29⟩ := Kd.R_slice HO629.out; subst eo29) | ((with_reducible refine gate_callee (f := 26) rfl ?_); refine goesL_ (some 17) rfl rfl Try.func26 (by kernel_rfl) rfl #[.agg #[.slice Ao21 t602.length co21, .slice Ao22 t605.length co22, .slice Ao23 t608.length co23, .slice Ao24 t611.length co24, .slice Ao25 t614.length co25, .int .i64 t617, .slice Ao26 t618.length co26, .slice Ao27 t621.length co27, .slice Ao28 t624.length co28, .slice Ao29 t627.length co29], .int .i64 a1] rfl (by (try simp only [List.map_toArray, List.map_cons, List.map_nil]); first | done | rfl | (simp only [List.length_drop, List.length_take]; rfl)) ?_; (with_reducible refine (spec_CountOf.calls k _ _ t602 _ _ t605 _ _ t608 _ _ t611 _ _ t614 t617 _ _ t618 _ _ t621 _ _ t624 _ _ t627 a1 t630 _ ?side1 ?side2 ?side3 ?side4 ?side5 ?side6 ?side7 ?side8 ?side9 ?side10 ?side11 ?side12 ?side13 ?side14 ?side15 ?side16 ?side17 ?side18 A9.out).mono ?_); (case side1 => repeat (first | exact (Kd.S_reads' HO604.out).2.2 | (with_reducible refine Kd.C_alloc ?_ _) | (with_reducible refine Kd.C_drewN ?_ _) | (with_reducible refine Kd.C_drew ?_))); (case side2 => exact (Kd.S_reads' HO604.out).2.1); (case side3 => repeat (first | exact (Kd.R_reads' HO607.out).2.2 | (with_reducible refine Kd.C_alloc ?_ _) | (with_reducible refine Kd.C_drewN ?_ _) | (with_reducible refine Kd.C_drew ?_))); (case side4 => exact (Kd.R_reads' HO607.out).2.1); (case side5 => repeat (first | exact (Kd.R_reads' HO610.out).2.2 | (with_reducible refine Kd.C_alloc ?_ _) | (with_reducible refine Kd.C_drewN ?_ _) | (with_reducible refine Kd.C_drew ?_))); (case side6 => exact (Kd.R_reads' HO610.out).2.1); (case side7 => repeat (first | exact (Kd.S_reads' HO613.out).2.2 | (with_reducible refine Kd.C_alloc ?_ _) | (with_reducible refine Kd.C_drewN ?_ _) | (with_reducible refine Kd.C_drew ?_))); (case side8 => exact (Kd.S_reads' HO613.out).2.1); (case side9 => repeat (first | exact (Kd.R_reads' HO616.out).2.2 | (with_reducible refine Kd.C_alloc ?_ _) | (with_reducible refine Kd.C_drewN ?_ _) | (with_reducible refine Kd.C_drew ?_))); (case side10 => exact (Kd.R_reads' HO616.out).2.1); (case side11 => repeat (first | exact (Kd.S_reads' HO620.out).2.2 | (with_reducible refine Kd.C_alloc ?_ _) | (with_reducible refine Kd.C_drewN ?_ _) | (with_reducible refine Kd.C_drew ?_))); (case side12 => exact (Kd.S_reads' HO620.out).2.1); (case side13 => repeat (first | exact (Kd.S_reads' HO623.out).2.2 | (with_reducible refine Kd.C_alloc ?_ _) | (with_reducible refine Kd.C_drewN ?_ _) | (with_reducible refine Kd.C_drew ?_))); (case side14 => exact (Kd.S_reads' HO623.out).2.1); (case side15 => repeat (first | exact (Kd.R_reads' HO626.out).2.2 | (with_reducible refine Kd.C_alloc ?_ _) | (with_reducible refine Kd.C_drewN ?_ _) | (with_reducible refine Kd.C_drew ?_))); (case side16 => exact (Kd.R_reads' HO626.out).2.1); (case side17 => repeat (first | exact (Kd.R_reads' HO629.out).2.2 | (with_reducible refine Kd.C_alloc ?_ _) | (with_reducible refine Kd.C_drewN ?_ _) | (with_reducible refine Kd.C_drew ?_))); (case side18 => exact (Kd.R_reads' HO629.out).2.1); rintro e w30 ⟨rfl, hb⟩; refine ⟨_, rfl, ?_⟩; have n0_ := Aside0.mk (Kd.S_below (by (with_reducible repeat (first | apply Kd.S_alloc | apply Kd.S_drewN | apply Kd.S_drew)); exact HO604.out) hb); have n1_ := Aside0.mk (Kd.R_below (by (with_reducible repeat (first | apply Kd.R_alloc | apply Kd.R_drewN | apply Kd.R_drew)); exact HO607.out) hb); have n2_ := Aside0.mk (Kd.R_below (by (with_reducible repeat (first | apply Kd.R_alloc | apply Kd.R_drewN | apply Kd.R_drew)); exact HO610.out) hb); have n3_ := Aside0.mk (Kd.S_below (by (with_reducible repeat (first | apply Kd.S_alloc | apply Kd.S_drewN | apply Kd.S_drew)); exact HO613.out) hb); have n4_ := Aside0.mk (Kd.R_below (by (with_reducible repeat (first | apply Kd.R_alloc | apply Kd.R_drewN | apply Kd.R_drew)); exact HO616.out) hb); have n5_ := Aside0.mk (Kd.S_below (by (with_reducible repeat (first | apply Kd.S_alloc | apply Kd.S_drewN | apply Kd.S_drew)); exact HO620.out) hb); have n6_ := Aside0.mk (Kd.S_below (by (with_reducible repeat (first | apply Kd.S_alloc | apply Kd.S_drewN | apply Kd.S_drew)); exact HO623.out) hb); have n7_ := Aside0.mk (Kd.R_below (by (with_reducible repeat (first | apply Kd.R_alloc | apply Kd.R_drewN | apply Kd.R_drew)); exact HO626.out) hb); have n8_ := Aside0.mk (Kd.R_below (by (with_reducible repeat (first | apply Kd.R_alloc | apply Kd.R_drewN | apply Kd.R_drew)); exact HO629.out) hb); have n9_ := Aside0.mk (blk_below (g := gb600) (o := .cells #[.slice A0_0 l0_0.length c0_0, .slice A0_1 l0_1.length c0_1, .slice A0_2 l0_2.length c0_2, .slice A0_3 l0_3.length c0_3, .slice A0_4 l0_4.length c0_4, .int .i64 a0_5, .slice A0_6 l0_6.length c0_6, .slice A0_7 l0_7.length c0_7, .slice A0_8 l0_8.length c0_8, .slice A0_9 l0_9.length c0_9] 48 (0, 0)) (by (with_reducible repeat (first | refine blk_drewN ?_ _ | refine blk_drew ?_ | refine blk_alloc ?_ _)); exact BK600.out) hb); have n10_ := Aside0.mk (below_step (by repeat (first | (with_reducible first | exact HB.out | apply below_alloc | apply pw_below_drewN | apply below_drew1 | refine below_set ?_ GE600.out) | exact HB.out)) hb); clear HO604; clear HO607; clear HO610; clear HO613; clear HO616; clear HO620; clear HO623; clear HO626; clear HO629; clear BK600; clear HB; have HO604 := n0_; have HO607 := n1_; have HO610 := n2_; have HO613 := n3_; have HO616 := n4_; have HO620 := n5_; have HO623 := n6_; have HO626 := n7_; have HO629 := n8_; have BK600 := n9_; have HB := n10_; clear n0_ n1_ n2_ n3_ n4_ n5_ n6_ n7_ n8_ n9_ n10_; (try clear hb); (try clear hb2); (try clear hk); (try clear hi); have hcz31_0 : w30.cell? ⟨gb600, 0, none⟩ = some (.slice A0_0 l0_0.length c0_0) := (blk_cell BK600.out 0).trans rfl; have hcz31_1 : w30.cell? ⟨gb600, 1, none⟩ = some (.slice A0_1 l0_1.length c0_1) := (blk_cell BK600.out 1).trans rfl; have hcz31_2 : w30.cell? ⟨gb600, 2, none⟩ = some (.slice A0_2 l0_2.length c0_2) := (blk_cell BK600.out 2).trans rfl; have hcz31_3 : w30.cell? ⟨gb600, 3, none⟩ = some (.slice A0_3 l0_3.length c0_3) := (blk_cell BK600.out 3).trans rfl; have hcz31_4 : w30.cell? ⟨gb600, 4, none⟩ = some (.slice A0_4 l0_4.length c0_4) := (blk_cell BK600.out 4).trans rfl; have hcz31_5 : w30.cell? ⟨gb600, 5, none⟩ = some (.int .i64 a0_5) := (blk_cell BK600.out 5).trans rfl; have hcz31_6 : w30.cell? ⟨gb600, 6, none⟩ = some (.slice A0_6 l0_6.length c0_6) := (blk_cell BK600.out 6).trans rfl; have hcz31_7 : w30.cell? ⟨gb600, 7, none⟩ = some (.slice A0_7 l0_7.length c0_7) := (blk_cell BK600.out 7).trans rfl; have hcz31_8 : w30.cell? ⟨gb600, 8, none⟩ = some (.slice A0_8 l0_8.length c0_8) := (blk_cell BK600.out 8).trans rfl; have hcz31_9 : w30.cell? ⟨gb600, 9, none⟩ = some (.slice A0_9 l0_9.length c0_9) := (blk_cell BK600.out 9).trans rfl; have hfz31_0 := blk_frozen BK600.out 0; have hfz31_1 := blk_frozen BK600.out 1; have hfz31_2 := blk_frozen BK600.out 2; have hfz31_3 := blk_frozen BK600.out 3; have hfz31_4 := blk_frozen BK600.out 4; have hfz31_5 := blk_frozen BK600.out 5; have hfz31_6 := blk_frozen BK600.out 6; have hfz31_7 := blk_frozen BK600.out 7; have hfz31_8 := blk_frozen BK600.out 8; have hfz31_9 := blk_frozen BK600.out 9) | ((with_reducible refine gate_callee (f := 27) rfl ?_); refine goesL_ (some 19) rfl rfl Try.func27 (by kernel_rfl) rfl #[.agg #[.slice A0_0 l0_0.length c0_0, .slice A0_1 l0_1.length c0_1, .slice A0_2 l0_2.length c0_2, .slice A0_3 l0_3.length c0_3, .slice A0_4 l0_4.length c0_4, .int .i64 a0_5, .slice A0_6 l0_6.length c0_6, .slice A0_7 l0_7.length c0_7, .slice A0_8 l0_8.length c0_8, .slice A0_9 l0_9.length c0_9]] rfl (by (try simp only [List.map_toArray, List.map_cons, List.map_nil]); first | done | rfl | (simp only [List.length_drop, List.length_take]; rfl)) ?_; (with_reducible refine (laws_toMachine.calls k _ _ l0_0 _ _ l0_1 _ _ l0_2 _ _ l0_3 _ _ l0_4 a0_5 _ _ l0_6 _ _ l0_7 _ _ l0_8 _ _ l0_9 t631 t634 t637 t640 t643 t646 t647 t650 t653 t656 _ ?side1 ?side2 ?side3 ?side4 ?side5 ?side6 ?side7 ?side8 ?side9 ?side10 ?side11 ?side12 ?side13 ?side14 ?side15 ?side16 ?side17 ?side18 A10.out).mono ?_); (case side1 => repeat (first | exact (Kd.C_below HR0_0.out HB.out) | (with_reducible refine Kd.C_alloc ?_ _) | (with_reducible refine Kd.C_drewN ?_ _) | (with_reducible refine Kd.C_drew ?_))); (case side2 => exact HC0_0.out); (case side3 => repeat (first | exact (Kd.C_below HR0_1.out HB.out) | (with_reducible refine Kd.C_alloc ?_ _) | (with_reducible refine Kd.C_drewN ?_ _) | (with_reducible refine Kd.C_drew ?_))); (case side4 => exact HC0_1.out); (case side5 => repeat (first | exact (Kd.C_below HR0_2.out HB.out) | (with_reducible refine Kd.C_alloc ?_ _) | (with_reducible refine Kd.C_drewN ?_ _) | (with_reducible refine Kd.C_drew ?_))); (case side6 => exact HC0_2.out); (case side7 => repeat (first | exact (Kd.C_below HR0_3.out HB.out) | (with_reducible refine Kd.C_alloc ?_ _) | (with_reducible refine Kd.C_drewN ?_ _) | (with_reducible refine Kd.C_drew ?_))); (case side8 => exact HC0_3.out); (case side9 => repeat (first | exact (Kd.C_below HR0_4.out HB.out) | (with_reducible refine Kd.C_alloc ?_ _) | (with_reducible refine Kd.C_drewN ?_ _) | (with_reducible refine Kd.C_drew ?_))); (case side10 => exact HC0_4.out); (case side11 => repeat (first | exact (Kd.C_below HR0_6.out HB.out) | (with_reducible refine Kd.C_alloc ?_ _) | (with_reducible refine Kd.C_drewN ?_ _) | (with_reducible refine Kd.C_drew ?_))); (case side12 => exact HC0_6.out); (case side13 => repeat (first | exact (Kd.C_below HR0_7.out HB.out) | (with_reducible refine Kd.C_alloc ?_ _) | (with_reducible refine Kd.C_drewN ?_ _) | (with_reducible refine Kd.C_drew ?_))); (case side14 => exact HC0_7.out); (case side15 => repeat (first | exact (Kd.C_below HR0_8.out HB.out) | (with_reducible refine Kd.C_alloc ?_ _) | (with_reducible refine Kd.C_drewN ?_ _) | (with_reducible refine Kd.C_drew ?_))); (case side16 => exact HC0_8.out); (case side17 => repeat (first | exact (Kd.C_below HR0_9.out HB.out) | (with_reducible refine Kd.C_alloc ?_ _) | (with_reducible refine Kd.C_drewN ?_ _) | (with_reducible refine Kd.C_drew ?_))); (case side18 => exact HC0_9.out); rintro e w32 ⟨v632, v635, v638, v641, v644, v648, v651, v654, v657, rfl, ho0, ho1, ho2, ho3, ho4, ho5, ho6, ho7, ho8, hb⟩; refine ⟨_, rfl, ?_⟩; have n0_ := Aside0.mk (Kd.S_mono (Kd.S_told (Kd.S_told (Kd.S_told (Kd.S_told (Kd.S_old (by (with_reducible repeat (first | apply Kd.S_alloc | apply Kd.S_drewN | apply Kd.S_drew)); exact HO604.out) hb) (Kd.S_base ho0)) (Kd.R_base ho1)) (Kd.R_base ho7)) (Kd.R_base ho8)) (fun _ h_ => h_.1)); have n1_ := Aside0.mk (Kd.R_mono (Kd.R_told (Kd.R_told (Kd.R_told (Kd.R_old (by (with_reducible repeat (first | apply Kd.R_alloc | apply Kd.R_drewN | apply Kd.R_drew)); exact HO607.out) hb) (Kd.R_base ho1)) (Kd.R_base ho7)) (Kd.R_base ho8)) (fun _ h_ => h_.1)); have n2_ := Aside0.mk (Kd.R_elder' (by (with_reducible repeat (first | apply Kd.R_alloc | apply Kd.R_drewN | apply Kd.R_drew)); exact HO610.out) (Kd.R_base ho2) hb); have n3_ := Aside0.mk (Kd.S_elder' (by (with_reducible repeat (first | apply Kd.S_alloc | apply Kd.S_drewN | apply Kd.S_drew)); exact HO613.out) (Kd.S_base ho3) hb); have n4_ := Aside0.mk (Kd.R_elder' (by (with_reducible repeat (first | apply Kd.R_alloc | apply Kd.R_drewN | apply Kd.R_drew)); exact HO616.out) (Kd.R_base ho4) hb); have n5_ := Aside0.mk (Kd.S_elder' (by (with_reducible repeat (first | apply Kd.S_alloc | apply Kd.S_drewN | apply Kd.S_drew)); exact HO620.out) (Kd.S_base ho5) hb); have n6_ := Aside0.mk (Kd.S_mono (Kd.S_told (Kd.S_told (Kd.S_told (Kd.S_told (Kd.S_old (by (with_reducible repeat (first | apply Kd.S_alloc | apply Kd.S_drewN | apply Kd.S_drew)); exact HO623.out) hb) (Kd.R_base ho1)) (Kd.S_base ho6)) (Kd.R_base ho7)) (Kd.R_base ho8)) (fun _ h_ => h_.1)); have n7_ := Aside0.mk (Kd.R_mono (Kd.R_told (Kd.R_told (Kd.R_told (Kd.R_old (by (with_reducible repeat (first | apply Kd.R_alloc | apply Kd.R_drewN | apply Kd.R_drew)); exact HO626.out) hb) (Kd.R_base ho1)) (Kd.R_base ho7)) (Kd.R_base ho8)) (fun _ h_ => h_.1)); have n8_ := Aside0.mk (Kd.R_mono (Kd.R_told (Kd.R_told (Kd.R_told (Kd.R_old (by (with_reducible repeat (first | apply Kd.R_alloc | apply Kd.R_drewN | apply Kd.R_drew)); exact HO629.out) hb) (Kd.R_base ho1)) (Kd.R_base ho7)) (Kd.R_base ho8)) (fun _ h_ => h_.1)); have n9_ := Aside0.mk (Kd.S_lower (Kd.S_new' (Kd.S_new' (Kd.S_new' (Kd.S_new' ho0 (Kd.S_lt (by (with_reducible repeat (first | apply Kd.S_alloc | apply Kd.S_drewN | apply Kd.S_drew)); exact HO604.out))) (Kd.R_lt (by (with_reducible repeat (first | apply Kd.R_alloc | apply Kd.R_drewN | apply Kd.R_drew)); exact HO607.out))) (Kd.R_lt (by (with_reducible repeat (first | apply Kd.R_alloc | apply Kd.R_drewN | apply Kd.R_drew)); exact HO626.out))) (Kd.R_lt (by (with_reducible repeat (first | apply Kd.R_alloc | apply Kd.R_drewN | apply Kd.R_drew)); exact HO629.out))) (below_size (by repeat (first | (with_reducible first | exact HB.out | apply below_alloc | apply pw_below_drewN | apply below_drew1 | refine below_set ?_ GE600.out) | exact HB.out)))); have n10_ := Aside0.mk (Kd.R_lower (Kd.R_new' (Kd.R_new' (Kd.R_new' ho1 (Kd.R_lt (by (with_reducible repeat (first | apply Kd.R_alloc | apply Kd.R_drewN | apply Kd.R_drew)); exact HO607.out))) (Kd.R_lt (by (with_reducible repeat (first | apply Kd.R_alloc | apply Kd.R_drewN | apply Kd.R_drew)); exact HO626.out))) (Kd.R_lt (by (with_reducible repeat (first | apply Kd.R_alloc | apply Kd.R_drewN | apply Kd.R_drew)); exact HO629.out))) (below_size (by repeat (first | (with_reducible first | exact HB.out | apply below_alloc | apply pw_below_drewN | apply below_drew1 | refine below_set ?_ GE600.out) | exact HB.out)))); have n11_ := Aside0.mk (Kd.R_lower (Kd.R_new' ho2 (Kd.R_lt (by (with_reducible repeat (first | apply Kd.R_alloc | apply Kd.R_drewN | apply Kd.R_drew)); exact HO610.out))) (below_size (by repeat (first | (with_reducible first | exact HB.out | apply below_alloc | apply pw_below_drewN | apply below_drew1 | refine below_set ?_ GE600.out) | exact HB.out)))); have n12_ := Aside0.mk (Kd.S_lower (Kd.S_new' ho3 (Kd.S_lt (by (with_reducible repeat (first | apply Kd.S_alloc | apply Kd.S_drewN | apply Kd.S_drew)); exact HO613.out))) (below_size (by repeat (first | (with_reducible first | exact HB.out | apply below_alloc | apply pw_below_drewN | apply below_drew1 | refine below_set ?_ GE600.out) | exact HB.out)))); have n13_ := Aside0.mk (Kd.R_lower (Kd.R_new' ho4 (Kd.R_lt (by (with_reducible repeat (first | apply Kd.R_alloc | apply Kd.R_drewN | apply Kd.R_drew)); exact HO616.out))) (below_size (by repeat (first | (with_reducible first | exact HB.out | apply below_alloc | apply pw_below_drewN | apply below_drew1 | refine below_set ?_ GE600.out) | exact HB.out)))); have n14_ := Aside0.mk (Kd.S_lower (Kd.S_new' ho5 (Kd.S_lt (by (with_reducible repeat (first | apply Kd.S_alloc | apply Kd.S_drewN | apply Kd.S_drew)); exact HO620.out))) (below_size (by repeat (first | (with_reducible first | exact HB.out | apply below_alloc | apply pw_below_drewN | apply below_drew1 | refine below_set ?_ GE600.out) | exact HB.out)))); have n15_ := Aside0.mk (Kd.S_lower (Kd.S_new' (Kd.S_new' (Kd.S_new' (Kd.S_new' ho6 (Kd.R_lt (by (with_reducible repeat (first | apply Kd.R_alloc | apply Kd.R_drewN | apply Kd.R_drew)); exact HO607.out))) (Kd.S_lt (by (with_reducible repeat (first | apply Kd.S_alloc | apply Kd.S_drewN | apply Kd.S_drew)); exact HO623.out))) (Kd.R_lt (by (with_reducible repeat (first | apply Kd.R_alloc | apply Kd.R_drewN | apply Kd.R_drew)); exact HO626.out))) (Kd.R_lt (by (with_reducible repeat (first | apply Kd.R_alloc | apply Kd.R_drewN | apply Kd.R_drew)); exact HO629.out))) (below_size (by repeat (first | (with_reducible first | exact HB.out | apply below_alloc | apply pw_below_drewN | apply below_drew1 | refine below_set ?_ GE600.out) | exact HB.out)))); have n16_ := Aside0.mk (Kd.R_lower (Kd.R_new' (Kd.R_new' (Kd.R_new' ho7 (Kd.R_lt (by (with_reducible repeat (first | apply Kd.R_alloc | apply Kd.R_drewN | apply Kd.R_drew)); exact HO607.out))) (Kd.R_lt (by (with_reducible repeat (first | apply Kd.R_alloc | apply Kd.R_drewN | apply Kd.R_drew)); exact HO626.out))) (Kd.R_lt (by (with_reducible repeat (first | apply Kd.R_alloc | apply Kd.R_drewN | apply Kd.R_drew)); exact HO629.out))) (below_size (by repeat (first | (with_reducible first | exact HB.out | apply below_alloc | apply pw_below_drewN | apply below_drew1 | refine below_set ?_ GE600.out) | exact HB.out)))); have n17_ := Aside0.mk (Kd.R_lower (Kd.R_new' (Kd.R_new' (Kd.R_new' ho8 (Kd.R_lt (by (with_reducible repeat (first | apply Kd.R_alloc | apply Kd.R_drewN | apply Kd.R_drew)); exact HO607.out))) (Kd.R_lt (by (with_reducible repeat (first | apply Kd.R_alloc | apply Kd.R_drewN | apply Kd.R_drew)); exact HO626.out))) (Kd.R_lt (by (with_reducible repeat (first | apply Kd.R_alloc | apply Kd.R_drewN | apply Kd.R_drew)); exact HO629.out))) (below_size (by repeat (first | (with_reducible first | exact HB.out | apply below_alloc | apply pw_below_drewN | apply below_drew1 | refine below_set ?_ GE600.out) | exact HB.out)))); have n18_ := Aside0.mk (blk_below (g := gb600) (o := .cells #[.slice A0_0 l0_0.length c0_0, .slice A0_1 l0_1.length c0_1, .slice A0_2 l0_2.length c0_2, .slice A0_3 l0_3.length c0_3, .slice A0_4 l0_4.length c0_4, .int .i64 a0_5, .slice A0_6 l0_6.length c0_6, .slice A0_7 l0_7.length c0_7, .slice A0_8 l0_8.length c0_8, .slice A0_9 l0_9.length c0_9] 48 (0, 0)) (by (with_reducible repeat (first | refine blk_drewN ?_ _ | refine blk_drew ?_ | refine blk_alloc ?_ _)); exact BK600.out) hb); have n19_ := Aside0.mk (below_step (by repeat (first | (with_reducible first | exact HB.out | apply below_alloc | apply pw_below_drewN | apply below_drew1 | refine below_set ?_ GE600.out) | exact HB.out)) hb); clear HO604; clear HO607; clear HO610; clear HO613; clear HO616; clear HO620; clear HO623; clear HO626; clear HO629; clear BK600; clear HB; have HO604 := n0_; have HO607 := n1_; have HO610 := n2_; have HO613 := n3_; have HO616 := n4_; have HO620 := n5_; have HO623 := n6_; have HO626 := n7_; have HO629 := n8_; have HO633 := n9_; have HO636 := n10_; have HO639 := n11_; have HO642 := n12_; have HO645 := n13_; have HO649 := n14_; have HO652 := n15_; have HO655 := n16_; have HO658 := n17_; have BK600 := n18_; have HB := n19_; clear n0_ n1_ n2_ n3_ n4_ n5_ n6_ n7_ n8_ n9_ n10_ n11_ n12_ n13_ n14_ n15_ n16_ n17_ n18_ n19_; (try clear hb); (try clear hb2); (try clear hk); (try clear hi); (try clear ho0); (try clear ho1); (try clear ho2); (try clear ho3); (try clear ho4); (try clear ho5); (try clear ho6); (try clear ho7); (try clear ho8)) | ((with_reducible refine gate_dst (N := 7) rfl ?_); refine box_event ?hg (N := 7) ?hd (cs := #[.slice none 0 0, .slice none 0 0, .slice none 0 0, .slice none 0 0, .slice none 0 0, .int .i64 0, .slice none 0 0, .slice none 0 0, .slice none 0 0, .slice none 0 0]) (t := 56) ?hr ?_; (case hd => rfl); (case hg => rfl); (case hr => first | (go_simp; done) | (go_simp; rfl)); intro gb659 hg w33 hbox hb; have n0_ := Aside0.mk (Kd.S_below (by (with_reducible repeat (first | apply Kd.S_alloc | apply Kd.S_drewN | apply Kd.S_drew)); exact HO604.out) hb); have n1_ := Aside0.mk (Kd.R_below (by (with_reducible repeat (first | apply Kd.R_alloc | apply Kd.R_drewN | apply Kd.R_drew)); exact HO607.out) hb); have n2_ := Aside0.mk (Kd.R_below (by (with_reducible repeat (first | apply Kd.R_alloc | apply Kd.R_drewN | apply Kd.R_drew)); exact HO610.out) hb); have n3_ := Aside0.mk (Kd.S_below (by (with_reducible repeat (first | apply Kd.S_alloc | apply Kd.S_drewN | apply Kd.S_drew)); exact HO613.out) hb); have n4_ := Aside0.mk (Kd.R_below (by (with_reducible repeat (first | apply Kd.R_alloc | apply Kd.R_drewN | apply Kd.R_drew)); exact HO616.out) hb); have n5_ := Aside0.mk (Kd.S_below (by (with_reducible repeat (first | apply Kd.S_alloc | apply Kd.S_drewN | apply Kd.S_drew)); exact HO620.out) hb); have n6_ := Aside0.mk (Kd.S_below (by (with_reducible repeat (first | apply Kd.S_alloc | apply Kd.S_drewN | apply Kd.S_drew)); exact HO623.out) hb); have n7_ := Aside0.mk (Kd.R_below (by (with_reducible repeat (first | apply Kd.R_alloc | apply Kd.R_drewN | apply Kd.R_drew)); exact HO626.out) hb); have n8_ := Aside0.mk (Kd.R_below (by (with_reducible repeat (first | apply Kd.R_alloc | apply Kd.R_drewN | apply Kd.R_drew)); exact HO629.out) hb); have n9_ := Aside0.mk (Kd.S_below (by (with_reducible repeat (first | apply Kd.S_alloc | apply Kd.S_drewN | apply Kd.S_drew)); exact HO633.out) hb); have n10_ := Aside0.mk (Kd.R_below (by (with_reducible repeat (first | apply Kd.R_alloc | apply Kd.R_drewN | apply Kd.R_drew)); exact HO636.out) hb); have n11_ := Aside0.mk (Kd.R_below (by (with_reducible repeat (first | apply Kd.R_alloc | apply Kd.R_drewN | apply Kd.R_drew)); exact HO639.out) hb); have n12_ := Aside0.mk (Kd.S_below (by (with_reducible repeat (first | apply Kd.S_alloc | apply Kd.S_drewN | apply Kd.S_drew)); exact HO642.out) hb); have n13_ := Aside0.mk (Kd.R_below (by (with_reducible repeat (first | apply Kd.R_alloc | apply Kd.R_drewN | apply Kd.R_drew)); exact HO645.out) hb); have n14_ := Aside0.mk (Kd.S_below (by (with_reducible repeat (first | apply Kd.S_alloc | apply Kd.S_drewN | apply Kd.S_drew)); exact HO649.out) hb); have n15_ := Aside0.mk (Kd.S_below (by (with_reducible repeat (first | apply Kd.S_alloc | apply Kd.S_drewN | apply Kd.S_drew)); exact HO652.out) hb); have n16_ := Aside0.mk (Kd.R_below (by (with_reducible repeat (first | apply Kd.R_alloc | apply Kd.R_drewN | apply Kd.R_drew)); exact HO655.out) hb); have n17_ := Aside0.mk (Kd.R_below (by (with_reducible repeat (first | apply Kd.R_alloc | apply Kd.R_drewN | apply Kd.R_drew)); exact HO658.out) hb); have n18_ := Aside0.mk (blk_below (g := gb600) (o := .cells #[.slice A0_0 l0_0.length c0_0, .slice A0_1 l0_1.length c0_1, .slice A0_2 l0_2.length c0_2, .slice A0_3 l0_3.length c0_3, .slice A0_4 l0_4.length c0_4, .int .i64 a0_5, .slice A0_6 l0_6.length c0_6, .slice A0_7 l0_7.length c0_7, .slice A0_8 l0_8.length c0_8, .slice A0_9 l0_9.length c0_9] 48 (0, 0)) (by (with_reducible repeat (first | refine blk_drewN ?_ _ | refine blk_drew ?_ | refine blk_alloc ?_ _)); exact BK600.out) hb); have n19_ := Aside0.mk (below_step (by repeat (first | (with_reducible first | exact HB.out | apply below_alloc | apply pw_below_drewN | apply below_drew1 | refine below_set ?_ GE600.out) | exact HB.out)) hb); have n20_ := Aside0.mk (hbox); have n21_ := Aside0.mk ((by rw [hg]; exact (below_size (by repeat (first | (with_reducible first | exact HB.out | apply below_alloc | apply pw_below_drewN | apply below_drew1 | refine below_set ?_ GE600.out) | exact HB.out))) : w.heap.size ≤ gb659)); have n22_ := Aside0.mk ((by rw [hg]; exact (below_size (by repeat (first | (with_reducible first | exact HB.out | apply below_alloc | apply pw_below_drewN | apply below_drew1 | refine below_set ?_ GE600.out) | exact HB.out))) : w.heap.size ≤ gb659)); have n23_ := Aside0.mk ((by rw [hg]; exact Nat.ne_of_lt (blk_lt (g := gb600) (o := .cells #[.slice A0_0 l0_0.length c0_0, .slice A0_1 l0_1.length c0_1, .slice A0_2 l0_2.length c0_2, .slice A0_3 l0_3.length c0_3, .slice A0_4 l0_4.length c0_4, .int .i64 a0_5, .slice A0_6 l0_6.length c0_6, .slice A0_7 l0_7.length c0_7, .slice A0_8 l0_8.length c0_8, .slice A0_9 l0_9.length c0_9] 48 (0, 0)) (by (with_reducible repeat (first | refine blk_drewN ?_ _ | refine blk_drew ?_ | refine blk_alloc ?_ _)); exact BK600.out)) : gb600 ≠ gb659)); have n24_ := Aside0.mk ((by rw [hg]; exact Nat.ne_of_gt (blk_lt (g := gb600) (o := .cells #[.slice A0_0 l0_0.length c0_0, .slice A0_1 l0_1.length c0_1, .slice A0_2 l0_2.length c0_2, .slice A0_3 l0_3.length c0_3, .slice A0_4 l0_4.length c0_4, .int .i64 a0_5, .slice A0_6 l0_6.length c0_6, .slice A0_7 l0_7.length c0_7, .slice A0_8 l0_8.length c0_8, .slice A0_9 l0_9.length c0_9] 48 (0, 0)) (by (with_reducible repeat (first | refine blk_drewN ?_ _ | refine blk_drew ?_ | refine blk_alloc ?_ _)); exact BK600.out)) : gb659 ≠ gb600)); clear HO604; clear HO607; clear HO610; clear HO613; clear HO616; clear HO620; clear HO623; clear HO626; clear HO629; clear HO633; clear HO636; clear HO639; clear HO642; clear HO645; clear HO649; clear HO652; clear HO655; clear HO658; clear BK600; clear HB; have HO604 := n0_; have HO607 := n1_; have HO610 := n2_; have HO613 := n3_; have HO616 := n4_; have HO620 := n5_; have HO623 := n6_; have HO626 := n7_; have HO629 := n8_; have HO633 := n9_; have HO636 := n10_; have HO639 := n11_; have HO642 := n12_; have HO645 := n13_; have HO649 := n14_; have HO652 := n15_; have HO655 := n16_; have HO658 := n17_; have BK600 := n18_; have HB := n19_; have BK659 := n20_; have GW659 := n21_; have GE659 := n22_; have NB600_659 := n23_; have NB659_600 := n24_; clear n0_ n1_ n2_ n3_ n4_ n5_ n6_ n7_ n8_ n9_ n10_ n11_ n12_ n13_ n14_ n15_ n16_ n17_ n18_ n19_ n20_ n21_ n22_ n23_ n24_; clear hb hbox hg; obtain ⟨Ao34, co34, eo34⟩ := Kd.S_slice HO633.out; subst eo34; have hnb35 := NB659_600.out; have hnc35 := NB600_659.out; have hcz36_0 : w33.cell? ⟨gb659, 0, none⟩ = some (.slice none 0 0) := (blk_cell BK659.out 0).trans rfl; have hcz36_1 : w33.cell? ⟨gb659, 1, none⟩ = some (.slice none 0 0) := (blk_cell BK659.out 1).trans rfl; have hcz36_2 : w33.cell? ⟨gb659, 2, none⟩ = some (.slice none 0 0) := (blk_cell BK659.out 2).trans rfl; have hcz36_3 : w33.cell? ⟨gb659, 3, none⟩ = some (.slice none 0 0) := (blk_cell BK659.out 3).trans rfl; have hcz36_4 : w33.cell? ⟨gb659, 4, none⟩ = some (.slice none 0 0) := (blk_cell BK659.out 4).trans rfl; have hcz36_5 : w33.cell? ⟨gb659, 5, none⟩ = some (.int .i64 0) := (blk_cell BK659.out 5).trans rfl; have hcz36_6 : w33.cell? ⟨gb659, 6, none⟩ = some (.slice none 0 0) := (blk_cell BK659.out 6).trans rfl; have hcz36_7 : w33.cell? ⟨gb659, 7, none⟩ = some (.slice none 0 0) := (blk_cell BK659.out 7).trans rfl; have hcz36_8 : w33.cell? ⟨gb659, 8, none⟩ = some (.slice none 0 0) := (blk_cell BK659.out 8).trans rfl; have hcz36_9 : w33.cell? ⟨gb659, 9, none⟩ = some (.slice none 0 0) := (blk_cell BK659.out 9).trans rfl; have hfz36_0 := blk_frozen BK659.out 0; have hfz36_1 := blk_frozen BK659.out 1; have hfz36_2 := blk_frozen BK659.out 2; have hfz36_3 := blk_frozen BK659.out 3; have hfz36_4 := blk_frozen BK659.out 4; have hfz36_5 := blk_frozen BK659.out 5; have hfz36_6 := blk_frozen BK659.out 6; have hfz36_7 := blk_frozen BK659.out 7; have hfz36_8 := blk_frozen BK659.out 8; have hfz36_9 := blk_frozen BK659.out 9; obtain ⟨Ao37, co37, eo37⟩ := Kd.R_slice HO636.out; subst eo37; obtain ⟨Ao38, co38, eo38⟩ := Kd.R_slice HO639.out; subst eo38; obtain ⟨Ao39, co39, eo39⟩ := Kd.S_slice HO642.out; subst eo39; obtain ⟨Ao40, co40, eo40⟩ := Kd.R_slice HO645.out; subst eo40; obtain ⟨Ao41, co41, eo41⟩ := Kd.S_slice HO649.out; subst eo41; obtain ⟨Ao42, co42, eo42⟩ := Kd.S_slice HO652.out; subst eo42; obtain ⟨Ao43, co43, eo43⟩ := Kd.R_slice HO655.out; subst eo43; obtain ⟨Ao44, co44, eo44⟩ := Kd.R_slice HO658.out; subst eo44) | ((with_reducible refine gate_callee (f := 28) rfl ?_); refine goesL_ (some 22) rfl rfl Try.func28 (by kernel_rfl) rfl #[.agg #[.slice Ao34 t631.length co34, .slice Ao37 t634.length co37, .slice Ao38 t637.length co38, .slice Ao39 t640.length co39, .slice Ao40 t643.length co40, .int .i64 t646, .slice Ao41 t647.length co41, .slice Ao42 t650.length co42, .slice Ao43 t653.length co43, .slice Ao44 t656.length co44], .int .i64 a1] rfl (by (try simp only [List.map_toArray, List.map_cons, List.map_nil]); first | done | rfl | (simp only [List.length_drop, List.length_take]; rfl)) ?_; (with_reducible refine (impl_CountOf.calls k _ _ t631 _ _ t634 _ _ t637 _ _ t640 _ _ t643 t646 _ _ t647 _ _ t650 _ _ t653 _ _ t656 a1 t660 _ ?side1 ?side2 ?side3 ?side4 ?side5 ?side6 ?side7 ?side8 ?side9 ?side10 ?side11 ?side12 ?side13 ?side14 ?side15 ?side16 ?side17 ?side18 A11.out).mono ?_); (case side1 => refine (Kd.S_reads' (e := 38) (base := w.heap.size) (ok := fun k_ => (((((some k_ ≠ (.slice Ao37 t634.length co37 : Value).ownBlock ∧ (some k_ ≠ (.slice Ao43 t653.length co43 : Value).ownBlock ∧ some k_ ≠ (.slice Ao44 t656.length co44 : Value).ownBlock)) ∧ some k_ ≠ (.slice Ao21 t602.length co21 : Value).ownBlock) ∧ some k_ ≠ (.slice Ao22 t605.length co22 : Value).ownBlock) ∧ some k_ ≠ (.slice Ao28 t624.length co28 : Value).ownBlock) ∧ some k_ ≠ (.slice Ao29 t627.length co29 : Value).ownBlock)) (n := t631.length) (c := co34) ?_).2.2; exact (by (with_reducible repeat (first | apply Kd.S_alloc | apply Kd.S_drewN | apply Kd.S_drew)); exact (Kd.S_mono (Kd.S_far (p := ⟨gb659, 9, none⟩) (Kd.S_far (p := ⟨gb659, 8, none⟩) (Kd.S_far (p := ⟨gb659, 7, none⟩) (Kd.S_far (p := ⟨gb659, 6, none⟩) (Kd.S_far (p := ⟨gb659, 5, none⟩) (Kd.S_far (p := ⟨gb659, 4, none⟩) (Kd.S_far (p := ⟨gb659, 3, none⟩) (Kd.S_far (p := ⟨gb659, 2, none⟩) (Kd.S_far (p := ⟨gb659, 1, none⟩) (Kd.S_far (p := ⟨gb659, 0, none⟩) (Kd.S_types HO633.out BK659.out (by decide)) (fun _ hk => hk.2) (.slice Ao34 t631.length co34)) (fun _ hk => hk.2) (.slice Ao37 t634.length co37)) (fun _ hk => hk.2) (.slice Ao38 t637.length co38)) (fun _ hk => hk.2) (.slice Ao39 t640.length co39)) (fun _ hk => hk.2) (.slice Ao40 t643.length co40)) (fun _ hk => hk.2) (.int .i64 t646)) (fun _ hk => hk.2) (.slice Ao41 t647.length co41)) (fun _ hk => hk.2) (.slice Ao42 t650.length co42)) (fun _ hk => hk.2) (.slice Ao43 t653.length co43)) (fun _ hk => hk.2) (.slice Ao44 t656.length co44)) (fun _ h_ => h_.1)))); (case side2 => exact (Kd.S_reads' HO633.out).2.1); (case side3 => refine (Kd.R_reads' (e := 3) (base := w.heap.size) (ok := fun k_ => ((((some k_ ≠ (.slice Ao43 t653.length co43 : Value).ownBlock ∧ some k_ ≠ (.slice Ao44 t656.length co44 : Value).ownBlock) ∧ some k_ ≠ (.slice Ao22 t605.length co22 : Value).ownBlock) ∧ some k_ ≠ (.slice Ao28 t624.length co28 : Value).ownBlock) ∧ some k_ ≠ (.slice Ao29 t627.length co29 : Value).ownBlock)) (n := t634.length) (c := co37) ?_).2.2; exact (by (with_reducible repeat (first | apply Kd.R_alloc | apply Kd.R_drewN | apply Kd.R_drew)); exact (Kd.R_mono (Kd.R_far (p := ⟨gb659, 9, none⟩) (Kd.R_far (p := ⟨gb659, 8, none⟩) (Kd.R_far (p := ⟨gb659, 7, none⟩) (Kd.R_far (p := ⟨gb659, 6, none⟩) (Kd.R_far (p := ⟨gb659, 5, none⟩) (Kd.R_far (p := ⟨gb659, 4, none⟩) (Kd.R_far (p := ⟨gb659, 3, none⟩) (Kd.R_far (p := ⟨gb659, 2, none⟩) (Kd.R_far (p := ⟨gb659, 1, none⟩) (Kd.R_far (p := ⟨gb659, 0, none⟩) (Kd.R_types HO636.out BK659.out (by decide)) (fun _ hk => hk.2) (.slice Ao34 t631.length co34)) (fun _ hk => hk.2) (.slice Ao37 t634.length co37)) (fun _ hk => hk.2) (.slice Ao38 t637.length co38)) (fun _ hk => hk.2) (.slice Ao39 t640.length co39)) (fun _ hk => hk.2) (.slice Ao40 t643.length co40)) (fun _ hk => hk.2) (.int .i64 t646)) (fun _ hk => hk.2) (.slice Ao41 t647.length co41)) (fun _ hk => hk.2) (.slice Ao42 t650.length co42)) (fun _ hk => hk.2) (.slice Ao43 t653.length co43)) (fun _ hk => hk.2) (.slice Ao44 t656.length co44)) (fun _ h_ => h_.1)))); (case side4 => exact (Kd.R_reads' HO636.out).2.1); (case side5 => refine (Kd.R_reads' (e := 149) (base := w.heap.size) (ok := fun k_ => (True ∧ some k_ ≠ (.slice Ao23 t608.length co23 : Value).ownBlock)) (n := t637.length) (c := co38) ?_).2.2; exact (by (with_reducible repeat (first | apply Kd.R_alloc | apply Kd.R_drewN | apply Kd.R_drew)); exact (Kd.R_mono (Kd.R_far (p := ⟨gb659, 9, none⟩) (Kd.R_far (p := ⟨gb659, 8, none⟩) (Kd.R_far (p := ⟨gb659, 7, none⟩) (Kd.R_far (p := ⟨gb659, 6, none⟩) (Kd.R_far (p := ⟨gb659, 5, none⟩) (Kd.R_far (p := ⟨gb659, 4, none⟩) (Kd.R_far (p := ⟨gb659, 3, none⟩) (Kd.R_far (p := ⟨gb659, 2, none⟩) (Kd.R_far (p := ⟨gb659, 1, none⟩) (Kd.R_far (p := ⟨gb659, 0, none⟩) (Kd.R_types HO639.out BK659.out (by decide)) (fun _ hk => hk.2) (.slice Ao34 t631.length co34)) (fun _ hk => hk.2) (.slice Ao37 t634.length co37)) (fun _ hk => hk.2) (.slice Ao38 t637.length co38)) (fun _ hk => hk.2) (.slice Ao39 t640.length co39)) (fun _ hk => hk.2) (.slice Ao40 t643.length co40)) (fun _ hk => hk.2) (.int .i64 t646)) (fun _ hk => hk.2) (.slice Ao41 t647.length co41)) (fun _ hk => hk.2) (.slice Ao42 t650.length co42)) (fun _ hk => hk.2) (.slice Ao43 t653.length co43)) (fun _ hk => hk.2) (.slice Ao44 t656.length co44)) (fun _ h_ => h_.1)))); (case side6 => exact (Kd.R_reads' HO639.out).2.1); (case side7 => refine (Kd.S_reads' (e := 76) (base := w.heap.size) (ok := fun k_ => (True ∧ some k_ ≠ (.slice Ao24 t611.length co24 : Value).ownBlock)) (n := t640.length) (c := co39) ?_).2.2; exact (by (with_reducible repeat (first | apply Kd.S_alloc | apply Kd.S_drewN | apply Kd.S_drew)); exact (Kd.S_mono (Kd.S_far (p := ⟨gb659, 9, none⟩) (Kd.S_far (p := ⟨gb659, 8, none⟩) (Kd.S_far (p := ⟨gb659, 7, none⟩) (Kd.S_far (p := ⟨gb659, 6, none⟩) (Kd.S_far (p := ⟨gb659, 5, none⟩) (Kd.S_far (p := ⟨gb659, 4, none⟩) (Kd.S_far (p := ⟨gb659, 3, none⟩) (Kd.S_far (p := ⟨gb659, 2, none⟩) (Kd.S_far (p := ⟨gb659, 1, none⟩) (Kd.S_far (p := ⟨gb659, 0, none⟩) (Kd.S_types HO642.out BK659.out (by decide)) (fun _ hk => hk.2) (.slice Ao34 t631.length co34)) (fun _ hk => hk.2) (.slice Ao37 t634.length co37)) (fun _ hk => hk.2) (.slice Ao38 t637.length co38)) (fun _ hk => hk.2) (.slice Ao39 t640.length co39)) (fun _ hk => hk.2) (.slice Ao40 t643.length co40)) (fun _ hk => hk.2) (.int .i64 t646)) (fun _ hk => hk.2) (.slice Ao41 t647.length co41)) (fun _ hk => hk.2) (.slice Ao42 t650.length co42)) (fun _ hk => hk.2) (.slice Ao43 t653.length co43)) (fun _ hk => hk.2) (.slice Ao44 t656.length co44)) (fun _ h_ => h_.1)))); (case side8 => exact (Kd.S_reads' HO642.out).2.1); (case side9 => refine (Kd.R_reads' (e := 153) (base := w.heap.size) (ok := fun k_ => (True ∧ some k_ ≠ (.slice Ao25 t614.length co25 : Value).ownBlock)) (n := t643.length) (c := co40) ?_).2.2; exact (by (with_reducible repeat (first | apply Kd.R_alloc | apply Kd.R_drewN | apply Kd.R_drew)); exact (Kd.R_mono (Kd.R_far (p := ⟨gb659, 9, none⟩) (Kd.R_far (p := ⟨gb659, 8, none⟩) (Kd.R_far (p := ⟨gb659, 7, none⟩) (Kd.R_far (p := ⟨gb659, 6, none⟩) (Kd.R_far (p := ⟨gb659, 5, none⟩) (Kd.R_far (p := ⟨gb659, 4, none⟩) (Kd.R_far (p := ⟨gb659, 3, none⟩) (Kd.R_far (p := ⟨gb659, 2, none⟩) (Kd.R_far (p := ⟨gb659, 1, none⟩) (Kd.R_far (p := ⟨gb659, 0, none⟩) (Kd.R_types HO645.out BK659.out (by decide)) (fun _ hk => hk.2) (.slice Ao34 t631.length co34)) (fun _ hk => hk.2) (.slice Ao37 t634.length co37)) (fun _ hk => hk.2) (.slice Ao38 t637.length co38)) (fun _ hk => hk.2) (.slice Ao39 t640.length co39)) (fun _ hk => hk.2) (.slice Ao40 t643.length co40)) (fun _ hk => hk.2) (.int .i64 t646)) (fun _ hk => hk.2) (.slice Ao41 t647.length co41)) (fun _ hk => hk.2) (.slice Ao42 t650.length co42)) (fun _ hk => hk.2) (.slice Ao43 t653.length co43)) (fun _ hk => hk.2) (.slice Ao44 t656.length co44)) (fun _ h_ => h_.1)))); (case side10 => exact (Kd.R_reads' HO645.out).2.1); (case side11 => refine (Kd.S_reads' (e := 116) (base := w.heap.size) (ok := fun k_ => (True ∧ some k_ ≠ (.slice Ao26 t618.length co26 : Value).ownBlock)) (n := t647.length) (c := co41) ?_).2.2; exact (by (with_reducible repeat (first | apply Kd.S_alloc | apply Kd.S_drewN | apply Kd.S_drew)); exact (Kd.S_mono (Kd.S_far (p := ⟨gb659, 9, none⟩) (Kd.S_far (p := ⟨gb659, 8, none⟩) (Kd.S_far (p := ⟨gb659, 7, none⟩) (Kd.S_far (p := ⟨gb659, 6, none⟩) (Kd.S_far (p := ⟨gb659, 5, none⟩) (Kd.S_far (p := ⟨gb659, 4, none⟩) (Kd.S_far (p := ⟨gb659, 3, none⟩) (Kd.S_far (p := ⟨gb659, 2, none⟩) (Kd.S_far (p := ⟨gb659, 1, none⟩) (Kd.S_far (p := ⟨gb659, 0, none⟩) (Kd.S_types HO649.out BK659.out (by decide)) (fun _ hk => hk.2) (.slice Ao34 t631.length co34)) (fun _ hk => hk.2) (.slice Ao37 t634.length co37)) (fun _ hk => hk.2) (.slice Ao38 t637.length co38)) (fun _ hk => hk.2) (.slice Ao39 t640.length co39)) (fun _ hk => hk.2) (.slice Ao40 t643.length co40)) (fun _ hk => hk.2) (.int .i64 t646)) (fun _ hk => hk.2) (.slice Ao41 t647.length co41)) (fun _ hk => hk.2) (.slice Ao42 t650.length co42)) (fun _ hk => hk.2) (.slice Ao43 t653.length co43)) (fun _ hk => hk.2) (.slice Ao44 t656.length co44)) (fun _ h_ => h_.1)))); (case side12 => exact (Kd.S_reads' HO649.out).2.1); (case side13 => refine (Kd.S_reads' (e := 157) (base := w.heap.size) (ok := fun k_ => (((((some k_ ≠ (.slice Ao37 t634.length co37 : Value).ownBlock ∧ (some k_ ≠ (.slice Ao43 t653.length co43 : Value).ownBlock ∧ some k_ ≠ (.slice Ao44 t656.length co44 : Value).ownBlock)) ∧ some k_ ≠ (.slice Ao22 t605.length co22 : Value).ownBlock) ∧ some k_ ≠ (.slice Ao27 t621.length co27 : Value).ownBlock) ∧ some k_ ≠ (.slice Ao28 t624.length co28 : Value).ownBlock) ∧ some k_ ≠ (.slice Ao29 t627.length co29 : Value).ownBlock)) (n := t650.length) (c := co42) ?_).2.2; exact (by (with_reducible repeat (first | apply Kd.S_alloc | apply Kd.S_drewN | apply Kd.S_drew)); exact (Kd.S_mono (Kd.S_far (p := ⟨gb659, 9, none⟩) (Kd.S_far (p := ⟨gb659, 8, none⟩) (Kd.S_far (p := ⟨gb659, 7, none⟩) (Kd.S_far (p := ⟨gb659, 6, none⟩) (Kd.S_far (p := ⟨gb659, 5, none⟩) (Kd.S_far (p := ⟨gb659, 4, none⟩) (Kd.S_far (p := ⟨gb659, 3, none⟩) (Kd.S_far (p := ⟨gb659, 2, none⟩) (Kd.S_far (p := ⟨gb659, 1, none⟩) (Kd.S_far (p := ⟨gb659, 0, none⟩) (Kd.S_types HO652.out BK659.out (by decide)) (fun _ hk => hk.2) (.slice Ao34 t631.length co34)) (fun _ hk => hk.2) (.slice Ao37 t634.length co37)) (fun _ hk => hk.2) (.slice Ao38 t637.length co38)) (fun _ hk => hk.2) (.slice Ao39 t640.length co39)) (fun _ hk => hk.2) (.slice Ao40 t643.length co40)) (fun _ hk => hk.2) (.int .i64 t646)) (fun _ hk => hk.2) (.slice Ao41 t647.length co41)) (fun _ hk => hk.2) (.slice Ao42 t650.length co42)) (fun _ hk => hk.2) (.slice Ao43 t653.length co43)) (fun _ hk => hk.2) (.slice Ao44 t656.length co44)) (fun _ h_ => h_.1)))); (case side14 => exact (Kd.S_reads' HO652.out).2.1); (case side15 => refine (Kd.R_reads' (e := 3) (base := w.heap.size) (ok := fun k_ => ((((some k_ ≠ (.slice Ao37 t634.length co37 : Value).ownBlock ∧ some k_ ≠ (.slice Ao44 t656.length co44 : Value).ownBlock) ∧ some k_ ≠ (.slice Ao22 t605.length co22 : Value).ownBlock) ∧ some k_ ≠ (.slice Ao28 t624.length co28 : Value).ownBlock) ∧ some k_ ≠ (.slice Ao29 t627.length co29 : Value).ownBlock)) (n := t653.length) (c := co43) ?_).2.2; exact (by (with_reducible repeat (first | apply Kd.R_alloc | apply Kd.R_drewN | apply Kd.R_drew)); exact (Kd.R_mono (Kd.R_far (p := ⟨gb659, 9, none⟩) (Kd.R_far (p := ⟨gb659, 8, none⟩) (Kd.R_far (p := ⟨gb659, 7, none⟩) (Kd.R_far (p := ⟨gb659, 6, none⟩) (Kd.R_far (p := ⟨gb659, 5, none⟩) (Kd.R_far (p := ⟨gb659, 4, none⟩) (Kd.R_far (p := ⟨gb659, 3, none⟩) (Kd.R_far (p := ⟨gb659, 2, none⟩) (Kd.R_far (p := ⟨gb659, 1, none⟩) (Kd.R_far (p := ⟨gb659, 0, none⟩) (Kd.R_types HO655.out BK659.out (by decide)) (fun _ hk => hk.2) (.slice Ao34 t631.length co34)) (fun _ hk => hk.2) (.slice Ao37 t634.length co37)) (fun _ hk => hk.2) (.slice Ao38 t637.length co38)) (fun _ hk => hk.2) (.slice Ao39 t640.length co39)) (fun _ hk => hk.2) (.slice Ao40 t643.length co40)) (fun _ hk => hk.2) (.int .i64 t646)) (fun _ hk => hk.2) (.slice Ao41 t647.length co41)) (fun _ hk => hk.2) (.slice Ao42 t650.length co42)) (fun _ hk => hk.2) (.slice Ao43 t653.length co43)) (fun _ hk => hk.2) (.slice Ao44 t656.length co44)) (fun _ h_ => h_.1)))); (case side16 => exact (Kd.R_reads' HO655.out).2.1); (case side17 => refine (Kd.R_reads' (e := 3) (base := w.heap.size) (ok := fun k_ => ((((some k_ ≠ (.slice Ao37 t634.length co37 : Value).ownBlock ∧ some k_ ≠ (.slice Ao43 t653.length co43 : Value).ownBlock) ∧ some k_ ≠ (.slice Ao22 t605.length co22 : Value).ownBlock) ∧ some k_ ≠ (.slice Ao28 t624.length co28 : Value).ownBlock) ∧ some k_ ≠ (.slice Ao29 t627.length co29 : Value).ownBlock)) (n := t656.length) (c := co44) ?_).2.2; exact (by (with_reducible repeat (first | apply Kd.R_alloc | apply Kd.R_drewN | apply Kd.R_drew)); exact (Kd.R_mono (Kd.R_far (p := ⟨gb659, 9, none⟩) (Kd.R_far (p := ⟨gb659, 8, none⟩) (Kd.R_far (p := ⟨gb659, 7, none⟩) (Kd.R_far (p := ⟨gb659, 6, none⟩) (Kd.R_far (p := ⟨gb659, 5, none⟩) (Kd.R_far (p := ⟨gb659, 4, none⟩) (Kd.R_far (p := ⟨gb659, 3, none⟩) (Kd.R_far (p := ⟨gb659, 2, none⟩) (Kd.R_far (p := ⟨gb659, 1, none⟩) (Kd.R_far (p := ⟨gb659, 0, none⟩) (Kd.R_types HO658.out BK659.out (by decide)) (fun _ hk => hk.2) (.slice Ao34 t631.length co34)) (fun _ hk => hk.2) (.slice Ao37 t634.length co37)) (fun _ hk => hk.2) (.slice Ao38 t637.length co38)) (fun _ hk => hk.2) (.slice Ao39 t640.length co39)) (fun _ hk => hk.2) (.slice Ao40 t643.length co40)) (fun _ hk => hk.2) (.int .i64 t646)) (fun _ hk => hk.2) (.slice Ao41 t647.length co41)) (fun _ hk => hk.2) (.slice Ao42 t650.length co42)) (fun _ hk => hk.2) (.slice Ao43 t653.length co43)) (fun _ hk => hk.2) (.slice Ao44 t656.length co44)) (fun _ h_ => h_.1)))); (case side18 => exact (Kd.R_reads' HO658.out).2.1); rintro e w45 ⟨rfl, hb⟩; refine ⟨_, rfl, ?_⟩; have n0_ := Aside0.mk (Kd.S_below (by (with_reducible repeat (first | apply Kd.S_alloc | apply Kd.S_drewN | apply Kd.S_drew)); exact (Kd.S_mono (Kd.S_far (p := ⟨gb659, 9, none⟩) (Kd.S_far (p := ⟨gb659, 8, none⟩) (Kd.S_far (p := ⟨gb659, 7, none⟩) (Kd.S_far (p := ⟨gb659, 6, none⟩) (Kd.S_far (p := ⟨gb659, 5, none⟩) (Kd.S_far (p := ⟨gb659, 4, none⟩) (Kd.S_far (p := ⟨gb659, 3, none⟩) (Kd.S_far (p := ⟨gb659, 2, none⟩) (Kd.S_far (p := ⟨gb659, 1, none⟩) (Kd.S_far (p := ⟨gb659, 0, none⟩) (Kd.S_types HO604.out BK659.out (by decide)) (fun _ hk => hk.2) (.slice Ao34 t631.length co34)) (fun _ hk => hk.2) (.slice Ao37 t634.length co37)) (fun _ hk => hk.2) (.slice Ao38 t637.length co38)) (fun _ hk => hk.2) (.slice Ao39 t640.length co39)) (fun _ hk => hk.2) (.slice Ao40 t643.length co40)) (fun _ hk => hk.2) (.int .i64 t646)) (fun _ hk => hk.2) (.slice Ao41 t647.length co41)) (fun _ hk => hk.2) (.slice Ao42 t650.length co42)) (fun _ hk => hk.2) (.slice Ao43 t653.length co43)) (fun _ hk => hk.2) (.slice Ao44 t656.length co44)) (fun _ h_ => h_.1))) hb); have n1_ := Aside0.mk (Kd.R_below (by (with_reducible repeat (first | apply Kd.R_alloc | apply Kd.R_drewN | apply Kd.R_drew)); exact (Kd.R_mono (Kd.R_far (p := ⟨gb659, 9, none⟩) (Kd.R_far (p := ⟨gb659, 8, none⟩) (Kd.R_far (p := ⟨gb659, 7, none⟩) (Kd.R_far (p := ⟨gb659, 6, none⟩) (Kd.R_far (p := ⟨gb659, 5, none⟩) (Kd.R_far (p := ⟨gb659, 4, none⟩) (Kd.R_far (p := ⟨gb659, 3, none⟩) (Kd.R_far (p := ⟨gb659, 2, none⟩) (Kd.R_far (p := ⟨gb659, 1, none⟩) (Kd.R_far (p := ⟨gb659, 0, none⟩) (Kd.R_types HO607.out BK659.out (by decide)) (fun _ hk => hk.2) (.slice Ao34 t631.length co34)) (fun _ hk => hk.2) (.slice Ao37 t634.length co37)) (fun _ hk => hk.2) (.slice Ao38 t637.length co38)) (fun _ hk => hk.2) (.slice Ao39 t640.length co39)) (fun _ hk => hk.2) (.slice Ao40 t643.length co40)) (fun _ hk => hk.2) (.int .i64 t646)) (fun _ hk => hk.2) (.slice Ao41 t647.length co41)) (fun _ hk => hk.2) (.slice Ao42 t650.length co42)) (fun _ hk => hk.2) (.slice Ao43 t653.length co43)) (fun _ hk => hk.2) (.slice Ao44 t656.length co44)) (fun _ h_ => h_.1))) hb); have n2_ := Aside0.mk (Kd.R_below (by (with_reducible repeat (first | apply Kd.R_alloc | apply Kd.R_drewN | apply Kd.R_drew)); exact (Kd.R_mono (Kd.R_far (p := ⟨gb659, 9, none⟩) (Kd.R_far (p := ⟨gb659, 8, none⟩) (Kd.R_far (p := ⟨gb659, 7, none⟩) (Kd.R_far (p := ⟨gb659, 6, none⟩) (Kd.R_far (p := ⟨gb659, 5, none⟩) (Kd.R_far (p := ⟨gb659, 4, none⟩) (Kd.R_far (p := ⟨gb659, 3, none⟩) (Kd.R_far (p := ⟨gb659, 2, none⟩) (Kd.R_far (p := ⟨gb659, 1, none⟩) (Kd.R_far (p := ⟨gb659, 0, none⟩) (Kd.R_types HO610.out BK659.out (by decide)) (fun _ hk => hk.2) (.slice Ao34 t631.length co34)) (fun _ hk => hk.2) (.slice Ao37 t634.length co37)) (fun _ hk => hk.2) (.slice Ao38 t637.length co38)) (fun _ hk => hk.2) (.slice Ao39 t640.length co39)) (fun _ hk => hk.2) (.slice Ao40 t643.length co40)) (fun _ hk => hk.2) (.int .i64 t646)) (fun _ hk => hk.2) (.slice Ao41 t647.length co41)) (fun _ hk => hk.2) (.slice Ao42 t650.length co42)) (fun _ hk => hk.2) (.slice Ao43 t653.length co43)) (fun _ hk => hk.2) (.slice Ao44 t656.length co44)) (fun _ h_ => h_.1))) hb); have n3_ := Aside0.mk (Kd.S_below (by (with_reducible repeat (first | apply Kd.S_alloc | apply Kd.S_drewN | apply Kd.S_drew)); exact (Kd.S_mono (Kd.S_far (p := ⟨gb659, 9, none⟩) (Kd.S_far (p := ⟨gb659, 8, none⟩) (Kd.S_far (p := ⟨gb659, 7, none⟩) (Kd.S_far (p := ⟨gb659, 6, none⟩) (Kd.S_far (p := ⟨gb659, 5, none⟩) (Kd.S_far (p := ⟨gb659, 4, none⟩) (Kd.S_far (p := ⟨gb659, 3, none⟩) (Kd.S_far (p := ⟨gb659, 2, none⟩) (Kd.S_far (p := ⟨gb659, 1, none⟩) (Kd.S_far (p := ⟨gb659, 0, none⟩) (Kd.S_types HO613.out BK659.out (by decide)) (fun _ hk => hk.2) (.slice Ao34 t631.length co34)) (fun _ hk => hk.2) (.slice Ao37 t634.length co37)) (fun _ hk => hk.2) (.slice Ao38 t637.length co38)) (fun _ hk => hk.2) (.slice Ao39 t640.length co39)) (fun _ hk => hk.2) (.slice Ao40 t643.length co40)) (fun _ hk => hk.2) (.int .i64 t646)) (fun _ hk => hk.2) (.slice Ao41 t647.length co41)) (fun _ hk => hk.2) (.slice Ao42 t650.length co42)) (fun _ hk => hk.2) (.slice Ao43 t653.length co43)) (fun _ hk => hk.2) (.slice Ao44 t656.length co44)) (fun _ h_ => h_.1))) hb); have n4_ := Aside0.mk (Kd.R_below (by (with_reducible repeat (first | apply Kd.R_alloc | apply Kd.R_drewN | apply Kd.R_drew)); exact (Kd.R_mono (Kd.R_far (p := ⟨gb659, 9, none⟩) (Kd.R_far (p := ⟨gb659, 8, none⟩) (Kd.R_far (p := ⟨gb659, 7, none⟩) (Kd.R_far (p := ⟨gb659, 6, none⟩) (Kd.R_far (p := ⟨gb659, 5, none⟩) (Kd.R_far (p := ⟨gb659, 4, none⟩) (Kd.R_far (p := ⟨gb659, 3, none⟩) (Kd.R_far (p := ⟨gb659, 2, none⟩) (Kd.R_far (p := ⟨gb659, 1, none⟩) (Kd.R_far (p := ⟨gb659, 0, none⟩) (Kd.R_types HO616.out BK659.out (by decide)) (fun _ hk => hk.2) (.slice Ao34 t631.length co34)) (fun _ hk => hk.2) (.slice Ao37 t634.length co37)) (fun _ hk => hk.2) (.slice Ao38 t637.length co38)) (fun _ hk => hk.2) (.slice Ao39 t640.length co39)) (fun _ hk => hk.2) (.slice Ao40 t643.length co40)) (fun _ hk => hk.2) (.int .i64 t646)) (fun _ hk => hk.2) (.slice Ao41 t647.length co41)) (fun _ hk => hk.2) (.slice Ao42 t650.length co42)) (fun _ hk => hk.2) (.slice Ao43 t653.length co43)) (fun _ hk => hk.2) (.slice Ao44 t656.length co44)) (fun _ h_ => h_.1))) hb); have n5_ := Aside0.mk (Kd.S_below (by (with_reducible repeat (first | apply Kd.S_alloc | apply Kd.S_drewN | apply Kd.S_drew)); exact (Kd.S_mono (Kd.S_far (p := ⟨gb659, 9, none⟩) (Kd.S_far (p := ⟨gb659, 8, none⟩) (Kd.S_far (p := ⟨gb659, 7, none⟩) (Kd.S_far (p := ⟨gb659, 6, none⟩) (Kd.S_far (p := ⟨gb659, 5, none⟩) (Kd.S_far (p := ⟨gb659, 4, none⟩) (Kd.S_far (p := ⟨gb659, 3, none⟩) (Kd.S_far (p := ⟨gb659, 2, none⟩) (Kd.S_far (p := ⟨gb659, 1, none⟩) (Kd.S_far (p := ⟨gb659, 0, none⟩) (Kd.S_types HO620.out BK659.out (by decide)) (fun _ hk => hk.2) (.slice Ao34 t631.length co34)) (fun _ hk => hk.2) (.slice Ao37 t634.length co37)) (fun _ hk => hk.2) (.slice Ao38 t637.length co38)) (fun _ hk => hk.2) (.slice Ao39 t640.length co39)) (fun _ hk => hk.2) (.slice Ao40 t643.length co40)) (fun _ hk => hk.2) (.int .i64 t646)) (fun _ hk => hk.2) (.slice Ao41 t647.length co41)) (fun _ hk => hk.2) (.slice Ao42 t650.length co42)) (fun _ hk => hk.2) (.slice Ao43 t653.length co43)) (fun _ hk => hk.2) (.slice Ao44 t656.length co44)) (fun _ h_ => h_.1))) hb); have n6_ := Aside0.mk (Kd.S_below (by (with_reducible repeat (first | apply Kd.S_alloc | apply Kd.S_drewN | apply Kd.S_drew)); exact (Kd.S_mono (Kd.S_far (p := ⟨gb659, 9, none⟩) (Kd.S_far (p := ⟨gb659, 8, none⟩) (Kd.S_far (p := ⟨gb659, 7, none⟩) (Kd.S_far (p := ⟨gb659, 6, none⟩) (Kd.S_far (p := ⟨gb659, 5, none⟩) (Kd.S_far (p := ⟨gb659, 4, none⟩) (Kd.S_far (p := ⟨gb659, 3, none⟩) (Kd.S_far (p := ⟨gb659, 2, none⟩) (Kd.S_far (p := ⟨gb659, 1, none⟩) (Kd.S_far (p := ⟨gb659, 0, none⟩) (Kd.S_types HO623.out BK659.out (by decide)) (fun _ hk => hk.2) (.slice Ao34 t631.length co34)) (fun _ hk => hk.2) (.slice Ao37 t634.length co37)) (fun _ hk => hk.2) (.slice Ao38 t637.length co38)) (fun _ hk => hk.2) (.slice Ao39 t640.length co39)) (fun _ hk => hk.2) (.slice Ao40 t643.length co40)) (fun _ hk => hk.2) (.int .i64 t646)) (fun _ hk => hk.2) (.slice Ao41 t647.length co41)) (fun _ hk => hk.2) (.slice Ao42 t650.length co42)) (fun _ hk => hk.2) (.slice Ao43 t653.length co43)) (fun _ hk => hk.2) (.slice Ao44 t656.length co44)) (fun _ h_ => h_.1))) hb); have n7_ := Aside0.mk (Kd.R_below (by (with_reducible repeat (first | apply Kd.R_alloc | apply Kd.R_drewN | apply Kd.R_drew)); exact (Kd.R_mono (Kd.R_far (p := ⟨gb659, 9, none⟩) (Kd.R_far (p := ⟨gb659, 8, none⟩) (Kd.R_far (p := ⟨gb659, 7, none⟩) (Kd.R_far (p := ⟨gb659, 6, none⟩) (Kd.R_far (p := ⟨gb659, 5, none⟩) (Kd.R_far (p := ⟨gb659, 4, none⟩) (Kd.R_far (p := ⟨gb659, 3, none⟩) (Kd.R_far (p := ⟨gb659, 2, none⟩) (Kd.R_far (p := ⟨gb659, 1, none⟩) (Kd.R_far (p := ⟨gb659, 0, none⟩) (Kd.R_types HO626.out BK659.out (by decide)) (fun _ hk => hk.2) (.slice Ao34 t631.length co34)) (fun _ hk => hk.2) (.slice Ao37 t634.length co37)) (fun _ hk => hk.2) (.slice Ao38 t637.length co38)) (fun _ hk => hk.2) (.slice Ao39 t640.length co39)) (fun _ hk => hk.2) (.slice Ao40 t643.length co40)) (fun _ hk => hk.2) (.int .i64 t646)) (fun _ hk => hk.2) (.slice Ao41 t647.length co41)) (fun _ hk => hk.2) (.slice Ao42 t650.length co42)) (fun _ hk => hk.2) (.slice Ao43 t653.length co43)) (fun _ hk => hk.2) (.slice Ao44 t656.length co44)) (fun _ h_ => h_.1))) hb); have n8_ := Aside0.mk (Kd.R_below (by (with_reducible repeat (first | apply Kd.R_alloc | apply Kd.R_drewN | apply Kd.R_drew)); exact (Kd.R_mono (Kd.R_far (p := ⟨gb659, 9, none⟩) (Kd.R_far (p := ⟨gb659, 8, none⟩) (Kd.R_far (p := ⟨gb659, 7, none⟩) (Kd.R_far (p := ⟨gb659, 6, none⟩) (Kd.R_far (p := ⟨gb659, 5, none⟩) (Kd.R_far (p := ⟨gb659, 4, none⟩) (Kd.R_far (p := ⟨gb659, 3, none⟩) (Kd.R_far (p := ⟨gb659, 2, none⟩) (Kd.R_far (p := ⟨gb659, 1, none⟩) (Kd.R_far (p := ⟨gb659, 0, none⟩) (Kd.R_types HO629.out BK659.out (by decide)) (fun _ hk => hk.2) (.slice Ao34 t631.length co34)) (fun _ hk => hk.2) (.slice Ao37 t634.length co37)) (fun _ hk => hk.2) (.slice Ao38 t637.length co38)) (fun _ hk => hk.2) (.slice Ao39 t640.length co39)) (fun _ hk => hk.2) (.slice Ao40 t643.length co40)) (fun _ hk => hk.2) (.int .i64 t646)) (fun _ hk => hk.2) (.slice Ao41 t647.length co41)) (fun _ hk => hk.2) (.slice Ao42 t650.length co42)) (fun _ hk => hk.2) (.slice Ao43 t653.length co43)) (fun _ hk => hk.2) (.slice Ao44 t656.length co44)) (fun _ h_ => h_.1))) hb); have n9_ := Aside0.mk (Kd.S_below (by (with_reducible repeat (first | apply Kd.S_alloc | apply Kd.S_drewN | apply Kd.S_drew)); exact (Kd.S_mono (Kd.S_far (p := ⟨gb659, 9, none⟩) (Kd.S_far (p := ⟨gb659, 8, none⟩) (Kd.S_far (p := ⟨gb659, 7, none⟩) (Kd.S_far (p := ⟨gb659, 6, none⟩) (Kd.S_far (p := ⟨gb659, 5, none⟩) (Kd.S_far (p := ⟨gb659, 4, none⟩) (Kd.S_far (p := ⟨gb659, 3, none⟩) (Kd.S_far (p := ⟨gb659, 2, none⟩) (Kd.S_far (p := ⟨gb659, 1, none⟩) (Kd.S_far (p := ⟨gb659, 0, none⟩) (Kd.S_types HO633.out BK659.out (by decide)) (fun _ hk => hk.2) (.slice Ao34 t631.length co34)) (fun _ hk => hk.2) (.slice Ao37 t634.length co37)) (fun _ hk => hk.2) (.slice Ao38 t637.length co38)) (fun _ hk => hk.2) (.slice Ao39 t640.length co39)) (fun _ hk => hk.2) (.slice Ao40 t643.length co40)) (fun _ hk => hk.2) (.int .i64 t646)) (fun _ hk => hk.2) (.slice Ao41 t647.length co41)) (fun _ hk => hk.2) (.slice Ao42 t650.length co42)) (fun _ hk => hk.2) (.slice Ao43 t653.length co43)) (fun _ hk => hk.2) (.slice Ao44 t656.length co44)) (fun _ h_ => h_.1))) hb); have n10_ := Aside0.mk (Kd.R_below (by (with_reducible repeat (first | apply Kd.R_alloc | apply Kd.R_drewN | apply Kd.R_drew)); exact (Kd.R_mono (Kd.R_far (p := ⟨gb659, 9, none⟩) (Kd.R_far (p := ⟨gb659, 8, none⟩) (Kd.R_far (p := ⟨gb659, 7, none⟩) (Kd.R_far (p := ⟨gb659, 6, none⟩) (Kd.R_far (p := ⟨gb659, 5, none⟩) (Kd.R_far (p := ⟨gb659, 4, none⟩) (Kd.R_far (p := ⟨gb659, 3, none⟩) (Kd.R_far (p := ⟨gb659, 2, none⟩) (Kd.R_far (p := ⟨gb659, 1, none⟩) (Kd.R_far (p := ⟨gb659, 0, none⟩) (Kd.R_types HO636.out BK659.out (by decide)) (fun _ hk => hk.2) (.slice Ao34 t631.length co34)) (fun _ hk => hk.2) (.slice Ao37 t634.length co37)) (fun _ hk => hk.2) (.slice Ao38 t637.length co38)) (fun _ hk => hk.2) (.slice Ao39 t640.length co39)) (fun _ hk => hk.2) (.slice Ao40 t643.length co40)) (fun _ hk => hk.2) (.int .i64 t646)) (fun _ hk => hk.2) (.slice Ao41 t647.length co41)) (fun _ hk => hk.2) (.slice Ao42 t650.length co42)) (fun _ hk => hk.2) (.slice Ao43 t653.length co43)) (fun _ hk => hk.2) (.slice Ao44 t656.length co44)) (fun _ h_ => h_.1))) hb); have n11_ := Aside0.mk (Kd.R_below (by (with_reducible repeat (first | apply Kd.R_alloc | apply Kd.R_drewN | apply Kd.R_drew)); exact (Kd.R_mono (Kd.R_far (p := ⟨gb659, 9, none⟩) (Kd.R_far (p := ⟨gb659, 8, none⟩) (Kd.R_far (p := ⟨gb659, 7, none⟩) (Kd.R_far (p := ⟨gb659, 6, none⟩) (Kd.R_far (p := ⟨gb659, 5, none⟩) (Kd.R_far (p := ⟨gb659, 4, none⟩) (Kd.R_far (p := ⟨gb659, 3, none⟩) (Kd.R_far (p := ⟨gb659, 2, none⟩) (Kd.R_far (p := ⟨gb659, 1, none⟩) (Kd.R_far (p := ⟨gb659, 0, none⟩) (Kd.R_types HO639.out BK659.out (by decide)) (fun _ hk => hk.2) (.slice Ao34 t631.length co34)) (fun _ hk => hk.2) (.slice Ao37 t634.length co37)) (fun _ hk => hk.2) (.slice Ao38 t637.length co38)) (fun _ hk => hk.2) (.slice Ao39 t640.length co39)) (fun _ hk => hk.2) (.slice Ao40 t643.length co40)) (fun _ hk => hk.2) (.int .i64 t646)) (fun _ hk => hk.2) (.slice Ao41 t647.length co41)) (fun _ hk => hk.2) (.slice Ao42 t650.length co42)) (fun _ hk => hk.2) (.slice Ao43 t653.length co43)) (fun _ hk => hk.2) (.slice Ao44 t656.length co44)) (fun _ h_ => h_.1))) hb); have n12_ := Aside0.mk (Kd.S_below (by (with_reducible repeat (first | apply Kd.S_alloc | apply Kd.S_drewN | apply Kd.S_drew)); exact (Kd.S_mono (Kd.S_far (p := ⟨gb659, 9, none⟩) (Kd.S_far (p := ⟨gb659, 8, none⟩) (Kd.S_far (p := ⟨gb659, 7, none⟩) (Kd.S_far (p := ⟨gb659, 6, none⟩) (Kd.S_far (p := ⟨gb659, 5, none⟩) (Kd.S_far (p := ⟨gb659, 4, none⟩) (Kd.S_far (p := ⟨gb659, 3, none⟩) (Kd.S_far (p := ⟨gb659, 2, none⟩) (Kd.S_far (p := ⟨gb659, 1, none⟩) (Kd.S_far (p := ⟨gb659, 0, none⟩) (Kd.S_types HO642.out BK659.out (by decide)) (fun _ hk => hk.2) (.slice Ao34 t631.length co34)) (fun _ hk => hk.2) (.slice Ao37 t634.length co37)) (fun _ hk => hk.2) (.slice Ao38 t637.length co38)) (fun _ hk => hk.2) (.slice Ao39 t640.length co39)) (fun _ hk => hk.2) (.slice Ao40 t643.length co40)) (fun _ hk => hk.2) (.int .i64 t646)) (fun _ hk => hk.2) (.slice Ao41 t647.length co41)) (fun _ hk => hk.2) (.slice Ao42 t650.length co42)) (fun _ hk => hk.2) (.slice Ao43 t653.length co43)) (fun _ hk => hk.2) (.slice Ao44 t656.length co44)) (fun _ h_ => h_.1))) hb); have n13_ := Aside0.mk (Kd.R_below (by (with_reducible repeat (first | apply Kd.R_alloc | apply Kd.R_drewN | apply Kd.R_drew)); exact (Kd.R_mono (Kd.R_far (p := ⟨gb659, 9, none⟩) (Kd.R_far (p := ⟨gb659, 8, none⟩) (Kd.R_far (p := ⟨gb659, 7, none⟩) (Kd.R_far (p := ⟨gb659, 6, none⟩) (Kd.R_far (p := ⟨gb659, 5, none⟩) (Kd.R_far (p := ⟨gb659, 4, none⟩) (Kd.R_far (p := ⟨gb659, 3, none⟩) (Kd.R_far (p := ⟨gb659, 2, none⟩) (Kd.R_far (p := ⟨gb659, 1, none⟩) (Kd.R_far (p := ⟨gb659, 0, none⟩) (Kd.R_types HO645.out BK659.out (by decide)) (fun _ hk => hk.2) (.slice Ao34 t631.length co34)) (fun _ hk => hk.2) (.slice Ao37 t634.length co37)) (fun _ hk => hk.2) (.slice Ao38 t637.length co38)) (fun _ hk => hk.2) (.slice Ao39 t640.length co39)) (fun _ hk => hk.2) (.slice Ao40 t643.length co40)) (fun _ hk => hk.2) (.int .i64 t646)) (fun _ hk => hk.2) (.slice Ao41 t647.length co41)) (fun _ hk => hk.2) (.slice Ao42 t650.length co42)) (fun _ hk => hk.2) (.slice Ao43 t653.length co43)) (fun _ hk => hk.2) (.slice Ao44 t656.length co44)) (fun _ h_ => h_.1))) hb); have n14_ := Aside0.mk (Kd.S_below (by (with_reducible repeat (first | apply Kd.S_alloc | apply Kd.S_drewN | apply Kd.S_drew)); exact (Kd.S_mono (Kd.S_far (p := ⟨gb659, 9, none⟩) (Kd.S_far (p := ⟨gb659, 8, none⟩) (Kd.S_far (p := ⟨gb659, 7, none⟩) (Kd.S_far (p := ⟨gb659, 6, none⟩) (Kd.S_far (p := ⟨gb659, 5, none⟩) (Kd.S_far (p := ⟨gb659, 4, none⟩) (Kd.S_far (p := ⟨gb659, 3, none⟩) (Kd.S_far (p := ⟨gb659, 2, none⟩) (Kd.S_far (p := ⟨gb659, 1, none⟩) (Kd.S_far (p := ⟨gb659, 0, none⟩) (Kd.S_types HO649.out BK659.out (by decide)) (fun _ hk => hk.2) (.slice Ao34 t631.length co34)) (fun _ hk => hk.2) (.slice Ao37 t634.length co37)) (fun _ hk => hk.2) (.slice Ao38 t637.length co38)) (fun _ hk => hk.2) (.slice Ao39 t640.length co39)) (fun _ hk => hk.2) (.slice Ao40 t643.length co40)) (fun _ hk => hk.2) (.int .i64 t646)) (fun _ hk => hk.2) (.slice Ao41 t647.length co41)) (fun _ hk => hk.2) (.slice Ao42 t650.length co42)) (fun _ hk => hk.2) (.slice Ao43 t653.length co43)) (fun _ hk => hk.2) (.slice Ao44 t656.length co44)) (fun _ h_ => h_.1))) hb); have n15_ := Aside0.mk (Kd.S_below (by (with_reducible repeat (first | apply Kd.S_alloc | apply Kd.S_drewN | apply Kd.S_drew)); exact (Kd.S_mono (Kd.S_far (p := ⟨gb659, 9, none⟩) (Kd.S_far (p := ⟨gb659, 8, none⟩) (Kd.S_far (p := ⟨gb659, 7, none⟩) (Kd.S_far (p := ⟨gb659, 6, none⟩) (Kd.S_far (p := ⟨gb659, 5, none⟩) (Kd.S_far (p := ⟨gb659, 4, none⟩) (Kd.S_far (p := ⟨gb659, 3, none⟩) (Kd.S_far (p := ⟨gb659, 2, none⟩) (Kd.S_far (p := ⟨gb659, 1, none⟩) (Kd.S_far (p := ⟨gb659, 0, none⟩) (Kd.S_types HO652.out BK659.out (by decide)) (fun _ hk => hk.2) (.slice Ao34 t631.length co34)) (fun _ hk => hk.2) (.slice Ao37 t634.length co37)) (fun _ hk => hk.2) (.slice Ao38 t637.length co38)) (fun _ hk => hk.2) (.slice Ao39 t640.length co39)) (fun _ hk => hk.2) (.slice Ao40 t643.length co40)) (fun _ hk => hk.2) (.int .i64 t646)) (fun _ hk => hk.2) (.slice Ao41 t647.length co41)) (fun _ hk => hk.2) (.slice Ao42 t650.length co42)) (fun _ hk => hk.2) (.slice Ao43 t653.length co43)) (fun _ hk => hk.2) (.slice Ao44 t656.length co44)) (fun _ h_ => h_.1))) hb); have n16_ := Aside0.mk (Kd.R_below (by (with_reducible repeat (first | apply Kd.R_alloc | apply Kd.R_drewN | apply Kd.R_drew)); exact (Kd.R_mono (Kd.R_far (p := ⟨gb659, 9, none⟩) (Kd.R_far (p := ⟨gb659, 8, none⟩) (Kd.R_far (p := ⟨gb659, 7, none⟩) (Kd.R_far (p := ⟨gb659, 6, none⟩) (Kd.R_far (p := ⟨gb659, 5, none⟩) (Kd.R_far (p := ⟨gb659, 4, none⟩) (Kd.R_far (p := ⟨gb659, 3, none⟩) (Kd.R_far (p := ⟨gb659, 2, none⟩) (Kd.R_far (p := ⟨gb659, 1, none⟩) (Kd.R_far (p := ⟨gb659, 0, none⟩) (Kd.R_types HO655.out BK659.out (by decide)) (fun _ hk => hk.2) (.slice Ao34 t631.length co34)) (fun _ hk => hk.2) (.slice Ao37 t634.length co37)) (fun _ hk => hk.2) (.slice Ao38 t637.length co38)) (fun _ hk => hk.2) (.slice Ao39 t640.length co39)) (fun _ hk => hk.2) (.slice Ao40 t643.length co40)) (fun _ hk => hk.2) (.int .i64 t646)) (fun _ hk => hk.2) (.slice Ao41 t647.length co41)) (fun _ hk => hk.2) (.slice Ao42 t650.length co42)) (fun _ hk => hk.2) (.slice Ao43 t653.length co43)) (fun _ hk => hk.2) (.slice Ao44 t656.length co44)) (fun _ h_ => h_.1))) hb); have n17_ := Aside0.mk (Kd.R_below (by (with_reducible repeat (first | apply Kd.R_alloc | apply Kd.R_drewN | apply Kd.R_drew)); exact (Kd.R_mono (Kd.R_far (p := ⟨gb659, 9, none⟩) (Kd.R_far (p := ⟨gb659, 8, none⟩) (Kd.R_far (p := ⟨gb659, 7, none⟩) (Kd.R_far (p := ⟨gb659, 6, none⟩) (Kd.R_far (p := ⟨gb659, 5, none⟩) (Kd.R_far (p := ⟨gb659, 4, none⟩) (Kd.R_far (p := ⟨gb659, 3, none⟩) (Kd.R_far (p := ⟨gb659, 2, none⟩) (Kd.R_far (p := ⟨gb659, 1, none⟩) (Kd.R_far (p := ⟨gb659, 0, none⟩) (Kd.R_types HO658.out BK659.out (by decide)) (fun _ hk => hk.2) (.slice Ao34 t631.length co34)) (fun _ hk => hk.2) (.slice Ao37 t634.length co37)) (fun _ hk => hk.2) (.slice Ao38 t637.length co38)) (fun _ hk => hk.2) (.slice Ao39 t640.length co39)) (fun _ hk => hk.2) (.slice Ao40 t643.length co40)) (fun _ hk => hk.2) (.int .i64 t646)) (fun _ hk => hk.2) (.slice Ao41 t647.length co41)) (fun _ hk => hk.2) (.slice Ao42 t650.length co42)) (fun _ hk => hk.2) (.slice Ao43 t653.length co43)) (fun _ hk => hk.2) (.slice Ao44 t656.length co44)) (fun _ h_ => h_.1))) hb); have n18_ := Aside0.mk (blk_below (g := gb600) (o := .cells #[.slice A0_0 l0_0.length c0_0, .slice A0_1 l0_1.length c0_1, .slice A0_2 l0_2.length c0_2, .slice A0_3 l0_3.length c0_3, .slice A0_4 l0_4.length c0_4, .int .i64 a0_5, .slice A0_6 l0_6.length c0_6, .slice A0_7 l0_7.length c0_7, .slice A0_8 l0_8.length c0_8, .slice A0_9 l0_9.length c0_9] 48 (0, 0)) (by (with_reducible repeat (first | refine blk_drewN ?_ _ | refine blk_drew ?_ | refine blk_alloc ?_ _)); refine blk_far ?_ NB600_659.out _; (with_reducible repeat (first | refine blk_drewN ?_ _ | refine blk_drew ?_ | refine blk_alloc ?_ _)); refine blk_far ?_ NB600_659.out _; (with_reducible repeat (first | refine blk_drewN ?_ _ | refine blk_drew ?_ | refine blk_alloc ?_ _)); refine blk_far ?_ NB600_659.out _; (with_reducible repeat (first | refine blk_drewN ?_ _ | refine blk_drew ?_ | refine blk_alloc ?_ _)); refine blk_far ?_ NB600_659.out _; (with_reducible repeat (first | refine blk_drewN ?_ _ | refine blk_drew ?_ | refine blk_alloc ?_ _)); refine blk_far ?_ NB600_659.out _; (with_reducible repeat (first | refine blk_drewN ?_ _ | refine blk_drew ?_ | refine blk_alloc ?_ _)); refine blk_far ?_ NB600_659.out _; (with_reducible repeat (first | refine blk_drewN ?_ _ | refine blk_drew ?_ | refine blk_alloc ?_ _)); refine blk_far ?_ NB600_659.out _; (with_reducible repeat (first | refine blk_drewN ?_ _ | refine blk_drew ?_ | refine blk_alloc ?_ _)); refine blk_far ?_ NB600_659.out _; (with_reducible repeat (first | refine blk_drewN ?_ _ | refine blk_drew ?_ | refine blk_alloc ?_ _)); refine blk_far ?_ NB600_659.out _; (with_reducible repeat (first | refine blk_drewN ?_ _ | refine blk_drew ?_ | refine blk_alloc ?_ _)); refine blk_far ?_ NB600_659.out _; (with_reducible repeat (first | refine blk_drewN ?_ _ | refine blk_drew ?_ | refine blk_alloc ?_ _)); exact BK600.out) hb); have n19_ := Aside0.mk (blk_below (g := gb659) (o := .cells #[.slice Ao34 t631.length co34, .slice Ao37 t634.length co37, .slice Ao38 t637.length co38, .slice Ao39 t640.length co39, .slice Ao40 t643.length co40, .int .i64 t646, .slice Ao41 t647.length co41, .slice Ao42 t650.length co42, .slice Ao43 t653.length co43, .slice Ao44 t656.length co44] 56 (0, 0)) (by (with_reducible repeat (first | refine blk_drewN ?_ _ | refine blk_drew ?_ | refine blk_alloc ?_ _)); refine blk_put (cs := #[.slice Ao34 t631.length co34, .slice Ao37 t634.length co37, .slice Ao38 t637.length co38, .slice Ao39 t640.length co39, .slice Ao40 t643.length co40, .int .i64 t646, .slice Ao41 t647.length co41, .slice Ao42 t650.length co42, .slice Ao43 t653.length co43, .slice none 0 0]) ?_ 9 _ rfl; (with_reducible repeat (first | refine blk_drewN ?_ _ | refine blk_drew ?_ | refine blk_alloc ?_ _)); refine blk_put (cs := #[.slice Ao34 t631.length co34, .slice Ao37 t634.length co37, .slice Ao38 t637.length co38, .slice Ao39 t640.length co39, .slice Ao40 t643.length co40, .int .i64 t646, .slice Ao41 t647.length co41, .slice Ao42 t650.length co42, .slice none 0 0, .slice none 0 0]) ?_ 8 _ rfl; (with_reducible repeat (first | refine blk_drewN ?_ _ | refine blk_drew ?_ | refine blk_alloc ?_ _)); refine blk_put (cs := #[.slice Ao34 t631.length co34, .slice Ao37 t634.length co37, .slice Ao38 t637.length co38, .slice Ao39 t640.length co39, .slice Ao40 t643.length co40, .int .i64 t646, .slice Ao41 t647.length co41, .slice none 0 0, .slice none 0 0, .slice none 0 0]) ?_ 7 _ rfl; (with_reducible repeat (first | refine blk_drewN ?_ _ | refine blk_drew ?_ | refine blk_alloc ?_ _)); refine blk_put (cs := #[.slice Ao34 t631.length co34, .slice Ao37 t634.length co37, .slice Ao38 t637.length co38, .slice Ao39 t640.length co39, .slice Ao40 t643.length co40, .int .i64 t646, .slice none 0 0, .slice none 0 0, .slice none 0 0, .slice none 0 0]) ?_ 6 _ rfl; (with_reducible repeat (first | refine blk_drewN ?_ _ | refine blk_drew ?_ | refine blk_alloc ?_ _)); refine blk_put (cs := #[.slice Ao34 t631.length co34, .slice Ao37 t634.length co37, .slice Ao38 t637.length co38, .slice Ao39 t640.length co39, .slice Ao40 t643.length co40, .int .i64 0, .slice none 0 0, .slice none 0 0, .slice none 0 0, .slice none 0 0]) ?_ 5 _ rfl; (with_reducible repeat (first | refine blk_drewN ?_ _ | refine blk_drew ?_ | refine blk_alloc ?_ _)); refine blk_put (cs := #[.slice Ao34 t631.length co34, .slice Ao37 t634.length co37, .slice Ao38 t637.length co38, .slice Ao39 t640.length co39, .slice none 0 0, .int .i64 0, .slice none 0 0, .slice none 0 0, .slice none 0 0, .slice none 0 0]) ?_ 4 _ rfl; (with_reducible repeat (first | refine blk_drewN ?_ _ | refine blk_drew ?_ | refine blk_alloc ?_ _)); refine blk_put (cs := #[.slice Ao34 t631.length co34, .slice Ao37 t634.length co37, .slice Ao38 t637.length co38, .slice none 0 0, .slice none 0 0, .int .i64 0, .slice none 0 0, .slice none 0 0, .slice none 0 0, .slice none 0 0]) ?_ 3 _ rfl; (with_reducible repeat (first | refine blk_drewN ?_ _ | refine blk_drew ?_ | refine blk_alloc ?_ _)); refine blk_put (cs := #[.slice Ao34 t631.length co34, .slice Ao37 t634.length co37, .slice none 0 0, .slice none 0 0, .slice none 0 0, .int .i64 0, .slice none 0 0, .slice none 0 0, .slice none 0 0, .slice none 0 0]) ?_ 2 _ rfl; (with_reducible repeat (first | refine blk_drewN ?_ _ | refine blk_drew ?_ | refine blk_alloc ?_ _)); refine blk_put (cs := #[.slice Ao34 t631.length co34, .slice none 0 0, .slice none 0 0, .slice none 0 0, .slice none 0 0, .int .i64 0, .slice none 0 0, .slice none 0 0, .slice none 0 0, .slice none 0 0]) ?_ 1 _ rfl; (with_reducible repeat (first | refine blk_drewN ?_ _ | refine blk_drew ?_ | refine blk_alloc ?_ _)); refine blk_put (cs := #[.slice none 0 0, .slice none 0 0, .slice none 0 0, .slice none 0 0, .slice none 0 0, .int .i64 0, .slice none 0 0, .slice none 0 0, .slice none 0 0, .slice none 0 0]) ?_ 0 _ rfl; (with_reducible repeat (first | refine blk_drewN ?_ _ | refine blk_drew ?_ | refine blk_alloc ?_ _)); exact BK659.out) hb); have n20_ := Aside0.mk (below_step (by repeat (first | (with_reducible first | exact HB.out | apply below_alloc | apply pw_below_drewN | apply below_drew1 | refine below_set ?_ GE600.out | refine below_set ?_ GE659.out) | exact HB.out)) hb); clear HO604; clear HO607; clear HO610; clear HO613; clear HO616; clear HO620; clear HO623; clear HO626; clear HO629; clear HO633; clear HO636; clear HO639; clear HO642; clear HO645; clear HO649; clear HO652; clear HO655; clear HO658; clear BK600; clear BK659; clear HB; have HO604 := n0_; have HO607 := n1_; have HO610 := n2_; have HO613 := n3_; have HO616 := n4_; have HO620 := n5_; have HO623 := n6_; have HO626 := n7_; have HO629 := n8_; have HO633 := n9_; have HO636 := n10_; have HO639 := n11_; have HO642 := n12_; have HO645 := n13_; have HO649 := n14_; have HO652 := n15_; have HO655 := n16_; have HO658 := n17_; have BK600 := n18_; have BK659 := n19_; have HB := n20_; clear n0_ n1_ n2_ n3_ n4_ n5_ n6_ n7_ n8_ n9_ n10_ n11_ n12_ n13_ n14_ n15_ n16_ n17_ n18_ n19_ n20_; (try clear hb); (try clear hb2); (try clear hk); (try clear hi)))
       have n0_ := Aside0.mk (Kd.S_drew HO604.out)
       have n1_ := Aside0.mk (Kd.R_drew HO607.out)
       have n2_ := Aside0.mk (Kd.R_drew HO610.out)
       have n3_ := Aside0.mk (Kd.S_drew HO613.out)
       have n4_ := Aside0.mk (Kd.R_drew HO616.out)
       have n5_ := Aside0.mk (Kd.S_drew HO620.out)
       have n6_ := Aside0.mk (Kd.S_drew HO623.out)
       have n7_ := Aside0.mk (Kd.R_drew HO626.out)
       have n8_ := Aside0.mk (Kd.R_drew HO629.out)
       have n9_ := Aside0.mk (Kd.S_drew HO633.out)
       have n10_ := Aside0.mk (Kd.R_drew HO636.out)
       have n11_ := Aside0.mk (Kd.R_drew HO639.out)
       have n12_ := Aside0.mk (Kd.S_drew HO642.out)
       have n13_ := Aside0.mk (Kd.R_drew HO645.out)
       have n14_ := Aside0.mk (Kd.S_drew HO649.out)
       have n15_ := Aside0.mk (Kd.S_drew HO652.out)
       have n16_ := Aside0.mk (Kd.R_drew HO655.out)
       have n17_ := Aside0.mk (Kd.R_drew HO658.out)
       have n18_ := Aside0.mk (blk_drew BK600.out)
       have n19_ := Aside0.mk (blk_drew BK659.out)
       have n20_ := Aside0.mk (below_drew1 HB.out)
       clear HO604
       clear HO607
       clear HO610
       clear HO613
       clear HO616
       clear HO620
       clear HO623
       clear HO626
       clear HO629
       clear HO633
       clear HO636
       clear HO639
       clear HO642
       clear HO645
       clear HO649
       clear HO652
       clear HO655
       clear HO658
       clear BK600
       clear BK659
       clear HB
       have HO604 := n0_
       have HO607 := n1_
       have HO610 := n2_
       have HO613 := n3_
       have HO616 := n4_
       have HO620 := n5_
       have HO623 := n6_
       have HO626 := n7_
       have HO629 := n8_
       have HO633 := n9_
       have HO636 := n10_
       have HO639 := n11_
       have HO642 := n12_
       have HO645 := n13_
       have HO649 := n14_
       have HO652 := n15_
       have HO655 := n16_
       have HO658 := n17_
       have BK600 := n18_
       have BK659 := n19_
       have HB := n20_
       clear n0_ n1_ n2_ n3_ n4_ n5_ n6_ n7_ n8_ n9_ n10_ n11_ n12_ n13_ n14_ n15_ n16_ n17_ n18_ n19_ n20_
       refine start_ (n := 5) (S := fun w' => w'.cell? ⟨gb659, 0, none⟩ = some (.slice Ao34 t631.length co34) ∧ w'.cell? ⟨gb659, 1, none⟩ = some (.slice Ao37 t634.length co37) ∧ w'.cell? ⟨gb659, 2, none⟩ = some (.slice Ao38 t637.length co38) ∧ w'.cell? ⟨gb659, 3, none⟩ = some (.slice Ao39 t640.length co39) ∧ w'.cell? ⟨gb659, 4, none⟩ = some (.slice Ao40 t643.length co40) ∧ w'.cell? ⟨gb659, 5, none⟩ = some (.int .i64 t646) ∧ w'.cell? ⟨gb659, 6, none⟩ = some (.slice Ao41 t647.length co41) ∧ w'.cell? ⟨gb659, 7, none⟩ = some (.slice Ao42 t650.length co42) ∧ w'.cell? ⟨gb659, 8, none⟩ = some (.slice Ao43 t653.length co43) ∧ w'.cell? ⟨gb659, 9, none⟩ = some (.slice Ao44 t656.length co44) ∧ w'.cell? ⟨gb600, 0, none⟩ = some (.slice A0_0 l0_0.length c0_0) ∧ w'.cell? ⟨gb600, 1, none⟩ = some (.slice A0_1 l0_1.length c0_1) ∧ w'.cell? ⟨gb600, 2, none⟩ = some (.slice A0_2 l0_2.length c0_2) ∧ w'.cell? ⟨gb600, 3, none⟩ = some (.slice A0_3 l0_3.length c0_3) ∧ w'.cell? ⟨gb600, 4, none⟩ = some (.slice A0_4 l0_4.length c0_4) ∧ w'.cell? ⟨gb600, 5, none⟩ = some (.int .i64 a0_5) ∧ w'.cell? ⟨gb600, 6, none⟩ = some (.slice A0_6 l0_6.length c0_6) ∧ w'.cell? ⟨gb600, 7, none⟩ = some (.slice A0_7 l0_7.length c0_7) ∧ w'.cell? ⟨gb600, 8, none⟩ = some (.slice A0_8 l0_8.length c0_8) ∧ w'.cell? ⟨gb600, 9, none⟩ = some (.slice A0_9 l0_9.length c0_9)) (ds := []) #[false, false, false, false, false] (by kernel_rfl) rfl rfl ⟨(blk_cell BK659.out 0).trans rfl, (blk_cell BK659.out 1).trans rfl, (blk_cell BK659.out 2).trans rfl, (blk_cell BK659.out 3).trans rfl, (blk_cell BK659.out 4).trans rfl, (blk_cell BK659.out 5).trans rfl, (blk_cell BK659.out 6).trans rfl, (blk_cell BK659.out 7).trans rfl, (blk_cell BK659.out 8).trans rfl, (blk_cell BK659.out 9).trans rfl, (blk_cell BK600.out 0).trans rfl, (blk_cell BK600.out 1).trans rfl, (blk_cell BK600.out 2).trans rfl, (blk_cell BK600.out 3).trans rfl, (blk_cell BK600.out 4).trans rfl, (blk_cell BK600.out 5).trans rfl, (blk_cell BK600.out 6).trans rfl, (blk_cell BK600.out 7).trans rfl, (blk_cell BK600.out 8).trans rfl, (blk_cell BK600.out 9).trans rfl⟩ (fun hHeld => ?_)
       generalize w45.drew = w46 at HO604 HO607 HO610 HO613 HO616 HO620 HO623 HO626 HO629 HO633 HO636 HO639 HO642 HO645 HO649 HO652 HO655 HO658 BK600 BK659 HB hHeld ⊢
       refine take_ (i := 0) (N := some 26) (v := ?_) (a' := ?_) #[true, false, false, false, false] rfl rfl (by kernel_rfl) (fun _ _ _ h => h) (Or.inl ⟨by rfl, ?_⟩) hHeld ?_ ?_
       rotate_left
       ·rintro w' ⟨s0, s1, s2, s3, s4, s5, s6, s7, s8, s9, s10, s11, s12, s13, s14, s15, s16, s17, s18, s19⟩
        go_simp
        with_reducible rfl
       rotate_left
       ·simp only [Act.put, List.setIfInBounds_toArray, List.set_cons_zero, List.set_cons_succ, i64_w, i32_w]
        rfl
       refine take_ (i := 1) (N := some 27) (v := ?_) (a' := ?_) #[true, true, false, false, false] rfl rfl (by kernel_rfl) (fun _ _ _ h => h) (Or.inl ⟨by rfl, ?_⟩) hHeld ?_ ?_
       rotate_left
       ·rintro w' ⟨s0, s1, s2, s3, s4, s5, s6, s7, s8, s9, s10, s11, s12, s13, s14, s15, s16, s17, s18, s19⟩
        go_simp
        with_reducible rfl
       rotate_left
       ·simp only [Act.put, List.setIfInBounds_toArray, List.set_cons_zero, List.set_cons_succ, i64_w, i32_w]
        rfl
       refine one_ (i := 2) (N := some 28) #[true, true, true, false, false] rfl rfl (by kernel_rfl) (by decide) (fun K hK => ?_)
       refine goes_ Try.func27 (by kernel_rfl) rfl #[.agg #[.slice A0_0 l0_0.length c0_0, .slice A0_1 l0_1.length c0_1, .slice A0_2 l0_2.length c0_2, .slice A0_3 l0_3.length c0_3, .slice A0_4 l0_4.length c0_4, .int .i64 a0_5, .slice A0_6 l0_6.length c0_6, .slice A0_7 l0_7.length c0_7, .slice A0_8 l0_8.length c0_8, .slice A0_9 l0_9.length c0_9]] (by rfl) rfl rfl (by (try simp only [List.map_toArray, List.map_cons, List.map_nil]); first | done | rfl | (simp only [List.length_drop, List.length_take]; rfl)) ?_
       with_reducible refine (laws_toMachine.calls k _ _ l0_0 _ _ l0_1 _ _ l0_2 _ _ l0_3 _ _ l0_4 a0_5 _ _ l0_6 _ _ l0_7 _ _ l0_8 _ _ l0_9 t661 t664 t667 t670 t673 t676 t677 t680 t683 t686 _ ?side1 ?side2 ?side3 ?side4 ?side5 ?side6 ?side7 ?side8 ?side9 ?side10 ?side11 ?side12 ?side13 ?side14 ?side15 ?side16 ?side17 ?side18 A13.out).mono ?_
       (case side1 => repeat (first | exact (Kd.C_below HR0_0.out HB.out) | (with_reducible refine Kd.C_alloc ?_ _) | (with_reducible refine Kd.C_drewN ?_ _) | (with_reducible refine Kd.C_drew ?_)))
       (case side2 => exact HC0_0.out)
       (case side3 => repeat (first | exact (Kd.C_below HR0_1.out HB.out) | (with_reducible refine Kd.C_alloc ?_ _) | (with_reducible refine Kd.C_drewN ?_ _) | (with_reducible refine Kd.C_drew ?_)))
       (case side4 => exact HC0_1.out)
       (case side5 => repeat (first | exact (Kd.C_below HR0_2.out HB.out) | (with_reducible refine Kd.C_alloc ?_ _) | (with_reducible refine Kd.C_drewN ?_ _) | (with_reducible refine Kd.C_drew ?_)))
       (case side6 => exact HC0_2.out)
       (case side7 => repeat (first | exact (Kd.C_below HR0_3.out HB.out) | (with_reducible refine Kd.C_alloc ?_ _) | (with_reducible refine Kd.C_drewN ?_ _) | (with_reducible refine Kd.C_drew ?_)))
       (case side8 => exact HC0_3.out)
       (case side9 => repeat (first | exact (Kd.C_below HR0_4.out HB.out) | (with_reducible refine Kd.C_alloc ?_ _) | (with_reducible refine Kd.C_drewN ?_ _) | (with_reducible refine Kd.C_drew ?_)))
       (case side10 => exact HC0_4.out)
       (case side11 => repeat (first | exact (Kd.C_below HR0_6.out HB.out) | (with_reducible refine Kd.C_alloc ?_ _) | (with_reducible refine Kd.C_drewN ?_ _) | (with_reducible refine Kd.C_drew ?_)))
       (case side12 => exact HC0_6.out)
       (case side13 => repeat (first | exact (Kd.C_below HR0_7.out HB.out) | (with_reducible refine Kd.C_alloc ?_ _) | (with_reducible refine Kd.C_drewN ?_ _) | (with_reducible refine Kd.C_drew ?_)))
       (case side14 => exact HC0_7.out)
       (case side15 => repeat (first | exact (Kd.C_below HR0_8.out HB.out) | (with_reducible refine Kd.C_alloc ?_ _) | (with_reducible refine Kd.C_drewN ?_ _) | (with_reducible refine Kd.C_drew ?_)))
       (case side16 => exact HC0_8.out)
       (case side17 => repeat (first | exact (Kd.C_below HR0_9.out HB.out) | (with_reducible refine Kd.C_alloc ?_ _) | (with_reducible refine Kd.C_drewN ?_ _) | (with_reducible refine Kd.C_drew ?_)))
       (case side18 => exact HC0_9.out)
       rintro e w47 ⟨v662, v665, v668, v671, v674, v678, v681, v684, v687, rfl, ho0, ho1, ho2, ho3, ho4, ho5, ho6, ho7, ho8, hb⟩
       refine ⟨_, rfl, ?_⟩
       have n0_ := Aside0.mk (Kd.S_mono (Kd.S_told (Kd.S_told (Kd.S_told (Kd.S_told (Kd.S_old (by (with_reducible repeat (first | apply Kd.S_alloc | apply Kd.S_drewN | apply Kd.S_drew)); exact HO604.out) hb) (Kd.S_base ho0)) (Kd.R_base ho1)) (Kd.R_base ho7)) (Kd.R_base ho8)) (fun _ h_ => h_.1))
       have n1_ := Aside0.mk (Kd.R_mono (Kd.R_told (Kd.R_told (Kd.R_told (Kd.R_old (by (with_reducible repeat (first | apply Kd.R_alloc | apply Kd.R_drewN | apply Kd.R_drew)); exact HO607.out) hb) (Kd.R_base ho1)) (Kd.R_base ho7)) (Kd.R_base ho8)) (fun _ h_ => h_.1))
       have n2_ := Aside0.mk (Kd.R_elder' (by (with_reducible repeat (first | apply Kd.R_alloc | apply Kd.R_drewN | apply Kd.R_drew)); exact HO610.out) (Kd.R_base ho2) hb)
       have n3_ := Aside0.mk (Kd.S_elder' (by (with_reducible repeat (first | apply Kd.S_alloc | apply Kd.S_drewN | apply Kd.S_drew)); exact HO613.out) (Kd.S_base ho3) hb)
       have n4_ := Aside0.mk (Kd.R_elder' (by (with_reducible repeat (first | apply Kd.R_alloc | apply Kd.R_drewN | apply Kd.R_drew)); exact HO616.out) (Kd.R_base ho4) hb)
       have n5_ := Aside0.mk (Kd.S_elder' (by (with_reducible repeat (first | apply Kd.S_alloc | apply Kd.S_drewN | apply Kd.S_drew)); exact HO620.out) (Kd.S_base ho5) hb)
       have n6_ := Aside0.mk (Kd.S_mono (Kd.S_told (Kd.S_told (Kd.S_told (Kd.S_told (Kd.S_old (by (with_reducible repeat (first | apply Kd.S_alloc | apply Kd.S_drewN | apply Kd.S_drew)); exact HO623.out) hb) (Kd.R_base ho1)) (Kd.S_base ho6)) (Kd.R_base ho7)) (Kd.R_base ho8)) (fun _ h_ => h_.1))
       have n7_ := Aside0.mk (Kd.R_mono (Kd.R_told (Kd.R_told (Kd.R_told (Kd.R_old (by (with_reducible repeat (first | apply Kd.R_alloc | apply Kd.R_drewN | apply Kd.R_drew)); exact HO626.out) hb) (Kd.R_base ho1)) (Kd.R_base ho7)) (Kd.R_base ho8)) (fun _ h_ => h_.1))
       have n8_ := Aside0.mk (Kd.R_mono (Kd.R_told (Kd.R_told (Kd.R_told (Kd.R_old (by (with_reducible repeat (first | apply Kd.R_alloc | apply Kd.R_drewN | apply Kd.R_drew)); exact HO629.out) hb) (Kd.R_base ho1)) (Kd.R_base ho7)) (Kd.R_base ho8)) (fun _ h_ => h_.1))
       have n9_ := Aside0.mk (Kd.S_mono (Kd.S_told (Kd.S_told (Kd.S_told (Kd.S_told (Kd.S_old (by (with_reducible repeat (first | apply Kd.S_alloc | apply Kd.S_drewN | apply Kd.S_drew)); exact HO633.out) hb) (Kd.S_base ho0)) (Kd.R_base ho1)) (Kd.R_base ho7)) (Kd.R_base ho8)) (fun _ h_ => h_.1))
       have n10_ := Aside0.mk (Kd.R_mono (Kd.R_told (Kd.R_told (Kd.R_told (Kd.R_old (by (with_reducible repeat (first | apply Kd.R_alloc | apply Kd.R_drewN | apply Kd.R_drew)); exact HO636.out) hb) (Kd.R_base ho1)) (Kd.R_base ho7)) (Kd.R_base ho8)) (fun _ h_ => h_.1))
       have n11_ := Aside0.mk (Kd.R_elder' (by (with_reducible repeat (first | apply Kd.R_alloc | apply Kd.R_drewN | apply Kd.R_drew)); exact HO639.out) (Kd.R_base ho2) hb)
       have n12_ := Aside0.mk (Kd.S_elder' (by (with_reducible repeat (first | apply Kd.S_alloc | apply Kd.S_drewN | apply Kd.S_drew)); exact HO642.out) (Kd.S_base ho3) hb)
       have n13_ := Aside0.mk (Kd.R_elder' (by (with_reducible repeat (first | apply Kd.R_alloc | apply Kd.R_drewN | apply Kd.R_drew)); exact HO645.out) (Kd.R_base ho4) hb)
       have n14_ := Aside0.mk (Kd.S_elder' (by (with_reducible repeat (first | apply Kd.S_alloc | apply Kd.S_drewN | apply Kd.S_drew)); exact HO649.out) (Kd.S_base ho5) hb)
       have n15_ := Aside0.mk (Kd.S_mono (Kd.S_told (Kd.S_told (Kd.S_told (Kd.S_told (Kd.S_old (by (with_reducible repeat (first | apply Kd.S_alloc | apply Kd.S_drewN | apply Kd.S_drew)); exact HO652.out) hb) (Kd.R_base ho1)) (Kd.S_base ho6)) (Kd.R_base ho7)) (Kd.R_base ho8)) (fun _ h_ => h_.1))
       have n16_ := Aside0.mk (Kd.R_mono (Kd.R_told (Kd.R_told (Kd.R_told (Kd.R_old (by (with_reducible repeat (first | apply Kd.R_alloc | apply Kd.R_drewN | apply Kd.R_drew)); exact HO655.out) hb) (Kd.R_base ho1)) (Kd.R_base ho7)) (Kd.R_base ho8)) (fun _ h_ => h_.1))
       have n17_ := Aside0.mk (Kd.R_mono (Kd.R_told (Kd.R_told (Kd.R_told (Kd.R_old (by (with_reducible repeat (first | apply Kd.R_alloc | apply Kd.R_drewN | apply Kd.R_drew)); exact HO658.out) hb) (Kd.R_base ho1)) (Kd.R_base ho7)) (Kd.R_base ho8)) (fun _ h_ => h_.1))
       have n18_ := Aside0.mk (Kd.S_lower (Kd.S_new' (Kd.S_new' (Kd.S_new' (Kd.S_new' (Kd.S_new' (Kd.S_new' (Kd.S_new' (Kd.S_new' ho0 (Kd.S_lt (by (with_reducible repeat (first | apply Kd.S_alloc | apply Kd.S_drewN | apply Kd.S_drew)); exact HO604.out))) (Kd.R_lt (by (with_reducible repeat (first | apply Kd.R_alloc | apply Kd.R_drewN | apply Kd.R_drew)); exact HO607.out))) (Kd.R_lt (by (with_reducible repeat (first | apply Kd.R_alloc | apply Kd.R_drewN | apply Kd.R_drew)); exact HO626.out))) (Kd.R_lt (by (with_reducible repeat (first | apply Kd.R_alloc | apply Kd.R_drewN | apply Kd.R_drew)); exact HO629.out))) (Kd.S_lt (by (with_reducible repeat (first | apply Kd.S_alloc | apply Kd.S_drewN | apply Kd.S_drew)); exact HO633.out))) (Kd.R_lt (by (with_reducible repeat (first | apply Kd.R_alloc | apply Kd.R_drewN | apply Kd.R_drew)); exact HO636.out))) (Kd.R_lt (by (with_reducible repeat (first | apply Kd.R_alloc | apply Kd.R_drewN | apply Kd.R_drew)); exact HO655.out))) (Kd.R_lt (by (with_reducible repeat (first | apply Kd.R_alloc | apply Kd.R_drewN | apply Kd.R_drew)); exact HO658.out))) (below_size (by repeat (first | (with_reducible first | exact HB.out | apply below_alloc | apply pw_below_drewN | apply below_drew1 | refine below_set ?_ GE600.out | refine below_set ?_ GE659.out) | exact HB.out))))
       have n19_ := Aside0.mk (Kd.R_lower (Kd.R_new' (Kd.R_new' (Kd.R_new' (Kd.R_new' (Kd.R_new' (Kd.R_new' ho1 (Kd.R_lt (by (with_reducible repeat (first | apply Kd.R_alloc | apply Kd.R_drewN | apply Kd.R_drew)); exact HO607.out))) (Kd.R_lt (by (with_reducible repeat (first | apply Kd.R_alloc | apply Kd.R_drewN | apply Kd.R_drew)); exact HO626.out))) (Kd.R_lt (by (with_reducible repeat (first | apply Kd.R_alloc | apply Kd.R_drewN | apply Kd.R_drew)); exact HO629.out))) (Kd.R_lt (by (with_reducible repeat (first | apply Kd.R_alloc | apply Kd.R_drewN | apply Kd.R_drew)); exact HO636.out))) (Kd.R_lt (by (with_reducible repeat (first | apply Kd.R_alloc | apply Kd.R_drewN | apply Kd.R_drew)); exact HO655.out))) (Kd.R_lt (by (with_reducible repeat (first | apply Kd.R_alloc | apply Kd.R_drewN | apply Kd.R_drew)); exact HO658.out))) (below_size (by repeat (first | (with_reducible first | exact HB.out | apply below_alloc | apply pw_below_drewN | apply below_drew1 | refine below_set ?_ GE600.out | refine below_set ?_ GE659.out) | exact HB.out))))
       have n20_ := Aside0.mk (Kd.R_lower (Kd.R_new' (Kd.R_new' ho2 (Kd.R_lt (by (with_reducible repeat (first | apply Kd.R_alloc | apply Kd.R_drewN | apply Kd.R_drew)); exact HO610.out))) (Kd.R_lt (by (with_reducible repeat (first | apply Kd.R_alloc | apply Kd.R_drewN | apply Kd.R_drew)); exact HO639.out))) (below_size (by repeat (first | (with_reducible first | exact HB.out | apply below_alloc | apply pw_below_drewN | apply below_drew1 | refine below_set ?_ GE600.out | refine below_set ?_ GE659.out) | exact HB.out))))
       have n21_ := Aside0.mk (Kd.S_lower (Kd.S_new' (Kd.S_new' ho3 (Kd.S_lt (by (with_reducible repeat (first | apply Kd.S_alloc | apply Kd.S_drewN | apply Kd.S_drew)); exact HO613.out))) (Kd.S_lt (by (with_reducible repeat (first | apply Kd.S_alloc | apply Kd.S_drewN | apply Kd.S_drew)); exact HO642.out))) (below_size (by repeat (first | (with_reducible first | exact HB.out | apply below_alloc | apply pw_below_drewN | apply below_drew1 | refine below_set ?_ GE600.out | refine below_set ?_ GE659.out) | exact HB.out))))
       have n22_ := Aside0.mk (Kd.R_lower (Kd.R_new' (Kd.R_new' ho4 (Kd.R_lt (by (with_reducible repeat (first | apply Kd.R_alloc | apply Kd.R_drewN | apply Kd.R_drew)); exact HO616.out))) (Kd.R_lt (by (with_reducible repeat (first | apply Kd.R_alloc | apply Kd.R_drewN | apply Kd.R_drew)); exact HO645.out))) (below_size (by repeat (first | (with_reducible first | exact HB.out | apply below_alloc | apply pw_below_drewN | apply below_drew1 | refine below_set ?_ GE600.out | refine below_set ?_ GE659.out) | exact HB.out))))
       have n23_ := Aside0.mk (Kd.S_lower (Kd.S_new' (Kd.S_new' ho5 (Kd.S_lt (by (with_reducible repeat (first | apply Kd.S_alloc | apply Kd.S_drewN | apply Kd.S_drew)); exact HO620.out))) (Kd.S_lt (by (with_reducible repeat (first | apply Kd.S_alloc | apply Kd.S_drewN | apply Kd.S_drew)); exact HO649.out))) (below_size (by repeat (first | (with_reducible first | exact HB.out | apply below_alloc | apply pw_below_drewN | apply below_drew1 | refine below_set ?_ GE600.out | refine below_set ?_ GE659.out) | exact HB.out))))
       have n24_ := Aside0.mk (Kd.S_lower (Kd.S_new' (Kd.S_new' (Kd.S_new' (Kd.S_new' (Kd.S_new' (Kd.S_new' (Kd.S_new' (Kd.S_new' ho6 (Kd.R_lt (by (with_reducible repeat (first | apply Kd.R_alloc | apply Kd.R_drewN | apply Kd.R_drew)); exact HO607.out))) (Kd.S_lt (by (with_reducible repeat (first | apply Kd.S_alloc | apply Kd.S_drewN | apply Kd.S_drew)); exact HO623.out))) (Kd.R_lt (by (with_reducible repeat (first | apply Kd.R_alloc | apply Kd.R_drewN | apply Kd.R_drew)); exact HO626.out))) (Kd.R_lt (by (with_reducible repeat (first | apply Kd.R_alloc | apply Kd.R_drewN | apply Kd.R_drew)); exact HO629.out))) (Kd.R_lt (by (with_reducible repeat (first | apply Kd.R_alloc | apply Kd.R_drewN | apply Kd.R_drew)); exact HO636.out))) (Kd.S_lt (by (with_reducible repeat (first | apply Kd.S_alloc | apply Kd.S_drewN | apply Kd.S_drew)); exact HO652.out))) (Kd.R_lt (by (with_reducible repeat (first | apply Kd.R_alloc | apply Kd.R_drewN | apply Kd.R_drew)); exact HO655.out))) (Kd.R_lt (by (with_reducible repeat (first | apply Kd.R_alloc | apply Kd.R_drewN | apply Kd.R_drew)); exact HO658.out))) (below_size (by repeat (first | (with_reducible first | exact HB.out | apply below_alloc | apply pw_below_drewN | apply below_drew1 | refine below_set ?_ GE600.out | refine below_set ?_ GE659.out) | exact HB.out))))
       have n25_ := Aside0.mk (Kd.R_lower (Kd.R_new' (Kd.R_new' (Kd.R_new' (Kd.R_new' (Kd.R_new' (Kd.R_new' ho7 (Kd.R_lt (by (with_reducible repeat (first | apply Kd.R_alloc | apply Kd.R_drewN | apply Kd.R_drew)); exact HO607.out))) (Kd.R_lt (by (with_reducible repeat (first | apply Kd.R_alloc | apply Kd.R_drewN | apply Kd.R_drew)); exact HO626.out))) (Kd.R_lt (by (with_reducible repeat (first | apply Kd.R_alloc | apply Kd.R_drewN | apply Kd.R_drew)); exact HO629.out))) (Kd.R_lt (by (with_reducible repeat (first | apply Kd.R_alloc | apply Kd.R_drewN | apply Kd.R_drew)); exact HO636.out))) (Kd.R_lt (by (with_reducible repeat (first | apply Kd.R_alloc | apply Kd.R_drewN | apply Kd.R_drew)); exact HO655.out))) (Kd.R_lt (by (with_reducible repeat (first | apply Kd.R_alloc | apply Kd.R_drewN | apply Kd.R_drew)); exact HO658.out))) (below_size (by repeat (first | (with_reducible first | exact HB.out | apply below_alloc | apply pw_below_drewN | apply below_drew1 | refine below_set ?_ GE600.out | refine below_set ?_ GE659.out) | exact HB.out))))
       have n26_ := Aside0.mk (Kd.R_lower (Kd.R_new' (Kd.R_new' (Kd.R_new' (Kd.R_new' (Kd.R_new' (Kd.R_new' ho8 (Kd.R_lt (by (with_reducible repeat (first | apply Kd.R_alloc | apply Kd.R_drewN | apply Kd.R_drew)); exact HO607.out))) (Kd.R_lt (by (with_reducible repeat (first | apply Kd.R_alloc | apply Kd.R_drewN | apply Kd.R_drew)); exact HO626.out))) (Kd.R_lt (by (with_reducible repeat (first | apply Kd.R_alloc | apply Kd.R_drewN | apply Kd.R_drew)); exact HO629.out))) (Kd.R_lt (by (with_reducible repeat (first | apply Kd.R_alloc | apply Kd.R_drewN | apply Kd.R_drew)); exact HO636.out))) (Kd.R_lt (by (with_reducible repeat (first | apply Kd.R_alloc | apply Kd.R_drewN | apply Kd.R_drew)); exact HO655.out))) (Kd.R_lt (by (with_reducible repeat (first | apply Kd.R_alloc | apply Kd.R_drewN | apply Kd.R_drew)); exact HO658.out))) (below_size (by repeat (first | (with_reducible first | exact HB.out | apply below_alloc | apply pw_below_drewN | apply below_drew1 | refine below_set ?_ GE600.out | refine below_set ?_ GE659.out) | exact HB.out))))
       have n27_ := Aside0.mk (blk_below (g := gb600) (o := .cells #[.slice A0_0 l0_0.length c0_0, .slice A0_1 l0_1.length c0_1, .slice A0_2 l0_2.length c0_2, .slice A0_3 l0_3.length c0_3, .slice A0_4 l0_4.length c0_4, .int .i64 a0_5, .slice A0_6 l0_6.length c0_6, .slice A0_7 l0_7.length c0_7, .slice A0_8 l0_8.length c0_8, .slice A0_9 l0_9.length c0_9] 48 (0, 0)) (by (with_reducible repeat (first | refine blk_drewN ?_ _ | refine blk_drew ?_ | refine blk_alloc ?_ _)); exact BK600.out) hb)
       have n28_ := Aside0.mk (blk_below (g := gb659) (o := .cells #[.slice Ao34 t631.length co34, .slice Ao37 t634.length co37, .slice Ao38 t637.length co38, .slice Ao39 t640.length co39, .slice Ao40 t643.length co40, .int .i64 t646, .slice Ao41 t647.length co41, .slice Ao42 t650.length co42, .slice Ao43 t653.length co43, .slice Ao44 t656.length co44] 56 (0, 0)) (by (with_reducible repeat (first | refine blk_drewN ?_ _ | refine blk_drew ?_ | refine blk_alloc ?_ _)); exact BK659.out) hb)
       have n29_ := Aside0.mk (below_step (by repeat (first | (with_reducible first | exact HB.out | apply below_alloc | apply pw_below_drewN | apply below_drew1 | refine below_set ?_ GE600.out | refine below_set ?_ GE659.out) | exact HB.out)) hb)
       clear HO604
       clear HO607
       clear HO610
       clear HO613
       clear HO616
       clear HO620
       clear HO623
       clear HO626
       clear HO629
       clear HO633
       clear HO636
       clear HO639
       clear HO642
       clear HO645
       clear HO649
       clear HO652
       clear HO655
       clear HO658
       clear BK600
       clear BK659
       clear HB
       have HO604 := n0_
       have HO607 := n1_
       have HO610 := n2_
       have HO613 := n3_
       have HO616 := n4_
       have HO620 := n5_
       have HO623 := n6_
       have HO626 := n7_
       have HO629 := n8_
       have HO633 := n9_
       have HO636 := n10_
       have HO639 := n11_
       have HO642 := n12_
       have HO645 := n13_
       have HO649 := n14_
       have HO652 := n15_
       have HO655 := n16_
       have HO658 := n17_
       have HO663 := n18_
       have HO666 := n19_
       have HO669 := n20_
       have HO672 := n21_
       have HO675 := n22_
       have HO679 := n23_
       have HO682 := n24_
       have HO685 := n25_
       have HO688 := n26_
       have BK600 := n27_
       have BK659 := n28_
       have HB := n29_
       clear n0_ n1_ n2_ n3_ n4_ n5_ n6_ n7_ n8_ n9_ n10_ n11_ n12_ n13_ n14_ n15_ n16_ n17_ n18_ n19_ n20_ n21_ n22_ n23_ n24_ n25_ n26_ n27_ n28_ n29_
       (try clear hb)
       (try clear hb2)
       (try clear hk)
       (try clear hi)
       (try clear ho0)
       (try clear ho1)
       (try clear ho2)
       (try clear ho3)
       (try clear ho4)
       (try clear ho5)
       (try clear ho6)
       (try clear ho7)
       (try clear ho8)
       obtain ⟨Ao48, co48, eo48⟩ := Kd.S_slice HO663.out
       (first | subst eo48 | (injection eo48 with f1_ f2_ f3_; have f4_ := f1_.symm; have f5_ := f3_.symm; clear f1_ f2_ f3_; subst f4_; subst f5_))
       obtain ⟨Ao49, co49, eo49⟩ := Kd.R_slice HO666.out
       (first | subst eo49 | (injection eo49 with f1_ f2_ f3_; have f4_ := f1_.symm; have f5_ := f3_.symm; clear f1_ f2_ f3_; subst f4_; subst f5_))
       obtain ⟨Ao50, co50, eo50⟩ := Kd.R_slice HO669.out
       (first | subst eo50 | (injection eo50 with f1_ f2_ f3_; have f4_ := f1_.symm; have f5_ := f3_.symm; clear f1_ f2_ f3_; subst f4_; subst f5_))
       obtain ⟨Ao51, co51, eo51⟩ := Kd.S_slice HO672.out
       (first | subst eo51 | (injection eo51 with f1_ f2_ f3_; have f4_ := f1_.symm; have f5_ := f3_.symm; clear f1_ f2_ f3_; subst f4_; subst f5_))
       obtain ⟨Ao52, co52, eo52⟩ := Kd.R_slice HO675.out
       (first | subst eo52 | (injection eo52 with f1_ f2_ f3_; have f4_ := f1_.symm; have f5_ := f3_.symm; clear f1_ f2_ f3_; subst f4_; subst f5_))
       obtain ⟨Ao53, co53, eo53⟩ := Kd.S_slice HO679.out
       (first | subst eo53 | (injection eo53 with f1_ f2_ f3_; have f4_ := f1_.symm; have f5_ := f3_.symm; clear f1_ f2_ f3_; subst f4_; subst f5_))
       obtain ⟨Ao54, co54, eo54⟩ := Kd.S_slice HO682.out
       (first | subst eo54 | (injection eo54 with f1_ f2_ f3_; have f4_ := f1_.symm; have f5_ := f3_.symm; clear f1_ f2_ f3_; subst f4_; subst f5_))
       obtain ⟨Ao55, co55, eo55⟩ := Kd.R_slice HO685.out
       (first | subst eo55 | (injection eo55 with f1_ f2_ f3_; have f4_ := f1_.symm; have f5_ := f3_.symm; clear f1_ f2_ f3_; subst f4_; subst f5_))
       obtain ⟨Ao56, co56, eo56⟩ := Kd.R_slice HO688.out
       (first | subst eo56 | (injection eo56 with f1_ f2_ f3_; have f4_ := f1_.symm; have f5_ := f3_.symm; clear f1_ f2_ f3_; subst f4_; subst f5_))
       refine hK.out _ _ ⟨(blk_cell BK659.out 0).trans rfl, (blk_cell BK659.out 1).trans rfl, (blk_cell BK659.out 2).trans rfl, (blk_cell BK659.out 3).trans rfl, (blk_cell BK659.out 4).trans rfl, (blk_cell BK659.out 5).trans rfl, (blk_cell BK659.out 6).trans rfl, (blk_cell BK659.out 7).trans rfl, (blk_cell BK659.out 8).trans rfl, (blk_cell BK659.out 9).trans rfl, (blk_cell BK600.out 0).trans rfl, (blk_cell BK600.out 1).trans rfl, (blk_cell BK600.out 2).trans rfl, (blk_cell BK600.out 3).trans rfl, (blk_cell BK600.out 4).trans rfl, (blk_cell BK600.out 5).trans rfl, (blk_cell BK600.out 6).trans rfl, (blk_cell BK600.out 7).trans rfl, (blk_cell BK600.out 8).trans rfl, (blk_cell BK600.out 9).trans rfl⟩ (fun hHeld => ?_)
       clear hK K
       refine norm_ (a' := ?_) ?_ ?_
       rotate_left
       ·show Act.put _ (some 28) _ = _
        simp only [Act.put, List.setIfInBounds_toArray, List.set_cons_zero, List.set_cons_succ, i64_w, i32_w]
        rfl
       refine one_ (i := 3) (N := some 29) #[true, true, true, true, false] rfl rfl (by kernel_rfl) (by decide) (fun K hK => ?_)
       refine goes_ Try.func29 (by kernel_rfl) rfl #[.agg #[.slice Ao34 t631.length co34, .slice Ao37 t634.length co37, .slice Ao38 t637.length co38, .slice Ao39 t640.length co39, .slice Ao40 t643.length co40, .int .i64 t646, .slice Ao41 t647.length co41, .slice Ao42 t650.length co42, .slice Ao43 t653.length co43, .slice Ao44 t656.length co44], .agg #[.slice Ao48 t661.length co48, .slice Ao49 t664.length co49, .slice Ao50 t667.length co50, .slice Ao51 t670.length co51, .slice Ao52 t673.length co52, .int .i64 t676, .slice Ao53 t677.length co53, .slice Ao54 t680.length co54, .slice Ao55 t683.length co55, .slice Ao56 t686.length co56]] (by rfl) rfl rfl (by (try simp only [List.map_toArray, List.map_cons, List.map_nil]); first | done | rfl | (simp only [List.length_drop, List.length_take]; rfl)) ?_
       with_reducible refine (laws_eqMachine.calls k _ _ t631 _ _ t634 _ _ t637 _ _ t640 _ _ t643 t646 _ _ t647 _ _ t650 _ _ t653 _ _ t656 _ _ t661 _ _ t664 _ _ t667 _ _ t670 _ _ t673 t676 _ _ t677 _ _ t680 _ _ t683 _ _ t686 true _ ?side1 ?side2 ?side3 ?side4 ?side5 ?side6 ?side7 ?side8 ?side9 ?side10 ?side11 ?side12 ?side13 ?side14 ?side15 ?side16 ?side17 ?side18 ?side19 ?side20 ?side21 ?side22 ?side23 ?side24 ?side25 ?side26 ?side27 ?side28 ?side29 ?side30 ?side31 ?side32 ?side33 ?side34 ?side35 ?side36 A14.out rfl).mono ?_
       (case side1 => repeat (first | exact (Kd.S_reads' HO633.out).2.2 | (with_reducible refine Kd.C_alloc ?_ _) | (with_reducible refine Kd.C_drewN ?_ _) | (with_reducible refine Kd.C_drew ?_)))
       (case side2 => exact (Kd.S_reads' HO633.out).2.1)
       (case side3 => repeat (first | exact (Kd.R_reads' HO636.out).2.2 | (with_reducible refine Kd.C_alloc ?_ _) | (with_reducible refine Kd.C_drewN ?_ _) | (with_reducible refine Kd.C_drew ?_)))
       (case side4 => exact (Kd.R_reads' HO636.out).2.1)
       (case side5 => repeat (first | exact (Kd.R_reads' HO639.out).2.2 | (with_reducible refine Kd.C_alloc ?_ _) | (with_reducible refine Kd.C_drewN ?_ _) | (with_reducible refine Kd.C_drew ?_)))
       (case side6 => exact (Kd.R_reads' HO639.out).2.1)
       (case side7 => repeat (first | exact (Kd.S_reads' HO642.out).2.2 | (with_reducible refine Kd.C_alloc ?_ _) | (with_reducible refine Kd.C_drewN ?_ _) | (with_reducible refine Kd.C_drew ?_)))
       (case side8 => exact (Kd.S_reads' HO642.out).2.1)
       (case side9 => repeat (first | exact (Kd.R_reads' HO645.out).2.2 | (with_reducible refine Kd.C_alloc ?_ _) | (with_reducible refine Kd.C_drewN ?_ _) | (with_reducible refine Kd.C_drew ?_)))
       (case side10 => exact (Kd.R_reads' HO645.out).2.1)
       (case side11 => repeat (first | exact (Kd.S_reads' HO649.out).2.2 | (with_reducible refine Kd.C_alloc ?_ _) | (with_reducible refine Kd.C_drewN ?_ _) | (with_reducible refine Kd.C_drew ?_)))
       (case side12 => exact (Kd.S_reads' HO649.out).2.1)
       (case side13 => repeat (first | exact (Kd.S_reads' HO652.out).2.2 | (with_reducible refine Kd.C_alloc ?_ _) | (with_reducible refine Kd.C_drewN ?_ _) | (with_reducible refine Kd.C_drew ?_)))
       (case side14 => exact (Kd.S_reads' HO652.out).2.1)
       (case side15 => repeat (first | exact (Kd.R_reads' HO655.out).2.2 | (with_reducible refine Kd.C_alloc ?_ _) | (with_reducible refine Kd.C_drewN ?_ _) | (with_reducible refine Kd.C_drew ?_)))
       (case side16 => exact (Kd.R_reads' HO655.out).2.1)
       (case side17 => repeat (first | exact (Kd.R_reads' HO658.out).2.2 | (with_reducible refine Kd.C_alloc ?_ _) | (with_reducible refine Kd.C_drewN ?_ _) | (with_reducible refine Kd.C_drew ?_)))
       (case side18 => exact (Kd.R_reads' HO658.out).2.1)
       (case side19 => repeat (first | exact (Kd.S_reads' HO663.out).2.2 | (with_reducible refine Kd.C_alloc ?_ _) | (with_reducible refine Kd.C_drewN ?_ _) | (with_reducible refine Kd.C_drew ?_)))
       (case side20 => exact (Kd.S_reads' HO663.out).2.1)
       (case side21 => repeat (first | exact (Kd.R_reads' HO666.out).2.2 | (with_reducible refine Kd.C_alloc ?_ _) | (with_reducible refine Kd.C_drewN ?_ _) | (with_reducible refine Kd.C_drew ?_)))
       (case side22 => exact (Kd.R_reads' HO666.out).2.1)
       (case side23 => repeat (first | exact (Kd.R_reads' HO669.out).2.2 | (with_reducible refine Kd.C_alloc ?_ _) | (with_reducible refine Kd.C_drewN ?_ _) | (with_reducible refine Kd.C_drew ?_)))
       (case side24 => exact (Kd.R_reads' HO669.out).2.1)
       (case side25 => repeat (first | exact (Kd.S_reads' HO672.out).2.2 | (with_reducible refine Kd.C_alloc ?_ _) | (with_reducible refine Kd.C_drewN ?_ _) | (with_reducible refine Kd.C_drew ?_)))
       (case side26 => exact (Kd.S_reads' HO672.out).2.1)
       (case side27 => repeat (first | exact (Kd.R_reads' HO675.out).2.2 | (with_reducible refine Kd.C_alloc ?_ _) | (with_reducible refine Kd.C_drewN ?_ _) | (with_reducible refine Kd.C_drew ?_)))
       (case side28 => exact (Kd.R_reads' HO675.out).2.1)
       (case side29 => repeat (first | exact (Kd.S_reads' HO679.out).2.2 | (with_reducible refine Kd.C_alloc ?_ _) | (with_reducible refine Kd.C_drewN ?_ _) | (with_reducible refine Kd.C_drew ?_)))
       (case side30 => exact (Kd.S_reads' HO679.out).2.1)
       (case side31 => repeat (first | exact (Kd.S_reads' HO682.out).2.2 | (with_reducible refine Kd.C_alloc ?_ _) | (with_reducible refine Kd.C_drewN ?_ _) | (with_reducible refine Kd.C_drew ?_)))
       (case side32 => exact (Kd.S_reads' HO682.out).2.1)
       (case side33 => repeat (first | exact (Kd.R_reads' HO685.out).2.2 | (with_reducible refine Kd.C_alloc ?_ _) | (with_reducible refine Kd.C_drewN ?_ _) | (with_reducible refine Kd.C_drew ?_)))
       (case side34 => exact (Kd.R_reads' HO685.out).2.1)
       (case side35 => repeat (first | exact (Kd.R_reads' HO688.out).2.2 | (with_reducible refine Kd.C_alloc ?_ _) | (with_reducible refine Kd.C_drewN ?_ _) | (with_reducible refine Kd.C_drew ?_)))
       (case side36 => exact (Kd.R_reads' HO688.out).2.1)
       rintro e w57 ⟨rfl, hb⟩
       refine ⟨_, rfl, ?_⟩
       have n0_ := Aside0.mk (Kd.S_below (by (with_reducible repeat (first | apply Kd.S_alloc | apply Kd.S_drewN | apply Kd.S_drew)); exact HO604.out) hb)
       have n1_ := Aside0.mk (Kd.R_below (by (with_reducible repeat (first | apply Kd.R_alloc | apply Kd.R_drewN | apply Kd.R_drew)); exact HO607.out) hb)
       have n2_ := Aside0.mk (Kd.R_below (by (with_reducible repeat (first | apply Kd.R_alloc | apply Kd.R_drewN | apply Kd.R_drew)); exact HO610.out) hb)
       have n3_ := Aside0.mk (Kd.S_below (by (with_reducible repeat (first | apply Kd.S_alloc | apply Kd.S_drewN | apply Kd.S_drew)); exact HO613.out) hb)
       have n4_ := Aside0.mk (Kd.R_below (by (with_reducible repeat (first | apply Kd.R_alloc | apply Kd.R_drewN | apply Kd.R_drew)); exact HO616.out) hb)
       have n5_ := Aside0.mk (Kd.S_below (by (with_reducible repeat (first | apply Kd.S_alloc | apply Kd.S_drewN | apply Kd.S_drew)); exact HO620.out) hb)
       have n6_ := Aside0.mk (Kd.S_below (by (with_reducible repeat (first | apply Kd.S_alloc | apply Kd.S_drewN | apply Kd.S_drew)); exact HO623.out) hb)
       have n7_ := Aside0.mk (Kd.R_below (by (with_reducible repeat (first | apply Kd.R_alloc | apply Kd.R_drewN | apply Kd.R_drew)); exact HO626.out) hb)
       have n8_ := Aside0.mk (Kd.R_below (by (with_reducible repeat (first | apply Kd.R_alloc | apply Kd.R_drewN | apply Kd.R_drew)); exact HO629.out) hb)
       have n9_ := Aside0.mk (Kd.S_below (by (with_reducible repeat (first | apply Kd.S_alloc | apply Kd.S_drewN | apply Kd.S_drew)); exact HO633.out) hb)
       have n10_ := Aside0.mk (Kd.R_below (by (with_reducible repeat (first | apply Kd.R_alloc | apply Kd.R_drewN | apply Kd.R_drew)); exact HO636.out) hb)
       have n11_ := Aside0.mk (Kd.R_below (by (with_reducible repeat (first | apply Kd.R_alloc | apply Kd.R_drewN | apply Kd.R_drew)); exact HO639.out) hb)
       have n12_ := Aside0.mk (Kd.S_below (by (with_reducible repeat (first | apply Kd.S_alloc | apply Kd.S_drewN | apply Kd.S_drew)); exact HO642.out) hb)
       have n13_ := Aside0.mk (Kd.R_below (by (with_reducible repeat (first | apply Kd.R_alloc | apply Kd.R_drewN | apply Kd.R_drew)); exact HO645.out) hb)
       have n14_ := Aside0.mk (Kd.S_below (by (with_reducible repeat (first | apply Kd.S_alloc | apply Kd.S_drewN | apply Kd.S_drew)); exact HO649.out) hb)
       have n15_ := Aside0.mk (Kd.S_below (by (with_reducible repeat (first | apply Kd.S_alloc | apply Kd.S_drewN | apply Kd.S_drew)); exact HO652.out) hb)
       have n16_ := Aside0.mk (Kd.R_below (by (with_reducible repeat (first | apply Kd.R_alloc | apply Kd.R_drewN | apply Kd.R_drew)); exact HO655.out) hb)
       have n17_ := Aside0.mk (Kd.R_below (by (with_reducible repeat (first | apply Kd.R_alloc | apply Kd.R_drewN | apply Kd.R_drew)); exact HO658.out) hb)
       have n18_ := Aside0.mk (Kd.S_below (by (with_reducible repeat (first | apply Kd.S_alloc | apply Kd.S_drewN | apply Kd.S_drew)); exact HO663.out) hb)
       have n19_ := Aside0.mk (Kd.R_below (by (with_reducible repeat (first | apply Kd.R_alloc | apply Kd.R_drewN | apply Kd.R_drew)); exact HO666.out) hb)
       have n20_ := Aside0.mk (Kd.R_below (by (with_reducible repeat (first | apply Kd.R_alloc | apply Kd.R_drewN | apply Kd.R_drew)); exact HO669.out) hb)
       have n21_ := Aside0.mk (Kd.S_below (by (with_reducible repeat (first | apply Kd.S_alloc | apply Kd.S_drewN | apply Kd.S_drew)); exact HO672.out) hb)
       have n22_ := Aside0.mk (Kd.R_below (by (with_reducible repeat (first | apply Kd.R_alloc | apply Kd.R_drewN | apply Kd.R_drew)); exact HO675.out) hb)
       have n23_ := Aside0.mk (Kd.S_below (by (with_reducible repeat (first | apply Kd.S_alloc | apply Kd.S_drewN | apply Kd.S_drew)); exact HO679.out) hb)
       have n24_ := Aside0.mk (Kd.S_below (by (with_reducible repeat (first | apply Kd.S_alloc | apply Kd.S_drewN | apply Kd.S_drew)); exact HO682.out) hb)
       have n25_ := Aside0.mk (Kd.R_below (by (with_reducible repeat (first | apply Kd.R_alloc | apply Kd.R_drewN | apply Kd.R_drew)); exact HO685.out) hb)
       have n26_ := Aside0.mk (Kd.R_below (by (with_reducible repeat (first | apply Kd.R_alloc | apply Kd.R_drewN | apply Kd.R_drew)); exact HO688.out) hb)
       have n27_ := Aside0.mk (blk_below (g := gb600) (o := .cells #[.slice A0_0 l0_0.length c0_0, .slice A0_1 l0_1.length c0_1, .slice A0_2 l0_2.length c0_2, .slice A0_3 l0_3.length c0_3, .slice A0_4 l0_4.length c0_4, .int .i64 a0_5, .slice A0_6 l0_6.length c0_6, .slice A0_7 l0_7.length c0_7, .slice A0_8 l0_8.length c0_8, .slice A0_9 l0_9.length c0_9] 48 (0, 0)) (by (with_reducible repeat (first | refine blk_drewN ?_ _ | refine blk_drew ?_ | refine blk_alloc ?_ _)); exact BK600.out) hb)
       have n28_ := Aside0.mk (blk_below (g := gb659) (o := .cells #[.slice Ao34 t631.length co34, .slice Ao37 t634.length co37, .slice Ao38 t637.length co38, .slice Ao39 t640.length co39, .slice Ao40 t643.length co40, .int .i64 t646, .slice Ao41 t647.length co41, .slice Ao42 t650.length co42, .slice Ao43 t653.length co43, .slice Ao44 t656.length co44] 56 (0, 0)) (by (with_reducible repeat (first | refine blk_drewN ?_ _ | refine blk_drew ?_ | refine blk_alloc ?_ _)); exact BK659.out) hb)
       have n29_ := Aside0.mk (below_step (by repeat (first | (with_reducible first | exact HB.out | apply below_alloc | apply pw_below_drewN | apply below_drew1 | refine below_set ?_ GE600.out | refine below_set ?_ GE659.out) | exact HB.out)) hb)
       clear HO604
       clear HO607
       clear HO610
       clear HO613
       clear HO616
       clear HO620
       clear HO623
       clear HO626
       clear HO629
       clear HO633
       clear HO636
       clear HO639
       clear HO642
       clear HO645
       clear HO649
       clear HO652
       clear HO655
       clear HO658
       clear HO663
       clear HO666
       clear HO669
       clear HO672
       clear HO675
       clear HO679
       clear HO682
       clear HO685
       clear HO688
       clear BK600
       clear BK659
       clear HB
       have HO604 := n0_
       have HO607 := n1_
       have HO610 := n2_
       have HO613 := n3_
       have HO616 := n4_
       have HO620 := n5_
       have HO623 := n6_
       have HO626 := n7_
       have HO629 := n8_
       have HO633 := n9_
       have HO636 := n10_
       have HO639 := n11_
       have HO642 := n12_
       have HO645 := n13_
       have HO649 := n14_
       have HO652 := n15_
       have HO655 := n16_
       have HO658 := n17_
       have HO663 := n18_
       have HO666 := n19_
       have HO669 := n20_
       have HO672 := n21_
       have HO675 := n22_
       have HO679 := n23_
       have HO682 := n24_
       have HO685 := n25_
       have HO688 := n26_
       have BK600 := n27_
       have BK659 := n28_
       have HB := n29_
       clear n0_ n1_ n2_ n3_ n4_ n5_ n6_ n7_ n8_ n9_ n10_ n11_ n12_ n13_ n14_ n15_ n16_ n17_ n18_ n19_ n20_ n21_ n22_ n23_ n24_ n25_ n26_ n27_ n28_ n29_
       (try clear hb)
       (try clear hb2)
       (try clear hk)
       (try clear hi)
       refine hK.out _ _ ⟨(blk_cell BK659.out 0).trans rfl, (blk_cell BK659.out 1).trans rfl, (blk_cell BK659.out 2).trans rfl, (blk_cell BK659.out 3).trans rfl, (blk_cell BK659.out 4).trans rfl, (blk_cell BK659.out 5).trans rfl, (blk_cell BK659.out 6).trans rfl, (blk_cell BK659.out 7).trans rfl, (blk_cell BK659.out 8).trans rfl, (blk_cell BK659.out 9).trans rfl, (blk_cell BK600.out 0).trans rfl, (blk_cell BK600.out 1).trans rfl, (blk_cell BK600.out 2).trans rfl, (blk_cell BK600.out 3).trans rfl, (blk_cell BK600.out 4).trans rfl, (blk_cell BK600.out 5).trans rfl, (blk_cell BK600.out 6).trans rfl, (blk_cell BK600.out 7).trans rfl, (blk_cell BK600.out 8).trans rfl, (blk_cell BK600.out 9).trans rfl⟩ (fun hHeld => ?_)
       clear hK K
       refine norm_ (a' := ?_) ?_ ?_
       rotate_left
       ·show Act.put _ (some 29) _ = _
        simp only [Act.put, List.setIfInBounds_toArray, List.set_cons_zero, List.set_cons_succ, i64_w, i32_w]
        rfl
       refine pure_ (i := 4) (N := some 30) (v := ?_) (a' := ?_) #[true, true, true, true, true] rfl rfl (by kernel_rfl) (fun _ _ _ h => h) (Or.inl ⟨by rfl, ?_⟩) ?_ ?_
       rotate_left
       ·intro w'
        go_simp
        with_reducible rfl
       rotate_left
       ·simp only [Act.put, List.setIfInBounds_toArray, List.set_cons_zero, List.set_cons_succ, i64_w, i32_w]
        rfl
       refine done_ (by kernel_rfl) ?_
       try go_wp2
       go_ret
       exact ⟨by first | rfl | (simp [errW_none, errW_some] <;> rfl) | (simp [*, errW_none, errW_some] <;> rfl), by repeat (first | (with_reducible first | exact HB.out | apply below_alloc | apply pw_below_drewN | apply below_drew1 | refine below_set ?_ GE600.out | refine below_set ?_ GE659.out) | exact HB.out)⟩)
   ·replace c15 := Bool.eq_false_iff.mpr c15
    subst c15
    have H1 : (some false) = some r := by rw [if_neg (show ¬ (false = true) by decide)] at H; exact H
    clear H
    have H := H1
    clear H1
    obtain rfl := Option.some.inj H
    exact absurd hr_ (by decide)
  ·rw [if_neg c12] at H
   have c12b0 : (t660 == t630) = false := beq_eq_false_iff_ne.mpr c12
   have c12b1 : (t660 != t630) = true := bne_iff_ne.mpr c12
   obtain rfl := Option.some.inj H
   exact absurd hr_ (by decide)
end Go.Proofs.Ytbkahdpmpmalhaa.P
end
section
namespace Go.Proofs.Ytbkahdpmpmalhaa.Aid
open Go.RowKit Go.Proofs.YtbkahdpmpmalhaaW.PrintWords

theorem wrap64_id {n : Int} (h : -9223372036854775808 ≤ n) (h2 : n ≤ 9223372036854775807) : wrap64 n = n := by unfold wrap64; omega
theorem wf_i64 {n : Int} (h : (Lit.int .i64 n).wf = true) : -9223372036854775808 ≤ n ∧ n ≤ 9223372036854775807 := by
  simpa [Lit.wf, IntKind.min, IntKind.max, IntKind.bits, IntKind.signed] using h

theorem and255 (n : Int) : bits .and .i64 n 255 = n % 256 := by
  have h127 : (BitVec.ofInt 64 255).toNat = 2 ^ 8 - 1 := by decide
  have key : (BitVec.ofInt 64 n &&& BitVec.ofInt 64 255).toNat = (n % ((2 ^ 64 : Nat) : Int)).toNat % 2 ^ 8 := by
    rw [BitVec.toNat_and, BitVec.toNat_ofInt, h127, Nat.and_two_pow_sub_one_eq_mod]
  show IntKind.i64.wrap ((BitVec.ofInt 64 n &&& BitVec.ofInt 64 255).toNat : Nat) = n % 256
  rw [key, IntKind.wrap_i64]
  omega

theorem tmod_nonneg {a b : Int} (ha : 0 ≤ a) (_hb : 0 < b) : Int.tmod a b = a % b := Int.tmod_eq_emod_of_nonneg ha
theorem tdiv_nonneg {a b : Int} (ha : 0 ≤ a) : Int.tdiv a b = a / b := Int.tdiv_eq_ediv_of_nonneg ha

/-! Loops over an index -/
theorem Ev.of_succ {α : Type} {g : Nat → Option α} {r : α} (h : ∀ k, g (k + 1) = some r) : Ev g r :=
  ⟨1, fun n hn => by obtain ⟨m, rfl⟩ : ∃ m, n = m + 1 := ⟨n - 1, by omega⟩; exact h m⟩
theorem Ev.const {α : Type} {g : Nat → Option α} {r : α} (h : ∀ k, g k = some r) : Ev g r := ⟨0, fun n _ => h n⟩
/-- A loop that asks one thing of each index. -/
theorem ev_all {ρ : Type} (g : Nat → Nat → Option ρ) (n : Nat) (B : Nat → Bool) (no yes : ρ)
    (h1 : ∀ i, i < n → B i = true → ∀ r, Ev (fun k => g k (i + 1)) r → Ev (fun k => g k i) r)
    (h2 : ∀ i, i < n → B i = false → Ev (fun k => g k i) no)
    (h3 : Ev (fun k => g k n) yes) : ∀ d i, i + d = n → Ev (fun k => g k i) (if (List.range' i d).all B = true then yes else no) := by
  intro d
  induction d with
  | zero =>
    intro i hi
    obtain rfl : i = n := by omega
    simpa using h3
  | succ d ih =>
    intro i hi
    rw [List.range'_succ, List.all_cons]
    cases hb : B i with
    | true => simp only [Bool.true_and]; exact h1 i (by omega) hb _ (ih (i + 1) (by omega))
    | false => simp only [Bool.false_and, Bool.false_eq_true, if_false]; exact h2 i (by omega) hb
theorem ev_yes {ρ : Type} (g : Nat → Nat → Option ρ) (n : Nat) (B : Nat → Bool) (r : ρ)
    (h1 : ∀ i, i < n → B i = true → ∀ r, Ev (fun k => g k (i + 1)) r → Ev (fun k => g k i) r)
    (hall : (List.range n).all B = true) (h3 : Ev (fun k => g k n) r) : Ev (fun k => g k 0) r := by
  have key : ∀ d i, i + d = n → Ev (fun k => g k i) r := by
    intro d
    induction d with
    | zero =>
      intro i hi
      obtain rfl : i = n := by omega
      exact h3
    | succ d ih =>
      intro i hi
      exact h1 i (by omega) (List.all_eq_true.1 hall i (List.mem_range.2 (by omega))) _ (ih (i + 1) (by omega))
  exact key n 0 (by omega)
theorem ev_no {ρ : Type} (g : Nat → Nat → Option ρ) (n : Nat) (B : Nat → Bool) (no : ρ)
    (h1 : ∀ i, i < n → B i = true → ∀ r, Ev (fun k => g k (i + 1)) r → Ev (fun k => g k i) r)
    (h2 : ∀ i, i < n → B i = false → Ev (fun k => g k i) no)
    (hall : (List.range n).all B = false) : Ev (fun k => g k 0) no := by
  have key : ∀ d i, i + d = n → (List.range' i d).all B = false → Ev (fun k => g k i) no := by
    intro d
    induction d with
    | zero => intro i _ h; simp at h
    | succ d ih =>
      intro i hi h
      rw [List.range'_succ, List.all_cons] at h
      cases hb : B i with
      | true => exact h1 i (by omega) hb _ (ih (i + 1) (by omega) (by simpa [hb] using h))
      | false => exact h2 i (by omega) hb
  exact key n 0 (by omega) (by rw [← List.range_eq_range']; exact hall)
theorem ev_all0 {ρ : Type} (g : Nat → Nat → Option ρ) (n : Nat) (B : Nat → Bool) (no yes : ρ)
    (h1 : ∀ i, i < n → B i = true → ∀ r, Ev (fun k => g k (i + 1)) r → Ev (fun k => g k i) r)
    (h2 : ∀ i, i < n → B i = false → Ev (fun k => g k i) no)
    (h3 : Ev (fun k => g k n) yes) : Ev (fun k => g k 0) (if (List.range n).all B = true then yes else no) := by
  rw [List.range_eq_range']
  exact ev_all g n B no yes h1 h2 h3 n 0 (by omega)
/-- The same, where what was asked before is known. -/
theorem ev_yesp {ρ : Type} (g : Nat → Nat → Option ρ) (n : Nat) (B : Nat → Bool) (r : ρ)
    (h1 : ∀ i, i < n → (∀ j, j < i → B j = true) → B i = true → ∀ r, Ev (fun k => g k (i + 1)) r → Ev (fun k => g k i) r)
    (hall : (List.range n).all B = true) (h3 : Ev (fun k => g k n) r) : Ev (fun k => g k 0) r := by
  have ha : ∀ i, i < n → B i = true := fun i hi => List.all_eq_true.1 hall i (List.mem_range.2 hi)
  have key : ∀ d i, i + d = n → Ev (fun k => g k i) r := by
    intro d
    induction d with
    | zero =>
      intro i hi
      obtain rfl : i = n := by omega
      exact h3
    | succ d ih =>
      intro i hi
      exact h1 i (by omega) (fun j hj => ha j (by omega)) (ha i (by omega)) _ (ih (i + 1) (by omega))
  exact key n 0 (by omega)
theorem ev_nop {ρ : Type} (g : Nat → Nat → Option ρ) (n : Nat) (B : Nat → Bool) (no : ρ)
    (h1 : ∀ i, i < n → (∀ j, j < i → B j = true) → B i = true → ∀ r, Ev (fun k => g k (i + 1)) r → Ev (fun k => g k i) r)
    (h2 : ∀ i, i < n → (∀ j, j < i → B j = true) → B i = false → Ev (fun k => g k i) no)
    (hall : (List.range n).all B = false) : Ev (fun k => g k 0) no := by
  have key : ∀ d i, i + d = n → (∀ j, j < i → B j = true) → Ev (fun k => g k i) no := by
    intro d
    induction d with
    | zero =>
      intro i hi h
      obtain rfl : i = n := by omega
      have : (List.range i).all B = true := List.all_eq_true.2 (fun j hj => h j (List.mem_range.1 hj))
      rw [this] at hall; cases hall
    | succ d ih =>
      intro i hi h
      cases hb : B i with
      | true => exact h1 i (by omega) h hb _ (ih (i + 1) (by omega) (fun j hj => by
          by_cases e : j = i
          · rw [e]; exact hb
          · exact h j (by omega)))
      | false => exact h2 i (by omega) h hb
  exact key n 0 (by omega) (fun j hj => by omega)
theorem ev_allp {ρ : Type} (g : Nat → Nat → Option ρ) (n : Nat) (B : Nat → Bool) (no yes : ρ)
    (h1 : ∀ i, i < n → (∀ j, j < i → B j = true) → B i = true → ∀ r, Ev (fun k => g k (i + 1)) r → Ev (fun k => g k i) r)
    (h2 : ∀ i, i < n → (∀ j, j < i → B j = true) → B i = false → Ev (fun k => g k i) no)
    (h3 : (∀ j, j < n → B j = true) → Ev (fun k => g k n) yes) : Ev (fun k => g k 0) (if (List.range n).all B = true then yes else no) := by
  cases hall : (List.range n).all B with
  | true =>
    rw [if_pos rfl]
    exact ev_yesp g n B yes h1 hall (h3 (fun j hj => List.all_eq_true.1 hall j (List.mem_range.2 hj)))
  | false =>
    rw [if_neg (by simp)]
    exact ev_nop g n B no h1 h2 hall
theorem range_all {α : Type} (xs : List α) (d : α) (P : α → Bool) : (List.range xs.length).all (fun i => P (xs.getD i d)) = xs.all P := by
  rw [Bool.eq_iff_iff, List.all_eq_true, List.all_eq_true]
  constructor
  · intro h x hx
    obtain ⟨i, hi, rfl⟩ := List.getElem_of_mem hx
    have := h i (List.mem_range.2 hi)
    simpa [List.getD_eq_getElem?_getD, List.getElem?_eq_getElem hi] using this
  · intro h i hi
    have hi := List.mem_range.1 hi
    have := h _ (List.getElem_mem hi)
    simpa [List.getD_eq_getElem?_getD, List.getElem?_eq_getElem hi] using this
/-- A loop that stores at each index. -/
theorem ev_copy {α ρ : Type} (g : Nat → List α → Nat → Option ρ) (n : Nat) (f : Nat → α) (fin : List α → ρ)
    (h1 : ∀ i acc, i < n → acc.length = n → ∀ r, Ev (fun k => g k (acc.set i (f i)) (i + 1)) r → Ev (fun k => g k acc i) r)
    (h3 : ∀ acc, acc.length = n → Ev (fun k => g k acc n) (fin acc)) : ∀ d i acc, i + d = n → acc.length = n → Ev (fun k => g k acc i) (fin (acc.take i ++ (List.range' i d).map f)) := by
  intro d
  induction d with
  | zero =>
    intro i acc hi hl
    obtain rfl : i = n := by omega
    simpa [← hl] using h3 acc hl
  | succ d ih =>
    intro i acc hi hl
    have h := ih (i + 1) (acc.set i (f i)) (by omega) (by simpa using hl)
    have e : (acc.set i (f i)).take (i + 1) ++ (List.range' (i + 1) d).map f = acc.take i ++ (List.range' i (d + 1)).map f := by
      rw [List.range'_succ, List.map_cons, List.take_succ_eq_append_getElem (by simp; omega), List.getElem_set_self, List.append_assoc]
      congr 1
      exact List.take_set_of_le (Nat.le_refl _)
    rw [e] at h
    exact h1 i acc (by omega) hl _ h
theorem ev_copy0 {α ρ : Type} (g : Nat → List α → Nat → Option ρ) (n : Nat) (f : Nat → α) (fin : List α → ρ)
    (h1 : ∀ i acc, i < n → acc.length = n → ∀ r, Ev (fun k => g k (acc.set i (f i)) (i + 1)) r → Ev (fun k => g k acc i) r)
    (h3 : ∀ acc, acc.length = n → Ev (fun k => g k acc n) (fin acc)) (acc : List α) (hl : acc.length = n) : Ev (fun k => g k acc 0) (fin ((List.range n).map f)) := by
  rw [List.range_eq_range']
  simpa using ev_copy g n f fin h1 h3 n 0 acc (by omega) hl
/-- A loop that carries a state. -/
theorem ev_fold {σ ρ : Type} (g : Nat → σ → Nat → Option ρ) (n : Nat) (f : σ → Nat → σ) (fin : σ → ρ) (Inv : Nat → σ → Prop)
    (h1 : ∀ i s, i < n → Inv i s → Inv (i + 1) (f s i) ∧ ∀ r, Ev (fun k => g k (f s i) (i + 1)) r → Ev (fun k => g k s i) r)
    (h3 : ∀ s, Inv n s → Ev (fun k => g k s n) (fin s)) (s : σ) (h0 : Inv 0 s) : Ev (fun k => g k s 0) (fin ((List.range n).foldl f s)) ∧ Inv n ((List.range n).foldl f s) := by
  have key : ∀ d i s, i + d = n → Inv i s → Ev (fun k => g k s i) (fin ((List.range' i d).foldl f s)) ∧ Inv n ((List.range' i d).foldl f s) := by
    intro d
    induction d with
    | zero =>
      intro i s hi hs
      obtain rfl : i = n := by omega
      simpa using ⟨h3 s hs, hs⟩
    | succ d ih =>
      intro i s hi hs
      obtain ⟨h4, h5⟩ := h1 i s (by omega) hs
      obtain ⟨h6, h7⟩ := ih (i + 1) (f s i) (by omega) h4
      rw [List.range'_succ, List.foldl_cons]
      exact ⟨h5 _ h6, h7⟩
  rw [List.range_eq_range']
  exact key n 0 s (by omega) h0
theorem range_map_getD {α : Type} (xs : List α) (d : α) : (List.range xs.length).map (fun i => xs.getD i d) = xs := by
  apply List.ext_getElem
  · simp
  · intro i h1 h2
    simp at h1
    simp [List.getD_eq_getElem?_getD, List.getElem?_eq_getElem h1]
theorem foldl_getD {α σ : Type} (f : σ → α → σ) (l : List α) (d : α) (s : σ) : (List.range l.length).foldl (fun s i => f s (l.getD i d)) s = l.foldl f s := by
  have := range_map_getD l d
  conv => rhs; rw [← this]
  rw [List.foldl_map]
theorem toNat_cast (i : Nat) : (i : Int).toNat = i := by omega
theorem wrap_succ {i : Nat} (h : i < 9223372036854775807) : wrap64 ((i : Int) + 1) = ((i + 1 : Nat) : Int) := by unfold wrap64; omega
theorem in_dec (a b c : Int) : (if a ≥ b then (some (decide (a ≤ c))) else (some false)) = some (decide (b ≤ a ∧ a ≤ c)) := by
  by_cases h : a ≥ b
  · rw [if_pos h]; congr 1; by_cases h2 : a ≤ c
    · rw [decide_eq_true h2, decide_eq_true ⟨h, h2⟩]
    · rw [decide_eq_false h2, decide_eq_false (fun x => h2 x.2)]
  · rw [if_neg h, decide_eq_false (fun x => h x.1)]
/-- What a count tells, where it does not refuse. -/
theorem ev_sz (g : Nat → Int → Nat → Option Int) (n : Nat) (sz : Nat → Nat)
    (h1 : ∀ i b, i < n → 0 ≤ b → b ≤ 1048576 → (sz i : Int) ≤ b → ∀ r, Ev (fun k => g k (b - sz i) (i + 1)) r → Ev (fun k => g k b i) r)
    (h2 : ∀ i b, i < n → 0 ≤ b → b ≤ 1048576 → ¬ (sz i : Int) ≤ b → Ev (fun k => g k b i) (-1)) (h3 : ∀ b, Ev (fun k => g k b n) b) (b : Int) (hb0 : 0 ≤ b) (hb1 : b ≤ 1048576) :
    ∃ r, Ev (fun k => g k b 0) r ∧ (0 ≤ r → (((List.range n).map sz).sum : Nat) + r ≤ b) := by
  have key : ∀ d i b, i + d = n → 0 ≤ b → b ≤ 1048576 → ∃ r, Ev (fun k => g k b i) r ∧ (0 ≤ r → (((List.range' i d).map sz).sum : Nat) + r ≤ b) := by
    intro d
    induction d with
    | zero =>
      intro i b hi _ _
      obtain rfl : i = n := by omega
      exact ⟨b, h3 b, fun _ => by simp⟩
    | succ d ih =>
      intro i b hi h0 hb
      by_cases hs : (sz i : Int) ≤ b
      · obtain ⟨r, hr, hq⟩ := ih (i + 1) (b - sz i) (by omega) (by omega) (by omega)
        refine ⟨r, h1 i b (by omega) h0 hb hs r hr, fun h => ?_⟩
        have := hq h
        rw [List.range'_succ, List.map_cons, List.sum_cons]
        omega
      · exact ⟨-1, h2 i b (by omega) h0 hb hs, fun h => by omega⟩
  rw [List.range_eq_range']
  exact key n 0 b (by omega) hb0 hb1
theorem sum_ge {n : Nat} (sz : Nat → Nat) {i : Nat} (h : i < n) : sz i ≤ ((List.range n).map sz).sum := by
  have : ∀ (l : List Nat) (x : Nat), x ∈ l → x ≤ l.sum := by
    intro l
    induction l with
    | nil => intro x hx; cases hx
    | cons y l ih =>
      intro x hx
      rcases List.mem_cons.1 hx with rfl | hx
      · simp
      · have := ih x hx; simp; omega
  exact this _ _ (List.mem_map_of_mem (List.mem_range.2 h))
theorem sub_len {a : Int} {n : Nat} (ha : 0 ≤ a) (ha1 : a ≤ 1048576) (hn : n ≤ maxLen) : wrap64 (a - (n : Int)) = a - n := by unfold maxLen at hn; unfold wrap64; omega
end Go.Proofs.Ytbkahdpmpmalhaa.Aid
end
section
namespace Go.Proofs.Ytbkahdpmpmalhaa.Pure
open Go.RowKit Go.Proofs.Ytbkahdpmpmalhaa.P Go.Proofs.YtbkahdpmpmalhaaW.PrintWords Go.Proofs.YtbkahdpmpmalhaaW.PrintLast Go.Proofs.YtbkahdpmpmalhaaW.PrintMore Go.Proofs.Ytbkahdpmpmalhaa.Aid
set_option linter.unusedVariables false
set_option linter.unusedSimpArgs false

theorem szIntS_eq (l : List Int) (hl : l.length ≤ maxLen) (a : Int) (h0 : 0 ≤ a) (h1 : a ≤ 1048576) : laws_szIntS.f l a = some (if (l.length : Int) ≤ a then a - l.length else -1) := by
  unfold maxLen at hl
  unfold laws_szIntS.f
  have e : wrap64 (a - (l.length : Int)) = a - l.length := by unfold wrap64; omega
  rw [e]
  by_cases h : (l.length : Int) ≤ a
  · rw [if_neg (by omega), if_pos h]
  · rw [if_pos (by omega), if_neg h]
theorem toIntS_ev (l : List Int) (hl : l.length ≤ 1048576) : Ev (fun k => laws_toIntS.f k l) l := by
  have key := ev_copy0 (fun k acc i => laws_toIntS.l0 k l acc (i : Int)) l.length (fun i => l.getD i 0) id (by
    intro i acc hi ha r h
    refine Ev.step (fun k => ?_) h
    simp only [laws_toIntS.l0]
    rw [if_pos (by omega), if_pos (by omega), if_pos (by omega), wrap_succ (by omega), toNat_cast]
    rfl) (by
    intro acc ha
    refine Ev.of_succ (fun k => ?_)
    simp only [laws_toIntS.l0]
    rw [if_neg (by omega)]
    rfl) (List.replicate l.length 0) (by simp)
  rw [range_map_getD] at key
  refine Ev.congr (fun k => ?_) key
  unfold laws_toIntS.f
  rw [if_pos (by omega), if_pos (by omega), toNat_cast]
  rfl
theorem eqIntS_refl (l : List Int) (hl : l.length ≤ 1048576) : Ev (fun k => laws_eqIntS.f k l l) true := by
  have key := ev_all0 (fun k i => laws_eqIntS.l0 k l l (i : Int)) l.length (fun _ => true) false true (by
    intro i hi _ r h
    refine Ev.step (fun k => ?_) h
    simp only [laws_eqIntS.l0]
    rw [if_pos (by omega), if_pos (by omega), if_pos (by omega), if_pos trivial, wrap_succ (by omega)]) (by intro i _ h; cases h) (by
    refine Ev.of_succ (fun k => ?_)
    simp only [laws_eqIntS.l0]
    rw [if_neg (by omega)])
  rw [if_pos (by simp)] at key
  refine Ev.congr (fun k => ?_) key
  unfold laws_eqIntS.f
  rw [if_pos rfl]
  rfl
theorem rdL (l : List (List Int)) (i : Nat) : rd_L7 l (i : Int) = l.getD i [] := by unfold rd_L7; rw [toNat_cast]
/-- What the count of a list of lists tells, where it does not refuse. -/
theorem szIntSS_ev (l : List (List Int)) (hl : l.length ≤ maxLen) (hls : ∀ x ∈ l, x.length ≤ maxLen) (a : Int) (h0 : 0 ≤ a) (h1 : a ≤ 1048576) :
    ∃ r, Ev (fun k => laws_szIntSS.f k l a) r ∧ (0 ≤ r → (l.length : Int) + ((l.map List.length).sum : Nat) + r ≤ a) := by
  by_cases hlen : (l.length : Int) ≤ a
  · have key : ∀ (d i : Nat) (b : Int), i + d = l.length → 0 ≤ b → b ≤ 1048576 → ∃ r, Ev (fun k => laws_szIntSS.l0 k l b (i : Int)) r ∧ (0 ≤ r → (((l.drop i).map List.length).sum : Nat) + r ≤ b) := by
      intro d
      induction d with
      | zero =>
        intro i b hi hb hb1
        refine ⟨b, Ev.of_succ (fun k => ?_), fun _ => ?_⟩
        · simp only [laws_szIntSS.l0]
          rw [if_neg (by omega)]
        · rw [List.drop_of_length_le (by omega)]; simp
      | succ d ih =>
        intro i b hi hb hb1
        have hi' : i < l.length := by omega
        have hmem := List.getElem_mem hi'
        have hx : l.getD i [] = l[i] := by simp [List.getD_eq_getElem?_getD, List.getElem?_eq_getElem hi']
        have hd : l.drop i = l[i] :: l.drop (i + 1) := List.drop_eq_getElem_cons hi'
        have hs := szIntS_eq l[i] (hls _ hmem) b hb hb1
        by_cases hle : (l[i].length : Int) ≤ b
        · obtain ⟨r, hr, hr2⟩ := ih (i + 1) (b - l[i].length) (by omega) (by omega) (by omega)
          refine ⟨r, Ev.step (fun k => ?_) hr, fun h => ?_⟩
          · simp only [laws_szIntSS.l0]
            rw [if_pos (by omega), if_pos (by omega), rdL, hx, hs, if_pos hle]
            simp only [Option.bind_some]
            rw [if_neg (by omega), wrap_succ (by simp only [maxLen] at hl; omega)]
          · have := hr2 h
            rw [hd]; simp only [List.map_cons, List.sum_cons]; omega
        · refine ⟨-1, Ev.of_succ (fun k => ?_), fun h => by omega⟩
          simp only [laws_szIntSS.l0]
          rw [if_pos (by omega), if_pos (by omega), rdL, hx, hs, if_neg hle]
          simp only [Option.bind_some]
          rw [if_pos (by omega)]
    obtain ⟨r, hr, hr2⟩ := key l.length 0 (a - l.length) (by omega) (by omega) (by omega)
    refine ⟨r, Ev.congr (fun k => ?_) hr, fun h => by have := hr2 h; simp only [List.drop_zero] at this; omega⟩
    unfold laws_szIntSS.f
    have e : wrap64 (a - (l.length : Int)) = a - l.length := by unfold wrap64; omega
    rw [e, if_neg (by omega)]
    rfl
  · refine ⟨-1, Ev.const (fun k => ?_), fun h => by omega⟩
    unfold maxLen at hl
    unfold laws_szIntSS.f
    have e : wrap64 (a - (l.length : Int)) = a - l.length := by unfold wrap64; omega
    rw [e, if_pos (by omega)]
theorem le_sum {l : List Nat} {x : Nat} (h : x ∈ l) : x ≤ l.sum := by
  induction l with
  | nil => cases h
  | cons y l ih =>
    rcases List.mem_cons.1 h with rfl | h
    · simp
    · have := ih h; simp; omega
def Small (l : List (List Int)) : Prop := l.length ≤ 1048576 ∧ ∀ x ∈ l, x.length ≤ 1048576
theorem Small.of_sum {l : List (List Int)} (h : (l.length : Int) + ((l.map List.length).sum : Nat) ≤ 1048576) : Small l :=
  ⟨by omega, fun x hx => by have := le_sum (List.mem_map_of_mem (f := List.length) hx); omega⟩
theorem Small.at_ {l : List (List Int)} (h : Small l) (i : Nat) : (l.getD i []).length ≤ 1048576 := by
  by_cases hi : i < l.length
  · rw [List.getD_eq_getElem?_getD, List.getElem?_eq_getElem hi]; exact h.2 _ (List.getElem_mem hi)
  · rw [List.getD_eq_getElem?_getD, List.getElem?_eq_none (by omega)]; simp
theorem toIntSS_ev (l : List (List Int)) (hl : Small l) : Ev (fun k => laws_toIntSS.f k l) l := by
  have h1 := hl.1
  have key := ev_copy0 (fun k acc i => laws_toIntSS.l0 k l acc (i : Int)) l.length (fun i => l.getD i []) id (by
    intro i acc hi ha r h
    refine Ev.step (f := fun k => (laws_toIntS.f k (l.getD i [])).bind fun t => laws_toIntSS.l0 k l (acc.set i t) ((i + 1 : Nat) : Int)) (fun k => ?_) (Ev.bind (toIntS_ev _ (hl.at_ i)) h)
    simp only [laws_toIntSS.l0]
    rw [if_pos (by omega), if_pos (by omega), rdL, wrap_succ (by omega), toNat_cast]
    congr 1
    funext t
    rw [if_pos (by omega)]) (by
    intro acc ha
    refine Ev.of_succ (fun k => ?_)
    simp only [laws_toIntSS.l0]
    rw [if_neg (by omega)]
    rfl) (List.replicate l.length []) (by simp)
  rw [range_map_getD] at key
  refine Ev.congr (fun k => ?_) key
  unfold laws_toIntSS.f
  rw [if_pos (by omega), if_pos (by omega), toNat_cast]
  rfl
theorem eqIntSS_refl (l : List (List Int)) (hl : Small l) : Ev (fun k => laws_eqIntSS.f k l l) true := by
  have h1 := hl.1
  have key := ev_all0 (fun k i => laws_eqIntSS.l0 k l l (i : Int)) l.length (fun _ => true) false true (by
    intro i hi _ r h
    refine Ev.step (f := fun k => (laws_eqIntS.f k (l.getD i []) (l.getD i [])).bind fun t => if t = true then laws_eqIntSS.l0 k l l ((i + 1 : Nat) : Int) else some false) (fun k => ?_) (Ev.bind (eqIntS_refl _ (hl.at_ i)) (by simpa using h))
    simp only [laws_eqIntSS.l0]
    rw [if_pos (by omega), if_pos (by omega), if_pos (by omega), rdL, wrap_succ (by omega)]) (by intro i _ h; cases h) (by
    refine Ev.of_succ (fun k => ?_)
    simp only [laws_eqIntSS.l0]
    rw [if_neg (by omega)])
  rw [if_pos (by simp)] at key
  refine Ev.congr (fun k => ?_) key
  unfold laws_eqIntSS.f
  rw [if_pos rfl]
  rfl
theorem szBoolS_eq (l : List Bool) (hl : l.length ≤ maxLen) (a : Int) (h0 : 0 ≤ a) (h1 : a ≤ 1048576) : laws_szBoolS.f l a = some (if (l.length : Int) ≤ a then a - l.length else -1) := by
  unfold maxLen at hl
  unfold laws_szBoolS.f
  have e : wrap64 (a - (l.length : Int)) = a - l.length := by unfold wrap64; omega
  rw [e]
  by_cases h : (l.length : Int) ≤ a
  · rw [if_neg (by omega), if_pos h]
  · rw [if_pos (by omega), if_neg h]
theorem toBoolS_ev (l : List Bool) (hl : l.length ≤ 1048576) : Ev (fun k => laws_toBoolS.f k l) l := by
  have key := ev_copy0 (fun k acc i => laws_toBoolS.l0 k l acc (i : Int)) l.length (fun i => l.getD i false) id (by
    intro i acc hi ha r h
    refine Ev.step (fun k => ?_) h
    simp only [laws_toBoolS.l0]
    rw [if_pos (by omega), if_pos (by omega), if_pos (by omega), wrap_succ (by omega), toNat_cast]
    rfl) (by
    intro acc ha
    refine Ev.of_succ (fun k => ?_)
    simp only [laws_toBoolS.l0]
    rw [if_neg (by omega)]
    rfl) (List.replicate l.length false) (by simp)
  rw [range_map_getD] at key
  refine Ev.congr (fun k => ?_) key
  unfold laws_toBoolS.f
  rw [if_pos (by omega), if_pos (by omega), toNat_cast]
  rfl
theorem eqBoolS_refl (l : List Bool) (hl : l.length ≤ 1048576) : Ev (fun k => laws_eqBoolS.f k l l) true := by
  have key := ev_all0 (fun k i => laws_eqBoolS.l0 k l l (i : Int)) l.length (fun _ => true) false true (by
    intro i hi _ r h
    refine Ev.step (fun k => ?_) h
    simp only [laws_eqBoolS.l0]
    rw [if_pos (by omega), if_pos (by omega), if_pos (by omega), if_neg (by simp), wrap_succ (by omega)]) (by intro i _ h; cases h) (by
    refine Ev.of_succ (fun k => ?_)
    simp only [laws_eqBoolS.l0]
    rw [if_neg (by omega)])
  rw [if_pos (by simp)] at key
  refine Ev.congr (fun k => ?_) key
  unfold laws_eqBoolS.f
  rw [if_pos rfl]
  rfl
theorem map_getD {α β : Type} (f : α → β) (l : List α) (d : α) : (List.range l.length).map (fun i => f (l.getD i d)) = l.map f := by
  rw [show (fun i => f (l.getD i d)) = f ∘ (fun i => l.getD i d) from rfl, ← List.map_map, range_map_getD]
abbrev RunW := S149
abbrev RunL := S151
def toRun (r : RunL) : RunW := ⟨r.f0, r.f1⟩
theorem rdRL (l : List RunL) (i : Nat) : rd_T151 l (i : Int) = l.getD i z151 := by unfold rd_T151; rw [toNat_cast]
theorem rdRW (l : List RunW) (i : Nat) : rd_T149 l (i : Int) = l.getD i z149 := by unfold rd_T149; rw [toNat_cast]
theorem szRunS_eq (l : List RunL) (hl : l.length ≤ maxLen) : laws_szRunS.f l 1048576 = some (if (l.length : Int) ≤ 1048576 then (1048576 - (l.length : Int) : Int) else (-1 : Int)) := by
  unfold maxLen at hl
  unfold laws_szRunS.f
  have e : wrap64 (1048576 - (l.length : Int)) = 1048576 - l.length := by unfold wrap64; omega
  rw [e]
  by_cases h : (l.length : Int) ≤ 1048576
  · rw [if_neg (by omega), if_pos h]
  · rw [if_pos (by omega), if_neg h]
theorem toRunS_ev (l : List RunL) (hl : l.length ≤ 1048576) : Ev (fun k => laws_toRunS.f k l) (l.map toRun) := by
  have key := ev_copy0 (fun k acc i => laws_toRunS.l0 k l acc (i : Int)) l.length (fun i => toRun (l.getD i z151)) id (by
    intro i acc hi ha r h
    refine Ev.step (fun k => ?_) h
    simp only [laws_toRunS.l0]
    rw [if_pos (by omega), if_pos (by omega), rdRL]
    unfold laws_toRun.f
    simp only [Option.bind_some]
    rw [if_pos (by omega), wrap_succ (by omega), toNat_cast]
    rfl) (by
    intro acc ha
    refine Ev.of_succ (fun k => ?_)
    simp only [laws_toRunS.l0]
    rw [if_neg (by omega)]
    rfl) (List.replicate l.length z149) (by simp)
  rw [map_getD toRun l z151] at key
  refine Ev.congr (fun k => ?_) key
  unfold laws_toRunS.f
  rw [if_pos (by omega), if_pos (by omega), toNat_cast]
  rfl
theorem eqRunS_refl (l : List RunW) (hl : l.length ≤ 1048576) : Ev (fun k => laws_eqRunS.f k l l) true := by
  have key := ev_all0 (fun k i => laws_eqRunS.l0 k l l (i : Int)) l.length (fun _ => true) false true (by
    intro i hi _ r h
    refine Ev.step (fun k => ?_) h
    simp only [laws_eqRunS.l0]
    rw [if_pos (by omega), if_pos (by omega), if_pos (by omega)]
    unfold laws_eqRun.f
    simp only [if_true, Option.bind_some]
    rw [wrap_succ (by omega)]) (by intro i _ h; cases h) (by
    refine Ev.of_succ (fun k => ?_)
    simp only [laws_eqRunS.l0]
    rw [if_neg (by omega)])
  rw [if_pos (by simp)] at key
  refine Ev.congr (fun k => ?_) key
  unfold laws_eqRunS.f
  rw [if_pos rfl]
  rfl
abbrev SlabW := S76
abbrev SlabL := S74
abbrev zbl : SlabL := z74
abbrev zbw : SlabW := z76
def toSlab (r : SlabL) : SlabW := ⟨r.f0, r.f1, r.f2⟩
theorem rdBL (l : List SlabL) (i : Nat) : rd_T74 l (i : Int) = l.getD i zbl := by unfold rd_T74; rw [toNat_cast]
theorem rdBW (l : List SlabW) (i : Nat) : rd_T76 l (i : Int) = l.getD i zbw := by unfold rd_T76; rw [toNat_cast]
theorem szSlab_eq (s : SlabL) (hl : s.f2.length ≤ maxLen) (a : Int) (h0 : 0 ≤ a) (h1 : a ≤ 1048576) : laws_szSlab.f s.f0 s.f1 s.f2 a = some (if (s.f2.length : Int) ≤ a then (a - (s.f2.length : Int) : Int) else (-1 : Int)) := by
  unfold laws_szSlab.f
  rw [szBoolS_eq _ hl a h0 h1]
  simp only [Option.bind_some]
  by_cases h : (s.f2.length : Int) ≤ a
  · rw [if_pos h, if_neg (by omega)]
  · rw [if_neg h, if_pos (by omega)]
theorem mem_getD_b {α : Type} {l : List α} {i : Nat} (h : i < l.length) (d : α) : l.getD i d ∈ l := by
  rw [List.getD_eq_getElem?_getD, List.getElem?_eq_getElem h]; exact List.getElem_mem h
def SmallSl (l : List SlabL) : Prop := l.length ≤ 1048576 ∧ ∀ x ∈ l, x.f2.length ≤ 1048576
theorem szSlabS_ev (l : List SlabL) (hl : l.length ≤ maxLen) (hls : ∀ x ∈ l, x.f2.length ≤ maxLen) :
    ∃ r, Ev (fun k => laws_szSlabS.f k l 1048576) r ∧ (0 ≤ r → SmallSl l ∧ (l.length : Int) + ((l.map (fun s => s.f2.length)).sum : Nat) ≤ 1048576) := by
  by_cases hlen : (l.length : Int) ≤ 1048576
  · obtain ⟨r, hr, hq⟩ := ev_sz (fun k b i => laws_szSlabS.l0 k l b (i : Int)) l.length (fun i => (l.getD i zbl).f2.length) (by
      intro i b hi h0 h1 hs r h
      refine Ev.step (fun k => ?_) h
      simp only [laws_szSlabS.l0]
      rw [if_pos (by omega), if_pos (by omega), rdBL, szSlab_eq _ (hls _ (mem_getD_b hi _)) b h0 h1, if_pos hs]
      simp only [Option.bind_some]
      rw [if_neg (by omega), wrap_succ (by simp only [maxLen] at hl; omega)]) (by
      intro i b hi h0 h1 hs
      refine Ev.of_succ (fun k => ?_)
      simp only [laws_szSlabS.l0]
      rw [if_pos (by omega), if_pos (by omega), rdBL, szSlab_eq _ (hls _ (mem_getD_b hi _)) b h0 h1, if_neg hs]
      simp only [Option.bind_some]
      rw [if_pos (by omega)]) (by
      intro b
      refine Ev.of_succ (fun k => ?_)
      simp only [laws_szSlabS.l0]
      rw [if_neg (by omega)]) (1048576 - (l.length : Int)) (by omega) (by omega)
    refine ⟨r, Ev.congr (fun k => ?_) hr, fun h => ?_⟩
    · unfold laws_szSlabS.f
      rw [sub_len (by omega) (by omega) hl, if_neg (by omega)]
      rfl
    · have := hq h
      refine ⟨⟨by omega, fun x hx => ?_⟩, ?_⟩
      · obtain ⟨i, hi, rfl⟩ := List.getElem_of_mem hx
        have h5 := sum_ge (fun i => (l.getD i zbl).f2.length) hi
        simp only [List.getD_eq_getElem?_getD, List.getElem?_eq_getElem hi, Option.getD_some] at h5
        simp only [List.getD_eq_getElem?_getD] at this
        omega
      · rw [map_getD (fun s : SlabL => s.f2.length) l zbl] at this
        omega
  · refine ⟨-1, Ev.const (fun k => ?_), fun h => by omega⟩
    unfold laws_szSlabS.f
    rw [sub_len (by omega) (by omega) hl, if_pos (by omega)]
theorem SmallSl.at_ {l : List SlabL} (h : SmallSl l) (i : Nat) : (l.getD i zbl).f2.length ≤ 1048576 := by
  by_cases hi : i < l.length
  · exact h.2 _ (mem_getD_b hi _)
  · rw [List.getD_eq_getElem?_getD, List.getElem?_eq_none (by omega)]; decide
theorem toSlabS_ev (l : List SlabL) (hl : SmallSl l) : Ev (fun k => laws_toSlabS.f k l) (l.map toSlab) := by
  have h1 := hl.1
  have key := ev_copy0 (fun k acc i => laws_toSlabS.l0 k l acc (i : Int)) l.length (fun i => toSlab (l.getD i zbl)) id (by
    intro i acc hi ha r h
    refine Ev.step (f := fun k => (laws_toBoolS.f k (l.getD i zbl).f2).bind fun t => laws_toSlabS.l0 k l (acc.set i (⟨(l.getD i zbl).f0, (l.getD i zbl).f1, t⟩ : SlabW)) ((i + 1 : Nat) : Int)) (fun k => ?_) (Ev.bind (toBoolS_ev _ (hl.at_ i)) h)
    simp only [laws_toSlabS.l0]
    rw [if_pos (by omega), if_pos (by omega), rdBL]
    unfold laws_toSlab.f
    rw [Option.bind_assoc]
    congr 1
    funext t
    simp only [Option.bind_some]
    rw [if_pos (by omega), wrap_succ (by omega), toNat_cast]) (by
    intro acc ha
    refine Ev.of_succ (fun k => ?_)
    simp only [laws_toSlabS.l0]
    rw [if_neg (by omega)]
    rfl) (List.replicate l.length zbw) (by simp)
  rw [map_getD toSlab l zbl] at key
  refine Ev.congr (fun k => ?_) key
  unfold laws_toSlabS.f
  rw [if_pos (by omega), if_pos (by omega), toNat_cast]
  rfl
def SmallSw (l : List SlabW) : Prop := l.length ≤ 1048576 ∧ ∀ x ∈ l, x.f2.length ≤ 1048576
theorem SmallSl.toW {l : List SlabL} (h : SmallSl l) : SmallSw (l.map toSlab) := by
  refine ⟨by simpa using h.1, fun x hx => ?_⟩
  obtain ⟨y, hy, rfl⟩ := List.mem_map.1 hx
  exact h.2 y hy
theorem SmallSw.at_ {l : List SlabW} (h : SmallSw l) (i : Nat) : (l.getD i zbw).f2.length ≤ 1048576 := by
  by_cases hi : i < l.length
  · exact h.2 _ (mem_getD_b hi _)
  · rw [List.getD_eq_getElem?_getD, List.getElem?_eq_none (by omega)]; decide
theorem eqSlabS_refl (l : List SlabW) (hl : SmallSw l) : Ev (fun k => laws_eqSlabS.f k l l) true := by
  have h1 := hl.1
  have key := ev_all0 (fun k i => laws_eqSlabS.l0 k l l (i : Int)) l.length (fun _ => true) false true (by
    intro i hi _ r h
    refine Ev.step (f := fun k => (laws_eqBoolS.f k (l.getD i zbw).f2 (l.getD i zbw).f2).bind fun t => (if t = true then (some true) else (some false)).bind fun t => if t = true then laws_eqSlabS.l0 k l l ((i + 1 : Nat) : Int) else some false) (fun k => ?_) (Ev.bind (eqBoolS_refl _ (hl.at_ i)) (by simp only [if_true, Option.bind_some]; exact h))
    simp only [laws_eqSlabS.l0]
    rw [if_pos (by omega), if_pos (by omega), if_pos (by omega), rdBW]
    unfold laws_eqSlab.f
    rw [if_pos rfl, if_pos rfl, Option.bind_assoc, wrap_succ (by omega)]) (by intro i _ h; cases h) (by
    refine Ev.of_succ (fun k => ?_)
    simp only [laws_eqSlabS.l0]
    rw [if_neg (by omega)])
  rw [if_pos (by simp)] at key
  refine Ev.congr (fun k => ?_) key
  unfold laws_eqSlabS.f
  rw [if_pos rfl]
  rfl
abbrev ObjW := S153
abbrev ObjL := S155
def toObj (r : ObjL) : ObjW := ⟨r.f0, r.f1, r.f2, r.f3, r.f4⟩
theorem rdOL (l : List ObjL) (i : Nat) : rd_T155 l (i : Int) = l.getD i z155 := by unfold rd_T155; rw [toNat_cast]
theorem rdOW (l : List ObjW) (i : Nat) : rd_T153 l (i : Int) = l.getD i z153 := by unfold rd_T153; rw [toNat_cast]
theorem toObjectS_ev (l : List ObjL) (hl : l.length ≤ 1048576) : Ev (fun k => laws_toObjectS.f k l) (l.map toObj) := by
  have key := ev_copy0 (fun k acc i => laws_toObjectS.l0 k l acc (i : Int)) l.length (fun i => toObj (l.getD i z155)) id (by
    intro i acc hi ha r h
    refine Ev.step (fun k => ?_) h
    simp only [laws_toObjectS.l0]
    rw [if_pos (by omega), if_pos (by omega), rdOL]
    unfold laws_toObject.f
    simp only [Option.bind_some]
    rw [if_pos (by omega), wrap_succ (by omega), toNat_cast]
    rfl) (by
    intro acc ha
    refine Ev.of_succ (fun k => ?_)
    simp only [laws_toObjectS.l0]
    rw [if_neg (by omega)]
    rfl) (List.replicate l.length z153) (by simp)
  rw [map_getD toObj l z155] at key
  refine Ev.congr (fun k => ?_) key
  unfold laws_toObjectS.f
  rw [if_pos (by omega), if_pos (by omega), toNat_cast]
  rfl
theorem eqObjectS_refl (l : List ObjW) (hl : l.length ≤ 1048576) : Ev (fun k => laws_eqObjectS.f k l l) true := by
  have key := ev_all0 (fun k i => laws_eqObjectS.l0 k l l (i : Int)) l.length (fun _ => true) false true (by
    intro i hi _ r h
    refine Ev.step (fun k => ?_) h
    simp only [laws_eqObjectS.l0]
    rw [if_pos (by omega), if_pos (by omega), if_pos (by omega)]
    unfold laws_eqObject.f
    simp only [if_true, Option.bind_some]
    rw [wrap_succ (by omega)]) (by intro i _ h; cases h) (by
    refine Ev.of_succ (fun k => ?_)
    simp only [laws_eqObjectS.l0]
    rw [if_neg (by omega)])
  rw [if_pos (by simp)] at key
  refine Ev.congr (fun k => ?_) key
  unfold laws_eqObjectS.f
  rw [if_pos rfl]
  rfl
abbrev RegW := S178
abbrev RegL := S192
def toReg_ (r : RegL) : RegW := ⟨r.f0, r.f1, r.f2⟩
theorem rdGL (l : List RegL) (i : Nat) : rd_T192 l (i : Int) = l.getD i z192 := by unfold rd_T192; rw [toNat_cast]
theorem rdGW (l : List RegW) (i : Nat) : rd_T178 l (i : Int) = l.getD i z178 := by unfold rd_T178; rw [toNat_cast]
theorem szRegionS_eq (l : List RegL) (hl : l.length ≤ maxLen) : laws_szRegionS.f l 1048576 = some (if (l.length : Int) ≤ 1048576 then (1048576 - (l.length : Int) : Int) else (-1 : Int)) := by
  unfold maxLen at hl
  unfold laws_szRegionS.f
  have e : wrap64 (1048576 - (l.length : Int)) = 1048576 - l.length := by unfold wrap64; omega
  rw [e]
  by_cases h : (l.length : Int) ≤ 1048576
  · rw [if_neg (by omega), if_pos h]
  · rw [if_pos (by omega), if_neg h]
theorem toRegionS_ev (l : List RegL) (hl : l.length ≤ 1048576) : Ev (fun k => laws_toRegionS.f k l) (l.map toReg_) := by
  have key := ev_copy0 (fun k acc i => laws_toRegionS.l0 k l acc (i : Int)) l.length (fun i => toReg_ (l.getD i z192)) id (by
    intro i acc hi ha r h
    refine Ev.step (fun k => ?_) h
    simp only [laws_toRegionS.l0]
    rw [if_pos (by omega), if_pos (by omega), rdGL]
    unfold laws_toRegion.f
    simp only [Option.bind_some]
    rw [if_pos (by omega), wrap_succ (by omega), toNat_cast]
    rfl) (by
    intro acc ha
    refine Ev.of_succ (fun k => ?_)
    simp only [laws_toRegionS.l0]
    rw [if_neg (by omega)]
    rfl) (List.replicate l.length z178) (by simp)
  rw [map_getD toReg_ l z192] at key
  refine Ev.congr (fun k => ?_) key
  unfold laws_toRegionS.f
  rw [if_pos (by omega), if_pos (by omega), toNat_cast]
  rfl
theorem eqRegionS_refl (l : List RegW) (hl : l.length ≤ 1048576) : Ev (fun k => laws_eqRegionS.f k l l) true := by
  have key := ev_all0 (fun k i => laws_eqRegionS.l0 k l l (i : Int)) l.length (fun _ => true) false true (by
    intro i hi _ r h
    refine Ev.step (fun k => ?_) h
    simp only [laws_eqRegionS.l0]
    rw [if_pos (by omega), if_pos (by omega), if_pos (by omega)]
    unfold laws_eqRegion.f
    simp only [if_true, Option.bind_some, bne_self_eq_false, Bool.false_eq_true, if_false]
    rw [wrap_succ (by omega)]) (by intro i _ h; cases h) (by
    refine Ev.of_succ (fun k => ?_)
    simp only [laws_eqRegionS.l0]
    rw [if_neg (by omega)])
  rw [if_pos (by simp)] at key
  refine Ev.congr (fun k => ?_) key
  unfold laws_eqRegionS.f
  rw [if_pos rfl]
  rfl
abbrev SlotW := S157
abbrev SlotL := S147
abbrev zsl : SlotL := z147
abbrev zsw : SlotW := z157
def toSlot (r : SlotL) : SlotW := ⟨r.f0, r.f1⟩
theorem rdSL (l : List SlotL) (i : Nat) : rd_T147 l (i : Int) = l.getD i zsl := by unfold rd_T147; rw [toNat_cast]
theorem rdSW (l : List SlotW) (i : Nat) : rd_T157 l (i : Int) = l.getD i zsw := by unfold rd_T157; rw [toNat_cast]
theorem szSlot_eq (s : SlotL) (hl : s.f1.length ≤ maxLen) (a : Int) (h0 : 0 ≤ a) (h1 : a ≤ 1048576) : laws_szSlot.f s.f0 s.f1 a = some (if (s.f1.length : Int) ≤ a then (a - (s.f1.length : Int) : Int) else (-1 : Int)) := by
  unfold laws_szSlot.f
  rw [szIntS_eq _ hl a h0 h1]
  simp only [Option.bind_some]
  by_cases h : (s.f1.length : Int) ≤ a
  · rw [if_pos h, if_neg (by omega)]
  · rw [if_neg h, if_pos (by omega)]
theorem mem_getD {α : Type} {l : List α} {i : Nat} (h : i < l.length) (d : α) : l.getD i d ∈ l := by
  rw [List.getD_eq_getElem?_getD, List.getElem?_eq_getElem h]; exact List.getElem_mem h
def SmallS (l : List SlotL) : Prop := l.length ≤ 1048576 ∧ ∀ x ∈ l, x.f1.length ≤ 1048576
theorem szSlotS_ev (l : List SlotL) (hl : l.length ≤ maxLen) (hls : ∀ x ∈ l, x.f1.length ≤ maxLen) :
    ∃ r, Ev (fun k => laws_szSlotS.f k l 1048576) r ∧ (0 ≤ r → SmallS l ∧ (l.length : Int) + ((l.map (fun s => s.f1.length)).sum : Nat) ≤ 1048576) := by
  by_cases hlen : (l.length : Int) ≤ 1048576
  · obtain ⟨r, hr, hq⟩ := ev_sz (fun k b i => laws_szSlotS.l0 k l b (i : Int)) l.length (fun i => (l.getD i zsl).f1.length) (by
      intro i b hi h0 h1 hs r h
      refine Ev.step (fun k => ?_) h
      simp only [laws_szSlotS.l0]
      rw [if_pos (by omega), if_pos (by omega), rdSL, szSlot_eq _ (hls _ (mem_getD hi _)) b h0 h1, if_pos hs]
      simp only [Option.bind_some]
      rw [if_neg (by omega), wrap_succ (by simp only [maxLen] at hl; omega)]) (by
      intro i b hi h0 h1 hs
      refine Ev.of_succ (fun k => ?_)
      simp only [laws_szSlotS.l0]
      rw [if_pos (by omega), if_pos (by omega), rdSL, szSlot_eq _ (hls _ (mem_getD hi _)) b h0 h1, if_neg hs]
      simp only [Option.bind_some]
      rw [if_pos (by omega)]) (by
      intro b
      refine Ev.of_succ (fun k => ?_)
      simp only [laws_szSlotS.l0]
      rw [if_neg (by omega)]) (1048576 - (l.length : Int)) (by omega) (by omega)
    refine ⟨r, Ev.congr (fun k => ?_) hr, fun h => ?_⟩
    · unfold laws_szSlotS.f
      rw [sub_len (by omega) (by omega) hl, if_neg (by omega)]
      rfl
    · have := hq h
      refine ⟨⟨by omega, fun x hx => ?_⟩, ?_⟩
      · obtain ⟨i, hi, rfl⟩ := List.getElem_of_mem hx
        have h5 := sum_ge (fun i => (l.getD i zsl).f1.length) hi
        simp only [List.getD_eq_getElem?_getD, List.getElem?_eq_getElem hi, Option.getD_some] at h5
        simp only [List.getD_eq_getElem?_getD] at this
        omega
      · rw [map_getD (fun s : SlotL => s.f1.length) l zsl] at this
        omega
  · refine ⟨-1, Ev.const (fun k => ?_), fun h => by omega⟩
    unfold laws_szSlotS.f
    rw [sub_len (by omega) (by omega) hl, if_pos (by omega)]
theorem SmallS.at_ {l : List SlotL} (h : SmallS l) (i : Nat) : (l.getD i zsl).f1.length ≤ 1048576 := by
  by_cases hi : i < l.length
  · exact h.2 _ (mem_getD hi _)
  · rw [List.getD_eq_getElem?_getD, List.getElem?_eq_none (by omega)]; decide
theorem toSlotS_ev (l : List SlotL) (hl : SmallS l) : Ev (fun k => laws_toSlotS.f k l) (l.map toSlot) := by
  have h1 := hl.1
  have key := ev_copy0 (fun k acc i => laws_toSlotS.l0 k l acc (i : Int)) l.length (fun i => toSlot (l.getD i zsl)) id (by
    intro i acc hi ha r h
    refine Ev.step (f := fun k => (laws_toIntS.f k (l.getD i zsl).f1).bind fun t => laws_toSlotS.l0 k l (acc.set i (⟨(l.getD i zsl).f0, t⟩ : SlotW)) ((i + 1 : Nat) : Int)) (fun k => ?_) (Ev.bind (toIntS_ev _ (hl.at_ i)) h)
    simp only [laws_toSlotS.l0]
    rw [if_pos (by omega), if_pos (by omega), rdSL]
    unfold laws_toSlot.f
    rw [Option.bind_assoc]
    congr 1
    funext t
    simp only [Option.bind_some]
    rw [if_pos (by omega), wrap_succ (by omega), toNat_cast]) (by
    intro acc ha
    refine Ev.of_succ (fun k => ?_)
    simp only [laws_toSlotS.l0]
    rw [if_neg (by omega)]
    rfl) (List.replicate l.length zsw) (by simp)
  rw [map_getD toSlot l zsl] at key
  refine Ev.congr (fun k => ?_) key
  unfold laws_toSlotS.f
  rw [if_pos (by omega), if_pos (by omega), toNat_cast]
  rfl
def SmallW (l : List SlotW) : Prop := l.length ≤ 1048576 ∧ ∀ x ∈ l, x.f1.length ≤ 1048576
theorem SmallS.toW {l : List SlotL} (h : SmallS l) : SmallW (l.map toSlot) := by
  refine ⟨by simpa using h.1, fun x hx => ?_⟩
  obtain ⟨y, hy, rfl⟩ := List.mem_map.1 hx
  exact h.2 y hy
theorem SmallW.at_ {l : List SlotW} (h : SmallW l) (i : Nat) : (l.getD i zsw).f1.length ≤ 1048576 := by
  by_cases hi : i < l.length
  · exact h.2 _ (mem_getD hi _)
  · rw [List.getD_eq_getElem?_getD, List.getElem?_eq_none (by omega)]; decide
theorem eqSlotS_refl (l : List SlotW) (hl : SmallW l) : Ev (fun k => laws_eqSlotS.f k l l) true := by
  have h1 := hl.1
  have key := ev_all0 (fun k i => laws_eqSlotS.l0 k l l (i : Int)) l.length (fun _ => true) false true (by
    intro i hi _ r h
    refine Ev.step (f := fun k => (laws_eqIntS.f k (l.getD i zsw).f1 (l.getD i zsw).f1).bind fun t => (if t = true then (some true) else (some false)).bind fun t => if t = true then laws_eqSlotS.l0 k l l ((i + 1 : Nat) : Int) else some false) (fun k => ?_) (Ev.bind (eqIntS_refl _ (hl.at_ i)) (by simp only [if_true, Option.bind_some]; exact h))
    simp only [laws_eqSlotS.l0]
    rw [if_pos (by omega), if_pos (by omega), if_pos (by omega), rdSW]
    unfold laws_eqSlot.f
    rw [if_pos rfl, Option.bind_assoc, wrap_succ (by omega)]) (by intro i _ h; cases h) (by
    refine Ev.of_succ (fun k => ?_)
    simp only [laws_eqSlotS.l0]
    rw [if_neg (by omega)])
  rw [if_pos (by simp)] at key
  refine Ev.congr (fun k => ?_) key
  unfold laws_eqSlotS.f
  rw [if_pos rfl]
  rfl
abbrev SpcW := S116
abbrev SpcL := S144
abbrev zpl : SpcL := z144
abbrev zpw : SpcW := z116
def toSpc (r : SpcL) : SpcW := ⟨r.f0, r.f1, r.f2.map toReg_⟩
theorem rdPL (l : List SpcL) (i : Nat) : rd_T144 l (i : Int) = l.getD i zpl := by unfold rd_T144; rw [toNat_cast]
theorem rdPW (l : List SpcW) (i : Nat) : rd_T116 l (i : Int) = l.getD i zpw := by unfold rd_T116; rw [toNat_cast]
def SmallP (l : List SpcL) : Prop := l.length ≤ 1048576 ∧ ∀ x ∈ l, x.f2.length ≤ 1048576
theorem SmallP.at_ {l : List SpcL} (h : SmallP l) (i : Nat) : (l.getD i zpl).f2.length ≤ 1048576 := by
  by_cases hi : i < l.length
  · exact h.2 _ (mem_getD hi _)
  · rw [List.getD_eq_getElem?_getD, List.getElem?_eq_none (by omega)]; decide
theorem toSpaceS_ev (l : List SpcL) (hl : SmallP l) : Ev (fun k => laws_toSpaceS.f k l) (l.map toSpc) := by
  have h1 := hl.1
  have key := ev_copy0 (fun k acc i => laws_toSpaceS.l0 k l acc (i : Int)) l.length (fun i => toSpc (l.getD i zpl)) id (by
    intro i acc hi ha r h
    refine Ev.step (f := fun k => (laws_toRegionS.f k (l.getD i zpl).f2).bind fun t => laws_toSpaceS.l0 k l (acc.set i (⟨(l.getD i zpl).f0, (l.getD i zpl).f1, t⟩ : SpcW)) ((i + 1 : Nat) : Int)) (fun k => ?_) (Ev.bind (toRegionS_ev _ (hl.at_ i)) h)
    simp only [laws_toSpaceS.l0]
    rw [if_pos (by omega), if_pos (by omega), rdPL]
    unfold laws_toSpace.f
    rw [Option.bind_assoc]
    congr 1
    funext t
    simp only [Option.bind_some]
    rw [if_pos (by omega), wrap_succ (by omega), toNat_cast]) (by
    intro acc ha
    refine Ev.of_succ (fun k => ?_)
    simp only [laws_toSpaceS.l0]
    rw [if_neg (by omega)]
    rfl) (List.replicate l.length zpw) (by simp)
  rw [map_getD toSpc l zpl] at key
  refine Ev.congr (fun k => ?_) key
  unfold laws_toSpaceS.f
  rw [if_pos (by omega), if_pos (by omega), toNat_cast]
  rfl
def SmallPw (l : List SpcW) : Prop := l.length ≤ 1048576 ∧ ∀ x ∈ l, x.f2.length ≤ 1048576
theorem SmallP.toW {l : List SpcL} (h : SmallP l) : SmallPw (l.map toSpc) := by
  refine ⟨by simpa using h.1, fun x hx => ?_⟩
  obtain ⟨y, hy, rfl⟩ := List.mem_map.1 hx
  show (y.f2.map toReg_).length ≤ _
  rw [List.length_map]
  exact h.2 y hy
theorem SmallPw.at_ {l : List SpcW} (h : SmallPw l) (i : Nat) : (l.getD i zpw).f2.length ≤ 1048576 := by
  by_cases hi : i < l.length
  · exact h.2 _ (mem_getD hi _)
  · rw [List.getD_eq_getElem?_getD, List.getElem?_eq_none (by omega)]; decide
theorem eqSpaceS_refl (l : List SpcW) (hl : SmallPw l) : Ev (fun k => laws_eqSpaceS.f k l l) true := by
  have h1 := hl.1
  have key := ev_all0 (fun k i => laws_eqSpaceS.l0 k l l (i : Int)) l.length (fun _ => true) false true (by
    intro i hi _ r h
    refine Ev.step (f := fun k => (laws_eqRegionS.f k (l.getD i zpw).f2 (l.getD i zpw).f2).bind fun t => (if t = true then (some true) else (some false)).bind fun t => if t = true then laws_eqSpaceS.l0 k l l ((i + 1 : Nat) : Int) else some false) (fun k => ?_) (Ev.bind (eqRegionS_refl _ (hl.at_ i)) (by simp only [if_true, Option.bind_some]; exact h))
    simp only [laws_eqSpaceS.l0]
    rw [if_pos (by omega), if_pos (by omega), if_pos (by omega), rdPW]
    unfold laws_eqSpace.f
    rw [if_neg (by simp), if_pos rfl, Option.bind_assoc, wrap_succ (by omega)]) (by intro i _ h; cases h) (by
    refine Ev.of_succ (fun k => ?_)
    simp only [laws_eqSpaceS.l0]
    rw [if_neg (by omega)])
  rw [if_pos (by simp)] at key
  refine Ev.congr (fun k => ?_) key
  unfold laws_eqSpaceS.f
  rw [if_pos rfl]
  rfl
theorem szIntS_a (l : List Int) (hl : l.length ≤ maxLen) (a : Int) (h0 : 0 ≤ a) (h1 : a ≤ 1048576) : laws_szIntS.f l a = some (if (l.length : Int) ≤ a then (a - (l.length : Int) : Int) else (-1 : Int)) := by
  unfold maxLen at hl
  unfold laws_szIntS.f
  have e : wrap64 (a - (l.length : Int)) = a - l.length := by unfold wrap64; omega
  rw [e]
  by_cases h : (l.length : Int) ≤ a
  · rw [if_neg (by omega), if_pos h]
  · rw [if_pos (by omega), if_neg h]
theorem szIntS_out (l : List Int) (hl : l.length ≤ maxLen) (a : Int) (h0 : 0 ≤ a) (h1 : a ≤ 1048576) : ∃ r, laws_szIntS.f l a = some r ∧ (0 ≤ r → l.length ≤ 1048576 ∧ r ≤ a) := by
  refine ⟨_, szIntS_a l hl a h0 h1, fun h => ?_⟩
  by_cases h2 : (l.length : Int) ≤ a
  · rw [if_pos h2] at h ⊢; omega
  · rw [if_neg h2] at h; omega
theorem szBoolS_a (l : List Bool) (hl : l.length ≤ maxLen) (a : Int) (h0 : 0 ≤ a) (h1 : a ≤ 1048576) : laws_szBoolS.f l a = some (if (l.length : Int) ≤ a then (a - (l.length : Int) : Int) else (-1 : Int)) := by
  unfold maxLen at hl
  unfold laws_szBoolS.f
  have e : wrap64 (a - (l.length : Int)) = a - l.length := by unfold wrap64; omega
  rw [e]
  by_cases h : (l.length : Int) ≤ a
  · rw [if_neg (by omega), if_pos h]
  · rw [if_pos (by omega), if_neg h]
theorem szBoolS_out (l : List Bool) (hl : l.length ≤ maxLen) (a : Int) (h0 : 0 ≤ a) (h1 : a ≤ 1048576) : ∃ r, laws_szBoolS.f l a = some r ∧ (0 ≤ r → l.length ≤ 1048576 ∧ r ≤ a) := by
  refine ⟨_, szBoolS_a l hl a h0 h1, fun h => ?_⟩
  by_cases h2 : (l.length : Int) ≤ a
  · rw [if_pos h2] at h ⊢; omega
  · rw [if_neg h2] at h; omega
theorem szRunS_a (l : List RunL) (hl : l.length ≤ maxLen) (a : Int) (h0 : 0 ≤ a) (h1 : a ≤ 1048576) : laws_szRunS.f l a = some (if (l.length : Int) ≤ a then (a - (l.length : Int) : Int) else (-1 : Int)) := by
  unfold maxLen at hl
  unfold laws_szRunS.f
  have e : wrap64 (a - (l.length : Int)) = a - l.length := by unfold wrap64; omega
  rw [e]
  by_cases h : (l.length : Int) ≤ a
  · rw [if_neg (by omega), if_pos h]
  · rw [if_pos (by omega), if_neg h]
theorem szRunS_out (l : List RunL) (hl : l.length ≤ maxLen) (a : Int) (h0 : 0 ≤ a) (h1 : a ≤ 1048576) : ∃ r, laws_szRunS.f l a = some r ∧ (0 ≤ r → l.length ≤ 1048576 ∧ r ≤ a) := by
  refine ⟨_, szRunS_a l hl a h0 h1, fun h => ?_⟩
  by_cases h2 : (l.length : Int) ≤ a
  · rw [if_pos h2] at h ⊢; omega
  · rw [if_neg h2] at h; omega
theorem szObjectS_a (l : List ObjL) (hl : l.length ≤ maxLen) (a : Int) (h0 : 0 ≤ a) (h1 : a ≤ 1048576) : laws_szObjectS.f l a = some (if (l.length : Int) ≤ a then (a - (l.length : Int) : Int) else (-1 : Int)) := by
  unfold maxLen at hl
  unfold laws_szObjectS.f
  have e : wrap64 (a - (l.length : Int)) = a - l.length := by unfold wrap64; omega
  rw [e]
  by_cases h : (l.length : Int) ≤ a
  · rw [if_neg (by omega), if_pos h]
  · rw [if_pos (by omega), if_neg h]
theorem szObjectS_out (l : List ObjL) (hl : l.length ≤ maxLen) (a : Int) (h0 : 0 ≤ a) (h1 : a ≤ 1048576) : ∃ r, laws_szObjectS.f l a = some r ∧ (0 ≤ r → l.length ≤ 1048576 ∧ r ≤ a) := by
  refine ⟨_, szObjectS_a l hl a h0 h1, fun h => ?_⟩
  by_cases h2 : (l.length : Int) ≤ a
  · rw [if_pos h2] at h ⊢; omega
  · rw [if_neg h2] at h; omega
theorem szRegionS_a (l : List RegL) (hl : l.length ≤ maxLen) (a : Int) (h0 : 0 ≤ a) (h1 : a ≤ 1048576) : laws_szRegionS.f l a = some (if (l.length : Int) ≤ a then (a - (l.length : Int) : Int) else (-1 : Int)) := by
  unfold maxLen at hl
  unfold laws_szRegionS.f
  have e : wrap64 (a - (l.length : Int)) = a - l.length := by unfold wrap64; omega
  rw [e]
  by_cases h : (l.length : Int) ≤ a
  · rw [if_neg (by omega), if_pos h]
  · rw [if_pos (by omega), if_neg h]
theorem szRegionS_out (l : List RegL) (hl : l.length ≤ maxLen) (a : Int) (h0 : 0 ≤ a) (h1 : a ≤ 1048576) : ∃ r, laws_szRegionS.f l a = some r ∧ (0 ≤ r → l.length ≤ 1048576 ∧ r ≤ a) := by
  refine ⟨_, szRegionS_a l hl a h0 h1, fun h => ?_⟩
  by_cases h2 : (l.length : Int) ≤ a
  · rw [if_pos h2] at h ⊢; omega
  · rw [if_neg h2] at h; omega
theorem szSlab_a (s : SlabL) (hl : s.f2.length ≤ maxLen) (a : Int) (h0 : 0 ≤ a) (h1 : a ≤ 1048576) : laws_szSlab.f s.f0 s.f1 s.f2 a = some (if (s.f2.length : Int) ≤ a then (a - (s.f2.length : Int) : Int) else (-1 : Int)) := by
  unfold laws_szSlab.f
  rw [szBoolS_a _ hl a h0 h1]
  simp only [Option.bind_some]
  by_cases h : (s.f2.length : Int) ≤ a
  · rw [if_pos h, if_neg (by omega)]
  · rw [if_neg h, if_pos (by omega)]
theorem szSlabS_out (l : List SlabL) (hl : l.length ≤ maxLen) (hls : ∀ x ∈ l, x.f2.length ≤ maxLen) (a : Int) (ha0 : 0 ≤ a) (ha1 : a ≤ 1048576) :
    ∃ r, Ev (fun k => laws_szSlabS.f k l a) r ∧ (0 ≤ r → SmallSl l ∧ r ≤ a) := by
  by_cases hlen : (l.length : Int) ≤ a
  · obtain ⟨r, hr, hq⟩ := ev_sz (fun k b i => laws_szSlabS.l0 k l b (i : Int)) l.length (fun i => (l.getD i zbl).f2.length) (by
      intro i b hi h0 h1 hs r h
      refine Ev.step (fun k => ?_) h
      simp only [laws_szSlabS.l0]
      rw [if_pos (by omega), if_pos (by omega), rdBL, szSlab_a _ (hls _ (mem_getD hi _)) b h0 h1, if_pos hs]
      simp only [Option.bind_some]
      rw [if_neg (by omega), wrap_succ (by simp only [maxLen] at hl; omega)]) (by
      intro i b hi h0 h1 hs
      refine Ev.of_succ (fun k => ?_)
      simp only [laws_szSlabS.l0]
      rw [if_pos (by omega), if_pos (by omega), rdBL, szSlab_a _ (hls _ (mem_getD hi _)) b h0 h1, if_neg hs]
      simp only [Option.bind_some]
      rw [if_pos (by omega)]) (by
      intro b
      refine Ev.of_succ (fun k => ?_)
      simp only [laws_szSlabS.l0]
      rw [if_neg (by omega)]) (a - (l.length : Int)) (by omega) (by omega)
    refine ⟨r, Ev.congr (fun k => ?_) hr, fun h => ?_⟩
    · unfold laws_szSlabS.f
      rw [sub_len (by omega) (by omega) hl, if_neg (by omega)]
      rfl
    · have := hq h
      refine ⟨⟨by omega, fun x hx => ?_⟩, by omega⟩
      obtain ⟨i, hi, rfl⟩ := List.getElem_of_mem hx
      have h5 := sum_ge (fun i => (l.getD i zbl).f2.length) hi
      simp only [List.getD_eq_getElem?_getD, List.getElem?_eq_getElem hi, Option.getD_some] at h5
      simp only [List.getD_eq_getElem?_getD] at this
      omega
  · refine ⟨-1, Ev.const (fun k => ?_), fun h => by omega⟩
    unfold laws_szSlabS.f
    rw [sub_len (by omega) (by omega) hl, if_pos (by omega)]
theorem szSlot_a (s : SlotL) (hl : s.f1.length ≤ maxLen) (a : Int) (h0 : 0 ≤ a) (h1 : a ≤ 1048576) : laws_szSlot.f s.f0 s.f1 a = some (if (s.f1.length : Int) ≤ a then (a - (s.f1.length : Int) : Int) else (-1 : Int)) := by
  unfold laws_szSlot.f
  rw [szIntS_a _ hl a h0 h1]
  simp only [Option.bind_some]
  by_cases h : (s.f1.length : Int) ≤ a
  · rw [if_pos h, if_neg (by omega)]
  · rw [if_neg h, if_pos (by omega)]
theorem szSlotS_out (l : List SlotL) (hl : l.length ≤ maxLen) (hls : ∀ x ∈ l, x.f1.length ≤ maxLen) (a : Int) (ha0 : 0 ≤ a) (ha1 : a ≤ 1048576) :
    ∃ r, Ev (fun k => laws_szSlotS.f k l a) r ∧ (0 ≤ r → SmallS l ∧ r ≤ a) := by
  by_cases hlen : (l.length : Int) ≤ a
  · obtain ⟨r, hr, hq⟩ := ev_sz (fun k b i => laws_szSlotS.l0 k l b (i : Int)) l.length (fun i => (l.getD i zsl).f1.length) (by
      intro i b hi h0 h1 hs r h
      refine Ev.step (fun k => ?_) h
      simp only [laws_szSlotS.l0]
      rw [if_pos (by omega), if_pos (by omega), rdSL, szSlot_a _ (hls _ (mem_getD hi _)) b h0 h1, if_pos hs]
      simp only [Option.bind_some]
      rw [if_neg (by omega), wrap_succ (by simp only [maxLen] at hl; omega)]) (by
      intro i b hi h0 h1 hs
      refine Ev.of_succ (fun k => ?_)
      simp only [laws_szSlotS.l0]
      rw [if_pos (by omega), if_pos (by omega), rdSL, szSlot_a _ (hls _ (mem_getD hi _)) b h0 h1, if_neg hs]
      simp only [Option.bind_some]
      rw [if_pos (by omega)]) (by
      intro b
      refine Ev.of_succ (fun k => ?_)
      simp only [laws_szSlotS.l0]
      rw [if_neg (by omega)]) (a - (l.length : Int)) (by omega) (by omega)
    refine ⟨r, Ev.congr (fun k => ?_) hr, fun h => ?_⟩
    · unfold laws_szSlotS.f
      rw [sub_len (by omega) (by omega) hl, if_neg (by omega)]
      rfl
    · have := hq h
      refine ⟨⟨by omega, fun x hx => ?_⟩, by omega⟩
      obtain ⟨i, hi, rfl⟩ := List.getElem_of_mem hx
      have h5 := sum_ge (fun i => (l.getD i zsl).f1.length) hi
      simp only [List.getD_eq_getElem?_getD, List.getElem?_eq_getElem hi, Option.getD_some] at h5
      simp only [List.getD_eq_getElem?_getD] at this
      omega
  · refine ⟨-1, Ev.const (fun k => ?_), fun h => by omega⟩
    unfold laws_szSlotS.f
    rw [sub_len (by omega) (by omega) hl, if_pos (by omega)]
theorem szSpace_a (s : SpcL) (hl : s.f2.length ≤ maxLen) (a : Int) (h0 : 0 ≤ a) (h1 : a ≤ 1048576) : laws_szSpace.f s.f0 s.f1 s.f2 a = some (if (s.f2.length : Int) ≤ a then (a - (s.f2.length : Int) : Int) else (-1 : Int)) := by
  unfold laws_szSpace.f
  rw [szRegionS_a _ hl a h0 h1]
  simp only [Option.bind_some]
  by_cases h : (s.f2.length : Int) ≤ a
  · rw [if_pos h, if_neg (by omega)]
  · rw [if_neg h, if_pos (by omega)]
theorem szSpaceS_out (l : List SpcL) (hl : l.length ≤ maxLen) (hls : ∀ x ∈ l, x.f2.length ≤ maxLen) (a : Int) (ha0 : 0 ≤ a) (ha1 : a ≤ 1048576) :
    ∃ r, Ev (fun k => laws_szSpaceS.f k l a) r ∧ (0 ≤ r → SmallP l ∧ r ≤ a) := by
  by_cases hlen : (l.length : Int) ≤ a
  · obtain ⟨r, hr, hq⟩ := ev_sz (fun k b i => laws_szSpaceS.l0 k l b (i : Int)) l.length (fun i => (l.getD i zpl).f2.length) (by
      intro i b hi h0 h1 hs r h
      refine Ev.step (fun k => ?_) h
      simp only [laws_szSpaceS.l0]
      rw [if_pos (by omega), if_pos (by omega), rdPL, szSpace_a _ (hls _ (mem_getD hi _)) b h0 h1, if_pos hs]
      simp only [Option.bind_some]
      rw [if_neg (by omega), wrap_succ (by simp only [maxLen] at hl; omega)]) (by
      intro i b hi h0 h1 hs
      refine Ev.of_succ (fun k => ?_)
      simp only [laws_szSpaceS.l0]
      rw [if_pos (by omega), if_pos (by omega), rdPL, szSpace_a _ (hls _ (mem_getD hi _)) b h0 h1, if_neg hs]
      simp only [Option.bind_some]
      rw [if_pos (by omega)]) (by
      intro b
      refine Ev.of_succ (fun k => ?_)
      simp only [laws_szSpaceS.l0]
      rw [if_neg (by omega)]) (a - (l.length : Int)) (by omega) (by omega)
    refine ⟨r, Ev.congr (fun k => ?_) hr, fun h => ?_⟩
    · unfold laws_szSpaceS.f
      rw [sub_len (by omega) (by omega) hl, if_neg (by omega)]
      rfl
    · have := hq h
      refine ⟨⟨by omega, fun x hx => ?_⟩, by omega⟩
      obtain ⟨i, hi, rfl⟩ := List.getElem_of_mem hx
      have h5 := sum_ge (fun i => (l.getD i zpl).f2.length) hi
      simp only [List.getD_eq_getElem?_getD, List.getElem?_eq_getElem hi, Option.getD_some] at h5
      simp only [List.getD_eq_getElem?_getD] at this
      omega
  · refine ⟨-1, Ev.const (fun k => ?_), fun h => by omega⟩
    unfold laws_szSpaceS.f
    rw [sub_len (by omega) (by omega) hl, if_pos (by omega)]
theorem szIntSS_out (l : List (List Int)) (hl : l.length ≤ maxLen) (hls : ∀ x ∈ l, x.length ≤ maxLen) (a : Int) (h0 : 0 ≤ a) (h1 : a ≤ 1048576) : ∃ r, Ev (fun k => laws_szIntSS.f k l a) r ∧ (0 ≤ r → Small l ∧ r ≤ a) := by
  obtain ⟨r, hr, hq⟩ := szIntSS_ev l hl hls a h0 h1
  exact ⟨r, hr, fun h => ⟨Small.of_sum (by have := hq h; omega), by have := hq h; omega⟩⟩
structure SmallM (l0 : List (List Int)) (l1 : List Int) (l2 : List RunL) (l3 : List SlabL) (l4 : List ObjL) (l6 : List SpcL) (l7 : List SlotL) (l8 l9 : List Int) : Prop where
  s0 : Small l0
  s1 : l1.length ≤ 1048576
  s2 : l2.length ≤ 1048576
  s3 : SmallSl l3
  s4 : l4.length ≤ 1048576
  s6 : SmallP l6
  s7 : SmallS l7
  s8 : l8.length ≤ 1048576
  s9 : l9.length ≤ 1048576
theorem szMachine_out (l0 : List (List Int)) (l1 : List Int) (l2 : List RunL) (l3 : List SlabL) (l4 : List ObjL) (n : Int) (l6 : List SpcL) (l7 : List SlotL) (l8 l9 : List Int)
    (h0 : l0.length ≤ maxLen ∧ ∀ x ∈ l0, x.length ≤ maxLen) (h1 : l1.length ≤ maxLen) (h2 : l2.length ≤ maxLen) (h3 : l3.length ≤ maxLen ∧ ∀ x ∈ l3, x.f2.length ≤ maxLen) (h4 : l4.length ≤ maxLen) (h6 : l6.length ≤ maxLen ∧ ∀ x ∈ l6, x.f2.length ≤ maxLen) (h7 : l7.length ≤ maxLen ∧ ∀ x ∈ l7, x.f1.length ≤ maxLen) (h8 : l8.length ≤ maxLen) (h9 : l9.length ≤ maxLen) :
    ∃ r, Ev (fun k => laws_szMachine.f k l0 l1 l2 l3 l4 n l6 l7 l8 l9 1048576) r ∧ (0 ≤ r → SmallM l0 l1 l2 l3 l4 l6 l7 l8 l9) := by
  unfold laws_szMachine.f
  obtain ⟨a0, e0, p0⟩ := szIntSS_out l0 h0.1 h0.2 1048576 (by omega) (by omega)
  by_cases q0 : a0 < 0
  · exact ⟨-1, Ev.bind e0 (by simp only [if_pos q0]; exact Ev.now _), fun h => by omega⟩
  have p0 := p0 (by omega)
  obtain ⟨a1, e1, p1⟩ := szIntS_out l1 h1 a0 (by omega) (by omega)
  by_cases q1 : a1 < 0
  · exact ⟨-1, Ev.bind e0 (by simp only [if_neg q0, e1, Option.bind_some, if_pos q1]; exact Ev.now _), fun h => by omega⟩
  have p1 := p1 (by omega)
  obtain ⟨a2, e2, p2⟩ := szRunS_out l2 h2 a1 (by omega) (by omega)
  by_cases q2 : a2 < 0
  · exact ⟨-1, Ev.bind e0 (by simp only [if_neg q0, e1, Option.bind_some, if_neg q1, e2, if_pos q2]; exact Ev.now _), fun h => by omega⟩
  have p2 := p2 (by omega)
  obtain ⟨a3, e3, p3⟩ := szSlabS_out l3 h3.1 h3.2 a2 (by omega) (by omega)
  by_cases q3 : a3 < 0
  · exact ⟨-1, Ev.bind e0 (by simp only [if_neg q0, e1, Option.bind_some, if_neg q1, e2, if_neg q2]; exact Ev.bind e3 (by simp only [if_pos q3]; exact Ev.now _)), fun h => by omega⟩
  have p3 := p3 (by omega)
  obtain ⟨a4, e4, p4⟩ := szObjectS_out l4 h4 a3 (by omega) (by omega)
  by_cases q4 : a4 < 0
  · exact ⟨-1, Ev.bind e0 (by simp only [if_neg q0, e1, Option.bind_some, if_neg q1, e2, if_neg q2]; exact Ev.bind e3 (by simp only [if_neg q3, e4, Option.bind_some, if_pos q4]; exact Ev.now _)), fun h => by omega⟩
  have p4 := p4 (by omega)
  obtain ⟨a6, e6, p6⟩ := szSpaceS_out l6 h6.1 h6.2 a4 (by omega) (by omega)
  by_cases q6 : a6 < 0
  · exact ⟨-1, Ev.bind e0 (by simp only [if_neg q0, e1, Option.bind_some, if_neg q1, e2, if_neg q2]; exact Ev.bind e3 (by simp only [if_neg q3, e4, Option.bind_some, if_neg q4]; exact Ev.bind e6 (by simp only [if_pos q6]; exact Ev.now _))), fun h => by omega⟩
  have p6 := p6 (by omega)
  obtain ⟨a7, e7, p7⟩ := szSlotS_out l7 h7.1 h7.2 a6 (by omega) (by omega)
  by_cases q7 : a7 < 0
  · exact ⟨-1, Ev.bind e0 (by simp only [if_neg q0, e1, Option.bind_some, if_neg q1, e2, if_neg q2]; exact Ev.bind e3 (by simp only [if_neg q3, e4, Option.bind_some, if_neg q4]; exact Ev.bind e6 (by simp only [if_neg q6]; exact Ev.bind e7 (by simp only [if_pos q7]; exact Ev.now _)))), fun h => by omega⟩
  have p7 := p7 (by omega)
  obtain ⟨a8, e8, p8⟩ := szIntS_out l8 h8 a7 (by omega) (by omega)
  by_cases q8 : a8 < 0
  · exact ⟨-1, Ev.bind e0 (by simp only [if_neg q0, e1, Option.bind_some, if_neg q1, e2, if_neg q2]; exact Ev.bind e3 (by simp only [if_neg q3, e4, Option.bind_some, if_neg q4]; exact Ev.bind e6 (by simp only [if_neg q6]; exact Ev.bind e7 (by simp only [if_neg q7, e8, Option.bind_some, if_pos q8]; exact Ev.now _)))), fun h => by omega⟩
  have p8 := p8 (by omega)
  obtain ⟨a9, e9, p9⟩ := szIntS_out l9 h9 a8 (by omega) (by omega)
  by_cases q9 : a9 < 0
  · exact ⟨-1, Ev.bind e0 (by simp only [if_neg q0, e1, Option.bind_some, if_neg q1, e2, if_neg q2]; exact Ev.bind e3 (by simp only [if_neg q3, e4, Option.bind_some, if_neg q4]; exact Ev.bind e6 (by simp only [if_neg q6]; exact Ev.bind e7 (by simp only [if_neg q7, e8, Option.bind_some, if_neg q8, e9, if_pos q9]; exact Ev.now _)))), fun h => by omega⟩
  have p9 := p9 (by omega)
  exact ⟨a9, Ev.bind e0 (by simp only [if_neg q0, e1, Option.bind_some, if_neg q1, e2, if_neg q2]; exact Ev.bind e3 (by simp only [if_neg q3, e4, Option.bind_some, if_neg q4]; exact Ev.bind e6 (by simp only [if_neg q6]; exact Ev.bind e7 (by simp only [if_neg q7, e8, Option.bind_some, if_neg q8, e9, if_neg q9]; exact Ev.now _)))), fun _ => ⟨p0.1, p1.1, p2.1, p3.1, p4.1, p6.1, p7.1, p8.1, p9.1⟩⟩
section machine
variable {l0 : List (List Int)} {l1 : List Int} {l2 : List RunL} {l3 : List SlabL} {l4 : List ObjL} {l6 : List SpcL} {l7 : List SlotL} {l8 l9 : List Int}
theorem toMachine_ev (h : SmallM l0 l1 l2 l3 l4 l6 l7 l8 l9) (n : Int) : Ev (fun k => laws_toMachine.f k l0 l1 l2 l3 l4 n l6 l7 l8 l9) (l0, l1, l2.map toRun, l3.map toSlab, l4.map toObj, n, l6.map toSpc, l7.map toSlot, l8, l9) := by
  unfold laws_toMachine.f
  refine Ev.bind (toIntSS_ev l0 h.s0) (Ev.bind (toIntS_ev l1 h.s1) (Ev.bind (toRunS_ev l2 h.s2) (Ev.bind (toSlabS_ev l3 h.s3) (Ev.bind (toObjectS_ev l4 h.s4) (Ev.bind (toSpaceS_ev l6 h.s6) (Ev.bind (toSlotS_ev l7 h.s7) (Ev.bind (toIntS_ev l8 h.s8) (Ev.bind (toIntS_ev l9 h.s9) (Ev.now _)))))))))
theorem eqMachine_ev (h : SmallM l0 l1 l2 l3 l4 l6 l7 l8 l9) (n : Int) : Ev (fun k => laws_eqMachine.f k l0 l1 (l2.map toRun) (l3.map toSlab) (l4.map toObj) n (l6.map toSpc) (l7.map toSlot) l8 l9 l0 l1 (l2.map toRun) (l3.map toSlab) (l4.map toObj) n (l6.map toSpc) (l7.map toSlot) l8 l9) true := by
  unfold laws_eqMachine.f
  refine Ev.bind (eqIntSS_refl l0 h.s0) ?_
  simp only [if_true]
  refine Ev.bind (eqIntS_refl l1 h.s1) ?_
  simp only [if_true]
  refine Ev.bind (eqRunS_refl _ (by rw [List.length_map]; exact h.s2)) ?_
  simp only [if_true]
  refine Ev.bind (eqSlabS_refl _ h.s3.toW) ?_
  simp only [if_true]
  refine Ev.bind (eqObjectS_refl _ (by rw [List.length_map]; exact h.s4)) ?_
  simp only [if_true]
  refine Ev.bind (eqSpaceS_refl _ h.s6.toW) ?_
  simp only [if_true]
  refine Ev.bind (eqSlotS_refl _ h.s7.toW) ?_
  simp only [if_true]
  refine Ev.bind (eqIntS_refl l8 h.s8) ?_
  simp only [if_true]
  refine Ev.bind (eqIntS_refl l9 h.s9) ?_
  simp only [if_true]
  exact Ev.now true
end machine

def hav (a : Int) (l : List Int) (n : Nat) : List Int := ((List.range n).filter (fun i => l.getD i 0 == a)).map (fun i : Nat => (i : Int))
theorem hav_succ (a : Int) (l : List Int) (n : Nat) : hav a l (n + 1) = if l.getD n 0 = a then hav a l n ++ [(n : Int)] else hav a l n := by
  unfold hav
  rw [List.range_succ, List.filter_append, List.map_append]
  by_cases h : l.getD n 0 = a
  · have hb : (l.getD n 0 == a) = true := beq_iff_eq.2 h
    simp only [if_pos h, List.filter_cons, hb, if_true, List.filter_nil, List.map_cons, List.map_nil]
  · have hb : (l.getD n 0 == a) = false := beq_eq_false_iff_ne.2 h
    simp only [if_neg h, List.filter_cons, hb, Bool.false_eq_true, if_false, List.filter_nil, List.map_nil, List.append_nil]
theorem hav_len (a : Int) (l : List Int) (n : Nat) : (hav a l n).length ≤ n := by
  induction n with
  | zero => exact Nat.le_refl _
  | succ n ih =>
    rw [hav_succ]
    split
    · simp only [List.length_append, List.length_cons, List.length_nil]; omega
    · omega
theorem rdN_ (r : List Int) (i : Nat) : rd r (i : Int) = r.getD i 0 := by unfold rd; rw [toNat_cast]
theorem count_spec (l0 : List (List Int)) (l1 : List Int) (l2 : List RunW) (l3 : List SlabW) (l4 : List ObjW) (n : Int) (l6 : List SpcW) (l7 : List SlotW) (l8 l9 : List Int) (hl : l1.length ≤ 1048576) (a : Int) : Ev (fun k => spec_CountOf.f k l0 l1 l2 l3 l4 n l6 l7 l8 l9 a) ((hav a l1 l1.length).length : Int) := by
  have key : ∀ (d i : Nat), i + d = l1.length → Ev (fun k => spec_l08Having.l0 k a (hav a l1 i) (i : Int) l0 l1 l2 l3 l4 n l6 l7 l8 l9) (hav a l1 l1.length) := by
    intro d
    induction d with
    | zero =>
      intro i hi
      obtain rfl : i = l1.length := by omega
      refine Ev.of_succ (fun k => ?_)
      simp only [spec_l08Having.l0]
      rw [if_neg (by omega)]
    | succ d ih =>
      intro i hi
      have h := ih (i + 1) (by omega)
      rw [hav_succ] at h
      have hb := hav_len a l1 i
      refine Ev.step (fun k => ?_) h
      simp only [spec_l08Having.l0]
      rw [if_pos (by omega), if_pos (by omega), rdN_, wrap_succ (by omega)]
      by_cases e : l1.getD i 0 = a
      · rw [if_pos e, if_pos e, if_pos (by omega)]
      · rw [if_neg e, if_neg e]
  unfold spec_CountOf.f spec_l08Having.f
  exact Ev.bind (key l1.length 0 (by omega)) (Ev.now _)
theorem count_impl (l0 : List (List Int)) (l1 : List Int) (l2 : List RunW) (l3 : List SlabW) (l4 : List ObjW) (n : Int) (l6 : List SpcW) (l7 : List SlotW) (l8 l9 : List Int) (hl : l1.length ≤ 1048576) (a : Int) : Ev (fun k => impl_CountOf.f k l0 l1 l2 l3 l4 n l6 l7 l8 l9 a) ((hav a l1 l1.length).length : Int) := by
  have key : ∀ (d i : Nat), i + d = l1.length → Ev (fun k => impl_Machine_framesIn.l0 k a (hav a l1 i) l1 (l1.length : Int) (i : Int) l0 l1 l2 l3 l4 n l6 l7 l8 l9) (hav a l1 l1.length, n) := by
    intro d
    induction d with
    | zero =>
      intro i hi
      obtain rfl : i = l1.length := by omega
      refine Ev.of_succ (fun k => ?_)
      simp only [impl_Machine_framesIn.l0]
      rw [if_neg (by omega)]
    | succ d ih =>
      intro i hi
      have h := ih (i + 1) (by omega)
      rw [hav_succ] at h
      have hb := hav_len a l1 i
      refine Ev.step (fun k => ?_) h
      simp only [impl_Machine_framesIn.l0]
      rw [if_pos (by omega), if_pos (by omega), if_pos (by omega), rdN_, wrap_succ (by omega)]
      by_cases e : l1.getD i 0 = a
      · rw [if_pos e, if_pos e, if_pos (by omega)]
      · rw [if_neg e, if_neg e]
  unfold impl_CountOf.f impl_Machine_framesIn.f
  exact Ev.bind (key l1.length 0 (by omega)) (Ev.now _)
theorem FnExactCountOf (x0 : List (List Int) × List Int × List S151 × List S74 × List S155 × Int × List S144 × List S147 × List Int × List Int) (g0 : (x0.1.length ≤ maxLen ∧ ∀ y0 ∈ x0.1, (y0.length ≤ maxLen ∧ ∀ y1 ∈ y0, (Lit.int .i64 y1).wf = true)) ∧ (x0.2.1.length ≤ maxLen ∧ ∀ y0 ∈ x0.2.1, (Lit.int .i64 y0).wf = true) ∧ (x0.2.2.1.length ≤ maxLen ∧ ∀ y0 ∈ x0.2.2.1, ((Lit.int .i64 y0.f0).wf = true ∧ (Lit.int .i64 y0.f1).wf = true)) ∧ (x0.2.2.2.1.length ≤ maxLen ∧ ∀ y0 ∈ x0.2.2.2.1, ((Lit.int .i64 y0.f0).wf = true ∧ (Lit.int .i64 y0.f1).wf = true ∧ (y0.f2.length ≤ maxLen ∧ ∀ y1 ∈ y0.f2, True))) ∧ (x0.2.2.2.2.1.length ≤ maxLen ∧ ∀ y0 ∈ x0.2.2.2.2.1, ((Lit.int .i64 y0.f0).wf = true ∧ (Lit.int .i64 y0.f1).wf = true ∧ (Lit.int .i64 y0.f2).wf = true ∧ (Lit.int .i64 y0.f3).wf = true ∧ (Lit.int .i64 y0.f4).wf = true)) ∧ (Lit.int .i64 x0.2.2.2.2.2.1).wf = true ∧ (x0.2.2.2.2.2.2.1.length ≤ maxLen ∧ ∀ y0 ∈ x0.2.2.2.2.2.2.1, (True ∧ (Lit.int .i64 y0.f1).wf = true ∧ (y0.f2.length ≤ maxLen ∧ ∀ y1 ∈ y0.f2, ((Lit.int .i64 y1.f0).wf = true ∧ (Lit.int .i64 y1.f1).wf = true ∧ True)))) ∧ (x0.2.2.2.2.2.2.2.1.length ≤ maxLen ∧ ∀ y0 ∈ x0.2.2.2.2.2.2.2.1, ((Lit.int .i64 y0.f0).wf = true ∧ (y0.f1.length ≤ maxLen ∧ ∀ y1 ∈ y0.f1, (Lit.int .i64 y1).wf = true))) ∧ (x0.2.2.2.2.2.2.2.2.1.length ≤ maxLen ∧ ∀ y0 ∈ x0.2.2.2.2.2.2.2.2.1, (Lit.int .i64 y0).wf = true) ∧ (x0.2.2.2.2.2.2.2.2.2.length ≤ maxLen ∧ ∀ y0 ∈ x0.2.2.2.2.2.2.2.2.2, (Lit.int .i64 y0).wf = true)) (a1 : Int) (_w1 : (Lit.int .i64 a1).wf = true) : ∃ k, laws_FnExactCountOf.f k (x0.1) (x0.2.1) (x0.2.2.1) (x0.2.2.2.1) (x0.2.2.2.2.1) (x0.2.2.2.2.2.1) (x0.2.2.2.2.2.2.1) (x0.2.2.2.2.2.2.2.1) (x0.2.2.2.2.2.2.2.2.1) (x0.2.2.2.2.2.2.2.2.2) a1 = some true := by
  obtain ⟨l0, l1, l2, l3, l4, n, l6, l7, l8, l9⟩ := x0
  obtain ⟨z0, z1, z2, z3, z4, z5, z6, z7, z8, z9⟩ := g0
  suffices h : Ev (fun k => laws_FnExactCountOf.f k l0 l1 l2 l3 l4 n l6 l7 l8 l9 a1) true by
    obtain ⟨m, hm⟩ := h; exact ⟨m, hm m (Nat.le_refl m)⟩
  obtain ⟨r, hr, hq⟩ := szMachine_out l0 l1 l2 l3 l4 n l6 l7 l8 l9 ⟨z0.1, fun x hx => (z0.2 x hx).1⟩ z1.1 z2.1 ⟨z3.1, fun x hx => (z3.2 x hx).2.2.1⟩ z4.1 ⟨z6.1, fun x hx => (z6.2 x hx).2.2.1⟩ ⟨z7.1, fun x hx => (z7.2 x hx).2.1⟩ z8.1 z9.1
  unfold laws_FnExactCountOf.f
  refine Ev.bind hr ?_
  by_cases h0 : r < 0
  · simp only [if_pos h0]; exact Ev.now true
  · simp only [if_neg h0]
    have hs := hq (by omega)
    have ht := toMachine_ev hs n
    refine Ev.bind ht (Ev.bind (count_spec _ _ _ _ _ _ _ _ _ _ hs.s1 a1) (Ev.bind ht (Ev.bind (count_impl _ _ _ _ _ _ _ _ _ _ hs.s1 a1) ?_)))
    simp only [if_true]
    refine Ev.bind ht (Ev.bind (eqMachine_ev hs n) ?_)
    simp only [if_true]
    exact Ev.now true

end Go.Proofs.Ytbkahdpmpmalhaa.Pure
end
