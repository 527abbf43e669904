-- Printed by a program of this session's (wip/myprint.py), over the kit's printer, with texts of this session's own among it. Lean checks it.
import Derived.Test.YtpkhoanaifpopaaP0
import Derived.Test.YtpkhoanaifpopaaP3
import Derived.Test.YtpkhoanaifpopaaP66
namespace Go.Proofs.Ytpkhoanaifpopaa.P
open Go.RowKit Go.Proofs.YtpkhoanaifpopaaW.PrintWords Go.Proofs.YtpkhoanaifpopaaW.PrintLast Go.Proofs.YtpkhoanaifpopaaW.PrintMore
attribute [local go_sem] max2_int min2_int max_two min_two max_three min_three max_four min_four   -- for this text's walks alone
set_option linter.unusedVariables false
set_option linter.unusedSimpArgs false

/-! ### spec_SlotsOk: function 40 -/
def spec_SlotsOk.l0 : Nat → List (S113) → Int → Option (Bool)
  | 0, _, _ => none
  | k + 1, x0, x3 => if x3 < (x0.length : Int) then (if 0 ≤ x3 then ((spec_l01In.f ((rd_T113 x0 x3).f0) 0 64).bind fun t429 => (if t429 = true then (if ((rd_T113 x0 x3).f0) = 0 then (if (((rd_T113 x0 x3).f1).length : Int) > 0 then (some false) else (if ((rd_T113 x0 x3).f0) > 0 then ((spec_l07Words.f k ((rd_T113 x0 x3).f1)).bind fun t434 => (if t434 = true then (spec_SlotsOk.l0 k x0 (wrap64 (x3 + 1))) else (some false))) else (spec_SlotsOk.l0 k x0 (wrap64 (x3 + 1))))) else (if ((rd_T113 x0 x3).f0) > 0 then ((spec_l07Words.f k ((rd_T113 x0 x3).f1)).bind fun t437 => (if t437 = true then (spec_SlotsOk.l0 k x0 (wrap64 (x3 + 1))) else (some false))) else (spec_SlotsOk.l0 k x0 (wrap64 (x3 + 1))))) else (some false))) else (none)) else (some true)
def spec_SlotsOk.f (k : Nat) (l0 : List (S113)) : Option (Bool) := if (l0.length : Int) > 16 then (some false) else (spec_SlotsOk.l0 k l0 0)
theorem spec_SlotsOk.mono_l : ∀ k, (∀ y0 y1, LeO (spec_SlotsOk.l0 k y0 y1) (spec_SlotsOk.l0 (k + 1) y0 y1))
  | 0 => fun _ _ r h => by simp [spec_SlotsOk.l0] at h
  | k + 1 => by
    have ih0 := spec_SlotsOk.mono_l k
    · intro y0 y1
      unfold spec_SlotsOk.l0
      repeat' first
      | (with_reducible exact ih0 _ _)
      | (with_reducible exact spec_l07Words.mono _ _)
      | (with_reducible exact LeO.refl _)
      | (with_reducible exact LeO.none _)
      | (with_reducible refine LeO.ite ?_ ?_)
      | (with_reducible refine LeO.bind ?_ (fun _ => ?_))
      | exact ih0 _ _
      | exact spec_l07Words.mono _ _
      | exact LeO.none _
      | refine LeO.ite ?_ ?_
      | refine LeO.bind ?_ (fun _ => ?_)
theorem spec_SlotsOk.mono : ∀ a0 k, LeO (spec_SlotsOk.f k a0) (spec_SlotsOk.f (k + 1) a0) := by
  intro a0 k
  have ih0 := spec_SlotsOk.mono_l k
  unfold spec_SlotsOk.f
  repeat' first
      | (with_reducible exact ih0 _ _)
      | (with_reducible exact spec_l07Words.mono _ _)
      | (with_reducible exact LeO.refl _)
      | (with_reducible exact LeO.none _)
      | (with_reducible refine LeO.ite ?_ ?_)
      | (with_reducible refine LeO.bind ?_ (fun _ => ?_))
      | exact ih0 _ _
      | exact spec_l07Words.mono _ _
      | exact LeO.none _
      | refine LeO.ite ?_ ?_
      | refine LeO.bind ?_ (fun _ => ?_)
set_option maxHeartbeats 8000000 in
set_option maxRecDepth 100000 in
theorem spec_SlotsOk.calls (k : Nat) (A0 : Option Addr) (c0 : Nat) (l0 : List (S113)) (r : Bool) (w : World) (hr0 : Kd.C k113 w A0 l0.length l0) (hc0 : l0.length ≤ c0) (h : spec_SlotsOk.f k l0 = some r) :
    Calls Try.prog 40 #[.slice A0 l0.length c0] w fun e w' => e = .returned (.bool r) ∧ Drawn0 w w' := by
  have HR0 := Aside0.mk hr0
  have HC0 := Aside0.mk hc0
  clear hr0 hc0
  have H : (if (l0.length : Int) > 16 then (some false) else (spec_SlotsOk.l0 k l0 0)) = some r := h
  clear h
  by_cases c2 : (l0.length : Int) > 16
  · rw [if_pos c2] at H
    have c2b0 : decide (16 < (l0.length : Int)) = true := decide_eq_true c2
    have c2b1 : decide (16 < l0.length) = true := decide_eq_true (by omega)
    clear c2
    obtain rfl := Option.some.inj H
    go_enter Try.func40, Try.ntmps40
    go_wp2
    go_ret
    exact ⟨by first | rfl | (simp; done) | (simp [*]; done), by repeat (first | exact Drawn0.refl _ | apply Drawn0.step)⟩
  · rw [if_neg c2] at H
    have c2b0 : decide (16 < (l0.length : Int)) = false := decide_eq_false c2
    have c2b1 : decide (16 < l0.length) = false := decide_eq_false (by omega)
    clear c2
    have H' := Aside0.mk H
    clear H
    go_enter Try.func40, Try.ntmps40
    go_wp2
    go_loopg [3] k (fun kq v3 w' => ∃ (x3_1 : Int), v3 = .int .i64 x3_1 ∧ Aside0 (spec_SlotsOk.l0 kq l0 x3_1 = some r) ∧ Aside0 (kq ≤ k) ∧ Drawn0 w w')
    case atStart => exact ⟨(0), (by first | rfl | (simp; done) | (simp [*]; done)), H', ⟨Nat.le_refl _⟩, by repeat (first | exact Drawn0.refl _ | apply Drawn0.step)⟩
    case round =>
      clear H'
      try clear c2
      try clear c2b0
      try clear c2b1
      try clear p2
      obtain ⟨x3_1, rfl, HA, HK1, ⟨m1, rfl⟩⟩ := hrel
      cases gk with
      | zero => exact absurd HA.out (by simp [spec_SlotsOk.l0])
      | succ k1 =>
        have H := HA.out
        clear HA
        simp only [spec_SlotsOk.l0] at H
        by_cases c3 : x3_1 < (l0.length : Int)
        · rw [if_pos c3] at H
          have c3b0 : decide (x3_1 < (l0.length : Int)) = true := decide_eq_true c3
          clear c3
          by_cases c4 : 0 ≤ x3_1
          · rw [if_pos c4] at H
            have c4b0 : decide (0 ≤ x3_1) = true := decide_eq_true c4
            clear c4
            replace H := Option.bind_eq_some_iff.mp H
            obtain ⟨t429, A50, H⟩ := H
            replace H : (if t429 = true then (if ((rd_T113 l0 x3_1).f0) = 0 then (if (((rd_T113 l0 x3_1).f1).length : Int) > 0 then (some false) else (if ((rd_T113 l0 x3_1).f0) > 0 then ((spec_l07Words.f k1 ((rd_T113 l0 x3_1).f1)).bind fun t434 => (if t434 = true then (spec_SlotsOk.l0 k1 l0 (wrap64 (x3_1 + 1))) else (some false))) else (spec_SlotsOk.l0 k1 l0 (wrap64 (x3_1 + 1))))) else (if ((rd_T113 l0 x3_1).f0) > 0 then ((spec_l07Words.f k1 ((rd_T113 l0 x3_1).f1)).bind fun t437 => (if t437 = true then (spec_SlotsOk.l0 k1 l0 (wrap64 (x3_1 + 1))) else (some false))) else (spec_SlotsOk.l0 k1 l0 (wrap64 (x3_1 + 1))))) else (some false)) = some r := H
            have A5 := Aside0.mk A50
            clear A50
            by_cases c6 : t429 = true
            · subst c6
              have H1 : (if ((rd_T113 l0 x3_1).f0) = 0 then (if (((rd_T113 l0 x3_1).f1).length : Int) > 0 then (some false) else (if ((rd_T113 l0 x3_1).f0) > 0 then ((spec_l07Words.f k1 ((rd_T113 l0 x3_1).f1)).bind fun t434 => (if t434 = true then (spec_SlotsOk.l0 k1 l0 (wrap64 (x3_1 + 1))) else (some false))) else (spec_SlotsOk.l0 k1 l0 (wrap64 (x3_1 + 1))))) else (if ((rd_T113 l0 x3_1).f0) > 0 then ((spec_l07Words.f k1 ((rd_T113 l0 x3_1).f1)).bind fun t437 => (if t437 = true then (spec_SlotsOk.l0 k1 l0 (wrap64 (x3_1 + 1))) else (some false))) else (spec_SlotsOk.l0 k1 l0 (wrap64 (x3_1 + 1))))) = some r := by rw [if_pos rfl] at H; exact H
              clear H
              have H := H1
              clear H1
              by_cases c7 : ((rd_T113 l0 x3_1).f0) = 0
              · rw [if_pos c7] at H
                have c7b0 : (((rd_T113 l0 x3_1).f0) == 0) = true := beq_iff_eq.mpr c7
                have c7b1 : (((rd_T113 l0 x3_1).f0) != 0) = false := bne_eq_false_iff_eq.mpr c7
                clear c7
                by_cases c8 : (((rd_T113 l0 x3_1).f1).length : Int) > 0
                · rw [if_pos c8] at H
                  have c8b0 : decide (0 < (((rd_T113 l0 x3_1).f1).length : Int)) = true := decide_eq_true c8
                  have c8b1 : decide (0 < ((rd_T113 l0 x3_1).f1).length) = true := decide_eq_true (by omega)
                  clear c8
                  obtain rfl := Option.some.inj H
                  have p428 : 0 ≤ (x3_1 : Int) := of_decide_eq_true (by first | (with_reducible assumption) | assumption)
                  have q428 : x3_1 < (l0.length : Int) := of_decide_eq_true (by first | (with_reducible assumption) | assumption)
                  obtain ⟨ad428, A428_1, c428_1, e428, hx428_0, hx428_1, hl428_1, hi428_1⟩ := at_T113 HR0.out x3_1 p428 q428
                  cases e428
                  have HR428_1 := Aside0.mk hi428_1
                  have HC428_1 := Aside0.mk hl428_1
                  clear hi428_1 hl428_1
                  replace p428 := eq_true p428
                  replace q428 := eq_true q428
                  go_wp2_with (first | ((with_reducible refine gate_callee (f := 75) rfl ?_); refine goesL_ (some 18) rfl rfl Try.func75 (by kernel_rfl) rfl #[.int .i64 ((rd_T113 l0 x3_1).f0), .int .i64 0, .int .i64 64] rfl (by (try simp only [List.map_toArray, List.map_cons, List.map_nil]); first | done | rfl | (simp only [List.length_drop, List.length_take]; rfl)) ?_; (with_reducible refine (spec_l01In.calls ((rd_T113 l0 x3_1).f0) 0 64 true _ A5.out).mono ?_); rintro e w' ⟨rfl, ⟨nd, rfl⟩⟩; refine ⟨_, rfl, ?_⟩; have p430 : 0 ≤ (x3_1 : Int) := of_decide_eq_true (by first | (with_reducible assumption) | assumption); have q430 : x3_1 < (l0.length : Int) := of_decide_eq_true (by first | (with_reducible assumption) | assumption); obtain ⟨ad430, A430_1, c430_1, e430, hx430_0, hx430_1, hl430_1, hi430_1⟩ := at_T113 HR0.out x3_1 p430 q430; obtain rfl : ad428 = ad430 := (by injection e430); have HR430_1 := Aside0.mk hi430_1; have HC430_1 := Aside0.mk hl430_1; clear hi430_1 hl430_1; replace p430 := eq_true p430; replace q430 := eq_true q430; have ea_ := Option.some.inj (hx428_1.symm.trans hx430_1); injection ea_ with ea_ en_ ec_; subst ea_; subst ec_; clear en_; have p431 : 0 ≤ (x3_1 : Int) := of_decide_eq_true (by first | (with_reducible assumption) | assumption); have q431 : x3_1 < (l0.length : Int) := of_decide_eq_true (by first | (with_reducible assumption) | assumption); obtain ⟨ad431, A431_1, c431_1, e431, hx431_0, hx431_1, hl431_1, hi431_1⟩ := at_T113 HR0.out x3_1 p431 q431; obtain rfl : ad428 = ad431 := (by injection e431); have HR431_1 := Aside0.mk hi431_1; have HC431_1 := Aside0.mk hl431_1; clear hi431_1 hl431_1; replace p431 := eq_true p431; replace q431 := eq_true q431; have ea_ := Option.some.inj (hx428_1.symm.trans hx431_1); injection ea_ with ea_ en_ ec_; subst ea_; subst ec_; clear en_))
                  go_ret
                  exact ⟨by first | rfl | (simp; done) | (simp [*]; done), by repeat (first | exact Drawn0.refl _ | apply Drawn0.step)⟩
                · rw [if_neg c8] at H
                  have c8b0 : decide (0 < (((rd_T113 l0 x3_1).f1).length : Int)) = false := decide_eq_false c8
                  have c8b1 : decide (0 < ((rd_T113 l0 x3_1).f1).length) = false := decide_eq_false (by omega)
                  clear c8
                  by_cases c9 : ((rd_T113 l0 x3_1).f0) > 0
                  · rw [if_pos c9] at H
                    have c9b0 : decide (0 < ((rd_T113 l0 x3_1).f0)) = true := decide_eq_true c9
                    clear c9
                    replace H := Option.bind_eq_some_iff.mp H
                    obtain ⟨t434, A100, H⟩ := H
                    replace H : (if t434 = true then (spec_SlotsOk.l0 k1 l0 (wrap64 (x3_1 + 1))) else (some false)) = some r := H
                    have A10 := Aside0.mk A100
                    clear A100
                    by_cases c11 : t434 = true
                    · subst c11
                      have H1 : (spec_SlotsOk.l0 k1 l0 (wrap64 (x3_1 + 1))) = some r := by rw [if_pos rfl] at H; exact H
                      clear H
                      have H := H1
                      clear H1
                      have H' := Aside0.mk H
                      clear H
                      have p428 : 0 ≤ (x3_1 : Int) := of_decide_eq_true (by first | (with_reducible assumption) | assumption)
                      have q428 : x3_1 < (l0.length : Int) := of_decide_eq_true (by first | (with_reducible assumption) | assumption)
                      obtain ⟨ad428, A428_1, c428_1, e428, hx428_0, hx428_1, hl428_1, hi428_1⟩ := at_T113 HR0.out x3_1 p428 q428
                      cases e428
                      have HR428_1 := Aside0.mk hi428_1
                      have HC428_1 := Aside0.mk hl428_1
                      clear hi428_1 hl428_1
                      replace p428 := eq_true p428
                      replace q428 := eq_true q428
                      go_wp2_with (first | ((with_reducible refine gate_callee (f := 75) rfl ?_); refine goesL_ (some 18) rfl rfl Try.func75 (by kernel_rfl) rfl #[.int .i64 ((rd_T113 l0 x3_1).f0), .int .i64 0, .int .i64 64] rfl (by (try simp only [List.map_toArray, List.map_cons, List.map_nil]); first | done | rfl | (simp only [List.length_drop, List.length_take]; rfl)) ?_; (with_reducible refine (spec_l01In.calls ((rd_T113 l0 x3_1).f0) 0 64 true _ A5.out).mono ?_); rintro e w' ⟨rfl, ⟨nd, rfl⟩⟩; refine ⟨_, rfl, ?_⟩; have p430 : 0 ≤ (x3_1 : Int) := of_decide_eq_true (by first | (with_reducible assumption) | assumption); have q430 : x3_1 < (l0.length : Int) := of_decide_eq_true (by first | (with_reducible assumption) | assumption); obtain ⟨ad430, A430_1, c430_1, e430, hx430_0, hx430_1, hl430_1, hi430_1⟩ := at_T113 HR0.out x3_1 p430 q430; obtain rfl : ad428 = ad430 := (by injection e430); have HR430_1 := Aside0.mk hi430_1; have HC430_1 := Aside0.mk hl430_1; clear hi430_1 hl430_1; replace p430 := eq_true p430; replace q430 := eq_true q430; have ea_ := Option.some.inj (hx428_1.symm.trans hx430_1); injection ea_ with ea_ en_ ec_; subst ea_; subst ec_; clear en_; have p431 : 0 ≤ (x3_1 : Int) := of_decide_eq_true (by first | (with_reducible assumption) | assumption); have q431 : x3_1 < (l0.length : Int) := of_decide_eq_true (by first | (with_reducible assumption) | assumption); obtain ⟨ad431, A431_1, c431_1, e431, hx431_0, hx431_1, hl431_1, hi431_1⟩ := at_T113 HR0.out x3_1 p431 q431; obtain rfl : ad428 = ad431 := (by injection e431); have HR431_1 := Aside0.mk hi431_1; have HC431_1 := Aside0.mk hl431_1; clear hi431_1 hl431_1; replace p431 := eq_true p431; replace q431 := eq_true q431; have ea_ := Option.some.inj (hx428_1.symm.trans hx431_1); injection ea_ with ea_ en_ ec_; subst ea_; subst ec_; clear en_; have p432 : 0 ≤ (x3_1 : Int) := of_decide_eq_true (by first | (with_reducible assumption) | assumption); have q432 : x3_1 < (l0.length : Int) := of_decide_eq_true (by first | (with_reducible assumption) | assumption); obtain ⟨ad432, A432_1, c432_1, e432, hx432_0, hx432_1, hl432_1, hi432_1⟩ := at_T113 HR0.out x3_1 p432 q432; obtain rfl : ad428 = ad432 := (by injection e432); have HR432_1 := Aside0.mk hi432_1; have HC432_1 := Aside0.mk hl432_1; clear hi432_1 hl432_1; replace p432 := eq_true p432; replace q432 := eq_true q432; have ea_ := Option.some.inj (hx428_1.symm.trans hx432_1); injection ea_ with ea_ en_ ec_; subst ea_; subst ec_; clear en_; have p433 : 0 ≤ (x3_1 : Int) := of_decide_eq_true (by first | (with_reducible assumption) | assumption); have q433 : x3_1 < (l0.length : Int) := of_decide_eq_true (by first | (with_reducible assumption) | assumption); obtain ⟨ad433, A433_1, c433_1, e433, hx433_0, hx433_1, hl433_1, hi433_1⟩ := at_T113 HR0.out x3_1 p433 q433; obtain rfl : ad428 = ad433 := (by injection e433); have HR433_1 := Aside0.mk hi433_1; have HC433_1 := Aside0.mk hl433_1; clear hi433_1 hl433_1; replace p433 := eq_true p433; replace q433 := eq_true q433; have ea_ := Option.some.inj (hx428_1.symm.trans hx433_1); injection ea_ with ea_ en_ ec_; subst ea_; subst ec_; clear en_) | (go_at_call 95; (with_reducible refine (spec_l07Words.calls k1 _ _ ((rd_T113 l0 x3_1).f1) true _ ?side1 ?side2 A10.out).mono ?_); (case side1 => repeat (first | exact HR433_1.out | (with_reducible refine Kd.C_alloc ?_ _) | (with_reducible refine Kd.C_drewN ?_ _) | (with_reducible refine Kd.C_drew ?_))); (case side2 => exact HC433_1.out); rintro e w' ⟨rfl, ⟨nd, rfl⟩⟩))
                      go_roundg k1
                      case measure => have := HK1.out; omega
                      case rel => exact ⟨(wrap64 (x3_1 + 1)), (by first | rfl | (simp; done) | (simp [*]; done)), H', ⟨by have := HK1.out; omega⟩, by repeat (first | exact Drawn0.refl _ | apply Drawn0.step)⟩
                    · replace c11 := Bool.eq_false_iff.mpr c11
                      subst c11
                      have H1 : (some false) = some r := by rw [if_neg (show ¬ (false = true) by decide)] at H; exact H
                      clear H
                      have H := H1
                      clear H1
                      obtain rfl := Option.some.inj H
                      have p428 : 0 ≤ (x3_1 : Int) := of_decide_eq_true (by first | (with_reducible assumption) | assumption)
                      have q428 : x3_1 < (l0.length : Int) := of_decide_eq_true (by first | (with_reducible assumption) | assumption)
                      obtain ⟨ad428, A428_1, c428_1, e428, hx428_0, hx428_1, hl428_1, hi428_1⟩ := at_T113 HR0.out x3_1 p428 q428
                      cases e428
                      have HR428_1 := Aside0.mk hi428_1
                      have HC428_1 := Aside0.mk hl428_1
                      clear hi428_1 hl428_1
                      replace p428 := eq_true p428
                      replace q428 := eq_true q428
                      go_wp2_with (first | ((with_reducible refine gate_callee (f := 75) rfl ?_); refine goesL_ (some 18) rfl rfl Try.func75 (by kernel_rfl) rfl #[.int .i64 ((rd_T113 l0 x3_1).f0), .int .i64 0, .int .i64 64] rfl (by (try simp only [List.map_toArray, List.map_cons, List.map_nil]); first | done | rfl | (simp only [List.length_drop, List.length_take]; rfl)) ?_; (with_reducible refine (spec_l01In.calls ((rd_T113 l0 x3_1).f0) 0 64 true _ A5.out).mono ?_); rintro e w' ⟨rfl, ⟨nd, rfl⟩⟩; refine ⟨_, rfl, ?_⟩; have p430 : 0 ≤ (x3_1 : Int) := of_decide_eq_true (by first | (with_reducible assumption) | assumption); have q430 : x3_1 < (l0.length : Int) := of_decide_eq_true (by first | (with_reducible assumption) | assumption); obtain ⟨ad430, A430_1, c430_1, e430, hx430_0, hx430_1, hl430_1, hi430_1⟩ := at_T113 HR0.out x3_1 p430 q430; obtain rfl : ad428 = ad430 := (by injection e430); have HR430_1 := Aside0.mk hi430_1; have HC430_1 := Aside0.mk hl430_1; clear hi430_1 hl430_1; replace p430 := eq_true p430; replace q430 := eq_true q430; have ea_ := Option.some.inj (hx428_1.symm.trans hx430_1); injection ea_ with ea_ en_ ec_; subst ea_; subst ec_; clear en_; have p431 : 0 ≤ (x3_1 : Int) := of_decide_eq_true (by first | (with_reducible assumption) | assumption); have q431 : x3_1 < (l0.length : Int) := of_decide_eq_true (by first | (with_reducible assumption) | assumption); obtain ⟨ad431, A431_1, c431_1, e431, hx431_0, hx431_1, hl431_1, hi431_1⟩ := at_T113 HR0.out x3_1 p431 q431; obtain rfl : ad428 = ad431 := (by injection e431); have HR431_1 := Aside0.mk hi431_1; have HC431_1 := Aside0.mk hl431_1; clear hi431_1 hl431_1; replace p431 := eq_true p431; replace q431 := eq_true q431; have ea_ := Option.some.inj (hx428_1.symm.trans hx431_1); injection ea_ with ea_ en_ ec_; subst ea_; subst ec_; clear en_; have p432 : 0 ≤ (x3_1 : Int) := of_decide_eq_true (by first | (with_reducible assumption) | assumption); have q432 : x3_1 < (l0.length : Int) := of_decide_eq_true (by first | (with_reducible assumption) | assumption); obtain ⟨ad432, A432_1, c432_1, e432, hx432_0, hx432_1, hl432_1, hi432_1⟩ := at_T113 HR0.out x3_1 p432 q432; obtain rfl : ad428 = ad432 := (by injection e432); have HR432_1 := Aside0.mk hi432_1; have HC432_1 := Aside0.mk hl432_1; clear hi432_1 hl432_1; replace p432 := eq_true p432; replace q432 := eq_true q432; have ea_ := Option.some.inj (hx428_1.symm.trans hx432_1); injection ea_ with ea_ en_ ec_; subst ea_; subst ec_; clear en_; have p433 : 0 ≤ (x3_1 : Int) := of_decide_eq_true (by first | (with_reducible assumption) | assumption); have q433 : x3_1 < (l0.length : Int) := of_decide_eq_true (by first | (with_reducible assumption) | assumption); obtain ⟨ad433, A433_1, c433_1, e433, hx433_0, hx433_1, hl433_1, hi433_1⟩ := at_T113 HR0.out x3_1 p433 q433; obtain rfl : ad428 = ad433 := (by injection e433); have HR433_1 := Aside0.mk hi433_1; have HC433_1 := Aside0.mk hl433_1; clear hi433_1 hl433_1; replace p433 := eq_true p433; replace q433 := eq_true q433; have ea_ := Option.some.inj (hx428_1.symm.trans hx433_1); injection ea_ with ea_ en_ ec_; subst ea_; subst ec_; clear en_) | (go_at_call 95; (with_reducible refine (spec_l07Words.calls k1 _ _ ((rd_T113 l0 x3_1).f1) false _ ?side1 ?side2 A10.out).mono ?_); (case side1 => repeat (first | exact HR433_1.out | (with_reducible refine Kd.C_alloc ?_ _) | (with_reducible refine Kd.C_drewN ?_ _) | (with_reducible refine Kd.C_drew ?_))); (case side2 => exact HC433_1.out); rintro e w' ⟨rfl, ⟨nd, rfl⟩⟩))
                      go_ret
                      exact ⟨by first | rfl | (simp; done) | (simp [*]; done), by repeat (first | exact Drawn0.refl _ | apply Drawn0.step)⟩
                  · rw [if_neg c9] at H
                    have c9b0 : decide (0 < ((rd_T113 l0 x3_1).f0)) = false := decide_eq_false c9
                    clear c9
                    have H' := Aside0.mk H
                    clear H
                    have p428 : 0 ≤ (x3_1 : Int) := of_decide_eq_true (by first | (with_reducible assumption) | assumption)
                    have q428 : x3_1 < (l0.length : Int) := of_decide_eq_true (by first | (with_reducible assumption) | assumption)
                    obtain ⟨ad428, A428_1, c428_1, e428, hx428_0, hx428_1, hl428_1, hi428_1⟩ := at_T113 HR0.out x3_1 p428 q428
                    cases e428
                    have HR428_1 := Aside0.mk hi428_1
                    have HC428_1 := Aside0.mk hl428_1
                    clear hi428_1 hl428_1
                    replace p428 := eq_true p428
                    replace q428 := eq_true q428
                    go_wp2_with (first | ((with_reducible refine gate_callee (f := 75) rfl ?_); refine goesL_ (some 18) rfl rfl Try.func75 (by kernel_rfl) rfl #[.int .i64 ((rd_T113 l0 x3_1).f0), .int .i64 0, .int .i64 64] rfl (by (try simp only [List.map_toArray, List.map_cons, List.map_nil]); first | done | rfl | (simp only [List.length_drop, List.length_take]; rfl)) ?_; (with_reducible refine (spec_l01In.calls ((rd_T113 l0 x3_1).f0) 0 64 true _ A5.out).mono ?_); rintro e w' ⟨rfl, ⟨nd, rfl⟩⟩; refine ⟨_, rfl, ?_⟩; have p430 : 0 ≤ (x3_1 : Int) := of_decide_eq_true (by first | (with_reducible assumption) | assumption); have q430 : x3_1 < (l0.length : Int) := of_decide_eq_true (by first | (with_reducible assumption) | assumption); obtain ⟨ad430, A430_1, c430_1, e430, hx430_0, hx430_1, hl430_1, hi430_1⟩ := at_T113 HR0.out x3_1 p430 q430; obtain rfl : ad428 = ad430 := (by injection e430); have HR430_1 := Aside0.mk hi430_1; have HC430_1 := Aside0.mk hl430_1; clear hi430_1 hl430_1; replace p430 := eq_true p430; replace q430 := eq_true q430; have ea_ := Option.some.inj (hx428_1.symm.trans hx430_1); injection ea_ with ea_ en_ ec_; subst ea_; subst ec_; clear en_; have p431 : 0 ≤ (x3_1 : Int) := of_decide_eq_true (by first | (with_reducible assumption) | assumption); have q431 : x3_1 < (l0.length : Int) := of_decide_eq_true (by first | (with_reducible assumption) | assumption); obtain ⟨ad431, A431_1, c431_1, e431, hx431_0, hx431_1, hl431_1, hi431_1⟩ := at_T113 HR0.out x3_1 p431 q431; obtain rfl : ad428 = ad431 := (by injection e431); have HR431_1 := Aside0.mk hi431_1; have HC431_1 := Aside0.mk hl431_1; clear hi431_1 hl431_1; replace p431 := eq_true p431; replace q431 := eq_true q431; have ea_ := Option.some.inj (hx428_1.symm.trans hx431_1); injection ea_ with ea_ en_ ec_; subst ea_; subst ec_; clear en_; have p432 : 0 ≤ (x3_1 : Int) := of_decide_eq_true (by first | (with_reducible assumption) | assumption); have q432 : x3_1 < (l0.length : Int) := of_decide_eq_true (by first | (with_reducible assumption) | assumption); obtain ⟨ad432, A432_1, c432_1, e432, hx432_0, hx432_1, hl432_1, hi432_1⟩ := at_T113 HR0.out x3_1 p432 q432; obtain rfl : ad428 = ad432 := (by injection e432); have HR432_1 := Aside0.mk hi432_1; have HC432_1 := Aside0.mk hl432_1; clear hi432_1 hl432_1; replace p432 := eq_true p432; replace q432 := eq_true q432; have ea_ := Option.some.inj (hx428_1.symm.trans hx432_1); injection ea_ with ea_ en_ ec_; subst ea_; subst ec_; clear en_))
                    go_roundg k1
                    case measure => have := HK1.out; omega
                    case rel => exact ⟨(wrap64 (x3_1 + 1)), (by first | rfl | (simp; done) | (simp [*]; done)), H', ⟨by have := HK1.out; omega⟩, by repeat (first | exact Drawn0.refl _ | apply Drawn0.step)⟩
              · rw [if_neg c7] at H
                have c7b0 : (((rd_T113 l0 x3_1).f0) == 0) = false := beq_eq_false_iff_ne.mpr c7
                have c7b1 : (((rd_T113 l0 x3_1).f0) != 0) = true := bne_iff_ne.mpr c7
                by_cases c12 : ((rd_T113 l0 x3_1).f0) > 0
                · rw [if_pos c12] at H
                  have c12b0 : decide (0 < ((rd_T113 l0 x3_1).f0)) = true := decide_eq_true c12
                  clear c12
                  replace H := Option.bind_eq_some_iff.mp H
                  obtain ⟨t437, A130, H⟩ := H
                  replace H : (if t437 = true then (spec_SlotsOk.l0 k1 l0 (wrap64 (x3_1 + 1))) else (some false)) = some r := H
                  have A13 := Aside0.mk A130
                  clear A130
                  by_cases c14 : t437 = true
                  · subst c14
                    have H1 : (spec_SlotsOk.l0 k1 l0 (wrap64 (x3_1 + 1))) = some r := by rw [if_pos rfl] at H; exact H
                    clear H
                    have H := H1
                    clear H1
                    have H' := Aside0.mk H
                    clear H
                    have p428 : 0 ≤ (x3_1 : Int) := of_decide_eq_true (by first | (with_reducible assumption) | assumption)
                    have q428 : x3_1 < (l0.length : Int) := of_decide_eq_true (by first | (with_reducible assumption) | assumption)
                    obtain ⟨ad428, A428_1, c428_1, e428, hx428_0, hx428_1, hl428_1, hi428_1⟩ := at_T113 HR0.out x3_1 p428 q428
                    cases e428
                    have HR428_1 := Aside0.mk hi428_1
                    have HC428_1 := Aside0.mk hl428_1
                    clear hi428_1 hl428_1
                    replace p428 := eq_true p428
                    replace q428 := eq_true q428
                    go_wp2_with (first | ((with_reducible refine gate_callee (f := 75) rfl ?_); refine goesL_ (some 18) rfl rfl Try.func75 (by kernel_rfl) rfl #[.int .i64 ((rd_T113 l0 x3_1).f0), .int .i64 0, .int .i64 64] rfl (by (try simp only [List.map_toArray, List.map_cons, List.map_nil]); first | done | rfl | (simp only [List.length_drop, List.length_take]; rfl)) ?_; (with_reducible refine (spec_l01In.calls ((rd_T113 l0 x3_1).f0) 0 64 true _ A5.out).mono ?_); rintro e w' ⟨rfl, ⟨nd, rfl⟩⟩; refine ⟨_, rfl, ?_⟩; have p430 : 0 ≤ (x3_1 : Int) := of_decide_eq_true (by first | (with_reducible assumption) | assumption); have q430 : x3_1 < (l0.length : Int) := of_decide_eq_true (by first | (with_reducible assumption) | assumption); obtain ⟨ad430, A430_1, c430_1, e430, hx430_0, hx430_1, hl430_1, hi430_1⟩ := at_T113 HR0.out x3_1 p430 q430; obtain rfl : ad428 = ad430 := (by injection e430); have HR430_1 := Aside0.mk hi430_1; have HC430_1 := Aside0.mk hl430_1; clear hi430_1 hl430_1; replace p430 := eq_true p430; replace q430 := eq_true q430; have ea_ := Option.some.inj (hx428_1.symm.trans hx430_1); injection ea_ with ea_ en_ ec_; subst ea_; subst ec_; clear en_; have p435 : 0 ≤ (x3_1 : Int) := of_decide_eq_true (by first | (with_reducible assumption) | assumption); have q435 : x3_1 < (l0.length : Int) := of_decide_eq_true (by first | (with_reducible assumption) | assumption); obtain ⟨ad435, A435_1, c435_1, e435, hx435_0, hx435_1, hl435_1, hi435_1⟩ := at_T113 HR0.out x3_1 p435 q435; obtain rfl : ad428 = ad435 := (by injection e435); have HR435_1 := Aside0.mk hi435_1; have HC435_1 := Aside0.mk hl435_1; clear hi435_1 hl435_1; replace p435 := eq_true p435; replace q435 := eq_true q435; have ea_ := Option.some.inj (hx428_1.symm.trans hx435_1); injection ea_ with ea_ en_ ec_; subst ea_; subst ec_; clear en_; have p436 : 0 ≤ (x3_1 : Int) := of_decide_eq_true (by first | (with_reducible assumption) | assumption); have q436 : x3_1 < (l0.length : Int) := of_decide_eq_true (by first | (with_reducible assumption) | assumption); obtain ⟨ad436, A436_1, c436_1, e436, hx436_0, hx436_1, hl436_1, hi436_1⟩ := at_T113 HR0.out x3_1 p436 q436; obtain rfl : ad428 = ad436 := (by injection e436); have HR436_1 := Aside0.mk hi436_1; have HC436_1 := Aside0.mk hl436_1; clear hi436_1 hl436_1; replace p436 := eq_true p436; replace q436 := eq_true q436; have ea_ := Option.some.inj (hx428_1.symm.trans hx436_1); injection ea_ with ea_ en_ ec_; subst ea_; subst ec_; clear en_) | (go_at_call 95; (with_reducible refine (spec_l07Words.calls k1 _ _ ((rd_T113 l0 x3_1).f1) true _ ?side1 ?side2 A13.out).mono ?_); (case side1 => repeat (first | exact HR436_1.out | (with_reducible refine Kd.C_alloc ?_ _) | (with_reducible refine Kd.C_drewN ?_ _) | (with_reducible refine Kd.C_drew ?_))); (case side2 => exact HC436_1.out); rintro e w' ⟨rfl, ⟨nd, rfl⟩⟩))
                    go_roundg k1
                    case measure => have := HK1.out; omega
                    case rel => exact ⟨(wrap64 (x3_1 + 1)), (by first | rfl | (simp; done) | (simp [*]; done)), H', ⟨by have := HK1.out; omega⟩, by repeat (first | exact Drawn0.refl _ | apply Drawn0.step)⟩
                  · replace c14 := Bool.eq_false_iff.mpr c14
                    subst c14
                    have H1 : (some false) = some r := by rw [if_neg (show ¬ (false = true) by decide)] at H; exact H
                    clear H
                    have H := H1
                    clear H1
                    obtain rfl := Option.some.inj H
                    have p428 : 0 ≤ (x3_1 : Int) := of_decide_eq_true (by first | (with_reducible assumption) | assumption)
                    have q428 : x3_1 < (l0.length : Int) := of_decide_eq_true (by first | (with_reducible assumption) | assumption)
                    obtain ⟨ad428, A428_1, c428_1, e428, hx428_0, hx428_1, hl428_1, hi428_1⟩ := at_T113 HR0.out x3_1 p428 q428
                    cases e428
                    have HR428_1 := Aside0.mk hi428_1
                    have HC428_1 := Aside0.mk hl428_1
                    clear hi428_1 hl428_1
                    replace p428 := eq_true p428
                    replace q428 := eq_true q428
                    go_wp2_with (first | ((with_reducible refine gate_callee (f := 75) rfl ?_); refine goesL_ (some 18) rfl rfl Try.func75 (by kernel_rfl) rfl #[.int .i64 ((rd_T113 l0 x3_1).f0), .int .i64 0, .int .i64 64] rfl (by (try simp only [List.map_toArray, List.map_cons, List.map_nil]); first | done | rfl | (simp only [List.length_drop, List.length_take]; rfl)) ?_; (with_reducible refine (spec_l01In.calls ((rd_T113 l0 x3_1).f0) 0 64 true _ A5.out).mono ?_); rintro e w' ⟨rfl, ⟨nd, rfl⟩⟩; refine ⟨_, rfl, ?_⟩; have p430 : 0 ≤ (x3_1 : Int) := of_decide_eq_true (by first | (with_reducible assumption) | assumption); have q430 : x3_1 < (l0.length : Int) := of_decide_eq_true (by first | (with_reducible assumption) | assumption); obtain ⟨ad430, A430_1, c430_1, e430, hx430_0, hx430_1, hl430_1, hi430_1⟩ := at_T113 HR0.out x3_1 p430 q430; obtain rfl : ad428 = ad430 := (by injection e430); have HR430_1 := Aside0.mk hi430_1; have HC430_1 := Aside0.mk hl430_1; clear hi430_1 hl430_1; replace p430 := eq_true p430; replace q430 := eq_true q430; have ea_ := Option.some.inj (hx428_1.symm.trans hx430_1); injection ea_ with ea_ en_ ec_; subst ea_; subst ec_; clear en_; have p435 : 0 ≤ (x3_1 : Int) := of_decide_eq_true (by first | (with_reducible assumption) | assumption); have q435 : x3_1 < (l0.length : Int) := of_decide_eq_true (by first | (with_reducible assumption) | assumption); obtain ⟨ad435, A435_1, c435_1, e435, hx435_0, hx435_1, hl435_1, hi435_1⟩ := at_T113 HR0.out x3_1 p435 q435; obtain rfl : ad428 = ad435 := (by injection e435); have HR435_1 := Aside0.mk hi435_1; have HC435_1 := Aside0.mk hl435_1; clear hi435_1 hl435_1; replace p435 := eq_true p435; replace q435 := eq_true q435; have ea_ := Option.some.inj (hx428_1.symm.trans hx435_1); injection ea_ with ea_ en_ ec_; subst ea_; subst ec_; clear en_; have p436 : 0 ≤ (x3_1 : Int) := of_decide_eq_true (by first | (with_reducible assumption) | assumption); have q436 : x3_1 < (l0.length : Int) := of_decide_eq_true (by first | (with_reducible assumption) | assumption); obtain ⟨ad436, A436_1, c436_1, e436, hx436_0, hx436_1, hl436_1, hi436_1⟩ := at_T113 HR0.out x3_1 p436 q436; obtain rfl : ad428 = ad436 := (by injection e436); have HR436_1 := Aside0.mk hi436_1; have HC436_1 := Aside0.mk hl436_1; clear hi436_1 hl436_1; replace p436 := eq_true p436; replace q436 := eq_true q436; have ea_ := Option.some.inj (hx428_1.symm.trans hx436_1); injection ea_ with ea_ en_ ec_; subst ea_; subst ec_; clear en_) | (go_at_call 95; (with_reducible refine (spec_l07Words.calls k1 _ _ ((rd_T113 l0 x3_1).f1) false _ ?side1 ?side2 A13.out).mono ?_); (case side1 => repeat (first | exact HR436_1.out | (with_reducible refine Kd.C_alloc ?_ _) | (with_reducible refine Kd.C_drewN ?_ _) | (with_reducible refine Kd.C_drew ?_))); (case side2 => exact HC436_1.out); rintro e w' ⟨rfl, ⟨nd, rfl⟩⟩))
                    go_ret
                    exact ⟨by first | rfl | (simp; done) | (simp [*]; done), by repeat (first | exact Drawn0.refl _ | apply Drawn0.step)⟩
                · rw [if_neg c12] at H
                  have c12b0 : decide (0 < ((rd_T113 l0 x3_1).f0)) = false := decide_eq_false c12
                  clear c12
                  have H' := Aside0.mk H
                  clear H
                  have p428 : 0 ≤ (x3_1 : Int) := of_decide_eq_true (by first | (with_reducible assumption) | assumption)
                  have q428 : x3_1 < (l0.length : Int) := of_decide_eq_true (by first | (with_reducible assumption) | assumption)
                  obtain ⟨ad428, A428_1, c428_1, e428, hx428_0, hx428_1, hl428_1, hi428_1⟩ := at_T113 HR0.out x3_1 p428 q428
                  cases e428
                  have HR428_1 := Aside0.mk hi428_1
                  have HC428_1 := Aside0.mk hl428_1
                  clear hi428_1 hl428_1
                  replace p428 := eq_true p428
                  replace q428 := eq_true q428
                  go_wp2_with (first | ((with_reducible refine gate_callee (f := 75) rfl ?_); refine goesL_ (some 18) rfl rfl Try.func75 (by kernel_rfl) rfl #[.int .i64 ((rd_T113 l0 x3_1).f0), .int .i64 0, .int .i64 64] rfl (by (try simp only [List.map_toArray, List.map_cons, List.map_nil]); first | done | rfl | (simp only [List.length_drop, List.length_take]; rfl)) ?_; (with_reducible refine (spec_l01In.calls ((rd_T113 l0 x3_1).f0) 0 64 true _ A5.out).mono ?_); rintro e w' ⟨rfl, ⟨nd, rfl⟩⟩; refine ⟨_, rfl, ?_⟩; have p430 : 0 ≤ (x3_1 : Int) := of_decide_eq_true (by first | (with_reducible assumption) | assumption); have q430 : x3_1 < (l0.length : Int) := of_decide_eq_true (by first | (with_reducible assumption) | assumption); obtain ⟨ad430, A430_1, c430_1, e430, hx430_0, hx430_1, hl430_1, hi430_1⟩ := at_T113 HR0.out x3_1 p430 q430; obtain rfl : ad428 = ad430 := (by injection e430); have HR430_1 := Aside0.mk hi430_1; have HC430_1 := Aside0.mk hl430_1; clear hi430_1 hl430_1; replace p430 := eq_true p430; replace q430 := eq_true q430; have ea_ := Option.some.inj (hx428_1.symm.trans hx430_1); injection ea_ with ea_ en_ ec_; subst ea_; subst ec_; clear en_; have p435 : 0 ≤ (x3_1 : Int) := of_decide_eq_true (by first | (with_reducible assumption) | assumption); have q435 : x3_1 < (l0.length : Int) := of_decide_eq_true (by first | (with_reducible assumption) | assumption); obtain ⟨ad435, A435_1, c435_1, e435, hx435_0, hx435_1, hl435_1, hi435_1⟩ := at_T113 HR0.out x3_1 p435 q435; obtain rfl : ad428 = ad435 := (by injection e435); have HR435_1 := Aside0.mk hi435_1; have HC435_1 := Aside0.mk hl435_1; clear hi435_1 hl435_1; replace p435 := eq_true p435; replace q435 := eq_true q435; have ea_ := Option.some.inj (hx428_1.symm.trans hx435_1); injection ea_ with ea_ en_ ec_; subst ea_; subst ec_; clear en_))
                  go_roundg k1
                  case measure => have := HK1.out; omega
                  case rel => exact ⟨(wrap64 (x3_1 + 1)), (by first | rfl | (simp; done) | (simp [*]; done)), H', ⟨by have := HK1.out; omega⟩, by repeat (first | exact Drawn0.refl _ | apply Drawn0.step)⟩
            · replace c6 := Bool.eq_false_iff.mpr c6
              subst c6
              have H1 : (some false) = some r := by rw [if_neg (show ¬ (false = true) by decide)] at H; exact H
              clear H
              have H := H1
              clear H1
              obtain rfl := Option.some.inj H
              have p428 : 0 ≤ (x3_1 : Int) := of_decide_eq_true (by first | (with_reducible assumption) | assumption)
              have q428 : x3_1 < (l0.length : Int) := of_decide_eq_true (by first | (with_reducible assumption) | assumption)
              obtain ⟨ad428, A428_1, c428_1, e428, hx428_0, hx428_1, hl428_1, hi428_1⟩ := at_T113 HR0.out x3_1 p428 q428
              cases e428
              have HR428_1 := Aside0.mk hi428_1
              have HC428_1 := Aside0.mk hl428_1
              clear hi428_1 hl428_1
              replace p428 := eq_true p428
              replace q428 := eq_true q428
              go_wp2_with (first | ((with_reducible refine gate_callee (f := 75) rfl ?_); refine goesL_ (some 18) rfl rfl Try.func75 (by kernel_rfl) rfl #[.int .i64 ((rd_T113 l0 x3_1).f0), .int .i64 0, .int .i64 64] rfl (by (try simp only [List.map_toArray, List.map_cons, List.map_nil]); first | done | rfl | (simp only [List.length_drop, List.length_take]; rfl)) ?_; (with_reducible refine (spec_l01In.calls ((rd_T113 l0 x3_1).f0) 0 64 false _ A5.out).mono ?_); rintro e w' ⟨rfl, ⟨nd, rfl⟩⟩; refine ⟨_, rfl, ?_⟩))
              go_ret
              exact ⟨by first | rfl | (simp; done) | (simp [*]; done), by repeat (first | exact Drawn0.refl _ | apply Drawn0.step)⟩
          · rw [if_neg c4] at H
            exact absurd H (by simp)
        · rw [if_neg c3] at H
          have c3b0 : decide (x3_1 < (l0.length : Int)) = false := decide_eq_false c3
          clear c3
          obtain rfl := Option.some.inj H
          go_wp2
          go_ret
          exact ⟨by first | rfl | (simp; done) | (simp [*]; done), by repeat (first | exact Drawn0.refl _ | apply Drawn0.step)⟩

end Go.Proofs.Ytpkhoanaifpopaa.P
