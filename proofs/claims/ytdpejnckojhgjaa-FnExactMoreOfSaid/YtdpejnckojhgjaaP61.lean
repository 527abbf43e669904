-- Printed by a program of this session's (wip/myprint.py), over the kit's printer, with texts of this session's own among it. Lean checks it.
import Derived.Test.YtdpejnckojhgjaaP0
import Derived.Test.YtdpejnckojhgjaaP2
import Derived.Test.YtdpejnckojhgjaaP60
namespace Go.Proofs.Ytdpejnckojhgjaa.P
open Go.RowKit Go.Proofs.YtdpejnckojhgjaaW.PrintWords Go.Proofs.YtdpejnckojhgjaaW.PrintLast Go.Proofs.YtdpejnckojhgjaaW.PrintMore
attribute [local go_sem] max2_int min2_int max_two min_two max_three min_three max_four min_four   -- for this text's walks alone
set_option linter.unusedVariables false
set_option linter.unusedSimpArgs false

/-! ### spec_SlotsOk: function 43 -/
def spec_SlotsOk.l0 : Nat → List (S62) → Int → Option (Bool)
  | 0, _, _ => none
  | k + 1, x0, x3 => if x3 < (x0.length : Int) then (if 0 ≤ x3 then ((spec_l01In.f ((rd_T62 x0 x3).f0) 0 64).bind fun t406 => (if t406 = true then (if ((rd_T62 x0 x3).f0) = 0 then (if (((rd_T62 x0 x3).f1).length : Int) > 0 then (some false) else (if ((rd_T62 x0 x3).f0) > 0 then ((spec_l07Words.f k ((rd_T62 x0 x3).f1)).bind fun t411 => (if t411 = true then (spec_SlotsOk.l0 k x0 (wrap64 (x3 + 1))) else (some false))) else (spec_SlotsOk.l0 k x0 (wrap64 (x3 + 1))))) else (if ((rd_T62 x0 x3).f0) > 0 then ((spec_l07Words.f k ((rd_T62 x0 x3).f1)).bind fun t414 => (if t414 = true then (spec_SlotsOk.l0 k x0 (wrap64 (x3 + 1))) else (some false))) else (spec_SlotsOk.l0 k x0 (wrap64 (x3 + 1))))) else (some false))) else (none)) else (some true)
def spec_SlotsOk.f (k : Nat) (l0 : List (S62)) : Option (Bool) := if (l0.length : Int) > 16 then (some false) else (spec_SlotsOk.l0 k l0 0)
theorem spec_SlotsOk.mono_l : ∀ k, (∀ y0 y1, LeO (spec_SlotsOk.l0 k y0 y1) (spec_SlotsOk.l0 (k + 1) y0 y1))
  | 0 => fun _ _ r h => by simp [spec_SlotsOk.l0] at h
  | k + 1 => by
    have ih0 := spec_SlotsOk.mono_l k
    · intro y0 y1
      unfold spec_SlotsOk.l0
      repeat' first
      | (with_reducible exact ih0 _ _)
      | (with_reducible exact spec_l07Words.mono _ _)
      | (with_reducible exact LeO.refl _)
      | (with_reducible exact LeO.none _)
      | (with_reducible refine LeO.ite ?_ ?_)
      | (with_reducible refine LeO.bind ?_ (fun _ => ?_))
      | exact ih0 _ _
      | exact spec_l07Words.mono _ _
      | exact LeO.none _
      | refine LeO.ite ?_ ?_
      | refine LeO.bind ?_ (fun _ => ?_)
theorem spec_SlotsOk.mono : ∀ a0 k, LeO (spec_SlotsOk.f k a0) (spec_SlotsOk.f (k + 1) a0) := by
  intro a0 k
  have ih0 := spec_SlotsOk.mono_l k
  unfold spec_SlotsOk.f
  repeat' first
      | (with_reducible exact ih0 _ _)
      | (with_reducible exact spec_l07Words.mono _ _)
      | (with_reducible exact LeO.refl _)
      | (with_reducible exact LeO.none _)
      | (with_reducible refine LeO.ite ?_ ?_)
      | (with_reducible refine LeO.bind ?_ (fun _ => ?_))
      | exact ih0 _ _
      | exact spec_l07Words.mono _ _
      | exact LeO.none _
      | refine LeO.ite ?_ ?_
      | refine LeO.bind ?_ (fun _ => ?_)
set_option maxHeartbeats 8000000 in
set_option maxRecDepth 100000 in
theorem spec_SlotsOk.calls (k : Nat) (A0 : Option Addr) (c0 : Nat) (l0 : List (S62)) (r : Bool) (w : World) (hr0 : Kd.C k62 w A0 l0.length l0) (hc0 : l0.length ≤ c0) (h : spec_SlotsOk.f k l0 = some r) :
    Calls Try.prog 43 #[.slice A0 l0.length c0] w fun e w' => e = .returned (.bool r) ∧ Drawn0 w w' := by
  have HR0 := Aside0.mk hr0
  have HC0 := Aside0.mk hc0
  clear hr0 hc0
  have H : (if (l0.length : Int) > 16 then (some false) else (spec_SlotsOk.l0 k l0 0)) = some r := h
  clear h
  by_cases c2 : (l0.length : Int) > 16
  · rw [if_pos c2] at H
    have c2b0 : decide (16 < (l0.length : Int)) = true := decide_eq_true c2
    have c2b1 : decide (16 < l0.length) = true := decide_eq_true (by omega)
    clear c2
    obtain rfl := Option.some.inj H
    go_enter Try.func43, Try.ntmps43
    go_wp2
    go_ret
    exact ⟨by first | rfl | (simp; done) | (simp [*]; done), by repeat (first | exact Drawn0.refl _ | apply Drawn0.step)⟩
  · rw [if_neg c2] at H
    have c2b0 : decide (16 < (l0.length : Int)) = false := decide_eq_false c2
    have c2b1 : decide (16 < l0.length) = false := decide_eq_false (by omega)
    clear c2
    have H' := Aside0.mk H
    clear H
    go_enter Try.func43, Try.ntmps43
    go_wp2
    go_loopg [3] k (fun kq v3 w' => ∃ (x3_1 : Int), v3 = .int .i64 x3_1 ∧ Aside0 (spec_SlotsOk.l0 kq l0 x3_1 = some r) ∧ Aside0 (kq ≤ k) ∧ Drawn0 w w')
    case atStart => exact ⟨(0), (by first | rfl | (simp; done) | (simp [*]; done)), H', ⟨Nat.le_refl _⟩, by repeat (first | exact Drawn0.refl _ | apply Drawn0.step)⟩
    case round =>
      clear H'
      try clear c2
      try clear c2b0
      try clear c2b1
      try clear p2
      obtain ⟨x3_1, rfl, HA, HK1, ⟨m1, rfl⟩⟩ := hrel
      cases gk with
      | zero => exact absurd HA.out (by simp [spec_SlotsOk.l0])
      | succ k1 =>
        have H := HA.out
        clear HA
        simp only [spec_SlotsOk.l0] at H
        by_cases c3 : x3_1 < (l0.length : Int)
        · rw [if_pos c3] at H
          have c3b0 : decide (x3_1 < (l0.length : Int)) = true := decide_eq_true c3
          clear c3
          by_cases c4 : 0 ≤ x3_1
          · rw [if_pos c4] at H
            have c4b0 : decide (0 ≤ x3_1) = true := decide_eq_true c4
            clear c4
            replace H := Option.bind_eq_some_iff.mp H
            obtain ⟨t406, A50, H⟩ := H
            replace H : (if t406 = true then (if ((rd_T62 l0 x3_1).f0) = 0 then (if (((rd_T62 l0 x3_1).f1).length : Int) > 0 then (some false) else (if ((rd_T62 l0 x3_1).f0) > 0 then ((spec_l07Words.f k1 ((rd_T62 l0 x3_1).f1)).bind fun t411 => (if t411 = true then (spec_SlotsOk.l0 k1 l0 (wrap64 (x3_1 + 1))) else (some false))) else (spec_SlotsOk.l0 k1 l0 (wrap64 (x3_1 + 1))))) else (if ((rd_T62 l0 x3_1).f0) > 0 then ((spec_l07Words.f k1 ((rd_T62 l0 x3_1).f1)).bind fun t414 => (if t414 = true then (spec_SlotsOk.l0 k1 l0 (wrap64 (x3_1 + 1))) else (some false))) else (spec_SlotsOk.l0 k1 l0 (wrap64 (x3_1 + 1))))) else (some false)) = some r := H
            have A5 := Aside0.mk A50
            clear A50
            by_cases c6 : t406 = true
            · subst c6
              have H1 : (if ((rd_T62 l0 x3_1).f0) = 0 then (if (((rd_T62 l0 x3_1).f1).length : Int) > 0 then (some false) else (if ((rd_T62 l0 x3_1).f0) > 0 then ((spec_l07Words.f k1 ((rd_T62 l0 x3_1).f1)).bind fun t411 => (if t411 = true then (spec_SlotsOk.l0 k1 l0 (wrap64 (x3_1 + 1))) else (some false))) else (spec_SlotsOk.l0 k1 l0 (wrap64 (x3_1 + 1))))) else (if ((rd_T62 l0 x3_1).f0) > 0 then ((spec_l07Words.f k1 ((rd_T62 l0 x3_1).f1)).bind fun t414 => (if t414 = true then (spec_SlotsOk.l0 k1 l0 (wrap64 (x3_1 + 1))) else (some false))) else (spec_SlotsOk.l0 k1 l0 (wrap64 (x3_1 + 1))))) = some r := by rw [if_pos rfl] at H; exact H
              clear H
              have H := H1
              clear H1
              by_cases c7 : ((rd_T62 l0 x3_1).f0) = 0
              · rw [if_pos c7] at H
                have c7b0 : (((rd_T62 l0 x3_1).f0) == 0) = true := beq_iff_eq.mpr c7
                have c7b1 : (((rd_T62 l0 x3_1).f0) != 0) = false := bne_eq_false_iff_eq.mpr c7
                clear c7
                by_cases c8 : (((rd_T62 l0 x3_1).f1).length : Int) > 0
                · rw [if_pos c8] at H
                  have c8b0 : decide (0 < (((rd_T62 l0 x3_1).f1).length : Int)) = true := decide_eq_true c8
                  have c8b1 : decide (0 < ((rd_T62 l0 x3_1).f1).length) = true := decide_eq_true (by omega)
                  clear c8
                  obtain rfl := Option.some.inj H
                  have p405 : 0 ≤ (x3_1 : Int) := of_decide_eq_true (by first | (with_reducible assumption) | assumption)
                  have q405 : x3_1 < (l0.length : Int) := of_decide_eq_true (by first | (with_reducible assumption) | assumption)
                  obtain ⟨ad405, A405_1, c405_1, e405, hx405_0, hx405_1, hl405_1, hi405_1⟩ := at_T62 HR0.out x3_1 p405 q405
                  cases e405
                  have HR405_1 := Aside0.mk hi405_1
                  have HC405_1 := Aside0.mk hl405_1
                  clear hi405_1 hl405_1
                  replace p405 := eq_true p405
                  replace q405 := eq_true q405
                  go_wp2_with (first | ((with_reducible refine gate_callee (f := 72) rfl ?_); refine goesL_ (some 18) rfl rfl Try.func72 (by kernel_rfl) rfl #[.int .i64 ((rd_T62 l0 x3_1).f0), .int .i64 0, .int .i64 64] rfl (by (try simp only [List.map_toArray, List.map_cons, List.map_nil]); first | done | rfl | (simp only [List.length_drop, List.length_take]; rfl)) ?_; (with_reducible refine (spec_l01In.calls ((rd_T62 l0 x3_1).f0) 0 64 true _ A5.out).mono ?_); rintro e w' ⟨rfl, ⟨nd, rfl⟩⟩; refine ⟨_, rfl, ?_⟩; have p407 : 0 ≤ (x3_1 : Int) := of_decide_eq_true (by first | (with_reducible assumption) | assumption); have q407 : x3_1 < (l0.length : Int) := of_decide_eq_true (by first | (with_reducible assumption) | assumption); obtain ⟨ad407, A407_1, c407_1, e407, hx407_0, hx407_1, hl407_1, hi407_1⟩ := at_T62 HR0.out x3_1 p407 q407; obtain rfl : ad405 = ad407 := (by injection e407); have HR407_1 := Aside0.mk hi407_1; have HC407_1 := Aside0.mk hl407_1; clear hi407_1 hl407_1; replace p407 := eq_true p407; replace q407 := eq_true q407; have ea_ := Option.some.inj (hx405_1.symm.trans hx407_1); injection ea_ with ea_ en_ ec_; subst ea_; subst ec_; clear en_; have p408 : 0 ≤ (x3_1 : Int) := of_decide_eq_true (by first | (with_reducible assumption) | assumption); have q408 : x3_1 < (l0.length : Int) := of_decide_eq_true (by first | (with_reducible assumption) | assumption); obtain ⟨ad408, A408_1, c408_1, e408, hx408_0, hx408_1, hl408_1, hi408_1⟩ := at_T62 HR0.out x3_1 p408 q408; obtain rfl : ad405 = ad408 := (by injection e408); have HR408_1 := Aside0.mk hi408_1; have HC408_1 := Aside0.mk hl408_1; clear hi408_1 hl408_1; replace p408 := eq_true p408; replace q408 := eq_true q408; have ea_ := Option.some.inj (hx405_1.symm.trans hx408_1); injection ea_ with ea_ en_ ec_; subst ea_; subst ec_; clear en_))
                  go_ret
                  exact ⟨by first | rfl | (simp; done) | (simp [*]; done), by repeat (first | exact Drawn0.refl _ | apply Drawn0.step)⟩
                · rw [if_neg c8] at H
                  have c8b0 : decide (0 < (((rd_T62 l0 x3_1).f1).length : Int)) = false := decide_eq_false c8
                  have c8b1 : decide (0 < ((rd_T62 l0 x3_1).f1).length) = false := decide_eq_false (by omega)
                  clear c8
                  by_cases c9 : ((rd_T62 l0 x3_1).f0) > 0
                  · rw [if_pos c9] at H
                    have c9b0 : decide (0 < ((rd_T62 l0 x3_1).f0)) = true := decide_eq_true c9
                    clear c9
                    replace H := Option.bind_eq_some_iff.mp H
                    obtain ⟨t411, A100, H⟩ := H
                    replace H : (if t411 = true then (spec_SlotsOk.l0 k1 l0 (wrap64 (x3_1 + 1))) else (some false)) = some r := H
                    have A10 := Aside0.mk A100
                    clear A100
                    by_cases c11 : t411 = true
                    · subst c11
                      have H1 : (spec_SlotsOk.l0 k1 l0 (wrap64 (x3_1 + 1))) = some r := by rw [if_pos rfl] at H; exact H
                      clear H
                      have H := H1
                      clear H1
                      have H' := Aside0.mk H
                      clear H
                      have p405 : 0 ≤ (x3_1 : Int) := of_decide_eq_true (by first | (with_reducible assumption) | assumption)
                      have q405 : x3_1 < (l0.length : Int) := of_decide_eq_true (by first | (with_reducible assumption) | assumption)
                      obtain ⟨ad405, A405_1, c405_1, e405, hx405_0, hx405_1, hl405_1, hi405_1⟩ := at_T62 HR0.out x3_1 p405 q405
                      cases e405
                      have HR405_1 := Aside0.mk hi405_1
                      have HC405_1 := Aside0.mk hl405_1
                      clear hi405_1 hl405_1
                      replace p405 := eq_true p405
                      replace q405 := eq_true q405
                      go_wp2_with (first | ((with_reducible refine gate_callee (f := 72) rfl ?_); refine goesL_ (some 18) rfl rfl Try.func72 (by kernel_rfl) rfl #[.int .i64 ((rd_T62 l0 x3_1).f0), .int .i64 0, .int .i64 64] rfl (by (try simp only [List.map_toArray, List.map_cons, List.map_nil]); first | done | rfl | (simp only [List.length_drop, List.length_take]; rfl)) ?_; (with_reducible refine (spec_l01In.calls ((rd_T62 l0 x3_1).f0) 0 64 true _ A5.out).mono ?_); rintro e w' ⟨rfl, ⟨nd, rfl⟩⟩; refine ⟨_, rfl, ?_⟩; have p407 : 0 ≤ (x3_1 : Int) := of_decide_eq_true (by first | (with_reducible assumption) | assumption); have q407 : x3_1 < (l0.length : Int) := of_decide_eq_true (by first | (with_reducible assumption) | assumption); obtain ⟨ad407, A407_1, c407_1, e407, hx407_0, hx407_1, hl407_1, hi407_1⟩ := at_T62 HR0.out x3_1 p407 q407; obtain rfl : ad405 = ad407 := (by injection e407); have HR407_1 := Aside0.mk hi407_1; have HC407_1 := Aside0.mk hl407_1; clear hi407_1 hl407_1; replace p407 := eq_true p407; replace q407 := eq_true q407; have ea_ := Option.some.inj (hx405_1.symm.trans hx407_1); injection ea_ with ea_ en_ ec_; subst ea_; subst ec_; clear en_; have p408 : 0 ≤ (x3_1 : Int) := of_decide_eq_true (by first | (with_reducible assumption) | assumption); have q408 : x3_1 < (l0.length : Int) := of_decide_eq_true (by first | (with_reducible assumption) | assumption); obtain ⟨ad408, A408_1, c408_1, e408, hx408_0, hx408_1, hl408_1, hi408_1⟩ := at_T62 HR0.out x3_1 p408 q408; obtain rfl : ad405 = ad408 := (by injection e408); have HR408_1 := Aside0.mk hi408_1; have HC408_1 := Aside0.mk hl408_1; clear hi408_1 hl408_1; replace p408 := eq_true p408; replace q408 := eq_true q408; have ea_ := Option.some.inj (hx405_1.symm.trans hx408_1); injection ea_ with ea_ en_ ec_; subst ea_; subst ec_; clear en_; have p409 : 0 ≤ (x3_1 : Int) := of_decide_eq_true (by first | (with_reducible assumption) | assumption); have q409 : x3_1 < (l0.length : Int) := of_decide_eq_true (by first | (with_reducible assumption) | assumption); obtain ⟨ad409, A409_1, c409_1, e409, hx409_0, hx409_1, hl409_1, hi409_1⟩ := at_T62 HR0.out x3_1 p409 q409; obtain rfl : ad405 = ad409 := (by injection e409); have HR409_1 := Aside0.mk hi409_1; have HC409_1 := Aside0.mk hl409_1; clear hi409_1 hl409_1; replace p409 := eq_true p409; replace q409 := eq_true q409; have ea_ := Option.some.inj (hx405_1.symm.trans hx409_1); injection ea_ with ea_ en_ ec_; subst ea_; subst ec_; clear en_; have p410 : 0 ≤ (x3_1 : Int) := of_decide_eq_true (by first | (with_reducible assumption) | assumption); have q410 : x3_1 < (l0.length : Int) := of_decide_eq_true (by first | (with_reducible assumption) | assumption); obtain ⟨ad410, A410_1, c410_1, e410, hx410_0, hx410_1, hl410_1, hi410_1⟩ := at_T62 HR0.out x3_1 p410 q410; obtain rfl : ad405 = ad410 := (by injection e410); have HR410_1 := Aside0.mk hi410_1; have HC410_1 := Aside0.mk hl410_1; clear hi410_1 hl410_1; replace p410 := eq_true p410; replace q410 := eq_true q410; have ea_ := Option.some.inj (hx405_1.symm.trans hx410_1); injection ea_ with ea_ en_ ec_; subst ea_; subst ec_; clear en_) | (go_at_call 101; (with_reducible refine (spec_l07Words.calls k1 _ _ ((rd_T62 l0 x3_1).f1) true _ ?side1 ?side2 A10.out).mono ?_); (case side1 => repeat (first | exact HR410_1.out | (with_reducible refine Kd.C_alloc ?_ _) | (with_reducible refine Kd.C_drewN ?_ _) | (with_reducible refine Kd.C_drew ?_))); (case side2 => exact HC410_1.out); rintro e w' ⟨rfl, ⟨nd, rfl⟩⟩))
                      go_roundg k1
                      case measure => have := HK1.out; omega
                      case rel => exact ⟨(wrap64 (x3_1 + 1)), (by first | rfl | (simp; done) | (simp [*]; done)), H', ⟨by have := HK1.out; omega⟩, by repeat (first | exact Drawn0.refl _ | apply Drawn0.step)⟩
                    · replace c11 := Bool.eq_false_iff.mpr c11
                      subst c11
                      have H1 : (some false) = some r := by rw [if_neg (show ¬ (false = true) by decide)] at H; exact H
                      clear H
                      have H := H1
                      clear H1
                      obtain rfl := Option.some.inj H
                      have p405 : 0 ≤ (x3_1 : Int) := of_decide_eq_true (by first | (with_reducible assumption) | assumption)
                      have q405 : x3_1 < (l0.length : Int) := of_decide_eq_true (by first | (with_reducible assumption) | assumption)
                      obtain ⟨ad405, A405_1, c405_1, e405, hx405_0, hx405_1, hl405_1, hi405_1⟩ := at_T62 HR0.out x3_1 p405 q405
                      cases e405
                      have HR405_1 := Aside0.mk hi405_1
                      have HC405_1 := Aside0.mk hl405_1
                      clear hi405_1 hl405_1
                      replace p405 := eq_true p405
                      replace q405 := eq_true q405
                      go_wp2_with (first | ((with_reducible refine gate_callee (f := 72) rfl ?_); refine goesL_ (some 18) rfl rfl Try.func72 (by kernel_rfl) rfl #[.int .i64 ((rd_T62 l0 x3_1).f0), .int .i64 0, .int .i64 64] rfl (by (try simp only [List.map_toArray, List.map_cons, List.map_nil]); first | done | rfl | (simp only [List.length_drop, List.length_take]; rfl)) ?_; (with_reducible refine (spec_l01In.calls ((rd_T62 l0 x3_1).f0) 0 64 true _ A5.out).mono ?_); rintro e w' ⟨rfl, ⟨nd, rfl⟩⟩; refine ⟨_, rfl, ?_⟩; have p407 : 0 ≤ (x3_1 : Int) := of_decide_eq_true (by first | (with_reducible assumption) | assumption); have q407 : x3_1 < (l0.length : Int) := of_decide_eq_true (by first | (with_reducible assumption) | assumption); obtain ⟨ad407, A407_1, c407_1, e407, hx407_0, hx407_1, hl407_1, hi407_1⟩ := at_T62 HR0.out x3_1 p407 q407; obtain rfl : ad405 = ad407 := (by injection e407); have HR407_1 := Aside0.mk hi407_1; have HC407_1 := Aside0.mk hl407_1; clear hi407_1 hl407_1; replace p407 := eq_true p407; replace q407 := eq_true q407; have ea_ := Option.some.inj (hx405_1.symm.trans hx407_1); injection ea_ with ea_ en_ ec_; subst ea_; subst ec_; clear en_; have p408 : 0 ≤ (x3_1 : Int) := of_decide_eq_true (by first | (with_reducible assumption) | assumption); have q408 : x3_1 < (l0.length : Int) := of_decide_eq_true (by first | (with_reducible assumption) | assumption); obtain ⟨ad408, A408_1, c408_1, e408, hx408_0, hx408_1, hl408_1, hi408_1⟩ := at_T62 HR0.out x3_1 p408 q408; obtain rfl : ad405 = ad408 := (by injection e408); have HR408_1 := Aside0.mk hi408_1; have HC408_1 := Aside0.mk hl408_1; clear hi408_1 hl408_1; replace p408 := eq_true p408; replace q408 := eq_true q408; have ea_ := Option.some.inj (hx405_1.symm.trans hx408_1); injection ea_ with ea_ en_ ec_; subst ea_; subst ec_; clear en_; have p409 : 0 ≤ (x3_1 : Int) := of_decide_eq_true (by first | (with_reducible assumption) | assumption); have q409 : x3_1 < (l0.length : Int) := of_decide_eq_true (by first | (with_reducible assumption) | assumption); obtain ⟨ad409, A409_1, c409_1, e409, hx409_0, hx409_1, hl409_1, hi409_1⟩ := at_T62 HR0.out x3_1 p409 q409; obtain rfl : ad405 = ad409 := (by injection e409); have HR409_1 := Aside0.mk hi409_1; have HC409_1 := Aside0.mk hl409_1; clear hi409_1 hl409_1; replace p409 := eq_true p409; replace q409 := eq_true q409; have ea_ := Option.some.inj (hx405_1.symm.trans hx409_1); injection ea_ with ea_ en_ ec_; subst ea_; subst ec_; clear en_; have p410 : 0 ≤ (x3_1 : Int) := of_decide_eq_true (by first | (with_reducible assumption) | assumption); have q410 : x3_1 < (l0.length : Int) := of_decide_eq_true (by first | (with_reducible assumption) | assumption); obtain ⟨ad410, A410_1, c410_1, e410, hx410_0, hx410_1, hl410_1, hi410_1⟩ := at_T62 HR0.out x3_1 p410 q410; obtain rfl : ad405 = ad410 := (by injection e410); have HR410_1 := Aside0.mk hi410_1; have HC410_1 := Aside0.mk hl410_1; clear hi410_1 hl410_1; replace p410 := eq_true p410; replace q410 := eq_true q410; have ea_ := Option.some.inj (hx405_1.symm.trans hx410_1); injection ea_ with ea_ en_ ec_; subst ea_; subst ec_; clear en_) | (go_at_call 101; (with_reducible refine (spec_l07Words.calls k1 _ _ ((rd_T62 l0 x3_1).f1) false _ ?side1 ?side2 A10.out).mono ?_); (case side1 => repeat (first | exact HR410_1.out | (with_reducible refine Kd.C_alloc ?_ _) | (with_reducible refine Kd.C_drewN ?_ _) | (with_reducible refine Kd.C_drew ?_))); (case side2 => exact HC410_1.out); rintro e w' ⟨rfl, ⟨nd, rfl⟩⟩))
                      go_ret
                      exact ⟨by first | rfl | (simp; done) | (simp [*]; done), by repeat (first | exact Drawn0.refl _ | apply Drawn0.step)⟩
                  · rw [if_neg c9] at H
                    have c9b0 : decide (0 < ((rd_T62 l0 x3_1).f0)) = false := decide_eq_false c9
                    clear c9
                    have H' := Aside0.mk H
                    clear H
                    have p405 : 0 ≤ (x3_1 : Int) := of_decide_eq_true (by first | (with_reducible assumption) | assumption)
                    have q405 : x3_1 < (l0.length : Int) := of_decide_eq_true (by first | (with_reducible assumption) | assumption)
                    obtain ⟨ad405, A405_1, c405_1, e405, hx405_0, hx405_1, hl405_1, hi405_1⟩ := at_T62 HR0.out x3_1 p405 q405
                    cases e405
                    have HR405_1 := Aside0.mk hi405_1
                    have HC405_1 := Aside0.mk hl405_1
                    clear hi405_1 hl405_1
                    replace p405 := eq_true p405
                    replace q405 := eq_true q405
                    go_wp2_with (first | ((with_reducible refine gate_callee (f := 72) rfl ?_); refine goesL_ (some 18) rfl rfl Try.func72 (by kernel_rfl) rfl #[.int .i64 ((rd_T62 l0 x3_1).f0), .int .i64 0, .int .i64 64] rfl (by (try simp only [List.map_toArray, List.map_cons, List.map_nil]); first | done | rfl | (simp only [List.length_drop, List.length_take]; rfl)) ?_; (with_reducible refine (spec_l01In.calls ((rd_T62 l0 x3_1).f0) 0 64 true _ A5.out).mono ?_); rintro e w' ⟨rfl, ⟨nd, rfl⟩⟩; refine ⟨_, rfl, ?_⟩; have p407 : 0 ≤ (x3_1 : Int) := of_decide_eq_true (by first | (with_reducible assumption) | assumption); have q407 : x3_1 < (l0.length : Int) := of_decide_eq_true (by first | (with_reducible assumption) | assumption); obtain ⟨ad407, A407_1, c407_1, e407, hx407_0, hx407_1, hl407_1, hi407_1⟩ := at_T62 HR0.out x3_1 p407 q407; obtain rfl : ad405 = ad407 := (by injection e407); have HR407_1 := Aside0.mk hi407_1; have HC407_1 := Aside0.mk hl407_1; clear hi407_1 hl407_1; replace p407 := eq_true p407; replace q407 := eq_true q407; have ea_ := Option.some.inj (hx405_1.symm.trans hx407_1); injection ea_ with ea_ en_ ec_; subst ea_; subst ec_; clear en_; have p408 : 0 ≤ (x3_1 : Int) := of_decide_eq_true (by first | (with_reducible assumption) | assumption); have q408 : x3_1 < (l0.length : Int) := of_decide_eq_true (by first | (with_reducible assumption) | assumption); obtain ⟨ad408, A408_1, c408_1, e408, hx408_0, hx408_1, hl408_1, hi408_1⟩ := at_T62 HR0.out x3_1 p408 q408; obtain rfl : ad405 = ad408 := (by injection e408); have HR408_1 := Aside0.mk hi408_1; have HC408_1 := Aside0.mk hl408_1; clear hi408_1 hl408_1; replace p408 := eq_true p408; replace q408 := eq_true q408; have ea_ := Option.some.inj (hx405_1.symm.trans hx408_1); injection ea_ with ea_ en_ ec_; subst ea_; subst ec_; clear en_; have p409 : 0 ≤ (x3_1 : Int) := of_decide_eq_true (by first | (with_reducible assumption) | assumption); have q409 : x3_1 < (l0.length : Int) := of_decide_eq_true (by first | (with_reducible assumption) | assumption); obtain ⟨ad409, A409_1, c409_1, e409, hx409_0, hx409_1, hl409_1, hi409_1⟩ := at_T62 HR0.out x3_1 p409 q409; obtain rfl : ad405 = ad409 := (by injection e409); have HR409_1 := Aside0.mk hi409_1; have HC409_1 := Aside0.mk hl409_1; clear hi409_1 hl409_1; replace p409 := eq_true p409; replace q409 := eq_true q409; have ea_ := Option.some.inj (hx405_1.symm.trans hx409_1); injection ea_ with ea_ en_ ec_; subst ea_; subst ec_; clear en_))
                    go_roundg k1
                    case measure => have := HK1.out; omega
                    case rel => exact ⟨(wrap64 (x3_1 + 1)), (by first | rfl | (simp; done) | (simp [*]; done)), H', ⟨by have := HK1.out; omega⟩, by repeat (first | exact Drawn0.refl _ | apply Drawn0.step)⟩
              · rw [if_neg c7] at H
                have c7b0 : (((rd_T62 l0 x3_1).f0) == 0) = false := beq_eq_false_iff_ne.mpr c7
                have c7b1 : (((rd_T62 l0 x3_1).f0) != 0) = true := bne_iff_ne.mpr c7
                by_cases c12 : ((rd_T62 l0 x3_1).f0) > 0
                · rw [if_pos c12] at H
                  have c12b0 : decide (0 < ((rd_T62 l0 x3_1).f0)) = true := decide_eq_true c12
                  clear c12
                  replace H := Option.bind_eq_some_iff.mp H
                  obtain ⟨t414, A130, H⟩ := H
                  replace H : (if t414 = true then (spec_SlotsOk.l0 k1 l0 (wrap64 (x3_1 + 1))) else (some false)) = some r := H
                  have A13 := Aside0.mk A130
                  clear A130
                  by_cases c14 : t414 = true
                  · subst c14
                    have H1 : (spec_SlotsOk.l0 k1 l0 (wrap64 (x3_1 + 1))) = some r := by rw [if_pos rfl] at H; exact H
                    clear H
                    have H := H1
                    clear H1
                    have H' := Aside0.mk H
                    clear H
                    have p405 : 0 ≤ (x3_1 : Int) := of_decide_eq_true (by first | (with_reducible assumption) | assumption)
                    have q405 : x3_1 < (l0.length : Int) := of_decide_eq_true (by first | (with_reducible assumption) | assumption)
                    obtain ⟨ad405, A405_1, c405_1, e405, hx405_0, hx405_1, hl405_1, hi405_1⟩ := at_T62 HR0.out x3_1 p405 q405
                    cases e405
                    have HR405_1 := Aside0.mk hi405_1
                    have HC405_1 := Aside0.mk hl405_1
                    clear hi405_1 hl405_1
                    replace p405 := eq_true p405
                    replace q405 := eq_true q405
                    go_wp2_with (first | ((with_reducible refine gate_callee (f := 72) rfl ?_); refine goesL_ (some 18) rfl rfl Try.func72 (by kernel_rfl) rfl #[.int .i64 ((rd_T62 l0 x3_1).f0), .int .i64 0, .int .i64 64] rfl (by (try simp only [List.map_toArray, List.map_cons, List.map_nil]); first | done | rfl | (simp only [List.length_drop, List.length_take]; rfl)) ?_; (with_reducible refine (spec_l01In.calls ((rd_T62 l0 x3_1).f0) 0 64 true _ A5.out).mono ?_); rintro e w' ⟨rfl, ⟨nd, rfl⟩⟩; refine ⟨_, rfl, ?_⟩; have p407 : 0 ≤ (x3_1 : Int) := of_decide_eq_true (by first | (with_reducible assumption) | assumption); have q407 : x3_1 < (l0.length : Int) := of_decide_eq_true (by first | (with_reducible assumption) | assumption); obtain ⟨ad407, A407_1, c407_1, e407, hx407_0, hx407_1, hl407_1, hi407_1⟩ := at_T62 HR0.out x3_1 p407 q407; obtain rfl : ad405 = ad407 := (by injection e407); have HR407_1 := Aside0.mk hi407_1; have HC407_1 := Aside0.mk hl407_1; clear hi407_1 hl407_1; replace p407 := eq_true p407; replace q407 := eq_true q407; have ea_ := Option.some.inj (hx405_1.symm.trans hx407_1); injection ea_ with ea_ en_ ec_; subst ea_; subst ec_; clear en_; have p412 : 0 ≤ (x3_1 : Int) := of_decide_eq_true (by first | (with_reducible assumption) | assumption); have q412 : x3_1 < (l0.length : Int) := of_decide_eq_true (by first | (with_reducible assumption) | assumption); obtain ⟨ad412, A412_1, c412_1, e412, hx412_0, hx412_1, hl412_1, hi412_1⟩ := at_T62 HR0.out x3_1 p412 q412; obtain rfl : ad405 = ad412 := (by injection e412); have HR412_1 := Aside0.mk hi412_1; have HC412_1 := Aside0.mk hl412_1; clear hi412_1 hl412_1; replace p412 := eq_true p412; replace q412 := eq_true q412; have ea_ := Option.some.inj (hx405_1.symm.trans hx412_1); injection ea_ with ea_ en_ ec_; subst ea_; subst ec_; clear en_; have p413 : 0 ≤ (x3_1 : Int) := of_decide_eq_true (by first | (with_reducible assumption) | assumption); have q413 : x3_1 < (l0.length : Int) := of_decide_eq_true (by first | (with_reducible assumption) | assumption); obtain ⟨ad413, A413_1, c413_1, e413, hx413_0, hx413_1, hl413_1, hi413_1⟩ := at_T62 HR0.out x3_1 p413 q413; obtain rfl : ad405 = ad413 := (by injection e413); have HR413_1 := Aside0.mk hi413_1; have HC413_1 := Aside0.mk hl413_1; clear hi413_1 hl413_1; replace p413 := eq_true p413; replace q413 := eq_true q413; have ea_ := Option.some.inj (hx405_1.symm.trans hx413_1); injection ea_ with ea_ en_ ec_; subst ea_; subst ec_; clear en_) | (go_at_call 101; (with_reducible refine (spec_l07Words.calls k1 _ _ ((rd_T62 l0 x3_1).f1) true _ ?side1 ?side2 A13.out).mono ?_); (case side1 => repeat (first | exact HR413_1.out | (with_reducible refine Kd.C_alloc ?_ _) | (with_reducible refine Kd.C_drewN ?_ _) | (with_reducible refine Kd.C_drew ?_))); (case side2 => exact HC413_1.out); rintro e w' ⟨rfl, ⟨nd, rfl⟩⟩))
                    go_roundg k1
                    case measure => have := HK1.out; omega
                    case rel => exact ⟨(wrap64 (x3_1 + 1)), (by first | rfl | (simp; done) | (simp [*]; done)), H', ⟨by have := HK1.out; omega⟩, by repeat (first | exact Drawn0.refl _ | apply Drawn0.step)⟩
                  · replace c14 := Bool.eq_false_iff.mpr c14
                    subst c14
                    have H1 : (some false) = some r := by rw [if_neg (show ¬ (false = true) by decide)] at H; exact H
                    clear H
                    have H := H1
                    clear H1
                    obtain rfl := Option.some.inj H
                    have p405 : 0 ≤ (x3_1 : Int) := of_decide_eq_true (by first | (with_reducible assumption) | assumption)
                    have q405 : x3_1 < (l0.length : Int) := of_decide_eq_true (by first | (with_reducible assumption) | assumption)
                    obtain ⟨ad405, A405_1, c405_1, e405, hx405_0, hx405_1, hl405_1, hi405_1⟩ := at_T62 HR0.out x3_1 p405 q405
                    cases e405
                    have HR405_1 := Aside0.mk hi405_1
                    have HC405_1 := Aside0.mk hl405_1
                    clear hi405_1 hl405_1
                    replace p405 := eq_true p405
                    replace q405 := eq_true q405
                    go_wp2_with (first | ((with_reducible refine gate_callee (f := 72) rfl ?_); refine goesL_ (some 18) rfl rfl Try.func72 (by kernel_rfl) rfl #[.int .i64 ((rd_T62 l0 x3_1).f0), .int .i64 0, .int .i64 64] rfl (by (try simp only [List.map_toArray, List.map_cons, List.map_nil]); first | done | rfl | (simp only [List.length_drop, List.length_take]; rfl)) ?_; (with_reducible refine (spec_l01In.calls ((rd_T62 l0 x3_1).f0) 0 64 true _ A5.out).mono ?_); rintro e w' ⟨rfl, ⟨nd, rfl⟩⟩; refine ⟨_, rfl, ?_⟩; have p407 : 0 ≤ (x3_1 : Int) := of_decide_eq_true (by first | (with_reducible assumption) | assumption); have q407 : x3_1 < (l0.length : Int) := of_decide_eq_true (by first | (with_reducible assumption) | assumption); obtain ⟨ad407, A407_1, c407_1, e407, hx407_0, hx407_1, hl407_1, hi407_1⟩ := at_T62 HR0.out x3_1 p407 q407; obtain rfl : ad405 = ad407 := (by injection e407); have HR407_1 := Aside0.mk hi407_1; have HC407_1 := Aside0.mk hl407_1; clear hi407_1 hl407_1; replace p407 := eq_true p407; replace q407 := eq_true q407; have ea_ := Option.some.inj (hx405_1.symm.trans hx407_1); injection ea_ with ea_ en_ ec_; subst ea_; subst ec_; clear en_; have p412 : 0 ≤ (x3_1 : Int) := of_decide_eq_true (by first | (with_reducible assumption) | assumption); have q412 : x3_1 < (l0.length : Int) := of_decide_eq_true (by first | (with_reducible assumption) | assumption); obtain ⟨ad412, A412_1, c412_1, e412, hx412_0, hx412_1, hl412_1, hi412_1⟩ := at_T62 HR0.out x3_1 p412 q412; obtain rfl : ad405 = ad412 := (by injection e412); have HR412_1 := Aside0.mk hi412_1; have HC412_1 := Aside0.mk hl412_1; clear hi412_1 hl412_1; replace p412 := eq_true p412; replace q412 := eq_true q412; have ea_ := Option.some.inj (hx405_1.symm.trans hx412_1); injection ea_ with ea_ en_ ec_; subst ea_; subst ec_; clear en_; have p413 : 0 ≤ (x3_1 : Int) := of_decide_eq_true (by first | (with_reducible assumption) | assumption); have q413 : x3_1 < (l0.length : Int) := of_decide_eq_true (by first | (with_reducible assumption) | assumption); obtain ⟨ad413, A413_1, c413_1, e413, hx413_0, hx413_1, hl413_1, hi413_1⟩ := at_T62 HR0.out x3_1 p413 q413; obtain rfl : ad405 = ad413 := (by injection e413); have HR413_1 := Aside0.mk hi413_1; have HC413_1 := Aside0.mk hl413_1; clear hi413_1 hl413_1; replace p413 := eq_true p413; replace q413 := eq_true q413; have ea_ := Option.some.inj (hx405_1.symm.trans hx413_1); injection ea_ with ea_ en_ ec_; subst ea_; subst ec_; clear en_) | (go_at_call 101; (with_reducible refine (spec_l07Words.calls k1 _ _ ((rd_T62 l0 x3_1).f1) false _ ?side1 ?side2 A13.out).mono ?_); (case side1 => repeat (first | exact HR413_1.out | (with_reducible refine Kd.C_alloc ?_ _) | (with_reducible refine Kd.C_drewN ?_ _) | (with_reducible refine Kd.C_drew ?_))); (case side2 => exact HC413_1.out); rintro e w' ⟨rfl, ⟨nd, rfl⟩⟩))
                    go_ret
                    exact ⟨by first | rfl | (simp; done) | (simp [*]; done), by repeat (first | exact Drawn0.refl _ | apply Drawn0.step)⟩
                · rw [if_neg c12] at H
                  have c12b0 : decide (0 < ((rd_T62 l0 x3_1).f0)) = false := decide_eq_false c12
                  clear c12
                  have H' := Aside0.mk H
                  clear H
                  have p405 : 0 ≤ (x3_1 : Int) := of_decide_eq_true (by first | (with_reducible assumption) | assumption)
                  have q405 : x3_1 < (l0.length : Int) := of_decide_eq_true (by first | (with_reducible assumption) | assumption)
                  obtain ⟨ad405, A405_1, c405_1, e405, hx405_0, hx405_1, hl405_1, hi405_1⟩ := at_T62 HR0.out x3_1 p405 q405
                  cases e405
                  have HR405_1 := Aside0.mk hi405_1
                  have HC405_1 := Aside0.mk hl405_1
                  clear hi405_1 hl405_1
                  replace p405 := eq_true p405
                  replace q405 := eq_true q405
                  go_wp2_with (first | ((with_reducible refine gate_callee (f := 72) rfl ?_); refine goesL_ (some 18) rfl rfl Try.func72 (by kernel_rfl) rfl #[.int .i64 ((rd_T62 l0 x3_1).f0), .int .i64 0, .int .i64 64] rfl (by (try simp only [List.map_toArray, List.map_cons, List.map_nil]); first | done | rfl | (simp only [List.length_drop, List.length_take]; rfl)) ?_; (with_reducible refine (spec_l01In.calls ((rd_T62 l0 x3_1).f0) 0 64 true _ A5.out).mono ?_); rintro e w' ⟨rfl, ⟨nd, rfl⟩⟩; refine ⟨_, rfl, ?_⟩; have p407 : 0 ≤ (x3_1 : Int) := of_decide_eq_true (by first | (with_reducible assumption) | assumption); have q407 : x3_1 < (l0.length : Int) := of_decide_eq_true (by first | (with_reducible assumption) | assumption); obtain ⟨ad407, A407_1, c407_1, e407, hx407_0, hx407_1, hl407_1, hi407_1⟩ := at_T62 HR0.out x3_1 p407 q407; obtain rfl : ad405 = ad407 := (by injection e407); have HR407_1 := Aside0.mk hi407_1; have HC407_1 := Aside0.mk hl407_1; clear hi407_1 hl407_1; replace p407 := eq_true p407; replace q407 := eq_true q407; have ea_ := Option.some.inj (hx405_1.symm.trans hx407_1); injection ea_ with ea_ en_ ec_; subst ea_; subst ec_; clear en_; have p412 : 0 ≤ (x3_1 : Int) := of_decide_eq_true (by first | (with_reducible assumption) | assumption); have q412 : x3_1 < (l0.length : Int) := of_decide_eq_true (by first | (with_reducible assumption) | assumption); obtain ⟨ad412, A412_1, c412_1, e412, hx412_0, hx412_1, hl412_1, hi412_1⟩ := at_T62 HR0.out x3_1 p412 q412; obtain rfl : ad405 = ad412 := (by injection e412); have HR412_1 := Aside0.mk hi412_1; have HC412_1 := Aside0.mk hl412_1; clear hi412_1 hl412_1; replace p412 := eq_true p412; replace q412 := eq_true q412; have ea_ := Option.some.inj (hx405_1.symm.trans hx412_1); injection ea_ with ea_ en_ ec_; subst ea_; subst ec_; clear en_))
                  go_roundg k1
                  case measure => have := HK1.out; omega
                  case rel => exact ⟨(wrap64 (x3_1 + 1)), (by first | rfl | (simp; done) | (simp [*]; done)), H', ⟨by have := HK1.out; omega⟩, by repeat (first | exact Drawn0.refl _ | apply Drawn0.step)⟩
            · replace c6 := Bool.eq_false_iff.mpr c6
              subst c6
              have H1 : (some false) = some r := by rw [if_neg (show ¬ (false = true) by decide)] at H; exact H
              clear H
              have H := H1
              clear H1
              obtain rfl := Option.some.inj H
              have p405 : 0 ≤ (x3_1 : Int) := of_decide_eq_true (by first | (with_reducible assumption) | assumption)
              have q405 : x3_1 < (l0.length : Int) := of_decide_eq_true (by first | (with_reducible assumption) | assumption)
              obtain ⟨ad405, A405_1, c405_1, e405, hx405_0, hx405_1, hl405_1, hi405_1⟩ := at_T62 HR0.out x3_1 p405 q405
              cases e405
              have HR405_1 := Aside0.mk hi405_1
              have HC405_1 := Aside0.mk hl405_1
              clear hi405_1 hl405_1
              replace p405 := eq_true p405
              replace q405 := eq_true q405
              go_wp2_with (first | ((with_reducible refine gate_callee (f := 72) rfl ?_); refine goesL_ (some 18) rfl rfl Try.func72 (by kernel_rfl) rfl #[.int .i64 ((rd_T62 l0 x3_1).f0), .int .i64 0, .int .i64 64] rfl (by (try simp only [List.map_toArray, List.map_cons, List.map_nil]); first | done | rfl | (simp only [List.length_drop, List.length_take]; rfl)) ?_; (with_reducible refine (spec_l01In.calls ((rd_T62 l0 x3_1).f0) 0 64 false _ A5.out).mono ?_); rintro e w' ⟨rfl, ⟨nd, rfl⟩⟩; refine ⟨_, rfl, ?_⟩))
              go_ret
              exact ⟨by first | rfl | (simp; done) | (simp [*]; done), by repeat (first | exact Drawn0.refl _ | apply Drawn0.step)⟩
          · rw [if_neg c4] at H
            exact absurd H (by simp)
        · rw [if_neg c3] at H
          have c3b0 : decide (x3_1 < (l0.length : Int)) = false := decide_eq_false c3
          clear c3
          obtain rfl := Option.some.inj H
          go_wp2
          go_ret
          exact ⟨by first | rfl | (simp; done) | (simp [*]; done), by repeat (first | exact Drawn0.refl _ | apply Drawn0.step)⟩

end Go.Proofs.Ytdpejnckojhgjaa.P
