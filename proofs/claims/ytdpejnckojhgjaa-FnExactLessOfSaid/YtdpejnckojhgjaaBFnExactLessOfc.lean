/- What the proof of FnExactLessOfSaid rests on, part 3: plain lemmas and contracts of the functions that the law reaches (in part written by a printing program over the translation). No condition. -/
import Derived.Test.YtdpejnckojhgjaaBFnExactLessOfb
import Derived.RowKit
import Derived.Laws.BitsLemmas
section
namespace Go.Proofs.Ytdpejnckojhgjaa.P
open Go.RowKit Go.Proofs.YtdpejnckojhgjaaW.PrintWords Go.Proofs.YtdpejnckojhgjaaW.PrintLast Go.Proofs.YtdpejnckojhgjaaW.PrintMore
attribute [local go_sem] max2_int min2_int max_two min_two max_three min_three max_four min_four   -- for this text's walks alone
set_option linter.unusedVariables false
set_option linter.unusedSimpArgs false

/-! ### spec_SlotsOk: function 43 -/
def spec_SlotsOk.l0 : Nat → List (S62) → Int → Option (Bool)
  | 0, _, _ => none
  | k + 1, x0, x3 => if x3 < (x0.length : Int) then (if 0 ≤ x3 then ((spec_l01In.f ((rd_T62 x0 x3).f0) 0 64).bind fun t406 => (if t406 = true then (if ((rd_T62 x0 x3).f0) = 0 then (if (((rd_T62 x0 x3).f1).length : Int) > 0 then (some false) else (if ((rd_T62 x0 x3).f0) > 0 then ((spec_l07Words.f k ((rd_T62 x0 x3).f1)).bind fun t411 => (if t411 = true then (spec_SlotsOk.l0 k x0 (wrap64 (x3 + 1))) else (some false))) else (spec_SlotsOk.l0 k x0 (wrap64 (x3 + 1))))) else (if ((rd_T62 x0 x3).f0) > 0 then ((spec_l07Words.f k ((rd_T62 x0 x3).f1)).bind fun t414 => (if t414 = true then (spec_SlotsOk.l0 k x0 (wrap64 (x3 + 1))) else (some false))) else (spec_SlotsOk.l0 k x0 (wrap64 (x3 + 1))))) else (some false))) else (none)) else (some true)
def spec_SlotsOk.f (k : Nat) (l0 : List (S62)) : Option (Bool) := if (l0.length : Int) > 16 then (some false) else (spec_SlotsOk.l0 k l0 0)
theorem spec_SlotsOk.mono_l : ∀ k, (∀ y0 y1, LeO (spec_SlotsOk.l0 k y0 y1) (spec_SlotsOk.l0 (k + 1) y0 y1))
  | 0 => fun _ _ r h => by simp [spec_SlotsOk.l0] at h
  | k + 1 => by
    have ih0 := spec_SlotsOk.mono_l k
    · intro y0 y1
      unfold spec_SlotsOk.l0
      repeat' first
      | (with_reducible exact ih0 _ _)
      | (with_reducible exact spec_l07Words.mono _ _)
      | (with_reducible exact LeO.refl _)
      | (with_reducible exact LeO.none _)
      | (with_reducible refine LeO.ite ?_ ?_)
      | (with_reducible refine LeO.bind ?_ (fun _ => ?_))
      | exact ih0 _ _
      | exact spec_l07Words.mono _ _
      | exact LeO.none _
      | refine LeO.ite ?_ ?_
      | refine LeO.bind ?_ (fun _ => ?_)
theorem spec_SlotsOk.mono : ∀ a0 k, LeO (spec_SlotsOk.f k a0) (spec_SlotsOk.f (k + 1) a0) := by
  intro a0 k
  have ih0 := spec_SlotsOk.mono_l k
  unfold spec_SlotsOk.f
  repeat' first
      | (with_reducible exact ih0 _ _)
      | (with_reducible exact spec_l07Words.mono _ _)
      | (with_reducible exact LeO.refl _)
      | (with_reducible exact LeO.none _)
      | (with_reducible refine LeO.ite ?_ ?_)
      | (with_reducible refine LeO.bind ?_ (fun _ => ?_))
      | exact ih0 _ _
      | exact spec_l07Words.mono _ _
      | exact LeO.none _
      | refine LeO.ite ?_ ?_
      | refine LeO.bind ?_ (fun _ => ?_)
set_option maxHeartbeats 8000000 in
set_option maxRecDepth 100000 in
theorem spec_SlotsOk.calls (k : Nat) (A0 : Option Addr) (c0 : Nat) (l0 : List (S62)) (r : Bool) (w : World) (hr0 : Kd.C k62 w A0 l0.length l0) (hc0 : l0.length ≤ c0) (h : spec_SlotsOk.f k l0 = some r) :
    Calls Try.prog 43 #[.slice A0 l0.length c0] w fun e w' => e = .returned (.bool r) ∧ Drawn0 w w' := by
  have HR0 := Aside0.mk hr0
  have HC0 := Aside0.mk hc0
  clear hr0 hc0
  have H : (if (l0.length : Int) > 16 then (some false) else (spec_SlotsOk.l0 k l0 0)) = some r := h
  clear h
  by_cases c2 : (l0.length : Int) > 16
  · rw [if_pos c2] at H
    have c2b0 : decide (16 < (l0.length : Int)) = true := decide_eq_true c2
    have c2b1 : decide (16 < l0.length) = true := decide_eq_true (by omega)
    clear c2
    obtain rfl := Option.some.inj H
    go_enter Try.func43, Try.ntmps43
    go_wp2
    go_ret
    exact ⟨by first | rfl | (simp; done) | (simp [*]; done), by repeat (first | exact Drawn0.refl _ | apply Drawn0.step)⟩
  · rw [if_neg c2] at H
    have c2b0 : decide (16 < (l0.length : Int)) = false := decide_eq_false c2
    have c2b1 : decide (16 < l0.length) = false := decide_eq_false (by omega)
    clear c2
    have H' := Aside0.mk H
    clear H
    go_enter Try.func43, Try.ntmps43
    go_wp2
    go_loopg [3] k (fun kq v3 w' => ∃ (x3_1 : Int), v3 = .int .i64 x3_1 ∧ Aside0 (spec_SlotsOk.l0 kq l0 x3_1 = some r) ∧ Aside0 (kq ≤ k) ∧ Drawn0 w w')
    case atStart => exact ⟨(0), (by first | rfl | (simp; done) | (simp [*]; done)), H', ⟨Nat.le_refl _⟩, by repeat (first | exact Drawn0.refl _ | apply Drawn0.step)⟩
    case round =>
      clear H'
      try clear c2
      try clear c2b0
      try clear c2b1
      try clear p2
      obtain ⟨x3_1, rfl, HA, HK1, ⟨m1, rfl⟩⟩ := hrel
      cases gk with
      | zero => exact absurd HA.out (by simp [spec_SlotsOk.l0])
      | succ k1 =>
        have H := HA.out
        clear HA
        simp only [spec_SlotsOk.l0] at H
        by_cases c3 : x3_1 < (l0.length : Int)
        · rw [if_pos c3] at H
          have c3b0 : decide (x3_1 < (l0.length : Int)) = true := decide_eq_true c3
          clear c3
          by_cases c4 : 0 ≤ x3_1
          · rw [if_pos c4] at H
            have c4b0 : decide (0 ≤ x3_1) = true := decide_eq_true c4
            clear c4
            replace H := Option.bind_eq_some_iff.mp H
            obtain ⟨t406, A50, H⟩ := H
            replace H : (if t406 = true then (if ((rd_T62 l0 x3_1).f0) = 0 then (if (((rd_T62 l0 x3_1).f1).length : Int) > 0 then (some false) else (if ((rd_T62 l0 x3_1).f0) > 0 then ((spec_l07Words.f k1 ((rd_T62 l0 x3_1).f1)).bind fun t411 => (if t411 = true then (spec_SlotsOk.l0 k1 l0 (wrap64 (x3_1 + 1))) else (some false))) else (spec_SlotsOk.l0 k1 l0 (wrap64 (x3_1 + 1))))) else (if ((rd_T62 l0 x3_1).f0) > 0 then ((spec_l07Words.f k1 ((rd_T62 l0 x3_1).f1)).bind fun t414 => (if t414 = true then (spec_SlotsOk.l0 k1 l0 (wrap64 (x3_1 + 1))) else (some false))) else (spec_SlotsOk.l0 k1 l0 (wrap64 (x3_1 + 1))))) else (some false)) = some r := H
            have A5 := Aside0.mk A50
            clear A50
            by_cases c6 : t406 = true
            · subst c6
              have H1 : (if ((rd_T62 l0 x3_1).f0) = 0 then (if (((rd_T62 l0 x3_1).f1).length : Int) > 0 then (some false) else (if ((rd_T62 l0 x3_1).f0) > 0 then ((spec_l07Words.f k1 ((rd_T62 l0 x3_1).f1)).bind fun t411 => (if t411 = true then (spec_SlotsOk.l0 k1 l0 (wrap64 (x3_1 + 1))) else (some false))) else (spec_SlotsOk.l0 k1 l0 (wrap64 (x3_1 + 1))))) else (if ((rd_T62 l0 x3_1).f0) > 0 then ((spec_l07Words.f k1 ((rd_T62 l0 x3_1).f1)).bind fun t414 => (if t414 = true then (spec_SlotsOk.l0 k1 l0 (wrap64 (x3_1 + 1))) else (some false))) else (spec_SlotsOk.l0 k1 l0 (wrap64 (x3_1 + 1))))) = some r := by rw [if_pos rfl] at H; exact H
              clear H
              have H := H1
              clear H1
              by_cases c7 : ((rd_T62 l0 x3_1).f0) = 0
              · rw [if_pos c7] at H
                have c7b0 : (((rd_T62 l0 x3_1).f0) == 0) = true := beq_iff_eq.mpr c7
                have c7b1 : (((rd_T62 l0 x3_1).f0) != 0) = false := bne_eq_false_iff_eq.mpr c7
                clear c7
                by_cases c8 : (((rd_T62 l0 x3_1).f1).length : Int) > 0
                · rw [if_pos c8] at H
                  have c8b0 : decide (0 < (((rd_T62 l0 x3_1).f1).length : Int)) = true := decide_eq_true c8
                  have c8b1 : decide (0 < ((rd_T62 l0 x3_1).f1).length) = true := decide_eq_true (by omega)
                  clear c8
                  obtain rfl := Option.some.inj H
                  have p405 : 0 ≤ (x3_1 : Int) := of_decide_eq_true (by first | (with_reducible assumption) | assumption)
                  have q405 : x3_1 < (l0.length : Int) := of_decide_eq_true (by first | (with_reducible assumption) | assumption)
                  obtain ⟨ad405, A405_1, c405_1, e405, hx405_0, hx405_1, hl405_1, hi405_1⟩ := at_T62 HR0.out x3_1 p405 q405
                  cases e405
                  have HR405_1 := Aside0.mk hi405_1
                  have HC405_1 := Aside0.mk hl405_1
                  clear hi405_1 hl405_1
                  replace p405 := eq_true p405
                  replace q405 := eq_true q405
                  go_wp2_with (first | ((with_reducible refine gate_callee (f := 72) rfl ?_); refine goesL_ (some 18) rfl rfl Try.func72 (by kernel_rfl) rfl #[.int .i64 ((rd_T62 l0 x3_1).f0), .int .i64 0, .int .i64 64] rfl (by (try simp only [List.map_toArray, List.map_cons, List.map_nil]); first | done | rfl | (simp only [List.length_drop, List.length_take]; rfl)) ?_; (with_reducible refine (spec_l01In.calls ((rd_T62 l0 x3_1).f0) 0 64 true _ A5.out).mono ?_); rintro e w' ⟨rfl, ⟨nd, rfl⟩⟩; refine ⟨_, rfl, ?_⟩; have p407 : 0 ≤ (x3_1 : Int) := of_decide_eq_true (by first | (with_reducible assumption) | assumption); have q407 : x3_1 < (l0.length : Int) := of_decide_eq_true (by first | (with_reducible assumption) | assumption); obtain ⟨ad407, A407_1, c407_1, e407, hx407_0, hx407_1, hl407_1, hi407_1⟩ := at_T62 HR0.out x3_1 p407 q407; obtain rfl : ad405 = ad407 := (by injection e407); have HR407_1 := Aside0.mk hi407_1; have HC407_1 := Aside0.mk hl407_1; clear hi407_1 hl407_1; replace p407 := eq_true p407; replace q407 := eq_true q407; have ea_ := Option.some.inj (hx405_1.symm.trans hx407_1); injection ea_ with ea_ en_ ec_; subst ea_; subst ec_; clear en_; have p408 : 0 ≤ (x3_1 : Int) := of_decide_eq_true (by first | (with_reducible assumption) | assumption); have q408 : x3_1 < (l0.length : Int) := of_decide_eq_true (by first | (with_reducible assumption) | assumption); obtain ⟨ad408, A408_1, c408_1, e408, hx408_0, hx408_1, hl408_1, hi408_1⟩ := at_T62 HR0.out x3_1 p408 q408; obtain rfl : ad405 = ad408 := (by injection e408); have HR408_1 := Aside0.mk hi408_1; have HC408_1 := Aside0.mk hl408_1; clear hi408_1 hl408_1; replace p408 := eq_true p408; replace q408 := eq_true q408; have ea_ := Option.some.inj (hx405_1.symm.trans hx408_1); injection ea_ with ea_ en_ ec_; subst ea_; subst ec_; clear en_))
                  go_ret
                  exact ⟨by first | rfl | (simp; done) | (simp [*]; done), by repeat (first | exact Drawn0.refl _ | apply Drawn0.step)⟩
                · rw [if_neg c8] at H
                  have c8b0 : decide (0 < (((rd_T62 l0 x3_1).f1).length : Int)) = false := decide_eq_false c8
                  have c8b1 : decide (0 < ((rd_T62 l0 x3_1).f1).length) = false := decide_eq_false (by omega)
                  clear c8
                  by_cases c9 : ((rd_T62 l0 x3_1).f0) > 0
                  · rw [if_pos c9] at H
                    have c9b0 : decide (0 < ((rd_T62 l0 x3_1).f0)) = true := decide_eq_true c9
                    clear c9
                    replace H := Option.bind_eq_some_iff.mp H
                    obtain ⟨t411, A100, H⟩ := H
                    replace H : (if t411 = true then (spec_SlotsOk.l0 k1 l0 (wrap64 (x3_1 + 1))) else (some false)) = some r := H
                    have A10 := Aside0.mk A100
                    clear A100
                    by_cases c11 : t411 = true
                    · subst c11
                      have H1 : (spec_SlotsOk.l0 k1 l0 (wrap64 (x3_1 + 1))) = some r := by rw [if_pos rfl] at H; exact H
                      clear H
                      have H := H1
                      clear H1
                      have H' := Aside0.mk H
                      clear H
                      have p405 : 0 ≤ (x3_1 : Int) := of_decide_eq_true (by first | (with_reducible assumption) | assumption)
                      have q405 : x3_1 < (l0.length : Int) := of_decide_eq_true (by first | (with_reducible assumption) | assumption)
                      obtain ⟨ad405, A405_1, c405_1, e405, hx405_0, hx405_1, hl405_1, hi405_1⟩ := at_T62 HR0.out x3_1 p405 q405
                      cases e405
                      have HR405_1 := Aside0.mk hi405_1
                      have HC405_1 := Aside0.mk hl405_1
                      clear hi405_1 hl405_1
                      replace p405 := eq_true p405
                      replace q405 := eq_true q405
                      go_wp2_with (first | ((with_reducible refine gate_callee (f := 72) rfl ?_); refine goesL_ (some 18) rfl rfl Try.func72 (by kernel_rfl) rfl #[.int .i64 ((rd_T62 l0 x3_1).f0), .int .i64 0, .int .i64 64] rfl (by (try simp only [List.map_toArray, List.map_cons, List.map_nil]); first | done | rfl | (simp only [List.length_drop, List.length_take]; rfl)) ?_; (with_reducible refine (spec_l01In.calls ((rd_T62 l0 x3_1).f0) 0 64 true _ A5.out).mono ?_); rintro e w' ⟨rfl, ⟨nd, rfl⟩⟩; refine ⟨_, rfl, ?_⟩; have p407 : 0 ≤ (x3_1 : Int) := of_decide_eq_true (by first | (with_reducible assumption) | assumption); have q407 : x3_1 < (l0.length : Int) := of_decide_eq_true (by first | (with_reducible assumption) | assumption); obtain ⟨ad407, A407_1, c407_1, e407, hx407_0, hx407_1, hl407_1, hi407_1⟩ := at_T62 HR0.out x3_1 p407 q407; obtain rfl : ad405 = ad407 := (by injection e407); have HR407_1 := Aside0.mk hi407_1; have HC407_1 := Aside0.mk hl407_1; clear hi407_1 hl407_1; replace p407 := eq_true p407; replace q407 := eq_true q407; have ea_ := Option.some.inj (hx405_1.symm.trans hx407_1); injection ea_ with ea_ en_ ec_; subst ea_; subst ec_; clear en_; have p408 : 0 ≤ (x3_1 : Int) := of_decide_eq_true (by first | (with_reducible assumption) | assumption); have q408 : x3_1 < (l0.length : Int) := of_decide_eq_true (by first | (with_reducible assumption) | assumption); obtain ⟨ad408, A408_1, c408_1, e408, hx408_0, hx408_1, hl408_1, hi408_1⟩ := at_T62 HR0.out x3_1 p408 q408; obtain rfl : ad405 = ad408 := (by injection e408); have HR408_1 := Aside0.mk hi408_1; have HC408_1 := Aside0.mk hl408_1; clear hi408_1 hl408_1; replace p408 := eq_true p408; replace q408 := eq_true q408; have ea_ := Option.some.inj (hx405_1.symm.trans hx408_1); injection ea_ with ea_ en_ ec_; subst ea_; subst ec_; clear en_; have p409 : 0 ≤ (x3_1 : Int) := of_decide_eq_true (by first | (with_reducible assumption) | assumption); have q409 : x3_1 < (l0.length : Int) := of_decide_eq_true (by first | (with_reducible assumption) | assumption); obtain ⟨ad409, A409_1, c409_1, e409, hx409_0, hx409_1, hl409_1, hi409_1⟩ := at_T62 HR0.out x3_1 p409 q409; obtain rfl : ad405 = ad409 := (by injection e409); have HR409_1 := Aside0.mk hi409_1; have HC409_1 := Aside0.mk hl409_1; clear hi409_1 hl409_1; replace p409 := eq_true p409; replace q409 := eq_true q409; have ea_ := Option.some.inj (hx405_1.symm.trans hx409_1); injection ea_ with ea_ en_ ec_; subst ea_; subst ec_; clear en_; have p410 : 0 ≤ (x3_1 : Int) := of_decide_eq_true (by first | (with_reducible assumption) | assumption); have q410 : x3_1 < (l0.length : Int) := of_decide_eq_true (by first | (with_reducible assumption) | assumption); obtain ⟨ad410, A410_1, c410_1, e410, hx410_0, hx410_1, hl410_1, hi410_1⟩ := at_T62 HR0.out x3_1 p410 q410; obtain rfl : ad405 = ad410 := (by injection e410); have HR410_1 := Aside0.mk hi410_1; have HC410_1 := Aside0.mk hl410_1; clear hi410_1 hl410_1; replace p410 := eq_true p410; replace q410 := eq_true q410; have ea_ := Option.some.inj (hx405_1.symm.trans hx410_1); injection ea_ with ea_ en_ ec_; subst ea_; subst ec_; clear en_) | (go_at_call 101; (with_reducible refine (spec_l07Words.calls k1 _ _ ((rd_T62 l0 x3_1).f1) true _ ?side1 ?side2 A10.out).mono ?_); (case side1 => repeat (first | exact HR410_1.out | (with_reducible refine Kd.C_alloc ?_ _) | (with_reducible refine Kd.C_drewN ?_ _) | (with_reducible refine Kd.C_drew ?_))); (case side2 => exact HC410_1.out); rintro e w' ⟨rfl, ⟨nd, rfl⟩⟩))
                      go_roundg k1
                      case measure => have := HK1.out; omega
                      case rel => exact ⟨(wrap64 (x3_1 + 1)), (by first | rfl | (simp; done) | (simp [*]; done)), H', ⟨by have := HK1.out; omega⟩, by repeat (first | exact Drawn0.refl _ | apply Drawn0.step)⟩
                    · replace c11 := Bool.eq_false_iff.mpr c11
                      subst c11
                      have H1 : (some false) = some r := by rw [if_neg (show ¬ (false = true) by decide)] at H; exact H
                      clear H
                      have H := H1
                      clear H1
                      obtain rfl := Option.some.inj H
                      have p405 : 0 ≤ (x3_1 : Int) := of_decide_eq_true (by first | (with_reducible assumption) | assumption)
                      have q405 : x3_1 < (l0.length : Int) := of_decide_eq_true (by first | (with_reducible assumption) | assumption)
                      obtain ⟨ad405, A405_1, c405_1, e405, hx405_0, hx405_1, hl405_1, hi405_1⟩ := at_T62 HR0.out x3_1 p405 q405
                      cases e405
                      have HR405_1 := Aside0.mk hi405_1
                      have HC405_1 := Aside0.mk hl405_1
                      clear hi405_1 hl405_1
                      replace p405 := eq_true p405
                      replace q405 := eq_true q405
                      go_wp2_with (first | ((with_reducible refine gate_callee (f := 72) rfl ?_); refine goesL_ (some 18) rfl rfl Try.func72 (by kernel_rfl) rfl #[.int .i64 ((rd_T62 l0 x3_1).f0), .int .i64 0, .int .i64 64] rfl (by (try simp only [List.map_toArray, List.map_cons, List.map_nil]); first | done | rfl | (simp only [List.length_drop, List.length_take]; rfl)) ?_; (with_reducible refine (spec_l01In.calls ((rd_T62 l0 x3_1).f0) 0 64 true _ A5.out).mono ?_); rintro e w' ⟨rfl, ⟨nd, rfl⟩⟩; refine ⟨_, rfl, ?_⟩; have p407 : 0 ≤ (x3_1 : Int) := of_decide_eq_true (by first | (with_reducible assumption) | assumption); have q407 : x3_1 < (l0.length : Int) := of_decide_eq_true (by first | (with_reducible assumption) | assumption); obtain ⟨ad407, A407_1, c407_1, e407, hx407_0, hx407_1, hl407_1, hi407_1⟩ := at_T62 HR0.out x3_1 p407 q407; obtain rfl : ad405 = ad407 := (by injection e407); have HR407_1 := Aside0.mk hi407_1; have HC407_1 := Aside0.mk hl407_1; clear hi407_1 hl407_1; replace p407 := eq_true p407; replace q407 := eq_true q407; have ea_ := Option.some.inj (hx405_1.symm.trans hx407_1); injection ea_ with ea_ en_ ec_; subst ea_; subst ec_; clear en_; have p408 : 0 ≤ (x3_1 : Int) := of_decide_eq_true (by first | (with_reducible assumption) | assumption); have q408 : x3_1 < (l0.length : Int) := of_decide_eq_true (by first | (with_reducible assumption) | assumption); obtain ⟨ad408, A408_1, c408_1, e408, hx408_0, hx408_1, hl408_1, hi408_1⟩ := at_T62 HR0.out x3_1 p408 q408; obtain rfl : ad405 = ad408 := (by injection e408); have HR408_1 := Aside0.mk hi408_1; have HC408_1 := Aside0.mk hl408_1; clear hi408_1 hl408_1; replace p408 := eq_true p408; replace q408 := eq_true q408; have ea_ := Option.some.inj (hx405_1.symm.trans hx408_1); injection ea_ with ea_ en_ ec_; subst ea_; subst ec_; clear en_; have p409 : 0 ≤ (x3_1 : Int) := of_decide_eq_true (by first | (with_reducible assumption) | assumption); have q409 : x3_1 < (l0.length : Int) := of_decide_eq_true (by first | (with_reducible assumption) | assumption); obtain ⟨ad409, A409_1, c409_1, e409, hx409_0, hx409_1, hl409_1, hi409_1⟩ := at_T62 HR0.out x3_1 p409 q409; obtain rfl : ad405 = ad409 := (by injection e409); have HR409_1 := Aside0.mk hi409_1; have HC409_1 := Aside0.mk hl409_1; clear hi409_1 hl409_1; replace p409 := eq_true p409; replace q409 := eq_true q409; have ea_ := Option.some.inj (hx405_1.symm.trans hx409_1); injection ea_ with ea_ en_ ec_; subst ea_; subst ec_; clear en_; have p410 : 0 ≤ (x3_1 : Int) := of_decide_eq_true (by first | (with_reducible assumption) | assumption); have q410 : x3_1 < (l0.length : Int) := of_decide_eq_true (by first | (with_reducible assumption) | assumption); obtain ⟨ad410, A410_1, c410_1, e410, hx410_0, hx410_1, hl410_1, hi410_1⟩ := at_T62 HR0.out x3_1 p410 q410; obtain rfl : ad405 = ad410 := (by injection e410); have HR410_1 := Aside0.mk hi410_1; have HC410_1 := Aside0.mk hl410_1; clear hi410_1 hl410_1; replace p410 := eq_true p410; replace q410 := eq_true q410; have ea_ := Option.some.inj (hx405_1.symm.trans hx410_1); injection ea_ with ea_ en_ ec_; subst ea_; subst ec_; clear en_) | (go_at_call 101; (with_reducible refine (spec_l07Words.calls k1 _ _ ((rd_T62 l0 x3_1).f1) false _ ?side1 ?side2 A10.out).mono ?_); (case side1 => repeat (first | exact HR410_1.out | (with_reducible refine Kd.C_alloc ?_ _) | (with_reducible refine Kd.C_drewN ?_ _) | (with_reducible refine Kd.C_drew ?_))); (case side2 => exact HC410_1.out); rintro e w' ⟨rfl, ⟨nd, rfl⟩⟩))
                      go_ret
                      exact ⟨by first | rfl | (simp; done) | (simp [*]; done), by repeat (first | exact Drawn0.refl _ | apply Drawn0.step)⟩
                  · rw [if_neg c9] at H
                    have c9b0 : decide (0 < ((rd_T62 l0 x3_1).f0)) = false := decide_eq_false c9
                    clear c9
                    have H' := Aside0.mk H
                    clear H
                    have p405 : 0 ≤ (x3_1 : Int) := of_decide_eq_true (by first | (with_reducible assumption) | assumption)
                    have q405 : x3_1 < (l0.length : Int) := of_decide_eq_true (by first | (with_reducible assumption) | assumption)
                    obtain ⟨ad405, A405_1, c405_1, e405, hx405_0, hx405_1, hl405_1, hi405_1⟩ := at_T62 HR0.out x3_1 p405 q405
                    cases e405
                    have HR405_1 := Aside0.mk hi405_1
                    have HC405_1 := Aside0.mk hl405_1
                    clear hi405_1 hl405_1
                    replace p405 := eq_true p405
                    replace q405 := eq_true q405
                    go_wp2_with (first | ((with_reducible refine gate_callee (f := 72) rfl ?_); refine goesL_ (some 18) rfl rfl Try.func72 (by kernel_rfl) rfl #[.int .i64 ((rd_T62 l0 x3_1).f0), .int .i64 0, .int .i64 64] rfl (by (try simp only [List.map_toArray, List.map_cons, List.map_nil]); first | done | rfl | (simp only [List.length_drop, List.length_take]; rfl)) ?_; (with_reducible refine (spec_l01In.calls ((rd_T62 l0 x3_1).f0) 0 64 true _ A5.out).mono ?_); rintro e w' ⟨rfl, ⟨nd, rfl⟩⟩; refine ⟨_, rfl, ?_⟩; have p407 : 0 ≤ (x3_1 : Int) := of_decide_eq_true (by first | (with_reducible assumption) | assumption); have q407 : x3_1 < (l0.length : Int) := of_decide_eq_true (by first | (with_reducible assumption) | assumption); obtain ⟨ad407, A407_1, c407_1, e407, hx407_0, hx407_1, hl407_1, hi407_1⟩ := at_T62 HR0.out x3_1 p407 q407; obtain rfl : ad405 = ad407 := (by injection e407); have HR407_1 := Aside0.mk hi407_1; have HC407_1 := Aside0.mk hl407_1; clear hi407_1 hl407_1; replace p407 := eq_true p407; replace q407 := eq_true q407; have ea_ := Option.some.inj (hx405_1.symm.trans hx407_1); injection ea_ with ea_ en_ ec_; subst ea_; subst ec_; clear en_; have p408 : 0 ≤ (x3_1 : Int) := of_decide_eq_true (by first | (with_reducible assumption) | assumption); have q408 : x3_1 < (l0.length : Int) := of_decide_eq_true (by first | (with_reducible assumption) | assumption); obtain ⟨ad408, A408_1, c408_1, e408, hx408_0, hx408_1, hl408_1, hi408_1⟩ := at_T62 HR0.out x3_1 p408 q408; obtain rfl : ad405 = ad408 := (by injection e408); have HR408_1 := Aside0.mk hi408_1; have HC408_1 := Aside0.mk hl408_1; clear hi408_1 hl408_1; replace p408 := eq_true p408; replace q408 := eq_true q408; have ea_ := Option.some.inj (hx405_1.symm.trans hx408_1); injection ea_ with ea_ en_ ec_; subst ea_; subst ec_; clear en_; have p409 : 0 ≤ (x3_1 : Int) := of_decide_eq_true (by first | (with_reducible assumption) | assumption); have q409 : x3_1 < (l0.length : Int) := of_decide_eq_true (by first | (with_reducible assumption) | assumption); obtain ⟨ad409, A409_1, c409_1, e409, hx409_0, hx409_1, hl409_1, hi409_1⟩ := at_T62 HR0.out x3_1 p409 q409; obtain rfl : ad405 = ad409 := (by injection e409); have HR409_1 := Aside0.mk hi409_1; have HC409_1 := Aside0.mk hl409_1; clear hi409_1 hl409_1; replace p409 := eq_true p409; replace q409 := eq_true q409; have ea_ := Option.some.inj (hx405_1.symm.trans hx409_1); injection ea_ with ea_ en_ ec_; subst ea_; subst ec_; clear en_))
                    go_roundg k1
                    case measure => have := HK1.out; omega
                    case rel => exact ⟨(wrap64 (x3_1 + 1)), (by first | rfl | (simp; done) | (simp [*]; done)), H', ⟨by have := HK1.out; omega⟩, by repeat (first | exact Drawn0.refl _ | apply Drawn0.step)⟩
              · rw [if_neg c7] at H
                have c7b0 : (((rd_T62 l0 x3_1).f0) == 0) = false := beq_eq_false_iff_ne.mpr c7
                have c7b1 : (((rd_T62 l0 x3_1).f0) != 0) = true := bne_iff_ne.mpr c7
                by_cases c12 : ((rd_T62 l0 x3_1).f0) > 0
                · rw [if_pos c12] at H
                  have c12b0 : decide (0 < ((rd_T62 l0 x3_1).f0)) = true := decide_eq_true c12
                  clear c12
                  replace H := Option.bind_eq_some_iff.mp H
                  obtain ⟨t414, A130, H⟩ := H
                  replace H : (if t414 = true then (spec_SlotsOk.l0 k1 l0 (wrap64 (x3_1 + 1))) else (some false)) = some r := H
                  have A13 := Aside0.mk A130
                  clear A130
                  by_cases c14 : t414 = true
                  · subst c14
                    have H1 : (spec_SlotsOk.l0 k1 l0 (wrap64 (x3_1 + 1))) = some r := by rw [if_pos rfl] at H; exact H
                    clear H
                    have H := H1
                    clear H1
                    have H' := Aside0.mk H
                    clear H
                    have p405 : 0 ≤ (x3_1 : Int) := of_decide_eq_true (by first | (with_reducible assumption) | assumption)
                    have q405 : x3_1 < (l0.length : Int) := of_decide_eq_true (by first | (with_reducible assumption) | assumption)
                    obtain ⟨ad405, A405_1, c405_1, e405, hx405_0, hx405_1, hl405_1, hi405_1⟩ := at_T62 HR0.out x3_1 p405 q405
                    cases e405
                    have HR405_1 := Aside0.mk hi405_1
                    have HC405_1 := Aside0.mk hl405_1
                    clear hi405_1 hl405_1
                    replace p405 := eq_true p405
                    replace q405 := eq_true q405
                    go_wp2_with (first | ((with_reducible refine gate_callee (f := 72) rfl ?_); refine goesL_ (some 18) rfl rfl Try.func72 (by kernel_rfl) rfl #[.int .i64 ((rd_T62 l0 x3_1).f0), .int .i64 0, .int .i64 64] rfl (by (try simp only [List.map_toArray, List.map_cons, List.map_nil]); first | done | rfl | (simp only [List.length_drop, List.length_take]; rfl)) ?_; (with_reducible refine (spec_l01In.calls ((rd_T62 l0 x3_1).f0) 0 64 true _ A5.out).mono ?_); rintro e w' ⟨rfl, ⟨nd, rfl⟩⟩; refine ⟨_, rfl, ?_⟩; have p407 : 0 ≤ (x3_1 : Int) := of_decide_eq_true (by first | (with_reducible assumption) | assumption); have q407 : x3_1 < (l0.length : Int) := of_decide_eq_true (by first | (with_reducible assumption) | assumption); obtain ⟨ad407, A407_1, c407_1, e407, hx407_0, hx407_1, hl407_1, hi407_1⟩ := at_T62 HR0.out x3_1 p407 q407; obtain rfl : ad405 = ad407 := (by injection e407); have HR407_1 := Aside0.mk hi407_1; have HC407_1 := Aside0.mk hl407_1; clear hi407_1 hl407_1; replace p407 := eq_true p407; replace q407 := eq_true q407; have ea_ := Option.some.inj (hx405_1.symm.trans hx407_1); injection ea_ with ea_ en_ ec_; subst ea_; subst ec_; clear en_; have p412 : 0 ≤ (x3_1 : Int) := of_decide_eq_true (by first | (with_reducible assumption) | assumption); have q412 : x3_1 < (l0.length : Int) := of_decide_eq_true (by first | (with_reducible assumption) | assumption); obtain ⟨ad412, A412_1, c412_1, e412, hx412_0, hx412_1, hl412_1, hi412_1⟩ := at_T62 HR0.out x3_1 p412 q412; obtain rfl : ad405 = ad412 := (by injection e412); have HR412_1 := Aside0.mk hi412_1; have HC412_1 := Aside0.mk hl412_1; clear hi412_1 hl412_1; replace p412 := eq_true p412; replace q412 := eq_true q412; have ea_ := Option.some.inj (hx405_1.symm.trans hx412_1); injection ea_ with ea_ en_ ec_; subst ea_; subst ec_; clear en_; have p413 : 0 ≤ (x3_1 : Int) := of_decide_eq_true (by first | (with_reducible assumption) | assumption); have q413 : x3_1 < (l0.length : Int) := of_decide_eq_true (by first | (with_reducible assumption) | assumption); obtain ⟨ad413, A413_1, c413_1, e413, hx413_0, hx413_1, hl413_1, hi413_1⟩ := at_T62 HR0.out x3_1 p413 q413; obtain rfl : ad405 = ad413 := (by injection e413); have HR413_1 := Aside0.mk hi413_1; have HC413_1 := Aside0.mk hl413_1; clear hi413_1 hl413_1; replace p413 := eq_true p413; replace q413 := eq_true q413; have ea_ := Option.some.inj (hx405_1.symm.trans hx413_1); injection ea_ with ea_ en_ ec_; subst ea_; subst ec_; clear en_) | (go_at_call 101; (with_reducible refine (spec_l07Words.calls k1 _ _ ((rd_T62 l0 x3_1).f1) true _ ?side1 ?side2 A13.out).mono ?_); (case side1 => repeat (first | exact HR413_1.out | (with_reducible refine Kd.C_alloc ?_ _) | (with_reducible refine Kd.C_drewN ?_ _) | (with_reducible refine Kd.C_drew ?_))); (case side2 => exact HC413_1.out); rintro e w' ⟨rfl, ⟨nd, rfl⟩⟩))
                    go_roundg k1
                    case measure => have := HK1.out; omega
                    case rel => exact ⟨(wrap64 (x3_1 + 1)), (by first | rfl | (simp; done) | (simp [*]; done)), H', ⟨by have := HK1.out; omega⟩, by repeat (first | exact Drawn0.refl _ | apply Drawn0.step)⟩
                  · replace c14 := Bool.eq_false_iff.mpr c14
                    subst c14
                    have H1 : (some false) = some r := by rw [if_neg (show ¬ (false = true) by decide)] at H; exact H
                    clear H
                    have H := H1
                    clear H1
                    obtain rfl := Option.some.inj H
                    have p405 : 0 ≤ (x3_1 : Int) := of_decide_eq_true (by first | (with_reducible assumption) | assumption)
                    have q405 : x3_1 < (l0.length : Int) := of_decide_eq_true (by first | (with_reducible assumption) | assumption)
                    obtain ⟨ad405, A405_1, c405_1, e405, hx405_0, hx405_1, hl405_1, hi405_1⟩ := at_T62 HR0.out x3_1 p405 q405
                    cases e405
                    have HR405_1 := Aside0.mk hi405_1
                    have HC405_1 := Aside0.mk hl405_1
                    clear hi405_1 hl405_1
                    replace p405 := eq_true p405
                    replace q405 := eq_true q405
                    go_wp2_with (first | ((with_reducible refine gate_callee (f := 72) rfl ?_); refine goesL_ (some 18) rfl rfl Try.func72 (by kernel_rfl) rfl #[.int .i64 ((rd_T62 l0 x3_1).f0), .int .i64 0, .int .i64 64] rfl (by (try simp only [List.map_toArray, List.map_cons, List.map_nil]); first | done | rfl | (simp only [List.length_drop, List.length_take]; rfl)) ?_; (with_reducible refine (spec_l01In.calls ((rd_T62 l0 x3_1).f0) 0 64 true _ A5.out).mono ?_); rintro e w' ⟨rfl, ⟨nd, rfl⟩⟩; refine ⟨_, rfl, ?_⟩; have p407 : 0 ≤ (x3_1 : Int) := of_decide_eq_true (by first | (with_reducible assumption) | assumption); have q407 : x3_1 < (l0.length : Int) := of_decide_eq_true (by first | (with_reducible assumption) | assumption); obtain ⟨ad407, A407_1, c407_1, e407, hx407_0, hx407_1, hl407_1, hi407_1⟩ := at_T62 HR0.out x3_1 p407 q407; obtain rfl : ad405 = ad407 := (by injection e407); have HR407_1 := Aside0.mk hi407_1; have HC407_1 := Aside0.mk hl407_1; clear hi407_1 hl407_1; replace p407 := eq_true p407; replace q407 := eq_true q407; have ea_ := Option.some.inj (hx405_1.symm.trans hx407_1); injection ea_ with ea_ en_ ec_; subst ea_; subst ec_; clear en_; have p412 : 0 ≤ (x3_1 : Int) := of_decide_eq_true (by first | (with_reducible assumption) | assumption); have q412 : x3_1 < (l0.length : Int) := of_decide_eq_true (by first | (with_reducible assumption) | assumption); obtain ⟨ad412, A412_1, c412_1, e412, hx412_0, hx412_1, hl412_1, hi412_1⟩ := at_T62 HR0.out x3_1 p412 q412; obtain rfl : ad405 = ad412 := (by injection e412); have HR412_1 := Aside0.mk hi412_1; have HC412_1 := Aside0.mk hl412_1; clear hi412_1 hl412_1; replace p412 := eq_true p412; replace q412 := eq_true q412; have ea_ := Option.some.inj (hx405_1.symm.trans hx412_1); injection ea_ with ea_ en_ ec_; subst ea_; subst ec_; clear en_; have p413 : 0 ≤ (x3_1 : Int) := of_decide_eq_true (by first | (with_reducible assumption) | assumption); have q413 : x3_1 < (l0.length : Int) := of_decide_eq_true (by first | (with_reducible assumption) | assumption); obtain ⟨ad413, A413_1, c413_1, e413, hx413_0, hx413_1, hl413_1, hi413_1⟩ := at_T62 HR0.out x3_1 p413 q413; obtain rfl : ad405 = ad413 := (by injection e413); have HR413_1 := Aside0.mk hi413_1; have HC413_1 := Aside0.mk hl413_1; clear hi413_1 hl413_1; replace p413 := eq_true p413; replace q413 := eq_true q413; have ea_ := Option.some.inj (hx405_1.symm.trans hx413_1); injection ea_ with ea_ en_ ec_; subst ea_; subst ec_; clear en_) | (go_at_call 101; (with_reducible refine (spec_l07Words.calls k1 _ _ ((rd_T62 l0 x3_1).f1) false _ ?side1 ?side2 A13.out).mono ?_); (case side1 => repeat (first | exact HR413_1.out | (with_reducible refine Kd.C_alloc ?_ _) | (with_reducible refine Kd.C_drewN ?_ _) | (with_reducible refine Kd.C_drew ?_))); (case side2 => exact HC413_1.out); rintro e w' ⟨rfl, ⟨nd, rfl⟩⟩))
                    go_ret
                    exact ⟨by first | rfl | (simp; done) | (simp [*]; done), by repeat (first | exact Drawn0.refl _ | apply Drawn0.step)⟩
                · rw [if_neg c12] at H
                  have c12b0 : decide (0 < ((rd_T62 l0 x3_1).f0)) = false := decide_eq_false c12
                  clear c12
                  have H' := Aside0.mk H
                  clear H
                  have p405 : 0 ≤ (x3_1 : Int) := of_decide_eq_true (by first | (with_reducible assumption) | assumption)
                  have q405 : x3_1 < (l0.length : Int) := of_decide_eq_true (by first | (with_reducible assumption) | assumption)
                  obtain ⟨ad405, A405_1, c405_1, e405, hx405_0, hx405_1, hl405_1, hi405_1⟩ := at_T62 HR0.out x3_1 p405 q405
                  cases e405
                  have HR405_1 := Aside0.mk hi405_1
                  have HC405_1 := Aside0.mk hl405_1
                  clear hi405_1 hl405_1
                  replace p405 := eq_true p405
                  replace q405 := eq_true q405
                  go_wp2_with (first | ((with_reducible refine gate_callee (f := 72) rfl ?_); refine goesL_ (some 18) rfl rfl Try.func72 (by kernel_rfl) rfl #[.int .i64 ((rd_T62 l0 x3_1).f0), .int .i64 0, .int .i64 64] rfl (by (try simp only [List.map_toArray, List.map_cons, List.map_nil]); first | done | rfl | (simp only [List.length_drop, List.length_take]; rfl)) ?_; (with_reducible refine (spec_l01In.calls ((rd_T62 l0 x3_1).f0) 0 64 true _ A5.out).mono ?_); rintro e w' ⟨rfl, ⟨nd, rfl⟩⟩; refine ⟨_, rfl, ?_⟩; have p407 : 0 ≤ (x3_1 : Int) := of_decide_eq_true (by first | (with_reducible assumption) | assumption); have q407 : x3_1 < (l0.length : Int) := of_decide_eq_true (by first | (with_reducible assumption) | assumption); obtain ⟨ad407, A407_1, c407_1, e407, hx407_0, hx407_1, hl407_1, hi407_1⟩ := at_T62 HR0.out x3_1 p407 q407; obtain rfl : ad405 = ad407 := (by injection e407); have HR407_1 := Aside0.mk hi407_1; have HC407_1 := Aside0.mk hl407_1; clear hi407_1 hl407_1; replace p407 := eq_true p407; replace q407 := eq_true q407; have ea_ := Option.some.inj (hx405_1.symm.trans hx407_1); injection ea_ with ea_ en_ ec_; subst ea_; subst ec_; clear en_; have p412 : 0 ≤ (x3_1 : Int) := of_decide_eq_true (by first | (with_reducible assumption) | assumption); have q412 : x3_1 < (l0.length : Int) := of_decide_eq_true (by first | (with_reducible assumption) | assumption); obtain ⟨ad412, A412_1, c412_1, e412, hx412_0, hx412_1, hl412_1, hi412_1⟩ := at_T62 HR0.out x3_1 p412 q412; obtain rfl : ad405 = ad412 := (by injection e412); have HR412_1 := Aside0.mk hi412_1; have HC412_1 := Aside0.mk hl412_1; clear hi412_1 hl412_1; replace p412 := eq_true p412; replace q412 := eq_true q412; have ea_ := Option.some.inj (hx405_1.symm.trans hx412_1); injection ea_ with ea_ en_ ec_; subst ea_; subst ec_; clear en_))
                  go_roundg k1
                  case measure => have := HK1.out; omega
                  case rel => exact ⟨(wrap64 (x3_1 + 1)), (by first | rfl | (simp; done) | (simp [*]; done)), H', ⟨by have := HK1.out; omega⟩, by repeat (first | exact Drawn0.refl _ | apply Drawn0.step)⟩
            · replace c6 := Bool.eq_false_iff.mpr c6
              subst c6
              have H1 : (some false) = some r := by rw [if_neg (show ¬ (false = true) by decide)] at H; exact H
              clear H
              have H := H1
              clear H1
              obtain rfl := Option.some.inj H
              have p405 : 0 ≤ (x3_1 : Int) := of_decide_eq_true (by first | (with_reducible assumption) | assumption)
              have q405 : x3_1 < (l0.length : Int) := of_decide_eq_true (by first | (with_reducible assumption) | assumption)
              obtain ⟨ad405, A405_1, c405_1, e405, hx405_0, hx405_1, hl405_1, hi405_1⟩ := at_T62 HR0.out x3_1 p405 q405
              cases e405
              have HR405_1 := Aside0.mk hi405_1
              have HC405_1 := Aside0.mk hl405_1
              clear hi405_1 hl405_1
              replace p405 := eq_true p405
              replace q405 := eq_true q405
              go_wp2_with (first | ((with_reducible refine gate_callee (f := 72) rfl ?_); refine goesL_ (some 18) rfl rfl Try.func72 (by kernel_rfl) rfl #[.int .i64 ((rd_T62 l0 x3_1).f0), .int .i64 0, .int .i64 64] rfl (by (try simp only [List.map_toArray, List.map_cons, List.map_nil]); first | done | rfl | (simp only [List.length_drop, List.length_take]; rfl)) ?_; (with_reducible refine (spec_l01In.calls ((rd_T62 l0 x3_1).f0) 0 64 false _ A5.out).mono ?_); rintro e w' ⟨rfl, ⟨nd, rfl⟩⟩; refine ⟨_, rfl, ?_⟩))
              go_ret
              exact ⟨by first | rfl | (simp; done) | (simp [*]; done), by repeat (first | exact Drawn0.refl _ | apply Drawn0.step)⟩
          · rw [if_neg c4] at H
            exact absurd H (by simp)
        · rw [if_neg c3] at H
          have c3b0 : decide (x3_1 < (l0.length : Int)) = false := decide_eq_false c3
          clear c3
          obtain rfl := Option.some.inj H
          go_wp2
          go_ret
          exact ⟨by first | rfl | (simp; done) | (simp [*]; done), by repeat (first | exact Drawn0.refl _ | apply Drawn0.step)⟩

end Go.Proofs.Ytdpejnckojhgjaa.P
end
section
namespace Go.Proofs.Ytdpejnckojhgjaa.P
open Go.RowKit Go.Proofs.YtdpejnckojhgjaaW.PrintWords Go.Proofs.YtdpejnckojhgjaaW.PrintLast Go.Proofs.YtdpejnckojhgjaaW.PrintMore
attribute [local go_sem] max2_int min2_int max_two min_two max_three min_three max_four min_four   -- for this text's walks alone
set_option linter.unusedVariables false
set_option linter.unusedSimpArgs false

/-! ### spec_l07Copy: function 105 -/
def spec_l07Copy.l0 : Nat → List (S62) → List (S62) → Int → Option ((List (S62)))
  | 0, _, _, _ => none
  | k + 1, x0, x3, x4 => if x4 < (x0.length : Int) then (if 0 ≤ x4 then ((some (([] : List Int) : List Int)).bind fun y419 => (if y419.length + ((rd_T62 x0 x4).f1).length < 17592186044416 then (if x3.length < 4398046511104 then (spec_l07Copy.l0 k x0 (x3 ++ [(⟨(rd_T62 x0 x4).f0, (y419 ++ ((rd_T62 x0 x4).f1))⟩ : S62)]) (wrap64 (x4 + 1))) else (none)) else (none))) else (none)) else (some x3)
def spec_l07Copy.f (k : Nat) (l0 : List (S62)) : Option ((List (S62))) := spec_l07Copy.l0 k l0 (([] : List (S62))) 0
theorem spec_l07Copy.mono_l : ∀ k, (∀ y0 y1 y2, LeO (spec_l07Copy.l0 k y0 y1 y2) (spec_l07Copy.l0 (k + 1) y0 y1 y2))
  | 0 => fun _ _ _ r h => by simp [spec_l07Copy.l0] at h
  | k + 1 => by
    have ih0 := spec_l07Copy.mono_l k
    · intro y0 y1 y2
      unfold spec_l07Copy.l0
      repeat' first
      | (with_reducible exact ih0 _ _ _)
      | (with_reducible exact LeO.refl _)
      | (with_reducible exact LeO.none _)
      | (with_reducible refine LeO.ite ?_ ?_)
      | (with_reducible refine LeO.bind ?_ (fun _ => ?_))
      | exact ih0 _ _ _
      | exact LeO.none _
      | refine LeO.ite ?_ ?_
      | refine LeO.bind ?_ (fun _ => ?_)
theorem spec_l07Copy.mono : ∀ a0 k, LeO (spec_l07Copy.f k a0) (spec_l07Copy.f (k + 1) a0) := by
  intro a0 k
  have ih0 := spec_l07Copy.mono_l k
  unfold spec_l07Copy.f
  repeat' first
      | (with_reducible exact ih0 _ _ _)
      | (with_reducible exact LeO.refl _)
      | (with_reducible exact LeO.none _)
      | (with_reducible refine LeO.ite ?_ ?_)
      | (with_reducible refine LeO.bind ?_ (fun _ => ?_))
      | exact ih0 _ _ _
      | exact LeO.none _
      | refine LeO.ite ?_ ?_
      | refine LeO.bind ?_ (fun _ => ?_)
def spec_l07Copy.T5 : Bool × List (List Nat × List Nat) := (true, [([], []), ([], []), ([], []), ([1, 2], [1, 2]), ([3], [3]), ([4], [4]), ([], []), ([], []), ([], []), ([7, 8], [7, 8]), ([9], [9]), ([10], [10]), ([6, 11], [6, 11]), ([5, 12], [5, 12]), ([13], [13]), ([0, 14, 12], [0, 14]), ([15, 15, 0, 1, 2, 3, 4, 5, 6, 7, 8, 9, 10, 11, 12, 13, 14, 15], [0, 15])])
def spec_l07Copy.B5 : List Nat := [0, 0, 0, 6, 14, 30, 0, 0, 0, 384, 896, 1920, 4032, 8190, 16382, 32767, 65535]
theorem spec_l07Copy.tab5 : rtab .any (opsOf Try.f105 5) = spec_l07Copy.T5 := by kernel_rfl
theorem spec_l07Copy.bits5 : waitsOk spec_l07Copy.T5.2 spec_l07Copy.B5 = true := by kernel_rfl
set_option maxHeartbeats 8000000 in
set_option maxRecDepth 100000 in
theorem spec_l07Copy.calls (k : Nat) (A0 : Option Addr) (c0 : Nat) (l0 : List (S62)) (r : List (S62)) (w : World) (hr0 : Kd.C k62 w A0 l0.length l0) (hc0 : l0.length ≤ c0) (h : spec_l07Copy.f k l0 = some r) :
    Calls Try.prog 105 #[.slice A0 l0.length c0] w fun e w' => ∃ v0_ : Value, e = .returned (v0_) ∧ Kd.S k62 62 w' w.heap.size (fun _ => True) v0_ r ∧ Below w.heap.size w w' := by
  have hu62 := Try.underlying62
  have HR0 := Aside0.mk hr0
  have HC0 := Aside0.mk hc0
  clear hr0 hc0
  have HB := Aside0.mk (Below.refl w.heap.size w)
  have H : (spec_l07Copy.l0 k l0 (([] : List (S62))) 0) = some r := h
  clear h
  obtain ⟨y415, hy415⟩ : ∃ y_ : List (S62), y_ = (([] : List (S62))) := ⟨_, rfl⟩
  replace H : (spec_l07Copy.l0 k l0 y415 0) = some r := by first | (rw [hy415]; with_reducible exact H) | (have H2_ := (Option.bind_some _ _).symm.trans H; rw [hy415]; with_reducible exact H2_) | (have H2_ := (Option.bind_some _ _).symm.trans H; with_reducible exact H2_) | with_reducible exact H | (rw [hy415]; exact H) | exact H
  have Ny415 := Aside0.mk hy415
  clear hy415
  have H' := Aside0.mk H
  clear H
  go_enter Try.func105, Try.ntmps105
  go_wp2_with (first | ((with_reducible refine gate_dst (N := 5) rfl ?_); refine Kd.S_lit k62 _ 62 ?hg (N := 5) ?hd (xs := ([] : List (S62))) (inner := []) (ok := fun _ => True) (okp := fun _ => True) ?hr ?hp (fun _ hk => hk) trivial (Below.refl _ _) (Nat.le_refl _) (by simp) ?_; (case hd => rfl); (case hg => rfl); (case hr => first | (go_simp; done) | (go_simp; rfl)); (case hp => exact (Reps.none _ _)); intro v416 w2 ho3 hb hg_ hnew_; clear hg_ hnew_; (first | rw [← Ny415.out] at ho3 | (simp only [Int.reduceToNat] at ho3; rw [← Ny415.out] at ho3)); have n0_ := Aside0.mk (Kd.S_lower ho3 (below_size (by repeat (first | (with_reducible first | exact HB.out | apply below_alloc | apply pw_below_drewN | apply below_drew1) | exact HB.out)))); have n1_ := Aside0.mk (below_step (by repeat (first | (with_reducible first | exact HB.out | apply below_alloc | apply pw_below_drewN | apply below_drew1) | exact HB.out)) hb); clear HB; have HO417 := n0_; have HB := n1_; clear n0_ n1_; clear hb ho3))
  go_loopg [3, 4] k (fun kq v3 v4 w' => ∃ (x3_1 : List (S62)) (x4_1 : Int), v4 = .int .i64 x4_1 ∧ Aside0 (spec_l07Copy.l0 kq l0 x3_1 x4_1 = some r) ∧ Aside0 (kq ≤ k) ∧ Aside0 (Kd.S k62 62 w' w.heap.size (fun _ => True) v3 x3_1) ∧ Aside0 (Below w.heap.size w w'))
  case atStart => exact ⟨(y415), (0), (by first | rfl | (simp; done) | (simp [*]; done)), H', ⟨Nat.le_refl _⟩, ⟨by (with_reducible repeat (first | apply Kd.S_alloc | apply Kd.S_drewN | apply Kd.S_drew)); exact HO417.out⟩, ⟨by repeat (first | (with_reducible first | exact HB.out | apply below_alloc | apply pw_below_drewN | apply below_drew1) | exact HB.out)⟩⟩
  case round =>
    clear H'
    try clear c1
    try clear p2
    obtain ⟨x3_1, x4_1, rfl, HA, HK1, HO_3, HB⟩ := hrel
    cases gk with
    | zero => exact absurd HA.out (by simp [spec_l07Copy.l0])
    | succ k1 =>
      have H := HA.out
      clear HA
      simp only [spec_l07Copy.l0] at H
      by_cases c4 : x4_1 < (l0.length : Int)
      · rw [if_pos c4] at H
        have c4b0 : decide (x4_1 < (l0.length : Int)) = true := decide_eq_true c4
        clear c4
        by_cases c5 : 0 ≤ x4_1
        · rw [if_pos c5] at H
          have c5b0 : decide (0 ≤ x4_1) = true := decide_eq_true c5
          clear c5
          obtain ⟨y419, hy419⟩ : ∃ y_ : List Int, y_ = (([] : List Int)) := ⟨_, rfl⟩
          replace H : (if y419.length + ((rd_T62 l0 x4_1).f1).length < 17592186044416 then (if x3_1.length < 4398046511104 then (spec_l07Copy.l0 k1 l0 (x3_1 ++ [(⟨(rd_T62 l0 x4_1).f0, (y419 ++ ((rd_T62 l0 x4_1).f1))⟩ : S62)]) (wrap64 (x4_1 + 1))) else (none)) else (none)) = some r := by first | (rw [hy419]; with_reducible exact H) | (have H2_ := (Option.bind_some _ _).symm.trans H; rw [hy419]; with_reducible exact H2_) | (have H2_ := (Option.bind_some _ _).symm.trans H; with_reducible exact H2_) | with_reducible exact H | (rw [hy419]; exact H) | exact H
          have Ny419 := Aside0.mk hy419
          clear hy419
          by_cases c6 : y419.length + ((rd_T62 l0 x4_1).f1).length < 17592186044416
          · rw [if_pos c6] at H
            have LMc6 := Aside0.mk c6
            clear c6
            obtain ⟨y423, hy423⟩ : ∃ y_ : List Int, y_ = (y419 ++ ((rd_T62 l0 x4_1).f1)) := ⟨_, rfl⟩
            replace H : (if x3_1.length < 4398046511104 then (spec_l07Copy.l0 k1 l0 (x3_1 ++ [(⟨(rd_T62 l0 x4_1).f0, y423⟩ : S62)]) (wrap64 (x4_1 + 1))) else (none)) = some r := by first | (rw [hy423]; with_reducible exact H) | (have H2_ := (Option.bind_some _ _).symm.trans H; rw [hy423]; with_reducible exact H2_) | (have H2_ := (Option.bind_some _ _).symm.trans H; with_reducible exact H2_) | with_reducible exact H | (rw [hy423]; exact H) | exact H
            have Ny423 := Aside0.mk hy423
            clear hy423
            by_cases c7 : x3_1.length < 4398046511104
            · rw [if_pos c7] at H
              have LMc7 := Aside0.mk c7
              clear c7
              obtain ⟨y426, hy426⟩ : ∃ y_ : List (S62), y_ = (x3_1 ++ [(⟨(rd_T62 l0 x4_1).f0, y423⟩ : S62)]) := ⟨_, rfl⟩
              replace H : (spec_l07Copy.l0 k1 l0 y426 (wrap64 (x4_1 + 1))) = some r := by first | (rw [hy426]; with_reducible exact H) | (have H2_ := (Option.bind_some _ _).symm.trans H; rw [hy426]; with_reducible exact H2_) | (have H2_ := (Option.bind_some _ _).symm.trans H; with_reducible exact H2_) | with_reducible exact H | (rw [hy426]; exact H) | exact H
              have Ny426 := Aside0.mk hy426
              clear hy426
              have H' := Aside0.mk H
              clear H
              try go_wp2
              have n0_ := Aside0.mk (Kd.S_drew HO_3.out)
              have n1_ := Aside0.mk (below_drew1 HB.out)
              clear HO_3
              clear HB
              have HO_3 := n0_
              have HB := n1_
              clear n0_ n1_
              have p418 : 0 ≤ (x4_1 : Int) := of_decide_eq_true (by first | (with_reducible assumption) | assumption)
              have q418 : x4_1 < (l0.length : Int) := of_decide_eq_true (by first | (with_reducible assumption) | assumption)
              obtain ⟨ad418, A418_1, c418_1, e418, hx418_0, hx418_1, hl418_1, hi418_1⟩ := at_T62 HR0.out x4_1 p418 q418
              have hw418_1 := hx418_1
              have hw418_0 := hx418_0
              cases e418
              replace hx418_0 := (HB.out.cell (World.block_lt_of_cell? w _ hx418_0)).trans hx418_0
              replace hx418_1 := (HB.out.cell (World.block_lt_of_cell? w _ hx418_1)).trans hx418_1
              have HR418_1 := Aside0.mk hi418_1
              have HC418_1 := Aside0.mk hl418_1
              clear hi418_1 hl418_1
              replace p418 := eq_true p418
              replace q418 := eq_true q418
              have p422 : 0 ≤ (x4_1 : Int) := of_decide_eq_true (by first | (with_reducible assumption) | assumption)
              have q422 : x4_1 < (l0.length : Int) := of_decide_eq_true (by first | (with_reducible assumption) | assumption)
              obtain ⟨ad422, A422_1, c422_1, e422, hx422_0, hx422_1, hl422_1, hi422_1⟩ := at_T62 HR0.out x4_1 p422 q422
              have hw422_1 := hx422_1
              have hw422_0 := hx422_0
              obtain rfl : ad418 = ad422 := (by injection e422)
              replace hx422_0 := (HB.out.cell (World.block_lt_of_cell? w _ hx422_0)).trans hx422_0
              replace hx422_1 := (HB.out.cell (World.block_lt_of_cell? w _ hx422_1)).trans hx422_1
              have HR422_1 := Aside0.mk hi422_1
              have HC422_1 := Aside0.mk hl422_1
              clear hi422_1 hl422_1
              replace p422 := eq_true p422
              replace q422 := eq_true q422
              have ea_ := Option.some.inj (hx418_1.symm.trans hx422_1)
              injection ea_ with ea_ en_ ec_
              subst ea_
              subst ec_
              clear en_
              refine start_ (n := 17) (S := fun w' => w'.cell? (ad418.add ((x4_1).toNat * 2)) = some (.int .i64 ((rd_T62 l0 x4_1).f0)) ∧ w'.cell? ⟨(ad418.add ((x4_1).toNat * 2)).block, (ad418.add ((x4_1).toNat * 2)).off + 1, none⟩ = some (.slice A418_1 ((rd_T62 l0 x4_1).f1).length c418_1) ∧ w'.cell? (ad418.add ((x4_1).toNat * 2)) = some (.int .i64 ((rd_T62 l0 x4_1).f0)) ∧ w'.cell? ⟨(ad418.add ((x4_1).toNat * 2)).block, (ad418.add ((x4_1).toNat * 2)).off + 1, none⟩ = some (.slice A418_1 ((rd_T62 l0 x4_1).f1).length c418_1)) (ds := []) #[false, false, false, false, false, false, false, false, false, false, false, false, false, false, false, false, false] (by kernel_rfl) rfl rfl ⟨((HB.out.cell (World.block_lt_of_cell? w _ hw418_0)).trans hw418_0), ((HB.out.cell (World.block_lt_of_cell? w _ hw418_1)).trans hw418_1), ((HB.out.cell (World.block_lt_of_cell? w _ hw422_0)).trans hw422_0), ((HB.out.cell (World.block_lt_of_cell? w _ hw422_1)).trans hw422_1)⟩ (fun hHeld => ?_); refine with_tabW spec_l07Copy.tab5 spec_l07Copy.bits5 (fun HT_ HW_ => ?_)
              generalize wr.drew = w8 at HO_3 HB HR418_1 HR422_1 hx418_0 hx418_1 hx422_0 hx422_1 hHeld ⊢
              refine pure_ (i := 0) (N := some 12) (v := ?_) (a' := ?_) #[true, false, false, false, false, false, false, false, false, false, false, false, false, false, false, false, false] rfl rfl (any_of HT_.out (by kernel_rfl)) (fun _ _ _ h => h) (Or.inl ⟨by rfl, ?_⟩) ?_ ?_
              rotate_left
              · intro w'
                go_simp
                with_reducible rfl
              rotate_left
              · simp only [Act.put, List.setIfInBounds_toArray, List.set_cons_zero, List.set_cons_succ, i64_w, i32_w]
                rfl
              refine pure_ (i := 1) (N := some 13) (v := ?_) (a' := ?_) #[true, true, false, false, false, false, false, false, false, false, false, false, false, false, false, false, false] rfl rfl (any_of HT_.out (by kernel_rfl)) (fun _ _ _ h => h) (Or.inl ⟨by rfl, ?_⟩) ?_ ?_
              rotate_left
              · intro w'
                go_simp
                with_reducible rfl
              rotate_left
              · simp only [Act.put, List.setIfInBounds_toArray, List.set_cons_zero, List.set_cons_succ, i64_w, i32_w]
                rfl
              refine pure_ (i := 2) (N := some 14) (v := ?_) (a' := ?_) #[true, true, true, false, false, false, false, false, false, false, false, false, false, false, false, false, false] rfl rfl (any_of HT_.out (by kernel_rfl)) (fun _ _ _ h => h) (Or.inl ⟨by rfl, ?_⟩) ?_ ?_
              rotate_left
              · intro w'
                go_simp
                with_reducible rfl
              rotate_left
              · simp only [Act.put, List.setIfInBounds_toArray, List.set_cons_zero, List.set_cons_succ, i64_w, i32_w]
                rfl
              refine pure_ (i := 3) (N := some 15) (v := ?_) (a' := ?_) #[true, true, true, true, false, false, false, false, false, false, false, false, false, false, false, false, false] rfl rfl (any_of HT_.out (by kernel_rfl)) (fun _ _ _ h => h) (Or.inl ⟨by rfl, ?_⟩) ?_ ?_
              rotate_left
              · intro w'
                go_simp
                with_reducible rfl
              rotate_left
              · simp only [Act.put, List.setIfInBounds_toArray, List.set_cons_zero, List.set_cons_succ, i64_w, i32_w]
                rfl
              refine pure_ (i := 4) (N := some 16) (v := ?_) (a' := ?_) #[true, true, true, true, true, false, false, false, false, false, false, false, false, false, false, false, false] rfl rfl (any_of HT_.out (by kernel_rfl)) (fun _ _ _ h => h) (Or.inl ⟨by rfl, ?_⟩) ?_ ?_
              rotate_left
              · intro w'
                go_simp
                with_reducible rfl
              rotate_left
              · simp only [Act.put, List.setIfInBounds_toArray, List.set_cons_zero, List.set_cons_succ, i64_w, i32_w]
                rfl
              refine pure_ (i := 7) (N := some 19) (v := ?_) (a' := ?_) #[true, true, true, true, true, false, false, true, false, false, false, false, false, false, false, false, false] rfl rfl (any_of HT_.out (by kernel_rfl)) (fun _ _ _ h => h) (Or.inl ⟨by rfl, ?_⟩) ?_ ?_
              rotate_left
              · intro w'
                go_simp
                with_reducible rfl
              rotate_left
              · simp only [Act.put, List.setIfInBounds_toArray, List.set_cons_zero, List.set_cons_succ, i64_w, i32_w]
                rfl
              refine pure_ (i := 8) (N := some 20) (v := ?_) (a' := ?_) #[true, true, true, true, true, false, false, true, true, false, false, false, false, false, false, false, false] rfl rfl (any_of HT_.out (by kernel_rfl)) (fun _ _ _ h => h) (Or.inl ⟨by rfl, ?_⟩) ?_ ?_
              rotate_left
              · intro w'
                go_simp
                with_reducible rfl
              rotate_left
              · simp only [Act.put, List.setIfInBounds_toArray, List.set_cons_zero, List.set_cons_succ, i64_w, i32_w]
                rfl
              refine pure_ (i := 9) (N := some 21) (v := ?_) (a' := ?_) #[true, true, true, true, true, false, false, true, true, true, false, false, false, false, false, false, false] rfl rfl (any_of HT_.out (by kernel_rfl)) (fun _ _ _ h => h) (Or.inl ⟨by rfl, ?_⟩) ?_ ?_
              rotate_left
              · intro w'
                go_simp
                with_reducible rfl
              rotate_left
              · simp only [Act.put, List.setIfInBounds_toArray, List.set_cons_zero, List.set_cons_succ, i64_w, i32_w]
                rfl
              refine pure_ (i := 10) (N := some 22) (v := ?_) (a' := ?_) #[true, true, true, true, true, false, false, true, true, true, true, false, false, false, false, false, false] rfl rfl (any_of HT_.out (by kernel_rfl)) (fun _ _ _ h => h) (Or.inl ⟨by rfl, ?_⟩) ?_ ?_
              rotate_left
              · intro w'
                go_simp
                with_reducible rfl
              rotate_left
              · simp only [Act.put, List.setIfInBounds_toArray, List.set_cons_zero, List.set_cons_succ, i64_w, i32_w]
                rfl
              refine take_ (i := 5) (N := some 17) (v := ?_) (a' := ?_) #[true, true, true, true, true, true, false, true, true, true, true, false, false, false, false, false, false] rfl rfl (take_ofW HT_.out HW_.out (by kernel_rfl)) (fun _ _ _ h => h) (Or.inl ⟨by rfl, ?_⟩) hHeld ?_ ?_
              rotate_left
              · rintro w' ⟨s0, s1, s2, s3⟩
                go_simp
                with_reducible rfl
              rotate_left
              · simp only [Act.put, List.setIfInBounds_toArray, List.set_cons_zero, List.set_cons_succ, i64_w, i32_w]
                rfl
              refine take_ (i := 11) (N := some 23) (v := ?_) (a' := ?_) #[true, true, true, true, true, true, false, true, true, true, true, true, false, false, false, false, false] rfl rfl (take_ofW HT_.out HW_.out (by kernel_rfl)) (fun _ _ _ h => h) (Or.inl ⟨by rfl, ?_⟩) hHeld ?_ ?_
              rotate_left
              · rintro w' ⟨s0, s1, s2, s3⟩
                go_simp
                with_reducible rfl
              rotate_left
              · simp only [Act.put, List.setIfInBounds_toArray, List.set_cons_zero, List.set_cons_succ, i64_w, i32_w]
                rfl
              refine one_ (i := 6) (N := some 18) #[true, true, true, true, true, true, true, true, true, true, true, true, false, false, false, false, false] rfl rfl (one_of HT_.out (by kernel_rfl)) (by decide) (fun K hK => ?_)
              refine Kd.R_lit_step (Kd.int .i64) _ 3 ?hg (N := 18) ?hd (xs := ([] : List Int)) (inner := []) (ok := fun _ => True) (okp := fun _ => True) ?hr ?hp (fun _ hk => hk) trivial (Below.refl _ _) (Nat.le_refl _) (by simp) ?_; (case hd => rfl); (case hg => rfl); (case hr => first | (go_simp; done) | (go_simp; rfl)); (case hp => exact (Reps.none _ _))
              intro v420 w9 ho10 hb hg_ hnew_
              clear hg_ hnew_
              (first | rw [← Ny419.out] at ho10 | (simp only [Int.reduceToNat] at ho10; rw [← Ny419.out] at ho10))
              have n0_ := Aside0.mk (Kd.S_elder' (by (with_reducible repeat (first | apply Kd.S_alloc | apply Kd.S_drewN | apply Kd.S_drew)); exact HO_3.out) (Kd.R_base ho10) hb)
              have n1_ := Aside0.mk (Kd.R_lower ho10 (below_size (by repeat (first | (with_reducible first | exact HB.out | apply below_alloc | apply pw_below_drewN | apply below_drew1) | exact HB.out))))
              have n2_ := Aside0.mk (below_step (by repeat (first | (with_reducible first | exact HB.out | apply below_alloc | apply pw_below_drewN | apply below_drew1) | exact HB.out)) hb)
              clear HO_3
              clear HB
              have HO_3 := n0_
              have HO421 := n1_
              have HB := n2_
              clear n0_ n1_ n2_
              clear hb ho10
              refine hK.out _ _ ⟨((HB.out.cell (World.block_lt_of_cell? w _ hw418_0)).trans hw418_0), ((HB.out.cell (World.block_lt_of_cell? w _ hw418_1)).trans hw418_1), ((HB.out.cell (World.block_lt_of_cell? w _ hw422_0)).trans hw422_0), ((HB.out.cell (World.block_lt_of_cell? w _ hw422_1)).trans hw422_1)⟩ (fun hHeld => ?_)
              clear hK K
              refine norm_ (a' := ?_) ?_ ?_
              rotate_left
              · show Act.put _ (some 18) _ = _
                simp only [Act.put, List.setIfInBounds_toArray, List.set_cons_zero, List.set_cons_succ, i64_w, i32_w]
                rfl
              refine one_ (i := 12) (N := some 24) #[true, true, true, true, true, true, true, true, true, true, true, true, true, false, false, false, false] rfl rfl (one_of HT_.out (by kernel_rfl)) (by decide) (fun K hK => ?_)
              refine Kd.R_append_rows_step (Kd.int .i64) (w0 := w) w.heap.size (by rfl) (.tmp 18) (.tmp 23) 22 3 (.int .i64 0) 8 rfl Try.underlying22 info3 rfl (by decide) (by omega) v420 y419 ((rd_T62 l0 x4_1).f1) _ _ _ (fun _ => True) (fun _ => False) rfl rfl ?aO ?aR (fun _ _ h => h) (fun _ h => h.elim) ?aF ?aB ?aS ?aL ?_
              (case aR => repeat (first | exact (Kd.C_below HR422_1.out HB.out) | (with_reducible refine Kd.C_alloc ?_ _) | (with_reducible refine Kd.C_drewN ?_ _) | (with_reducible refine Kd.C_drew ?_)))
              (case aB => exact (by repeat (first | (with_reducible first | exact HB.out | apply below_alloc | apply pw_below_drewN | apply below_drew1) | exact HB.out)))
              (case aF => exact (fun _ _ => trivial))
              (case aO => exact (by (with_reducible repeat (first | apply Kd.R_alloc | apply Kd.R_drewN | apply Kd.R_drew)); exact HO421.out))
              (case aS => exact (below_size (by repeat (first | (with_reducible first | exact HB.out | apply below_alloc | apply pw_below_drewN | apply below_drew1) | exact HB.out))))
              (case aL => have := LMc6.out; omega)
              intro v424 w11 ho hb hg hat
              rw [← Ny423.out] at ho
              have n0_ := Aside0.mk (Kd.S_after (ok := (fun _ => True)) (by (with_reducible repeat (first | apply Kd.S_alloc | apply Kd.S_drewN | apply Kd.S_drew)); exact HO_3.out) hg hat)
              have n1_ := Aside0.mk (hb)
              have n2_ := Aside0.mk (ho)
              clear HO_3
              clear HB
              clear HO421
              have HO_3 := n0_
              have HB := n1_
              have HO425 := n2_
              clear n0_ n1_ n2_
              clear ho hb hg hat
              obtain ⟨Ao12, co12, eo12⟩ := Kd.R_slice HO425.out
              (first | subst eo12 | (injection eo12 with f1_ f2_ f3_; have f4_ := f1_.symm; have f5_ := f3_.symm; clear f1_ f2_ f3_; subst f4_; subst f5_))
              refine hK.out _ _ ⟨((HB.out.cell (World.block_lt_of_cell? w _ hw418_0)).trans hw418_0), ((HB.out.cell (World.block_lt_of_cell? w _ hw418_1)).trans hw418_1), ((HB.out.cell (World.block_lt_of_cell? w _ hw422_0)).trans hw422_0), ((HB.out.cell (World.block_lt_of_cell? w _ hw422_1)).trans hw422_1)⟩ (fun hHeld => ?_)
              clear hK K
              refine norm_ (a' := ?_) ?_ ?_
              rotate_left
              · show Act.put _ (some 24) _ = _
                simp only [Act.put, List.setIfInBounds_toArray, List.set_cons_zero, List.set_cons_succ, i64_w, i32_w]
                rfl
              refine pure_ (i := 13) (N := some 25) (v := ?_) (a' := ?_) #[true, true, true, true, true, true, true, true, true, true, true, true, true, true, false, false, false] rfl rfl (any_of HT_.out (by kernel_rfl)) (fun _ _ _ h => h) (Or.inl ⟨by rfl, ?_⟩) ?_ ?_
              rotate_left
              · intro w'
                go_simp
                with_reducible rfl
              rotate_left
              · simp only [Act.put, List.setIfInBounds_toArray, List.set_cons_zero, List.set_cons_succ, i64_w, i32_w]
                rfl
              refine one_ (i := 14) (N := some 26) #[true, true, true, true, true, true, true, true, true, true, true, true, true, true, true, false, false] rfl rfl (one_of HT_.out (by kernel_rfl)) (by decide) (fun K hK => ?_)
              refine value_ (w1 := ?_) (v := ?_) (by rfl) rfl ?_ ?_
              rotate_left 2
              · go_simp
                constructor
                · rfl
                · rfl
              refine hK.out _ _ ⟨(World.cell?_alloc_lt _ _ _ (World.block_lt_of_cell? _ _ (((HB.out.cell (World.block_lt_of_cell? w _ hw418_0)).trans hw418_0)))).trans (((HB.out.cell (World.block_lt_of_cell? w _ hw418_0)).trans hw418_0)), (World.cell?_alloc_lt _ _ _ (World.block_lt_of_cell? _ _ (((HB.out.cell (World.block_lt_of_cell? w _ hw418_1)).trans hw418_1)))).trans (((HB.out.cell (World.block_lt_of_cell? w _ hw418_1)).trans hw418_1)), (World.cell?_alloc_lt _ _ _ (World.block_lt_of_cell? _ _ (((HB.out.cell (World.block_lt_of_cell? w _ hw422_0)).trans hw422_0)))).trans (((HB.out.cell (World.block_lt_of_cell? w _ hw422_0)).trans hw422_0)), (World.cell?_alloc_lt _ _ _ (World.block_lt_of_cell? _ _ (((HB.out.cell (World.block_lt_of_cell? w _ hw422_1)).trans hw422_1)))).trans (((HB.out.cell (World.block_lt_of_cell? w _ hw422_1)).trans hw422_1))⟩ (fun hHeld => ?_)
              clear hK K
              refine norm_ (a' := ?_) ?_ ?_
              rotate_left
              · show Act.put _ (some 26) _ = _
                simp only [Act.put, List.setIfInBounds_toArray, List.set_cons_zero, List.set_cons_succ, i64_w, i32_w]
                rfl
              refine one_ (i := 15) (N := some 27) #[true, true, true, true, true, true, true, true, true, true, true, true, true, true, true, true, false] rfl rfl (one_of HT_.out (by kernel_rfl)) (by decide) (fun K hK => ?_)
              refine Kd.S_append_step k62 (w0 := w) w.heap.size (by rfl) (.tmp 12) (.tmp 26) 51 62 (.agg #[(.int .i64 0), (.slice none 0 0)]) 32 rfl Try.underlying51 info62 rfl (by decide) (by omega) u3 x3_1 (⟨(rd_T62 l0 x4_1).f0, y423⟩ : S62) [.int .i64 ((rd_T62 l0 x4_1).f0), .slice Ao12 y423.length co12] (fun _ => True) (fun k_ => some k_ = (.slice Ao12 y423.length co12 : Value).ownBlock) rfl rfl ?aP (fun k_ hk_ => ((Kd.R_mono (ok' := fun k_ => ((fun _ => True)) k_ ∧ some k_ ≠ (u3 : Value).ownBlock) (Kd.R_apart' (HO425.out) (Kd.S_typed HO_3.out) (by decide)) (fun k_ hk => ⟨trivial, hk.2⟩))).1 k_ hk_.symm) ?aF ?aO ?aB ?aS ?aL ?_
              (case aP => exact k62_mkM _ _ _ (⟨(rd_T62 l0 x4_1).f0, y423⟩ : S62) (Kd.R_mono (Kd.R_tight rfl (Kd.R_mono (ok' := fun k_ => ((fun _ => True)) k_ ∧ some k_ ≠ (u3 : Value).ownBlock) (Kd.R_apart' (HO425.out) (Kd.S_typed HO_3.out) (by decide)) (fun k_ hk => ⟨trivial, hk.2⟩))) (fun _ h_ => h_)))
              (case aB => exact (by repeat (first | (with_reducible first | exact HB.out | apply below_alloc | apply pw_below_drewN | apply below_drew1) | exact HB.out)))
              (case aF => exact (fun _ _ => trivial))
              (case aO => exact (by (with_reducible repeat (first | apply Kd.S_alloc | apply Kd.S_drewN | apply Kd.S_drew)); exact Kd.S_mono HO_3.out (fun k_ hk => ⟨trivial, fun e_ => hk.2 e_⟩)))
              (case aS => exact (below_size (by repeat (first | (with_reducible first | exact HB.out | apply below_alloc | apply pw_below_drewN | apply below_drew1) | exact HB.out))))
              (case aL => have := LMc7.out; omega)
              intro v427 w13 ho hb hg hat
              rw [← Ny426.out] at ho
              have n0_ := Aside0.mk (hb)
              have n1_ := Aside0.mk (ho)
              clear HB
              clear HO_3
              clear HO425
              have HB := n0_
              have HO428 := n1_
              clear n0_ n1_
              clear ho hb hg hat
              refine hK.out _ _ ⟨((HB.out.cell (World.block_lt_of_cell? w _ hw418_0)).trans hw418_0), ((HB.out.cell (World.block_lt_of_cell? w _ hw418_1)).trans hw418_1), ((HB.out.cell (World.block_lt_of_cell? w _ hw422_0)).trans hw422_0), ((HB.out.cell (World.block_lt_of_cell? w _ hw422_1)).trans hw422_1)⟩ (fun hHeld => ?_)
              clear hK K
              refine norm_ (a' := ?_) ?_ ?_
              rotate_left
              · show Act.put _ (some 27) _ = _
                simp only [Act.put, List.setIfInBounds_toArray, List.set_cons_zero, List.set_cons_succ, i64_w, i32_w]
                rfl
              refine pure_ (i := 16) (N := some 3) (v := ?_) (a' := ?_) #[true, true, true, true, true, true, true, true, true, true, true, true, true, true, true, true, true] rfl rfl (any_of HT_.out (by kernel_rfl)) (fun _ _ _ h => h) (Or.inl ⟨by rfl, ?_⟩) ?_ ?_
              rotate_left
              · intro w'
                go_simp
                with_reducible rfl
              rotate_left
              · simp only [Act.put, List.setIfInBounds_toArray, List.set_cons_zero, List.set_cons_succ, i64_w, i32_w]
                rfl
              refine done_ (done_of HT_.out (by kernel_rfl)) ?_
              try go_wp2
              go_roundg k1
              case measure => have := HK1.out; omega
              case rel => exact ⟨(y426), (wrap64 (x4_1 + 1)), (by first | rfl | (simp; done) | (simp [*]; done)), H', ⟨by have := HK1.out; omega⟩, ⟨by (with_reducible repeat (first | apply Kd.S_alloc | apply Kd.S_drewN | apply Kd.S_drew)); exact HO428.out⟩, ⟨by repeat (first | (with_reducible first | exact HB.out | apply below_alloc | apply pw_below_drewN | apply below_drew1) | exact HB.out)⟩⟩
            · rw [if_neg c7] at H
              exact absurd H (by simp)
          · rw [if_neg c6] at H
            exact absurd H (by simp)
        · rw [if_neg c5] at H
          exact absurd H (by simp)
      · rw [if_neg c4] at H
        have c4b0 : decide (x4_1 < (l0.length : Int)) = false := decide_eq_false c4
        clear c4
        obtain rfl := Option.some.inj H
        go_wp2
        go_ret
        exact ⟨_, by first | rfl | (simp [errW_none, errW_some] <;> rfl) | (simp [*, errW_none, errW_some] <;> rfl), by (with_reducible repeat (first | apply Kd.S_alloc | apply Kd.S_drewN | apply Kd.S_drew)); exact HO_3.out, by repeat (first | (with_reducible first | exact HB.out | apply below_alloc | apply pw_below_drewN | apply below_drew1) | exact HB.out)⟩

end Go.Proofs.Ytdpejnckojhgjaa.P
end
section
namespace Go.Proofs.Ytdpejnckojhgjaa.P
open Go.RowKit Go.Proofs.YtdpejnckojhgjaaW.PrintWords Go.Proofs.YtdpejnckojhgjaaW.PrintLast Go.Proofs.YtdpejnckojhgjaaW.PrintMore
attribute [local go_sem] max2_int min2_int max_two min_two max_three min_three max_four min_four   -- for this text's walks alone
set_option linter.unusedVariables false
set_option linter.unusedSimpArgs false

/-! ### spec_l07Change: function 91 -/
def spec_l07Change.j0 : Nat → List (S62) → Int → Int → Bool → Option ((List (S62)) × Bool)
  | 0, _, _, _, _ => none
  | k + 1, x0, x1, x2, x27 => if x27 = true then (some ((([] : List (S62))), false)) else ((spec_l07Copy.f k x0).bind fun t435 => (if 0 ≤ x1 then (if x1 < (t435.length : Int) then ((some (t435.set (x1 : Int).toNat (⟨wrap64 (((rd_T62 t435 x1).f0) + x2), (rd_T62 t435 x1).f1⟩ : S62) : List (S62))).bind fun y439 => (if ((rd_T62 y439 x1).f0) = 0 then ((some (y439.set (x1 : Int).toNat (⟨(rd_T62 y439 x1).f0, (([] : List Int))⟩ : S62) : List (S62))).bind fun y444 => ((spec_SlotsOk.f k y444).bind fun t445 => (if t445 = true then (some (y444, true)) else (some ((([] : List (S62))), false))))) else ((spec_SlotsOk.f k y439).bind fun t449 => (if t449 = true then (some (y439, true)) else (some ((([] : List (S62))), false)))))) else (none)) else (none)))
def spec_l07Change.f (k : Nat) (l0 : List (S62)) (a1 : Int) (a2 : Int) : Option ((List (S62)) × Bool) := (spec_SlotsOk.f k l0).bind fun t429 => (if t429 = true then ((spec_l01In.f a1 0 (wrap64 ((l0.length : Int) - 1))).bind fun t430 => (if t430 = true then (if 0 ≤ a1 then (if a1 < (l0.length : Int) then (spec_l07Change.j0 k l0 a1 a2 (((rd_T62 l0 a1).f0) == 0)) else (none)) else (none)) else (spec_l07Change.j0 k l0 a1 a2 true))) else (spec_l07Change.j0 k l0 a1 a2 true))
theorem spec_l07Change.mono_l : ∀ k, (∀ y0 y1 y2 y3, LeO (spec_l07Change.j0 k y0 y1 y2 y3) (spec_l07Change.j0 (k + 1) y0 y1 y2 y3))
  | 0 => fun _ _ _ _ r h => by simp [spec_l07Change.j0] at h
  | k + 1 => by
    have ih0 := spec_l07Change.mono_l k
    · intro y0 y1 y2 y3
      unfold spec_l07Change.j0
      repeat' first
      | (with_reducible exact ih0 _ _ _ _)
      | (with_reducible exact spec_SlotsOk.mono _ _)
      | (with_reducible exact spec_l07Copy.mono _ _)
      | (with_reducible exact LeO.refl _)
      | (with_reducible exact LeO.none _)
      | (with_reducible refine LeO.ite ?_ ?_)
      | (with_reducible refine LeO.bind ?_ (fun _ => ?_))
      | exact ih0 _ _ _ _
      | exact spec_SlotsOk.mono _ _
      | exact spec_l07Copy.mono _ _
      | exact LeO.none _
      | refine LeO.ite ?_ ?_
      | refine LeO.bind ?_ (fun _ => ?_)
theorem spec_l07Change.mono : ∀ a0 a1 a2 k, LeO (spec_l07Change.f k a0 a1 a2) (spec_l07Change.f (k + 1) a0 a1 a2) := by
  intro a0 a1 a2 k
  have ih0 := spec_l07Change.mono_l k
  unfold spec_l07Change.f
  repeat' first
      | (with_reducible exact ih0 _ _ _ _)
      | (with_reducible exact spec_SlotsOk.mono _ _)
      | (with_reducible exact spec_l07Copy.mono _ _)
      | (with_reducible exact LeO.refl _)
      | (with_reducible exact LeO.none _)
      | (with_reducible refine LeO.ite ?_ ?_)
      | (with_reducible refine LeO.bind ?_ (fun _ => ?_))
      | exact ih0 _ _ _ _
      | exact spec_SlotsOk.mono _ _
      | exact spec_l07Copy.mono _ _
      | exact LeO.none _
      | refine LeO.ite ?_ ?_
      | refine LeO.bind ?_ (fun _ => ?_)
set_option maxHeartbeats 8000000 in
set_option maxRecDepth 100000 in
theorem spec_l07Change.calls (k : Nat) (A0 : Option Addr) (c0 : Nat) (l0 : List (S62)) (a1 : Int) (a2 : Int) (r1 : List (S62)) (r2 : Bool) (w : World) (hr0 : Kd.C k62 w A0 l0.length l0) (hc0 : l0.length ≤ c0) (h : spec_l07Change.f k l0 a1 a2 = some (r1, r2)) :
    Calls Try.prog 91 #[.slice A0 l0.length c0, .int .i64 a1, .int .i64 a2] w fun e w' => ∃ v0_ : Value, e = .returned (.tuple #[v0_, .bool r2]) ∧ Kd.S k62 62 w' w.heap.size (fun _ => True) v0_ r1 ∧ Below w.heap.size w w' := by
  have HR0 := Aside0.mk hr0
  have HC0 := Aside0.mk hc0
  clear hr0 hc0
  have HB := Aside0.mk (Below.refl w.heap.size w)
  have H : ((spec_SlotsOk.f k l0).bind fun t429 => (if t429 = true then ((spec_l01In.f a1 0 (wrap64 ((l0.length : Int) - 1))).bind fun t430 => (if t430 = true then (if 0 ≤ a1 then (if a1 < (l0.length : Int) then (spec_l07Change.j0 k l0 a1 a2 (((rd_T62 l0 a1).f0) == 0)) else (none)) else (none)) else (spec_l07Change.j0 k l0 a1 a2 true))) else (spec_l07Change.j0 k l0 a1 a2 true))) = some (r1, r2) := h
  clear h
  have HC4 := Aside0.mk H
  clear H
  go_enter Try.func91, Try.ntmps91
  go_upto_region 1 with (fail)
  go_cut [27] (fun v27 wc => ∃ (kq : Nat) (x27_3 : Bool), v27 = .bool x27_3 ∧ Aside0 (spec_l07Change.j0 kq l0 a1 a2 x27_3 = some (r1, r2)) ∧ Aside0 (kq ≤ k) ∧ Aside0 (Below w.heap.size w wc))
  case first =>
    have H := HC4.out
    clear HC4
    replace H := Option.bind_eq_some_iff.mp H
    obtain ⟨t429, A50, H⟩ := H
    replace H : (if t429 = true then ((spec_l01In.f a1 0 (wrap64 ((l0.length : Int) - 1))).bind fun t430 => (if t430 = true then (if 0 ≤ a1 then (if a1 < (l0.length : Int) then (spec_l07Change.j0 k l0 a1 a2 (((rd_T62 l0 a1).f0) == 0)) else (none)) else (none)) else (spec_l07Change.j0 k l0 a1 a2 true))) else (spec_l07Change.j0 k l0 a1 a2 true)) = some (r1, r2) := H
    have A5 := Aside0.mk A50
    clear A50
    by_cases c6 : t429 = true
    · subst c6
      have H1 : ((spec_l01In.f a1 0 (wrap64 ((l0.length : Int) - 1))).bind fun t430 => (if t430 = true then (if 0 ≤ a1 then (if a1 < (l0.length : Int) then (spec_l07Change.j0 k l0 a1 a2 (((rd_T62 l0 a1).f0) == 0)) else (none)) else (none)) else (spec_l07Change.j0 k l0 a1 a2 true))) = some (r1, r2) := by rw [if_pos rfl] at H; exact H
      clear H
      have H := H1
      clear H1
      replace H := Option.bind_eq_some_iff.mp H
      obtain ⟨t430, A70, H⟩ := H
      replace H : (if t430 = true then (if 0 ≤ a1 then (if a1 < (l0.length : Int) then (spec_l07Change.j0 k l0 a1 a2 (((rd_T62 l0 a1).f0) == 0)) else (none)) else (none)) else (spec_l07Change.j0 k l0 a1 a2 true)) = some (r1, r2) := H
      have A7 := Aside0.mk A70
      clear A70
      by_cases c8 : t430 = true
      · subst c8
        have H1 : (if 0 ≤ a1 then (if a1 < (l0.length : Int) then (spec_l07Change.j0 k l0 a1 a2 (((rd_T62 l0 a1).f0) == 0)) else (none)) else (none)) = some (r1, r2) := by rw [if_pos rfl] at H; exact H
        clear H
        have H := H1
        clear H1
        by_cases c9 : 0 ≤ a1
        · rw [if_pos c9] at H
          have c9b0 : decide (0 ≤ a1) = true := decide_eq_true c9
          clear c9
          (first | rw [c9b0] | (simp only [i64_w, i32_w]; rw [c9b0]) | skip)
          by_cases c10 : a1 < (l0.length : Int)
          · rw [if_pos c10] at H
            have c10b0 : decide (a1 < (l0.length : Int)) = true := decide_eq_true c10
            clear c10
            have H' := Aside0.mk H
            clear H
            go_wp2_with (first | ((with_reducible refine gate_callee (f := 43) rfl ?_); refine goesL_ (some 10) rfl rfl Try.func43 (by kernel_rfl) rfl #[.slice A0 l0.length c0] rfl (by (try simp only [List.map_toArray, List.map_cons, List.map_nil]); first | done | rfl | (simp only [List.length_drop, List.length_take]; rfl)) ?_; (with_reducible refine (spec_SlotsOk.calls k _ _ l0 true _ ?side1 ?side2 A5.out).mono ?_); (case side1 => repeat (first | exact (Kd.C_below HR0.out HB.out) | (with_reducible refine Kd.C_alloc ?_ _) | (with_reducible refine Kd.C_drewN ?_ _) | (with_reducible refine Kd.C_drew ?_))); (case side2 => exact HC0.out); rintro e w' ⟨rfl, ⟨nd, rfl⟩⟩; refine ⟨_, rfl, ?_⟩) | (go_at_call 72; (with_reducible refine (spec_l01In.calls a1 0 (wrap64 ((l0.length : Int) - 1)) true _ A7.out).mono ?_); rintro e w' ⟨rfl, ⟨nd, rfl⟩⟩; have p431 : 0 ≤ (a1 : Int) := of_decide_eq_true (by first | (with_reducible assumption) | assumption); have q431 : a1 < (l0.length : Int) := of_decide_eq_true (by first | (with_reducible assumption) | assumption); obtain ⟨ad431, A431_1, c431_1, e431, hx431_0, hx431_1, hl431_1, hi431_1⟩ := at_T62 HR0.out a1 p431 q431; cases e431; replace hx431_0 := (HB.out.cell (World.block_lt_of_cell? w _ hx431_0)).trans hx431_0; replace hx431_1 := (HB.out.cell (World.block_lt_of_cell? w _ hx431_1)).trans hx431_1; have HR431_1 := Aside0.mk hi431_1; have HC431_1 := Aside0.mk hl431_1; clear hi431_1 hl431_1; replace p431 := eq_true p431; replace q431 := eq_true q431))
            go_meet
            case rel => exact ⟨_, ((((rd_T62 l0 a1).f0) == 0)), (by first | rfl | (simp; done) | (simp [*]; done)), H', ⟨by first | omega | exact Nat.le_refl _⟩, ⟨by repeat (first | (with_reducible first | exact HB.out | apply below_alloc | apply pw_below_drewN | apply below_drew1) | exact HB.out)⟩⟩
          · rw [if_neg c10] at H
            exact absurd H (by simp)
        · rw [if_neg c9] at H
          exact absurd H (by simp)
      · replace c8 := Bool.eq_false_iff.mpr c8
        subst c8
        have H1 : (spec_l07Change.j0 k l0 a1 a2 true) = some (r1, r2) := by rw [if_neg (show ¬ (false = true) by decide)] at H; exact H
        clear H
        have H := H1
        clear H1
        have H' := Aside0.mk H
        clear H
        go_wp2_with (first | ((with_reducible refine gate_callee (f := 43) rfl ?_); refine goesL_ (some 10) rfl rfl Try.func43 (by kernel_rfl) rfl #[.slice A0 l0.length c0] rfl (by (try simp only [List.map_toArray, List.map_cons, List.map_nil]); first | done | rfl | (simp only [List.length_drop, List.length_take]; rfl)) ?_; (with_reducible refine (spec_SlotsOk.calls k _ _ l0 true _ ?side1 ?side2 A5.out).mono ?_); (case side1 => repeat (first | exact (Kd.C_below HR0.out HB.out) | (with_reducible refine Kd.C_alloc ?_ _) | (with_reducible refine Kd.C_drewN ?_ _) | (with_reducible refine Kd.C_drew ?_))); (case side2 => exact HC0.out); rintro e w' ⟨rfl, ⟨nd, rfl⟩⟩; refine ⟨_, rfl, ?_⟩) | (go_at_call 72; (with_reducible refine (spec_l01In.calls a1 0 (wrap64 ((l0.length : Int) - 1)) false _ A7.out).mono ?_); rintro e w' ⟨rfl, ⟨nd, rfl⟩⟩))
        go_meet
        case rel => exact ⟨_, (true), (by first | rfl | (simp; done) | (simp [*]; done)), H', ⟨by first | omega | exact Nat.le_refl _⟩, ⟨by repeat (first | (with_reducible first | exact HB.out | apply below_alloc | apply pw_below_drewN | apply below_drew1) | exact HB.out)⟩⟩
    · replace c6 := Bool.eq_false_iff.mpr c6
      subst c6
      have H1 : (spec_l07Change.j0 k l0 a1 a2 true) = some (r1, r2) := by rw [if_neg (show ¬ (false = true) by decide)] at H; exact H
      clear H
      have H := H1
      clear H1
      have H' := Aside0.mk H
      clear H
      go_wp2_with (first | ((with_reducible refine gate_callee (f := 43) rfl ?_); refine goesL_ (some 10) rfl rfl Try.func43 (by kernel_rfl) rfl #[.slice A0 l0.length c0] rfl (by (try simp only [List.map_toArray, List.map_cons, List.map_nil]); first | done | rfl | (simp only [List.length_drop, List.length_take]; rfl)) ?_; (with_reducible refine (spec_SlotsOk.calls k _ _ l0 false _ ?side1 ?side2 A5.out).mono ?_); (case side1 => repeat (first | exact (Kd.C_below HR0.out HB.out) | (with_reducible refine Kd.C_alloc ?_ _) | (with_reducible refine Kd.C_drewN ?_ _) | (with_reducible refine Kd.C_drew ?_))); (case side2 => exact HC0.out); rintro e w' ⟨rfl, ⟨nd, rfl⟩⟩; refine ⟨_, rfl, ?_⟩))
      go_meet
      case rel => exact ⟨_, (true), (by first | rfl | (simp; done) | (simp [*]; done)), H', ⟨by first | omega | exact Nat.le_refl _⟩, ⟨by repeat (first | (with_reducible first | exact HB.out | apply below_alloc | apply pw_below_drewN | apply below_drew1) | exact HB.out)⟩⟩
  case rest =>
    clear HC4
    try clear c1
    try clear p2
    try clear c4
    try clear p4
    try clear q4
    try clear hx4
    try clear c6
    try clear p6
    try clear c8
    try clear c9
    try clear c9b0
    try clear c10
    try clear c10b0
    try clear hx431_0
    try clear hx431_1
    try clear p431
    try clear q431
    obtain ⟨kq, x27_3, rfl, HA, HJ3, HB⟩ := hcut
    cases kq with
    | zero => exact absurd HA.out (by simp [spec_l07Change.j0])
    | succ kj3 =>
      have H := HA.out
      clear HA
      simp only [spec_l07Change.j0] at H
      by_cases c11 : x27_3 = true
      · subst c11
        have H1 : (some ((([] : List (S62))), false)) = some (r1, r2) := by rw [if_pos rfl] at H; exact H
        clear H
        have H := H1
        clear H1
        obtain ⟨y432, hy432⟩ : ∃ y_ : List (S62), y_ = (([] : List (S62))) := ⟨_, rfl⟩
        replace H : (some (y432, false)) = some (r1, r2) := by first | (rw [hy432]; with_reducible exact H) | (have H2_ := (Option.bind_some _ _).symm.trans H; rw [hy432]; with_reducible exact H2_) | (have H2_ := (Option.bind_some _ _).symm.trans H; with_reducible exact H2_) | with_reducible exact H | (rw [hy432]; exact H) | exact H
        have Ny432 := Aside0.mk hy432
        clear hy432
        simp only [Option.some.injEq, Prod.mk.injEq] at H
        obtain ⟨rfl, rfl⟩ := H
        go_wp2_with (first | ((with_reducible refine gate_dst (N := 28) rfl ?_); (try (refine gate_guard (by rfl) ?_; dsimp only)); refine Kd.S_lit k62 _ 62 ?hg (N := 28) ?hd (xs := ([] : List (S62))) (inner := []) (ok := fun _ => True) (okp := fun _ => True) ?hr ?hp (fun _ hk => hk) trivial (Below.refl _ _) (Nat.le_refl _) (by simp) ?_; (case hd => rfl); (case hg => rfl); (case hr => first | (go_simp; done) | (go_simp; rfl)); (case hp => exact (Reps.none _ _)); intro v433 w12 ho13 hb hg_ hnew_; clear hg_ hnew_; (first | rw [← Ny432.out] at ho13 | (simp only [Int.reduceToNat] at ho13; rw [← Ny432.out] at ho13)); have n0_ := Aside0.mk (Kd.S_lower ho13 (below_size (by repeat (first | (with_reducible first | exact HB.out | apply below_alloc | apply pw_below_drewN | apply below_drew1) | exact HB.out)))); have n1_ := Aside0.mk (below_step (by repeat (first | (with_reducible first | exact HB.out | apply below_alloc | apply pw_below_drewN | apply below_drew1) | exact HB.out)) hb); clear HB; have HO434 := n0_; have HB := n1_; clear n0_ n1_; clear hb ho13))
        go_ret2
        exact ⟨_, by first | rfl | (simp [errW_none, errW_some] <;> rfl) | (simp [*, errW_none, errW_some] <;> rfl), by (with_reducible repeat (first | apply Kd.S_alloc | apply Kd.S_drewN | apply Kd.S_drew)); exact HO434.out, by repeat (first | (with_reducible first | exact HB.out | apply below_alloc | apply pw_below_drewN | apply below_drew1) | exact HB.out)⟩
      · replace c11 := Bool.eq_false_iff.mpr c11
        subst c11
        have H1 : ((spec_l07Copy.f kj3 l0).bind fun t435 => (if 0 ≤ a1 then (if a1 < (t435.length : Int) then ((some (t435.set (a1 : Int).toNat (⟨wrap64 (((rd_T62 t435 a1).f0) + a2), (rd_T62 t435 a1).f1⟩ : S62) : List (S62))).bind fun y439 => (if ((rd_T62 y439 a1).f0) = 0 then ((some (y439.set (a1 : Int).toNat (⟨(rd_T62 y439 a1).f0, (([] : List Int))⟩ : S62) : List (S62))).bind fun y444 => ((spec_SlotsOk.f kj3 y444).bind fun t445 => (if t445 = true then (some (y444, true)) else (some ((([] : List (S62))), false))))) else ((spec_SlotsOk.f kj3 y439).bind fun t449 => (if t449 = true then (some (y439, true)) else (some ((([] : List (S62))), false)))))) else (none)) else (none))) = some (r1, r2) := by rw [if_neg (show ¬ (false = true) by decide)] at H; exact H
        clear H
        have H := H1
        clear H1
        replace H := Option.bind_eq_some_iff.mp H
        obtain ⟨t435, A140, H⟩ := H
        replace H : (if 0 ≤ a1 then (if a1 < (t435.length : Int) then ((some (t435.set (a1 : Int).toNat (⟨wrap64 (((rd_T62 t435 a1).f0) + a2), (rd_T62 t435 a1).f1⟩ : S62) : List (S62))).bind fun y439 => (if ((rd_T62 y439 a1).f0) = 0 then ((some (y439.set (a1 : Int).toNat (⟨(rd_T62 y439 a1).f0, (([] : List Int))⟩ : S62) : List (S62))).bind fun y444 => ((spec_SlotsOk.f kj3 y444).bind fun t445 => (if t445 = true then (some (y444, true)) else (some ((([] : List (S62))), false))))) else ((spec_SlotsOk.f kj3 y439).bind fun t449 => (if t449 = true then (some (y439, true)) else (some ((([] : List (S62))), false)))))) else (none)) else (none)) = some (r1, r2) := H
        have A14 := Aside0.mk A140
        clear A140
        by_cases c15 : 0 ≤ a1
        · rw [if_pos c15] at H
          have c15b0 : decide (0 ≤ a1) = true := decide_eq_true c15
          clear c15
          by_cases c16 : a1 < (t435.length : Int)
          · rw [if_pos c16] at H
            have c16b0 : decide (a1 < (t435.length : Int)) = true := decide_eq_true c16
            clear c16
            obtain ⟨y439, hy439⟩ : ∃ y_ : List (S62), y_ = (t435.set (a1 : Int).toNat (⟨wrap64 (((rd_T62 t435 a1).f0) + a2), (rd_T62 t435 a1).f1⟩ : S62)) := ⟨_, rfl⟩
            replace H : (if ((rd_T62 y439 a1).f0) = 0 then ((some (y439.set (a1 : Int).toNat (⟨(rd_T62 y439 a1).f0, (([] : List Int))⟩ : S62) : List (S62))).bind fun y444 => ((spec_SlotsOk.f kj3 y444).bind fun t445 => (if t445 = true then (some (y444, true)) else (some ((([] : List (S62))), false))))) else ((spec_SlotsOk.f kj3 y439).bind fun t449 => (if t449 = true then (some (y439, true)) else (some ((([] : List (S62))), false))))) = some (r1, r2) := by first | (rw [hy439]; with_reducible exact H) | (have H2_ := (Option.bind_some _ _).symm.trans H; rw [hy439]; with_reducible exact H2_) | (have H2_ := (Option.bind_some _ _).symm.trans H; with_reducible exact H2_) | with_reducible exact H | (rw [hy439]; exact H) | exact H
            have Ny439 := Aside0.mk hy439
            clear hy439
            by_cases c18 : ((rd_T62 y439 a1).f0) = 0
            · rw [if_pos c18] at H
              have c18b0 : (((rd_T62 y439 a1).f0) == 0) = true := beq_iff_eq.mpr c18
              have c18b1 : (((rd_T62 y439 a1).f0) != 0) = false := bne_eq_false_iff_eq.mpr c18
              clear c18
              obtain ⟨y441, hy441⟩ : ∃ y_ : List Int, y_ = (([] : List Int)) := ⟨_, rfl⟩
              replace H : ((some (y439.set (a1 : Int).toNat (⟨(rd_T62 y439 a1).f0, y441⟩ : S62) : List (S62))).bind fun y444 => ((spec_SlotsOk.f kj3 y444).bind fun t445 => (if t445 = true then (some (y444, true)) else (some ((([] : List (S62))), false))))) = some (r1, r2) := by first | (rw [hy441]; with_reducible exact H) | (have H2_ := (Option.bind_some _ _).symm.trans H; rw [hy441]; with_reducible exact H2_) | (have H2_ := (Option.bind_some _ _).symm.trans H; with_reducible exact H2_) | with_reducible exact H | (rw [hy441]; exact H) | exact H
              have Ny441 := Aside0.mk hy441
              clear hy441
              obtain ⟨y444, hy444⟩ : ∃ y_ : List (S62), y_ = (y439.set (a1 : Int).toNat (⟨(rd_T62 y439 a1).f0, y441⟩ : S62)) := ⟨_, rfl⟩
              replace H : ((spec_SlotsOk.f kj3 y444).bind fun t445 => (if t445 = true then (some (y444, true)) else (some ((([] : List (S62))), false)))) = some (r1, r2) := by first | (rw [hy444]; with_reducible exact H) | (have H2_ := (Option.bind_some _ _).symm.trans H; rw [hy444]; with_reducible exact H2_) | (have H2_ := (Option.bind_some _ _).symm.trans H; with_reducible exact H2_) | with_reducible exact H | (rw [hy444]; exact H) | exact H
              have Ny444 := Aside0.mk hy444
              clear hy444
              replace H := Option.bind_eq_some_iff.mp H
              obtain ⟨t445, A200, H⟩ := H
              replace H : (if t445 = true then (some (y444, true)) else (some ((([] : List (S62))), false))) = some (r1, r2) := H
              have A20 := Aside0.mk A200
              clear A200
              by_cases c21 : t445 = true
              · subst c21
                have H1 : (some (y444, true)) = some (r1, r2) := by rw [if_pos rfl] at H; exact H
                clear H
                have H := H1
                clear H1
                simp only [Option.some.injEq, Prod.mk.injEq] at H
                obtain ⟨rfl, rfl⟩ := H
                go_wp2_with (first | ((with_reducible refine gate_callee (f := 105) rfl ?_); refine goesL_ (some 30) rfl rfl Try.func105 (by kernel_rfl) rfl #[.slice A0 l0.length c0] rfl (by (try simp only [List.map_toArray, List.map_cons, List.map_nil]); first | done | rfl | (simp only [List.length_drop, List.length_take]; rfl)) ?_; (with_reducible refine (spec_l07Copy.calls kj3 _ _ l0 t435 _ ?side1 ?side2 A14.out).mono ?_); (case side1 => repeat (first | exact (Kd.C_below HR0.out HB.out) | (with_reducible refine Kd.C_alloc ?_ _) | (with_reducible refine Kd.C_drewN ?_ _) | (with_reducible refine Kd.C_drew ?_))); (case side2 => exact HC0.out); rintro e w22 ⟨v436, rfl, ho0, hb⟩; refine ⟨_, rfl, ?_⟩; have n0_ := Aside0.mk (Kd.S_lower ho0 (below_size (by repeat (first | (with_reducible first | exact HB.out | apply below_alloc | apply pw_below_drewN | apply below_drew1) | exact HB.out)))); have n1_ := Aside0.mk (below_step (by repeat (first | (with_reducible first | exact HB.out | apply below_alloc | apply pw_below_drewN | apply below_drew1) | exact HB.out)) hb); clear HB; have HO437 := n0_; have HB := n1_; clear n0_ n1_; (try clear hb); (try clear hb2); (try clear hk); (try clear hi); (try clear ho0); obtain ⟨Ao23, co23, eo23⟩ := Kd.S_slice HO437.out; subst eo23; have p438 : 0 ≤ (a1 : Int) := of_decide_eq_true (by first | (with_reducible assumption) | assumption); have q438 : a1 < (t435.length : Int) := of_decide_eq_true (by first | (with_reducible assumption) | assumption); obtain ⟨ad438, A438_1, c438_1, e438, hx438_0, hx438_1, hl438_1, hi438_1⟩ := at_T62 (Kd.S_reads' HO437.out).2.2 a1 p438 q438; cases e438; obtain ⟨ce438, hce438, hMe438, hcc438⟩ := Kd.S_get HO437.out z62 a1 p438 (by first | exact q438 | exact of_decide_eq_true (by first | (with_reducible assumption) | assumption) | (have e_ := (Kd.S_reads' HO437.out).1; omega)); obtain ⟨ve438_1, rfl, ge438_1⟩ := k62_openM hMe438; have hv438_1 := hcc438 1 _ rfl; rw [add_field _ _ 1 (by omega)] at hv438_1; replace hv438_1 := Option.some.inj (hv438_1.symm.trans hx438_1); rw [hv438_1] at ge438_1; have HL438_1 := Aside0.mk (show Kd.R (Kd.int .i64) 3 _ _ _ _ ((rd_T62 t435 a1).f1) from ge438_1); clear hv438_1 ge438_1; clear hcc438 hce438; have HR438_1 := Aside0.mk hi438_1; have HC438_1 := Aside0.mk hl438_1; clear hi438_1 hl438_1; replace p438 := eq_true p438; replace q438 := eq_true q438; have p17 : 0 ≤ (a1 : Int) := of_decide_eq_true (by first | (with_reducible assumption) | assumption); have q17 : (a1 : Int) < ((t435.length : Int) : Int) := of_decide_eq_true (by first | (with_reducible assumption) | assumption); obtain ⟨go17, co17, eo17, gb17, gl17, cl17, HG17⟩ := Kd.S_form HO437.out (by omega); (first | cases eo17 | (injection eo17 with ea_ en_ ec_; (first | subst ea_ | (injection ea_ with ea_; subst ea_)); subst ec_; clear en_)); have GB17 := Aside0.mk gb17; have GG17 := Aside0.mk HG17; clear gb17 gl17 HG17; (first | simp only [add_plain] at hx438_0 | skip); (first | simp only [add_plain] at hx438_1 | skip); obtain ⟨_, ce17, hcl17, hM17, hcc17, hfr17, _, _⟩ := Kd.S_elem HO437.out z62 (a1 : Int) p17 q17; obtain ⟨ve17_1, rfl, ge17_1⟩ := k62_openM hM17; have hx17_0 : w22.cell? ⟨go17, (a1 : Int).toNat * 2, none⟩ = some (.int .i64 ((rd_T62 t435 a1).f0)) := hcc17 0 _ rfl; have hx17_1 : w22.cell? ⟨go17, (a1 : Int).toNat * 2 + 1, none⟩ = some (ve17_1) := hcc17 1 _ rfl; have hf17_0 : w22.frozen? ⟨go17, (a1 : Int).toNat * 2, none⟩ = false := hfr17 0; have hf17_1 : w22.frozen? ⟨go17, (a1 : Int).toNat * 2 + 1, none⟩ = false := hfr17 1; (try clear hcl17); (try clear hcc17); (try clear hfr17); (try clear hM17); replace p17 := eq_true p17; replace q17 := eq_true q17; have HX24 := Aside0.mk (show Kd.S k62 62 w22 w.heap.size (fun k_ => ((fun _ => True)) k_ ∧ ¬ ((fun _ => False)) k_) (.slice (some ⟨go17, 0, none⟩) t435.length co23) t435 from (by (with_reducible repeat (first | apply Kd.S_alloc | apply Kd.S_drewN | apply Kd.S_drew)); exact Kd.S_mono HO437.out (fun k_ hk => ⟨trivial, fun e_ => e_⟩))); obtain ⟨oki24, ce24, hcl24, hM24, hcc24, hfr24, hoki24, hH24⟩ := Kd.S_elem HX24.out z62 (a1 : Int) (of_decide_eq_true (by first | (with_reducible assumption) | assumption)) (by have h_ : (a1 : Int) < ((t435.length : Int) : Int) := of_decide_eq_true (by first | (with_reducible assumption) | assumption); first | exact h_ | (have e_ := (Kd.S_reads' HO437.out).1; omega) | simpa using h_); obtain ⟨ve24_1, rfl, ge24_1⟩ := k62_openM hM24; have HP24 := Kd.S_seg hH24 (of_decide_eq_true (by first | (with_reducible assumption) | assumption)) (by have h_ : (a1 : Int) < ((t435.length : Int) : Int) := of_decide_eq_true (by first | (with_reducible assumption) | assumption); first | exact h_ | (have e_ := (Kd.S_reads' HO437.out).1; omega) | simpa using h_) (seg := [.int .i64 (wrap64 (((rd_T62 t435 a1).f0) + a2))]) (j := 0) (show 1 ≤ 2 from by decide) (x' := (⟨wrap64 (((rd_T62 t435 a1).f0) + a2), (rd_T62 t435 a1).f1⟩ : S62)) (k62_mkM _ _ _ (⟨wrap64 (((rd_T62 t435 a1).f0) + a2), (rd_T62 t435 a1).f1⟩ : S62) (Kd.R_mono ge24_1 (fun _ h_ => Or.inl h_))) (fun _ hk => hk) (fun k_ hk_ => hk_.elim); have hx24_0 := hcc24 0 _ rfl; (try simp only [show (k62).sz = 2 from rfl, Nat.mul_one, Nat.add_zero] at hx24_0); have hf24_0 := hfr24 0; (try simp only [show (k62).sz = 2 from rfl, Nat.mul_one, Nat.add_zero] at hf24_0); (try clear hcl24); (try clear hcc24); (try clear hfr24); (try clear hM24); (try clear hoki24); (try clear hH24)) | ((with_reducible refine gate_store (t := 3) (p := 41) rfl ?_); refine store_event (t := 3) (p := 41) (v := ?vo_w25) (w1 := (w22.setCell ⟨go17, (a1 : Int).toNat * 2, none⟩ (.int .i64 (wrap64 (((rd_T62 t435 a1).f0) + a2))))) ?hg ?ho ?hn ?hr ?_; (case ho => rfl); (case hg => rfl); (case hn => rfl); (case hr => first | (go_simp; done) | (go_simp; rfl) | (obtain ⟨A_, c_, e_⟩ := Kd.R_slice HO437.out; rw [e_]; first | (go_simp; done) | (go_simp; rfl)) | (obtain ⟨A_, c_, e_⟩ := Kd.S_slice HO437.out; rw [e_]; first | (go_simp; done) | (go_simp; rfl)) | (obtain ⟨A_, c_, e_⟩ := Kd.R_slice HO443.out; rw [e_]; first | (go_simp; done) | (go_simp; rfl)) | (obtain ⟨A_, c_, e_⟩ := Kd.S_slice HO443.out; rw [e_]; first | (go_simp; done) | (go_simp; rfl))); intro w25 hw; have hg : w22.grownBy w25 (some go17) := (by rw [hw]; exact HP24.2); have hp_ : Kd.S k62 62 w25 w.heap.size (fun _ => True) (.slice (some ⟨go17, 0, none⟩) t435.length co23) y439 := (by rw [hw, Ny439.out]; exact HP24.1); clear HP24; have n0_ := Aside0.mk (hp_); have n1_ := Aside0.mk (Kd.R_after (v := (.slice (some ⟨go17, 0, none⟩) t435.length co23)) (v1 := (.slice (some ⟨go17, 0, none⟩) t435.length co23)) (ok := (fun _ => True)) (by (with_reducible repeat (first | apply Kd.R_alloc | apply Kd.R_drewN | apply Kd.R_drew)); exact HL438_1.out) hg (.inl rfl)); have n2_ := Aside0.mk ((by rw [hw]; exact below_set (HB.out) GB17.out : Below w.heap.size w w25)); clear HO437; clear HL438_1; clear HB; have HO437 := n0_; have HL438_1 := n1_; have HB := n2_; clear n0_ n1_ n2_; clear hg hw hp_; have p440 : 0 ≤ (a1 : Int) := of_decide_eq_true (by first | (with_reducible assumption) | assumption); have q440 : a1 < (y439.length : Int) := (by have h_ : (a1 : Int) < ((t435.length : Int) : Int) := of_decide_eq_true (by first | (with_reducible assumption) | assumption); first | (have e_ := (Kd.S_reads' HO437.out).1; omega) | simpa only [Ny439.out, List.length_set] using h_); have ql440 : ((a1 : Int) < ((t435.length : Int) : Int)) = True := eq_true (of_decide_eq_true (by first | (with_reducible assumption) | assumption)); obtain ⟨ad440, A440_1, c440_1, e440, hx440_0, hx440_1, hl440_1, hi440_1⟩ := at_T62 (Kd.S_reads' HO437.out).2.2 a1 p440 q440; obtain rfl : (⟨go17, 0, none⟩ : Addr) = ad440 := (by injection e440); obtain ⟨ce440, hce440, hMe440, hcc440⟩ := Kd.S_get HO437.out z62 a1 p440 (by first | exact q440 | exact of_decide_eq_true (by first | (with_reducible assumption) | assumption) | (have e_ := (Kd.S_reads' HO437.out).1; omega)); obtain ⟨ve440_1, rfl, ge440_1⟩ := k62_openM hMe440; have hv440_1 := hcc440 1 _ rfl; rw [add_field _ _ 1 (by omega)] at hv440_1; replace hv440_1 := Option.some.inj (hv440_1.symm.trans hx440_1); rw [hv440_1] at ge440_1; have HL440_1 := Aside0.mk (show Kd.R (Kd.int .i64) 3 _ _ _ _ ((rd_T62 y439 a1).f1) from ge440_1); clear hv440_1 ge440_1; clear hcc440 hce440; (first | simp only [add_plain] at hx440_0 | simp only [add_at] at hx440_0 | simp only [Addr.add, Nat.zero_add] at hx440_0 | skip); (first | simp only [add_plain] at hx440_1 | simp only [add_at] at hx440_1 | simp only [Addr.add, Nat.zero_add] at hx440_1 | skip); have HR440_1 := Aside0.mk hi440_1; have HC440_1 := Aside0.mk hl440_1; clear hi440_1 hl440_1; replace p440 := eq_true p440; replace q440 := eq_true q440) | ((with_reducible refine gate_dst (N := 50) rfl ?_); (try (refine gate_guard (by rfl) ?_; dsimp only)); refine Kd.R_lit (Kd.int .i64) _ 3 ?hg (N := 50) ?hd (xs := ([] : List Int)) (inner := []) (ok := fun _ => True) (okp := fun _ => True) ?hr ?hp (fun _ hk => hk) trivial (Below.refl _ _) (Nat.le_refl _) (by simp) ?_; (case hd => rfl); (case hg => rfl); (case hr => first | (go_simp; done) | (go_simp; rfl) | (obtain ⟨A_, c_, e_⟩ := Kd.R_slice HO437.out; rw [e_]; first | (go_simp; done) | (go_simp; rfl)) | (obtain ⟨A_, c_, e_⟩ := Kd.S_slice HO437.out; rw [e_]; first | (go_simp; done) | (go_simp; rfl)) | (obtain ⟨A_, c_, e_⟩ := Kd.R_slice HO443.out; rw [e_]; first | (go_simp; done) | (go_simp; rfl)) | (obtain ⟨A_, c_, e_⟩ := Kd.S_slice HO443.out; rw [e_]; first | (go_simp; done) | (go_simp; rfl))); (case hp => exact (Reps.none _ _)); intro v442 w26 ho27 hb hg_ hnew_; clear hg_ hnew_; (first | rw [← Ny441.out] at ho27 | (simp only [Int.reduceToNat] at ho27; rw [← Ny441.out] at ho27)); have n0_ := Aside0.mk (Kd.S_elder' (by (with_reducible repeat (first | apply Kd.S_alloc | apply Kd.S_drewN | apply Kd.S_drew)); exact HO437.out) (Kd.R_base ho27) hb); have n1_ := Aside0.mk (Kd.R_elder' (by (with_reducible repeat (first | apply Kd.R_alloc | apply Kd.R_drewN | apply Kd.R_drew)); exact HL438_1.out) (Kd.R_base ho27) hb); have n2_ := Aside0.mk (Kd.R_elder' (by (with_reducible repeat (first | apply Kd.R_alloc | apply Kd.R_drewN | apply Kd.R_drew)); exact HL440_1.out) (Kd.R_base ho27) hb); have n3_ := Aside0.mk (Kd.R_lower (Kd.R_new' (Kd.R_new' ho27 (Kd.R_lt (by (with_reducible repeat (first | apply Kd.R_alloc | apply Kd.R_drewN | apply Kd.R_drew)); exact HL438_1.out))) (Kd.R_lt (by (with_reducible repeat (first | apply Kd.R_alloc | apply Kd.R_drewN | apply Kd.R_drew)); exact HL440_1.out))) (below_size (by repeat (first | (with_reducible first | exact HB.out | apply below_alloc | apply pw_below_drewN | apply below_drew1) | exact HB.out)))); have n4_ := Aside0.mk (Kd.C_below (by repeat (first | (with_reducible exact HR440_1.out) | (with_reducible refine Kd.C_alloc ?_ _) | (with_reducible refine Kd.C_drewN ?_ _) | (with_reducible refine Kd.C_drew ?_) | exact HR440_1.out)) hb); have n5_ := Aside0.mk (below_step (by repeat (first | (with_reducible first | exact HB.out | apply below_alloc | apply pw_below_drewN | apply below_drew1) | exact HB.out)) hb); clear HO437; clear HL438_1; clear HL440_1; clear HR440_1; clear HB; have HO437 := n0_; have HL438_1 := n1_; have HL440_1 := n2_; have HO443 := n3_; have HR440_1 := n4_; have HB := n5_; clear n0_ n1_ n2_ n3_ n4_ n5_; clear hb ho27; have p19 : 0 ≤ (a1 : Int) := of_decide_eq_true (by first | (with_reducible assumption) | assumption); have q19 : (a1 : Int) < ((t435.length : Int) : Int) := of_decide_eq_true (by first | (with_reducible assumption) | assumption); obtain ⟨_, ce19, hcl19, hM19, hcc19, hfr19, _, _⟩ := Kd.S_elem HO437.out z62 (a1 : Int) p19 q19; obtain ⟨ve19_1, rfl, ge19_1⟩ := k62_openM hM19; have hx19_0 : w26.cell? ⟨go17, (a1 : Int).toNat * 2, none⟩ = some (.int .i64 ((rd_T62 y439 a1).f0)) := hcc19 0 _ rfl; have hx19_1 : w26.cell? ⟨go17, (a1 : Int).toNat * 2 + 1, none⟩ = some (ve19_1) := hcc19 1 _ rfl; have hf19_0 : w26.frozen? ⟨go17, (a1 : Int).toNat * 2, none⟩ = false := hfr19 0; have hf19_1 : w26.frozen? ⟨go17, (a1 : Int).toNat * 2 + 1, none⟩ = false := hfr19 1; (try clear hcl19); (try clear hcc19); (try clear hfr19); (try clear hM19); replace p19 := eq_true p19; replace q19 := eq_true q19; have n_ := Aside0.mk (Kd.S_mono (ok' := (fun k_ => some k_ ≠ (v442 : Value).ownBlock)) HO437.out (fun k_ hk => hk.2)); clear HO437; have HO437 := n_; clear n_; have HX28 := Aside0.mk (show Kd.S k62 62 w26 w.heap.size (fun k_ => ((fun _ => True)) k_ ∧ ¬ ((fun k_ => some k_ = (v442 : Value).ownBlock)) k_) (.slice (some ⟨go17, 0, none⟩) t435.length co23) y439 from (by (with_reducible repeat (first | apply Kd.S_alloc | apply Kd.S_drewN | apply Kd.S_drew)); exact Kd.S_mono HO437.out (fun k_ hk => ⟨trivial, fun e_ => hk e_⟩))); obtain ⟨oki28, ce28, hcl28, hM28, hcc28, hfr28, hoki28, hH28⟩ := Kd.S_elem HX28.out z62 (a1 : Int) (of_decide_eq_true (by first | (with_reducible assumption) | assumption)) (by have h_ : (a1 : Int) < ((t435.length : Int) : Int) := of_decide_eq_true (by first | (with_reducible assumption) | assumption); first | exact h_ | (have e_ := (Kd.S_reads' HO437.out).1; omega) | simpa using h_); obtain ⟨ve28_1, rfl, ge28_1⟩ := k62_openM hM28; have HP28 := Kd.S_seg hH28 (of_decide_eq_true (by first | (with_reducible assumption) | assumption)) (by have h_ : (a1 : Int) < ((t435.length : Int) : Int) := of_decide_eq_true (by first | (with_reducible assumption) | assumption); first | exact h_ | (have e_ := (Kd.S_reads' HO437.out).1; omega) | simpa using h_) (seg := [v442]) (j := 1) (show 2 ≤ 2 from by decide) (x' := (⟨(rd_T62 y439 a1).f0, y441⟩ : S62)) (k62_mkM _ _ _ (⟨(rd_T62 y439 a1).f0, y441⟩ : S62) (Kd.R_mono (Kd.R_tight rfl (Kd.R_mono (ok' := fun k_ => ((fun _ => True)) k_ ∧ k_ ≠ go17) (Kd.R_apart' (HO443.out) (Kd.S_typed HO437.out) (by decide)) (fun k_ hk => ⟨trivial, fun e_ => (hk.2) (by rw [e_]; rfl)⟩))) (fun _ h_ => Or.inr (h_)))) (fun _ hk => hk) (fun k_ hk_ => ((Kd.R_mono (ok' := fun k_ => ((fun _ => True)) k_ ∧ k_ ≠ go17) (Kd.R_apart' (HO443.out) (Kd.S_typed HO437.out) (by decide)) (fun k_ hk => ⟨trivial, fun e_ => (hk.2) (by rw [e_]; rfl)⟩))).1 k_ hk_.symm); have hx28_1 := hcc28 1 _ rfl; (try simp only [show (k62).sz = 2 from rfl, Nat.mul_one, Nat.add_zero] at hx28_1); have hf28_1 := hfr28 1; (try simp only [show (k62).sz = 2 from rfl, Nat.mul_one, Nat.add_zero] at hf28_1); (try clear hcl28); (try clear hcc28); (try clear hfr28); (try clear hM28); (try clear hoki28); (try clear hH28)) | ((with_reducible refine gate_store (t := 22) (p := 52) rfl ?_); refine store_event (t := 22) (p := 52) (v := ?vo_w29) (w1 := (w26.setCell ⟨go17, (a1 : Int).toNat * 2 + 1, none⟩ (v442))) ?hg ?ho ?hn ?hr ?_; (case ho => rfl); (case hg => rfl); (case hn => rfl); (case hr => first | (go_simp; done) | (go_simp; rfl) | (obtain ⟨A_, c_, e_⟩ := Kd.R_slice HO437.out; rw [e_]; first | (go_simp; done) | (go_simp; rfl)) | (obtain ⟨A_, c_, e_⟩ := Kd.S_slice HO437.out; rw [e_]; first | (go_simp; done) | (go_simp; rfl)) | (obtain ⟨A_, c_, e_⟩ := Kd.R_slice HO443.out; rw [e_]; first | (go_simp; done) | (go_simp; rfl)) | (obtain ⟨A_, c_, e_⟩ := Kd.S_slice HO443.out; rw [e_]; first | (go_simp; done) | (go_simp; rfl))); intro w29 hw; have hg : w26.grownBy w29 (some go17) := (by rw [hw]; exact HP28.2); have hp_ : Kd.S k62 62 w29 w.heap.size (fun _ => True) (.slice (some ⟨go17, 0, none⟩) t435.length co23) y444 := (by rw [hw, Ny444.out]; exact HP28.1); clear HP28; have n0_ := Aside0.mk (hp_); have n1_ := Aside0.mk (Kd.R_after (v := (.slice (some ⟨go17, 0, none⟩) t435.length co23)) (v1 := (.slice (some ⟨go17, 0, none⟩) t435.length co23)) (ok := (fun k_ => some k_ ≠ (v442 : Value).ownBlock)) (by (with_reducible repeat (first | apply Kd.R_alloc | apply Kd.R_drewN | apply Kd.R_drew)); exact Kd.R_mono HL438_1.out (fun _ hk => ⟨hk.2, hk.1.2⟩)) hg (.inl rfl)); have n2_ := Aside0.mk (Kd.R_after (v := (.slice (some ⟨go17, 0, none⟩) t435.length co23)) (v1 := (.slice (some ⟨go17, 0, none⟩) t435.length co23)) (ok := (fun k_ => some k_ ≠ (v442 : Value).ownBlock)) (by (with_reducible repeat (first | apply Kd.R_alloc | apply Kd.R_drewN | apply Kd.R_drew)); exact Kd.R_mono HL440_1.out (fun _ hk => ⟨hk.2, hk.1.2⟩)) hg (.inl rfl)); have n3_ := Aside0.mk ((by rw [hw]; exact below_set (HB.out) GB17.out : Below w.heap.size w w29)); clear HO437; clear HL438_1; clear HL440_1; clear HB; clear HO443; have HO437 := n0_; have HL438_1 := n1_; have HL440_1 := n2_; have HB := n3_; clear n0_ n1_ n2_ n3_; clear hg hw hp_) | ((with_reducible refine gate_callee (f := 43) rfl ?_); refine goesL_ (some 54) rfl rfl Try.func43 (by kernel_rfl) rfl #[.slice (some ⟨go17, 0, none⟩) y444.length co23] rfl (by (try simp only [List.map_toArray, List.map_cons, List.map_nil]); first | done | (rw [show y444.length = t435.length from (Kd.S_reads' HO437.out).1.symm] <;> rfl) | rfl | (simp only [List.length_drop, List.length_take]; rfl)) ?_; (with_reducible refine (spec_SlotsOk.calls kj3 _ _ y444 true _ ?side1 ?side2 A20.out).mono ?_); (case side1 => repeat (first | exact (Kd.S_reads' HO437.out).2.2 | (with_reducible refine Kd.C_alloc ?_ _) | (with_reducible refine Kd.C_drewN ?_ _) | (with_reducible refine Kd.C_drew ?_))); (case side2 => rw [show y444.length = t435.length from (Kd.S_reads' HO437.out).1.symm]; exact (Kd.S_reads' HO437.out).2.1); rintro e w' ⟨rfl, ⟨nd, rfl⟩⟩; refine ⟨_, rfl, ?_⟩))
                go_ret2
                exact ⟨_, by first | rfl | (simp [errW_none, errW_some] <;> rfl) | (simp [*, errW_none, errW_some] <;> rfl), by (with_reducible repeat (first | apply Kd.S_alloc | apply Kd.S_drewN | apply Kd.S_drew)); exact HO437.out, by repeat (first | (with_reducible first | exact HB.out | apply below_alloc | apply pw_below_drewN | apply below_drew1) | exact HB.out)⟩
              · replace c21 := Bool.eq_false_iff.mpr c21
                subst c21
                have H1 : (some ((([] : List (S62))), false)) = some (r1, r2) := by rw [if_neg (show ¬ (false = true) by decide)] at H; exact H
                clear H
                have H := H1
                clear H1
                obtain ⟨y446, hy446⟩ : ∃ y_ : List (S62), y_ = (([] : List (S62))) := ⟨_, rfl⟩
                replace H : (some (y446, false)) = some (r1, r2) := by first | (rw [hy446]; with_reducible exact H) | (have H2_ := (Option.bind_some _ _).symm.trans H; rw [hy446]; with_reducible exact H2_) | (have H2_ := (Option.bind_some _ _).symm.trans H; with_reducible exact H2_) | with_reducible exact H | (rw [hy446]; exact H) | exact H
                have Ny446 := Aside0.mk hy446
                clear hy446
                simp only [Option.some.injEq, Prod.mk.injEq] at H
                obtain ⟨rfl, rfl⟩ := H
                go_wp2_with (first | ((with_reducible refine gate_callee (f := 105) rfl ?_); refine goesL_ (some 30) rfl rfl Try.func105 (by kernel_rfl) rfl #[.slice A0 l0.length c0] rfl (by (try simp only [List.map_toArray, List.map_cons, List.map_nil]); first | done | rfl | (simp only [List.length_drop, List.length_take]; rfl)) ?_; (with_reducible refine (spec_l07Copy.calls kj3 _ _ l0 t435 _ ?side1 ?side2 A14.out).mono ?_); (case side1 => repeat (first | exact (Kd.C_below HR0.out HB.out) | (with_reducible refine Kd.C_alloc ?_ _) | (with_reducible refine Kd.C_drewN ?_ _) | (with_reducible refine Kd.C_drew ?_))); (case side2 => exact HC0.out); rintro e w30 ⟨v436, rfl, ho0, hb⟩; refine ⟨_, rfl, ?_⟩; have n0_ := Aside0.mk (Kd.S_lower ho0 (below_size (by repeat (first | (with_reducible first | exact HB.out | apply below_alloc | apply pw_below_drewN | apply below_drew1) | exact HB.out)))); have n1_ := Aside0.mk (below_step (by repeat (first | (with_reducible first | exact HB.out | apply below_alloc | apply pw_below_drewN | apply below_drew1) | exact HB.out)) hb); clear HB; have HO437 := n0_; have HB := n1_; clear n0_ n1_; (try clear hb); (try clear hb2); (try clear hk); (try clear hi); (try clear ho0); obtain ⟨Ao31, co31, eo31⟩ := Kd.S_slice HO437.out; subst eo31; have p438 : 0 ≤ (a1 : Int) := of_decide_eq_true (by first | (with_reducible assumption) | assumption); have q438 : a1 < (t435.length : Int) := of_decide_eq_true (by first | (with_reducible assumption) | assumption); obtain ⟨ad438, A438_1, c438_1, e438, hx438_0, hx438_1, hl438_1, hi438_1⟩ := at_T62 (Kd.S_reads' HO437.out).2.2 a1 p438 q438; cases e438; obtain ⟨ce438, hce438, hMe438, hcc438⟩ := Kd.S_get HO437.out z62 a1 p438 (by first | exact q438 | exact of_decide_eq_true (by first | (with_reducible assumption) | assumption) | (have e_ := (Kd.S_reads' HO437.out).1; omega)); obtain ⟨ve438_1, rfl, ge438_1⟩ := k62_openM hMe438; have hv438_1 := hcc438 1 _ rfl; rw [add_field _ _ 1 (by omega)] at hv438_1; replace hv438_1 := Option.some.inj (hv438_1.symm.trans hx438_1); rw [hv438_1] at ge438_1; have HL438_1 := Aside0.mk (show Kd.R (Kd.int .i64) 3 _ _ _ _ ((rd_T62 t435 a1).f1) from ge438_1); clear hv438_1 ge438_1; clear hcc438 hce438; have HR438_1 := Aside0.mk hi438_1; have HC438_1 := Aside0.mk hl438_1; clear hi438_1 hl438_1; replace p438 := eq_true p438; replace q438 := eq_true q438; have p17 : 0 ≤ (a1 : Int) := of_decide_eq_true (by first | (with_reducible assumption) | assumption); have q17 : (a1 : Int) < ((t435.length : Int) : Int) := of_decide_eq_true (by first | (with_reducible assumption) | assumption); obtain ⟨go17, co17, eo17, gb17, gl17, cl17, HG17⟩ := Kd.S_form HO437.out (by omega); (first | cases eo17 | (injection eo17 with ea_ en_ ec_; (first | subst ea_ | (injection ea_ with ea_; subst ea_)); subst ec_; clear en_)); have GB17 := Aside0.mk gb17; have GG17 := Aside0.mk HG17; clear gb17 gl17 HG17; (first | simp only [add_plain] at hx438_0 | skip); (first | simp only [add_plain] at hx438_1 | skip); obtain ⟨_, ce17, hcl17, hM17, hcc17, hfr17, _, _⟩ := Kd.S_elem HO437.out z62 (a1 : Int) p17 q17; obtain ⟨ve17_1, rfl, ge17_1⟩ := k62_openM hM17; have hx17_0 : w30.cell? ⟨go17, (a1 : Int).toNat * 2, none⟩ = some (.int .i64 ((rd_T62 t435 a1).f0)) := hcc17 0 _ rfl; have hx17_1 : w30.cell? ⟨go17, (a1 : Int).toNat * 2 + 1, none⟩ = some (ve17_1) := hcc17 1 _ rfl; have hf17_0 : w30.frozen? ⟨go17, (a1 : Int).toNat * 2, none⟩ = false := hfr17 0; have hf17_1 : w30.frozen? ⟨go17, (a1 : Int).toNat * 2 + 1, none⟩ = false := hfr17 1; (try clear hcl17); (try clear hcc17); (try clear hfr17); (try clear hM17); replace p17 := eq_true p17; replace q17 := eq_true q17; have HX32 := Aside0.mk (show Kd.S k62 62 w30 w.heap.size (fun k_ => ((fun _ => True)) k_ ∧ ¬ ((fun _ => False)) k_) (.slice (some ⟨go17, 0, none⟩) t435.length co31) t435 from (by (with_reducible repeat (first | apply Kd.S_alloc | apply Kd.S_drewN | apply Kd.S_drew)); exact Kd.S_mono HO437.out (fun k_ hk => ⟨trivial, fun e_ => e_⟩))); obtain ⟨oki32, ce32, hcl32, hM32, hcc32, hfr32, hoki32, hH32⟩ := Kd.S_elem HX32.out z62 (a1 : Int) (of_decide_eq_true (by first | (with_reducible assumption) | assumption)) (by have h_ : (a1 : Int) < ((t435.length : Int) : Int) := of_decide_eq_true (by first | (with_reducible assumption) | assumption); first | exact h_ | (have e_ := (Kd.S_reads' HO437.out).1; omega) | simpa using h_); obtain ⟨ve32_1, rfl, ge32_1⟩ := k62_openM hM32; have HP32 := Kd.S_seg hH32 (of_decide_eq_true (by first | (with_reducible assumption) | assumption)) (by have h_ : (a1 : Int) < ((t435.length : Int) : Int) := of_decide_eq_true (by first | (with_reducible assumption) | assumption); first | exact h_ | (have e_ := (Kd.S_reads' HO437.out).1; omega) | simpa using h_) (seg := [.int .i64 (wrap64 (((rd_T62 t435 a1).f0) + a2))]) (j := 0) (show 1 ≤ 2 from by decide) (x' := (⟨wrap64 (((rd_T62 t435 a1).f0) + a2), (rd_T62 t435 a1).f1⟩ : S62)) (k62_mkM _ _ _ (⟨wrap64 (((rd_T62 t435 a1).f0) + a2), (rd_T62 t435 a1).f1⟩ : S62) (Kd.R_mono ge32_1 (fun _ h_ => Or.inl h_))) (fun _ hk => hk) (fun k_ hk_ => hk_.elim); have hx32_0 := hcc32 0 _ rfl; (try simp only [show (k62).sz = 2 from rfl, Nat.mul_one, Nat.add_zero] at hx32_0); have hf32_0 := hfr32 0; (try simp only [show (k62).sz = 2 from rfl, Nat.mul_one, Nat.add_zero] at hf32_0); (try clear hcl32); (try clear hcc32); (try clear hfr32); (try clear hM32); (try clear hoki32); (try clear hH32)) | ((with_reducible refine gate_store (t := 3) (p := 41) rfl ?_); refine store_event (t := 3) (p := 41) (v := ?vo_w33) (w1 := (w30.setCell ⟨go17, (a1 : Int).toNat * 2, none⟩ (.int .i64 (wrap64 (((rd_T62 t435 a1).f0) + a2))))) ?hg ?ho ?hn ?hr ?_; (case ho => rfl); (case hg => rfl); (case hn => rfl); (case hr => first | (go_simp; done) | (go_simp; rfl) | (obtain ⟨A_, c_, e_⟩ := Kd.R_slice HO437.out; rw [e_]; first | (go_simp; done) | (go_simp; rfl)) | (obtain ⟨A_, c_, e_⟩ := Kd.S_slice HO437.out; rw [e_]; first | (go_simp; done) | (go_simp; rfl)) | (obtain ⟨A_, c_, e_⟩ := Kd.R_slice HO443.out; rw [e_]; first | (go_simp; done) | (go_simp; rfl)) | (obtain ⟨A_, c_, e_⟩ := Kd.S_slice HO443.out; rw [e_]; first | (go_simp; done) | (go_simp; rfl)) | (obtain ⟨A_, c_, e_⟩ := Kd.R_slice HO448.out; rw [e_]; first | (go_simp; done) | (go_simp; rfl)) | (obtain ⟨A_, c_, e_⟩ := Kd.S_slice HO448.out; rw [e_]; first | (go_simp; done) | (go_simp; rfl))); intro w33 hw; have hg : w30.grownBy w33 (some go17) := (by rw [hw]; exact HP32.2); have hp_ : Kd.S k62 62 w33 w.heap.size (fun _ => True) (.slice (some ⟨go17, 0, none⟩) t435.length co31) y439 := (by rw [hw, Ny439.out]; exact HP32.1); clear HP32; have n0_ := Aside0.mk (hp_); have n1_ := Aside0.mk (Kd.R_after (v := (.slice (some ⟨go17, 0, none⟩) t435.length co31)) (v1 := (.slice (some ⟨go17, 0, none⟩) t435.length co31)) (ok := (fun _ => True)) (by (with_reducible repeat (first | apply Kd.R_alloc | apply Kd.R_drewN | apply Kd.R_drew)); exact HL438_1.out) hg (.inl rfl)); have n2_ := Aside0.mk ((by rw [hw]; exact below_set (HB.out) GB17.out : Below w.heap.size w w33)); clear HO437; clear HL438_1; clear HB; have HO437 := n0_; have HL438_1 := n1_; have HB := n2_; clear n0_ n1_ n2_; clear hg hw hp_; have p440 : 0 ≤ (a1 : Int) := of_decide_eq_true (by first | (with_reducible assumption) | assumption); have q440 : a1 < (y439.length : Int) := (by have h_ : (a1 : Int) < ((t435.length : Int) : Int) := of_decide_eq_true (by first | (with_reducible assumption) | assumption); first | (have e_ := (Kd.S_reads' HO437.out).1; omega) | simpa only [Ny439.out, List.length_set] using h_); have ql440 : ((a1 : Int) < ((t435.length : Int) : Int)) = True := eq_true (of_decide_eq_true (by first | (with_reducible assumption) | assumption)); obtain ⟨ad440, A440_1, c440_1, e440, hx440_0, hx440_1, hl440_1, hi440_1⟩ := at_T62 (Kd.S_reads' HO437.out).2.2 a1 p440 q440; obtain rfl : (⟨go17, 0, none⟩ : Addr) = ad440 := (by injection e440); obtain ⟨ce440, hce440, hMe440, hcc440⟩ := Kd.S_get HO437.out z62 a1 p440 (by first | exact q440 | exact of_decide_eq_true (by first | (with_reducible assumption) | assumption) | (have e_ := (Kd.S_reads' HO437.out).1; omega)); obtain ⟨ve440_1, rfl, ge440_1⟩ := k62_openM hMe440; have hv440_1 := hcc440 1 _ rfl; rw [add_field _ _ 1 (by omega)] at hv440_1; replace hv440_1 := Option.some.inj (hv440_1.symm.trans hx440_1); rw [hv440_1] at ge440_1; have HL440_1 := Aside0.mk (show Kd.R (Kd.int .i64) 3 _ _ _ _ ((rd_T62 y439 a1).f1) from ge440_1); clear hv440_1 ge440_1; clear hcc440 hce440; (first | simp only [add_plain] at hx440_0 | simp only [add_at] at hx440_0 | simp only [Addr.add, Nat.zero_add] at hx440_0 | skip); (first | simp only [add_plain] at hx440_1 | simp only [add_at] at hx440_1 | simp only [Addr.add, Nat.zero_add] at hx440_1 | skip); have HR440_1 := Aside0.mk hi440_1; have HC440_1 := Aside0.mk hl440_1; clear hi440_1 hl440_1; replace p440 := eq_true p440; replace q440 := eq_true q440) | ((with_reducible refine gate_dst (N := 50) rfl ?_); (try (refine gate_guard (by rfl) ?_; dsimp only)); refine Kd.R_lit (Kd.int .i64) _ 3 ?hg (N := 50) ?hd (xs := ([] : List Int)) (inner := []) (ok := fun _ => True) (okp := fun _ => True) ?hr ?hp (fun _ hk => hk) trivial (Below.refl _ _) (Nat.le_refl _) (by simp) ?_; (case hd => rfl); (case hg => rfl); (case hr => first | (go_simp; done) | (go_simp; rfl) | (obtain ⟨A_, c_, e_⟩ := Kd.R_slice HO437.out; rw [e_]; first | (go_simp; done) | (go_simp; rfl)) | (obtain ⟨A_, c_, e_⟩ := Kd.S_slice HO437.out; rw [e_]; first | (go_simp; done) | (go_simp; rfl)) | (obtain ⟨A_, c_, e_⟩ := Kd.R_slice HO443.out; rw [e_]; first | (go_simp; done) | (go_simp; rfl)) | (obtain ⟨A_, c_, e_⟩ := Kd.S_slice HO443.out; rw [e_]; first | (go_simp; done) | (go_simp; rfl)) | (obtain ⟨A_, c_, e_⟩ := Kd.R_slice HO448.out; rw [e_]; first | (go_simp; done) | (go_simp; rfl)) | (obtain ⟨A_, c_, e_⟩ := Kd.S_slice HO448.out; rw [e_]; first | (go_simp; done) | (go_simp; rfl))); (case hp => exact (Reps.none _ _)); intro v442 w34 ho35 hb hg_ hnew_; clear hg_ hnew_; (first | rw [← Ny441.out] at ho35 | (simp only [Int.reduceToNat] at ho35; rw [← Ny441.out] at ho35)); have n0_ := Aside0.mk (Kd.S_elder' (by (with_reducible repeat (first | apply Kd.S_alloc | apply Kd.S_drewN | apply Kd.S_drew)); exact HO437.out) (Kd.R_base ho35) hb); have n1_ := Aside0.mk (Kd.R_elder' (by (with_reducible repeat (first | apply Kd.R_alloc | apply Kd.R_drewN | apply Kd.R_drew)); exact HL438_1.out) (Kd.R_base ho35) hb); have n2_ := Aside0.mk (Kd.R_elder' (by (with_reducible repeat (first | apply Kd.R_alloc | apply Kd.R_drewN | apply Kd.R_drew)); exact HL440_1.out) (Kd.R_base ho35) hb); have n3_ := Aside0.mk (Kd.R_lower (Kd.R_new' (Kd.R_new' ho35 (Kd.R_lt (by (with_reducible repeat (first | apply Kd.R_alloc | apply Kd.R_drewN | apply Kd.R_drew)); exact HL438_1.out))) (Kd.R_lt (by (with_reducible repeat (first | apply Kd.R_alloc | apply Kd.R_drewN | apply Kd.R_drew)); exact HL440_1.out))) (below_size (by repeat (first | (with_reducible first | exact HB.out | apply below_alloc | apply pw_below_drewN | apply below_drew1) | exact HB.out)))); have n4_ := Aside0.mk (Kd.C_below (by repeat (first | (with_reducible exact HR440_1.out) | (with_reducible refine Kd.C_alloc ?_ _) | (with_reducible refine Kd.C_drewN ?_ _) | (with_reducible refine Kd.C_drew ?_) | exact HR440_1.out)) hb); have n5_ := Aside0.mk (below_step (by repeat (first | (with_reducible first | exact HB.out | apply below_alloc | apply pw_below_drewN | apply below_drew1) | exact HB.out)) hb); clear HO437; clear HL438_1; clear HL440_1; clear HR440_1; clear HB; have HO437 := n0_; have HL438_1 := n1_; have HL440_1 := n2_; have HO443 := n3_; have HR440_1 := n4_; have HB := n5_; clear n0_ n1_ n2_ n3_ n4_ n5_; clear hb ho35; have p19 : 0 ≤ (a1 : Int) := of_decide_eq_true (by first | (with_reducible assumption) | assumption); have q19 : (a1 : Int) < ((t435.length : Int) : Int) := of_decide_eq_true (by first | (with_reducible assumption) | assumption); obtain ⟨_, ce19, hcl19, hM19, hcc19, hfr19, _, _⟩ := Kd.S_elem HO437.out z62 (a1 : Int) p19 q19; obtain ⟨ve19_1, rfl, ge19_1⟩ := k62_openM hM19; have hx19_0 : w34.cell? ⟨go17, (a1 : Int).toNat * 2, none⟩ = some (.int .i64 ((rd_T62 y439 a1).f0)) := hcc19 0 _ rfl; have hx19_1 : w34.cell? ⟨go17, (a1 : Int).toNat * 2 + 1, none⟩ = some (ve19_1) := hcc19 1 _ rfl; have hf19_0 : w34.frozen? ⟨go17, (a1 : Int).toNat * 2, none⟩ = false := hfr19 0; have hf19_1 : w34.frozen? ⟨go17, (a1 : Int).toNat * 2 + 1, none⟩ = false := hfr19 1; (try clear hcl19); (try clear hcc19); (try clear hfr19); (try clear hM19); replace p19 := eq_true p19; replace q19 := eq_true q19; have n_ := Aside0.mk (Kd.S_mono (ok' := (fun k_ => some k_ ≠ (v442 : Value).ownBlock)) HO437.out (fun k_ hk => hk.2)); clear HO437; have HO437 := n_; clear n_; have HX36 := Aside0.mk (show Kd.S k62 62 w34 w.heap.size (fun k_ => ((fun _ => True)) k_ ∧ ¬ ((fun k_ => some k_ = (v442 : Value).ownBlock)) k_) (.slice (some ⟨go17, 0, none⟩) t435.length co31) y439 from (by (with_reducible repeat (first | apply Kd.S_alloc | apply Kd.S_drewN | apply Kd.S_drew)); exact Kd.S_mono HO437.out (fun k_ hk => ⟨trivial, fun e_ => hk e_⟩))); obtain ⟨oki36, ce36, hcl36, hM36, hcc36, hfr36, hoki36, hH36⟩ := Kd.S_elem HX36.out z62 (a1 : Int) (of_decide_eq_true (by first | (with_reducible assumption) | assumption)) (by have h_ : (a1 : Int) < ((t435.length : Int) : Int) := of_decide_eq_true (by first | (with_reducible assumption) | assumption); first | exact h_ | (have e_ := (Kd.S_reads' HO437.out).1; omega) | simpa using h_); obtain ⟨ve36_1, rfl, ge36_1⟩ := k62_openM hM36; have HP36 := Kd.S_seg hH36 (of_decide_eq_true (by first | (with_reducible assumption) | assumption)) (by have h_ : (a1 : Int) < ((t435.length : Int) : Int) := of_decide_eq_true (by first | (with_reducible assumption) | assumption); first | exact h_ | (have e_ := (Kd.S_reads' HO437.out).1; omega) | simpa using h_) (seg := [v442]) (j := 1) (show 2 ≤ 2 from by decide) (x' := (⟨(rd_T62 y439 a1).f0, y441⟩ : S62)) (k62_mkM _ _ _ (⟨(rd_T62 y439 a1).f0, y441⟩ : S62) (Kd.R_mono (Kd.R_tight rfl (Kd.R_mono (ok' := fun k_ => ((fun _ => True)) k_ ∧ k_ ≠ go17) (Kd.R_apart' (HO443.out) (Kd.S_typed HO437.out) (by decide)) (fun k_ hk => ⟨trivial, fun e_ => (hk.2) (by rw [e_]; rfl)⟩))) (fun _ h_ => Or.inr (h_)))) (fun _ hk => hk) (fun k_ hk_ => ((Kd.R_mono (ok' := fun k_ => ((fun _ => True)) k_ ∧ k_ ≠ go17) (Kd.R_apart' (HO443.out) (Kd.S_typed HO437.out) (by decide)) (fun k_ hk => ⟨trivial, fun e_ => (hk.2) (by rw [e_]; rfl)⟩))).1 k_ hk_.symm); have hx36_1 := hcc36 1 _ rfl; (try simp only [show (k62).sz = 2 from rfl, Nat.mul_one, Nat.add_zero] at hx36_1); have hf36_1 := hfr36 1; (try simp only [show (k62).sz = 2 from rfl, Nat.mul_one, Nat.add_zero] at hf36_1); (try clear hcl36); (try clear hcc36); (try clear hfr36); (try clear hM36); (try clear hoki36); (try clear hH36)) | ((with_reducible refine gate_store (t := 22) (p := 52) rfl ?_); refine store_event (t := 22) (p := 52) (v := ?vo_w37) (w1 := (w34.setCell ⟨go17, (a1 : Int).toNat * 2 + 1, none⟩ (v442))) ?hg ?ho ?hn ?hr ?_; (case ho => rfl); (case hg => rfl); (case hn => rfl); (case hr => first | (go_simp; done) | (go_simp; rfl) | (obtain ⟨A_, c_, e_⟩ := Kd.R_slice HO437.out; rw [e_]; first | (go_simp; done) | (go_simp; rfl)) | (obtain ⟨A_, c_, e_⟩ := Kd.S_slice HO437.out; rw [e_]; first | (go_simp; done) | (go_simp; rfl)) | (obtain ⟨A_, c_, e_⟩ := Kd.R_slice HO443.out; rw [e_]; first | (go_simp; done) | (go_simp; rfl)) | (obtain ⟨A_, c_, e_⟩ := Kd.S_slice HO443.out; rw [e_]; first | (go_simp; done) | (go_simp; rfl)) | (obtain ⟨A_, c_, e_⟩ := Kd.R_slice HO448.out; rw [e_]; first | (go_simp; done) | (go_simp; rfl)) | (obtain ⟨A_, c_, e_⟩ := Kd.S_slice HO448.out; rw [e_]; first | (go_simp; done) | (go_simp; rfl))); intro w37 hw; have hg : w34.grownBy w37 (some go17) := (by rw [hw]; exact HP36.2); have hp_ : Kd.S k62 62 w37 w.heap.size (fun _ => True) (.slice (some ⟨go17, 0, none⟩) t435.length co31) y444 := (by rw [hw, Ny444.out]; exact HP36.1); clear HP36; have n0_ := Aside0.mk (hp_); have n1_ := Aside0.mk (Kd.R_after (v := (.slice (some ⟨go17, 0, none⟩) t435.length co31)) (v1 := (.slice (some ⟨go17, 0, none⟩) t435.length co31)) (ok := (fun k_ => some k_ ≠ (v442 : Value).ownBlock)) (by (with_reducible repeat (first | apply Kd.R_alloc | apply Kd.R_drewN | apply Kd.R_drew)); exact Kd.R_mono HL438_1.out (fun _ hk => ⟨hk.2, hk.1.2⟩)) hg (.inl rfl)); have n2_ := Aside0.mk (Kd.R_after (v := (.slice (some ⟨go17, 0, none⟩) t435.length co31)) (v1 := (.slice (some ⟨go17, 0, none⟩) t435.length co31)) (ok := (fun k_ => some k_ ≠ (v442 : Value).ownBlock)) (by (with_reducible repeat (first | apply Kd.R_alloc | apply Kd.R_drewN | apply Kd.R_drew)); exact Kd.R_mono HL440_1.out (fun _ hk => ⟨hk.2, hk.1.2⟩)) hg (.inl rfl)); have n3_ := Aside0.mk ((by rw [hw]; exact below_set (HB.out) GB17.out : Below w.heap.size w w37)); clear HO437; clear HL438_1; clear HL440_1; clear HB; clear HO443; have HO437 := n0_; have HL438_1 := n1_; have HL440_1 := n2_; have HB := n3_; clear n0_ n1_ n2_ n3_; clear hg hw hp_) | ((with_reducible refine gate_callee (f := 43) rfl ?_); refine goesL_ (some 54) rfl rfl Try.func43 (by kernel_rfl) rfl #[.slice (some ⟨go17, 0, none⟩) y444.length co31] rfl (by (try simp only [List.map_toArray, List.map_cons, List.map_nil]); first | done | (rw [show y444.length = t435.length from (Kd.S_reads' HO437.out).1.symm] <;> rfl) | rfl | (simp only [List.length_drop, List.length_take]; rfl)) ?_; (with_reducible refine (spec_SlotsOk.calls kj3 _ _ y444 false _ ?side1 ?side2 A20.out).mono ?_); (case side1 => repeat (first | exact (Kd.S_reads' HO437.out).2.2 | (with_reducible refine Kd.C_alloc ?_ _) | (with_reducible refine Kd.C_drewN ?_ _) | (with_reducible refine Kd.C_drew ?_))); (case side2 => rw [show y444.length = t435.length from (Kd.S_reads' HO437.out).1.symm]; exact (Kd.S_reads' HO437.out).2.1); rintro e w' ⟨rfl, ⟨nd, rfl⟩⟩; refine ⟨_, rfl, ?_⟩) | ((with_reducible refine gate_dst (N := 56) rfl ?_); (try (refine gate_guard (by rfl) ?_; dsimp only)); refine Kd.S_lit k62 _ 62 ?hg (N := 56) ?hd (xs := ([] : List (S62))) (inner := []) (ok := fun _ => True) (okp := fun _ => True) ?hr ?hp (fun _ hk => hk) trivial (Below.refl _ _) (Nat.le_refl _) (by simp) ?_; (case hd => rfl); (case hg => rfl); (case hr => first | (go_simp; done) | (go_simp; rfl) | (obtain ⟨A_, c_, e_⟩ := Kd.R_slice HO437.out; rw [e_]; first | (go_simp; done) | (go_simp; rfl)) | (obtain ⟨A_, c_, e_⟩ := Kd.S_slice HO437.out; rw [e_]; first | (go_simp; done) | (go_simp; rfl)) | (obtain ⟨A_, c_, e_⟩ := Kd.R_slice HO443.out; rw [e_]; first | (go_simp; done) | (go_simp; rfl)) | (obtain ⟨A_, c_, e_⟩ := Kd.S_slice HO443.out; rw [e_]; first | (go_simp; done) | (go_simp; rfl)) | (obtain ⟨A_, c_, e_⟩ := Kd.R_slice HO448.out; rw [e_]; first | (go_simp; done) | (go_simp; rfl)) | (obtain ⟨A_, c_, e_⟩ := Kd.S_slice HO448.out; rw [e_]; first | (go_simp; done) | (go_simp; rfl))); (case hp => exact (Reps.none _ _)); intro v447 w38 ho39 hb hg_ hnew_; clear hg_ hnew_; (first | rw [← Ny446.out] at ho39 | (simp only [Int.reduceToNat] at ho39; rw [← Ny446.out] at ho39)); have n0_ := Aside0.mk (Kd.S_elder' (by (with_reducible repeat (first | apply Kd.S_alloc | apply Kd.S_drewN | apply Kd.S_drew)); exact HO437.out) (Kd.S_base ho39) hb); have n1_ := Aside0.mk (Kd.R_below (by (with_reducible repeat (first | apply Kd.R_alloc | apply Kd.R_drewN | apply Kd.R_drew)); exact HL438_1.out) hb); have n2_ := Aside0.mk (Kd.R_below (by (with_reducible repeat (first | apply Kd.R_alloc | apply Kd.R_drewN | apply Kd.R_drew)); exact HL440_1.out) hb); have n3_ := Aside0.mk (Kd.S_lower (Kd.S_new' (Kd.S_new' (Kd.S_new' ho39 (Kd.S_lt (by (with_reducible repeat (first | apply Kd.S_alloc | apply Kd.S_drewN | apply Kd.S_drew)); exact HO437.out))) (Kd.R_lt (by (with_reducible repeat (first | apply Kd.R_alloc | apply Kd.R_drewN | apply Kd.R_drew)); exact HL438_1.out))) (Kd.R_lt (by (with_reducible repeat (first | apply Kd.R_alloc | apply Kd.R_drewN | apply Kd.R_drew)); exact HL440_1.out))) (below_size (by repeat (first | (with_reducible first | exact HB.out | apply below_alloc | apply pw_below_drewN | apply below_drew1) | exact HB.out)))); have n4_ := Aside0.mk (below_step (by repeat (first | (with_reducible first | exact HB.out | apply below_alloc | apply pw_below_drewN | apply below_drew1) | exact HB.out)) hb); clear HO437; clear HL438_1; clear HL440_1; clear HB; have HO437 := n0_; have HL438_1 := n1_; have HL440_1 := n2_; have HO448 := n3_; have HB := n4_; clear n0_ n1_ n2_ n3_ n4_; clear hb ho39))
                go_ret2
                exact ⟨_, by first | rfl | (simp [errW_none, errW_some] <;> rfl) | (simp [*, errW_none, errW_some] <;> rfl), by (with_reducible repeat (first | apply Kd.S_alloc | apply Kd.S_drewN | apply Kd.S_drew)); exact Kd.S_mono HO448.out (fun _ hk => trivial), by repeat (first | (with_reducible first | exact HB.out | apply below_alloc | apply pw_below_drewN | apply below_drew1) | exact HB.out)⟩
            · rw [if_neg c18] at H
              have c18b0 : (((rd_T62 y439 a1).f0) == 0) = false := beq_eq_false_iff_ne.mpr c18
              have c18b1 : (((rd_T62 y439 a1).f0) != 0) = true := bne_iff_ne.mpr c18
              replace H := Option.bind_eq_some_iff.mp H
              obtain ⟨t449, A400, H⟩ := H
              replace H : (if t449 = true then (some (y439, true)) else (some ((([] : List (S62))), false))) = some (r1, r2) := H
              have A40 := Aside0.mk A400
              clear A400
              by_cases c41 : t449 = true
              · subst c41
                have H1 : (some (y439, true)) = some (r1, r2) := by rw [if_pos rfl] at H; exact H
                clear H
                have H := H1
                clear H1
                simp only [Option.some.injEq, Prod.mk.injEq] at H
                obtain ⟨rfl, rfl⟩ := H
                go_wp2_with (first | ((with_reducible refine gate_callee (f := 105) rfl ?_); refine goesL_ (some 30) rfl rfl Try.func105 (by kernel_rfl) rfl #[.slice A0 l0.length c0] rfl (by (try simp only [List.map_toArray, List.map_cons, List.map_nil]); first | done | rfl | (simp only [List.length_drop, List.length_take]; rfl)) ?_; (with_reducible refine (spec_l07Copy.calls kj3 _ _ l0 t435 _ ?side1 ?side2 A14.out).mono ?_); (case side1 => repeat (first | exact (Kd.C_below HR0.out HB.out) | (with_reducible refine Kd.C_alloc ?_ _) | (with_reducible refine Kd.C_drewN ?_ _) | (with_reducible refine Kd.C_drew ?_))); (case side2 => exact HC0.out); rintro e w42 ⟨v436, rfl, ho0, hb⟩; refine ⟨_, rfl, ?_⟩; have n0_ := Aside0.mk (Kd.S_lower ho0 (below_size (by repeat (first | (with_reducible first | exact HB.out | apply below_alloc | apply pw_below_drewN | apply below_drew1) | exact HB.out)))); have n1_ := Aside0.mk (below_step (by repeat (first | (with_reducible first | exact HB.out | apply below_alloc | apply pw_below_drewN | apply below_drew1) | exact HB.out)) hb); clear HB; have HO437 := n0_; have HB := n1_; clear n0_ n1_; (try clear hb); (try clear hb2); (try clear hk); (try clear hi); (try clear ho0); obtain ⟨Ao43, co43, eo43⟩ := Kd.S_slice HO437.out; subst eo43; have p438 : 0 ≤ (a1 : Int) := of_decide_eq_true (by first | (with_reducible assumption) | assumption); have q438 : a1 < (t435.length : Int) := of_decide_eq_true (by first | (with_reducible assumption) | assumption); obtain ⟨ad438, A438_1, c438_1, e438, hx438_0, hx438_1, hl438_1, hi438_1⟩ := at_T62 (Kd.S_reads' HO437.out).2.2 a1 p438 q438; cases e438; obtain ⟨ce438, hce438, hMe438, hcc438⟩ := Kd.S_get HO437.out z62 a1 p438 (by first | exact q438 | exact of_decide_eq_true (by first | (with_reducible assumption) | assumption) | (have e_ := (Kd.S_reads' HO437.out).1; omega)); obtain ⟨ve438_1, rfl, ge438_1⟩ := k62_openM hMe438; have hv438_1 := hcc438 1 _ rfl; rw [add_field _ _ 1 (by omega)] at hv438_1; replace hv438_1 := Option.some.inj (hv438_1.symm.trans hx438_1); rw [hv438_1] at ge438_1; have HL438_1 := Aside0.mk (show Kd.R (Kd.int .i64) 3 _ _ _ _ ((rd_T62 t435 a1).f1) from ge438_1); clear hv438_1 ge438_1; clear hcc438 hce438; have HR438_1 := Aside0.mk hi438_1; have HC438_1 := Aside0.mk hl438_1; clear hi438_1 hl438_1; replace p438 := eq_true p438; replace q438 := eq_true q438; have p17 : 0 ≤ (a1 : Int) := of_decide_eq_true (by first | (with_reducible assumption) | assumption); have q17 : (a1 : Int) < ((t435.length : Int) : Int) := of_decide_eq_true (by first | (with_reducible assumption) | assumption); obtain ⟨go17, co17, eo17, gb17, gl17, cl17, HG17⟩ := Kd.S_form HO437.out (by omega); (first | cases eo17 | (injection eo17 with ea_ en_ ec_; (first | subst ea_ | (injection ea_ with ea_; subst ea_)); subst ec_; clear en_)); have GB17 := Aside0.mk gb17; have GG17 := Aside0.mk HG17; clear gb17 gl17 HG17; (first | simp only [add_plain] at hx438_0 | skip); (first | simp only [add_plain] at hx438_1 | skip); obtain ⟨_, ce17, hcl17, hM17, hcc17, hfr17, _, _⟩ := Kd.S_elem HO437.out z62 (a1 : Int) p17 q17; obtain ⟨ve17_1, rfl, ge17_1⟩ := k62_openM hM17; have hx17_0 : w42.cell? ⟨go17, (a1 : Int).toNat * 2, none⟩ = some (.int .i64 ((rd_T62 t435 a1).f0)) := hcc17 0 _ rfl; have hx17_1 : w42.cell? ⟨go17, (a1 : Int).toNat * 2 + 1, none⟩ = some (ve17_1) := hcc17 1 _ rfl; have hf17_0 : w42.frozen? ⟨go17, (a1 : Int).toNat * 2, none⟩ = false := hfr17 0; have hf17_1 : w42.frozen? ⟨go17, (a1 : Int).toNat * 2 + 1, none⟩ = false := hfr17 1; (try clear hcl17); (try clear hcc17); (try clear hfr17); (try clear hM17); replace p17 := eq_true p17; replace q17 := eq_true q17; have HX44 := Aside0.mk (show Kd.S k62 62 w42 w.heap.size (fun k_ => ((fun _ => True)) k_ ∧ ¬ ((fun _ => False)) k_) (.slice (some ⟨go17, 0, none⟩) t435.length co43) t435 from (by (with_reducible repeat (first | apply Kd.S_alloc | apply Kd.S_drewN | apply Kd.S_drew)); exact Kd.S_mono HO437.out (fun k_ hk => ⟨trivial, fun e_ => e_⟩))); obtain ⟨oki44, ce44, hcl44, hM44, hcc44, hfr44, hoki44, hH44⟩ := Kd.S_elem HX44.out z62 (a1 : Int) (of_decide_eq_true (by first | (with_reducible assumption) | assumption)) (by have h_ : (a1 : Int) < ((t435.length : Int) : Int) := of_decide_eq_true (by first | (with_reducible assumption) | assumption); first | exact h_ | (have e_ := (Kd.S_reads' HO437.out).1; omega) | simpa using h_); obtain ⟨ve44_1, rfl, ge44_1⟩ := k62_openM hM44; have HP44 := Kd.S_seg hH44 (of_decide_eq_true (by first | (with_reducible assumption) | assumption)) (by have h_ : (a1 : Int) < ((t435.length : Int) : Int) := of_decide_eq_true (by first | (with_reducible assumption) | assumption); first | exact h_ | (have e_ := (Kd.S_reads' HO437.out).1; omega) | simpa using h_) (seg := [.int .i64 (wrap64 (((rd_T62 t435 a1).f0) + a2))]) (j := 0) (show 1 ≤ 2 from by decide) (x' := (⟨wrap64 (((rd_T62 t435 a1).f0) + a2), (rd_T62 t435 a1).f1⟩ : S62)) (k62_mkM _ _ _ (⟨wrap64 (((rd_T62 t435 a1).f0) + a2), (rd_T62 t435 a1).f1⟩ : S62) (Kd.R_mono ge44_1 (fun _ h_ => Or.inl h_))) (fun _ hk => hk) (fun k_ hk_ => hk_.elim); have hx44_0 := hcc44 0 _ rfl; (try simp only [show (k62).sz = 2 from rfl, Nat.mul_one, Nat.add_zero] at hx44_0); have hf44_0 := hfr44 0; (try simp only [show (k62).sz = 2 from rfl, Nat.mul_one, Nat.add_zero] at hf44_0); (try clear hcl44); (try clear hcc44); (try clear hfr44); (try clear hM44); (try clear hoki44); (try clear hH44)) | ((with_reducible refine gate_store (t := 3) (p := 41) rfl ?_); refine store_event (t := 3) (p := 41) (v := ?vo_w45) (w1 := (w42.setCell ⟨go17, (a1 : Int).toNat * 2, none⟩ (.int .i64 (wrap64 (((rd_T62 t435 a1).f0) + a2))))) ?hg ?ho ?hn ?hr ?_; (case ho => rfl); (case hg => rfl); (case hn => rfl); (case hr => first | (go_simp; done) | (go_simp; rfl) | (obtain ⟨A_, c_, e_⟩ := Kd.R_slice HO437.out; rw [e_]; first | (go_simp; done) | (go_simp; rfl)) | (obtain ⟨A_, c_, e_⟩ := Kd.S_slice HO437.out; rw [e_]; first | (go_simp; done) | (go_simp; rfl))); intro w45 hw; have hg : w42.grownBy w45 (some go17) := (by rw [hw]; exact HP44.2); have hp_ : Kd.S k62 62 w45 w.heap.size (fun _ => True) (.slice (some ⟨go17, 0, none⟩) t435.length co43) y439 := (by rw [hw, Ny439.out]; exact HP44.1); clear HP44; have n0_ := Aside0.mk (hp_); have n1_ := Aside0.mk (Kd.R_after (v := (.slice (some ⟨go17, 0, none⟩) t435.length co43)) (v1 := (.slice (some ⟨go17, 0, none⟩) t435.length co43)) (ok := (fun _ => True)) (by (with_reducible repeat (first | apply Kd.R_alloc | apply Kd.R_drewN | apply Kd.R_drew)); exact HL438_1.out) hg (.inl rfl)); have n2_ := Aside0.mk ((by rw [hw]; exact below_set (HB.out) GB17.out : Below w.heap.size w w45)); clear HO437; clear HL438_1; clear HB; have HO437 := n0_; have HL438_1 := n1_; have HB := n2_; clear n0_ n1_ n2_; clear hg hw hp_; have p440 : 0 ≤ (a1 : Int) := of_decide_eq_true (by first | (with_reducible assumption) | assumption); have q440 : a1 < (y439.length : Int) := (by have h_ : (a1 : Int) < ((t435.length : Int) : Int) := of_decide_eq_true (by first | (with_reducible assumption) | assumption); first | (have e_ := (Kd.S_reads' HO437.out).1; omega) | simpa only [Ny439.out, List.length_set] using h_); have ql440 : ((a1 : Int) < ((t435.length : Int) : Int)) = True := eq_true (of_decide_eq_true (by first | (with_reducible assumption) | assumption)); obtain ⟨ad440, A440_1, c440_1, e440, hx440_0, hx440_1, hl440_1, hi440_1⟩ := at_T62 (Kd.S_reads' HO437.out).2.2 a1 p440 q440; obtain rfl : (⟨go17, 0, none⟩ : Addr) = ad440 := (by injection e440); obtain ⟨ce440, hce440, hMe440, hcc440⟩ := Kd.S_get HO437.out z62 a1 p440 (by first | exact q440 | exact of_decide_eq_true (by first | (with_reducible assumption) | assumption) | (have e_ := (Kd.S_reads' HO437.out).1; omega)); obtain ⟨ve440_1, rfl, ge440_1⟩ := k62_openM hMe440; have hv440_1 := hcc440 1 _ rfl; rw [add_field _ _ 1 (by omega)] at hv440_1; replace hv440_1 := Option.some.inj (hv440_1.symm.trans hx440_1); rw [hv440_1] at ge440_1; have HL440_1 := Aside0.mk (show Kd.R (Kd.int .i64) 3 _ _ _ _ ((rd_T62 y439 a1).f1) from ge440_1); clear hv440_1 ge440_1; clear hcc440 hce440; (first | simp only [add_plain] at hx440_0 | simp only [add_at] at hx440_0 | simp only [Addr.add, Nat.zero_add] at hx440_0 | skip); (first | simp only [add_plain] at hx440_1 | simp only [add_at] at hx440_1 | simp only [Addr.add, Nat.zero_add] at hx440_1 | skip); have HR440_1 := Aside0.mk hi440_1; have HC440_1 := Aside0.mk hl440_1; clear hi440_1 hl440_1; replace p440 := eq_true p440; replace q440 := eq_true q440) | ((with_reducible refine gate_callee (f := 43) rfl ?_); refine goesL_ (some 54) rfl rfl Try.func43 (by kernel_rfl) rfl #[.slice (some ⟨go17, 0, none⟩) y439.length co43] rfl (by (try simp only [List.map_toArray, List.map_cons, List.map_nil]); first | done | (rw [show y439.length = t435.length from (Kd.S_reads' HO437.out).1.symm] <;> rfl) | rfl | (simp only [List.length_drop, List.length_take]; rfl)) ?_; (with_reducible refine (spec_SlotsOk.calls kj3 _ _ y439 true _ ?side1 ?side2 A40.out).mono ?_); (case side1 => repeat (first | exact (Kd.S_reads' HO437.out).2.2 | (with_reducible refine Kd.C_alloc ?_ _) | (with_reducible refine Kd.C_drewN ?_ _) | (with_reducible refine Kd.C_drew ?_))); (case side2 => rw [show y439.length = t435.length from (Kd.S_reads' HO437.out).1.symm]; exact (Kd.S_reads' HO437.out).2.1); rintro e w' ⟨rfl, ⟨nd, rfl⟩⟩; refine ⟨_, rfl, ?_⟩))
                go_ret2
                exact ⟨_, by first | rfl | (simp [errW_none, errW_some] <;> rfl) | (simp [*, errW_none, errW_some] <;> rfl), by (with_reducible repeat (first | apply Kd.S_alloc | apply Kd.S_drewN | apply Kd.S_drew)); exact HO437.out, by repeat (first | (with_reducible first | exact HB.out | apply below_alloc | apply pw_below_drewN | apply below_drew1) | exact HB.out)⟩
              · replace c41 := Bool.eq_false_iff.mpr c41
                subst c41
                have H1 : (some ((([] : List (S62))), false)) = some (r1, r2) := by rw [if_neg (show ¬ (false = true) by decide)] at H; exact H
                clear H
                have H := H1
                clear H1
                obtain ⟨y450, hy450⟩ : ∃ y_ : List (S62), y_ = (([] : List (S62))) := ⟨_, rfl⟩
                replace H : (some (y450, false)) = some (r1, r2) := by first | (rw [hy450]; with_reducible exact H) | (have H2_ := (Option.bind_some _ _).symm.trans H; rw [hy450]; with_reducible exact H2_) | (have H2_ := (Option.bind_some _ _).symm.trans H; with_reducible exact H2_) | with_reducible exact H | (rw [hy450]; exact H) | exact H
                have Ny450 := Aside0.mk hy450
                clear hy450
                simp only [Option.some.injEq, Prod.mk.injEq] at H
                obtain ⟨rfl, rfl⟩ := H
                go_wp2_with (first | ((with_reducible refine gate_callee (f := 105) rfl ?_); refine goesL_ (some 30) rfl rfl Try.func105 (by kernel_rfl) rfl #[.slice A0 l0.length c0] rfl (by (try simp only [List.map_toArray, List.map_cons, List.map_nil]); first | done | rfl | (simp only [List.length_drop, List.length_take]; rfl)) ?_; (with_reducible refine (spec_l07Copy.calls kj3 _ _ l0 t435 _ ?side1 ?side2 A14.out).mono ?_); (case side1 => repeat (first | exact (Kd.C_below HR0.out HB.out) | (with_reducible refine Kd.C_alloc ?_ _) | (with_reducible refine Kd.C_drewN ?_ _) | (with_reducible refine Kd.C_drew ?_))); (case side2 => exact HC0.out); rintro e w46 ⟨v436, rfl, ho0, hb⟩; refine ⟨_, rfl, ?_⟩; have n0_ := Aside0.mk (Kd.S_lower ho0 (below_size (by repeat (first | (with_reducible first | exact HB.out | apply below_alloc | apply pw_below_drewN | apply below_drew1) | exact HB.out)))); have n1_ := Aside0.mk (below_step (by repeat (first | (with_reducible first | exact HB.out | apply below_alloc | apply pw_below_drewN | apply below_drew1) | exact HB.out)) hb); clear HB; have HO437 := n0_; have HB := n1_; clear n0_ n1_; (try clear hb); (try clear hb2); (try clear hk); (try clear hi); (try clear ho0); obtain ⟨Ao47, co47, eo47⟩ := Kd.S_slice HO437.out; subst eo47; have p438 : 0 ≤ (a1 : Int) := of_decide_eq_true (by first | (with_reducible assumption) | assumption); have q438 : a1 < (t435.length : Int) := of_decide_eq_true (by first | (with_reducible assumption) | assumption); obtain ⟨ad438, A438_1, c438_1, e438, hx438_0, hx438_1, hl438_1, hi438_1⟩ := at_T62 (Kd.S_reads' HO437.out).2.2 a1 p438 q438; cases e438; obtain ⟨ce438, hce438, hMe438, hcc438⟩ := Kd.S_get HO437.out z62 a1 p438 (by first | exact q438 | exact of_decide_eq_true (by first | (with_reducible assumption) | assumption) | (have e_ := (Kd.S_reads' HO437.out).1; omega)); obtain ⟨ve438_1, rfl, ge438_1⟩ := k62_openM hMe438; have hv438_1 := hcc438 1 _ rfl; rw [add_field _ _ 1 (by omega)] at hv438_1; replace hv438_1 := Option.some.inj (hv438_1.symm.trans hx438_1); rw [hv438_1] at ge438_1; have HL438_1 := Aside0.mk (show Kd.R (Kd.int .i64) 3 _ _ _ _ ((rd_T62 t435 a1).f1) from ge438_1); clear hv438_1 ge438_1; clear hcc438 hce438; have HR438_1 := Aside0.mk hi438_1; have HC438_1 := Aside0.mk hl438_1; clear hi438_1 hl438_1; replace p438 := eq_true p438; replace q438 := eq_true q438; have p17 : 0 ≤ (a1 : Int) := of_decide_eq_true (by first | (with_reducible assumption) | assumption); have q17 : (a1 : Int) < ((t435.length : Int) : Int) := of_decide_eq_true (by first | (with_reducible assumption) | assumption); obtain ⟨go17, co17, eo17, gb17, gl17, cl17, HG17⟩ := Kd.S_form HO437.out (by omega); (first | cases eo17 | (injection eo17 with ea_ en_ ec_; (first | subst ea_ | (injection ea_ with ea_; subst ea_)); subst ec_; clear en_)); have GB17 := Aside0.mk gb17; have GG17 := Aside0.mk HG17; clear gb17 gl17 HG17; (first | simp only [add_plain] at hx438_0 | skip); (first | simp only [add_plain] at hx438_1 | skip); obtain ⟨_, ce17, hcl17, hM17, hcc17, hfr17, _, _⟩ := Kd.S_elem HO437.out z62 (a1 : Int) p17 q17; obtain ⟨ve17_1, rfl, ge17_1⟩ := k62_openM hM17; have hx17_0 : w46.cell? ⟨go17, (a1 : Int).toNat * 2, none⟩ = some (.int .i64 ((rd_T62 t435 a1).f0)) := hcc17 0 _ rfl; have hx17_1 : w46.cell? ⟨go17, (a1 : Int).toNat * 2 + 1, none⟩ = some (ve17_1) := hcc17 1 _ rfl; have hf17_0 : w46.frozen? ⟨go17, (a1 : Int).toNat * 2, none⟩ = false := hfr17 0; have hf17_1 : w46.frozen? ⟨go17, (a1 : Int).toNat * 2 + 1, none⟩ = false := hfr17 1; (try clear hcl17); (try clear hcc17); (try clear hfr17); (try clear hM17); replace p17 := eq_true p17; replace q17 := eq_true q17; have HX48 := Aside0.mk (show Kd.S k62 62 w46 w.heap.size (fun k_ => ((fun _ => True)) k_ ∧ ¬ ((fun _ => False)) k_) (.slice (some ⟨go17, 0, none⟩) t435.length co47) t435 from (by (with_reducible repeat (first | apply Kd.S_alloc | apply Kd.S_drewN | apply Kd.S_drew)); exact Kd.S_mono HO437.out (fun k_ hk => ⟨trivial, fun e_ => e_⟩))); obtain ⟨oki48, ce48, hcl48, hM48, hcc48, hfr48, hoki48, hH48⟩ := Kd.S_elem HX48.out z62 (a1 : Int) (of_decide_eq_true (by first | (with_reducible assumption) | assumption)) (by have h_ : (a1 : Int) < ((t435.length : Int) : Int) := of_decide_eq_true (by first | (with_reducible assumption) | assumption); first | exact h_ | (have e_ := (Kd.S_reads' HO437.out).1; omega) | simpa using h_); obtain ⟨ve48_1, rfl, ge48_1⟩ := k62_openM hM48; have HP48 := Kd.S_seg hH48 (of_decide_eq_true (by first | (with_reducible assumption) | assumption)) (by have h_ : (a1 : Int) < ((t435.length : Int) : Int) := of_decide_eq_true (by first | (with_reducible assumption) | assumption); first | exact h_ | (have e_ := (Kd.S_reads' HO437.out).1; omega) | simpa using h_) (seg := [.int .i64 (wrap64 (((rd_T62 t435 a1).f0) + a2))]) (j := 0) (show 1 ≤ 2 from by decide) (x' := (⟨wrap64 (((rd_T62 t435 a1).f0) + a2), (rd_T62 t435 a1).f1⟩ : S62)) (k62_mkM _ _ _ (⟨wrap64 (((rd_T62 t435 a1).f0) + a2), (rd_T62 t435 a1).f1⟩ : S62) (Kd.R_mono ge48_1 (fun _ h_ => Or.inl h_))) (fun _ hk => hk) (fun k_ hk_ => hk_.elim); have hx48_0 := hcc48 0 _ rfl; (try simp only [show (k62).sz = 2 from rfl, Nat.mul_one, Nat.add_zero] at hx48_0); have hf48_0 := hfr48 0; (try simp only [show (k62).sz = 2 from rfl, Nat.mul_one, Nat.add_zero] at hf48_0); (try clear hcl48); (try clear hcc48); (try clear hfr48); (try clear hM48); (try clear hoki48); (try clear hH48)) | ((with_reducible refine gate_store (t := 3) (p := 41) rfl ?_); refine store_event (t := 3) (p := 41) (v := ?vo_w49) (w1 := (w46.setCell ⟨go17, (a1 : Int).toNat * 2, none⟩ (.int .i64 (wrap64 (((rd_T62 t435 a1).f0) + a2))))) ?hg ?ho ?hn ?hr ?_; (case ho => rfl); (case hg => rfl); (case hn => rfl); (case hr => first | (go_simp; done) | (go_simp; rfl) | (obtain ⟨A_, c_, e_⟩ := Kd.R_slice HO437.out; rw [e_]; first | (go_simp; done) | (go_simp; rfl)) | (obtain ⟨A_, c_, e_⟩ := Kd.S_slice HO437.out; rw [e_]; first | (go_simp; done) | (go_simp; rfl)) | (obtain ⟨A_, c_, e_⟩ := Kd.R_slice HO452.out; rw [e_]; first | (go_simp; done) | (go_simp; rfl)) | (obtain ⟨A_, c_, e_⟩ := Kd.S_slice HO452.out; rw [e_]; first | (go_simp; done) | (go_simp; rfl))); intro w49 hw; have hg : w46.grownBy w49 (some go17) := (by rw [hw]; exact HP48.2); have hp_ : Kd.S k62 62 w49 w.heap.size (fun _ => True) (.slice (some ⟨go17, 0, none⟩) t435.length co47) y439 := (by rw [hw, Ny439.out]; exact HP48.1); clear HP48; have n0_ := Aside0.mk (hp_); have n1_ := Aside0.mk (Kd.R_after (v := (.slice (some ⟨go17, 0, none⟩) t435.length co47)) (v1 := (.slice (some ⟨go17, 0, none⟩) t435.length co47)) (ok := (fun _ => True)) (by (with_reducible repeat (first | apply Kd.R_alloc | apply Kd.R_drewN | apply Kd.R_drew)); exact HL438_1.out) hg (.inl rfl)); have n2_ := Aside0.mk ((by rw [hw]; exact below_set (HB.out) GB17.out : Below w.heap.size w w49)); clear HO437; clear HL438_1; clear HB; have HO437 := n0_; have HL438_1 := n1_; have HB := n2_; clear n0_ n1_ n2_; clear hg hw hp_; have p440 : 0 ≤ (a1 : Int) := of_decide_eq_true (by first | (with_reducible assumption) | assumption); have q440 : a1 < (y439.length : Int) := (by have h_ : (a1 : Int) < ((t435.length : Int) : Int) := of_decide_eq_true (by first | (with_reducible assumption) | assumption); first | (have e_ := (Kd.S_reads' HO437.out).1; omega) | simpa only [Ny439.out, List.length_set] using h_); have ql440 : ((a1 : Int) < ((t435.length : Int) : Int)) = True := eq_true (of_decide_eq_true (by first | (with_reducible assumption) | assumption)); obtain ⟨ad440, A440_1, c440_1, e440, hx440_0, hx440_1, hl440_1, hi440_1⟩ := at_T62 (Kd.S_reads' HO437.out).2.2 a1 p440 q440; obtain rfl : (⟨go17, 0, none⟩ : Addr) = ad440 := (by injection e440); obtain ⟨ce440, hce440, hMe440, hcc440⟩ := Kd.S_get HO437.out z62 a1 p440 (by first | exact q440 | exact of_decide_eq_true (by first | (with_reducible assumption) | assumption) | (have e_ := (Kd.S_reads' HO437.out).1; omega)); obtain ⟨ve440_1, rfl, ge440_1⟩ := k62_openM hMe440; have hv440_1 := hcc440 1 _ rfl; rw [add_field _ _ 1 (by omega)] at hv440_1; replace hv440_1 := Option.some.inj (hv440_1.symm.trans hx440_1); rw [hv440_1] at ge440_1; have HL440_1 := Aside0.mk (show Kd.R (Kd.int .i64) 3 _ _ _ _ ((rd_T62 y439 a1).f1) from ge440_1); clear hv440_1 ge440_1; clear hcc440 hce440; (first | simp only [add_plain] at hx440_0 | simp only [add_at] at hx440_0 | simp only [Addr.add, Nat.zero_add] at hx440_0 | skip); (first | simp only [add_plain] at hx440_1 | simp only [add_at] at hx440_1 | simp only [Addr.add, Nat.zero_add] at hx440_1 | skip); have HR440_1 := Aside0.mk hi440_1; have HC440_1 := Aside0.mk hl440_1; clear hi440_1 hl440_1; replace p440 := eq_true p440; replace q440 := eq_true q440) | ((with_reducible refine gate_callee (f := 43) rfl ?_); refine goesL_ (some 54) rfl rfl Try.func43 (by kernel_rfl) rfl #[.slice (some ⟨go17, 0, none⟩) y439.length co47] rfl (by (try simp only [List.map_toArray, List.map_cons, List.map_nil]); first | done | (rw [show y439.length = t435.length from (Kd.S_reads' HO437.out).1.symm] <;> rfl) | rfl | (simp only [List.length_drop, List.length_take]; rfl)) ?_; (with_reducible refine (spec_SlotsOk.calls kj3 _ _ y439 false _ ?side1 ?side2 A40.out).mono ?_); (case side1 => repeat (first | exact (Kd.S_reads' HO437.out).2.2 | (with_reducible refine Kd.C_alloc ?_ _) | (with_reducible refine Kd.C_drewN ?_ _) | (with_reducible refine Kd.C_drew ?_))); (case side2 => rw [show y439.length = t435.length from (Kd.S_reads' HO437.out).1.symm]; exact (Kd.S_reads' HO437.out).2.1); rintro e w' ⟨rfl, ⟨nd, rfl⟩⟩; refine ⟨_, rfl, ?_⟩) | ((with_reducible refine gate_dst (N := 56) rfl ?_); (try (refine gate_guard (by rfl) ?_; dsimp only)); refine Kd.S_lit k62 _ 62 ?hg (N := 56) ?hd (xs := ([] : List (S62))) (inner := []) (ok := fun _ => True) (okp := fun _ => True) ?hr ?hp (fun _ hk => hk) trivial (Below.refl _ _) (Nat.le_refl _) (by simp) ?_; (case hd => rfl); (case hg => rfl); (case hr => first | (go_simp; done) | (go_simp; rfl) | (obtain ⟨A_, c_, e_⟩ := Kd.R_slice HO437.out; rw [e_]; first | (go_simp; done) | (go_simp; rfl)) | (obtain ⟨A_, c_, e_⟩ := Kd.S_slice HO437.out; rw [e_]; first | (go_simp; done) | (go_simp; rfl)) | (obtain ⟨A_, c_, e_⟩ := Kd.R_slice HO452.out; rw [e_]; first | (go_simp; done) | (go_simp; rfl)) | (obtain ⟨A_, c_, e_⟩ := Kd.S_slice HO452.out; rw [e_]; first | (go_simp; done) | (go_simp; rfl))); (case hp => exact (Reps.none _ _)); intro v451 w50 ho51 hb hg_ hnew_; clear hg_ hnew_; (first | rw [← Ny450.out] at ho51 | (simp only [Int.reduceToNat] at ho51; rw [← Ny450.out] at ho51)); have n0_ := Aside0.mk (Kd.S_elder' (by (with_reducible repeat (first | apply Kd.S_alloc | apply Kd.S_drewN | apply Kd.S_drew)); exact HO437.out) (Kd.S_base ho51) hb); have n1_ := Aside0.mk (Kd.R_below (by (with_reducible repeat (first | apply Kd.R_alloc | apply Kd.R_drewN | apply Kd.R_drew)); exact HL438_1.out) hb); have n2_ := Aside0.mk (Kd.R_below (by (with_reducible repeat (first | apply Kd.R_alloc | apply Kd.R_drewN | apply Kd.R_drew)); exact HL440_1.out) hb); have n3_ := Aside0.mk (Kd.S_lower (Kd.S_new' (Kd.S_new' (Kd.S_new' ho51 (Kd.S_lt (by (with_reducible repeat (first | apply Kd.S_alloc | apply Kd.S_drewN | apply Kd.S_drew)); exact HO437.out))) (Kd.R_lt (by (with_reducible repeat (first | apply Kd.R_alloc | apply Kd.R_drewN | apply Kd.R_drew)); exact HL438_1.out))) (Kd.R_lt (by (with_reducible repeat (first | apply Kd.R_alloc | apply Kd.R_drewN | apply Kd.R_drew)); exact HL440_1.out))) (below_size (by repeat (first | (with_reducible first | exact HB.out | apply below_alloc | apply pw_below_drewN | apply below_drew1) | exact HB.out)))); have n4_ := Aside0.mk (Kd.C_below (by repeat (first | (with_reducible exact HR440_1.out) | (with_reducible refine Kd.C_alloc ?_ _) | (with_reducible refine Kd.C_drewN ?_ _) | (with_reducible refine Kd.C_drew ?_) | exact HR440_1.out)) hb); have n5_ := Aside0.mk (below_step (by repeat (first | (with_reducible first | exact HB.out | apply below_alloc | apply pw_below_drewN | apply below_drew1) | exact HB.out)) hb); clear HO437; clear HL438_1; clear HL440_1; clear HR440_1; clear HB; have HO437 := n0_; have HL438_1 := n1_; have HL440_1 := n2_; have HO452 := n3_; have HR440_1 := n4_; have HB := n5_; clear n0_ n1_ n2_ n3_ n4_ n5_; clear hb ho51))
                go_ret2
                exact ⟨_, by first | rfl | (simp [errW_none, errW_some] <;> rfl) | (simp [*, errW_none, errW_some] <;> rfl), by (with_reducible repeat (first | apply Kd.S_alloc | apply Kd.S_drewN | apply Kd.S_drew)); exact Kd.S_mono HO452.out (fun _ hk => trivial), by repeat (first | (with_reducible first | exact HB.out | apply below_alloc | apply pw_below_drewN | apply below_drew1) | exact HB.out)⟩
          · rw [if_neg c16] at H
            exact absurd H (by simp)
        · rw [if_neg c15] at H
          exact absurd H (by simp)

end Go.Proofs.Ytdpejnckojhgjaa.P
end
section
namespace Go.Proofs.Ytdpejnckojhgjaa.P
open Go.RowKit Go.Proofs.YtdpejnckojhgjaaW.PrintWords Go.Proofs.YtdpejnckojhgjaaW.PrintLast Go.Proofs.YtdpejnckojhgjaaW.PrintMore
attribute [local go_sem] max2_int min2_int max_two min_two max_three min_three max_four min_four   -- for this text's walks alone
set_option linter.unusedVariables false
set_option linter.unusedSimpArgs false

/-! ### spec_LessOf: function 54 -/
def spec_LessOf.f (k : Nat) (l0 : List (S62)) (a1 : Int) : Option ((List (S62)) × Bool) := (spec_l07Change.f k l0 a1 (-1)).bind fun bt865 => (some (bt865.1, bt865.2))
theorem spec_LessOf.mono : ∀ a0 a1 k, LeO (spec_LessOf.f k a0 a1) (spec_LessOf.f (k + 1) a0 a1) := by
  intro a0 a1 k
  unfold spec_LessOf.f
  repeat' first
      | (with_reducible exact spec_l07Change.mono _ _ _ _)
      | (with_reducible exact LeO.refl _)
      | (with_reducible exact LeO.none _)
      | (with_reducible refine LeO.ite ?_ ?_)
      | (with_reducible refine LeO.bind ?_ (fun _ => ?_))
      | exact spec_l07Change.mono _ _ _ _
      | exact LeO.none _
      | refine LeO.ite ?_ ?_
      | refine LeO.bind ?_ (fun _ => ?_)
set_option maxHeartbeats 8000000 in
set_option maxRecDepth 100000 in
theorem spec_LessOf.calls (k : Nat) (A0 : Option Addr) (c0 : Nat) (l0 : List (S62)) (a1 : Int) (r1 : List (S62)) (r2 : Bool) (w : World) (hr0 : Kd.C k62 w A0 l0.length l0) (hc0 : l0.length ≤ c0) (h : spec_LessOf.f k l0 a1 = some (r1, r2)) :
    Calls Try.prog 54 #[.slice A0 l0.length c0, .int .i64 a1] w fun e w' => ∃ v0_ : Value, e = .returned (.tuple #[v0_, .bool r2]) ∧ Kd.S k62 62 w' w.heap.size (fun _ => True) v0_ r1 ∧ Below w.heap.size w w' := by
  have HR0 := Aside0.mk hr0
  have HC0 := Aside0.mk hc0
  clear hr0 hc0
  have HB := Aside0.mk (Below.refl w.heap.size w)
  have H : ((spec_l07Change.f k l0 a1 (-1)).bind fun bt865 => (some (bt865.1, bt865.2))) = some (r1, r2) := h
  clear h
  replace H := Option.bind_eq_some_iff.mp H
  obtain ⟨⟨t865, t866⟩, A30, H⟩ := H
  replace H : (some (t865, t866)) = some (r1, r2) := H
  have A3 := Aside0.mk A30
  clear A30
  simp only [Option.some.injEq, Prod.mk.injEq] at H
  obtain ⟨rfl, rfl⟩ := H
  go_enter Try.func54, Try.ntmps54
  go_wp2_with (first | ((with_reducible refine gate_callee (f := 91) rfl ?_); refine goesL_ (some 8) rfl rfl Try.func91 (by kernel_rfl) rfl #[.slice A0 l0.length c0, .int .i64 a1, .int .i64 (-1)] rfl (by (try simp only [List.map_toArray, List.map_cons, List.map_nil]); first | done | rfl | (simp only [List.length_drop, List.length_take]; rfl)) ?_; (with_reducible refine (spec_l07Change.calls k _ _ l0 a1 (-1) t865 t866 _ ?side1 ?side2 A3.out).mono ?_); (case side1 => repeat (first | exact HR0.out | (with_reducible refine Kd.C_alloc ?_ _) | (with_reducible refine Kd.C_drewN ?_ _) | (with_reducible refine Kd.C_drew ?_))); (case side2 => exact HC0.out); rintro e w4 ⟨v867, rfl, ho0, hb⟩; refine ⟨_, rfl, ?_⟩; have n0_ := Aside0.mk (Kd.S_lower ho0 (below_size (by repeat (first | (with_reducible first | exact HB.out | apply below_alloc | apply pw_below_drewN | apply below_drew1) | exact HB.out)))); have n1_ := Aside0.mk (below_step (by repeat (first | (with_reducible first | exact HB.out | apply below_alloc | apply pw_below_drewN | apply below_drew1) | exact HB.out)) hb); clear HB; have HO868 := n0_; have HB := n1_; clear n0_ n1_; (try clear hb); (try clear hb2); (try clear hk); (try clear hi); (try clear ho0)))
  go_ret2
  exact ⟨_, by first | rfl | (simp [errW_none, errW_some] <;> rfl) | (simp [*, errW_none, errW_some] <;> rfl), by (with_reducible repeat (first | apply Kd.S_alloc | apply Kd.S_drewN | apply Kd.S_drew)); exact HO868.out, by repeat (first | (with_reducible first | exact HB.out | apply below_alloc | apply pw_below_drewN | apply below_drew1) | exact HB.out)⟩

end Go.Proofs.Ytdpejnckojhgjaa.P
end
section
namespace Go.Proofs.Ytdpejnckojhgjaa.P
open Go.RowKit Go.Proofs.YtdpejnckojhgjaaW.PrintWords Go.Proofs.YtdpejnckojhgjaaW.PrintLast Go.Proofs.YtdpejnckojhgjaaW.PrintMore
set_option linter.unusedVariables false
set_option linter.unusedSimpArgs false

set_option maxHeartbeats 8000000 in
set_option maxRecDepth 100000 in
theorem laws_FnExactLessOf.walk (k : Nat) (A0 : Option Addr) (c0 : Nat) (l0 : List (S113)) (a1 : Int) (z : Int) (t : List (S62)) (y0 : List (S62)) (y1 : Bool) (m : Int) (M : List S62) (m1 : Int) (M1 : List S62) (w : World) (hr0 : Kd.C k113 w A0 l0.length l0) (hc0 : l0.length ≤ c0) (f0 : laws_szSlotS.f k l0 1048576 = some z) (f1 : laws_toSlotS.f k l0 = some t) (f2 : spec_LessOf.f k t a1 = some (y0, y1)) (f3 : impl_LessOf.f k t a1 = some (y0, y1)) (f4 : laws_eqSlotS.f k y0 y0 = some true) (f5 : laws_eqSlotS.f k t t = some true) (f6 : laws_markSlotS.f k t 1 = some (m, M)) (f7 : laws_markSlotS.f k y0 1 = some (m1, M1)) (f8 : laws_heldSlotS.f k M1 1 = some m1) (n0 : ¬ z < 0) (n1 : ¬ m < 0) (n2 : ¬ m1 < 0) :
    Calls Try.prog 11 #[.slice A0 l0.length c0, .int .i64 a1] w fun e w' => e = .returned (.bool true) ∧ Below w.heap.size w w' := by
  have HR0 := Aside0.mk hr0
  have HC0 := Aside0.mk hc0
  clear hr0 hc0
  have HB := Aside0.mk (Below.refl w.heap.size w)
  have Ff0 := Aside0.mk f0
  have Ff1 := Aside0.mk f1
  have Ff2 := Aside0.mk f2
  have Ff3 := Aside0.mk f3
  have Ff4 := Aside0.mk f4
  have Ff5 := Aside0.mk f5
  have Ff6 := Aside0.mk f6
  have Ff7 := Aside0.mk f7
  have Ff8 := Aside0.mk f8
  clear f0 f1 f2 f3 f4 f5 f6 f7 f8
  have nb0 : decide (z < 0) = false := decide_eq_false n0
  have nb1 : decide (m < 0) = false := decide_eq_false n1
  have nb2 : decide (m1 < 0) = false := decide_eq_false n2
  have eb0 : (y1 != y1) = false := bne_self_eq_false y1
  have eb1 : (m1 != m1) = false := bne_self_eq_false m1
  go_enter Try.func11, Try.ntmps11
  go_wp2_with (first | ((with_reducible refine gate_callee (f := 35) rfl ?_); refine goesL_ (some 18) rfl rfl Try.func35 (by kernel_rfl) rfl #[.slice A0 l0.length c0, .int .i64 (1048576)] rfl (by (try simp only [List.map_toArray, List.map_cons, List.map_nil]); first | done | rfl | (simp only [List.length_drop, List.length_take]; rfl)) ?_; (with_reducible refine (laws_szSlotS.calls k A0 c0 l0 (1048576) _ _ ?side1 ?side2 Ff0.out).mono ?_); (case side1 => exact Kd.C_below HR0.out HB.out); (case side2 => exact HC0.out); rintro e w1_ ⟨rfl, hb⟩; refine ⟨_, rfl, ?_⟩; have n0_ := Aside0.mk (below_step HB.out hb); have z_ := Aside0.mk (show w.heap.size ≤ w1_.heap.size from hb.size); (try clear HB); have HB := n0_; have Z := z_; clear z_ n0_; (try clear hb); (try clear hkp); (try clear hy); (try clear hd_)) | ((with_reducible refine gate_callee (f := 37) rfl ?_); refine goesL_ (some 23) rfl rfl Try.func37 (by kernel_rfl) rfl #[.slice A0 l0.length c0] rfl (by (try simp only [List.map_toArray, List.map_cons, List.map_nil]); first | done | rfl | (simp only [List.length_drop, List.length_take]; rfl)) ?_; (with_reducible refine (laws_toSlotS.calls k A0 c0 l0 _ _ ?side1 ?side2 Ff1.out).mono ?_); (case side1 => exact Kd.C_below HR0.out HB.out); (case side2 => exact HC0.out); rintro e w2_ ⟨v1_0, rfl, ho0, hb⟩; refine ⟨_, rfl, ?_⟩; have n0_ := Aside0.mk (Kd.S_lower (Kd.S_mono (Kd.S_bound ho0) (fun k_ hk_ => (⟨hk_.2.1, hk_.2.2.1⟩ : w1_.heap.size ≤ k_ ∧ k_ < w2_.heap.size))) HB.out.size); have n1_ := Aside0.mk (below_step HB.out hb); have z_ := Aside0.mk (show w.heap.size ≤ w1_.heap.size ∧ w1_.heap.size ≤ w2_.heap.size from ⟨Z.out, hb.size⟩); (try clear HB Z); have HO1 := n0_; have HB := n1_; have Z := z_; clear z_ n0_ n1_; (try clear hb); (try clear hkp); (try clear hy); (try clear hd_); (try clear ho0); obtain ⟨Ao1, co1, eo_⟩ := Kd.S_slice HO1.out; subst eo_) | ((with_reducible refine gate_callee (f := 54) rfl ?_); refine goesL_ (some 25) rfl rfl Try.func54 (by kernel_rfl) rfl #[.slice Ao1 t.length co1, .int .i64 (a1)] rfl (by (try simp only [List.map_toArray, List.map_cons, List.map_nil]); first | done | rfl | (simp only [List.length_drop, List.length_take]; rfl)) ?_; (with_reducible refine (spec_LessOf.calls k Ao1 co1 t (a1) _ _ _ ?side1 ?side2 Ff2.out).mono ?_); (case side1 => exact (Kd.S_reads' HO1.out).2.2); (case side2 => exact (Kd.S_reads' HO1.out).2.1); rintro e w3_ ⟨v2_0, rfl, ho0, hb⟩; refine ⟨_, rfl, ?_⟩; have n0_ := Aside0.mk (Kd.S_below HO1.out hb); have n1_ := Aside0.mk (Kd.S_lower (Kd.S_mono (Kd.S_bound ho0) (fun k_ hk_ => (⟨hk_.2.1, hk_.2.2.1⟩ : w2_.heap.size ≤ k_ ∧ k_ < w3_.heap.size))) HB.out.size); have n2_ := Aside0.mk (below_step HB.out hb); have z_ := Aside0.mk (show w.heap.size ≤ w1_.heap.size ∧ w1_.heap.size ≤ w2_.heap.size ∧ w2_.heap.size ≤ w3_.heap.size from ⟨Z.out.1, Z.out.2, hb.size⟩); (try clear HB HO1 Z); have HO1 := n0_; have HO2 := n1_; have HB := n2_; have Z := z_; clear z_ n0_ n1_ n2_; (try clear hb); (try clear hkp); (try clear hy); (try clear hd_); (try clear ho0); obtain ⟨Ao2, co2, eo_⟩ := Kd.S_slice HO2.out; subst eo_) | ((with_reducible refine gate_callee (f := 37) rfl ?_); refine goesL_ (some 29) rfl rfl Try.func37 (by kernel_rfl) rfl #[.slice A0 l0.length c0] rfl (by (try simp only [List.map_toArray, List.map_cons, List.map_nil]); first | done | rfl | (simp only [List.length_drop, List.length_take]; rfl)) ?_; (with_reducible refine (laws_toSlotS.calls k A0 c0 l0 _ _ ?side1 ?side2 Ff1.out).mono ?_); (case side1 => exact Kd.C_below HR0.out HB.out); (case side2 => exact HC0.out); rintro e w4_ ⟨v3_0, rfl, ho0, hb⟩; refine ⟨_, rfl, ?_⟩; have n0_ := Aside0.mk (Kd.S_below HO2.out hb); have n1_ := Aside0.mk (Kd.S_lower (Kd.S_mono (Kd.S_bound ho0) (fun k_ hk_ => (⟨hk_.2.1, hk_.2.2.1⟩ : w3_.heap.size ≤ k_ ∧ k_ < w4_.heap.size))) HB.out.size); have n2_ := Aside0.mk (below_step HB.out hb); have z_ := Aside0.mk (show w.heap.size ≤ w1_.heap.size ∧ w1_.heap.size ≤ w2_.heap.size ∧ w2_.heap.size ≤ w3_.heap.size ∧ w3_.heap.size ≤ w4_.heap.size from ⟨Z.out.1, Z.out.2.1, Z.out.2.2, hb.size⟩); (try clear HB HO2 Z); have HO2 := n0_; have HO3 := n1_; have HB := n2_; have Z := z_; clear z_ n0_ n1_ n2_; (try clear hb); (try clear hkp); (try clear hy); (try clear hd_); (try clear ho0); obtain ⟨Ao3, co3, eo_⟩ := Kd.S_slice HO3.out; subst eo_) | ((with_reducible refine gate_callee (f := 47) rfl ?_); refine goesL_ (some 33) rfl rfl Try.func47 (by kernel_rfl) rfl #[.slice Ao3 t.length co3, .int .i64 (a1)] rfl (by (try simp only [List.map_toArray, List.map_cons, List.map_nil]); first | done | rfl | (simp only [List.length_drop, List.length_take]; rfl)) ?_; (with_reducible refine (impl_LessOf.calls k Ao3 co3 t (a1) _ _ _ ?side1 ?side2 Ff3.out).mono ?_); (case side1 => exact (Kd.S_reads' HO3.out).2.2); (case side2 => exact (Kd.S_reads' HO3.out).2.1); rintro e w5_ ⟨v4_0, rfl, ho0, hb⟩; refine ⟨_, rfl, ?_⟩; have n0_ := Aside0.mk (Kd.S_below HO2.out hb); have n1_ := Aside0.mk (Kd.S_below HO3.out hb); have n2_ := Aside0.mk (Kd.S_lower (Kd.S_mono (Kd.S_bound ho0) (fun k_ hk_ => (⟨hk_.2.1, hk_.2.2.1⟩ : w4_.heap.size ≤ k_ ∧ k_ < w5_.heap.size))) HB.out.size); have n3_ := Aside0.mk (below_step HB.out hb); have z_ := Aside0.mk (show w.heap.size ≤ w1_.heap.size ∧ w1_.heap.size ≤ w2_.heap.size ∧ w2_.heap.size ≤ w3_.heap.size ∧ w3_.heap.size ≤ w4_.heap.size ∧ w4_.heap.size ≤ w5_.heap.size from ⟨Z.out.1, Z.out.2.1, Z.out.2.2.1, Z.out.2.2.2, hb.size⟩); (try clear HB HO2 HO3 Z); have HO2 := n0_; have HO3 := n1_; have HO4 := n2_; have HB := n3_; have Z := z_; clear z_ n0_ n1_ n2_ n3_; (try clear hb); (try clear hkp); (try clear hy); (try clear hd_); (try clear ho0); obtain ⟨Ao4, co4, eo_⟩ := Kd.S_slice HO4.out; subst eo_) | ((with_reducible refine gate_callee (f := 39) rfl ?_); refine goesL_ (some 38) rfl rfl Try.func39 (by kernel_rfl) rfl #[.slice Ao4 y0.length co4, .slice Ao2 y0.length co2] rfl (by (try simp only [List.map_toArray, List.map_cons, List.map_nil]); first | done | rfl | (simp only [List.length_drop, List.length_take]; rfl)) ?_; (with_reducible refine (laws_eqSlotS.calls k Ao4 co4 y0 Ao2 co2 y0 _ _ ?side1 ?side2 ?side3 ?side4 Ff4.out).mono ?_); (case side1 => exact (Kd.S_reads' HO4.out).2.2); (case side2 => exact (Kd.S_reads' HO4.out).2.1); (case side3 => exact (Kd.S_reads' HO2.out).2.2); (case side4 => exact (Kd.S_reads' HO2.out).2.1); rintro e w6_ ⟨rfl, hb⟩; refine ⟨_, rfl, ?_⟩; have n0_ := Aside0.mk (Kd.S_below HO2.out hb); have n1_ := Aside0.mk (Kd.S_below HO3.out hb); have n2_ := Aside0.mk (Kd.S_below HO4.out hb); have n3_ := Aside0.mk (below_step HB.out hb); have z_ := Aside0.mk (show w.heap.size ≤ w1_.heap.size ∧ w1_.heap.size ≤ w2_.heap.size ∧ w2_.heap.size ≤ w3_.heap.size ∧ w3_.heap.size ≤ w4_.heap.size ∧ w4_.heap.size ≤ w5_.heap.size ∧ w5_.heap.size ≤ w6_.heap.size from ⟨Z.out.1, Z.out.2.1, Z.out.2.2.1, Z.out.2.2.2.1, Z.out.2.2.2.2, hb.size⟩); (try clear HB HO2 HO3 HO4 Z); have HO2 := n0_; have HO3 := n1_; have HO4 := n2_; have HB := n3_; have Z := z_; clear z_ n0_ n1_ n2_ n3_; (try clear hb); (try clear hkp); (try clear hy); (try clear hd_)) | ((with_reducible refine gate_callee (f := 37) rfl ?_); refine goesL_ (some 47) rfl rfl Try.func37 (by kernel_rfl) rfl #[.slice A0 l0.length c0] rfl (by (try simp only [List.map_toArray, List.map_cons, List.map_nil]); first | done | rfl | (simp only [List.length_drop, List.length_take]; rfl)) ?_; (with_reducible refine (laws_toSlotS.calls k A0 c0 l0 _ _ ?side1 ?side2 Ff1.out).mono ?_); (case side1 => exact Kd.C_below HR0.out HB.out); (case side2 => exact HC0.out); rintro e w7_ ⟨v6_0, rfl, ho0, hb⟩; refine ⟨_, rfl, ?_⟩; have n0_ := Aside0.mk (Kd.S_below HO2.out hb); have n1_ := Aside0.mk (Kd.S_below HO3.out hb); have n2_ := Aside0.mk (Kd.S_below HO4.out hb); have n3_ := Aside0.mk (Kd.S_lower (Kd.S_mono (Kd.S_bound ho0) (fun k_ hk_ => (⟨hk_.2.1, hk_.2.2.1⟩ : w6_.heap.size ≤ k_ ∧ k_ < w7_.heap.size))) HB.out.size); have n4_ := Aside0.mk (below_step HB.out hb); have z_ := Aside0.mk (show w.heap.size ≤ w1_.heap.size ∧ w1_.heap.size ≤ w2_.heap.size ∧ w2_.heap.size ≤ w3_.heap.size ∧ w3_.heap.size ≤ w4_.heap.size ∧ w4_.heap.size ≤ w5_.heap.size ∧ w5_.heap.size ≤ w6_.heap.size ∧ w6_.heap.size ≤ w7_.heap.size from ⟨Z.out.1, Z.out.2.1, Z.out.2.2.1, Z.out.2.2.2.1, Z.out.2.2.2.2.1, Z.out.2.2.2.2.2, hb.size⟩); (try clear HB HO2 HO3 HO4 Z); have HO2 := n0_; have HO3 := n1_; have HO4 := n2_; have HO5 := n3_; have HB := n4_; have Z := z_; clear z_ n0_ n1_ n2_ n3_ n4_; (try clear hb); (try clear hkp); (try clear hy); (try clear hd_); (try clear ho0); obtain ⟨Ao5, co5, eo_⟩ := Kd.S_slice HO5.out; subst eo_) | ((with_reducible refine gate_callee (f := 39) rfl ?_); refine goesL_ (some 48) rfl rfl Try.func39 (by kernel_rfl) rfl #[.slice Ao3 t.length co3, .slice Ao5 t.length co5] rfl (by (try simp only [List.map_toArray, List.map_cons, List.map_nil]); first | done | rfl | (simp only [List.length_drop, List.length_take]; rfl)) ?_; (with_reducible refine (laws_eqSlotS.calls k Ao3 co3 t Ao5 co5 t _ _ ?side1 ?side2 ?side3 ?side4 Ff5.out).mono ?_); (case side1 => exact (Kd.S_reads' HO3.out).2.2); (case side2 => exact (Kd.S_reads' HO3.out).2.1); (case side3 => exact (Kd.S_reads' HO5.out).2.2); (case side4 => exact (Kd.S_reads' HO5.out).2.1); rintro e w8_ ⟨rfl, hb⟩; refine ⟨_, rfl, ?_⟩; have n0_ := Aside0.mk (Kd.S_below HO2.out hb); have n1_ := Aside0.mk (Kd.S_below HO3.out hb); have n2_ := Aside0.mk (Kd.S_below HO4.out hb); have n3_ := Aside0.mk (Kd.S_below HO5.out hb); have n4_ := Aside0.mk (below_step HB.out hb); have z_ := Aside0.mk (show w.heap.size ≤ w1_.heap.size ∧ w1_.heap.size ≤ w2_.heap.size ∧ w2_.heap.size ≤ w3_.heap.size ∧ w3_.heap.size ≤ w4_.heap.size ∧ w4_.heap.size ≤ w5_.heap.size ∧ w5_.heap.size ≤ w6_.heap.size ∧ w6_.heap.size ≤ w7_.heap.size ∧ w7_.heap.size ≤ w8_.heap.size from ⟨Z.out.1, Z.out.2.1, Z.out.2.2.1, Z.out.2.2.2.1, Z.out.2.2.2.2.1, Z.out.2.2.2.2.2.1, Z.out.2.2.2.2.2.2, hb.size⟩); (try clear HB HO2 HO3 HO4 HO5 Z); have HO2 := n0_; have HO3 := n1_; have HO4 := n2_; have HO5 := n3_; have HB := n4_; have Z := z_; clear z_ n0_ n1_ n2_ n3_ n4_; (try clear hb); (try clear hkp); (try clear hy); (try clear hd_)) | ((with_reducible refine gate_callee (f := 40) rfl ?_); refine goesL_ (some 52) rfl rfl Try.func40 (by kernel_rfl) rfl #[.slice Ao3 t.length co3, .int .i64 (1)] rfl (by (try simp only [List.map_toArray, List.map_cons, List.map_nil]); first | done | rfl | (simp only [List.length_drop, List.length_take]; rfl)) ?_; (with_reducible refine (laws_markSlotS.calls k (fun k_ => w3_.heap.size ≤ k_ ∧ k_ < w4_.heap.size) (.slice Ao3 t.length co3) t (1) _ _ w _ ?side1 ?side2 Ff6.out).mono ?_); (case side1 => exact HB.out); (case side2 => exact HO3.out); rintro e w9_ ⟨rfl, hy, hb, hkp⟩; refine ⟨_, rfl, ?_⟩; have n0_ := Aside0.mk (Kd.S_kept HO2.out hkp (fun k_ hk_ hs_ => by have := Z.out; omega)); have n1_ := Aside0.mk (Kd.S_kept HO4.out hkp (fun k_ hk_ hs_ => by have := Z.out; omega)); have n2_ := Aside0.mk (Kd.S_mono (Kd.S_bound hy) (fun k_ hk_ => (hk_.1.elim (fun h_ => .inl h_) (fun h_ => .inr ⟨h_, hk_.2.2.1⟩) : (w3_.heap.size ≤ k_ ∧ k_ < w4_.heap.size) ∨ (w8_.heap.size ≤ k_ ∧ k_ < w9_.heap.size)))); have n3_ := Aside0.mk hb; have z_ := Aside0.mk (show w.heap.size ≤ w1_.heap.size ∧ w1_.heap.size ≤ w2_.heap.size ∧ w2_.heap.size ≤ w3_.heap.size ∧ w3_.heap.size ≤ w4_.heap.size ∧ w4_.heap.size ≤ w5_.heap.size ∧ w5_.heap.size ≤ w6_.heap.size ∧ w6_.heap.size ≤ w7_.heap.size ∧ w7_.heap.size ≤ w8_.heap.size ∧ w8_.heap.size ≤ w9_.heap.size from ⟨Z.out.1, Z.out.2.1, Z.out.2.2.1, Z.out.2.2.2.1, Z.out.2.2.2.2.1, Z.out.2.2.2.2.2.1, Z.out.2.2.2.2.2.2.1, Z.out.2.2.2.2.2.2.2, hkp.1⟩); (try clear HB HO2 HO3 HO4 Z); have HO2 := n0_; have HO4 := n1_; have HO3 := n2_; have HB := n3_; have Z := z_; clear z_ n0_ n1_ n2_ n3_; (try clear hb); (try clear hkp); (try clear hy); (try clear hd_); have hl8 := (Kd.S_reads' HO3.out).1; (try rw [hl8] at HO3)) | (go_at_call 39; refine calls_of_args (args' := #[.slice Ao4 y0.length co4, .slice Ao2 y0.length co2]) (by first | rfl | (simp only [hl8]; done) | (simp only [hl8]; rfl)) ?_; (with_reducible refine (laws_eqSlotS.calls k Ao4 co4 y0 Ao2 co2 y0 _ _ ?side1 ?side2 ?side3 ?side4 Ff4.out).mono ?_); (case side1 => exact (Kd.S_reads' HO4.out).2.2); (case side2 => exact (Kd.S_reads' HO4.out).2.1); (case side3 => exact (Kd.S_reads' HO2.out).2.2); (case side4 => exact (Kd.S_reads' HO2.out).2.1); rintro e w10_ ⟨rfl, hb⟩; have n0_ := Aside0.mk (Kd.S_below HO2.out hb); have n1_ := Aside0.mk (Kd.S_below HO4.out hb); have n2_ := Aside0.mk (below_step HB.out hb); have z_ := Aside0.mk (show w.heap.size ≤ w1_.heap.size ∧ w1_.heap.size ≤ w2_.heap.size ∧ w2_.heap.size ≤ w3_.heap.size ∧ w3_.heap.size ≤ w4_.heap.size ∧ w4_.heap.size ≤ w5_.heap.size ∧ w5_.heap.size ≤ w6_.heap.size ∧ w6_.heap.size ≤ w7_.heap.size ∧ w7_.heap.size ≤ w8_.heap.size ∧ w8_.heap.size ≤ w9_.heap.size ∧ w9_.heap.size ≤ w10_.heap.size from ⟨Z.out.1, Z.out.2.1, Z.out.2.2.1, Z.out.2.2.2.1, Z.out.2.2.2.2.1, Z.out.2.2.2.2.2.1, Z.out.2.2.2.2.2.2.1, Z.out.2.2.2.2.2.2.2.1, Z.out.2.2.2.2.2.2.2.2, hb.size⟩); (try clear HB HO2 HO4 Z); have HO2 := n0_; have HO4 := n1_; have HB := n2_; have Z := z_; clear z_ n0_ n1_ n2_; (try clear hb); (try clear hkp); (try clear hy); (try clear hd_)) | ((with_reducible refine gate_callee (f := 40) rfl ?_); refine goesL_ (some 68) rfl rfl Try.func40 (by kernel_rfl) rfl #[.slice Ao4 y0.length co4, .int .i64 (1)] rfl (by (try simp only [List.map_toArray, List.map_cons, List.map_nil]); first | done | rfl | (simp only [hl8]; done) | (simp only [hl8]; rfl) | (simp only [List.length_drop, List.length_take]; rfl)) ?_; (with_reducible refine (laws_markSlotS.calls k (fun k_ => w4_.heap.size ≤ k_ ∧ k_ < w5_.heap.size) (.slice Ao4 y0.length co4) y0 (1) _ _ w _ ?side1 ?side2 Ff7.out).mono ?_); (case side1 => exact HB.out); (case side2 => exact HO4.out); rintro e w11_ ⟨rfl, hy, hb, hkp⟩; refine ⟨_, rfl, ?_⟩; have n0_ := Aside0.mk (Kd.S_kept HO2.out hkp (fun k_ hk_ hs_ => by have := Z.out; omega)); have n1_ := Aside0.mk (Kd.S_mono (Kd.S_bound hy) (fun k_ hk_ => (hk_.1.elim (fun h_ => .inl h_) (fun h_ => .inr ⟨h_, hk_.2.2.1⟩) : (w4_.heap.size ≤ k_ ∧ k_ < w5_.heap.size) ∨ (w10_.heap.size ≤ k_ ∧ k_ < w11_.heap.size)))); have n2_ := Aside0.mk hb; have z_ := Aside0.mk (show w.heap.size ≤ w1_.heap.size ∧ w1_.heap.size ≤ w2_.heap.size ∧ w2_.heap.size ≤ w3_.heap.size ∧ w3_.heap.size ≤ w4_.heap.size ∧ w4_.heap.size ≤ w5_.heap.size ∧ w5_.heap.size ≤ w6_.heap.size ∧ w6_.heap.size ≤ w7_.heap.size ∧ w7_.heap.size ≤ w8_.heap.size ∧ w8_.heap.size ≤ w9_.heap.size ∧ w9_.heap.size ≤ w10_.heap.size ∧ w10_.heap.size ≤ w11_.heap.size from ⟨Z.out.1, Z.out.2.1, Z.out.2.2.1, Z.out.2.2.2.1, Z.out.2.2.2.2.1, Z.out.2.2.2.2.2.1, Z.out.2.2.2.2.2.2.1, Z.out.2.2.2.2.2.2.2.1, Z.out.2.2.2.2.2.2.2.2.1, Z.out.2.2.2.2.2.2.2.2.2, hkp.1⟩); (try clear HB HO2 HO4 Z); have HO2 := n0_; have HO4 := n1_; have HB := n2_; have Z := z_; clear z_ n0_ n1_ n2_; (try clear hb); (try clear hkp); (try clear hy); (try clear hd_); have hl10 := (Kd.S_reads' HO4.out).1; (try rw [hl10] at HO4)) | ((with_reducible refine gate_callee (f := 41) rfl ?_); refine goesL_ (some 71) rfl rfl Try.func41 (by kernel_rfl) rfl #[.slice Ao4 M1.length co4, .int .i64 (1)] rfl (by (try simp only [List.map_toArray, List.map_cons, List.map_nil]); first | done | rfl | (simp only [hl8]; done) | (simp only [hl8]; rfl) | (simp only [hl10]; done) | (simp only [hl10]; rfl) | (simp only [List.length_drop, List.length_take]; rfl)) ?_; (with_reducible refine (laws_heldSlotS.calls k Ao4 co4 M1 (1) _ _ ?side1 ?side2 Ff8.out).mono ?_); (case side1 => exact (Kd.S_reads' HO4.out).2.2); (case side2 => exact (Kd.S_reads' HO4.out).2.1); rintro e w12_ ⟨rfl, hd_⟩; have hb := Drawn0.below hd_; refine ⟨_, rfl, ?_⟩; have n0_ := Aside0.mk (Kd.S_below HO2.out hb); have n1_ := Aside0.mk (Kd.S_below HO4.out hb); have n2_ := Aside0.mk (below_step HB.out hb); have z_ := Aside0.mk (show w.heap.size ≤ w1_.heap.size ∧ w1_.heap.size ≤ w2_.heap.size ∧ w2_.heap.size ≤ w3_.heap.size ∧ w3_.heap.size ≤ w4_.heap.size ∧ w4_.heap.size ≤ w5_.heap.size ∧ w5_.heap.size ≤ w6_.heap.size ∧ w6_.heap.size ≤ w7_.heap.size ∧ w7_.heap.size ≤ w8_.heap.size ∧ w8_.heap.size ≤ w9_.heap.size ∧ w9_.heap.size ≤ w10_.heap.size ∧ w10_.heap.size ≤ w11_.heap.size ∧ w11_.heap.size ≤ w12_.heap.size from ⟨Z.out.1, Z.out.2.1, Z.out.2.2.1, Z.out.2.2.2.1, Z.out.2.2.2.2.1, Z.out.2.2.2.2.2.1, Z.out.2.2.2.2.2.2.1, Z.out.2.2.2.2.2.2.2.1, Z.out.2.2.2.2.2.2.2.2.1, Z.out.2.2.2.2.2.2.2.2.2.1, Z.out.2.2.2.2.2.2.2.2.2.2, hb.size⟩); (try clear HB HO2 HO4 Z); have HO2 := n0_; have HO4 := n1_; have HB := n2_; have Z := z_; clear z_ n0_ n1_ n2_; (try clear hb); (try clear hkp); (try clear hy); (try clear hd_)) | ((with_reducible refine gate_callee (f := 37) rfl ?_); refine goesL_ (some 79) rfl rfl Try.func37 (by kernel_rfl) rfl #[.slice A0 l0.length c0] rfl (by (try simp only [List.map_toArray, List.map_cons, List.map_nil]); first | done | rfl | (simp only [hl8]; done) | (simp only [hl8]; rfl) | (simp only [hl10]; done) | (simp only [hl10]; rfl) | (simp only [List.length_drop, List.length_take]; rfl)) ?_; (with_reducible refine (laws_toSlotS.calls k A0 c0 l0 _ _ ?side1 ?side2 Ff1.out).mono ?_); (case side1 => exact Kd.C_below HR0.out HB.out); (case side2 => exact HC0.out); rintro e w13_ ⟨v12_0, rfl, ho0, hb⟩; refine ⟨_, rfl, ?_⟩; have n0_ := Aside0.mk (Kd.S_below HO2.out hb); have n1_ := Aside0.mk (Kd.S_below HO4.out hb); have n2_ := Aside0.mk (Kd.S_lower (Kd.S_mono (Kd.S_bound ho0) (fun k_ hk_ => (⟨hk_.2.1, hk_.2.2.1⟩ : w12_.heap.size ≤ k_ ∧ k_ < w13_.heap.size))) HB.out.size); have n3_ := Aside0.mk (below_step HB.out hb); have z_ := Aside0.mk (show w.heap.size ≤ w1_.heap.size ∧ w1_.heap.size ≤ w2_.heap.size ∧ w2_.heap.size ≤ w3_.heap.size ∧ w3_.heap.size ≤ w4_.heap.size ∧ w4_.heap.size ≤ w5_.heap.size ∧ w5_.heap.size ≤ w6_.heap.size ∧ w6_.heap.size ≤ w7_.heap.size ∧ w7_.heap.size ≤ w8_.heap.size ∧ w8_.heap.size ≤ w9_.heap.size ∧ w9_.heap.size ≤ w10_.heap.size ∧ w10_.heap.size ≤ w11_.heap.size ∧ w11_.heap.size ≤ w12_.heap.size ∧ w12_.heap.size ≤ w13_.heap.size from ⟨Z.out.1, Z.out.2.1, Z.out.2.2.1, Z.out.2.2.2.1, Z.out.2.2.2.2.1, Z.out.2.2.2.2.2.1, Z.out.2.2.2.2.2.2.1, Z.out.2.2.2.2.2.2.2.1, Z.out.2.2.2.2.2.2.2.2.1, Z.out.2.2.2.2.2.2.2.2.2.1, Z.out.2.2.2.2.2.2.2.2.2.2.1, Z.out.2.2.2.2.2.2.2.2.2.2.2, hb.size⟩); (try clear HB HO2 HO4 Z); have HO2 := n0_; have HO4 := n1_; have HO6 := n2_; have HB := n3_; have Z := z_; clear z_ n0_ n1_ n2_ n3_; (try clear hb); (try clear hkp); (try clear hy); (try clear hd_); (try clear ho0); obtain ⟨Ao6, co6, eo_⟩ := Kd.S_slice HO6.out; subst eo_) | ((with_reducible refine gate_callee (f := 47) rfl ?_); refine goesL_ (some 81) rfl rfl Try.func47 (by kernel_rfl) rfl #[.slice Ao6 t.length co6, .int .i64 (a1)] rfl (by (try simp only [List.map_toArray, List.map_cons, List.map_nil]); first | done | rfl | (simp only [hl8]; done) | (simp only [hl8]; rfl) | (simp only [hl10]; done) | (simp only [hl10]; rfl) | (simp only [List.length_drop, List.length_take]; rfl)) ?_; (with_reducible refine (impl_LessOf.calls k Ao6 co6 t (a1) _ _ _ ?side1 ?side2 Ff3.out).mono ?_); (case side1 => exact (Kd.S_reads' HO6.out).2.2); (case side2 => exact (Kd.S_reads' HO6.out).2.1); rintro e w14_ ⟨v13_0, rfl, ho0, hb⟩; refine ⟨_, rfl, ?_⟩; have n0_ := Aside0.mk (Kd.S_below HO2.out hb); have n1_ := Aside0.mk (Kd.S_below HO4.out hb); have n2_ := Aside0.mk (Kd.S_below HO6.out hb); have n3_ := Aside0.mk (Kd.S_lower (Kd.S_mono (Kd.S_bound ho0) (fun k_ hk_ => (⟨hk_.2.1, hk_.2.2.1⟩ : w13_.heap.size ≤ k_ ∧ k_ < w14_.heap.size))) HB.out.size); have n4_ := Aside0.mk (below_step HB.out hb); have z_ := Aside0.mk (show w.heap.size ≤ w1_.heap.size ∧ w1_.heap.size ≤ w2_.heap.size ∧ w2_.heap.size ≤ w3_.heap.size ∧ w3_.heap.size ≤ w4_.heap.size ∧ w4_.heap.size ≤ w5_.heap.size ∧ w5_.heap.size ≤ w6_.heap.size ∧ w6_.heap.size ≤ w7_.heap.size ∧ w7_.heap.size ≤ w8_.heap.size ∧ w8_.heap.size ≤ w9_.heap.size ∧ w9_.heap.size ≤ w10_.heap.size ∧ w10_.heap.size ≤ w11_.heap.size ∧ w11_.heap.size ≤ w12_.heap.size ∧ w12_.heap.size ≤ w13_.heap.size ∧ w13_.heap.size ≤ w14_.heap.size from ⟨Z.out.1, Z.out.2.1, Z.out.2.2.1, Z.out.2.2.2.1, Z.out.2.2.2.2.1, Z.out.2.2.2.2.2.1, Z.out.2.2.2.2.2.2.1, Z.out.2.2.2.2.2.2.2.1, Z.out.2.2.2.2.2.2.2.2.1, Z.out.2.2.2.2.2.2.2.2.2.1, Z.out.2.2.2.2.2.2.2.2.2.2.1, Z.out.2.2.2.2.2.2.2.2.2.2.2.1, Z.out.2.2.2.2.2.2.2.2.2.2.2.2, hb.size⟩); (try clear HB HO2 HO4 HO6 Z); have HO2 := n0_; have HO4 := n1_; have HO6 := n2_; have HO7 := n3_; have HB := n4_; have Z := z_; clear z_ n0_ n1_ n2_ n3_ n4_; (try clear hb); (try clear hkp); (try clear hy); (try clear hd_); (try clear ho0); obtain ⟨Ao7, co7, eo_⟩ := Kd.S_slice HO7.out; subst eo_) | ((with_reducible refine gate_callee (f := 39) rfl ?_); refine goesL_ (some 86) rfl rfl Try.func39 (by kernel_rfl) rfl #[.slice Ao7 y0.length co7, .slice Ao2 y0.length co2] rfl (by (try simp only [List.map_toArray, List.map_cons, List.map_nil]); first | done | rfl | (simp only [hl8]; done) | (simp only [hl8]; rfl) | (simp only [hl10]; done) | (simp only [hl10]; rfl) | (simp only [List.length_drop, List.length_take]; rfl)) ?_; (with_reducible refine (laws_eqSlotS.calls k Ao7 co7 y0 Ao2 co2 y0 _ _ ?side1 ?side2 ?side3 ?side4 Ff4.out).mono ?_); (case side1 => exact (Kd.S_reads' HO7.out).2.2); (case side2 => exact (Kd.S_reads' HO7.out).2.1); (case side3 => exact (Kd.S_reads' HO2.out).2.2); (case side4 => exact (Kd.S_reads' HO2.out).2.1); rintro e w15_ ⟨rfl, hb⟩; refine ⟨_, rfl, ?_⟩; have n0_ := Aside0.mk (Kd.S_below HO2.out hb); have n1_ := Aside0.mk (Kd.S_below HO4.out hb); have n2_ := Aside0.mk (Kd.S_below HO7.out hb); have n3_ := Aside0.mk (below_step HB.out hb); have z_ := Aside0.mk (show w.heap.size ≤ w1_.heap.size ∧ w1_.heap.size ≤ w2_.heap.size ∧ w2_.heap.size ≤ w3_.heap.size ∧ w3_.heap.size ≤ w4_.heap.size ∧ w4_.heap.size ≤ w5_.heap.size ∧ w5_.heap.size ≤ w6_.heap.size ∧ w6_.heap.size ≤ w7_.heap.size ∧ w7_.heap.size ≤ w8_.heap.size ∧ w8_.heap.size ≤ w9_.heap.size ∧ w9_.heap.size ≤ w10_.heap.size ∧ w10_.heap.size ≤ w11_.heap.size ∧ w11_.heap.size ≤ w12_.heap.size ∧ w12_.heap.size ≤ w13_.heap.size ∧ w13_.heap.size ≤ w14_.heap.size ∧ w14_.heap.size ≤ w15_.heap.size from ⟨Z.out.1, Z.out.2.1, Z.out.2.2.1, Z.out.2.2.2.1, Z.out.2.2.2.2.1, Z.out.2.2.2.2.2.1, Z.out.2.2.2.2.2.2.1, Z.out.2.2.2.2.2.2.2.1, Z.out.2.2.2.2.2.2.2.2.1, Z.out.2.2.2.2.2.2.2.2.2.1, Z.out.2.2.2.2.2.2.2.2.2.2.1, Z.out.2.2.2.2.2.2.2.2.2.2.2.1, Z.out.2.2.2.2.2.2.2.2.2.2.2.2.1, Z.out.2.2.2.2.2.2.2.2.2.2.2.2.2, hb.size⟩); (try clear HB HO2 HO4 HO7 Z); have HO2 := n0_; have HO4 := n1_; have HO7 := n2_; have HB := n3_; have Z := z_; clear z_ n0_ n1_ n2_ n3_; (try clear hb); (try clear hkp); (try clear hy); (try clear hd_)) | ((with_reducible refine gate_callee (f := 41) rfl ?_); refine goesL_ (some 95) rfl rfl Try.func41 (by kernel_rfl) rfl #[.slice Ao4 M1.length co4, .int .i64 (1)] rfl (by (try simp only [List.map_toArray, List.map_cons, List.map_nil]); first | done | rfl | (simp only [hl8]; done) | (simp only [hl8]; rfl) | (simp only [hl10]; done) | (simp only [hl10]; rfl) | (simp only [List.length_drop, List.length_take]; rfl)) ?_; (with_reducible refine (laws_heldSlotS.calls k Ao4 co4 M1 (1) _ _ ?side1 ?side2 Ff8.out).mono ?_); (case side1 => exact (Kd.S_reads' HO4.out).2.2); (case side2 => exact (Kd.S_reads' HO4.out).2.1); rintro e w16_ ⟨rfl, hd_⟩; have hb := Drawn0.below hd_; refine ⟨_, rfl, ?_⟩; have n0_ := Aside0.mk (Kd.S_below HO4.out hb); have n1_ := Aside0.mk (below_step HB.out hb); have z_ := Aside0.mk (show w.heap.size ≤ w1_.heap.size ∧ w1_.heap.size ≤ w2_.heap.size ∧ w2_.heap.size ≤ w3_.heap.size ∧ w3_.heap.size ≤ w4_.heap.size ∧ w4_.heap.size ≤ w5_.heap.size ∧ w5_.heap.size ≤ w6_.heap.size ∧ w6_.heap.size ≤ w7_.heap.size ∧ w7_.heap.size ≤ w8_.heap.size ∧ w8_.heap.size ≤ w9_.heap.size ∧ w9_.heap.size ≤ w10_.heap.size ∧ w10_.heap.size ≤ w11_.heap.size ∧ w11_.heap.size ≤ w12_.heap.size ∧ w12_.heap.size ≤ w13_.heap.size ∧ w13_.heap.size ≤ w14_.heap.size ∧ w14_.heap.size ≤ w15_.heap.size ∧ w15_.heap.size ≤ w16_.heap.size from ⟨Z.out.1, Z.out.2.1, Z.out.2.2.1, Z.out.2.2.2.1, Z.out.2.2.2.2.1, Z.out.2.2.2.2.2.1, Z.out.2.2.2.2.2.2.1, Z.out.2.2.2.2.2.2.2.1, Z.out.2.2.2.2.2.2.2.2.1, Z.out.2.2.2.2.2.2.2.2.2.1, Z.out.2.2.2.2.2.2.2.2.2.2.1, Z.out.2.2.2.2.2.2.2.2.2.2.2.1, Z.out.2.2.2.2.2.2.2.2.2.2.2.2.1, Z.out.2.2.2.2.2.2.2.2.2.2.2.2.2.1, Z.out.2.2.2.2.2.2.2.2.2.2.2.2.2.2, hb.size⟩); (try clear HB HO4 Z); have HO4 := n0_; have HB := n1_; have Z := z_; clear z_ n0_ n1_; (try clear hb); (try clear hkp); (try clear hy); (try clear hd_)))
  go_ret
  exact ⟨rfl, HB.out⟩
set_option maxHeartbeats 8000000 in
set_option maxRecDepth 100000 in
theorem laws_FnExactLessOf.walk1 (k : Nat) (A0 : Option Addr) (c0 : Nat) (l0 : List (S113)) (a1 : Int) (z : Int) (w : World) (hr0 : Kd.C k113 w A0 l0.length l0) (hc0 : l0.length ≤ c0) (f0 : laws_szSlotS.f k l0 1048576 = some z) (n0 : z < 0) :
    Calls Try.prog 11 #[.slice A0 l0.length c0, .int .i64 a1] w fun e w' => e = .returned (.bool true) ∧ Below w.heap.size w w' := by
  have HR0 := Aside0.mk hr0
  have HC0 := Aside0.mk hc0
  clear hr0 hc0
  have HB := Aside0.mk (Below.refl w.heap.size w)
  have Ff0 := Aside0.mk f0
  clear f0
  have nb0 : decide (z < 0) = true := decide_eq_true n0
  go_enter Try.func11, Try.ntmps11
  go_wp2_with (first | ((with_reducible refine gate_callee (f := 35) rfl ?_); refine goesL_ (some 18) rfl rfl Try.func35 (by kernel_rfl) rfl #[.slice A0 l0.length c0, .int .i64 (1048576)] rfl (by (try simp only [List.map_toArray, List.map_cons, List.map_nil]); first | done | rfl | (simp only [List.length_drop, List.length_take]; rfl)) ?_; (with_reducible refine (laws_szSlotS.calls k A0 c0 l0 (1048576) _ _ ?side1 ?side2 Ff0.out).mono ?_); (case side1 => exact Kd.C_below HR0.out HB.out); (case side2 => exact HC0.out); rintro e w1_ ⟨rfl, hb⟩; refine ⟨_, rfl, ?_⟩; have n0_ := Aside0.mk (below_step HB.out hb); have z_ := Aside0.mk (show w.heap.size ≤ w1_.heap.size from hb.size); (try clear HB); have HB := n0_; have Z := z_; clear z_ n0_; (try clear hb); (try clear hkp); (try clear hy); (try clear hd_)))
  go_ret
  exact ⟨rfl, HB.out⟩
end Go.Proofs.Ytdpejnckojhgjaa.P
end
section
namespace Go.Proofs.Ytdpejnckojhgjaa.P
open Go.RowKit Go.Proofs.YtdpejnckojhgjaaW.PrintWords Go.Proofs.YtdpejnckojhgjaaW.PrintLast Go.Proofs.YtdpejnckojhgjaaW.PrintMore
attribute [local go_sem] max2_int min2_int max_two min_two max_three min_three max_four min_four   -- for this text's walks alone
set_option linter.unusedVariables false
set_option linter.unusedSimpArgs false

/-! ### spec_MoreOf: function 36 -/
def spec_MoreOf.f (k : Nat) (l0 : List (S62)) (a1 : Int) : Option ((List (S62)) × Bool) := (spec_l07Change.f k l0 a1 1).bind fun bt453 => (some (bt453.1, bt453.2))
theorem spec_MoreOf.mono : ∀ a0 a1 k, LeO (spec_MoreOf.f k a0 a1) (spec_MoreOf.f (k + 1) a0 a1) := by
  intro a0 a1 k
  unfold spec_MoreOf.f
  repeat' first
      | (with_reducible exact spec_l07Change.mono _ _ _ _)
      | (with_reducible exact LeO.refl _)
      | (with_reducible exact LeO.none _)
      | (with_reducible refine LeO.ite ?_ ?_)
      | (with_reducible refine LeO.bind ?_ (fun _ => ?_))
      | exact spec_l07Change.mono _ _ _ _
      | exact LeO.none _
      | refine LeO.ite ?_ ?_
      | refine LeO.bind ?_ (fun _ => ?_)
set_option maxHeartbeats 8000000 in
set_option maxRecDepth 100000 in
theorem spec_MoreOf.calls (k : Nat) (A0 : Option Addr) (c0 : Nat) (l0 : List (S62)) (a1 : Int) (r1 : List (S62)) (r2 : Bool) (w : World) (hr0 : Kd.C k62 w A0 l0.length l0) (hc0 : l0.length ≤ c0) (h : spec_MoreOf.f k l0 a1 = some (r1, r2)) :
    Calls Try.prog 36 #[.slice A0 l0.length c0, .int .i64 a1] w fun e w' => ∃ v0_ : Value, e = .returned (.tuple #[v0_, .bool r2]) ∧ Kd.S k62 62 w' w.heap.size (fun _ => True) v0_ r1 ∧ Below w.heap.size w w' := by
  have HR0 := Aside0.mk hr0
  have HC0 := Aside0.mk hc0
  clear hr0 hc0
  have HB := Aside0.mk (Below.refl w.heap.size w)
  have H : ((spec_l07Change.f k l0 a1 1).bind fun bt453 => (some (bt453.1, bt453.2))) = some (r1, r2) := h
  clear h
  replace H := Option.bind_eq_some_iff.mp H
  obtain ⟨⟨t453, t454⟩, A30, H⟩ := H
  replace H : (some (t453, t454)) = some (r1, r2) := H
  have A3 := Aside0.mk A30
  clear A30
  simp only [Option.some.injEq, Prod.mk.injEq] at H
  obtain ⟨rfl, rfl⟩ := H
  go_enter Try.func36, Try.ntmps36
  go_wp2_with (first | ((with_reducible refine gate_callee (f := 91) rfl ?_); refine goesL_ (some 8) rfl rfl Try.func91 (by kernel_rfl) rfl #[.slice A0 l0.length c0, .int .i64 a1, .int .i64 1] rfl (by (try simp only [List.map_toArray, List.map_cons, List.map_nil]); first | done | rfl | (simp only [List.length_drop, List.length_take]; rfl)) ?_; (with_reducible refine (spec_l07Change.calls k _ _ l0 a1 1 t453 t454 _ ?side1 ?side2 A3.out).mono ?_); (case side1 => repeat (first | exact HR0.out | (with_reducible refine Kd.C_alloc ?_ _) | (with_reducible refine Kd.C_drewN ?_ _) | (with_reducible refine Kd.C_drew ?_))); (case side2 => exact HC0.out); rintro e w4 ⟨v455, rfl, ho0, hb⟩; refine ⟨_, rfl, ?_⟩; have n0_ := Aside0.mk (Kd.S_lower ho0 (below_size (by repeat (first | (with_reducible first | exact HB.out | apply below_alloc | apply pw_below_drewN | apply below_drew1) | exact HB.out)))); have n1_ := Aside0.mk (below_step (by repeat (first | (with_reducible first | exact HB.out | apply below_alloc | apply pw_below_drewN | apply below_drew1) | exact HB.out)) hb); clear HB; have HO456 := n0_; have HB := n1_; clear n0_ n1_; (try clear hb); (try clear hb2); (try clear hk); (try clear hi); (try clear ho0)))
  go_ret2
  exact ⟨_, by first | rfl | (simp [errW_none, errW_some] <;> rfl) | (simp [*, errW_none, errW_some] <;> rfl), by (with_reducible repeat (first | apply Kd.S_alloc | apply Kd.S_drewN | apply Kd.S_drew)); exact HO456.out, by repeat (first | (with_reducible first | exact HB.out | apply below_alloc | apply pw_below_drewN | apply below_drew1) | exact HB.out)⟩

end Go.Proofs.Ytdpejnckojhgjaa.P
end
section
namespace Go.Proofs.Ytdpejnckojhgjaa.P
open Go.RowKit Go.Proofs.YtdpejnckojhgjaaW.PrintWords Go.Proofs.YtdpejnckojhgjaaW.PrintLast Go.Proofs.YtdpejnckojhgjaaW.PrintMore
attribute [local go_sem] max2_int min2_int max_two min_two max_three min_three max_four min_four   -- for this text's walks alone
set_option linter.unusedVariables false
set_option linter.unusedSimpArgs false

/-! ### impl_MoreOf: function 38 -/
def impl_MoreOf.f (k : Nat) (l0 : List (S62)) (a1 : Int) : Option ((List (S62)) × Bool) := (impl_SlotsOk.f k l0).bind fun t493 => (if t493 = true then ((impl_isHeld.f l0 a1).bind fun t494 => (if t494 = true then (if 0 ≤ a1 then (if a1 < (l0.length : Int) then (if ((rd_T62 l0 a1).f0) = 64 then (some (([] : List (S62)), false)) else ((impl_copySlots.f k l0).bind fun t496 => (if a1 < (t496.length : Int) then (some ((t496.set (a1 : Int).toNat (⟨wrap64 (((rd_T62 t496 a1).f0) + 1), (rd_T62 t496 a1).f1⟩ : S62)), true)) else (none)))) else (none)) else (none)) else (some (([] : List (S62)), false)))) else (some (([] : List (S62)), false)))
theorem impl_MoreOf.mono : ∀ a0 a1 k, LeO (impl_MoreOf.f k a0 a1) (impl_MoreOf.f (k + 1) a0 a1) := by
  intro a0 a1 k
  unfold impl_MoreOf.f
  repeat' first
      | (with_reducible exact impl_SlotsOk.mono _ _)
      | (with_reducible exact impl_copySlots.mono _ _)
      | (with_reducible exact LeO.refl _)
      | (with_reducible exact LeO.none _)
      | (with_reducible refine LeO.ite ?_ ?_)
      | (with_reducible refine LeO.bind ?_ (fun _ => ?_))
      | exact impl_SlotsOk.mono _ _
      | exact impl_copySlots.mono _ _
      | exact LeO.none _
      | refine LeO.ite ?_ ?_
      | refine LeO.bind ?_ (fun _ => ?_)
set_option maxHeartbeats 8000000 in
set_option maxRecDepth 100000 in
theorem impl_MoreOf.calls (k : Nat) (A0 : Option Addr) (c0 : Nat) (l0 : List (S62)) (a1 : Int) (r1 : List (S62)) (r2 : Bool) (w : World) (hr0 : Kd.C k62 w A0 l0.length l0) (hc0 : l0.length ≤ c0) (h : impl_MoreOf.f k l0 a1 = some (r1, r2)) :
    Calls Try.prog 38 #[.slice A0 l0.length c0, .int .i64 a1] w fun e w' => ∃ v0_ : Value, e = .returned (.tuple #[v0_, .bool r2]) ∧ Kd.S k62 62 w' w.heap.size (fun _ => True) v0_ r1 ∧ Below w.heap.size w w' := by
  have HR0 := Aside0.mk hr0
  have HC0 := Aside0.mk hc0
  clear hr0 hc0
  have HB := Aside0.mk (Below.refl w.heap.size w)
  have H : ((impl_SlotsOk.f k l0).bind fun t493 => (if t493 = true then ((impl_isHeld.f l0 a1).bind fun t494 => (if t494 = true then (if 0 ≤ a1 then (if a1 < (l0.length : Int) then (if ((rd_T62 l0 a1).f0) = 64 then (some (([] : List (S62)), false)) else ((impl_copySlots.f k l0).bind fun t496 => (if a1 < (t496.length : Int) then (some ((t496.set (a1 : Int).toNat (⟨wrap64 (((rd_T62 t496 a1).f0) + 1), (rd_T62 t496 a1).f1⟩ : S62)), true)) else (none)))) else (none)) else (none)) else (some (([] : List (S62)), false)))) else (some (([] : List (S62)), false)))) = some (r1, r2) := h
  clear h
  replace H := Option.bind_eq_some_iff.mp H
  obtain ⟨t493, A30, H⟩ := H
  replace H : (if t493 = true then ((impl_isHeld.f l0 a1).bind fun t494 => (if t494 = true then (if 0 ≤ a1 then (if a1 < (l0.length : Int) then (if ((rd_T62 l0 a1).f0) = 64 then (some (([] : List (S62)), false)) else ((impl_copySlots.f k l0).bind fun t496 => (if a1 < (t496.length : Int) then (some ((t496.set (a1 : Int).toNat (⟨wrap64 (((rd_T62 t496 a1).f0) + 1), (rd_T62 t496 a1).f1⟩ : S62)), true)) else (none)))) else (none)) else (none)) else (some (([] : List (S62)), false)))) else (some (([] : List (S62)), false))) = some (r1, r2) := H
  have A3 := Aside0.mk A30
  clear A30
  by_cases c4 : t493 = true
  · subst c4
    have H1 : ((impl_isHeld.f l0 a1).bind fun t494 => (if t494 = true then (if 0 ≤ a1 then (if a1 < (l0.length : Int) then (if ((rd_T62 l0 a1).f0) = 64 then (some (([] : List (S62)), false)) else ((impl_copySlots.f k l0).bind fun t496 => (if a1 < (t496.length : Int) then (some ((t496.set (a1 : Int).toNat (⟨wrap64 (((rd_T62 t496 a1).f0) + 1), (rd_T62 t496 a1).f1⟩ : S62)), true)) else (none)))) else (none)) else (none)) else (some (([] : List (S62)), false)))) = some (r1, r2) := by rw [if_pos rfl] at H; exact H
    clear H
    have H := H1
    clear H1
    replace H := Option.bind_eq_some_iff.mp H
    obtain ⟨t494, A50, H⟩ := H
    replace H : (if t494 = true then (if 0 ≤ a1 then (if a1 < (l0.length : Int) then (if ((rd_T62 l0 a1).f0) = 64 then (some (([] : List (S62)), false)) else ((impl_copySlots.f k l0).bind fun t496 => (if a1 < (t496.length : Int) then (some ((t496.set (a1 : Int).toNat (⟨wrap64 (((rd_T62 t496 a1).f0) + 1), (rd_T62 t496 a1).f1⟩ : S62)), true)) else (none)))) else (none)) else (none)) else (some (([] : List (S62)), false))) = some (r1, r2) := H
    have A5 := Aside0.mk A50
    clear A50
    by_cases c6 : t494 = true
    · subst c6
      have H1 : (if 0 ≤ a1 then (if a1 < (l0.length : Int) then (if ((rd_T62 l0 a1).f0) = 64 then (some (([] : List (S62)), false)) else ((impl_copySlots.f k l0).bind fun t496 => (if a1 < (t496.length : Int) then (some ((t496.set (a1 : Int).toNat (⟨wrap64 (((rd_T62 t496 a1).f0) + 1), (rd_T62 t496 a1).f1⟩ : S62)), true)) else (none)))) else (none)) else (none)) = some (r1, r2) := by rw [if_pos rfl] at H; exact H
      clear H
      have H := H1
      clear H1
      by_cases c7 : 0 ≤ a1
      · rw [if_pos c7] at H
        have c7b0 : decide (0 ≤ a1) = true := decide_eq_true c7
        clear c7
        by_cases c8 : a1 < (l0.length : Int)
        · rw [if_pos c8] at H
          have c8b0 : decide (a1 < (l0.length : Int)) = true := decide_eq_true c8
          clear c8
          by_cases c9 : ((rd_T62 l0 a1).f0) = 64
          · rw [if_pos c9] at H
            have c9b0 : (((rd_T62 l0 a1).f0) == 64) = true := beq_iff_eq.mpr c9
            have c9b1 : (((rd_T62 l0 a1).f0) != 64) = false := bne_eq_false_iff_eq.mpr c9
            clear c9
            simp only [Option.some.injEq, Prod.mk.injEq] at H
            obtain ⟨rfl, rfl⟩ := H
            go_enter Try.func38, Try.ntmps38
            go_wp2_with (first | ((with_reducible refine gate_callee (f := 46) rfl ?_); refine goesL_ (some 8) rfl rfl Try.func46 (by kernel_rfl) rfl #[.slice A0 l0.length c0] rfl (by (try simp only [List.map_toArray, List.map_cons, List.map_nil]); first | done | rfl | (simp only [List.length_drop, List.length_take]; rfl)) ?_; (with_reducible refine (impl_SlotsOk.calls k _ _ l0 true _ ?side1 ?side2 A3.out).mono ?_); (case side1 => repeat (first | exact HR0.out | (with_reducible refine Kd.C_alloc ?_ _) | (with_reducible refine Kd.C_drewN ?_ _) | (with_reducible refine Kd.C_drew ?_))); (case side2 => exact HC0.out); rintro e w10 ⟨rfl, hb⟩; refine ⟨_, rfl, ?_⟩; have n0_ := Aside0.mk (below_step (by repeat (first | (with_reducible first | exact HB.out | apply below_alloc | apply pw_below_drewN | apply below_drew1) | exact HB.out)) hb); clear HB; have HB := n0_; clear n0_; (try clear hb); (try clear hb2); (try clear hk); (try clear hi)) | (go_at_call 93; (with_reducible refine (impl_isHeld.calls _ _ l0 a1 true _ ?side1 ?side2 A5.out).mono ?_); (case side1 => repeat (first | exact (Kd.C_below HR0.out HB.out) | (with_reducible refine Kd.C_alloc ?_ _) | (with_reducible refine Kd.C_drewN ?_ _) | (with_reducible refine Kd.C_drew ?_))); (case side2 => exact HC0.out); rintro e w' ⟨rfl, ⟨nd, rfl⟩⟩; have p495 : 0 ≤ (a1 : Int) := of_decide_eq_true (by first | (with_reducible assumption) | assumption); have q495 : a1 < (l0.length : Int) := of_decide_eq_true (by first | (with_reducible assumption) | assumption); obtain ⟨ad495, A495_1, c495_1, e495, hx495_0, hx495_1, hl495_1, hi495_1⟩ := at_T62 HR0.out a1 p495 q495; cases e495; replace hx495_0 := (HB.out.cell (World.block_lt_of_cell? w _ hx495_0)).trans hx495_0; replace hx495_1 := (HB.out.cell (World.block_lt_of_cell? w _ hx495_1)).trans hx495_1; have HR495_1 := Aside0.mk hi495_1; have HC495_1 := Aside0.mk hl495_1; clear hi495_1 hl495_1; replace p495 := eq_true p495; replace q495 := eq_true q495))
            go_ret2
            exact ⟨_, by first | rfl | (simp [errW_none, errW_some] <;> rfl) | (simp [*, errW_none, errW_some] <;> rfl), by first | exact Kd.S_nil _ _ _ _ _ | exact Kd.N_nil _ _ _ _ _ | exact Kd.V_nil _ _ _ _ _ | exact Kd.Q_nil _ _ _ _ _ | exact Kd.R_nil _ _ _ _ _, by repeat (first | (with_reducible first | exact HB.out | apply below_alloc | apply pw_below_drewN | apply below_drew1) | exact HB.out)⟩
          · rw [if_neg c9] at H
            have c9b0 : (((rd_T62 l0 a1).f0) == 64) = false := beq_eq_false_iff_ne.mpr c9
            have c9b1 : (((rd_T62 l0 a1).f0) != 64) = true := bne_iff_ne.mpr c9
            replace H := Option.bind_eq_some_iff.mp H
            obtain ⟨t496, A110, H⟩ := H
            replace H : (if a1 < (t496.length : Int) then (some ((t496.set (a1 : Int).toNat (⟨wrap64 (((rd_T62 t496 a1).f0) + 1), (rd_T62 t496 a1).f1⟩ : S62)), true)) else (none)) = some (r1, r2) := H
            have A11 := Aside0.mk A110
            clear A110
            by_cases c12 : a1 < (t496.length : Int)
            · rw [if_pos c12] at H
              have c12b0 : decide (a1 < (t496.length : Int)) = true := decide_eq_true c12
              clear c12
              obtain ⟨y500, hy500⟩ : ∃ y_ : List (S62), y_ = (t496.set (a1 : Int).toNat (⟨wrap64 (((rd_T62 t496 a1).f0) + 1), (rd_T62 t496 a1).f1⟩ : S62)) := ⟨_, rfl⟩
              replace H : (some (y500, true)) = some (r1, r2) := by first | (rw [hy500]; with_reducible exact H) | (have H2_ := (Option.bind_some _ _).symm.trans H; rw [hy500]; with_reducible exact H2_) | (have H2_ := (Option.bind_some _ _).symm.trans H; with_reducible exact H2_) | with_reducible exact H | (rw [hy500]; exact H) | exact H
              have Ny500 := Aside0.mk hy500
              clear hy500
              simp only [Option.some.injEq, Prod.mk.injEq] at H
              obtain ⟨rfl, rfl⟩ := H
              go_enter Try.func38, Try.ntmps38
              go_wp2_with (first | ((with_reducible refine gate_callee (f := 46) rfl ?_); refine goesL_ (some 8) rfl rfl Try.func46 (by kernel_rfl) rfl #[.slice A0 l0.length c0] rfl (by (try simp only [List.map_toArray, List.map_cons, List.map_nil]); first | done | rfl | (simp only [List.length_drop, List.length_take]; rfl)) ?_; (with_reducible refine (impl_SlotsOk.calls k _ _ l0 true _ ?side1 ?side2 A3.out).mono ?_); (case side1 => repeat (first | exact HR0.out | (with_reducible refine Kd.C_alloc ?_ _) | (with_reducible refine Kd.C_drewN ?_ _) | (with_reducible refine Kd.C_drew ?_))); (case side2 => exact HC0.out); rintro e w14 ⟨rfl, hb⟩; refine ⟨_, rfl, ?_⟩; have n0_ := Aside0.mk (below_step (by repeat (first | (with_reducible first | exact HB.out | apply below_alloc | apply pw_below_drewN | apply below_drew1) | exact HB.out)) hb); clear HB; have HB := n0_; clear n0_; (try clear hb); (try clear hb2); (try clear hk); (try clear hi)) | (go_at_call 93; (with_reducible refine (impl_isHeld.calls _ _ l0 a1 true _ ?side1 ?side2 A5.out).mono ?_); (case side1 => repeat (first | exact (Kd.C_below HR0.out HB.out) | (with_reducible refine Kd.C_alloc ?_ _) | (with_reducible refine Kd.C_drewN ?_ _) | (with_reducible refine Kd.C_drew ?_))); (case side2 => exact HC0.out); rintro e w' ⟨rfl, ⟨nd, rfl⟩⟩; (try (rw [drewN_self w14]; generalize hq_ : World.drewN w14 _ = w14; have n0_ : Aside0 (Below w.heap.size w w14) := ⟨by rw [← hq_]; exact (by repeat (first | (with_reducible first | exact HB.out | apply below_alloc | apply pw_below_drewN | apply below_drew1) | exact HB.out))⟩; clear HB hq_; have HB := n0_; clear n0_)); have p495 : 0 ≤ (a1 : Int) := of_decide_eq_true (by first | (with_reducible assumption) | assumption); have q495 : a1 < (l0.length : Int) := of_decide_eq_true (by first | (with_reducible assumption) | assumption); obtain ⟨ad495, A495_1, c495_1, e495, hx495_0, hx495_1, hl495_1, hi495_1⟩ := at_T62 HR0.out a1 p495 q495; cases e495; replace hx495_0 := (HB.out.cell (World.block_lt_of_cell? w _ hx495_0)).trans hx495_0; replace hx495_1 := (HB.out.cell (World.block_lt_of_cell? w _ hx495_1)).trans hx495_1; have HR495_1 := Aside0.mk hi495_1; have HC495_1 := Aside0.mk hl495_1; clear hi495_1 hl495_1; replace p495 := eq_true p495; replace q495 := eq_true q495) | ((with_reducible refine gate_callee (f := 94) rfl ?_); refine goesL_ (some 25) rfl rfl Try.func94 (by kernel_rfl) rfl #[.slice (some ad495) l0.length c0] rfl (by (try simp only [List.map_toArray, List.map_cons, List.map_nil]); first | done | rfl | (simp only [List.length_drop, List.length_take]; rfl)) ?_; (with_reducible refine (impl_copySlots.calls k _ _ l0 t496 _ ?side1 ?side2 A11.out).mono ?_); (case side1 => repeat (first | exact (Kd.C_below HR0.out HB.out) | (with_reducible refine Kd.C_alloc ?_ _) | (with_reducible refine Kd.C_drewN ?_ _) | (with_reducible refine Kd.C_drew ?_))); (case side2 => exact HC0.out); rintro e w15 ⟨v497, rfl, ho0, hb⟩; refine ⟨_, rfl, ?_⟩; have n0_ := Aside0.mk (Kd.S_lower ho0 (below_size (by repeat (first | (with_reducible first | exact HB.out | apply below_alloc | apply pw_below_drewN | apply below_drew1) | exact HB.out)))); have n1_ := Aside0.mk (below_step (by repeat (first | (with_reducible first | exact HB.out | apply below_alloc | apply pw_below_drewN | apply below_drew1) | exact HB.out)) hb); clear HB; have HO498 := n0_; have HB := n1_; clear n0_ n1_; (try clear hb); (try clear hb2); (try clear hk); (try clear hi); (try clear ho0); obtain ⟨Ao16, co16, eo16⟩ := Kd.S_slice HO498.out; subst eo16; have p499 : 0 ≤ (a1 : Int) := of_decide_eq_true (by first | (with_reducible assumption) | assumption); have q499 : a1 < (t496.length : Int) := of_decide_eq_true (by first | (with_reducible assumption) | assumption); obtain ⟨ad499, A499_1, c499_1, e499, hx499_0, hx499_1, hl499_1, hi499_1⟩ := at_T62 (Kd.S_reads' HO498.out).2.2 a1 p499 q499; cases e499; obtain ⟨ce499, hce499, hMe499, hcc499⟩ := Kd.S_get HO498.out z62 a1 p499 (by first | exact q499 | exact of_decide_eq_true (by first | (with_reducible assumption) | assumption) | (have e_ := (Kd.S_reads' HO498.out).1; omega)); obtain ⟨ve499_1, rfl, ge499_1⟩ := k62_openM hMe499; have hv499_1 := hcc499 1 _ rfl; rw [add_field _ _ 1 (by omega)] at hv499_1; replace hv499_1 := Option.some.inj (hv499_1.symm.trans hx499_1); rw [hv499_1] at ge499_1; have HL499_1 := Aside0.mk (show Kd.R (Kd.int .i64) 3 _ _ _ _ ((rd_T62 t496 a1).f1) from ge499_1); clear hv499_1 ge499_1; clear hcc499 hce499; have HR499_1 := Aside0.mk hi499_1; have HC499_1 := Aside0.mk hl499_1; clear hi499_1 hl499_1; replace p499 := eq_true p499; replace q499 := eq_true q499; have p13 : 0 ≤ (a1 : Int) := of_decide_eq_true (by first | (with_reducible assumption) | assumption); have q13 : (a1 : Int) < ((t496.length : Int) : Int) := of_decide_eq_true (by first | (with_reducible assumption) | assumption); obtain ⟨go13, co13, eo13, gb13, gl13, cl13, HG13⟩ := Kd.S_form HO498.out (by omega); (first | cases eo13 | (injection eo13 with ea_ en_ ec_; (first | subst ea_ | (injection ea_ with ea_; subst ea_)); subst ec_; clear en_)); have GB13 := Aside0.mk gb13; have GG13 := Aside0.mk HG13; clear gb13 gl13 HG13; (first | simp only [add_plain] at hx499_0 | skip); (first | simp only [add_plain] at hx499_1 | skip); obtain ⟨_, ce13, hcl13, hM13, hcc13, hfr13, _, _⟩ := Kd.S_elem HO498.out z62 (a1 : Int) p13 q13; obtain ⟨ve13_1, rfl, ge13_1⟩ := k62_openM hM13; have hx13_0 : w15.cell? ⟨go13, (a1 : Int).toNat * 2, none⟩ = some (.int .i64 ((rd_T62 t496 a1).f0)) := hcc13 0 _ rfl; have hx13_1 : w15.cell? ⟨go13, (a1 : Int).toNat * 2 + 1, none⟩ = some (ve13_1) := hcc13 1 _ rfl; have hf13_0 : w15.frozen? ⟨go13, (a1 : Int).toNat * 2, none⟩ = false := hfr13 0; have hf13_1 : w15.frozen? ⟨go13, (a1 : Int).toNat * 2 + 1, none⟩ = false := hfr13 1; (try clear hcl13); (try clear hcc13); (try clear hfr13); (try clear hM13); replace p13 := eq_true p13; replace q13 := eq_true q13; have HX17 := Aside0.mk (show Kd.S k62 62 w15 w.heap.size (fun k_ => ((fun _ => True)) k_ ∧ ¬ ((fun _ => False)) k_) (.slice (some ⟨go13, 0, none⟩) t496.length co16) t496 from (by (with_reducible repeat (first | apply Kd.S_alloc | apply Kd.S_drewN | apply Kd.S_drew)); exact Kd.S_mono HO498.out (fun k_ hk => ⟨trivial, fun e_ => e_⟩))); obtain ⟨oki17, ce17, hcl17, hM17, hcc17, hfr17, hoki17, hH17⟩ := Kd.S_elem HX17.out z62 (a1 : Int) (of_decide_eq_true (by first | (with_reducible assumption) | assumption)) (by have h_ : (a1 : Int) < ((t496.length : Int) : Int) := of_decide_eq_true (by first | (with_reducible assumption) | assumption); first | exact h_ | (have e_ := (Kd.S_reads' HO498.out).1; omega) | simpa using h_); obtain ⟨ve17_1, rfl, ge17_1⟩ := k62_openM hM17; have HP17 := Kd.S_seg hH17 (of_decide_eq_true (by first | (with_reducible assumption) | assumption)) (by have h_ : (a1 : Int) < ((t496.length : Int) : Int) := of_decide_eq_true (by first | (with_reducible assumption) | assumption); first | exact h_ | (have e_ := (Kd.S_reads' HO498.out).1; omega) | simpa using h_) (seg := [.int .i64 (wrap64 (((rd_T62 t496 a1).f0) + 1))]) (j := 0) (show 1 ≤ 2 from by decide) (x' := (⟨wrap64 (((rd_T62 t496 a1).f0) + 1), (rd_T62 t496 a1).f1⟩ : S62)) (k62_mkM _ _ _ (⟨wrap64 (((rd_T62 t496 a1).f0) + 1), (rd_T62 t496 a1).f1⟩ : S62) (Kd.R_mono ge17_1 (fun _ h_ => Or.inl h_))) (fun _ hk => hk) (fun k_ hk_ => hk_.elim); have hx17_0 := hcc17 0 _ rfl; (try simp only [show (k62).sz = 2 from rfl, Nat.mul_one, Nat.add_zero] at hx17_0); have hf17_0 := hfr17 0; (try simp only [show (k62).sz = 2 from rfl, Nat.mul_one, Nat.add_zero] at hf17_0); (try clear hcl17); (try clear hcc17); (try clear hfr17); (try clear hM17); (try clear hoki17); (try clear hH17)) | ((with_reducible refine gate_store (t := 3) (p := 33) rfl ?_); refine store_event (t := 3) (p := 33) (v := ?vo_w18) (w1 := (w15.setCell ⟨go13, (a1 : Int).toNat * 2, none⟩ (.int .i64 (wrap64 (((rd_T62 t496 a1).f0) + 1))))) ?hg ?ho ?hn ?hr ?_; (case ho => rfl); (case hg => rfl); (case hn => rfl); (case hr => first | (go_simp; done) | (go_simp; rfl) | (obtain ⟨A_, c_, e_⟩ := Kd.R_slice HO498.out; rw [e_]; first | (go_simp; done) | (go_simp; rfl)) | (obtain ⟨A_, c_, e_⟩ := Kd.S_slice HO498.out; rw [e_]; first | (go_simp; done) | (go_simp; rfl))); intro w18 hw; have hg : w15.grownBy w18 (some go13) := (by rw [hw]; exact HP17.2); have hp_ : Kd.S k62 62 w18 w.heap.size (fun _ => True) (.slice (some ⟨go13, 0, none⟩) t496.length co16) y500 := (by rw [hw, Ny500.out]; exact HP17.1); clear HP17; have n0_ := Aside0.mk (hp_); have n1_ := Aside0.mk (Kd.R_after (v := (.slice (some ⟨go13, 0, none⟩) t496.length co16)) (v1 := (.slice (some ⟨go13, 0, none⟩) t496.length co16)) (ok := (fun _ => True)) (by (with_reducible repeat (first | apply Kd.R_alloc | apply Kd.R_drewN | apply Kd.R_drew)); exact HL499_1.out) hg (.inl rfl)); have n2_ := Aside0.mk ((by rw [hw]; exact below_set (HB.out) GB13.out : Below w.heap.size w w18)); clear HO498; clear HL499_1; clear HB; have HO498 := n0_; have HL499_1 := n1_; have HB := n2_; clear n0_ n1_ n2_; clear hg hw hp_))
              go_ret2
              exact ⟨_, by first | rfl | (simp [errW_none, errW_some] <;> rfl) | (simp [*, errW_none, errW_some] <;> rfl), by (with_reducible repeat (first | apply Kd.S_alloc | apply Kd.S_drewN | apply Kd.S_drew)); exact HO498.out, by repeat (first | (with_reducible first | exact HB.out | apply below_alloc | apply pw_below_drewN | apply below_drew1) | exact HB.out)⟩
            · rw [if_neg c12] at H
              exact absurd H (by simp)
        · rw [if_neg c8] at H
          exact absurd H (by simp)
      · rw [if_neg c7] at H
        exact absurd H (by simp)
    · replace c6 := Bool.eq_false_iff.mpr c6
      subst c6
      have H1 : (some (([] : List (S62)), false)) = some (r1, r2) := by rw [if_neg (show ¬ (false = true) by decide)] at H; exact H
      clear H
      have H := H1
      clear H1
      simp only [Option.some.injEq, Prod.mk.injEq] at H
      obtain ⟨rfl, rfl⟩ := H
      go_enter Try.func38, Try.ntmps38
      go_wp2_with (first | ((with_reducible refine gate_callee (f := 46) rfl ?_); refine goesL_ (some 8) rfl rfl Try.func46 (by kernel_rfl) rfl #[.slice A0 l0.length c0] rfl (by (try simp only [List.map_toArray, List.map_cons, List.map_nil]); first | done | rfl | (simp only [List.length_drop, List.length_take]; rfl)) ?_; (with_reducible refine (impl_SlotsOk.calls k _ _ l0 true _ ?side1 ?side2 A3.out).mono ?_); (case side1 => repeat (first | exact HR0.out | (with_reducible refine Kd.C_alloc ?_ _) | (with_reducible refine Kd.C_drewN ?_ _) | (with_reducible refine Kd.C_drew ?_))); (case side2 => exact HC0.out); rintro e w19 ⟨rfl, hb⟩; refine ⟨_, rfl, ?_⟩; have n0_ := Aside0.mk (below_step (by repeat (first | (with_reducible first | exact HB.out | apply below_alloc | apply pw_below_drewN | apply below_drew1) | exact HB.out)) hb); clear HB; have HB := n0_; clear n0_; (try clear hb); (try clear hb2); (try clear hk); (try clear hi)) | (go_at_call 93; (with_reducible refine (impl_isHeld.calls _ _ l0 a1 false _ ?side1 ?side2 A5.out).mono ?_); (case side1 => repeat (first | exact (Kd.C_below HR0.out HB.out) | (with_reducible refine Kd.C_alloc ?_ _) | (with_reducible refine Kd.C_drewN ?_ _) | (with_reducible refine Kd.C_drew ?_))); (case side2 => exact HC0.out); rintro e w' ⟨rfl, ⟨nd, rfl⟩⟩))
      go_ret2
      exact ⟨_, by first | rfl | (simp [errW_none, errW_some] <;> rfl) | (simp [*, errW_none, errW_some] <;> rfl), by first | exact Kd.S_nil _ _ _ _ _ | exact Kd.N_nil _ _ _ _ _ | exact Kd.V_nil _ _ _ _ _ | exact Kd.Q_nil _ _ _ _ _ | exact Kd.R_nil _ _ _ _ _, by repeat (first | (with_reducible first | exact HB.out | apply below_alloc | apply pw_below_drewN | apply below_drew1) | exact HB.out)⟩
  · replace c4 := Bool.eq_false_iff.mpr c4
    subst c4
    have H1 : (some (([] : List (S62)), false)) = some (r1, r2) := by rw [if_neg (show ¬ (false = true) by decide)] at H; exact H
    clear H
    have H := H1
    clear H1
    simp only [Option.some.injEq, Prod.mk.injEq] at H
    obtain ⟨rfl, rfl⟩ := H
    go_enter Try.func38, Try.ntmps38
    go_wp2_with (first | ((with_reducible refine gate_callee (f := 46) rfl ?_); refine goesL_ (some 8) rfl rfl Try.func46 (by kernel_rfl) rfl #[.slice A0 l0.length c0] rfl (by (try simp only [List.map_toArray, List.map_cons, List.map_nil]); first | done | rfl | (simp only [List.length_drop, List.length_take]; rfl)) ?_; (with_reducible refine (impl_SlotsOk.calls k _ _ l0 false _ ?side1 ?side2 A3.out).mono ?_); (case side1 => repeat (first | exact HR0.out | (with_reducible refine Kd.C_alloc ?_ _) | (with_reducible refine Kd.C_drewN ?_ _) | (with_reducible refine Kd.C_drew ?_))); (case side2 => exact HC0.out); rintro e w20 ⟨rfl, hb⟩; refine ⟨_, rfl, ?_⟩; have n0_ := Aside0.mk (below_step (by repeat (first | (with_reducible first | exact HB.out | apply below_alloc | apply pw_below_drewN | apply below_drew1) | exact HB.out)) hb); clear HB; have HB := n0_; clear n0_; (try clear hb); (try clear hb2); (try clear hk); (try clear hi)))
    go_ret2
    exact ⟨_, by first | rfl | (simp [errW_none, errW_some] <;> rfl) | (simp [*, errW_none, errW_some] <;> rfl), by first | exact Kd.S_nil _ _ _ _ _ | exact Kd.N_nil _ _ _ _ _ | exact Kd.V_nil _ _ _ _ _ | exact Kd.Q_nil _ _ _ _ _ | exact Kd.R_nil _ _ _ _ _, by repeat (first | (with_reducible first | exact HB.out | apply below_alloc | apply pw_below_drewN | apply below_drew1) | exact HB.out)⟩

end Go.Proofs.Ytdpejnckojhgjaa.P
end
section
namespace Go.Proofs.Ytdpejnckojhgjaa.Aid
open Go.RowKit Go.Proofs.YtdpejnckojhgjaaW.PrintWords

theorem wrap64_id {n : Int} (h : -9223372036854775808 ≤ n) (h2 : n ≤ 9223372036854775807) : wrap64 n = n := by unfold wrap64; omega
theorem wf_i64 {n : Int} (h : (Lit.int .i64 n).wf = true) : -9223372036854775808 ≤ n ∧ n ≤ 9223372036854775807 := by
  simpa [Lit.wf, IntKind.min, IntKind.max, IntKind.bits, IntKind.signed] using h

theorem and255 (n : Int) : bits .and .i64 n 255 = n % 256 := by
  have h127 : (BitVec.ofInt 64 255).toNat = 2 ^ 8 - 1 := by decide
  have key : (BitVec.ofInt 64 n &&& BitVec.ofInt 64 255).toNat = (n % ((2 ^ 64 : Nat) : Int)).toNat % 2 ^ 8 := by
    rw [BitVec.toNat_and, BitVec.toNat_ofInt, h127, Nat.and_two_pow_sub_one_eq_mod]
  show IntKind.i64.wrap ((BitVec.ofInt 64 n &&& BitVec.ofInt 64 255).toNat : Nat) = n % 256
  rw [key, IntKind.wrap_i64]
  omega

theorem tmod_nonneg {a b : Int} (ha : 0 ≤ a) (_hb : 0 < b) : Int.tmod a b = a % b := Int.tmod_eq_emod_of_nonneg ha
theorem tdiv_nonneg {a b : Int} (ha : 0 ≤ a) : Int.tdiv a b = a / b := Int.tdiv_eq_ediv_of_nonneg ha

/-! Loops over an index -/
theorem Ev.of_succ {α : Type} {g : Nat → Option α} {r : α} (h : ∀ k, g (k + 1) = some r) : Ev g r :=
  ⟨1, fun n hn => by obtain ⟨m, rfl⟩ : ∃ m, n = m + 1 := ⟨n - 1, by omega⟩; exact h m⟩
theorem Ev.const {α : Type} {g : Nat → Option α} {r : α} (h : ∀ k, g k = some r) : Ev g r := ⟨0, fun n _ => h n⟩
/-- A loop that asks one thing of each index. -/
theorem ev_all {ρ : Type} (g : Nat → Nat → Option ρ) (n : Nat) (B : Nat → Bool) (no yes : ρ)
    (h1 : ∀ i, i < n → B i = true → ∀ r, Ev (fun k => g k (i + 1)) r → Ev (fun k => g k i) r)
    (h2 : ∀ i, i < n → B i = false → Ev (fun k => g k i) no)
    (h3 : Ev (fun k => g k n) yes) : ∀ d i, i + d = n → Ev (fun k => g k i) (if (List.range' i d).all B = true then yes else no) := by
  intro d
  induction d with
  | zero =>
    intro i hi
    obtain rfl : i = n := by omega
    simpa using h3
  | succ d ih =>
    intro i hi
    rw [List.range'_succ, List.all_cons]
    cases hb : B i with
    | true => simp only [Bool.true_and]; exact h1 i (by omega) hb _ (ih (i + 1) (by omega))
    | false => simp only [Bool.false_and, Bool.false_eq_true, if_false]; exact h2 i (by omega) hb
theorem ev_yes {ρ : Type} (g : Nat → Nat → Option ρ) (n : Nat) (B : Nat → Bool) (r : ρ)
    (h1 : ∀ i, i < n → B i = true → ∀ r, Ev (fun k => g k (i + 1)) r → Ev (fun k => g k i) r)
    (hall : (List.range n).all B = true) (h3 : Ev (fun k => g k n) r) : Ev (fun k => g k 0) r := by
  have key : ∀ d i, i + d = n → Ev (fun k => g k i) r := by
    intro d
    induction d with
    | zero =>
      intro i hi
      obtain rfl : i = n := by omega
      exact h3
    | succ d ih =>
      intro i hi
      exact h1 i (by omega) (List.all_eq_true.1 hall i (List.mem_range.2 (by omega))) _ (ih (i + 1) (by omega))
  exact key n 0 (by omega)
theorem ev_no {ρ : Type} (g : Nat → Nat → Option ρ) (n : Nat) (B : Nat → Bool) (no : ρ)
    (h1 : ∀ i, i < n → B i = true → ∀ r, Ev (fun k => g k (i + 1)) r → Ev (fun k => g k i) r)
    (h2 : ∀ i, i < n → B i = false → Ev (fun k => g k i) no)
    (hall : (List.range n).all B = false) : Ev (fun k => g k 0) no := by
  have key : ∀ d i, i + d = n → (List.range' i d).all B = false → Ev (fun k => g k i) no := by
    intro d
    induction d with
    | zero => intro i _ h; simp at h
    | succ d ih =>
      intro i hi h
      rw [List.range'_succ, List.all_cons] at h
      cases hb : B i with
      | true => exact h1 i (by omega) hb _ (ih (i + 1) (by omega) (by simpa [hb] using h))
      | false => exact h2 i (by omega) hb
  exact key n 0 (by omega) (by rw [← List.range_eq_range']; exact hall)
theorem ev_all0 {ρ : Type} (g : Nat → Nat → Option ρ) (n : Nat) (B : Nat → Bool) (no yes : ρ)
    (h1 : ∀ i, i < n → B i = true → ∀ r, Ev (fun k => g k (i + 1)) r → Ev (fun k => g k i) r)
    (h2 : ∀ i, i < n → B i = false → Ev (fun k => g k i) no)
    (h3 : Ev (fun k => g k n) yes) : Ev (fun k => g k 0) (if (List.range n).all B = true then yes else no) := by
  rw [List.range_eq_range']
  exact ev_all g n B no yes h1 h2 h3 n 0 (by omega)
/-- The same, where what was asked before is known. -/
theorem ev_yesp {ρ : Type} (g : Nat → Nat → Option ρ) (n : Nat) (B : Nat → Bool) (r : ρ)
    (h1 : ∀ i, i < n → (∀ j, j < i → B j = true) → B i = true → ∀ r, Ev (fun k => g k (i + 1)) r → Ev (fun k => g k i) r)
    (hall : (List.range n).all B = true) (h3 : Ev (fun k => g k n) r) : Ev (fun k => g k 0) r := by
  have ha : ∀ i, i < n → B i = true := fun i hi => List.all_eq_true.1 hall i (List.mem_range.2 hi)
  have key : ∀ d i, i + d = n → Ev (fun k => g k i) r := by
    intro d
    induction d with
    | zero =>
      intro i hi
      obtain rfl : i = n := by omega
      exact h3
    | succ d ih =>
      intro i hi
      exact h1 i (by omega) (fun j hj => ha j (by omega)) (ha i (by omega)) _ (ih (i + 1) (by omega))
  exact key n 0 (by omega)
theorem ev_nop {ρ : Type} (g : Nat → Nat → Option ρ) (n : Nat) (B : Nat → Bool) (no : ρ)
    (h1 : ∀ i, i < n → (∀ j, j < i → B j = true) → B i = true → ∀ r, Ev (fun k => g k (i + 1)) r → Ev (fun k => g k i) r)
    (h2 : ∀ i, i < n → (∀ j, j < i → B j = true) → B i = false → Ev (fun k => g k i) no)
    (hall : (List.range n).all B = false) : Ev (fun k => g k 0) no := by
  have key : ∀ d i, i + d = n → (∀ j, j < i → B j = true) → Ev (fun k => g k i) no := by
    intro d
    induction d with
    | zero =>
      intro i hi h
      obtain rfl : i = n := by omega
      have : (List.range i).all B = true := List.all_eq_true.2 (fun j hj => h j (List.mem_range.1 hj))
      rw [this] at hall; cases hall
    | succ d ih =>
      intro i hi h
      cases hb : B i with
      | true => exact h1 i (by omega) h hb _ (ih (i + 1) (by omega) (fun j hj => by
          by_cases e : j = i
          · rw [e]; exact hb
          · exact h j (by omega)))
      | false => exact h2 i (by omega) h hb
  exact key n 0 (by omega) (fun j hj => by omega)
theorem ev_allp {ρ : Type} (g : Nat → Nat → Option ρ) (n : Nat) (B : Nat → Bool) (no yes : ρ)
    (h1 : ∀ i, i < n → (∀ j, j < i → B j = true) → B i = true → ∀ r, Ev (fun k => g k (i + 1)) r → Ev (fun k => g k i) r)
    (h2 : ∀ i, i < n → (∀ j, j < i → B j = true) → B i = false → Ev (fun k => g k i) no)
    (h3 : (∀ j, j < n → B j = true) → Ev (fun k => g k n) yes) : Ev (fun k => g k 0) (if (List.range n).all B = true then yes else no) := by
  cases hall : (List.range n).all B with
  | true =>
    rw [if_pos rfl]
    exact ev_yesp g n B yes h1 hall (h3 (fun j hj => List.all_eq_true.1 hall j (List.mem_range.2 hj)))
  | false =>
    rw [if_neg (by simp)]
    exact ev_nop g n B no h1 h2 hall
theorem range_all {α : Type} (xs : List α) (d : α) (P : α → Bool) : (List.range xs.length).all (fun i => P (xs.getD i d)) = xs.all P := by
  rw [Bool.eq_iff_iff, List.all_eq_true, List.all_eq_true]
  constructor
  · intro h x hx
    obtain ⟨i, hi, rfl⟩ := List.getElem_of_mem hx
    have := h i (List.mem_range.2 hi)
    simpa [List.getD_eq_getElem?_getD, List.getElem?_eq_getElem hi] using this
  · intro h i hi
    have hi := List.mem_range.1 hi
    have := h _ (List.getElem_mem hi)
    simpa [List.getD_eq_getElem?_getD, List.getElem?_eq_getElem hi] using this
/-- A loop that stores at each index. -/
theorem ev_copy {α ρ : Type} (g : Nat → List α → Nat → Option ρ) (n : Nat) (f : Nat → α) (fin : List α → ρ)
    (h1 : ∀ i acc, i < n → acc.length = n → ∀ r, Ev (fun k => g k (acc.set i (f i)) (i + 1)) r → Ev (fun k => g k acc i) r)
    (h3 : ∀ acc, acc.length = n → Ev (fun k => g k acc n) (fin acc)) : ∀ d i acc, i + d = n → acc.length = n → Ev (fun k => g k acc i) (fin (acc.take i ++ (List.range' i d).map f)) := by
  intro d
  induction d with
  | zero =>
    intro i acc hi hl
    obtain rfl : i = n := by omega
    simpa [← hl] using h3 acc hl
  | succ d ih =>
    intro i acc hi hl
    have h := ih (i + 1) (acc.set i (f i)) (by omega) (by simpa using hl)
    have e : (acc.set i (f i)).take (i + 1) ++ (List.range' (i + 1) d).map f = acc.take i ++ (List.range' i (d + 1)).map f := by
      rw [List.range'_succ, List.map_cons, List.take_succ_eq_append_getElem (by simp; omega), List.getElem_set_self, List.append_assoc]
      congr 1
      exact List.take_set_of_le (Nat.le_refl _)
    rw [e] at h
    exact h1 i acc (by omega) hl _ h
theorem ev_copy0 {α ρ : Type} (g : Nat → List α → Nat → Option ρ) (n : Nat) (f : Nat → α) (fin : List α → ρ)
    (h1 : ∀ i acc, i < n → acc.length = n → ∀ r, Ev (fun k => g k (acc.set i (f i)) (i + 1)) r → Ev (fun k => g k acc i) r)
    (h3 : ∀ acc, acc.length = n → Ev (fun k => g k acc n) (fin acc)) (acc : List α) (hl : acc.length = n) : Ev (fun k => g k acc 0) (fin ((List.range n).map f)) := by
  rw [List.range_eq_range']
  simpa using ev_copy g n f fin h1 h3 n 0 acc (by omega) hl
/-- A loop that carries a state. -/
theorem ev_fold {σ ρ : Type} (g : Nat → σ → Nat → Option ρ) (n : Nat) (f : σ → Nat → σ) (fin : σ → ρ) (Inv : Nat → σ → Prop)
    (h1 : ∀ i s, i < n → Inv i s → Inv (i + 1) (f s i) ∧ ∀ r, Ev (fun k => g k (f s i) (i + 1)) r → Ev (fun k => g k s i) r)
    (h3 : ∀ s, Inv n s → Ev (fun k => g k s n) (fin s)) (s : σ) (h0 : Inv 0 s) : Ev (fun k => g k s 0) (fin ((List.range n).foldl f s)) ∧ Inv n ((List.range n).foldl f s) := by
  have key : ∀ d i s, i + d = n → Inv i s → Ev (fun k => g k s i) (fin ((List.range' i d).foldl f s)) ∧ Inv n ((List.range' i d).foldl f s) := by
    intro d
    induction d with
    | zero =>
      intro i s hi hs
      obtain rfl : i = n := by omega
      simpa using ⟨h3 s hs, hs⟩
    | succ d ih =>
      intro i s hi hs
      obtain ⟨h4, h5⟩ := h1 i s (by omega) hs
      obtain ⟨h6, h7⟩ := ih (i + 1) (f s i) (by omega) h4
      rw [List.range'_succ, List.foldl_cons]
      exact ⟨h5 _ h6, h7⟩
  rw [List.range_eq_range']
  exact key n 0 s (by omega) h0
theorem range_map_getD {α : Type} (xs : List α) (d : α) : (List.range xs.length).map (fun i => xs.getD i d) = xs := by
  apply List.ext_getElem
  · simp
  · intro i h1 h2
    simp at h1
    simp [List.getD_eq_getElem?_getD, List.getElem?_eq_getElem h1]
theorem foldl_getD {α σ : Type} (f : σ → α → σ) (l : List α) (d : α) (s : σ) : (List.range l.length).foldl (fun s i => f s (l.getD i d)) s = l.foldl f s := by
  have := range_map_getD l d
  conv => rhs; rw [← this]
  rw [List.foldl_map]
theorem toNat_cast (i : Nat) : (i : Int).toNat = i := by omega
theorem wrap_succ {i : Nat} (h : i < 9223372036854775807) : wrap64 ((i : Int) + 1) = ((i + 1 : Nat) : Int) := by unfold wrap64; omega
theorem in_dec (a b c : Int) : (if a ≥ b then (some (decide (a ≤ c))) else (some false)) = some (decide (b ≤ a ∧ a ≤ c)) := by
  by_cases h : a ≥ b
  · rw [if_pos h]; congr 1; by_cases h2 : a ≤ c
    · rw [decide_eq_true h2, decide_eq_true ⟨h, h2⟩]
    · rw [decide_eq_false h2, decide_eq_false (fun x => h2 x.2)]
  · rw [if_neg h, decide_eq_false (fun x => h x.1)]
/-- What a count tells, where it does not refuse. -/
theorem ev_sz (g : Nat → Int → Nat → Option Int) (n : Nat) (sz : Nat → Nat)
    (h1 : ∀ i b, i < n → 0 ≤ b → b ≤ 1048576 → (sz i : Int) ≤ b → ∀ r, Ev (fun k => g k (b - sz i) (i + 1)) r → Ev (fun k => g k b i) r)
    (h2 : ∀ i b, i < n → 0 ≤ b → b ≤ 1048576 → ¬ (sz i : Int) ≤ b → Ev (fun k => g k b i) (-1)) (h3 : ∀ b, Ev (fun k => g k b n) b) (b : Int) (hb0 : 0 ≤ b) (hb1 : b ≤ 1048576) :
    ∃ r, Ev (fun k => g k b 0) r ∧ (0 ≤ r → (((List.range n).map sz).sum : Nat) + r ≤ b) := by
  have key : ∀ d i b, i + d = n → 0 ≤ b → b ≤ 1048576 → ∃ r, Ev (fun k => g k b i) r ∧ (0 ≤ r → (((List.range' i d).map sz).sum : Nat) + r ≤ b) := by
    intro d
    induction d with
    | zero =>
      intro i b hi _ _
      obtain rfl : i = n := by omega
      exact ⟨b, h3 b, fun _ => by simp⟩
    | succ d ih =>
      intro i b hi h0 hb
      by_cases hs : (sz i : Int) ≤ b
      · obtain ⟨r, hr, hq⟩ := ih (i + 1) (b - sz i) (by omega) (by omega) (by omega)
        refine ⟨r, h1 i b (by omega) h0 hb hs r hr, fun h => ?_⟩
        have := hq h
        rw [List.range'_succ, List.map_cons, List.sum_cons]
        omega
      · exact ⟨-1, h2 i b (by omega) h0 hb hs, fun h => by omega⟩
  rw [List.range_eq_range']
  exact key n 0 b (by omega) hb0 hb1
theorem sum_ge {n : Nat} (sz : Nat → Nat) {i : Nat} (h : i < n) : sz i ≤ ((List.range n).map sz).sum := by
  have : ∀ (l : List Nat) (x : Nat), x ∈ l → x ≤ l.sum := by
    intro l
    induction l with
    | nil => intro x hx; cases hx
    | cons y l ih =>
      intro x hx
      rcases List.mem_cons.1 hx with rfl | hx
      · simp
      · have := ih x hx; simp; omega
  exact this _ _ (List.mem_map_of_mem (List.mem_range.2 h))
theorem sub_len {a : Int} {n : Nat} (ha : 0 ≤ a) (ha1 : a ≤ 1048576) (hn : n ≤ maxLen) : wrap64 (a - (n : Int)) = a - n := by unfold maxLen at hn; unfold wrap64; omega
end Go.Proofs.Ytdpejnckojhgjaa.Aid
end
section
namespace Go.Proofs.Ytdpejnckojhgjaa.Pure
open Go.RowKit Go.Proofs.Ytdpejnckojhgjaa.P Go.Proofs.YtdpejnckojhgjaaW.PrintWords Go.Proofs.YtdpejnckojhgjaaW.PrintLast Go.Proofs.YtdpejnckojhgjaaW.PrintMore Go.Proofs.Ytdpejnckojhgjaa.Aid
set_option linter.unusedVariables false
set_option linter.unusedSimpArgs false

theorem l01In_eq (a b c : Int) : spec_l01In.f a b c = some (decide (b ≤ a ∧ a ≤ c)) := in_dec a b c
theorem within_eq (a b c : Int) : impl_within.f a b c = some (decide (b ≤ a ∧ a ≤ c)) := in_dec a b c
theorem szIntS_eq (l : List Int) (hl : l.length ≤ maxLen) (a : Int) (h0 : 0 ≤ a) (h1 : a ≤ 1048576) : laws_szIntS.f l a = some (if (l.length : Int) ≤ a then a - l.length else -1) := by
  unfold maxLen at hl
  unfold laws_szIntS.f
  have e : wrap64 (a - (l.length : Int)) = a - l.length := by unfold wrap64; omega
  rw [e]
  by_cases h : (l.length : Int) ≤ a
  · rw [if_neg (by omega), if_pos h]
  · rw [if_pos (by omega), if_neg h]
theorem toIntS_ev (l : List Int) (hl : l.length ≤ 1048576) : Ev (fun k => laws_toIntS.f k l) l := by
  have key := ev_copy0 (fun k acc i => laws_toIntS.l0 k l acc (i : Int)) l.length (fun i => l.getD i 0) id (by
    intro i acc hi ha r h
    refine Ev.step (fun k => ?_) h
    simp only [laws_toIntS.l0]
    rw [if_pos (by omega), if_pos (by omega), if_pos (by omega), wrap_succ (by omega), toNat_cast]
    rfl) (by
    intro acc ha
    refine Ev.of_succ (fun k => ?_)
    simp only [laws_toIntS.l0]
    rw [if_neg (by omega)]
    rfl) (List.replicate l.length 0) (by simp)
  rw [range_map_getD] at key
  refine Ev.congr (fun k => ?_) key
  unfold laws_toIntS.f
  rw [if_pos (by omega), if_pos (by omega), toNat_cast]
  rfl
theorem eqIntS_refl (l : List Int) (hl : l.length ≤ 1048576) : Ev (fun k => laws_eqIntS.f k l l) true := by
  have key := ev_all0 (fun k i => laws_eqIntS.l0 k l l (i : Int)) l.length (fun _ => true) false true (by
    intro i hi _ r h
    refine Ev.step (fun k => ?_) h
    simp only [laws_eqIntS.l0]
    rw [if_pos (by omega), if_pos (by omega), if_pos (by omega), if_pos trivial, wrap_succ (by omega)]) (by intro i _ h; cases h) (by
    refine Ev.of_succ (fun k => ?_)
    simp only [laws_eqIntS.l0]
    rw [if_neg (by omega)])
  rw [if_pos (by simp)] at key
  refine Ev.congr (fun k => ?_) key
  unfold laws_eqIntS.f
  rw [if_pos rfl]
  rfl
def upInt (a : Int) (n : Nat) : List Int := (List.range n).map (fun j : Nat => a + (j : Int))
theorem upInt_len (a : Int) (n : Nat) : (upInt a n).length = n := by simp [upInt]
theorem upInt_getD (a : Int) (n i : Nat) (h : i < n) : (upInt a n).getD i 0 = a + i := by simp [upInt, List.getD_eq_getElem?_getD, h]
theorem markIntS_ev (l : List Int) (hl : l.length ≤ 1048576) (a : Int) (h0 : 0 ≤ a) (h1 : a ≤ 1000000000) : Ev (fun k => laws_markIntS.f k l a) (a + l.length, upInt a l.length) := by
  have key := ev_copy0 (fun k acc i => laws_markIntS.l0 k acc (a + (i : Int)) (i : Int)) l.length (fun i => a + (i : Int)) (fun acc => (a + (l.length : Int), acc)) (by
    intro i acc hi ha r h
    refine Ev.step (fun k => ?_) h
    simp only [laws_markIntS.l0]
    rw [if_pos (by omega), if_pos (by omega), wrap_succ (by omega), toNat_cast, wrap64_id (n := a + (i : Int) + 1) (by omega) (by omega), show a + (i : Int) + 1 = a + ((i + 1 : Nat) : Int) by omega]) (by
    intro acc ha
    refine Ev.of_succ (fun k => ?_)
    simp only [laws_markIntS.l0]
    rw [if_neg (by omega)]) l rfl
  simp only [show ((0 : Nat) : Int) = 0 from rfl, Int.add_zero] at key
  exact key
theorem heldIntS_ev (n : Nat) (hn : n ≤ 1048576) (a : Int) (h0 : 0 ≤ a) (h1 : a ≤ 1000000000) : Ev (fun k => laws_heldIntS.f k (upInt a n) a) (a + n) := by
  have key := ev_yes (fun k i => laws_heldIntS.l0 k (upInt a n) (a + (i : Int)) (i : Int)) n (fun _ => true) (a + (n : Int)) (by
    intro i hi _ r h
    refine Ev.step (fun k => ?_) h
    simp only [laws_heldIntS.l0]
    rw [upInt_len, if_pos (by omega), if_pos (by omega), if_pos (by unfold rd; rw [toNat_cast, upInt_getD _ _ _ hi]), wrap_succ (by omega), wrap64_id (n := a + (i : Int) + 1) (by omega) (by omega), show a + (i : Int) + 1 = a + ((i + 1 : Nat) : Int) by omega]) (by simp) (by
    refine Ev.of_succ (fun k => ?_)
    simp only [laws_heldIntS.l0]
    rw [upInt_len, if_neg (by omega)])
  simp only [show ((0 : Nat) : Int) = 0 from rfl, Int.add_zero] at key
  exact key
theorem getD_mid {α : Type} (pre : List α) (x : α) (rest : List α) (d : α) : (pre ++ x :: rest).getD pre.length d = x := by
  simp [List.getD_eq_getElem?_getD]
theorem set_mid {α : Type} (pre : List α) (x y : α) (rest : List α) : (pre ++ x :: rest).set pre.length y = (pre ++ [y]) ++ rest := by
  rw [List.set_append_right _ _ (Nat.le_refl _)]
  simp
theorem take_getD {α : Type} (l : List α) (d : α) {i : Nat} (h : i < l.length) : l.take i ++ [l.getD i d] = l.take (i + 1) := by
  rw [List.take_succ_eq_append_getElem h]
  simp [List.getD_eq_getElem?_getD, List.getElem?_eq_getElem h]
theorem map_getD {α β : Type} (f : α → β) (l : List α) (d : α) : (List.range l.length).map (fun i => f (l.getD i d)) = l.map f := by
  rw [show (fun i => f (l.getD i d)) = f ∘ (fun i => l.getD i d) from rfl, ← List.map_map, range_map_getD]
abbrev SlotW := S62
abbrev SlotL := S113
abbrev zsl : SlotL := z113
abbrev zsw : SlotW := z62
def toSlot (r : SlotL) : SlotW := ⟨r.f0, r.f1⟩
theorem rdSL (l : List SlotL) (i : Nat) : rd_T113 l (i : Int) = l.getD i zsl := by unfold rd_T113; rw [toNat_cast]
theorem rdSW (l : List SlotW) (i : Nat) : rd_T62 l (i : Int) = l.getD i zsw := by unfold rd_T62; rw [toNat_cast]
theorem szSlot_eq (s : SlotL) (hl : s.f1.length ≤ maxLen) (a : Int) (h0 : 0 ≤ a) (h1 : a ≤ 1048576) : laws_szSlot.f s.f0 s.f1 a = some (if (s.f1.length : Int) ≤ a then (a - (s.f1.length : Int) : Int) else (-1 : Int)) := by
  unfold laws_szSlot.f
  rw [szIntS_eq _ hl a h0 h1]
  simp only [Option.bind_some]
  by_cases h : (s.f1.length : Int) ≤ a
  · rw [if_pos h, if_neg (by omega)]
  · rw [if_neg h, if_pos (by omega)]
theorem mem_getD {α : Type} {l : List α} {i : Nat} (h : i < l.length) (d : α) : l.getD i d ∈ l := by
  rw [List.getD_eq_getElem?_getD, List.getElem?_eq_getElem h]; exact List.getElem_mem h
def SmallS (l : List SlotL) : Prop := l.length ≤ 1048576 ∧ ∀ x ∈ l, x.f1.length ≤ 1048576
theorem szSlotS_ev (l : List SlotL) (hl : l.length ≤ maxLen) (hls : ∀ x ∈ l, x.f1.length ≤ maxLen) :
    ∃ r, Ev (fun k => laws_szSlotS.f k l 1048576) r ∧ (0 ≤ r → SmallS l ∧ (l.length : Int) + ((l.map (fun s => s.f1.length)).sum : Nat) ≤ 1048576) := by
  by_cases hlen : (l.length : Int) ≤ 1048576
  · obtain ⟨r, hr, hq⟩ := ev_sz (fun k b i => laws_szSlotS.l0 k l b (i : Int)) l.length (fun i => (l.getD i zsl).f1.length) (by
      intro i b hi h0 h1 hs r h
      refine Ev.step (fun k => ?_) h
      simp only [laws_szSlotS.l0]
      rw [if_pos (by omega), if_pos (by omega), rdSL, szSlot_eq _ (hls _ (mem_getD hi _)) b h0 h1, if_pos hs]
      simp only [Option.bind_some]
      rw [if_neg (by omega), wrap_succ (by simp only [maxLen] at hl; omega)]) (by
      intro i b hi h0 h1 hs
      refine Ev.of_succ (fun k => ?_)
      simp only [laws_szSlotS.l0]
      rw [if_pos (by omega), if_pos (by omega), rdSL, szSlot_eq _ (hls _ (mem_getD hi _)) b h0 h1, if_neg hs]
      simp only [Option.bind_some]
      rw [if_pos (by omega)]) (by
      intro b
      refine Ev.of_succ (fun k => ?_)
      simp only [laws_szSlotS.l0]
      rw [if_neg (by omega)]) (1048576 - (l.length : Int)) (by omega) (by omega)
    refine ⟨r, Ev.congr (fun k => ?_) hr, fun h => ?_⟩
    · unfold laws_szSlotS.f
      rw [sub_len (by omega) (by omega) hl, if_neg (by omega)]
      rfl
    · have := hq h
      refine ⟨⟨by omega, fun x hx => ?_⟩, ?_⟩
      · obtain ⟨i, hi, rfl⟩ := List.getElem_of_mem hx
        have h5 := sum_ge (fun i => (l.getD i zsl).f1.length) hi
        simp only [List.getD_eq_getElem?_getD, List.getElem?_eq_getElem hi, Option.getD_some] at h5
        simp only [List.getD_eq_getElem?_getD] at this
        omega
      · rw [map_getD (fun s : SlotL => s.f1.length) l zsl] at this
        omega
  · refine ⟨-1, Ev.const (fun k => ?_), fun h => by omega⟩
    unfold laws_szSlotS.f
    rw [sub_len (by omega) (by omega) hl, if_pos (by omega)]
theorem SmallS.at_ {l : List SlotL} (h : SmallS l) (i : Nat) : (l.getD i zsl).f1.length ≤ 1048576 := by
  by_cases hi : i < l.length
  · exact h.2 _ (mem_getD hi _)
  · rw [List.getD_eq_getElem?_getD, List.getElem?_eq_none (by omega)]; decide
theorem toSlotS_ev (l : List SlotL) (hl : SmallS l) : Ev (fun k => laws_toSlotS.f k l) (l.map toSlot) := by
  have h1 := hl.1
  have key := ev_copy0 (fun k acc i => laws_toSlotS.l0 k l acc (i : Int)) l.length (fun i => toSlot (l.getD i zsl)) id (by
    intro i acc hi ha r h
    refine Ev.step (f := fun k => (laws_toIntS.f k (l.getD i zsl).f1).bind fun t => laws_toSlotS.l0 k l (acc.set i (⟨(l.getD i zsl).f0, t⟩ : SlotW)) ((i + 1 : Nat) : Int)) (fun k => ?_) (Ev.bind (toIntS_ev _ (hl.at_ i)) h)
    simp only [laws_toSlotS.l0]
    rw [if_pos (by omega), if_pos (by omega), rdSL]
    unfold laws_toSlot.f
    rw [Option.bind_assoc]
    congr 1
    funext t
    simp only [Option.bind_some]
    rw [if_pos (by omega), wrap_succ (by omega), toNat_cast]) (by
    intro acc ha
    refine Ev.of_succ (fun k => ?_)
    simp only [laws_toSlotS.l0]
    rw [if_neg (by omega)]
    rfl) (List.replicate l.length zsw) (by simp)
  rw [map_getD toSlot l zsl] at key
  refine Ev.congr (fun k => ?_) key
  unfold laws_toSlotS.f
  rw [if_pos (by omega), if_pos (by omega), toNat_cast]
  rfl
def SmallW (l : List SlotW) : Prop := l.length ≤ 1048576 ∧ ∀ x ∈ l, x.f1.length ≤ 1048576
theorem SmallS.toW {l : List SlotL} (h : SmallS l) : SmallW (l.map toSlot) := by
  refine ⟨by simpa using h.1, fun x hx => ?_⟩
  obtain ⟨y, hy, rfl⟩ := List.mem_map.1 hx
  exact h.2 y hy
theorem SmallW.at_ {l : List SlotW} (h : SmallW l) (i : Nat) : (l.getD i zsw).f1.length ≤ 1048576 := by
  by_cases hi : i < l.length
  · exact h.2 _ (mem_getD hi _)
  · rw [List.getD_eq_getElem?_getD, List.getElem?_eq_none (by omega)]; decide
theorem eqSlotS_refl (l : List SlotW) (hl : SmallW l) : Ev (fun k => laws_eqSlotS.f k l l) true := by
  have h1 := hl.1
  have key := ev_all0 (fun k i => laws_eqSlotS.l0 k l l (i : Int)) l.length (fun _ => true) false true (by
    intro i hi _ r h
    refine Ev.step (f := fun k => (laws_eqIntS.f k (l.getD i zsw).f1 (l.getD i zsw).f1).bind fun t => (if t = true then (some true) else (some false)).bind fun t => if t = true then laws_eqSlotS.l0 k l l ((i + 1 : Nat) : Int) else some false) (fun k => ?_) (Ev.bind (eqIntS_refl _ (hl.at_ i)) (by simp only [if_true, Option.bind_some]; exact h))
    simp only [laws_eqSlotS.l0]
    rw [if_pos (by omega), if_pos (by omega), if_pos (by omega), rdSW]
    unfold laws_eqSlot.f
    rw [if_pos rfl, Option.bind_assoc, wrap_succ (by omega)]) (by intro i _ h; cases h) (by
    refine Ev.of_succ (fun k => ?_)
    simp only [laws_eqSlotS.l0]
    rw [if_neg (by omega)])
  rw [if_pos (by simp)] at key
  refine Ev.congr (fun k => ?_) key
  unfold laws_eqSlotS.f
  rw [if_pos rfl]
  rfl
def wordB (x : Int) : Bool := decide (0 ≤ x ∧ x ≤ 100000)
def rowB (r : List Int) : Bool := r.all wordB && decide (r.length = 4)
theorem wordsOk_ev (r : List Int) (hr : r.length ≤ 1048576) : Ev (fun k => impl_wordsOk.f k r) (rowB r) := by
  have key := ev_all0 (fun k i => impl_wordsOk.l0 k r r (r.length : Int) (i : Int)) r.length (fun i => wordB (r.getD i 0)) false (decide (r.length = 4)) (by
    intro i hi hb q h
    refine Ev.step (fun k => ?_) h
    simp only [impl_wordsOk.l0]
    rw [if_pos (by omega), if_pos (by omega), if_pos (by omega), within_eq]
    simp only [Option.bind_some]
    rw [if_pos (by unfold rd; rw [toNat_cast]; exact hb), wrap_succ (by omega)]) (by
    intro i hi hb
    refine Ev.of_succ (fun k => ?_)
    simp only [impl_wordsOk.l0]
    rw [if_pos (by omega), if_pos (by omega), if_pos (by omega), within_eq]
    simp only [Option.bind_some]
    rw [if_neg (by unfold rd; rw [toNat_cast]; unfold wordB at hb; rw [hb]; simp)]) (by
    refine Ev.of_succ (fun k => ?_)
    simp only [impl_wordsOk.l0]
    rw [if_neg (by omega)]
    congr 1
    by_cases h : r.length = 4
    · rw [decide_eq_true h, h]; rfl
    · rw [decide_eq_false h]; simp; omega)
  rw [range_all r 0 wordB] at key
  have e : (if r.all wordB = true then decide (r.length = 4) else false) = rowB r := by
    unfold rowB; cases r.all wordB <;> simp
  rw [e] at key
  exact key
theorem l07Words_ev (r : List Int) (hr : r.length ≤ 1048576) : Ev (fun k => spec_l07Words.f k r) (rowB r) := by
  by_cases h4 : r.length = 4
  · have key := ev_all0 (fun k i => spec_l07Words.l0 k r (i : Int)) r.length (fun i => wordB (r.getD i 0)) false true (by
      intro i hi hb q h
      refine Ev.step (fun k => ?_) h
      simp only [spec_l07Words.l0]
      rw [if_pos (by omega), if_pos (by omega), l01In_eq]
      simp only [Option.bind_some]
      rw [if_pos (by unfold rd; rw [toNat_cast]; exact hb), wrap_succ (by omega)]) (by
      intro i hi hb
      refine Ev.of_succ (fun k => ?_)
      simp only [spec_l07Words.l0]
      rw [if_pos (by omega), if_pos (by omega), l01In_eq]
      simp only [Option.bind_some]
      rw [if_neg (by unfold rd; rw [toNat_cast]; unfold wordB at hb; rw [hb]; simp)]) (by
      refine Ev.of_succ (fun k => ?_)
      simp only [spec_l07Words.l0]
      rw [if_neg (by omega)])
    rw [range_all r 0 wordB] at key
    have e : (if r.all wordB = true then true else false) = rowB r := by
      unfold rowB; rw [decide_eq_true h4]; cases r.all wordB <;> simp
    rw [e] at key
    refine Ev.congr (fun k => ?_) key
    unfold spec_l07Words.f
    rw [if_pos (by omega)]
    rfl
  · have e : rowB r = false := by unfold rowB; rw [decide_eq_false h4, Bool.and_false]
    rw [e]
    refine Ev.const (fun k => ?_)
    unfold spec_l07Words.f
    rw [if_neg (by omega)]
def slotB (s : SlotW) : Bool := if s.f0 = 0 then decide (s.f1.length = 0) else decide (1 ≤ s.f0 ∧ s.f0 ≤ 64) && rowB s.f1
def slotsB (l : List SlotW) : Bool := l.all slotB && decide (l.length ≤ 16)
theorem slotOk_ev (c : Int) (r : List Int) (hr : r.length ≤ 1048576) : Ev (fun k => impl_slotOk.f k c r) (slotB ⟨c, r⟩) := by
  unfold impl_slotOk.f slotB
  by_cases hc : c = 0
  · simp only [if_pos hc]
    have e : ((r.length : Int) == 0) = decide (r.length = 0) := by
      rw [Bool.eq_iff_iff]; simp
    rw [e]; exact Ev.now _
  · simp only [if_neg hc, within_eq, Option.bind_some]
    by_cases h : 1 ≤ c ∧ c ≤ 64
    · simp only [decide_eq_true h, if_true, Bool.true_and]
      exact Ev.bind (wordsOk_ev r hr) (Ev.now _)
    · simp only [decide_eq_false h, Bool.false_eq_true, if_false, Bool.false_and]; exact Ev.now _
theorem impl_SlotsOk_ev (l : List SlotW) (hl : SmallW l) : Ev (fun k => impl_SlotsOk.f k l) (slotsB l) := by
  have h1 := hl.1
  have key := ev_all0 (fun k i => impl_SlotsOk.l0 k l l (l.length : Int) (i : Int)) l.length (fun i => slotB (l.getD i zsw)) false (decide (l.length ≤ 16)) (by
    intro i hi hb q h
    refine Ev.step (f := fun k => (impl_slotOk.f k (l.getD i zsw).f0 (l.getD i zsw).f1).bind fun t => if t = true then impl_SlotsOk.l0 k l l (l.length : Int) ((i + 1 : Nat) : Int) else some false) (fun k => ?_) (Ev.bind (slotOk_ev _ _ (hl.at_ i)) (by simp only [show slotB ⟨(l.getD i zsw).f0, (l.getD i zsw).f1⟩ = true from hb, if_true]; exact h))
    simp only [impl_SlotsOk.l0]
    rw [if_pos (by omega), if_pos (by omega), if_pos (by omega), rdSW, wrap_succ (by omega)]) (by
    intro i hi hb
    refine Ev.step (f := fun k => (impl_slotOk.f k (l.getD i zsw).f0 (l.getD i zsw).f1).bind fun t => if t = true then impl_SlotsOk.l0 k l l (l.length : Int) ((i + 1 : Nat) : Int) else some false) (fun k => ?_) (Ev.bind (slotOk_ev _ _ (hl.at_ i)) (by simp only [show slotB ⟨(l.getD i zsw).f0, (l.getD i zsw).f1⟩ = false from hb, Bool.false_eq_true, if_false]; exact Ev.now _))
    simp only [impl_SlotsOk.l0]
    rw [if_pos (by omega), if_pos (by omega), if_pos (by omega), rdSW, wrap_succ (by omega)]) (by
    refine Ev.of_succ (fun k => ?_)
    simp only [impl_SlotsOk.l0]
    rw [if_neg (by omega)]
    congr 1
    by_cases h : l.length ≤ 16
    · rw [decide_eq_true h, decide_eq_true (by omega)]
    · rw [decide_eq_false h, decide_eq_false (by omega)])
  rw [range_all l zsw slotB] at key
  have e : (if l.all slotB = true then decide (l.length ≤ 16) else false) = slotsB l := by
    unfold slotsB; cases l.all slotB <;> simp
  rw [e] at key
  exact key
theorem spec_SlotsOk_ev (l : List SlotW) (hl : SmallW l) : Ev (fun k => spec_SlotsOk.f k l) (slotsB l) := by
  have h1 := hl.1
  by_cases h16 : (l.length : Int) > 16
  · have e : slotsB l = false := by unfold slotsB; rw [decide_eq_false (show ¬ l.length ≤ 16 by omega), Bool.and_false]
    rw [e]
    refine Ev.const (fun k => ?_)
    unfold spec_SlotsOk.f
    rw [if_pos h16]
  · have step : ∀ i, i < l.length → ∀ r, (slotB (l.getD i zsw) = true → Ev (fun k => spec_SlotsOk.l0 k l ((i + 1 : Nat) : Int)) r) → (slotB (l.getD i zsw) = false → r = false) → Ev (fun k => spec_SlotsOk.l0 k l (i : Int)) r := by
      intro i hi r hy hn
      have hw := l07Words_ev (l.getD i zsw).f1 (hl.at_ i)
      generalize hs : l.getD i zsw = s at *
      refine Ev.step (f := fun k => if decide (0 ≤ s.f0 ∧ s.f0 ≤ 64) = true then (if s.f0 = 0 then (if (s.f1.length : Int) > 0 then some false else (if s.f0 > 0 then (spec_l07Words.f k s.f1).bind fun t => if t = true then spec_SlotsOk.l0 k l ((i + 1 : Nat) : Int) else some false else spec_SlotsOk.l0 k l ((i + 1 : Nat) : Int))) else (if s.f0 > 0 then (spec_l07Words.f k s.f1).bind fun t => if t = true then spec_SlotsOk.l0 k l ((i + 1 : Nat) : Int) else some false else spec_SlotsOk.l0 k l ((i + 1 : Nat) : Int))) else some false) (fun k => ?_) ?_
      · simp only [spec_SlotsOk.l0]
        rw [if_pos (by omega), if_pos (by omega), rdSW, hs, l01In_eq, wrap_succ (by omega)]
        rfl
      · unfold slotB at hy hn
        by_cases h64 : 0 ≤ s.f0 ∧ s.f0 ≤ 64
        · simp only [decide_eq_true h64, if_true]
          by_cases h0 : s.f0 = 0
          · simp only [if_pos h0] at hy hn ⊢
            by_cases hl0 : s.f1.length = 0
            · simp only [if_neg (show ¬ (s.f1.length : Int) > 0 by omega), if_neg (show ¬ s.f0 > 0 by omega)]
              exact hy (by simpa using hl0)
            · simp only [if_pos (show (s.f1.length : Int) > 0 by omega)]
              rw [hn (by simpa using hl0)]; exact Ev.now _
          · simp only [if_neg h0] at hy hn ⊢
            simp only [if_pos (show s.f0 > 0 by omega)]
            rw [decide_eq_true (show 1 ≤ s.f0 ∧ s.f0 ≤ 64 by omega), Bool.true_and] at hy hn
            refine Ev.bind hw ?_
            cases hb : rowB s.f1 with
            | true => simp only [if_true]; exact hy hb
            | false => simp only [Bool.false_eq_true, if_false]; rw [hn hb]; exact Ev.now _
        · simp only [decide_eq_false h64, Bool.false_eq_true, if_false]
          have : r = false := hn (by rw [if_neg (by omega), decide_eq_false (by omega), Bool.false_and])
          rw [this]; exact Ev.now _
    have key := ev_all0 (fun k i => spec_SlotsOk.l0 k l (i : Int)) l.length (fun i => slotB (l.getD i zsw)) false true (by
      intro i hi hb q h
      exact step i hi q (fun _ => h) (fun hf => by rw [show slotB (l.getD i zsw) = true from hb] at hf; cases hf)) (by
      intro i hi hb
      exact step i hi false (fun hf => by rw [show slotB (l.getD i zsw) = false from hb] at hf; cases hf) (fun _ => rfl)) (by
      refine Ev.of_succ (fun k => ?_)
      simp only [spec_SlotsOk.l0]
      rw [if_neg (by omega)])
    rw [range_all l zsw slotB] at key
    have e : (if l.all slotB = true then true else false) = slotsB l := by
      unfold slotsB; rw [decide_eq_true (show l.length ≤ 16 by omega)]; cases l.all slotB <;> simp
    rw [e] at key
    refine Ev.congr (fun k => ?_) key
    unfold spec_SlotsOk.f
    rw [if_neg h16]
    rfl
/-- What is marked, slot by slot. -/
def markSl : Int → List SlotW → List SlotW
  | _, [] => []
  | a, x :: xs => ⟨a, upInt (a + 1) x.f1.length⟩ :: markSl (a + 1 + x.f1.length) xs
def totSl (l : List SlotW) : Nat := (l.map (fun s : SlotW => s.f1.length + 1)).sum
theorem totSl_cons (x : SlotW) (l : List SlotW) : totSl (x :: l) = x.f1.length + 1 + totSl l := by simp [totSl]
theorem markSl_len (a : Int) (l : List SlotW) : (markSl a l).length = l.length := by
  induction l generalizing a with
  | nil => rfl
  | cons x l ih => simp [markSl, ih]
theorem markSl_loop : ∀ (rest pre : List SlotW) (b : Int), (∀ x ∈ rest, x.f1.length ≤ 1048576) → pre.length + rest.length ≤ 1048576 → 0 ≤ b → b + totSl rest ≤ 1000000000 →
    Ev (fun k => laws_markSlotS.l0 k (pre ++ rest) b (pre.length : Int)) (b + totSl rest, pre ++ markSl b rest) := by
  intro rest
  induction rest with
  | nil =>
    intro pre b _ hl h0 h1
    refine Ev.of_succ (fun k => ?_)
    simp only [laws_markSlotS.l0]
    rw [if_neg (by simp)]
    simp [totSl, markSl]
  | cons x rest ih =>
    intro pre b hx hl h0 h1
    rw [totSl_cons] at h1 ⊢
    simp only [List.length_cons] at hl
    have hxl := hx x List.mem_cons_self
    have hm := markIntS_ev x.f1 hxl (b + 1) (by omega) (by omega)
    have hi := ih (pre ++ [⟨b, upInt (b + 1) x.f1.length⟩]) (b + 1 + x.f1.length) (fun y hy => hx y (List.mem_cons_of_mem _ hy)) (by simp only [List.length_append, List.length_cons, List.length_nil]; omega) (by omega) (by omega)
    rw [show b + 1 + (x.f1.length : Int) + (totSl rest : Nat) = b + ((x.f1.length + 1 + totSl rest : Nat) : Int) by omega] at hi
    rw [show pre ++ markSl b (x :: rest) = (pre ++ [⟨b, upInt (b + 1) x.f1.length⟩]) ++ markSl (b + 1 + x.f1.length) rest by simp [markSl]]
    refine Ev.step (f := fun k => (laws_markIntS.f k x.f1 (b + 1)).bind fun t => laws_markSlotS.l0 k ((pre ++ [(⟨b, t.2⟩ : SlotW)]) ++ rest) t.1 ((pre.length + 1 : Nat) : Int)) (fun k => ?_) (Ev.bind hm ?_)
    · simp only [laws_markSlotS.l0]
      rw [if_pos (by simp only [List.length_append, List.length_cons]; omega), if_pos (by omega), toNat_cast, getD_mid, wrap_succ (by omega), wrap64_id (n := b + 1) (by omega) (by omega)]
      simp only [set_mid]
    · simp only [List.length_append, List.length_cons, List.length_nil] at hi
      exact hi
theorem markSlotS_ev (l : List SlotW) (hl : SmallW l) (a : Int) (h0 : 0 ≤ a) (h1 : a + totSl l ≤ 1000000000) : Ev (fun k => laws_markSlotS.f k l a) (a + totSl l, markSl a l) := by
  have := markSl_loop l [] a hl.2 (by simpa using hl.1) h0 h1
  exact this
theorem heldSl_loop : ∀ (rest pre : List SlotW) (b : Int), (∀ x ∈ rest, x.f1.length ≤ 1048576) → pre.length + rest.length ≤ 1048576 → 0 ≤ b → b + totSl rest ≤ 1000000000 →
    Ev (fun k => laws_heldSlotS.l0 k (pre ++ markSl b rest) b (pre.length : Int)) (b + totSl rest) := by
  intro rest
  induction rest with
  | nil =>
    intro pre b _ hl h0 h1
    refine Ev.of_succ (fun k => ?_)
    simp only [laws_heldSlotS.l0]
    rw [if_neg (by simp [markSl])]
    simp [totSl]
  | cons x rest ih =>
    intro pre b hx hl h0 h1
    rw [totSl_cons] at h1 ⊢
    simp only [List.length_cons] at hl
    have hxl := hx x List.mem_cons_self
    have hm := heldIntS_ev x.f1.length hxl (b + 1) (by omega) (by omega)
    have hi := ih (pre ++ [⟨b, upInt (b + 1) x.f1.length⟩]) (b + 1 + x.f1.length) (fun y hy => hx y (List.mem_cons_of_mem _ hy)) (by simp only [List.length_append, List.length_cons, List.length_nil]; omega) (by omega) (by omega)
    rw [show b + 1 + (x.f1.length : Int) + (totSl rest : Nat) = b + ((x.f1.length + 1 + totSl rest : Nat) : Int) by omega] at hi
    have hml := markSl_len (b + 1 + x.f1.length) rest
    refine Ev.step (f := fun k => (laws_heldIntS.f k (upInt (b + 1) x.f1.length) (b + 1)).bind fun t307 => (if t307 < 0 then (some (-1)) else (laws_heldSlotS.l0 k (pre ++ markSl b (x :: rest)) t307 ((pre.length + 1 : Nat) : Int)))) (fun k => ?_) (Ev.bind hm ?_)
    · simp only [laws_heldSlotS.l0]
      rw [if_pos (by simp only [List.length_append, markSl, List.length_cons]; omega), if_pos (by omega), rdSW, wrap_succ (by omega), wrap64_id (n := b + 1) (by omega) (by omega)]
      simp only [markSl, getD_mid, if_true]
    · simp only [if_neg (show ¬ b + 1 + (x.f1.length : Int) < 0 by omega)]
      rw [show pre ++ markSl b (x :: rest) = (pre ++ [⟨b, upInt (b + 1) x.f1.length⟩]) ++ markSl (b + 1 + x.f1.length) rest by simp [markSl]]
      simp only [List.length_append, List.length_cons, List.length_nil] at hi
      exact hi
theorem heldSlotS_ev (l : List SlotW) (hl : SmallW l) (a : Int) (h0 : 0 ≤ a) (h1 : a + totSl l ≤ 1000000000) : Ev (fun k => laws_heldSlotS.f k (markSl a l) a) (a + totSl l) := by
  have := heldSl_loop l [] a hl.2 (by simpa using hl.1) h0 h1
  exact this
theorem spec_l07Copy_ev (l : List SlotW) (hl : SmallW l) : Ev (fun k => spec_l07Copy.f k l) l := by
  have h1 := hl.1
  have key := ev_yes (fun k i => spec_l07Copy.l0 k l (l.take i) (i : Int)) l.length (fun _ => true) l (by
    intro i hi _ r h
    refine Ev.step (fun k => ?_) h
    have hr := hl.at_ i
    simp only [spec_l07Copy.l0]
    rw [if_pos (by omega), if_pos (by omega)]
    simp only [Option.bind_some, List.nil_append]
    rw [rdSW, if_pos (by simp only [List.length_nil]; omega), if_pos (by rw [List.length_take]; omega), take_getD l zsw hi, wrap_succ (by omega)]) (by simp) (by
    refine Ev.of_succ (fun k => ?_)
    simp only [spec_l07Copy.l0]
    rw [if_neg (by omega), List.take_length])
  exact key
theorem impl_copySlots_ev (l : List SlotW) (hl : SmallW l) : Ev (fun k => impl_copySlots.f k l) l := by
  have h1 := hl.1
  have key := ev_yes (fun k i => impl_copySlots.l0 k (l.take i) l (l.length : Int) (i : Int)) l.length (fun _ => true) l (by
    intro i hi _ r h
    refine Ev.step (fun k => ?_) h
    have hr := hl.at_ i
    simp only [impl_copySlots.l0]
    rw [if_pos (by omega), if_pos (by omega), if_pos (by omega), rdSW]
    unfold impl_copyInts.f
    rw [if_pos (by simp only [List.length_nil]; omega)]
    simp only [Option.bind_some, List.nil_append]
    rw [if_pos (by rw [List.length_take]; omega), take_getD l zsw hi, wrap_succ (by omega)]) (by simp) (by
    refine Ev.of_succ (fun k => ?_)
    simp only [impl_copySlots.l0]
    rw [if_neg (by omega), List.take_length])
  exact key
theorem all_set {α : Type} (p : α → Bool) (l : List α) (i : Nat) (a : α) (h : l.all p = true) (hi : i < l.length) : (l.set i a).all p = p a := by
  rw [Bool.eq_iff_iff, List.all_eq_true]
  constructor
  · intro hh
    exact hh a (List.mem_of_getElem? (by rw [List.getElem?_set_self hi]))
  · intro ha x hx
    rcases List.mem_or_eq_of_mem_set hx with hx | rfl
    · exact List.all_eq_true.1 h x hx
    · exact ha
theorem slotsB_set (l : List SlotW) (i : Nat) (a : SlotW) (h : slotsB l = true) (hi : i < l.length) : slotsB (l.set i a) = slotB a := by
  simp only [slotsB, Bool.and_eq_true, decide_eq_true_eq] at h
  simp only [slotsB, List.length_set, decide_eq_true h.2, Bool.and_true]
  exact all_set slotB l i a h.1 hi
theorem slotsB_at {l : List SlotW} (h : slotsB l = true) {i : Nat} (hi : i < l.length) : slotB (l.getD i zsw) = true := by
  simp only [slotsB, Bool.and_eq_true] at h
  exact List.all_eq_true.1 h.1 _ (mem_getD hi _)
theorem slotsB_small {l : List SlotW} (h : slotsB l = true) : l.length ≤ 16 ∧ ∀ x ∈ l, x.f1.length ≤ 4 := by
  simp only [slotsB, Bool.and_eq_true, decide_eq_true_eq] at h
  refine ⟨h.2, fun x hx => ?_⟩
  have := List.all_eq_true.1 h.1 x hx
  unfold slotB at this
  by_cases h0 : x.f0 = 0
  · rw [if_pos h0, decide_eq_true_eq] at this; omega
  · rw [if_neg h0] at this
    simp only [rowB, Bool.and_eq_true, decide_eq_true_eq] at this
    omega
/-- What is as right slots are. -/
def SlotFours (l : List SlotW) : Prop := l.length ≤ 16 ∧ ∀ x ∈ l, x.f1.length ≤ 4
theorem SlotFours.nil : SlotFours [] := ⟨by decide, fun x hx => by cases hx⟩
theorem totSl_le : ∀ (l : List SlotW), (∀ x ∈ l, x.f1.length ≤ 4) → totSl l ≤ 5 * l.length := by
  intro l
  induction l with
  | nil => intro _; exact Nat.le_refl _
  | cons x l ih =>
    intro h
    have h2 := ih (fun y hy => h y (List.mem_cons_of_mem _ hy))
    have h3 := h x List.mem_cons_self
    rw [totSl_cons, List.length_cons]
    omega
theorem SlotFours.small {l : List SlotW} (h : SlotFours l) : SmallW l ∧ totSl l ≤ 80 :=
  ⟨⟨by have := h.1; omega, fun x hx => by have := h.2 x hx; omega⟩, by have := totSl_le l h.2; have := h.1; omega⟩
theorem SlotFours.set {l : List SlotW} (h : SlotFours l) (i : Nat) (a : SlotW) (ha : a.f1.length ≤ 4) : SlotFours (l.set i a) := by
  refine ⟨by simpa using h.1, fun x hx => ?_⟩
  rcases List.mem_or_eq_of_mem_set hx with hx | rfl
  · exact h.2 x hx
  · exact ha
theorem totSl_sum (l : List SlotL) (h : (l.length : Int) + ((l.map (fun s => s.f1.length)).sum : Nat) ≤ 1048576) : totSl (l.map toSlot) ≤ 1048576 := by
  have key : ∀ l : List SlotL, totSl (l.map toSlot) = l.length + (l.map (fun s => s.f1.length)).sum := by
    intro l
    induction l with
    | nil => rfl
    | cons x l ih => rw [List.map_cons, totSl_cons, ih]; simp only [toSlot, List.length_cons, List.map_cons, List.sum_cons]; omega
  rw [key]; omega
def heldB (l : List SlotW) (i : Int) : Bool := slotsB l && decide (0 ≤ i ∧ i ≤ l.length - 1) && decide (0 < (l.getD i.toNat zsw).f0)
theorem heldB_bd {l : List SlotW} {i : Int} (h : heldB l i = true) : slotsB l = true ∧ 0 ≤ i ∧ i < l.length ∧ 1 ≤ (l.getD i.toNat zsw).f0 ∧ (l.getD i.toNat zsw).f0 ≤ 64 ∧ rowB (l.getD i.toNat zsw).f1 = true := by
  simp only [heldB, Bool.and_eq_true, decide_eq_true_eq] at h
  obtain ⟨⟨h1, h2⟩, h3⟩ := h
  have h4 := slotsB_at h1 (show i.toNat < l.length by omega)
  unfold slotB at h4
  rw [if_neg (by omega)] at h4
  simp only [Bool.and_eq_true, decide_eq_true_eq] at h4
  exact ⟨h1, h2.1, by omega, h4.1.1, h4.1.2, h4.2⟩
theorem len_predS (l : List SlotW) (hl : SmallW l) : wrap64 ((l.length : Int) - 1) = l.length - 1 := by have := hl.1; unfold wrap64; omega
theorem isHeld_eq (l : List SlotW) (hl : SmallW l) (i : Int) (hs : slotsB l = true) : impl_isHeld.f l i = some (heldB l i) := by
  unfold impl_isHeld.f heldB
  rw [within_eq, len_predS l hl, hs]
  simp only [Option.bind_some, Bool.true_and]
  by_cases h : 0 ≤ i ∧ i ≤ (l.length : Int) - 1
  · rw [if_pos (decide_eq_true h), if_pos h.1, if_pos (by omega), decide_eq_true h]
    rfl
  · rw [if_neg (by rw [decide_eq_true_eq]; exact h), decide_eq_false h, Bool.false_and]
def changedB (l : List SlotW) (i : Int) (by_ : Int) : List SlotW × Bool :=
  if heldB l i = true then (if (l.getD i.toNat zsw).f0 + by_ = 0 then (l.set i.toNat ⟨0, []⟩, true) else if (l.getD i.toNat zsw).f0 + by_ ≤ 64 then (l.set i.toNat ⟨(l.getD i.toNat zsw).f0 + by_, (l.getD i.toNat zsw).f1⟩, true) else ([], false)) else ([], false)
theorem rdI (l : List SlotW) (i : Int) : rd_T62 l i = l.getD i.toNat zsw := rfl
theorem get_setS {xs : List SlotW} {a z : SlotW} {i : Nat} (h1 : i < xs.length) : (xs.set i a).getD i z = a := by
  rw [List.getD_eq_getElem?_getD, List.getElem?_set_self h1]
  rfl
theorem l07Change_ev (l : List SlotW) (hl : SmallW l) (i : Int) (b : Int) (hb : b = 1 ∨ b = -1) : Ev (fun k => spec_l07Change.f k l i b) (changedB l i b) := by
  have hno : Ev (fun k => spec_l07Change.j0 k l i b true) ([], false) := by
    refine Ev.of_succ (fun k => ?_)
    simp only [spec_l07Change.j0, if_true]
  unfold spec_l07Change.f
  refine Ev.bind (spec_SlotsOk_ev l hl) ?_
  by_cases hs : slotsB l = true
  · simp only [if_pos hs, l01In_eq, Option.bind_some, len_predS l hl]
    by_cases h : 0 ≤ i ∧ i ≤ (l.length : Int) - 1
    · simp only [decide_eq_true h, if_true, if_pos h.1, if_pos (show i < (l.length : Int) by omega), rdI]
      have h4 := slotsB_at hs (show i.toNat < l.length by omega)
      by_cases h0 : (l.getD i.toNat zsw).f0 = 0
      · simp only [h0, beq_self_eq_true]
        have hh : heldB l i = false := by simp only [heldB, h0]; simp
        unfold changedB
        rw [if_neg (by rw [hh]; decide)]
        exact hno
      · have hh : heldB l i = true := by
          unfold slotB at h4
          rw [if_neg h0] at h4
          simp only [Bool.and_eq_true, decide_eq_true_eq] at h4
          simp only [heldB, hs, decide_eq_true h, Bool.true_and, decide_eq_true_eq]
          omega
        obtain ⟨_, _, hi2, h5, h6, h7⟩ := heldB_bd hh
        have hlt : i.toNat < l.length := by omega
        unfold changedB
        rw [if_pos hh]
        have hw : wrap64 ((l.getD i.toNat zsw).f0 + b) = (l.getD i.toNat zsw).f0 + b := wrap64_id (by omega) (by omega)
        simp only [beq_eq_false_iff_ne.mpr h0]
        generalize hy : l.getD i.toNat zsw = y at *
        refine Ev.step (f := fun k => (spec_l07Copy.f k l).bind fun t => (if 0 ≤ i then (if i < (t.length : Int) then ((some (t.set (i : Int).toNat (⟨wrap64 (((rd_T62 t i).f0) + b), (rd_T62 t i).f1⟩ : SlotW) : List SlotW)).bind fun y439 => (if ((rd_T62 y439 i).f0) = 0 then ((some (y439.set (i : Int).toNat (⟨(rd_T62 y439 i).f0, (([] : List Int))⟩ : SlotW) : List SlotW)).bind fun y444 => ((spec_SlotsOk.f k y444).bind fun t445 => (if t445 = true then (some (y444, true)) else (some ((([] : List SlotW)), false))))) else ((spec_SlotsOk.f k y439).bind fun t449 => (if t449 = true then (some (y439, true)) else (some ((([] : List SlotW)), false)))))) else (none)) else (none))) (fun k => by simp only [spec_l07Change.j0, Bool.false_eq_true, if_false]) (Ev.bind (spec_l07Copy_ev l hl) ?_)
        simp only [if_pos h.1, if_pos (show i < (l.length : Int) by omega), Option.bind_some, rdI, hy, hw, get_setS hlt, List.set_set]
        have hsm : ∀ a : SlotW, a.f1.length ≤ 1048576 → SmallW (l.set i.toNat a) := fun a ha => ⟨by simpa using hl.1, fun x hx => by
          rcases List.mem_or_eq_of_mem_set hx with hx | rfl
          · exact hl.2 x hx
          · exact ha⟩
        by_cases hz : y.f0 + b = 0
        · simp only [if_pos hz, hz]
          refine Ev.bind (spec_SlotsOk_ev _ (hsm ⟨0, []⟩ (by simp))) ?_
          simp only [slotsB_set l _ _ hs hlt, slotB, if_true, List.length_nil, decide_true]
          exact Ev.now _
        · simp only [if_neg hz]
          refine Ev.bind (spec_SlotsOk_ev _ (hsm ⟨y.f0 + b, y.f1⟩ (by simp only [rowB, Bool.and_eq_true, decide_eq_true_eq] at h7; show y.f1.length ≤ 1048576; omega))) ?_
          simp only [slotsB_set l _ _ hs hlt, slotB, if_neg hz, h7, Bool.and_true]
          by_cases h64 : y.f0 + b ≤ 64
          · simp only [if_pos h64, decide_eq_true (show 1 ≤ y.f0 + b ∧ y.f0 + b ≤ 64 by omega), if_true]
            exact Ev.now _
          · simp only [if_neg h64, decide_eq_false (show ¬ (1 ≤ y.f0 + b ∧ y.f0 + b ≤ 64) by omega), Bool.false_eq_true, if_false]
            exact Ev.now _
    · have hh : heldB l i = false := by simp only [heldB, decide_eq_false h, Bool.and_false, Bool.false_and]
      simp only [decide_eq_false h, Bool.false_eq_true, if_false]
      unfold changedB
      rw [if_neg (by rw [hh]; decide)]
      exact hno
  · have hh : heldB l i = false := by simp only [heldB, Bool.eq_false_iff.2 hs, Bool.false_and]
    simp only [if_neg hs]
    unfold changedB
    rw [if_neg (by rw [hh]; decide)]
    exact hno
theorem changedB_four (l : List SlotW) (i b : Int) : SlotFours (changedB l i b).1 := by
  unfold changedB
  by_cases hh : heldB l i = true
  · rw [if_pos hh]
    obtain ⟨h1, _, _, _, _, h7⟩ := heldB_bd hh
    have h4 : SlotFours l := slotsB_small h1
    simp only [rowB, Bool.and_eq_true, decide_eq_true_eq] at h7
    by_cases hz : (l.getD i.toNat zsw).f0 + b = 0
    · rw [if_pos hz]; exact h4.set _ _ (by simp)
    · rw [if_neg hz]
      by_cases h64 : (l.getD i.toNat zsw).f0 + b ≤ 64
      · rw [if_pos h64]; exact h4.set _ _ (by show (l.getD i.toNat zsw).f1.length ≤ 4; omega)
      · rw [if_neg h64]; exact SlotFours.nil
  · rw [if_neg hh]; exact SlotFours.nil
theorem impl_MoreOf_ev (l : List SlotW) (hl : SmallW l) (i : Int) : Ev (fun k => impl_MoreOf.f k l i) (changedB l i 1) := by
  unfold impl_MoreOf.f
  refine Ev.bind (impl_SlotsOk_ev l hl) ?_
  by_cases hs : slotsB l = true
  · simp only [if_pos hs, isHeld_eq l hl i hs, Option.bind_some]
    unfold changedB
    by_cases hh : heldB l i = true
    · obtain ⟨_, hi, hi2, h5, h6, h7⟩ := heldB_bd hh
      simp only [if_pos hh, if_pos hi, if_pos hi2]
      rw [rdI]
      obtain ⟨y, hy⟩ : ∃ y, l.getD i.toNat zsw = y := ⟨_, rfl⟩
      rw [hy] at h5 h6 h7 ⊢
      by_cases h64 : y.f0 = 64
      · simp only [if_pos h64, if_neg (show ¬ y.f0 + 1 = 0 by omega), if_neg (show ¬ y.f0 + 1 ≤ 64 by omega)]
        exact Ev.now _
      · simp only [if_neg h64, if_neg (show ¬ y.f0 + 1 = 0 by omega), if_pos (show y.f0 + 1 ≤ 64 by omega)]
        refine Ev.bind (impl_copySlots_ev l hl) ?_
        simp only [if_pos hi2, rdI, hy, wrap64_id (n := y.f0 + 1) (by omega) (by omega)]
        exact Ev.now _
    · simp only [if_neg hh]; exact Ev.now _
  · have hh : heldB l i = false := by simp only [heldB, Bool.eq_false_iff.2 hs, Bool.false_and]
    simp only [if_neg hs]
    unfold changedB
    rw [if_neg (by rw [hh]; decide)]
    exact Ev.now _
theorem spec_MoreOf_ev (l : List SlotW) (hl : SmallW l) (i : Int) : Ev (fun k => spec_MoreOf.f k l i) (changedB l i 1) := by
  unfold spec_MoreOf.f
  exact Ev.bind (l07Change_ev l hl i 1 (.inl rfl)) (Ev.now _)
theorem impl_LessOf_ev (l : List SlotW) (hl : SmallW l) (i : Int) : Ev (fun k => impl_LessOf.f k l i) (changedB l i (-1)) := by
  unfold impl_LessOf.f
  refine Ev.bind (impl_SlotsOk_ev l hl) ?_
  by_cases hs : slotsB l = true
  · simp only [if_pos hs, isHeld_eq l hl i hs, Option.bind_some]
    unfold changedB
    by_cases hh : heldB l i = true
    · obtain ⟨_, hi, hi2, h5, h6, h7⟩ := heldB_bd hh
      simp only [if_pos hh]
      refine Ev.bind (impl_copySlots_ev l hl) ?_
      unfold impl_less.f
      simp only [if_pos hi, if_pos hi2]
      generalize hy : l.getD i.toNat zsw = y at *
      rw [show wrap64 (y.f0 - 1) = y.f0 + -1 from (wrap64_id (by omega) (by omega)).trans (by omega)]
      by_cases hz : y.f0 + -1 = 0
      · simp only [if_pos hz, Option.bind_some, hz]
        exact Ev.now _
      · simp only [if_neg hz, Option.bind_some, if_pos (show y.f0 + -1 ≤ 64 by omega)]
        exact Ev.now _
    · simp only [if_neg hh]; exact Ev.now _
  · have hh : heldB l i = false := by simp only [heldB, Bool.eq_false_iff.2 hs, Bool.false_and]
    simp only [if_neg hs]
    unfold changedB
    rw [if_neg (by rw [hh]; decide)]
    exact Ev.now _
theorem spec_LessOf_ev (l : List SlotW) (hl : SmallW l) (i : Int) : Ev (fun k => spec_LessOf.f k l i) (changedB l i (-1)) := by
  unfold spec_LessOf.f
  exact Ev.bind (l07Change_ev l hl i (-1) (.inr rfl)) (Ev.now _)

theorem FnExactLessOf (l0 : List S113) (g0 : (l0.length ≤ maxLen ∧ ∀ y0 ∈ l0, ((Lit.int .i64 y0.f0).wf = true ∧ (y0.f1.length ≤ maxLen ∧ ∀ y1 ∈ y0.f1, (Lit.int .i64 y1).wf = true)))) (a1 : Int) (_w1 : (Lit.int .i64 a1).wf = true) : (∃ (k : Nat) (z : Int) (t : List (S62)) (y0 : List (S62)) (y1 : Bool) (m : Int) (M : List S62) (m1 : Int) (M1 : List S62), (laws_szSlotS.f k l0 1048576 = some z) ∧ (laws_toSlotS.f k l0 = some t) ∧ (spec_LessOf.f k t a1 = some (y0, y1)) ∧ (impl_LessOf.f k t a1 = some (y0, y1)) ∧ (laws_eqSlotS.f k y0 y0 = some true) ∧ (laws_eqSlotS.f k t t = some true) ∧ (laws_markSlotS.f k t 1 = some (m, M)) ∧ (laws_markSlotS.f k y0 1 = some (m1, M1)) ∧ (laws_heldSlotS.f k M1 1 = some m1) ∧ (¬ z < 0) ∧ (¬ m < 0) ∧ (¬ m1 < 0)) ∨ (∃ (k : Nat) (z : Int), (laws_szSlotS.f k l0 1048576 = some z) ∧ (z < 0)) := by
  obtain ⟨z, ⟨n0, e0⟩, hz⟩ := szSlotS_ev l0 g0.1 (fun x hx => (g0.2 x hx).2.1)
  by_cases hneg : z < 0
  · exact Or.inr ⟨n0, z, e0 _ (by omega), hneg⟩
  · refine Or.inl ?_
    obtain ⟨hsm, hq⟩ := hz (by omega)
    have ht := totSl_sum l0 hq
    have hw := hsm.toW
    obtain ⟨h4, h5⟩ := (changedB_four (l0.map toSlot) a1 (-1)).small
    have hs := spec_LessOf_ev (l0.map toSlot) hw a1
    have hi := impl_LessOf_ev (l0.map toSlot) hw a1
    generalize changedB (l0.map toSlot) a1 (-1) = y at *
    obtain ⟨n1, e1⟩ := toSlotS_ev l0 hsm
    obtain ⟨n2, e2⟩ := hs
    obtain ⟨n3, e3⟩ := hi
    obtain ⟨n4, e4⟩ := eqSlotS_refl y.1 h4
    obtain ⟨n5, e5⟩ := eqSlotS_refl (l0.map toSlot) hw
    obtain ⟨n6, e6⟩ := markSlotS_ev (l0.map toSlot) hw 1 (by omega) (by omega)
    obtain ⟨n7, e7⟩ := markSlotS_ev y.1 h4 1 (by omega) (by omega)
    obtain ⟨n8, e8⟩ := heldSlotS_ev y.1 h4 1 (by omega) (by omega)
    exact ⟨n0 + n1 + n2 + n3 + n4 + n5 + n6 + n7 + n8, z, l0.map toSlot, y.1, y.2, _, _, _, _, e0 _ (by omega), e1 _ (by omega), e2 _ (by omega), e3 _ (by omega), e4 _ (by omega), e5 _ (by omega), e6 _ (by omega), e7 _ (by omega), e8 _ (by omega), hneg, by omega, by omega⟩

end Go.Proofs.Ytdpejnckojhgjaa.Pure
end
