/- What the proof of FnSlotsSaid rests on, part 4: plain lemmas and contracts of the functions that the law reaches (in part written by a printing program over the translation). No condition. -/
import Derived.Test.YtdpejnckojhgjaaBFnSlotsc
section
namespace Go.Proofs.Ytdpejnckojhgjaa.P
open Go.RowKit Go.Proofs.YtdpejnckojhgjaaW.PrintWords Go.Proofs.YtdpejnckojhgjaaW.PrintLast Go.Proofs.YtdpejnckojhgjaaW.PrintMore
attribute [local go_sem] max2_int min2_int max_two min_two max_three min_three max_four min_four   -- for this text's walks alone
set_option linter.unusedVariables false
set_option linter.unusedSimpArgs false

/-! ### spec_PutAside: function 45 -/
mutual
def spec_PutAside.l0 : Nat → List (S62) → List Int → Int → List (S62) → Int → Option ((List (S62)) × Int × Bool)
  | 0, _, _, _, _, _ => none
  | k + 1, x0, x1, x2, x9, x10 => if x10 < (x9.length : Int) then ((spec_SlotsOk.f k x0).bind fun t686 => (if t686 = true then (spec_PutAside.j1 k x0 x1 x2 x9 x10 (decide (x2 > 0))) else (spec_PutAside.j1 k x0 x1 x2 x9 x10 false))) else (spec_PutAside.j1 k x0 x1 x2 x9 x10 false)
def spec_PutAside.j1 : Nat → List (S62) → List Int → Int → List (S62) → Int → Bool → Option ((List (S62)) × Int × Bool)
  | 0, _, _, _, _, _, _ => none
  | k + 1, x0, x1, x2, x9, x10, x24 => if x24 = true then (if 0 ≤ x10 then (if x10 < (x9.length : Int) then (if ((rd_T62 x9 x10).f0) = 0 then ((some (([] : List Int) : List Int)).bind fun y691 => (if y691.length + x1.length < 17592186044416 then ((some (x9.set (x10 : Int).toNat (⟨x2, (y691 ++ x1)⟩ : S62) : List (S62))).bind fun y697 => ((spec_SlotsOk.f k y697).bind fun t698 => (if t698 = true then (some (y697, x10, true)) else (some ((([] : List (S62))), 0, false))))) else (none))) else (spec_PutAside.l0 k x0 x1 x2 x9 (wrap64 (x10 + 1)))) else (none)) else (none)) else (some ((([] : List (S62))), 0, false))
end
def spec_PutAside.f (k : Nat) (l0 : List (S62)) (l1 : List Int) (a2 : Int) : Option ((List (S62)) × Int × Bool) := (spec_l07Copy.f k l0).bind fun t683 => (spec_PutAside.l0 k l0 l1 a2 t683 0)
theorem spec_PutAside.mono_l : ∀ k, (∀ y0 y1 y2 y3 y4, LeO (spec_PutAside.l0 k y0 y1 y2 y3 y4) (spec_PutAside.l0 (k + 1) y0 y1 y2 y3 y4)) ∧ (∀ y0 y1 y2 y3 y4 y5, LeO (spec_PutAside.j1 k y0 y1 y2 y3 y4 y5) (spec_PutAside.j1 (k + 1) y0 y1 y2 y3 y4 y5))
  | 0 => ⟨fun _ _ _ _ _ r h => by simp [spec_PutAside.l0] at h, fun _ _ _ _ _ _ r h => by simp [spec_PutAside.j1] at h⟩
  | k + 1 => by
    obtain ⟨ih0, ih1⟩ := spec_PutAside.mono_l k
    refine ⟨?_, ?_⟩
    · intro y0 y1 y2 y3 y4
      unfold spec_PutAside.l0
      repeat' first
      | (with_reducible exact ih0 _ _ _ _ _)
      | (with_reducible exact ih1 _ _ _ _ _ _)
      | (with_reducible exact spec_SlotsOk.mono _ _)
      | (with_reducible exact spec_l07Copy.mono _ _)
      | (with_reducible exact LeO.refl _)
      | (with_reducible exact LeO.none _)
      | (with_reducible refine LeO.ite ?_ ?_)
      | (with_reducible refine LeO.bind ?_ (fun _ => ?_))
      | exact ih0 _ _ _ _ _
      | exact ih1 _ _ _ _ _ _
      | exact spec_SlotsOk.mono _ _
      | exact spec_l07Copy.mono _ _
      | exact LeO.none _
      | refine LeO.ite ?_ ?_
      | refine LeO.bind ?_ (fun _ => ?_)
    · intro y0 y1 y2 y3 y4 y5
      unfold spec_PutAside.j1
      repeat' first
      | (with_reducible exact ih0 _ _ _ _ _)
      | (with_reducible exact ih1 _ _ _ _ _ _)
      | (with_reducible exact spec_SlotsOk.mono _ _)
      | (with_reducible exact spec_l07Copy.mono _ _)
      | (with_reducible exact LeO.refl _)
      | (with_reducible exact LeO.none _)
      | (with_reducible refine LeO.ite ?_ ?_)
      | (with_reducible refine LeO.bind ?_ (fun _ => ?_))
      | exact ih0 _ _ _ _ _
      | exact ih1 _ _ _ _ _ _
      | exact spec_SlotsOk.mono _ _
      | exact spec_l07Copy.mono _ _
      | exact LeO.none _
      | refine LeO.ite ?_ ?_
      | refine LeO.bind ?_ (fun _ => ?_)
theorem spec_PutAside.mono : ∀ a0 a1 a2 k, LeO (spec_PutAside.f k a0 a1 a2) (spec_PutAside.f (k + 1) a0 a1 a2) := by
  intro a0 a1 a2 k
  obtain ⟨ih0, ih1⟩ := spec_PutAside.mono_l k
  unfold spec_PutAside.f
  repeat' first
      | (with_reducible exact ih0 _ _ _ _ _)
      | (with_reducible exact ih1 _ _ _ _ _ _)
      | (with_reducible exact spec_SlotsOk.mono _ _)
      | (with_reducible exact spec_l07Copy.mono _ _)
      | (with_reducible exact LeO.refl _)
      | (with_reducible exact LeO.none _)
      | (with_reducible refine LeO.ite ?_ ?_)
      | (with_reducible refine LeO.bind ?_ (fun _ => ?_))
      | exact ih0 _ _ _ _ _
      | exact ih1 _ _ _ _ _ _
      | exact spec_SlotsOk.mono _ _
      | exact spec_l07Copy.mono _ _
      | exact LeO.none _
      | refine LeO.ite ?_ ?_
      | refine LeO.bind ?_ (fun _ => ?_)
set_option maxHeartbeats 8000000 in
set_option maxRecDepth 100000 in
theorem spec_PutAside.calls (k : Nat) (A0 : Option Addr) (c0 : Nat) (l0 : List (S62)) (A1 : Option Addr) (c1 : Nat) (l1 : List Int) (a2 : Int) (r1 : List (S62)) (r2 : Int) (r3 : Bool) (w : World) (hr0 : Kd.C k62 w A0 l0.length l0) (hc0 : l0.length ≤ c0) (hr1 : Kd.C (Kd.int .i64) w A1 l1.length l1) (hc1 : l1.length ≤ c1) (h : spec_PutAside.f k l0 l1 a2 = some (r1, r2, r3)) :
    Calls Try.prog 45 #[.slice A0 l0.length c0, .slice A1 l1.length c1, .int .i64 a2] w fun e w' => ∃ v0_ : Value, e = .returned (.tuple #[v0_, .int .i64 r2, .bool r3]) ∧ Kd.S k62 62 w' w.heap.size (fun _ => True) v0_ r1 ∧ Below w.heap.size w w' := by
  have hu62 := Try.underlying62
  have HR0 := Aside0.mk hr0
  have HC0 := Aside0.mk hc0
  clear hr0 hc0
  have HR1 := Aside0.mk hr1
  have HC1 := Aside0.mk hc1
  clear hr1 hc1
  have HB := Aside0.mk (Below.refl w.heap.size w)
  have H : ((spec_l07Copy.f k l0).bind fun t683 => (spec_PutAside.l0 k l0 l1 a2 t683 0)) = some (r1, r2, r3) := h
  clear h
  replace H := Option.bind_eq_some_iff.mp H
  obtain ⟨t683, A40, H⟩ := H
  replace H : (spec_PutAside.l0 k l0 l1 a2 t683 0) = some (r1, r2, r3) := H
  have A4 := Aside0.mk A40
  clear A40
  have H' := Aside0.mk H
  clear H
  go_enter Try.func45, Try.ntmps45
  go_wp2_with (first | ((with_reducible refine gate_callee (f := 105) rfl ?_); refine goesL_ (some 12) rfl rfl Try.func105 (by kernel_rfl) rfl #[.slice A0 l0.length c0] rfl (by (try simp only [List.map_toArray, List.map_cons, List.map_nil]); first | done | rfl | (simp only [List.length_drop, List.length_take]; rfl)) ?_; (with_reducible refine (spec_l07Copy.calls k _ _ l0 t683 _ ?side1 ?side2 A4.out).mono ?_); (case side1 => repeat (first | exact HR0.out | (with_reducible refine Kd.C_alloc ?_ _) | (with_reducible refine Kd.C_drewN ?_ _) | (with_reducible refine Kd.C_drew ?_))); (case side2 => exact HC0.out); rintro e w5 ⟨v684, rfl, ho0, hb⟩; refine ⟨_, rfl, ?_⟩; have n0_ := Aside0.mk (Kd.S_lower ho0 (below_size (by repeat (first | (with_reducible first | exact HB.out | apply below_alloc | apply pw_below_drewN | apply below_drew1) | exact HB.out)))); have n1_ := Aside0.mk (below_step (by repeat (first | (with_reducible first | exact HB.out | apply below_alloc | apply pw_below_drewN | apply below_drew1) | exact HB.out)) hb); clear HB; have HO685 := n0_; have HB := n1_; clear n0_ n1_; (try clear hb); (try clear hb2); (try clear hk); (try clear hi); (try clear ho0)))
  go_loopg [10] k (fun kq v10 w' => ∃ (x9_1 : List (S62)) (x10_1 : Int), v10 = .int .i64 x10_1 ∧ Aside0 (spec_PutAside.l0 kq l0 l1 a2 x9_1 x10_1 = some (r1, r2, r3)) ∧ Aside0 (kq ≤ k) ∧ Aside0 (Kd.S k62 62 w' w.heap.size (fun _ => True) v684 x9_1) ∧ Aside0 (Below w.heap.size w w'))
  case atStart => exact ⟨(t683), (0), (by first | rfl | (simp; done) | (simp [*]; done)), H', ⟨Nat.le_refl _⟩, ⟨by (with_reducible repeat (first | apply Kd.S_alloc | apply Kd.S_drewN | apply Kd.S_drew)); exact HO685.out⟩, ⟨by repeat (first | (with_reducible first | exact HB.out | apply below_alloc | apply pw_below_drewN | apply below_drew1) | exact HB.out)⟩⟩
  case round =>
    clear H'
    try clear c1
    try clear p2
    try clear c4
    obtain ⟨x9_1, x10_1, rfl, HA, HK1, HO_9, HB⟩ := hrel
    cases gk with
    | zero => exact absurd HA.out (by simp [spec_PutAside.l0])
    | succ k1 =>
      have H := HA.out
      clear HA
      simp only [spec_PutAside.l0] at H
      have HC6 := Aside0.mk H
      clear H
      go_upto_region 3 with (fail)
      go_cut [24] (fun v24 wc => ∃ (kq : Nat) (x24_5 : Bool), v24 = .bool x24_5 ∧ Aside0 (spec_PutAside.j1 kq l0 l1 a2 x9_1 x10_1 x24_5 = some (r1, r2, r3)) ∧ Aside0 (kq ≤ k1) ∧ Aside0 (Kd.S k62 62 wc w.heap.size (fun _ => True) v684 x9_1) ∧ Aside0 (Below w.heap.size w wc))
      case first =>
        have H := HC6.out
        clear HC6
        by_cases c7 : x10_1 < (x9_1.length : Int)
        · rw [if_pos c7] at H
          have c7b0 : decide (x10_1 < (x9_1.length : Int)) = true := decide_eq_true c7
          clear c7
          (first | rw [c7b0] | (simp only [i64_w, i32_w]; rw [c7b0]) | skip)
          replace H := Option.bind_eq_some_iff.mp H
          obtain ⟨t686, A80, H⟩ := H
          replace H : (if t686 = true then (spec_PutAside.j1 k1 l0 l1 a2 x9_1 x10_1 (decide (a2 > 0))) else (spec_PutAside.j1 k1 l0 l1 a2 x9_1 x10_1 false)) = some (r1, r2, r3) := H
          have A8 := Aside0.mk A80
          clear A80
          by_cases c9 : t686 = true
          · subst c9
            have H1 : (spec_PutAside.j1 k1 l0 l1 a2 x9_1 x10_1 (decide (a2 > 0))) = some (r1, r2, r3) := by rw [if_pos rfl] at H; exact H
            clear H
            have H := H1
            clear H1
            have H' := Aside0.mk H
            clear H
            obtain ⟨Ao10, co10, eo10⟩ := Kd.S_slice HO_9.out
            subst eo10
            go_wp2_with (first | (go_at_call 43; (with_reducible refine (spec_SlotsOk.calls k1 _ _ l0 true _ ?side1 ?side2 A8.out).mono ?_); (case side1 => repeat (first | exact (Kd.C_below HR0.out HB.out) | (with_reducible refine Kd.C_alloc ?_ _) | (with_reducible refine Kd.C_drewN ?_ _) | (with_reducible refine Kd.C_drew ?_))); (case side2 => exact HC0.out); rintro e w' ⟨rfl, ⟨nd, rfl⟩⟩))
            go_meet
            case rel => exact ⟨_, (decide (a2 > 0)), (by first | rfl | (simp; done) | (simp [*]; done)), H', ⟨by have := HK1.out; first | omega | exact Nat.le_refl _⟩, ⟨by (with_reducible repeat (first | apply Kd.S_alloc | apply Kd.S_drewN | apply Kd.S_drew)); exact HO_9.out⟩, ⟨by repeat (first | (with_reducible first | exact HB.out | apply below_alloc | apply pw_below_drewN | apply below_drew1) | exact HB.out)⟩⟩
          · replace c9 := Bool.eq_false_iff.mpr c9
            subst c9
            have H1 : (spec_PutAside.j1 k1 l0 l1 a2 x9_1 x10_1 false) = some (r1, r2, r3) := by rw [if_neg (show ¬ (false = true) by decide)] at H; exact H
            clear H
            have H := H1
            clear H1
            have H' := Aside0.mk H
            clear H
            obtain ⟨Ao11, co11, eo11⟩ := Kd.S_slice HO_9.out
            subst eo11
            go_wp2_with (first | (go_at_call 43; (with_reducible refine (spec_SlotsOk.calls k1 _ _ l0 false _ ?side1 ?side2 A8.out).mono ?_); (case side1 => repeat (first | exact (Kd.C_below HR0.out HB.out) | (with_reducible refine Kd.C_alloc ?_ _) | (with_reducible refine Kd.C_drewN ?_ _) | (with_reducible refine Kd.C_drew ?_))); (case side2 => exact HC0.out); rintro e w' ⟨rfl, ⟨nd, rfl⟩⟩))
            go_meet
            case rel => exact ⟨_, (false), (by first | rfl | (simp; done) | (simp [*]; done)), H', ⟨by have := HK1.out; first | omega | exact Nat.le_refl _⟩, ⟨by (with_reducible repeat (first | apply Kd.S_alloc | apply Kd.S_drewN | apply Kd.S_drew)); exact HO_9.out⟩, ⟨by repeat (first | (with_reducible first | exact HB.out | apply below_alloc | apply pw_below_drewN | apply below_drew1) | exact HB.out)⟩⟩
        · rw [if_neg c7] at H
          have c7b0 : decide (x10_1 < (x9_1.length : Int)) = false := decide_eq_false c7
          clear c7
          (first | rw [c7b0] | (simp only [i64_w, i32_w]; rw [c7b0]) | skip)
          have H' := Aside0.mk H
          clear H
          obtain ⟨Ao12, co12, eo12⟩ := Kd.S_slice HO_9.out
          subst eo12
          go_wp2
          go_meet
          case rel => exact ⟨_, (false), (by first | rfl | (simp; done) | (simp [*]; done)), H', ⟨by have := HK1.out; first | omega | exact Nat.le_refl _⟩, ⟨by (with_reducible repeat (first | apply Kd.S_alloc | apply Kd.S_drewN | apply Kd.S_drew)); exact HO_9.out⟩, ⟨by repeat (first | (with_reducible first | exact HB.out | apply below_alloc | apply pw_below_drewN | apply below_drew1) | exact HB.out)⟩⟩
      case rest =>
        clear HC6
        try clear c1
        try clear p2
        try clear c4
        try clear c7
        try clear c7b0
        try clear c9
        try clear c10
        try clear p2
        obtain ⟨kq, x24_5, rfl, HA, HJ5, HO_9, HB⟩ := hcut
        cases kq with
        | zero => exact absurd HA.out (by simp [spec_PutAside.j1])
        | succ kj5 =>
          have H := HA.out
          clear HA
          simp only [spec_PutAside.j1] at H
          by_cases c13 : x24_5 = true
          · subst c13
            have H1 : (if 0 ≤ x10_1 then (if x10_1 < (x9_1.length : Int) then (if ((rd_T62 x9_1 x10_1).f0) = 0 then ((some (([] : List Int) : List Int)).bind fun y691 => (if y691.length + l1.length < 17592186044416 then ((some (x9_1.set (x10_1 : Int).toNat (⟨a2, (y691 ++ l1)⟩ : S62) : List (S62))).bind fun y697 => ((spec_SlotsOk.f kj5 y697).bind fun t698 => (if t698 = true then (some (y697, x10_1, true)) else (some ((([] : List (S62))), 0, false))))) else (none))) else (spec_PutAside.l0 kj5 l0 l1 a2 x9_1 (wrap64 (x10_1 + 1)))) else (none)) else (none)) = some (r1, r2, r3) := by rw [if_pos rfl] at H; exact H
            clear H
            have H := H1
            clear H1
            by_cases c14 : 0 ≤ x10_1
            · rw [if_pos c14] at H
              have c14b0 : decide (0 ≤ x10_1) = true := decide_eq_true c14
              clear c14
              by_cases c15 : x10_1 < (x9_1.length : Int)
              · rw [if_pos c15] at H
                have c15b0 : decide (x10_1 < (x9_1.length : Int)) = true := decide_eq_true c15
                clear c15
                by_cases c16 : ((rd_T62 x9_1 x10_1).f0) = 0
                · rw [if_pos c16] at H
                  have c16b0 : (((rd_T62 x9_1 x10_1).f0) == 0) = true := beq_iff_eq.mpr c16
                  have c16b1 : (((rd_T62 x9_1 x10_1).f0) != 0) = false := bne_eq_false_iff_eq.mpr c16
                  clear c16
                  obtain ⟨y691, hy691⟩ : ∃ y_ : List Int, y_ = (([] : List Int)) := ⟨_, rfl⟩
                  replace H : (if y691.length + l1.length < 17592186044416 then ((some (x9_1.set (x10_1 : Int).toNat (⟨a2, (y691 ++ l1)⟩ : S62) : List (S62))).bind fun y697 => ((spec_SlotsOk.f kj5 y697).bind fun t698 => (if t698 = true then (some (y697, x10_1, true)) else (some ((([] : List (S62))), 0, false))))) else (none)) = some (r1, r2, r3) := by first | (rw [hy691]; with_reducible exact H) | (have H2_ := (Option.bind_some _ _).symm.trans H; rw [hy691]; with_reducible exact H2_) | (have H2_ := (Option.bind_some _ _).symm.trans H; with_reducible exact H2_) | with_reducible exact H | (rw [hy691]; exact H) | exact H
                  have Ny691 := Aside0.mk hy691
                  clear hy691
                  by_cases c17 : y691.length + l1.length < 17592186044416
                  · rw [if_pos c17] at H
                    have LMc17 := Aside0.mk c17
                    clear c17
                    obtain ⟨y694, hy694⟩ : ∃ y_ : List Int, y_ = (y691 ++ l1) := ⟨_, rfl⟩
                    replace H : ((some (x9_1.set (x10_1 : Int).toNat (⟨a2, y694⟩ : S62) : List (S62))).bind fun y697 => ((spec_SlotsOk.f kj5 y697).bind fun t698 => (if t698 = true then (some (y697, x10_1, true)) else (some ((([] : List (S62))), 0, false))))) = some (r1, r2, r3) := by first | (rw [hy694]; with_reducible exact H) | (have H2_ := (Option.bind_some _ _).symm.trans H; rw [hy694]; with_reducible exact H2_) | (have H2_ := (Option.bind_some _ _).symm.trans H; with_reducible exact H2_) | with_reducible exact H | (rw [hy694]; exact H) | exact H
                    have Ny694 := Aside0.mk hy694
                    clear hy694
                    obtain ⟨y697, hy697⟩ : ∃ y_ : List (S62), y_ = (x9_1.set (x10_1 : Int).toNat (⟨a2, y694⟩ : S62)) := ⟨_, rfl⟩
                    replace H : ((spec_SlotsOk.f kj5 y697).bind fun t698 => (if t698 = true then (some (y697, x10_1, true)) else (some ((([] : List (S62))), 0, false)))) = some (r1, r2, r3) := by first | (rw [hy697]; with_reducible exact H) | (have H2_ := (Option.bind_some _ _).symm.trans H; rw [hy697]; with_reducible exact H2_) | (have H2_ := (Option.bind_some _ _).symm.trans H; with_reducible exact H2_) | with_reducible exact H | (rw [hy697]; exact H) | exact H
                    have Ny697 := Aside0.mk hy697
                    clear hy697
                    replace H := Option.bind_eq_some_iff.mp H
                    obtain ⟨t698, A190, H⟩ := H
                    replace H : (if t698 = true then (some (y697, x10_1, true)) else (some ((([] : List (S62))), 0, false))) = some (r1, r2, r3) := H
                    have A19 := Aside0.mk A190
                    clear A190
                    by_cases c20 : t698 = true
                    · subst c20
                      have H1 : (some (y697, x10_1, true)) = some (r1, r2, r3) := by rw [if_pos rfl] at H; exact H
                      clear H
                      have H := H1
                      clear H1
                      simp only [Option.some.injEq, Prod.mk.injEq] at H
                      obtain ⟨rfl, rfl, rfl⟩ := H
                      obtain ⟨Ao21, co21, eo21⟩ := Kd.S_slice HO_9.out
                      subst eo21
                      have p690 : 0 ≤ (x10_1 : Int) := of_decide_eq_true (by first | (with_reducible assumption) | assumption)
                      have q690 : x10_1 < (x9_1.length : Int) := of_decide_eq_true (by first | (with_reducible assumption) | assumption)
                      obtain ⟨ad690, A690_1, c690_1, e690, hx690_0, hx690_1, hl690_1, hi690_1⟩ := at_T62 (Kd.S_reads' HO_9.out).2.2 x10_1 p690 q690
                      cases e690
                      obtain ⟨ce690, hce690, hMe690, hcc690⟩ := Kd.S_get HO_9.out z62 x10_1 p690 (by first | exact q690 | exact of_decide_eq_true (by first | (with_reducible assumption) | assumption) | (have e_ := (Kd.S_reads' HO_9.out).1; omega))
                      obtain ⟨ve690_1, rfl, ge690_1⟩ := k62_openM hMe690
                      have hv690_1 := hcc690 1 _ rfl
                      rw [add_field _ _ 1 (by omega)] at hv690_1
                      replace hv690_1 := Option.some.inj (hv690_1.symm.trans hx690_1)
                      rw [hv690_1] at ge690_1
                      have HL690_1 := Aside0.mk (show Kd.R (Kd.int .i64) 3 _ _ _ _ ((rd_T62 x9_1 x10_1).f1) from ge690_1)
                      clear hv690_1 ge690_1
                      clear hcc690 hce690
                      have HR690_1 := Aside0.mk hi690_1
                      have HC690_1 := Aside0.mk hl690_1
                      clear hi690_1 hl690_1
                      replace p690 := eq_true p690
                      replace q690 := eq_true q690
                      go_wp2_with (first | ((with_reducible refine gate_dst (N := 36) rfl ?_); refine Kd.R_lit (Kd.int .i64) _ 3 ?hg (N := 36) ?hd (xs := ([] : List Int)) (inner := []) (ok := fun _ => True) (okp := fun _ => True) ?hr ?hp (fun _ hk => hk) trivial (Below.refl _ _) (Nat.le_refl _) (by simp) ?_; (case hd => rfl); (case hg => rfl); (case hr => first | (go_simp; done) | (go_simp; rfl)); (case hp => exact (Reps.none _ _)); intro v692 w22 ho23 hb hg_ hnew_; clear hg_ hnew_; (first | rw [← Ny691.out] at ho23 | (simp only [Int.reduceToNat] at ho23; rw [← Ny691.out] at ho23)); have n0_ := Aside0.mk (Kd.S_elder' (by (with_reducible repeat (first | apply Kd.S_alloc | apply Kd.S_drewN | apply Kd.S_drew)); exact HO_9.out) (Kd.R_base ho23) hb); have n1_ := Aside0.mk (Kd.R_elder' (by (with_reducible repeat (first | apply Kd.R_alloc | apply Kd.R_drewN | apply Kd.R_drew)); exact HL690_1.out) (Kd.R_base ho23) hb); have n2_ := Aside0.mk (Kd.R_lower (Kd.R_new' ho23 (Kd.R_lt (by (with_reducible repeat (first | apply Kd.R_alloc | apply Kd.R_drewN | apply Kd.R_drew)); exact HL690_1.out))) (below_size (by repeat (first | (with_reducible first | exact HB.out | apply below_alloc | apply pw_below_drewN | apply below_drew1) | exact HB.out)))); have n3_ := Aside0.mk (Kd.C_below (by repeat (first | (with_reducible exact HR690_1.out) | (with_reducible refine Kd.C_alloc ?_ _) | (with_reducible refine Kd.C_drewN ?_ _) | (with_reducible refine Kd.C_drew ?_) | exact HR690_1.out)) hb); have n4_ := Aside0.mk (below_step (by repeat (first | (with_reducible first | exact HB.out | apply below_alloc | apply pw_below_drewN | apply below_drew1) | exact HB.out)) hb); clear HO_9; clear HL690_1; clear HR690_1; clear HB; have HO_9 := n0_; have HL690_1 := n1_; have HO693 := n2_; have HR690_1 := n3_; have HB := n4_; clear n0_ n1_ n2_ n3_ n4_; clear hb ho23) | ((with_reducible refine gate_builtin (b := .append) (xs := #[(.tmp 36), .tmp 37]) rfl ?_); at_builtin; refine Kd.R_append_rows (Kd.int .i64) (w0 := w) w.heap.size rfl (.tmp 36) (.tmp 37) 22 3 (.int .i64 0) 8 rfl Try.underlying22 info3 rfl (by decide) (by omega) v692 y691 l1 _ _ _ (fun k_ => some k_ ≠ (.slice A690_1 ((rd_T62 x9_1 x10_1).f1).length c690_1 : Value).ownBlock) (fun _ => False) rfl rfl ?aO ?aR (fun _ _ h => h) (fun _ h => h.elim) ?aF ?aB ?aS ?aL ?_; (case aR => repeat (first | exact (Kd.C_below HR1.out HB.out) | (with_reducible refine Kd.C_alloc ?_ _) | (with_reducible refine Kd.C_drewN ?_ _) | (with_reducible refine Kd.C_drew ?_))); (case aB => exact (by repeat (first | (with_reducible first | exact HB.out | apply below_alloc | apply pw_below_drewN | apply below_drew1) | exact HB.out))); (case aF => exact (fun k_ hk => Kd.fresh' (Kd.R_lt (by (with_reducible repeat (first | apply Kd.R_alloc | apply Kd.R_drewN | apply Kd.R_drew)); exact HL690_1.out)) k_ hk)); (case aO => exact (by (with_reducible repeat (first | apply Kd.R_alloc | apply Kd.R_drewN | apply Kd.R_drew)); exact Kd.R_mono HO693.out (fun _ hk => hk.2))); (case aS => exact (below_size (by repeat (first | (with_reducible first | exact HB.out | apply below_alloc | apply pw_below_drewN | apply below_drew1) | exact HB.out)))); (case aL => have := LMc17.out; omega); intro v695 w24 ho hb hg hat; rw [← Ny694.out] at ho; have n0_ := Aside0.mk (Kd.S_after (ok := (fun _ => True)) (by (with_reducible repeat (first | apply Kd.S_alloc | apply Kd.S_drewN | apply Kd.S_drew)); exact HO_9.out) hg hat); have n1_ := Aside0.mk (Kd.R_after (ok := (fun k_ => some k_ ≠ (.slice (some ad690) x9_1.length co21 : Value).ownBlock)) (by (with_reducible repeat (first | apply Kd.R_alloc | apply Kd.R_drewN | apply Kd.R_drew)); exact Kd.R_mono HL690_1.out (fun _ hk => ⟨hk.1.2, hk.2⟩)) hg hat); have n2_ := Aside0.mk (hb); have n3_ := Aside0.mk (ho); clear HO_9; clear HL690_1; clear HB; clear HO693; have HO_9 := n0_; have HL690_1 := n1_; have HB := n2_; have HO696 := n3_; clear n0_ n1_ n2_ n3_; clear ho hb hg hat; obtain ⟨Ao25, co25, eo25⟩ := Kd.R_slice HO696.out; subst eo25; have p18 : 0 ≤ (x10_1 : Int) := of_decide_eq_true (by first | (with_reducible assumption) | assumption); have q18 : (x10_1 : Int) < ((x9_1.length : Int) : Int) := of_decide_eq_true (by first | (with_reducible assumption) | assumption); obtain ⟨go18, co18, eo18, gb18, gl18, cl18, HG18⟩ := Kd.S_form HO_9.out (by omega); (first | cases eo18 | (injection eo18 with ea_ en_ ec_; (first | subst ea_ | (injection ea_ with ea_; subst ea_)); subst ec_; clear en_)); have GB18 := Aside0.mk gb18; have GG18 := Aside0.mk HG18; clear gb18 gl18 HG18; (first | simp only [add_plain] at hx690_0 | skip); (first | simp only [add_plain] at hx690_1 | skip); obtain ⟨_, ce18, hcl18, hM18, hcc18, hfr18, _, _⟩ := Kd.S_elem HO_9.out z62 (x10_1 : Int) p18 q18; obtain ⟨ve18_1, rfl, ge18_1⟩ := k62_openM hM18; have hx18_0 : w24.cell? ⟨go18, (x10_1 : Int).toNat * 2, none⟩ = some (.int .i64 ((rd_T62 x9_1 x10_1).f0)) := hcc18 0 _ rfl; have hx18_1 : w24.cell? ⟨go18, (x10_1 : Int).toNat * 2 + 1, none⟩ = some (ve18_1) := hcc18 1 _ rfl; have hf18_0 : w24.frozen? ⟨go18, (x10_1 : Int).toNat * 2, none⟩ = false := hfr18 0; have hf18_1 : w24.frozen? ⟨go18, (x10_1 : Int).toNat * 2 + 1, none⟩ = false := hfr18 1; (try clear hcl18); (try clear hcc18); (try clear hfr18); (try clear hM18); replace p18 := eq_true p18; replace q18 := eq_true q18; have n_ := Aside0.mk (Kd.S_mono (ok' := (fun k_ => some k_ ≠ (.slice Ao25 y694.length co25 : Value).ownBlock)) HO_9.out (fun k_ hk => hk.2)); clear HO_9; have HO_9 := n_; clear n_; have HX26 := Aside0.mk (show Kd.S k62 62 w24 w.heap.size (fun k_ => ((fun _ => True)) k_ ∧ ¬ ((fun k_ => some k_ = (.slice Ao25 y694.length co25 : Value).ownBlock)) k_) (.slice (some ⟨go18, 0, none⟩) x9_1.length co21) x9_1 from (by (with_reducible repeat (first | apply Kd.S_alloc | apply Kd.S_drewN | apply Kd.S_drew)); exact Kd.S_mono HO_9.out (fun k_ hk => ⟨trivial, fun e_ => hk e_⟩))); obtain ⟨oki26, ce26, hcl26, hM26, hcc26, hfr26, hoki26, hH26⟩ := Kd.S_elem HX26.out z62 (x10_1 : Int) (of_decide_eq_true (by first | (with_reducible assumption) | assumption)) (by have h_ : (x10_1 : Int) < ((x9_1.length : Int) : Int) := of_decide_eq_true (by first | (with_reducible assumption) | assumption); first | exact h_ | (have e_ := (Kd.S_reads' HO_9.out).1; omega) | simpa using h_); obtain ⟨ve26_1, rfl, ge26_1⟩ := k62_openM hM26; have HP26 := Kd.S_seg hH26 (of_decide_eq_true (by first | (with_reducible assumption) | assumption)) (by have h_ : (x10_1 : Int) < ((x9_1.length : Int) : Int) := of_decide_eq_true (by first | (with_reducible assumption) | assumption); first | exact h_ | (have e_ := (Kd.S_reads' HO_9.out).1; omega) | simpa using h_) (seg := [.int .i64 a2, .slice Ao25 y694.length co25]) (j := 0) (show 2 ≤ 2 from by decide) (x' := (⟨a2, y694⟩ : S62)) (k62_mkM _ _ _ (⟨a2, y694⟩ : S62) (Kd.R_mono (Kd.R_tight rfl (Kd.R_mono (ok' := fun k_ => ((fun _ => True)) k_ ∧ k_ ≠ go18) (Kd.R_apart' (HO696.out) (Kd.S_typed HO_9.out) (by decide)) (fun k_ hk => ⟨trivial, fun e_ => (hk.2) (by rw [e_]; rfl)⟩))) (fun _ h_ => Or.inr (h_)))) (fun _ hk => hk) (fun k_ hk_ => ((Kd.R_mono (ok' := fun k_ => ((fun _ => True)) k_ ∧ k_ ≠ go18) (Kd.R_apart' (HO696.out) (Kd.S_typed HO_9.out) (by decide)) (fun k_ hk => ⟨trivial, fun e_ => (hk.2) (by rw [e_]; rfl)⟩))).1 k_ hk_.symm); have hx26_0 := hcc26 0 _ rfl; (try simp only [show (k62).sz = 2 from rfl, Nat.mul_one, Nat.add_zero] at hx26_0); have hf26_0 := hfr26 0; (try simp only [show (k62).sz = 2 from rfl, Nat.mul_one, Nat.add_zero] at hf26_0); have hx26_1 := hcc26 1 _ rfl; (try simp only [show (k62).sz = 2 from rfl, Nat.mul_one, Nat.add_zero] at hx26_1); have hf26_1 := hfr26 1; (try simp only [show (k62).sz = 2 from rfl, Nat.mul_one, Nat.add_zero] at hf26_1); (try clear hcl26); (try clear hcc26); (try clear hfr26); (try clear hM26); (try clear hoki26); (try clear hH26)) | ((with_reducible refine gate_store (t := 62) (p := 40) rfl ?_); refine store_event (t := 62) (p := 40) (v := ?vo_w27) (w1 := ((w24.setCell ⟨go18, (x10_1 : Int).toNat * 2, none⟩ (.int .i64 a2)).setCell ⟨go18, (x10_1 : Int).toNat * 2 + 1, none⟩ (.slice Ao25 y694.length co25))) ?hg ?ho ?hn ?hr ?_; (case ho => rfl); (case hg => rfl); (case hn => rfl); (case hr => first | (go_simp; done) | (go_simp; rfl)); intro w27 hw; have hg : w24.grownBy w27 (some go18) := (by rw [hw]; exact HP26.2); have hp_ : Kd.S k62 62 w27 w.heap.size (fun _ => True) (.slice (some ⟨go18, 0, none⟩) x9_1.length co21) y697 := (by rw [hw, Ny697.out]; exact HP26.1); clear HP26; have n0_ := Aside0.mk (hp_); have n1_ := Aside0.mk (Kd.R_after (v := (.slice (some ⟨go18, 0, none⟩) x9_1.length co21)) (v1 := (.slice (some ⟨go18, 0, none⟩) x9_1.length co21)) (ok := (fun k_ => some k_ ≠ (.slice Ao25 y694.length co25 : Value).ownBlock)) (by (with_reducible repeat (first | apply Kd.R_alloc | apply Kd.R_drewN | apply Kd.R_drew)); exact Kd.R_mono HL690_1.out (fun _ hk => ⟨hk.2, hk.1⟩)) hg (.inl rfl)); have n2_ := Aside0.mk ((by rw [hw]; exact below_set (below_set (HB.out) GB18.out) GB18.out : Below w.heap.size w w27)); clear HO_9; clear HL690_1; clear HB; clear HO696; have HO_9 := n0_; have HL690_1 := n1_; have HB := n2_; clear n0_ n1_ n2_; clear hg hw hp_) | ((with_reducible refine gate_callee (f := 43) rfl ?_); refine goesL_ (some 42) rfl rfl Try.func43 (by kernel_rfl) rfl #[.slice (some ⟨go18, 0, none⟩) y697.length co21] rfl (by (try simp only [List.map_toArray, List.map_cons, List.map_nil]); first | done | (rw [show y697.length = x9_1.length from (Kd.S_reads' HO_9.out).1.symm] <;> rfl) | rfl | (simp only [List.length_drop, List.length_take]; rfl)) ?_; (with_reducible refine (spec_SlotsOk.calls kj5 _ _ y697 true _ ?side1 ?side2 A19.out).mono ?_); (case side1 => repeat (first | exact (Kd.S_reads' HO_9.out).2.2 | (with_reducible refine Kd.C_alloc ?_ _) | (with_reducible refine Kd.C_drewN ?_ _) | (with_reducible refine Kd.C_drew ?_))); (case side2 => rw [show y697.length = x9_1.length from (Kd.S_reads' HO_9.out).1.symm]; exact (Kd.S_reads' HO_9.out).2.1); rintro e w' ⟨rfl, ⟨nd, rfl⟩⟩; refine ⟨_, rfl, ?_⟩))
                      go_ret3
                      exact ⟨_, by first | rfl | (simp [errW_none, errW_some] <;> rfl) | (simp [*, errW_none, errW_some] <;> rfl), by (with_reducible repeat (first | apply Kd.S_alloc | apply Kd.S_drewN | apply Kd.S_drew)); exact HO_9.out, by repeat (first | (with_reducible first | exact HB.out | apply below_alloc | apply pw_below_drewN | apply below_drew1) | exact HB.out)⟩
                    · replace c20 := Bool.eq_false_iff.mpr c20
                      subst c20
                      have H1 : (some ((([] : List (S62))), 0, false)) = some (r1, r2, r3) := by rw [if_neg (show ¬ (false = true) by decide)] at H; exact H
                      clear H
                      have H := H1
                      clear H1
                      obtain ⟨y699, hy699⟩ : ∃ y_ : List (S62), y_ = (([] : List (S62))) := ⟨_, rfl⟩
                      replace H : (some (y699, 0, false)) = some (r1, r2, r3) := by first | (rw [hy699]; with_reducible exact H) | (have H2_ := (Option.bind_some _ _).symm.trans H; rw [hy699]; with_reducible exact H2_) | (have H2_ := (Option.bind_some _ _).symm.trans H; with_reducible exact H2_) | with_reducible exact H | (rw [hy699]; exact H) | exact H
                      have Ny699 := Aside0.mk hy699
                      clear hy699
                      simp only [Option.some.injEq, Prod.mk.injEq] at H
                      obtain ⟨rfl, rfl, rfl⟩ := H
                      obtain ⟨Ao28, co28, eo28⟩ := Kd.S_slice HO_9.out
                      subst eo28
                      have p690 : 0 ≤ (x10_1 : Int) := of_decide_eq_true (by first | (with_reducible assumption) | assumption)
                      have q690 : x10_1 < (x9_1.length : Int) := of_decide_eq_true (by first | (with_reducible assumption) | assumption)
                      obtain ⟨ad690, A690_1, c690_1, e690, hx690_0, hx690_1, hl690_1, hi690_1⟩ := at_T62 (Kd.S_reads' HO_9.out).2.2 x10_1 p690 q690
                      cases e690
                      obtain ⟨ce690, hce690, hMe690, hcc690⟩ := Kd.S_get HO_9.out z62 x10_1 p690 (by first | exact q690 | exact of_decide_eq_true (by first | (with_reducible assumption) | assumption) | (have e_ := (Kd.S_reads' HO_9.out).1; omega))
                      obtain ⟨ve690_1, rfl, ge690_1⟩ := k62_openM hMe690
                      have hv690_1 := hcc690 1 _ rfl
                      rw [add_field _ _ 1 (by omega)] at hv690_1
                      replace hv690_1 := Option.some.inj (hv690_1.symm.trans hx690_1)
                      rw [hv690_1] at ge690_1
                      have HL690_1 := Aside0.mk (show Kd.R (Kd.int .i64) 3 _ _ _ _ ((rd_T62 x9_1 x10_1).f1) from ge690_1)
                      clear hv690_1 ge690_1
                      clear hcc690 hce690
                      have HR690_1 := Aside0.mk hi690_1
                      have HC690_1 := Aside0.mk hl690_1
                      clear hi690_1 hl690_1
                      replace p690 := eq_true p690
                      replace q690 := eq_true q690
                      go_wp2_with (first | ((with_reducible refine gate_dst (N := 36) rfl ?_); refine Kd.R_lit (Kd.int .i64) _ 3 ?hg (N := 36) ?hd (xs := ([] : List Int)) (inner := []) (ok := fun _ => True) (okp := fun _ => True) ?hr ?hp (fun _ hk => hk) trivial (Below.refl _ _) (Nat.le_refl _) (by simp) ?_; (case hd => rfl); (case hg => rfl); (case hr => first | (go_simp; done) | (go_simp; rfl)); (case hp => exact (Reps.none _ _)); intro v692 w29 ho30 hb hg_ hnew_; clear hg_ hnew_; (first | rw [← Ny691.out] at ho30 | (simp only [Int.reduceToNat] at ho30; rw [← Ny691.out] at ho30)); have n0_ := Aside0.mk (Kd.S_elder' (by (with_reducible repeat (first | apply Kd.S_alloc | apply Kd.S_drewN | apply Kd.S_drew)); exact HO_9.out) (Kd.R_base ho30) hb); have n1_ := Aside0.mk (Kd.R_elder' (by (with_reducible repeat (first | apply Kd.R_alloc | apply Kd.R_drewN | apply Kd.R_drew)); exact HL690_1.out) (Kd.R_base ho30) hb); have n2_ := Aside0.mk (Kd.R_lower (Kd.R_new' ho30 (Kd.R_lt (by (with_reducible repeat (first | apply Kd.R_alloc | apply Kd.R_drewN | apply Kd.R_drew)); exact HL690_1.out))) (below_size (by repeat (first | (with_reducible first | exact HB.out | apply below_alloc | apply pw_below_drewN | apply below_drew1) | exact HB.out)))); have n3_ := Aside0.mk (Kd.C_below (by repeat (first | (with_reducible exact HR690_1.out) | (with_reducible refine Kd.C_alloc ?_ _) | (with_reducible refine Kd.C_drewN ?_ _) | (with_reducible refine Kd.C_drew ?_) | exact HR690_1.out)) hb); have n4_ := Aside0.mk (below_step (by repeat (first | (with_reducible first | exact HB.out | apply below_alloc | apply pw_below_drewN | apply below_drew1) | exact HB.out)) hb); clear HO_9; clear HL690_1; clear HR690_1; clear HB; have HO_9 := n0_; have HL690_1 := n1_; have HO693 := n2_; have HR690_1 := n3_; have HB := n4_; clear n0_ n1_ n2_ n3_ n4_; clear hb ho30) | ((with_reducible refine gate_builtin (b := .append) (xs := #[(.tmp 36), .tmp 37]) rfl ?_); at_builtin; refine Kd.R_append_rows (Kd.int .i64) (w0 := w) w.heap.size rfl (.tmp 36) (.tmp 37) 22 3 (.int .i64 0) 8 rfl Try.underlying22 info3 rfl (by decide) (by omega) v692 y691 l1 _ _ _ (fun k_ => some k_ ≠ (.slice A690_1 ((rd_T62 x9_1 x10_1).f1).length c690_1 : Value).ownBlock) (fun _ => False) rfl rfl ?aO ?aR (fun _ _ h => h) (fun _ h => h.elim) ?aF ?aB ?aS ?aL ?_; (case aR => repeat (first | exact (Kd.C_below HR1.out HB.out) | (with_reducible refine Kd.C_alloc ?_ _) | (with_reducible refine Kd.C_drewN ?_ _) | (with_reducible refine Kd.C_drew ?_))); (case aB => exact (by repeat (first | (with_reducible first | exact HB.out | apply below_alloc | apply pw_below_drewN | apply below_drew1) | exact HB.out))); (case aF => exact (fun k_ hk => Kd.fresh' (Kd.R_lt (by (with_reducible repeat (first | apply Kd.R_alloc | apply Kd.R_drewN | apply Kd.R_drew)); exact HL690_1.out)) k_ hk)); (case aO => exact (by (with_reducible repeat (first | apply Kd.R_alloc | apply Kd.R_drewN | apply Kd.R_drew)); exact Kd.R_mono HO693.out (fun _ hk => hk.2))); (case aS => exact (below_size (by repeat (first | (with_reducible first | exact HB.out | apply below_alloc | apply pw_below_drewN | apply below_drew1) | exact HB.out)))); (case aL => have := LMc17.out; omega); intro v695 w31 ho hb hg hat; rw [← Ny694.out] at ho; have n0_ := Aside0.mk (Kd.S_after (ok := (fun _ => True)) (by (with_reducible repeat (first | apply Kd.S_alloc | apply Kd.S_drewN | apply Kd.S_drew)); exact HO_9.out) hg hat); have n1_ := Aside0.mk (Kd.R_after (ok := (fun k_ => some k_ ≠ (.slice (some ad690) x9_1.length co28 : Value).ownBlock)) (by (with_reducible repeat (first | apply Kd.R_alloc | apply Kd.R_drewN | apply Kd.R_drew)); exact Kd.R_mono HL690_1.out (fun _ hk => ⟨hk.1.2, hk.2⟩)) hg hat); have n2_ := Aside0.mk (hb); have n3_ := Aside0.mk (ho); clear HO_9; clear HL690_1; clear HB; clear HO693; have HO_9 := n0_; have HL690_1 := n1_; have HB := n2_; have HO696 := n3_; clear n0_ n1_ n2_ n3_; clear ho hb hg hat; obtain ⟨Ao32, co32, eo32⟩ := Kd.R_slice HO696.out; subst eo32; have p18 : 0 ≤ (x10_1 : Int) := of_decide_eq_true (by first | (with_reducible assumption) | assumption); have q18 : (x10_1 : Int) < ((x9_1.length : Int) : Int) := of_decide_eq_true (by first | (with_reducible assumption) | assumption); obtain ⟨go18, co18, eo18, gb18, gl18, cl18, HG18⟩ := Kd.S_form HO_9.out (by omega); (first | cases eo18 | (injection eo18 with ea_ en_ ec_; (first | subst ea_ | (injection ea_ with ea_; subst ea_)); subst ec_; clear en_)); have GB18 := Aside0.mk gb18; have GG18 := Aside0.mk HG18; clear gb18 gl18 HG18; (first | simp only [add_plain] at hx690_0 | skip); (first | simp only [add_plain] at hx690_1 | skip); obtain ⟨_, ce18, hcl18, hM18, hcc18, hfr18, _, _⟩ := Kd.S_elem HO_9.out z62 (x10_1 : Int) p18 q18; obtain ⟨ve18_1, rfl, ge18_1⟩ := k62_openM hM18; have hx18_0 : w31.cell? ⟨go18, (x10_1 : Int).toNat * 2, none⟩ = some (.int .i64 ((rd_T62 x9_1 x10_1).f0)) := hcc18 0 _ rfl; have hx18_1 : w31.cell? ⟨go18, (x10_1 : Int).toNat * 2 + 1, none⟩ = some (ve18_1) := hcc18 1 _ rfl; have hf18_0 : w31.frozen? ⟨go18, (x10_1 : Int).toNat * 2, none⟩ = false := hfr18 0; have hf18_1 : w31.frozen? ⟨go18, (x10_1 : Int).toNat * 2 + 1, none⟩ = false := hfr18 1; (try clear hcl18); (try clear hcc18); (try clear hfr18); (try clear hM18); replace p18 := eq_true p18; replace q18 := eq_true q18; have n_ := Aside0.mk (Kd.S_mono (ok' := (fun k_ => some k_ ≠ (.slice Ao32 y694.length co32 : Value).ownBlock)) HO_9.out (fun k_ hk => hk.2)); clear HO_9; have HO_9 := n_; clear n_; have HX33 := Aside0.mk (show Kd.S k62 62 w31 w.heap.size (fun k_ => ((fun _ => True)) k_ ∧ ¬ ((fun k_ => some k_ = (.slice Ao32 y694.length co32 : Value).ownBlock)) k_) (.slice (some ⟨go18, 0, none⟩) x9_1.length co28) x9_1 from (by (with_reducible repeat (first | apply Kd.S_alloc | apply Kd.S_drewN | apply Kd.S_drew)); exact Kd.S_mono HO_9.out (fun k_ hk => ⟨trivial, fun e_ => hk e_⟩))); obtain ⟨oki33, ce33, hcl33, hM33, hcc33, hfr33, hoki33, hH33⟩ := Kd.S_elem HX33.out z62 (x10_1 : Int) (of_decide_eq_true (by first | (with_reducible assumption) | assumption)) (by have h_ : (x10_1 : Int) < ((x9_1.length : Int) : Int) := of_decide_eq_true (by first | (with_reducible assumption) | assumption); first | exact h_ | (have e_ := (Kd.S_reads' HO_9.out).1; omega) | simpa using h_); obtain ⟨ve33_1, rfl, ge33_1⟩ := k62_openM hM33; have HP33 := Kd.S_seg hH33 (of_decide_eq_true (by first | (with_reducible assumption) | assumption)) (by have h_ : (x10_1 : Int) < ((x9_1.length : Int) : Int) := of_decide_eq_true (by first | (with_reducible assumption) | assumption); first | exact h_ | (have e_ := (Kd.S_reads' HO_9.out).1; omega) | simpa using h_) (seg := [.int .i64 a2, .slice Ao32 y694.length co32]) (j := 0) (show 2 ≤ 2 from by decide) (x' := (⟨a2, y694⟩ : S62)) (k62_mkM _ _ _ (⟨a2, y694⟩ : S62) (Kd.R_mono (Kd.R_tight rfl (Kd.R_mono (ok' := fun k_ => ((fun _ => True)) k_ ∧ k_ ≠ go18) (Kd.R_apart' (HO696.out) (Kd.S_typed HO_9.out) (by decide)) (fun k_ hk => ⟨trivial, fun e_ => (hk.2) (by rw [e_]; rfl)⟩))) (fun _ h_ => Or.inr (h_)))) (fun _ hk => hk) (fun k_ hk_ => ((Kd.R_mono (ok' := fun k_ => ((fun _ => True)) k_ ∧ k_ ≠ go18) (Kd.R_apart' (HO696.out) (Kd.S_typed HO_9.out) (by decide)) (fun k_ hk => ⟨trivial, fun e_ => (hk.2) (by rw [e_]; rfl)⟩))).1 k_ hk_.symm); have hx33_0 := hcc33 0 _ rfl; (try simp only [show (k62).sz = 2 from rfl, Nat.mul_one, Nat.add_zero] at hx33_0); have hf33_0 := hfr33 0; (try simp only [show (k62).sz = 2 from rfl, Nat.mul_one, Nat.add_zero] at hf33_0); have hx33_1 := hcc33 1 _ rfl; (try simp only [show (k62).sz = 2 from rfl, Nat.mul_one, Nat.add_zero] at hx33_1); have hf33_1 := hfr33 1; (try simp only [show (k62).sz = 2 from rfl, Nat.mul_one, Nat.add_zero] at hf33_1); (try clear hcl33); (try clear hcc33); (try clear hfr33); (try clear hM33); (try clear hoki33); (try clear hH33)) | ((with_reducible refine gate_store (t := 62) (p := 40) rfl ?_); refine store_event (t := 62) (p := 40) (v := ?vo_w34) (w1 := ((w31.setCell ⟨go18, (x10_1 : Int).toNat * 2, none⟩ (.int .i64 a2)).setCell ⟨go18, (x10_1 : Int).toNat * 2 + 1, none⟩ (.slice Ao32 y694.length co32))) ?hg ?ho ?hn ?hr ?_; (case ho => rfl); (case hg => rfl); (case hn => rfl); (case hr => first | (go_simp; done) | (go_simp; rfl)); intro w34 hw; have hg : w31.grownBy w34 (some go18) := (by rw [hw]; exact HP33.2); have hp_ : Kd.S k62 62 w34 w.heap.size (fun _ => True) (.slice (some ⟨go18, 0, none⟩) x9_1.length co28) y697 := (by rw [hw, Ny697.out]; exact HP33.1); clear HP33; have n0_ := Aside0.mk (hp_); have n1_ := Aside0.mk (Kd.R_after (v := (.slice (some ⟨go18, 0, none⟩) x9_1.length co28)) (v1 := (.slice (some ⟨go18, 0, none⟩) x9_1.length co28)) (ok := (fun k_ => some k_ ≠ (.slice Ao32 y694.length co32 : Value).ownBlock)) (by (with_reducible repeat (first | apply Kd.R_alloc | apply Kd.R_drewN | apply Kd.R_drew)); exact Kd.R_mono HL690_1.out (fun _ hk => ⟨hk.2, hk.1⟩)) hg (.inl rfl)); have n2_ := Aside0.mk ((by rw [hw]; exact below_set (below_set (HB.out) GB18.out) GB18.out : Below w.heap.size w w34)); clear HO_9; clear HL690_1; clear HB; clear HO696; have HO_9 := n0_; have HL690_1 := n1_; have HB := n2_; clear n0_ n1_ n2_; clear hg hw hp_) | ((with_reducible refine gate_callee (f := 43) rfl ?_); refine goesL_ (some 42) rfl rfl Try.func43 (by kernel_rfl) rfl #[.slice (some ⟨go18, 0, none⟩) y697.length co28] rfl (by (try simp only [List.map_toArray, List.map_cons, List.map_nil]); first | done | (rw [show y697.length = x9_1.length from (Kd.S_reads' HO_9.out).1.symm] <;> rfl) | rfl | (simp only [List.length_drop, List.length_take]; rfl)) ?_; (with_reducible refine (spec_SlotsOk.calls kj5 _ _ y697 false _ ?side1 ?side2 A19.out).mono ?_); (case side1 => repeat (first | exact (Kd.S_reads' HO_9.out).2.2 | (with_reducible refine Kd.C_alloc ?_ _) | (with_reducible refine Kd.C_drewN ?_ _) | (with_reducible refine Kd.C_drew ?_))); (case side2 => rw [show y697.length = x9_1.length from (Kd.S_reads' HO_9.out).1.symm]; exact (Kd.S_reads' HO_9.out).2.1); rintro e w' ⟨rfl, ⟨nd, rfl⟩⟩; refine ⟨_, rfl, ?_⟩) | ((with_reducible refine gate_dst (N := 44) rfl ?_); refine Kd.S_lit k62 _ 62 ?hg (N := 44) ?hd (xs := ([] : List (S62))) (inner := []) (ok := fun _ => True) (okp := fun _ => True) ?hr ?hp (fun _ hk => hk) trivial (Below.refl _ _) (Nat.le_refl _) (by simp) ?_; (case hd => rfl); (case hg => rfl); (case hr => first | (go_simp; done) | (go_simp; rfl)); (case hp => exact (Reps.none _ _)); intro v700 w35 ho36 hb hg_ hnew_; clear hg_ hnew_; (first | rw [← Ny699.out] at ho36 | (simp only [Int.reduceToNat] at ho36; rw [← Ny699.out] at ho36)); have n0_ := Aside0.mk (Kd.S_elder' (by (with_reducible repeat (first | apply Kd.S_alloc | apply Kd.S_drewN | apply Kd.S_drew)); exact HO_9.out) (Kd.S_base ho36) hb); have n1_ := Aside0.mk (Kd.R_below (by (with_reducible repeat (first | apply Kd.R_alloc | apply Kd.R_drewN | apply Kd.R_drew)); exact HL690_1.out) hb); have n2_ := Aside0.mk (Kd.S_lower (Kd.S_new' (Kd.S_new' ho36 (Kd.S_lt (by (with_reducible repeat (first | apply Kd.S_alloc | apply Kd.S_drewN | apply Kd.S_drew)); exact HO_9.out))) (Kd.R_lt (by (with_reducible repeat (first | apply Kd.R_alloc | apply Kd.R_drewN | apply Kd.R_drew)); exact HL690_1.out))) (below_size (by repeat (first | (with_reducible first | exact HB.out | apply below_alloc | apply pw_below_drewN | apply below_drew1) | exact HB.out)))); have n3_ := Aside0.mk (below_step (by repeat (first | (with_reducible first | exact HB.out | apply below_alloc | apply pw_below_drewN | apply below_drew1) | exact HB.out)) hb); clear HO_9; clear HL690_1; clear HB; have HO_9 := n0_; have HL690_1 := n1_; have HO701 := n2_; have HB := n3_; clear n0_ n1_ n2_ n3_; clear hb ho36))
                      go_ret3
                      exact ⟨_, by first | rfl | (simp [errW_none, errW_some] <;> rfl) | (simp [*, errW_none, errW_some] <;> rfl), by (with_reducible repeat (first | apply Kd.S_alloc | apply Kd.S_drewN | apply Kd.S_drew)); exact Kd.S_mono HO701.out (fun _ hk => trivial), by repeat (first | (with_reducible first | exact HB.out | apply below_alloc | apply pw_below_drewN | apply below_drew1) | exact HB.out)⟩
                  · rw [if_neg c17] at H
                    exact absurd H (by simp)
                · rw [if_neg c16] at H
                  have c16b0 : (((rd_T62 x9_1 x10_1).f0) == 0) = false := beq_eq_false_iff_ne.mpr c16
                  have c16b1 : (((rd_T62 x9_1 x10_1).f0) != 0) = true := bne_iff_ne.mpr c16
                  have H' := Aside0.mk H
                  clear H
                  obtain ⟨Ao37, co37, eo37⟩ := Kd.S_slice HO_9.out
                  subst eo37
                  have p690 : 0 ≤ (x10_1 : Int) := of_decide_eq_true (by first | (with_reducible assumption) | assumption)
                  have q690 : x10_1 < (x9_1.length : Int) := of_decide_eq_true (by first | (with_reducible assumption) | assumption)
                  obtain ⟨ad690, A690_1, c690_1, e690, hx690_0, hx690_1, hl690_1, hi690_1⟩ := at_T62 (Kd.S_reads' HO_9.out).2.2 x10_1 p690 q690
                  cases e690
                  obtain ⟨ce690, hce690, hMe690, hcc690⟩ := Kd.S_get HO_9.out z62 x10_1 p690 (by first | exact q690 | exact of_decide_eq_true (by first | (with_reducible assumption) | assumption) | (have e_ := (Kd.S_reads' HO_9.out).1; omega))
                  obtain ⟨ve690_1, rfl, ge690_1⟩ := k62_openM hMe690
                  have hv690_1 := hcc690 1 _ rfl
                  rw [add_field _ _ 1 (by omega)] at hv690_1
                  replace hv690_1 := Option.some.inj (hv690_1.symm.trans hx690_1)
                  rw [hv690_1] at ge690_1
                  have HL690_1 := Aside0.mk (show Kd.R (Kd.int .i64) 3 _ _ _ _ ((rd_T62 x9_1 x10_1).f1) from ge690_1)
                  clear hv690_1 ge690_1
                  clear hcc690 hce690
                  have HR690_1 := Aside0.mk hi690_1
                  have HC690_1 := Aside0.mk hl690_1
                  clear hi690_1 hl690_1
                  replace p690 := eq_true p690
                  replace q690 := eq_true q690
                  go_wp2
                  go_roundg kj5
                  case measure => have := HK1.out; have := HJ5.out; omega
                  case rel => exact ⟨(x9_1), (wrap64 (x10_1 + 1)), (by first | rfl | (simp; done) | (simp [*]; done)), H', ⟨by have := HK1.out; have := HJ5.out; omega⟩, ⟨by (with_reducible repeat (first | apply Kd.S_alloc | apply Kd.S_drewN | apply Kd.S_drew)); exact HO_9.out⟩, ⟨by repeat (first | (with_reducible first | exact HB.out | apply below_alloc | apply pw_below_drewN | apply below_drew1) | exact HB.out)⟩⟩
              · rw [if_neg c15] at H
                exact absurd H (by simp)
            · rw [if_neg c14] at H
              exact absurd H (by simp)
          · replace c13 := Bool.eq_false_iff.mpr c13
            subst c13
            have H1 : (some ((([] : List (S62))), 0, false)) = some (r1, r2, r3) := by rw [if_neg (show ¬ (false = true) by decide)] at H; exact H
            clear H
            have H := H1
            clear H1
            obtain ⟨y687, hy687⟩ : ∃ y_ : List (S62), y_ = (([] : List (S62))) := ⟨_, rfl⟩
            replace H : (some (y687, 0, false)) = some (r1, r2, r3) := by first | (rw [hy687]; with_reducible exact H) | (have H2_ := (Option.bind_some _ _).symm.trans H; rw [hy687]; with_reducible exact H2_) | (have H2_ := (Option.bind_some _ _).symm.trans H; with_reducible exact H2_) | with_reducible exact H | (rw [hy687]; exact H) | exact H
            have Ny687 := Aside0.mk hy687
            clear hy687
            simp only [Option.some.injEq, Prod.mk.injEq] at H
            obtain ⟨rfl, rfl, rfl⟩ := H
            go_wp2_with (first | ((with_reducible refine gate_dst (N := 47) rfl ?_); refine Kd.S_lit k62 _ 62 ?hg (N := 47) ?hd (xs := ([] : List (S62))) (inner := []) (ok := fun _ => True) (okp := fun _ => True) ?hr ?hp (fun _ hk => hk) trivial (Below.refl _ _) (Nat.le_refl _) (by simp) ?_; (case hd => rfl); (case hg => rfl); (case hr => first | (go_simp; done) | (go_simp; rfl)); (case hp => exact (Reps.none _ _)); intro v688 w38 ho39 hb hg_ hnew_; clear hg_ hnew_; (first | rw [← Ny687.out] at ho39 | (simp only [Int.reduceToNat] at ho39; rw [← Ny687.out] at ho39)); have n0_ := Aside0.mk (Kd.S_elder' (by (with_reducible repeat (first | apply Kd.S_alloc | apply Kd.S_drewN | apply Kd.S_drew)); exact HO_9.out) (Kd.S_base ho39) hb); have n1_ := Aside0.mk (Kd.S_lower (Kd.S_new' ho39 (Kd.S_lt (by (with_reducible repeat (first | apply Kd.S_alloc | apply Kd.S_drewN | apply Kd.S_drew)); exact HO_9.out))) (below_size (by repeat (first | (with_reducible first | exact HB.out | apply below_alloc | apply pw_below_drewN | apply below_drew1) | exact HB.out)))); have n2_ := Aside0.mk (below_step (by repeat (first | (with_reducible first | exact HB.out | apply below_alloc | apply pw_below_drewN | apply below_drew1) | exact HB.out)) hb); clear HO_9; clear HB; have HO_9 := n0_; have HO689 := n1_; have HB := n2_; clear n0_ n1_ n2_; clear hb ho39))
            go_ret3
            exact ⟨_, by first | rfl | (simp [errW_none, errW_some] <;> rfl) | (simp [*, errW_none, errW_some] <;> rfl), by (with_reducible repeat (first | apply Kd.S_alloc | apply Kd.S_drewN | apply Kd.S_drew)); exact Kd.S_mono HO689.out (fun _ hk => trivial), by repeat (first | (with_reducible first | exact HB.out | apply below_alloc | apply pw_below_drewN | apply below_drew1) | exact HB.out)⟩

end Go.Proofs.Ytdpejnckojhgjaa.P
end
section
namespace Go.Proofs.Ytdpejnckojhgjaa.P
open Go.RowKit Go.Proofs.YtdpejnckojhgjaaW.PrintWords Go.Proofs.YtdpejnckojhgjaaW.PrintLast Go.Proofs.YtdpejnckojhgjaaW.PrintMore
attribute [local go_sem] max2_int min2_int max_two min_two max_three min_three max_four min_four   -- for this text's walks alone
set_option linter.unusedVariables false
set_option linter.unusedSimpArgs false

/-! ### impl_less: function 106 -/
def impl_less.f (l0 : List S62) (a1 : Int) : Option (List S62) := if 0 ≤ a1 then (if a1 < (l0.length : Int) then (if wrap64 ((l0.getD a1.toNat z62).f0 - 1) = 0 then some (l0.set a1.toNat (⟨wrap64 ((l0.getD a1.toNat z62).f0 - 1), []⟩ : S62)) else some (l0.set a1.toNat (⟨wrap64 ((l0.getD a1.toNat z62).f0 - 1), (l0.getD a1.toNat z62).f1⟩ : S62))) else none) else none
theorem impl_less.get_set {xs : List S62} {a z : S62} {i : Int} (h0 : 0 ≤ i) (h1 : i < (xs.length : Int)) : (xs.set i.toNat a).getD i.toNat z = a := by
  rw [List.getD_eq_getElem?_getD, List.getElem?_set_self (by omega)]
  rfl
set_option maxHeartbeats 3200000 in
set_option maxRecDepth 100000 in
theorem impl_less.calls (P0_ : Nat → Prop) (u9000_ : Value) (l0 : List S62) (a1 : Int) (r1 : List S62) (w0 w : World) (hB : Below w0.heap.size w0 w) (ho0 : Kd.S k62 62 w w0.heap.size P0_ u9000_ l0) (h : impl_less.f l0 a1 = some r1) :
    Calls Try.prog 106 #[u9000_, .int .i64 a1] w fun e w' => e = .returned (.tuple #[]) ∧ Kd.S k62 62 w' w0.heap.size (fun k_ => (P0_ k_ ∨ w.heap.size ≤ k_)) u9000_ r1 ∧ Below w0.heap.size w0 w' ∧ Kept w w' (fun k_ => P0_ k_) := by
  have HO := Aside0.mk (show Kd.S k62 62 w w0.heap.size (fun k_ => (P0_ k_ ∨ w.heap.size ≤ k_)) u9000_ l0 from Kd.S_mono ho0 (fun k_ hk => (.inl hk)))
  have HK := Aside0.mk (Kept.refl w (fun k_ => P0_ k_))
  have HB := Aside0.mk hB
  have hgok0 : ∀ g, u9000_.ownBlock = some g → P0_ g := (Kd.S_R ho0).1
  clear hB ho0
  unfold impl_less.f at h
  obtain ⟨An, cn, en⟩ := Kd.S_slice HO.out
  subst en
  by_cases c4 : 0 ≤ a1
  · rw [if_pos c4] at h
    by_cases c3 : a1 < (l0.length : Int)
    · rw [if_pos c3] at h
      obtain ⟨g, cap, eg, gb, gl, cl, HG⟩ := Kd.S_form HO.out (by omega)
      obtain ⟨ea, ec⟩ : An = some ⟨g, 0, none⟩ ∧ cn = cap := by injection eg with a b c; exact ⟨a, c⟩
      subst ea ec
      clear eg HG cl
      have GB := Aside0.mk gb
      have hgok : P0_ g := hgok0 g (by simp [Value.ownBlock])
      have HGK := Aside0.mk hgok
      have C3 := Aside0.mk c3
      have C4 := Aside0.mk c4
      have C3b := decide_eq_true c3
      have C4b := decide_eq_true c4
      clear hgok gb gl hgok0
      obtain ⟨y, hy⟩ : ∃ y, l0.getD a1.toNat z62 = y := ⟨_, rfl⟩
      rw [hy] at h
      have HY := Aside0.mk hy
      clear hy
      have HX := Aside0.mk (show Kd.S k62 62 w w0.heap.size (fun k_ => (P0_ k_ ∨ w.heap.size ≤ k_) ∧ ¬ ((fun _ => False) : Nat → Prop) k_) (.slice (some ⟨g, 0, none⟩) l0.length cn) l0 from (Kd.S_mono HO.out (fun k_ hk => ⟨hk, fun e_ => e_⟩)))
      obtain ⟨oki, ce, hcl, hM, hcc, hfr, hoki, hH⟩ := Kd.S_elem HX.out z62 a1 C4.out C3.out
      rw [HY.out] at hM
      obtain ⟨ve, rfl, ge⟩ := k62_openM hM
      have HP := Aside0.mk (Kd.S_seg hH C4.out C3.out (seg := [.int .i64 (wrap64 (y.f0 - 1))]) (j := 0) (show 1 ≤ 2 from by decide) (x' := (⟨wrap64 (y.f0 - 1), y.f1⟩ : S62)) (k62_mkM _ _ _ (⟨wrap64 (y.f0 - 1), y.f1⟩ : S62) (Kd.R_mono ge (fun _ h_ => Or.inl h_))) (fun _ hk => hk) (fun k_ hk_ => hk_.elim))
      have hx := hcc 0 _ rfl
      have hf := hfr 0
      simp only [show (k62).sz = 2 from rfl, Nat.add_zero] at hx hf
      clear hcl hcc hfr hM hoki hH ge HX
      by_cases cz : wrap64 (y.f0 - 1) = 0
      · rw [if_pos cz] at h
        have H' := Aside0.mk (Option.some.inj h)
        have czb : (wrap64 (y.f0 - 1) == 0) = true := beq_iff_eq.mpr cz
        have CZ := Aside0.mk cz
        clear h cz
        go_enter Try.func106, Try.ntmps106
        go_wp2_with (first | ((with_reducible refine gate_store (t := 3) (p := 11) rfl ?_); refine store_event (t := 3) (p := 11) (v := ?vo1) (w1 := (World.setCell w ⟨g, a1.toNat * 2, none⟩ (.int .i64 (wrap64 (y.f0 - 1))))) ?hg ?ho ?hn ?hr ?_; (case ho => rfl); (case hg => rfl); (case hn => rfl); (case hr => first | (go_simp; done) | (go_simp; rfl)); intro w10 hw; have hS : Kd.S k62 62 w10 w0.heap.size (fun k_ => (P0_ k_ ∨ w.heap.size ≤ k_)) (.slice (some ⟨g, 0, none⟩) l0.length cn) (l0.set a1.toNat (⟨wrap64 (y.f0 - 1), y.f1⟩ : S62)) := (by rw [hw]; exact HP.out.1); have hg : World.grownBy w w10 (some g) := (by rw [hw]; exact HP.out.2); have n0_ := Aside0.mk hS; have n1_ := Aside0.mk (Kept.of_grown hg HK.out (fun k_ e_ => by injection e_ with e_; subst e_; exact .inl HGK.out)); have n2_ := Aside0.mk (HB.out.grown hg HB.out.size (fun k_ e_ => by injection e_ with e_; subst e_; exact GB.out)); clear HP HO HK HB hS hg hw hx hf; have HO := n0_; have HK := n1_; have HB := n2_; clear n0_ n1_ n2_; have HX := Aside0.mk (show Kd.S k62 62 w10 w0.heap.size (fun k_ => (P0_ k_ ∨ w.heap.size ≤ k_) ∧ ¬ ((fun _ => False) : Nat → Prop) k_) (.slice (some ⟨g, 0, none⟩) l0.length cn) (l0.set a1.toNat (⟨wrap64 (y.f0 - 1), y.f1⟩ : S62)) from (Kd.S_mono HO.out (fun k_ hk => ⟨hk, fun e_ => e_⟩))); obtain ⟨oki, ce, hcl, hM, hcc, hfr, hoki, hH⟩ := Kd.S_elem HX.out z62 a1 C4.out C3.out; rw [impl_less.get_set C4.out C3.out] at hM; obtain ⟨ve, rfl, ge⟩ := k62_openM hM; have HP := Aside0.mk (Kd.S_seg hH C4.out C3.out (seg := [.slice none 0 0]) (j := 1) (show 2 ≤ 2 from by decide) (x' := (⟨wrap64 (y.f0 - 1), []⟩ : S62)) (k62_mkM _ _ _ (⟨wrap64 (y.f0 - 1), []⟩ : S62) (Kd.R_nil _ _ _ _ (fun k_ => oki k_ ∨ False))) (fun _ hk => hk) (fun k_ hk_ => hk_.elim)); rw [List.set_set] at HP; have hx := hcc 0 _ rfl; have hx1 := hcc 1 _ rfl; have hf := hfr 1; simp only [show (k62).sz = 2 from rfl, Nat.add_zero] at hx hx1 hf; clear hcl hcc hfr hM hoki hH ge HX) | ((with_reducible refine gate_store (t := 22) (p := 21) rfl ?_); refine store_event (t := 22) (p := 21) (v := ?vo2) (w1 := (World.setCell w10 ⟨g, a1.toNat * 2 + 1, none⟩ (.slice none 0 0))) ?hg ?ho ?hn ?hr ?_; (case ho => rfl); (case hg => rfl); (case hn => rfl); (case hr => first | (go_simp; done) | (go_simp; rfl)); intro w11 hw; have hS : Kd.S k62 62 w11 w0.heap.size (fun k_ => (P0_ k_ ∨ w.heap.size ≤ k_)) (.slice (some ⟨g, 0, none⟩) l0.length cn) (l0.set a1.toNat (⟨wrap64 (y.f0 - 1), []⟩ : S62)) := (by rw [hw]; exact HP.out.1); have hg : World.grownBy w10 w11 (some g) := (by rw [hw]; exact HP.out.2); have n0_ := Aside0.mk hS; have n1_ := Aside0.mk (Kept.of_grown hg HK.out (fun k_ e_ => by injection e_ with e_; subst e_; exact .inl HGK.out)); have n2_ := Aside0.mk (HB.out.grown hg HB.out.size (fun k_ e_ => by injection e_ with e_; subst e_; exact GB.out)); clear HP HO HK HB hS hg hw hx hx1 hf; have HO := n0_; have HK := n1_; have HB := n2_; clear n0_ n1_ n2_))
        first | go_end0 | ((try simp only [Exit.inBlock, Exit.then]); refine bodyPost_ret (results_none rfl _ _ _) rfl ?_)
        rw [← H'.out]
        exact ⟨rfl, HO.out, HB.out, HK.out⟩
      · rw [if_neg cz] at h
        have H' := Aside0.mk (Option.some.inj h)
        have czb : (wrap64 (y.f0 - 1) == 0) = false := beq_eq_false_iff_ne.mpr cz
        clear h cz
        go_enter Try.func106, Try.ntmps106
        go_wp2_with (first | ((with_reducible refine gate_store (t := 3) (p := 11) rfl ?_); refine store_event (t := 3) (p := 11) (v := ?vo1) (w1 := (World.setCell w ⟨g, a1.toNat * 2, none⟩ (.int .i64 (wrap64 (y.f0 - 1))))) ?hg ?ho ?hn ?hr ?_; (case ho => rfl); (case hg => rfl); (case hn => rfl); (case hr => first | (go_simp; done) | (go_simp; rfl)); intro w10 hw; have hS : Kd.S k62 62 w10 w0.heap.size (fun k_ => (P0_ k_ ∨ w.heap.size ≤ k_)) (.slice (some ⟨g, 0, none⟩) l0.length cn) (l0.set a1.toNat (⟨wrap64 (y.f0 - 1), y.f1⟩ : S62)) := (by rw [hw]; exact HP.out.1); have hg : World.grownBy w w10 (some g) := (by rw [hw]; exact HP.out.2); have n0_ := Aside0.mk hS; have n1_ := Aside0.mk (Kept.of_grown hg HK.out (fun k_ e_ => by injection e_ with e_; subst e_; exact .inl HGK.out)); have n2_ := Aside0.mk (HB.out.grown hg HB.out.size (fun k_ e_ => by injection e_ with e_; subst e_; exact GB.out)); clear HP HO HK HB hS hg hw hx hf; have HO := n0_; have HK := n1_; have HB := n2_; clear n0_ n1_ n2_; obtain ⟨oki, ce, hcl, hM, hcc, hoki, hH⟩ := Kd.S_lend HO.out z62 a1 C4.out (show a1 < (l0.length : Int) from C3.out); rw [impl_less.get_set C4.out C3.out] at hM; obtain ⟨ve, rfl, ge⟩ := k62_openM hM; have hx := hcc 0 _ rfl; simp only [show (k62).sz = 2 from rfl, Nat.add_zero] at hx; clear hcl hcc hM hoki hH ge))
        first | go_end0 | ((try simp only [Exit.inBlock, Exit.then]); refine bodyPost_ret (results_none rfl _ _ _) rfl ?_)
        rw [← H'.out]
        exact ⟨rfl, HO.out, HB.out, HK.out⟩
    · rw [if_neg c3] at h; exact absurd h (by simp)
  · rw [if_neg c4] at h; exact absurd h (by simp)

end Go.Proofs.Ytdpejnckojhgjaa.P
end
section
namespace Go.Proofs.Ytdpejnckojhgjaa.P
open Go.RowKit Go.Proofs.YtdpejnckojhgjaaW.PrintWords Go.Proofs.YtdpejnckojhgjaaW.PrintLast Go.Proofs.YtdpejnckojhgjaaW.PrintMore
attribute [local go_sem] max2_int min2_int max_two min_two max_three min_three max_four min_four   -- for this text's walks alone
set_option linter.unusedVariables false
set_option linter.unusedSimpArgs false

/-! ### impl_LessOf: function 47 -/
def impl_LessOf.f (k : Nat) (l0 : List S62) (a1 : Int) : Option (List S62 × Bool) := (impl_SlotsOk.f k l0).bind fun t1 => (if t1 = true then ((impl_isHeld.f l0 a1).bind fun t2 => (if t2 = true then ((impl_copySlots.f k l0).bind fun t => ((impl_less.f t a1).bind fun r => some (r, true))) else (some ([], false)))) else (some ([], false)))
theorem impl_LessOf.mono : ∀ a0 a1 k, LeO (impl_LessOf.f k a0 a1) (impl_LessOf.f (k + 1) a0 a1) := by
  intro a0 a1 k
  unfold impl_LessOf.f
  repeat' first
      | (with_reducible exact impl_SlotsOk.mono _ _)
      | (with_reducible exact impl_copySlots.mono _ _)
      | (with_reducible exact LeO.refl _)
      | (with_reducible exact LeO.none _)
      | (with_reducible refine LeO.ite ?_ ?_)
      | (with_reducible refine LeO.bind ?_ (fun _ => ?_))
set_option maxHeartbeats 8000000 in
set_option maxRecDepth 100000 in
theorem impl_LessOf.calls (k : Nat) (A0 : Option Addr) (c0 : Nat) (l0 : List S62) (a1 : Int) (r1 : List S62) (r2 : Bool) (w : World) (hr0 : Kd.C k62 w A0 l0.length l0) (hc0 : l0.length ≤ c0) (h : impl_LessOf.f k l0 a1 = some (r1, r2)) :
    Calls Try.prog 47 #[.slice A0 l0.length c0, .int .i64 a1] w fun e w' => ∃ v0_ : Value, e = .returned (.tuple #[v0_, .bool r2]) ∧ Kd.S k62 62 w' w.heap.size (fun _ => True) v0_ r1 ∧ Below w.heap.size w w' := by
  have HR0 := Aside0.mk hr0
  have HC0 := Aside0.mk hc0
  clear hr0 hc0
  have HB := Aside0.mk (Below.refl w.heap.size w)
  have H := h
  clear h
  unfold impl_LessOf.f at H
  obtain ⟨t1, A1, H⟩ := Option.bind_eq_some_iff.mp H
  have A1 := Aside0.mk A1
  cases t1 with
  | false =>
    simp only [Bool.false_eq_true, if_false, Option.some.injEq, Prod.mk.injEq] at H
    obtain ⟨rfl, rfl⟩ := H
    go_enter Try.func47, Try.ntmps47
    go_wp2_with (first | ((with_reducible refine gate_callee (f := 46) rfl ?_); refine goesL_ (some 8) rfl rfl Try.func46 (by kernel_rfl) rfl #[.slice A0 l0.length c0] rfl (by (try simp only [List.map_toArray, List.map_cons, List.map_nil]); first | done | rfl) ?_; (with_reducible refine (impl_SlotsOk.calls k _ _ l0 false _ ?side1 ?side2 A1.out).mono ?_); (case side1 => exact Kd.C_below HR0.out HB.out); (case side2 => exact HC0.out); rintro e w1 ⟨rfl, hb⟩; refine ⟨_, rfl, ?_⟩; have n0_ := Aside0.mk (below_step HB.out hb); clear HB; have HB := n0_; clear n0_ hb))
    go_ret2
    exact ⟨_, rfl, Kd.S_nil _ _ _ _ _, HB.out⟩
  | true =>
    simp only [if_true] at H
    obtain ⟨t2, A2, H⟩ := Option.bind_eq_some_iff.mp H
    have A2 := Aside0.mk A2
    cases t2 with
    | false =>
      simp only [Bool.false_eq_true, if_false, Option.some.injEq, Prod.mk.injEq] at H
      obtain ⟨rfl, rfl⟩ := H
      go_enter Try.func47, Try.ntmps47
      go_wp2_with (first | ((with_reducible refine gate_callee (f := 46) rfl ?_); refine goesL_ (some 8) rfl rfl Try.func46 (by kernel_rfl) rfl #[.slice A0 l0.length c0] rfl (by (try simp only [List.map_toArray, List.map_cons, List.map_nil]); first | done | rfl) ?_; (with_reducible refine (impl_SlotsOk.calls k _ _ l0 true _ ?side1 ?side2 A1.out).mono ?_); (case side1 => exact Kd.C_below HR0.out HB.out); (case side2 => exact HC0.out); rintro e w1 ⟨rfl, hb⟩; refine ⟨_, rfl, ?_⟩; have n0_ := Aside0.mk (below_step HB.out hb); clear HB; have HB := n0_; clear n0_ hb) | (go_at_call 93; (with_reducible refine (impl_isHeld.calls _ _ l0 a1 false _ ?side1 ?side2 A2.out).mono ?_); (case side1 => exact Kd.C_below HR0.out HB.out); (case side2 => exact HC0.out); rintro e w2 ⟨rfl, hd_⟩; have hb := Drawn0.below hd_; have n0_ := Aside0.mk (below_step HB.out hb); clear HB; have HB := n0_; clear n0_ hb hd_))
      go_ret2
      exact ⟨_, rfl, Kd.S_nil _ _ _ _ _, HB.out⟩
    | true =>
      simp only [if_true] at H
      obtain ⟨t, A3, H⟩ := Option.bind_eq_some_iff.mp H
      have A3 := Aside0.mk A3
      obtain ⟨r, A4, H⟩ := Option.bind_eq_some_iff.mp H
      have A4 := Aside0.mk A4
      simp only [Option.some.injEq, Prod.mk.injEq] at H
      obtain ⟨rfl, rfl⟩ := H
      go_enter Try.func47, Try.ntmps47
      go_wp2_with (first | ((with_reducible refine gate_callee (f := 46) rfl ?_); refine goesL_ (some 8) rfl rfl Try.func46 (by kernel_rfl) rfl #[.slice A0 l0.length c0] rfl (by (try simp only [List.map_toArray, List.map_cons, List.map_nil]); first | done | rfl) ?_; (with_reducible refine (impl_SlotsOk.calls k _ _ l0 true _ ?side1 ?side2 A1.out).mono ?_); (case side1 => exact Kd.C_below HR0.out HB.out); (case side2 => exact HC0.out); rintro e w1 ⟨rfl, hb⟩; refine ⟨_, rfl, ?_⟩; have n0_ := Aside0.mk (below_step HB.out hb); clear HB; have HB := n0_; clear n0_ hb) | (go_at_call 93; (with_reducible refine (impl_isHeld.calls _ _ l0 a1 true _ ?side1 ?side2 A2.out).mono ?_); (case side1 => exact Kd.C_below HR0.out HB.out); (case side2 => exact HC0.out); rintro e w2 ⟨rfl, hd_⟩; have hb := Drawn0.below hd_; have n0_ := Aside0.mk (below_step HB.out hb); clear HB; have HB := n0_; clear n0_ hb hd_) | ((with_reducible refine gate_callee (f := 94) rfl ?_); refine goesL_ (some 17) rfl rfl Try.func94 (by kernel_rfl) rfl #[.slice A0 l0.length c0] rfl (by (try simp only [List.map_toArray, List.map_cons, List.map_nil]); first | done | rfl) ?_; (with_reducible refine (impl_copySlots.calls k _ _ l0 t _ ?side1 ?side2 A3.out).mono ?_); (case side1 => exact Kd.C_below HR0.out HB.out); (case side2 => exact HC0.out); rintro e w3 ⟨v3, rfl, ho0, hb⟩; refine ⟨_, rfl, ?_⟩; have n0_ := Aside0.mk (Kd.S_lower ho0 (below_size HB.out)); have n1_ := Aside0.mk (below_step HB.out hb); clear HB; have HO := n0_; have HB := n1_; clear n0_ n1_ hb ho0) | ((with_reducible refine gate_callee (f := 106) rfl ?_); refine goesL_ (some 20) rfl rfl Try.func106 (by kernel_rfl) rfl #[v3, .int .i64 a1] rfl (by (try simp only [List.map_toArray, List.map_cons, List.map_nil]); first | done | rfl) ?_; (with_reducible refine (impl_less.calls (fun _ => True) v3 t a1 r w _ HB.out HO.out A4.out).mono ?_); rintro e w4 ⟨rfl, hy, hb, hkp⟩; refine ⟨_, rfl, ?_⟩; have n0_ := Aside0.mk (Kd.S_mono hy (fun k_ _ => (trivial : True))); have n1_ := Aside0.mk hb; clear HO HB; have HO := n0_; have HB := n1_; clear n0_ n1_ hy hb hkp))
      go_ret2
      exact ⟨_, rfl, HO.out, HB.out⟩

end Go.Proofs.Ytdpejnckojhgjaa.P
end
section
namespace Go.Proofs.Ytdpejnckojhgjaa.P
open Go.RowKit Go.Proofs.YtdpejnckojhgjaaW.PrintWords Go.Proofs.YtdpejnckojhgjaaW.PrintLast Go.Proofs.YtdpejnckojhgjaaW.PrintMore
attribute [local go_sem] max2_int min2_int max_two min_two max_three min_three max_four min_four   -- for this text's walks alone
set_option linter.unusedVariables false
set_option linter.unusedSimpArgs false

/-! ### laws_sameInts: function 48 -/
def laws_sameInts.l0 : Nat → List Int → List Int → Int → Option (Bool)
  | 0, _, _, _ => none
  | k + 1, x0, x1, x5 => if x5 < (x0.length : Int) then (if 0 ≤ x5 then (if x5 < (x1.length : Int) then (if (rd x0 x5) = (rd x1 x5) then (laws_sameInts.l0 k x0 x1 (wrap64 (x5 + 1))) else (some false)) else (none)) else (none)) else (some true)
def laws_sameInts.f (k : Nat) (l0 : List Int) (l1 : List Int) : Option (Bool) := if (l0.length : Int) = (l1.length : Int) then (laws_sameInts.l0 k l0 l1 0) else (some false)
theorem laws_sameInts.mono_l : ∀ k, (∀ y0 y1 y2, LeO (laws_sameInts.l0 k y0 y1 y2) (laws_sameInts.l0 (k + 1) y0 y1 y2))
  | 0 => fun _ _ _ r h => by simp [laws_sameInts.l0] at h
  | k + 1 => by
    have ih0 := laws_sameInts.mono_l k
    · intro y0 y1 y2
      unfold laws_sameInts.l0
      repeat' first
      | (with_reducible exact ih0 _ _ _)
      | (with_reducible exact LeO.refl _)
      | (with_reducible exact LeO.none _)
      | (with_reducible refine LeO.ite ?_ ?_)
      | (with_reducible refine LeO.bind ?_ (fun _ => ?_))
      | exact ih0 _ _ _
      | exact LeO.none _
      | refine LeO.ite ?_ ?_
      | refine LeO.bind ?_ (fun _ => ?_)
theorem laws_sameInts.mono : ∀ a0 a1 k, LeO (laws_sameInts.f k a0 a1) (laws_sameInts.f (k + 1) a0 a1) := by
  intro a0 a1 k
  have ih0 := laws_sameInts.mono_l k
  unfold laws_sameInts.f
  repeat' first
      | (with_reducible exact ih0 _ _ _)
      | (with_reducible exact LeO.refl _)
      | (with_reducible exact LeO.none _)
      | (with_reducible refine LeO.ite ?_ ?_)
      | (with_reducible refine LeO.bind ?_ (fun _ => ?_))
      | exact ih0 _ _ _
      | exact LeO.none _
      | refine LeO.ite ?_ ?_
      | refine LeO.bind ?_ (fun _ => ?_)
set_option maxHeartbeats 8000000 in
set_option maxRecDepth 100000 in
theorem laws_sameInts.calls (k : Nat) (A0 : Option Addr) (c0 : Nat) (l0 : List Int) (A1 : Option Addr) (c1 : Nat) (l1 : List Int) (r : Bool) (w : World) (hr0 : Kd.C (Kd.int .i64) w A0 l0.length l0) (hc0 : l0.length ≤ c0) (hr1 : Kd.C (Kd.int .i64) w A1 l1.length l1) (hc1 : l1.length ≤ c1) (h : laws_sameInts.f k l0 l1 = some r) :
    Calls Try.prog 48 #[.slice A0 l0.length c0, .slice A1 l1.length c1] w fun e w' => e = .returned (.bool r) ∧ Drawn0 w w' := by
  have HR0 := Aside0.mk hr0
  have HC0 := Aside0.mk hc0
  clear hr0 hc0
  have HR1 := Aside0.mk hr1
  have HC1 := Aside0.mk hc1
  clear hr1 hc1
  have H : (if (l0.length : Int) = (l1.length : Int) then (laws_sameInts.l0 k l0 l1 0) else (some false)) = some r := h
  clear h
  by_cases c3 : (l0.length : Int) = (l1.length : Int)
  · rw [if_pos c3] at H
    have c3b0 : ((l0.length : Int) == (l1.length : Int)) = true := beq_iff_eq.mpr c3
    have c3b1 : ((l0.length : Int) != (l1.length : Int)) = false := bne_eq_false_iff_eq.mpr c3
    have c3b2 : (l0.length == l1.length) = true := by first | simpa using c3 | (simp at c3 ⊢; omega)
    clear c3
    have H' := Aside0.mk H
    clear H
    go_enter Try.func48, Try.ntmps48
    go_wp2
    repeat (go_quiet (fail); try go_wp2)
    go_loopg [5] k (fun kq v5 w' => ∃ (x5_1 : Int), v5 = .int .i64 x5_1 ∧ Aside0 (laws_sameInts.l0 kq l0 l1 x5_1 = some r) ∧ Aside0 (kq ≤ k) ∧ Drawn0 w w')
    case atStart => exact ⟨(0), (by first | rfl | (simp; done) | (simp [*]; done)), H', ⟨Nat.le_refl _⟩, by repeat (first | exact Drawn0.refl _ | apply Drawn0.step)⟩
    case round =>
      clear H'
      try clear c1
      try clear p2
      try clear c3
      try clear c3b0
      try clear c3b1
      try clear c3b2
      obtain ⟨x5_1, rfl, HA, HK1, ⟨m1, rfl⟩⟩ := hrel
      cases gk with
      | zero => exact absurd HA.out (by simp [laws_sameInts.l0])
      | succ k1 =>
        have H := HA.out
        clear HA
        simp only [laws_sameInts.l0] at H
        by_cases c4 : x5_1 < (l0.length : Int)
        · rw [if_pos c4] at H
          have c4b0 : decide (x5_1 < (l0.length : Int)) = true := decide_eq_true c4
          clear c4
          by_cases c5 : 0 ≤ x5_1
          · rw [if_pos c5] at H
            have c5b0 : decide (0 ≤ x5_1) = true := decide_eq_true c5
            clear c5
            by_cases c6 : x5_1 < (l1.length : Int)
            · rw [if_pos c6] at H
              have c6b0 : decide (x5_1 < (l1.length : Int)) = true := decide_eq_true c6
              clear c6
              by_cases c7 : (rd l0 x5_1) = (rd l1 x5_1)
              · rw [if_pos c7] at H
                have c7b0 : ((rd l0 x5_1) == (rd l1 x5_1)) = true := beq_iff_eq.mpr c7
                have c7b1 : ((rd l0 x5_1) != (rd l1 x5_1)) = false := bne_eq_false_iff_eq.mpr c7
                clear c7
                have H' := Aside0.mk H
                clear H
                have p702 : 0 ≤ (x5_1 : Int) := of_decide_eq_true (by first | (with_reducible assumption) | assumption)
                have q702 : x5_1 < (l0.length : Int) := of_decide_eq_true (by first | (with_reducible assumption) | assumption)
                obtain ⟨ad702, e702, hx702_0⟩ := Kd.at_int HR0.out x5_1 p702 q702
                cases e702
                replace p702 := eq_true p702
                replace q702 := eq_true q702
                have p703 : 0 ≤ (x5_1 : Int) := of_decide_eq_true (by first | (with_reducible assumption) | assumption)
                have q703 : x5_1 < (l1.length : Int) := of_decide_eq_true (by first | (with_reducible assumption) | assumption)
                obtain ⟨ad703, e703, hx703_0⟩ := Kd.at_int HR1.out x5_1 p703 q703
                cases e703
                replace p703 := eq_true p703
                replace q703 := eq_true q703
                go_wp2
                repeat (go_quiet (fail); try go_wp2)
                go_roundg k1
                case measure => have := HK1.out; omega
                case rel => exact ⟨(wrap64 (x5_1 + 1)), (by first | rfl | (simp; done) | (simp [*]; done)), H', ⟨by have := HK1.out; omega⟩, by repeat (first | exact Drawn0.refl _ | apply Drawn0.step)⟩
              · rw [if_neg c7] at H
                have c7b0 : ((rd l0 x5_1) == (rd l1 x5_1)) = false := beq_eq_false_iff_ne.mpr c7
                have c7b1 : ((rd l0 x5_1) != (rd l1 x5_1)) = true := bne_iff_ne.mpr c7
                obtain rfl := Option.some.inj H
                have p702 : 0 ≤ (x5_1 : Int) := of_decide_eq_true (by first | (with_reducible assumption) | assumption)
                have q702 : x5_1 < (l0.length : Int) := of_decide_eq_true (by first | (with_reducible assumption) | assumption)
                obtain ⟨ad702, e702, hx702_0⟩ := Kd.at_int HR0.out x5_1 p702 q702
                cases e702
                replace p702 := eq_true p702
                replace q702 := eq_true q702
                have p703 : 0 ≤ (x5_1 : Int) := of_decide_eq_true (by first | (with_reducible assumption) | assumption)
                have q703 : x5_1 < (l1.length : Int) := of_decide_eq_true (by first | (with_reducible assumption) | assumption)
                obtain ⟨ad703, e703, hx703_0⟩ := Kd.at_int HR1.out x5_1 p703 q703
                cases e703
                replace p703 := eq_true p703
                replace q703 := eq_true q703
                go_wp2
                repeat (go_quiet (fail); try go_wp2)
                go_ret
                exact ⟨by first | rfl | (simp; done) | (simp [*]; done), by repeat (first | exact Drawn0.refl _ | apply Drawn0.step)⟩
            · rw [if_neg c6] at H
              exact absurd H (by simp)
          · rw [if_neg c5] at H
            exact absurd H (by simp)
        · rw [if_neg c4] at H
          have c4b0 : decide (x5_1 < (l0.length : Int)) = false := decide_eq_false c4
          clear c4
          obtain rfl := Option.some.inj H
          go_wp2
          repeat (go_quiet (fail); try go_wp2)
          go_ret
          exact ⟨by first | rfl | (simp; done) | (simp [*]; done), by repeat (first | exact Drawn0.refl _ | apply Drawn0.step)⟩
  · rw [if_neg c3] at H
    have c3b0 : ((l0.length : Int) == (l1.length : Int)) = false := beq_eq_false_iff_ne.mpr c3
    have c3b1 : ((l0.length : Int) != (l1.length : Int)) = true := bne_iff_ne.mpr c3
    have c3b2 : (l0.length == l1.length) = false := by first | simpa using c3 | (simp at c3 ⊢; omega)
    obtain rfl := Option.some.inj H
    go_enter Try.func48, Try.ntmps48
    go_wp2
    repeat (go_quiet (fail); try go_wp2)
    go_ret
    exact ⟨by first | rfl | (simp; done) | (simp [*]; done), by repeat (first | exact Drawn0.refl _ | apply Drawn0.step)⟩

end Go.Proofs.Ytdpejnckojhgjaa.P
end
