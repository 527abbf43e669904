/- What the proof of FnRegionsSaid rests on, part 3: plain lemmas and contracts of the functions that the law reaches (in part written by a printing program over the translation). No condition. -/
import Derived.Test.YtdpejnckojhgjaaBFnRegionsb
section
namespace Go.Proofs.Ytdpejnckojhgjaa.P
open Go.RowKit Go.Proofs.YtdpejnckojhgjaaW.PrintWords Go.Proofs.YtdpejnckojhgjaaW.PrintLast Go.Proofs.YtdpejnckojhgjaaW.PrintMore
attribute [local go_sem] max2_int min2_int max_two min_two max_three min_three max_four min_four   -- for this text's walks alone
set_option linter.unusedVariables false
set_option linter.unusedSimpArgs false

/-! ### spec_l06From: function 121 -/
def spec_l06From.l0 : Nat → List Int → List (S70) → Int → Option ((List (S70)))
  | 0, _, _, _ => none
  | k + 1, x0, x3, x4 => if x4 < (x0.length : Int) then (if 0 ≤ x4 then (if (rd x0 x4) = 0 then (spec_l06From.l0 k x0 x3 (wrap64 (x4 + 1))) else (if x4 > 0 then (if 0 ≤ (wrap64 (x4 - 1)) then (if (wrap64 (x4 - 1)) < (x0.length : Int) then (if (rd x0 (wrap64 (x4 - 1))) = (rd x0 x4) then (if 0 ≤ (wrap64 ((x3.length : Int) - 1)) then (if (wrap64 ((x3.length : Int) - 1)) < (x3.length : Int) then (spec_l06From.l0 k x0 (x3.set ((wrap64 ((x3.length : Int) - 1)) : Int).toNat (⟨(rd_T70 x3 (wrap64 ((x3.length : Int) - 1))).f0, wrap64 (x4 + 1), (rd_T70 x3 (wrap64 ((x3.length : Int) - 1))).f2⟩ : S70)) (wrap64 (x4 + 1))) else (none)) else (none)) else (if x3.length < 5864062014805 then (spec_l06From.l0 k x0 (x3 ++ [(⟨x4, wrap64 (x4 + 1), ((rd x0 x4) == 2)⟩ : S70)]) (wrap64 (x4 + 1))) else (none))) else (none)) else (none)) else (if x3.length < 5864062014805 then (spec_l06From.l0 k x0 (x3 ++ [(⟨x4, wrap64 (x4 + 1), ((rd x0 x4) == 2)⟩ : S70)]) (wrap64 (x4 + 1))) else (none)))) else (none)) else (some x3)
def spec_l06From.f (k : Nat) (l0 : List Int) : Option ((List (S70))) := spec_l06From.l0 k l0 (([] : List (S70))) 0
theorem spec_l06From.mono_l : ∀ k, (∀ y0 y1 y2, LeO (spec_l06From.l0 k y0 y1 y2) (spec_l06From.l0 (k + 1) y0 y1 y2))
  | 0 => fun _ _ _ r h => by simp [spec_l06From.l0] at h
  | k + 1 => by
    have ih0 := spec_l06From.mono_l k
    · intro y0 y1 y2
      unfold spec_l06From.l0
      repeat' first
      | (with_reducible exact ih0 _ _ _)
      | (with_reducible exact LeO.refl _)
      | (with_reducible exact LeO.none _)
      | (with_reducible refine LeO.ite ?_ ?_)
      | (with_reducible refine LeO.bind ?_ (fun _ => ?_))
      | exact ih0 _ _ _
      | exact LeO.none _
      | refine LeO.ite ?_ ?_
      | refine LeO.bind ?_ (fun _ => ?_)
theorem spec_l06From.mono : ∀ a0 k, LeO (spec_l06From.f k a0) (spec_l06From.f (k + 1) a0) := by
  intro a0 k
  have ih0 := spec_l06From.mono_l k
  unfold spec_l06From.f
  repeat' first
      | (with_reducible exact ih0 _ _ _)
      | (with_reducible exact LeO.refl _)
      | (with_reducible exact LeO.none _)
      | (with_reducible refine LeO.ite ?_ ?_)
      | (with_reducible refine LeO.bind ?_ (fun _ => ?_))
      | exact ih0 _ _ _
      | exact LeO.none _
      | refine LeO.ite ?_ ?_
      | refine LeO.bind ?_ (fun _ => ?_)
set_option maxHeartbeats 8000000 in
set_option maxRecDepth 100000 in
theorem spec_l06From.calls (k : Nat) (A0 : Option Addr) (c0 : Nat) (l0 : List Int) (r : List (S70)) (w : World) (hr0 : Kd.C (Kd.int .i64) w A0 l0.length l0) (hc0 : l0.length ≤ c0) (h : spec_l06From.f k l0 = some r) :
    Calls Try.prog 121 #[.slice A0 l0.length c0] w fun e w' => ∃ v0_ : Value, e = .returned (v0_) ∧ Kd.R k70 70 w' w.heap.size (fun _ => True) v0_ r ∧ Below w.heap.size w w' := by
  have hu70 := Try.underlying70
  have HR0 := Aside0.mk hr0
  have HC0 := Aside0.mk hc0
  clear hr0 hc0
  have HB := Aside0.mk (Below.refl w.heap.size w)
  have H : (spec_l06From.l0 k l0 (([] : List (S70))) 0) = some r := h
  clear h
  obtain ⟨y205, hy205⟩ : ∃ y_ : List (S70), y_ = (([] : List (S70))) := ⟨_, rfl⟩
  replace H : (spec_l06From.l0 k l0 y205 0) = some r := by first | (rw [hy205]; with_reducible exact H) | (have H2_ := (Option.bind_some _ _).symm.trans H; rw [hy205]; with_reducible exact H2_) | (have H2_ := (Option.bind_some _ _).symm.trans H; with_reducible exact H2_) | with_reducible exact H | (rw [hy205]; exact H) | exact H
  have Ny205 := Aside0.mk hy205
  clear hy205
  have H' := Aside0.mk H
  clear H
  go_enter Try.func121, Try.ntmps121
  go_wp2_with (first | ((with_reducible refine gate_dst (N := 5) rfl ?_); refine Kd.R_lit k70 _ 70 ?hg (N := 5) ?hd (xs := ([] : List (S70))) (inner := []) (ok := fun _ => True) (okp := fun _ => True) ?hr ?hp (fun _ hk => hk) trivial (Below.refl _ _) (Nat.le_refl _) (by simp) ?_; (case hd => rfl); (case hg => rfl); (case hr => first | (go_simp; done) | (go_simp; rfl)); (case hp => exact (Reps.none _ _)); intro v206 w2 ho3 hb hg_ hnew_; clear hg_ hnew_; (first | rw [← Ny205.out] at ho3 | (simp only [Int.reduceToNat] at ho3; rw [← Ny205.out] at ho3)); have n0_ := Aside0.mk (Kd.R_lower ho3 (below_size (by repeat (first | (with_reducible first | exact HB.out | apply below_alloc | apply pw_below_drewN | apply below_drew1) | exact HB.out)))); have n1_ := Aside0.mk (below_step (by repeat (first | (with_reducible first | exact HB.out | apply below_alloc | apply pw_below_drewN | apply below_drew1) | exact HB.out)) hb); clear HB; have HO207 := n0_; have HB := n1_; clear n0_ n1_; clear hb ho3))
  repeat (go_quiet (first | ((with_reducible refine gate_dst (N := 5) rfl ?_); refine Kd.R_lit k70 _ 70 ?hg (N := 5) ?hd (xs := ([] : List (S70))) (inner := []) (ok := fun _ => True) (okp := fun _ => True) ?hr ?hp (fun _ hk => hk) trivial (Below.refl _ _) (Nat.le_refl _) (by simp) ?_; (case hd => rfl); (case hg => rfl); (case hr => first | (go_simp; done) | (go_simp; rfl)); (case hp => exact (Reps.none _ _)); intro v206 w2 ho3 hb hg_ hnew_; clear hg_ hnew_; (first | rw [← Ny205.out] at ho3 | (simp only [Int.reduceToNat] at ho3; rw [← Ny205.out] at ho3)); have n0_ := Aside0.mk (Kd.R_lower ho3 (below_size (by repeat (first | (with_reducible first | exact HB.out | apply below_alloc | apply pw_below_drewN | apply below_drew1) | exact HB.out)))); have n1_ := Aside0.mk (below_step (by repeat (first | (with_reducible first | exact HB.out | apply below_alloc | apply pw_below_drewN | apply below_drew1) | exact HB.out)) hb); clear HB; have HO207 := n0_; have HB := n1_; clear n0_ n1_; clear hb ho3)); try go_wp2_with (first | ((with_reducible refine gate_dst (N := 5) rfl ?_); refine Kd.R_lit k70 _ 70 ?hg (N := 5) ?hd (xs := ([] : List (S70))) (inner := []) (ok := fun _ => True) (okp := fun _ => True) ?hr ?hp (fun _ hk => hk) trivial (Below.refl _ _) (Nat.le_refl _) (by simp) ?_; (case hd => rfl); (case hg => rfl); (case hr => first | (go_simp; done) | (go_simp; rfl)); (case hp => exact (Reps.none _ _)); intro v206 w2 ho3 hb hg_ hnew_; clear hg_ hnew_; (first | rw [← Ny205.out] at ho3 | (simp only [Int.reduceToNat] at ho3; rw [← Ny205.out] at ho3)); have n0_ := Aside0.mk (Kd.R_lower ho3 (below_size (by repeat (first | (with_reducible first | exact HB.out | apply below_alloc | apply pw_below_drewN | apply below_drew1) | exact HB.out)))); have n1_ := Aside0.mk (below_step (by repeat (first | (with_reducible first | exact HB.out | apply below_alloc | apply pw_below_drewN | apply below_drew1) | exact HB.out)) hb); clear HB; have HO207 := n0_; have HB := n1_; clear n0_ n1_; clear hb ho3)))
  go_loopg [3, 4] k (fun kq v3 v4 w' => ∃ (x3_1 : List (S70)) (x4_1 : Int), v4 = .int .i64 x4_1 ∧ Aside0 (spec_l06From.l0 kq l0 x3_1 x4_1 = some r) ∧ Aside0 (kq ≤ k) ∧ Aside0 (Kd.R k70 70 w' w.heap.size (fun _ => True) v3 x3_1) ∧ Aside0 (Below w.heap.size w w'))
  case atStart => exact ⟨(y205), (0), (by first | rfl | (simp; done) | (simp [*]; done)), H', ⟨Nat.le_refl _⟩, ⟨by (with_reducible repeat (first | apply Kd.R_alloc | apply Kd.R_drewN | apply Kd.R_drew)); exact HO207.out⟩, ⟨by repeat (first | (with_reducible first | exact HB.out | apply below_alloc | apply pw_below_drewN | apply below_drew1) | exact HB.out)⟩⟩
  case round =>
    clear H'
    try clear c1
    try clear p2
    obtain ⟨x3_1, x4_1, rfl, HA, HK1, HO_3, HB⟩ := hrel
    cases gk with
    | zero => exact absurd HA.out (by simp [spec_l06From.l0])
    | succ k1 =>
      have H := HA.out
      clear HA
      simp only [spec_l06From.l0] at H
      by_cases c4 : x4_1 < (l0.length : Int)
      · rw [if_pos c4] at H
        have c4b0 : decide (x4_1 < (l0.length : Int)) = true := decide_eq_true c4
        clear c4
        by_cases c5 : 0 ≤ x4_1
        · rw [if_pos c5] at H
          have c5b0 : decide (0 ≤ x4_1) = true := decide_eq_true c5
          clear c5
          by_cases c6 : (rd l0 x4_1) = 0
          · rw [if_pos c6] at H
            have c6b0 : ((rd l0 x4_1) == 0) = true := beq_iff_eq.mpr c6
            have c6b1 : ((rd l0 x4_1) != 0) = false := bne_eq_false_iff_eq.mpr c6
            clear c6
            have H' := Aside0.mk H
            clear H
            have p208 : 0 ≤ (x4_1 : Int) := of_decide_eq_true (by first | (with_reducible assumption) | assumption)
            have q208 : x4_1 < (l0.length : Int) := of_decide_eq_true (by first | (with_reducible assumption) | assumption)
            obtain ⟨ad208, e208, hx208_0⟩ := Kd.at_int HR0.out x4_1 p208 q208
            cases e208
            replace hx208_0 := (HB.out.cell (World.block_lt_of_cell? w _ hx208_0)).trans hx208_0
            replace p208 := eq_true p208
            replace q208 := eq_true q208
            go_wp2
            repeat (go_quiet (fail); try go_wp2)
            go_roundg k1
            case measure => have := HK1.out; omega
            case rel => exact ⟨(x3_1), (wrap64 (x4_1 + 1)), (by first | rfl | (simp; done) | (simp [*]; done)), H', ⟨by have := HK1.out; omega⟩, ⟨by (with_reducible repeat (first | apply Kd.R_alloc | apply Kd.R_drewN | apply Kd.R_drew)); exact HO_3.out⟩, ⟨by repeat (first | (with_reducible first | exact HB.out | apply below_alloc | apply pw_below_drewN | apply below_drew1) | exact HB.out)⟩⟩
          · rw [if_neg c6] at H
            have c6b0 : ((rd l0 x4_1) == 0) = false := beq_eq_false_iff_ne.mpr c6
            have c6b1 : ((rd l0 x4_1) != 0) = true := bne_iff_ne.mpr c6
            by_cases c7 : x4_1 > 0
            · rw [if_pos c7] at H
              have c7b0 : decide (0 < x4_1) = true := decide_eq_true c7
              clear c7
              obtain ⟨ji8, hji8⟩ : ∃ j_ : Int, (wrap64 (x4_1 - 1)) = j_ := ⟨_, rfl⟩
              replace H : (if 0 ≤ (ji8) then (if (ji8) < (l0.length : Int) then (if (rd l0 (ji8)) = (rd l0 x4_1) then (if 0 ≤ (wrap64 ((x3_1.length : Int) - 1)) then (if (wrap64 ((x3_1.length : Int) - 1)) < (x3_1.length : Int) then (spec_l06From.l0 k1 l0 (x3_1.set ((wrap64 ((x3_1.length : Int) - 1)) : Int).toNat (⟨(rd_T70 x3_1 (wrap64 ((x3_1.length : Int) - 1))).f0, wrap64 (x4_1 + 1), (rd_T70 x3_1 (wrap64 ((x3_1.length : Int) - 1))).f2⟩ : S70)) (wrap64 (x4_1 + 1))) else (none)) else (none)) else (if x3_1.length < 5864062014805 then (spec_l06From.l0 k1 l0 (x3_1 ++ [(⟨x4_1, wrap64 (x4_1 + 1), ((rd l0 x4_1) == 2)⟩ : S70)]) (wrap64 (x4_1 + 1))) else (none))) else (none)) else (none)) = some r := by first | (rw [hji8] at H; exact H) | (simp only [hji8] at H ⊢; exact H)
              have hji8w : (IntKind.i64.wrap (x4_1 - 1)) = ji8 := (i64_w _).trans hji8
              by_cases c9 : 0 ≤ (ji8)
              · rw [if_pos c9] at H
                have c9b0 : decide (0 ≤ (ji8)) = true := decide_eq_true c9
                clear c9
                by_cases c10 : (ji8) < (l0.length : Int)
                · rw [if_pos c10] at H
                  have c10b0 : decide ((ji8) < (l0.length : Int)) = true := decide_eq_true c10
                  clear c10
                  by_cases c11 : (rd l0 (ji8)) = (rd l0 x4_1)
                  · rw [if_pos c11] at H
                    have c11b0 : ((rd l0 (ji8)) == (rd l0 x4_1)) = true := beq_iff_eq.mpr c11
                    have c11b1 : ((rd l0 (ji8)) != (rd l0 x4_1)) = false := bne_eq_false_iff_eq.mpr c11
                    clear c11
                    obtain ⟨ji12, hji12⟩ : ∃ j_ : Int, (wrap64 ((x3_1.length : Int) - 1)) = j_ := ⟨_, rfl⟩
                    replace H : (if 0 ≤ (ji12) then (if (ji12) < (x3_1.length : Int) then (spec_l06From.l0 k1 l0 (x3_1.set ((ji12) : Int).toNat (⟨(rd_T70 x3_1 (ji12)).f0, wrap64 (x4_1 + 1), (rd_T70 x3_1 (ji12)).f2⟩ : S70)) (wrap64 (x4_1 + 1))) else (none)) else (none)) = some r := by first | (rw [hji12] at H; exact H) | (simp only [hji12] at H ⊢; exact H)
                    have hji12w : (IntKind.i64.wrap ((x3_1.length : Int) - 1)) = ji12 := (i64_w _).trans hji12
                    by_cases c13 : 0 ≤ (ji12)
                    · rw [if_pos c13] at H
                      have c13b0 : decide (0 ≤ (ji12)) = true := decide_eq_true c13
                      clear c13
                      by_cases c14 : (ji12) < (x3_1.length : Int)
                      · rw [if_pos c14] at H
                        have c14b0 : decide ((ji12) < (x3_1.length : Int)) = true := decide_eq_true c14
                        clear c14
                        obtain ⟨y211, hy211⟩ : ∃ y_ : List (S70), y_ = (x3_1.set ((ji12) : Int).toNat (⟨(rd_T70 x3_1 (ji12)).f0, wrap64 (x4_1 + 1), (rd_T70 x3_1 (ji12)).f2⟩ : S70)) := ⟨_, rfl⟩
                        replace H : (spec_l06From.l0 k1 l0 y211 (wrap64 (x4_1 + 1))) = some r := by first | (rw [hy211]; with_reducible exact H) | (have H2_ := (Option.bind_some _ _).symm.trans H; rw [hy211]; with_reducible exact H2_) | (have H2_ := (Option.bind_some _ _).symm.trans H; with_reducible exact H2_) | with_reducible exact H | (rw [hy211]; exact H) | exact H
                        have Ny211 := Aside0.mk hy211
                        clear hy211
                        have H' := Aside0.mk H
                        clear H
                        have p208 : 0 ≤ (x4_1 : Int) := of_decide_eq_true (by first | (with_reducible assumption) | assumption)
                        have q208 : x4_1 < (l0.length : Int) := of_decide_eq_true (by first | (with_reducible assumption) | assumption)
                        obtain ⟨ad208, e208, hx208_0⟩ := Kd.at_int HR0.out x4_1 p208 q208
                        cases e208
                        replace hx208_0 := (HB.out.cell (World.block_lt_of_cell? w _ hx208_0)).trans hx208_0
                        replace p208 := eq_true p208
                        replace q208 := eq_true q208
                        have p209 : 0 ≤ ((ji8) : Int) := of_decide_eq_true (by first | (with_reducible assumption) | assumption)
                        have q209 : (ji8) < (l0.length : Int) := of_decide_eq_true (by first | (with_reducible assumption) | assumption)
                        obtain ⟨ad209, e209, hx209_0⟩ := Kd.at_int HR0.out (ji8) p209 q209
                        obtain rfl : ad208 = ad209 := (by injection e209)
                        replace hx209_0 := (HB.out.cell (World.block_lt_of_cell? w _ hx209_0)).trans hx209_0
                        replace p209 := eq_true p209
                        replace q209 := eq_true q209
                        have p210 : 0 ≤ (x4_1 : Int) := of_decide_eq_true (by first | (with_reducible assumption) | assumption)
                        have q210 : x4_1 < (l0.length : Int) := of_decide_eq_true (by first | (with_reducible assumption) | assumption)
                        obtain ⟨ad210, e210, hx210_0⟩ := Kd.at_int HR0.out x4_1 p210 q210
                        obtain rfl : ad208 = ad210 := (by injection e210)
                        replace hx210_0 := (HB.out.cell (World.block_lt_of_cell? w _ hx210_0)).trans hx210_0
                        replace p210 := eq_true p210
                        replace q210 := eq_true q210
                        obtain ⟨Ao16, co16, eo16⟩ := Kd.R_slice HO_3.out
                        subst eo16
                        have p15 : 0 ≤ ((ji12) : Int) := of_decide_eq_true (by first | (with_reducible assumption) | assumption)
                        have q15 : ((ji12) : Int) < ((x3_1.length : Int) : Int) := of_decide_eq_true (by first | (with_reducible assumption) | assumption)
                        obtain ⟨go15, co15, eo15, gb15, gl15, cl15, HG15⟩ := Kd.R_form HO_3.out (by omega)
                        (first | cases eo15 | (injection eo15 with ea_ en_ ec_; (first | subst ea_ | (injection ea_ with ea_; subst ea_)); subst ec_; clear en_))
                        have GB15 := Aside0.mk gb15
                        have GG15 := Aside0.mk HG15
                        clear gb15 gl15 HG15
                        obtain ⟨ce15, hcl15, hM15, hcc15, hfr15⟩ := Kd.R_elem HO_3.out z70 ((ji12) : Int) p15 q15
                        obtain rfl := k70_openM hM15
                        have hx15_0 : wr.cell? ⟨go15, ((ji12) : Int).toNat * 3, none⟩ = some (.int .i64 ((rd_T70 x3_1 (ji12)).f0)) := hcc15 0 _ rfl
                        have hx15_1 : wr.cell? ⟨go15, ((ji12) : Int).toNat * 3 + 1, none⟩ = some (.int .i64 ((rd_T70 x3_1 (ji12)).f1)) := hcc15 1 _ rfl
                        have hx15_2 : wr.cell? ⟨go15, ((ji12) : Int).toNat * 3 + 2, none⟩ = some (.bool ((rd_T70 x3_1 (ji12)).f2)) := hcc15 2 _ rfl
                        have hf15_0 : wr.frozen? ⟨go15, ((ji12) : Int).toNat * 3, none⟩ = false := hfr15 0
                        have hf15_1 : wr.frozen? ⟨go15, ((ji12) : Int).toNat * 3 + 1, none⟩ = false := hfr15 1
                        have hf15_2 : wr.frozen? ⟨go15, ((ji12) : Int).toNat * 3 + 2, none⟩ = false := hfr15 2
                        (try clear hcl15); (try clear hcc15); (try clear hfr15); (try clear hM15)
                        replace p15 := eq_true p15
                        replace q15 := eq_true q15
                        have HX17 := Aside0.mk (show Kd.R k70 70 wr w.heap.size (fun _ => True) (.slice (some ⟨go15, 0, none⟩) x3_1.length co16) x3_1 from (by (with_reducible repeat (first | apply Kd.R_alloc | apply Kd.R_drewN | apply Kd.R_drew)); exact HO_3.out))
                        obtain ⟨ce17, hcl17, hM17, hcc17, hfr17⟩ := Kd.R_elem HX17.out z70 ((ji12) : Int) (of_decide_eq_true (by first | (with_reducible assumption) | assumption)) (by have h_ : ((ji12) : Int) < ((x3_1.length : Int) : Int) := of_decide_eq_true (by first | (with_reducible assumption) | assumption); first | exact h_ | (have e_ := (Kd.R_reads' HO_3.out).1; omega) | simpa using h_)
                        obtain rfl := k70_openM hM17
                        have HP17 := Kd.R_seg HX17.out ((ji12) : Int) (of_decide_eq_true (by first | (with_reducible assumption) | assumption)) (by have h_ : ((ji12) : Int) < ((x3_1.length : Int) : Int) := of_decide_eq_true (by first | (with_reducible assumption) | assumption); first | exact h_ | (have e_ := (Kd.R_reads' HO_3.out).1; omega) | simpa using h_) (seg := [.int .i64 (wrap64 (x4_1 + 1))]) (j := 1) hcl17 hcc17 (show 2 ≤ 3 from by decide) (x' := (⟨(rd_T70 x3_1 (ji12)).f0, wrap64 (x4_1 + 1), (rd_T70 x3_1 (ji12)).f2⟩ : S70)) (k70_mkM _ _ _ (⟨(rd_T70 x3_1 (ji12)).f0, wrap64 (x4_1 + 1), (rd_T70 x3_1 (ji12)).f2⟩ : S70) ) (fun _ hk => hk)
                        have hx17_1 := hcc17 1 _ rfl
                        (try simp only [show (k70).sz = 3 from rfl, Nat.mul_one, Nat.add_zero] at hx17_1)
                        have hf17_1 := hfr17 1
                        (try simp only [show (k70).sz = 3 from rfl, Nat.mul_one, Nat.add_zero] at hf17_1)
                        (try clear hcl17); (try clear hcc17); (try clear hfr17); (try clear hM17)
                        go_wp2_with (first | ((with_reducible refine gate_store (t := 3) (p := 38) rfl ?_); (try (rw [drewN_self wr]; generalize hq_ : World.drewN wr _ = wr; have n0_ := Aside0.mk (Kd.R_at hq_ HO_3.out); have n1_ := Aside0.mk (below_at hq_ HB.out); clear hq_ HO_3 HB; have HO_3 := n0_; have HB := n1_; clear n0_ n1_; (try (have HX17 := Aside0.mk (show Kd.R k70 70 wr w.heap.size (fun _ => True) (.slice (some ⟨go15, 0, none⟩) x3_1.length co16) x3_1 from (by (with_reducible repeat (first | apply Kd.R_alloc | apply Kd.R_drewN | apply Kd.R_drew)); exact HO_3.out)))); (try (obtain ⟨ce17, hcl17, hM17, hcc17, hfr17⟩ := Kd.R_elem HX17.out z70 ((ji12) : Int) (of_decide_eq_true (by first | (with_reducible assumption) | assumption)) (by have h_ : ((ji12) : Int) < ((x3_1.length : Int) : Int) := of_decide_eq_true (by first | (with_reducible assumption) | assumption); first | exact h_ | (have e_ := (Kd.R_reads' HO_3.out).1; omega) | simpa using h_))); (try (obtain rfl := k70_openM hM17)); (try (have HP17 := Kd.R_seg HX17.out ((ji12) : Int) (of_decide_eq_true (by first | (with_reducible assumption) | assumption)) (by have h_ : ((ji12) : Int) < ((x3_1.length : Int) : Int) := of_decide_eq_true (by first | (with_reducible assumption) | assumption); first | exact h_ | (have e_ := (Kd.R_reads' HO_3.out).1; omega) | simpa using h_) (seg := [.int .i64 (wrap64 (x4_1 + 1))]) (j := 1) hcl17 hcc17 (show 2 ≤ 3 from by decide) (x' := (⟨(rd_T70 x3_1 (ji12)).f0, wrap64 (x4_1 + 1), (rd_T70 x3_1 (ji12)).f2⟩ : S70)) (k70_mkM _ _ _ (⟨(rd_T70 x3_1 (ji12)).f0, wrap64 (x4_1 + 1), (rd_T70 x3_1 (ji12)).f2⟩ : S70) ) (fun _ hk => hk))); (try (have hx17_1 := hcc17 1 _ rfl)); (try (try simp only [show (k70).sz = 3 from rfl, Nat.mul_one, Nat.add_zero] at hx17_1)); (try (have hf17_1 := hfr17 1)); (try (try simp only [show (k70).sz = 3 from rfl, Nat.mul_one, Nat.add_zero] at hf17_1)); (try ((try clear hcl17); (try clear hcc17); (try clear hfr17); (try clear hM17))))); refine store_event (t := 3) (p := 38) (v := ?vo_w18) (w1 := (wr.setCell ⟨go15, ((ji12) : Int).toNat * 3 + 1, none⟩ (.int .i64 (wrap64 (x4_1 + 1))))) ?hg ?ho ?hn ?hr ?_; (case ho => rfl); (case hg => rfl); (case hn => rfl); (case hr => first | (go_simp; done) | (go_simp; rfl)); intro w18 hw; have hg : wr.grownBy w18 (some go15) := (by rw [hw]; exact HP17.2); have hp_ : Kd.R k70 70 w18 w.heap.size (fun _ => True) (.slice (some ⟨go15, 0, none⟩) x3_1.length co16) y211 := (by rw [hw, Ny211.out]; exact HP17.1); clear HP17; have n0_ := Aside0.mk (hp_); have n1_ := Aside0.mk ((by rw [hw]; exact below_set (HB.out) GB15.out : Below w.heap.size w w18)); clear HO_3; clear HB; have HO_3 := n0_; have HB := n1_; clear n0_ n1_; clear hg hw hp_))
                        repeat (go_quiet (first | ((with_reducible refine gate_store (t := 3) (p := 38) rfl ?_); (try (rw [drewN_self wr]; generalize hq_ : World.drewN wr _ = wr; have n0_ := Aside0.mk (Kd.R_at hq_ HO_3.out); have n1_ := Aside0.mk (below_at hq_ HB.out); clear hq_ HO_3 HB; have HO_3 := n0_; have HB := n1_; clear n0_ n1_; (try (have HX17 := Aside0.mk (show Kd.R k70 70 wr w.heap.size (fun _ => True) (.slice (some ⟨go15, 0, none⟩) x3_1.length co16) x3_1 from (by (with_reducible repeat (first | apply Kd.R_alloc | apply Kd.R_drewN | apply Kd.R_drew)); exact HO_3.out)))); (try (obtain ⟨ce17, hcl17, hM17, hcc17, hfr17⟩ := Kd.R_elem HX17.out z70 ((ji12) : Int) (of_decide_eq_true (by first | (with_reducible assumption) | assumption)) (by have h_ : ((ji12) : Int) < ((x3_1.length : Int) : Int) := of_decide_eq_true (by first | (with_reducible assumption) | assumption); first | exact h_ | (have e_ := (Kd.R_reads' HO_3.out).1; omega) | simpa using h_))); (try (obtain rfl := k70_openM hM17)); (try (have HP17 := Kd.R_seg HX17.out ((ji12) : Int) (of_decide_eq_true (by first | (with_reducible assumption) | assumption)) (by have h_ : ((ji12) : Int) < ((x3_1.length : Int) : Int) := of_decide_eq_true (by first | (with_reducible assumption) | assumption); first | exact h_ | (have e_ := (Kd.R_reads' HO_3.out).1; omega) | simpa using h_) (seg := [.int .i64 (wrap64 (x4_1 + 1))]) (j := 1) hcl17 hcc17 (show 2 ≤ 3 from by decide) (x' := (⟨(rd_T70 x3_1 (ji12)).f0, wrap64 (x4_1 + 1), (rd_T70 x3_1 (ji12)).f2⟩ : S70)) (k70_mkM _ _ _ (⟨(rd_T70 x3_1 (ji12)).f0, wrap64 (x4_1 + 1), (rd_T70 x3_1 (ji12)).f2⟩ : S70) ) (fun _ hk => hk))); (try (have hx17_1 := hcc17 1 _ rfl)); (try (try simp only [show (k70).sz = 3 from rfl, Nat.mul_one, Nat.add_zero] at hx17_1)); (try (have hf17_1 := hfr17 1)); (try (try simp only [show (k70).sz = 3 from rfl, Nat.mul_one, Nat.add_zero] at hf17_1)); (try ((try clear hcl17); (try clear hcc17); (try clear hfr17); (try clear hM17))))); refine store_event (t := 3) (p := 38) (v := ?vo_w18) (w1 := (wr.setCell ⟨go15, ((ji12) : Int).toNat * 3 + 1, none⟩ (.int .i64 (wrap64 (x4_1 + 1))))) ?hg ?ho ?hn ?hr ?_; (case ho => rfl); (case hg => rfl); (case hn => rfl); (case hr => first | (go_simp; done) | (go_simp; rfl)); intro w18 hw; have hg : wr.grownBy w18 (some go15) := (by rw [hw]; exact HP17.2); have hp_ : Kd.R k70 70 w18 w.heap.size (fun _ => True) (.slice (some ⟨go15, 0, none⟩) x3_1.length co16) y211 := (by rw [hw, Ny211.out]; exact HP17.1); clear HP17; have n0_ := Aside0.mk (hp_); have n1_ := Aside0.mk ((by rw [hw]; exact below_set (HB.out) GB15.out : Below w.heap.size w w18)); clear HO_3; clear HB; have HO_3 := n0_; have HB := n1_; clear n0_ n1_; clear hg hw hp_)); try go_wp2_with (first | ((with_reducible refine gate_store (t := 3) (p := 38) rfl ?_); (try (rw [drewN_self wr]; generalize hq_ : World.drewN wr _ = wr; have n0_ := Aside0.mk (Kd.R_at hq_ HO_3.out); have n1_ := Aside0.mk (below_at hq_ HB.out); clear hq_ HO_3 HB; have HO_3 := n0_; have HB := n1_; clear n0_ n1_; (try (have HX17 := Aside0.mk (show Kd.R k70 70 wr w.heap.size (fun _ => True) (.slice (some ⟨go15, 0, none⟩) x3_1.length co16) x3_1 from (by (with_reducible repeat (first | apply Kd.R_alloc | apply Kd.R_drewN | apply Kd.R_drew)); exact HO_3.out)))); (try (obtain ⟨ce17, hcl17, hM17, hcc17, hfr17⟩ := Kd.R_elem HX17.out z70 ((ji12) : Int) (of_decide_eq_true (by first | (with_reducible assumption) | assumption)) (by have h_ : ((ji12) : Int) < ((x3_1.length : Int) : Int) := of_decide_eq_true (by first | (with_reducible assumption) | assumption); first | exact h_ | (have e_ := (Kd.R_reads' HO_3.out).1; omega) | simpa using h_))); (try (obtain rfl := k70_openM hM17)); (try (have HP17 := Kd.R_seg HX17.out ((ji12) : Int) (of_decide_eq_true (by first | (with_reducible assumption) | assumption)) (by have h_ : ((ji12) : Int) < ((x3_1.length : Int) : Int) := of_decide_eq_true (by first | (with_reducible assumption) | assumption); first | exact h_ | (have e_ := (Kd.R_reads' HO_3.out).1; omega) | simpa using h_) (seg := [.int .i64 (wrap64 (x4_1 + 1))]) (j := 1) hcl17 hcc17 (show 2 ≤ 3 from by decide) (x' := (⟨(rd_T70 x3_1 (ji12)).f0, wrap64 (x4_1 + 1), (rd_T70 x3_1 (ji12)).f2⟩ : S70)) (k70_mkM _ _ _ (⟨(rd_T70 x3_1 (ji12)).f0, wrap64 (x4_1 + 1), (rd_T70 x3_1 (ji12)).f2⟩ : S70) ) (fun _ hk => hk))); (try (have hx17_1 := hcc17 1 _ rfl)); (try (try simp only [show (k70).sz = 3 from rfl, Nat.mul_one, Nat.add_zero] at hx17_1)); (try (have hf17_1 := hfr17 1)); (try (try simp only [show (k70).sz = 3 from rfl, Nat.mul_one, Nat.add_zero] at hf17_1)); (try ((try clear hcl17); (try clear hcc17); (try clear hfr17); (try clear hM17))))); refine store_event (t := 3) (p := 38) (v := ?vo_w18) (w1 := (wr.setCell ⟨go15, ((ji12) : Int).toNat * 3 + 1, none⟩ (.int .i64 (wrap64 (x4_1 + 1))))) ?hg ?ho ?hn ?hr ?_; (case ho => rfl); (case hg => rfl); (case hn => rfl); (case hr => first | (go_simp; done) | (go_simp; rfl)); intro w18 hw; have hg : wr.grownBy w18 (some go15) := (by rw [hw]; exact HP17.2); have hp_ : Kd.R k70 70 w18 w.heap.size (fun _ => True) (.slice (some ⟨go15, 0, none⟩) x3_1.length co16) y211 := (by rw [hw, Ny211.out]; exact HP17.1); clear HP17; have n0_ := Aside0.mk (hp_); have n1_ := Aside0.mk ((by rw [hw]; exact below_set (HB.out) GB15.out : Below w.heap.size w w18)); clear HO_3; clear HB; have HO_3 := n0_; have HB := n1_; clear n0_ n1_; clear hg hw hp_)))
                        go_roundg k1
                        case measure => have := HK1.out; omega
                        case rel => exact ⟨(y211), (wrap64 (x4_1 + 1)), (by first | rfl | (simp; done) | (simp [*]; done)), H', ⟨by have := HK1.out; omega⟩, ⟨by (with_reducible repeat (first | apply Kd.R_alloc | apply Kd.R_drewN | apply Kd.R_drew)); exact HO_3.out⟩, ⟨by repeat (first | (with_reducible first | exact HB.out | apply below_alloc | apply pw_below_drewN | apply below_drew1) | exact HB.out)⟩⟩
                      · rw [if_neg c14] at H
                        exact absurd H (by simp)
                    · rw [if_neg c13] at H
                      exact absurd H (by simp)
                  · rw [if_neg c11] at H
                    have c11b0 : ((rd l0 (ji8)) == (rd l0 x4_1)) = false := beq_eq_false_iff_ne.mpr c11
                    have c11b1 : ((rd l0 (ji8)) != (rd l0 x4_1)) = true := bne_iff_ne.mpr c11
                    by_cases c19 : x3_1.length < 5864062014805
                    · rw [if_pos c19] at H
                      have LMc19 := Aside0.mk c19
                      clear c19
                      obtain ⟨y213, hy213⟩ : ∃ y_ : List (S70), y_ = (x3_1 ++ [(⟨x4_1, wrap64 (x4_1 + 1), ((rd l0 x4_1) == 2)⟩ : S70)]) := ⟨_, rfl⟩
                      replace H : (spec_l06From.l0 k1 l0 y213 (wrap64 (x4_1 + 1))) = some r := by first | (rw [hy213]; with_reducible exact H) | (have H2_ := (Option.bind_some _ _).symm.trans H; rw [hy213]; with_reducible exact H2_) | (have H2_ := (Option.bind_some _ _).symm.trans H; with_reducible exact H2_) | with_reducible exact H | (rw [hy213]; exact H) | exact H
                      have Ny213 := Aside0.mk hy213
                      clear hy213
                      have H' := Aside0.mk H
                      clear H
                      have p208 : 0 ≤ (x4_1 : Int) := of_decide_eq_true (by first | (with_reducible assumption) | assumption)
                      have q208 : x4_1 < (l0.length : Int) := of_decide_eq_true (by first | (with_reducible assumption) | assumption)
                      obtain ⟨ad208, e208, hx208_0⟩ := Kd.at_int HR0.out x4_1 p208 q208
                      cases e208
                      replace hx208_0 := (HB.out.cell (World.block_lt_of_cell? w _ hx208_0)).trans hx208_0
                      replace p208 := eq_true p208
                      replace q208 := eq_true q208
                      have p209 : 0 ≤ ((ji8) : Int) := of_decide_eq_true (by first | (with_reducible assumption) | assumption)
                      have q209 : (ji8) < (l0.length : Int) := of_decide_eq_true (by first | (with_reducible assumption) | assumption)
                      obtain ⟨ad209, e209, hx209_0⟩ := Kd.at_int HR0.out (ji8) p209 q209
                      obtain rfl : ad208 = ad209 := (by injection e209)
                      replace hx209_0 := (HB.out.cell (World.block_lt_of_cell? w _ hx209_0)).trans hx209_0
                      replace p209 := eq_true p209
                      replace q209 := eq_true q209
                      have p210 : 0 ≤ (x4_1 : Int) := of_decide_eq_true (by first | (with_reducible assumption) | assumption)
                      have q210 : x4_1 < (l0.length : Int) := of_decide_eq_true (by first | (with_reducible assumption) | assumption)
                      obtain ⟨ad210, e210, hx210_0⟩ := Kd.at_int HR0.out x4_1 p210 q210
                      obtain rfl : ad208 = ad210 := (by injection e210)
                      replace hx210_0 := (HB.out.cell (World.block_lt_of_cell? w _ hx210_0)).trans hx210_0
                      replace p210 := eq_true p210
                      replace q210 := eq_true q210
                      have p212 : 0 ≤ (x4_1 : Int) := of_decide_eq_true (by first | (with_reducible assumption) | assumption)
                      have q212 : x4_1 < (l0.length : Int) := of_decide_eq_true (by first | (with_reducible assumption) | assumption)
                      obtain ⟨ad212, e212, hx212_0⟩ := Kd.at_int HR0.out x4_1 p212 q212
                      obtain rfl : ad208 = ad212 := (by injection e212)
                      replace hx212_0 := (HB.out.cell (World.block_lt_of_cell? w _ hx212_0)).trans hx212_0
                      replace p212 := eq_true p212
                      replace q212 := eq_true q212
                      go_wp2_with (first | ((with_reducible refine gate_builtin (b := .append) (xs := #[.tmp 39, .tmp 49]) rfl ?_); at_builtin; refine Kd.R_append k70 (w0 := w) w.heap.size rfl (.tmp 39) (.tmp 49) 34 70 (.agg #[(.int .i64 0), (.int .i64 0), (.bool false)]) 24 rfl Try.underlying34 info70 rfl (by decide) (by omega) u3 x3_1 (⟨x4_1, wrap64 (x4_1 + 1), ((rd l0 x4_1) == 2)⟩ : S70) [.int .i64 x4_1, .int .i64 (wrap64 (x4_1 + 1)), .bool ((rd l0 x4_1) == 2)] (fun _ => True) (fun _ => False) rfl rfl ?aP (fun _ hk => hk.elim) ?aF ?aO ?aB ?aS ?aL ?_; (case aP => exact k70_mkM _ _ _ (⟨x4_1, wrap64 (x4_1 + 1), ((rd l0 x4_1) == 2)⟩ : S70)); (case aB => exact (by repeat (first | (with_reducible first | exact HB.out | apply below_alloc | apply pw_below_drewN | apply below_drew1) | exact HB.out))); (case aF => exact (fun _ _ => trivial)); (case aO => exact (by (with_reducible repeat (first | apply Kd.R_alloc | apply Kd.R_drewN | apply Kd.R_drew)); exact HO_3.out)); (case aS => exact (below_size (by repeat (first | (with_reducible first | exact HB.out | apply below_alloc | apply pw_below_drewN | apply below_drew1) | exact HB.out)))); (case aL => have := LMc19.out; omega); intro v214 w20 ho hb hg hat; rw [← Ny213.out] at ho; have n0_ := Aside0.mk (hb); have n1_ := Aside0.mk (ho); clear HB; clear HO_3; have HB := n0_; have HO215 := n1_; clear n0_ n1_; clear ho hb hg hat))
                      repeat (go_quiet (first | ((with_reducible refine gate_builtin (b := .append) (xs := #[.tmp 39, .tmp 49]) rfl ?_); at_builtin; refine Kd.R_append k70 (w0 := w) w.heap.size rfl (.tmp 39) (.tmp 49) 34 70 (.agg #[(.int .i64 0), (.int .i64 0), (.bool false)]) 24 rfl Try.underlying34 info70 rfl (by decide) (by omega) u3 x3_1 (⟨x4_1, wrap64 (x4_1 + 1), ((rd l0 x4_1) == 2)⟩ : S70) [.int .i64 x4_1, .int .i64 (wrap64 (x4_1 + 1)), .bool ((rd l0 x4_1) == 2)] (fun _ => True) (fun _ => False) rfl rfl ?aP (fun _ hk => hk.elim) ?aF ?aO ?aB ?aS ?aL ?_; (case aP => exact k70_mkM _ _ _ (⟨x4_1, wrap64 (x4_1 + 1), ((rd l0 x4_1) == 2)⟩ : S70)); (case aB => exact (by repeat (first | (with_reducible first | exact HB.out | apply below_alloc | apply pw_below_drewN | apply below_drew1) | exact HB.out))); (case aF => exact (fun _ _ => trivial)); (case aO => exact (by (with_reducible repeat (first | apply Kd.R_alloc | apply Kd.R_drewN | apply Kd.R_drew)); exact HO_3.out)); (case aS => exact (below_size (by repeat (first | (with_reducible first | exact HB.out | apply below_alloc | apply pw_below_drewN | apply below_drew1) | exact HB.out)))); (case aL => have := LMc19.out; omega); intro v214 w20 ho hb hg hat; rw [← Ny213.out] at ho; have n0_ := Aside0.mk (hb); have n1_ := Aside0.mk (ho); clear HB; clear HO_3; have HB := n0_; have HO215 := n1_; clear n0_ n1_; clear ho hb hg hat)); try go_wp2_with (first | ((with_reducible refine gate_builtin (b := .append) (xs := #[.tmp 39, .tmp 49]) rfl ?_); at_builtin; refine Kd.R_append k70 (w0 := w) w.heap.size rfl (.tmp 39) (.tmp 49) 34 70 (.agg #[(.int .i64 0), (.int .i64 0), (.bool false)]) 24 rfl Try.underlying34 info70 rfl (by decide) (by omega) u3 x3_1 (⟨x4_1, wrap64 (x4_1 + 1), ((rd l0 x4_1) == 2)⟩ : S70) [.int .i64 x4_1, .int .i64 (wrap64 (x4_1 + 1)), .bool ((rd l0 x4_1) == 2)] (fun _ => True) (fun _ => False) rfl rfl ?aP (fun _ hk => hk.elim) ?aF ?aO ?aB ?aS ?aL ?_; (case aP => exact k70_mkM _ _ _ (⟨x4_1, wrap64 (x4_1 + 1), ((rd l0 x4_1) == 2)⟩ : S70)); (case aB => exact (by repeat (first | (with_reducible first | exact HB.out | apply below_alloc | apply pw_below_drewN | apply below_drew1) | exact HB.out))); (case aF => exact (fun _ _ => trivial)); (case aO => exact (by (with_reducible repeat (first | apply Kd.R_alloc | apply Kd.R_drewN | apply Kd.R_drew)); exact HO_3.out)); (case aS => exact (below_size (by repeat (first | (with_reducible first | exact HB.out | apply below_alloc | apply pw_below_drewN | apply below_drew1) | exact HB.out)))); (case aL => have := LMc19.out; omega); intro v214 w20 ho hb hg hat; rw [← Ny213.out] at ho; have n0_ := Aside0.mk (hb); have n1_ := Aside0.mk (ho); clear HB; clear HO_3; have HB := n0_; have HO215 := n1_; clear n0_ n1_; clear ho hb hg hat)))
                      go_roundg k1
                      case measure => have := HK1.out; omega
                      case rel => exact ⟨(y213), (wrap64 (x4_1 + 1)), (by first | rfl | (simp; done) | (simp [*]; done)), H', ⟨by have := HK1.out; omega⟩, ⟨by (with_reducible repeat (first | apply Kd.R_alloc | apply Kd.R_drewN | apply Kd.R_drew)); exact HO215.out⟩, ⟨by repeat (first | (with_reducible first | exact HB.out | apply below_alloc | apply pw_below_drewN | apply below_drew1) | exact HB.out)⟩⟩
                    · rw [if_neg c19] at H
                      exact absurd H (by simp)
                · rw [if_neg c10] at H
                  exact absurd H (by simp)
              · rw [if_neg c9] at H
                exact absurd H (by simp)
            · rw [if_neg c7] at H
              have c7b0 : decide (0 < x4_1) = false := decide_eq_false c7
              clear c7
              by_cases c21 : x3_1.length < 5864062014805
              · rw [if_pos c21] at H
                have LMc21 := Aside0.mk c21
                clear c21
                obtain ⟨y217, hy217⟩ : ∃ y_ : List (S70), y_ = (x3_1 ++ [(⟨x4_1, wrap64 (x4_1 + 1), ((rd l0 x4_1) == 2)⟩ : S70)]) := ⟨_, rfl⟩
                replace H : (spec_l06From.l0 k1 l0 y217 (wrap64 (x4_1 + 1))) = some r := by first | (rw [hy217]; with_reducible exact H) | (have H2_ := (Option.bind_some _ _).symm.trans H; rw [hy217]; with_reducible exact H2_) | (have H2_ := (Option.bind_some _ _).symm.trans H; with_reducible exact H2_) | with_reducible exact H | (rw [hy217]; exact H) | exact H
                have Ny217 := Aside0.mk hy217
                clear hy217
                have H' := Aside0.mk H
                clear H
                have p208 : 0 ≤ (x4_1 : Int) := of_decide_eq_true (by first | (with_reducible assumption) | assumption)
                have q208 : x4_1 < (l0.length : Int) := of_decide_eq_true (by first | (with_reducible assumption) | assumption)
                obtain ⟨ad208, e208, hx208_0⟩ := Kd.at_int HR0.out x4_1 p208 q208
                cases e208
                replace hx208_0 := (HB.out.cell (World.block_lt_of_cell? w _ hx208_0)).trans hx208_0
                replace p208 := eq_true p208
                replace q208 := eq_true q208
                have p216 : 0 ≤ (x4_1 : Int) := of_decide_eq_true (by first | (with_reducible assumption) | assumption)
                have q216 : x4_1 < (l0.length : Int) := of_decide_eq_true (by first | (with_reducible assumption) | assumption)
                obtain ⟨ad216, e216, hx216_0⟩ := Kd.at_int HR0.out x4_1 p216 q216
                obtain rfl : ad208 = ad216 := (by injection e216)
                replace hx216_0 := (HB.out.cell (World.block_lt_of_cell? w _ hx216_0)).trans hx216_0
                replace p216 := eq_true p216
                replace q216 := eq_true q216
                go_wp2_with (first | ((with_reducible refine gate_builtin (b := .append) (xs := #[.tmp 39, .tmp 49]) rfl ?_); at_builtin; refine Kd.R_append k70 (w0 := w) w.heap.size rfl (.tmp 39) (.tmp 49) 34 70 (.agg #[(.int .i64 0), (.int .i64 0), (.bool false)]) 24 rfl Try.underlying34 info70 rfl (by decide) (by omega) u3 x3_1 (⟨x4_1, wrap64 (x4_1 + 1), ((rd l0 x4_1) == 2)⟩ : S70) [.int .i64 x4_1, .int .i64 (wrap64 (x4_1 + 1)), .bool ((rd l0 x4_1) == 2)] (fun _ => True) (fun _ => False) rfl rfl ?aP (fun _ hk => hk.elim) ?aF ?aO ?aB ?aS ?aL ?_; (case aP => exact k70_mkM _ _ _ (⟨x4_1, wrap64 (x4_1 + 1), ((rd l0 x4_1) == 2)⟩ : S70)); (case aB => exact (by repeat (first | (with_reducible first | exact HB.out | apply below_alloc | apply pw_below_drewN | apply below_drew1) | exact HB.out))); (case aF => exact (fun _ _ => trivial)); (case aO => exact (by (with_reducible repeat (first | apply Kd.R_alloc | apply Kd.R_drewN | apply Kd.R_drew)); exact HO_3.out)); (case aS => exact (below_size (by repeat (first | (with_reducible first | exact HB.out | apply below_alloc | apply pw_below_drewN | apply below_drew1) | exact HB.out)))); (case aL => have := LMc21.out; omega); intro v218 w22 ho hb hg hat; rw [← Ny217.out] at ho; have n0_ := Aside0.mk (hb); have n1_ := Aside0.mk (ho); clear HB; clear HO_3; have HB := n0_; have HO219 := n1_; clear n0_ n1_; clear ho hb hg hat))
                repeat (go_quiet (first | ((with_reducible refine gate_builtin (b := .append) (xs := #[.tmp 39, .tmp 49]) rfl ?_); at_builtin; refine Kd.R_append k70 (w0 := w) w.heap.size rfl (.tmp 39) (.tmp 49) 34 70 (.agg #[(.int .i64 0), (.int .i64 0), (.bool false)]) 24 rfl Try.underlying34 info70 rfl (by decide) (by omega) u3 x3_1 (⟨x4_1, wrap64 (x4_1 + 1), ((rd l0 x4_1) == 2)⟩ : S70) [.int .i64 x4_1, .int .i64 (wrap64 (x4_1 + 1)), .bool ((rd l0 x4_1) == 2)] (fun _ => True) (fun _ => False) rfl rfl ?aP (fun _ hk => hk.elim) ?aF ?aO ?aB ?aS ?aL ?_; (case aP => exact k70_mkM _ _ _ (⟨x4_1, wrap64 (x4_1 + 1), ((rd l0 x4_1) == 2)⟩ : S70)); (case aB => exact (by repeat (first | (with_reducible first | exact HB.out | apply below_alloc | apply pw_below_drewN | apply below_drew1) | exact HB.out))); (case aF => exact (fun _ _ => trivial)); (case aO => exact (by (with_reducible repeat (first | apply Kd.R_alloc | apply Kd.R_drewN | apply Kd.R_drew)); exact HO_3.out)); (case aS => exact (below_size (by repeat (first | (with_reducible first | exact HB.out | apply below_alloc | apply pw_below_drewN | apply below_drew1) | exact HB.out)))); (case aL => have := LMc21.out; omega); intro v218 w22 ho hb hg hat; rw [← Ny217.out] at ho; have n0_ := Aside0.mk (hb); have n1_ := Aside0.mk (ho); clear HB; clear HO_3; have HB := n0_; have HO219 := n1_; clear n0_ n1_; clear ho hb hg hat)); try go_wp2_with (first | ((with_reducible refine gate_builtin (b := .append) (xs := #[.tmp 39, .tmp 49]) rfl ?_); at_builtin; refine Kd.R_append k70 (w0 := w) w.heap.size rfl (.tmp 39) (.tmp 49) 34 70 (.agg #[(.int .i64 0), (.int .i64 0), (.bool false)]) 24 rfl Try.underlying34 info70 rfl (by decide) (by omega) u3 x3_1 (⟨x4_1, wrap64 (x4_1 + 1), ((rd l0 x4_1) == 2)⟩ : S70) [.int .i64 x4_1, .int .i64 (wrap64 (x4_1 + 1)), .bool ((rd l0 x4_1) == 2)] (fun _ => True) (fun _ => False) rfl rfl ?aP (fun _ hk => hk.elim) ?aF ?aO ?aB ?aS ?aL ?_; (case aP => exact k70_mkM _ _ _ (⟨x4_1, wrap64 (x4_1 + 1), ((rd l0 x4_1) == 2)⟩ : S70)); (case aB => exact (by repeat (first | (with_reducible first | exact HB.out | apply below_alloc | apply pw_below_drewN | apply below_drew1) | exact HB.out))); (case aF => exact (fun _ _ => trivial)); (case aO => exact (by (with_reducible repeat (first | apply Kd.R_alloc | apply Kd.R_drewN | apply Kd.R_drew)); exact HO_3.out)); (case aS => exact (below_size (by repeat (first | (with_reducible first | exact HB.out | apply below_alloc | apply pw_below_drewN | apply below_drew1) | exact HB.out)))); (case aL => have := LMc21.out; omega); intro v218 w22 ho hb hg hat; rw [← Ny217.out] at ho; have n0_ := Aside0.mk (hb); have n1_ := Aside0.mk (ho); clear HB; clear HO_3; have HB := n0_; have HO219 := n1_; clear n0_ n1_; clear ho hb hg hat)))
                go_roundg k1
                case measure => have := HK1.out; omega
                case rel => exact ⟨(y217), (wrap64 (x4_1 + 1)), (by first | rfl | (simp; done) | (simp [*]; done)), H', ⟨by have := HK1.out; omega⟩, ⟨by (with_reducible repeat (first | apply Kd.R_alloc | apply Kd.R_drewN | apply Kd.R_drew)); exact HO219.out⟩, ⟨by repeat (first | (with_reducible first | exact HB.out | apply below_alloc | apply pw_below_drewN | apply below_drew1) | exact HB.out)⟩⟩
              · rw [if_neg c21] at H
                exact absurd H (by simp)
        · rw [if_neg c5] at H
          exact absurd H (by simp)
      · rw [if_neg c4] at H
        have c4b0 : decide (x4_1 < (l0.length : Int)) = false := decide_eq_false c4
        clear c4
        obtain rfl := Option.some.inj H
        go_wp2
        repeat (go_quiet (fail); try go_wp2)
        go_ret
        exact ⟨_, by first | rfl | (simp [errW_none, errW_some] <;> rfl) | (simp [*, errW_none, errW_some] <;> rfl), by (with_reducible repeat (first | apply Kd.R_alloc | apply Kd.R_drewN | apply Kd.R_drew)); exact HO_3.out, by repeat (first | (with_reducible first | exact HB.out | apply below_alloc | apply pw_below_drewN | apply below_drew1) | exact HB.out)⟩

end Go.Proofs.Ytdpejnckojhgjaa.P
end
section
namespace Go.Proofs.Ytdpejnckojhgjaa.P
open Go.RowKit Go.Proofs.YtdpejnckojhgjaaW.PrintWords Go.Proofs.YtdpejnckojhgjaaW.PrintLast Go.Proofs.YtdpejnckojhgjaaW.PrintMore
attribute [local go_sem] max2_int min2_int max_two min_two max_three min_three max_four min_four   -- for this text's walks alone
set_option linter.unusedVariables false
set_option linter.unusedSimpArgs false

/-! ### spec_l06Set: function 81 -/
def spec_l06Set.l0 : Nat → List Int → Int → Int → Int → Option ((List (S70)) × Bool × List Int)
  | 0, _, _, _, _ => none
  | k + 1, x0, x2, x3, x10 => if x10 < x2 then (if 0 ≤ x10 then (if x10 < (x0.length : Int) then (spec_l06Set.l0 k (x0.set (x10 : Int).toNat x3) x2 x3 (wrap64 (x10 + 1))) else (none)) else (none)) else ((spec_l06From.f k x0).bind fun t221 => ((spec_RegionsOk.f k t221).bind fun t224 => (if t224 = true then (some (t221, true, x0)) else (some ((([] : List (S70))), false, x0)))))
def spec_l06Set.f (k : Nat) (l0 : List Int) (a1 : Int) (a2 : Int) (a3 : Int) : Option ((List (S70)) × Bool × List Int) := spec_l06Set.l0 k l0 a2 a3 a1
theorem spec_l06Set.mono_l : ∀ k, (∀ y0 y1 y2 y3, LeO (spec_l06Set.l0 k y0 y1 y2 y3) (spec_l06Set.l0 (k + 1) y0 y1 y2 y3))
  | 0 => fun _ _ _ _ r h => by simp [spec_l06Set.l0] at h
  | k + 1 => by
    have ih0 := spec_l06Set.mono_l k
    · intro y0 y1 y2 y3
      unfold spec_l06Set.l0
      repeat' first
      | (with_reducible exact ih0 _ _ _ _)
      | (with_reducible exact spec_RegionsOk.mono _ _)
      | (with_reducible exact spec_l06From.mono _ _)
      | (with_reducible exact LeO.refl _)
      | (with_reducible exact LeO.none _)
      | (with_reducible refine LeO.ite ?_ ?_)
      | (with_reducible refine LeO.bind ?_ (fun _ => ?_))
      | exact ih0 _ _ _ _
      | exact spec_RegionsOk.mono _ _
      | exact spec_l06From.mono _ _
      | exact LeO.none _
      | refine LeO.ite ?_ ?_
      | refine LeO.bind ?_ (fun _ => ?_)
theorem spec_l06Set.mono : ∀ a0 a1 a2 a3 k, LeO (spec_l06Set.f k a0 a1 a2 a3) (spec_l06Set.f (k + 1) a0 a1 a2 a3) := by
  intro a0 a1 a2 a3 k
  have ih0 := spec_l06Set.mono_l k
  unfold spec_l06Set.f
  repeat' first
      | (with_reducible exact ih0 _ _ _ _)
      | (with_reducible exact spec_RegionsOk.mono _ _)
      | (with_reducible exact spec_l06From.mono _ _)
      | (with_reducible exact LeO.refl _)
      | (with_reducible exact LeO.none _)
      | (with_reducible refine LeO.ite ?_ ?_)
      | (with_reducible refine LeO.bind ?_ (fun _ => ?_))
      | exact ih0 _ _ _ _
      | exact spec_RegionsOk.mono _ _
      | exact spec_l06From.mono _ _
      | exact LeO.none _
      | refine LeO.ite ?_ ?_
      | refine LeO.bind ?_ (fun _ => ?_)
set_option maxHeartbeats 8000000 in
set_option maxRecDepth 100000 in
theorem spec_l06Set.calls (k : Nat) (P0_ : Nat → Prop) (u9000_ : Value) (l0 : List Int) (a1 : Int) (a2 : Int) (a3 : Int) (r1 : List (S70)) (r2 : Bool) (r3 : List Int) (w0 w : World) (hB : Below w0.heap.size w0 w) (ho0 : Kd.R (Kd.int .i64) 3 w w0.heap.size P0_ u9000_ l0) (h : spec_l06Set.f k l0 a1 a2 a3 = some (r1, r2, r3)) :
    Calls Try.prog 81 #[u9000_, .int .i64 a1, .int .i64 a2, .int .i64 a3] w fun e w' => ∃ v0_ : Value, e = .returned (.tuple #[v0_, .bool r2]) ∧ Kd.R k70 70 w' w0.heap.size (fun k_ => (P0_ k_ ∨ w.heap.size ≤ k_)) v0_ r1 ∧ Kd.R (Kd.int .i64) 3 w' w0.heap.size (fun k_ => (P0_ k_ ∨ w.heap.size ≤ k_)) u9000_ r3 ∧ Below w0.heap.size w0 w' ∧ Kept w w' (fun k_ => P0_ k_) := by
  have HO0 := Aside0.mk (show Kd.R (Kd.int .i64) 3 w w0.heap.size (fun k_ => (P0_ k_ ∨ w.heap.size ≤ k_)) u9000_ l0 from Kd.R_mono ho0 (fun k_ hk => (.inl hk)))
  have HK := Aside0.mk (Kept.refl w (fun k_ => P0_ k_))
  have HW0 := Aside0.mk hB.size
  have HB := Aside0.mk hB
  clear hB
  have H : (spec_l06Set.l0 k l0 a2 a3 a1) = some (r1, r2, r3) := h
  clear h
  have H' := Aside0.mk H
  clear H
  go_enter Try.func81, Try.ntmps81
  go_wp2
  go_loopg [10] k (fun kq v10 w' => ∃ (x0_1 : List Int) (x10_1 : Int), v10 = .int .i64 x10_1 ∧ Aside0 (spec_l06Set.l0 kq x0_1 a2 a3 x10_1 = some (r1, r2, r3)) ∧ Aside0 (kq ≤ k) ∧ Aside0 (Kd.R (Kd.int .i64) 3 w' w0.heap.size (fun k_ => (P0_ k_ ∨ w.heap.size ≤ k_)) u9000_ x0_1) ∧ Aside0 (Kept w w' (fun k_ => P0_ k_)) ∧ Aside0 (Below w0.heap.size w0 w'))
  case atStart => exact ⟨(l0), (a1), (by first | rfl | (simp; done) | (simp [*]; done)), H', ⟨Nat.le_refl _⟩, ⟨by (with_reducible repeat (first | apply Kd.R_alloc | apply Kd.R_drewN | apply Kd.R_drew)); exact HO0.out⟩, ⟨by repeat (first | (with_reducible first | exact HK.out | apply Kept.alloc | apply Kept.drewN | apply Kept.drew) | exact HK.out)⟩, ⟨by repeat (first | (with_reducible first | exact HB.out | apply below_alloc | apply pw_below_drewN | apply below_drew1) | exact HB.out)⟩⟩
  case round =>
    clear H'
    try clear p2
    obtain ⟨x0_1, x10_1, rfl, HA, HK1, HO_0, HK, HB⟩ := hrel
    cases gk with
    | zero => exact absurd HA.out (by simp [spec_l06Set.l0])
    | succ k1 =>
      have H := HA.out
      clear HA
      simp only [spec_l06Set.l0] at H
      by_cases c5 : x10_1 < a2
      · rw [if_pos c5] at H
        have c5b0 : decide (x10_1 < a2) = true := decide_eq_true c5
        clear c5
        by_cases c6 : 0 ≤ x10_1
        · rw [if_pos c6] at H
          have c6b0 : decide (0 ≤ x10_1) = true := decide_eq_true c6
          clear c6
          by_cases c7 : x10_1 < (x0_1.length : Int)
          · rw [if_pos c7] at H
            have c7b0 : decide (x10_1 < (x0_1.length : Int)) = true := decide_eq_true c7
            clear c7
            obtain ⟨y220, hy220⟩ : ∃ y_ : List Int, y_ = (x0_1.set (x10_1 : Int).toNat a3) := ⟨_, rfl⟩
            replace H : (spec_l06Set.l0 k1 y220 a2 a3 (wrap64 (x10_1 + 1))) = some (r1, r2, r3) := by first | (rw [hy220]; with_reducible exact H) | (have H2_ := (Option.bind_some _ _).symm.trans H; rw [hy220]; with_reducible exact H2_) | (have H2_ := (Option.bind_some _ _).symm.trans H; with_reducible exact H2_) | with_reducible exact H | (rw [hy220]; exact H) | exact H
            have Ny220 := Aside0.mk hy220
            clear hy220
            have H' := Aside0.mk H
            clear H
            have p8 : 0 ≤ (x10_1 : Int) := of_decide_eq_true (by first | (with_reducible assumption) | assumption)
            have q8 : (x10_1 : Int) < ((x0_1.length : Int) : Int) := of_decide_eq_true (by first | (with_reducible assumption) | assumption)
            obtain ⟨go8, co8, eo8, gb8, gl8, cl8, HG8⟩ := Kd.R_form HO_0.out (by omega)
            (first | cases eo8 | (injection eo8 with ea_ en_ ec_; (first | subst ea_ | (injection ea_ with ea_; subst ea_)); subst ec_; clear en_))
            have GB8 := Aside0.mk gb8
            have GG8 := Aside0.mk HG8
            clear gb8 gl8 HG8
            have HMgo8 := Aside0.mk (show (P0_ go8 ∨ w.heap.size ≤ go8) from (HO_0.out.1 _ rfl))
            obtain ⟨hx8_0, hf8_0⟩ := Kd.R_celln 0 HO_0.out (x10_1 : Int) p8 q8
            replace p8 := eq_true p8
            replace q8 := eq_true q8
            have HP9 := Kd.R_putg HO_0.out (x10_1 : Int) a3
            go_wp2_with (first | ((with_reducible refine gate_store (t := 3) (p := 21) rfl ?_); refine store_event (t := 3) (p := 21) (v := ?vo_w10) (w1 := (wr.setCell ⟨go8, (x10_1 : Int).toNat, none⟩ (.int .i64 a3))) ?hg ?ho ?hn ?hr ?_; (case ho => rfl); (case hg => rfl); (case hn => rfl); (case hr => first | (go_simp; done) | (go_simp; rfl)); intro w10 hw; have hg : wr.grownBy w10 (some go8) := (by rw [hw]; exact HP9.2); have hp_ : Kd.R (Kd.int .i64) 3 w10 w0.heap.size (fun k_ => (P0_ k_ ∨ w.heap.size ≤ k_)) (.slice (some ⟨go8, 0, none⟩) x0_1.length co8) y220 := (by rw [hw, Ny220.out]; exact HP9.1); clear HP9; have n0_ := Aside0.mk (hp_); have n1_ := Aside0.mk ((by rw [hw]; exact below_set (HB.out) GB8.out : Below w0.heap.size w0 w10)); have n2_ := Aside0.mk (Kept.of_grown (S := (fun k_ => P0_ k_)) hg (by repeat (first | (with_reducible first | exact HK.out | apply Kept.alloc | apply Kept.drewN | apply Kept.drew) | exact HK.out)) (fun k_ e_ => (HO_0.out.1 k_ e_))); clear HO_0; clear HB; clear HK; have HO_0 := n0_; have HB := n1_; have HK := n2_; clear n0_ n1_ n2_; clear hg hw hp_))
            go_roundg k1
            case measure => have := HK1.out; omega
            case rel => exact ⟨(y220), (wrap64 (x10_1 + 1)), (by first | rfl | (simp; done) | (simp [*]; done)), H', ⟨by have := HK1.out; omega⟩, ⟨by (with_reducible repeat (first | apply Kd.R_alloc | apply Kd.R_drewN | apply Kd.R_drew)); exact HO_0.out⟩, ⟨by repeat (first | (with_reducible first | exact HK.out | apply Kept.alloc | apply Kept.drewN | apply Kept.drew) | exact HK.out)⟩, ⟨by repeat (first | (with_reducible first | exact HB.out | apply below_alloc | apply pw_below_drewN | apply below_drew1) | exact HB.out)⟩⟩
          · rw [if_neg c7] at H
            exact absurd H (by simp)
        · rw [if_neg c6] at H
          exact absurd H (by simp)
      · rw [if_neg c5] at H
        have c5b0 : decide (x10_1 < a2) = false := decide_eq_false c5
        clear c5
        replace H := Option.bind_eq_some_iff.mp H
        obtain ⟨t221, A110, H⟩ := H
        replace H : ((spec_RegionsOk.f k1 t221).bind fun t224 => (if t224 = true then (some (t221, true, x0_1)) else (some ((([] : List (S70))), false, x0_1)))) = some (r1, r2, r3) := H
        have A11 := Aside0.mk A110
        clear A110
        replace H := Option.bind_eq_some_iff.mp H
        obtain ⟨t224, A120, H⟩ := H
        replace H : (if t224 = true then (some (t221, true, x0_1)) else (some ((([] : List (S70))), false, x0_1))) = some (r1, r2, r3) := H
        have A12 := Aside0.mk A120
        clear A120
        by_cases c13 : t224 = true
        · subst c13
          have H1 : (some (t221, true, x0_1)) = some (r1, r2, r3) := by rw [if_pos rfl] at H; exact H
          clear H
          have H := H1
          clear H1
          simp only [Option.some.injEq, Prod.mk.injEq] at H
          obtain ⟨rfl, rfl, rfl⟩ := H
          obtain ⟨Ao14, co14, eo14⟩ := Kd.R_slice HO_0.out
          subst eo14
          go_wp2_with (first | ((with_reducible refine gate_callee (f := 121) rfl ?_); refine goesL_ (some 23) rfl rfl Try.func121 (by kernel_rfl) rfl #[.slice Ao14 x0_1.length co14] rfl (by (try simp only [List.map_toArray, List.map_cons, List.map_nil]); first | done | rfl | (simp only [List.length_drop, List.length_take]; rfl)) ?_; (with_reducible refine (spec_l06From.calls k1 _ _ x0_1 t221 _ ?side1 ?side2 A11.out).mono ?_); (case side1 => repeat (first | exact (Kd.R_reads' HO_0.out).2.2 | (with_reducible refine Kd.C_alloc ?_ _) | (with_reducible refine Kd.C_drewN ?_ _) | (with_reducible refine Kd.C_drew ?_))); (case side2 => exact (Kd.R_reads' HO_0.out).2.1); rintro e w15 ⟨v222, rfl, ho0, hb⟩; refine ⟨_, rfl, ?_⟩; have n0_ := Aside0.mk (Kd.R_below (by (with_reducible repeat (first | apply Kd.R_alloc | apply Kd.R_drewN | apply Kd.R_drew)); exact HO_0.out) hb); have n1_ := Aside0.mk (Kd.R_lower (Kd.R_newM (M := fun k_ => (P0_ k_ ∨ w.heap.size ≤ k_)) ho0 (by first | exact HK.out.1 | exact (show Kept w _ (fun k_ => P0_ k_) from by repeat (first | (with_reducible first | exact HK.out | apply Kept.alloc | apply Kept.drewN | apply Kept.drew) | exact HK.out)).1) (fun k_ h_ => .inr h_)) (below_size (by repeat (first | (with_reducible first | exact HB.out | apply below_alloc | apply pw_below_drewN | apply below_drew1) | exact HB.out)))); have n2_ := Aside0.mk (Kept.below (S := (fun k_ => P0_ k_)) (by repeat (first | (with_reducible first | exact HK.out | apply Kept.alloc | apply Kept.drewN | apply Kept.drew) | exact HK.out)) hb); have n3_ := Aside0.mk (below_step (by repeat (first | (with_reducible first | exact HB.out | apply below_alloc | apply pw_below_drewN | apply below_drew1) | exact HB.out)) hb); clear HO_0; clear HK; clear HB; have HO_0 := n0_; have HO223 := n1_; have HK := n2_; have HB := n3_; clear n0_ n1_ n2_ n3_; (try clear hb); (try clear hb2); (try clear hk); (try clear hi); (try clear ho0); obtain ⟨Ao16, co16, eo16⟩ := Kd.R_slice HO223.out; subst eo16) | ((with_reducible refine gate_callee (f := 79) rfl ?_); refine goesL_ (some 25) rfl rfl Try.func79 (by kernel_rfl) rfl #[.slice Ao16 t221.length co16] rfl (by (try simp only [List.map_toArray, List.map_cons, List.map_nil]); first | done | rfl | (simp only [List.length_drop, List.length_take]; rfl)) ?_; (with_reducible refine (spec_RegionsOk.calls k1 _ _ t221 true _ ?side1 ?side2 A12.out).mono ?_); (case side1 => repeat (first | exact (Kd.R_reads' HO223.out).2.2 | (with_reducible refine Kd.C_alloc ?_ _) | (with_reducible refine Kd.C_drewN ?_ _) | (with_reducible refine Kd.C_drew ?_))); (case side2 => exact (Kd.R_reads' HO223.out).2.1); rintro e w17 ⟨rfl, hb⟩; refine ⟨_, rfl, ?_⟩; have n0_ := Aside0.mk (Kd.R_below (by (with_reducible repeat (first | apply Kd.R_alloc | apply Kd.R_drewN | apply Kd.R_drew)); exact HO_0.out) hb); have n1_ := Aside0.mk (Kd.R_below (by (with_reducible repeat (first | apply Kd.R_alloc | apply Kd.R_drewN | apply Kd.R_drew)); exact HO223.out) hb); have n2_ := Aside0.mk (Kept.below (S := (fun k_ => P0_ k_)) (by repeat (first | (with_reducible first | exact HK.out | apply Kept.alloc | apply Kept.drewN | apply Kept.drew) | exact HK.out)) hb); have n3_ := Aside0.mk (below_step (by repeat (first | (with_reducible first | exact HB.out | apply below_alloc | apply pw_below_drewN | apply below_drew1) | exact HB.out)) hb); clear HO_0; clear HO223; clear HK; clear HB; have HO_0 := n0_; have HO223 := n1_; have HK := n2_; have HB := n3_; clear n0_ n1_ n2_ n3_; (try clear hb); (try clear hb2); (try clear hk); (try clear hi)))
          go_ret2
          exact ⟨_, by first | rfl | (simp [errW_none, errW_some] <;> rfl) | (simp [*, errW_none, errW_some] <;> rfl), by (with_reducible repeat (first | apply Kd.R_alloc | apply Kd.R_drewN | apply Kd.R_drew)); exact Kd.R_mono HO223.out (fun _ hk => hk.1), by (with_reducible repeat (first | apply Kd.R_alloc | apply Kd.R_drewN | apply Kd.R_drew)); exact HO_0.out, by repeat (first | (with_reducible first | exact HB.out | apply below_alloc | apply pw_below_drewN | apply below_drew1) | exact HB.out), by repeat (first | (with_reducible first | exact HK.out | apply Kept.alloc | apply Kept.drewN | apply Kept.drew) | exact HK.out)⟩
        · replace c13 := Bool.eq_false_iff.mpr c13
          subst c13
          have H1 : (some ((([] : List (S70))), false, x0_1)) = some (r1, r2, r3) := by rw [if_neg (show ¬ (false = true) by decide)] at H; exact H
          clear H
          have H := H1
          clear H1
          obtain ⟨y225, hy225⟩ : ∃ y_ : List (S70), y_ = (([] : List (S70))) := ⟨_, rfl⟩
          replace H : (some (y225, false, x0_1)) = some (r1, r2, r3) := by first | (rw [hy225]; with_reducible exact H) | (have H2_ := (Option.bind_some _ _).symm.trans H; rw [hy225]; with_reducible exact H2_) | (have H2_ := (Option.bind_some _ _).symm.trans H; with_reducible exact H2_) | with_reducible exact H | (rw [hy225]; exact H) | exact H
          have Ny225 := Aside0.mk hy225
          clear hy225
          simp only [Option.some.injEq, Prod.mk.injEq] at H
          obtain ⟨rfl, rfl, rfl⟩ := H
          obtain ⟨Ao18, co18, eo18⟩ := Kd.R_slice HO_0.out
          subst eo18
          go_wp2_with (first | ((with_reducible refine gate_callee (f := 121) rfl ?_); refine goesL_ (some 23) rfl rfl Try.func121 (by kernel_rfl) rfl #[.slice Ao18 x0_1.length co18] rfl (by (try simp only [List.map_toArray, List.map_cons, List.map_nil]); first | done | rfl | (simp only [List.length_drop, List.length_take]; rfl)) ?_; (with_reducible refine (spec_l06From.calls k1 _ _ x0_1 t221 _ ?side1 ?side2 A11.out).mono ?_); (case side1 => repeat (first | exact (Kd.R_reads' HO_0.out).2.2 | (with_reducible refine Kd.C_alloc ?_ _) | (with_reducible refine Kd.C_drewN ?_ _) | (with_reducible refine Kd.C_drew ?_))); (case side2 => exact (Kd.R_reads' HO_0.out).2.1); rintro e w19 ⟨v222, rfl, ho0, hb⟩; refine ⟨_, rfl, ?_⟩; have n0_ := Aside0.mk (Kd.R_below (by (with_reducible repeat (first | apply Kd.R_alloc | apply Kd.R_drewN | apply Kd.R_drew)); exact HO_0.out) hb); have n1_ := Aside0.mk (Kd.R_lower (Kd.R_newM (M := fun k_ => (P0_ k_ ∨ w.heap.size ≤ k_)) ho0 (by first | exact HK.out.1 | exact (show Kept w _ (fun k_ => P0_ k_) from by repeat (first | (with_reducible first | exact HK.out | apply Kept.alloc | apply Kept.drewN | apply Kept.drew) | exact HK.out)).1) (fun k_ h_ => .inr h_)) (below_size (by repeat (first | (with_reducible first | exact HB.out | apply below_alloc | apply pw_below_drewN | apply below_drew1) | exact HB.out)))); have n2_ := Aside0.mk (Kept.below (S := (fun k_ => P0_ k_)) (by repeat (first | (with_reducible first | exact HK.out | apply Kept.alloc | apply Kept.drewN | apply Kept.drew) | exact HK.out)) hb); have n3_ := Aside0.mk (below_step (by repeat (first | (with_reducible first | exact HB.out | apply below_alloc | apply pw_below_drewN | apply below_drew1) | exact HB.out)) hb); clear HO_0; clear HK; clear HB; have HO_0 := n0_; have HO223 := n1_; have HK := n2_; have HB := n3_; clear n0_ n1_ n2_ n3_; (try clear hb); (try clear hb2); (try clear hk); (try clear hi); (try clear ho0); obtain ⟨Ao20, co20, eo20⟩ := Kd.R_slice HO223.out; subst eo20) | ((with_reducible refine gate_callee (f := 79) rfl ?_); refine goesL_ (some 25) rfl rfl Try.func79 (by kernel_rfl) rfl #[.slice Ao20 t221.length co20] rfl (by (try simp only [List.map_toArray, List.map_cons, List.map_nil]); first | done | rfl | (simp only [List.length_drop, List.length_take]; rfl)) ?_; (with_reducible refine (spec_RegionsOk.calls k1 _ _ t221 false _ ?side1 ?side2 A12.out).mono ?_); (case side1 => repeat (first | exact (Kd.R_reads' HO223.out).2.2 | (with_reducible refine Kd.C_alloc ?_ _) | (with_reducible refine Kd.C_drewN ?_ _) | (with_reducible refine Kd.C_drew ?_))); (case side2 => exact (Kd.R_reads' HO223.out).2.1); rintro e w21 ⟨rfl, hb⟩; refine ⟨_, rfl, ?_⟩; have n0_ := Aside0.mk (Kd.R_below (by (with_reducible repeat (first | apply Kd.R_alloc | apply Kd.R_drewN | apply Kd.R_drew)); exact HO_0.out) hb); have n1_ := Aside0.mk (Kd.R_below (by (with_reducible repeat (first | apply Kd.R_alloc | apply Kd.R_drewN | apply Kd.R_drew)); exact HO223.out) hb); have n2_ := Aside0.mk (Kept.below (S := (fun k_ => P0_ k_)) (by repeat (first | (with_reducible first | exact HK.out | apply Kept.alloc | apply Kept.drewN | apply Kept.drew) | exact HK.out)) hb); have n3_ := Aside0.mk (below_step (by repeat (first | (with_reducible first | exact HB.out | apply below_alloc | apply pw_below_drewN | apply below_drew1) | exact HB.out)) hb); clear HO_0; clear HO223; clear HK; clear HB; have HO_0 := n0_; have HO223 := n1_; have HK := n2_; have HB := n3_; clear n0_ n1_ n2_ n3_; (try clear hb); (try clear hb2); (try clear hk); (try clear hi)) | ((with_reducible refine gate_dst (N := 27) rfl ?_); refine Kd.R_lit k70 _ 70 ?hg (N := 27) ?hd (xs := ([] : List (S70))) (inner := []) (ok := fun _ => True) (okp := fun _ => True) ?hr ?hp (fun _ hk => hk) trivial (Below.refl _ _) (Nat.le_refl _) (by simp) ?_; (case hd => rfl); (case hg => rfl); (case hr => first | (go_simp; done) | (go_simp; rfl)); (case hp => exact (Reps.none _ _)); intro v226 w22 ho23 hb hg_ hnew_; clear hg_ hnew_; (first | rw [← Ny225.out] at ho23 | (simp only [Int.reduceToNat] at ho23; rw [← Ny225.out] at ho23)); have n0_ := Aside0.mk (Kd.R_below (by (with_reducible repeat (first | apply Kd.R_alloc | apply Kd.R_drewN | apply Kd.R_drew)); exact HO_0.out) hb); have n1_ := Aside0.mk (Kd.R_elder' (by (with_reducible repeat (first | apply Kd.R_alloc | apply Kd.R_drewN | apply Kd.R_drew)); exact HO223.out) (Kd.R_base ho23) hb); have n2_ := Aside0.mk (Kd.R_lower (Kd.R_new' (Kd.R_newM (M := fun k_ => (P0_ k_ ∨ w.heap.size ≤ k_)) ho23 (by first | exact HK.out.1 | exact (show Kept w _ (fun k_ => P0_ k_) from by repeat (first | (with_reducible first | exact HK.out | apply Kept.alloc | apply Kept.drewN | apply Kept.drew) | exact HK.out)).1) (fun k_ h_ => .inr h_)) (Kd.R_lt (by (with_reducible repeat (first | apply Kd.R_alloc | apply Kd.R_drewN | apply Kd.R_drew)); exact HO223.out))) (below_size (by repeat (first | (with_reducible first | exact HB.out | apply below_alloc | apply pw_below_drewN | apply below_drew1) | exact HB.out)))); have n3_ := Aside0.mk (Kept.below (S := (fun k_ => P0_ k_)) (by repeat (first | (with_reducible first | exact HK.out | apply Kept.alloc | apply Kept.drewN | apply Kept.drew) | exact HK.out)) hb); have n4_ := Aside0.mk (below_step (by repeat (first | (with_reducible first | exact HB.out | apply below_alloc | apply pw_below_drewN | apply below_drew1) | exact HB.out)) hb); clear HO_0; clear HO223; clear HK; clear HB; have HO_0 := n0_; have HO223 := n1_; have HO227 := n2_; have HK := n3_; have HB := n4_; clear n0_ n1_ n2_ n3_ n4_; clear hb ho23))
          go_ret2
          exact ⟨_, by first | rfl | (simp [errW_none, errW_some] <;> rfl) | (simp [*, errW_none, errW_some] <;> rfl), by (with_reducible repeat (first | apply Kd.R_alloc | apply Kd.R_drewN | apply Kd.R_drew)); exact Kd.R_mono HO227.out (fun _ hk => hk.1.1), by (with_reducible repeat (first | apply Kd.R_alloc | apply Kd.R_drewN | apply Kd.R_drew)); exact HO_0.out, by repeat (first | (with_reducible first | exact HB.out | apply below_alloc | apply pw_below_drewN | apply below_drew1) | exact HB.out), by repeat (first | (with_reducible first | exact HK.out | apply Kept.alloc | apply Kept.drewN | apply Kept.drew) | exact HK.out)⟩

end Go.Proofs.Ytdpejnckojhgjaa.P
end
section
namespace Go.Proofs.Ytdpejnckojhgjaa.P
open Go.RowKit Go.Proofs.YtdpejnckojhgjaaW.PrintWords Go.Proofs.YtdpejnckojhgjaaW.PrintLast Go.Proofs.YtdpejnckojhgjaaW.PrintMore
attribute [local go_sem] max2_int min2_int max_two min_two max_three min_three max_four min_four   -- for this text's walks alone
set_option linter.unusedVariables false
set_option linter.unusedSimpArgs false

/-! ### spec_l06Marks: function 82 -/
mutual
def spec_l06Marks.l0 : Nat → List (S70) → List Int → Int → Option (List Int)
  | 0, _, _, _ => none
  | k + 1, x0, x3, x4 => if x4 < (x0.length : Int) then (if 0 ≤ x4 then (spec_l06Marks.l1 k x0 x3 x4 ((rd_T70 x0 x4).f0)) else (none)) else (some x3)
def spec_l06Marks.l1 : Nat → List (S70) → List Int → Int → Int → Option (List Int)
  | 0, _, _, _, _ => none
  | k + 1, x0, x3, x4, x5 => if 0 ≤ x4 then (if x4 < (x0.length : Int) then (if x5 < ((rd_T70 x0 x4).f1) then (if 0 ≤ x5 then (if x5 < (x3.length : Int) then ((some (x3.set (x5 : Int).toNat 1 : List Int)).bind fun y233 => (if (rd_T70 x0 x4).f2 = true then (spec_l06Marks.l1 k x0 (y233.set (x5 : Int).toNat 2) x4 (wrap64 (x5 + 1))) else (spec_l06Marks.l1 k x0 y233 x4 (wrap64 (x5 + 1))))) else (none)) else (none)) else (spec_l06Marks.l0 k x0 x3 (wrap64 (x4 + 1)))) else (none)) else (none)
end
def spec_l06Marks.f (k : Nat) (l0 : List (S70)) : Option (List Int) := if 64 ≤ 35184372088832 then (spec_l06Marks.l0 k l0 (List.replicate 64 0) 0) else (none)
theorem spec_l06Marks.mono_l : ∀ k, (∀ y0 y1 y2, LeO (spec_l06Marks.l0 k y0 y1 y2) (spec_l06Marks.l0 (k + 1) y0 y1 y2)) ∧ (∀ y0 y1 y2 y3, LeO (spec_l06Marks.l1 k y0 y1 y2 y3) (spec_l06Marks.l1 (k + 1) y0 y1 y2 y3))
  | 0 => ⟨fun _ _ _ r h => by simp [spec_l06Marks.l0] at h, fun _ _ _ _ r h => by simp [spec_l06Marks.l1] at h⟩
  | k + 1 => by
    obtain ⟨ih0, ih1⟩ := spec_l06Marks.mono_l k
    refine ⟨?_, ?_⟩
    · intro y0 y1 y2
      unfold spec_l06Marks.l0
      repeat' first
      | (with_reducible exact ih0 _ _ _)
      | (with_reducible exact ih1 _ _ _ _)
      | (with_reducible exact LeO.refl _)
      | (with_reducible exact LeO.none _)
      | (with_reducible refine LeO.ite ?_ ?_)
      | (with_reducible refine LeO.bind ?_ (fun _ => ?_))
      | exact ih0 _ _ _
      | exact ih1 _ _ _ _
      | exact LeO.none _
      | refine LeO.ite ?_ ?_
      | refine LeO.bind ?_ (fun _ => ?_)
    · intro y0 y1 y2 y3
      unfold spec_l06Marks.l1
      repeat' first
      | (with_reducible exact ih0 _ _ _)
      | (with_reducible exact ih1 _ _ _ _)
      | (with_reducible exact LeO.refl _)
      | (with_reducible exact LeO.none _)
      | (with_reducible refine LeO.ite ?_ ?_)
      | (with_reducible refine LeO.bind ?_ (fun _ => ?_))
      | exact ih0 _ _ _
      | exact ih1 _ _ _ _
      | exact LeO.none _
      | refine LeO.ite ?_ ?_
      | refine LeO.bind ?_ (fun _ => ?_)
theorem spec_l06Marks.mono : ∀ a0 k, LeO (spec_l06Marks.f k a0) (spec_l06Marks.f (k + 1) a0) := by
  intro a0 k
  obtain ⟨ih0, ih1⟩ := spec_l06Marks.mono_l k
  unfold spec_l06Marks.f
  repeat' first
      | (with_reducible exact ih0 _ _ _)
      | (with_reducible exact ih1 _ _ _ _)
      | (with_reducible exact LeO.refl _)
      | (with_reducible exact LeO.none _)
      | (with_reducible refine LeO.ite ?_ ?_)
      | (with_reducible refine LeO.bind ?_ (fun _ => ?_))
      | exact ih0 _ _ _
      | exact ih1 _ _ _ _
      | exact LeO.none _
      | refine LeO.ite ?_ ?_
      | refine LeO.bind ?_ (fun _ => ?_)
set_option maxHeartbeats 8000000 in
set_option maxRecDepth 100000 in
theorem spec_l06Marks.calls (k : Nat) (A0 : Option Addr) (c0 : Nat) (l0 : List (S70)) (r : List Int) (w : World) (hr0 : Kd.C k70 w A0 l0.length l0) (hc0 : l0.length ≤ c0) (h : spec_l06Marks.f k l0 = some r) :
    Calls Try.prog 82 #[.slice A0 l0.length c0] w fun e w' => ∃ v0_ : Value, e = .returned (v0_) ∧ Kd.R (Kd.int .i64) 3 w' w.heap.size (fun _ => True) v0_ r ∧ Below w.heap.size w w' := by
  have HR0 := Aside0.mk hr0
  have HC0 := Aside0.mk hc0
  clear hr0 hc0
  have HB := Aside0.mk (Below.refl w.heap.size w)
  have H : (if 64 ≤ 35184372088832 then (spec_l06Marks.l0 k l0 (List.replicate 64 0) 0) else (none)) = some r := h
  clear h
  by_cases c2 : 64 ≤ 35184372088832
  · rw [if_pos c2] at H
    have c2b0 := eq_true c2
    have c2b1 : decide (64 ≤ 35184372088832) = true := decide_eq_true c2
    clear c2
    obtain ⟨y228, hy228⟩ : ∃ y_ : List Int, y_ = (List.replicate 64 0) := ⟨_, rfl⟩
    replace H : (spec_l06Marks.l0 k l0 y228 0) = some r := by first | (rw [hy228]; with_reducible exact H) | (have H2_ := (Option.bind_some _ _).symm.trans H; rw [hy228]; with_reducible exact H2_) | (have H2_ := (Option.bind_some _ _).symm.trans H; with_reducible exact H2_) | with_reducible exact H | (rw [hy228]; exact H) | exact H
    have Ny228 := Aside0.mk hy228
    clear hy228
    have H' := Aside0.mk H
    clear H
    go_enter Try.func82, Try.ntmps82
    go_wp2_with (first | ((with_reducible refine gate_dst (N := 6) rfl ?_); refine Kd.R_make (Kd.int .i64) _ 3 rfl (N := 6) rfl 22 _ _ rfl 64 rfl rfl Try.underlying22 (.int .i64 0) 8 info3 rfl (by decide) (by omega) 0 (ok := fun _ => True) (okp := fun _ => True) rfl (fun _ hk => hk) trivial (by omega) (by omega) (Below.refl _ _) (Nat.le_refl _) ?_; intro v229 w3 ho4 hb hg_ hnew_; clear hg_ hnew_; (first | rw [← Ny228.out] at ho4 | (simp only [Int.reduceToNat] at ho4; rw [← Ny228.out] at ho4)); have n0_ := Aside0.mk (Kd.R_lower ho4 (below_size (by repeat (first | (with_reducible first | exact HB.out | apply below_alloc | apply pw_below_drewN | apply below_drew1) | exact HB.out)))); have n1_ := Aside0.mk (below_step (by repeat (first | (with_reducible first | exact HB.out | apply below_alloc | apply pw_below_drewN | apply below_drew1) | exact HB.out)) hb); clear HB; have HO230 := n0_; have HB := n1_; clear n0_ n1_; clear hb ho4))
    go_loopg [4] k (fun kq v4 w' => ∃ (x3_1 : List Int) (x4_1 : Int), v4 = .int .i64 x4_1 ∧ Aside0 (spec_l06Marks.l0 kq l0 x3_1 x4_1 = some r) ∧ Aside0 (kq ≤ k) ∧ Aside0 (Kd.R (Kd.int .i64) 3 w' w.heap.size (fun _ => True) v229 x3_1) ∧ Aside0 (Below w.heap.size w w'))
    case atStart => exact ⟨(y228), (0), (by first | rfl | (simp; done) | (simp [*]; done)), H', ⟨Nat.le_refl _⟩, ⟨by (with_reducible repeat (first | apply Kd.R_alloc | apply Kd.R_drewN | apply Kd.R_drew)); exact HO230.out⟩, ⟨by repeat (first | (with_reducible first | exact HB.out | apply below_alloc | apply pw_below_drewN | apply below_drew1) | exact HB.out)⟩⟩
    case round =>
      clear H'
      try clear c2
      try clear c2b0
      try clear c2b1
      try clear p2
      obtain ⟨x3_1, x4_1, rfl, HA, HK1, HO_3, HB⟩ := hrel
      cases gk with
      | zero => exact absurd HA.out (by simp [spec_l06Marks.l0])
      | succ k1 =>
        have H := HA.out
        clear HA
        simp only [spec_l06Marks.l0] at H
        by_cases c5 : x4_1 < (l0.length : Int)
        · rw [if_pos c5] at H
          have c5b0 : decide (x4_1 < (l0.length : Int)) = true := decide_eq_true c5
          clear c5
          by_cases c6 : 0 ≤ x4_1
          · rw [if_pos c6] at H
            have c6b0 : decide (0 ≤ x4_1) = true := decide_eq_true c6
            clear c6
            have H' := Aside0.mk H
            clear H
            have p231 : 0 ≤ (x4_1 : Int) := of_decide_eq_true (by first | (with_reducible assumption) | assumption)
            have q231 : x4_1 < (l0.length : Int) := of_decide_eq_true (by first | (with_reducible assumption) | assumption)
            obtain ⟨ad231, e231, hx231_0, hx231_1, hx231_2⟩ := at_T70 HR0.out x4_1 p231 q231
            cases e231
            replace hx231_0 := (HB.out.cell (World.block_lt_of_cell? w _ hx231_0)).trans hx231_0
            replace hx231_1 := (HB.out.cell (World.block_lt_of_cell? w _ hx231_1)).trans hx231_1
            replace hx231_2 := (HB.out.cell (World.block_lt_of_cell? w _ hx231_2)).trans hx231_2
            replace p231 := eq_true p231
            replace q231 := eq_true q231
            go_wp2
            go_loopg [5] k1 (fun kq v5 w' => ∃ (x3_2 : List Int) (x5_2 : Int), v5 = .int .i64 x5_2 ∧ Aside0 (spec_l06Marks.l1 kq l0 x3_2 x4_1 x5_2 = some r) ∧ Aside0 (kq ≤ k1) ∧ Aside0 (Kd.R (Kd.int .i64) 3 w' w.heap.size (fun _ => True) v229 x3_2) ∧ Aside0 (Below w.heap.size w w'))
            case atStart => exact ⟨(x3_1), ((rd_T70 l0 x4_1).f0), (by first | rfl | (simp; done) | (simp [*]; done)), H', ⟨Nat.le_refl _⟩, ⟨by (with_reducible repeat (first | apply Kd.R_alloc | apply Kd.R_drewN | apply Kd.R_drew)); exact HO_3.out⟩, ⟨by repeat (first | (with_reducible first | exact HB.out | apply below_alloc | apply pw_below_drewN | apply below_drew1) | exact HB.out)⟩⟩
            case round =>
              clear H'
              try clear c2
              try clear c2b0
              try clear c2b1
              try clear p2
              try clear q2
              try clear hx2
              try clear c5
              try clear c5b0
              try clear c6
              try clear c6b0
              try clear hx231_0
              try clear hx231_1
              try clear hx231_2
              try clear p2
              try clear p231
              try clear q231
              obtain ⟨x3_2, x5_2, rfl, HA, HK2, HO_3, HB⟩ := hrel
              cases gk with
              | zero => exact absurd HA.out (by simp [spec_l06Marks.l1])
              | succ k2 =>
                have H := HA.out
                clear HA
                simp only [spec_l06Marks.l1] at H
                by_cases c7 : 0 ≤ x4_1
                · rw [if_pos c7] at H
                  have c7b0 : decide (0 ≤ x4_1) = true := decide_eq_true c7
                  clear c7
                  by_cases c8 : x4_1 < (l0.length : Int)
                  · rw [if_pos c8] at H
                    have c8b0 : decide (x4_1 < (l0.length : Int)) = true := decide_eq_true c8
                    clear c8
                    by_cases c9 : x5_2 < ((rd_T70 l0 x4_1).f1)
                    · rw [if_pos c9] at H
                      have c9b0 : decide (x5_2 < ((rd_T70 l0 x4_1).f1)) = true := decide_eq_true c9
                      clear c9
                      by_cases c10 : 0 ≤ x5_2
                      · rw [if_pos c10] at H
                        have c10b0 : decide (0 ≤ x5_2) = true := decide_eq_true c10
                        clear c10
                        by_cases c11 : x5_2 < (x3_2.length : Int)
                        · rw [if_pos c11] at H
                          have c11b0 : decide (x5_2 < (x3_2.length : Int)) = true := decide_eq_true c11
                          clear c11
                          obtain ⟨y233, hy233⟩ : ∃ y_ : List Int, y_ = (x3_2.set (x5_2 : Int).toNat 1) := ⟨_, rfl⟩
                          replace H : (if (rd_T70 l0 x4_1).f2 = true then (spec_l06Marks.l1 k2 l0 (y233.set (x5_2 : Int).toNat 2) x4_1 (wrap64 (x5_2 + 1))) else (spec_l06Marks.l1 k2 l0 y233 x4_1 (wrap64 (x5_2 + 1)))) = some r := by first | (rw [hy233]; with_reducible exact H) | (have H2_ := (Option.bind_some _ _).symm.trans H; rw [hy233]; with_reducible exact H2_) | (have H2_ := (Option.bind_some _ _).symm.trans H; with_reducible exact H2_) | with_reducible exact H | (rw [hy233]; exact H) | exact H
                          have Ny233 := Aside0.mk hy233
                          clear hy233
                          obtain ⟨bq13, hbq13⟩ : ∃ b_ : Bool, b_ = ((rd_T70 l0 x4_1).f2) := ⟨_, rfl⟩
                          replace H : (if bq13 = true then (spec_l06Marks.l1 k2 l0 (y233.set (x5_2 : Int).toNat 2) x4_1 (wrap64 (x5_2 + 1))) else (spec_l06Marks.l1 k2 l0 y233 x4_1 (wrap64 (x5_2 + 1)))) = some r := by rw [← hbq13] at H; exact H
                          have Nbq13 := Aside0.mk hbq13
                          clear hbq13
                          by_cases c14 : bq13 = true
                          · subst c14
                            have H1 : (spec_l06Marks.l1 k2 l0 (y233.set (x5_2 : Int).toNat 2) x4_1 (wrap64 (x5_2 + 1))) = some r := by rw [if_pos rfl] at H; exact H
                            clear H
                            have H := H1
                            clear H1
                            obtain ⟨y235, hy235⟩ : ∃ y_ : List Int, y_ = (y233.set (x5_2 : Int).toNat 2) := ⟨_, rfl⟩
                            replace H : (spec_l06Marks.l1 k2 l0 y235 x4_1 (wrap64 (x5_2 + 1))) = some r := by first | (rw [hy235]; with_reducible exact H) | (have H2_ := (Option.bind_some _ _).symm.trans H; rw [hy235]; with_reducible exact H2_) | (have H2_ := (Option.bind_some _ _).symm.trans H; with_reducible exact H2_) | with_reducible exact H | (rw [hy235]; exact H) | exact H
                            have Ny235 := Aside0.mk hy235
                            clear hy235
                            have H' := Aside0.mk H
                            clear H
                            have p232 : 0 ≤ (x4_1 : Int) := of_decide_eq_true (by first | (with_reducible assumption) | assumption)
                            have q232 : x4_1 < (l0.length : Int) := of_decide_eq_true (by first | (with_reducible assumption) | assumption)
                            obtain ⟨ad232, e232, hx232_0, hx232_1, hx232_2⟩ := at_T70 HR0.out x4_1 p232 q232
                            (try rw [← Nbq13.out] at hx232_2)
                            obtain rfl : ad231 = ad232 := (by injection e232)
                            replace hx232_0 := (HB.out.cell (World.block_lt_of_cell? w _ hx232_0)).trans hx232_0
                            replace hx232_1 := (HB.out.cell (World.block_lt_of_cell? w _ hx232_1)).trans hx232_1
                            replace hx232_2 := (HB.out.cell (World.block_lt_of_cell? w _ hx232_2)).trans hx232_2
                            replace p232 := eq_true p232
                            replace q232 := eq_true q232
                            have p12 : 0 ≤ (x5_2 : Int) := of_decide_eq_true (by first | (with_reducible assumption) | assumption)
                            have q12 : (x5_2 : Int) < ((x3_2.length : Int) : Int) := of_decide_eq_true (by first | (with_reducible assumption) | assumption)
                            obtain ⟨go12, co12, eo12, gb12, gl12, cl12, HG12⟩ := Kd.R_form HO_3.out (by omega)
                            (first | cases eo12 | (injection eo12 with ea_ en_ ec_; (first | subst ea_ | (injection ea_ with ea_; subst ea_)); subst ec_; clear en_))
                            have GB12 := Aside0.mk gb12
                            have GG12 := Aside0.mk HG12
                            clear gb12 gl12 HG12
                            obtain ⟨hx12_0, hf12_0⟩ := Kd.R_celln 0 HO_3.out (x5_2 : Int) p12 q12
                            replace p12 := eq_true p12
                            replace q12 := eq_true q12
                            have HP16 := Kd.R_putg HO_3.out (x5_2 : Int) 1
                            go_wp2_with (first | ((with_reducible refine gate_store (t := 3) (p := 29) rfl ?_); refine store_event (t := 3) (p := 29) (v := ?vo_w17) (w1 := (wr.setCell ⟨go12, (x5_2 : Int).toNat, none⟩ (.int .i64 1))) ?hg ?ho ?hn ?hr ?_; (case ho => rfl); (case hg => rfl); (case hn => rfl); (case hr => first | (go_simp; done) | (go_simp; rfl)); intro w17 hw; have hg : wr.grownBy w17 (some go12) := (by rw [hw]; exact HP16.2); have hp_ : Kd.R (Kd.int .i64) 3 w17 w.heap.size (fun _ => True) (.slice (some ⟨go12, 0, none⟩) x3_2.length co12) y233 := (by rw [hw, Ny233.out]; exact HP16.1); clear HP16; have n0_ := Aside0.mk (hp_); have n1_ := Aside0.mk ((by rw [hw]; exact below_set (HB.out) GB12.out : Below w.heap.size w w17)); clear HO_3; clear HB; have HO_3 := n0_; have HB := n1_; clear n0_ n1_; clear hg hw hp_; have p234 : 0 ≤ (x4_1 : Int) := of_decide_eq_true (by first | (with_reducible assumption) | assumption); have q234 : x4_1 < (l0.length : Int) := of_decide_eq_true (by first | (with_reducible assumption) | assumption); obtain ⟨ad234, e234, hx234_0, hx234_1, hx234_2⟩ := at_T70 HR0.out x4_1 p234 q234; (try rw [← Nbq13.out] at hx234_2); obtain rfl : ad231 = ad234 := (by injection e234); replace hx234_0 := (HB.out.cell (World.block_lt_of_cell? w _ hx234_0)).trans hx234_0; replace hx234_1 := (HB.out.cell (World.block_lt_of_cell? w _ hx234_1)).trans hx234_1; replace hx234_2 := (HB.out.cell (World.block_lt_of_cell? w _ hx234_2)).trans hx234_2; replace p234 := eq_true p234; replace q234 := eq_true q234; have p15 : 0 ≤ (x5_2 : Int) := of_decide_eq_true (by first | (with_reducible assumption) | assumption); have q15 : (x5_2 : Int) < ((x3_2.length : Int) : Int) := of_decide_eq_true (by first | (with_reducible assumption) | assumption); obtain ⟨hx15_0, hf15_0⟩ := Kd.R_celln 0 HO_3.out (x5_2 : Int) p15 q15; replace p15 := eq_true p15; replace q15 := eq_true q15; obtain ⟨hy18_, hz18_⟩ := Kd.R_celln 0 HO_3.out (x5_2 : Int) (of_decide_eq_true (by first | (with_reducible assumption) | assumption)) (of_decide_eq_true (by first | (with_reducible assumption) | assumption)); have HP18 := Kd.R_putg HO_3.out (x5_2 : Int) 2) | ((with_reducible refine gate_store (t := 3) (p := 37) rfl ?_); refine store_event (t := 3) (p := 37) (v := ?vo_w19) (w1 := (w17.setCell ⟨go12, (x5_2 : Int).toNat, none⟩ (.int .i64 2))) ?hg ?ho ?hn ?hr ?_; (case ho => rfl); (case hg => rfl); (case hn => rfl); (case hr => first | (go_simp; done) | (go_simp; rfl)); intro w19 hw; have hg : w17.grownBy w19 (some go12) := (by rw [hw]; exact HP18.2); have hp_ : Kd.R (Kd.int .i64) 3 w19 w.heap.size (fun _ => True) (.slice (some ⟨go12, 0, none⟩) x3_2.length co12) y235 := (by rw [hw, Ny235.out]; exact HP18.1); clear HP18; have n0_ := Aside0.mk (hp_); have n1_ := Aside0.mk ((by rw [hw]; exact below_set (HB.out) GB12.out : Below w.heap.size w w19)); clear HO_3; clear HB; have HO_3 := n0_; have HB := n1_; clear n0_ n1_; clear hg hw hp_))
                            go_roundg k2
                            case measure => have := HK1.out; have := HK2.out; omega
                            case rel => exact ⟨(y235), (wrap64 (x5_2 + 1)), (by first | rfl | (simp; done) | (simp [*]; done)), H', ⟨by have := HK1.out; have := HK2.out; omega⟩, ⟨by (with_reducible repeat (first | apply Kd.R_alloc | apply Kd.R_drewN | apply Kd.R_drew)); exact HO_3.out⟩, ⟨by repeat (first | (with_reducible first | exact HB.out | apply below_alloc | apply pw_below_drewN | apply below_drew1) | exact HB.out)⟩⟩
                          · replace c14 := Bool.eq_false_iff.mpr c14
                            subst c14
                            have H1 : (spec_l06Marks.l1 k2 l0 y233 x4_1 (wrap64 (x5_2 + 1))) = some r := by rw [if_neg (show ¬ (false = true) by decide)] at H; exact H
                            clear H
                            have H := H1
                            clear H1
                            have H' := Aside0.mk H
                            clear H
                            have p232 : 0 ≤ (x4_1 : Int) := of_decide_eq_true (by first | (with_reducible assumption) | assumption)
                            have q232 : x4_1 < (l0.length : Int) := of_decide_eq_true (by first | (with_reducible assumption) | assumption)
                            obtain ⟨ad232, e232, hx232_0, hx232_1, hx232_2⟩ := at_T70 HR0.out x4_1 p232 q232
                            (try rw [← Nbq13.out] at hx232_2)
                            obtain rfl : ad231 = ad232 := (by injection e232)
                            replace hx232_0 := (HB.out.cell (World.block_lt_of_cell? w _ hx232_0)).trans hx232_0
                            replace hx232_1 := (HB.out.cell (World.block_lt_of_cell? w _ hx232_1)).trans hx232_1
                            replace hx232_2 := (HB.out.cell (World.block_lt_of_cell? w _ hx232_2)).trans hx232_2
                            replace p232 := eq_true p232
                            replace q232 := eq_true q232
                            have p12 : 0 ≤ (x5_2 : Int) := of_decide_eq_true (by first | (with_reducible assumption) | assumption)
                            have q12 : (x5_2 : Int) < ((x3_2.length : Int) : Int) := of_decide_eq_true (by first | (with_reducible assumption) | assumption)
                            obtain ⟨go12, co12, eo12, gb12, gl12, cl12, HG12⟩ := Kd.R_form HO_3.out (by omega)
                            (first | cases eo12 | (injection eo12 with ea_ en_ ec_; (first | subst ea_ | (injection ea_ with ea_; subst ea_)); subst ec_; clear en_))
                            have GB12 := Aside0.mk gb12
                            have GG12 := Aside0.mk HG12
                            clear gb12 gl12 HG12
                            obtain ⟨hx12_0, hf12_0⟩ := Kd.R_celln 0 HO_3.out (x5_2 : Int) p12 q12
                            replace p12 := eq_true p12
                            replace q12 := eq_true q12
                            have HP20 := Kd.R_putg HO_3.out (x5_2 : Int) 1
                            go_wp2_with (first | ((with_reducible refine gate_store (t := 3) (p := 29) rfl ?_); refine store_event (t := 3) (p := 29) (v := ?vo_w21) (w1 := (wr.setCell ⟨go12, (x5_2 : Int).toNat, none⟩ (.int .i64 1))) ?hg ?ho ?hn ?hr ?_; (case ho => rfl); (case hg => rfl); (case hn => rfl); (case hr => first | (go_simp; done) | (go_simp; rfl)); intro w21 hw; have hg : wr.grownBy w21 (some go12) := (by rw [hw]; exact HP20.2); have hp_ : Kd.R (Kd.int .i64) 3 w21 w.heap.size (fun _ => True) (.slice (some ⟨go12, 0, none⟩) x3_2.length co12) y233 := (by rw [hw, Ny233.out]; exact HP20.1); clear HP20; have n0_ := Aside0.mk (hp_); have n1_ := Aside0.mk ((by rw [hw]; exact below_set (HB.out) GB12.out : Below w.heap.size w w21)); clear HO_3; clear HB; have HO_3 := n0_; have HB := n1_; clear n0_ n1_; clear hg hw hp_; have p234 : 0 ≤ (x4_1 : Int) := of_decide_eq_true (by first | (with_reducible assumption) | assumption); have q234 : x4_1 < (l0.length : Int) := of_decide_eq_true (by first | (with_reducible assumption) | assumption); obtain ⟨ad234, e234, hx234_0, hx234_1, hx234_2⟩ := at_T70 HR0.out x4_1 p234 q234; (try rw [← Nbq13.out] at hx234_2); obtain rfl : ad231 = ad234 := (by injection e234); replace hx234_0 := (HB.out.cell (World.block_lt_of_cell? w _ hx234_0)).trans hx234_0; replace hx234_1 := (HB.out.cell (World.block_lt_of_cell? w _ hx234_1)).trans hx234_1; replace hx234_2 := (HB.out.cell (World.block_lt_of_cell? w _ hx234_2)).trans hx234_2; replace p234 := eq_true p234; replace q234 := eq_true q234))
                            go_roundg k2
                            case measure => have := HK1.out; have := HK2.out; omega
                            case rel => exact ⟨(y233), (wrap64 (x5_2 + 1)), (by first | rfl | (simp; done) | (simp [*]; done)), H', ⟨by have := HK1.out; have := HK2.out; omega⟩, ⟨by (with_reducible repeat (first | apply Kd.R_alloc | apply Kd.R_drewN | apply Kd.R_drew)); exact HO_3.out⟩, ⟨by repeat (first | (with_reducible first | exact HB.out | apply below_alloc | apply pw_below_drewN | apply below_drew1) | exact HB.out)⟩⟩
                        · rw [if_neg c11] at H
                          exact absurd H (by simp)
                      · rw [if_neg c10] at H
                        exact absurd H (by simp)
                    · rw [if_neg c9] at H
                      have c9b0 : decide (x5_2 < ((rd_T70 l0 x4_1).f1)) = false := decide_eq_false c9
                      clear c9
                      have H' := Aside0.mk H
                      clear H
                      have p232 : 0 ≤ (x4_1 : Int) := of_decide_eq_true (by first | (with_reducible assumption) | assumption)
                      have q232 : x4_1 < (l0.length : Int) := of_decide_eq_true (by first | (with_reducible assumption) | assumption)
                      obtain ⟨ad232, e232, hx232_0, hx232_1, hx232_2⟩ := at_T70 HR0.out x4_1 p232 q232
                      obtain rfl : ad231 = ad232 := (by injection e232)
                      replace hx232_0 := (HB.out.cell (World.block_lt_of_cell? w _ hx232_0)).trans hx232_0
                      replace hx232_1 := (HB.out.cell (World.block_lt_of_cell? w _ hx232_1)).trans hx232_1
                      replace hx232_2 := (HB.out.cell (World.block_lt_of_cell? w _ hx232_2)).trans hx232_2
                      replace p232 := eq_true p232
                      replace q232 := eq_true q232
                      go_wp2
                      go_roundg k2
                      case measure => have := HK1.out; have := HK2.out; omega
                      case rel => exact ⟨(x3_2), (wrap64 (x4_1 + 1)), (by first | rfl | (simp; done) | (simp [*]; done)), H', ⟨by have := HK1.out; have := HK2.out; omega⟩, ⟨by (with_reducible repeat (first | apply Kd.R_alloc | apply Kd.R_drewN | apply Kd.R_drew)); exact HO_3.out⟩, ⟨by repeat (first | (with_reducible first | exact HB.out | apply below_alloc | apply pw_below_drewN | apply below_drew1) | exact HB.out)⟩⟩
                  · rw [if_neg c8] at H
                    exact absurd H (by simp)
                · rw [if_neg c7] at H
                  exact absurd H (by simp)
          · rw [if_neg c6] at H
            exact absurd H (by simp)
        · rw [if_neg c5] at H
          have c5b0 : decide (x4_1 < (l0.length : Int)) = false := decide_eq_false c5
          clear c5
          obtain rfl := Option.some.inj H
          go_wp2
          go_ret
          exact ⟨_, by first | rfl | (simp [errW_none, errW_some] <;> rfl) | (simp [*, errW_none, errW_some] <;> rfl), by (with_reducible repeat (first | apply Kd.R_alloc | apply Kd.R_drewN | apply Kd.R_drew)); exact HO_3.out, by repeat (first | (with_reducible first | exact HB.out | apply below_alloc | apply pw_below_drewN | apply below_drew1) | exact HB.out)⟩
  · rw [if_neg c2] at H
    exact absurd H (by simp)

end Go.Proofs.Ytdpejnckojhgjaa.P
end
section
namespace Go.Proofs.Ytdpejnckojhgjaa.P
open Go.RowKit Go.Proofs.YtdpejnckojhgjaaW.PrintWords Go.Proofs.YtdpejnckojhgjaaW.PrintLast Go.Proofs.YtdpejnckojhgjaaW.PrintMore
attribute [local go_sem] max2_int min2_int max_two min_two max_three min_three max_four min_four   -- for this text's walks alone
set_option linter.unusedVariables false
set_option linter.unusedSimpArgs false

/-! ### spec_CutRegions: function 24 -/
def spec_CutRegions.j0 : Nat → List (S70) → Int → Int → Bool → Option ((List (S70)) × Bool)
  | 0, _, _, _, _ => none
  | k + 1, x0, x1, x2, x17 => if x17 = true then (some ((([] : List (S70))), false)) else ((spec_l06Marks.f k x0).bind fun t241 => ((spec_l06Set.f k t241 x1 x2 0).bind fun bt244 => (some (bt244.1, bt244.2.1))))
def spec_CutRegions.f (k : Nat) (l0 : List (S70)) (a1 : Int) (a2 : Int) : Option ((List (S70)) × Bool) := (spec_RegionsOk.f k l0).bind fun t236 => (if t236 = true then ((spec_l06One.f a1 a2 false).bind fun t237 => (spec_CutRegions.j0 k l0 a1 a2 (!t237))) else (spec_CutRegions.j0 k l0 a1 a2 true))
theorem spec_CutRegions.mono_l : ∀ k, (∀ y0 y1 y2 y3, LeO (spec_CutRegions.j0 k y0 y1 y2 y3) (spec_CutRegions.j0 (k + 1) y0 y1 y2 y3))
  | 0 => fun _ _ _ _ r h => by simp [spec_CutRegions.j0] at h
  | k + 1 => by
    have ih0 := spec_CutRegions.mono_l k
    · intro y0 y1 y2 y3
      unfold spec_CutRegions.j0
      repeat' first
      | (with_reducible exact ih0 _ _ _ _)
      | (with_reducible exact spec_RegionsOk.mono _ _)
      | (with_reducible exact spec_l06Marks.mono _ _)
      | (with_reducible exact spec_l06Set.mono _ _ _ _ _)
      | (with_reducible exact LeO.refl _)
      | (with_reducible exact LeO.none _)
      | (with_reducible refine LeO.ite ?_ ?_)
      | (with_reducible refine LeO.bind ?_ (fun _ => ?_))
      | exact ih0 _ _ _ _
      | exact spec_RegionsOk.mono _ _
      | exact spec_l06Marks.mono _ _
      | exact spec_l06Set.mono _ _ _ _ _
      | exact LeO.none _
      | refine LeO.ite ?_ ?_
      | refine LeO.bind ?_ (fun _ => ?_)
theorem spec_CutRegions.mono : ∀ a0 a1 a2 k, LeO (spec_CutRegions.f k a0 a1 a2) (spec_CutRegions.f (k + 1) a0 a1 a2) := by
  intro a0 a1 a2 k
  have ih0 := spec_CutRegions.mono_l k
  unfold spec_CutRegions.f
  repeat' first
      | (with_reducible exact ih0 _ _ _ _)
      | (with_reducible exact spec_RegionsOk.mono _ _)
      | (with_reducible exact spec_l06Marks.mono _ _)
      | (with_reducible exact spec_l06Set.mono _ _ _ _ _)
      | (with_reducible exact LeO.refl _)
      | (with_reducible exact LeO.none _)
      | (with_reducible refine LeO.ite ?_ ?_)
      | (with_reducible refine LeO.bind ?_ (fun _ => ?_))
      | exact ih0 _ _ _ _
      | exact spec_RegionsOk.mono _ _
      | exact spec_l06Marks.mono _ _
      | exact spec_l06Set.mono _ _ _ _ _
      | exact LeO.none _
      | refine LeO.ite ?_ ?_
      | refine LeO.bind ?_ (fun _ => ?_)
set_option maxHeartbeats 8000000 in
set_option maxRecDepth 100000 in
theorem spec_CutRegions.calls (k : Nat) (A0 : Option Addr) (c0 : Nat) (l0 : List (S70)) (a1 : Int) (a2 : Int) (r1 : List (S70)) (r2 : Bool) (w : World) (hr0 : Kd.C k70 w A0 l0.length l0) (hc0 : l0.length ≤ c0) (h : spec_CutRegions.f k l0 a1 a2 = some (r1, r2)) :
    Calls Try.prog 24 #[.slice A0 l0.length c0, .int .i64 a1, .int .i64 a2] w fun e w' => ∃ v0_ : Value, e = .returned (.tuple #[v0_, .bool r2]) ∧ Kd.R k70 70 w' w.heap.size (fun _ => True) v0_ r1 ∧ Below w.heap.size w w' := by
  have hu70 := Try.underlying70
  have HR0 := Aside0.mk hr0
  have HC0 := Aside0.mk hc0
  clear hr0 hc0
  have HB := Aside0.mk (Below.refl w.heap.size w)
  have H : ((spec_RegionsOk.f k l0).bind fun t236 => (if t236 = true then ((spec_l06One.f a1 a2 false).bind fun t237 => (spec_CutRegions.j0 k l0 a1 a2 (!t237))) else (spec_CutRegions.j0 k l0 a1 a2 true))) = some (r1, r2) := h
  clear h
  have HC4 := Aside0.mk H
  clear H
  go_enter Try.func24, Try.ntmps24
  go_upto_region 1 with (fail)
  go_cut [17] (fun v17 wc => ∃ (kq : Nat) (x17_3 : Bool), v17 = .bool x17_3 ∧ Aside0 (spec_CutRegions.j0 kq l0 a1 a2 x17_3 = some (r1, r2)) ∧ Aside0 (kq ≤ k) ∧ Aside0 (Below w.heap.size w wc))
  case first =>
    have H := HC4.out
    clear HC4
    replace H := Option.bind_eq_some_iff.mp H
    obtain ⟨t236, A50, H⟩ := H
    replace H : (if t236 = true then ((spec_l06One.f a1 a2 false).bind fun t237 => (spec_CutRegions.j0 k l0 a1 a2 (!t237))) else (spec_CutRegions.j0 k l0 a1 a2 true)) = some (r1, r2) := H
    have A5 := Aside0.mk A50
    clear A50
    by_cases c6 : t236 = true
    · subst c6
      have H1 : ((spec_l06One.f a1 a2 false).bind fun t237 => (spec_CutRegions.j0 k l0 a1 a2 (!t237))) = some (r1, r2) := by rw [if_pos rfl] at H; exact H
      clear H
      have H := H1
      clear H1
      replace H := Option.bind_eq_some_iff.mp H
      obtain ⟨t237, A70, H⟩ := H
      replace H : (spec_CutRegions.j0 k l0 a1 a2 (!t237)) = some (r1, r2) := H
      have A7 := Aside0.mk A70
      clear A70
      have H' := Aside0.mk H
      clear H
      go_wp2_with (first | ((with_reducible refine gate_callee (f := 79) rfl ?_); refine goesL_ (some 9) rfl rfl Try.func79 (by kernel_rfl) rfl #[.slice A0 l0.length c0] rfl (by (try simp only [List.map_toArray, List.map_cons, List.map_nil]); first | done | rfl | (simp only [List.length_drop, List.length_take]; rfl)) ?_; (with_reducible refine (spec_RegionsOk.calls k _ _ l0 true _ ?side1 ?side2 A5.out).mono ?_); (case side1 => repeat (first | exact (Kd.C_below HR0.out HB.out) | (with_reducible refine Kd.C_alloc ?_ _) | (with_reducible refine Kd.C_drewN ?_ _) | (with_reducible refine Kd.C_drew ?_))); (case side2 => exact HC0.out); rintro e w8 ⟨rfl, hb⟩; refine ⟨_, rfl, ?_⟩; have n0_ := Aside0.mk (below_step (by repeat (first | (with_reducible first | exact HB.out | apply below_alloc | apply pw_below_drewN | apply below_drew1) | exact HB.out)) hb); clear HB; have HB := n0_; clear n0_; (try clear hb); (try clear hb2); (try clear hk); (try clear hi)) | (go_at_call 80; (with_reducible refine (spec_l06One.calls a1 a2 false t237 _ A7.out).mono ?_); rintro e w9 ⟨rfl, hb⟩; have n0_ := Aside0.mk (below_step (by repeat (first | (with_reducible first | exact HB.out | apply below_alloc | apply pw_below_drewN | apply below_drew1) | exact HB.out)) hb); clear HB; have HB := n0_; clear n0_; (try clear hb); (try clear hb2); (try clear hk); (try clear hi)))
      go_meet
      case rel => exact ⟨_, (!t237), (by first | rfl | (simp; done) | (simp [*]; done)), H', ⟨by first | omega | exact Nat.le_refl _⟩, ⟨by repeat (first | (with_reducible first | exact HB.out | apply below_alloc | apply pw_below_drewN | apply below_drew1) | exact HB.out)⟩⟩
    · replace c6 := Bool.eq_false_iff.mpr c6
      subst c6
      have H1 : (spec_CutRegions.j0 k l0 a1 a2 true) = some (r1, r2) := by rw [if_neg (show ¬ (false = true) by decide)] at H; exact H
      clear H
      have H := H1
      clear H1
      have H' := Aside0.mk H
      clear H
      go_wp2_with (first | ((with_reducible refine gate_callee (f := 79) rfl ?_); refine goesL_ (some 9) rfl rfl Try.func79 (by kernel_rfl) rfl #[.slice A0 l0.length c0] rfl (by (try simp only [List.map_toArray, List.map_cons, List.map_nil]); first | done | rfl | (simp only [List.length_drop, List.length_take]; rfl)) ?_; (with_reducible refine (spec_RegionsOk.calls k _ _ l0 false _ ?side1 ?side2 A5.out).mono ?_); (case side1 => repeat (first | exact (Kd.C_below HR0.out HB.out) | (with_reducible refine Kd.C_alloc ?_ _) | (with_reducible refine Kd.C_drewN ?_ _) | (with_reducible refine Kd.C_drew ?_))); (case side2 => exact HC0.out); rintro e w10 ⟨rfl, hb⟩; refine ⟨_, rfl, ?_⟩; have n0_ := Aside0.mk (below_step (by repeat (first | (with_reducible first | exact HB.out | apply below_alloc | apply pw_below_drewN | apply below_drew1) | exact HB.out)) hb); clear HB; have HB := n0_; clear n0_; (try clear hb); (try clear hb2); (try clear hk); (try clear hi)))
      go_meet
      case rel => exact ⟨_, (true), (by first | rfl | (simp; done) | (simp [*]; done)), H', ⟨by first | omega | exact Nat.le_refl _⟩, ⟨by repeat (first | (with_reducible first | exact HB.out | apply below_alloc | apply pw_below_drewN | apply below_drew1) | exact HB.out)⟩⟩
  case rest =>
    clear HC4
    try clear c2
    try clear p2
    try clear c6
    try clear c7
    obtain ⟨kq, x17_3, rfl, HA, HJ3, HB⟩ := hcut
    cases kq with
    | zero => exact absurd HA.out (by simp [spec_CutRegions.j0])
    | succ kj3 =>
      have H := HA.out
      clear HA
      simp only [spec_CutRegions.j0] at H
      by_cases c11 : x17_3 = true
      · subst c11
        have H1 : (some ((([] : List (S70))), false)) = some (r1, r2) := by rw [if_pos rfl] at H; exact H
        clear H
        have H := H1
        clear H1
        obtain ⟨y238, hy238⟩ : ∃ y_ : List (S70), y_ = (([] : List (S70))) := ⟨_, rfl⟩
        replace H : (some (y238, false)) = some (r1, r2) := by first | (rw [hy238]; with_reducible exact H) | (have H2_ := (Option.bind_some _ _).symm.trans H; rw [hy238]; with_reducible exact H2_) | (have H2_ := (Option.bind_some _ _).symm.trans H; with_reducible exact H2_) | with_reducible exact H | (rw [hy238]; exact H) | exact H
        have Ny238 := Aside0.mk hy238
        clear hy238
        simp only [Option.some.injEq, Prod.mk.injEq] at H
        obtain ⟨rfl, rfl⟩ := H
        go_wp2_with (first | ((with_reducible refine gate_dst (N := 18) rfl ?_); refine Kd.R_lit k70 _ 70 ?hg (N := 18) ?hd (xs := ([] : List (S70))) (inner := []) (ok := fun _ => True) (okp := fun _ => True) ?hr ?hp (fun _ hk => hk) trivial (Below.refl _ _) (Nat.le_refl _) (by simp) ?_; (case hd => rfl); (case hg => rfl); (case hr => first | (go_simp; done) | (go_simp; rfl)); (case hp => exact (Reps.none _ _)); intro v239 w12 ho13 hb hg_ hnew_; clear hg_ hnew_; (first | rw [← Ny238.out] at ho13 | (simp only [Int.reduceToNat] at ho13; rw [← Ny238.out] at ho13)); have n0_ := Aside0.mk (Kd.R_lower ho13 (below_size (by repeat (first | (with_reducible first | exact HB.out | apply below_alloc | apply pw_below_drewN | apply below_drew1) | exact HB.out)))); have n1_ := Aside0.mk (below_step (by repeat (first | (with_reducible first | exact HB.out | apply below_alloc | apply pw_below_drewN | apply below_drew1) | exact HB.out)) hb); clear HB; have HO240 := n0_; have HB := n1_; clear n0_ n1_; clear hb ho13))
        go_ret2
        exact ⟨_, by first | rfl | (simp [errW_none, errW_some] <;> rfl) | (simp [*, errW_none, errW_some] <;> rfl), by (with_reducible repeat (first | apply Kd.R_alloc | apply Kd.R_drewN | apply Kd.R_drew)); exact HO240.out, by repeat (first | (with_reducible first | exact HB.out | apply below_alloc | apply pw_below_drewN | apply below_drew1) | exact HB.out)⟩
      · replace c11 := Bool.eq_false_iff.mpr c11
        subst c11
        have H1 : ((spec_l06Marks.f kj3 l0).bind fun t241 => ((spec_l06Set.f kj3 t241 a1 a2 0).bind fun bt244 => (some (bt244.1, bt244.2.1)))) = some (r1, r2) := by rw [if_neg (show ¬ (false = true) by decide)] at H; exact H
        clear H
        have H := H1
        clear H1
        replace H := Option.bind_eq_some_iff.mp H
        obtain ⟨t241, A140, H⟩ := H
        replace H : ((spec_l06Set.f kj3 t241 a1 a2 0).bind fun bt244 => (some (bt244.1, bt244.2.1))) = some (r1, r2) := H
        have A14 := Aside0.mk A140
        clear A140
        replace H := Option.bind_eq_some_iff.mp H
        obtain ⟨⟨t244, t247, t248⟩, A150, H⟩ := H
        replace H : (some (t244, t247)) = some (r1, r2) := H
        have A15 := Aside0.mk A150
        clear A150
        simp only [Option.some.injEq, Prod.mk.injEq] at H
        obtain ⟨rfl, rfl⟩ := H
        go_wp2_with (first | ((with_reducible refine gate_callee (f := 82) rfl ?_); refine goesL_ (some 20) rfl rfl Try.func82 (by kernel_rfl) rfl #[.slice A0 l0.length c0] rfl (by (try simp only [List.map_toArray, List.map_cons, List.map_nil]); first | done | rfl | (simp only [List.length_drop, List.length_take]; rfl)) ?_; (with_reducible refine (spec_l06Marks.calls kj3 _ _ l0 t241 _ ?side1 ?side2 A14.out).mono ?_); (case side1 => repeat (first | exact (Kd.C_below HR0.out HB.out) | (with_reducible refine Kd.C_alloc ?_ _) | (with_reducible refine Kd.C_drewN ?_ _) | (with_reducible refine Kd.C_drew ?_))); (case side2 => exact HC0.out); rintro e w16 ⟨v242, rfl, ho0, hb⟩; refine ⟨_, rfl, ?_⟩; have n0_ := Aside0.mk (Kd.R_lower ho0 (below_size (by repeat (first | (with_reducible first | exact HB.out | apply below_alloc | apply pw_below_drewN | apply below_drew1) | exact HB.out)))); have n1_ := Aside0.mk (below_step (by repeat (first | (with_reducible first | exact HB.out | apply below_alloc | apply pw_below_drewN | apply below_drew1) | exact HB.out)) hb); clear HB; have HO243 := n0_; have HB := n1_; clear n0_ n1_; (try clear hb); (try clear hb2); (try clear hk); (try clear hi); (try clear ho0); obtain ⟨Ao17, co17, eo17⟩ := Kd.R_slice HO243.out; subst eo17) | ((with_reducible refine gate_callee (f := 81) rfl ?_); refine goesL_ (some 23) rfl rfl Try.func81 (by kernel_rfl) rfl #[.slice Ao17 t241.length co17, .int .i64 a1, .int .i64 a2, .int .i64 0] rfl (by (try simp only [List.map_toArray, List.map_cons, List.map_nil]); first | done | rfl | (simp only [List.length_drop, List.length_take]; rfl)) ?_; (with_reducible refine (spec_l06Set.calls kj3 (fun k_ => some k_ = (.slice Ao17 t241.length co17 : Value).ownBlock) (.slice Ao17 t241.length co17) t241 a1 a2 0 t244 t247 t248 w _ ?side1 ?side2 A15.out).mono ?_); (case side1 => repeat (first | (with_reducible first | exact HB.out | apply below_alloc | apply pw_below_drewN | apply below_drew1) | exact HB.out)); (case side2 => exact Kd.R_tight rfl HO243.out); rintro e w18 ⟨v245, rfl, ho0, hy0, hb, hkp⟩; refine ⟨_, rfl, ?_⟩; have n0_ := Aside0.mk (Kd.R_reok rfl hy0 (fun k_ e_ => HO243.out.1 k_ e_)); have n1_ := Aside0.mk (Kd.R_mono (ok' := fun k_ => True) ho0 (fun k_ hk_ => trivial)); have n2_ := Aside0.mk (hb); clear HO243; clear HB; have HO243 := n0_; have HO246 := n1_; have HB := n2_; clear n0_ n1_ n2_; (try clear hb); (try clear hkp); (try clear ho0); (try clear hy0)))
        go_ret2
        exact ⟨_, by first | rfl | (simp [errW_none, errW_some] <;> rfl) | (simp [*, errW_none, errW_some] <;> rfl), by (with_reducible repeat (first | apply Kd.R_alloc | apply Kd.R_drewN | apply Kd.R_drew)); exact HO246.out, by repeat (first | (with_reducible first | exact HB.out | apply below_alloc | apply pw_below_drewN | apply below_drew1) | exact HB.out)⟩

end Go.Proofs.Ytdpejnckojhgjaa.P
end
section
namespace Go.Proofs.Ytdpejnckojhgjaa.P
open Go.RowKit Go.Proofs.YtdpejnckojhgjaaW.PrintWords Go.Proofs.YtdpejnckojhgjaaW.PrintLast Go.Proofs.YtdpejnckojhgjaaW.PrintMore
attribute [local go_sem] max2_int min2_int max_two min_two max_three min_three max_four min_four   -- for this text's walks alone
set_option linter.unusedVariables false
set_option linter.unusedSimpArgs false

/-! ### impl_within: function 76 -/
def impl_within.f (a0 : Int) (a1 : Int) (a2 : Int) : Option (Bool) := if a0 ≥ a1 then (some (decide (a0 ≤ a2))) else (some false)
set_option maxHeartbeats 8000000 in
set_option maxRecDepth 100000 in
theorem impl_within.calls (a0 : Int) (a1 : Int) (a2 : Int) (r : Bool) (w : World) (h : impl_within.f a0 a1 a2 = some r) :
    Calls Try.prog 76 #[.int .i64 a0, .int .i64 a1, .int .i64 a2] w fun e w' => e = .returned (.bool r) ∧ Drawn0 w w' := by
  have H : (if a0 ≥ a1 then (some (decide (a0 ≤ a2))) else (some false)) = some r := h
  clear h
  by_cases c4 : a0 ≥ a1
  · rw [if_pos c4] at H
    have c4b0 : decide (a1 ≤ a0) = true := decide_eq_true c4
    clear c4
    obtain rfl := Option.some.inj H
    go_enter Try.func76, Try.ntmps76
    go_wp2
    go_ret
    exact ⟨by first | rfl | (simp; done) | (simp [*]; done), by repeat (first | exact Drawn0.refl _ | apply Drawn0.step)⟩
  · rw [if_neg c4] at H
    have c4b0 : decide (a1 ≤ a0) = false := decide_eq_false c4
    clear c4
    obtain rfl := Option.some.inj H
    go_enter Try.func76, Try.ntmps76
    go_wp2
    go_ret
    exact ⟨by first | rfl | (simp; done) | (simp [*]; done), by repeat (first | exact Drawn0.refl _ | apply Drawn0.step)⟩

end Go.Proofs.Ytdpejnckojhgjaa.P
end
section
namespace Go.Proofs.Ytdpejnckojhgjaa.P
open Go.RowKit Go.Proofs.YtdpejnckojhgjaaW.PrintWords Go.Proofs.YtdpejnckojhgjaaW.PrintLast Go.Proofs.YtdpejnckojhgjaaW.PrintMore
attribute [local go_sem] max2_int min2_int max_two min_two max_three min_three max_four min_four   -- for this text's walks alone
set_option linter.unusedVariables false
set_option linter.unusedSimpArgs false

/-! ### impl_RegionsOk: function 64 -/
mutual
def impl_RegionsOk.l0 : Nat → List (S70) → List (S70) → Int → Int → Option (Bool)
  | 0, _, _, _, _ => none
  | k + 1, x0, x5, x6, x7 => if x7 < x6 then (if 0 ≤ x7 then (if x7 < (x5.length : Int) then ((impl_within.f ((rd_T70 x5 x7).f0) 0 (wrap64 (((rd_T70 x5 x7).f1) - 1))).bind fun t262 => (if t262 = true then ((impl_within.f ((rd_T70 x5 x7).f1) 1 64).bind fun t263 => (impl_RegionsOk.j1 k x0 x7 x5 x6 x7 (!t263) ((rd_T70 x5 x7).f0) ((rd_T70 x5 x7).f1) ((rd_T70 x5 x7).f2))) else (impl_RegionsOk.j1 k x0 x7 x5 x6 x7 true ((rd_T70 x5 x7).f0) ((rd_T70 x5 x7).f1) ((rd_T70 x5 x7).f2)))) else (none)) else (none)) else (some (decide ((x0.length : Int) ≤ 12)))
def impl_RegionsOk.j1 : Nat → List (S70) → Int → List (S70) → Int → Int → Bool → Int → Int → Bool → Option (Bool)
  | 0, _, _, _, _, _, _, _, _, _ => none
  | k + 1, x0, x3, x5, x6, x7, x24, x262000, x262001, x262002 => if x24 = true then (some false) else (if x3 > 0 then (if 0 ≤ (wrap64 (x3 - 1)) then (if (wrap64 (x3 - 1)) < (x0.length : Int) then (if ((rd_T70 x0 (wrap64 (x3 - 1))).f1) > x262000 then (some false) else (if ((rd_T70 x0 (wrap64 (x3 - 1))).f1) = x262000 then (if (((rd_T70 x0 (wrap64 (x3 - 1))).f2) == x262002) = true then (some false) else (impl_RegionsOk.l0 k x0 x5 x6 (wrap64 (x7 + 1)))) else (impl_RegionsOk.l0 k x0 x5 x6 (wrap64 (x7 + 1))))) else (none)) else (none)) else (impl_RegionsOk.l0 k x0 x5 x6 (wrap64 (x7 + 1))))
end
def impl_RegionsOk.f (k : Nat) (l0 : List (S70)) : Option (Bool) := impl_RegionsOk.l0 k l0 l0 (l0.length : Int) 0
theorem impl_RegionsOk.mono_l : ∀ k, (∀ y0 y1 y2 y3, LeO (impl_RegionsOk.l0 k y0 y1 y2 y3) (impl_RegionsOk.l0 (k + 1) y0 y1 y2 y3)) ∧ (∀ y0 y1 y2 y3 y4 y5 y6 y7 y8, LeO (impl_RegionsOk.j1 k y0 y1 y2 y3 y4 y5 y6 y7 y8) (impl_RegionsOk.j1 (k + 1) y0 y1 y2 y3 y4 y5 y6 y7 y8))
  | 0 => ⟨fun _ _ _ _ r h => by simp [impl_RegionsOk.l0] at h, fun _ _ _ _ _ _ _ _ _ r h => by simp [impl_RegionsOk.j1] at h⟩
  | k + 1 => by
    obtain ⟨ih0, ih1⟩ := impl_RegionsOk.mono_l k
    refine ⟨?_, ?_⟩
    · intro y0 y1 y2 y3
      unfold impl_RegionsOk.l0
      repeat' first
      | (with_reducible exact ih0 _ _ _ _)
      | (with_reducible exact ih1 _ _ _ _ _ _ _ _ _)
      | (with_reducible exact LeO.refl _)
      | (with_reducible exact LeO.none _)
      | (with_reducible refine LeO.ite ?_ ?_)
      | (with_reducible refine LeO.bind ?_ (fun _ => ?_))
      | exact ih0 _ _ _ _
      | exact ih1 _ _ _ _ _ _ _ _ _
      | exact LeO.none _
      | refine LeO.ite ?_ ?_
      | refine LeO.bind ?_ (fun _ => ?_)
    · intro y0 y1 y2 y3 y4 y5 y6 y7 y8
      unfold impl_RegionsOk.j1
      repeat' first
      | (with_reducible exact ih0 _ _ _ _)
      | (with_reducible exact ih1 _ _ _ _ _ _ _ _ _)
      | (with_reducible exact LeO.refl _)
      | (with_reducible exact LeO.none _)
      | (with_reducible refine LeO.ite ?_ ?_)
      | (with_reducible refine LeO.bind ?_ (fun _ => ?_))
      | exact ih0 _ _ _ _
      | exact ih1 _ _ _ _ _ _ _ _ _
      | exact LeO.none _
      | refine LeO.ite ?_ ?_
      | refine LeO.bind ?_ (fun _ => ?_)
theorem impl_RegionsOk.mono : ∀ a0 k, LeO (impl_RegionsOk.f k a0) (impl_RegionsOk.f (k + 1) a0) := by
  intro a0 k
  obtain ⟨ih0, ih1⟩ := impl_RegionsOk.mono_l k
  unfold impl_RegionsOk.f
  repeat' first
      | (with_reducible exact ih0 _ _ _ _)
      | (with_reducible exact ih1 _ _ _ _ _ _ _ _ _)
      | (with_reducible exact LeO.refl _)
      | (with_reducible exact LeO.none _)
      | (with_reducible refine LeO.ite ?_ ?_)
      | (with_reducible refine LeO.bind ?_ (fun _ => ?_))
      | exact ih0 _ _ _ _
      | exact ih1 _ _ _ _ _ _ _ _ _
      | exact LeO.none _
      | refine LeO.ite ?_ ?_
      | refine LeO.bind ?_ (fun _ => ?_)
set_option maxHeartbeats 8000000 in
set_option maxRecDepth 100000 in
theorem impl_RegionsOk.calls (k : Nat) (A0 : Option Addr) (c0 : Nat) (l0 : List (S70)) (r : Bool) (w : World) (hr0 : Kd.C k70 w A0 l0.length l0) (hc0 : l0.length ≤ c0) (h : impl_RegionsOk.f k l0 = some r) :
    Calls Try.prog 64 #[.slice A0 l0.length c0] w fun e w' => e = .returned (.bool r) ∧ Below w.heap.size w w' := by
  have hu70 := Try.underlying70
  have HR0 := Aside0.mk hr0
  have HC0 := Aside0.mk hc0
  clear hr0 hc0
  have HB := Aside0.mk (Below.refl w.heap.size w)
  have H : (impl_RegionsOk.l0 k l0 l0 (l0.length : Int) 0) = some r := h
  clear h
  have H' := Aside0.mk H
  clear H
  go_enter Try.func64, Try.ntmps64
  go_wp2
  repeat (go_quiet (fail); try go_wp2)
  go_loopg [7] k (fun kq v7 w' => ∃ (x7_1 : Int), v7 = .int .i64 x7_1 ∧ Aside0 (impl_RegionsOk.l0 kq l0 l0 (l0.length : Int) x7_1 = some r) ∧ Aside0 (kq ≤ k) ∧ Aside0 (Below w.heap.size w w'))
  case atStart => exact ⟨(0), (by first | rfl | (simp; done) | (simp [*]; done)), H', ⟨Nat.le_refl _⟩, ⟨by repeat (first | (with_reducible first | exact HB.out | apply below_alloc | apply pw_below_drewN | apply below_drew1) | exact HB.out)⟩⟩
  case round =>
    clear H'
    obtain ⟨x7_1, rfl, HA, HK1, HB⟩ := hrel
    cases gk with
    | zero => exact absurd HA.out (by simp [impl_RegionsOk.l0])
    | succ k1 =>
      have H := HA.out
      clear HA
      simp only [impl_RegionsOk.l0] at H
      by_cases c2 : x7_1 < (l0.length : Int)
      · rw [if_pos c2] at H
        have c2b0 : decide (x7_1 < (l0.length : Int)) = true := decide_eq_true c2
        clear c2
        by_cases c3 : 0 ≤ x7_1
        · rw [if_pos c3] at H
          have c3b0 : decide (0 ≤ x7_1) = true := decide_eq_true c3
          clear c3
          by_cases c4 : x7_1 < (l0.length : Int)
          · rw [if_pos c4] at H
            have c4b0 : decide (x7_1 < (l0.length : Int)) = true := decide_eq_true c4
            clear c4
            have HC5 := Aside0.mk H
            clear H
            have p260 : 0 ≤ (x7_1 : Int) := of_decide_eq_true (by first | (with_reducible assumption) | assumption)
            have q260 : x7_1 < (l0.length : Int) := of_decide_eq_true (by first | (with_reducible assumption) | assumption)
            obtain ⟨ad260, e260, hx260_0, hx260_1, hx260_2⟩ := at_T70 HR0.out x7_1 p260 q260
            cases e260
            replace hx260_0 := (HB.out.cell (World.block_lt_of_cell? w _ hx260_0)).trans hx260_0
            replace hx260_1 := (HB.out.cell (World.block_lt_of_cell? w _ hx260_1)).trans hx260_1
            replace hx260_2 := (HB.out.cell (World.block_lt_of_cell? w _ hx260_2)).trans hx260_2
            replace p260 := eq_true p260
            replace q260 := eq_true q260
            go_upto_region 4 with (first | ((with_reducible refine gate_dst (N := 4) rfl ?_); refine box_event ?hg (N := 4) ?hd (cs := #[.int .i64 0, .int .i64 0, .bool false]) (t := 70) ?hr ?_; (case hd => rfl); (case hg => rfl); (case hr => first | (go_simp; done) | (go_simp; rfl)); intro gb261 hg w6 hbox hb; have n0_ := Aside0.mk (below_step (by repeat (first | (with_reducible first | exact HB.out | apply below_alloc | apply pw_below_drewN | apply below_drew1) | exact HB.out)) hb); have n1_ := Aside0.mk (hbox); have n2_ := Aside0.mk ((by rw [hg]; exact (below_size (by repeat (first | (with_reducible first | exact HB.out | apply below_alloc | apply pw_below_drewN | apply below_drew1) | exact HB.out))) : w.heap.size ≤ gb261)); have n3_ := Aside0.mk ((by rw [hg]; exact (below_size (by repeat (first | (with_reducible first | exact HB.out | apply below_alloc | apply pw_below_drewN | apply below_drew1) | exact HB.out))) : w.heap.size ≤ gb261)); clear HB; have HB := n0_; have BK261 := n1_; have GW261 := n2_; have GE261 := n3_; clear n0_ n1_ n2_ n3_; clear hb hbox hg; have hcz7_0 : w6.cell? ⟨gb261, 0, none⟩ = some (.int .i64 0) := (blk_cell BK261.out 0).trans rfl; have hcz7_1 : w6.cell? ⟨gb261, 1, none⟩ = some (.int .i64 0) := (blk_cell BK261.out 1).trans rfl; have hcz7_2 : w6.cell? ⟨gb261, 2, none⟩ = some (.bool false) := (blk_cell BK261.out 2).trans rfl; have hfz7_0 := blk_frozen BK261.out 0; have hfz7_1 := blk_frozen BK261.out 1; have hfz7_2 := blk_frozen BK261.out 2))
            repeat (go_quiet (first | ((with_reducible refine gate_dst (N := 4) rfl ?_); refine box_event ?hg (N := 4) ?hd (cs := #[.int .i64 0, .int .i64 0, .bool false]) (t := 70) ?hr ?_; (case hd => rfl); (case hg => rfl); (case hr => first | (go_simp; done) | (go_simp; rfl)); intro gb261 hg w6 hbox hb; have n0_ := Aside0.mk (below_step (by repeat (first | (with_reducible first | exact HB.out | apply below_alloc | apply pw_below_drewN | apply below_drew1) | exact HB.out)) hb); have n1_ := Aside0.mk (hbox); have n2_ := Aside0.mk ((by rw [hg]; exact (below_size (by repeat (first | (with_reducible first | exact HB.out | apply below_alloc | apply pw_below_drewN | apply below_drew1) | exact HB.out))) : w.heap.size ≤ gb261)); have n3_ := Aside0.mk ((by rw [hg]; exact (below_size (by repeat (first | (with_reducible first | exact HB.out | apply below_alloc | apply pw_below_drewN | apply below_drew1) | exact HB.out))) : w.heap.size ≤ gb261)); clear HB; have HB := n0_; have BK261 := n1_; have GW261 := n2_; have GE261 := n3_; clear n0_ n1_ n2_ n3_; clear hb hbox hg; have hcz7_0 : w6.cell? ⟨gb261, 0, none⟩ = some (.int .i64 0) := (blk_cell BK261.out 0).trans rfl; have hcz7_1 : w6.cell? ⟨gb261, 1, none⟩ = some (.int .i64 0) := (blk_cell BK261.out 1).trans rfl; have hcz7_2 : w6.cell? ⟨gb261, 2, none⟩ = some (.bool false) := (blk_cell BK261.out 2).trans rfl; have hfz7_0 := blk_frozen BK261.out 0; have hfz7_1 := blk_frozen BK261.out 1; have hfz7_2 := blk_frozen BK261.out 2)); go_upto_region 4 with (first | ((with_reducible refine gate_dst (N := 4) rfl ?_); refine box_event ?hg (N := 4) ?hd (cs := #[.int .i64 0, .int .i64 0, .bool false]) (t := 70) ?hr ?_; (case hd => rfl); (case hg => rfl); (case hr => first | (go_simp; done) | (go_simp; rfl)); intro gb261 hg w6 hbox hb; have n0_ := Aside0.mk (below_step (by repeat (first | (with_reducible first | exact HB.out | apply below_alloc | apply pw_below_drewN | apply below_drew1) | exact HB.out)) hb); have n1_ := Aside0.mk (hbox); have n2_ := Aside0.mk ((by rw [hg]; exact (below_size (by repeat (first | (with_reducible first | exact HB.out | apply below_alloc | apply pw_below_drewN | apply below_drew1) | exact HB.out))) : w.heap.size ≤ gb261)); have n3_ := Aside0.mk ((by rw [hg]; exact (below_size (by repeat (first | (with_reducible first | exact HB.out | apply below_alloc | apply pw_below_drewN | apply below_drew1) | exact HB.out))) : w.heap.size ≤ gb261)); clear HB; have HB := n0_; have BK261 := n1_; have GW261 := n2_; have GE261 := n3_; clear n0_ n1_ n2_ n3_; clear hb hbox hg; have hcz7_0 : w6.cell? ⟨gb261, 0, none⟩ = some (.int .i64 0) := (blk_cell BK261.out 0).trans rfl; have hcz7_1 : w6.cell? ⟨gb261, 1, none⟩ = some (.int .i64 0) := (blk_cell BK261.out 1).trans rfl; have hcz7_2 : w6.cell? ⟨gb261, 2, none⟩ = some (.bool false) := (blk_cell BK261.out 2).trans rfl; have hfz7_0 := blk_frozen BK261.out 0; have hfz7_1 := blk_frozen BK261.out 1; have hfz7_2 := blk_frozen BK261.out 2)))
            (try simp only [Act.put, List.setIfInBounds_toArray, List.set_cons_zero, List.set_cons_succ])
            go_cut [24] (fun v24 wc => ∃ (kq : Nat) (x24_4 : Bool), v24 = .bool x24_4 ∧ Aside0 (impl_RegionsOk.j1 kq l0 x7_1 l0 (l0.length : Int) x7_1 x24_4 ((rd_T70 l0 x7_1).f0) ((rd_T70 l0 x7_1).f1) ((rd_T70 l0 x7_1).f2) = some r) ∧ Aside0 (kq ≤ k1) ∧ Aside0 (wc.heap[gb261]? = some (.cells #[.int .i64 ((rd_T70 l0 x7_1).f0), .int .i64 ((rd_T70 l0 x7_1).f1), .bool ((rd_T70 l0 x7_1).f2)] 70 (0, 0))) ∧ Aside0 (Below w.heap.size w wc))
            case first =>
              have H := HC5.out
              clear HC5
              replace H := Option.bind_eq_some_iff.mp H
              obtain ⟨t262, A80, H⟩ := H
              replace H : (if t262 = true then ((impl_within.f ((rd_T70 l0 x7_1).f1) 1 64).bind fun t263 => (impl_RegionsOk.j1 k1 l0 x7_1 l0 (l0.length : Int) x7_1 (!t263) ((rd_T70 l0 x7_1).f0) ((rd_T70 l0 x7_1).f1) ((rd_T70 l0 x7_1).f2))) else (impl_RegionsOk.j1 k1 l0 x7_1 l0 (l0.length : Int) x7_1 true ((rd_T70 l0 x7_1).f0) ((rd_T70 l0 x7_1).f1) ((rd_T70 l0 x7_1).f2))) = some r := H
              have A8 := Aside0.mk A80
              clear A80
              by_cases c9 : t262 = true
              · subst c9
                have H1 : ((impl_within.f ((rd_T70 l0 x7_1).f1) 1 64).bind fun t263 => (impl_RegionsOk.j1 k1 l0 x7_1 l0 (l0.length : Int) x7_1 (!t263) ((rd_T70 l0 x7_1).f0) ((rd_T70 l0 x7_1).f1) ((rd_T70 l0 x7_1).f2))) = some r := by rw [if_pos rfl] at H; exact H
                clear H
                have H := H1
                clear H1
                replace H := Option.bind_eq_some_iff.mp H
                obtain ⟨t263, A100, H⟩ := H
                replace H : (impl_RegionsOk.j1 k1 l0 x7_1 l0 (l0.length : Int) x7_1 (!t263) ((rd_T70 l0 x7_1).f0) ((rd_T70 l0 x7_1).f1) ((rd_T70 l0 x7_1).f2)) = some r := H
                have A10 := Aside0.mk A100
                clear A100
                have H' := Aside0.mk H
                clear H
                have hcz11_0 : w6.cell? ⟨gb261, 0, none⟩ = some (.int .i64 0) := (blk_cell BK261.out 0).trans rfl
                have hcz11_1 : w6.cell? ⟨gb261, 1, none⟩ = some (.int .i64 0) := (blk_cell BK261.out 1).trans rfl
                have hcz11_2 : w6.cell? ⟨gb261, 2, none⟩ = some (.bool false) := (blk_cell BK261.out 2).trans rfl
                have hfz11_0 := blk_frozen BK261.out 0
                have hfz11_1 := blk_frozen BK261.out 1
                have hfz11_2 := blk_frozen BK261.out 2
                go_wp2_with (first | (go_at_call 76; (with_reducible refine (impl_within.calls ((rd_T70 l0 x7_1).f0) 0 (wrap64 (((rd_T70 l0 x7_1).f1) - 1)) true _ A8.out).mono ?_); rintro e w' ⟨rfl, ⟨nd, rfl⟩⟩; (try first | exact ⟨rfl, _, World.drewN_drewN _ _ _⟩ | exact ⟨rfl, _, Eq.trans (World.drewN_drewN _ _ _) (congrArg (World.drewN _) (Nat.add_assoc _ _ _))⟩)) | (go_at_call 76; (with_reducible refine (impl_within.calls ((rd_T70 l0 x7_1).f1) 1 64 t263 _ A10.out).mono ?_); rintro e w' ⟨rfl, ⟨nd, rfl⟩⟩; (try first | exact ⟨rfl, _, World.drewN_drewN _ _ _⟩ | exact ⟨rfl, _, Eq.trans (World.drewN_drewN _ _ _) (congrArg (World.drewN _) (Nat.add_assoc _ _ _))⟩)))
                repeat (go_quiet (first | (go_at_call 76; (with_reducible refine (impl_within.calls ((rd_T70 l0 x7_1).f0) 0 (wrap64 (((rd_T70 l0 x7_1).f1) - 1)) true _ A8.out).mono ?_); rintro e w' ⟨rfl, ⟨nd, rfl⟩⟩; (try first | exact ⟨rfl, _, World.drewN_drewN _ _ _⟩ | exact ⟨rfl, _, Eq.trans (World.drewN_drewN _ _ _) (congrArg (World.drewN _) (Nat.add_assoc _ _ _))⟩)) | (go_at_call 76; (with_reducible refine (impl_within.calls ((rd_T70 l0 x7_1).f1) 1 64 t263 _ A10.out).mono ?_); rintro e w' ⟨rfl, ⟨nd, rfl⟩⟩; (try first | exact ⟨rfl, _, World.drewN_drewN _ _ _⟩ | exact ⟨rfl, _, Eq.trans (World.drewN_drewN _ _ _) (congrArg (World.drewN _) (Nat.add_assoc _ _ _))⟩))); try go_wp2_with (first | (go_at_call 76; (with_reducible refine (impl_within.calls ((rd_T70 l0 x7_1).f0) 0 (wrap64 (((rd_T70 l0 x7_1).f1) - 1)) true _ A8.out).mono ?_); rintro e w' ⟨rfl, ⟨nd, rfl⟩⟩; (try first | exact ⟨rfl, _, World.drewN_drewN _ _ _⟩ | exact ⟨rfl, _, Eq.trans (World.drewN_drewN _ _ _) (congrArg (World.drewN _) (Nat.add_assoc _ _ _))⟩)) | (go_at_call 76; (with_reducible refine (impl_within.calls ((rd_T70 l0 x7_1).f1) 1 64 t263 _ A10.out).mono ?_); rintro e w' ⟨rfl, ⟨nd, rfl⟩⟩; (try first | exact ⟨rfl, _, World.drewN_drewN _ _ _⟩ | exact ⟨rfl, _, Eq.trans (World.drewN_drewN _ _ _) (congrArg (World.drewN _) (Nat.add_assoc _ _ _))⟩))))
                go_meet
                case rel => exact ⟨_, (!t263), (by first | rfl | (simp; done) | (simp [*]; done)), H', ⟨by have := HK1.out; first | omega | exact Nat.le_refl _⟩, ⟨by (with_reducible repeat (first | refine blk_drewN ?_ _ | refine blk_drew ?_ | refine blk_alloc ?_ _)); refine blk_put (cs := #[.int .i64 ((rd_T70 l0 x7_1).f0), .int .i64 ((rd_T70 l0 x7_1).f1), .bool false]) ?_ 2 _ rfl; (with_reducible repeat (first | refine blk_drewN ?_ _ | refine blk_drew ?_ | refine blk_alloc ?_ _)); refine blk_put (cs := #[.int .i64 ((rd_T70 l0 x7_1).f0), .int .i64 0, .bool false]) ?_ 1 _ rfl; (with_reducible repeat (first | refine blk_drewN ?_ _ | refine blk_drew ?_ | refine blk_alloc ?_ _)); refine blk_put (cs := #[.int .i64 0, .int .i64 0, .bool false]) ?_ 0 _ rfl; (with_reducible repeat (first | refine blk_drewN ?_ _ | refine blk_drew ?_ | refine blk_alloc ?_ _)); exact BK261.out⟩, ⟨by repeat (first | (with_reducible first | exact HB.out | apply below_alloc | apply pw_below_drewN | apply below_drew1 | refine below_set ?_ GE261.out) | exact HB.out)⟩⟩
              · replace c9 := Bool.eq_false_iff.mpr c9
                subst c9
                have H1 : (impl_RegionsOk.j1 k1 l0 x7_1 l0 (l0.length : Int) x7_1 true ((rd_T70 l0 x7_1).f0) ((rd_T70 l0 x7_1).f1) ((rd_T70 l0 x7_1).f2)) = some r := by rw [if_neg (show ¬ (false = true) by decide)] at H; exact H
                clear H
                have H := H1
                clear H1
                have H' := Aside0.mk H
                clear H
                have hcz12_0 : w6.cell? ⟨gb261, 0, none⟩ = some (.int .i64 0) := (blk_cell BK261.out 0).trans rfl
                have hcz12_1 : w6.cell? ⟨gb261, 1, none⟩ = some (.int .i64 0) := (blk_cell BK261.out 1).trans rfl
                have hcz12_2 : w6.cell? ⟨gb261, 2, none⟩ = some (.bool false) := (blk_cell BK261.out 2).trans rfl
                have hfz12_0 := blk_frozen BK261.out 0
                have hfz12_1 := blk_frozen BK261.out 1
                have hfz12_2 := blk_frozen BK261.out 2
                go_wp2_with (first | (go_at_call 76; (with_reducible refine (impl_within.calls ((rd_T70 l0 x7_1).f0) 0 (wrap64 (((rd_T70 l0 x7_1).f1) - 1)) false _ A8.out).mono ?_); rintro e w' ⟨rfl, ⟨nd, rfl⟩⟩; (try first | exact ⟨rfl, _, World.drewN_drewN _ _ _⟩ | exact ⟨rfl, _, Eq.trans (World.drewN_drewN _ _ _) (congrArg (World.drewN _) (Nat.add_assoc _ _ _))⟩)))
                repeat (go_quiet (first | (go_at_call 76; (with_reducible refine (impl_within.calls ((rd_T70 l0 x7_1).f0) 0 (wrap64 (((rd_T70 l0 x7_1).f1) - 1)) false _ A8.out).mono ?_); rintro e w' ⟨rfl, ⟨nd, rfl⟩⟩; (try first | exact ⟨rfl, _, World.drewN_drewN _ _ _⟩ | exact ⟨rfl, _, Eq.trans (World.drewN_drewN _ _ _) (congrArg (World.drewN _) (Nat.add_assoc _ _ _))⟩))); try go_wp2_with (first | (go_at_call 76; (with_reducible refine (impl_within.calls ((rd_T70 l0 x7_1).f0) 0 (wrap64 (((rd_T70 l0 x7_1).f1) - 1)) false _ A8.out).mono ?_); rintro e w' ⟨rfl, ⟨nd, rfl⟩⟩; (try first | exact ⟨rfl, _, World.drewN_drewN _ _ _⟩ | exact ⟨rfl, _, Eq.trans (World.drewN_drewN _ _ _) (congrArg (World.drewN _) (Nat.add_assoc _ _ _))⟩))))
                go_meet
                case rel => exact ⟨_, (true), (by first | rfl | (simp; done) | (simp [*]; done)), H', ⟨by have := HK1.out; first | omega | exact Nat.le_refl _⟩, ⟨by (with_reducible repeat (first | refine blk_drewN ?_ _ | refine blk_drew ?_ | refine blk_alloc ?_ _)); refine blk_put (cs := #[.int .i64 ((rd_T70 l0 x7_1).f0), .int .i64 ((rd_T70 l0 x7_1).f1), .bool false]) ?_ 2 _ rfl; (with_reducible repeat (first | refine blk_drewN ?_ _ | refine blk_drew ?_ | refine blk_alloc ?_ _)); refine blk_put (cs := #[.int .i64 ((rd_T70 l0 x7_1).f0), .int .i64 0, .bool false]) ?_ 1 _ rfl; (with_reducible repeat (first | refine blk_drewN ?_ _ | refine blk_drew ?_ | refine blk_alloc ?_ _)); refine blk_put (cs := #[.int .i64 0, .int .i64 0, .bool false]) ?_ 0 _ rfl; (with_reducible repeat (first | refine blk_drewN ?_ _ | refine blk_drew ?_ | refine blk_alloc ?_ _)); exact BK261.out⟩, ⟨by repeat (first | (with_reducible first | exact HB.out | apply below_alloc | apply pw_below_drewN | apply below_drew1 | refine below_set ?_ GE261.out) | exact HB.out)⟩⟩
            case rest =>
              clear HC5
              try clear c2
              try clear c2b0
              try clear p2
              try clear q2
              try clear hx2
              try clear c3
              try clear c3b0
              try clear c4
              try clear c4b0
              try clear c6
              try clear p6
              try clear c9
              try clear hcz11_0
              try clear hcz11_1
              try clear hcz11_2
              try clear hcz12_0
              try clear hcz12_1
              try clear hcz12_2
              try clear hcz7_0
              try clear hcz7_1
              try clear hcz7_2
              try clear hfz11_0
              try clear hfz11_1
              try clear hfz11_2
              try clear hfz12_0
              try clear hfz12_1
              try clear hfz12_2
              try clear hfz7_0
              try clear hfz7_1
              try clear hfz7_2
              try clear hx260_0
              try clear hx260_1
              try clear hx260_2
              try clear p260
              try clear q260
              obtain ⟨kq, x24_4, rfl, HA, HJ4, BK261, HB⟩ := hcut
              cases kq with
              | zero => exact absurd HA.out (by simp [impl_RegionsOk.j1])
              | succ kj4 =>
                have H := HA.out
                clear HA
                simp only [impl_RegionsOk.j1] at H
                by_cases c13 : x24_4 = true
                · subst c13
                  have H1 : (some false) = some r := by rw [if_pos rfl] at H; exact H
                  clear H
                  have H := H1
                  clear H1
                  obtain rfl := Option.some.inj H
                  go_wp2
                  repeat (go_quiet (fail); try go_wp2)
                  go_ret
                  exact ⟨by first | rfl | (simp [errW_none, errW_some] <;> rfl) | (simp [*, errW_none, errW_some] <;> rfl), by repeat (first | (with_reducible first | exact HB.out | apply below_alloc | apply pw_below_drewN | apply below_drew1 | refine below_set ?_ GE261.out) | exact HB.out)⟩
                · replace c13 := Bool.eq_false_iff.mpr c13
                  subst c13
                  have H1 : (if x7_1 > 0 then (if 0 ≤ (wrap64 (x7_1 - 1)) then (if (wrap64 (x7_1 - 1)) < (l0.length : Int) then (if ((rd_T70 l0 (wrap64 (x7_1 - 1))).f1) > ((rd_T70 l0 x7_1).f0) then (some false) else (if ((rd_T70 l0 (wrap64 (x7_1 - 1))).f1) = ((rd_T70 l0 x7_1).f0) then (if (((rd_T70 l0 (wrap64 (x7_1 - 1))).f2) == ((rd_T70 l0 x7_1).f2)) = true then (some false) else (impl_RegionsOk.l0 kj4 l0 l0 (l0.length : Int) (wrap64 (x7_1 + 1)))) else (impl_RegionsOk.l0 kj4 l0 l0 (l0.length : Int) (wrap64 (x7_1 + 1))))) else (none)) else (none)) else (impl_RegionsOk.l0 kj4 l0 l0 (l0.length : Int) (wrap64 (x7_1 + 1)))) = some r := by rw [if_neg (show ¬ (false = true) by decide)] at H; exact H
                  clear H
                  have H := H1
                  clear H1
                  by_cases c14 : x7_1 > 0
                  · rw [if_pos c14] at H
                    have c14b0 : decide (0 < x7_1) = true := decide_eq_true c14
                    clear c14
                    obtain ⟨ji15, hji15⟩ : ∃ j_ : Int, (wrap64 (x7_1 - 1)) = j_ := ⟨_, rfl⟩
                    replace H : (if 0 ≤ (ji15) then (if (ji15) < (l0.length : Int) then (if ((rd_T70 l0 (ji15)).f1) > ((rd_T70 l0 x7_1).f0) then (some false) else (if ((rd_T70 l0 (ji15)).f1) = ((rd_T70 l0 x7_1).f0) then (if (((rd_T70 l0 (ji15)).f2) == ((rd_T70 l0 x7_1).f2)) = true then (some false) else (impl_RegionsOk.l0 kj4 l0 l0 (l0.length : Int) (wrap64 (x7_1 + 1)))) else (impl_RegionsOk.l0 kj4 l0 l0 (l0.length : Int) (wrap64 (x7_1 + 1))))) else (none)) else (none)) = some r := by first | (rw [hji15] at H; exact H) | (simp only [hji15] at H ⊢; exact H)
                    have hji15w : (IntKind.i64.wrap (x7_1 - 1)) = ji15 := (i64_w _).trans hji15
                    by_cases c16 : 0 ≤ (ji15)
                    · rw [if_pos c16] at H
                      have c16b0 : decide (0 ≤ (ji15)) = true := decide_eq_true c16
                      clear c16
                      by_cases c17 : (ji15) < (l0.length : Int)
                      · rw [if_pos c17] at H
                        have c17b0 : decide ((ji15) < (l0.length : Int)) = true := decide_eq_true c17
                        clear c17
                        by_cases c18 : ((rd_T70 l0 (ji15)).f1) > ((rd_T70 l0 x7_1).f0)
                        · rw [if_pos c18] at H
                          have c18b0 : decide (((rd_T70 l0 x7_1).f0) < ((rd_T70 l0 (ji15)).f1)) = true := decide_eq_true c18
                          clear c18
                          obtain rfl := Option.some.inj H
                          have p264 : 0 ≤ ((ji15) : Int) := of_decide_eq_true (by first | (with_reducible assumption) | assumption)
                          have q264 : (ji15) < (l0.length : Int) := of_decide_eq_true (by first | (with_reducible assumption) | assumption)
                          obtain ⟨ad264, e264, hx264_0, hx264_1, hx264_2⟩ := at_T70 HR0.out (ji15) p264 q264
                          obtain rfl : ad260 = ad264 := (by injection e264)
                          replace hx264_0 := (HB.out.cell (World.block_lt_of_cell? w _ hx264_0)).trans hx264_0
                          replace hx264_1 := (HB.out.cell (World.block_lt_of_cell? w _ hx264_1)).trans hx264_1
                          replace hx264_2 := (HB.out.cell (World.block_lt_of_cell? w _ hx264_2)).trans hx264_2
                          replace p264 := eq_true p264
                          replace q264 := eq_true q264
                          have hcz19_0 : wc.cell? ⟨gb261, 0, none⟩ = some (.int .i64 ((rd_T70 l0 x7_1).f0)) := (blk_cell BK261.out 0).trans rfl
                          have hcz19_1 : wc.cell? ⟨gb261, 1, none⟩ = some (.int .i64 ((rd_T70 l0 x7_1).f1)) := (blk_cell BK261.out 1).trans rfl
                          have hcz19_2 : wc.cell? ⟨gb261, 2, none⟩ = some (.bool ((rd_T70 l0 x7_1).f2)) := (blk_cell BK261.out 2).trans rfl
                          have hfz19_0 := blk_frozen BK261.out 0
                          have hfz19_1 := blk_frozen BK261.out 1
                          have hfz19_2 := blk_frozen BK261.out 2
                          go_wp2
                          repeat (go_quiet (fail); try go_wp2)
                          go_ret
                          exact ⟨by first | rfl | (simp [errW_none, errW_some] <;> rfl) | (simp only [← hji15]; first | rfl | (simp [errW_none, errW_some] <;> rfl)) | (simp [*, errW_none, errW_some] <;> rfl), by repeat (first | (with_reducible first | exact HB.out | apply below_alloc | apply pw_below_drewN | apply below_drew1 | refine below_set ?_ GE261.out) | exact HB.out)⟩
                        · rw [if_neg c18] at H
                          have c18b0 : decide (((rd_T70 l0 x7_1).f0) < ((rd_T70 l0 (ji15)).f1)) = false := decide_eq_false c18
                          clear c18
                          by_cases c20 : ((rd_T70 l0 (ji15)).f1) = ((rd_T70 l0 x7_1).f0)
                          · rw [if_pos c20] at H
                            have c20b0 : (((rd_T70 l0 (ji15)).f1) == ((rd_T70 l0 x7_1).f0)) = true := beq_iff_eq.mpr c20
                            have c20b1 : (((rd_T70 l0 (ji15)).f1) != ((rd_T70 l0 x7_1).f0)) = false := bne_eq_false_iff_eq.mpr c20
                            clear c20
                            by_cases c21 : (((rd_T70 l0 (ji15)).f2) == ((rd_T70 l0 x7_1).f2)) = true
                            · rw [if_pos c21] at H
                              have c21b0 : (((rd_T70 l0 (ji15)).f2) == ((rd_T70 l0 x7_1).f2)) = true := c21
                              (try (have c21b1 : decide (((rd_T70 l0 (ji15)).f2) = ((rd_T70 l0 x7_1).f2)) = true := by simpa using c21))
                              (try (have c21b2 : (((rd_T70 l0 (ji15)).f2) == ((rd_T70 l0 x7_1).f2)) = true := by simpa using c21))
                              clear c21
                              obtain rfl := Option.some.inj H
                              have p264 : 0 ≤ ((ji15) : Int) := of_decide_eq_true (by first | (with_reducible assumption) | assumption)
                              have q264 : (ji15) < (l0.length : Int) := of_decide_eq_true (by first | (with_reducible assumption) | assumption)
                              obtain ⟨ad264, e264, hx264_0, hx264_1, hx264_2⟩ := at_T70 HR0.out (ji15) p264 q264
                              obtain rfl : ad260 = ad264 := (by injection e264)
                              replace hx264_0 := (HB.out.cell (World.block_lt_of_cell? w _ hx264_0)).trans hx264_0
                              replace hx264_1 := (HB.out.cell (World.block_lt_of_cell? w _ hx264_1)).trans hx264_1
                              replace hx264_2 := (HB.out.cell (World.block_lt_of_cell? w _ hx264_2)).trans hx264_2
                              replace p264 := eq_true p264
                              replace q264 := eq_true q264
                              have hcz22_0 : wc.cell? ⟨gb261, 0, none⟩ = some (.int .i64 ((rd_T70 l0 x7_1).f0)) := (blk_cell BK261.out 0).trans rfl
                              have hcz22_1 : wc.cell? ⟨gb261, 1, none⟩ = some (.int .i64 ((rd_T70 l0 x7_1).f1)) := (blk_cell BK261.out 1).trans rfl
                              have hcz22_2 : wc.cell? ⟨gb261, 2, none⟩ = some (.bool ((rd_T70 l0 x7_1).f2)) := (blk_cell BK261.out 2).trans rfl
                              have hfz22_0 := blk_frozen BK261.out 0
                              have hfz22_1 := blk_frozen BK261.out 1
                              have hfz22_2 := blk_frozen BK261.out 2
                              have p265 : 0 ≤ ((ji15) : Int) := of_decide_eq_true (by first | (with_reducible assumption) | assumption)
                              have q265 : (ji15) < (l0.length : Int) := of_decide_eq_true (by first | (with_reducible assumption) | assumption)
                              obtain ⟨ad265, e265, hx265_0, hx265_1, hx265_2⟩ := at_T70 HR0.out (ji15) p265 q265
                              obtain rfl : ad260 = ad265 := (by injection e265)
                              replace hx265_0 := (HB.out.cell (World.block_lt_of_cell? w _ hx265_0)).trans hx265_0
                              replace hx265_1 := (HB.out.cell (World.block_lt_of_cell? w _ hx265_1)).trans hx265_1
                              replace hx265_2 := (HB.out.cell (World.block_lt_of_cell? w _ hx265_2)).trans hx265_2
                              replace p265 := eq_true p265
                              replace q265 := eq_true q265
                              have p266 : 0 ≤ ((ji15) : Int) := of_decide_eq_true (by first | (with_reducible assumption) | assumption)
                              have q266 : (ji15) < (l0.length : Int) := of_decide_eq_true (by first | (with_reducible assumption) | assumption)
                              obtain ⟨ad266, e266, hx266_0, hx266_1, hx266_2⟩ := at_T70 HR0.out (ji15) p266 q266
                              obtain rfl : ad260 = ad266 := (by injection e266)
                              replace hx266_0 := (HB.out.cell (World.block_lt_of_cell? w _ hx266_0)).trans hx266_0
                              replace hx266_1 := (HB.out.cell (World.block_lt_of_cell? w _ hx266_1)).trans hx266_1
                              replace hx266_2 := (HB.out.cell (World.block_lt_of_cell? w _ hx266_2)).trans hx266_2
                              replace p266 := eq_true p266
                              replace q266 := eq_true q266
                              go_wp2
                              repeat (go_quiet (fail); try go_wp2)
                              go_ret
                              exact ⟨by first | rfl | (simp [errW_none, errW_some] <;> rfl) | (simp only [← hji15]; first | rfl | (simp [errW_none, errW_some] <;> rfl)) | (simp [*, errW_none, errW_some] <;> rfl), by repeat (first | (with_reducible first | exact HB.out | apply below_alloc | apply pw_below_drewN | apply below_drew1 | refine below_set ?_ GE261.out) | exact HB.out)⟩
                            · rw [if_neg c21] at H
                              have c21b0 : (((rd_T70 l0 (ji15)).f2) == ((rd_T70 l0 x7_1).f2)) = false := by simpa using c21
                              (try (have c21b1 : decide (((rd_T70 l0 (ji15)).f2) = ((rd_T70 l0 x7_1).f2)) = false := by simpa using c21))
                              (try (have c21b2 : (((rd_T70 l0 (ji15)).f2) == ((rd_T70 l0 x7_1).f2)) = false := by simpa using c21))
                              (try (have c21b3 : ¬ (((rd_T70 l0 (ji15)).f2) = ((rd_T70 l0 x7_1).f2)) := by simpa using c21))
                              clear c21
                              have H' := Aside0.mk H
                              clear H
                              have p264 : 0 ≤ ((ji15) : Int) := of_decide_eq_true (by first | (with_reducible assumption) | assumption)
                              have q264 : (ji15) < (l0.length : Int) := of_decide_eq_true (by first | (with_reducible assumption) | assumption)
                              obtain ⟨ad264, e264, hx264_0, hx264_1, hx264_2⟩ := at_T70 HR0.out (ji15) p264 q264
                              obtain rfl : ad260 = ad264 := (by injection e264)
                              replace hx264_0 := (HB.out.cell (World.block_lt_of_cell? w _ hx264_0)).trans hx264_0
                              replace hx264_1 := (HB.out.cell (World.block_lt_of_cell? w _ hx264_1)).trans hx264_1
                              replace hx264_2 := (HB.out.cell (World.block_lt_of_cell? w _ hx264_2)).trans hx264_2
                              replace p264 := eq_true p264
                              replace q264 := eq_true q264
                              have hcz23_0 : wc.cell? ⟨gb261, 0, none⟩ = some (.int .i64 ((rd_T70 l0 x7_1).f0)) := (blk_cell BK261.out 0).trans rfl
                              have hcz23_1 : wc.cell? ⟨gb261, 1, none⟩ = some (.int .i64 ((rd_T70 l0 x7_1).f1)) := (blk_cell BK261.out 1).trans rfl
                              have hcz23_2 : wc.cell? ⟨gb261, 2, none⟩ = some (.bool ((rd_T70 l0 x7_1).f2)) := (blk_cell BK261.out 2).trans rfl
                              have hfz23_0 := blk_frozen BK261.out 0
                              have hfz23_1 := blk_frozen BK261.out 1
                              have hfz23_2 := blk_frozen BK261.out 2
                              have p265 : 0 ≤ ((ji15) : Int) := of_decide_eq_true (by first | (with_reducible assumption) | assumption)
                              have q265 : (ji15) < (l0.length : Int) := of_decide_eq_true (by first | (with_reducible assumption) | assumption)
                              obtain ⟨ad265, e265, hx265_0, hx265_1, hx265_2⟩ := at_T70 HR0.out (ji15) p265 q265
                              obtain rfl : ad260 = ad265 := (by injection e265)
                              replace hx265_0 := (HB.out.cell (World.block_lt_of_cell? w _ hx265_0)).trans hx265_0
                              replace hx265_1 := (HB.out.cell (World.block_lt_of_cell? w _ hx265_1)).trans hx265_1
                              replace hx265_2 := (HB.out.cell (World.block_lt_of_cell? w _ hx265_2)).trans hx265_2
                              replace p265 := eq_true p265
                              replace q265 := eq_true q265
                              have p266 : 0 ≤ ((ji15) : Int) := of_decide_eq_true (by first | (with_reducible assumption) | assumption)
                              have q266 : (ji15) < (l0.length : Int) := of_decide_eq_true (by first | (with_reducible assumption) | assumption)
                              obtain ⟨ad266, e266, hx266_0, hx266_1, hx266_2⟩ := at_T70 HR0.out (ji15) p266 q266
                              obtain rfl : ad260 = ad266 := (by injection e266)
                              replace hx266_0 := (HB.out.cell (World.block_lt_of_cell? w _ hx266_0)).trans hx266_0
                              replace hx266_1 := (HB.out.cell (World.block_lt_of_cell? w _ hx266_1)).trans hx266_1
                              replace hx266_2 := (HB.out.cell (World.block_lt_of_cell? w _ hx266_2)).trans hx266_2
                              replace p266 := eq_true p266
                              replace q266 := eq_true q266
                              go_wp2
                              repeat (go_quiet (fail); try go_wp2)
                              go_roundg kj4
                              case measure => have := HK1.out; have := HJ4.out; omega
                              case rel => exact ⟨(wrap64 (x7_1 + 1)), (by first | rfl | (simp; done) | (simp [*]; done)), H', ⟨by have := HK1.out; have := HJ4.out; omega⟩, ⟨by repeat (first | (with_reducible first | exact HB.out | apply below_alloc | apply pw_below_drewN | apply below_drew1 | refine below_set ?_ GE261.out) | exact HB.out)⟩⟩
                          · rw [if_neg c20] at H
                            have c20b0 : (((rd_T70 l0 (ji15)).f1) == ((rd_T70 l0 x7_1).f0)) = false := beq_eq_false_iff_ne.mpr c20
                            have c20b1 : (((rd_T70 l0 (ji15)).f1) != ((rd_T70 l0 x7_1).f0)) = true := bne_iff_ne.mpr c20
                            have H' := Aside0.mk H
                            clear H
                            have p264 : 0 ≤ ((ji15) : Int) := of_decide_eq_true (by first | (with_reducible assumption) | assumption)
                            have q264 : (ji15) < (l0.length : Int) := of_decide_eq_true (by first | (with_reducible assumption) | assumption)
                            obtain ⟨ad264, e264, hx264_0, hx264_1, hx264_2⟩ := at_T70 HR0.out (ji15) p264 q264
                            obtain rfl : ad260 = ad264 := (by injection e264)
                            replace hx264_0 := (HB.out.cell (World.block_lt_of_cell? w _ hx264_0)).trans hx264_0
                            replace hx264_1 := (HB.out.cell (World.block_lt_of_cell? w _ hx264_1)).trans hx264_1
                            replace hx264_2 := (HB.out.cell (World.block_lt_of_cell? w _ hx264_2)).trans hx264_2
                            replace p264 := eq_true p264
                            replace q264 := eq_true q264
                            have hcz24_0 : wc.cell? ⟨gb261, 0, none⟩ = some (.int .i64 ((rd_T70 l0 x7_1).f0)) := (blk_cell BK261.out 0).trans rfl
                            have hcz24_1 : wc.cell? ⟨gb261, 1, none⟩ = some (.int .i64 ((rd_T70 l0 x7_1).f1)) := (blk_cell BK261.out 1).trans rfl
                            have hcz24_2 : wc.cell? ⟨gb261, 2, none⟩ = some (.bool ((rd_T70 l0 x7_1).f2)) := (blk_cell BK261.out 2).trans rfl
                            have hfz24_0 := blk_frozen BK261.out 0
                            have hfz24_1 := blk_frozen BK261.out 1
                            have hfz24_2 := blk_frozen BK261.out 2
                            have p265 : 0 ≤ ((ji15) : Int) := of_decide_eq_true (by first | (with_reducible assumption) | assumption)
                            have q265 : (ji15) < (l0.length : Int) := of_decide_eq_true (by first | (with_reducible assumption) | assumption)
                            obtain ⟨ad265, e265, hx265_0, hx265_1, hx265_2⟩ := at_T70 HR0.out (ji15) p265 q265
                            obtain rfl : ad260 = ad265 := (by injection e265)
                            replace hx265_0 := (HB.out.cell (World.block_lt_of_cell? w _ hx265_0)).trans hx265_0
                            replace hx265_1 := (HB.out.cell (World.block_lt_of_cell? w _ hx265_1)).trans hx265_1
                            replace hx265_2 := (HB.out.cell (World.block_lt_of_cell? w _ hx265_2)).trans hx265_2
                            replace p265 := eq_true p265
                            replace q265 := eq_true q265
                            go_wp2
                            repeat (go_quiet (fail); try go_wp2)
                            go_roundg kj4
                            case measure => have := HK1.out; have := HJ4.out; omega
                            case rel => exact ⟨(wrap64 (x7_1 + 1)), (by first | rfl | (simp; done) | (simp [*]; done)), H', ⟨by have := HK1.out; have := HJ4.out; omega⟩, ⟨by repeat (first | (with_reducible first | exact HB.out | apply below_alloc | apply pw_below_drewN | apply below_drew1 | refine below_set ?_ GE261.out) | exact HB.out)⟩⟩
                      · rw [if_neg c17] at H
                        exact absurd H (by simp)
                    · rw [if_neg c16] at H
                      exact absurd H (by simp)
                  · rw [if_neg c14] at H
                    have c14b0 : decide (0 < x7_1) = false := decide_eq_false c14
                    clear c14
                    have H' := Aside0.mk H
                    clear H
                    go_wp2
                    repeat (go_quiet (fail); try go_wp2)
                    go_roundg kj4
                    case measure => have := HK1.out; have := HJ4.out; omega
                    case rel => exact ⟨(wrap64 (x7_1 + 1)), (by first | rfl | (simp; done) | (simp [*]; done)), H', ⟨by have := HK1.out; have := HJ4.out; omega⟩, ⟨by repeat (first | (with_reducible first | exact HB.out | apply below_alloc | apply pw_below_drewN | apply below_drew1 | refine below_set ?_ GE261.out) | exact HB.out)⟩⟩
          · rw [if_neg c4] at H
            exact absurd H (by simp)
        · rw [if_neg c3] at H
          exact absurd H (by simp)
      · rw [if_neg c2] at H
        have c2b0 : decide (x7_1 < (l0.length : Int)) = false := decide_eq_false c2
        clear c2
        obtain rfl := Option.some.inj H
        go_wp2
        repeat (go_quiet (fail); try go_wp2)
        go_ret
        exact ⟨by first | rfl | (simp [errW_none, errW_some] <;> rfl) | (simp [*, errW_none, errW_some] <;> rfl), by repeat (first | (with_reducible first | exact HB.out | apply below_alloc | apply pw_below_drewN | apply below_drew1) | exact HB.out)⟩

end Go.Proofs.Ytdpejnckojhgjaa.P
end
section
namespace Go.Proofs.Ytdpejnckojhgjaa.P
open Go.RowKit Go.Proofs.YtdpejnckojhgjaaW.PrintWords Go.Proofs.YtdpejnckojhgjaaW.PrintLast Go.Proofs.YtdpejnckojhgjaaW.PrintMore
attribute [local go_sem] max2_int min2_int max_two min_two max_three min_three max_four min_four   -- for this text's walks alone
set_option linter.unusedVariables false
set_option linter.unusedSimpArgs false

/-! ### impl_isSpan: function 83 -/
def impl_isSpan.f (a0 : Int) (a1 : Int) : Option (Bool) := if a1 ≥ 1 then (if a1 ≤ 64 then ((impl_within.f a0 0 (wrap64 (a1 - 1))).bind fun t267 => (some t267)) else (some false)) else (some false)
set_option maxHeartbeats 8000000 in
set_option maxRecDepth 100000 in
theorem impl_isSpan.calls (a0 : Int) (a1 : Int) (r : Bool) (w : World) (h : impl_isSpan.f a0 a1 = some r) :
    Calls Try.prog 83 #[.int .i64 a0, .int .i64 a1] w fun e w' => e = .returned (.bool r) ∧ Drawn0 w w' := by
  have H : (if a1 ≥ 1 then (if a1 ≤ 64 then ((impl_within.f a0 0 (wrap64 (a1 - 1))).bind fun t267 => (some t267)) else (some false)) else (some false)) = some r := h
  clear h
  by_cases c3 : a1 ≥ 1
  · rw [if_pos c3] at H
    have c3b0 : decide (1 ≤ a1) = true := decide_eq_true c3
    clear c3
    by_cases c4 : a1 ≤ 64
    · rw [if_pos c4] at H
      have c4b0 : decide (a1 ≤ 64) = true := decide_eq_true c4
      clear c4
      replace H := Option.bind_eq_some_iff.mp H
      obtain ⟨t267, A50, H⟩ := H
      replace H : (some t267) = some r := H
      have A5 := Aside0.mk A50
      clear A50
      obtain rfl := Option.some.inj H
      go_enter Try.func83, Try.ntmps83
      go_wp2_with (first | (go_at_call 76; (with_reducible refine (impl_within.calls a0 0 (wrap64 (a1 - 1)) t267 _ A5.out).mono ?_); rintro e w' ⟨rfl, ⟨nd, rfl⟩⟩))
      go_ret
      exact ⟨by first | rfl | (simp; done) | (simp [*]; done), by repeat (first | exact Drawn0.refl _ | apply Drawn0.step)⟩
    · rw [if_neg c4] at H
      have c4b0 : decide (a1 ≤ 64) = false := decide_eq_false c4
      clear c4
      obtain rfl := Option.some.inj H
      go_enter Try.func83, Try.ntmps83
      go_wp2
      go_ret
      exact ⟨by first | rfl | (simp; done) | (simp [*]; done), by repeat (first | exact Drawn0.refl _ | apply Drawn0.step)⟩
  · rw [if_neg c3] at H
    have c3b0 : decide (1 ≤ a1) = false := decide_eq_false c3
    clear c3
    obtain rfl := Option.some.inj H
    go_enter Try.func83, Try.ntmps83
    go_wp2
    go_ret
    exact ⟨by first | rfl | (simp; done) | (simp [*]; done), by repeat (first | exact Drawn0.refl _ | apply Drawn0.step)⟩

end Go.Proofs.Ytdpejnckojhgjaa.P
end
section
namespace Go.Proofs.Ytdpejnckojhgjaa.P
open Go.RowKit Go.Proofs.YtdpejnckojhgjaaW.PrintWords Go.Proofs.YtdpejnckojhgjaaW.PrintLast Go.Proofs.YtdpejnckojhgjaaW.PrintMore
attribute [local go_sem] max2_int min2_int max_two min_two max_three min_three max_four min_four   -- for this text's walks alone
set_option linter.unusedVariables false
set_option linter.unusedSimpArgs false

/-! ### impl_pagesOf: function 108 -/
/-- An array of whole numbers, as a value. -/
def AR.val (xs : List Int) : Value := .agg (encs (Value.int .i64) xs).toArray
/-- An array of whole numbers in a block of its own. -/
def AR.At (T : TypeId) (W : World) (g : Nat) (xs : List Int) : Prop := W.heap[g]? = some (.cells (encs (Value.int .i64) xs).toArray T (0, 0))
theorem AR.At.set {T : TypeId} {W : World} {g : Nat} {xs : List Int} (h : AR.At T W g xs) (i : Nat) (x : Int) : AR.At T (W.setCell ⟨g, i, none⟩ (.int .i64 x)) g (xs.set i x) := by
  have := blk_set h i (Value.int .i64 x)
  unfold AR.At
  rw [this]
  simp [encs, List.map_set]
theorem AR.At.cell {T : TypeId} {W : World} {g : Nat} {xs : List Int} (h : AR.At T W g xs) (i : Nat) (hi : i < xs.length) : W.cell? ⟨g, i, none⟩ = some (.int .i64 (xs.getD i 0)) := by
  rw [cell_of_row W g i _ T (0, 0) h]
  simp [encs, List.getElem?_eq_getElem hi, List.getD_eq_getElem?_getD]
theorem AR.At.frozen {T : TypeId} {W : World} {g : Nat} {xs : List Int} (h : AR.At T W g xs) (i : Nat) : W.frozen? ⟨g, i, none⟩ = false := blk_frozen h i
theorem AR.At.below {T : TypeId} {W w1 : World} {g : Nat} {xs : List Int} (h : AR.At T W g xs) (hb : Below W.heap.size W w1) : AR.At T w1 g xs := (hb.block g (blk_lt h)).trans h
theorem AR.At.far {T : TypeId} {W : World} {g : Nat} {xs : List Int} (h : AR.At T W g xs) {p : Addr} (hp : g ≠ p.block) (u : Value) : AR.At T (W.setCell p u) g xs := (Below.heap_setCell W p u g hp).trans h
theorem AR.At.alloc {T : TypeId} {W : World} {g : Nat} {xs : List Int} (h : AR.At T W g xs) (o : Obj) : AR.At T (W.alloc o) g xs := h.below (below_alloc (Below.refl _ _) o)
section
variable {P : Program} {ops : Array Oper} {rest : List Oper} {o : Oper} {a : Act} {Q : Exit → Act → World → Prop} {W : World}
theorem AR.info {T : TypeId} {z : Value} {n : Nat} (hi : (P.info? T).map (fun i => (i.zero, i.size)) = some (some z, n)) : (P.info? T).map (·.size) = some n := by
  cases hq : P.info? T with
  | none => simp [hq] at hi
  | some i => simp [hq] at hi; simp [hi.2]
theorem AR.alloc_event {T : TypeId} {n : Nat} (hgd : o.guard = none) (ho : o.op = .alloc T) (hi : (P.info? T).map (fun i => (i.zero, i.size)) = some (some (AR.val (List.replicate n 0)), n))
    (h : ∀ g, g = W.heap.size → ∀ w1, AR.At T w1 g (List.replicate n 0) → Below W.heap.size W w1 → wpList P ops Q rest (a.put o.dst (.pointer (some ⟨g, 0, none⟩))) w1) : wpList P ops Q (o :: rest) a W := by
  refine Kd.event_run (w1 := W.alloc (.cells (encs (Value.int .i64) (List.replicate n 0)).toArray T (0, 0))) hgd ?_ (h _ rfl _ (blk_new W _) (below_alloc (Below.refl _ _) _))
  obtain ⟨i, h1, h2⟩ := Option.map_eq_some_iff.1 hi
  simp only [Prod.mk.injEq] at h2
  unfold execOp
  simp [ho, Instr.alloc, zeroValue, typeInfo, h1, h2.1, newVar, newRow, AR.val, Value.cells]
theorem AR.load_event {T e : TypeId} {g n : Nat} {xs : List Int} {p : Operand} (hgd : o.guard = none) (ho : o.op = .load T p) (hp : a.eval p = .pointer (some ⟨g, 0, none⟩)) (hu : P.underlying T = some (.array n e)) (hn : (P.info? T).map (·.size) = some n) (hl : xs.length = n) (hA : AR.At T W g xs)
    (h : wpList P ops Q rest (a.put o.dst (AR.val xs)) W) : wpList P ops Q (o :: rest) a W := by
  refine Kd.event_run hgd ?_ h
  have hr := run_loadVar_row (P := P) W g T T (encs (Value.int .i64) xs).toArray (0, 0) _ hA hu rfl (by rw [hn]; simp [encs, hl])
  unfold execOp
  simp [ho, hp, Instr.loadAt, Instr.sureAddr, hr, AR.val]
end
section
variable {P : Program} {ops : Array Oper} {rest : List Oper} {o : Oper} {a : Act} {Q : Exit → Act → World → Prop} {W : World}
theorem AR.setRow_at {g : Nat} {T : TypeId} {ys : List Int} (hA : AR.At T W g ys) (xs : List Int) : AR.At T (W.setRow g (encs (Value.int .i64) xs).toArray) g xs := by
  unfold AR.At
  simp only [World.setRow]
  rw [Array.getElem?_modify, if_pos rfl, show W.heap[g]? = _ from hA]
  rfl
theorem AR.setRow_grown {g : Nat} (c : Array Value) : W.grownBy (W.setRow g c) (some g) := by
  refine ⟨rfl, rfl, rfl, by simp [World.setRow], fun k _ hk => ?_⟩
  simp only [World.setRow]
  rw [Array.getElem?_modify, if_neg (fun e => hk (by rw [e]))]
theorem AR.store_event {T : TypeId} {g n : Nat} {xs ys : List Int} {p x : Operand} (hgd : o.guard = none) (ho : o.op = .store T p x) (hN : o.dst = none) (hp : a.eval p = .pointer (some ⟨g, 0, none⟩)) (hx : a.eval x = AR.val xs) (hn : (P.info? T).map (·.size) = some n) (hl : xs.length = n) (hly : ys.length = n) (hA : AR.At T W g ys)
    (h : ∀ w1, AR.At T w1 g xs → W.grownBy w1 (some g) → wpList P ops Q rest a w1) : wpList P ops Q (o :: rest) a W := by
  refine wpList_plain hgd fun K hK => ?_
  have hr := run_storeVar_row (P := P) W g T T (encs (Value.int .i64) ys).toArray (encs (Value.int .i64) xs).toArray hA (by rw [hn]; simp [encs, hl]) (by simp [encs, hl, hly]) (by simp [encs]; intro x _; rfl)
  have hrun : (execOp a.eval o).run P W = .ok .skip (W.setRow g (encs (Value.int .i64) xs).toArray) := by
    unfold execOp
    simp [ho, hp, hx, Instr.storeAt, Instr.sureAddr, hr, AR.val]
  unfold Oper.wp
  rw [hrun]
  show K (a.put o.dst undef) _
  rw [hN]
  exact hK _ _ (h _ (AR.setRow_at hA xs) (AR.setRow_grown _))
end
section
variable {P : Program} {ops : Array Oper} {rest : List Oper} {o : Oper} {a : Act} {Q : Exit → Act → World → Prop} {W : World}
theorem AR.box_event {T : TypeId} {xs : List Int} {x : Operand} (hgd : o.guard = none) (ho : o.op = .box T x) (hx : a.eval x = AR.val xs)
    (h : ∀ g, g = W.heap.size → ∀ w1, AR.At T w1 g xs → Below W.heap.size W w1 → wpList P ops Q rest (a.put o.dst (.pointer (some ⟨g, 0, none⟩))) w1) : wpList P ops Q (o :: rest) a W := by
  refine Kd.event_run (w1 := W.alloc (.cells (encs (Value.int .i64) xs).toArray T (0, 0))) hgd ?_ (h _ rfl _ (blk_new W _) (below_alloc (Below.refl _ _) _))
  unfold execOp
  simp [ho, hx, Instr.box, newVar, newRow, AR.val, Value.cells]
theorem AR.index_event {T e : TypeId} {n : Nat} {xs : List Int} {x i : Operand} {j : Int} (hgd : o.guard = none) (ho : o.op = .index T x i) (hx : a.eval x = AR.val xs) (hi : a.eval i = .int .i64 j) (hu : P.underlying T = some (.array n e)) (he : P.underlying e = some (.int .i64)) (hin : (P.info? e).map (fun i => (i.zero, i.size, i.bytes)) = some (some (.int .i64 0), 1, 8)) (h0 : 0 ≤ j) (h1 : j < (n : Int)) (hl : xs.length = n)
    (h : wpList P ops Q rest (a.put o.dst (.int .i64 (xs.getD j.toNat 0))) W) : wpList P ops Q (o :: rest) a W := by
  refine Kd.event_run hgd ?_ h
  obtain ⟨ii, h3, h4⟩ := Option.map_eq_some_iff.1 hin
  simp only [Prod.mk.injEq] at h4
  have hj : j.toNat < xs.length := by omega
  unfold execOp
  simp [ho, hx, hi, Instr.index, asIntOf, underlying, hu, AR.val, sizeOf, typeInfo, h3, h4, h0, h1, part, isAgg, he, encs, hj]
end
theorem AR.z64 : (Try.prog.info? 128).map (fun i => (i.zero, i.size)) = some (some (AR.val (List.replicate 64 0)), 64) := by kernel_rfl
theorem AR.n64 : (Try.prog.info? 128).map (·.size) = some 64 := AR.info AR.z64
mutual
def impl_pagesOf.l0 : Nat → List S70 → List Int → Int → Option (List Int)
  | 0, _, _, _ => none
  | k + 1, l, x3, x9 => if x9 < (l.length : Int) then (if 0 ≤ x9 then (impl_pagesOf.l1 k l x3 x9 (l.getD x9.toNat z70).f0) else none) else some x3
def impl_pagesOf.l1 : Nat → List S70 → List Int → Int → Int → Option (List Int)
  | 0, _, _, _, _ => none
  | k + 1, l, x3, x9, x6 => if x6 < (l.getD x9.toNat z70).f1 then (if 0 ≤ x6 then (if x6 < 64 then (impl_pagesOf.l1 k l (x3.set x6.toNat (if (l.getD x9.toNat z70).f2 = true then 2 else 1)) x9 (wrap64 (x6 + 1))) else none) else none) else (impl_pagesOf.l0 k l x3 (wrap64 (x9 + 1)))
end
def impl_pagesOf.f (k : Nat) (l0 : List S70) : Option (List Int) := impl_pagesOf.l0 k l0 (List.replicate 64 0) 0
theorem impl_pagesOf.mono_l : ∀ k, (∀ y0 y1 y2, LeO (impl_pagesOf.l0 k y0 y1 y2) (impl_pagesOf.l0 (k + 1) y0 y1 y2)) ∧ (∀ y0 y1 y2 y3, LeO (impl_pagesOf.l1 k y0 y1 y2 y3) (impl_pagesOf.l1 (k + 1) y0 y1 y2 y3))
  | 0 => ⟨fun _ _ _ r h => by simp [impl_pagesOf.l0] at h, fun _ _ _ _ r h => by simp [impl_pagesOf.l1] at h⟩
  | k + 1 => by
    obtain ⟨ih0, ih1⟩ := impl_pagesOf.mono_l k
    refine ⟨?_, ?_⟩
    · intro y0 y1 y2
      unfold impl_pagesOf.l0
      exact LeO.ite (LeO.ite (ih1 _ _ _ _) (LeO.refl _)) (LeO.refl _)
    · intro y0 y1 y2 y3
      unfold impl_pagesOf.l1
      exact LeO.ite (LeO.ite (LeO.ite (ih1 _ _ _ _) (LeO.refl _)) (LeO.refl _)) (ih0 _ _ _)
theorem impl_pagesOf.mono : ∀ a0 k, LeO (impl_pagesOf.f k a0) (impl_pagesOf.f (k + 1) a0) := fun _ k => (impl_pagesOf.mono_l k).1 _ _ _
set_option maxHeartbeats 8000000 in
set_option maxRecDepth 100000 in
theorem impl_pagesOf.calls (k : Nat) (A0 : Option Addr) (c0 : Nat) (l0 : List S70) (r : List Int) (w : World) (hr0 : Kd.C k70 w A0 l0.length l0) (hc0 : l0.length ≤ c0) (h : impl_pagesOf.f k l0 = some r) :
    Calls Try.prog 108 #[.slice A0 l0.length c0] w fun e w' => e = .returned (AR.val r) ∧ r.length = 64 ∧ Below w.heap.size w w' := by
  have HR0 := Aside0.mk hr0
  have HC0 := Aside0.mk hc0
  clear hr0 hc0
  have HB := Aside0.mk (Below.refl w.heap.size w)
  have H' := Aside0.mk (show impl_pagesOf.l0 k l0 (List.replicate 64 0) 0 = some r from h)
  clear h
  go_enter Try.func108, Try.ntmps108
  go_wp2_with (first | ((with_reducible refine gate_dst (N := 2) rfl ?_); refine AR.alloc_event rfl rfl AR.z64 ?_; intro g2 hg w1 hA hb; have A2 := Aside0.mk hA; have G2 := Aside0.mk (show w.heap.size ≤ g2 by omega); have n0_ := Aside0.mk (below_step HB.out hb); clear HB; have HB := n0_; clear n0_ hb hA hg) | ((with_reducible refine gate_dst (N := 3) rfl ?_); refine AR.alloc_event rfl rfl AR.z64 ?_; intro g3 hg w2 hA hb; have A3 := Aside0.mk hA; have G3 := Aside0.mk (show g2 < g3 by rw [hg]; exact blk_lt A2.out); have n1_ := Aside0.mk (A2.out.below hb); have n0_ := Aside0.mk (below_step HB.out hb); clear HB A2; have HB := n0_; have A2 := n1_; clear n0_ n1_ hb hA hg))
  go_loopg [9] k (fun kq v9 w' => ∃ (x3_1 : List Int) (x9_1 : Int), v9 = .int .i64 x9_1 ∧ Aside0 (impl_pagesOf.l0 kq l0 x3_1 x9_1 = some r) ∧ Aside0 (kq ≤ k) ∧ Aside0 (x3_1.length = 64) ∧ Aside0 (AR.At 128 w' g3 x3_1) ∧ Aside0 (AR.At 128 w' g2 (List.replicate 64 0)) ∧ Aside0 (Below w.heap.size w w'))
  case atStart => exact ⟨_, 0, rfl, H', ⟨Nat.le_refl _⟩, ⟨List.length_replicate⟩, A3, A2, HB⟩
  case round =>
    clear H' A2 A3 HB
    obtain ⟨x3_1, x9_1, rfl, HA, HK1, HL, A3, A2, HB⟩ := hrel
    cases gk with
    | zero => exact absurd HA.out (by simp [impl_pagesOf.l0])
    | succ k1 =>
      have H := HA.out
      clear HA
      rw [impl_pagesOf.l0] at H
      by_cases c1 : x9_1 < (l0.length : Int)
      · rw [if_pos c1] at H
        by_cases c2 : 0 ≤ x9_1
        · rw [if_pos c2] at H
          have H' := Aside0.mk H
          clear H
          obtain ⟨ad, e, hx0, hx1, hx2⟩ := at_T70 HR0.out x9_1 c2 c1
          cases e
          replace hx0 := (HB.out.cell (World.block_lt_of_cell? w _ hx0)).trans hx0
          replace hx1 := (HB.out.cell (World.block_lt_of_cell? w _ hx1)).trans hx1
          replace hx2 := (HB.out.cell (World.block_lt_of_cell? w _ hx2)).trans hx2
          have C1 := Aside0.mk c1
          have C2 := Aside0.mk c2
          have c1b := decide_eq_true c1
          have c2b := decide_eq_true c2
          have c1c := eq_true c1
          have c2c := eq_true c2
          clear c1 c2
          obtain ⟨y, hy⟩ : ∃ y, rd_T70 l0 x9_1 = y := ⟨_, rfl⟩
          rw [hy] at hx0 hx1 hx2
          have HY := Aside0.mk hy
          clear hy
          go_wp2_with (first | ((with_reducible refine gate_dst (N := 5) rfl ?_); refine box_event ?hg (N := 5) ?hd (cs := #[.int .i64 0, .int .i64 0, .bool false]) (t := 70) ?hr ?_; (case hd => rfl); (case hg => rfl); (case hr => first | (go_simp; done) | (go_simp; rfl)); intro gb hg w6 hbox hb; have BK := Aside0.mk hbox; have GB := Aside0.mk (show g3 < gb by rw [hg]; exact blk_lt A3.out); have n1_ := Aside0.mk (A2.out.below hb); have n2_ := Aside0.mk (A3.out.below hb); have n0_ := Aside0.mk (below_step HB.out hb); clear HB A2 A3; have HB := n0_; have A2 := n1_; have A3 := n2_; clear n0_ n1_ n2_ hb hbox hg; have hcz0 := (blk_cell BK.out 0).trans rfl; have hcz1 := (blk_cell BK.out 1).trans rfl; have hcz2 := (blk_cell BK.out 2).trans rfl; have hfz0 := blk_frozen BK.out 0; have hfz1 := blk_frozen BK.out 1; have hfz2 := blk_frozen BK.out 2))
          go_loopg [6] k1 (fun kq v6 w' => ∃ (x3_2 : List Int) (x6_2 : Int), v6 = .int .i64 x6_2 ∧ Aside0 (impl_pagesOf.l1 kq l0 x3_2 x9_1 x6_2 = some r) ∧ Aside0 (kq ≤ k1) ∧ Aside0 (x3_2.length = 64) ∧ Aside0 (AR.At 128 w' g3 x3_2) ∧ Aside0 (AR.At 128 w' g2 (List.replicate 64 0)) ∧ Aside0 (w'.heap[gb]? = some (.cells #[.int .i64 y.f0, .int .i64 y.f1, .bool y.f2] 70 (0, 0))) ∧ Aside0 (Below w.heap.size w w'))
          case atStart =>
            have g1_ := G2.out
            have g2_ := G3.out
            have g3_ := GB.out
            refine ⟨_, _, rfl, ⟨by rw [← HY.out]; exact H'.out⟩, ⟨Nat.le_refl _⟩, HL, ⟨((A3.out.far (p := ⟨gb, 0, none⟩) (by show g3 ≠ gb; omega) _).far (p := ⟨gb, 1, none⟩) (by show g3 ≠ gb; omega) _).far (p := ⟨gb, 2, none⟩) (by show g3 ≠ gb; omega) _⟩, ⟨((A2.out.far (p := ⟨gb, 0, none⟩) (by show g2 ≠ gb; omega) _).far (p := ⟨gb, 1, none⟩) (by show g2 ≠ gb; omega) _).far (p := ⟨gb, 2, none⟩) (by show g2 ≠ gb; omega) _⟩, ⟨blk_set (blk_set (blk_set BK.out 0 _) 1 _) 2 _⟩, ⟨below_set (below_set (below_set HB.out (by omega)) (by omega)) (by omega)⟩⟩
          case round =>
            clear H' A2 A3 HB BK
            try clear hcz0
            try clear hcz1
            try clear hcz2
            try clear hfz0
            try clear hfz1
            try clear hfz2
            clear hx0 hx1 hx2 c1b c2b c1c c2c
            obtain ⟨x3_2, x6_2, rfl, HA, HK2, HL, A3, A2, BK, HB⟩ := hrel
            cases gk with
            | zero => exact absurd HA.out (by simp [impl_pagesOf.l1])
            | succ k2 =>
              have H := HA.out
              clear HA
              rw [impl_pagesOf.l1, show l0.getD x9_1.toNat z70 = y from HY.out] at H
              have hcz1 := (blk_cell BK.out 1).trans rfl
              have hcz2 := (blk_cell BK.out 2).trans rfl
              by_cases c3 : x6_2 < y.f1
              · rw [if_pos c3] at H
                by_cases c4 : 0 ≤ x6_2
                · rw [if_pos c4] at H
                  by_cases c5 : x6_2 < 64
                  · rw [if_pos c5] at H
                    have C4 := Aside0.mk c4
                    have C5 := Aside0.mk c5
                    have c3b := decide_eq_true c3
                    have c4b := eq_true c4
                    have c5b := eq_true c5
                    have hx := A3.out.cell x6_2.toNat (by rw [HL.out]; omega)
                    have hf := A3.out.frozen x6_2.toNat
                    clear c3 c4 c5
                    obtain ⟨bf, hbf⟩ : ∃ b, y.f2 = b := ⟨_, rfl⟩
                    rw [hbf] at H
                    rw [hbf] at hcz2
                    have HF := Aside0.mk hbf
                    clear hbf
                    cases bf with
                    | true =>
                      rw [if_pos rfl] at H
                      have H' := Aside0.mk H
                      clear H
                      go_wp2_with (first | ((with_reducible refine gate_store (t := 3) (p := 22) rfl ?_); refine store_event (t := 3) (p := 22) (v := ?vo22) (w1 := (World.setCell wr ⟨g3, x6_2.toNat, none⟩ (.int .i64 1))) ?hg ?ho ?hn ?hr ?_; (case ho => rfl); (case hg => rfl); (case hn => rfl); (case hr => first | (go_simp; done) | (go_simp; rfl)); intro w10 hw; have n0_ := Aside0.mk (show AR.At 128 w10 g3 (x3_2.set x6_2.toNat 1) by rw [hw]; exact A3.out.set _ _); have n1_ := Aside0.mk (show AR.At 128 w10 g2 (List.replicate 64 0) by rw [hw]; exact A2.out.far (p := ⟨g3, x6_2.toNat, none⟩) (by show g2 ≠ g3; have := G3.out; omega) _); have n2_ := Aside0.mk (show w10.heap[gb]? = some (.cells #[.int .i64 y.f0, .int .i64 y.f1, .bool y.f2] 70 (0, 0)) by rw [hw]; exact (Below.heap_setCell _ ⟨g3, x6_2.toNat, none⟩ _ gb (by show gb ≠ g3; have := GB.out; omega)).trans BK.out); have n3_ := Aside0.mk (show Below w.heap.size w w10 by rw [hw]; exact below_set HB.out (by have := G2.out; have := G3.out; omega)); clear A3 A2 BK HB hw hx hf hcz1 hcz2; have A3 := n0_; have A2 := n1_; have BK := n2_; have HB := n3_; clear n0_ n1_ n2_ n3_; have hcz1 := (blk_cell BK.out 1).trans rfl; have hcz2 := (blk_cell BK.out 2).trans rfl; have hx := A3.out.cell x6_2.toNat (by rw [List.length_set, HL.out]; have := C4.out; have := C5.out; omega); have hf := A3.out.frozen x6_2.toNat; (first | rw [HF.out] at hcz2 | skip)) | ((with_reducible refine gate_store (t := 3) (p := 26) rfl ?_); refine store_event (t := 3) (p := 26) (v := ?vo26) (w1 := (World.setCell w10 ⟨g3, x6_2.toNat, none⟩ (.int .i64 2))) ?hg ?ho ?hn ?hr ?_; (case ho => rfl); (case hg => rfl); (case hn => rfl); (case hr => first | (go_simp; done) | (go_simp; rfl)); intro w11 hw; have n0_ := Aside0.mk (show AR.At 128 w11 g3 (x3_2.set x6_2.toNat 2) by rw [hw]; have q_ := A3.out.set x6_2.toNat 2; rw [List.set_set] at q_; exact q_); have n1_ := Aside0.mk (show AR.At 128 w11 g2 (List.replicate 64 0) by rw [hw]; exact A2.out.far (p := ⟨g3, x6_2.toNat, none⟩) (by show g2 ≠ g3; have := G3.out; omega) _); have n2_ := Aside0.mk (show w11.heap[gb]? = some (.cells #[.int .i64 y.f0, .int .i64 y.f1, .bool y.f2] 70 (0, 0)) by rw [hw]; exact (Below.heap_setCell _ ⟨g3, x6_2.toNat, none⟩ _ gb (by show gb ≠ g3; have := GB.out; omega)).trans BK.out); have n3_ := Aside0.mk (show Below w.heap.size w w11 by rw [hw]; exact below_set HB.out (by have := G2.out; have := G3.out; omega)); clear A3 A2 BK HB hw hx hf hcz1 hcz2; have A3 := n0_; have A2 := n1_; have BK := n2_; have HB := n3_; clear n0_ n1_ n2_ n3_))
                      go_roundg k2
                      case measure => have := HK1.out; have := HK2.out; omega
                      case rel => exact ⟨_, _, rfl, H', ⟨by have := HK1.out; have := HK2.out; omega⟩, ⟨by rw [List.length_set]; exact HL.out⟩, A3, A2, BK, HB⟩
                    | false =>
                      rw [if_neg (by decide)] at H
                      have H' := Aside0.mk H
                      clear H
                      go_wp2_with (first | ((with_reducible refine gate_store (t := 3) (p := 22) rfl ?_); refine store_event (t := 3) (p := 22) (v := ?vo22) (w1 := (World.setCell wr ⟨g3, x6_2.toNat, none⟩ (.int .i64 1))) ?hg ?ho ?hn ?hr ?_; (case ho => rfl); (case hg => rfl); (case hn => rfl); (case hr => first | (go_simp; done) | (go_simp; rfl)); intro w10 hw; have n0_ := Aside0.mk (show AR.At 128 w10 g3 (x3_2.set x6_2.toNat 1) by rw [hw]; exact A3.out.set _ _); have n1_ := Aside0.mk (show AR.At 128 w10 g2 (List.replicate 64 0) by rw [hw]; exact A2.out.far (p := ⟨g3, x6_2.toNat, none⟩) (by show g2 ≠ g3; have := G3.out; omega) _); have n2_ := Aside0.mk (show w10.heap[gb]? = some (.cells #[.int .i64 y.f0, .int .i64 y.f1, .bool y.f2] 70 (0, 0)) by rw [hw]; exact (Below.heap_setCell _ ⟨g3, x6_2.toNat, none⟩ _ gb (by show gb ≠ g3; have := GB.out; omega)).trans BK.out); have n3_ := Aside0.mk (show Below w.heap.size w w10 by rw [hw]; exact below_set HB.out (by have := G2.out; have := G3.out; omega)); clear A3 A2 BK HB hw hx hf hcz1 hcz2; have A3 := n0_; have A2 := n1_; have BK := n2_; have HB := n3_; clear n0_ n1_ n2_ n3_; have hcz1 := (blk_cell BK.out 1).trans rfl; have hcz2 := (blk_cell BK.out 2).trans rfl; have hx := A3.out.cell x6_2.toNat (by rw [List.length_set, HL.out]; have := C4.out; have := C5.out; omega); have hf := A3.out.frozen x6_2.toNat; (first | rw [HF.out] at hcz2 | skip)))
                      go_roundg k2
                      case measure => have := HK1.out; have := HK2.out; omega
                      case rel => exact ⟨_, _, rfl, H', ⟨by have := HK1.out; have := HK2.out; omega⟩, ⟨by rw [List.length_set]; exact HL.out⟩, A3, A2, BK, HB⟩
                  · rw [if_neg c5] at H; exact absurd H (by simp)
                · rw [if_neg c4] at H; exact absurd H (by simp)
              · rw [if_neg c3] at H
                have H' := Aside0.mk H
                clear H
                have c3b := decide_eq_false c3
                clear c3
                go_wp2
                go_roundg k2
                case measure => have := HK1.out; have := HK2.out; omega
                case rel => exact ⟨_, _, rfl, H', ⟨by have := HK1.out; have := HK2.out; omega⟩, HL, A3, A2, HB⟩
        · rw [if_neg c2] at H; exact absurd H (by simp)
      · rw [if_neg c1] at H
        obtain rfl := Option.some.inj H
        go_wp2_with (first | ((with_reducible refine gate_dst (N := 28) rfl ?_); refine AR.load_event rfl rfl rfl Try.underlying128 AR.n64 HL.out A3.out ?_) | (refine AR.store_event (g := g2) (ys := List.replicate 64 0) rfl rfl rfl rfl rfl AR.n64 HL.out List.length_replicate A2.out ?_; intro w9 hA hg; have A2 := Aside0.mk hA; have n0_ := Aside0.mk (HB.out.grown hg HB.out.size (fun k_ e_ => by injection e_ with e_; subst e_; exact G2.out)); clear HB; have HB := n0_; clear n0_ hA hg))
        refine bodyPost_ret (results_cell_row rfl _ _ g2 128 _ (0, 0) _ rfl A2.out Try.underlying128 rfl (by rw [AR.n64]; simp [encs, HL.out])) rfl ?_
        exact ⟨rfl, HL.out, HB.out⟩

end Go.Proofs.Ytdpejnckojhgjaa.P
end
section
namespace Go.Proofs.Ytdpejnckojhgjaa.P
open Go.RowKit Go.Proofs.YtdpejnckojhgjaaW.PrintWords Go.Proofs.YtdpejnckojhgjaaW.PrintLast Go.Proofs.YtdpejnckojhgjaaW.PrintMore
attribute [local go_sem] max2_int min2_int max_two min_two max_three min_three max_four min_four   -- for this text's walks alone
set_option linter.unusedVariables false
set_option linter.unusedSimpArgs false

/-! ### impl_regionsOf: function 129 -/
def impl_regionsOf.l0 : Nat → List Int → List S70 → Int → Option (List S70 × Bool)
  | 0, _, _, _ => none
  | k + 1, xs, x4, x10 => if x10 < 64 then (if 0 ≤ x10 then (if xs.getD x10.toNat 0 = 0 then (impl_regionsOf.l0 k xs x4 (wrap64 (x10 + 1))) else (if 0 < x4.length ∧ (x4.getD (x4.length - 1) z70).f1 = x10 ∧ (x4.getD (x4.length - 1) z70).f2 = (xs.getD x10.toNat 0 == 2) then (impl_regionsOf.l0 k xs (x4.set (x4.length - 1) (⟨(x4.getD (x4.length - 1) z70).f0, wrap64 (x10 + 1), (x4.getD (x4.length - 1) z70).f2⟩ : S70)) (wrap64 (x10 + 1))) else (if x4.length < 1000000 then (impl_regionsOf.l0 k xs (x4 ++ [(⟨x10, wrap64 (x10 + 1), (xs.getD x10.toNat 0 == 2)⟩ : S70)]) (wrap64 (x10 + 1))) else none))) else none) else (if (x4.length : Int) > 12 then some ([], false) else some (x4, true))
def impl_regionsOf.f (k : Nat) (xs : List Int) : Option (List S70 × Bool) := impl_regionsOf.l0 k xs [] 0
theorem impl_regionsOf.mono_l : ∀ k y0 y1 y2, LeO (impl_regionsOf.l0 k y0 y1 y2) (impl_regionsOf.l0 (k + 1) y0 y1 y2)
  | 0 => fun _ _ _ r h => by simp [impl_regionsOf.l0] at h
  | k + 1 => by
    intro y0 y1 y2
    have ih := impl_regionsOf.mono_l k
    rw [impl_regionsOf.l0, impl_regionsOf.l0]
    exact LeO.ite (LeO.ite (LeO.ite (ih _ _ _) (LeO.ite (ih _ _ _) (LeO.ite (ih _ _ _) (LeO.refl _)))) (LeO.refl _)) (LeO.refl _)
theorem impl_regionsOf.mono : ∀ a0 k, LeO (impl_regionsOf.f k a0) (impl_regionsOf.f (k + 1) a0) := fun _ k => impl_regionsOf.mono_l k _ _ _
set_option maxHeartbeats 8000000 in
set_option maxRecDepth 100000 in
theorem impl_regionsOf.calls (k : Nat) (xs : List Int) (r1 : List S70) (r2 : Bool) (w : World) (hl : xs.length = 64) (h : impl_regionsOf.f k xs = some (r1, r2)) :
    Calls Try.prog 129 #[AR.val xs] w fun e w' => ∃ v0_ : Value, e = .returned (.tuple #[v0_, .bool r2]) ∧ Kd.R k70 70 w' w.heap.size (fun _ => True) v0_ r1 ∧ Below w.heap.size w w' := by
  have HL := Aside0.mk hl
  clear hl
  have HB := Aside0.mk (Below.refl w.heap.size w)
  have H' := Aside0.mk (show impl_regionsOf.l0 k xs [] 0 = some (r1, r2) from h)
  clear h
  obtain ⟨P_, hP⟩ : ∃ v, AR.val xs = v := ⟨_, rfl⟩
  rw [hP]
  have HP := Aside0.mk hP.symm
  clear hP
  go_enter Try.func129, Try.ntmps129
  go_wp2_with (first | ((with_reducible refine gate_dst (N := 1) rfl ?_); refine AR.box_event (xs := xs) rfl rfl HP.out ?_; intro g1 hg w1 hA hb; have A1 := Aside0.mk hA; have G1 := Aside0.mk (show w.heap.size ≤ g1 by omega); have n0_ := Aside0.mk (below_step HB.out hb); clear HB; have HB := n0_; clear n0_ hb hA hg) | ((with_reducible refine gate_dst (N := 8) rfl ?_); refine Kd.R_lit k70 _ 70 ?hg (N := 8) ?hd (xs := ([] : List S70)) (inner := []) (ok := fun _ => True) (okp := fun _ => True) ?hr ?hp (fun _ hk => hk) trivial (Below.refl _ _) (Nat.le_refl _) (by simp) ?_; (case hd => rfl); (case hg => rfl); (case hr => first | (go_simp; done) | (go_simp; rfl)); (case hp => exact (Reps.none _ _)); intro v8 w2 ho3 hb hg_ hnew_; clear hg_ hnew_; have n0_ := Aside0.mk (Kd.R_lower ho3 (below_size HB.out)); have n1_ := Aside0.mk (below_step HB.out hb); have n2_ := Aside0.mk (A1.out.below hb); clear HB A1; have HO := n0_; have HB := n1_; have A1 := n2_; clear n0_ n1_ n2_ hb ho3) | ((with_reducible refine gate_dst (N := 9) rfl ?_); refine AR.load_event rfl rfl rfl Try.underlying128 AR.n64 HL.out A1.out ?_; rw [← HP.out]))
  go_loopg [4, 10] k (fun kq v4 v10 w' => ∃ (x4_1 : List S70) (x10_1 : Int), v10 = .int .i64 x10_1 ∧ Aside0 (impl_regionsOf.l0 kq xs x4_1 x10_1 = some (r1, r2)) ∧ Aside0 (kq ≤ k) ∧ Aside0 (Kd.R k70 70 w' w.heap.size (fun _ => True) v4 x4_1) ∧ Aside0 (Below w.heap.size w w'))
  case atStart => exact ⟨[], 0, rfl, H', ⟨Nat.le_refl _⟩, HO, HB⟩
  case round =>
    clear H' HO HB A1
    obtain ⟨x4_1, x10_1, rfl, HA, HK1, HO, HB⟩ := hrel
    cases gk with
    | zero => exact absurd HA.out (by simp [impl_regionsOf.l0])
    | succ k1 =>
      have H := HA.out
      clear HA
      rw [impl_regionsOf.l0] at H
      by_cases c1 : x10_1 < 64
      · rw [if_pos c1] at H
        by_cases c2 : 0 ≤ x10_1
        · rw [if_pos c2] at H
          have C1 := Aside0.mk (show x10_1 < ((64 : Nat) : Int) from c1)
          have C2 := Aside0.mk c2
          have c1b := decide_eq_true c1
          have c1c := eq_true c1
          have c2c := eq_true c2
          clear c1 c2
          obtain ⟨p_, hq⟩ : ∃ p_, xs.getD x10_1.toNat 0 = p_ := ⟨_, rfl⟩
          rw [hq] at H
          have HQ := Aside0.mk hq
          clear hq
          obtain ⟨An, cn, en⟩ := Kd.R_slice HO.out
          subst en
          by_cases c3 : p_ = 0
          · rw [if_pos c3] at H
            have H' := Aside0.mk H
            have c3b : (p_ == 0) = true := beq_iff_eq.mpr c3
            clear H c3
            go_wp2_with (first | ((with_reducible refine gate_dst (N := 13) rfl ?_); refine AR.index_event (xs := xs) (j := x10_1) rfl rfl HP.out rfl Try.underlying128 Try.underlying3 info3 C2.out C1.out HL.out ?_; rw [HQ.out]))
            go_roundg k1
            case measure => have := HK1.out; omega
            case rel => exact ⟨_, _, rfl, H', ⟨by have := HK1.out; omega⟩, HO, HB⟩
          · rw [if_neg c3] at H
            have c3b : (p_ == 0) = false := beq_eq_false_iff_ne.mpr c3
            clear c3
            have dummy_ : True := trivial
            · clear dummy_
              by_cases cn0 : 0 < x4_1.length
              · obtain ⟨g, cap, eg, gb, gl, cl, HG⟩ := Kd.R_form HO.out cn0
                obtain ⟨ea, ec⟩ : An = some ⟨g, 0, none⟩ ∧ cn = cap := by injection eg with a b c; exact ⟨a, c⟩
                subst ea ec
                clear eg HG cl gl
                have GB := Aside0.mk gb
                clear gb
                have hlen := (Kd.R_reads' HO.out).2.2.2.1
                obtain ⟨ji, hji⟩ : ∃ j_ : Int, (wrap64 ((x4_1.length : Int) - 1)) = j_ := ⟨_, rfl⟩
                have hjv : ji = (x4_1.length : Int) - 1 := by rw [← hji]; unfold wrap64; omega
                have hjn : ji.toNat = x4_1.length - 1 := by omega
                have hjiw : (IntKind.i64.wrap ((x4_1.length : Int) - 1)) = ji := (i64_w _).trans hji
                have j0 : 0 ≤ ji := by omega
                have j1 : ji < (x4_1.length : Int) := by omega
                rw [← hjn] at H
                obtain ⟨y, hy⟩ : ∃ y, x4_1.getD ji.toNat z70 = y := ⟨_, rfl⟩
                rw [hy] at H
                obtain ⟨ce, hcl, hM, hcc, hfr⟩ := Kd.R_elem HO.out z70 ji j0 j1
                rw [hy] at hM
                obtain rfl := k70_openM hM
                have hx1 := hcc 1 _ rfl
                have hx2 := hcc 2 _ rfl
                have hf1 := hfr 1
                have HS := Aside0.mk (Kd.R_seg HO.out ji j0 j1 (seg := [.int .i64 (wrap64 (x10_1 + 1))]) (j := 1) hcl hcc (show 2 ≤ 3 from by decide) (x' := (⟨y.f0, wrap64 (x10_1 + 1), y.f2⟩ : S70)) (k70_mkM _ _ _ (⟨y.f0, wrap64 (x10_1 + 1), y.f2⟩ : S70)) (fun _ hk => hk))
                simp only [show (k70).sz = 3 from rfl] at hx1 hx2 hf1
                clear hcl hM hcc hfr
                have j0b := eq_true j0
                have j1b := eq_true j1
                have CN := Aside0.mk cn0
                have cn0b : decide (0 < (x4_1.length : Int)) = true := decide_eq_true (by omega)
                have cn0c := eq_true cn0
                have cn0d := decide_eq_true cn0
                have HY := Aside0.mk hy
                have HJ := Aside0.mk hjn
                clear hlen hjv hjn j0 j1 hy
                by_cases e1 : y.f1 = x10_1
                · have e1b : (y.f1 == x10_1) = true := beq_iff_eq.mpr e1
                  by_cases e2 : y.f2 = (p_ == 2)
                  · have e2b : (y.f2 == (p_ == 2)) = true := beq_iff_eq.mpr e2
                    rw [if_pos ⟨cn0, e1, e2⟩] at H
                    have H' := Aside0.mk H
                    clear H e1 e2 cn0
                    go_wp2_with (first | ((with_reducible refine gate_dst (N := 13) rfl ?_); refine AR.index_event (xs := xs) (j := x10_1) rfl rfl HP.out rfl Try.underlying128 Try.underlying3 info3 C2.out C1.out HL.out ?_; rw [HQ.out]) | ((with_reducible refine gate_store (t := 3) (p := 58) rfl ?_); refine store_event (t := 3) (p := 58) (v := ?vo58) (w1 := (World.setCell wr ⟨g, ji.toNat * 3 + 1, none⟩ (.int .i64 (wrap64 (x10_1 + 1))))) ?hg ?ho ?hn ?hr ?_; (case ho => rfl); (case hg => rfl); (case hn => rfl); (case hr => first | (go_simp; done) | (go_simp; rfl)); intro w18 hw; have n0_ := Aside0.mk (show Kd.R k70 70 w18 w.heap.size (fun _ => True) (.slice (some ⟨g, 0, none⟩) x4_1.length cn) (x4_1.set ji.toNat (⟨y.f0, wrap64 (x10_1 + 1), y.f2⟩ : S70)) by rw [hw]; exact HS.out.1); have n1_ := Aside0.mk (show Below w.heap.size w w18 by rw [hw]; exact below_set HB.out GB.out); clear HO HB HS hw hx1 hx2 hf1; have HO := n0_; have HB := n1_; clear n0_ n1_))
                    go_roundg k1
                    case measure => have := HK1.out; omega
                    case rel => exact ⟨_, _, rfl, H', ⟨by have := HK1.out; omega⟩, HO, HB⟩
                  · have e2b : (y.f2 == (p_ == 2)) = false := beq_eq_false_iff_ne.mpr e2
                    rw [if_neg (fun h_ => e2 h_.2.2)] at H
                    by_cases lm : x4_1.length < 1000000
                    · rw [if_pos lm] at H
                      have LM := Aside0.mk lm
                      have H' := Aside0.mk H
                      clear H e1 e2 cn0 lm
                      go_wp2_with (first | ((with_reducible refine gate_dst (N := 13) rfl ?_); refine AR.index_event (xs := xs) (j := x10_1) rfl rfl HP.out rfl Try.underlying128 Try.underlying3 info3 C2.out C1.out HL.out ?_; rw [HQ.out]) | ((with_reducible refine gate_builtin (b := .append) (xs := #[.tmp 16, .tmp 23]) rfl ?_); at_builtin; refine Kd.R_append k70 (w0 := w) w.heap.size rfl (.tmp 16) (.tmp 23) 34 70 (.agg #[(.int .i64 0), (.int .i64 0), (.bool false)]) 24 rfl Try.underlying34 info70 rfl (by decide) (by omega) (.slice (some ⟨g, 0, none⟩) x4_1.length cn) x4_1 (⟨x10_1, wrap64 (x10_1 + 1), (p_ == 2)⟩ : S70) [.int .i64 x10_1, .int .i64 (wrap64 (x10_1 + 1)), .bool (p_ == 2)] (fun _ => True) (fun _ => False) rfl rfl ?aP (fun _ hk => hk.elim) ?aF ?aO ?aB ?aS ?aL ?_; (case aP => exact k70_mkM _ _ _ (⟨x10_1, wrap64 (x10_1 + 1), (p_ == 2)⟩ : S70)); (case aB => exact HB.out); (case aF => exact (fun _ _ => trivial)); (case aO => exact HO.out); (case aS => exact HB.out.size); (case aL => have := LM.out; omega); intro v214 w20 ho hb hg hat; have n0_ := Aside0.mk hb; have n1_ := Aside0.mk ho; clear HB HO; have HB := n0_; have HO := n1_; clear n0_ n1_; clear ho hb hg hat))
                      go_roundg k1
                      case measure => have := HK1.out; omega
                      case rel => exact ⟨_, _, rfl, H', ⟨by have := HK1.out; omega⟩, HO, HB⟩
                    · rw [if_neg lm] at H; exact absurd H (by simp)
                · have e1b : (y.f1 == x10_1) = false := beq_eq_false_iff_ne.mpr e1
                  rw [if_neg (fun h_ => e1 h_.2.1)] at H
                  by_cases lm : x4_1.length < 1000000
                  · rw [if_pos lm] at H
                    have LM := Aside0.mk lm
                    have H' := Aside0.mk H
                    clear H e1 cn0 lm
                    go_wp2_with (first | ((with_reducible refine gate_dst (N := 13) rfl ?_); refine AR.index_event (xs := xs) (j := x10_1) rfl rfl HP.out rfl Try.underlying128 Try.underlying3 info3 C2.out C1.out HL.out ?_; rw [HQ.out]) | ((with_reducible refine gate_builtin (b := .append) (xs := #[.tmp 16, .tmp 23]) rfl ?_); at_builtin; refine Kd.R_append k70 (w0 := w) w.heap.size rfl (.tmp 16) (.tmp 23) 34 70 (.agg #[(.int .i64 0), (.int .i64 0), (.bool false)]) 24 rfl Try.underlying34 info70 rfl (by decide) (by omega) (.slice (some ⟨g, 0, none⟩) x4_1.length cn) x4_1 (⟨x10_1, wrap64 (x10_1 + 1), (p_ == 2)⟩ : S70) [.int .i64 x10_1, .int .i64 (wrap64 (x10_1 + 1)), .bool (p_ == 2)] (fun _ => True) (fun _ => False) rfl rfl ?aP (fun _ hk => hk.elim) ?aF ?aO ?aB ?aS ?aL ?_; (case aP => exact k70_mkM _ _ _ (⟨x10_1, wrap64 (x10_1 + 1), (p_ == 2)⟩ : S70)); (case aB => exact HB.out); (case aF => exact (fun _ _ => trivial)); (case aO => exact HO.out); (case aS => exact HB.out.size); (case aL => have := LM.out; omega); intro v214 w20 ho hb hg hat; have n0_ := Aside0.mk hb; have n1_ := Aside0.mk ho; clear HB HO; have HB := n0_; have HO := n1_; clear n0_ n1_; clear ho hb hg hat))
                    go_roundg k1
                    case measure => have := HK1.out; omega
                    case rel => exact ⟨_, _, rfl, H', ⟨by have := HK1.out; omega⟩, HO, HB⟩
                  · rw [if_neg lm] at H; exact absurd H (by simp)
              · rw [if_neg (fun h_ => cn0 h_.1)] at H
                have cn0b : decide (0 < (x4_1.length : Int)) = false := decide_eq_false (by omega)
                have cn0c := eq_false cn0
                have cn0d := decide_eq_false cn0
                by_cases lm : x4_1.length < 1000000
                · rw [if_pos lm] at H
                  have LM := Aside0.mk lm
                  have H' := Aside0.mk H
                  clear H cn0 lm
                  go_wp2_with (first | ((with_reducible refine gate_dst (N := 13) rfl ?_); refine AR.index_event (xs := xs) (j := x10_1) rfl rfl HP.out rfl Try.underlying128 Try.underlying3 info3 C2.out C1.out HL.out ?_; rw [HQ.out]) | ((with_reducible refine gate_builtin (b := .append) (xs := #[.tmp 16, .tmp 23]) rfl ?_); at_builtin; refine Kd.R_append k70 (w0 := w) w.heap.size rfl (.tmp 16) (.tmp 23) 34 70 (.agg #[(.int .i64 0), (.int .i64 0), (.bool false)]) 24 rfl Try.underlying34 info70 rfl (by decide) (by omega) (.slice An x4_1.length cn) x4_1 (⟨x10_1, wrap64 (x10_1 + 1), (p_ == 2)⟩ : S70) [.int .i64 x10_1, .int .i64 (wrap64 (x10_1 + 1)), .bool (p_ == 2)] (fun _ => True) (fun _ => False) rfl rfl ?aP (fun _ hk => hk.elim) ?aF ?aO ?aB ?aS ?aL ?_; (case aP => exact k70_mkM _ _ _ (⟨x10_1, wrap64 (x10_1 + 1), (p_ == 2)⟩ : S70)); (case aB => exact HB.out); (case aF => exact (fun _ _ => trivial)); (case aO => exact HO.out); (case aS => exact HB.out.size); (case aL => have := LM.out; omega); intro v214 w20 ho hb hg hat; have n0_ := Aside0.mk hb; have n1_ := Aside0.mk ho; clear HB HO; have HB := n0_; have HO := n1_; clear n0_ n1_; clear ho hb hg hat))
                  go_roundg k1
                  case measure => have := HK1.out; omega
                  case rel => exact ⟨_, _, rfl, H', ⟨by have := HK1.out; omega⟩, HO, HB⟩
                · rw [if_neg lm] at H; exact absurd H (by simp)
        · rw [if_neg c2] at H; exact absurd H (by simp)
      · rw [if_neg c1] at H
        have c1b := decide_eq_false c1
        clear c1
        obtain ⟨An, cn, en⟩ := Kd.R_slice HO.out
        subst en
        by_cases c6 : (x4_1.length : Int) > 12
        · rw [if_pos c6] at H
          have c6b : decide (12 < (x4_1.length : Int)) = true := decide_eq_true c6
          have c6c : (12 < x4_1.length) = True := eq_true (by omega)
          have c6d : decide (12 < x4_1.length) = true := decide_eq_true (by omega)
          simp only [Option.some.injEq, Prod.mk.injEq] at H
          obtain ⟨rfl, rfl⟩ := H
          clear c6
          go_wp2
          go_ret2
          exact ⟨_, rfl, Kd.R_nil _ _ _ _ _, HB.out⟩
        · rw [if_neg c6] at H
          have c6b : decide (12 < (x4_1.length : Int)) = false := decide_eq_false c6
          have c6c : (12 < x4_1.length) = False := eq_false (by omega)
          have c6d : decide (12 < x4_1.length) = false := decide_eq_false (by omega)
          simp only [Option.some.injEq, Prod.mk.injEq] at H
          obtain ⟨rfl, rfl⟩ := H
          clear c6
          go_wp2
          go_ret2
          exact ⟨_, rfl, HO.out, HB.out⟩

end Go.Proofs.Ytdpejnckojhgjaa.P
end
section
namespace Go.Proofs.Ytdpejnckojhgjaa.P
open Go.RowKit Go.Proofs.YtdpejnckojhgjaaW.PrintWords Go.Proofs.YtdpejnckojhgjaaW.PrintLast Go.Proofs.YtdpejnckojhgjaaW.PrintMore
attribute [local go_sem] max2_int min2_int max_two min_two max_three min_three max_four min_four   -- for this text's walks alone
set_option linter.unusedVariables false
set_option linter.unusedSimpArgs false

/-! ### impl_painted: function 84 -/
def impl_painted.l0 : Nat → List Int → Int → Int → Int → Option (List S70 × Bool)
  | 0, _, _, _, _ => none
  | k + 1, xs, a2, a3, x11 => if x11 < a2 then (if 0 ≤ x11 then (if x11 < 64 then (impl_painted.l0 k (xs.set x11.toNat a3) a2 a3 (wrap64 (x11 + 1))) else none) else none) else (impl_regionsOf.f k xs)
def impl_painted.f (k : Nat) (l0 : List S70) (a1 a2 a3 : Int) : Option (List S70 × Bool) := (impl_pagesOf.f k l0).bind fun xs => impl_painted.l0 k xs a2 a3 a1
theorem impl_painted.mono_l : ∀ k y0 y1 y2 y3, LeO (impl_painted.l0 k y0 y1 y2 y3) (impl_painted.l0 (k + 1) y0 y1 y2 y3)
  | 0 => fun _ _ _ _ r h => by simp [impl_painted.l0] at h
  | k + 1 => by
    intro y0 y1 y2 y3
    have ih := impl_painted.mono_l k
    rw [impl_painted.l0, impl_painted.l0]
    exact LeO.ite (LeO.ite (LeO.ite (ih _ _ _ _) (LeO.refl _)) (LeO.refl _)) (impl_regionsOf.mono _ _)
theorem impl_painted.mono : ∀ a0 a1 a2 a3 k, LeO (impl_painted.f k a0 a1 a2 a3) (impl_painted.f (k + 1) a0 a1 a2 a3) := fun _ _ _ _ k => LeO.bind (impl_pagesOf.mono _ _) (fun _ => impl_painted.mono_l k _ _ _ _)
set_option maxHeartbeats 8000000 in
set_option maxRecDepth 100000 in
theorem impl_painted.calls (k : Nat) (A0 : Option Addr) (c0 : Nat) (l0 : List S70) (a1 : Int) (a2 : Int) (a3 : Int) (r1 : List S70) (r2 : Bool) (w : World) (hr0 : Kd.C k70 w A0 l0.length l0) (hc0 : l0.length ≤ c0) (h : impl_painted.f k l0 a1 a2 a3 = some (r1, r2)) :
    Calls Try.prog 84 #[.slice A0 l0.length c0, .int .i64 a1, .int .i64 a2, .int .i64 a3] w fun e w' => ∃ v0_ : Value, e = .returned (.tuple #[v0_, .bool r2]) ∧ Kd.R k70 70 w' w.heap.size (fun _ => True) v0_ r1 ∧ Below w.heap.size w w' := by
  have HR0 := Aside0.mk hr0
  have HC0 := Aside0.mk hc0
  clear hr0 hc0
  have HB := Aside0.mk (Below.refl w.heap.size w)
  have H := h
  clear h
  unfold impl_painted.f at H
  obtain ⟨xs, A1, H⟩ := Option.bind_eq_some_iff.mp H
  have A1 := Aside0.mk A1
  have H' := Aside0.mk H
  clear H
  go_enter Try.func84, Try.ntmps84
  go_wp2_with (first | ((with_reducible refine gate_callee (f := 108) rfl ?_); refine goesL_ (some 13) rfl rfl Try.func108 (by kernel_rfl) rfl #[.slice A0 l0.length c0] rfl (by (try simp only [List.map_toArray, List.map_cons, List.map_nil]); first | done | rfl) ?_; (with_reducible refine (impl_pagesOf.calls k _ _ l0 xs _ ?side1 ?side2 A1.out).mono ?_); (case side1 => exact Kd.C_below HR0.out HB.out); (case side2 => exact HC0.out); rintro e w1 ⟨rfl, hlen, hb⟩; refine ⟨_, rfl, ?_⟩; have HL := Aside0.mk hlen; have n0_ := Aside0.mk (below_step HB.out hb); clear HB; have HB := n0_; clear n0_ hb hlen) | ((with_reducible refine gate_dst (N := 10) rfl ?_); refine AR.alloc_event rfl rfl AR.z64 ?_; intro g hg w2 hA hb; have AZ := Aside0.mk hA; have hs_ := HB.out.size; have G := Aside0.mk (show w.heap.size ≤ g by omega); have n0_ := Aside0.mk (below_step HB.out hb); clear HB hs_; have HB := n0_; clear n0_ hb hA hg) | (refine AR.store_event (g := g) (xs := xs) (ys := List.replicate 64 0) rfl rfl rfl rfl rfl AR.n64 HL.out List.length_replicate AZ.out ?_; intro w3 hA hg; have AX := Aside0.mk hA; have n0_ := Aside0.mk (HB.out.grown hg HB.out.size (fun k_ e_ => by injection e_ with e_; subst e_; exact G.out)); clear HB AZ; have HB := n0_; clear n0_ hA hg))
  go_loopg [11] k (fun kq v11 w' => ∃ (xs_1 : List Int) (x11_1 : Int), v11 = .int .i64 x11_1 ∧ Aside0 (impl_painted.l0 kq xs_1 a2 a3 x11_1 = some (r1, r2)) ∧ Aside0 (kq ≤ k) ∧ Aside0 (xs_1.length = 64) ∧ Aside0 (AR.At 128 w' g xs_1) ∧ Aside0 (Below w.heap.size w w'))
  case atStart => exact ⟨xs, a1, rfl, H', ⟨Nat.le_refl _⟩, HL, AX, HB⟩
  case round =>
    clear H' HB AX HL
    obtain ⟨xs_1, x11_1, rfl, HA, HK1, HL, AX, HB⟩ := hrel
    cases gk with
    | zero => exact absurd HA.out (by simp [impl_painted.l0])
    | succ k1 =>
      have H := HA.out
      clear HA
      rw [impl_painted.l0] at H
      by_cases c1 : x11_1 < a2
      · rw [if_pos c1] at H
        by_cases c2 : 0 ≤ x11_1
        · rw [if_pos c2] at H
          by_cases c3 : x11_1 < 64
          · rw [if_pos c3] at H
            have H' := Aside0.mk H
            have c1b := decide_eq_true c1
            have c1c := eq_true c1
            have c2c := eq_true c2
            have c3c := eq_true c3
            have hx := AX.out.cell x11_1.toNat (by rw [HL.out]; omega)
            have hf := AX.out.frozen x11_1.toNat
            clear H c1 c2 c3
            go_wp2_with (first | ((with_reducible refine gate_store (t := 3) (p := 22) rfl ?_); refine store_event (t := 3) (p := 22) (v := ?vo22) (w1 := (World.setCell wr ⟨g, x11_1.toNat, none⟩ (.int .i64 a3))) ?hg ?ho ?hn ?hr ?_; (case ho => rfl); (case hg => rfl); (case hn => rfl); (case hr => first | (go_simp; done) | (go_simp; rfl)); intro w10 hw; have n0_ := Aside0.mk (show AR.At 128 w10 g (xs_1.set x11_1.toNat a3) by rw [hw]; exact AX.out.set _ _); have n3_ := Aside0.mk (show Below w.heap.size w w10 by rw [hw]; exact below_set HB.out G.out); clear AX HB hw hx hf; have AX := n0_; have HB := n3_; clear n0_ n3_))
            go_roundg k1
            case measure => have := HK1.out; omega
            case rel => exact ⟨_, _, rfl, H', ⟨by have := HK1.out; omega⟩, ⟨by rw [List.length_set]; exact HL.out⟩, AX, HB⟩
          · rw [if_neg c3] at H; exact absurd H (by simp)
        · rw [if_neg c2] at H; exact absurd H (by simp)
      · rw [if_neg c1] at H
        have H' := Aside0.mk H
        have c1b := decide_eq_false c1
        clear H c1
        go_wp2_with (first | ((with_reducible refine gate_dst (N := 23) rfl ?_); refine AR.load_event rfl rfl rfl Try.underlying128 AR.n64 HL.out AX.out ?_) | ((with_reducible refine gate_callee (f := 129) rfl ?_); refine goesL_ (some 24) rfl rfl Try.func129 (by kernel_rfl) rfl #[AR.val xs_1] rfl (by (try simp only [List.map_toArray, List.map_cons, List.map_nil]); first | done | rfl) ?_; (with_reducible refine (impl_regionsOf.calls k1 xs_1 r1 r2 _ HL.out H'.out).mono ?_); rintro e w5 ⟨v5, rfl, ho, hb⟩; refine ⟨_, rfl, ?_⟩; have n1_ := Aside0.mk (Kd.R_lower ho HB.out.size); have n0_ := Aside0.mk (below_step HB.out hb); clear HB; have HB := n0_; have HO := n1_; clear n0_ n1_ hb ho))
        go_ret2
        exact ⟨_, rfl, HO.out, HB.out⟩

end Go.Proofs.Ytdpejnckojhgjaa.P
end
section
namespace Go.Proofs.Ytdpejnckojhgjaa.P
open Go.RowKit Go.Proofs.YtdpejnckojhgjaaW.PrintWords Go.Proofs.YtdpejnckojhgjaaW.PrintLast Go.Proofs.YtdpejnckojhgjaaW.PrintMore
attribute [local go_sem] max2_int min2_int max_two min_two max_three min_three max_four min_four   -- for this text's walks alone
set_option linter.unusedVariables false
set_option linter.unusedSimpArgs false

/-! ### impl_CutRegions: function 26 -/
def impl_CutRegions.f (k : Nat) (l0 : List S70) (a1 a2 : Int) : Option (List S70 × Bool) := (impl_RegionsOk.f k l0).bind fun t1 => (if t1 = true then ((impl_isSpan.f a1 a2).bind fun t2 => (if t2 = true then (impl_painted.f k l0 a1 a2 0) else (some ([], false)))) else (some ([], false)))
theorem impl_CutRegions.mono : ∀ a0 a1 a2 k, LeO (impl_CutRegions.f k a0 a1 a2) (impl_CutRegions.f (k + 1) a0 a1 a2) := by
  intro a0 a1 a2 k
  unfold impl_CutRegions.f
  repeat' first
      | (with_reducible exact impl_RegionsOk.mono _ _)
      | (with_reducible exact impl_painted.mono _ _ _ _ _)
      | (with_reducible exact LeO.refl _)
      | (with_reducible exact LeO.none _)
      | (with_reducible refine LeO.ite ?_ ?_)
      | (with_reducible refine LeO.bind ?_ (fun _ => ?_))
set_option maxHeartbeats 8000000 in
set_option maxRecDepth 100000 in
theorem impl_CutRegions.calls (k : Nat) (A0 : Option Addr) (c0 : Nat) (l0 : List S70) (a1 : Int) (a2 : Int) (r1 : List S70) (r2 : Bool) (w : World) (hr0 : Kd.C k70 w A0 l0.length l0) (hc0 : l0.length ≤ c0) (h : impl_CutRegions.f k l0 a1 a2 = some (r1, r2)) :
    Calls Try.prog 26 #[.slice A0 l0.length c0, .int .i64 a1, .int .i64 a2] w fun e w' => ∃ v0_ : Value, e = .returned (.tuple #[v0_, .bool r2]) ∧ Kd.R k70 70 w' w.heap.size (fun _ => True) v0_ r1 ∧ Below w.heap.size w w' := by
  have HR0 := Aside0.mk hr0
  have HC0 := Aside0.mk hc0
  clear hr0 hc0
  have HB := Aside0.mk (Below.refl w.heap.size w)
  have H := h
  clear h
  unfold impl_CutRegions.f at H
  obtain ⟨t1, A1, H⟩ := Option.bind_eq_some_iff.mp H
  have A1 := Aside0.mk A1
  cases t1 with
  | false =>
    simp only [Bool.false_eq_true, if_false, Option.some.injEq, Prod.mk.injEq] at H
    obtain ⟨rfl, rfl⟩ := H
    go_enter Try.func26, Try.ntmps26
    go_wp2_with (first | ((with_reducible refine gate_callee (f := 64) rfl ?_); refine goesL_ (some 9) rfl rfl Try.func64 (by kernel_rfl) rfl #[.slice A0 l0.length c0] rfl (by (try simp only [List.map_toArray, List.map_cons, List.map_nil]); first | done | rfl) ?_; (with_reducible refine (impl_RegionsOk.calls k _ _ l0 false _ ?side1 ?side2 A1.out).mono ?_); (case side1 => exact Kd.C_below HR0.out HB.out); (case side2 => exact HC0.out); rintro e w1 ⟨rfl, hb⟩; refine ⟨_, rfl, ?_⟩; have n0_ := Aside0.mk (below_step HB.out hb); clear HB; have HB := n0_; clear n0_ hb))
    go_ret2
    exact ⟨_, rfl, Kd.R_nil _ _ _ _ _, HB.out⟩
  | true =>
    simp only [if_true] at H
    obtain ⟨t2, A2, H⟩ := Option.bind_eq_some_iff.mp H
    have A2 := Aside0.mk A2
    cases t2 with
    | false =>
      simp only [Bool.false_eq_true, if_false, Option.some.injEq, Prod.mk.injEq] at H
      obtain ⟨rfl, rfl⟩ := H
      go_enter Try.func26, Try.ntmps26
      go_wp2_with (first | ((with_reducible refine gate_callee (f := 64) rfl ?_); refine goesL_ (some 9) rfl rfl Try.func64 (by kernel_rfl) rfl #[.slice A0 l0.length c0] rfl (by (try simp only [List.map_toArray, List.map_cons, List.map_nil]); first | done | rfl) ?_; (with_reducible refine (impl_RegionsOk.calls k _ _ l0 true _ ?side1 ?side2 A1.out).mono ?_); (case side1 => exact Kd.C_below HR0.out HB.out); (case side2 => exact HC0.out); rintro e w1 ⟨rfl, hb⟩; refine ⟨_, rfl, ?_⟩; have n0_ := Aside0.mk (below_step HB.out hb); clear HB; have HB := n0_; clear n0_ hb) | (go_at_call 83; (with_reducible refine (impl_isSpan.calls a1 a2 false _ A2.out).mono ?_); rintro e w2 ⟨rfl, hd_⟩; have hb := Drawn0.below hd_; have n0_ := Aside0.mk (below_step HB.out hb); clear HB; have HB := n0_; clear n0_ hb hd_))
      go_ret2
      exact ⟨_, rfl, Kd.R_nil _ _ _ _ _, HB.out⟩
    | true =>
      simp only [if_true] at H
      have H' := Aside0.mk H
      clear H
      go_enter Try.func26, Try.ntmps26
      go_wp2_with (first | ((with_reducible refine gate_callee (f := 64) rfl ?_); refine goesL_ (some 9) rfl rfl Try.func64 (by kernel_rfl) rfl #[.slice A0 l0.length c0] rfl (by (try simp only [List.map_toArray, List.map_cons, List.map_nil]); first | done | rfl) ?_; (with_reducible refine (impl_RegionsOk.calls k _ _ l0 true _ ?side1 ?side2 A1.out).mono ?_); (case side1 => exact Kd.C_below HR0.out HB.out); (case side2 => exact HC0.out); rintro e w1 ⟨rfl, hb⟩; refine ⟨_, rfl, ?_⟩; have n0_ := Aside0.mk (below_step HB.out hb); clear HB; have HB := n0_; clear n0_ hb) | (go_at_call 83; (with_reducible refine (impl_isSpan.calls a1 a2 true _ A2.out).mono ?_); rintro e w2 ⟨rfl, hd_⟩; have hb := Drawn0.below hd_; have n0_ := Aside0.mk (below_step HB.out hb); clear HB; have HB := n0_; clear n0_ hb hd_) | ((with_reducible refine gate_callee (f := 84) rfl ?_); refine goesL_ (some 20) rfl rfl Try.func84 (by kernel_rfl) rfl #[.slice A0 l0.length c0, .int .i64 a1, .int .i64 a2, .int .i64 0] rfl (by (try simp only [List.map_toArray, List.map_cons, List.map_nil]); first | done | rfl) ?_; (with_reducible refine (impl_painted.calls k _ _ l0 a1 a2 0 r1 r2 _ ?side1 ?side2 H'.out).mono ?_); (case side1 => exact Kd.C_below HR0.out HB.out); (case side2 => exact HC0.out); rintro e w9 ⟨v9, rfl, ho, hb⟩; refine ⟨_, rfl, ?_⟩; have n1_ := Aside0.mk (Kd.R_lower ho HB.out.size); have n0_ := Aside0.mk (below_step HB.out hb); clear HB; have HB := n0_; have HO := n1_; clear n0_ n1_ hb ho))
      go_ret2
      exact ⟨_, rfl, HO.out, HB.out⟩

end Go.Proofs.Ytdpejnckojhgjaa.P
end
section
namespace Go.Proofs.Ytdpejnckojhgjaa.P
open Go.RowKit Go.Proofs.YtdpejnckojhgjaaW.PrintWords Go.Proofs.YtdpejnckojhgjaaW.PrintLast Go.Proofs.YtdpejnckojhgjaaW.PrintMore
attribute [local go_sem] max2_int min2_int max_two min_two max_three min_three max_four min_four   -- for this text's walks alone
set_option linter.unusedVariables false
set_option linter.unusedSimpArgs false

/-! ### laws_big: function 30 -/
def laws_big.f (l0 : List Int) : Option (Bool) := some (decide ((l0.length : Int) > 1048576))
set_option maxHeartbeats 8000000 in
set_option maxRecDepth 100000 in
theorem laws_big.calls (A0 : Option Addr) (c0 : Nat) (l0 : List Int) (r : Bool) (w : World) (hr0 : Kd.C (Kd.int .u8) w A0 l0.length l0) (hc0 : l0.length ≤ c0) (h : laws_big.f l0 = some r) :
    Calls Try.prog 30 #[.slice A0 l0.length c0] w fun e w' => e = .returned (.bool r) ∧ Drawn0 w w' := by
  have HR0 := Aside0.mk hr0
  have HC0 := Aside0.mk hc0
  clear hr0 hc0
  have H : (some (decide ((l0.length : Int) > 1048576))) = some r := h
  clear h
  obtain rfl := Option.some.inj H
  go_enter Try.func30, Try.ntmps30
  go_wp2
  go_ret
  exact ⟨by first | rfl | (simp; done) | (simp [*]; done), by repeat (first | exact Drawn0.refl _ | apply Drawn0.step)⟩

end Go.Proofs.Ytdpejnckojhgjaa.P
end
section
namespace Go.Proofs.Ytdpejnckojhgjaa.P
open Go.RowKit Go.Proofs.YtdpejnckojhgjaaW.PrintWords Go.Proofs.YtdpejnckojhgjaaW.PrintLast Go.Proofs.YtdpejnckojhgjaaW.PrintMore
attribute [local go_sem] max2_int min2_int max_two min_two max_three min_three max_four min_four   -- for this text's walks alone
set_option linter.unusedVariables false
set_option linter.unusedSimpArgs false

/-! ### spec_l06Mark: function 107 -/
def spec_l06Mark.f (a0 : Bool) : Option (Int) := if a0 = true then (some 2) else (some 1)
set_option maxHeartbeats 8000000 in
set_option maxRecDepth 100000 in
theorem spec_l06Mark.calls (a0 : Bool) (r : Int) (w : World) (h : spec_l06Mark.f a0 = some r) :
    Calls Try.prog 107 #[.bool a0] w fun e w' => e = .returned (.int .i64 r) ∧ Drawn0 w w' := by
  have H : (if a0 = true then (some 2) else (some 1)) = some r := h
  clear h
  by_cases c2 : a0 = true
  · subst c2
    have H1 : (some 2) = some r := by rw [if_pos rfl] at H; exact H
    clear H
    have H := H1
    clear H1
    obtain rfl := Option.some.inj H
    go_enter Try.func107, Try.ntmps107
    go_wp2
    go_ret
    exact ⟨by first | rfl | (simp; done) | (simp [*]; done), by repeat (first | exact Drawn0.refl _ | apply Drawn0.step)⟩
  · replace c2 := Bool.eq_false_iff.mpr c2
    subst c2
    have H1 : (some 1) = some r := by rw [if_neg (show ¬ (false = true) by decide)] at H; exact H
    clear H
    have H := H1
    clear H1
    obtain rfl := Option.some.inj H
    go_enter Try.func107, Try.ntmps107
    go_wp2
    go_ret
    exact ⟨by first | rfl | (simp; done) | (simp [*]; done), by repeat (first | exact Drawn0.refl _ | apply Drawn0.step)⟩

end Go.Proofs.Ytdpejnckojhgjaa.P
end
section
namespace Go.Proofs.Ytdpejnckojhgjaa.P
open Go.RowKit Go.Proofs.YtdpejnckojhgjaaW.PrintWords Go.Proofs.YtdpejnckojhgjaaW.PrintLast Go.Proofs.YtdpejnckojhgjaaW.PrintMore
attribute [local go_sem] max2_int min2_int max_two min_two max_three min_three max_four min_four   -- for this text's walks alone
set_option linter.unusedVariables false
set_option linter.unusedSimpArgs false

/-! ### spec_ChangeRegions: function 49 -/
mutual
def spec_ChangeRegions.j0 : Nat → List (S70) → Int → Int → Bool → Bool → Option ((List (S70)) × Bool)
  | 0, _, _, _, _, _ => none
  | k + 1, x0, x1, x2, x3, x21 => if x21 = true then (some ((([] : List (S70))), false)) else ((spec_l06Marks.f k x0).bind fun t768 => (spec_ChangeRegions.l0 k x1 x2 x3 t768 x1))
def spec_ChangeRegions.l0 : Nat → Int → Int → Bool → List Int → Int → Option ((List (S70)) × Bool)
  | 0, _, _, _, _, _ => none
  | k + 1, x1, x2, x3, x10, x11 => if x11 < x2 then (if 0 ≤ x11 then (if x11 < (x10.length : Int) then (if (rd x10 x11) = 0 then (some ((([] : List (S70))), false)) else (spec_ChangeRegions.l0 k x1 x2 x3 x10 (wrap64 (x11 + 1)))) else (none)) else (none)) else ((spec_l06Mark.f x3).bind fun t775 => ((spec_l06Set.f k x10 x1 x2 t775).bind fun bt776 => (some (bt776.1, bt776.2.1))))
end
def spec_ChangeRegions.f (k : Nat) (l0 : List (S70)) (a1 : Int) (a2 : Int) (a3 : Bool) : Option ((List (S70)) × Bool) := (spec_RegionsOk.f k l0).bind fun t763 => (if t763 = true then ((spec_l06One.f a1 a2 false).bind fun t764 => (spec_ChangeRegions.j0 k l0 a1 a2 a3 (!t764))) else (spec_ChangeRegions.j0 k l0 a1 a2 a3 true))
theorem spec_ChangeRegions.mono_l : ∀ k, (∀ y0 y1 y2 y3 y4, LeO (spec_ChangeRegions.j0 k y0 y1 y2 y3 y4) (spec_ChangeRegions.j0 (k + 1) y0 y1 y2 y3 y4)) ∧ (∀ y0 y1 y2 y3 y4, LeO (spec_ChangeRegions.l0 k y0 y1 y2 y3 y4) (spec_ChangeRegions.l0 (k + 1) y0 y1 y2 y3 y4))
  | 0 => ⟨fun _ _ _ _ _ r h => by simp [spec_ChangeRegions.j0] at h, fun _ _ _ _ _ r h => by simp [spec_ChangeRegions.l0] at h⟩
  | k + 1 => by
    obtain ⟨ih0, ih1⟩ := spec_ChangeRegions.mono_l k
    refine ⟨?_, ?_⟩
    · intro y0 y1 y2 y3 y4
      unfold spec_ChangeRegions.j0
      repeat' first
      | (with_reducible exact ih0 _ _ _ _ _)
      | (with_reducible exact ih1 _ _ _ _ _)
      | (with_reducible exact spec_RegionsOk.mono _ _)
      | (with_reducible exact spec_l06Marks.mono _ _)
      | (with_reducible exact spec_l06Set.mono _ _ _ _ _)
      | (with_reducible exact LeO.refl _)
      | (with_reducible exact LeO.none _)
      | (with_reducible refine LeO.ite ?_ ?_)
      | (with_reducible refine LeO.bind ?_ (fun _ => ?_))
      | exact ih0 _ _ _ _ _
      | exact ih1 _ _ _ _ _
      | exact spec_RegionsOk.mono _ _
      | exact spec_l06Marks.mono _ _
      | exact spec_l06Set.mono _ _ _ _ _
      | exact LeO.none _
      | refine LeO.ite ?_ ?_
      | refine LeO.bind ?_ (fun _ => ?_)
    · intro y0 y1 y2 y3 y4
      unfold spec_ChangeRegions.l0
      repeat' first
      | (with_reducible exact ih0 _ _ _ _ _)
      | (with_reducible exact ih1 _ _ _ _ _)
      | (with_reducible exact spec_RegionsOk.mono _ _)
      | (with_reducible exact spec_l06Marks.mono _ _)
      | (with_reducible exact spec_l06Set.mono _ _ _ _ _)
      | (with_reducible exact LeO.refl _)
      | (with_reducible exact LeO.none _)
      | (with_reducible refine LeO.ite ?_ ?_)
      | (with_reducible refine LeO.bind ?_ (fun _ => ?_))
      | exact ih0 _ _ _ _ _
      | exact ih1 _ _ _ _ _
      | exact spec_RegionsOk.mono _ _
      | exact spec_l06Marks.mono _ _
      | exact spec_l06Set.mono _ _ _ _ _
      | exact LeO.none _
      | refine LeO.ite ?_ ?_
      | refine LeO.bind ?_ (fun _ => ?_)
theorem spec_ChangeRegions.mono : ∀ a0 a1 a2 a3 k, LeO (spec_ChangeRegions.f k a0 a1 a2 a3) (spec_ChangeRegions.f (k + 1) a0 a1 a2 a3) := by
  intro a0 a1 a2 a3 k
  obtain ⟨ih0, ih1⟩ := spec_ChangeRegions.mono_l k
  unfold spec_ChangeRegions.f
  repeat' first
      | (with_reducible exact ih0 _ _ _ _ _)
      | (with_reducible exact ih1 _ _ _ _ _)
      | (with_reducible exact spec_RegionsOk.mono _ _)
      | (with_reducible exact spec_l06Marks.mono _ _)
      | (with_reducible exact spec_l06Set.mono _ _ _ _ _)
      | (with_reducible exact LeO.refl _)
      | (with_reducible exact LeO.none _)
      | (with_reducible refine LeO.ite ?_ ?_)
      | (with_reducible refine LeO.bind ?_ (fun _ => ?_))
      | exact ih0 _ _ _ _ _
      | exact ih1 _ _ _ _ _
      | exact spec_RegionsOk.mono _ _
      | exact spec_l06Marks.mono _ _
      | exact spec_l06Set.mono _ _ _ _ _
      | exact LeO.none _
      | refine LeO.ite ?_ ?_
      | refine LeO.bind ?_ (fun _ => ?_)
set_option maxHeartbeats 8000000 in
set_option maxRecDepth 100000 in
theorem spec_ChangeRegions.calls (k : Nat) (A0 : Option Addr) (c0 : Nat) (l0 : List (S70)) (a1 : Int) (a2 : Int) (a3 : Bool) (r1 : List (S70)) (r2 : Bool) (w : World) (hr0 : Kd.C k70 w A0 l0.length l0) (hc0 : l0.length ≤ c0) (h : spec_ChangeRegions.f k l0 a1 a2 a3 = some (r1, r2)) :
    Calls Try.prog 49 #[.slice A0 l0.length c0, .int .i64 a1, .int .i64 a2, .bool a3] w fun e w' => ∃ v0_ : Value, e = .returned (.tuple #[v0_, .bool r2]) ∧ Kd.R k70 70 w' w.heap.size (fun _ => True) v0_ r1 ∧ Below w.heap.size w w' := by
  have hu70 := Try.underlying70
  have HR0 := Aside0.mk hr0
  have HC0 := Aside0.mk hc0
  clear hr0 hc0
  have HB := Aside0.mk (Below.refl w.heap.size w)
  have H : ((spec_RegionsOk.f k l0).bind fun t763 => (if t763 = true then ((spec_l06One.f a1 a2 false).bind fun t764 => (spec_ChangeRegions.j0 k l0 a1 a2 a3 (!t764))) else (spec_ChangeRegions.j0 k l0 a1 a2 a3 true))) = some (r1, r2) := h
  clear h
  have HC5 := Aside0.mk H
  clear H
  go_enter Try.func49, Try.ntmps49
  go_upto_region 1 with (fail)
  go_cut [21] (fun v21 wc => ∃ (kq : Nat) (x21_4 : Bool), v21 = .bool x21_4 ∧ Aside0 (spec_ChangeRegions.j0 kq l0 a1 a2 a3 x21_4 = some (r1, r2)) ∧ Aside0 (kq ≤ k) ∧ Aside0 (Below w.heap.size w wc))
  case first =>
    have H := HC5.out
    clear HC5
    replace H := Option.bind_eq_some_iff.mp H
    obtain ⟨t763, A60, H⟩ := H
    replace H : (if t763 = true then ((spec_l06One.f a1 a2 false).bind fun t764 => (spec_ChangeRegions.j0 k l0 a1 a2 a3 (!t764))) else (spec_ChangeRegions.j0 k l0 a1 a2 a3 true)) = some (r1, r2) := H
    have A6 := Aside0.mk A60
    clear A60
    by_cases c7 : t763 = true
    · subst c7
      have H1 : ((spec_l06One.f a1 a2 false).bind fun t764 => (spec_ChangeRegions.j0 k l0 a1 a2 a3 (!t764))) = some (r1, r2) := by rw [if_pos rfl] at H; exact H
      clear H
      have H := H1
      clear H1
      replace H := Option.bind_eq_some_iff.mp H
      obtain ⟨t764, A80, H⟩ := H
      replace H : (spec_ChangeRegions.j0 k l0 a1 a2 a3 (!t764)) = some (r1, r2) := H
      have A8 := Aside0.mk A80
      clear A80
      have H' := Aside0.mk H
      clear H
      go_wp2_with (first | ((with_reducible refine gate_callee (f := 79) rfl ?_); refine goesL_ (some 13) rfl rfl Try.func79 (by kernel_rfl) rfl #[.slice A0 l0.length c0] rfl (by (try simp only [List.map_toArray, List.map_cons, List.map_nil]); first | done | rfl | (simp only [List.length_drop, List.length_take]; rfl)) ?_; (with_reducible refine (spec_RegionsOk.calls k _ _ l0 true _ ?side1 ?side2 A6.out).mono ?_); (case side1 => repeat (first | exact (Kd.C_below HR0.out HB.out) | (with_reducible refine Kd.C_alloc ?_ _) | (with_reducible refine Kd.C_drewN ?_ _) | (with_reducible refine Kd.C_drew ?_))); (case side2 => exact HC0.out); rintro e w9 ⟨rfl, hb⟩; refine ⟨_, rfl, ?_⟩; have n0_ := Aside0.mk (below_step (by repeat (first | (with_reducible first | exact HB.out | apply below_alloc | apply pw_below_drewN | apply below_drew1) | exact HB.out)) hb); clear HB; have HB := n0_; clear n0_; (try clear hb); (try clear hb2); (try clear hk); (try clear hi)) | (go_at_call 80; (with_reducible refine (spec_l06One.calls a1 a2 false t764 _ A8.out).mono ?_); rintro e w10 ⟨rfl, hb⟩; have n0_ := Aside0.mk (below_step (by repeat (first | (with_reducible first | exact HB.out | apply below_alloc | apply pw_below_drewN | apply below_drew1) | exact HB.out)) hb); clear HB; have HB := n0_; clear n0_; (try clear hb); (try clear hb2); (try clear hk); (try clear hi)))
      go_meet
      case rel => exact ⟨_, (!t764), (by first | rfl | (simp; done) | (simp [*]; done)), H', ⟨by first | omega | exact Nat.le_refl _⟩, ⟨by repeat (first | (with_reducible first | exact HB.out | apply below_alloc | apply pw_below_drewN | apply below_drew1) | exact HB.out)⟩⟩
    · replace c7 := Bool.eq_false_iff.mpr c7
      subst c7
      have H1 : (spec_ChangeRegions.j0 k l0 a1 a2 a3 true) = some (r1, r2) := by rw [if_neg (show ¬ (false = true) by decide)] at H; exact H
      clear H
      have H := H1
      clear H1
      have H' := Aside0.mk H
      clear H
      go_wp2_with (first | ((with_reducible refine gate_callee (f := 79) rfl ?_); refine goesL_ (some 13) rfl rfl Try.func79 (by kernel_rfl) rfl #[.slice A0 l0.length c0] rfl (by (try simp only [List.map_toArray, List.map_cons, List.map_nil]); first | done | rfl | (simp only [List.length_drop, List.length_take]; rfl)) ?_; (with_reducible refine (spec_RegionsOk.calls k _ _ l0 false _ ?side1 ?side2 A6.out).mono ?_); (case side1 => repeat (first | exact (Kd.C_below HR0.out HB.out) | (with_reducible refine Kd.C_alloc ?_ _) | (with_reducible refine Kd.C_drewN ?_ _) | (with_reducible refine Kd.C_drew ?_))); (case side2 => exact HC0.out); rintro e w11 ⟨rfl, hb⟩; refine ⟨_, rfl, ?_⟩; have n0_ := Aside0.mk (below_step (by repeat (first | (with_reducible first | exact HB.out | apply below_alloc | apply pw_below_drewN | apply below_drew1) | exact HB.out)) hb); clear HB; have HB := n0_; clear n0_; (try clear hb); (try clear hb2); (try clear hk); (try clear hi)))
      go_meet
      case rel => exact ⟨_, (true), (by first | rfl | (simp; done) | (simp [*]; done)), H', ⟨by first | omega | exact Nat.le_refl _⟩, ⟨by repeat (first | (with_reducible first | exact HB.out | apply below_alloc | apply pw_below_drewN | apply below_drew1) | exact HB.out)⟩⟩
  case rest =>
    clear HC5
    try clear p2
    try clear c4
    try clear c7
    obtain ⟨kq, x21_4, rfl, HA, HJ4, HB⟩ := hcut
    cases kq with
    | zero => exact absurd HA.out (by simp [spec_ChangeRegions.j0])
    | succ kj4 =>
      have H := HA.out
      clear HA
      simp only [spec_ChangeRegions.j0] at H
      by_cases c12 : x21_4 = true
      · subst c12
        have H1 : (some ((([] : List (S70))), false)) = some (r1, r2) := by rw [if_pos rfl] at H; exact H
        clear H
        have H := H1
        clear H1
        obtain ⟨y765, hy765⟩ : ∃ y_ : List (S70), y_ = (([] : List (S70))) := ⟨_, rfl⟩
        replace H : (some (y765, false)) = some (r1, r2) := by first | (rw [hy765]; with_reducible exact H) | (have H2_ := (Option.bind_some _ _).symm.trans H; rw [hy765]; with_reducible exact H2_) | (have H2_ := (Option.bind_some _ _).symm.trans H; with_reducible exact H2_) | with_reducible exact H | (rw [hy765]; exact H) | exact H
        have Ny765 := Aside0.mk hy765
        clear hy765
        simp only [Option.some.injEq, Prod.mk.injEq] at H
        obtain ⟨rfl, rfl⟩ := H
        go_wp2_with (first | ((with_reducible refine gate_dst (N := 22) rfl ?_); refine Kd.R_lit k70 _ 70 ?hg (N := 22) ?hd (xs := ([] : List (S70))) (inner := []) (ok := fun _ => True) (okp := fun _ => True) ?hr ?hp (fun _ hk => hk) trivial (Below.refl _ _) (Nat.le_refl _) (by simp) ?_; (case hd => rfl); (case hg => rfl); (case hr => first | (go_simp; done) | (go_simp; rfl)); (case hp => exact (Reps.none _ _)); intro v766 w13 ho14 hb hg_ hnew_; clear hg_ hnew_; (first | rw [← Ny765.out] at ho14 | (simp only [Int.reduceToNat] at ho14; rw [← Ny765.out] at ho14)); have n0_ := Aside0.mk (Kd.R_lower ho14 (below_size (by repeat (first | (with_reducible first | exact HB.out | apply below_alloc | apply pw_below_drewN | apply below_drew1) | exact HB.out)))); have n1_ := Aside0.mk (below_step (by repeat (first | (with_reducible first | exact HB.out | apply below_alloc | apply pw_below_drewN | apply below_drew1) | exact HB.out)) hb); clear HB; have HO767 := n0_; have HB := n1_; clear n0_ n1_; clear hb ho14))
        go_ret2
        exact ⟨_, by first | rfl | (simp [errW_none, errW_some] <;> rfl) | (simp [*, errW_none, errW_some] <;> rfl), by (with_reducible repeat (first | apply Kd.R_alloc | apply Kd.R_drewN | apply Kd.R_drew)); exact HO767.out, by repeat (first | (with_reducible first | exact HB.out | apply below_alloc | apply pw_below_drewN | apply below_drew1) | exact HB.out)⟩
      · replace c12 := Bool.eq_false_iff.mpr c12
        subst c12
        have H1 : ((spec_l06Marks.f kj4 l0).bind fun t768 => (spec_ChangeRegions.l0 kj4 a1 a2 a3 t768 a1)) = some (r1, r2) := by rw [if_neg (show ¬ (false = true) by decide)] at H; exact H
        clear H
        have H := H1
        clear H1
        replace H := Option.bind_eq_some_iff.mp H
        obtain ⟨t768, A150, H⟩ := H
        replace H : (spec_ChangeRegions.l0 kj4 a1 a2 a3 t768 a1) = some (r1, r2) := H
        have A15 := Aside0.mk A150
        clear A150
        have H' := Aside0.mk H
        clear H
        go_wp2_with (first | ((with_reducible refine gate_callee (f := 82) rfl ?_); refine goesL_ (some 24) rfl rfl Try.func82 (by kernel_rfl) rfl #[.slice A0 l0.length c0] rfl (by (try simp only [List.map_toArray, List.map_cons, List.map_nil]); first | done | rfl | (simp only [List.length_drop, List.length_take]; rfl)) ?_; (with_reducible refine (spec_l06Marks.calls kj4 _ _ l0 t768 _ ?side1 ?side2 A15.out).mono ?_); (case side1 => repeat (first | exact (Kd.C_below HR0.out HB.out) | (with_reducible refine Kd.C_alloc ?_ _) | (with_reducible refine Kd.C_drewN ?_ _) | (with_reducible refine Kd.C_drew ?_))); (case side2 => exact HC0.out); rintro e w16 ⟨v769, rfl, ho0, hb⟩; refine ⟨_, rfl, ?_⟩; have n0_ := Aside0.mk (Kd.R_lower ho0 (below_size (by repeat (first | (with_reducible first | exact HB.out | apply below_alloc | apply pw_below_drewN | apply below_drew1) | exact HB.out)))); have n1_ := Aside0.mk (below_step (by repeat (first | (with_reducible first | exact HB.out | apply below_alloc | apply pw_below_drewN | apply below_drew1) | exact HB.out)) hb); clear HB; have HO770 := n0_; have HB := n1_; clear n0_ n1_; (try clear hb); (try clear hb2); (try clear hk); (try clear hi); (try clear ho0)))
        go_loopg [11] kj4 (fun kq v11 w' => ∃ (x11_2 : Int), v11 = .int .i64 x11_2 ∧ Aside0 (spec_ChangeRegions.l0 kq a1 a2 a3 t768 x11_2 = some (r1, r2)) ∧ Aside0 (kq ≤ kj4) ∧ Aside0 (Kd.R (Kd.int .i64) 3 w' w.heap.size (fun _ => True) v769 t768) ∧ Aside0 (Below w.heap.size w w'))
        case atStart => exact ⟨(a1), (by first | rfl | (simp; done) | (simp [*]; done)), H', ⟨Nat.le_refl _⟩, ⟨by (with_reducible repeat (first | apply Kd.R_alloc | apply Kd.R_drewN | apply Kd.R_drew)); exact HO770.out⟩, ⟨by repeat (first | (with_reducible first | exact HB.out | apply below_alloc | apply pw_below_drewN | apply below_drew1) | exact HB.out)⟩⟩
        case round =>
          clear H'
          try clear c1
          try clear p2
          try clear c4
          try clear c7
          try clear c8
          try clear c12
          try clear p2
          obtain ⟨x11_2, rfl, HA, HK2, HO_10, HB⟩ := hrel
          cases gk with
          | zero => exact absurd HA.out (by simp [spec_ChangeRegions.l0])
          | succ k2 =>
            have H := HA.out
            clear HA
            simp only [spec_ChangeRegions.l0] at H
            by_cases c17 : x11_2 < a2
            · rw [if_pos c17] at H
              have c17b0 : decide (x11_2 < a2) = true := decide_eq_true c17
              clear c17
              by_cases c18 : 0 ≤ x11_2
              · rw [if_pos c18] at H
                have c18b0 : decide (0 ≤ x11_2) = true := decide_eq_true c18
                clear c18
                by_cases c19 : x11_2 < (t768.length : Int)
                · rw [if_pos c19] at H
                  have c19b0 : decide (x11_2 < (t768.length : Int)) = true := decide_eq_true c19
                  clear c19
                  by_cases c20 : (rd t768 x11_2) = 0
                  · rw [if_pos c20] at H
                    have c20b0 : ((rd t768 x11_2) == 0) = true := beq_iff_eq.mpr c20
                    have c20b1 : ((rd t768 x11_2) != 0) = false := bne_eq_false_iff_eq.mpr c20
                    clear c20
                    obtain ⟨y772, hy772⟩ : ∃ y_ : List (S70), y_ = (([] : List (S70))) := ⟨_, rfl⟩
                    replace H : (some (y772, false)) = some (r1, r2) := by first | (rw [hy772]; with_reducible exact H) | (have H2_ := (Option.bind_some _ _).symm.trans H; rw [hy772]; with_reducible exact H2_) | (have H2_ := (Option.bind_some _ _).symm.trans H; with_reducible exact H2_) | with_reducible exact H | (rw [hy772]; exact H) | exact H
                    have Ny772 := Aside0.mk hy772
                    clear hy772
                    simp only [Option.some.injEq, Prod.mk.injEq] at H
                    obtain ⟨rfl, rfl⟩ := H
                    obtain ⟨Ao21, co21, eo21⟩ := Kd.R_slice HO_10.out
                    subst eo21
                    have p771 : 0 ≤ (x11_2 : Int) := of_decide_eq_true (by first | (with_reducible assumption) | assumption)
                    have q771 : x11_2 < (t768.length : Int) := of_decide_eq_true (by first | (with_reducible assumption) | assumption)
                    obtain ⟨ad771, e771, hx771_0⟩ := Kd.at_int (Kd.R_reads' HO_10.out).2.2 x11_2 p771 q771
                    cases e771
                    replace p771 := eq_true p771
                    replace q771 := eq_true q771
                    go_wp2_with (first | ((with_reducible refine gate_dst (N := 36) rfl ?_); refine Kd.R_lit k70 _ 70 ?hg (N := 36) ?hd (xs := ([] : List (S70))) (inner := []) (ok := fun _ => True) (okp := fun _ => True) ?hr ?hp (fun _ hk => hk) trivial (Below.refl _ _) (Nat.le_refl _) (by simp) ?_; (case hd => rfl); (case hg => rfl); (case hr => first | (go_simp; done) | (go_simp; rfl)); (case hp => exact (Reps.none _ _)); intro v773 w22 ho23 hb hg_ hnew_; clear hg_ hnew_; (first | rw [← Ny772.out] at ho23 | (simp only [Int.reduceToNat] at ho23; rw [← Ny772.out] at ho23)); have n0_ := Aside0.mk (Kd.R_below (by (with_reducible repeat (first | apply Kd.R_alloc | apply Kd.R_drewN | apply Kd.R_drew)); exact HO_10.out) hb); have n1_ := Aside0.mk (Kd.R_lower ho23 (below_size (by repeat (first | (with_reducible first | exact HB.out | apply below_alloc | apply pw_below_drewN | apply below_drew1) | exact HB.out)))); have n2_ := Aside0.mk (below_step (by repeat (first | (with_reducible first | exact HB.out | apply below_alloc | apply pw_below_drewN | apply below_drew1) | exact HB.out)) hb); clear HO_10; clear HB; have HO_10 := n0_; have HO774 := n1_; have HB := n2_; clear n0_ n1_ n2_; clear hb ho23))
                    go_ret2
                    exact ⟨_, by first | rfl | (simp [errW_none, errW_some] <;> rfl) | (simp [*, errW_none, errW_some] <;> rfl), by (with_reducible repeat (first | apply Kd.R_alloc | apply Kd.R_drewN | apply Kd.R_drew)); exact HO774.out, by repeat (first | (with_reducible first | exact HB.out | apply below_alloc | apply pw_below_drewN | apply below_drew1) | exact HB.out)⟩
                  · rw [if_neg c20] at H
                    have c20b0 : ((rd t768 x11_2) == 0) = false := beq_eq_false_iff_ne.mpr c20
                    have c20b1 : ((rd t768 x11_2) != 0) = true := bne_iff_ne.mpr c20
                    have H' := Aside0.mk H
                    clear H
                    obtain ⟨Ao24, co24, eo24⟩ := Kd.R_slice HO_10.out
                    subst eo24
                    have p771 : 0 ≤ (x11_2 : Int) := of_decide_eq_true (by first | (with_reducible assumption) | assumption)
                    have q771 : x11_2 < (t768.length : Int) := of_decide_eq_true (by first | (with_reducible assumption) | assumption)
                    obtain ⟨ad771, e771, hx771_0⟩ := Kd.at_int (Kd.R_reads' HO_10.out).2.2 x11_2 p771 q771
                    cases e771
                    replace p771 := eq_true p771
                    replace q771 := eq_true q771
                    go_wp2
                    go_roundg k2
                    case measure => have := HJ4.out; have := HK2.out; omega
                    case rel => exact ⟨(wrap64 (x11_2 + 1)), (by first | rfl | (simp; done) | (simp [*]; done)), H', ⟨by have := HJ4.out; have := HK2.out; omega⟩, ⟨by (with_reducible repeat (first | apply Kd.R_alloc | apply Kd.R_drewN | apply Kd.R_drew)); exact HO_10.out⟩, ⟨by repeat (first | (with_reducible first | exact HB.out | apply below_alloc | apply pw_below_drewN | apply below_drew1) | exact HB.out)⟩⟩
                · rw [if_neg c19] at H
                  exact absurd H (by simp)
              · rw [if_neg c18] at H
                exact absurd H (by simp)
            · rw [if_neg c17] at H
              have c17b0 : decide (x11_2 < a2) = false := decide_eq_false c17
              clear c17
              replace H := Option.bind_eq_some_iff.mp H
              obtain ⟨t775, A250, H⟩ := H
              replace H : ((spec_l06Set.f k2 t768 a1 a2 t775).bind fun bt776 => (some (bt776.1, bt776.2.1))) = some (r1, r2) := H
              have A25 := Aside0.mk A250
              clear A250
              replace H := Option.bind_eq_some_iff.mp H
              obtain ⟨⟨t776, t779, t780⟩, A260, H⟩ := H
              replace H : (some (t776, t779)) = some (r1, r2) := H
              have A26 := Aside0.mk A260
              clear A260
              simp only [Option.some.injEq, Prod.mk.injEq] at H
              obtain ⟨rfl, rfl⟩ := H
              go_wp2_with (first | ((with_reducible refine gate_callee (f := 107) rfl ?_); refine goesL_ (some 41) rfl rfl Try.func107 (by kernel_rfl) rfl #[.bool a3] rfl (by (try simp only [List.map_toArray, List.map_cons, List.map_nil]); first | done | rfl | (simp only [List.length_drop, List.length_take]; rfl)) ?_; (with_reducible refine (spec_l06Mark.calls a3 t775 _ A25.out).mono ?_); rintro e w' ⟨rfl, ⟨nd, rfl⟩⟩; refine ⟨_, rfl, ?_⟩; obtain ⟨Ao27, co27, eo27⟩ := Kd.R_slice HO_10.out; subst eo27) | ((with_reducible refine gate_callee (f := 81) rfl ?_); refine goesL_ (some 42) rfl rfl Try.func81 (by kernel_rfl) rfl #[.slice Ao27 t768.length co27, .int .i64 a1, .int .i64 a2, .int .i64 t775] rfl (by (try simp only [List.map_toArray, List.map_cons, List.map_nil]); first | done | rfl | (simp only [List.length_drop, List.length_take]; rfl)) ?_; (with_reducible refine (spec_l06Set.calls k2 (fun k_ => some k_ = (.slice Ao27 t768.length co27 : Value).ownBlock) (.slice Ao27 t768.length co27) t768 a1 a2 t775 t776 t779 t780 w _ ?side1 ?side2 A26.out).mono ?_); (case side1 => repeat (first | (with_reducible first | exact HB.out | apply below_alloc | apply pw_below_drewN | apply below_drew1) | exact HB.out)); (case side2 => exact Kd.R_tight rfl HO_10.out); rintro e w28 ⟨v777, rfl, ho0, hy0, hb, hkp⟩; refine ⟨_, rfl, ?_⟩; have n0_ := Aside0.mk (Kd.R_reok rfl hy0 (fun k_ e_ => HO_10.out.1 k_ e_)); have n1_ := Aside0.mk (Kd.R_mono (ok' := fun k_ => True) ho0 (fun k_ hk_ => trivial)); have n2_ := Aside0.mk (hb); clear HO_10; clear HB; have HO_10 := n0_; have HO778 := n1_; have HB := n2_; clear n0_ n1_ n2_; (try clear hb); (try clear hkp); (try clear ho0); (try clear hy0)))
              go_ret2
              exact ⟨_, by first | rfl | (simp [errW_none, errW_some] <;> rfl) | (simp [*, errW_none, errW_some] <;> rfl), by (with_reducible repeat (first | apply Kd.R_alloc | apply Kd.R_drewN | apply Kd.R_drew)); exact HO778.out, by repeat (first | (with_reducible first | exact HB.out | apply below_alloc | apply pw_below_drewN | apply below_drew1) | exact HB.out)⟩

end Go.Proofs.Ytdpejnckojhgjaa.P
end
section
namespace Go.Proofs.Ytdpejnckojhgjaa.P
open Go.RowKit Go.Proofs.YtdpejnckojhgjaaW.PrintWords Go.Proofs.YtdpejnckojhgjaaW.PrintLast Go.Proofs.YtdpejnckojhgjaaW.PrintMore
attribute [local go_sem] max2_int min2_int max_two min_two max_three min_three max_four min_four   -- for this text's walks alone
set_option linter.unusedVariables false
set_option linter.unusedSimpArgs false

/-! ### impl_writeOf: function 109 -/
def impl_writeOf.f (a0 : Bool) : Option (Int) := if a0 = true then (some 2) else (some 1)
set_option maxHeartbeats 8000000 in
set_option maxRecDepth 100000 in
theorem impl_writeOf.calls (a0 : Bool) (r : Int) (w : World) (h : impl_writeOf.f a0 = some r) :
    Calls Try.prog 109 #[.bool a0] w fun e w' => e = .returned (.int .i64 r) ∧ Drawn0 w w' := by
  have H : (if a0 = true then (some 2) else (some 1)) = some r := h
  clear h
  by_cases c2 : a0 = true
  · subst c2
    have H1 : (some 2) = some r := by rw [if_pos rfl] at H; exact H
    clear H
    have H := H1
    clear H1
    obtain rfl := Option.some.inj H
    go_enter Try.func109, Try.ntmps109
    go_wp2
    go_ret
    exact ⟨by first | rfl | (simp; done) | (simp [*]; done), by repeat (first | exact Drawn0.refl _ | apply Drawn0.step)⟩
  · replace c2 := Bool.eq_false_iff.mpr c2
    subst c2
    have H1 : (some 1) = some r := by rw [if_neg (show ¬ (false = true) by decide)] at H; exact H
    clear H
    have H := H1
    clear H1
    obtain rfl := Option.some.inj H
    go_enter Try.func109, Try.ntmps109
    go_wp2
    go_ret
    exact ⟨by first | rfl | (simp; done) | (simp [*]; done), by repeat (first | exact Drawn0.refl _ | apply Drawn0.step)⟩

end Go.Proofs.Ytdpejnckojhgjaa.P
end
section
namespace Go.Proofs.Ytdpejnckojhgjaa.P
open Go.RowKit Go.Proofs.YtdpejnckojhgjaaW.PrintWords Go.Proofs.YtdpejnckojhgjaaW.PrintLast Go.Proofs.YtdpejnckojhgjaaW.PrintMore
attribute [local go_sem] max2_int min2_int max_two min_two max_three min_three max_four min_four   -- for this text's walks alone
set_option linter.unusedVariables false
set_option linter.unusedSimpArgs false

/-! ### impl_ChangeRegions: function 50 -/
def impl_ChangeRegions.l0 : Nat → List S70 → List Int → Int → Int → Int → Int → Option (List S70 × Bool)
  | 0, _, _, _, _, _, _ => none
  | k + 1, l0, xs, a1, a2, a3, x11 => if x11 < a2 then (if 0 ≤ x11 then (if x11 < 64 then (if xs.getD x11.toNat 0 = 0 then (some ([], false)) else (impl_ChangeRegions.l0 k l0 xs a1 a2 a3 (wrap64 (x11 + 1)))) else none) else none) else (impl_painted.f k l0 a1 a2 a3)
theorem impl_ChangeRegions.mono_l : ∀ k y0 y1 y2 y3 y4 y5, LeO (impl_ChangeRegions.l0 k y0 y1 y2 y3 y4 y5) (impl_ChangeRegions.l0 (k + 1) y0 y1 y2 y3 y4 y5)
  | 0 => fun _ _ _ _ _ _ r h => by simp [impl_ChangeRegions.l0] at h
  | k + 1 => by
    intro y0 y1 y2 y3 y4 y5
    have ih := impl_ChangeRegions.mono_l k
    rw [impl_ChangeRegions.l0, impl_ChangeRegions.l0]
    exact LeO.ite (LeO.ite (LeO.ite (LeO.ite (LeO.refl _) (ih _ _ _ _ _ _)) (LeO.refl _)) (LeO.refl _)) (impl_painted.mono _ _ _ _ _)
def impl_ChangeRegions.f (k : Nat) (l0 : List S70) (a1 a2 : Int) (a3 : Bool) : Option (List S70 × Bool) := (impl_RegionsOk.f k l0).bind fun t1 => (if t1 = true then ((impl_isSpan.f a1 a2).bind fun t2 => (if t2 = true then ((impl_pagesOf.f k l0).bind fun xs => ((impl_writeOf.f a3).bind fun t4 => (impl_ChangeRegions.l0 k l0 xs a1 a2 t4 a1))) else (some ([], false)))) else (some ([], false)))
theorem impl_ChangeRegions.mono : ∀ a0 a1 a2 a3 k, LeO (impl_ChangeRegions.f k a0 a1 a2 a3) (impl_ChangeRegions.f (k + 1) a0 a1 a2 a3) := by
  intro a0 a1 a2 a3 k
  unfold impl_ChangeRegions.f
  repeat' first
      | (with_reducible exact impl_RegionsOk.mono _ _)
      | (with_reducible exact impl_pagesOf.mono _ _)
      | (with_reducible exact impl_ChangeRegions.mono_l _ _ _ _ _ _ _)
      | (with_reducible exact LeO.refl _)
      | (with_reducible exact LeO.none _)
      | (with_reducible refine LeO.ite ?_ ?_)
      | (with_reducible refine LeO.bind ?_ (fun _ => ?_))
set_option maxHeartbeats 8000000 in
set_option maxRecDepth 100000 in
theorem impl_ChangeRegions.calls (k : Nat) (A0 : Option Addr) (c0 : Nat) (l0 : List S70) (a1 : Int) (a2 : Int) (a3 : Bool) (r1 : List S70) (r2 : Bool) (w : World) (hr0 : Kd.C k70 w A0 l0.length l0) (hc0 : l0.length ≤ c0) (h : impl_ChangeRegions.f k l0 a1 a2 a3 = some (r1, r2)) :
    Calls Try.prog 50 #[.slice A0 l0.length c0, .int .i64 a1, .int .i64 a2, .bool a3] w fun e w' => ∃ v0_ : Value, e = .returned (.tuple #[v0_, .bool r2]) ∧ Kd.R k70 70 w' w.heap.size (fun _ => True) v0_ r1 ∧ Below w.heap.size w w' := by
  have HR0 := Aside0.mk hr0
  have HC0 := Aside0.mk hc0
  clear hr0 hc0
  have HB := Aside0.mk (Below.refl w.heap.size w)
  have H := h
  clear h
  unfold impl_ChangeRegions.f at H
  obtain ⟨t1, A1, H⟩ := Option.bind_eq_some_iff.mp H
  have A1 := Aside0.mk A1
  cases t1 with
  | false =>
    simp only [Bool.false_eq_true, if_false, Option.some.injEq, Prod.mk.injEq] at H
    obtain ⟨rfl, rfl⟩ := H
    go_enter Try.func50, Try.ntmps50
    go_wp2_with (first | ((with_reducible refine gate_callee (f := 64) rfl ?_); refine goesL_ (some 13) rfl rfl Try.func64 (by kernel_rfl) rfl #[.slice A0 l0.length c0] rfl (by (try simp only [List.map_toArray, List.map_cons, List.map_nil]); first | done | rfl) ?_; (with_reducible refine (impl_RegionsOk.calls k _ _ l0 false _ ?side1 ?side2 A1.out).mono ?_); (case side1 => exact Kd.C_below HR0.out HB.out); (case side2 => exact HC0.out); rintro e w1 ⟨rfl, hb⟩; refine ⟨_, rfl, ?_⟩; have n0_ := Aside0.mk (below_step HB.out hb); clear HB; have HB := n0_; clear n0_ hb))
    go_ret2
    exact ⟨_, rfl, Kd.R_nil _ _ _ _ _, HB.out⟩
  | true =>
    simp only [if_true] at H
    obtain ⟨t2, A2, H⟩ := Option.bind_eq_some_iff.mp H
    have A2 := Aside0.mk A2
    cases t2 with
    | false =>
      simp only [Bool.false_eq_true, if_false, Option.some.injEq, Prod.mk.injEq] at H
      obtain ⟨rfl, rfl⟩ := H
      go_enter Try.func50, Try.ntmps50
      go_wp2_with (first | ((with_reducible refine gate_callee (f := 64) rfl ?_); refine goesL_ (some 13) rfl rfl Try.func64 (by kernel_rfl) rfl #[.slice A0 l0.length c0] rfl (by (try simp only [List.map_toArray, List.map_cons, List.map_nil]); first | done | rfl) ?_; (with_reducible refine (impl_RegionsOk.calls k _ _ l0 true _ ?side1 ?side2 A1.out).mono ?_); (case side1 => exact Kd.C_below HR0.out HB.out); (case side2 => exact HC0.out); rintro e w1 ⟨rfl, hb⟩; refine ⟨_, rfl, ?_⟩; have n0_ := Aside0.mk (below_step HB.out hb); clear HB; have HB := n0_; clear n0_ hb) | (go_at_call 83; (with_reducible refine (impl_isSpan.calls a1 a2 false _ A2.out).mono ?_); rintro e w2 ⟨rfl, hd_⟩; have hb := Drawn0.below hd_; have n0_ := Aside0.mk (below_step HB.out hb); clear HB; have HB := n0_; clear n0_ hb hd_))
      go_ret2
      exact ⟨_, rfl, Kd.R_nil _ _ _ _ _, HB.out⟩
    | true =>
      simp only [if_true] at H
      obtain ⟨xs, A3, H⟩ := Option.bind_eq_some_iff.mp H
      have A3 := Aside0.mk A3
      obtain ⟨t4, A4, H⟩ := Option.bind_eq_some_iff.mp H
      have A4 := Aside0.mk A4
      have H' := Aside0.mk H
      clear H
      go_enter Try.func50, Try.ntmps50
      go_wp2_with (first | ((with_reducible refine gate_callee (f := 64) rfl ?_); refine goesL_ (some 13) rfl rfl Try.func64 (by kernel_rfl) rfl #[.slice A0 l0.length c0] rfl (by (try simp only [List.map_toArray, List.map_cons, List.map_nil]); first | done | rfl) ?_; (with_reducible refine (impl_RegionsOk.calls k _ _ l0 true _ ?side1 ?side2 A1.out).mono ?_); (case side1 => exact Kd.C_below HR0.out HB.out); (case side2 => exact HC0.out); rintro e w1 ⟨rfl, hb⟩; refine ⟨_, rfl, ?_⟩; have n0_ := Aside0.mk (below_step HB.out hb); clear HB; have HB := n0_; clear n0_ hb) | (go_at_call 83; (with_reducible refine (impl_isSpan.calls a1 a2 true _ A2.out).mono ?_); rintro e w2 ⟨rfl, hd_⟩; have hb := Drawn0.below hd_; have n0_ := Aside0.mk (below_step HB.out hb); clear HB; have HB := n0_; clear n0_ hb hd_) | ((with_reducible refine gate_callee (f := 108) rfl ?_); refine goesL_ (some 22) rfl rfl Try.func108 (by kernel_rfl) rfl #[.slice A0 l0.length c0] rfl (by (try simp only [List.map_toArray, List.map_cons, List.map_nil]); first | done | rfl) ?_; (with_reducible refine (impl_pagesOf.calls k _ _ l0 xs _ ?side1 ?side2 A3.out).mono ?_); (case side1 => exact Kd.C_below HR0.out HB.out); (case side2 => exact HC0.out); rintro e w3 ⟨rfl, hlen, hb⟩; refine ⟨_, rfl, ?_⟩; have HL := Aside0.mk hlen; have n0_ := Aside0.mk (below_step HB.out hb); clear HB; have HB := n0_; clear n0_ hb hlen) | ((with_reducible refine gate_dst (N := 10) rfl ?_); refine AR.alloc_event rfl rfl AR.z64 ?_; intro g hg w4 hA hb; have AZ := Aside0.mk hA; have hs_ := HB.out.size; have G := Aside0.mk (show w.heap.size ≤ g by omega); have n0_ := Aside0.mk (below_step HB.out hb); clear HB hs_; have HB := n0_; clear n0_ hb hA hg) | (refine AR.store_event (g := g) (xs := xs) (ys := List.replicate 64 0) rfl rfl rfl rfl rfl AR.n64 HL.out List.length_replicate AZ.out ?_; intro w5 hA hg; have AX := Aside0.mk hA; have n0_ := Aside0.mk (HB.out.grown hg HB.out.size (fun k_ e_ => by injection e_ with e_; subst e_; exact G.out)); clear HB AZ; have HB := n0_; clear n0_ hA hg))
      go_loopg [11] k (fun kq vp w' => ∃ (xp_1 : Int), vp = .int .i64 xp_1 ∧ Aside0 (impl_ChangeRegions.l0 kq l0 xs a1 a2 t4 xp_1 = some (r1, r2)) ∧ Aside0 (kq ≤ k) ∧ Aside0 (AR.At 128 w' g xs) ∧ Aside0 (Below w.heap.size w w'))
      case atStart => exact ⟨a1, rfl, H', ⟨Nat.le_refl _⟩, AX, HB⟩
      case round =>
        clear H' HB AX
        obtain ⟨xp_1, rfl, HA, HK1, AX, HB⟩ := hrel
        cases gk with
        | zero => exact absurd HA.out (by simp [impl_ChangeRegions.l0])
        | succ k1 =>
          have H := HA.out
          clear HA
          rw [impl_ChangeRegions.l0] at H
          by_cases c1 : xp_1 < a2
          · rw [if_pos c1] at H
            by_cases c2 : 0 ≤ xp_1
            · rw [if_pos c2] at H
              by_cases c3 : xp_1 < 64
              · rw [if_pos c3] at H
                have c1b := decide_eq_true c1
                have c1c := eq_true c1
                have c2c := eq_true c2
                have c3c := eq_true c3
                have hx := AX.out.cell xp_1.toNat (by rw [HL.out]; omega)
                obtain ⟨p_, hq⟩ : ∃ p_, xs.getD xp_1.toNat 0 = p_ := ⟨_, rfl⟩
                rw [hq] at H hx
                clear hq c1 c2 c3
                by_cases c4 : p_ = 0
                · rw [if_pos c4] at H
                  have c4b : (p_ == 0) = true := beq_iff_eq.mpr c4
                  have c4c : (p_ != 0) = false := bne_eq_false_iff_eq.mpr c4
                  clear c4
                  simp only [Option.some.injEq, Prod.mk.injEq] at H
                  obtain ⟨rfl, rfl⟩ := H
                  go_wp2
                  go_ret2
                  exact ⟨_, rfl, Kd.R_nil _ _ _ _ _, HB.out⟩
                · rw [if_neg c4] at H
                  have c4b : (p_ == 0) = false := beq_eq_false_iff_ne.mpr c4
                  have c4c : (p_ != 0) = true := bne_iff_ne.mpr c4
                  have H' := Aside0.mk H
                  clear c4 H
                  go_wp2
                  go_roundg k1
                  case measure => have := HK1.out; omega
                  case rel => exact ⟨_, rfl, H', ⟨by have := HK1.out; omega⟩, AX, HB⟩
              · rw [if_neg c3] at H; exact absurd H (by simp)
            · rw [if_neg c2] at H; exact absurd H (by simp)
          · rw [if_neg c1] at H
            have H' := Aside0.mk H
            have c1b := decide_eq_false c1
            clear H c1
            go_wp2_with (first | ((with_reducible refine gate_callee (f := 109) rfl ?_); refine goesL_ (some 37) rfl rfl Try.func109 (by kernel_rfl) rfl #[.bool a3] rfl (by (try simp only [List.map_toArray, List.map_cons, List.map_nil]); first | done | rfl) ?_; (with_reducible refine (impl_writeOf.calls a3 t4 _ A4.out).mono ?_); rintro e w7 ⟨rfl, hd_⟩; refine ⟨_, rfl, ?_⟩; have hb := Drawn0.below hd_; have n0_ := Aside0.mk (below_step HB.out hb); clear HB; have HB := n0_; clear n0_ hb hd_) | ((with_reducible refine gate_callee (f := 84) rfl ?_); refine goesL_ (some 38) rfl rfl Try.func84 (by kernel_rfl) rfl #[.slice A0 l0.length c0, .int .i64 a1, .int .i64 a2, .int .i64 t4] rfl (by (try simp only [List.map_toArray, List.map_cons, List.map_nil]); first | done | rfl) ?_; (with_reducible refine (impl_painted.calls k1 _ _ l0 a1 a2 t4 r1 r2 _ ?side1 ?side2 H'.out).mono ?_); (case side1 => exact Kd.C_below HR0.out HB.out); (case side2 => exact HC0.out); rintro e w9 ⟨v9, rfl, ho, hb⟩; refine ⟨_, rfl, ?_⟩; have n1_ := Aside0.mk (Kd.R_lower ho HB.out.size); have n0_ := Aside0.mk (below_step HB.out hb); clear HB; have HB := n0_; have HO := n1_; clear n0_ n1_ hb ho))
            go_ret2
            exact ⟨_, rfl, HO.out, HB.out⟩

end Go.Proofs.Ytdpejnckojhgjaa.P
end
