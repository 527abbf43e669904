/- What the proof of FnExactAllowedSaid rests on, part 3: plain lemmas and contracts of the functions that the law reaches (in part written by a printing program over the translation). No condition. -/
import Derived.Test.YtpkhoanaifpopaaBFnExactAllowedb
import Derived.RowKit
import Derived.Laws.BitsLemmas
section
namespace Go.Proofs.Ytpkhoanaifpopaa.P
open Go.RowKit Go.Proofs.YtpkhoanaifpopaaW.PrintWords Go.Proofs.YtpkhoanaifpopaaW.PrintLast Go.Proofs.YtpkhoanaifpopaaW.PrintMore
attribute [local go_sem] max2_int min2_int max_two min_two max_three min_three max_four min_four   -- for this text's walks alone
set_option linter.unusedVariables false
set_option linter.unusedSimpArgs false

/-! ### spec_l06Marks: function 76 -/
mutual
def spec_l06Marks.l0 : Nat → List (S97) → List Int → Int → Option (List Int)
  | 0, _, _, _ => none
  | k + 1, x0, x3, x4 => if x4 < (x0.length : Int) then (if 0 ≤ x4 then (spec_l06Marks.l1 k x0 x3 x4 ((rd_T97 x0 x4).f0)) else (none)) else (some x3)
def spec_l06Marks.l1 : Nat → List (S97) → List Int → Int → Int → Option (List Int)
  | 0, _, _, _, _ => none
  | k + 1, x0, x3, x4, x5 => if 0 ≤ x4 then (if x4 < (x0.length : Int) then (if x5 < ((rd_T97 x0 x4).f1) then (if 0 ≤ x5 then (if x5 < (x3.length : Int) then ((some (x3.set (x5 : Int).toNat 1 : List Int)).bind fun y176 => (if (rd_T97 x0 x4).f2 = true then (spec_l06Marks.l1 k x0 (y176.set (x5 : Int).toNat 2) x4 (wrap64 (x5 + 1))) else (spec_l06Marks.l1 k x0 y176 x4 (wrap64 (x5 + 1))))) else (none)) else (none)) else (spec_l06Marks.l0 k x0 x3 (wrap64 (x4 + 1)))) else (none)) else (none)
end
def spec_l06Marks.f (k : Nat) (l0 : List (S97)) : Option (List Int) := if 64 ≤ 35184372088832 then (spec_l06Marks.l0 k l0 (List.replicate 64 0) 0) else (none)
theorem spec_l06Marks.mono_l : ∀ k, (∀ y0 y1 y2, LeO (spec_l06Marks.l0 k y0 y1 y2) (spec_l06Marks.l0 (k + 1) y0 y1 y2)) ∧ (∀ y0 y1 y2 y3, LeO (spec_l06Marks.l1 k y0 y1 y2 y3) (spec_l06Marks.l1 (k + 1) y0 y1 y2 y3))
  | 0 => ⟨fun _ _ _ r h => by simp [spec_l06Marks.l0] at h, fun _ _ _ _ r h => by simp [spec_l06Marks.l1] at h⟩
  | k + 1 => by
    obtain ⟨ih0, ih1⟩ := spec_l06Marks.mono_l k
    refine ⟨?_, ?_⟩
    · intro y0 y1 y2
      unfold spec_l06Marks.l0
      repeat' first
      | (with_reducible exact ih0 _ _ _)
      | (with_reducible exact ih1 _ _ _ _)
      | (with_reducible exact LeO.refl _)
      | (with_reducible exact LeO.none _)
      | (with_reducible refine LeO.ite ?_ ?_)
      | (with_reducible refine LeO.bind ?_ (fun _ => ?_))
      | exact ih0 _ _ _
      | exact ih1 _ _ _ _
      | exact LeO.none _
      | refine LeO.ite ?_ ?_
      | refine LeO.bind ?_ (fun _ => ?_)
    · intro y0 y1 y2 y3
      unfold spec_l06Marks.l1
      repeat' first
      | (with_reducible exact ih0 _ _ _)
      | (with_reducible exact ih1 _ _ _ _)
      | (with_reducible exact LeO.refl _)
      | (with_reducible exact LeO.none _)
      | (with_reducible refine LeO.ite ?_ ?_)
      | (with_reducible refine LeO.bind ?_ (fun _ => ?_))
      | exact ih0 _ _ _
      | exact ih1 _ _ _ _
      | exact LeO.none _
      | refine LeO.ite ?_ ?_
      | refine LeO.bind ?_ (fun _ => ?_)
theorem spec_l06Marks.mono : ∀ a0 k, LeO (spec_l06Marks.f k a0) (spec_l06Marks.f (k + 1) a0) := by
  intro a0 k
  obtain ⟨ih0, ih1⟩ := spec_l06Marks.mono_l k
  unfold spec_l06Marks.f
  repeat' first
      | (with_reducible exact ih0 _ _ _)
      | (with_reducible exact ih1 _ _ _ _)
      | (with_reducible exact LeO.refl _)
      | (with_reducible exact LeO.none _)
      | (with_reducible refine LeO.ite ?_ ?_)
      | (with_reducible refine LeO.bind ?_ (fun _ => ?_))
      | exact ih0 _ _ _
      | exact ih1 _ _ _ _
      | exact LeO.none _
      | refine LeO.ite ?_ ?_
      | refine LeO.bind ?_ (fun _ => ?_)
set_option maxHeartbeats 8000000 in
set_option maxRecDepth 100000 in
theorem spec_l06Marks.calls (k : Nat) (A0 : Option Addr) (c0 : Nat) (l0 : List (S97)) (r : List Int) (w : World) (hr0 : Kd.C k97 w A0 l0.length l0) (hc0 : l0.length ≤ c0) (h : spec_l06Marks.f k l0 = some r) :
    Calls Try.prog 76 #[.slice A0 l0.length c0] w fun e w' => ∃ v0_ : Value, e = .returned (v0_) ∧ Kd.R (Kd.int .i64) 3 w' w.heap.size (fun _ => True) v0_ r ∧ Below w.heap.size w w' := by
  have HR0 := Aside0.mk hr0
  have HC0 := Aside0.mk hc0
  clear hr0 hc0
  have HB := Aside0.mk (Below.refl w.heap.size w)
  have H : (if 64 ≤ 35184372088832 then (spec_l06Marks.l0 k l0 (List.replicate 64 0) 0) else (none)) = some r := h
  clear h
  by_cases c2 : 64 ≤ 35184372088832
  · rw [if_pos c2] at H
    have c2b0 := eq_true c2
    have c2b1 : decide (64 ≤ 35184372088832) = true := decide_eq_true c2
    clear c2
    obtain ⟨y171, hy171⟩ : ∃ y_ : List Int, y_ = (List.replicate 64 0) := ⟨_, rfl⟩
    replace H : (spec_l06Marks.l0 k l0 y171 0) = some r := by first | (rw [hy171]; with_reducible exact H) | (have H2_ := (Option.bind_some _ _).symm.trans H; rw [hy171]; with_reducible exact H2_) | (have H2_ := (Option.bind_some _ _).symm.trans H; with_reducible exact H2_) | with_reducible exact H | (rw [hy171]; exact H) | exact H
    have Ny171 := Aside0.mk hy171
    clear hy171
    have H' := Aside0.mk H
    clear H
    go_enter Try.func76, Try.ntmps76
    go_wp2_with (first | ((with_reducible refine gate_dst (N := 6) rfl ?_); refine Kd.R_make (Kd.int .i64) _ 3 rfl (N := 6) rfl 48 _ _ rfl 64 rfl rfl Try.underlying48 (.int .i64 0) 8 info3 rfl (by decide) (by omega) 0 (ok := fun _ => True) (okp := fun _ => True) rfl (fun _ hk => hk) trivial (by omega) (by omega) (Below.refl _ _) (Nat.le_refl _) ?_; intro v172 w3 ho4 hb hg_ hnew_; clear hg_ hnew_; (first | rw [← Ny171.out] at ho4 | (simp only [Int.reduceToNat] at ho4; rw [← Ny171.out] at ho4)); have n0_ := Aside0.mk (Kd.R_lower ho4 (below_size (by repeat (first | (with_reducible first | exact HB.out | apply below_alloc | apply pw_below_drewN | apply below_drew1) | exact HB.out)))); have n1_ := Aside0.mk (below_step (by repeat (first | (with_reducible first | exact HB.out | apply below_alloc | apply pw_below_drewN | apply below_drew1) | exact HB.out)) hb); clear HB; have HO173 := n0_; have HB := n1_; clear n0_ n1_; clear hb ho4))
    go_loopg [4] k (fun kq v4 w' => ∃ (x3_1 : List Int) (x4_1 : Int), v4 = .int .i64 x4_1 ∧ Aside0 (spec_l06Marks.l0 kq l0 x3_1 x4_1 = some r) ∧ Aside0 (kq ≤ k) ∧ Aside0 (Kd.R (Kd.int .i64) 3 w' w.heap.size (fun _ => True) v172 x3_1) ∧ Aside0 (Below w.heap.size w w'))
    case atStart => exact ⟨(y171), (0), (by first | rfl | (simp; done) | (simp [*]; done)), H', ⟨Nat.le_refl _⟩, ⟨by (with_reducible repeat (first | apply Kd.R_alloc | apply Kd.R_drewN | apply Kd.R_drew)); exact HO173.out⟩, ⟨by repeat (first | (with_reducible first | exact HB.out | apply below_alloc | apply pw_below_drewN | apply below_drew1) | exact HB.out)⟩⟩
    case round =>
      clear H'
      try clear c2
      try clear c2b0
      try clear c2b1
      try clear p2
      obtain ⟨x3_1, x4_1, rfl, HA, HK1, HO_3, HB⟩ := hrel
      cases gk with
      | zero => exact absurd HA.out (by simp [spec_l06Marks.l0])
      | succ k1 =>
        have H := HA.out
        clear HA
        simp only [spec_l06Marks.l0] at H
        by_cases c5 : x4_1 < (l0.length : Int)
        · rw [if_pos c5] at H
          have c5b0 : decide (x4_1 < (l0.length : Int)) = true := decide_eq_true c5
          clear c5
          by_cases c6 : 0 ≤ x4_1
          · rw [if_pos c6] at H
            have c6b0 : decide (0 ≤ x4_1) = true := decide_eq_true c6
            clear c6
            have H' := Aside0.mk H
            clear H
            have p174 : 0 ≤ (x4_1 : Int) := of_decide_eq_true (by first | (with_reducible assumption) | assumption)
            have q174 : x4_1 < (l0.length : Int) := of_decide_eq_true (by first | (with_reducible assumption) | assumption)
            obtain ⟨ad174, e174, hx174_0, hx174_1, hx174_2⟩ := at_T97 HR0.out x4_1 p174 q174
            cases e174
            replace hx174_0 := (HB.out.cell (World.block_lt_of_cell? w _ hx174_0)).trans hx174_0
            replace hx174_1 := (HB.out.cell (World.block_lt_of_cell? w _ hx174_1)).trans hx174_1
            replace hx174_2 := (HB.out.cell (World.block_lt_of_cell? w _ hx174_2)).trans hx174_2
            replace p174 := eq_true p174
            replace q174 := eq_true q174
            go_wp2
            go_loopg [5] k1 (fun kq v5 w' => ∃ (x3_2 : List Int) (x5_2 : Int), v5 = .int .i64 x5_2 ∧ Aside0 (spec_l06Marks.l1 kq l0 x3_2 x4_1 x5_2 = some r) ∧ Aside0 (kq ≤ k1) ∧ Aside0 (Kd.R (Kd.int .i64) 3 w' w.heap.size (fun _ => True) v172 x3_2) ∧ Aside0 (Below w.heap.size w w'))
            case atStart => exact ⟨(x3_1), ((rd_T97 l0 x4_1).f0), (by first | rfl | (simp; done) | (simp [*]; done)), H', ⟨Nat.le_refl _⟩, ⟨by (with_reducible repeat (first | apply Kd.R_alloc | apply Kd.R_drewN | apply Kd.R_drew)); exact HO_3.out⟩, ⟨by repeat (first | (with_reducible first | exact HB.out | apply below_alloc | apply pw_below_drewN | apply below_drew1) | exact HB.out)⟩⟩
            case round =>
              clear H'
              try clear p1
              try clear q1
              try clear hx1
              try clear c2
              try clear c2b0
              try clear c2b1
              try clear p2
              try clear c5
              try clear c5b0
              try clear c6
              try clear c6b0
              try clear hx174_0
              try clear hx174_1
              try clear hx174_2
              try clear p174
              try clear p2
              try clear q174
              obtain ⟨x3_2, x5_2, rfl, HA, HK2, HO_3, HB⟩ := hrel
              cases gk with
              | zero => exact absurd HA.out (by simp [spec_l06Marks.l1])
              | succ k2 =>
                have H := HA.out
                clear HA
                simp only [spec_l06Marks.l1] at H
                by_cases c7 : 0 ≤ x4_1
                · rw [if_pos c7] at H
                  have c7b0 : decide (0 ≤ x4_1) = true := decide_eq_true c7
                  clear c7
                  by_cases c8 : x4_1 < (l0.length : Int)
                  · rw [if_pos c8] at H
                    have c8b0 : decide (x4_1 < (l0.length : Int)) = true := decide_eq_true c8
                    clear c8
                    by_cases c9 : x5_2 < ((rd_T97 l0 x4_1).f1)
                    · rw [if_pos c9] at H
                      have c9b0 : decide (x5_2 < ((rd_T97 l0 x4_1).f1)) = true := decide_eq_true c9
                      clear c9
                      by_cases c10 : 0 ≤ x5_2
                      · rw [if_pos c10] at H
                        have c10b0 : decide (0 ≤ x5_2) = true := decide_eq_true c10
                        clear c10
                        by_cases c11 : x5_2 < (x3_2.length : Int)
                        · rw [if_pos c11] at H
                          have c11b0 : decide (x5_2 < (x3_2.length : Int)) = true := decide_eq_true c11
                          clear c11
                          obtain ⟨y176, hy176⟩ : ∃ y_ : List Int, y_ = (x3_2.set (x5_2 : Int).toNat 1) := ⟨_, rfl⟩
                          replace H : (if (rd_T97 l0 x4_1).f2 = true then (spec_l06Marks.l1 k2 l0 (y176.set (x5_2 : Int).toNat 2) x4_1 (wrap64 (x5_2 + 1))) else (spec_l06Marks.l1 k2 l0 y176 x4_1 (wrap64 (x5_2 + 1)))) = some r := by first | (rw [hy176]; with_reducible exact H) | (have H2_ := (Option.bind_some _ _).symm.trans H; rw [hy176]; with_reducible exact H2_) | (have H2_ := (Option.bind_some _ _).symm.trans H; with_reducible exact H2_) | with_reducible exact H | (rw [hy176]; exact H) | exact H
                          have Ny176 := Aside0.mk hy176
                          clear hy176
                          obtain ⟨bq13, hbq13⟩ : ∃ b_ : Bool, b_ = ((rd_T97 l0 x4_1).f2) := ⟨_, rfl⟩
                          replace H : (if bq13 = true then (spec_l06Marks.l1 k2 l0 (y176.set (x5_2 : Int).toNat 2) x4_1 (wrap64 (x5_2 + 1))) else (spec_l06Marks.l1 k2 l0 y176 x4_1 (wrap64 (x5_2 + 1)))) = some r := by rw [← hbq13] at H; exact H
                          have Nbq13 := Aside0.mk hbq13
                          clear hbq13
                          by_cases c14 : bq13 = true
                          · subst c14
                            have H1 : (spec_l06Marks.l1 k2 l0 (y176.set (x5_2 : Int).toNat 2) x4_1 (wrap64 (x5_2 + 1))) = some r := by rw [if_pos rfl] at H; exact H
                            clear H
                            have H := H1
                            clear H1
                            obtain ⟨y178, hy178⟩ : ∃ y_ : List Int, y_ = (y176.set (x5_2 : Int).toNat 2) := ⟨_, rfl⟩
                            replace H : (spec_l06Marks.l1 k2 l0 y178 x4_1 (wrap64 (x5_2 + 1))) = some r := by first | (rw [hy178]; with_reducible exact H) | (have H2_ := (Option.bind_some _ _).symm.trans H; rw [hy178]; with_reducible exact H2_) | (have H2_ := (Option.bind_some _ _).symm.trans H; with_reducible exact H2_) | with_reducible exact H | (rw [hy178]; exact H) | exact H
                            have Ny178 := Aside0.mk hy178
                            clear hy178
                            have H' := Aside0.mk H
                            clear H
                            have p175 : 0 ≤ (x4_1 : Int) := of_decide_eq_true (by first | (with_reducible assumption) | assumption)
                            have q175 : x4_1 < (l0.length : Int) := of_decide_eq_true (by first | (with_reducible assumption) | assumption)
                            obtain ⟨ad175, e175, hx175_0, hx175_1, hx175_2⟩ := at_T97 HR0.out x4_1 p175 q175
                            (try rw [← Nbq13.out] at hx175_2)
                            obtain rfl : ad174 = ad175 := (by injection e175)
                            replace hx175_0 := (HB.out.cell (World.block_lt_of_cell? w _ hx175_0)).trans hx175_0
                            replace hx175_1 := (HB.out.cell (World.block_lt_of_cell? w _ hx175_1)).trans hx175_1
                            replace hx175_2 := (HB.out.cell (World.block_lt_of_cell? w _ hx175_2)).trans hx175_2
                            replace p175 := eq_true p175
                            replace q175 := eq_true q175
                            have p12 : 0 ≤ (x5_2 : Int) := of_decide_eq_true (by first | (with_reducible assumption) | assumption)
                            have q12 : (x5_2 : Int) < ((x3_2.length : Int) : Int) := of_decide_eq_true (by first | (with_reducible assumption) | assumption)
                            obtain ⟨go12, co12, eo12, gb12, gl12, cl12, HG12⟩ := Kd.R_form HO_3.out (by omega)
                            (first | cases eo12 | (injection eo12 with ea_ en_ ec_; (first | subst ea_ | (injection ea_ with ea_; subst ea_)); subst ec_; clear en_))
                            have GB12 := Aside0.mk gb12
                            have GG12 := Aside0.mk HG12
                            clear gb12 gl12 HG12
                            obtain ⟨hx12_0, hf12_0⟩ := Kd.R_celln 0 HO_3.out (x5_2 : Int) p12 q12
                            replace p12 := eq_true p12
                            replace q12 := eq_true q12
                            have HP16 := Kd.R_putg HO_3.out (x5_2 : Int) 1
                            go_wp2_with (first | ((with_reducible refine gate_store (t := 3) (p := 29) rfl ?_); refine store_event (t := 3) (p := 29) (v := ?vo_w17) (w1 := (wr.setCell ⟨go12, (x5_2 : Int).toNat, none⟩ (.int .i64 1))) ?hg ?ho ?hn ?hr ?_; (case ho => rfl); (case hg => rfl); (case hn => rfl); (case hr => first | (go_simp; done) | (go_simp; rfl)); intro w17 hw; have hg : wr.grownBy w17 (some go12) := (by rw [hw]; exact HP16.2); have hp_ : Kd.R (Kd.int .i64) 3 w17 w.heap.size (fun _ => True) (.slice (some ⟨go12, 0, none⟩) x3_2.length co12) y176 := (by rw [hw, Ny176.out]; exact HP16.1); clear HP16; have n0_ := Aside0.mk (hp_); have n1_ := Aside0.mk ((by rw [hw]; exact below_set (HB.out) GB12.out : Below w.heap.size w w17)); clear HO_3; clear HB; have HO_3 := n0_; have HB := n1_; clear n0_ n1_; clear hg hw hp_; have p177 : 0 ≤ (x4_1 : Int) := of_decide_eq_true (by first | (with_reducible assumption) | assumption); have q177 : x4_1 < (l0.length : Int) := of_decide_eq_true (by first | (with_reducible assumption) | assumption); obtain ⟨ad177, e177, hx177_0, hx177_1, hx177_2⟩ := at_T97 HR0.out x4_1 p177 q177; (try rw [← Nbq13.out] at hx177_2); obtain rfl : ad174 = ad177 := (by injection e177); replace hx177_0 := (HB.out.cell (World.block_lt_of_cell? w _ hx177_0)).trans hx177_0; replace hx177_1 := (HB.out.cell (World.block_lt_of_cell? w _ hx177_1)).trans hx177_1; replace hx177_2 := (HB.out.cell (World.block_lt_of_cell? w _ hx177_2)).trans hx177_2; replace p177 := eq_true p177; replace q177 := eq_true q177; have p15 : 0 ≤ (x5_2 : Int) := of_decide_eq_true (by first | (with_reducible assumption) | assumption); have q15 : (x5_2 : Int) < ((x3_2.length : Int) : Int) := of_decide_eq_true (by first | (with_reducible assumption) | assumption); obtain ⟨hx15_0, hf15_0⟩ := Kd.R_celln 0 HO_3.out (x5_2 : Int) p15 q15; replace p15 := eq_true p15; replace q15 := eq_true q15; obtain ⟨hy18_, hz18_⟩ := Kd.R_celln 0 HO_3.out (x5_2 : Int) (of_decide_eq_true (by first | (with_reducible assumption) | assumption)) (of_decide_eq_true (by first | (with_reducible assumption) | assumption)); have HP18 := Kd.R_putg HO_3.out (x5_2 : Int) 2) | ((with_reducible refine gate_store (t := 3) (p := 37) rfl ?_); refine store_event (t := 3) (p := 37) (v := ?vo_w19) (w1 := (w17.setCell ⟨go12, (x5_2 : Int).toNat, none⟩ (.int .i64 2))) ?hg ?ho ?hn ?hr ?_; (case ho => rfl); (case hg => rfl); (case hn => rfl); (case hr => first | (go_simp; done) | (go_simp; rfl)); intro w19 hw; have hg : w17.grownBy w19 (some go12) := (by rw [hw]; exact HP18.2); have hp_ : Kd.R (Kd.int .i64) 3 w19 w.heap.size (fun _ => True) (.slice (some ⟨go12, 0, none⟩) x3_2.length co12) y178 := (by rw [hw, Ny178.out]; exact HP18.1); clear HP18; have n0_ := Aside0.mk (hp_); have n1_ := Aside0.mk ((by rw [hw]; exact below_set (HB.out) GB12.out : Below w.heap.size w w19)); clear HO_3; clear HB; have HO_3 := n0_; have HB := n1_; clear n0_ n1_; clear hg hw hp_))
                            go_roundg k2
                            case measure => have := HK1.out; have := HK2.out; omega
                            case rel => exact ⟨(y178), (wrap64 (x5_2 + 1)), (by first | rfl | (simp; done) | (simp [*]; done)), H', ⟨by have := HK1.out; have := HK2.out; omega⟩, ⟨by (with_reducible repeat (first | apply Kd.R_alloc | apply Kd.R_drewN | apply Kd.R_drew)); exact HO_3.out⟩, ⟨by repeat (first | (with_reducible first | exact HB.out | apply below_alloc | apply pw_below_drewN | apply below_drew1) | exact HB.out)⟩⟩
                          · replace c14 := Bool.eq_false_iff.mpr c14
                            subst c14
                            have H1 : (spec_l06Marks.l1 k2 l0 y176 x4_1 (wrap64 (x5_2 + 1))) = some r := by rw [if_neg (show ¬ (false = true) by decide)] at H; exact H
                            clear H
                            have H := H1
                            clear H1
                            have H' := Aside0.mk H
                            clear H
                            have p175 : 0 ≤ (x4_1 : Int) := of_decide_eq_true (by first | (with_reducible assumption) | assumption)
                            have q175 : x4_1 < (l0.length : Int) := of_decide_eq_true (by first | (with_reducible assumption) | assumption)
                            obtain ⟨ad175, e175, hx175_0, hx175_1, hx175_2⟩ := at_T97 HR0.out x4_1 p175 q175
                            (try rw [← Nbq13.out] at hx175_2)
                            obtain rfl : ad174 = ad175 := (by injection e175)
                            replace hx175_0 := (HB.out.cell (World.block_lt_of_cell? w _ hx175_0)).trans hx175_0
                            replace hx175_1 := (HB.out.cell (World.block_lt_of_cell? w _ hx175_1)).trans hx175_1
                            replace hx175_2 := (HB.out.cell (World.block_lt_of_cell? w _ hx175_2)).trans hx175_2
                            replace p175 := eq_true p175
                            replace q175 := eq_true q175
                            have p12 : 0 ≤ (x5_2 : Int) := of_decide_eq_true (by first | (with_reducible assumption) | assumption)
                            have q12 : (x5_2 : Int) < ((x3_2.length : Int) : Int) := of_decide_eq_true (by first | (with_reducible assumption) | assumption)
                            obtain ⟨go12, co12, eo12, gb12, gl12, cl12, HG12⟩ := Kd.R_form HO_3.out (by omega)
                            (first | cases eo12 | (injection eo12 with ea_ en_ ec_; (first | subst ea_ | (injection ea_ with ea_; subst ea_)); subst ec_; clear en_))
                            have GB12 := Aside0.mk gb12
                            have GG12 := Aside0.mk HG12
                            clear gb12 gl12 HG12
                            obtain ⟨hx12_0, hf12_0⟩ := Kd.R_celln 0 HO_3.out (x5_2 : Int) p12 q12
                            replace p12 := eq_true p12
                            replace q12 := eq_true q12
                            have HP20 := Kd.R_putg HO_3.out (x5_2 : Int) 1
                            go_wp2_with (first | ((with_reducible refine gate_store (t := 3) (p := 29) rfl ?_); refine store_event (t := 3) (p := 29) (v := ?vo_w21) (w1 := (wr.setCell ⟨go12, (x5_2 : Int).toNat, none⟩ (.int .i64 1))) ?hg ?ho ?hn ?hr ?_; (case ho => rfl); (case hg => rfl); (case hn => rfl); (case hr => first | (go_simp; done) | (go_simp; rfl)); intro w21 hw; have hg : wr.grownBy w21 (some go12) := (by rw [hw]; exact HP20.2); have hp_ : Kd.R (Kd.int .i64) 3 w21 w.heap.size (fun _ => True) (.slice (some ⟨go12, 0, none⟩) x3_2.length co12) y176 := (by rw [hw, Ny176.out]; exact HP20.1); clear HP20; have n0_ := Aside0.mk (hp_); have n1_ := Aside0.mk ((by rw [hw]; exact below_set (HB.out) GB12.out : Below w.heap.size w w21)); clear HO_3; clear HB; have HO_3 := n0_; have HB := n1_; clear n0_ n1_; clear hg hw hp_; have p177 : 0 ≤ (x4_1 : Int) := of_decide_eq_true (by first | (with_reducible assumption) | assumption); have q177 : x4_1 < (l0.length : Int) := of_decide_eq_true (by first | (with_reducible assumption) | assumption); obtain ⟨ad177, e177, hx177_0, hx177_1, hx177_2⟩ := at_T97 HR0.out x4_1 p177 q177; (try rw [← Nbq13.out] at hx177_2); obtain rfl : ad174 = ad177 := (by injection e177); replace hx177_0 := (HB.out.cell (World.block_lt_of_cell? w _ hx177_0)).trans hx177_0; replace hx177_1 := (HB.out.cell (World.block_lt_of_cell? w _ hx177_1)).trans hx177_1; replace hx177_2 := (HB.out.cell (World.block_lt_of_cell? w _ hx177_2)).trans hx177_2; replace p177 := eq_true p177; replace q177 := eq_true q177))
                            go_roundg k2
                            case measure => have := HK1.out; have := HK2.out; omega
                            case rel => exact ⟨(y176), (wrap64 (x5_2 + 1)), (by first | rfl | (simp; done) | (simp [*]; done)), H', ⟨by have := HK1.out; have := HK2.out; omega⟩, ⟨by (with_reducible repeat (first | apply Kd.R_alloc | apply Kd.R_drewN | apply Kd.R_drew)); exact HO_3.out⟩, ⟨by repeat (first | (with_reducible first | exact HB.out | apply below_alloc | apply pw_below_drewN | apply below_drew1) | exact HB.out)⟩⟩
                        · rw [if_neg c11] at H
                          exact absurd H (by simp)
                      · rw [if_neg c10] at H
                        exact absurd H (by simp)
                    · rw [if_neg c9] at H
                      have c9b0 : decide (x5_2 < ((rd_T97 l0 x4_1).f1)) = false := decide_eq_false c9
                      clear c9
                      have H' := Aside0.mk H
                      clear H
                      have p175 : 0 ≤ (x4_1 : Int) := of_decide_eq_true (by first | (with_reducible assumption) | assumption)
                      have q175 : x4_1 < (l0.length : Int) := of_decide_eq_true (by first | (with_reducible assumption) | assumption)
                      obtain ⟨ad175, e175, hx175_0, hx175_1, hx175_2⟩ := at_T97 HR0.out x4_1 p175 q175
                      obtain rfl : ad174 = ad175 := (by injection e175)
                      replace hx175_0 := (HB.out.cell (World.block_lt_of_cell? w _ hx175_0)).trans hx175_0
                      replace hx175_1 := (HB.out.cell (World.block_lt_of_cell? w _ hx175_1)).trans hx175_1
                      replace hx175_2 := (HB.out.cell (World.block_lt_of_cell? w _ hx175_2)).trans hx175_2
                      replace p175 := eq_true p175
                      replace q175 := eq_true q175
                      go_wp2
                      go_roundg k2
                      case measure => have := HK1.out; have := HK2.out; omega
                      case rel => exact ⟨(x3_2), (wrap64 (x4_1 + 1)), (by first | rfl | (simp; done) | (simp [*]; done)), H', ⟨by have := HK1.out; have := HK2.out; omega⟩, ⟨by (with_reducible repeat (first | apply Kd.R_alloc | apply Kd.R_drewN | apply Kd.R_drew)); exact HO_3.out⟩, ⟨by repeat (first | (with_reducible first | exact HB.out | apply below_alloc | apply pw_below_drewN | apply below_drew1) | exact HB.out)⟩⟩
                  · rw [if_neg c8] at H
                    exact absurd H (by simp)
                · rw [if_neg c7] at H
                  exact absurd H (by simp)
          · rw [if_neg c6] at H
            exact absurd H (by simp)
        · rw [if_neg c5] at H
          have c5b0 : decide (x4_1 < (l0.length : Int)) = false := decide_eq_false c5
          clear c5
          obtain rfl := Option.some.inj H
          go_wp2
          go_ret
          exact ⟨_, by first | rfl | (simp [errW_none, errW_some] <;> rfl) | (simp [*, errW_none, errW_some] <;> rfl), by (with_reducible repeat (first | apply Kd.R_alloc | apply Kd.R_drewN | apply Kd.R_drew)); exact HO_3.out, by repeat (first | (with_reducible first | exact HB.out | apply below_alloc | apply pw_below_drewN | apply below_drew1) | exact HB.out)⟩
  · rw [if_neg c2] at H
    exact absurd H (by simp)

end Go.Proofs.Ytpkhoanaifpopaa.P
end
section
namespace Go.Proofs.Ytpkhoanaifpopaa.P
open Go.RowKit Go.Proofs.YtpkhoanaifpopaaW.PrintWords Go.Proofs.YtpkhoanaifpopaaW.PrintLast Go.Proofs.YtpkhoanaifpopaaW.PrintMore
attribute [local go_sem] max2_int min2_int max_two min_two max_three min_three max_four min_four   -- for this text's walks alone
set_option linter.unusedVariables false
set_option linter.unusedSimpArgs false

/-! ### spec_Allowed: function 21 -/
def spec_Allowed.f (k : Nat) (l0 : List (S97)) (a1 : Int) : Option (Bool × Bool) := (spec_RegionsOk.f k l0).bind fun t179 => (if t179 = true then ((spec_l01In.f a1 0 63).bind fun t180 => (if t180 = true then ((spec_l06Marks.f k l0).bind fun t181 => (if 0 ≤ a1 then (if a1 < (t181.length : Int) then (some (decide ((rd t181 a1) > 0), ((rd t181 a1) == 2))) else (none)) else (none))) else (some (false, false)))) else (some (false, false)))
theorem spec_Allowed.mono : ∀ a0 a1 k, LeO (spec_Allowed.f k a0 a1) (spec_Allowed.f (k + 1) a0 a1) := by
  intro a0 a1 k
  unfold spec_Allowed.f
  repeat' first
      | (with_reducible exact spec_RegionsOk.mono _ _)
      | (with_reducible exact spec_l06Marks.mono _ _)
      | (with_reducible exact LeO.refl _)
      | (with_reducible exact LeO.none _)
      | (with_reducible refine LeO.ite ?_ ?_)
      | (with_reducible refine LeO.bind ?_ (fun _ => ?_))
      | exact spec_RegionsOk.mono _ _
      | exact spec_l06Marks.mono _ _
      | exact LeO.none _
      | refine LeO.ite ?_ ?_
      | refine LeO.bind ?_ (fun _ => ?_)
set_option maxHeartbeats 8000000 in
set_option maxRecDepth 100000 in
theorem spec_Allowed.calls (k : Nat) (A0 : Option Addr) (c0 : Nat) (l0 : List (S97)) (a1 : Int) (r1 : Bool) (r2 : Bool) (w : World) (hr0 : Kd.C k97 w A0 l0.length l0) (hc0 : l0.length ≤ c0) (h : spec_Allowed.f k l0 a1 = some (r1, r2)) :
    Calls Try.prog 21 #[.slice A0 l0.length c0, .int .i64 a1] w fun e w' => e = .returned (.tuple #[.bool r1, .bool r2]) ∧ Below w.heap.size w w' := by
  have HR0 := Aside0.mk hr0
  have HC0 := Aside0.mk hc0
  clear hr0 hc0
  have HB := Aside0.mk (Below.refl w.heap.size w)
  have H : ((spec_RegionsOk.f k l0).bind fun t179 => (if t179 = true then ((spec_l01In.f a1 0 63).bind fun t180 => (if t180 = true then ((spec_l06Marks.f k l0).bind fun t181 => (if 0 ≤ a1 then (if a1 < (t181.length : Int) then (some (decide ((rd t181 a1) > 0), ((rd t181 a1) == 2))) else (none)) else (none))) else (some (false, false)))) else (some (false, false)))) = some (r1, r2) := h
  clear h
  replace H := Option.bind_eq_some_iff.mp H
  obtain ⟨t179, A30, H⟩ := H
  replace H : (if t179 = true then ((spec_l01In.f a1 0 63).bind fun t180 => (if t180 = true then ((spec_l06Marks.f k l0).bind fun t181 => (if 0 ≤ a1 then (if a1 < (t181.length : Int) then (some (decide ((rd t181 a1) > 0), ((rd t181 a1) == 2))) else (none)) else (none))) else (some (false, false)))) else (some (false, false))) = some (r1, r2) := H
  have A3 := Aside0.mk A30
  clear A30
  by_cases c4 : t179 = true
  · subst c4
    have H1 : ((spec_l01In.f a1 0 63).bind fun t180 => (if t180 = true then ((spec_l06Marks.f k l0).bind fun t181 => (if 0 ≤ a1 then (if a1 < (t181.length : Int) then (some (decide ((rd t181 a1) > 0), ((rd t181 a1) == 2))) else (none)) else (none))) else (some (false, false)))) = some (r1, r2) := by rw [if_pos rfl] at H; exact H
    clear H
    have H := H1
    clear H1
    replace H := Option.bind_eq_some_iff.mp H
    obtain ⟨t180, A50, H⟩ := H
    replace H : (if t180 = true then ((spec_l06Marks.f k l0).bind fun t181 => (if 0 ≤ a1 then (if a1 < (t181.length : Int) then (some (decide ((rd t181 a1) > 0), ((rd t181 a1) == 2))) else (none)) else (none))) else (some (false, false))) = some (r1, r2) := H
    have A5 := Aside0.mk A50
    clear A50
    by_cases c6 : t180 = true
    · subst c6
      have H1 : ((spec_l06Marks.f k l0).bind fun t181 => (if 0 ≤ a1 then (if a1 < (t181.length : Int) then (some (decide ((rd t181 a1) > 0), ((rd t181 a1) == 2))) else (none)) else (none))) = some (r1, r2) := by rw [if_pos rfl] at H; exact H
      clear H
      have H := H1
      clear H1
      replace H := Option.bind_eq_some_iff.mp H
      obtain ⟨t181, A70, H⟩ := H
      replace H : (if 0 ≤ a1 then (if a1 < (t181.length : Int) then (some (decide ((rd t181 a1) > 0), ((rd t181 a1) == 2))) else (none)) else (none)) = some (r1, r2) := H
      have A7 := Aside0.mk A70
      clear A70
      by_cases c8 : 0 ≤ a1
      · rw [if_pos c8] at H
        have c8b0 : decide (0 ≤ a1) = true := decide_eq_true c8
        clear c8
        by_cases c9 : a1 < (t181.length : Int)
        · rw [if_pos c9] at H
          have c9b0 : decide (a1 < (t181.length : Int)) = true := decide_eq_true c9
          clear c9
          simp only [Option.some.injEq, Prod.mk.injEq] at H
          obtain ⟨rfl, rfl⟩ := H
          go_enter Try.func21, Try.ntmps21
          go_wp2_with (first | ((with_reducible refine gate_callee (f := 74) rfl ?_); refine goesL_ (some 8) rfl rfl Try.func74 (by kernel_rfl) rfl #[.slice A0 l0.length c0] rfl (by (try simp only [List.map_toArray, List.map_cons, List.map_nil]); first | done | rfl | (simp only [List.length_drop, List.length_take]; rfl)) ?_; (with_reducible refine (spec_RegionsOk.calls k _ _ l0 true _ ?side1 ?side2 A3.out).mono ?_); (case side1 => repeat (first | exact HR0.out | (with_reducible refine Kd.C_alloc ?_ _) | (with_reducible refine Kd.C_drewN ?_ _) | (with_reducible refine Kd.C_drew ?_))); (case side2 => exact HC0.out); rintro e w10 ⟨rfl, hb⟩; refine ⟨_, rfl, ?_⟩; have n0_ := Aside0.mk (below_step (by repeat (first | (with_reducible first | exact HB.out | apply below_alloc | apply pw_below_drewN | apply below_drew1) | exact HB.out)) hb); clear HB; have HB := n0_; clear n0_; (try clear hb); (try clear hb2); (try clear hk); (try clear hi)) | (go_at_call 75; (with_reducible refine (spec_l01In.calls a1 0 63 true _ A5.out).mono ?_); rintro e w' ⟨rfl, ⟨nd, rfl⟩⟩) | ((with_reducible refine gate_callee (f := 76) rfl ?_); refine goesL_ (some 16) rfl rfl Try.func76 (by kernel_rfl) rfl #[.slice A0 l0.length c0] rfl (by (try simp only [List.map_toArray, List.map_cons, List.map_nil]); first | done | rfl | (simp only [List.length_drop, List.length_take]; rfl)) ?_; (with_reducible refine (spec_l06Marks.calls k _ _ l0 t181 _ ?side1 ?side2 A7.out).mono ?_); (case side1 => repeat (first | exact (Kd.C_below HR0.out (by repeat (first | (with_reducible first | exact HB.out | apply below_alloc | apply pw_below_drewN | apply below_drew1) | exact HB.out))) | (with_reducible refine Kd.C_alloc ?_ _) | (with_reducible refine Kd.C_drewN ?_ _) | (with_reducible refine Kd.C_drew ?_))); (case side2 => exact HC0.out); rintro e w11 ⟨v182, rfl, ho0, hb⟩; refine ⟨_, rfl, ?_⟩; have n0_ := Aside0.mk (Kd.R_lower ho0 (below_size (by repeat (first | (with_reducible first | exact HB.out | apply below_alloc | apply pw_below_drewN | apply below_drew1) | exact HB.out)))); have n1_ := Aside0.mk (below_step (by repeat (first | (with_reducible first | exact HB.out | apply below_alloc | apply pw_below_drewN | apply below_drew1) | exact HB.out)) hb); clear HB; have HO183 := n0_; have HB := n1_; clear n0_ n1_; (try clear hb); (try clear hb2); (try clear hk); (try clear hi); (try clear ho0); obtain ⟨Ao12, co12, eo12⟩ := Kd.R_slice HO183.out; subst eo12; have p184 : 0 ≤ (a1 : Int) := of_decide_eq_true (by first | (with_reducible assumption) | assumption); have q184 : a1 < (t181.length : Int) := of_decide_eq_true (by first | (with_reducible assumption) | assumption); obtain ⟨ad184, e184, hx184_0⟩ := Kd.at_int (Kd.R_reads' HO183.out).2.2 a1 p184 q184; cases e184; replace p184 := eq_true p184; replace q184 := eq_true q184))
          go_ret2
          exact ⟨by first | rfl | (simp [errW_none, errW_some] <;> rfl) | (simp [*, errW_none, errW_some] <;> rfl), by repeat (first | (with_reducible first | exact HB.out | apply below_alloc | apply pw_below_drewN | apply below_drew1) | exact HB.out)⟩
        · rw [if_neg c9] at H
          exact absurd H (by simp)
      · rw [if_neg c8] at H
        exact absurd H (by simp)
    · replace c6 := Bool.eq_false_iff.mpr c6
      subst c6
      have H1 : (some (false, false)) = some (r1, r2) := by rw [if_neg (show ¬ (false = true) by decide)] at H; exact H
      clear H
      have H := H1
      clear H1
      simp only [Option.some.injEq, Prod.mk.injEq] at H
      obtain ⟨rfl, rfl⟩ := H
      go_enter Try.func21, Try.ntmps21
      go_wp2_with (first | ((with_reducible refine gate_callee (f := 74) rfl ?_); refine goesL_ (some 8) rfl rfl Try.func74 (by kernel_rfl) rfl #[.slice A0 l0.length c0] rfl (by (try simp only [List.map_toArray, List.map_cons, List.map_nil]); first | done | rfl | (simp only [List.length_drop, List.length_take]; rfl)) ?_; (with_reducible refine (spec_RegionsOk.calls k _ _ l0 true _ ?side1 ?side2 A3.out).mono ?_); (case side1 => repeat (first | exact HR0.out | (with_reducible refine Kd.C_alloc ?_ _) | (with_reducible refine Kd.C_drewN ?_ _) | (with_reducible refine Kd.C_drew ?_))); (case side2 => exact HC0.out); rintro e w13 ⟨rfl, hb⟩; refine ⟨_, rfl, ?_⟩; have n0_ := Aside0.mk (below_step (by repeat (first | (with_reducible first | exact HB.out | apply below_alloc | apply pw_below_drewN | apply below_drew1) | exact HB.out)) hb); clear HB; have HB := n0_; clear n0_; (try clear hb); (try clear hb2); (try clear hk); (try clear hi)) | (go_at_call 75; (with_reducible refine (spec_l01In.calls a1 0 63 false _ A5.out).mono ?_); rintro e w' ⟨rfl, ⟨nd, rfl⟩⟩))
      go_ret2
      exact ⟨by first | rfl | (simp [errW_none, errW_some] <;> rfl) | (simp [*, errW_none, errW_some] <;> rfl), by repeat (first | (with_reducible first | exact HB.out | apply below_alloc | apply pw_below_drewN | apply below_drew1) | exact HB.out)⟩
  · replace c4 := Bool.eq_false_iff.mpr c4
    subst c4
    have H1 : (some (false, false)) = some (r1, r2) := by rw [if_neg (show ¬ (false = true) by decide)] at H; exact H
    clear H
    have H := H1
    clear H1
    simp only [Option.some.injEq, Prod.mk.injEq] at H
    obtain ⟨rfl, rfl⟩ := H
    go_enter Try.func21, Try.ntmps21
    go_wp2_with (first | ((with_reducible refine gate_callee (f := 74) rfl ?_); refine goesL_ (some 8) rfl rfl Try.func74 (by kernel_rfl) rfl #[.slice A0 l0.length c0] rfl (by (try simp only [List.map_toArray, List.map_cons, List.map_nil]); first | done | rfl | (simp only [List.length_drop, List.length_take]; rfl)) ?_; (with_reducible refine (spec_RegionsOk.calls k _ _ l0 false _ ?side1 ?side2 A3.out).mono ?_); (case side1 => repeat (first | exact HR0.out | (with_reducible refine Kd.C_alloc ?_ _) | (with_reducible refine Kd.C_drewN ?_ _) | (with_reducible refine Kd.C_drew ?_))); (case side2 => exact HC0.out); rintro e w14 ⟨rfl, hb⟩; refine ⟨_, rfl, ?_⟩; have n0_ := Aside0.mk (below_step (by repeat (first | (with_reducible first | exact HB.out | apply below_alloc | apply pw_below_drewN | apply below_drew1) | exact HB.out)) hb); clear HB; have HB := n0_; clear n0_; (try clear hb); (try clear hb2); (try clear hk); (try clear hi)))
    go_ret2
    exact ⟨by first | rfl | (simp [errW_none, errW_some] <;> rfl) | (simp [*, errW_none, errW_some] <;> rfl), by repeat (first | (with_reducible first | exact HB.out | apply below_alloc | apply pw_below_drewN | apply below_drew1) | exact HB.out)⟩

end Go.Proofs.Ytpkhoanaifpopaa.P
end
section
namespace Go.Proofs.Ytpkhoanaifpopaa.P
open Go.RowKit Go.Proofs.YtpkhoanaifpopaaW.PrintWords Go.Proofs.YtpkhoanaifpopaaW.PrintLast Go.Proofs.YtpkhoanaifpopaaW.PrintMore
attribute [local go_sem] max2_int min2_int max_two min_two max_three min_three max_four min_four   -- for this text's walks alone
set_option linter.unusedVariables false
set_option linter.unusedSimpArgs false

/-! ### laws_toRegion: function 77 -/
def laws_toRegion.f (a0_0 : Int) (a0_1 : Int) (a0_2 : Bool) : Option (Int × Int × Bool) := some (a0_0, a0_1, a0_2)
set_option maxHeartbeats 8000000 in
set_option maxRecDepth 100000 in
theorem laws_toRegion.calls (a0_0 : Int) (a0_1 : Int) (a0_2 : Bool) (r1 : Int) (r2 : Int) (r3 : Bool) (w : World) (h : laws_toRegion.f a0_0 a0_1 a0_2 = some (r1, r2, r3)) :
    Calls Try.prog 77 #[.agg #[.int .i64 a0_0, .int .i64 a0_1, .bool a0_2]] w fun e w' => e = .returned (.agg #[.int .i64 r1, .int .i64 r2, .bool r3]) ∧ Below w.heap.size w w' := by
  have hu99 := Try.underlying99
  have hu97 := Try.underlying97
  have HB := Aside0.mk (Below.refl w.heap.size w)
  have H : (some (a0_0, a0_1, a0_2)) = some (r1, r2, r3) := h
  clear h
  simp only [Option.some.injEq, Prod.mk.injEq] at H
  obtain ⟨rfl, rfl, rfl⟩ := H
  go_enter Try.func77, Try.ntmps77
  go_wp2_with (first | ((with_reducible refine gate_dst (N := 1) rfl ?_); refine box_event ?hg (N := 1) ?hd (cs := #[.int .i64 a0_0, .int .i64 a0_1, .bool a0_2]) (t := 99) ?hr ?_; (case hd => rfl); (case hg => rfl); (case hr => first | (go_simp; done) | (go_simp; rfl)); intro gb185 hg w2 hbox hb; have n0_ := Aside0.mk (below_step (by repeat (first | (with_reducible first | exact HB.out | apply below_alloc | apply pw_below_drewN | apply below_drew1) | exact HB.out)) hb); have n1_ := Aside0.mk (hbox); have n2_ := Aside0.mk ((by rw [hg]; exact (below_size (by repeat (first | (with_reducible first | exact HB.out | apply below_alloc | apply pw_below_drewN | apply below_drew1) | exact HB.out))) : w.heap.size ≤ gb185)); have n3_ := Aside0.mk ((by rw [hg]; exact (below_size (by repeat (first | (with_reducible first | exact HB.out | apply below_alloc | apply pw_below_drewN | apply below_drew1) | exact HB.out))) : w.heap.size ≤ gb185)); clear HB; have HB := n0_; have BK185 := n1_; have GW185 := n2_; have GE185 := n3_; clear n0_ n1_ n2_ n3_; clear hb hbox hg) | ((with_reducible refine gate_dst (N := 2) rfl ?_); refine box_event ?hg (N := 2) ?hd (cs := #[.int .i64 0, .int .i64 0, .bool false]) (t := 97) ?hr ?_; (case hd => rfl); (case hg => rfl); (case hr => first | (go_simp; done) | (go_simp; rfl)); intro gb186 hg w3 hbox hb; have n0_ := Aside0.mk (blk_below (g := gb185) (o := .cells #[.int .i64 a0_0, .int .i64 a0_1, .bool a0_2] 99 (0, 0)) (by (with_reducible repeat (first | refine blk_drewN ?_ _ | refine blk_drew ?_ | refine blk_alloc ?_ _)); exact BK185.out) hb); have n1_ := Aside0.mk (below_step (by repeat (first | (with_reducible first | exact HB.out | apply below_alloc | apply pw_below_drewN | apply below_drew1 | refine below_set ?_ GE185.out) | exact HB.out)) hb); have n2_ := Aside0.mk (hbox); have n3_ := Aside0.mk ((by rw [hg]; exact (below_size (by repeat (first | (with_reducible first | exact HB.out | apply below_alloc | apply pw_below_drewN | apply below_drew1 | refine below_set ?_ GE185.out) | exact HB.out))) : w.heap.size ≤ gb186)); have n4_ := Aside0.mk ((by rw [hg]; exact (below_size (by repeat (first | (with_reducible first | exact HB.out | apply below_alloc | apply pw_below_drewN | apply below_drew1 | refine below_set ?_ GE185.out) | exact HB.out))) : w.heap.size ≤ gb186)); have n5_ := Aside0.mk ((by rw [hg]; exact Nat.ne_of_lt (blk_lt (g := gb185) (o := .cells #[.int .i64 a0_0, .int .i64 a0_1, .bool a0_2] 99 (0, 0)) (by (with_reducible repeat (first | refine blk_drewN ?_ _ | refine blk_drew ?_ | refine blk_alloc ?_ _)); exact BK185.out)) : gb185 ≠ gb186)); have n6_ := Aside0.mk ((by rw [hg]; exact Nat.ne_of_gt (blk_lt (g := gb185) (o := .cells #[.int .i64 a0_0, .int .i64 a0_1, .bool a0_2] 99 (0, 0)) (by (with_reducible repeat (first | refine blk_drewN ?_ _ | refine blk_drew ?_ | refine blk_alloc ?_ _)); exact BK185.out)) : gb186 ≠ gb185)); clear BK185; clear HB; have BK185 := n0_; have HB := n1_; have BK186 := n2_; have GW186 := n3_; have GE186 := n4_; have NB185_186 := n5_; have NB186_185 := n6_; clear n0_ n1_ n2_ n3_ n4_ n5_ n6_; clear hb hbox hg) | ((with_reducible refine gate_dst (N := 3) rfl ?_); refine box_event ?hg (N := 3) ?hd (cs := #[.int .i64 0, .int .i64 0, .bool false]) (t := 97) ?hr ?_; (case hd => rfl); (case hg => rfl); (case hr => first | (go_simp; done) | (go_simp; rfl)); intro gb187 hg w4 hbox hb; have n0_ := Aside0.mk (blk_below (g := gb185) (o := .cells #[.int .i64 a0_0, .int .i64 a0_1, .bool a0_2] 99 (0, 0)) (by (with_reducible repeat (first | refine blk_drewN ?_ _ | refine blk_drew ?_ | refine blk_alloc ?_ _)); exact BK185.out) hb); have n1_ := Aside0.mk (blk_below (g := gb186) (o := .cells #[.int .i64 0, .int .i64 0, .bool false] 97 (0, 0)) (by (with_reducible repeat (first | refine blk_drewN ?_ _ | refine blk_drew ?_ | refine blk_alloc ?_ _)); exact BK186.out) hb); have n2_ := Aside0.mk (below_step (by repeat (first | (with_reducible first | exact HB.out | apply below_alloc | apply pw_below_drewN | apply below_drew1 | refine below_set ?_ GE185.out | refine below_set ?_ GE186.out) | exact HB.out)) hb); have n3_ := Aside0.mk (hbox); have n4_ := Aside0.mk ((by rw [hg]; exact (below_size (by repeat (first | (with_reducible first | exact HB.out | apply below_alloc | apply pw_below_drewN | apply below_drew1 | refine below_set ?_ GE185.out | refine below_set ?_ GE186.out) | exact HB.out))) : w.heap.size ≤ gb187)); have n5_ := Aside0.mk ((by rw [hg]; exact (below_size (by repeat (first | (with_reducible first | exact HB.out | apply below_alloc | apply pw_below_drewN | apply below_drew1 | refine below_set ?_ GE185.out | refine below_set ?_ GE186.out) | exact HB.out))) : w.heap.size ≤ gb187)); have n6_ := Aside0.mk ((by rw [hg]; exact Nat.ne_of_lt (blk_lt (g := gb185) (o := .cells #[.int .i64 a0_0, .int .i64 a0_1, .bool a0_2] 99 (0, 0)) (by (with_reducible repeat (first | refine blk_drewN ?_ _ | refine blk_drew ?_ | refine blk_alloc ?_ _)); exact BK185.out)) : gb185 ≠ gb187)); have n7_ := Aside0.mk ((by rw [hg]; exact Nat.ne_of_gt (blk_lt (g := gb185) (o := .cells #[.int .i64 a0_0, .int .i64 a0_1, .bool a0_2] 99 (0, 0)) (by (with_reducible repeat (first | refine blk_drewN ?_ _ | refine blk_drew ?_ | refine blk_alloc ?_ _)); exact BK185.out)) : gb187 ≠ gb185)); have n8_ := Aside0.mk ((by rw [hg]; exact Nat.ne_of_lt (blk_lt (g := gb186) (o := .cells #[.int .i64 0, .int .i64 0, .bool false] 97 (0, 0)) (by (with_reducible repeat (first | refine blk_drewN ?_ _ | refine blk_drew ?_ | refine blk_alloc ?_ _)); exact BK186.out)) : gb186 ≠ gb187)); have n9_ := Aside0.mk ((by rw [hg]; exact Nat.ne_of_gt (blk_lt (g := gb186) (o := .cells #[.int .i64 0, .int .i64 0, .bool false] 97 (0, 0)) (by (with_reducible repeat (first | refine blk_drewN ?_ _ | refine blk_drew ?_ | refine blk_alloc ?_ _)); exact BK186.out)) : gb187 ≠ gb186)); clear BK185; clear BK186; clear HB; have BK185 := n0_; have BK186 := n1_; have HB := n2_; have BK187 := n3_; have GW187 := n4_; have GE187 := n5_; have NB185_187 := n6_; have NB187_185 := n7_; have NB186_187 := n8_; have NB187_186 := n9_; clear n0_ n1_ n2_ n3_ n4_ n5_ n6_ n7_ n8_ n9_; clear hb hbox hg; have hnb5 := NB185_186.out; have hnc5 := NB186_185.out; have hnb6 := NB185_187.out; have hnc6 := NB187_185.out; have hcz7_0 : w4.cell? ⟨gb185, 0, none⟩ = some (.int .i64 a0_0) := (blk_cell BK185.out 0).trans rfl; have hcz7_1 : w4.cell? ⟨gb185, 1, none⟩ = some (.int .i64 a0_1) := (blk_cell BK185.out 1).trans rfl; have hcz7_2 : w4.cell? ⟨gb185, 2, none⟩ = some (.bool a0_2) := (blk_cell BK185.out 2).trans rfl; have hfz7_0 := blk_frozen BK185.out 0; have hfz7_1 := blk_frozen BK185.out 1; have hfz7_2 := blk_frozen BK185.out 2; have hnb8 := NB187_186.out; have hnc8 := NB186_187.out; have hcz9_0 : w4.cell? ⟨gb187, 0, none⟩ = some (.int .i64 0) := (blk_cell BK187.out 0).trans rfl; have hcz9_1 : w4.cell? ⟨gb187, 1, none⟩ = some (.int .i64 0) := (blk_cell BK187.out 1).trans rfl; have hcz9_2 : w4.cell? ⟨gb187, 2, none⟩ = some (.bool false) := (blk_cell BK187.out 2).trans rfl; have hfz9_0 := blk_frozen BK187.out 0; have hfz9_1 := blk_frozen BK187.out 1; have hfz9_2 := blk_frozen BK187.out 2; have hcz10_0 : w4.cell? ⟨gb186, 0, none⟩ = some (.int .i64 0) := (blk_cell BK186.out 0).trans rfl; have hcz10_1 : w4.cell? ⟨gb186, 1, none⟩ = some (.int .i64 0) := (blk_cell BK186.out 1).trans rfl; have hcz10_2 : w4.cell? ⟨gb186, 2, none⟩ = some (.bool false) := (blk_cell BK186.out 2).trans rfl; have hfz10_0 := blk_frozen BK186.out 0; have hfz10_1 := blk_frozen BK186.out 1; have hfz10_2 := blk_frozen BK186.out 2))
  refine bodyPost_ret (results_cell_row rfl _ _ gb186 97 #[.int .i64 a0_0, .int .i64 a0_1, .bool a0_2] (0, 0) _ rfl (by (with_reducible repeat (first | refine blk_drewN ?_ _ | refine blk_drew ?_ | refine blk_alloc ?_ _)); refine blk_put (cs := #[.int .i64 a0_0, .int .i64 a0_1, .bool false]) ?_ 2 _ rfl; (with_reducible repeat (first | refine blk_drewN ?_ _ | refine blk_drew ?_ | refine blk_alloc ?_ _)); refine blk_put (cs := #[.int .i64 a0_0, .int .i64 0, .bool false]) ?_ 1 _ rfl; (with_reducible repeat (first | refine blk_drewN ?_ _ | refine blk_drew ?_ | refine blk_alloc ?_ _)); refine blk_put (cs := #[.int .i64 0, .int .i64 0, .bool false]) ?_ 0 _ rfl; (with_reducible repeat (first | refine blk_drewN ?_ _ | refine blk_drew ?_ | refine blk_alloc ?_ _)); refine blk_far ?_ NB186_187.out _; (with_reducible repeat (first | refine blk_drewN ?_ _ | refine blk_drew ?_ | refine blk_alloc ?_ _)); refine blk_far ?_ NB186_187.out _; (with_reducible repeat (first | refine blk_drewN ?_ _ | refine blk_drew ?_ | refine blk_alloc ?_ _)); refine blk_far ?_ NB186_187.out _; (with_reducible repeat (first | refine blk_drewN ?_ _ | refine blk_drew ?_ | refine blk_alloc ?_ _)); exact BK186.out) Try.underlying97 rfl (by kernel_rfl)) rfl ?_
  exact ⟨by first | rfl | (simp [errW_none, errW_some] <;> rfl) | (simp [*, errW_none, errW_some] <;> rfl), by repeat (first | (with_reducible first | exact HB.out | apply below_alloc | apply pw_below_drewN | apply below_drew1 | refine below_set ?_ GE185.out | refine below_set ?_ GE186.out | refine below_set ?_ GE187.out) | exact HB.out)⟩

end Go.Proofs.Ytpkhoanaifpopaa.P
end
section
namespace Go.Proofs.Ytpkhoanaifpopaa.P
open Go.RowKit Go.Proofs.YtpkhoanaifpopaaW.PrintWords Go.Proofs.YtpkhoanaifpopaaW.PrintLast Go.Proofs.YtpkhoanaifpopaaW.PrintMore
attribute [local go_sem] max2_int min2_int max_two min_two max_three min_three max_four min_four   -- for this text's walks alone
set_option linter.unusedVariables false
set_option linter.unusedSimpArgs false

/-! ### laws_toRegionS: function 22 -/
def laws_toRegionS.l0 : Nat → List (S99) → List (S97) → Int → Option ((List (S97)))
  | 0, _, _, _ => none
  | k + 1, x0, x3, x4 => if x4 < (x0.length : Int) then (if 0 ≤ x4 then ((laws_toRegion.f ((rd_T99 x0 x4).f0) ((rd_T99 x0 x4).f1) ((rd_T99 x0 x4).f2)).bind fun bt192 => (if x4 < (x3.length : Int) then (laws_toRegionS.l0 k x0 (x3.set (x4 : Int).toNat (⟨bt192.1, bt192.2.1, bt192.2.2⟩ : S97)) (wrap64 (x4 + 1))) else (none))) else (none)) else (some x3)
def laws_toRegionS.f (k : Nat) (l0 : List (S99)) : Option ((List (S97))) := if 0 ≤ (l0.length : Int) then (if ((l0.length : Int) : Int).toNat ≤ 11728124029610 then (laws_toRegionS.l0 k l0 (List.replicate ((l0.length : Int) : Int).toNat z97) 0) else (none)) else (none)
theorem laws_toRegionS.mono_l : ∀ k, (∀ y0 y1 y2, LeO (laws_toRegionS.l0 k y0 y1 y2) (laws_toRegionS.l0 (k + 1) y0 y1 y2))
  | 0 => fun _ _ _ r h => by simp [laws_toRegionS.l0] at h
  | k + 1 => by
    have ih0 := laws_toRegionS.mono_l k
    · intro y0 y1 y2
      unfold laws_toRegionS.l0
      repeat' first
      | (with_reducible exact ih0 _ _ _)
      | (with_reducible exact LeO.refl _)
      | (with_reducible exact LeO.none _)
      | (with_reducible refine LeO.ite ?_ ?_)
      | (with_reducible refine LeO.bind ?_ (fun _ => ?_))
      | exact ih0 _ _ _
      | exact LeO.none _
      | refine LeO.ite ?_ ?_
      | refine LeO.bind ?_ (fun _ => ?_)
theorem laws_toRegionS.mono : ∀ a0 k, LeO (laws_toRegionS.f k a0) (laws_toRegionS.f (k + 1) a0) := by
  intro a0 k
  have ih0 := laws_toRegionS.mono_l k
  unfold laws_toRegionS.f
  repeat' first
      | (with_reducible exact ih0 _ _ _)
      | (with_reducible exact LeO.refl _)
      | (with_reducible exact LeO.none _)
      | (with_reducible refine LeO.ite ?_ ?_)
      | (with_reducible refine LeO.bind ?_ (fun _ => ?_))
      | exact ih0 _ _ _
      | exact LeO.none _
      | refine LeO.ite ?_ ?_
      | refine LeO.bind ?_ (fun _ => ?_)
set_option maxHeartbeats 8000000 in
set_option maxRecDepth 100000 in
theorem laws_toRegionS.calls (k : Nat) (A0 : Option Addr) (c0 : Nat) (l0 : List (S99)) (r : List (S97)) (w : World) (hr0 : Kd.C k99 w A0 l0.length l0) (hc0 : l0.length ≤ c0) (h : laws_toRegionS.f k l0 = some r) :
    Calls Try.prog 22 #[.slice A0 l0.length c0] w fun e w' => ∃ v0_ : Value, e = .returned (v0_) ∧ Kd.R k97 97 w' w.heap.size (fun _ => True) v0_ r ∧ Below w.heap.size w w' := by
  have hu99 := Try.underlying99
  have hu97 := Try.underlying97
  have HR0 := Aside0.mk hr0
  have HC0 := Aside0.mk hc0
  clear hr0 hc0
  have HB := Aside0.mk (Below.refl w.heap.size w)
  have H : (if 0 ≤ (l0.length : Int) then (if ((l0.length : Int) : Int).toNat ≤ 11728124029610 then (laws_toRegionS.l0 k l0 (List.replicate ((l0.length : Int) : Int).toNat z97) 0) else (none)) else (none)) = some r := h
  clear h
  by_cases c2 : 0 ≤ (l0.length : Int)
  · rw [if_pos c2] at H
    have c2b0 := eq_true c2
    have c2b1 : decide (0 ≤ (l0.length : Int)) = true := decide_eq_true c2
    clear c2
    by_cases c3 : ((l0.length : Int) : Int).toNat ≤ 11728124029610
    · rw [if_pos c3] at H
      have c3b0 := eq_true c3
      have c3b1 : decide (((l0.length : Int) : Int).toNat ≤ 11728124029610) = true := decide_eq_true c3
      clear c3
      obtain ⟨y188, hy188⟩ : ∃ y_ : List (S97), y_ = (List.replicate ((l0.length : Int) : Int).toNat z97) := ⟨_, rfl⟩
      replace H : (laws_toRegionS.l0 k l0 y188 0) = some r := by first | (rw [hy188]; with_reducible exact H) | (have H2_ := (Option.bind_some _ _).symm.trans H; rw [hy188]; with_reducible exact H2_) | (have H2_ := (Option.bind_some _ _).symm.trans H; with_reducible exact H2_) | with_reducible exact H | (rw [hy188]; exact H) | exact H
      have Ny188 := Aside0.mk hy188
      clear hy188
      have H' := Aside0.mk H
      clear H
      go_enter Try.func22, Try.ntmps22
      go_wp2_with (first | ((with_reducible refine gate_dst (N := 7) rfl ?_); refine Kd.R_make k97 _ 97 rfl (N := 7) rfl 33 _ _ rfl (l0.length : Int) rfl rfl Try.underlying33 (.agg #[(.int .i64 0), (.int .i64 0), (.bool false)]) 24 info97 rfl (by decide) (by omega) z97 (ok := fun _ => True) (okp := fun _ => True) (k97_mkM _ _ _ z97 ) (fun _ hk => hk) trivial (of_decide_eq_true (by first | (with_reducible assumption) | assumption)) (Nat.le_trans (Nat.mul_le_mul_right _ (of_decide_eq_true (by first | (with_reducible assumption) | assumption) : (l0.length : Int).toNat ≤ 11728124029610)) (by omega)) (Below.refl _ _) (Nat.le_refl _) ?_; intro v189 w4 ho5 hb hg_ hnew_; clear hg_ hnew_; (first | rw [← Ny188.out] at ho5 | (simp only [Int.reduceToNat] at ho5; rw [← Ny188.out] at ho5)); have n0_ := Aside0.mk (Kd.R_lower ho5 (below_size (by repeat (first | (with_reducible first | exact HB.out | apply below_alloc | apply pw_below_drewN | apply below_drew1) | exact HB.out)))); have n1_ := Aside0.mk (below_step (by repeat (first | (with_reducible first | exact HB.out | apply below_alloc | apply pw_below_drewN | apply below_drew1) | exact HB.out)) hb); clear HB; have HO190 := n0_; have HB := n1_; clear n0_ n1_; clear hb ho5))
      go_loopg [4] k (fun kq v4 w' => ∃ (x3_1 : List (S97)) (x4_1 : Int), v4 = .int .i64 x4_1 ∧ Aside0 (laws_toRegionS.l0 kq l0 x3_1 x4_1 = some r) ∧ Aside0 (kq ≤ k) ∧ Aside0 (Kd.R k97 97 w' w.heap.size (fun _ => True) v189 x3_1) ∧ Aside0 (Below w.heap.size w w'))
      case atStart => exact ⟨(y188), (0), (by first | rfl | (simp; done) | (simp [*]; done)), H', ⟨Nat.le_refl _⟩, ⟨by (with_reducible repeat (first | apply Kd.R_alloc | apply Kd.R_drewN | apply Kd.R_drew)); exact HO190.out⟩, ⟨by repeat (first | (with_reducible first | exact HB.out | apply below_alloc | apply pw_below_drewN | apply below_drew1) | exact HB.out)⟩⟩
      case round =>
        clear H'
        try clear c2
        try clear c2b0
        try clear c2b1
        try clear p2
        try clear c3
        try clear c3b0
        try clear c3b1
        obtain ⟨x3_1, x4_1, rfl, HA, HK1, HO_3, HB⟩ := hrel
        cases gk with
        | zero => exact absurd HA.out (by simp [laws_toRegionS.l0])
        | succ k1 =>
          have H := HA.out
          clear HA
          simp only [laws_toRegionS.l0] at H
          by_cases c6 : x4_1 < (l0.length : Int)
          · rw [if_pos c6] at H
            have c6b0 : decide (x4_1 < (l0.length : Int)) = true := decide_eq_true c6
            clear c6
            by_cases c7 : 0 ≤ x4_1
            · rw [if_pos c7] at H
              have c7b0 : decide (0 ≤ x4_1) = true := decide_eq_true c7
              clear c7
              replace H := Option.bind_eq_some_iff.mp H
              obtain ⟨⟨t192, t193, t194⟩, A80, H⟩ := H
              replace H : (if x4_1 < (x3_1.length : Int) then (laws_toRegionS.l0 k1 l0 (x3_1.set (x4_1 : Int).toNat (⟨t192, t193, t194⟩ : S97)) (wrap64 (x4_1 + 1))) else (none)) = some r := H
              have A8 := Aside0.mk A80
              clear A80
              by_cases c9 : x4_1 < (x3_1.length : Int)
              · rw [if_pos c9] at H
                have c9b0 : decide (x4_1 < (x3_1.length : Int)) = true := decide_eq_true c9
                clear c9
                obtain ⟨y195, hy195⟩ : ∃ y_ : List (S97), y_ = (x3_1.set (x4_1 : Int).toNat (⟨t192, t193, t194⟩ : S97)) := ⟨_, rfl⟩
                replace H : (laws_toRegionS.l0 k1 l0 y195 (wrap64 (x4_1 + 1))) = some r := by first | (rw [hy195]; with_reducible exact H) | (have H2_ := (Option.bind_some _ _).symm.trans H; rw [hy195]; with_reducible exact H2_) | (have H2_ := (Option.bind_some _ _).symm.trans H; with_reducible exact H2_) | with_reducible exact H | (rw [hy195]; exact H) | exact H
                have Ny195 := Aside0.mk hy195
                clear hy195
                have H' := Aside0.mk H
                clear H
                have p191 : 0 ≤ (x4_1 : Int) := of_decide_eq_true (by first | (with_reducible assumption) | assumption)
                have q191 : x4_1 < (l0.length : Int) := of_decide_eq_true (by first | (with_reducible assumption) | assumption)
                obtain ⟨ad191, e191, hx191_0, hx191_1, hx191_2⟩ := at_T99 HR0.out x4_1 p191 q191
                cases e191
                replace hx191_0 := (HB.out.cell (World.block_lt_of_cell? w _ hx191_0)).trans hx191_0
                replace hx191_1 := (HB.out.cell (World.block_lt_of_cell? w _ hx191_1)).trans hx191_1
                replace hx191_2 := (HB.out.cell (World.block_lt_of_cell? w _ hx191_2)).trans hx191_2
                replace p191 := eq_true p191
                replace q191 := eq_true q191
                go_wp2_with (first | ((with_reducible refine gate_callee (f := 77) rfl ?_); refine goesL_ (some 20) rfl rfl Try.func77 (by kernel_rfl) rfl #[.agg #[.int .i64 ((rd_T99 l0 x4_1).f0), .int .i64 ((rd_T99 l0 x4_1).f1), .bool ((rd_T99 l0 x4_1).f2)]] rfl (by (try simp only [List.map_toArray, List.map_cons, List.map_nil]); first | done | rfl | (simp only [List.length_drop, List.length_take]; rfl)) ?_; (with_reducible refine (laws_toRegion.calls ((rd_T99 l0 x4_1).f0) ((rd_T99 l0 x4_1).f1) ((rd_T99 l0 x4_1).f2) t192 t193 t194 _ A8.out).mono ?_); rintro e w11 ⟨rfl, hb⟩; refine ⟨_, rfl, ?_⟩; have n0_ := Aside0.mk (Kd.R_below (by (with_reducible repeat (first | apply Kd.R_alloc | apply Kd.R_drewN | apply Kd.R_drew)); exact HO_3.out) hb); have n1_ := Aside0.mk (below_step (by repeat (first | (with_reducible first | exact HB.out | apply below_alloc | apply pw_below_drewN | apply below_drew1) | exact HB.out)) hb); clear HO_3; clear HB; have HO_3 := n0_; have HB := n1_; clear n0_ n1_; (try clear hb); (try clear hb2); (try clear hk); (try clear hi); have p10 : 0 ≤ (x4_1 : Int) := of_decide_eq_true (by first | (with_reducible assumption) | assumption); have q10 : (x4_1 : Int) < ((x3_1.length : Int) : Int) := of_decide_eq_true (by first | (with_reducible assumption) | assumption); obtain ⟨go10, co10, eo10, gb10, gl10, cl10, HG10⟩ := Kd.R_form HO_3.out (by omega); (first | cases eo10 | (injection eo10 with ea_ en_ ec_; (first | subst ea_ | (injection ea_ with ea_; subst ea_)); subst ec_; clear en_)); have GB10 := Aside0.mk gb10; have GG10 := Aside0.mk HG10; clear gb10 gl10 HG10; obtain ⟨ce10, hcl10, hM10, hcc10, hfr10⟩ := Kd.R_elem HO_3.out z97 (x4_1 : Int) p10 q10; obtain rfl := k97_openM hM10; have hx10_0 : w11.cell? ⟨go10, (x4_1 : Int).toNat * 3, none⟩ = some (.int .i64 ((rd_T97 x3_1 x4_1).f0)) := hcc10 0 _ rfl; have hx10_1 : w11.cell? ⟨go10, (x4_1 : Int).toNat * 3 + 1, none⟩ = some (.int .i64 ((rd_T97 x3_1 x4_1).f1)) := hcc10 1 _ rfl; have hx10_2 : w11.cell? ⟨go10, (x4_1 : Int).toNat * 3 + 2, none⟩ = some (.bool ((rd_T97 x3_1 x4_1).f2)) := hcc10 2 _ rfl; have hf10_0 : w11.frozen? ⟨go10, (x4_1 : Int).toNat * 3, none⟩ = false := hfr10 0; have hf10_1 : w11.frozen? ⟨go10, (x4_1 : Int).toNat * 3 + 1, none⟩ = false := hfr10 1; have hf10_2 : w11.frozen? ⟨go10, (x4_1 : Int).toNat * 3 + 2, none⟩ = false := hfr10 2; (try clear hcl10); (try clear hcc10); (try clear hfr10); (try clear hM10); replace p10 := eq_true p10; replace q10 := eq_true q10; have HX12 := Aside0.mk (show Kd.R k97 97 w11 w.heap.size (fun _ => True) (.slice (some ⟨go10, 0, none⟩) x3_1.length co10) x3_1 from (by (with_reducible repeat (first | apply Kd.R_alloc | apply Kd.R_drewN | apply Kd.R_drew)); exact HO_3.out)); obtain ⟨ce12, hcl12, hM12, hcc12, hfr12⟩ := Kd.R_elem HX12.out z97 (x4_1 : Int) (of_decide_eq_true (by first | (with_reducible assumption) | assumption)) (by have h_ : (x4_1 : Int) < ((x3_1.length : Int) : Int) := of_decide_eq_true (by first | (with_reducible assumption) | assumption); first | exact h_ | (have e_ := (Kd.R_reads' HO_3.out).1; omega) | simpa using h_); obtain rfl := k97_openM hM12; have HP12 := Kd.R_seg HX12.out (x4_1 : Int) (of_decide_eq_true (by first | (with_reducible assumption) | assumption)) (by have h_ : (x4_1 : Int) < ((x3_1.length : Int) : Int) := of_decide_eq_true (by first | (with_reducible assumption) | assumption); first | exact h_ | (have e_ := (Kd.R_reads' HO_3.out).1; omega) | simpa using h_) (seg := [.int .i64 t192, .int .i64 t193, .bool t194]) (j := 0) hcl12 hcc12 (show 3 ≤ 3 from by decide) (x' := (⟨t192, t193, t194⟩ : S97)) (k97_mkM _ _ _ (⟨t192, t193, t194⟩ : S97) ) (fun _ hk => hk); have hx12_0 := hcc12 0 _ rfl; (try simp only [show (k97).sz = 3 from rfl, Nat.mul_one, Nat.add_zero] at hx12_0); have hf12_0 := hfr12 0; (try simp only [show (k97).sz = 3 from rfl, Nat.mul_one, Nat.add_zero] at hf12_0); have hx12_1 := hcc12 1 _ rfl; (try simp only [show (k97).sz = 3 from rfl, Nat.mul_one, Nat.add_zero] at hx12_1); have hf12_1 := hfr12 1; (try simp only [show (k97).sz = 3 from rfl, Nat.mul_one, Nat.add_zero] at hf12_1); have hx12_2 := hcc12 2 _ rfl; (try simp only [show (k97).sz = 3 from rfl, Nat.mul_one, Nat.add_zero] at hx12_2); have hf12_2 := hfr12 2; (try simp only [show (k97).sz = 3 from rfl, Nat.mul_one, Nat.add_zero] at hf12_2); (try clear hcl12); (try clear hcc12); (try clear hfr12); (try clear hM12)) | ((with_reducible refine gate_store (t := 97) (p := 21) rfl ?_); refine store_event (t := 97) (p := 21) (v := ?vo_w13) (w1 := (((w11.setCell ⟨go10, (x4_1 : Int).toNat * 3, none⟩ (.int .i64 t192)).setCell ⟨go10, (x4_1 : Int).toNat * 3 + 1, none⟩ (.int .i64 t193)).setCell ⟨go10, (x4_1 : Int).toNat * 3 + 2, none⟩ (.bool t194))) ?hg ?ho ?hn ?hr ?_; (case ho => rfl); (case hg => rfl); (case hn => rfl); (case hr => first | (go_simp; done) | (go_simp; rfl)); intro w13 hw; have hg : w11.grownBy w13 (some go10) := (by rw [hw]; exact HP12.2); have hp_ : Kd.R k97 97 w13 w.heap.size (fun _ => True) (.slice (some ⟨go10, 0, none⟩) x3_1.length co10) y195 := (by rw [hw, Ny195.out]; exact HP12.1); clear HP12; have n0_ := Aside0.mk (hp_); have n1_ := Aside0.mk ((by rw [hw]; exact below_set (below_set (below_set (HB.out) GB10.out) GB10.out) GB10.out : Below w.heap.size w w13)); clear HO_3; clear HB; have HO_3 := n0_; have HB := n1_; clear n0_ n1_; clear hg hw hp_))
                go_roundg k1
                case measure => have := HK1.out; omega
                case rel => exact ⟨(y195), (wrap64 (x4_1 + 1)), (by first | rfl | (simp; done) | (simp [*]; done)), H', ⟨by have := HK1.out; omega⟩, ⟨by (with_reducible repeat (first | apply Kd.R_alloc | apply Kd.R_drewN | apply Kd.R_drew)); exact HO_3.out⟩, ⟨by repeat (first | (with_reducible first | exact HB.out | apply below_alloc | apply pw_below_drewN | apply below_drew1) | exact HB.out)⟩⟩
              · rw [if_neg c9] at H
                exact absurd H (by simp)
            · rw [if_neg c7] at H
              exact absurd H (by simp)
          · rw [if_neg c6] at H
            have c6b0 : decide (x4_1 < (l0.length : Int)) = false := decide_eq_false c6
            clear c6
            obtain rfl := Option.some.inj H
            go_wp2
            go_ret
            exact ⟨_, by first | rfl | (simp [errW_none, errW_some] <;> rfl) | (simp [*, errW_none, errW_some] <;> rfl), by (with_reducible repeat (first | apply Kd.R_alloc | apply Kd.R_drewN | apply Kd.R_drew)); exact HO_3.out, by repeat (first | (with_reducible first | exact HB.out | apply below_alloc | apply pw_below_drewN | apply below_drew1) | exact HB.out)⟩
    · rw [if_neg c3] at H
      exact absurd H (by simp)
  · rw [if_neg c2] at H
    exact absurd H (by simp)

end Go.Proofs.Ytpkhoanaifpopaa.P
end
section
namespace Go.Proofs.Ytpkhoanaifpopaa.P
open Go.RowKit Go.Proofs.YtpkhoanaifpopaaW.PrintWords Go.Proofs.YtpkhoanaifpopaaW.PrintLast Go.Proofs.YtpkhoanaifpopaaW.PrintMore
attribute [local go_sem] max2_int min2_int max_two min_two max_three min_three max_four min_four   -- for this text's walks alone
set_option linter.unusedVariables false
set_option linter.unusedSimpArgs false

/-! ### impl_within: function 79 -/
def impl_within.f (a0 : Int) (a1 : Int) (a2 : Int) : Option (Bool) := if a0 ≥ a1 then (some (decide (a0 ≤ a2))) else (some false)
set_option maxHeartbeats 8000000 in
set_option maxRecDepth 100000 in
theorem impl_within.calls (a0 : Int) (a1 : Int) (a2 : Int) (r : Bool) (w : World) (h : impl_within.f a0 a1 a2 = some r) :
    Calls Try.prog 79 #[.int .i64 a0, .int .i64 a1, .int .i64 a2] w fun e w' => e = .returned (.bool r) ∧ Drawn0 w w' := by
  have H : (if a0 ≥ a1 then (some (decide (a0 ≤ a2))) else (some false)) = some r := h
  clear h
  by_cases c4 : a0 ≥ a1
  · rw [if_pos c4] at H
    have c4b0 : decide (a1 ≤ a0) = true := decide_eq_true c4
    clear c4
    obtain rfl := Option.some.inj H
    go_enter Try.func79, Try.ntmps79
    go_wp2
    go_ret
    exact ⟨by first | rfl | (simp; done) | (simp [*]; done), by repeat (first | exact Drawn0.refl _ | apply Drawn0.step)⟩
  · rw [if_neg c4] at H
    have c4b0 : decide (a1 ≤ a0) = false := decide_eq_false c4
    clear c4
    obtain rfl := Option.some.inj H
    go_enter Try.func79, Try.ntmps79
    go_wp2
    go_ret
    exact ⟨by first | rfl | (simp; done) | (simp [*]; done), by repeat (first | exact Drawn0.refl _ | apply Drawn0.step)⟩

end Go.Proofs.Ytpkhoanaifpopaa.P
end
section
namespace Go.Proofs.Ytpkhoanaifpopaa.P
open Go.RowKit Go.Proofs.YtpkhoanaifpopaaW.PrintWords Go.Proofs.YtpkhoanaifpopaaW.PrintLast Go.Proofs.YtpkhoanaifpopaaW.PrintMore
attribute [local go_sem] max2_int min2_int max_two min_two max_three min_three max_four min_four   -- for this text's walks alone
set_option linter.unusedVariables false
set_option linter.unusedSimpArgs false

/-! ### impl_RegionsOk: function 78 -/
mutual
def impl_RegionsOk.l0 : Nat → List (S97) → List (S97) → Int → Int → Option (Bool)
  | 0, _, _, _, _ => none
  | k + 1, x0, x5, x6, x7 => if x7 < x6 then (if 0 ≤ x7 then (if x7 < (x5.length : Int) then ((impl_within.f ((rd_T97 x5 x7).f0) 0 (wrap64 (((rd_T97 x5 x7).f1) - 1))).bind fun t198 => (if t198 = true then ((impl_within.f ((rd_T97 x5 x7).f1) 1 64).bind fun t199 => (impl_RegionsOk.j1 k x0 x7 x5 x6 x7 (!t199) ((rd_T97 x5 x7).f0) ((rd_T97 x5 x7).f1) ((rd_T97 x5 x7).f2))) else (impl_RegionsOk.j1 k x0 x7 x5 x6 x7 true ((rd_T97 x5 x7).f0) ((rd_T97 x5 x7).f1) ((rd_T97 x5 x7).f2)))) else (none)) else (none)) else (some (decide ((x0.length : Int) ≤ 12)))
def impl_RegionsOk.j1 : Nat → List (S97) → Int → List (S97) → Int → Int → Bool → Int → Int → Bool → Option (Bool)
  | 0, _, _, _, _, _, _, _, _, _ => none
  | k + 1, x0, x3, x5, x6, x7, x24, x198000, x198001, x198002 => if x24 = true then (some false) else (if x3 > 0 then (if 0 ≤ (wrap64 (x3 - 1)) then (if (wrap64 (x3 - 1)) < (x0.length : Int) then (if ((rd_T97 x0 (wrap64 (x3 - 1))).f1) > x198000 then (some false) else (if ((rd_T97 x0 (wrap64 (x3 - 1))).f1) = x198000 then (if (((rd_T97 x0 (wrap64 (x3 - 1))).f2) == x198002) = true then (some false) else (impl_RegionsOk.l0 k x0 x5 x6 (wrap64 (x7 + 1)))) else (impl_RegionsOk.l0 k x0 x5 x6 (wrap64 (x7 + 1))))) else (none)) else (none)) else (impl_RegionsOk.l0 k x0 x5 x6 (wrap64 (x7 + 1))))
end
def impl_RegionsOk.f (k : Nat) (l0 : List (S97)) : Option (Bool) := impl_RegionsOk.l0 k l0 l0 (l0.length : Int) 0
theorem impl_RegionsOk.mono_l : ∀ k, (∀ y0 y1 y2 y3, LeO (impl_RegionsOk.l0 k y0 y1 y2 y3) (impl_RegionsOk.l0 (k + 1) y0 y1 y2 y3)) ∧ (∀ y0 y1 y2 y3 y4 y5 y6 y7 y8, LeO (impl_RegionsOk.j1 k y0 y1 y2 y3 y4 y5 y6 y7 y8) (impl_RegionsOk.j1 (k + 1) y0 y1 y2 y3 y4 y5 y6 y7 y8))
  | 0 => ⟨fun _ _ _ _ r h => by simp [impl_RegionsOk.l0] at h, fun _ _ _ _ _ _ _ _ _ r h => by simp [impl_RegionsOk.j1] at h⟩
  | k + 1 => by
    obtain ⟨ih0, ih1⟩ := impl_RegionsOk.mono_l k
    refine ⟨?_, ?_⟩
    · intro y0 y1 y2 y3
      unfold impl_RegionsOk.l0
      repeat' first
      | (with_reducible exact ih0 _ _ _ _)
      | (with_reducible exact ih1 _ _ _ _ _ _ _ _ _)
      | (with_reducible exact LeO.refl _)
      | (with_reducible exact LeO.none _)
      | (with_reducible refine LeO.ite ?_ ?_)
      | (with_reducible refine LeO.bind ?_ (fun _ => ?_))
      | exact ih0 _ _ _ _
      | exact ih1 _ _ _ _ _ _ _ _ _
      | exact LeO.none _
      | refine LeO.ite ?_ ?_
      | refine LeO.bind ?_ (fun _ => ?_)
    · intro y0 y1 y2 y3 y4 y5 y6 y7 y8
      unfold impl_RegionsOk.j1
      repeat' first
      | (with_reducible exact ih0 _ _ _ _)
      | (with_reducible exact ih1 _ _ _ _ _ _ _ _ _)
      | (with_reducible exact LeO.refl _)
      | (with_reducible exact LeO.none _)
      | (with_reducible refine LeO.ite ?_ ?_)
      | (with_reducible refine LeO.bind ?_ (fun _ => ?_))
      | exact ih0 _ _ _ _
      | exact ih1 _ _ _ _ _ _ _ _ _
      | exact LeO.none _
      | refine LeO.ite ?_ ?_
      | refine LeO.bind ?_ (fun _ => ?_)
theorem impl_RegionsOk.mono : ∀ a0 k, LeO (impl_RegionsOk.f k a0) (impl_RegionsOk.f (k + 1) a0) := by
  intro a0 k
  obtain ⟨ih0, ih1⟩ := impl_RegionsOk.mono_l k
  unfold impl_RegionsOk.f
  repeat' first
      | (with_reducible exact ih0 _ _ _ _)
      | (with_reducible exact ih1 _ _ _ _ _ _ _ _ _)
      | (with_reducible exact LeO.refl _)
      | (with_reducible exact LeO.none _)
      | (with_reducible refine LeO.ite ?_ ?_)
      | (with_reducible refine LeO.bind ?_ (fun _ => ?_))
      | exact ih0 _ _ _ _
      | exact ih1 _ _ _ _ _ _ _ _ _
      | exact LeO.none _
      | refine LeO.ite ?_ ?_
      | refine LeO.bind ?_ (fun _ => ?_)
set_option maxHeartbeats 8000000 in
set_option maxRecDepth 100000 in
theorem impl_RegionsOk.calls (k : Nat) (A0 : Option Addr) (c0 : Nat) (l0 : List (S97)) (r : Bool) (w : World) (hr0 : Kd.C k97 w A0 l0.length l0) (hc0 : l0.length ≤ c0) (h : impl_RegionsOk.f k l0 = some r) :
    Calls Try.prog 78 #[.slice A0 l0.length c0] w fun e w' => e = .returned (.bool r) ∧ Below w.heap.size w w' := by
  have hu97 := Try.underlying97
  have HR0 := Aside0.mk hr0
  have HC0 := Aside0.mk hc0
  clear hr0 hc0
  have HB := Aside0.mk (Below.refl w.heap.size w)
  have H : (impl_RegionsOk.l0 k l0 l0 (l0.length : Int) 0) = some r := h
  clear h
  have H' := Aside0.mk H
  clear H
  go_enter Try.func78, Try.ntmps78
  go_wp2
  repeat (go_quiet (fail); try go_wp2)
  go_loopg [7] k (fun kq v7 w' => ∃ (x7_1 : Int), v7 = .int .i64 x7_1 ∧ Aside0 (impl_RegionsOk.l0 kq l0 l0 (l0.length : Int) x7_1 = some r) ∧ Aside0 (kq ≤ k) ∧ Aside0 (Below w.heap.size w w'))
  case atStart => exact ⟨(0), (by first | rfl | (simp; done) | (simp [*]; done)), H', ⟨Nat.le_refl _⟩, ⟨by repeat (first | (with_reducible first | exact HB.out | apply below_alloc | apply pw_below_drewN | apply below_drew1) | exact HB.out)⟩⟩
  case round =>
    clear H'
    obtain ⟨x7_1, rfl, HA, HK1, HB⟩ := hrel
    cases gk with
    | zero => exact absurd HA.out (by simp [impl_RegionsOk.l0])
    | succ k1 =>
      have H := HA.out
      clear HA
      simp only [impl_RegionsOk.l0] at H
      by_cases c2 : x7_1 < (l0.length : Int)
      · rw [if_pos c2] at H
        have c2b0 : decide (x7_1 < (l0.length : Int)) = true := decide_eq_true c2
        clear c2
        by_cases c3 : 0 ≤ x7_1
        · rw [if_pos c3] at H
          have c3b0 : decide (0 ≤ x7_1) = true := decide_eq_true c3
          clear c3
          by_cases c4 : x7_1 < (l0.length : Int)
          · rw [if_pos c4] at H
            have c4b0 : decide (x7_1 < (l0.length : Int)) = true := decide_eq_true c4
            clear c4
            have HC5 := Aside0.mk H
            clear H
            have p196 : 0 ≤ (x7_1 : Int) := of_decide_eq_true (by first | (with_reducible assumption) | assumption)
            have q196 : x7_1 < (l0.length : Int) := of_decide_eq_true (by first | (with_reducible assumption) | assumption)
            obtain ⟨ad196, e196, hx196_0, hx196_1, hx196_2⟩ := at_T97 HR0.out x7_1 p196 q196
            cases e196
            replace hx196_0 := (HB.out.cell (World.block_lt_of_cell? w _ hx196_0)).trans hx196_0
            replace hx196_1 := (HB.out.cell (World.block_lt_of_cell? w _ hx196_1)).trans hx196_1
            replace hx196_2 := (HB.out.cell (World.block_lt_of_cell? w _ hx196_2)).trans hx196_2
            replace p196 := eq_true p196
            replace q196 := eq_true q196
            go_upto_region 4 with (first | ((with_reducible refine gate_dst (N := 4) rfl ?_); refine box_event ?hg (N := 4) ?hd (cs := #[.int .i64 0, .int .i64 0, .bool false]) (t := 97) ?hr ?_; (case hd => rfl); (case hg => rfl); (case hr => first | (go_simp; done) | (go_simp; rfl)); intro gb197 hg w6 hbox hb; have n0_ := Aside0.mk (below_step (by repeat (first | (with_reducible first | exact HB.out | apply below_alloc | apply pw_below_drewN | apply below_drew1) | exact HB.out)) hb); have n1_ := Aside0.mk (hbox); have n2_ := Aside0.mk ((by rw [hg]; exact (below_size (by repeat (first | (with_reducible first | exact HB.out | apply below_alloc | apply pw_below_drewN | apply below_drew1) | exact HB.out))) : w.heap.size ≤ gb197)); have n3_ := Aside0.mk ((by rw [hg]; exact (below_size (by repeat (first | (with_reducible first | exact HB.out | apply below_alloc | apply pw_below_drewN | apply below_drew1) | exact HB.out))) : w.heap.size ≤ gb197)); clear HB; have HB := n0_; have BK197 := n1_; have GW197 := n2_; have GE197 := n3_; clear n0_ n1_ n2_ n3_; clear hb hbox hg; have hcz7_0 : w6.cell? ⟨gb197, 0, none⟩ = some (.int .i64 0) := (blk_cell BK197.out 0).trans rfl; have hcz7_1 : w6.cell? ⟨gb197, 1, none⟩ = some (.int .i64 0) := (blk_cell BK197.out 1).trans rfl; have hcz7_2 : w6.cell? ⟨gb197, 2, none⟩ = some (.bool false) := (blk_cell BK197.out 2).trans rfl; have hfz7_0 := blk_frozen BK197.out 0; have hfz7_1 := blk_frozen BK197.out 1; have hfz7_2 := blk_frozen BK197.out 2))
            repeat (go_quiet (first | ((with_reducible refine gate_dst (N := 4) rfl ?_); refine box_event ?hg (N := 4) ?hd (cs := #[.int .i64 0, .int .i64 0, .bool false]) (t := 97) ?hr ?_; (case hd => rfl); (case hg => rfl); (case hr => first | (go_simp; done) | (go_simp; rfl)); intro gb197 hg w6 hbox hb; have n0_ := Aside0.mk (below_step (by repeat (first | (with_reducible first | exact HB.out | apply below_alloc | apply pw_below_drewN | apply below_drew1) | exact HB.out)) hb); have n1_ := Aside0.mk (hbox); have n2_ := Aside0.mk ((by rw [hg]; exact (below_size (by repeat (first | (with_reducible first | exact HB.out | apply below_alloc | apply pw_below_drewN | apply below_drew1) | exact HB.out))) : w.heap.size ≤ gb197)); have n3_ := Aside0.mk ((by rw [hg]; exact (below_size (by repeat (first | (with_reducible first | exact HB.out | apply below_alloc | apply pw_below_drewN | apply below_drew1) | exact HB.out))) : w.heap.size ≤ gb197)); clear HB; have HB := n0_; have BK197 := n1_; have GW197 := n2_; have GE197 := n3_; clear n0_ n1_ n2_ n3_; clear hb hbox hg; have hcz7_0 : w6.cell? ⟨gb197, 0, none⟩ = some (.int .i64 0) := (blk_cell BK197.out 0).trans rfl; have hcz7_1 : w6.cell? ⟨gb197, 1, none⟩ = some (.int .i64 0) := (blk_cell BK197.out 1).trans rfl; have hcz7_2 : w6.cell? ⟨gb197, 2, none⟩ = some (.bool false) := (blk_cell BK197.out 2).trans rfl; have hfz7_0 := blk_frozen BK197.out 0; have hfz7_1 := blk_frozen BK197.out 1; have hfz7_2 := blk_frozen BK197.out 2)); go_upto_region 4 with (first | ((with_reducible refine gate_dst (N := 4) rfl ?_); refine box_event ?hg (N := 4) ?hd (cs := #[.int .i64 0, .int .i64 0, .bool false]) (t := 97) ?hr ?_; (case hd => rfl); (case hg => rfl); (case hr => first | (go_simp; done) | (go_simp; rfl)); intro gb197 hg w6 hbox hb; have n0_ := Aside0.mk (below_step (by repeat (first | (with_reducible first | exact HB.out | apply below_alloc | apply pw_below_drewN | apply below_drew1) | exact HB.out)) hb); have n1_ := Aside0.mk (hbox); have n2_ := Aside0.mk ((by rw [hg]; exact (below_size (by repeat (first | (with_reducible first | exact HB.out | apply below_alloc | apply pw_below_drewN | apply below_drew1) | exact HB.out))) : w.heap.size ≤ gb197)); have n3_ := Aside0.mk ((by rw [hg]; exact (below_size (by repeat (first | (with_reducible first | exact HB.out | apply below_alloc | apply pw_below_drewN | apply below_drew1) | exact HB.out))) : w.heap.size ≤ gb197)); clear HB; have HB := n0_; have BK197 := n1_; have GW197 := n2_; have GE197 := n3_; clear n0_ n1_ n2_ n3_; clear hb hbox hg; have hcz7_0 : w6.cell? ⟨gb197, 0, none⟩ = some (.int .i64 0) := (blk_cell BK197.out 0).trans rfl; have hcz7_1 : w6.cell? ⟨gb197, 1, none⟩ = some (.int .i64 0) := (blk_cell BK197.out 1).trans rfl; have hcz7_2 : w6.cell? ⟨gb197, 2, none⟩ = some (.bool false) := (blk_cell BK197.out 2).trans rfl; have hfz7_0 := blk_frozen BK197.out 0; have hfz7_1 := blk_frozen BK197.out 1; have hfz7_2 := blk_frozen BK197.out 2)))
            (try simp only [Act.put, List.setIfInBounds_toArray, List.set_cons_zero, List.set_cons_succ])
            go_cut [24] (fun v24 wc => ∃ (kq : Nat) (x24_4 : Bool), v24 = .bool x24_4 ∧ Aside0 (impl_RegionsOk.j1 kq l0 x7_1 l0 (l0.length : Int) x7_1 x24_4 ((rd_T97 l0 x7_1).f0) ((rd_T97 l0 x7_1).f1) ((rd_T97 l0 x7_1).f2) = some r) ∧ Aside0 (kq ≤ k1) ∧ Aside0 (wc.heap[gb197]? = some (.cells #[.int .i64 ((rd_T97 l0 x7_1).f0), .int .i64 ((rd_T97 l0 x7_1).f1), .bool ((rd_T97 l0 x7_1).f2)] 97 (0, 0))) ∧ Aside0 (Below w.heap.size w wc))
            case first =>
              have H := HC5.out
              clear HC5
              replace H := Option.bind_eq_some_iff.mp H
              obtain ⟨t198, A80, H⟩ := H
              replace H : (if t198 = true then ((impl_within.f ((rd_T97 l0 x7_1).f1) 1 64).bind fun t199 => (impl_RegionsOk.j1 k1 l0 x7_1 l0 (l0.length : Int) x7_1 (!t199) ((rd_T97 l0 x7_1).f0) ((rd_T97 l0 x7_1).f1) ((rd_T97 l0 x7_1).f2))) else (impl_RegionsOk.j1 k1 l0 x7_1 l0 (l0.length : Int) x7_1 true ((rd_T97 l0 x7_1).f0) ((rd_T97 l0 x7_1).f1) ((rd_T97 l0 x7_1).f2))) = some r := H
              have A8 := Aside0.mk A80
              clear A80
              by_cases c9 : t198 = true
              · subst c9
                have H1 : ((impl_within.f ((rd_T97 l0 x7_1).f1) 1 64).bind fun t199 => (impl_RegionsOk.j1 k1 l0 x7_1 l0 (l0.length : Int) x7_1 (!t199) ((rd_T97 l0 x7_1).f0) ((rd_T97 l0 x7_1).f1) ((rd_T97 l0 x7_1).f2))) = some r := by rw [if_pos rfl] at H; exact H
                clear H
                have H := H1
                clear H1
                replace H := Option.bind_eq_some_iff.mp H
                obtain ⟨t199, A100, H⟩ := H
                replace H : (impl_RegionsOk.j1 k1 l0 x7_1 l0 (l0.length : Int) x7_1 (!t199) ((rd_T97 l0 x7_1).f0) ((rd_T97 l0 x7_1).f1) ((rd_T97 l0 x7_1).f2)) = some r := H
                have A10 := Aside0.mk A100
                clear A100
                have H' := Aside0.mk H
                clear H
                have hcz11_0 : w6.cell? ⟨gb197, 0, none⟩ = some (.int .i64 0) := (blk_cell BK197.out 0).trans rfl
                have hcz11_1 : w6.cell? ⟨gb197, 1, none⟩ = some (.int .i64 0) := (blk_cell BK197.out 1).trans rfl
                have hcz11_2 : w6.cell? ⟨gb197, 2, none⟩ = some (.bool false) := (blk_cell BK197.out 2).trans rfl
                have hfz11_0 := blk_frozen BK197.out 0
                have hfz11_1 := blk_frozen BK197.out 1
                have hfz11_2 := blk_frozen BK197.out 2
                go_wp2_with (first | (go_at_call 79; (with_reducible refine (impl_within.calls ((rd_T97 l0 x7_1).f0) 0 (wrap64 (((rd_T97 l0 x7_1).f1) - 1)) true _ A8.out).mono ?_); rintro e w' ⟨rfl, ⟨nd, rfl⟩⟩; (try first | exact ⟨rfl, _, World.drewN_drewN _ _ _⟩ | exact ⟨rfl, _, Eq.trans (World.drewN_drewN _ _ _) (congrArg (World.drewN _) (Nat.add_assoc _ _ _))⟩)) | (go_at_call 79; (with_reducible refine (impl_within.calls ((rd_T97 l0 x7_1).f1) 1 64 t199 _ A10.out).mono ?_); rintro e w' ⟨rfl, ⟨nd, rfl⟩⟩; (try first | exact ⟨rfl, _, World.drewN_drewN _ _ _⟩ | exact ⟨rfl, _, Eq.trans (World.drewN_drewN _ _ _) (congrArg (World.drewN _) (Nat.add_assoc _ _ _))⟩)))
                repeat (go_quiet (first | (go_at_call 79; (with_reducible refine (impl_within.calls ((rd_T97 l0 x7_1).f0) 0 (wrap64 (((rd_T97 l0 x7_1).f1) - 1)) true _ A8.out).mono ?_); rintro e w' ⟨rfl, ⟨nd, rfl⟩⟩; (try first | exact ⟨rfl, _, World.drewN_drewN _ _ _⟩ | exact ⟨rfl, _, Eq.trans (World.drewN_drewN _ _ _) (congrArg (World.drewN _) (Nat.add_assoc _ _ _))⟩)) | (go_at_call 79; (with_reducible refine (impl_within.calls ((rd_T97 l0 x7_1).f1) 1 64 t199 _ A10.out).mono ?_); rintro e w' ⟨rfl, ⟨nd, rfl⟩⟩; (try first | exact ⟨rfl, _, World.drewN_drewN _ _ _⟩ | exact ⟨rfl, _, Eq.trans (World.drewN_drewN _ _ _) (congrArg (World.drewN _) (Nat.add_assoc _ _ _))⟩))); try go_wp2_with (first | (go_at_call 79; (with_reducible refine (impl_within.calls ((rd_T97 l0 x7_1).f0) 0 (wrap64 (((rd_T97 l0 x7_1).f1) - 1)) true _ A8.out).mono ?_); rintro e w' ⟨rfl, ⟨nd, rfl⟩⟩; (try first | exact ⟨rfl, _, World.drewN_drewN _ _ _⟩ | exact ⟨rfl, _, Eq.trans (World.drewN_drewN _ _ _) (congrArg (World.drewN _) (Nat.add_assoc _ _ _))⟩)) | (go_at_call 79; (with_reducible refine (impl_within.calls ((rd_T97 l0 x7_1).f1) 1 64 t199 _ A10.out).mono ?_); rintro e w' ⟨rfl, ⟨nd, rfl⟩⟩; (try first | exact ⟨rfl, _, World.drewN_drewN _ _ _⟩ | exact ⟨rfl, _, Eq.trans (World.drewN_drewN _ _ _) (congrArg (World.drewN _) (Nat.add_assoc _ _ _))⟩))))
                go_meet
                case rel => exact ⟨_, (!t199), (by first | rfl | (simp; done) | (simp [*]; done)), H', ⟨by have := HK1.out; first | omega | exact Nat.le_refl _⟩, ⟨by (with_reducible repeat (first | refine blk_drewN ?_ _ | refine blk_drew ?_ | refine blk_alloc ?_ _)); refine blk_put (cs := #[.int .i64 ((rd_T97 l0 x7_1).f0), .int .i64 ((rd_T97 l0 x7_1).f1), .bool false]) ?_ 2 _ rfl; (with_reducible repeat (first | refine blk_drewN ?_ _ | refine blk_drew ?_ | refine blk_alloc ?_ _)); refine blk_put (cs := #[.int .i64 ((rd_T97 l0 x7_1).f0), .int .i64 0, .bool false]) ?_ 1 _ rfl; (with_reducible repeat (first | refine blk_drewN ?_ _ | refine blk_drew ?_ | refine blk_alloc ?_ _)); refine blk_put (cs := #[.int .i64 0, .int .i64 0, .bool false]) ?_ 0 _ rfl; (with_reducible repeat (first | refine blk_drewN ?_ _ | refine blk_drew ?_ | refine blk_alloc ?_ _)); exact BK197.out⟩, ⟨by repeat (first | (with_reducible first | exact HB.out | apply below_alloc | apply pw_below_drewN | apply below_drew1 | refine below_set ?_ GE197.out) | exact HB.out)⟩⟩
              · replace c9 := Bool.eq_false_iff.mpr c9
                subst c9
                have H1 : (impl_RegionsOk.j1 k1 l0 x7_1 l0 (l0.length : Int) x7_1 true ((rd_T97 l0 x7_1).f0) ((rd_T97 l0 x7_1).f1) ((rd_T97 l0 x7_1).f2)) = some r := by rw [if_neg (show ¬ (false = true) by decide)] at H; exact H
                clear H
                have H := H1
                clear H1
                have H' := Aside0.mk H
                clear H
                have hcz12_0 : w6.cell? ⟨gb197, 0, none⟩ = some (.int .i64 0) := (blk_cell BK197.out 0).trans rfl
                have hcz12_1 : w6.cell? ⟨gb197, 1, none⟩ = some (.int .i64 0) := (blk_cell BK197.out 1).trans rfl
                have hcz12_2 : w6.cell? ⟨gb197, 2, none⟩ = some (.bool false) := (blk_cell BK197.out 2).trans rfl
                have hfz12_0 := blk_frozen BK197.out 0
                have hfz12_1 := blk_frozen BK197.out 1
                have hfz12_2 := blk_frozen BK197.out 2
                go_wp2_with (first | (go_at_call 79; (with_reducible refine (impl_within.calls ((rd_T97 l0 x7_1).f0) 0 (wrap64 (((rd_T97 l0 x7_1).f1) - 1)) false _ A8.out).mono ?_); rintro e w' ⟨rfl, ⟨nd, rfl⟩⟩; (try first | exact ⟨rfl, _, World.drewN_drewN _ _ _⟩ | exact ⟨rfl, _, Eq.trans (World.drewN_drewN _ _ _) (congrArg (World.drewN _) (Nat.add_assoc _ _ _))⟩)))
                repeat (go_quiet (first | (go_at_call 79; (with_reducible refine (impl_within.calls ((rd_T97 l0 x7_1).f0) 0 (wrap64 (((rd_T97 l0 x7_1).f1) - 1)) false _ A8.out).mono ?_); rintro e w' ⟨rfl, ⟨nd, rfl⟩⟩; (try first | exact ⟨rfl, _, World.drewN_drewN _ _ _⟩ | exact ⟨rfl, _, Eq.trans (World.drewN_drewN _ _ _) (congrArg (World.drewN _) (Nat.add_assoc _ _ _))⟩))); try go_wp2_with (first | (go_at_call 79; (with_reducible refine (impl_within.calls ((rd_T97 l0 x7_1).f0) 0 (wrap64 (((rd_T97 l0 x7_1).f1) - 1)) false _ A8.out).mono ?_); rintro e w' ⟨rfl, ⟨nd, rfl⟩⟩; (try first | exact ⟨rfl, _, World.drewN_drewN _ _ _⟩ | exact ⟨rfl, _, Eq.trans (World.drewN_drewN _ _ _) (congrArg (World.drewN _) (Nat.add_assoc _ _ _))⟩))))
                go_meet
                case rel => exact ⟨_, (true), (by first | rfl | (simp; done) | (simp [*]; done)), H', ⟨by have := HK1.out; first | omega | exact Nat.le_refl _⟩, ⟨by (with_reducible repeat (first | refine blk_drewN ?_ _ | refine blk_drew ?_ | refine blk_alloc ?_ _)); refine blk_put (cs := #[.int .i64 ((rd_T97 l0 x7_1).f0), .int .i64 ((rd_T97 l0 x7_1).f1), .bool false]) ?_ 2 _ rfl; (with_reducible repeat (first | refine blk_drewN ?_ _ | refine blk_drew ?_ | refine blk_alloc ?_ _)); refine blk_put (cs := #[.int .i64 ((rd_T97 l0 x7_1).f0), .int .i64 0, .bool false]) ?_ 1 _ rfl; (with_reducible repeat (first | refine blk_drewN ?_ _ | refine blk_drew ?_ | refine blk_alloc ?_ _)); refine blk_put (cs := #[.int .i64 0, .int .i64 0, .bool false]) ?_ 0 _ rfl; (with_reducible repeat (first | refine blk_drewN ?_ _ | refine blk_drew ?_ | refine blk_alloc ?_ _)); exact BK197.out⟩, ⟨by repeat (first | (with_reducible first | exact HB.out | apply below_alloc | apply pw_below_drewN | apply below_drew1 | refine below_set ?_ GE197.out) | exact HB.out)⟩⟩
            case rest =>
              clear HC5
              try clear p1
              try clear q1
              try clear hx1
              try clear c2
              try clear c2b0
              try clear p2
              try clear c3
              try clear c3b0
              try clear c4
              try clear c4b0
              try clear p6
              try clear c7
              try clear c9
              try clear hcz11_0
              try clear hcz11_1
              try clear hcz11_2
              try clear hcz12_0
              try clear hcz12_1
              try clear hcz12_2
              try clear hcz7_0
              try clear hcz7_1
              try clear hcz7_2
              try clear hfz11_0
              try clear hfz11_1
              try clear hfz11_2
              try clear hfz12_0
              try clear hfz12_1
              try clear hfz12_2
              try clear hfz7_0
              try clear hfz7_1
              try clear hfz7_2
              try clear hx196_0
              try clear hx196_1
              try clear hx196_2
              try clear p196
              try clear q196
              obtain ⟨kq, x24_4, rfl, HA, HJ4, BK197, HB⟩ := hcut
              cases kq with
              | zero => exact absurd HA.out (by simp [impl_RegionsOk.j1])
              | succ kj4 =>
                have H := HA.out
                clear HA
                simp only [impl_RegionsOk.j1] at H
                by_cases c13 : x24_4 = true
                · subst c13
                  have H1 : (some false) = some r := by rw [if_pos rfl] at H; exact H
                  clear H
                  have H := H1
                  clear H1
                  obtain rfl := Option.some.inj H
                  go_wp2
                  repeat (go_quiet (fail); try go_wp2)
                  go_ret
                  exact ⟨by first | rfl | (simp [errW_none, errW_some] <;> rfl) | (simp [*, errW_none, errW_some] <;> rfl), by repeat (first | (with_reducible first | exact HB.out | apply below_alloc | apply pw_below_drewN | apply below_drew1 | refine below_set ?_ GE197.out) | exact HB.out)⟩
                · replace c13 := Bool.eq_false_iff.mpr c13
                  subst c13
                  have H1 : (if x7_1 > 0 then (if 0 ≤ (wrap64 (x7_1 - 1)) then (if (wrap64 (x7_1 - 1)) < (l0.length : Int) then (if ((rd_T97 l0 (wrap64 (x7_1 - 1))).f1) > ((rd_T97 l0 x7_1).f0) then (some false) else (if ((rd_T97 l0 (wrap64 (x7_1 - 1))).f1) = ((rd_T97 l0 x7_1).f0) then (if (((rd_T97 l0 (wrap64 (x7_1 - 1))).f2) == ((rd_T97 l0 x7_1).f2)) = true then (some false) else (impl_RegionsOk.l0 kj4 l0 l0 (l0.length : Int) (wrap64 (x7_1 + 1)))) else (impl_RegionsOk.l0 kj4 l0 l0 (l0.length : Int) (wrap64 (x7_1 + 1))))) else (none)) else (none)) else (impl_RegionsOk.l0 kj4 l0 l0 (l0.length : Int) (wrap64 (x7_1 + 1)))) = some r := by rw [if_neg (show ¬ (false = true) by decide)] at H; exact H
                  clear H
                  have H := H1
                  clear H1
                  by_cases c14 : x7_1 > 0
                  · rw [if_pos c14] at H
                    have c14b0 : decide (0 < x7_1) = true := decide_eq_true c14
                    clear c14
                    obtain ⟨ji15, hji15⟩ : ∃ j_ : Int, (wrap64 (x7_1 - 1)) = j_ := ⟨_, rfl⟩
                    replace H : (if 0 ≤ (ji15) then (if (ji15) < (l0.length : Int) then (if ((rd_T97 l0 (ji15)).f1) > ((rd_T97 l0 x7_1).f0) then (some false) else (if ((rd_T97 l0 (ji15)).f1) = ((rd_T97 l0 x7_1).f0) then (if (((rd_T97 l0 (ji15)).f2) == ((rd_T97 l0 x7_1).f2)) = true then (some false) else (impl_RegionsOk.l0 kj4 l0 l0 (l0.length : Int) (wrap64 (x7_1 + 1)))) else (impl_RegionsOk.l0 kj4 l0 l0 (l0.length : Int) (wrap64 (x7_1 + 1))))) else (none)) else (none)) = some r := by first | (rw [hji15] at H; exact H) | (simp only [hji15] at H ⊢; exact H)
                    have hji15w : (IntKind.i64.wrap (x7_1 - 1)) = ji15 := (i64_w _).trans hji15
                    by_cases c16 : 0 ≤ (ji15)
                    · rw [if_pos c16] at H
                      have c16b0 : decide (0 ≤ (ji15)) = true := decide_eq_true c16
                      clear c16
                      by_cases c17 : (ji15) < (l0.length : Int)
                      · rw [if_pos c17] at H
                        have c17b0 : decide ((ji15) < (l0.length : Int)) = true := decide_eq_true c17
                        clear c17
                        by_cases c18 : ((rd_T97 l0 (ji15)).f1) > ((rd_T97 l0 x7_1).f0)
                        · rw [if_pos c18] at H
                          have c18b0 : decide (((rd_T97 l0 x7_1).f0) < ((rd_T97 l0 (ji15)).f1)) = true := decide_eq_true c18
                          clear c18
                          obtain rfl := Option.some.inj H
                          have p200 : 0 ≤ ((ji15) : Int) := of_decide_eq_true (by first | (with_reducible assumption) | assumption)
                          have q200 : (ji15) < (l0.length : Int) := of_decide_eq_true (by first | (with_reducible assumption) | assumption)
                          obtain ⟨ad200, e200, hx200_0, hx200_1, hx200_2⟩ := at_T97 HR0.out (ji15) p200 q200
                          obtain rfl : ad196 = ad200 := (by injection e200)
                          replace hx200_0 := (HB.out.cell (World.block_lt_of_cell? w _ hx200_0)).trans hx200_0
                          replace hx200_1 := (HB.out.cell (World.block_lt_of_cell? w _ hx200_1)).trans hx200_1
                          replace hx200_2 := (HB.out.cell (World.block_lt_of_cell? w _ hx200_2)).trans hx200_2
                          replace p200 := eq_true p200
                          replace q200 := eq_true q200
                          have hcz19_0 : wc.cell? ⟨gb197, 0, none⟩ = some (.int .i64 ((rd_T97 l0 x7_1).f0)) := (blk_cell BK197.out 0).trans rfl
                          have hcz19_1 : wc.cell? ⟨gb197, 1, none⟩ = some (.int .i64 ((rd_T97 l0 x7_1).f1)) := (blk_cell BK197.out 1).trans rfl
                          have hcz19_2 : wc.cell? ⟨gb197, 2, none⟩ = some (.bool ((rd_T97 l0 x7_1).f2)) := (blk_cell BK197.out 2).trans rfl
                          have hfz19_0 := blk_frozen BK197.out 0
                          have hfz19_1 := blk_frozen BK197.out 1
                          have hfz19_2 := blk_frozen BK197.out 2
                          go_wp2
                          repeat (go_quiet (fail); try go_wp2)
                          go_ret
                          exact ⟨by first | rfl | (simp [errW_none, errW_some] <;> rfl) | (simp only [← hji15]; first | rfl | (simp [errW_none, errW_some] <;> rfl)) | (simp [*, errW_none, errW_some] <;> rfl), by repeat (first | (with_reducible first | exact HB.out | apply below_alloc | apply pw_below_drewN | apply below_drew1 | refine below_set ?_ GE197.out) | exact HB.out)⟩
                        · rw [if_neg c18] at H
                          have c18b0 : decide (((rd_T97 l0 x7_1).f0) < ((rd_T97 l0 (ji15)).f1)) = false := decide_eq_false c18
                          clear c18
                          by_cases c20 : ((rd_T97 l0 (ji15)).f1) = ((rd_T97 l0 x7_1).f0)
                          · rw [if_pos c20] at H
                            have c20b0 : (((rd_T97 l0 (ji15)).f1) == ((rd_T97 l0 x7_1).f0)) = true := beq_iff_eq.mpr c20
                            have c20b1 : (((rd_T97 l0 (ji15)).f1) != ((rd_T97 l0 x7_1).f0)) = false := bne_eq_false_iff_eq.mpr c20
                            clear c20
                            by_cases c21 : (((rd_T97 l0 (ji15)).f2) == ((rd_T97 l0 x7_1).f2)) = true
                            · rw [if_pos c21] at H
                              have c21b0 : (((rd_T97 l0 (ji15)).f2) == ((rd_T97 l0 x7_1).f2)) = true := c21
                              (try (have c21b1 : decide (((rd_T97 l0 (ji15)).f2) = ((rd_T97 l0 x7_1).f2)) = true := by simpa using c21))
                              (try (have c21b2 : (((rd_T97 l0 (ji15)).f2) == ((rd_T97 l0 x7_1).f2)) = true := by simpa using c21))
                              clear c21
                              obtain rfl := Option.some.inj H
                              have p200 : 0 ≤ ((ji15) : Int) := of_decide_eq_true (by first | (with_reducible assumption) | assumption)
                              have q200 : (ji15) < (l0.length : Int) := of_decide_eq_true (by first | (with_reducible assumption) | assumption)
                              obtain ⟨ad200, e200, hx200_0, hx200_1, hx200_2⟩ := at_T97 HR0.out (ji15) p200 q200
                              obtain rfl : ad196 = ad200 := (by injection e200)
                              replace hx200_0 := (HB.out.cell (World.block_lt_of_cell? w _ hx200_0)).trans hx200_0
                              replace hx200_1 := (HB.out.cell (World.block_lt_of_cell? w _ hx200_1)).trans hx200_1
                              replace hx200_2 := (HB.out.cell (World.block_lt_of_cell? w _ hx200_2)).trans hx200_2
                              replace p200 := eq_true p200
                              replace q200 := eq_true q200
                              have hcz22_0 : wc.cell? ⟨gb197, 0, none⟩ = some (.int .i64 ((rd_T97 l0 x7_1).f0)) := (blk_cell BK197.out 0).trans rfl
                              have hcz22_1 : wc.cell? ⟨gb197, 1, none⟩ = some (.int .i64 ((rd_T97 l0 x7_1).f1)) := (blk_cell BK197.out 1).trans rfl
                              have hcz22_2 : wc.cell? ⟨gb197, 2, none⟩ = some (.bool ((rd_T97 l0 x7_1).f2)) := (blk_cell BK197.out 2).trans rfl
                              have hfz22_0 := blk_frozen BK197.out 0
                              have hfz22_1 := blk_frozen BK197.out 1
                              have hfz22_2 := blk_frozen BK197.out 2
                              have p201 : 0 ≤ ((ji15) : Int) := of_decide_eq_true (by first | (with_reducible assumption) | assumption)
                              have q201 : (ji15) < (l0.length : Int) := of_decide_eq_true (by first | (with_reducible assumption) | assumption)
                              obtain ⟨ad201, e201, hx201_0, hx201_1, hx201_2⟩ := at_T97 HR0.out (ji15) p201 q201
                              obtain rfl : ad196 = ad201 := (by injection e201)
                              replace hx201_0 := (HB.out.cell (World.block_lt_of_cell? w _ hx201_0)).trans hx201_0
                              replace hx201_1 := (HB.out.cell (World.block_lt_of_cell? w _ hx201_1)).trans hx201_1
                              replace hx201_2 := (HB.out.cell (World.block_lt_of_cell? w _ hx201_2)).trans hx201_2
                              replace p201 := eq_true p201
                              replace q201 := eq_true q201
                              have p202 : 0 ≤ ((ji15) : Int) := of_decide_eq_true (by first | (with_reducible assumption) | assumption)
                              have q202 : (ji15) < (l0.length : Int) := of_decide_eq_true (by first | (with_reducible assumption) | assumption)
                              obtain ⟨ad202, e202, hx202_0, hx202_1, hx202_2⟩ := at_T97 HR0.out (ji15) p202 q202
                              obtain rfl : ad196 = ad202 := (by injection e202)
                              replace hx202_0 := (HB.out.cell (World.block_lt_of_cell? w _ hx202_0)).trans hx202_0
                              replace hx202_1 := (HB.out.cell (World.block_lt_of_cell? w _ hx202_1)).trans hx202_1
                              replace hx202_2 := (HB.out.cell (World.block_lt_of_cell? w _ hx202_2)).trans hx202_2
                              replace p202 := eq_true p202
                              replace q202 := eq_true q202
                              go_wp2
                              repeat (go_quiet (fail); try go_wp2)
                              go_ret
                              exact ⟨by first | rfl | (simp [errW_none, errW_some] <;> rfl) | (simp only [← hji15]; first | rfl | (simp [errW_none, errW_some] <;> rfl)) | (simp [*, errW_none, errW_some] <;> rfl), by repeat (first | (with_reducible first | exact HB.out | apply below_alloc | apply pw_below_drewN | apply below_drew1 | refine below_set ?_ GE197.out) | exact HB.out)⟩
                            · rw [if_neg c21] at H
                              have c21b0 : (((rd_T97 l0 (ji15)).f2) == ((rd_T97 l0 x7_1).f2)) = false := by simpa using c21
                              (try (have c21b1 : decide (((rd_T97 l0 (ji15)).f2) = ((rd_T97 l0 x7_1).f2)) = false := by simpa using c21))
                              (try (have c21b2 : (((rd_T97 l0 (ji15)).f2) == ((rd_T97 l0 x7_1).f2)) = false := by simpa using c21))
                              (try (have c21b3 : ¬ (((rd_T97 l0 (ji15)).f2) = ((rd_T97 l0 x7_1).f2)) := by simpa using c21))
                              clear c21
                              have H' := Aside0.mk H
                              clear H
                              have p200 : 0 ≤ ((ji15) : Int) := of_decide_eq_true (by first | (with_reducible assumption) | assumption)
                              have q200 : (ji15) < (l0.length : Int) := of_decide_eq_true (by first | (with_reducible assumption) | assumption)
                              obtain ⟨ad200, e200, hx200_0, hx200_1, hx200_2⟩ := at_T97 HR0.out (ji15) p200 q200
                              obtain rfl : ad196 = ad200 := (by injection e200)
                              replace hx200_0 := (HB.out.cell (World.block_lt_of_cell? w _ hx200_0)).trans hx200_0
                              replace hx200_1 := (HB.out.cell (World.block_lt_of_cell? w _ hx200_1)).trans hx200_1
                              replace hx200_2 := (HB.out.cell (World.block_lt_of_cell? w _ hx200_2)).trans hx200_2
                              replace p200 := eq_true p200
                              replace q200 := eq_true q200
                              have hcz23_0 : wc.cell? ⟨gb197, 0, none⟩ = some (.int .i64 ((rd_T97 l0 x7_1).f0)) := (blk_cell BK197.out 0).trans rfl
                              have hcz23_1 : wc.cell? ⟨gb197, 1, none⟩ = some (.int .i64 ((rd_T97 l0 x7_1).f1)) := (blk_cell BK197.out 1).trans rfl
                              have hcz23_2 : wc.cell? ⟨gb197, 2, none⟩ = some (.bool ((rd_T97 l0 x7_1).f2)) := (blk_cell BK197.out 2).trans rfl
                              have hfz23_0 := blk_frozen BK197.out 0
                              have hfz23_1 := blk_frozen BK197.out 1
                              have hfz23_2 := blk_frozen BK197.out 2
                              have p201 : 0 ≤ ((ji15) : Int) := of_decide_eq_true (by first | (with_reducible assumption) | assumption)
                              have q201 : (ji15) < (l0.length : Int) := of_decide_eq_true (by first | (with_reducible assumption) | assumption)
                              obtain ⟨ad201, e201, hx201_0, hx201_1, hx201_2⟩ := at_T97 HR0.out (ji15) p201 q201
                              obtain rfl : ad196 = ad201 := (by injection e201)
                              replace hx201_0 := (HB.out.cell (World.block_lt_of_cell? w _ hx201_0)).trans hx201_0
                              replace hx201_1 := (HB.out.cell (World.block_lt_of_cell? w _ hx201_1)).trans hx201_1
                              replace hx201_2 := (HB.out.cell (World.block_lt_of_cell? w _ hx201_2)).trans hx201_2
                              replace p201 := eq_true p201
                              replace q201 := eq_true q201
                              have p202 : 0 ≤ ((ji15) : Int) := of_decide_eq_true (by first | (with_reducible assumption) | assumption)
                              have q202 : (ji15) < (l0.length : Int) := of_decide_eq_true (by first | (with_reducible assumption) | assumption)
                              obtain ⟨ad202, e202, hx202_0, hx202_1, hx202_2⟩ := at_T97 HR0.out (ji15) p202 q202
                              obtain rfl : ad196 = ad202 := (by injection e202)
                              replace hx202_0 := (HB.out.cell (World.block_lt_of_cell? w _ hx202_0)).trans hx202_0
                              replace hx202_1 := (HB.out.cell (World.block_lt_of_cell? w _ hx202_1)).trans hx202_1
                              replace hx202_2 := (HB.out.cell (World.block_lt_of_cell? w _ hx202_2)).trans hx202_2
                              replace p202 := eq_true p202
                              replace q202 := eq_true q202
                              go_wp2
                              repeat (go_quiet (fail); try go_wp2)
                              go_roundg kj4
                              case measure => have := HK1.out; have := HJ4.out; omega
                              case rel => exact ⟨(wrap64 (x7_1 + 1)), (by first | rfl | (simp; done) | (simp [*]; done)), H', ⟨by have := HK1.out; have := HJ4.out; omega⟩, ⟨by repeat (first | (with_reducible first | exact HB.out | apply below_alloc | apply pw_below_drewN | apply below_drew1 | refine below_set ?_ GE197.out) | exact HB.out)⟩⟩
                          · rw [if_neg c20] at H
                            have c20b0 : (((rd_T97 l0 (ji15)).f1) == ((rd_T97 l0 x7_1).f0)) = false := beq_eq_false_iff_ne.mpr c20
                            have c20b1 : (((rd_T97 l0 (ji15)).f1) != ((rd_T97 l0 x7_1).f0)) = true := bne_iff_ne.mpr c20
                            have H' := Aside0.mk H
                            clear H
                            have p200 : 0 ≤ ((ji15) : Int) := of_decide_eq_true (by first | (with_reducible assumption) | assumption)
                            have q200 : (ji15) < (l0.length : Int) := of_decide_eq_true (by first | (with_reducible assumption) | assumption)
                            obtain ⟨ad200, e200, hx200_0, hx200_1, hx200_2⟩ := at_T97 HR0.out (ji15) p200 q200
                            obtain rfl : ad196 = ad200 := (by injection e200)
                            replace hx200_0 := (HB.out.cell (World.block_lt_of_cell? w _ hx200_0)).trans hx200_0
                            replace hx200_1 := (HB.out.cell (World.block_lt_of_cell? w _ hx200_1)).trans hx200_1
                            replace hx200_2 := (HB.out.cell (World.block_lt_of_cell? w _ hx200_2)).trans hx200_2
                            replace p200 := eq_true p200
                            replace q200 := eq_true q200
                            have hcz24_0 : wc.cell? ⟨gb197, 0, none⟩ = some (.int .i64 ((rd_T97 l0 x7_1).f0)) := (blk_cell BK197.out 0).trans rfl
                            have hcz24_1 : wc.cell? ⟨gb197, 1, none⟩ = some (.int .i64 ((rd_T97 l0 x7_1).f1)) := (blk_cell BK197.out 1).trans rfl
                            have hcz24_2 : wc.cell? ⟨gb197, 2, none⟩ = some (.bool ((rd_T97 l0 x7_1).f2)) := (blk_cell BK197.out 2).trans rfl
                            have hfz24_0 := blk_frozen BK197.out 0
                            have hfz24_1 := blk_frozen BK197.out 1
                            have hfz24_2 := blk_frozen BK197.out 2
                            have p201 : 0 ≤ ((ji15) : Int) := of_decide_eq_true (by first | (with_reducible assumption) | assumption)
                            have q201 : (ji15) < (l0.length : Int) := of_decide_eq_true (by first | (with_reducible assumption) | assumption)
                            obtain ⟨ad201, e201, hx201_0, hx201_1, hx201_2⟩ := at_T97 HR0.out (ji15) p201 q201
                            obtain rfl : ad196 = ad201 := (by injection e201)
                            replace hx201_0 := (HB.out.cell (World.block_lt_of_cell? w _ hx201_0)).trans hx201_0
                            replace hx201_1 := (HB.out.cell (World.block_lt_of_cell? w _ hx201_1)).trans hx201_1
                            replace hx201_2 := (HB.out.cell (World.block_lt_of_cell? w _ hx201_2)).trans hx201_2
                            replace p201 := eq_true p201
                            replace q201 := eq_true q201
                            go_wp2
                            repeat (go_quiet (fail); try go_wp2)
                            go_roundg kj4
                            case measure => have := HK1.out; have := HJ4.out; omega
                            case rel => exact ⟨(wrap64 (x7_1 + 1)), (by first | rfl | (simp; done) | (simp [*]; done)), H', ⟨by have := HK1.out; have := HJ4.out; omega⟩, ⟨by repeat (first | (with_reducible first | exact HB.out | apply below_alloc | apply pw_below_drewN | apply below_drew1 | refine below_set ?_ GE197.out) | exact HB.out)⟩⟩
                      · rw [if_neg c17] at H
                        exact absurd H (by simp)
                    · rw [if_neg c16] at H
                      exact absurd H (by simp)
                  · rw [if_neg c14] at H
                    have c14b0 : decide (0 < x7_1) = false := decide_eq_false c14
                    clear c14
                    have H' := Aside0.mk H
                    clear H
                    go_wp2
                    repeat (go_quiet (fail); try go_wp2)
                    go_roundg kj4
                    case measure => have := HK1.out; have := HJ4.out; omega
                    case rel => exact ⟨(wrap64 (x7_1 + 1)), (by first | rfl | (simp; done) | (simp [*]; done)), H', ⟨by have := HK1.out; have := HJ4.out; omega⟩, ⟨by repeat (first | (with_reducible first | exact HB.out | apply below_alloc | apply pw_below_drewN | apply below_drew1 | refine below_set ?_ GE197.out) | exact HB.out)⟩⟩
          · rw [if_neg c4] at H
            exact absurd H (by simp)
        · rw [if_neg c3] at H
          exact absurd H (by simp)
      · rw [if_neg c2] at H
        have c2b0 : decide (x7_1 < (l0.length : Int)) = false := decide_eq_false c2
        clear c2
        obtain rfl := Option.some.inj H
        go_wp2
        repeat (go_quiet (fail); try go_wp2)
        go_ret
        exact ⟨by first | rfl | (simp [errW_none, errW_some] <;> rfl) | (simp [*, errW_none, errW_some] <;> rfl), by repeat (first | (with_reducible first | exact HB.out | apply below_alloc | apply pw_below_drewN | apply below_drew1) | exact HB.out)⟩

end Go.Proofs.Ytpkhoanaifpopaa.P
end
section
namespace Go.Proofs.Ytpkhoanaifpopaa.P
open Go.RowKit Go.Proofs.YtpkhoanaifpopaaW.PrintWords Go.Proofs.YtpkhoanaifpopaaW.PrintLast Go.Proofs.YtpkhoanaifpopaaW.PrintMore
attribute [local go_sem] max2_int min2_int max_two min_two max_three min_three max_four min_four   -- for this text's walks alone
set_option linter.unusedVariables false
set_option linter.unusedSimpArgs false

/-! ### impl_pagesOf: function 80 -/
/-- An array of whole numbers, as a value. -/
def AR.val (xs : List Int) : Value := .agg (encs (Value.int .i64) xs).toArray
/-- An array of whole numbers in a block of its own. -/
def AR.At (T : TypeId) (W : World) (g : Nat) (xs : List Int) : Prop := W.heap[g]? = some (.cells (encs (Value.int .i64) xs).toArray T (0, 0))
theorem AR.At.set {T : TypeId} {W : World} {g : Nat} {xs : List Int} (h : AR.At T W g xs) (i : Nat) (x : Int) : AR.At T (W.setCell ⟨g, i, none⟩ (.int .i64 x)) g (xs.set i x) := by
  have := blk_set h i (Value.int .i64 x)
  unfold AR.At
  rw [this]
  simp [encs, List.map_set]
theorem AR.At.cell {T : TypeId} {W : World} {g : Nat} {xs : List Int} (h : AR.At T W g xs) (i : Nat) (hi : i < xs.length) : W.cell? ⟨g, i, none⟩ = some (.int .i64 (xs.getD i 0)) := by
  rw [cell_of_row W g i _ T (0, 0) h]
  simp [encs, List.getElem?_eq_getElem hi, List.getD_eq_getElem?_getD]
theorem AR.At.frozen {T : TypeId} {W : World} {g : Nat} {xs : List Int} (h : AR.At T W g xs) (i : Nat) : W.frozen? ⟨g, i, none⟩ = false := blk_frozen h i
theorem AR.At.below {T : TypeId} {W w1 : World} {g : Nat} {xs : List Int} (h : AR.At T W g xs) (hb : Below W.heap.size W w1) : AR.At T w1 g xs := (hb.block g (blk_lt h)).trans h
theorem AR.At.far {T : TypeId} {W : World} {g : Nat} {xs : List Int} (h : AR.At T W g xs) {p : Addr} (hp : g ≠ p.block) (u : Value) : AR.At T (W.setCell p u) g xs := (Below.heap_setCell W p u g hp).trans h
theorem AR.At.alloc {T : TypeId} {W : World} {g : Nat} {xs : List Int} (h : AR.At T W g xs) (o : Obj) : AR.At T (W.alloc o) g xs := h.below (below_alloc (Below.refl _ _) o)
section
variable {P : Program} {ops : Array Oper} {rest : List Oper} {o : Oper} {a : Act} {Q : Exit → Act → World → Prop} {W : World}
theorem AR.info {T : TypeId} {z : Value} {n : Nat} (hi : (P.info? T).map (fun i => (i.zero, i.size)) = some (some z, n)) : (P.info? T).map (·.size) = some n := by
  cases hq : P.info? T with
  | none => simp [hq] at hi
  | some i => simp [hq] at hi; simp [hi.2]
theorem AR.alloc_event {T : TypeId} {n : Nat} (hgd : o.guard = none) (ho : o.op = .alloc T) (hi : (P.info? T).map (fun i => (i.zero, i.size)) = some (some (AR.val (List.replicate n 0)), n))
    (h : ∀ g, g = W.heap.size → ∀ w1, AR.At T w1 g (List.replicate n 0) → Below W.heap.size W w1 → wpList P ops Q rest (a.put o.dst (.pointer (some ⟨g, 0, none⟩))) w1) : wpList P ops Q (o :: rest) a W := by
  refine Kd.event_run (w1 := W.alloc (.cells (encs (Value.int .i64) (List.replicate n 0)).toArray T (0, 0))) hgd ?_ (h _ rfl _ (blk_new W _) (below_alloc (Below.refl _ _) _))
  obtain ⟨i, h1, h2⟩ := Option.map_eq_some_iff.1 hi
  simp only [Prod.mk.injEq] at h2
  unfold execOp
  simp [ho, Instr.alloc, zeroValue, typeInfo, h1, h2.1, newVar, newRow, AR.val, Value.cells]
theorem AR.load_event {T e : TypeId} {g n : Nat} {xs : List Int} {p : Operand} (hgd : o.guard = none) (ho : o.op = .load T p) (hp : a.eval p = .pointer (some ⟨g, 0, none⟩)) (hu : P.underlying T = some (.array n e)) (hn : (P.info? T).map (·.size) = some n) (hl : xs.length = n) (hA : AR.At T W g xs)
    (h : wpList P ops Q rest (a.put o.dst (AR.val xs)) W) : wpList P ops Q (o :: rest) a W := by
  refine Kd.event_run hgd ?_ h
  have hr := run_loadVar_row (P := P) W g T T (encs (Value.int .i64) xs).toArray (0, 0) _ hA hu rfl (by rw [hn]; simp [encs, hl])
  unfold execOp
  simp [ho, hp, Instr.loadAt, Instr.sureAddr, hr, AR.val]
end
section
variable {P : Program} {ops : Array Oper} {rest : List Oper} {o : Oper} {a : Act} {Q : Exit → Act → World → Prop} {W : World}
theorem AR.setRow_at {g : Nat} {T : TypeId} {ys : List Int} (hA : AR.At T W g ys) (xs : List Int) : AR.At T (W.setRow g (encs (Value.int .i64) xs).toArray) g xs := by
  unfold AR.At
  simp only [World.setRow]
  rw [Array.getElem?_modify, if_pos rfl, show W.heap[g]? = _ from hA]
  rfl
theorem AR.setRow_grown {g : Nat} (c : Array Value) : W.grownBy (W.setRow g c) (some g) := by
  refine ⟨rfl, rfl, rfl, by simp [World.setRow], fun k _ hk => ?_⟩
  simp only [World.setRow]
  rw [Array.getElem?_modify, if_neg (fun e => hk (by rw [e]))]
theorem AR.store_event {T : TypeId} {g n : Nat} {xs ys : List Int} {p x : Operand} (hgd : o.guard = none) (ho : o.op = .store T p x) (hN : o.dst = none) (hp : a.eval p = .pointer (some ⟨g, 0, none⟩)) (hx : a.eval x = AR.val xs) (hn : (P.info? T).map (·.size) = some n) (hl : xs.length = n) (hly : ys.length = n) (hA : AR.At T W g ys)
    (h : ∀ w1, AR.At T w1 g xs → W.grownBy w1 (some g) → wpList P ops Q rest a w1) : wpList P ops Q (o :: rest) a W := by
  refine wpList_plain hgd fun K hK => ?_
  have hr := run_storeVar_row (P := P) W g T T (encs (Value.int .i64) ys).toArray (encs (Value.int .i64) xs).toArray hA (by rw [hn]; simp [encs, hl]) (by simp [encs, hl, hly]) (by simp [encs]; intro x _; rfl)
  have hrun : (execOp a.eval o).run P W = .ok .skip (W.setRow g (encs (Value.int .i64) xs).toArray) := by
    unfold execOp
    simp [ho, hp, hx, Instr.storeAt, Instr.sureAddr, hr, AR.val]
  unfold Oper.wp
  rw [hrun]
  show K (a.put o.dst undef) _
  rw [hN]
  exact hK _ _ (h _ (AR.setRow_at hA xs) (AR.setRow_grown _))
end
section
variable {P : Program} {ops : Array Oper} {rest : List Oper} {o : Oper} {a : Act} {Q : Exit → Act → World → Prop} {W : World}
theorem AR.box_event {T : TypeId} {xs : List Int} {x : Operand} (hgd : o.guard = none) (ho : o.op = .box T x) (hx : a.eval x = AR.val xs)
    (h : ∀ g, g = W.heap.size → ∀ w1, AR.At T w1 g xs → Below W.heap.size W w1 → wpList P ops Q rest (a.put o.dst (.pointer (some ⟨g, 0, none⟩))) w1) : wpList P ops Q (o :: rest) a W := by
  refine Kd.event_run (w1 := W.alloc (.cells (encs (Value.int .i64) xs).toArray T (0, 0))) hgd ?_ (h _ rfl _ (blk_new W _) (below_alloc (Below.refl _ _) _))
  unfold execOp
  simp [ho, hx, Instr.box, newVar, newRow, AR.val, Value.cells]
theorem AR.index_event {T e : TypeId} {n : Nat} {xs : List Int} {x i : Operand} {j : Int} (hgd : o.guard = none) (ho : o.op = .index T x i) (hx : a.eval x = AR.val xs) (hi : a.eval i = .int .i64 j) (hu : P.underlying T = some (.array n e)) (he : P.underlying e = some (.int .i64)) (hin : (P.info? e).map (fun i => (i.zero, i.size, i.bytes)) = some (some (.int .i64 0), 1, 8)) (h0 : 0 ≤ j) (h1 : j < (n : Int)) (hl : xs.length = n)
    (h : wpList P ops Q rest (a.put o.dst (.int .i64 (xs.getD j.toNat 0))) W) : wpList P ops Q (o :: rest) a W := by
  refine Kd.event_run hgd ?_ h
  obtain ⟨ii, h3, h4⟩ := Option.map_eq_some_iff.1 hin
  simp only [Prod.mk.injEq] at h4
  have hj : j.toNat < xs.length := by omega
  unfold execOp
  simp [ho, hx, hi, Instr.index, asIntOf, underlying, hu, AR.val, sizeOf, typeInfo, h3, h4, h0, h1, part, isAgg, he, encs, hj]
end
theorem AR.z64 : (Try.prog.info? 100).map (fun i => (i.zero, i.size)) = some (some (AR.val (List.replicate 64 0)), 64) := by kernel_rfl
theorem AR.n64 : (Try.prog.info? 100).map (·.size) = some 64 := AR.info AR.z64
mutual
def impl_pagesOf.l0 : Nat → List S97 → List Int → Int → Option (List Int)
  | 0, _, _, _ => none
  | k + 1, l, x3, x9 => if x9 < (l.length : Int) then (if 0 ≤ x9 then (impl_pagesOf.l1 k l x3 x9 (l.getD x9.toNat z97).f0) else none) else some x3
def impl_pagesOf.l1 : Nat → List S97 → List Int → Int → Int → Option (List Int)
  | 0, _, _, _, _ => none
  | k + 1, l, x3, x9, x6 => if x6 < (l.getD x9.toNat z97).f1 then (if 0 ≤ x6 then (if x6 < 64 then (impl_pagesOf.l1 k l (x3.set x6.toNat (if (l.getD x9.toNat z97).f2 = true then 2 else 1)) x9 (wrap64 (x6 + 1))) else none) else none) else (impl_pagesOf.l0 k l x3 (wrap64 (x9 + 1)))
end
def impl_pagesOf.f (k : Nat) (l0 : List S97) : Option (List Int) := impl_pagesOf.l0 k l0 (List.replicate 64 0) 0
theorem impl_pagesOf.mono_l : ∀ k, (∀ y0 y1 y2, LeO (impl_pagesOf.l0 k y0 y1 y2) (impl_pagesOf.l0 (k + 1) y0 y1 y2)) ∧ (∀ y0 y1 y2 y3, LeO (impl_pagesOf.l1 k y0 y1 y2 y3) (impl_pagesOf.l1 (k + 1) y0 y1 y2 y3))
  | 0 => ⟨fun _ _ _ r h => by simp [impl_pagesOf.l0] at h, fun _ _ _ _ r h => by simp [impl_pagesOf.l1] at h⟩
  | k + 1 => by
    obtain ⟨ih0, ih1⟩ := impl_pagesOf.mono_l k
    refine ⟨?_, ?_⟩
    · intro y0 y1 y2
      unfold impl_pagesOf.l0
      exact LeO.ite (LeO.ite (ih1 _ _ _ _) (LeO.refl _)) (LeO.refl _)
    · intro y0 y1 y2 y3
      unfold impl_pagesOf.l1
      exact LeO.ite (LeO.ite (LeO.ite (ih1 _ _ _ _) (LeO.refl _)) (LeO.refl _)) (ih0 _ _ _)
theorem impl_pagesOf.mono : ∀ a0 k, LeO (impl_pagesOf.f k a0) (impl_pagesOf.f (k + 1) a0) := fun _ k => (impl_pagesOf.mono_l k).1 _ _ _
set_option maxHeartbeats 8000000 in
set_option maxRecDepth 100000 in
theorem impl_pagesOf.calls (k : Nat) (A0 : Option Addr) (c0 : Nat) (l0 : List S97) (r : List Int) (w : World) (hr0 : Kd.C k97 w A0 l0.length l0) (hc0 : l0.length ≤ c0) (h : impl_pagesOf.f k l0 = some r) :
    Calls Try.prog 80 #[.slice A0 l0.length c0] w fun e w' => e = .returned (AR.val r) ∧ r.length = 64 ∧ Below w.heap.size w w' := by
  have HR0 := Aside0.mk hr0
  have HC0 := Aside0.mk hc0
  clear hr0 hc0
  have HB := Aside0.mk (Below.refl w.heap.size w)
  have H' := Aside0.mk (show impl_pagesOf.l0 k l0 (List.replicate 64 0) 0 = some r from h)
  clear h
  go_enter Try.func80, Try.ntmps80
  go_wp2_with (first | ((with_reducible refine gate_dst (N := 2) rfl ?_); refine AR.alloc_event rfl rfl AR.z64 ?_; intro g2 hg w1 hA hb; have A2 := Aside0.mk hA; have G2 := Aside0.mk (show w.heap.size ≤ g2 by omega); have n0_ := Aside0.mk (below_step HB.out hb); clear HB; have HB := n0_; clear n0_ hb hA hg) | ((with_reducible refine gate_dst (N := 3) rfl ?_); refine AR.alloc_event rfl rfl AR.z64 ?_; intro g3 hg w2 hA hb; have A3 := Aside0.mk hA; have G3 := Aside0.mk (show g2 < g3 by rw [hg]; exact blk_lt A2.out); have n1_ := Aside0.mk (A2.out.below hb); have n0_ := Aside0.mk (below_step HB.out hb); clear HB A2; have HB := n0_; have A2 := n1_; clear n0_ n1_ hb hA hg))
  go_loopg [9] k (fun kq v9 w' => ∃ (x3_1 : List Int) (x9_1 : Int), v9 = .int .i64 x9_1 ∧ Aside0 (impl_pagesOf.l0 kq l0 x3_1 x9_1 = some r) ∧ Aside0 (kq ≤ k) ∧ Aside0 (x3_1.length = 64) ∧ Aside0 (AR.At 100 w' g3 x3_1) ∧ Aside0 (AR.At 100 w' g2 (List.replicate 64 0)) ∧ Aside0 (Below w.heap.size w w'))
  case atStart => exact ⟨_, 0, rfl, H', ⟨Nat.le_refl _⟩, ⟨List.length_replicate⟩, A3, A2, HB⟩
  case round =>
    clear H' A2 A3 HB
    obtain ⟨x3_1, x9_1, rfl, HA, HK1, HL, A3, A2, HB⟩ := hrel
    cases gk with
    | zero => exact absurd HA.out (by simp [impl_pagesOf.l0])
    | succ k1 =>
      have H := HA.out
      clear HA
      rw [impl_pagesOf.l0] at H
      by_cases c1 : x9_1 < (l0.length : Int)
      · rw [if_pos c1] at H
        by_cases c2 : 0 ≤ x9_1
        · rw [if_pos c2] at H
          have H' := Aside0.mk H
          clear H
          obtain ⟨ad, e, hx0, hx1, hx2⟩ := at_T97 HR0.out x9_1 c2 c1
          cases e
          replace hx0 := (HB.out.cell (World.block_lt_of_cell? w _ hx0)).trans hx0
          replace hx1 := (HB.out.cell (World.block_lt_of_cell? w _ hx1)).trans hx1
          replace hx2 := (HB.out.cell (World.block_lt_of_cell? w _ hx2)).trans hx2
          have C1 := Aside0.mk c1
          have C2 := Aside0.mk c2
          have c1b := decide_eq_true c1
          have c2b := decide_eq_true c2
          have c1c := eq_true c1
          have c2c := eq_true c2
          clear c1 c2
          obtain ⟨y, hy⟩ : ∃ y, rd_T97 l0 x9_1 = y := ⟨_, rfl⟩
          rw [hy] at hx0 hx1 hx2
          have HY := Aside0.mk hy
          clear hy
          go_wp2_with (first | ((with_reducible refine gate_dst (N := 5) rfl ?_); refine box_event ?hg (N := 5) ?hd (cs := #[.int .i64 0, .int .i64 0, .bool false]) (t := 97) ?hr ?_; (case hd => rfl); (case hg => rfl); (case hr => first | (go_simp; done) | (go_simp; rfl)); intro gb hg w6 hbox hb; have BK := Aside0.mk hbox; have GB := Aside0.mk (show g3 < gb by rw [hg]; exact blk_lt A3.out); have n1_ := Aside0.mk (A2.out.below hb); have n2_ := Aside0.mk (A3.out.below hb); have n0_ := Aside0.mk (below_step HB.out hb); clear HB A2 A3; have HB := n0_; have A2 := n1_; have A3 := n2_; clear n0_ n1_ n2_ hb hbox hg; have hcz0 := (blk_cell BK.out 0).trans rfl; have hcz1 := (blk_cell BK.out 1).trans rfl; have hcz2 := (blk_cell BK.out 2).trans rfl; have hfz0 := blk_frozen BK.out 0; have hfz1 := blk_frozen BK.out 1; have hfz2 := blk_frozen BK.out 2))
          go_loopg [6] k1 (fun kq v6 w' => ∃ (x3_2 : List Int) (x6_2 : Int), v6 = .int .i64 x6_2 ∧ Aside0 (impl_pagesOf.l1 kq l0 x3_2 x9_1 x6_2 = some r) ∧ Aside0 (kq ≤ k1) ∧ Aside0 (x3_2.length = 64) ∧ Aside0 (AR.At 100 w' g3 x3_2) ∧ Aside0 (AR.At 100 w' g2 (List.replicate 64 0)) ∧ Aside0 (w'.heap[gb]? = some (.cells #[.int .i64 y.f0, .int .i64 y.f1, .bool y.f2] 97 (0, 0))) ∧ Aside0 (Below w.heap.size w w'))
          case atStart =>
            have g1_ := G2.out
            have g2_ := G3.out
            have g3_ := GB.out
            refine ⟨_, _, rfl, ⟨by rw [← HY.out]; exact H'.out⟩, ⟨Nat.le_refl _⟩, HL, ⟨((A3.out.far (p := ⟨gb, 0, none⟩) (by show g3 ≠ gb; omega) _).far (p := ⟨gb, 1, none⟩) (by show g3 ≠ gb; omega) _).far (p := ⟨gb, 2, none⟩) (by show g3 ≠ gb; omega) _⟩, ⟨((A2.out.far (p := ⟨gb, 0, none⟩) (by show g2 ≠ gb; omega) _).far (p := ⟨gb, 1, none⟩) (by show g2 ≠ gb; omega) _).far (p := ⟨gb, 2, none⟩) (by show g2 ≠ gb; omega) _⟩, ⟨blk_set (blk_set (blk_set BK.out 0 _) 1 _) 2 _⟩, ⟨below_set (below_set (below_set HB.out (by omega)) (by omega)) (by omega)⟩⟩
          case round =>
            clear H' A2 A3 HB BK
            try clear hcz0
            try clear hcz1
            try clear hcz2
            try clear hfz0
            try clear hfz1
            try clear hfz2
            clear hx0 hx1 hx2 c1b c2b c1c c2c
            obtain ⟨x3_2, x6_2, rfl, HA, HK2, HL, A3, A2, BK, HB⟩ := hrel
            cases gk with
            | zero => exact absurd HA.out (by simp [impl_pagesOf.l1])
            | succ k2 =>
              have H := HA.out
              clear HA
              rw [impl_pagesOf.l1, show l0.getD x9_1.toNat z97 = y from HY.out] at H
              have hcz1 := (blk_cell BK.out 1).trans rfl
              have hcz2 := (blk_cell BK.out 2).trans rfl
              by_cases c3 : x6_2 < y.f1
              · rw [if_pos c3] at H
                by_cases c4 : 0 ≤ x6_2
                · rw [if_pos c4] at H
                  by_cases c5 : x6_2 < 64
                  · rw [if_pos c5] at H
                    have C4 := Aside0.mk c4
                    have C5 := Aside0.mk c5
                    have c3b := decide_eq_true c3
                    have c4b := eq_true c4
                    have c5b := eq_true c5
                    have hx := A3.out.cell x6_2.toNat (by rw [HL.out]; omega)
                    have hf := A3.out.frozen x6_2.toNat
                    clear c3 c4 c5
                    obtain ⟨bf, hbf⟩ : ∃ b, y.f2 = b := ⟨_, rfl⟩
                    rw [hbf] at H
                    rw [hbf] at hcz2
                    have HF := Aside0.mk hbf
                    clear hbf
                    cases bf with
                    | true =>
                      rw [if_pos rfl] at H
                      have H' := Aside0.mk H
                      clear H
                      go_wp2_with (first | ((with_reducible refine gate_store (t := 3) (p := 22) rfl ?_); refine store_event (t := 3) (p := 22) (v := ?vo22) (w1 := (World.setCell wr ⟨g3, x6_2.toNat, none⟩ (.int .i64 1))) ?hg ?ho ?hn ?hr ?_; (case ho => rfl); (case hg => rfl); (case hn => rfl); (case hr => first | (go_simp; done) | (go_simp; rfl)); intro w10 hw; have n0_ := Aside0.mk (show AR.At 100 w10 g3 (x3_2.set x6_2.toNat 1) by rw [hw]; exact A3.out.set _ _); have n1_ := Aside0.mk (show AR.At 100 w10 g2 (List.replicate 64 0) by rw [hw]; exact A2.out.far (p := ⟨g3, x6_2.toNat, none⟩) (by show g2 ≠ g3; have := G3.out; omega) _); have n2_ := Aside0.mk (show w10.heap[gb]? = some (.cells #[.int .i64 y.f0, .int .i64 y.f1, .bool y.f2] 97 (0, 0)) by rw [hw]; exact (Below.heap_setCell _ ⟨g3, x6_2.toNat, none⟩ _ gb (by show gb ≠ g3; have := GB.out; omega)).trans BK.out); have n3_ := Aside0.mk (show Below w.heap.size w w10 by rw [hw]; exact below_set HB.out (by have := G2.out; have := G3.out; omega)); clear A3 A2 BK HB hw hx hf hcz1 hcz2; have A3 := n0_; have A2 := n1_; have BK := n2_; have HB := n3_; clear n0_ n1_ n2_ n3_; have hcz1 := (blk_cell BK.out 1).trans rfl; have hcz2 := (blk_cell BK.out 2).trans rfl; have hx := A3.out.cell x6_2.toNat (by rw [List.length_set, HL.out]; have := C4.out; have := C5.out; omega); have hf := A3.out.frozen x6_2.toNat; (first | rw [HF.out] at hcz2 | skip)) | ((with_reducible refine gate_store (t := 3) (p := 26) rfl ?_); refine store_event (t := 3) (p := 26) (v := ?vo26) (w1 := (World.setCell w10 ⟨g3, x6_2.toNat, none⟩ (.int .i64 2))) ?hg ?ho ?hn ?hr ?_; (case ho => rfl); (case hg => rfl); (case hn => rfl); (case hr => first | (go_simp; done) | (go_simp; rfl)); intro w11 hw; have n0_ := Aside0.mk (show AR.At 100 w11 g3 (x3_2.set x6_2.toNat 2) by rw [hw]; have q_ := A3.out.set x6_2.toNat 2; rw [List.set_set] at q_; exact q_); have n1_ := Aside0.mk (show AR.At 100 w11 g2 (List.replicate 64 0) by rw [hw]; exact A2.out.far (p := ⟨g3, x6_2.toNat, none⟩) (by show g2 ≠ g3; have := G3.out; omega) _); have n2_ := Aside0.mk (show w11.heap[gb]? = some (.cells #[.int .i64 y.f0, .int .i64 y.f1, .bool y.f2] 97 (0, 0)) by rw [hw]; exact (Below.heap_setCell _ ⟨g3, x6_2.toNat, none⟩ _ gb (by show gb ≠ g3; have := GB.out; omega)).trans BK.out); have n3_ := Aside0.mk (show Below w.heap.size w w11 by rw [hw]; exact below_set HB.out (by have := G2.out; have := G3.out; omega)); clear A3 A2 BK HB hw hx hf hcz1 hcz2; have A3 := n0_; have A2 := n1_; have BK := n2_; have HB := n3_; clear n0_ n1_ n2_ n3_))
                      go_roundg k2
                      case measure => have := HK1.out; have := HK2.out; omega
                      case rel => exact ⟨_, _, rfl, H', ⟨by have := HK1.out; have := HK2.out; omega⟩, ⟨by rw [List.length_set]; exact HL.out⟩, A3, A2, BK, HB⟩
                    | false =>
                      rw [if_neg (by decide)] at H
                      have H' := Aside0.mk H
                      clear H
                      go_wp2_with (first | ((with_reducible refine gate_store (t := 3) (p := 22) rfl ?_); refine store_event (t := 3) (p := 22) (v := ?vo22) (w1 := (World.setCell wr ⟨g3, x6_2.toNat, none⟩ (.int .i64 1))) ?hg ?ho ?hn ?hr ?_; (case ho => rfl); (case hg => rfl); (case hn => rfl); (case hr => first | (go_simp; done) | (go_simp; rfl)); intro w10 hw; have n0_ := Aside0.mk (show AR.At 100 w10 g3 (x3_2.set x6_2.toNat 1) by rw [hw]; exact A3.out.set _ _); have n1_ := Aside0.mk (show AR.At 100 w10 g2 (List.replicate 64 0) by rw [hw]; exact A2.out.far (p := ⟨g3, x6_2.toNat, none⟩) (by show g2 ≠ g3; have := G3.out; omega) _); have n2_ := Aside0.mk (show w10.heap[gb]? = some (.cells #[.int .i64 y.f0, .int .i64 y.f1, .bool y.f2] 97 (0, 0)) by rw [hw]; exact (Below.heap_setCell _ ⟨g3, x6_2.toNat, none⟩ _ gb (by show gb ≠ g3; have := GB.out; omega)).trans BK.out); have n3_ := Aside0.mk (show Below w.heap.size w w10 by rw [hw]; exact below_set HB.out (by have := G2.out; have := G3.out; omega)); clear A3 A2 BK HB hw hx hf hcz1 hcz2; have A3 := n0_; have A2 := n1_; have BK := n2_; have HB := n3_; clear n0_ n1_ n2_ n3_; have hcz1 := (blk_cell BK.out 1).trans rfl; have hcz2 := (blk_cell BK.out 2).trans rfl; have hx := A3.out.cell x6_2.toNat (by rw [List.length_set, HL.out]; have := C4.out; have := C5.out; omega); have hf := A3.out.frozen x6_2.toNat; (first | rw [HF.out] at hcz2 | skip)))
                      go_roundg k2
                      case measure => have := HK1.out; have := HK2.out; omega
                      case rel => exact ⟨_, _, rfl, H', ⟨by have := HK1.out; have := HK2.out; omega⟩, ⟨by rw [List.length_set]; exact HL.out⟩, A3, A2, BK, HB⟩
                  · rw [if_neg c5] at H; exact absurd H (by simp)
                · rw [if_neg c4] at H; exact absurd H (by simp)
              · rw [if_neg c3] at H
                have H' := Aside0.mk H
                clear H
                have c3b := decide_eq_false c3
                clear c3
                go_wp2
                go_roundg k2
                case measure => have := HK1.out; have := HK2.out; omega
                case rel => exact ⟨_, _, rfl, H', ⟨by have := HK1.out; have := HK2.out; omega⟩, HL, A3, A2, HB⟩
        · rw [if_neg c2] at H; exact absurd H (by simp)
      · rw [if_neg c1] at H
        obtain rfl := Option.some.inj H
        go_wp2_with (first | ((with_reducible refine gate_dst (N := 28) rfl ?_); refine AR.load_event rfl rfl rfl Try.underlying100 AR.n64 HL.out A3.out ?_) | (refine AR.store_event (g := g2) (ys := List.replicate 64 0) rfl rfl rfl rfl rfl AR.n64 HL.out List.length_replicate A2.out ?_; intro w9 hA hg; have A2 := Aside0.mk hA; have n0_ := Aside0.mk (HB.out.grown hg HB.out.size (fun k_ e_ => by injection e_ with e_; subst e_; exact G2.out)); clear HB; have HB := n0_; clear n0_ hA hg))
        refine bodyPost_ret (results_cell_row rfl _ _ g2 100 _ (0, 0) _ rfl A2.out Try.underlying100 rfl (by rw [AR.n64]; simp [encs, HL.out])) rfl ?_
        exact ⟨rfl, HL.out, HB.out⟩

end Go.Proofs.Ytpkhoanaifpopaa.P
end
section
namespace Go.Proofs.Ytpkhoanaifpopaa.P
open Go.RowKit Go.Proofs.YtpkhoanaifpopaaW.PrintWords Go.Proofs.YtpkhoanaifpopaaW.PrintLast Go.Proofs.YtpkhoanaifpopaaW.PrintMore
attribute [local go_sem] max2_int min2_int max_two min_two max_three min_three max_four min_four   -- for this text's walks alone
set_option linter.unusedVariables false
set_option linter.unusedSimpArgs false

/-! ### impl_Allowed: function 23 -/
def impl_Allowed.f (k : Nat) (l0 : List S97) (a1 : Int) : Option (Bool × Bool) := (impl_RegionsOk.f k l0).bind fun t1 => (if t1 = true then ((impl_within.f a1 0 63).bind fun t2 => (if t2 = true then ((impl_pagesOf.f k l0).bind fun xs => (if 0 ≤ a1 then (if a1 < 64 then some (decide (xs.getD a1.toNat 0 > 0), (xs.getD a1.toNat 0 == 2)) else none) else none)) else (some (false, false)))) else (some (false, false)))
theorem impl_Allowed.mono : ∀ a0 a1 k, LeO (impl_Allowed.f k a0 a1) (impl_Allowed.f (k + 1) a0 a1) := by
  intro a0 a1 k
  unfold impl_Allowed.f
  repeat' first
      | (with_reducible exact impl_RegionsOk.mono _ _)
      | (with_reducible exact impl_pagesOf.mono _ _)
      | (with_reducible exact LeO.refl _)
      | (with_reducible exact LeO.none _)
      | (with_reducible refine LeO.ite ?_ ?_)
      | (with_reducible refine LeO.bind ?_ (fun _ => ?_))
set_option maxHeartbeats 8000000 in
set_option maxRecDepth 100000 in
theorem impl_Allowed.calls (k : Nat) (A0 : Option Addr) (c0 : Nat) (l0 : List S97) (a1 : Int) (r1 : Bool) (r2 : Bool) (w : World) (hr0 : Kd.C k97 w A0 l0.length l0) (hc0 : l0.length ≤ c0) (h : impl_Allowed.f k l0 a1 = some (r1, r2)) :
    Calls Try.prog 23 #[.slice A0 l0.length c0, .int .i64 a1] w fun e w' => e = .returned (.tuple #[.bool r1, .bool r2]) ∧ Below w.heap.size w w' := by
  have HR0 := Aside0.mk hr0
  have HC0 := Aside0.mk hc0
  clear hr0 hc0
  have HB := Aside0.mk (Below.refl w.heap.size w)
  have H := h
  clear h
  unfold impl_Allowed.f at H
  obtain ⟨t1, A1, H⟩ := Option.bind_eq_some_iff.mp H
  have A1 := Aside0.mk A1
  cases t1 with
  | false =>
    simp only [Bool.false_eq_true, if_false, Option.some.injEq, Prod.mk.injEq] at H
    obtain ⟨rfl, rfl⟩ := H
    go_enter Try.func23, Try.ntmps23
    go_wp2_with (first | ((with_reducible refine gate_callee (f := 78) rfl ?_); refine goesL_ (some 8) rfl rfl Try.func78 (by kernel_rfl) rfl #[.slice A0 l0.length c0] rfl (by (try simp only [List.map_toArray, List.map_cons, List.map_nil]); first | done | rfl) ?_; (with_reducible refine (impl_RegionsOk.calls k _ _ l0 false _ ?side1 ?side2 A1.out).mono ?_); (case side1 => exact Kd.C_below HR0.out HB.out); (case side2 => exact HC0.out); rintro e w1 ⟨rfl, hb⟩; refine ⟨_, rfl, ?_⟩; have n0_ := Aside0.mk (below_step HB.out hb); clear HB; have HB := n0_; clear n0_ hb))
    go_ret2
    exact ⟨rfl, HB.out⟩
  | true =>
    simp only [if_true] at H
    obtain ⟨t2, A2, H⟩ := Option.bind_eq_some_iff.mp H
    have A2 := Aside0.mk A2
    cases t2 with
    | false =>
      simp only [Bool.false_eq_true, if_false, Option.some.injEq, Prod.mk.injEq] at H
      obtain ⟨rfl, rfl⟩ := H
      go_enter Try.func23, Try.ntmps23
      go_wp2_with (first | ((with_reducible refine gate_callee (f := 78) rfl ?_); refine goesL_ (some 8) rfl rfl Try.func78 (by kernel_rfl) rfl #[.slice A0 l0.length c0] rfl (by (try simp only [List.map_toArray, List.map_cons, List.map_nil]); first | done | rfl) ?_; (with_reducible refine (impl_RegionsOk.calls k _ _ l0 true _ ?side1 ?side2 A1.out).mono ?_); (case side1 => exact Kd.C_below HR0.out HB.out); (case side2 => exact HC0.out); rintro e w1 ⟨rfl, hb⟩; refine ⟨_, rfl, ?_⟩; have n0_ := Aside0.mk (below_step HB.out hb); clear HB; have HB := n0_; clear n0_ hb) | (go_at_call 79; (with_reducible refine (impl_within.calls a1 0 63 false _ A2.out).mono ?_); rintro e w2 ⟨rfl, hd_⟩; have hb := Drawn0.below hd_; have n0_ := Aside0.mk (below_step HB.out hb); clear HB; have HB := n0_; clear n0_ hb hd_))
      go_ret2
      exact ⟨rfl, HB.out⟩
    | true =>
      simp only [if_true] at H
      obtain ⟨xs, A3, H⟩ := Option.bind_eq_some_iff.mp H
      have A3 := Aside0.mk A3
      by_cases c1 : 0 ≤ a1
      · rw [if_pos c1] at H
        by_cases c2 : a1 < 64
        · rw [if_pos c2] at H
          obtain ⟨p_, hq⟩ : ∃ p_, xs.getD a1.toNat 0 = p_ := ⟨_, rfl⟩
          rw [hq] at H
          have HQ := Aside0.mk hq
          clear hq
          simp only [Option.some.injEq, Prod.mk.injEq] at H
          obtain ⟨rfl, rfl⟩ := H
          have C1 := Aside0.mk c1
          have C2 := Aside0.mk (show a1 < ((64 : Nat) : Int) from c2)
          go_enter Try.func23, Try.ntmps23
          go_wp2_with (first | ((with_reducible refine gate_callee (f := 78) rfl ?_); refine goesL_ (some 8) rfl rfl Try.func78 (by kernel_rfl) rfl #[.slice A0 l0.length c0] rfl (by (try simp only [List.map_toArray, List.map_cons, List.map_nil]); first | done | rfl) ?_; (with_reducible refine (impl_RegionsOk.calls k _ _ l0 true _ ?side1 ?side2 A1.out).mono ?_); (case side1 => exact Kd.C_below HR0.out HB.out); (case side2 => exact HC0.out); rintro e w1 ⟨rfl, hb⟩; refine ⟨_, rfl, ?_⟩; have n0_ := Aside0.mk (below_step HB.out hb); clear HB; have HB := n0_; clear n0_ hb) | (go_at_call 79; (with_reducible refine (impl_within.calls a1 0 63 true _ A2.out).mono ?_); rintro e w2 ⟨rfl, hd_⟩; have hb := Drawn0.below hd_; have n0_ := Aside0.mk (below_step HB.out hb); clear HB; have HB := n0_; clear n0_ hb hd_) | ((with_reducible refine gate_callee (f := 80) rfl ?_); refine goesL_ (some 16) rfl rfl Try.func80 (by kernel_rfl) rfl #[.slice A0 l0.length c0] rfl (by (try simp only [List.map_toArray, List.map_cons, List.map_nil]); first | done | rfl) ?_; (with_reducible refine (impl_pagesOf.calls k _ _ l0 xs _ ?side1 ?side2 A3.out).mono ?_); (case side1 => exact Kd.C_below HR0.out HB.out); (case side2 => exact HC0.out); rintro e w3 ⟨rfl, hlen, hb⟩; refine ⟨_, rfl, ?_⟩; have HL := Aside0.mk hlen; have n0_ := Aside0.mk (below_step HB.out hb); clear HB; have HB := n0_; clear n0_ hb hlen) | ((with_reducible refine gate_dst (N := 18) rfl ?_); refine AR.index_event (xs := xs) (j := a1) rfl rfl rfl rfl Try.underlying100 Try.underlying3 info3 C1.out C2.out HL.out ?_; rw [HQ.out]))
          go_ret2
          exact ⟨rfl, HB.out⟩
        · rw [if_neg c2] at H; exact absurd H (by simp)
      · rw [if_neg c1] at H; exact absurd H (by simp)

end Go.Proofs.Ytpkhoanaifpopaa.P
end
section
namespace Go.Proofs.Ytpkhoanaifpopaa.P
open Go.RowKit Go.Proofs.YtpkhoanaifpopaaW.PrintWords Go.Proofs.YtpkhoanaifpopaaW.PrintLast Go.Proofs.YtpkhoanaifpopaaW.PrintMore
attribute [local go_sem] max2_int min2_int max_two min_two max_three min_three max_four min_four   -- for this text's walks alone
set_option linter.unusedVariables false
set_option linter.unusedSimpArgs false

/-! ### laws_eqRegion: function 81 -/
def laws_eqRegion.f (a0_0 : Int) (a0_1 : Int) (a0_2 : Bool) (a1_0 : Int) (a1_1 : Int) (a1_2 : Bool) : Option (Bool) := if a0_0 = a1_0 then (if a0_1 = a1_1 then (if (a0_2 != a1_2) = true then (some false) else (some true)) else (some false)) else (some false)
set_option maxHeartbeats 8000000 in
set_option maxRecDepth 100000 in
theorem laws_eqRegion.calls (a0_0 : Int) (a0_1 : Int) (a0_2 : Bool) (a1_0 : Int) (a1_1 : Int) (a1_2 : Bool) (r : Bool) (w : World) (h : laws_eqRegion.f a0_0 a0_1 a0_2 a1_0 a1_1 a1_2 = some r) :
    Calls Try.prog 81 #[.agg #[.int .i64 a0_0, .int .i64 a0_1, .bool a0_2], .agg #[.int .i64 a1_0, .int .i64 a1_1, .bool a1_2]] w fun e w' => e = .returned (.bool r) ∧ Below w.heap.size w w' := by
  have hu97 := Try.underlying97
  have HB := Aside0.mk (Below.refl w.heap.size w)
  have H : (if a0_0 = a1_0 then (if a0_1 = a1_1 then (if (a0_2 != a1_2) = true then (some false) else (some true)) else (some false)) else (some false)) = some r := h
  clear h
  by_cases c3 : a0_0 = a1_0
  · rw [if_pos c3] at H
    have c3b0 : (a0_0 == a1_0) = true := beq_iff_eq.mpr c3
    have c3b1 : (a0_0 != a1_0) = false := bne_eq_false_iff_eq.mpr c3
    clear c3
    by_cases c4 : a0_1 = a1_1
    · rw [if_pos c4] at H
      have c4b0 : (a0_1 == a1_1) = true := beq_iff_eq.mpr c4
      have c4b1 : (a0_1 != a1_1) = false := bne_eq_false_iff_eq.mpr c4
      clear c4
      by_cases c5 : (a0_2 != a1_2) = true
      · rw [if_pos c5] at H
        have c5b0 : (a0_2 != a1_2) = true := c5
        (try (have c5b1 : decide (a0_2 = a1_2) = false := by simpa using c5))
        (try (have c5b2 : (a0_2 == a1_2) = false := by simpa using c5))
        (try (have c5b3 : ¬ (a0_2 = a1_2) := by simpa using c5))
        clear c5
        obtain rfl := Option.some.inj H
        go_enter Try.func81, Try.ntmps81
        go_wp2_with (first | ((with_reducible refine gate_dst (N := 2) rfl ?_); refine box_event ?hg (N := 2) ?hd (cs := #[.int .i64 a0_0, .int .i64 a0_1, .bool a0_2]) (t := 97) ?hr ?_; (case hd => rfl); (case hg => rfl); (case hr => first | (go_simp; done) | (go_simp; rfl)); intro gb203 hg w6 hbox hb; have n0_ := Aside0.mk (below_step (by repeat (first | (with_reducible first | exact HB.out | apply below_alloc | apply pw_below_drewN | apply below_drew1) | exact HB.out)) hb); have n1_ := Aside0.mk (hbox); have n2_ := Aside0.mk ((by rw [hg]; exact (below_size (by repeat (first | (with_reducible first | exact HB.out | apply below_alloc | apply pw_below_drewN | apply below_drew1) | exact HB.out))) : w.heap.size ≤ gb203)); have n3_ := Aside0.mk ((by rw [hg]; exact (below_size (by repeat (first | (with_reducible first | exact HB.out | apply below_alloc | apply pw_below_drewN | apply below_drew1) | exact HB.out))) : w.heap.size ≤ gb203)); clear HB; have HB := n0_; have BK203 := n1_; have GW203 := n2_; have GE203 := n3_; clear n0_ n1_ n2_ n3_; clear hb hbox hg) | ((with_reducible refine gate_dst (N := 3) rfl ?_); refine box_event ?hg (N := 3) ?hd (cs := #[.int .i64 a1_0, .int .i64 a1_1, .bool a1_2]) (t := 97) ?hr ?_; (case hd => rfl); (case hg => rfl); (case hr => first | (go_simp; done) | (go_simp; rfl)); intro gb204 hg w7 hbox hb; have n0_ := Aside0.mk (blk_below (g := gb203) (o := .cells #[.int .i64 a0_0, .int .i64 a0_1, .bool a0_2] 97 (0, 0)) (by (with_reducible repeat (first | refine blk_drewN ?_ _ | refine blk_drew ?_ | refine blk_alloc ?_ _)); exact BK203.out) hb); have n1_ := Aside0.mk (below_step (by repeat (first | (with_reducible first | exact HB.out | apply below_alloc | apply pw_below_drewN | apply below_drew1 | refine below_set ?_ GE203.out) | exact HB.out)) hb); have n2_ := Aside0.mk (hbox); have n3_ := Aside0.mk ((by rw [hg]; exact (below_size (by repeat (first | (with_reducible first | exact HB.out | apply below_alloc | apply pw_below_drewN | apply below_drew1 | refine below_set ?_ GE203.out) | exact HB.out))) : w.heap.size ≤ gb204)); have n4_ := Aside0.mk ((by rw [hg]; exact (below_size (by repeat (first | (with_reducible first | exact HB.out | apply below_alloc | apply pw_below_drewN | apply below_drew1 | refine below_set ?_ GE203.out) | exact HB.out))) : w.heap.size ≤ gb204)); have n5_ := Aside0.mk ((by rw [hg]; exact Nat.ne_of_lt (blk_lt (g := gb203) (o := .cells #[.int .i64 a0_0, .int .i64 a0_1, .bool a0_2] 97 (0, 0)) (by (with_reducible repeat (first | refine blk_drewN ?_ _ | refine blk_drew ?_ | refine blk_alloc ?_ _)); exact BK203.out)) : gb203 ≠ gb204)); have n6_ := Aside0.mk ((by rw [hg]; exact Nat.ne_of_gt (blk_lt (g := gb203) (o := .cells #[.int .i64 a0_0, .int .i64 a0_1, .bool a0_2] 97 (0, 0)) (by (with_reducible repeat (first | refine blk_drewN ?_ _ | refine blk_drew ?_ | refine blk_alloc ?_ _)); exact BK203.out)) : gb204 ≠ gb203)); clear BK203; clear HB; have BK203 := n0_; have HB := n1_; have BK204 := n2_; have GW204 := n3_; have GE204 := n4_; have NB203_204 := n5_; have NB204_203 := n6_; clear n0_ n1_ n2_ n3_ n4_ n5_ n6_; clear hb hbox hg; have hnb8 := NB203_204.out; have hnc8 := NB204_203.out; have hcz9_0 : w7.cell? ⟨gb203, 0, none⟩ = some (.int .i64 a0_0) := (blk_cell BK203.out 0).trans rfl; have hcz9_1 : w7.cell? ⟨gb203, 1, none⟩ = some (.int .i64 a0_1) := (blk_cell BK203.out 1).trans rfl; have hcz9_2 : w7.cell? ⟨gb203, 2, none⟩ = some (.bool a0_2) := (blk_cell BK203.out 2).trans rfl; have hfz9_0 := blk_frozen BK203.out 0; have hfz9_1 := blk_frozen BK203.out 1; have hfz9_2 := blk_frozen BK203.out 2; have hcz10_0 : w7.cell? ⟨gb204, 0, none⟩ = some (.int .i64 a1_0) := (blk_cell BK204.out 0).trans rfl; have hcz10_1 : w7.cell? ⟨gb204, 1, none⟩ = some (.int .i64 a1_1) := (blk_cell BK204.out 1).trans rfl; have hcz10_2 : w7.cell? ⟨gb204, 2, none⟩ = some (.bool a1_2) := (blk_cell BK204.out 2).trans rfl; have hfz10_0 := blk_frozen BK204.out 0; have hfz10_1 := blk_frozen BK204.out 1; have hfz10_2 := blk_frozen BK204.out 2))
        go_ret
        exact ⟨by first | rfl | (simp [errW_none, errW_some] <;> rfl) | (simp [*, errW_none, errW_some] <;> rfl), by repeat (first | (with_reducible first | exact HB.out | apply below_alloc | apply pw_below_drewN | apply below_drew1 | refine below_set ?_ GE203.out | refine below_set ?_ GE204.out) | exact HB.out)⟩
      · rw [if_neg c5] at H
        have c5b0 : (a0_2 != a1_2) = false := by simpa using c5
        (try (have c5b1 : decide (a0_2 = a1_2) = true := by simpa using c5))
        (try (have c5b2 : (a0_2 == a1_2) = true := by simpa using c5))
        clear c5
        obtain rfl := Option.some.inj H
        go_enter Try.func81, Try.ntmps81
        go_wp2_with (first | ((with_reducible refine gate_dst (N := 2) rfl ?_); refine box_event ?hg (N := 2) ?hd (cs := #[.int .i64 a0_0, .int .i64 a0_1, .bool a0_2]) (t := 97) ?hr ?_; (case hd => rfl); (case hg => rfl); (case hr => first | (go_simp; done) | (go_simp; rfl)); intro gb203 hg w11 hbox hb; have n0_ := Aside0.mk (below_step (by repeat (first | (with_reducible first | exact HB.out | apply below_alloc | apply pw_below_drewN | apply below_drew1) | exact HB.out)) hb); have n1_ := Aside0.mk (hbox); have n2_ := Aside0.mk ((by rw [hg]; exact (below_size (by repeat (first | (with_reducible first | exact HB.out | apply below_alloc | apply pw_below_drewN | apply below_drew1) | exact HB.out))) : w.heap.size ≤ gb203)); have n3_ := Aside0.mk ((by rw [hg]; exact (below_size (by repeat (first | (with_reducible first | exact HB.out | apply below_alloc | apply pw_below_drewN | apply below_drew1) | exact HB.out))) : w.heap.size ≤ gb203)); clear HB; have HB := n0_; have BK203 := n1_; have GW203 := n2_; have GE203 := n3_; clear n0_ n1_ n2_ n3_; clear hb hbox hg) | ((with_reducible refine gate_dst (N := 3) rfl ?_); refine box_event ?hg (N := 3) ?hd (cs := #[.int .i64 a1_0, .int .i64 a1_1, .bool a1_2]) (t := 97) ?hr ?_; (case hd => rfl); (case hg => rfl); (case hr => first | (go_simp; done) | (go_simp; rfl)); intro gb204 hg w12 hbox hb; have n0_ := Aside0.mk (blk_below (g := gb203) (o := .cells #[.int .i64 a0_0, .int .i64 a0_1, .bool a0_2] 97 (0, 0)) (by (with_reducible repeat (first | refine blk_drewN ?_ _ | refine blk_drew ?_ | refine blk_alloc ?_ _)); exact BK203.out) hb); have n1_ := Aside0.mk (below_step (by repeat (first | (with_reducible first | exact HB.out | apply below_alloc | apply pw_below_drewN | apply below_drew1 | refine below_set ?_ GE203.out) | exact HB.out)) hb); have n2_ := Aside0.mk (hbox); have n3_ := Aside0.mk ((by rw [hg]; exact (below_size (by repeat (first | (with_reducible first | exact HB.out | apply below_alloc | apply pw_below_drewN | apply below_drew1 | refine below_set ?_ GE203.out) | exact HB.out))) : w.heap.size ≤ gb204)); have n4_ := Aside0.mk ((by rw [hg]; exact (below_size (by repeat (first | (with_reducible first | exact HB.out | apply below_alloc | apply pw_below_drewN | apply below_drew1 | refine below_set ?_ GE203.out) | exact HB.out))) : w.heap.size ≤ gb204)); have n5_ := Aside0.mk ((by rw [hg]; exact Nat.ne_of_lt (blk_lt (g := gb203) (o := .cells #[.int .i64 a0_0, .int .i64 a0_1, .bool a0_2] 97 (0, 0)) (by (with_reducible repeat (first | refine blk_drewN ?_ _ | refine blk_drew ?_ | refine blk_alloc ?_ _)); exact BK203.out)) : gb203 ≠ gb204)); have n6_ := Aside0.mk ((by rw [hg]; exact Nat.ne_of_gt (blk_lt (g := gb203) (o := .cells #[.int .i64 a0_0, .int .i64 a0_1, .bool a0_2] 97 (0, 0)) (by (with_reducible repeat (first | refine blk_drewN ?_ _ | refine blk_drew ?_ | refine blk_alloc ?_ _)); exact BK203.out)) : gb204 ≠ gb203)); clear BK203; clear HB; have BK203 := n0_; have HB := n1_; have BK204 := n2_; have GW204 := n3_; have GE204 := n4_; have NB203_204 := n5_; have NB204_203 := n6_; clear n0_ n1_ n2_ n3_ n4_ n5_ n6_; clear hb hbox hg; have hnb13 := NB203_204.out; have hnc13 := NB204_203.out; have hcz14_0 : w12.cell? ⟨gb203, 0, none⟩ = some (.int .i64 a0_0) := (blk_cell BK203.out 0).trans rfl; have hcz14_1 : w12.cell? ⟨gb203, 1, none⟩ = some (.int .i64 a0_1) := (blk_cell BK203.out 1).trans rfl; have hcz14_2 : w12.cell? ⟨gb203, 2, none⟩ = some (.bool a0_2) := (blk_cell BK203.out 2).trans rfl; have hfz14_0 := blk_frozen BK203.out 0; have hfz14_1 := blk_frozen BK203.out 1; have hfz14_2 := blk_frozen BK203.out 2; have hcz15_0 : w12.cell? ⟨gb204, 0, none⟩ = some (.int .i64 a1_0) := (blk_cell BK204.out 0).trans rfl; have hcz15_1 : w12.cell? ⟨gb204, 1, none⟩ = some (.int .i64 a1_1) := (blk_cell BK204.out 1).trans rfl; have hcz15_2 : w12.cell? ⟨gb204, 2, none⟩ = some (.bool a1_2) := (blk_cell BK204.out 2).trans rfl; have hfz15_0 := blk_frozen BK204.out 0; have hfz15_1 := blk_frozen BK204.out 1; have hfz15_2 := blk_frozen BK204.out 2))
        go_ret
        exact ⟨by first | rfl | (simp [errW_none, errW_some] <;> rfl) | (simp [*, errW_none, errW_some] <;> rfl), by repeat (first | (with_reducible first | exact HB.out | apply below_alloc | apply pw_below_drewN | apply below_drew1 | refine below_set ?_ GE203.out | refine below_set ?_ GE204.out) | exact HB.out)⟩
    · rw [if_neg c4] at H
      have c4b0 : (a0_1 == a1_1) = false := beq_eq_false_iff_ne.mpr c4
      have c4b1 : (a0_1 != a1_1) = true := bne_iff_ne.mpr c4
      obtain rfl := Option.some.inj H
      go_enter Try.func81, Try.ntmps81
      go_wp2_with (first | ((with_reducible refine gate_dst (N := 2) rfl ?_); refine box_event ?hg (N := 2) ?hd (cs := #[.int .i64 a0_0, .int .i64 a0_1, .bool a0_2]) (t := 97) ?hr ?_; (case hd => rfl); (case hg => rfl); (case hr => first | (go_simp; done) | (go_simp; rfl)); intro gb203 hg w16 hbox hb; have n0_ := Aside0.mk (below_step (by repeat (first | (with_reducible first | exact HB.out | apply below_alloc | apply pw_below_drewN | apply below_drew1) | exact HB.out)) hb); have n1_ := Aside0.mk (hbox); have n2_ := Aside0.mk ((by rw [hg]; exact (below_size (by repeat (first | (with_reducible first | exact HB.out | apply below_alloc | apply pw_below_drewN | apply below_drew1) | exact HB.out))) : w.heap.size ≤ gb203)); have n3_ := Aside0.mk ((by rw [hg]; exact (below_size (by repeat (first | (with_reducible first | exact HB.out | apply below_alloc | apply pw_below_drewN | apply below_drew1) | exact HB.out))) : w.heap.size ≤ gb203)); clear HB; have HB := n0_; have BK203 := n1_; have GW203 := n2_; have GE203 := n3_; clear n0_ n1_ n2_ n3_; clear hb hbox hg) | ((with_reducible refine gate_dst (N := 3) rfl ?_); refine box_event ?hg (N := 3) ?hd (cs := #[.int .i64 a1_0, .int .i64 a1_1, .bool a1_2]) (t := 97) ?hr ?_; (case hd => rfl); (case hg => rfl); (case hr => first | (go_simp; done) | (go_simp; rfl)); intro gb204 hg w17 hbox hb; have n0_ := Aside0.mk (blk_below (g := gb203) (o := .cells #[.int .i64 a0_0, .int .i64 a0_1, .bool a0_2] 97 (0, 0)) (by (with_reducible repeat (first | refine blk_drewN ?_ _ | refine blk_drew ?_ | refine blk_alloc ?_ _)); exact BK203.out) hb); have n1_ := Aside0.mk (below_step (by repeat (first | (with_reducible first | exact HB.out | apply below_alloc | apply pw_below_drewN | apply below_drew1 | refine below_set ?_ GE203.out) | exact HB.out)) hb); have n2_ := Aside0.mk (hbox); have n3_ := Aside0.mk ((by rw [hg]; exact (below_size (by repeat (first | (with_reducible first | exact HB.out | apply below_alloc | apply pw_below_drewN | apply below_drew1 | refine below_set ?_ GE203.out) | exact HB.out))) : w.heap.size ≤ gb204)); have n4_ := Aside0.mk ((by rw [hg]; exact (below_size (by repeat (first | (with_reducible first | exact HB.out | apply below_alloc | apply pw_below_drewN | apply below_drew1 | refine below_set ?_ GE203.out) | exact HB.out))) : w.heap.size ≤ gb204)); have n5_ := Aside0.mk ((by rw [hg]; exact Nat.ne_of_lt (blk_lt (g := gb203) (o := .cells #[.int .i64 a0_0, .int .i64 a0_1, .bool a0_2] 97 (0, 0)) (by (with_reducible repeat (first | refine blk_drewN ?_ _ | refine blk_drew ?_ | refine blk_alloc ?_ _)); exact BK203.out)) : gb203 ≠ gb204)); have n6_ := Aside0.mk ((by rw [hg]; exact Nat.ne_of_gt (blk_lt (g := gb203) (o := .cells #[.int .i64 a0_0, .int .i64 a0_1, .bool a0_2] 97 (0, 0)) (by (with_reducible repeat (first | refine blk_drewN ?_ _ | refine blk_drew ?_ | refine blk_alloc ?_ _)); exact BK203.out)) : gb204 ≠ gb203)); clear BK203; clear HB; have BK203 := n0_; have HB := n1_; have BK204 := n2_; have GW204 := n3_; have GE204 := n4_; have NB203_204 := n5_; have NB204_203 := n6_; clear n0_ n1_ n2_ n3_ n4_ n5_ n6_; clear hb hbox hg; have hnb18 := NB203_204.out; have hnc18 := NB204_203.out; have hcz19_0 : w17.cell? ⟨gb203, 0, none⟩ = some (.int .i64 a0_0) := (blk_cell BK203.out 0).trans rfl; have hcz19_1 : w17.cell? ⟨gb203, 1, none⟩ = some (.int .i64 a0_1) := (blk_cell BK203.out 1).trans rfl; have hcz19_2 : w17.cell? ⟨gb203, 2, none⟩ = some (.bool a0_2) := (blk_cell BK203.out 2).trans rfl; have hfz19_0 := blk_frozen BK203.out 0; have hfz19_1 := blk_frozen BK203.out 1; have hfz19_2 := blk_frozen BK203.out 2; have hcz20_0 : w17.cell? ⟨gb204, 0, none⟩ = some (.int .i64 a1_0) := (blk_cell BK204.out 0).trans rfl; have hcz20_1 : w17.cell? ⟨gb204, 1, none⟩ = some (.int .i64 a1_1) := (blk_cell BK204.out 1).trans rfl; have hcz20_2 : w17.cell? ⟨gb204, 2, none⟩ = some (.bool a1_2) := (blk_cell BK204.out 2).trans rfl; have hfz20_0 := blk_frozen BK204.out 0; have hfz20_1 := blk_frozen BK204.out 1; have hfz20_2 := blk_frozen BK204.out 2))
      go_ret
      exact ⟨by first | rfl | (simp [errW_none, errW_some] <;> rfl) | (simp [*, errW_none, errW_some] <;> rfl), by repeat (first | (with_reducible first | exact HB.out | apply below_alloc | apply pw_below_drewN | apply below_drew1 | refine below_set ?_ GE203.out | refine below_set ?_ GE204.out) | exact HB.out)⟩
  · rw [if_neg c3] at H
    have c3b0 : (a0_0 == a1_0) = false := beq_eq_false_iff_ne.mpr c3
    have c3b1 : (a0_0 != a1_0) = true := bne_iff_ne.mpr c3
    obtain rfl := Option.some.inj H
    go_enter Try.func81, Try.ntmps81
    go_wp2_with (first | ((with_reducible refine gate_dst (N := 2) rfl ?_); refine box_event ?hg (N := 2) ?hd (cs := #[.int .i64 a0_0, .int .i64 a0_1, .bool a0_2]) (t := 97) ?hr ?_; (case hd => rfl); (case hg => rfl); (case hr => first | (go_simp; done) | (go_simp; rfl)); intro gb203 hg w21 hbox hb; have n0_ := Aside0.mk (below_step (by repeat (first | (with_reducible first | exact HB.out | apply below_alloc | apply pw_below_drewN | apply below_drew1) | exact HB.out)) hb); have n1_ := Aside0.mk (hbox); have n2_ := Aside0.mk ((by rw [hg]; exact (below_size (by repeat (first | (with_reducible first | exact HB.out | apply below_alloc | apply pw_below_drewN | apply below_drew1) | exact HB.out))) : w.heap.size ≤ gb203)); have n3_ := Aside0.mk ((by rw [hg]; exact (below_size (by repeat (first | (with_reducible first | exact HB.out | apply below_alloc | apply pw_below_drewN | apply below_drew1) | exact HB.out))) : w.heap.size ≤ gb203)); clear HB; have HB := n0_; have BK203 := n1_; have GW203 := n2_; have GE203 := n3_; clear n0_ n1_ n2_ n3_; clear hb hbox hg) | ((with_reducible refine gate_dst (N := 3) rfl ?_); refine box_event ?hg (N := 3) ?hd (cs := #[.int .i64 a1_0, .int .i64 a1_1, .bool a1_2]) (t := 97) ?hr ?_; (case hd => rfl); (case hg => rfl); (case hr => first | (go_simp; done) | (go_simp; rfl)); intro gb204 hg w22 hbox hb; have n0_ := Aside0.mk (blk_below (g := gb203) (o := .cells #[.int .i64 a0_0, .int .i64 a0_1, .bool a0_2] 97 (0, 0)) (by (with_reducible repeat (first | refine blk_drewN ?_ _ | refine blk_drew ?_ | refine blk_alloc ?_ _)); exact BK203.out) hb); have n1_ := Aside0.mk (below_step (by repeat (first | (with_reducible first | exact HB.out | apply below_alloc | apply pw_below_drewN | apply below_drew1 | refine below_set ?_ GE203.out) | exact HB.out)) hb); have n2_ := Aside0.mk (hbox); have n3_ := Aside0.mk ((by rw [hg]; exact (below_size (by repeat (first | (with_reducible first | exact HB.out | apply below_alloc | apply pw_below_drewN | apply below_drew1 | refine below_set ?_ GE203.out) | exact HB.out))) : w.heap.size ≤ gb204)); have n4_ := Aside0.mk ((by rw [hg]; exact (below_size (by repeat (first | (with_reducible first | exact HB.out | apply below_alloc | apply pw_below_drewN | apply below_drew1 | refine below_set ?_ GE203.out) | exact HB.out))) : w.heap.size ≤ gb204)); have n5_ := Aside0.mk ((by rw [hg]; exact Nat.ne_of_lt (blk_lt (g := gb203) (o := .cells #[.int .i64 a0_0, .int .i64 a0_1, .bool a0_2] 97 (0, 0)) (by (with_reducible repeat (first | refine blk_drewN ?_ _ | refine blk_drew ?_ | refine blk_alloc ?_ _)); exact BK203.out)) : gb203 ≠ gb204)); have n6_ := Aside0.mk ((by rw [hg]; exact Nat.ne_of_gt (blk_lt (g := gb203) (o := .cells #[.int .i64 a0_0, .int .i64 a0_1, .bool a0_2] 97 (0, 0)) (by (with_reducible repeat (first | refine blk_drewN ?_ _ | refine blk_drew ?_ | refine blk_alloc ?_ _)); exact BK203.out)) : gb204 ≠ gb203)); clear BK203; clear HB; have BK203 := n0_; have HB := n1_; have BK204 := n2_; have GW204 := n3_; have GE204 := n4_; have NB203_204 := n5_; have NB204_203 := n6_; clear n0_ n1_ n2_ n3_ n4_ n5_ n6_; clear hb hbox hg; have hnb23 := NB203_204.out; have hnc23 := NB204_203.out; have hcz24_0 : w22.cell? ⟨gb203, 0, none⟩ = some (.int .i64 a0_0) := (blk_cell BK203.out 0).trans rfl; have hcz24_1 : w22.cell? ⟨gb203, 1, none⟩ = some (.int .i64 a0_1) := (blk_cell BK203.out 1).trans rfl; have hcz24_2 : w22.cell? ⟨gb203, 2, none⟩ = some (.bool a0_2) := (blk_cell BK203.out 2).trans rfl; have hfz24_0 := blk_frozen BK203.out 0; have hfz24_1 := blk_frozen BK203.out 1; have hfz24_2 := blk_frozen BK203.out 2; have hcz25_0 : w22.cell? ⟨gb204, 0, none⟩ = some (.int .i64 a1_0) := (blk_cell BK204.out 0).trans rfl; have hcz25_1 : w22.cell? ⟨gb204, 1, none⟩ = some (.int .i64 a1_1) := (blk_cell BK204.out 1).trans rfl; have hcz25_2 : w22.cell? ⟨gb204, 2, none⟩ = some (.bool a1_2) := (blk_cell BK204.out 2).trans rfl; have hfz25_0 := blk_frozen BK204.out 0; have hfz25_1 := blk_frozen BK204.out 1; have hfz25_2 := blk_frozen BK204.out 2))
    go_ret
    exact ⟨by first | rfl | (simp [errW_none, errW_some] <;> rfl) | (simp [*, errW_none, errW_some] <;> rfl), by repeat (first | (with_reducible first | exact HB.out | apply below_alloc | apply pw_below_drewN | apply below_drew1 | refine below_set ?_ GE203.out | refine below_set ?_ GE204.out) | exact HB.out)⟩

end Go.Proofs.Ytpkhoanaifpopaa.P
end
section
namespace Go.Proofs.Ytpkhoanaifpopaa.P
open Go.RowKit Go.Proofs.YtpkhoanaifpopaaW.PrintWords Go.Proofs.YtpkhoanaifpopaaW.PrintLast Go.Proofs.YtpkhoanaifpopaaW.PrintMore
attribute [local go_sem] max2_int min2_int max_two min_two max_three min_three max_four min_four   -- for this text's walks alone
set_option linter.unusedVariables false
set_option linter.unusedSimpArgs false

/-! ### laws_eqRegionS: function 24 -/
def laws_eqRegionS.l0 : Nat → List (S97) → List (S97) → Int → Option (Bool)
  | 0, _, _, _ => none
  | k + 1, x0, x1, x5 => if x5 < (x0.length : Int) then (if 0 ≤ x5 then (if x5 < (x1.length : Int) then ((laws_eqRegion.f ((rd_T97 x0 x5).f0) ((rd_T97 x0 x5).f1) ((rd_T97 x0 x5).f2) ((rd_T97 x1 x5).f0) ((rd_T97 x1 x5).f1) ((rd_T97 x1 x5).f2)).bind fun t207 => (if t207 = true then (laws_eqRegionS.l0 k x0 x1 (wrap64 (x5 + 1))) else (some false))) else (none)) else (none)) else (some true)
def laws_eqRegionS.f (k : Nat) (l0 : List (S97)) (l1 : List (S97)) : Option (Bool) := if (l0.length : Int) = (l1.length : Int) then (laws_eqRegionS.l0 k l0 l1 0) else (some false)
theorem laws_eqRegionS.mono_l : ∀ k, (∀ y0 y1 y2, LeO (laws_eqRegionS.l0 k y0 y1 y2) (laws_eqRegionS.l0 (k + 1) y0 y1 y2))
  | 0 => fun _ _ _ r h => by simp [laws_eqRegionS.l0] at h
  | k + 1 => by
    have ih0 := laws_eqRegionS.mono_l k
    · intro y0 y1 y2
      unfold laws_eqRegionS.l0
      repeat' first
      | (with_reducible exact ih0 _ _ _)
      | (with_reducible exact LeO.refl _)
      | (with_reducible exact LeO.none _)
      | (with_reducible refine LeO.ite ?_ ?_)
      | (with_reducible refine LeO.bind ?_ (fun _ => ?_))
      | exact ih0 _ _ _
      | exact LeO.none _
      | refine LeO.ite ?_ ?_
      | refine LeO.bind ?_ (fun _ => ?_)
theorem laws_eqRegionS.mono : ∀ a0 a1 k, LeO (laws_eqRegionS.f k a0 a1) (laws_eqRegionS.f (k + 1) a0 a1) := by
  intro a0 a1 k
  have ih0 := laws_eqRegionS.mono_l k
  unfold laws_eqRegionS.f
  repeat' first
      | (with_reducible exact ih0 _ _ _)
      | (with_reducible exact LeO.refl _)
      | (with_reducible exact LeO.none _)
      | (with_reducible refine LeO.ite ?_ ?_)
      | (with_reducible refine LeO.bind ?_ (fun _ => ?_))
      | exact ih0 _ _ _
      | exact LeO.none _
      | refine LeO.ite ?_ ?_
      | refine LeO.bind ?_ (fun _ => ?_)
def laws_eqRegionS.T6 : Bool × List (List Nat × List Nat) := (true, [([], []), ([], []), ([0, 1], [0, 1]), ([2], [2]), ([], []), ([], []), ([4, 5], [4, 5]), ([6], [6]), ([3, 7], [3, 7]), ([8], [8])])
def laws_eqRegionS.B6 : List Nat := [0, 0, 3, 7, 0, 0, 48, 112, 255, 511]
theorem laws_eqRegionS.tab6 : rtab .any (opsOf Try.f24 6) = laws_eqRegionS.T6 := by kernel_rfl
theorem laws_eqRegionS.bits6 : waitsOk laws_eqRegionS.T6.2 laws_eqRegionS.B6 = true := by kernel_rfl
set_option maxHeartbeats 8000000 in
set_option maxRecDepth 100000 in
theorem laws_eqRegionS.calls (k : Nat) (A0 : Option Addr) (c0 : Nat) (l0 : List (S97)) (A1 : Option Addr) (c1 : Nat) (l1 : List (S97)) (r : Bool) (w : World) (hr0 : Kd.C k97 w A0 l0.length l0) (hc0 : l0.length ≤ c0) (hr1 : Kd.C k97 w A1 l1.length l1) (hc1 : l1.length ≤ c1) (h : laws_eqRegionS.f k l0 l1 = some r) :
    Calls Try.prog 24 #[.slice A0 l0.length c0, .slice A1 l1.length c1] w fun e w' => e = .returned (.bool r) ∧ Below w.heap.size w w' := by
  have hu97 := Try.underlying97
  have HR0 := Aside0.mk hr0
  have HC0 := Aside0.mk hc0
  clear hr0 hc0
  have HR1 := Aside0.mk hr1
  have HC1 := Aside0.mk hc1
  clear hr1 hc1
  have HB := Aside0.mk (Below.refl w.heap.size w)
  have H : (if (l0.length : Int) = (l1.length : Int) then (laws_eqRegionS.l0 k l0 l1 0) else (some false)) = some r := h
  clear h
  by_cases c3 : (l0.length : Int) = (l1.length : Int)
  · rw [if_pos c3] at H
    have c3b0 : ((l0.length : Int) == (l1.length : Int)) = true := beq_iff_eq.mpr c3
    have c3b1 : ((l0.length : Int) != (l1.length : Int)) = false := bne_eq_false_iff_eq.mpr c3
    have c3b2 : (l0.length == l1.length) = true := by first | simpa using c3 | (simp at c3 ⊢; omega)
    clear c3
    have H' := Aside0.mk H
    clear H
    go_enter Try.func24, Try.ntmps24
    go_wp2
    go_loopg [5] k (fun kq v5 w' => ∃ (x5_1 : Int), v5 = .int .i64 x5_1 ∧ Aside0 (laws_eqRegionS.l0 kq l0 l1 x5_1 = some r) ∧ Aside0 (kq ≤ k) ∧ Aside0 (Below w.heap.size w w'))
    case atStart => exact ⟨(0), (by first | rfl | (simp; done) | (simp [*]; done)), H', ⟨Nat.le_refl _⟩, ⟨by repeat (first | (with_reducible first | exact HB.out | apply below_alloc | apply pw_below_drewN | apply below_drew1) | exact HB.out)⟩⟩
    case round =>
      clear H'
      try clear c1
      try clear c2
      try clear p2
      try clear c3
      try clear c3b0
      try clear c3b1
      try clear c3b2
      obtain ⟨x5_1, rfl, HA, HK1, HB⟩ := hrel
      cases gk with
      | zero => exact absurd HA.out (by simp [laws_eqRegionS.l0])
      | succ k1 =>
        have H := HA.out
        clear HA
        simp only [laws_eqRegionS.l0] at H
        by_cases c4 : x5_1 < (l0.length : Int)
        · rw [if_pos c4] at H
          have c4b0 : decide (x5_1 < (l0.length : Int)) = true := decide_eq_true c4
          clear c4
          by_cases c5 : 0 ≤ x5_1
          · rw [if_pos c5] at H
            have c5b0 : decide (0 ≤ x5_1) = true := decide_eq_true c5
            clear c5
            by_cases c6 : x5_1 < (l1.length : Int)
            · rw [if_pos c6] at H
              have c6b0 : decide (x5_1 < (l1.length : Int)) = true := decide_eq_true c6
              clear c6
              replace H := Option.bind_eq_some_iff.mp H
              obtain ⟨t207, A70, H⟩ := H
              replace H : (if t207 = true then (laws_eqRegionS.l0 k1 l0 l1 (wrap64 (x5_1 + 1))) else (some false)) = some r := H
              have A7 := Aside0.mk A70
              clear A70
              by_cases c8 : t207 = true
              · subst c8
                have H1 : (laws_eqRegionS.l0 k1 l0 l1 (wrap64 (x5_1 + 1))) = some r := by rw [if_pos rfl] at H; exact H
                clear H
                have H := H1
                clear H1
                have H' := Aside0.mk H
                clear H
                try go_wp2
                have n0_ := Aside0.mk (below_drew1 HB.out)
                clear HB
                have HB := n0_
                clear n0_
                have p205 : 0 ≤ (x5_1 : Int) := of_decide_eq_true (by first | (with_reducible assumption) | assumption)
                have q205 : x5_1 < (l0.length : Int) := of_decide_eq_true (by first | (with_reducible assumption) | assumption)
                obtain ⟨ad205, e205, hx205_0, hx205_1, hx205_2⟩ := at_T97 HR0.out x5_1 p205 q205
                have hw205_2 := hx205_2
                have hw205_1 := hx205_1
                have hw205_0 := hx205_0
                cases e205
                replace hx205_0 := (HB.out.cell (World.block_lt_of_cell? w _ hx205_0)).trans hx205_0
                replace hx205_1 := (HB.out.cell (World.block_lt_of_cell? w _ hx205_1)).trans hx205_1
                replace hx205_2 := (HB.out.cell (World.block_lt_of_cell? w _ hx205_2)).trans hx205_2
                replace p205 := eq_true p205
                replace q205 := eq_true q205
                have p206 : 0 ≤ (x5_1 : Int) := of_decide_eq_true (by first | (with_reducible assumption) | assumption)
                have q206 : x5_1 < (l1.length : Int) := of_decide_eq_true (by first | (with_reducible assumption) | assumption)
                obtain ⟨ad206, e206, hx206_0, hx206_1, hx206_2⟩ := at_T97 HR1.out x5_1 p206 q206
                have hw206_2 := hx206_2
                have hw206_1 := hx206_1
                have hw206_0 := hx206_0
                cases e206
                replace hx206_0 := (HB.out.cell (World.block_lt_of_cell? w _ hx206_0)).trans hx206_0
                replace hx206_1 := (HB.out.cell (World.block_lt_of_cell? w _ hx206_1)).trans hx206_1
                replace hx206_2 := (HB.out.cell (World.block_lt_of_cell? w _ hx206_2)).trans hx206_2
                replace p206 := eq_true p206
                replace q206 := eq_true q206
                refine start_ (n := 10) (S := fun w' => w'.cell? (ad205.add ((x5_1).toNat * 3)) = some (.int .i64 ((rd_T97 l0 x5_1).f0)) ∧ w'.cell? ⟨(ad205.add ((x5_1).toNat * 3)).block, (ad205.add ((x5_1).toNat * 3)).off + 1, none⟩ = some (.int .i64 ((rd_T97 l0 x5_1).f1)) ∧ w'.cell? ⟨(ad205.add ((x5_1).toNat * 3)).block, (ad205.add ((x5_1).toNat * 3)).off + 2, none⟩ = some (.bool ((rd_T97 l0 x5_1).f2)) ∧ w'.cell? (ad206.add ((x5_1).toNat * 3)) = some (.int .i64 ((rd_T97 l1 x5_1).f0)) ∧ w'.cell? ⟨(ad206.add ((x5_1).toNat * 3)).block, (ad206.add ((x5_1).toNat * 3)).off + 1, none⟩ = some (.int .i64 ((rd_T97 l1 x5_1).f1)) ∧ w'.cell? ⟨(ad206.add ((x5_1).toNat * 3)).block, (ad206.add ((x5_1).toNat * 3)).off + 2, none⟩ = some (.bool ((rd_T97 l1 x5_1).f2))) (ds := []) #[false, false, false, false, false, false, false, false, false, false] (by kernel_rfl) rfl rfl ⟨((HB.out.cell (World.block_lt_of_cell? w _ hw205_0)).trans hw205_0), ((HB.out.cell (World.block_lt_of_cell? w _ hw205_1)).trans hw205_1), ((HB.out.cell (World.block_lt_of_cell? w _ hw205_2)).trans hw205_2), ((HB.out.cell (World.block_lt_of_cell? w _ hw206_0)).trans hw206_0), ((HB.out.cell (World.block_lt_of_cell? w _ hw206_1)).trans hw206_1), ((HB.out.cell (World.block_lt_of_cell? w _ hw206_2)).trans hw206_2)⟩ (fun hHeld => ?_); refine with_tabW laws_eqRegionS.tab6 laws_eqRegionS.bits6 (fun HT_ HW_ => ?_)
                generalize wr.drew = w9 at HB hx205_0 hx205_1 hx205_2 hx206_0 hx206_1 hx206_2 hHeld ⊢
                refine pure_ (i := 0) (N := some 17) (v := ?_) (a' := ?_) #[true, false, false, false, false, false, false, false, false, false] rfl rfl (any_of HT_.out (by kernel_rfl)) (fun _ _ _ h => h) (Or.inl ⟨by rfl, ?_⟩) ?_ ?_
                rotate_left
                · intro w'
                  go_simp
                  with_reducible rfl
                rotate_left
                · simp only [Act.put, List.setIfInBounds_toArray, List.set_cons_zero, List.set_cons_succ, i64_w, i32_w]
                  rfl
                refine pure_ (i := 1) (N := some 18) (v := ?_) (a' := ?_) #[true, true, false, false, false, false, false, false, false, false] rfl rfl (any_of HT_.out (by kernel_rfl)) (fun _ _ _ h => h) (Or.inl ⟨by rfl, ?_⟩) ?_ ?_
                rotate_left
                · intro w'
                  go_simp
                  with_reducible rfl
                rotate_left
                · simp only [Act.put, List.setIfInBounds_toArray, List.set_cons_zero, List.set_cons_succ, i64_w, i32_w]
                  rfl
                refine pure_ (i := 2) (N := some 19) (v := ?_) (a' := ?_) #[true, true, true, false, false, false, false, false, false, false] rfl rfl (any_of HT_.out (by kernel_rfl)) (fun _ _ _ h => h) (Or.inl ⟨by rfl, ?_⟩) ?_ ?_
                rotate_left
                · intro w'
                  go_simp
                  with_reducible rfl
                rotate_left
                · simp only [Act.put, List.setIfInBounds_toArray, List.set_cons_zero, List.set_cons_succ, i64_w, i32_w]
                  rfl
                refine pure_ (i := 4) (N := some 21) (v := ?_) (a' := ?_) #[true, true, true, false, true, false, false, false, false, false] rfl rfl (any_of HT_.out (by kernel_rfl)) (fun _ _ _ h => h) (Or.inl ⟨by rfl, ?_⟩) ?_ ?_
                rotate_left
                · intro w'
                  go_simp
                  with_reducible rfl
                rotate_left
                · simp only [Act.put, List.setIfInBounds_toArray, List.set_cons_zero, List.set_cons_succ, i64_w, i32_w]
                  rfl
                refine pure_ (i := 5) (N := some 22) (v := ?_) (a' := ?_) #[true, true, true, false, true, true, false, false, false, false] rfl rfl (any_of HT_.out (by kernel_rfl)) (fun _ _ _ h => h) (Or.inl ⟨by rfl, ?_⟩) ?_ ?_
                rotate_left
                · intro w'
                  go_simp
                  with_reducible rfl
                rotate_left
                · simp only [Act.put, List.setIfInBounds_toArray, List.set_cons_zero, List.set_cons_succ, i64_w, i32_w]
                  rfl
                refine pure_ (i := 6) (N := some 23) (v := ?_) (a' := ?_) #[true, true, true, false, true, true, true, false, false, false] rfl rfl (any_of HT_.out (by kernel_rfl)) (fun _ _ _ h => h) (Or.inl ⟨by rfl, ?_⟩) ?_ ?_
                rotate_left
                · intro w'
                  go_simp
                  with_reducible rfl
                rotate_left
                · simp only [Act.put, List.setIfInBounds_toArray, List.set_cons_zero, List.set_cons_succ, i64_w, i32_w]
                  rfl
                refine take_ (i := 3) (N := some 20) (v := ?_) (a' := ?_) #[true, true, true, true, true, true, true, false, false, false] rfl rfl (take_ofW HT_.out HW_.out (by kernel_rfl)) (fun _ _ _ h => h) (Or.inl ⟨by rfl, ?_⟩) hHeld ?_ ?_
                rotate_left
                · rintro w' ⟨s0, s1, s2, s3, s4, s5⟩
                  go_simp
                  with_reducible rfl
                rotate_left
                · simp only [Act.put, List.setIfInBounds_toArray, List.set_cons_zero, List.set_cons_succ, i64_w, i32_w]
                  rfl
                refine take_ (i := 7) (N := some 24) (v := ?_) (a' := ?_) #[true, true, true, true, true, true, true, true, false, false] rfl rfl (take_ofW HT_.out HW_.out (by kernel_rfl)) (fun _ _ _ h => h) (Or.inl ⟨by rfl, ?_⟩) hHeld ?_ ?_
                rotate_left
                · rintro w' ⟨s0, s1, s2, s3, s4, s5⟩
                  go_simp
                  with_reducible rfl
                rotate_left
                · simp only [Act.put, List.setIfInBounds_toArray, List.set_cons_zero, List.set_cons_succ, i64_w, i32_w]
                  rfl
                refine one_ (i := 8) (N := some 25) #[true, true, true, true, true, true, true, true, true, false] rfl rfl (one_of HT_.out (by kernel_rfl)) (by decide) (fun K hK => ?_)
                refine goes_ Try.func81 (by kernel_rfl) rfl #[.agg #[.int .i64 ((rd_T97 l0 x5_1).f0), .int .i64 ((rd_T97 l0 x5_1).f1), .bool ((rd_T97 l0 x5_1).f2)], .agg #[.int .i64 ((rd_T97 l1 x5_1).f0), .int .i64 ((rd_T97 l1 x5_1).f1), .bool ((rd_T97 l1 x5_1).f2)]] (by rfl) rfl rfl (by (try simp only [List.map_toArray, List.map_cons, List.map_nil]); first | done | rfl | (simp only [List.length_drop, List.length_take]; rfl)) ?_
                with_reducible refine (laws_eqRegion.calls ((rd_T97 l0 x5_1).f0) ((rd_T97 l0 x5_1).f1) ((rd_T97 l0 x5_1).f2) ((rd_T97 l1 x5_1).f0) ((rd_T97 l1 x5_1).f1) ((rd_T97 l1 x5_1).f2) true _ A7.out).mono ?_
                rintro e w10 ⟨rfl, hb⟩
                refine ⟨_, rfl, ?_⟩
                have n0_ := Aside0.mk (below_step (by repeat (first | (with_reducible first | exact HB.out | apply below_alloc | apply pw_below_drewN | apply below_drew1) | exact HB.out)) hb)
                clear HB
                have HB := n0_
                clear n0_
                (try clear hb)
                (try clear hb2)
                (try clear hk)
                (try clear hi)
                refine hK.out _ _ ⟨((HB.out.cell (World.block_lt_of_cell? w _ hw205_0)).trans hw205_0), ((HB.out.cell (World.block_lt_of_cell? w _ hw205_1)).trans hw205_1), ((HB.out.cell (World.block_lt_of_cell? w _ hw205_2)).trans hw205_2), ((HB.out.cell (World.block_lt_of_cell? w _ hw206_0)).trans hw206_0), ((HB.out.cell (World.block_lt_of_cell? w _ hw206_1)).trans hw206_1), ((HB.out.cell (World.block_lt_of_cell? w _ hw206_2)).trans hw206_2)⟩ (fun hHeld => ?_)
                clear hK K
                refine norm_ (a' := ?_) ?_ ?_
                rotate_left
                · show Act.put _ (some 25) _ = _
                  simp only [Act.put, List.setIfInBounds_toArray, List.set_cons_zero, List.set_cons_succ, i64_w, i32_w]
                  rfl
                refine pure_ (i := 9) (N := some 26) (v := ?_) (a' := ?_) #[true, true, true, true, true, true, true, true, true, true] rfl rfl (any_of HT_.out (by kernel_rfl)) (fun _ _ _ h => h) (Or.inl ⟨by rfl, ?_⟩) ?_ ?_
                rotate_left
                · intro w'
                  go_simp
                  with_reducible rfl
                rotate_left
                · simp only [Act.put, List.setIfInBounds_toArray, List.set_cons_zero, List.set_cons_succ, i64_w, i32_w]
                  rfl
                refine done_ (done_of HT_.out (by kernel_rfl)) ?_
                try go_wp2
                go_roundg k1
                case measure => have := HK1.out; omega
                case rel => exact ⟨(wrap64 (x5_1 + 1)), (by first | rfl | (simp; done) | (simp [*]; done)), H', ⟨by have := HK1.out; omega⟩, ⟨by repeat (first | (with_reducible first | exact HB.out | apply below_alloc | apply pw_below_drewN | apply below_drew1) | exact HB.out)⟩⟩
              · replace c8 := Bool.eq_false_iff.mpr c8
                subst c8
                have H1 : (some false) = some r := by rw [if_neg (show ¬ (false = true) by decide)] at H; exact H
                clear H
                have H := H1
                clear H1
                obtain rfl := Option.some.inj H
                try go_wp2
                have n0_ := Aside0.mk (below_drew1 HB.out)
                clear HB
                have HB := n0_
                clear n0_
                have p205 : 0 ≤ (x5_1 : Int) := of_decide_eq_true (by first | (with_reducible assumption) | assumption)
                have q205 : x5_1 < (l0.length : Int) := of_decide_eq_true (by first | (with_reducible assumption) | assumption)
                obtain ⟨ad205, e205, hx205_0, hx205_1, hx205_2⟩ := at_T97 HR0.out x5_1 p205 q205
                have hw205_2 := hx205_2
                have hw205_1 := hx205_1
                have hw205_0 := hx205_0
                cases e205
                replace hx205_0 := (HB.out.cell (World.block_lt_of_cell? w _ hx205_0)).trans hx205_0
                replace hx205_1 := (HB.out.cell (World.block_lt_of_cell? w _ hx205_1)).trans hx205_1
                replace hx205_2 := (HB.out.cell (World.block_lt_of_cell? w _ hx205_2)).trans hx205_2
                replace p205 := eq_true p205
                replace q205 := eq_true q205
                have p206 : 0 ≤ (x5_1 : Int) := of_decide_eq_true (by first | (with_reducible assumption) | assumption)
                have q206 : x5_1 < (l1.length : Int) := of_decide_eq_true (by first | (with_reducible assumption) | assumption)
                obtain ⟨ad206, e206, hx206_0, hx206_1, hx206_2⟩ := at_T97 HR1.out x5_1 p206 q206
                have hw206_2 := hx206_2
                have hw206_1 := hx206_1
                have hw206_0 := hx206_0
                cases e206
                replace hx206_0 := (HB.out.cell (World.block_lt_of_cell? w _ hx206_0)).trans hx206_0
                replace hx206_1 := (HB.out.cell (World.block_lt_of_cell? w _ hx206_1)).trans hx206_1
                replace hx206_2 := (HB.out.cell (World.block_lt_of_cell? w _ hx206_2)).trans hx206_2
                replace p206 := eq_true p206
                replace q206 := eq_true q206
                refine start_ (n := 10) (S := fun w' => w'.cell? (ad205.add ((x5_1).toNat * 3)) = some (.int .i64 ((rd_T97 l0 x5_1).f0)) ∧ w'.cell? ⟨(ad205.add ((x5_1).toNat * 3)).block, (ad205.add ((x5_1).toNat * 3)).off + 1, none⟩ = some (.int .i64 ((rd_T97 l0 x5_1).f1)) ∧ w'.cell? ⟨(ad205.add ((x5_1).toNat * 3)).block, (ad205.add ((x5_1).toNat * 3)).off + 2, none⟩ = some (.bool ((rd_T97 l0 x5_1).f2)) ∧ w'.cell? (ad206.add ((x5_1).toNat * 3)) = some (.int .i64 ((rd_T97 l1 x5_1).f0)) ∧ w'.cell? ⟨(ad206.add ((x5_1).toNat * 3)).block, (ad206.add ((x5_1).toNat * 3)).off + 1, none⟩ = some (.int .i64 ((rd_T97 l1 x5_1).f1)) ∧ w'.cell? ⟨(ad206.add ((x5_1).toNat * 3)).block, (ad206.add ((x5_1).toNat * 3)).off + 2, none⟩ = some (.bool ((rd_T97 l1 x5_1).f2))) (ds := []) #[false, false, false, false, false, false, false, false, false, false] (by kernel_rfl) rfl rfl ⟨((HB.out.cell (World.block_lt_of_cell? w _ hw205_0)).trans hw205_0), ((HB.out.cell (World.block_lt_of_cell? w _ hw205_1)).trans hw205_1), ((HB.out.cell (World.block_lt_of_cell? w _ hw205_2)).trans hw205_2), ((HB.out.cell (World.block_lt_of_cell? w _ hw206_0)).trans hw206_0), ((HB.out.cell (World.block_lt_of_cell? w _ hw206_1)).trans hw206_1), ((HB.out.cell (World.block_lt_of_cell? w _ hw206_2)).trans hw206_2)⟩ (fun hHeld => ?_); refine with_tabW laws_eqRegionS.tab6 laws_eqRegionS.bits6 (fun HT_ HW_ => ?_)
                generalize wr.drew = w11 at HB hx205_0 hx205_1 hx205_2 hx206_0 hx206_1 hx206_2 hHeld ⊢
                refine pure_ (i := 0) (N := some 17) (v := ?_) (a' := ?_) #[true, false, false, false, false, false, false, false, false, false] rfl rfl (any_of HT_.out (by kernel_rfl)) (fun _ _ _ h => h) (Or.inl ⟨by rfl, ?_⟩) ?_ ?_
                rotate_left
                · intro w'
                  go_simp
                  with_reducible rfl
                rotate_left
                · simp only [Act.put, List.setIfInBounds_toArray, List.set_cons_zero, List.set_cons_succ, i64_w, i32_w]
                  rfl
                refine pure_ (i := 1) (N := some 18) (v := ?_) (a' := ?_) #[true, true, false, false, false, false, false, false, false, false] rfl rfl (any_of HT_.out (by kernel_rfl)) (fun _ _ _ h => h) (Or.inl ⟨by rfl, ?_⟩) ?_ ?_
                rotate_left
                · intro w'
                  go_simp
                  with_reducible rfl
                rotate_left
                · simp only [Act.put, List.setIfInBounds_toArray, List.set_cons_zero, List.set_cons_succ, i64_w, i32_w]
                  rfl
                refine pure_ (i := 2) (N := some 19) (v := ?_) (a' := ?_) #[true, true, true, false, false, false, false, false, false, false] rfl rfl (any_of HT_.out (by kernel_rfl)) (fun _ _ _ h => h) (Or.inl ⟨by rfl, ?_⟩) ?_ ?_
                rotate_left
                · intro w'
                  go_simp
                  with_reducible rfl
                rotate_left
                · simp only [Act.put, List.setIfInBounds_toArray, List.set_cons_zero, List.set_cons_succ, i64_w, i32_w]
                  rfl
                refine pure_ (i := 4) (N := some 21) (v := ?_) (a' := ?_) #[true, true, true, false, true, false, false, false, false, false] rfl rfl (any_of HT_.out (by kernel_rfl)) (fun _ _ _ h => h) (Or.inl ⟨by rfl, ?_⟩) ?_ ?_
                rotate_left
                · intro w'
                  go_simp
                  with_reducible rfl
                rotate_left
                · simp only [Act.put, List.setIfInBounds_toArray, List.set_cons_zero, List.set_cons_succ, i64_w, i32_w]
                  rfl
                refine pure_ (i := 5) (N := some 22) (v := ?_) (a' := ?_) #[true, true, true, false, true, true, false, false, false, false] rfl rfl (any_of HT_.out (by kernel_rfl)) (fun _ _ _ h => h) (Or.inl ⟨by rfl, ?_⟩) ?_ ?_
                rotate_left
                · intro w'
                  go_simp
                  with_reducible rfl
                rotate_left
                · simp only [Act.put, List.setIfInBounds_toArray, List.set_cons_zero, List.set_cons_succ, i64_w, i32_w]
                  rfl
                refine pure_ (i := 6) (N := some 23) (v := ?_) (a' := ?_) #[true, true, true, false, true, true, true, false, false, false] rfl rfl (any_of HT_.out (by kernel_rfl)) (fun _ _ _ h => h) (Or.inl ⟨by rfl, ?_⟩) ?_ ?_
                rotate_left
                · intro w'
                  go_simp
                  with_reducible rfl
                rotate_left
                · simp only [Act.put, List.setIfInBounds_toArray, List.set_cons_zero, List.set_cons_succ, i64_w, i32_w]
                  rfl
                refine take_ (i := 3) (N := some 20) (v := ?_) (a' := ?_) #[true, true, true, true, true, true, true, false, false, false] rfl rfl (take_ofW HT_.out HW_.out (by kernel_rfl)) (fun _ _ _ h => h) (Or.inl ⟨by rfl, ?_⟩) hHeld ?_ ?_
                rotate_left
                · rintro w' ⟨s0, s1, s2, s3, s4, s5⟩
                  go_simp
                  with_reducible rfl
                rotate_left
                · simp only [Act.put, List.setIfInBounds_toArray, List.set_cons_zero, List.set_cons_succ, i64_w, i32_w]
                  rfl
                refine take_ (i := 7) (N := some 24) (v := ?_) (a' := ?_) #[true, true, true, true, true, true, true, true, false, false] rfl rfl (take_ofW HT_.out HW_.out (by kernel_rfl)) (fun _ _ _ h => h) (Or.inl ⟨by rfl, ?_⟩) hHeld ?_ ?_
                rotate_left
                · rintro w' ⟨s0, s1, s2, s3, s4, s5⟩
                  go_simp
                  with_reducible rfl
                rotate_left
                · simp only [Act.put, List.setIfInBounds_toArray, List.set_cons_zero, List.set_cons_succ, i64_w, i32_w]
                  rfl
                refine one_ (i := 8) (N := some 25) #[true, true, true, true, true, true, true, true, true, false] rfl rfl (one_of HT_.out (by kernel_rfl)) (by decide) (fun K hK => ?_)
                refine goes_ Try.func81 (by kernel_rfl) rfl #[.agg #[.int .i64 ((rd_T97 l0 x5_1).f0), .int .i64 ((rd_T97 l0 x5_1).f1), .bool ((rd_T97 l0 x5_1).f2)], .agg #[.int .i64 ((rd_T97 l1 x5_1).f0), .int .i64 ((rd_T97 l1 x5_1).f1), .bool ((rd_T97 l1 x5_1).f2)]] (by rfl) rfl rfl (by (try simp only [List.map_toArray, List.map_cons, List.map_nil]); first | done | rfl | (simp only [List.length_drop, List.length_take]; rfl)) ?_
                with_reducible refine (laws_eqRegion.calls ((rd_T97 l0 x5_1).f0) ((rd_T97 l0 x5_1).f1) ((rd_T97 l0 x5_1).f2) ((rd_T97 l1 x5_1).f0) ((rd_T97 l1 x5_1).f1) ((rd_T97 l1 x5_1).f2) false _ A7.out).mono ?_
                rintro e w12 ⟨rfl, hb⟩
                refine ⟨_, rfl, ?_⟩
                have n0_ := Aside0.mk (below_step (by repeat (first | (with_reducible first | exact HB.out | apply below_alloc | apply pw_below_drewN | apply below_drew1) | exact HB.out)) hb)
                clear HB
                have HB := n0_
                clear n0_
                (try clear hb)
                (try clear hb2)
                (try clear hk)
                (try clear hi)
                refine hK.out _ _ ⟨((HB.out.cell (World.block_lt_of_cell? w _ hw205_0)).trans hw205_0), ((HB.out.cell (World.block_lt_of_cell? w _ hw205_1)).trans hw205_1), ((HB.out.cell (World.block_lt_of_cell? w _ hw205_2)).trans hw205_2), ((HB.out.cell (World.block_lt_of_cell? w _ hw206_0)).trans hw206_0), ((HB.out.cell (World.block_lt_of_cell? w _ hw206_1)).trans hw206_1), ((HB.out.cell (World.block_lt_of_cell? w _ hw206_2)).trans hw206_2)⟩ (fun hHeld => ?_)
                clear hK K
                refine norm_ (a' := ?_) ?_ ?_
                rotate_left
                · show Act.put _ (some 25) _ = _
                  simp only [Act.put, List.setIfInBounds_toArray, List.set_cons_zero, List.set_cons_succ, i64_w, i32_w]
                  rfl
                refine pure_ (i := 9) (N := some 26) (v := ?_) (a' := ?_) #[true, true, true, true, true, true, true, true, true, true] rfl rfl (any_of HT_.out (by kernel_rfl)) (fun _ _ _ h => h) (Or.inl ⟨by rfl, ?_⟩) ?_ ?_
                rotate_left
                · intro w'
                  go_simp
                  with_reducible rfl
                rotate_left
                · simp only [Act.put, List.setIfInBounds_toArray, List.set_cons_zero, List.set_cons_succ, i64_w, i32_w]
                  rfl
                refine done_ (done_of HT_.out (by kernel_rfl)) ?_
                try go_wp2
                go_ret
                exact ⟨by first | rfl | (simp [errW_none, errW_some] <;> rfl) | (simp [*, errW_none, errW_some] <;> rfl), by repeat (first | (with_reducible first | exact HB.out | apply below_alloc | apply pw_below_drewN | apply below_drew1) | exact HB.out)⟩
            · rw [if_neg c6] at H
              exact absurd H (by simp)
          · rw [if_neg c5] at H
            exact absurd H (by simp)
        · rw [if_neg c4] at H
          have c4b0 : decide (x5_1 < (l0.length : Int)) = false := decide_eq_false c4
          clear c4
          obtain rfl := Option.some.inj H
          go_wp2
          go_ret
          exact ⟨by first | rfl | (simp [errW_none, errW_some] <;> rfl) | (simp [*, errW_none, errW_some] <;> rfl), by repeat (first | (with_reducible first | exact HB.out | apply below_alloc | apply pw_below_drewN | apply below_drew1) | exact HB.out)⟩
  · rw [if_neg c3] at H
    have c3b0 : ((l0.length : Int) == (l1.length : Int)) = false := beq_eq_false_iff_ne.mpr c3
    have c3b1 : ((l0.length : Int) != (l1.length : Int)) = true := bne_iff_ne.mpr c3
    have c3b2 : (l0.length == l1.length) = false := by first | simpa using c3 | (simp at c3 ⊢; omega)
    obtain rfl := Option.some.inj H
    go_enter Try.func24, Try.ntmps24
    go_wp2
    go_ret
    exact ⟨by first | rfl | (simp [errW_none, errW_some] <;> rfl) | (simp [*, errW_none, errW_some] <;> rfl), by repeat (first | (with_reducible first | exact HB.out | apply below_alloc | apply pw_below_drewN | apply below_drew1) | exact HB.out)⟩

end Go.Proofs.Ytpkhoanaifpopaa.P
end
section
namespace Go.Proofs.Ytpkhoanaifpopaa.P
open Go.RowKit Go.Proofs.YtpkhoanaifpopaaW.PrintWords Go.Proofs.YtpkhoanaifpopaaW.PrintLast Go.Proofs.YtpkhoanaifpopaaW.PrintMore
set_option linter.unusedVariables false
set_option linter.unusedSimpArgs false

set_option maxHeartbeats 8000000 in
set_option maxRecDepth 100000 in
theorem laws_FnExactAllowed.walk (k : Nat) (A0 : Option Addr) (c0 : Nat) (l0 : List (S99)) (a1 : Int) (z : Int) (t : List (S97)) (y0 : Bool) (y1 : Bool) (w : World) (hr0 : Kd.C k99 w A0 l0.length l0) (hc0 : l0.length ≤ c0) (f0 : laws_szRegionS.f l0 1048576 = some z) (f1 : laws_toRegionS.f k l0 = some t) (f2 : spec_Allowed.f k t a1 = some (y0, y1)) (f3 : impl_Allowed.f k t a1 = some (y0, y1)) (f4 : laws_eqRegionS.f k t t = some true) (n0 : ¬ z < 0) :
    Calls Try.prog 4 #[.slice A0 l0.length c0, .int .i64 a1] w fun e w' => e = .returned (.bool true) ∧ Below w.heap.size w w' := by
  have HR0 := Aside0.mk hr0
  have HC0 := Aside0.mk hc0
  clear hr0 hc0
  have HB := Aside0.mk (Below.refl w.heap.size w)
  have Ff0 := Aside0.mk f0
  have Ff1 := Aside0.mk f1
  have Ff2 := Aside0.mk f2
  have Ff3 := Aside0.mk f3
  have Ff4 := Aside0.mk f4
  clear f0 f1 f2 f3 f4
  have nb0 : decide (z < 0) = false := decide_eq_false n0
  have eb0 : (y0 != y0) = false := bne_self_eq_false y0
  have eb1 : (y1 != y1) = false := bne_self_eq_false y1
  go_enter Try.func4, Try.ntmps4
  go_wp2_with (first | ((with_reducible refine gate_callee (f := 20) rfl ?_); refine goesL_ (some 13) rfl rfl Try.func20 (by kernel_rfl) rfl #[.slice A0 l0.length c0, .int .i64 (1048576)] rfl (by (try simp only [List.map_toArray, List.map_cons, List.map_nil]); first | done | rfl | (simp only [List.length_drop, List.length_take]; rfl)) ?_; (with_reducible refine (laws_szRegionS.calls A0 c0 l0 (1048576) _ _ ?side1 ?side2 Ff0.out).mono ?_); (case side1 => exact Kd.C_below HR0.out HB.out); (case side2 => exact HC0.out); rintro e w1_ ⟨rfl, hd_⟩; have hb := Drawn0.below hd_; refine ⟨_, rfl, ?_⟩; have n0_ := Aside0.mk (below_step HB.out hb); have z_ := Aside0.mk (show w.heap.size ≤ w1_.heap.size from hb.size); (try clear HB); have HB := n0_; have Z := z_; clear z_ n0_; (try clear hb); (try clear hkp); (try clear hy); (try clear hd_)) | ((with_reducible refine gate_callee (f := 22) rfl ?_); refine goesL_ (some 18) rfl rfl Try.func22 (by kernel_rfl) rfl #[.slice A0 l0.length c0] rfl (by (try simp only [List.map_toArray, List.map_cons, List.map_nil]); first | done | rfl | (simp only [List.length_drop, List.length_take]; rfl)) ?_; (with_reducible refine (laws_toRegionS.calls k A0 c0 l0 _ _ ?side1 ?side2 Ff1.out).mono ?_); (case side1 => exact Kd.C_below HR0.out HB.out); (case side2 => exact HC0.out); rintro e w2_ ⟨v1_0, rfl, ho0, hb⟩; refine ⟨_, rfl, ?_⟩; have n0_ := Aside0.mk (Kd.R_lower (Kd.R_mono (Kd.R_bound ho0) (fun k_ hk_ => (⟨hk_.2.1, hk_.2.2.1⟩ : w1_.heap.size ≤ k_ ∧ k_ < w2_.heap.size))) HB.out.size); have n1_ := Aside0.mk (below_step HB.out hb); have z_ := Aside0.mk (show w.heap.size ≤ w1_.heap.size ∧ w1_.heap.size ≤ w2_.heap.size from ⟨Z.out, hb.size⟩); (try clear HB Z); have HO1 := n0_; have HB := n1_; have Z := z_; clear z_ n0_ n1_; (try clear hb); (try clear hkp); (try clear hy); (try clear hd_); (try clear ho0); obtain ⟨Ao1, co1, eo_⟩ := Kd.R_slice HO1.out; subst eo_) | ((with_reducible refine gate_callee (f := 21) rfl ?_); refine goesL_ (some 20) rfl rfl Try.func21 (by kernel_rfl) rfl #[.slice Ao1 t.length co1, .int .i64 (a1)] rfl (by (try simp only [List.map_toArray, List.map_cons, List.map_nil]); first | done | rfl | (simp only [List.length_drop, List.length_take]; rfl)) ?_; (with_reducible refine (spec_Allowed.calls k Ao1 co1 t (a1) _ _ _ ?side1 ?side2 Ff2.out).mono ?_); (case side1 => exact (Kd.R_reads' HO1.out).2.2); (case side2 => exact (Kd.R_reads' HO1.out).2.1); rintro e w3_ ⟨rfl, hb⟩; refine ⟨_, rfl, ?_⟩; have n0_ := Aside0.mk (Kd.R_below HO1.out hb); have n1_ := Aside0.mk (below_step HB.out hb); have z_ := Aside0.mk (show w.heap.size ≤ w1_.heap.size ∧ w1_.heap.size ≤ w2_.heap.size ∧ w2_.heap.size ≤ w3_.heap.size from ⟨Z.out.1, Z.out.2, hb.size⟩); (try clear HB HO1 Z); have HO1 := n0_; have HB := n1_; have Z := z_; clear z_ n0_ n1_; (try clear hb); (try clear hkp); (try clear hy); (try clear hd_)) | ((with_reducible refine gate_callee (f := 22) rfl ?_); refine goesL_ (some 24) rfl rfl Try.func22 (by kernel_rfl) rfl #[.slice A0 l0.length c0] rfl (by (try simp only [List.map_toArray, List.map_cons, List.map_nil]); first | done | rfl | (simp only [List.length_drop, List.length_take]; rfl)) ?_; (with_reducible refine (laws_toRegionS.calls k A0 c0 l0 _ _ ?side1 ?side2 Ff1.out).mono ?_); (case side1 => exact Kd.C_below HR0.out HB.out); (case side2 => exact HC0.out); rintro e w4_ ⟨v3_0, rfl, ho0, hb⟩; refine ⟨_, rfl, ?_⟩; have n0_ := Aside0.mk (Kd.R_lower (Kd.R_mono (Kd.R_bound ho0) (fun k_ hk_ => (⟨hk_.2.1, hk_.2.2.1⟩ : w3_.heap.size ≤ k_ ∧ k_ < w4_.heap.size))) HB.out.size); have n1_ := Aside0.mk (below_step HB.out hb); have z_ := Aside0.mk (show w.heap.size ≤ w1_.heap.size ∧ w1_.heap.size ≤ w2_.heap.size ∧ w2_.heap.size ≤ w3_.heap.size ∧ w3_.heap.size ≤ w4_.heap.size from ⟨Z.out.1, Z.out.2.1, Z.out.2.2, hb.size⟩); (try clear HB Z); have HO2 := n0_; have HB := n1_; have Z := z_; clear z_ n0_ n1_; (try clear hb); (try clear hkp); (try clear hy); (try clear hd_); (try clear ho0); obtain ⟨Ao2, co2, eo_⟩ := Kd.R_slice HO2.out; subst eo_) | ((with_reducible refine gate_callee (f := 23) rfl ?_); refine goesL_ (some 28) rfl rfl Try.func23 (by kernel_rfl) rfl #[.slice Ao2 t.length co2, .int .i64 (a1)] rfl (by (try simp only [List.map_toArray, List.map_cons, List.map_nil]); first | done | rfl | (simp only [List.length_drop, List.length_take]; rfl)) ?_; (with_reducible refine (impl_Allowed.calls k Ao2 co2 t (a1) _ _ _ ?side1 ?side2 Ff3.out).mono ?_); (case side1 => exact (Kd.R_reads' HO2.out).2.2); (case side2 => exact (Kd.R_reads' HO2.out).2.1); rintro e w5_ ⟨rfl, hb⟩; refine ⟨_, rfl, ?_⟩; have n0_ := Aside0.mk (Kd.R_below HO2.out hb); have n1_ := Aside0.mk (below_step HB.out hb); have z_ := Aside0.mk (show w.heap.size ≤ w1_.heap.size ∧ w1_.heap.size ≤ w2_.heap.size ∧ w2_.heap.size ≤ w3_.heap.size ∧ w3_.heap.size ≤ w4_.heap.size ∧ w4_.heap.size ≤ w5_.heap.size from ⟨Z.out.1, Z.out.2.1, Z.out.2.2.1, Z.out.2.2.2, hb.size⟩); (try clear HB HO2 Z); have HO2 := n0_; have HB := n1_; have Z := z_; clear z_ n0_ n1_; (try clear hb); (try clear hkp); (try clear hy); (try clear hd_)) | ((with_reducible refine gate_callee (f := 22) rfl ?_); refine goesL_ (some 41) rfl rfl Try.func22 (by kernel_rfl) rfl #[.slice A0 l0.length c0] rfl (by (try simp only [List.map_toArray, List.map_cons, List.map_nil]); first | done | rfl | (simp only [List.length_drop, List.length_take]; rfl)) ?_; (with_reducible refine (laws_toRegionS.calls k A0 c0 l0 _ _ ?side1 ?side2 Ff1.out).mono ?_); (case side1 => exact Kd.C_below HR0.out HB.out); (case side2 => exact HC0.out); rintro e w6_ ⟨v5_0, rfl, ho0, hb⟩; refine ⟨_, rfl, ?_⟩; have n0_ := Aside0.mk (Kd.R_below HO2.out hb); have n1_ := Aside0.mk (Kd.R_lower (Kd.R_mono (Kd.R_bound ho0) (fun k_ hk_ => (⟨hk_.2.1, hk_.2.2.1⟩ : w5_.heap.size ≤ k_ ∧ k_ < w6_.heap.size))) HB.out.size); have n2_ := Aside0.mk (below_step HB.out hb); have z_ := Aside0.mk (show w.heap.size ≤ w1_.heap.size ∧ w1_.heap.size ≤ w2_.heap.size ∧ w2_.heap.size ≤ w3_.heap.size ∧ w3_.heap.size ≤ w4_.heap.size ∧ w4_.heap.size ≤ w5_.heap.size ∧ w5_.heap.size ≤ w6_.heap.size from ⟨Z.out.1, Z.out.2.1, Z.out.2.2.1, Z.out.2.2.2.1, Z.out.2.2.2.2, hb.size⟩); (try clear HB HO2 Z); have HO2 := n0_; have HO3 := n1_; have HB := n2_; have Z := z_; clear z_ n0_ n1_ n2_; (try clear hb); (try clear hkp); (try clear hy); (try clear hd_); (try clear ho0); obtain ⟨Ao3, co3, eo_⟩ := Kd.R_slice HO3.out; subst eo_) | ((with_reducible refine gate_callee (f := 24) rfl ?_); refine goesL_ (some 42) rfl rfl Try.func24 (by kernel_rfl) rfl #[.slice Ao2 t.length co2, .slice Ao3 t.length co3] rfl (by (try simp only [List.map_toArray, List.map_cons, List.map_nil]); first | done | rfl | (simp only [List.length_drop, List.length_take]; rfl)) ?_; (with_reducible refine (laws_eqRegionS.calls k Ao2 co2 t Ao3 co3 t _ _ ?side1 ?side2 ?side3 ?side4 Ff4.out).mono ?_); (case side1 => exact (Kd.R_reads' HO2.out).2.2); (case side2 => exact (Kd.R_reads' HO2.out).2.1); (case side3 => exact (Kd.R_reads' HO3.out).2.2); (case side4 => exact (Kd.R_reads' HO3.out).2.1); rintro e w7_ ⟨rfl, hb⟩; refine ⟨_, rfl, ?_⟩; have n0_ := Aside0.mk (Kd.R_below HO2.out hb); have n1_ := Aside0.mk (Kd.R_below HO3.out hb); have n2_ := Aside0.mk (below_step HB.out hb); have z_ := Aside0.mk (show w.heap.size ≤ w1_.heap.size ∧ w1_.heap.size ≤ w2_.heap.size ∧ w2_.heap.size ≤ w3_.heap.size ∧ w3_.heap.size ≤ w4_.heap.size ∧ w4_.heap.size ≤ w5_.heap.size ∧ w5_.heap.size ≤ w6_.heap.size ∧ w6_.heap.size ≤ w7_.heap.size from ⟨Z.out.1, Z.out.2.1, Z.out.2.2.1, Z.out.2.2.2.1, Z.out.2.2.2.2.1, Z.out.2.2.2.2.2, hb.size⟩); (try clear HB HO2 HO3 Z); have HO2 := n0_; have HO3 := n1_; have HB := n2_; have Z := z_; clear z_ n0_ n1_ n2_; (try clear hb); (try clear hkp); (try clear hy); (try clear hd_)))
  go_ret
  exact ⟨rfl, HB.out⟩
set_option maxHeartbeats 8000000 in
set_option maxRecDepth 100000 in
theorem laws_FnExactAllowed.walk1 (k : Nat) (A0 : Option Addr) (c0 : Nat) (l0 : List (S99)) (a1 : Int) (z : Int) (w : World) (hr0 : Kd.C k99 w A0 l0.length l0) (hc0 : l0.length ≤ c0) (f0 : laws_szRegionS.f l0 1048576 = some z) (n0 : z < 0) :
    Calls Try.prog 4 #[.slice A0 l0.length c0, .int .i64 a1] w fun e w' => e = .returned (.bool true) ∧ Below w.heap.size w w' := by
  have HR0 := Aside0.mk hr0
  have HC0 := Aside0.mk hc0
  clear hr0 hc0
  have HB := Aside0.mk (Below.refl w.heap.size w)
  have Ff0 := Aside0.mk f0
  clear f0
  have nb0 : decide (z < 0) = true := decide_eq_true n0
  go_enter Try.func4, Try.ntmps4
  go_wp2_with (first | ((with_reducible refine gate_callee (f := 20) rfl ?_); refine goesL_ (some 13) rfl rfl Try.func20 (by kernel_rfl) rfl #[.slice A0 l0.length c0, .int .i64 (1048576)] rfl (by (try simp only [List.map_toArray, List.map_cons, List.map_nil]); first | done | rfl | (simp only [List.length_drop, List.length_take]; rfl)) ?_; (with_reducible refine (laws_szRegionS.calls A0 c0 l0 (1048576) _ _ ?side1 ?side2 Ff0.out).mono ?_); (case side1 => exact Kd.C_below HR0.out HB.out); (case side2 => exact HC0.out); rintro e w1_ ⟨rfl, hd_⟩; have hb := Drawn0.below hd_; refine ⟨_, rfl, ?_⟩; have n0_ := Aside0.mk (below_step HB.out hb); have z_ := Aside0.mk (show w.heap.size ≤ w1_.heap.size from hb.size); (try clear HB); have HB := n0_; have Z := z_; clear z_ n0_; (try clear hb); (try clear hkp); (try clear hy); (try clear hd_)))
  go_ret
  exact ⟨rfl, HB.out⟩
end Go.Proofs.Ytpkhoanaifpopaa.P
end
section
namespace Go.Proofs.Ytpkhoanaifpopaa.Aid
open Go.RowKit Go.Proofs.YtpkhoanaifpopaaW.PrintWords

theorem wrap64_id {n : Int} (h : -9223372036854775808 ≤ n) (h2 : n ≤ 9223372036854775807) : wrap64 n = n := by unfold wrap64; omega
theorem wf_i64 {n : Int} (h : (Lit.int .i64 n).wf = true) : -9223372036854775808 ≤ n ∧ n ≤ 9223372036854775807 := by
  simpa [Lit.wf, IntKind.min, IntKind.max, IntKind.bits, IntKind.signed] using h

theorem and255 (n : Int) : bits .and .i64 n 255 = n % 256 := by
  have h127 : (BitVec.ofInt 64 255).toNat = 2 ^ 8 - 1 := by decide
  have key : (BitVec.ofInt 64 n &&& BitVec.ofInt 64 255).toNat = (n % ((2 ^ 64 : Nat) : Int)).toNat % 2 ^ 8 := by
    rw [BitVec.toNat_and, BitVec.toNat_ofInt, h127, Nat.and_two_pow_sub_one_eq_mod]
  show IntKind.i64.wrap ((BitVec.ofInt 64 n &&& BitVec.ofInt 64 255).toNat : Nat) = n % 256
  rw [key, IntKind.wrap_i64]
  omega

theorem tmod_nonneg {a b : Int} (ha : 0 ≤ a) (_hb : 0 < b) : Int.tmod a b = a % b := Int.tmod_eq_emod_of_nonneg ha
theorem tdiv_nonneg {a b : Int} (ha : 0 ≤ a) : Int.tdiv a b = a / b := Int.tdiv_eq_ediv_of_nonneg ha

/-! Loops over an index -/
theorem Ev.of_succ {α : Type} {g : Nat → Option α} {r : α} (h : ∀ k, g (k + 1) = some r) : Ev g r :=
  ⟨1, fun n hn => by obtain ⟨m, rfl⟩ : ∃ m, n = m + 1 := ⟨n - 1, by omega⟩; exact h m⟩
theorem Ev.const {α : Type} {g : Nat → Option α} {r : α} (h : ∀ k, g k = some r) : Ev g r := ⟨0, fun n _ => h n⟩
/-- A loop that asks one thing of each index. -/
theorem ev_all {ρ : Type} (g : Nat → Nat → Option ρ) (n : Nat) (B : Nat → Bool) (no yes : ρ)
    (h1 : ∀ i, i < n → B i = true → ∀ r, Ev (fun k => g k (i + 1)) r → Ev (fun k => g k i) r)
    (h2 : ∀ i, i < n → B i = false → Ev (fun k => g k i) no)
    (h3 : Ev (fun k => g k n) yes) : ∀ d i, i + d = n → Ev (fun k => g k i) (if (List.range' i d).all B = true then yes else no) := by
  intro d
  induction d with
  | zero =>
    intro i hi
    obtain rfl : i = n := by omega
    simpa using h3
  | succ d ih =>
    intro i hi
    rw [List.range'_succ, List.all_cons]
    cases hb : B i with
    | true => simp only [Bool.true_and]; exact h1 i (by omega) hb _ (ih (i + 1) (by omega))
    | false => simp only [Bool.false_and, Bool.false_eq_true, if_false]; exact h2 i (by omega) hb
theorem ev_yes {ρ : Type} (g : Nat → Nat → Option ρ) (n : Nat) (B : Nat → Bool) (r : ρ)
    (h1 : ∀ i, i < n → B i = true → ∀ r, Ev (fun k => g k (i + 1)) r → Ev (fun k => g k i) r)
    (hall : (List.range n).all B = true) (h3 : Ev (fun k => g k n) r) : Ev (fun k => g k 0) r := by
  have key : ∀ d i, i + d = n → Ev (fun k => g k i) r := by
    intro d
    induction d with
    | zero =>
      intro i hi
      obtain rfl : i = n := by omega
      exact h3
    | succ d ih =>
      intro i hi
      exact h1 i (by omega) (List.all_eq_true.1 hall i (List.mem_range.2 (by omega))) _ (ih (i + 1) (by omega))
  exact key n 0 (by omega)
theorem ev_no {ρ : Type} (g : Nat → Nat → Option ρ) (n : Nat) (B : Nat → Bool) (no : ρ)
    (h1 : ∀ i, i < n → B i = true → ∀ r, Ev (fun k => g k (i + 1)) r → Ev (fun k => g k i) r)
    (h2 : ∀ i, i < n → B i = false → Ev (fun k => g k i) no)
    (hall : (List.range n).all B = false) : Ev (fun k => g k 0) no := by
  have key : ∀ d i, i + d = n → (List.range' i d).all B = false → Ev (fun k => g k i) no := by
    intro d
    induction d with
    | zero => intro i _ h; simp at h
    | succ d ih =>
      intro i hi h
      rw [List.range'_succ, List.all_cons] at h
      cases hb : B i with
      | true => exact h1 i (by omega) hb _ (ih (i + 1) (by omega) (by simpa [hb] using h))
      | false => exact h2 i (by omega) hb
  exact key n 0 (by omega) (by rw [← List.range_eq_range']; exact hall)
theorem ev_all0 {ρ : Type} (g : Nat → Nat → Option ρ) (n : Nat) (B : Nat → Bool) (no yes : ρ)
    (h1 : ∀ i, i < n → B i = true → ∀ r, Ev (fun k => g k (i + 1)) r → Ev (fun k => g k i) r)
    (h2 : ∀ i, i < n → B i = false → Ev (fun k => g k i) no)
    (h3 : Ev (fun k => g k n) yes) : Ev (fun k => g k 0) (if (List.range n).all B = true then yes else no) := by
  rw [List.range_eq_range']
  exact ev_all g n B no yes h1 h2 h3 n 0 (by omega)
/-- The same, where what was asked before is known. -/
theorem ev_yesp {ρ : Type} (g : Nat → Nat → Option ρ) (n : Nat) (B : Nat → Bool) (r : ρ)
    (h1 : ∀ i, i < n → (∀ j, j < i → B j = true) → B i = true → ∀ r, Ev (fun k => g k (i + 1)) r → Ev (fun k => g k i) r)
    (hall : (List.range n).all B = true) (h3 : Ev (fun k => g k n) r) : Ev (fun k => g k 0) r := by
  have ha : ∀ i, i < n → B i = true := fun i hi => List.all_eq_true.1 hall i (List.mem_range.2 hi)
  have key : ∀ d i, i + d = n → Ev (fun k => g k i) r := by
    intro d
    induction d with
    | zero =>
      intro i hi
      obtain rfl : i = n := by omega
      exact h3
    | succ d ih =>
      intro i hi
      exact h1 i (by omega) (fun j hj => ha j (by omega)) (ha i (by omega)) _ (ih (i + 1) (by omega))
  exact key n 0 (by omega)
theorem ev_nop {ρ : Type} (g : Nat → Nat → Option ρ) (n : Nat) (B : Nat → Bool) (no : ρ)
    (h1 : ∀ i, i < n → (∀ j, j < i → B j = true) → B i = true → ∀ r, Ev (fun k => g k (i + 1)) r → Ev (fun k => g k i) r)
    (h2 : ∀ i, i < n → (∀ j, j < i → B j = true) → B i = false → Ev (fun k => g k i) no)
    (hall : (List.range n).all B = false) : Ev (fun k => g k 0) no := by
  have key : ∀ d i, i + d = n → (∀ j, j < i → B j = true) → Ev (fun k => g k i) no := by
    intro d
    induction d with
    | zero =>
      intro i hi h
      obtain rfl : i = n := by omega
      have : (List.range i).all B = true := List.all_eq_true.2 (fun j hj => h j (List.mem_range.1 hj))
      rw [this] at hall; cases hall
    | succ d ih =>
      intro i hi h
      cases hb : B i with
      | true => exact h1 i (by omega) h hb _ (ih (i + 1) (by omega) (fun j hj => by
          by_cases e : j = i
          · rw [e]; exact hb
          · exact h j (by omega)))
      | false => exact h2 i (by omega) h hb
  exact key n 0 (by omega) (fun j hj => by omega)
theorem ev_allp {ρ : Type} (g : Nat → Nat → Option ρ) (n : Nat) (B : Nat → Bool) (no yes : ρ)
    (h1 : ∀ i, i < n → (∀ j, j < i → B j = true) → B i = true → ∀ r, Ev (fun k => g k (i + 1)) r → Ev (fun k => g k i) r)
    (h2 : ∀ i, i < n → (∀ j, j < i → B j = true) → B i = false → Ev (fun k => g k i) no)
    (h3 : (∀ j, j < n → B j = true) → Ev (fun k => g k n) yes) : Ev (fun k => g k 0) (if (List.range n).all B = true then yes else no) := by
  cases hall : (List.range n).all B with
  | true =>
    rw [if_pos rfl]
    exact ev_yesp g n B yes h1 hall (h3 (fun j hj => List.all_eq_true.1 hall j (List.mem_range.2 hj)))
  | false =>
    rw [if_neg (by simp)]
    exact ev_nop g n B no h1 h2 hall
theorem range_all {α : Type} (xs : List α) (d : α) (P : α → Bool) : (List.range xs.length).all (fun i => P (xs.getD i d)) = xs.all P := by
  rw [Bool.eq_iff_iff, List.all_eq_true, List.all_eq_true]
  constructor
  · intro h x hx
    obtain ⟨i, hi, rfl⟩ := List.getElem_of_mem hx
    have := h i (List.mem_range.2 hi)
    simpa [List.getD_eq_getElem?_getD, List.getElem?_eq_getElem hi] using this
  · intro h i hi
    have hi := List.mem_range.1 hi
    have := h _ (List.getElem_mem hi)
    simpa [List.getD_eq_getElem?_getD, List.getElem?_eq_getElem hi] using this
/-- A loop that stores at each index. -/
theorem ev_copy {α ρ : Type} (g : Nat → List α → Nat → Option ρ) (n : Nat) (f : Nat → α) (fin : List α → ρ)
    (h1 : ∀ i acc, i < n → acc.length = n → ∀ r, Ev (fun k => g k (acc.set i (f i)) (i + 1)) r → Ev (fun k => g k acc i) r)
    (h3 : ∀ acc, acc.length = n → Ev (fun k => g k acc n) (fin acc)) : ∀ d i acc, i + d = n → acc.length = n → Ev (fun k => g k acc i) (fin (acc.take i ++ (List.range' i d).map f)) := by
  intro d
  induction d with
  | zero =>
    intro i acc hi hl
    obtain rfl : i = n := by omega
    simpa [← hl] using h3 acc hl
  | succ d ih =>
    intro i acc hi hl
    have h := ih (i + 1) (acc.set i (f i)) (by omega) (by simpa using hl)
    have e : (acc.set i (f i)).take (i + 1) ++ (List.range' (i + 1) d).map f = acc.take i ++ (List.range' i (d + 1)).map f := by
      rw [List.range'_succ, List.map_cons, List.take_succ_eq_append_getElem (by simp; omega), List.getElem_set_self, List.append_assoc]
      congr 1
      exact List.take_set_of_le (Nat.le_refl _)
    rw [e] at h
    exact h1 i acc (by omega) hl _ h
theorem ev_copy0 {α ρ : Type} (g : Nat → List α → Nat → Option ρ) (n : Nat) (f : Nat → α) (fin : List α → ρ)
    (h1 : ∀ i acc, i < n → acc.length = n → ∀ r, Ev (fun k => g k (acc.set i (f i)) (i + 1)) r → Ev (fun k => g k acc i) r)
    (h3 : ∀ acc, acc.length = n → Ev (fun k => g k acc n) (fin acc)) (acc : List α) (hl : acc.length = n) : Ev (fun k => g k acc 0) (fin ((List.range n).map f)) := by
  rw [List.range_eq_range']
  simpa using ev_copy g n f fin h1 h3 n 0 acc (by omega) hl
/-- A loop that carries a state. -/
theorem ev_fold {σ ρ : Type} (g : Nat → σ → Nat → Option ρ) (n : Nat) (f : σ → Nat → σ) (fin : σ → ρ) (Inv : Nat → σ → Prop)
    (h1 : ∀ i s, i < n → Inv i s → Inv (i + 1) (f s i) ∧ ∀ r, Ev (fun k => g k (f s i) (i + 1)) r → Ev (fun k => g k s i) r)
    (h3 : ∀ s, Inv n s → Ev (fun k => g k s n) (fin s)) (s : σ) (h0 : Inv 0 s) : Ev (fun k => g k s 0) (fin ((List.range n).foldl f s)) ∧ Inv n ((List.range n).foldl f s) := by
  have key : ∀ d i s, i + d = n → Inv i s → Ev (fun k => g k s i) (fin ((List.range' i d).foldl f s)) ∧ Inv n ((List.range' i d).foldl f s) := by
    intro d
    induction d with
    | zero =>
      intro i s hi hs
      obtain rfl : i = n := by omega
      simpa using ⟨h3 s hs, hs⟩
    | succ d ih =>
      intro i s hi hs
      obtain ⟨h4, h5⟩ := h1 i s (by omega) hs
      obtain ⟨h6, h7⟩ := ih (i + 1) (f s i) (by omega) h4
      rw [List.range'_succ, List.foldl_cons]
      exact ⟨h5 _ h6, h7⟩
  rw [List.range_eq_range']
  exact key n 0 s (by omega) h0
theorem range_map_getD {α : Type} (xs : List α) (d : α) : (List.range xs.length).map (fun i => xs.getD i d) = xs := by
  apply List.ext_getElem
  · simp
  · intro i h1 h2
    simp at h1
    simp [List.getD_eq_getElem?_getD, List.getElem?_eq_getElem h1]
theorem foldl_getD {α σ : Type} (f : σ → α → σ) (l : List α) (d : α) (s : σ) : (List.range l.length).foldl (fun s i => f s (l.getD i d)) s = l.foldl f s := by
  have := range_map_getD l d
  conv => rhs; rw [← this]
  rw [List.foldl_map]
theorem toNat_cast (i : Nat) : (i : Int).toNat = i := by omega
theorem wrap_succ {i : Nat} (h : i < 9223372036854775807) : wrap64 ((i : Int) + 1) = ((i + 1 : Nat) : Int) := by unfold wrap64; omega
theorem in_dec (a b c : Int) : (if a ≥ b then (some (decide (a ≤ c))) else (some false)) = some (decide (b ≤ a ∧ a ≤ c)) := by
  by_cases h : a ≥ b
  · rw [if_pos h]; congr 1; by_cases h2 : a ≤ c
    · rw [decide_eq_true h2, decide_eq_true ⟨h, h2⟩]
    · rw [decide_eq_false h2, decide_eq_false (fun x => h2 x.2)]
  · rw [if_neg h, decide_eq_false (fun x => h x.1)]
/-- What a count tells, where it does not refuse. -/
theorem ev_sz (g : Nat → Int → Nat → Option Int) (n : Nat) (sz : Nat → Nat)
    (h1 : ∀ i b, i < n → 0 ≤ b → b ≤ 1048576 → (sz i : Int) ≤ b → ∀ r, Ev (fun k => g k (b - sz i) (i + 1)) r → Ev (fun k => g k b i) r)
    (h2 : ∀ i b, i < n → 0 ≤ b → b ≤ 1048576 → ¬ (sz i : Int) ≤ b → Ev (fun k => g k b i) (-1)) (h3 : ∀ b, Ev (fun k => g k b n) b) (b : Int) (hb0 : 0 ≤ b) (hb1 : b ≤ 1048576) :
    ∃ r, Ev (fun k => g k b 0) r ∧ (0 ≤ r → (((List.range n).map sz).sum : Nat) + r ≤ b) := by
  have key : ∀ d i b, i + d = n → 0 ≤ b → b ≤ 1048576 → ∃ r, Ev (fun k => g k b i) r ∧ (0 ≤ r → (((List.range' i d).map sz).sum : Nat) + r ≤ b) := by
    intro d
    induction d with
    | zero =>
      intro i b hi _ _
      obtain rfl : i = n := by omega
      exact ⟨b, h3 b, fun _ => by simp⟩
    | succ d ih =>
      intro i b hi h0 hb
      by_cases hs : (sz i : Int) ≤ b
      · obtain ⟨r, hr, hq⟩ := ih (i + 1) (b - sz i) (by omega) (by omega) (by omega)
        refine ⟨r, h1 i b (by omega) h0 hb hs r hr, fun h => ?_⟩
        have := hq h
        rw [List.range'_succ, List.map_cons, List.sum_cons]
        omega
      · exact ⟨-1, h2 i b (by omega) h0 hb hs, fun h => by omega⟩
  rw [List.range_eq_range']
  exact key n 0 b (by omega) hb0 hb1
theorem sum_ge {n : Nat} (sz : Nat → Nat) {i : Nat} (h : i < n) : sz i ≤ ((List.range n).map sz).sum := by
  have : ∀ (l : List Nat) (x : Nat), x ∈ l → x ≤ l.sum := by
    intro l
    induction l with
    | nil => intro x hx; cases hx
    | cons y l ih =>
      intro x hx
      rcases List.mem_cons.1 hx with rfl | hx
      · simp
      · have := ih x hx; simp; omega
  exact this _ _ (List.mem_map_of_mem (List.mem_range.2 h))
theorem sub_len {a : Int} {n : Nat} (ha : 0 ≤ a) (ha1 : a ≤ 1048576) (hn : n ≤ maxLen) : wrap64 (a - (n : Int)) = a - n := by unfold maxLen at hn; unfold wrap64; omega
end Go.Proofs.Ytpkhoanaifpopaa.Aid
end
section
namespace Go.Proofs.Ytpkhoanaifpopaa.Pure
open Go.RowKit Go.Proofs.Ytpkhoanaifpopaa.P Go.Proofs.YtpkhoanaifpopaaW.PrintWords Go.Proofs.YtpkhoanaifpopaaW.PrintLast Go.Proofs.YtpkhoanaifpopaaW.PrintMore Go.Proofs.Ytpkhoanaifpopaa.Aid
set_option linter.unusedVariables false
set_option linter.unusedSimpArgs false

theorem l01In_eq (a b c : Int) : spec_l01In.f a b c = some (decide (b ≤ a ∧ a ≤ c)) := in_dec a b c
theorem within_eq (a b c : Int) : impl_within.f a b c = some (decide (b ≤ a ∧ a ≤ c)) := in_dec a b c
theorem map_getD {α β : Type} (f : α → β) (l : List α) (d : α) : (List.range l.length).map (fun i => f (l.getD i d)) = l.map f := by
  rw [show (fun i => f (l.getD i d)) = f ∘ (fun i => l.getD i d) from rfl, ← List.map_map, range_map_getD]
abbrev RegW := S97
abbrev RegL := S99
def toReg_ (r : RegL) : RegW := ⟨r.f0, r.f1, r.f2⟩
theorem rdGL (l : List RegL) (i : Nat) : rd_T99 l (i : Int) = l.getD i z99 := by unfold rd_T99; rw [toNat_cast]
theorem rdGW (l : List RegW) (i : Nat) : rd_T97 l (i : Int) = l.getD i z97 := by unfold rd_T97; rw [toNat_cast]
theorem szRegionS_eq (l : List RegL) (hl : l.length ≤ maxLen) : laws_szRegionS.f l 1048576 = some (if (l.length : Int) ≤ 1048576 then (1048576 - (l.length : Int) : Int) else (-1 : Int)) := by
  unfold maxLen at hl
  unfold laws_szRegionS.f
  have e : wrap64 (1048576 - (l.length : Int)) = 1048576 - l.length := by unfold wrap64; omega
  rw [e]
  by_cases h : (l.length : Int) ≤ 1048576
  · rw [if_neg (by omega), if_pos h]
  · rw [if_pos (by omega), if_neg h]
theorem toRegionS_ev (l : List RegL) (hl : l.length ≤ 1048576) : Ev (fun k => laws_toRegionS.f k l) (l.map toReg_) := by
  have key := ev_copy0 (fun k acc i => laws_toRegionS.l0 k l acc (i : Int)) l.length (fun i => toReg_ (l.getD i z99)) id (by
    intro i acc hi ha r h
    refine Ev.step (fun k => ?_) h
    simp only [laws_toRegionS.l0]
    rw [if_pos (by omega), if_pos (by omega), rdGL]
    unfold laws_toRegion.f
    simp only [Option.bind_some]
    rw [if_pos (by omega), wrap_succ (by omega), toNat_cast]
    rfl) (by
    intro acc ha
    refine Ev.of_succ (fun k => ?_)
    simp only [laws_toRegionS.l0]
    rw [if_neg (by omega)]
    rfl) (List.replicate l.length z97) (by simp)
  rw [map_getD toReg_ l z99] at key
  refine Ev.congr (fun k => ?_) key
  unfold laws_toRegionS.f
  rw [if_pos (by omega), if_pos (by omega), toNat_cast]
  rfl
theorem eqRegionS_refl (l : List RegW) (hl : l.length ≤ 1048576) : Ev (fun k => laws_eqRegionS.f k l l) true := by
  have key := ev_all0 (fun k i => laws_eqRegionS.l0 k l l (i : Int)) l.length (fun _ => true) false true (by
    intro i hi _ r h
    refine Ev.step (fun k => ?_) h
    simp only [laws_eqRegionS.l0]
    rw [if_pos (by omega), if_pos (by omega), if_pos (by omega)]
    unfold laws_eqRegion.f
    simp only [if_true, Option.bind_some, bne_self_eq_false, Bool.false_eq_true, if_false]
    rw [wrap_succ (by omega)]) (by intro i _ h; cases h) (by
    refine Ev.of_succ (fun k => ?_)
    simp only [laws_eqRegionS.l0]
    rw [if_neg (by omega)])
  rw [if_pos (by simp)] at key
  refine Ev.congr (fun k => ?_) key
  unfold laws_eqRegionS.f
  rw [if_pos rfl]
  rfl
abbrev zg : RegW := z97
def regAt (l : List RegW) (i : Nat) : RegW := l.getD i zg
def oneR (r : RegW) : Bool := decide (0 ≤ r.f0 ∧ r.f0 < r.f1 ∧ r.f1 ≤ 64)
/-- Does b follow a? -/
def nextR (a b : RegW) : Bool := !decide (a.f1 > b.f0) && (!decide (a.f1 = b.f0) || !(a.f2 == b.f2))
def okR (l : List RegW) (i : Nat) : Bool := oneR (regAt l i) && (decide (i = 0) || nextR (regAt l (i - 1)) (regAt l i))
def regsB (l : List RegW) : Bool := decide (l.length ≤ 12) && (List.range l.length).all (okR l)
theorem l06One_eq (a b : Int) (c : Bool) : spec_l06One.f a b c = some (oneR ⟨a, b, c⟩) := by
  unfold spec_l06One.f oneR
  by_cases h1 : a ≥ 0
  · rw [if_pos h1]
    by_cases h2 : a < b
    · rw [if_pos h2]; congr 1; simp [h2]; omega
    · rw [if_neg h2]; congr 1; simp [h2]
  · rw [if_neg h1]; congr 1; simp; omega
theorem wrap_pred_r {i : Nat} (h0 : 0 < i) (h : i < 9223372036854775807) : wrap64 ((i : Int) - 1) = ((i - 1 : Nat) : Int) := by unfold wrap64; omega
theorem okR_cases {l : List RegW} {i : Nat} (h0 : ¬ i = 0) : okR l i = (oneR (regAt l i) && nextR (regAt l (i - 1)) (regAt l i)) := by unfold okR; rw [decide_eq_false h0, Bool.false_or]
theorem spec_RegionsOk_ev (l : List RegW) (hl : l.length ≤ 1048576) : Ev (fun k => spec_RegionsOk.f k l) (regsB l) := by
  unfold spec_RegionsOk.f regsB
  by_cases h12 : (l.length : Int) > 12
  · simp only [if_pos h12, decide_eq_false (show ¬ l.length ≤ 12 by omega), Bool.false_and]; exact Ev.now _
  · simp only [if_neg h12, decide_eq_true (show l.length ≤ 12 by omega), Bool.true_and]
    have key := ev_all0 (fun k i => spec_RegionsOk.l0 k l (i : Int)) l.length (okR l) false true (by
      intro i hi hb r h
      refine Ev.step (fun k => ?_) h
      have hq : spec_l06One.f (l.getD i zg).f0 (l.getD i zg).f1 (l.getD i zg).f2 = some (oneR (regAt l i)) := l06One_eq _ _ _
      simp only [spec_RegionsOk.l0]
      rw [if_pos (by omega), if_pos (by omega), rdGW, hq]
      simp only [Option.bind_some]
      by_cases h0 : i = 0
      · subst h0
        unfold okR at hb
        simp only [decide_true, Bool.true_or, Bool.and_true] at hb
        rw [if_pos hb, if_neg (by omega), wrap_succ (by omega)]
      · rw [okR_cases h0, Bool.and_eq_true] at hb
        obtain ⟨h1, h2⟩ := hb
        rw [if_pos h1, if_pos (by omega), wrap_pred_r (by omega) (by omega), if_pos (by omega), if_pos (by omega), rdGW, wrap_succ (by omega)]
        unfold nextR regAt at h2
        simp only [Bool.and_eq_true, Bool.or_eq_true, Bool.not_eq_true', decide_eq_false_iff_not, beq_eq_false_iff_ne, ne_eq] at h2
        rw [if_neg h2.1]
        by_cases he : (l.getD (i - 1) zg).f1 = (l.getD i zg).f0
        · rw [if_pos he, if_neg]
          rcases h2.2 with h3 | h3
          · exact absurd he h3
          · simpa using h3
        · rw [if_neg he]) (by
      intro i hi hb
      refine Ev.of_succ (fun k => ?_)
      have hq : spec_l06One.f (l.getD i zg).f0 (l.getD i zg).f1 (l.getD i zg).f2 = some (oneR (regAt l i)) := l06One_eq _ _ _
      simp only [spec_RegionsOk.l0]
      rw [if_pos (by omega), if_pos (by omega), rdGW, hq]
      simp only [Option.bind_some]
      by_cases h1 : oneR (regAt l i) = true
      · have h0 : ¬ i = 0 := by rintro rfl; unfold okR at hb; rw [h1] at hb; simp at hb
        rw [okR_cases h0, h1, Bool.true_and] at hb
        rw [if_pos h1, if_pos (by omega), wrap_pred_r (by omega) (by omega), if_pos (by omega), if_pos (by omega), rdGW]
        unfold nextR regAt at hb
        by_cases h3 : (l.getD (i - 1) zg).f1 > (l.getD i zg).f0
        · rw [if_pos h3]
        · rw [if_neg h3]
          rw [decide_eq_false h3, Bool.not_false, Bool.true_and] at hb
          by_cases he : (l.getD (i - 1) zg).f1 = (l.getD i zg).f0
          · rw [if_pos he]
            rw [decide_eq_true he, Bool.not_true, Bool.false_or, Bool.not_eq_false'] at hb
            rw [if_pos hb]
          · rw [decide_eq_false he] at hb; simp at hb
      · rw [if_neg h1]) (by
      refine Ev.of_succ (fun k => ?_)
      simp only [spec_RegionsOk.l0]
      rw [if_neg (by omega)])
    have e : (if (List.range l.length).all (okR l) = true then true else false) = (List.range l.length).all (okR l) := by cases (List.range l.length).all (okR l) <;> rfl
    rw [e] at key
    exact key
theorem impl_one (a b : Int) (c : Bool) : ((impl_within.f a 0 (wrap64 (b - 1))) = some (decide (0 ≤ a ∧ a ≤ wrap64 (b - 1)))) ∧ (impl_within.f b 1 64 = some (decide (1 ≤ b ∧ b ≤ 64))) ∧ oneR ⟨a, b, c⟩ = (decide (0 ≤ a ∧ a ≤ wrap64 (b - 1)) && decide (1 ≤ b ∧ b ≤ 64)) := by
  refine ⟨within_eq _ _ _, within_eq _ _ _, ?_⟩
  unfold oneR
  by_cases hb : 1 ≤ b ∧ b ≤ 64
  · rw [wrap64_id (by omega) (by omega), decide_eq_true hb, Bool.and_true]
    congr 1
    rw [eq_iff_iff]
    show (0 ≤ a ∧ a < b ∧ b ≤ 64) ↔ _
    omega
  · rw [decide_eq_false hb, Bool.and_false, decide_eq_false_iff_not]
    show ¬ (0 ≤ a ∧ a < b ∧ b ≤ 64)
    omega
theorem impl_RegionsOk_ev (l : List RegW) (hl : l.length ≤ 1048576) : Ev (fun k => impl_RegionsOk.f k l) (regsB l) := by
  unfold impl_RegionsOk.f regsB
  have hj : ∀ (i : Nat), i < l.length → ∀ r, Ev (fun k => impl_RegionsOk.j1 k l (i : Int) l (l.length : Int) (i : Int) (!oneR (regAt l i)) (regAt l i).f0 (regAt l i).f1 (regAt l i).f2) r → Ev (fun k => impl_RegionsOk.l0 k l l (l.length : Int) (i : Int)) r := by
    intro i hi r h
    obtain ⟨h1, h2, h3⟩ := impl_one (regAt l i).f0 (regAt l i).f1 (regAt l i).f2
    refine Ev.step (fun k => ?_) h
    simp only [impl_RegionsOk.l0]
    rw [if_pos (by omega), if_pos (by omega), if_pos (by omega), rdGW, show l.getD i z97 = regAt l i from rfl, h1]
    simp only [Option.bind_some]
    rw [show oneR (regAt l i) = _ from h3]
    by_cases h4 : 0 ≤ (regAt l i).f0 ∧ (regAt l i).f0 ≤ wrap64 ((regAt l i).f1 - 1)
    · rw [decide_eq_true h4, if_pos rfl, h2]; rfl
    · rw [decide_eq_false h4, if_neg (by simp)]; rfl
  have key := ev_all0 (fun k i => impl_RegionsOk.l0 k l l (l.length : Int) (i : Int)) l.length (okR l) false (decide (l.length ≤ 12)) (by
    intro i hi hb r h
    refine hj i hi r (Ev.step (fun k => ?_) h)
    have h1 : oneR (regAt l i) = true := by unfold okR at hb; exact (Bool.and_eq_true _ _ ▸ hb).1
    simp only [impl_RegionsOk.j1]
    rw [h1, if_neg (by simp)]
    by_cases h0 : i = 0
    · subst h0
      rw [if_neg (by omega), wrap_succ (by omega)]
    · rw [okR_cases h0, h1, Bool.true_and] at hb
      rw [if_pos (by omega), wrap_pred_r (by omega) (by omega), if_pos (by omega), if_pos (by omega), rdGW, wrap_succ (by omega), show l.getD (i - 1) z97 = regAt l (i - 1) from rfl]
      unfold nextR at hb
      simp only [Bool.and_eq_true, Bool.or_eq_true, Bool.not_eq_true', decide_eq_false_iff_not, beq_eq_false_iff_ne, ne_eq] at hb
      rw [if_neg hb.1]
      by_cases he : (regAt l (i - 1)).f1 = (regAt l i).f0
      · rw [if_pos he, if_neg]
        rcases hb.2 with h3 | h3
        · exact absurd he h3
        · simpa using h3
      · rw [if_neg he]) (by
    intro i hi hb
    refine hj i hi false (Ev.of_succ (fun k => ?_))
    simp only [impl_RegionsOk.j1]
    by_cases h1 : oneR (regAt l i) = true
    · have h0 : ¬ i = 0 := by rintro rfl; unfold okR at hb; rw [h1] at hb; simp at hb
      rw [okR_cases h0, h1, Bool.true_and] at hb
      rw [h1, if_neg (by simp), if_pos (by omega), wrap_pred_r (by omega) (by omega), if_pos (by omega), if_pos (by omega), rdGW, show l.getD (i - 1) z97 = regAt l (i - 1) from rfl]
      unfold nextR at hb
      by_cases h3 : (regAt l (i - 1)).f1 > (regAt l i).f0
      · rw [if_pos h3]
      · rw [if_neg h3]
        rw [decide_eq_false h3, Bool.not_false, Bool.true_and] at hb
        by_cases he : (regAt l (i - 1)).f1 = (regAt l i).f0
        · rw [if_pos he]
          rw [decide_eq_true he, Bool.not_true, Bool.false_or, Bool.not_eq_false'] at hb
          rw [if_pos hb]
        · rw [decide_eq_false he] at hb; simp at hb
    · rw [show oneR (regAt l i) = false by simpa using h1, if_pos (by rfl)]) (by
    refine Ev.of_succ (fun k => ?_)
    simp only [impl_RegionsOk.l0]
    rw [if_neg (by omega)]
    congr 1
    rw [decide_eq_decide]
    omega)
  have e : (if (List.range l.length).all (okR l) = true then decide (l.length ≤ 12) else false) = (decide (l.length ≤ 12) && (List.range l.length).all (okR l)) := by cases (List.range l.length).all (okR l) <;> simp
  rw [e] at key
  exact key
def mkR (r : RegW) : Int := if r.f2 = true then 2 else 1
def pnt (v : Int) : Nat → Int → List Int → List Int
  | 0, _, m => m
  | n + 1, p, m => pnt v n (p + 1) (m.set p.toNat v)
theorem pnt_len (v : Int) : ∀ n p m, (pnt v n p m).length = m.length := by
  intro n
  induction n with
  | zero => intro p m; rfl
  | succ n ih => intro p m; rw [pnt, ih, List.length_set]
def Tri (m : List Int) : Prop := m.length = 64 ∧ ∀ x ∈ m, x = 0 ∨ x = 1 ∨ x = 2
theorem Tri.set {m : List Int} (h : Tri m) (i : Nat) {v : Int} (hv : v = 0 ∨ v = 1 ∨ v = 2) : Tri (m.set i v) := by
  refine ⟨by rw [List.length_set]; exact h.1, fun x hx => ?_⟩
  rcases List.mem_or_eq_of_mem_set hx with hx | rfl
  · exact h.2 x hx
  · exact hv
theorem pnt_tri {v : Int} (hv : v = 0 ∨ v = 1 ∨ v = 2) : ∀ n p m, Tri m → Tri (pnt v n p m) := by
  intro n
  induction n with
  | zero => intro p m h; exact h
  | succ n ih => intro p m h; exact ih _ _ (h.set _ hv)
theorem mkR_tri (r : RegW) : mkR r = 0 ∨ mkR r = 1 ∨ mkR r = 2 := by unfold mkR; split <;> simp
def zer : List Int := List.replicate 64 0
theorem zer_tri : Tri zer := ⟨by simp [zer], fun x hx => Or.inl (List.eq_of_mem_replicate hx)⟩
def marksB : List RegW → List Int → List Int
  | [], m => m
  | r :: rest, m => marksB rest (pnt (mkR r) (r.f1 - r.f0).toNat r.f0 m)
theorem marksB_tri : ∀ l m, Tri m → Tri (marksB l m) := by
  intro l
  induction l with
  | nil => intro m h; exact h
  | cons r l ih => intro m h; exact ih _ (pnt_tri (mkR_tri r) _ _ _ h)
theorem Tri.at_ {m : List Int} (h : Tri m) (p : Nat) : m.getD p 0 = 0 ∨ m.getD p 0 = 1 ∨ m.getD p 0 = 2 := by
  by_cases hp : p < m.length
  · rw [List.getD_eq_getElem?_getD, List.getElem?_eq_getElem hp]; exact h.2 _ (List.getElem_mem hp)
  · rw [List.getD_eq_getElem?_getD, List.getElem?_eq_none (by omega)]; exact Or.inl rfl
theorem oneR_bd {r : RegW} (h : oneR r = true) : 0 ≤ r.f0 ∧ r.f0 < r.f1 ∧ r.f1 ≤ 64 := by simpa [oneR] using h
theorem regsB_one {l : List RegW} (h : regsB l = true) : ∀ r ∈ l, oneR r = true := by
  intro r hr
  simp only [regsB, Bool.and_eq_true, decide_eq_true_eq] at h
  obtain ⟨i, hi, rfl⟩ := List.getElem_of_mem hr
  have := List.all_eq_true.1 h.2 i (List.mem_range.2 hi)
  simp only [okR, Bool.and_eq_true] at this
  have h5 := this.1
  unfold regAt at h5
  rwa [List.getD_eq_getElem?_getD, List.getElem?_eq_getElem hi] at h5
theorem regsB_len {l : List RegW} (h : regsB l = true) : l.length ≤ 12 := by
  simp only [regsB, Bool.and_eq_true, decide_eq_true_eq] at h
  exact h.1
theorem getD_midr (pre : List RegW) (x : RegW) (rest : List RegW) : (pre ++ x :: rest).getD pre.length zg = x := by
  simp [List.getD_eq_getElem?_getD]
theorem spec_marks_in (l : List RegW) (hl : l.length ≤ 1048576) (i : Nat) (hi : i < l.length) (r : RegW) (hr : l.getD i zg = r) (h1 : oneR r = true) (R : List Int) :
    ∀ (d : Nat) (p : Int) (m : List Int), p + d = r.f1 → 0 ≤ p → m.length = 64 → Ev (fun k => spec_l06Marks.l0 k l (pnt (mkR r) d p m) ((i + 1 : Nat) : Int)) R → Ev (fun k => spec_l06Marks.l1 k l m (i : Int) p) R := by
  have hb := oneR_bd h1
  intro d
  induction d with
  | zero =>
    intro p m hp h0 hm h
    refine Ev.step (fun k => ?_) h
    simp only [spec_l06Marks.l1, rdGW, hr]
    rw [if_pos (by omega), if_pos (by omega), if_neg (by omega), wrap_succ (by omega)]
    rfl
  | succ d ih =>
    intro p m hp h0 hm h
    refine Ev.step (fun k => ?_) (ih (p + 1) (m.set p.toNat (mkR r)) (by omega) (by omega) (by rw [List.length_set]; exact hm) h)
    simp only [spec_l06Marks.l1, rdGW, hr]
    rw [if_pos (by omega), if_pos (by omega), if_pos (by omega), if_pos (by omega), if_pos (by omega), wrap64_id (n := p + 1) (by omega) (by omega)]
    simp only [Option.bind_some, List.set_set]
    unfold mkR
    split <;> rfl
theorem spec_marks_ev (l : List RegW) (hl : l.length ≤ 1048576) (h1 : ∀ r ∈ l, oneR r = true) : Ev (fun k => spec_l06Marks.f k l) (marksB l zer) := by
  have key : ∀ (rest pre : List RegW) (m : List Int), l = pre ++ rest → m.length = 64 → Ev (fun k => spec_l06Marks.l0 k l m (pre.length : Int)) (marksB rest m) := by
    intro rest
    induction rest with
    | nil =>
      intro pre m e hm
      have hlen : l.length = pre.length := by rw [e]; simp
      refine Ev.of_succ (fun k => ?_)
      simp only [spec_l06Marks.l0, marksB]
      rw [if_neg (by omega)]
    | cons r rest ih =>
      intro pre m e hm
      have hlen : l.length = pre.length + (rest.length + 1) := by rw [e]; simp
      have hr : l.getD pre.length zg = r := by rw [e, getD_midr]
      have ho := h1 r (by rw [e]; simp)
      have hb := oneR_bd ho
      have hi := ih (pre ++ [r]) (pnt (mkR r) (r.f1 - r.f0).toNat r.f0 m) (by rw [e]; simp) (by rw [pnt_len]; exact hm)
      simp only [List.length_append, List.length_cons, List.length_nil, Nat.zero_add] at hi
      refine Ev.step (fun k => ?_) (spec_marks_in l hl pre.length (by omega) r hr ho _ (r.f1 - r.f0).toNat r.f0 m (by omega) hb.1 hm hi)
      simp only [spec_l06Marks.l0, rdGW, hr]
      rw [if_pos (by omega), if_pos (by omega)]
  refine Ev.congr (fun k => ?_) (key l [] zer rfl (by simp [zer]))
  unfold spec_l06Marks.f
  rw [if_pos (by omega)]
  rfl
theorem impl_pages_in (l : List RegW) (hl : l.length ≤ 1048576) (i : Nat) (hi : i < l.length) (r : RegW) (hr : l.getD i zg = r) (h1 : oneR r = true) (R : List Int) :
    ∀ (d : Nat) (p : Int) (m : List Int), p + d = r.f1 → 0 ≤ p → Ev (fun k => impl_pagesOf.l0 k l (pnt (mkR r) d p m) ((i + 1 : Nat) : Int)) R → Ev (fun k => impl_pagesOf.l1 k l m (i : Int) p) R := by
  have hb := oneR_bd h1
  intro d
  induction d with
  | zero =>
    intro p m hp h0 h
    refine Ev.step (fun k => ?_) h
    simp only [impl_pagesOf.l1, toNat_cast, hr]
    rw [if_neg (by omega), wrap_succ (by omega)]
    rfl
  | succ d ih =>
    intro p m hp h0 h
    refine Ev.step (fun k => ?_) (ih (p + 1) (m.set p.toNat (mkR r)) (by omega) (by omega) h)
    simp only [impl_pagesOf.l1, toNat_cast, hr]
    rw [if_pos (by omega), if_pos (by omega), if_pos (by omega), wrap64_id (n := p + 1) (by omega) (by omega)]
    rfl
theorem impl_pages_ev (l : List RegW) (hl : l.length ≤ 1048576) (h1 : ∀ r ∈ l, oneR r = true) : Ev (fun k => impl_pagesOf.f k l) (marksB l zer) := by
  have key : ∀ (rest pre : List RegW) (m : List Int), l = pre ++ rest → Ev (fun k => impl_pagesOf.l0 k l m (pre.length : Int)) (marksB rest m) := by
    intro rest
    induction rest with
    | nil =>
      intro pre m e
      have hlen : l.length = pre.length := by rw [e]; simp
      refine Ev.of_succ (fun k => ?_)
      simp only [impl_pagesOf.l0, marksB]
      rw [if_neg (by omega)]
    | cons r rest ih =>
      intro pre m e
      have hlen : l.length = pre.length + (rest.length + 1) := by rw [e]; simp
      have hr : l.getD pre.length zg = r := by rw [e, getD_midr]
      have ho := h1 r (by rw [e]; simp)
      have hb := oneR_bd ho
      have hi := ih (pre ++ [r]) (pnt (mkR r) (r.f1 - r.f0).toNat r.f0 m) (by rw [e]; simp)
      simp only [List.length_append, List.length_cons, List.length_nil, Nat.zero_add] at hi
      refine Ev.step (fun k => ?_) (impl_pages_in l hl pre.length (by omega) r hr ho _ (r.f1 - r.f0).toNat r.f0 m (by omega) hb.1 hi)
      simp only [impl_pagesOf.l0, toNat_cast, hr]
      rw [if_pos (by omega), if_pos (by omega)]
  exact key l [] zer rfl

def allowB (l : List RegW) (p : Int) : Bool × Bool := if regsB l = true ∧ 0 ≤ p ∧ p ≤ 63 then (decide ((marksB l zer).getD p.toNat 0 > 0), ((marksB l zer).getD p.toNat 0 == 2)) else (false, false)
theorem spec_Allowed_ev (l : List RegW) (hl : l.length ≤ 1048576) (p : Int) : Ev (fun k => spec_Allowed.f k l p) (allowB l p) := by
  unfold spec_Allowed.f allowB
  refine Ev.bind (spec_RegionsOk_ev l hl) ?_
  by_cases h : regsB l = true
  · simp only [if_pos h, l01In_eq, Option.bind_some]
    by_cases hp : 0 ≤ p ∧ p ≤ 63
    · simp only [decide_eq_true hp, if_true, if_pos (show regsB l = true ∧ 0 ≤ p ∧ p ≤ 63 from ⟨h, hp⟩)]
      refine Ev.bind (spec_marks_ev l hl (regsB_one h)) ?_
      have ht := (marksB_tri l zer zer_tri).1
      simp only [if_pos hp.1, if_pos (show p < ((marksB l zer).length : Int) by omega)]
      exact Ev.now _
    · simp only [decide_eq_false hp, Bool.false_eq_true, if_false, if_neg (show ¬ (regsB l = true ∧ 0 ≤ p ∧ p ≤ 63) from fun x => hp x.2)]; exact Ev.now _
  · simp only [if_neg h, if_neg (show ¬ (regsB l = true ∧ 0 ≤ p ∧ p ≤ 63) from fun x => h x.1)]; exact Ev.now _
theorem impl_Allowed_ev (l : List RegW) (hl : l.length ≤ 1048576) (p : Int) : Ev (fun k => impl_Allowed.f k l p) (allowB l p) := by
  unfold impl_Allowed.f allowB
  refine Ev.bind (impl_RegionsOk_ev l hl) ?_
  by_cases h : regsB l = true
  · simp only [if_pos h, within_eq, Option.bind_some]
    by_cases hp : 0 ≤ p ∧ p ≤ 63
    · simp only [decide_eq_true hp, if_true, if_pos (show regsB l = true ∧ 0 ≤ p ∧ p ≤ 63 from ⟨h, hp⟩)]
      refine Ev.bind (impl_pages_ev l hl (regsB_one h)) ?_
      simp only [if_pos hp.1, if_pos (show p < 64 by omega)]
      exact Ev.now _
    · simp only [decide_eq_false hp, Bool.false_eq_true, if_false, if_neg (show ¬ (regsB l = true ∧ 0 ≤ p ∧ p ≤ 63) from fun x => hp x.2)]; exact Ev.now _
  · simp only [if_neg h, if_neg (show ¬ (regsB l = true ∧ 0 ≤ p ∧ p ≤ 63) from fun x => h x.1)]; exact Ev.now _
theorem FnExactAllowed (l0 : List S99) (g0 : (l0.length ≤ maxLen ∧ ∀ y0 ∈ l0, ((Lit.int .i64 y0.f0).wf = true ∧ (Lit.int .i64 y0.f1).wf = true ∧ True))) (a1 : Int) (_w1 : (Lit.int .i64 a1).wf = true) : (∃ (k : Nat) (z : Int) (t : List (S97)) (y0 : Bool) (y1 : Bool), (laws_szRegionS.f l0 1048576 = some z) ∧ (laws_toRegionS.f k l0 = some t) ∧ (spec_Allowed.f k t a1 = some (y0, y1)) ∧ (impl_Allowed.f k t a1 = some (y0, y1)) ∧ (laws_eqRegionS.f k t t = some true) ∧ (¬ z < 0)) ∨ (∃ (k : Nat) (z : Int), (laws_szRegionS.f l0 1048576 = some z) ∧ (z < 0)) := by
  by_cases hlen : (l0.length : Int) ≤ 1048576
  · refine Or.inl ?_
    have hl : (l0.map toReg_).length ≤ 1048576 := by rw [List.length_map]; omega
    obtain ⟨n1, e1⟩ := toRegionS_ev l0 (by omega)
    obtain ⟨n2, e2⟩ := spec_Allowed_ev (l0.map toReg_) hl a1
    obtain ⟨n3, e3⟩ := impl_Allowed_ev (l0.map toReg_) hl a1
    obtain ⟨n4, e4⟩ := eqRegionS_refl (l0.map toReg_) hl
    exact ⟨n1 + n2 + n3 + n4, _, _, _, _, by rw [szRegionS_eq l0 g0.1, if_pos hlen], e1 _ (by omega), e2 _ (by omega), e3 _ (by omega), e4 _ (by omega), by omega⟩
  · exact Or.inr ⟨0, _, by rw [szRegionS_eq l0 g0.1, if_neg hlen], by omega⟩

end Go.Proofs.Ytpkhoanaifpopaa.Pure
end
