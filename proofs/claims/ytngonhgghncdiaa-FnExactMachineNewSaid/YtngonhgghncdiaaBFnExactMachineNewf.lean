/- What the proof of FnExactMachineNewSaid rests on, part 6: plain lemmas and contracts of the functions that the law reaches (in part written by a printing program over the translation). No condition. -/
import Derived.Test.YtngonhgghncdiaaBFnExactMachineNewe
section
namespace Go.Proofs.Ytngonhgghncdiaa.P
open Go.Proofs.Ytngonhgghncdiaa.Up
open Go.RowKit Go.Proofs.YtngonhgghncdiaaW.PrintWords Go.Proofs.YtngonhgghncdiaaW.PrintLast Go.Proofs.YtngonhgghncdiaaW.PrintMore
attribute [local go_sem] max2_int min2_int max_two min_two max_three min_three max_four min_four
set_option linter.unusedVariables false
set_option linter.unusedSimpArgs false
def laws_toRegion.f (a0_0 : Int) (a0_1 : Int) (a0_2 : Bool) : Option (Int × Int × Bool) := some (a0_0, a0_1, a0_2)
set_option maxHeartbeats 8000000 in
set_option maxRecDepth 100000 in
theorem laws_toRegion.calls (a0_0 : Int) (a0_1 : Int) (a0_2 : Bool) (r1 : Int) (r2 : Int) (r3 : Bool) (w : World) (h : laws_toRegion.f a0_0 a0_1 a0_2 = some (r1, r2, r3)) :
    Calls Try.prog 175 #[.agg #[.int .i64 a0_0, .int .i64 a0_1, .bool a0_2]] w fun e w' => e = .returned (.agg #[.int .i64 r1, .int .i64 r2, .bool r3]) ∧ Below w.heap.size w w' := by
  have hu209 := Try.underlying209
  have hu181 := Try.underlying181
  have HB := Aside0.mk (Below.refl w.heap.size w)
  have H : (some (a0_0, a0_1, a0_2)) = some (r1, r2, r3) := h
  clear h
  simp only [Option.some.injEq, Prod.mk.injEq] at H
  obtain ⟨rfl, rfl, rfl⟩ := H
  go_enter Try.func175, Try.ntmps175
  go_wp2_with (first | ((with_reducible refine gate_dst (N := 1) rfl ?_); refine box_event ?hg (N := 1) ?hd (cs := #[.int .i64 a0_0, .int .i64 a0_1, .bool a0_2]) (t := 209) ?hr ?_; (case hd => rfl); (case hg => rfl); (case hr => first | (go_simp; done) | (go_simp; rfl)); intro gb702 hg w2 hbox hb; have n0_ := Aside0.mk (below_step (by repeat (first | (with_reducible first | exact HB.out | apply below_alloc | apply pw_below_drewN | apply below_drew1) | exact HB.out)) hb); have n1_ := Aside0.mk (hbox); have n2_ := Aside0.mk ((by rw [hg]; exact (below_size (by repeat (first | (with_reducible first | exact HB.out | apply below_alloc | apply pw_below_drewN | apply below_drew1) | exact HB.out))) : w.heap.size ≤ gb702)); have n3_ := Aside0.mk ((by rw [hg]; exact (below_size (by repeat (first | (with_reducible first | exact HB.out | apply below_alloc | apply pw_below_drewN | apply below_drew1) | exact HB.out))) : w.heap.size ≤ gb702)); clear HB; have HB := n0_; have BK702 := n1_; have GW702 := n2_; have GE702 := n3_; clear n0_ n1_ n2_ n3_; clear hb hbox hg) | ((with_reducible refine gate_dst (N := 2) rfl ?_); refine box_event ?hg (N := 2) ?hd (cs := #[.int .i64 0, .int .i64 0, .bool false]) (t := 181) ?hr ?_; (case hd => rfl); (case hg => rfl); (case hr => first | (go_simp; done) | (go_simp; rfl)); intro gb703 hg w3 hbox hb; have n0_ := Aside0.mk (blk_below (g := gb702) (o := .cells #[.int .i64 a0_0, .int .i64 a0_1, .bool a0_2] 209 (0, 0)) (by (with_reducible repeat (first | refine blk_drewN ?_ _ | refine blk_drew ?_ | refine blk_alloc ?_ _)); exact BK702.out) hb); have n1_ := Aside0.mk (below_step (by repeat (first | (with_reducible first | exact HB.out | apply below_alloc | apply pw_below_drewN | apply below_drew1 | refine below_set ?_ GE702.out) | exact HB.out)) hb); have n2_ := Aside0.mk (hbox); have n3_ := Aside0.mk ((by rw [hg]; exact (below_size (by repeat (first | (with_reducible first | exact HB.out | apply below_alloc | apply pw_below_drewN | apply below_drew1 | refine below_set ?_ GE702.out) | exact HB.out))) : w.heap.size ≤ gb703)); have n4_ := Aside0.mk ((by rw [hg]; exact (below_size (by repeat (first | (with_reducible first | exact HB.out | apply below_alloc | apply pw_below_drewN | apply below_drew1 | refine below_set ?_ GE702.out) | exact HB.out))) : w.heap.size ≤ gb703)); have n5_ := Aside0.mk ((by rw [hg]; exact Nat.ne_of_lt (blk_lt (g := gb702) (o := .cells #[.int .i64 a0_0, .int .i64 a0_1, .bool a0_2] 209 (0, 0)) (by (with_reducible repeat (first | refine blk_drewN ?_ _ | refine blk_drew ?_ | refine blk_alloc ?_ _)); exact BK702.out)) : gb702 ≠ gb703)); have n6_ := Aside0.mk ((by rw [hg]; exact Nat.ne_of_gt (blk_lt (g := gb702) (o := .cells #[.int .i64 a0_0, .int .i64 a0_1, .bool a0_2] 209 (0, 0)) (by (with_reducible repeat (first | refine blk_drewN ?_ _ | refine blk_drew ?_ | refine blk_alloc ?_ _)); exact BK702.out)) : gb703 ≠ gb702)); clear BK702; clear HB; have BK702 := n0_; have HB := n1_; have BK703 := n2_; have GW703 := n3_; have GE703 := n4_; have NB702_703 := n5_; have NB703_702 := n6_; clear n0_ n1_ n2_ n3_ n4_ n5_ n6_; clear hb hbox hg) | ((with_reducible refine gate_dst (N := 3) rfl ?_); refine box_event ?hg (N := 3) ?hd (cs := #[.int .i64 0, .int .i64 0, .bool false]) (t := 181) ?hr ?_; (case hd => rfl); (case hg => rfl); (case hr => first | (go_simp; done) | (go_simp; rfl)); intro gb704 hg w4 hbox hb; have n0_ := Aside0.mk (blk_below (g := gb702) (o := .cells #[.int .i64 a0_0, .int .i64 a0_1, .bool a0_2] 209 (0, 0)) (by (with_reducible repeat (first | refine blk_drewN ?_ _ | refine blk_drew ?_ | refine blk_alloc ?_ _)); exact BK702.out) hb); have n1_ := Aside0.mk (blk_below (g := gb703) (o := .cells #[.int .i64 0, .int .i64 0, .bool false] 181 (0, 0)) (by (with_reducible repeat (first | refine blk_drewN ?_ _ | refine blk_drew ?_ | refine blk_alloc ?_ _)); exact BK703.out) hb); have n2_ := Aside0.mk (below_step (by repeat (first | (with_reducible first | exact HB.out | apply below_alloc | apply pw_below_drewN | apply below_drew1 | refine below_set ?_ GE702.out | refine below_set ?_ GE703.out) | exact HB.out)) hb); have n3_ := Aside0.mk (hbox); have n4_ := Aside0.mk ((by rw [hg]; exact (below_size (by repeat (first | (with_reducible first | exact HB.out | apply below_alloc | apply pw_below_drewN | apply below_drew1 | refine below_set ?_ GE702.out | refine below_set ?_ GE703.out) | exact HB.out))) : w.heap.size ≤ gb704)); have n5_ := Aside0.mk ((by rw [hg]; exact (below_size (by repeat (first | (with_reducible first | exact HB.out | apply below_alloc | apply pw_below_drewN | apply below_drew1 | refine below_set ?_ GE702.out | refine below_set ?_ GE703.out) | exact HB.out))) : w.heap.size ≤ gb704)); have n6_ := Aside0.mk ((by rw [hg]; exact Nat.ne_of_lt (blk_lt (g := gb702) (o := .cells #[.int .i64 a0_0, .int .i64 a0_1, .bool a0_2] 209 (0, 0)) (by (with_reducible repeat (first | refine blk_drewN ?_ _ | refine blk_drew ?_ | refine blk_alloc ?_ _)); exact BK702.out)) : gb702 ≠ gb704)); have n7_ := Aside0.mk ((by rw [hg]; exact Nat.ne_of_gt (blk_lt (g := gb702) (o := .cells #[.int .i64 a0_0, .int .i64 a0_1, .bool a0_2] 209 (0, 0)) (by (with_reducible repeat (first | refine blk_drewN ?_ _ | refine blk_drew ?_ | refine blk_alloc ?_ _)); exact BK702.out)) : gb704 ≠ gb702)); have n8_ := Aside0.mk ((by rw [hg]; exact Nat.ne_of_lt (blk_lt (g := gb703) (o := .cells #[.int .i64 0, .int .i64 0, .bool false] 181 (0, 0)) (by (with_reducible repeat (first | refine blk_drewN ?_ _ | refine blk_drew ?_ | refine blk_alloc ?_ _)); exact BK703.out)) : gb703 ≠ gb704)); have n9_ := Aside0.mk ((by rw [hg]; exact Nat.ne_of_gt (blk_lt (g := gb703) (o := .cells #[.int .i64 0, .int .i64 0, .bool false] 181 (0, 0)) (by (with_reducible repeat (first | refine blk_drewN ?_ _ | refine blk_drew ?_ | refine blk_alloc ?_ _)); exact BK703.out)) : gb704 ≠ gb703)); clear BK702; clear BK703; clear HB; have BK702 := n0_; have BK703 := n1_; have HB := n2_; have BK704 := n3_; have GW704 := n4_; have GE704 := n5_; have NB702_704 := n6_; have NB704_702 := n7_; have NB703_704 := n8_; have NB704_703 := n9_; clear n0_ n1_ n2_ n3_ n4_ n5_ n6_ n7_ n8_ n9_; clear hb hbox hg; have hnb5 := NB702_703.out; have hnc5 := NB703_702.out; have hnb6 := NB702_704.out; have hnc6 := NB704_702.out; have hcz7_0 : w4.cell? ⟨gb702, 0, none⟩ = some (.int .i64 a0_0) := (blk_cell BK702.out 0).trans rfl; have hcz7_1 : w4.cell? ⟨gb702, 1, none⟩ = some (.int .i64 a0_1) := (blk_cell BK702.out 1).trans rfl; have hcz7_2 : w4.cell? ⟨gb702, 2, none⟩ = some (.bool a0_2) := (blk_cell BK702.out 2).trans rfl; have hfz7_0 := blk_frozen BK702.out 0; have hfz7_1 := blk_frozen BK702.out 1; have hfz7_2 := blk_frozen BK702.out 2; have hnb8 := NB704_703.out; have hnc8 := NB703_704.out; have hcz9_0 : w4.cell? ⟨gb704, 0, none⟩ = some (.int .i64 0) := (blk_cell BK704.out 0).trans rfl; have hcz9_1 : w4.cell? ⟨gb704, 1, none⟩ = some (.int .i64 0) := (blk_cell BK704.out 1).trans rfl; have hcz9_2 : w4.cell? ⟨gb704, 2, none⟩ = some (.bool false) := (blk_cell BK704.out 2).trans rfl; have hfz9_0 := blk_frozen BK704.out 0; have hfz9_1 := blk_frozen BK704.out 1; have hfz9_2 := blk_frozen BK704.out 2; have hcz10_0 : w4.cell? ⟨gb703, 0, none⟩ = some (.int .i64 0) := (blk_cell BK703.out 0).trans rfl; have hcz10_1 : w4.cell? ⟨gb703, 1, none⟩ = some (.int .i64 0) := (blk_cell BK703.out 1).trans rfl; have hcz10_2 : w4.cell? ⟨gb703, 2, none⟩ = some (.bool false) := (blk_cell BK703.out 2).trans rfl; have hfz10_0 := blk_frozen BK703.out 0; have hfz10_1 := blk_frozen BK703.out 1; have hfz10_2 := blk_frozen BK703.out 2))
  refine bodyPost_ret (results_cell_row rfl _ _ gb703 181 #[.int .i64 a0_0, .int .i64 a0_1, .bool a0_2] (0, 0) _ rfl (by (with_reducible repeat (first | refine blk_drewN ?_ _ | refine blk_drew ?_ | refine blk_alloc ?_ _)); refine blk_put (cs := #[.int .i64 a0_0, .int .i64 a0_1, .bool false]) ?_ 2 _ rfl; (with_reducible repeat (first | refine blk_drewN ?_ _ | refine blk_drew ?_ | refine blk_alloc ?_ _)); refine blk_put (cs := #[.int .i64 a0_0, .int .i64 0, .bool false]) ?_ 1 _ rfl; (with_reducible repeat (first | refine blk_drewN ?_ _ | refine blk_drew ?_ | refine blk_alloc ?_ _)); refine blk_put (cs := #[.int .i64 0, .int .i64 0, .bool false]) ?_ 0 _ rfl; (with_reducible repeat (first | refine blk_drewN ?_ _ | refine blk_drew ?_ | refine blk_alloc ?_ _)); refine blk_far ?_ NB703_704.out _; (with_reducible repeat (first | refine blk_drewN ?_ _ | refine blk_drew ?_ | refine blk_alloc ?_ _)); refine blk_far ?_ NB703_704.out _; (with_reducible repeat (first | refine blk_drewN ?_ _ | refine blk_drew ?_ | refine blk_alloc ?_ _)); refine blk_far ?_ NB703_704.out _; (with_reducible repeat (first | refine blk_drewN ?_ _ | refine blk_drew ?_ | refine blk_alloc ?_ _)); exact BK703.out) Try.underlying181 rfl (by kernel_rfl)) rfl ?_
  exact ⟨by first | rfl | (simp [errW_none, errW_some] <;> rfl) | (simp [*, errW_none, errW_some] <;> rfl), by repeat (first | (with_reducible first | exact HB.out | apply below_alloc | apply pw_below_drewN | apply below_drew1 | refine below_set ?_ GE702.out | refine below_set ?_ GE703.out | refine below_set ?_ GE704.out) | exact HB.out)⟩
def laws_toRegionS.l0 : Nat → List (S209) → List (S181) → Int → Option ((List (S181)))
 | 0, _, _, _ => none
 | k + 1, x0, x3, x4 => if x4 < (x0.length : Int) then (if 0 ≤ x4 then ((laws_toRegion.f ((rd_T209 x0 x4).f0) ((rd_T209 x0 x4).f1) ((rd_T209 x0 x4).f2)).bind fun bt709 => (if x4 < (x3.length : Int) then (laws_toRegionS.l0 k x0 (x3.set (x4 : Int).toNat (⟨bt709.1, bt709.2.1, bt709.2.2⟩ : S181)) (wrap64 (x4 + 1))) else (none))) else (none)) else (some x3)
def laws_toRegionS.f (k : Nat) (l0 : List (S209)) : Option ((List (S181))) := if 0 ≤ (l0.length : Int) then (if ((l0.length : Int) : Int).toNat ≤ 11728124029610 then (laws_toRegionS.l0 k l0 (List.replicate ((l0.length : Int) : Int).toNat z181) 0) else (none)) else (none)
theorem laws_toRegionS.mono_l : ∀ k, (∀ y0 y1 y2, LeO (laws_toRegionS.l0 k y0 y1 y2) (laws_toRegionS.l0 (k + 1) y0 y1 y2))
 | 0 => fun _ _ _ r h => by simp [laws_toRegionS.l0] at h
 | k + 1 => by
  have ih0 := laws_toRegionS.mono_l k
  ·intro y0 y1 y2; unfold laws_toRegionS.l0
   repeat' first
   | (with_reducible exact ih0 _ _ _)
   | (with_reducible exact LeO.refl _)
   | (with_reducible exact LeO.none _)
   | (with_reducible refine LeO.ite ?_ ?_)
   | (with_reducible refine LeO.bind ?_ (fun _ => ?_))
   | exact ih0 _ _ _
   | exact LeO.none _
   | refine LeO.ite ?_ ?_
   | refine LeO.bind ?_ (fun _ => ?_)
theorem laws_toRegionS.mono : ∀ a0 k, LeO (laws_toRegionS.f k a0) (laws_toRegionS.f (k + 1) a0) := by
 intro a0 k; have ih0 := laws_toRegionS.mono_l k; unfold laws_toRegionS.f
 repeat' first
   | (with_reducible exact ih0 _ _ _)
   | (with_reducible exact LeO.refl _)
   | (with_reducible exact LeO.none _)
   | (with_reducible refine LeO.ite ?_ ?_)
   | (with_reducible refine LeO.bind ?_ (fun _ => ?_))
   | exact ih0 _ _ _
   | exact LeO.none _
   | refine LeO.ite ?_ ?_
   | refine LeO.bind ?_ (fun _ => ?_)
set_option maxHeartbeats 8000000 in
set_option maxRecDepth 100000 in
theorem laws_toRegionS.calls (k : Nat) (A0 : Option Addr) (c0 : Nat) (l0 : List (S209)) (r : List (S181)) (w : World) (hr0 : Kd.C k209 w A0 l0.length l0) (hc0 : l0.length ≤ c0) (h : laws_toRegionS.f k l0 = some r) :
  Calls Try.prog 148 #[.slice A0 l0.length c0] w fun e w' => ∃ v0_ : Value, e = .returned (v0_) ∧ Kd.R k181 181 w' w.heap.size (fun _ => True) v0_ r ∧ Below w.heap.size w w' := by
 have hu209 := Try.underlying209; have hu181 := Try.underlying181; have HR0 := Aside0.mk hr0; have HC0 := Aside0.mk hc0; clear hr0 hc0; have HB := Aside0.mk (Below.refl w.heap.size w); have H : (if 0 ≤ (l0.length : Int) then (if ((l0.length : Int) : Int).toNat ≤ 11728124029610 then (laws_toRegionS.l0 k l0 (List.replicate ((l0.length : Int) : Int).toNat z181) 0) else (none)) else (none)) = some r := h; clear h
 by_cases c2 : 0 ≤ (l0.length : Int)
 ·rw [if_pos c2] at H; have c2b0 := eq_true c2; have c2b1 : decide (0 ≤ (l0.length : Int)) = true := decide_eq_true c2; clear c2
  by_cases c3 : ((l0.length : Int) : Int).toNat ≤ 11728124029610
  ·rw [if_pos c3] at H; have c3b0 := eq_true c3; have c3b1 : decide (((l0.length : Int) : Int).toNat ≤ 11728124029610) = true := decide_eq_true c3; clear c3
   obtain ⟨y705, hy705⟩ : ∃ y_ : List (S181), y_ = (List.replicate ((l0.length : Int) : Int).toNat z181) := ⟨_, rfl⟩
   replace H : (laws_toRegionS.l0 k l0 y705 0) = some r := by first | (rw [hy705]; with_reducible exact H) | (have H2_ := (Option.bind_some _ _).symm.trans H; rw [hy705]; with_reducible exact H2_) | (have H2_ := (Option.bind_some _ _).symm.trans H; with_reducible exact H2_) | with_reducible exact H | (rw [hy705]; exact H) | exact H
   have Ny705 := Aside0.mk hy705; clear hy705; have H' := Aside0.mk H; clear H
   go_enter Try.func148, Try.ntmps148
   go_wp2_with (first | ((with_reducible refine gate_dst (N := 7) rfl ?_); refine Kd.R_make k181 _ 181 rfl (N := 7) rfl 77 _ _ rfl (l0.length : Int) rfl rfl Try.underlying77 (.agg #[(.int .i64 0), (.int .i64 0), (.bool false)]) 24 info181 rfl (by decide) (by omega) z181 (ok := fun _ => True) (okp := fun _ => True) (k181_mkM _ _ _ z181 ) (fun _ hk => hk) trivial (of_decide_eq_true (by first | (with_reducible assumption) | assumption)) (Nat.le_trans (Nat.mul_le_mul_right _ (of_decide_eq_true (by first | (with_reducible assumption) | assumption) : (l0.length : Int).toNat ≤ 11728124029610)) (by omega)) (Below.refl _ _) (Nat.le_refl _) ?_; intro v706 w4 ho5 hb hg_ hnew_; clear hg_ hnew_; (first | rw [← Ny705.out] at ho5 | (simp only [Int.reduceToNat] at ho5; rw [← Ny705.out] at ho5)); have HO707 := Aside0.mk (Kd.R_lower ho5 (below_size (gB HB))); replace HB := Aside0.mk (below_step (gB HB) hb); clear hb ho5))
   go_loopg [4] k (fun kq v4 w' => ∃ (x3_1 : List (S181)) (x4_1 : Int), v4 = .int .i64 x4_1 ∧ Aside0 (laws_toRegionS.l0 kq l0 x3_1 x4_1 = some r) ∧ Aside0 (kq ≤ k) ∧ Aside0 (Kd.R k181 181 w' w.heap.size (fun _ => True) v706 x3_1) ∧ Aside0 (Below w.heap.size w w'))
   case atStart => exact ⟨(y705), (0), (by first | rfl | (simp; done) | (simp [*]; done)), H', ⟨Nat.le_refl _⟩, ⟨gR HO707⟩, ⟨gB HB⟩⟩
   case round =>
    clear H'; try clear c1
    try clear c2
    try clear c2b0
    try clear c2b1
    try clear p2
    try clear c3
    try clear c3b0
    try clear c3b1
    obtain ⟨x3_1, x4_1, rfl, HA, HK1, HO_3, HB⟩ := hrel
    cases gk with
    | zero => exact absurd HA.out (by simp [laws_toRegionS.l0])
    | succ k1 =>
     have H := HA.out; clear HA; simp only [laws_toRegionS.l0] at H
     by_cases c6 : x4_1 < (l0.length : Int)
     ·rw [if_pos c6] at H; have c6b0 : decide (x4_1 < (l0.length : Int)) = true := decide_eq_true c6; clear c6
      by_cases c7 : 0 ≤ x4_1
      ·rw [if_pos c7] at H; have c7b0 : decide (0 ≤ x4_1) = true := decide_eq_true c7; clear c7; replace H := Option.bind_eq_some_iff.mp H; obtain ⟨⟨t709, t710, t711⟩, A80, H⟩ := H; replace H : (if x4_1 < (x3_1.length : Int) then (laws_toRegionS.l0 k1 l0 (x3_1.set (x4_1 : Int).toNat (⟨t709, t710, t711⟩ : S181)) (wrap64 (x4_1 + 1))) else (none)) = some r := H; have A8 := Aside0.mk A80; clear A80
       by_cases c9 : x4_1 < (x3_1.length : Int)
       ·rw [if_pos c9] at H; have c9b0 : decide (x4_1 < (x3_1.length : Int)) = true := decide_eq_true c9; clear c9
        obtain ⟨y712, hy712⟩ : ∃ y_ : List (S181), y_ = (x3_1.set (x4_1 : Int).toNat (⟨t709, t710, t711⟩ : S181)) := ⟨_, rfl⟩
        replace H : (laws_toRegionS.l0 k1 l0 y712 (wrap64 (x4_1 + 1))) = some r := by first | (rw [hy712]; with_reducible exact H) | (have H2_ := (Option.bind_some _ _).symm.trans H; rw [hy712]; with_reducible exact H2_) | (have H2_ := (Option.bind_some _ _).symm.trans H; with_reducible exact H2_) | with_reducible exact H | (rw [hy712]; exact H) | exact H
        have Ny712 := Aside0.mk hy712; clear hy712; have H' := Aside0.mk H; clear H; have p708 : 0 ≤ (x4_1 : Int) := of_decide_eq_true (by first | (with_reducible assumption) | assumption); have q708 : x4_1 < (l0.length : Int) := of_decide_eq_true (by first | (with_reducible assumption) | assumption); obtain ⟨ad708, e708, hx708_0, hx708_1, hx708_2⟩ := at_T209 HR0.out x4_1 p708 q708
        cases e708; replace hx708_0 := (HB.out.cell (World.block_lt_of_cell? w _ hx708_0)).trans hx708_0; replace hx708_1 := (HB.out.cell (World.block_lt_of_cell? w _ hx708_1)).trans hx708_1; replace hx708_2 := (HB.out.cell (World.block_lt_of_cell? w _ hx708_2)).trans hx708_2; replace p708 := eq_true p708; replace q708 := eq_true q708
        go_wp2_with (first | ((with_reducible refine gate_callee (f := 175) rfl ?_); refine goesL_ (some 20) rfl rfl Try.func175 (by kernel_rfl) rfl #[.agg #[.int .i64 ((rd_T209 l0 x4_1).f0), .int .i64 ((rd_T209 l0 x4_1).f1), .bool ((rd_T209 l0 x4_1).f2)]] rfl (by (try simp only [List.map_toArray, List.map_cons, List.map_nil]); first | done | rfl) ?_; (with_reducible refine (laws_toRegion.calls ((rd_T209 l0 x4_1).f0) ((rd_T209 l0 x4_1).f1) ((rd_T209 l0 x4_1).f2) t709 t710 t711 _ A8.out).mono ?_); rintro e w11 ⟨rfl, hb⟩; refine ⟨_, rfl, ?_⟩; replace HO_3 := Aside0.mk (Kd.R_below (gR HO_3) hb); replace HB := Aside0.mk (below_step (gB HB) hb); (try clear hb); (try clear hb2); (try clear hk); (try clear hi); have p10 : 0 ≤ (x4_1 : Int) := of_decide_eq_true (by first | (with_reducible assumption) | assumption); have q10 : (x4_1 : Int) < ((x3_1.length : Int) : Int) := of_decide_eq_true (by first | (with_reducible assumption) | assumption); obtain ⟨go10, co10, eo10, gb10, gl10, cl10, HG10⟩ := Kd.R_form HO_3.out (by omega); (first | cases eo10 | (injection eo10 with ea_ en_ ec_; (first | subst ea_ | (injection ea_ with ea_; subst ea_)); subst ec_; clear en_)); have GB10 := Aside0.mk gb10; have GG10 := Aside0.mk HG10; clear gb10 gl10 HG10; obtain ⟨ce10, hcl10, hM10, hcc10, hfr10⟩ := Kd.R_elem HO_3.out z181 (x4_1 : Int) p10 q10; obtain rfl := k181_openM hM10; have hx10_0 : w11.cell? ⟨go10, (x4_1 : Int).toNat * 3, none⟩ = some (.int .i64 ((rd_T181 x3_1 x4_1).f0)) := hcc10 0 _ rfl; have hx10_1 : w11.cell? ⟨go10, (x4_1 : Int).toNat * 3 + 1, none⟩ = some (.int .i64 ((rd_T181 x3_1 x4_1).f1)) := hcc10 1 _ rfl; have hx10_2 : w11.cell? ⟨go10, (x4_1 : Int).toNat * 3 + 2, none⟩ = some (.bool ((rd_T181 x3_1 x4_1).f2)) := hcc10 2 _ rfl; have hf10_0 : w11.frozen? ⟨go10, (x4_1 : Int).toNat * 3, none⟩ = false := hfr10 0; have hf10_1 : w11.frozen? ⟨go10, (x4_1 : Int).toNat * 3 + 1, none⟩ = false := hfr10 1; have hf10_2 : w11.frozen? ⟨go10, (x4_1 : Int).toNat * 3 + 2, none⟩ = false := hfr10 2; (try clear hcl10); (try clear hcc10); (try clear hfr10); (try clear hM10); replace p10 := eq_true p10; replace q10 := eq_true q10; have HX12 := Aside0.mk (show Kd.R k181 181 w11 w.heap.size (fun _ => True) (.slice (some ⟨go10, 0, none⟩) x3_1.length co10) x3_1 from (gR HO_3)); obtain ⟨ce12, hcl12, hM12, hcc12, hfr12⟩ := Kd.R_elem HX12.out z181 (x4_1 : Int) (of_decide_eq_true (by first | (with_reducible assumption) | assumption)) (by have h_ : (x4_1 : Int) < ((x3_1.length : Int) : Int) := of_decide_eq_true (by first | (with_reducible assumption) | assumption); first | exact h_ | (have e_ := (Kd.R_reads' HO_3.out).1; omega) | simpa using h_); obtain rfl := k181_openM hM12; have HP12 := Kd.R_seg HX12.out (x4_1 : Int) (of_decide_eq_true (by first | (with_reducible assumption) | assumption)) (by have h_ : (x4_1 : Int) < ((x3_1.length : Int) : Int) := of_decide_eq_true (by first | (with_reducible assumption) | assumption); first | exact h_ | (have e_ := (Kd.R_reads' HO_3.out).1; omega) | simpa using h_) (seg := [.int .i64 t709, .int .i64 t710, .bool t711]) (j := 0) hcl12 hcc12 (show 3 ≤ 3 from by decide) (x' := (⟨t709, t710, t711⟩ : S181)) (k181_mkM _ _ _ (⟨t709, t710, t711⟩ : S181) ) (fun _ hk => hk); have hx12_0 := hcc12 0 _ rfl; (try simp only [show (k181).sz = 3 from rfl, Nat.mul_one, Nat.add_zero] at hx12_0); have hf12_0 := hfr12 0; (try simp only [show (k181).sz = 3 from rfl, Nat.mul_one, Nat.add_zero] at hf12_0); have hx12_1 := hcc12 1 _ rfl; (try simp only [show (k181).sz = 3 from rfl, Nat.mul_one, Nat.add_zero] at hx12_1); have hf12_1 := hfr12 1; (try simp only [show (k181).sz = 3 from rfl, Nat.mul_one, Nat.add_zero] at hf12_1); have hx12_2 := hcc12 2 _ rfl; (try simp only [show (k181).sz = 3 from rfl, Nat.mul_one, Nat.add_zero] at hx12_2); have hf12_2 := hfr12 2; (try simp only [show (k181).sz = 3 from rfl, Nat.mul_one, Nat.add_zero] at hf12_2); (try clear hcl12); (try clear hcc12); (try clear hfr12); (try clear hM12)) | ((with_reducible refine gate_store (t := 181) (p := 21) rfl ?_); refine store_event (t := 181) (p := 21) (v := ?vo_w13) (w1 := (((w11.setCell ⟨go10, (x4_1 : Int).toNat * 3, none⟩ (.int .i64 t709)).setCell ⟨go10, (x4_1 : Int).toNat * 3 + 1, none⟩ (.int .i64 t710)).setCell ⟨go10, (x4_1 : Int).toNat * 3 + 2, none⟩ (.bool t711))) ?hg ?ho ?hn ?hr ?_; (case ho => rfl); (case hg => rfl); (case hn => rfl); (case hr => first | (go_simp; done) | (go_simp; rfl)); intro w13 hw; have hg : w11.grownBy w13 (some go10) := (by rw [hw]; exact HP12.2); have hp_ : Kd.R k181 181 w13 w.heap.size (fun _ => True) (.slice (some ⟨go10, 0, none⟩) x3_1.length co10) y712 := (by rw [hw, Ny712.out]; exact HP12.1); clear HP12; replace HO_3 := Aside0.mk (hp_); replace HB := Aside0.mk ((by rw [hw]; exact below_set (below_set (below_set (HB.out) GB10.out) GB10.out) GB10.out : Below w.heap.size w w13)); clear hg hw hp_))
        go_roundg k1
        case measure => have := HK1.out; omega
        case rel => exact ⟨(y712), (wrap64 (x4_1 + 1)), (by first | rfl | (simp; done) | (simp [*]; done)), H', ⟨by have := HK1.out; omega⟩, ⟨gR HO_3⟩, ⟨gB HB⟩⟩
       ·rw [if_neg c9] at H; exact absurd H (by simp)
      ·rw [if_neg c7] at H; exact absurd H (by simp)
     ·rw [if_neg c6] at H; have c6b0 : decide (x4_1 < (l0.length : Int)) = false := decide_eq_false c6; clear c6; obtain rfl := Option.some.inj H; go_wp2
      go_ret
      exact ⟨_, by first | rfl | (simp [errW_none, errW_some] <;> rfl) | (simp [*, errW_none, errW_some] <;> rfl), gR HO_3, gB HB⟩
  ·rw [if_neg c3] at H; exact absurd H (by simp)
 ·rw [if_neg c2] at H; exact absurd H (by simp)
def laws_toSpace.f (k : Nat) (a0_0 : Bool) (a0_1 : Int) (l0_2 : List (S209)) : Option (Bool × Int × (List (S181))) := (laws_toRegionS.f k l0_2).bind fun t716 => (some (a0_0, a0_1, t716))
theorem laws_toSpace.mono : ∀ a0 a1 a2 k, LeO (laws_toSpace.f k a0 a1 a2) (laws_toSpace.f (k + 1) a0 a1 a2) := by
 intro a0 a1 a2 k; unfold laws_toSpace.f
 repeat' first
   | (with_reducible exact laws_toRegionS.mono _ _)
   | (with_reducible exact LeO.refl _)
   | (with_reducible exact LeO.none _)
   | (with_reducible refine LeO.ite ?_ ?_)
   | (with_reducible refine LeO.bind ?_ (fun _ => ?_))
   | exact laws_toRegionS.mono _ _
   | exact LeO.none _
   | refine LeO.ite ?_ ?_
   | refine LeO.bind ?_ (fun _ => ?_)
set_option maxHeartbeats 8000000 in
set_option maxRecDepth 100000 in
theorem laws_toSpace.calls (k : Nat) (a0_0 : Bool) (a0_1 : Int) (A0_2 : Option Addr) (c0_2 : Nat) (l0_2 : List (S209)) (r1 : Bool) (r2 : Int) (r3 : List (S181)) (w : World) (hr0_2 : Kd.C k209 w A0_2 l0_2.length l0_2) (hc0_2 : l0_2.length ≤ c0_2) (h : laws_toSpace.f k a0_0 a0_1 l0_2 = some (r1, r2, r3)) :
  Calls Try.prog 115 #[.agg #[.bool a0_0, .int .i64 a0_1, .slice A0_2 l0_2.length c0_2]] w fun e w' => ∃ v2_ : Value, e = .returned (.agg #[.bool r1, .int .i64 r2, v2_]) ∧ Kd.R k181 181 w' w.heap.size (fun _ => True) v2_ r3 ∧ Below w.heap.size w w' := by
 have hu146 := Try.underlying146; have hu79 := Try.underlying79; have HR0_2 := Aside0.mk hr0_2; have HC0_2 := Aside0.mk hc0_2; clear hr0_2 hc0_2; have HB := Aside0.mk (Below.refl w.heap.size w); have H : ((laws_toRegionS.f k l0_2).bind fun t716 => (some (a0_0, a0_1, t716))) = some (r1, r2, r3) := h; clear h; replace H := Option.bind_eq_some_iff.mp H; obtain ⟨t716, A20, H⟩ := H; replace H : (some (a0_0, a0_1, t716)) = some (r1, r2, r3) := H; have A2 := Aside0.mk A20; clear A20; simp only [Option.some.injEq, Prod.mk.injEq] at H; obtain ⟨rfl, rfl, rfl⟩ := H
 go_enter Try.func115, Try.ntmps115
 go_wp2_with (first | ((with_reducible refine gate_dst (N := 1) rfl ?_); refine box_event ?hg (N := 1) ?hd (cs := #[.bool a0_0, .int .i64 a0_1, .slice A0_2 l0_2.length c0_2]) (t := 146) ?hr ?_; (case hd => rfl); (case hg => rfl); (case hr => first | (go_simp; done) | (go_simp; rfl)); intro gb713 hg w3 hbox hb; have BK713 := Aside0.mk (hbox); have GW713 := Aside0.mk ((by rw [hg]; exact (below_size (gB HB)) : w.heap.size ≤ gb713)); have GE713 := Aside0.mk ((by rw [hg]; exact (below_size (gB HB)) : w.heap.size ≤ gb713)); replace HB := Aside0.mk (below_step (gB HB) hb); clear hb hbox hg) | ((with_reducible refine gate_dst (N := 2) rfl ?_); refine box_event ?hg (N := 2) ?hd (cs := #[.bool false, .int .i64 0, .slice none 0 0]) (t := 79) ?hr ?_; (case hd => rfl); (case hg => rfl); (case hr => first | (go_simp; done) | (go_simp; rfl)); intro gb714 hg w4 hbox hb; have BK714 := Aside0.mk (hbox); have GW714 := Aside0.mk ((by rw [hg]; exact (below_size (gT1 GE713.out HB)) : w.heap.size ≤ gb714)); have GE714 := Aside0.mk ((by rw [hg]; exact (below_size (gT1 GE713.out HB)) : w.heap.size ≤ gb714)); replace HB := Aside0.mk (below_step (gT1 GE713.out HB) hb); have NB713_714 := Aside0.mk ((by rw [hg]; exact Nat.ne_of_lt (blk_lt (g := gb713) (gK BK713)) : gb713 ≠ gb714)); have NB714_713 := Aside0.mk ((by rw [hg]; exact Nat.ne_of_gt (blk_lt (g := gb713) (gK BK713)) : gb714 ≠ gb713)); replace BK713 := Aside0.mk (blk_below (g := gb713) (gK BK713) hb); clear hb hbox hg) | ((with_reducible refine gate_dst (N := 3) rfl ?_); refine box_event ?hg (N := 3) ?hd (cs := #[.bool false, .int .i64 0, .slice none 0 0]) (t := 79) ?hr ?_; (case hd => rfl); (case hg => rfl); (case hr => first | (go_simp; done) | (go_simp; rfl)); intro gb715 hg w5 hbox hb; have BK715 := Aside0.mk (hbox); have GW715 := Aside0.mk ((by rw [hg]; exact (below_size (gT2 GE713.out GE714.out HB)) : w.heap.size ≤ gb715)); have GE715 := Aside0.mk ((by rw [hg]; exact (below_size (gT2 GE713.out GE714.out HB)) : w.heap.size ≤ gb715)); replace HB := Aside0.mk (below_step (gT2 GE713.out GE714.out HB) hb); have NB713_715 := Aside0.mk ((by rw [hg]; exact Nat.ne_of_lt (blk_lt (g := gb713) (gK BK713)) : gb713 ≠ gb715)); have NB715_713 := Aside0.mk ((by rw [hg]; exact Nat.ne_of_gt (blk_lt (g := gb713) (gK BK713)) : gb715 ≠ gb713)); replace BK713 := Aside0.mk (blk_below (g := gb713) (gK BK713) hb); have NB714_715 := Aside0.mk ((by rw [hg]; exact Nat.ne_of_lt (blk_lt (g := gb714) (gK BK714)) : gb714 ≠ gb715)); have NB715_714 := Aside0.mk ((by rw [hg]; exact Nat.ne_of_gt (blk_lt (g := gb714) (gK BK714)) : gb715 ≠ gb714)); replace BK714 := Aside0.mk (blk_below (g := gb714) (gK BK714) hb); clear hb hbox hg; have hnb6 := NB713_714.out; have hnc6 := NB714_713.out; have hnb7 := NB713_715.out; have hnc7 := NB715_713.out; have hcz8_0 : w5.cell? ⟨gb713, 0, none⟩ = some (.bool a0_0) := (blk_cell BK713.out 0).trans rfl; have hcz8_1 : w5.cell? ⟨gb713, 1, none⟩ = some (.int .i64 a0_1) := (blk_cell BK713.out 1).trans rfl; have hcz8_2 : w5.cell? ⟨gb713, 2, none⟩ = some (.slice A0_2 l0_2.length c0_2) := (blk_cell BK713.out 2).trans rfl; have hfz8_0 := blk_frozen BK713.out 0; have hfz8_1 := blk_frozen BK713.out 1; have hfz8_2 := blk_frozen BK713.out 2; have hnb9 := NB715_714.out; have hnc9 := NB714_715.out; have hcz10_0 : w5.cell? ⟨gb715, 0, none⟩ = some (.bool false) := (blk_cell BK715.out 0).trans rfl; have hcz10_1 : w5.cell? ⟨gb715, 1, none⟩ = some (.int .i64 0) := (blk_cell BK715.out 1).trans rfl; have hcz10_2 : w5.cell? ⟨gb715, 2, none⟩ = some (.slice none 0 0) := (blk_cell BK715.out 2).trans rfl; have hfz10_0 := blk_frozen BK715.out 0; have hfz10_1 := blk_frozen BK715.out 1; have hfz10_2 := blk_frozen BK715.out 2) | ((with_reducible refine gate_callee (f := 148) rfl ?_); refine goesL_ (some 12) rfl rfl Try.func148 (by kernel_rfl) rfl #[.slice A0_2 l0_2.length c0_2] rfl (by (try simp only [List.map_toArray, List.map_cons, List.map_nil]); first | done | rfl) ?_; (with_reducible refine (laws_toRegionS.calls k _ _ l0_2 t716 _ ?side1 ?side2 A2.out).mono ?_); (case side1 => exact Kd.C_below HR0_2.out (gT3 GE713.out GE714.out GE715.out HB)); (case side2 => exact HC0_2.out); rintro e w11 ⟨v717, rfl, ho0, hb⟩; refine ⟨_, rfl, ?_⟩; have HO718 := Aside0.mk (Kd.R_lower ho0 (below_size (gT3 GE713.out GE714.out GE715.out HB))); replace BK713 := Aside0.mk (blk_below (g := gb713) (o := .cells #[.bool a0_0, .int .i64 a0_1, .slice A0_2 l0_2.length c0_2] 146 (0, 0)) (by (with_reducible repeat (first | refine blk_drewN ?_ _ | refine blk_drew ?_ | refine blk_alloc ?_ _)); refine blk_far ?_ NB713_715.out _; (with_reducible repeat (first | refine blk_drewN ?_ _ | refine blk_drew ?_ | refine blk_alloc ?_ _)); refine blk_far ?_ NB713_715.out _; (with_reducible repeat (first | refine blk_drewN ?_ _ | refine blk_drew ?_ | refine blk_alloc ?_ _)); exact BK713.out) hb); replace BK714 := Aside0.mk (blk_below (g := gb714) (o := .cells #[.bool false, .int .i64 0, .slice none 0 0] 79 (0, 0)) (by (with_reducible repeat (first | refine blk_drewN ?_ _ | refine blk_drew ?_ | refine blk_alloc ?_ _)); refine blk_far ?_ NB714_715.out _; (with_reducible repeat (first | refine blk_drewN ?_ _ | refine blk_drew ?_ | refine blk_alloc ?_ _)); refine blk_far ?_ NB714_715.out _; (with_reducible repeat (first | refine blk_drewN ?_ _ | refine blk_drew ?_ | refine blk_alloc ?_ _)); exact BK714.out) hb); replace BK715 := Aside0.mk (blk_below (g := gb715) (o := .cells #[.bool a0_0, .int .i64 a0_1, .slice none 0 0] 79 (0, 0)) (by (with_reducible repeat (first | refine blk_drewN ?_ _ | refine blk_drew ?_ | refine blk_alloc ?_ _)); refine blk_put (cs := #[.bool a0_0, .int .i64 0, .slice none 0 0]) ?_ 1 _ rfl; (with_reducible repeat (first | refine blk_drewN ?_ _ | refine blk_drew ?_ | refine blk_alloc ?_ _)); refine blk_put (cs := #[.bool false, .int .i64 0, .slice none 0 0]) ?_ 0 _ rfl; (with_reducible repeat (first | refine blk_drewN ?_ _ | refine blk_drew ?_ | refine blk_alloc ?_ _)); exact BK715.out) hb); replace HB := Aside0.mk (below_step (gT3 GE713.out GE714.out GE715.out HB) hb); (try clear hb); (try clear hb2); (try clear hk); (try clear hi); (try clear ho0); obtain ⟨Ao12, co12, eo12⟩ := Kd.R_slice HO718.out; subst eo12; have hcz13_0 : w11.cell? ⟨gb715, 0, none⟩ = some (.bool a0_0) := (blk_cell BK715.out 0).trans rfl; have hcz13_1 : w11.cell? ⟨gb715, 1, none⟩ = some (.int .i64 a0_1) := (blk_cell BK715.out 1).trans rfl; have hcz13_2 : w11.cell? ⟨gb715, 2, none⟩ = some (.slice none 0 0) := (blk_cell BK715.out 2).trans rfl; have hfz13_0 := blk_frozen BK715.out 0; have hfz13_1 := blk_frozen BK715.out 1; have hfz13_2 := blk_frozen BK715.out 2; have hcz14_0 : w11.cell? ⟨gb714, 0, none⟩ = some (.bool false) := (blk_cell BK714.out 0).trans rfl; have hcz14_1 : w11.cell? ⟨gb714, 1, none⟩ = some (.int .i64 0) := (blk_cell BK714.out 1).trans rfl; have hcz14_2 : w11.cell? ⟨gb714, 2, none⟩ = some (.slice none 0 0) := (blk_cell BK714.out 2).trans rfl; have hfz14_0 := blk_frozen BK714.out 0; have hfz14_1 := blk_frozen BK714.out 1; have hfz14_2 := blk_frozen BK714.out 2))
 refine bodyPost_ret (results_cell_row rfl _ _ gb714 79 #[.bool a0_0, .int .i64 a0_1, .slice Ao12 t716.length co12] (0, 0) _ rfl (by (with_reducible repeat (first | refine blk_drewN ?_ _ | refine blk_drew ?_ | refine blk_alloc ?_ _)); refine blk_put (cs := #[.bool a0_0, .int .i64 a0_1, .slice none 0 0]) ?_ 2 _ rfl; (with_reducible repeat (first | refine blk_drewN ?_ _ | refine blk_drew ?_ | refine blk_alloc ?_ _)); refine blk_put (cs := #[.bool a0_0, .int .i64 0, .slice none 0 0]) ?_ 1 _ rfl; (with_reducible repeat (first | refine blk_drewN ?_ _ | refine blk_drew ?_ | refine blk_alloc ?_ _)); refine blk_put (cs := #[.bool false, .int .i64 0, .slice none 0 0]) ?_ 0 _ rfl; (with_reducible repeat (first | refine blk_drewN ?_ _ | refine blk_drew ?_ | refine blk_alloc ?_ _)); refine blk_far ?_ NB714_715.out _; (with_reducible repeat (first | refine blk_drewN ?_ _ | refine blk_drew ?_ | refine blk_alloc ?_ _)); exact BK714.out) Try.underlying79 rfl (by kernel_rfl)) rfl ?_
 exact ⟨_, by first | rfl | (simp [errW_none, errW_some] <;> rfl) | (simp [*, errW_none, errW_some] <;> rfl), by (with_reducible repeat (first | apply Kd.R_alloc | apply Kd.R_drewN | apply Kd.R_drew)); exact Kd.R_mono (Kd.R_far (p := ⟨gb714, 2, none⟩) (Kd.R_far (p := ⟨gb714, 1, none⟩) (Kd.R_far (p := ⟨gb714, 0, none⟩) (Kd.R_far (p := ⟨gb715, 2, none⟩) (Kd.R_types (Kd.R_types HO718.out BK715.out (by decide)) BK714.out (by decide)) (fun _ hk => hk.1.2) (.slice Ao12 t716.length co12)) (fun _ hk => hk.2) (.bool a0_0)) (fun _ hk => hk.2) (.int .i64 a0_1)) (fun _ hk => hk.2) (.slice Ao12 t716.length co12)) (fun _ hk => trivial), gT3 GE713.out GE714.out GE715.out HB⟩
def laws_toSpaceS.l0 : Nat → List (S146) → List (S79) → Int → Option ((List (S79)))
 | 0, _, _, _ => none
 | k + 1, x0, x3, x4 => if x4 < (x0.length : Int) then (if 0 ≤ x4 then ((laws_toSpace.f k ((rd_T146 x0 x4).f0) ((rd_T146 x0 x4).f1) ((rd_T146 x0 x4).f2)).bind fun bt723 => (if x4 < (x3.length : Int) then (laws_toSpaceS.l0 k x0 (x3.set (x4 : Int).toNat (⟨bt723.1, bt723.2.1, bt723.2.2⟩ : S79)) (wrap64 (x4 + 1))) else (none))) else (none)) else (some x3)
def laws_toSpaceS.f (k : Nat) (l0 : List (S146)) : Option ((List (S79))) := if 0 ≤ (l0.length : Int) then (if ((l0.length : Int) : Int).toNat ≤ 7036874417766 then (laws_toSpaceS.l0 k l0 (List.replicate ((l0.length : Int) : Int).toNat z79) 0) else (none)) else (none)
theorem laws_toSpaceS.mono_l : ∀ k, (∀ y0 y1 y2, LeO (laws_toSpaceS.l0 k y0 y1 y2) (laws_toSpaceS.l0 (k + 1) y0 y1 y2))
 | 0 => fun _ _ _ r h => by simp [laws_toSpaceS.l0] at h
 | k + 1 => by
  have ih0 := laws_toSpaceS.mono_l k
  ·intro y0 y1 y2; unfold laws_toSpaceS.l0
   repeat' first
   | (with_reducible exact ih0 _ _ _)
   | (with_reducible exact laws_toSpace.mono _ _ _ _)
   | (with_reducible exact LeO.refl _)
   | (with_reducible exact LeO.none _)
   | (with_reducible refine LeO.ite ?_ ?_)
   | (with_reducible refine LeO.bind ?_ (fun _ => ?_))
   | exact ih0 _ _ _
   | exact laws_toSpace.mono _ _ _ _
   | exact LeO.none _
   | refine LeO.ite ?_ ?_
   | refine LeO.bind ?_ (fun _ => ?_)
theorem laws_toSpaceS.mono : ∀ a0 k, LeO (laws_toSpaceS.f k a0) (laws_toSpaceS.f (k + 1) a0) := by
 intro a0 k; have ih0 := laws_toSpaceS.mono_l k; unfold laws_toSpaceS.f
 repeat' first
   | (with_reducible exact ih0 _ _ _)
   | (with_reducible exact laws_toSpace.mono _ _ _ _)
   | (with_reducible exact LeO.refl _)
   | (with_reducible exact LeO.none _)
   | (with_reducible refine LeO.ite ?_ ?_)
   | (with_reducible refine LeO.bind ?_ (fun _ => ?_))
   | exact ih0 _ _ _
   | exact laws_toSpace.mono _ _ _ _
   | exact LeO.none _
   | refine LeO.ite ?_ ?_
   | refine LeO.bind ?_ (fun _ => ?_)
set_option maxHeartbeats 8000000 in
set_option maxRecDepth 100000 in
theorem laws_toSpaceS.calls (k : Nat) (A0 : Option Addr) (c0 : Nat) (l0 : List (S146)) (r : List (S79)) (w : World) (hr0 : Kd.C k146 w A0 l0.length l0) (hc0 : l0.length ≤ c0) (h : laws_toSpaceS.f k l0 = some r) :
  Calls Try.prog 81 #[.slice A0 l0.length c0] w fun e w' => ∃ v0_ : Value, e = .returned (v0_) ∧ Kd.S k79 79 w' w.heap.size (fun _ => True) v0_ r ∧ Below w.heap.size w w' := by
 have hu146 := Try.underlying146; have hu79 := Try.underlying79; have HR0 := Aside0.mk hr0; have HC0 := Aside0.mk hc0; clear hr0 hc0; have HB := Aside0.mk (Below.refl w.heap.size w); have H : (if 0 ≤ (l0.length : Int) then (if ((l0.length : Int) : Int).toNat ≤ 7036874417766 then (laws_toSpaceS.l0 k l0 (List.replicate ((l0.length : Int) : Int).toNat z79) 0) else (none)) else (none)) = some r := h; clear h
 by_cases c2 : 0 ≤ (l0.length : Int)
 ·rw [if_pos c2] at H; have c2b0 := eq_true c2; have c2b1 : decide (0 ≤ (l0.length : Int)) = true := decide_eq_true c2; clear c2
  by_cases c3 : ((l0.length : Int) : Int).toNat ≤ 7036874417766
  ·rw [if_pos c3] at H; have c3b0 := eq_true c3; have c3b1 : decide (((l0.length : Int) : Int).toNat ≤ 7036874417766) = true := decide_eq_true c3; clear c3
   obtain ⟨y719, hy719⟩ : ∃ y_ : List (S79), y_ = (List.replicate ((l0.length : Int) : Int).toNat z79) := ⟨_, rfl⟩
   replace H : (laws_toSpaceS.l0 k l0 y719 0) = some r := by first | (rw [hy719]; with_reducible exact H) | (have H2_ := (Option.bind_some _ _).symm.trans H; rw [hy719]; with_reducible exact H2_) | (have H2_ := (Option.bind_some _ _).symm.trans H; with_reducible exact H2_) | with_reducible exact H | (rw [hy719]; exact H) | exact H
   have Ny719 := Aside0.mk hy719; clear hy719; have H' := Aside0.mk H; clear H
   go_enter Try.func81, Try.ntmps81
   go_wp2_with (first | ((with_reducible refine gate_dst (N := 7) rfl ?_); refine Kd.S_make k79 _ 79 rfl (N := 7) rfl 38 _ _ rfl (l0.length : Int) rfl rfl Try.underlying38 (.agg #[(.bool false), (.int .i64 0), (.slice none 0 0)]) 40 info79 rfl (by decide) (by omega) z79 (ok := fun _ => True) (okp := fun _ => True) (k79_mkM _ _ _ z79 (Kd.R_nil _ _ _ _ _)) (fun _ hk => hk) trivial (of_decide_eq_true (by first | (with_reducible assumption) | assumption)) (Nat.le_trans (Nat.mul_le_mul_right _ (of_decide_eq_true (by first | (with_reducible assumption) | assumption) : (l0.length : Int).toNat ≤ 7036874417766)) (by omega)) (Below.refl _ _) (Nat.le_refl _) ?_; intro v720 w4 ho5 hb hg_ hnew_; clear hg_ hnew_; (first | rw [← Ny719.out] at ho5 | (simp only [Int.reduceToNat] at ho5; rw [← Ny719.out] at ho5)); have HO721 := Aside0.mk (Kd.S_lower ho5 (below_size (gB HB))); replace HB := Aside0.mk (below_step (gB HB) hb); clear hb ho5))
   go_loopg [4] k (fun kq v4 w' => ∃ (x3_1 : List (S79)) (x4_1 : Int), v4 = .int .i64 x4_1 ∧ Aside0 (laws_toSpaceS.l0 kq l0 x3_1 x4_1 = some r) ∧ Aside0 (kq ≤ k) ∧ Aside0 (Kd.S k79 79 w' w.heap.size (fun _ => True) v720 x3_1) ∧ Aside0 (Below w.heap.size w w'))
   case atStart => exact ⟨(y719), (0), (by first | rfl | (simp; done) | (simp [*]; done)), H', ⟨Nat.le_refl _⟩, ⟨gS HO721⟩, ⟨gB HB⟩⟩
   case round =>
    clear H'; try clear c2
    try clear c2b0
    try clear c2b1
    try clear p2
    try clear c3
    try clear c3b0
    try clear c3b1
    obtain ⟨x3_1, x4_1, rfl, HA, HK1, HO_3, HB⟩ := hrel
    cases gk with
    | zero => exact absurd HA.out (by simp [laws_toSpaceS.l0])
    | succ k1 =>
     have H := HA.out; clear HA; simp only [laws_toSpaceS.l0] at H
     by_cases c6 : x4_1 < (l0.length : Int)
     ·rw [if_pos c6] at H; have c6b0 : decide (x4_1 < (l0.length : Int)) = true := decide_eq_true c6; clear c6
      by_cases c7 : 0 ≤ x4_1
      ·rw [if_pos c7] at H; have c7b0 : decide (0 ≤ x4_1) = true := decide_eq_true c7; clear c7; replace H := Option.bind_eq_some_iff.mp H; obtain ⟨⟨t723, t724, t725⟩, A80, H⟩ := H; replace H : (if x4_1 < (x3_1.length : Int) then (laws_toSpaceS.l0 k1 l0 (x3_1.set (x4_1 : Int).toNat (⟨t723, t724, t725⟩ : S79)) (wrap64 (x4_1 + 1))) else (none)) = some r := H; have A8 := Aside0.mk A80; clear A80
       by_cases c9 : x4_1 < (x3_1.length : Int)
       ·rw [if_pos c9] at H; have c9b0 : decide (x4_1 < (x3_1.length : Int)) = true := decide_eq_true c9; clear c9
        obtain ⟨y728, hy728⟩ : ∃ y_ : List (S79), y_ = (x3_1.set (x4_1 : Int).toNat (⟨t723, t724, t725⟩ : S79)) := ⟨_, rfl⟩
        replace H : (laws_toSpaceS.l0 k1 l0 y728 (wrap64 (x4_1 + 1))) = some r := by first | (rw [hy728]; with_reducible exact H) | (have H2_ := (Option.bind_some _ _).symm.trans H; rw [hy728]; with_reducible exact H2_) | (have H2_ := (Option.bind_some _ _).symm.trans H; with_reducible exact H2_) | with_reducible exact H | (rw [hy728]; exact H) | exact H
        have Ny728 := Aside0.mk hy728; clear hy728; have H' := Aside0.mk H; clear H; have p722 : 0 ≤ (x4_1 : Int) := of_decide_eq_true (by first | (with_reducible assumption) | assumption); have q722 : x4_1 < (l0.length : Int) := of_decide_eq_true (by first | (with_reducible assumption) | assumption); obtain ⟨ad722, A722_2, c722_2, e722, hx722_0, hx722_1, hx722_2, hl722_2, hi722_2⟩ := at_T146 HR0.out x4_1 p722 q722
        cases e722; replace hx722_0 := (HB.out.cell (World.block_lt_of_cell? w _ hx722_0)).trans hx722_0; replace hx722_1 := (HB.out.cell (World.block_lt_of_cell? w _ hx722_1)).trans hx722_1; replace hx722_2 := (HB.out.cell (World.block_lt_of_cell? w _ hx722_2)).trans hx722_2; have HR722_2 := Aside0.mk hi722_2; have HC722_2 := Aside0.mk hl722_2; clear hi722_2 hl722_2; replace p722 := eq_true p722; replace q722 := eq_true q722
        go_wp2_with (first | ((with_reducible refine gate_callee (f := 115) rfl ?_); refine goesL_ (some 20) rfl rfl Try.func115 (by kernel_rfl) rfl #[.agg #[.bool ((rd_T146 l0 x4_1).f0), .int .i64 ((rd_T146 l0 x4_1).f1), .slice A722_2 ((rd_T146 l0 x4_1).f2).length c722_2]] rfl (by (try simp only [List.map_toArray, List.map_cons, List.map_nil]); first | done | rfl) ?_; (with_reducible refine (laws_toSpace.calls k1 ((rd_T146 l0 x4_1).f0) ((rd_T146 l0 x4_1).f1) _ _ ((rd_T146 l0 x4_1).f2) t723 t724 t725 _ ?side1 ?side2 A8.out).mono ?_); (case side1 => exact gE HR722_2 HB); (case side2 => exact HC722_2.out); rintro e w11 ⟨v726, rfl, ho0, hb⟩; refine ⟨_, rfl, ?_⟩; replace HO_3 := Aside0.mk (Kd.S_elder' (gS HO_3) (Kd.R_base ho0) hb); have HO727 := Aside0.mk (Kd.R_lower ho0 (below_size (gB HB))); replace HB := Aside0.mk (below_step (gB HB) hb); (try clear hb); (try clear hb2); (try clear hk); (try clear hi); (try clear ho0); have p10 : 0 ≤ (x4_1 : Int) := of_decide_eq_true (by first | (with_reducible assumption) | assumption); have q10 : (x4_1 : Int) < ((x3_1.length : Int) : Int) := of_decide_eq_true (by first | (with_reducible assumption) | assumption); obtain ⟨go10, co10, eo10, gb10, gl10, cl10, HG10⟩ := Kd.S_form HO_3.out (by omega); (first | cases eo10 | (injection eo10 with ea_ en_ ec_; (first | subst ea_ | (injection ea_ with ea_; subst ea_)); subst ec_; clear en_)); have GB10 := Aside0.mk gb10; have GG10 := Aside0.mk HG10; clear gb10 gl10 HG10; obtain ⟨_, ce10, hcl10, hM10, hcc10, hfr10, _, _⟩ := Kd.S_elem HO_3.out z79 (x4_1 : Int) p10 q10; obtain ⟨ve10_2, rfl, ge10_2⟩ := k79_openM hM10; have hx10_0 : w11.cell? ⟨go10, (x4_1 : Int).toNat * 3, none⟩ = some (.bool ((rd_T79 x3_1 x4_1).f0)) := hcc10 0 _ rfl; have hx10_1 : w11.cell? ⟨go10, (x4_1 : Int).toNat * 3 + 1, none⟩ = some (.int .i64 ((rd_T79 x3_1 x4_1).f1)) := hcc10 1 _ rfl; have hx10_2 : w11.cell? ⟨go10, (x4_1 : Int).toNat * 3 + 2, none⟩ = some (ve10_2) := hcc10 2 _ rfl; have hf10_0 : w11.frozen? ⟨go10, (x4_1 : Int).toNat * 3, none⟩ = false := hfr10 0; have hf10_1 : w11.frozen? ⟨go10, (x4_1 : Int).toNat * 3 + 1, none⟩ = false := hfr10 1; have hf10_2 : w11.frozen? ⟨go10, (x4_1 : Int).toNat * 3 + 2, none⟩ = false := hfr10 2; (try clear hcl10); (try clear hcc10); (try clear hfr10); (try clear hM10); replace p10 := eq_true p10; replace q10 := eq_true q10; have n_ := Aside0.mk (Kd.S_mono (ok' := (fun k_ => some k_ ≠ (v726 : Value).ownBlock)) HO_3.out (fun k_ hk => hk.2)); clear HO_3; have HO_3 := n_; clear n_; have HX12 := Aside0.mk (show Kd.S k79 79 w11 w.heap.size (fun k_ => ((fun _ => True)) k_ ∧ ¬ ((fun k_ => some k_ = (v726 : Value).ownBlock)) k_) (.slice (some ⟨go10, 0, none⟩) x3_1.length co10) x3_1 from (by (with_reducible repeat (first | apply Kd.S_alloc | apply Kd.S_drewN | apply Kd.S_drew)); exact Kd.S_mono HO_3.out (fun k_ hk => ⟨trivial, fun e_ => hk e_⟩))); obtain ⟨oki12, ce12, hcl12, hM12, hcc12, hfr12, hoki12, hH12⟩ := Kd.S_elem HX12.out z79 (x4_1 : Int) (of_decide_eq_true (by first | (with_reducible assumption) | assumption)) (by have h_ : (x4_1 : Int) < ((x3_1.length : Int) : Int) := of_decide_eq_true (by first | (with_reducible assumption) | assumption); first | exact h_ | (have e_ := (Kd.S_reads' HO_3.out).1; omega) | simpa using h_); obtain ⟨ve12_2, rfl, ge12_2⟩ := k79_openM hM12; have HP12 := Kd.S_seg hH12 (of_decide_eq_true (by first | (with_reducible assumption) | assumption)) (by have h_ : (x4_1 : Int) < ((x3_1.length : Int) : Int) := of_decide_eq_true (by first | (with_reducible assumption) | assumption); first | exact h_ | (have e_ := (Kd.S_reads' HO_3.out).1; omega) | simpa using h_) (seg := [.bool t723, .int .i64 t724, v726]) (j := 0) (show 3 ≤ 3 from by decide) (x' := (⟨t723, t724, t725⟩ : S79)) (k79_mkM _ _ _ (⟨t723, t724, t725⟩ : S79) (Kd.R_mono (Kd.R_tight rfl (Kd.R_mono (ok' := fun k_ => ((fun _ => True)) k_ ∧ k_ ≠ go10) (Kd.R_apart' (HO727.out) (Kd.S_typed HO_3.out) (by decide)) (fun k_ hk => ⟨trivial, fun e_ => (hk.2) (by rw [e_]; rfl)⟩))) (fun _ h_ => Or.inr (h_)))) (fun _ hk => hk) (fun k_ hk_ => ((Kd.R_mono (ok' := fun k_ => ((fun _ => True)) k_ ∧ k_ ≠ go10) (Kd.R_apart' (HO727.out) (Kd.S_typed HO_3.out) (by decide)) (fun k_ hk => ⟨trivial, fun e_ => (hk.2) (by rw [e_]; rfl)⟩))).1 k_ hk_.symm); have hx12_0 := hcc12 0 _ rfl; (try simp only [show (k79).sz = 3 from rfl, Nat.mul_one, Nat.add_zero] at hx12_0); have hf12_0 := hfr12 0; (try simp only [show (k79).sz = 3 from rfl, Nat.mul_one, Nat.add_zero] at hf12_0); have hx12_1 := hcc12 1 _ rfl; (try simp only [show (k79).sz = 3 from rfl, Nat.mul_one, Nat.add_zero] at hx12_1); have hf12_1 := hfr12 1; (try simp only [show (k79).sz = 3 from rfl, Nat.mul_one, Nat.add_zero] at hf12_1); have hx12_2 := hcc12 2 _ rfl; (try simp only [show (k79).sz = 3 from rfl, Nat.mul_one, Nat.add_zero] at hx12_2); have hf12_2 := hfr12 2; (try simp only [show (k79).sz = 3 from rfl, Nat.mul_one, Nat.add_zero] at hf12_2); (try clear hcl12); (try clear hcc12); (try clear hfr12); (try clear hM12); (try clear hoki12); (try clear hH12)) | ((with_reducible refine gate_store (t := 79) (p := 21) rfl ?_); refine store_event (t := 79) (p := 21) (v := ?vo_w13) (w1 := (((w11.setCell ⟨go10, (x4_1 : Int).toNat * 3, none⟩ (.bool t723)).setCell ⟨go10, (x4_1 : Int).toNat * 3 + 1, none⟩ (.int .i64 t724)).setCell ⟨go10, (x4_1 : Int).toNat * 3 + 2, none⟩ (v726))) ?hg ?ho ?hn ?hr ?_; (case ho => rfl); (case hg => rfl); (case hn => rfl); (case hr => first | (go_simp; done) | (go_simp; rfl) | (obtain ⟨A_, c_, e_⟩ := Kd.R_slice HO727.out; rw [e_]; first | (go_simp; done) | (go_simp; rfl)) | (obtain ⟨A_, c_, e_⟩ := Kd.S_slice HO727.out; rw [e_]; first | (go_simp; done) | (go_simp; rfl))); intro w13 hw; have hg : w11.grownBy w13 (some go10) := (by rw [hw]; exact HP12.2); have hp_ : Kd.S k79 79 w13 w.heap.size (fun _ => True) (.slice (some ⟨go10, 0, none⟩) x3_1.length co10) y728 := (by rw [hw, Ny728.out]; exact HP12.1); clear HP12; have n0_ := Aside0.mk (hp_); have n1_ := Aside0.mk ((by rw [hw]; exact below_set (below_set (below_set (HB.out) GB10.out) GB10.out) GB10.out : Below w.heap.size w w13)); clear HO_3; clear HB; clear HO727; have HO_3 := n0_; have HB := n1_; clear n0_ n1_; clear hg hw hp_))
        go_roundg k1
        case measure => have := HK1.out; omega
        case rel => exact ⟨(y728), (wrap64 (x4_1 + 1)), (by first | rfl | (simp; done) | (simp [*]; done)), H', ⟨by have := HK1.out; omega⟩, ⟨gS HO_3⟩, ⟨gB HB⟩⟩
       ·rw [if_neg c9] at H; exact absurd H (by simp)
      ·rw [if_neg c7] at H; exact absurd H (by simp)
     ·rw [if_neg c6] at H; have c6b0 : decide (x4_1 < (l0.length : Int)) = false := decide_eq_false c6; clear c6; obtain rfl := Option.some.inj H; go_wp2
      go_ret
      exact ⟨_, by first | rfl | (simp [errW_none, errW_some] <;> rfl) | (simp [*, errW_none, errW_some] <;> rfl), gS HO_3, gB HB⟩
  ·rw [if_neg c3] at H; exact absurd H (by simp)
 ·rw [if_neg c2] at H; exact absurd H (by simp)
def laws_toSlot.f (k : Nat) (a0_0 : Int) (l0_1 : List Int) : Option (Int × List Int) := (laws_toIntS.f k l0_1).bind fun t732 => (some (a0_0, t732))
theorem laws_toSlot.mono : ∀ a0 a1 k, LeO (laws_toSlot.f k a0 a1) (laws_toSlot.f (k + 1) a0 a1) := by
 intro a0 a1 k; unfold laws_toSlot.f
 repeat' first
   | (with_reducible exact laws_toIntS.mono _ _)
   | (with_reducible exact LeO.refl _)
   | (with_reducible exact LeO.none _)
   | (with_reducible refine LeO.ite ?_ ?_)
   | (with_reducible refine LeO.bind ?_ (fun _ => ?_))
   | exact laws_toIntS.mono _ _
   | exact LeO.none _
   | refine LeO.ite ?_ ?_
   | refine LeO.bind ?_ (fun _ => ?_)
set_option maxHeartbeats 8000000 in
set_option maxRecDepth 100000 in
theorem laws_toSlot.calls (k : Nat) (a0_0 : Int) (A0_1 : Option Addr) (c0_1 : Nat) (l0_1 : List Int) (r1 : Int) (r2 : List Int) (w : World) (hr0_1 : Kd.C (Kd.int .i64) w A0_1 l0_1.length l0_1) (hc0_1 : l0_1.length ≤ c0_1) (h : laws_toSlot.f k a0_0 l0_1 = some (r1, r2)) :
  Calls Try.prog 116 #[.agg #[.int .i64 a0_0, .slice A0_1 l0_1.length c0_1]] w fun e w' => ∃ v1_ : Value, e = .returned (.agg #[.int .i64 r1, v1_]) ∧ Kd.R (Kd.int .i64) 3 w' w.heap.size (fun _ => True) v1_ r2 ∧ Below w.heap.size w w' := by
 have hu148 := Try.underlying148; have hu138 := Try.underlying138; have HR0_1 := Aside0.mk hr0_1; have HC0_1 := Aside0.mk hc0_1; clear hr0_1 hc0_1; have HB := Aside0.mk (Below.refl w.heap.size w); have H : ((laws_toIntS.f k l0_1).bind fun t732 => (some (a0_0, t732))) = some (r1, r2) := h; clear h; replace H := Option.bind_eq_some_iff.mp H; obtain ⟨t732, A20, H⟩ := H; replace H : (some (a0_0, t732)) = some (r1, r2) := H; have A2 := Aside0.mk A20; clear A20; simp only [Option.some.injEq, Prod.mk.injEq] at H; obtain ⟨rfl, rfl⟩ := H
 go_enter Try.func116, Try.ntmps116
 go_wp2_with (first | ((with_reducible refine gate_dst (N := 1) rfl ?_); refine box_event ?hg (N := 1) ?hd (cs := #[.int .i64 a0_0, .slice A0_1 l0_1.length c0_1]) (t := 148) ?hr ?_; (case hd => rfl); (case hg => rfl); (case hr => first | (go_simp; done) | (go_simp; rfl)); intro gb729 hg w3 hbox hb; have BK729 := Aside0.mk (hbox); have GW729 := Aside0.mk ((by rw [hg]; exact (below_size (gB HB)) : w.heap.size ≤ gb729)); have GE729 := Aside0.mk ((by rw [hg]; exact (below_size (gB HB)) : w.heap.size ≤ gb729)); replace HB := Aside0.mk (below_step (gB HB) hb); clear hb hbox hg) | ((with_reducible refine gate_dst (N := 2) rfl ?_); refine box_event ?hg (N := 2) ?hd (cs := #[.int .i64 0, .slice none 0 0]) (t := 138) ?hr ?_; (case hd => rfl); (case hg => rfl); (case hr => first | (go_simp; done) | (go_simp; rfl)); intro gb730 hg w4 hbox hb; have BK730 := Aside0.mk (hbox); have GW730 := Aside0.mk ((by rw [hg]; exact (below_size (gT1 GE729.out HB)) : w.heap.size ≤ gb730)); have GE730 := Aside0.mk ((by rw [hg]; exact (below_size (gT1 GE729.out HB)) : w.heap.size ≤ gb730)); replace HB := Aside0.mk (below_step (gT1 GE729.out HB) hb); have NB729_730 := Aside0.mk ((by rw [hg]; exact Nat.ne_of_lt (blk_lt (g := gb729) (gK BK729)) : gb729 ≠ gb730)); have NB730_729 := Aside0.mk ((by rw [hg]; exact Nat.ne_of_gt (blk_lt (g := gb729) (gK BK729)) : gb730 ≠ gb729)); replace BK729 := Aside0.mk (blk_below (g := gb729) (gK BK729) hb); clear hb hbox hg) | ((with_reducible refine gate_dst (N := 3) rfl ?_); refine box_event ?hg (N := 3) ?hd (cs := #[.int .i64 0, .slice none 0 0]) (t := 138) ?hr ?_; (case hd => rfl); (case hg => rfl); (case hr => first | (go_simp; done) | (go_simp; rfl)); intro gb731 hg w5 hbox hb; have BK731 := Aside0.mk (hbox); have GW731 := Aside0.mk ((by rw [hg]; exact (below_size (gT2 GE729.out GE730.out HB)) : w.heap.size ≤ gb731)); have GE731 := Aside0.mk ((by rw [hg]; exact (below_size (gT2 GE729.out GE730.out HB)) : w.heap.size ≤ gb731)); replace HB := Aside0.mk (below_step (gT2 GE729.out GE730.out HB) hb); have NB729_731 := Aside0.mk ((by rw [hg]; exact Nat.ne_of_lt (blk_lt (g := gb729) (gK BK729)) : gb729 ≠ gb731)); have NB731_729 := Aside0.mk ((by rw [hg]; exact Nat.ne_of_gt (blk_lt (g := gb729) (gK BK729)) : gb731 ≠ gb729)); replace BK729 := Aside0.mk (blk_below (g := gb729) (gK BK729) hb); have NB730_731 := Aside0.mk ((by rw [hg]; exact Nat.ne_of_lt (blk_lt (g := gb730) (gK BK730)) : gb730 ≠ gb731)); have NB731_730 := Aside0.mk ((by rw [hg]; exact Nat.ne_of_gt (blk_lt (g := gb730) (gK BK730)) : gb731 ≠ gb730)); replace BK730 := Aside0.mk (blk_below (g := gb730) (gK BK730) hb); clear hb hbox hg; have hnb6 := NB729_730.out; have hnc6 := NB730_729.out; have hnb7 := NB729_731.out; have hnc7 := NB731_729.out; have hcz8_0 : w5.cell? ⟨gb729, 0, none⟩ = some (.int .i64 a0_0) := (blk_cell BK729.out 0).trans rfl; have hcz8_1 : w5.cell? ⟨gb729, 1, none⟩ = some (.slice A0_1 l0_1.length c0_1) := (blk_cell BK729.out 1).trans rfl; have hfz8_0 := blk_frozen BK729.out 0; have hfz8_1 := blk_frozen BK729.out 1; have hnb9 := NB731_730.out; have hnc9 := NB730_731.out; have hcz10_0 : w5.cell? ⟨gb731, 0, none⟩ = some (.int .i64 0) := (blk_cell BK731.out 0).trans rfl; have hcz10_1 : w5.cell? ⟨gb731, 1, none⟩ = some (.slice none 0 0) := (blk_cell BK731.out 1).trans rfl; have hfz10_0 := blk_frozen BK731.out 0; have hfz10_1 := blk_frozen BK731.out 1) | ((with_reducible refine gate_callee (f := 77) rfl ?_); refine goesL_ (some 9) rfl rfl Try.func77 (by kernel_rfl) rfl #[.slice A0_1 l0_1.length c0_1] rfl (by (try simp only [List.map_toArray, List.map_cons, List.map_nil]); first | done | rfl) ?_; (with_reducible refine (laws_toIntS.calls k _ _ l0_1 t732 _ ?side1 ?side2 A2.out).mono ?_); (case side1 => exact Kd.C_below HR0_1.out (gT3 GE729.out GE730.out GE731.out HB)); (case side2 => exact HC0_1.out); rintro e w11 ⟨v733, rfl, ho0, hb⟩; refine ⟨_, rfl, ?_⟩; have HO734 := Aside0.mk (Kd.R_lower ho0 (below_size (gT3 GE729.out GE730.out GE731.out HB))); replace BK729 := Aside0.mk (blk_below (g := gb729) (o := .cells #[.int .i64 a0_0, .slice A0_1 l0_1.length c0_1] 148 (0, 0)) (by (with_reducible repeat (first | refine blk_drewN ?_ _ | refine blk_drew ?_ | refine blk_alloc ?_ _)); refine blk_far ?_ NB729_731.out _; (with_reducible repeat (first | refine blk_drewN ?_ _ | refine blk_drew ?_ | refine blk_alloc ?_ _)); exact BK729.out) hb); replace BK730 := Aside0.mk (blk_below (g := gb730) (o := .cells #[.int .i64 0, .slice none 0 0] 138 (0, 0)) (by (with_reducible repeat (first | refine blk_drewN ?_ _ | refine blk_drew ?_ | refine blk_alloc ?_ _)); refine blk_far ?_ NB730_731.out _; (with_reducible repeat (first | refine blk_drewN ?_ _ | refine blk_drew ?_ | refine blk_alloc ?_ _)); exact BK730.out) hb); replace BK731 := Aside0.mk (blk_below (g := gb731) (o := .cells #[.int .i64 a0_0, .slice none 0 0] 138 (0, 0)) (by (with_reducible repeat (first | refine blk_drewN ?_ _ | refine blk_drew ?_ | refine blk_alloc ?_ _)); refine blk_put (cs := #[.int .i64 0, .slice none 0 0]) ?_ 0 _ rfl; (with_reducible repeat (first | refine blk_drewN ?_ _ | refine blk_drew ?_ | refine blk_alloc ?_ _)); exact BK731.out) hb); replace HB := Aside0.mk (below_step (gT3 GE729.out GE730.out GE731.out HB) hb); (try clear hb); (try clear hb2); (try clear hk); (try clear hi); (try clear ho0); obtain ⟨Ao12, co12, eo12⟩ := Kd.R_slice HO734.out; subst eo12; have hcz13_0 : w11.cell? ⟨gb731, 0, none⟩ = some (.int .i64 a0_0) := (blk_cell BK731.out 0).trans rfl; have hcz13_1 : w11.cell? ⟨gb731, 1, none⟩ = some (.slice none 0 0) := (blk_cell BK731.out 1).trans rfl; have hfz13_0 := blk_frozen BK731.out 0; have hfz13_1 := blk_frozen BK731.out 1; have hcz14_0 : w11.cell? ⟨gb730, 0, none⟩ = some (.int .i64 0) := (blk_cell BK730.out 0).trans rfl; have hcz14_1 : w11.cell? ⟨gb730, 1, none⟩ = some (.slice none 0 0) := (blk_cell BK730.out 1).trans rfl; have hfz14_0 := blk_frozen BK730.out 0; have hfz14_1 := blk_frozen BK730.out 1))
 refine bodyPost_ret (results_cell_row rfl _ _ gb730 138 #[.int .i64 a0_0, .slice Ao12 t732.length co12] (0, 0) _ rfl (by (with_reducible repeat (first | refine blk_drewN ?_ _ | refine blk_drew ?_ | refine blk_alloc ?_ _)); refine blk_put (cs := #[.int .i64 a0_0, .slice none 0 0]) ?_ 1 _ rfl; (with_reducible repeat (first | refine blk_drewN ?_ _ | refine blk_drew ?_ | refine blk_alloc ?_ _)); refine blk_put (cs := #[.int .i64 0, .slice none 0 0]) ?_ 0 _ rfl; (with_reducible repeat (first | refine blk_drewN ?_ _ | refine blk_drew ?_ | refine blk_alloc ?_ _)); refine blk_far ?_ NB730_731.out _; (with_reducible repeat (first | refine blk_drewN ?_ _ | refine blk_drew ?_ | refine blk_alloc ?_ _)); exact BK730.out) Try.underlying138 rfl (by kernel_rfl)) rfl ?_
 exact ⟨_, by first | rfl | (simp [errW_none, errW_some] <;> rfl) | (simp [*, errW_none, errW_some] <;> rfl), by (with_reducible repeat (first | apply Kd.R_alloc | apply Kd.R_drewN | apply Kd.R_drew)); exact Kd.R_mono (Kd.R_far (p := ⟨gb730, 1, none⟩) (Kd.R_far (p := ⟨gb730, 0, none⟩) (Kd.R_far (p := ⟨gb731, 1, none⟩) (Kd.R_types (Kd.R_types HO734.out BK731.out (by decide)) BK730.out (by decide)) (fun _ hk => hk.1.2) (.slice Ao12 t732.length co12)) (fun _ hk => hk.2) (.int .i64 a0_0)) (fun _ hk => hk.2) (.slice Ao12 t732.length co12)) (fun _ hk => trivial), gT3 GE729.out GE730.out GE731.out HB⟩
def laws_toSlotS.l0 : Nat → List (S148) → List (S138) → Int → Option ((List (S138)))
 | 0, _, _, _ => none
 | k + 1, x0, x3, x4 => if x4 < (x0.length : Int) then (if 0 ≤ x4 then ((laws_toSlot.f k ((rd_T148 x0 x4).f0) ((rd_T148 x0 x4).f1)).bind fun bt739 => (if x4 < (x3.length : Int) then (laws_toSlotS.l0 k x0 (x3.set (x4 : Int).toNat (⟨bt739.1, bt739.2⟩ : S138)) (wrap64 (x4 + 1))) else (none))) else (none)) else (some x3)
def laws_toSlotS.f (k : Nat) (l0 : List (S148)) : Option ((List (S138))) := if 0 ≤ (l0.length : Int) then (if ((l0.length : Int) : Int).toNat ≤ 8796093022208 then (laws_toSlotS.l0 k l0 (List.replicate ((l0.length : Int) : Int).toNat z138) 0) else (none)) else (none)
theorem laws_toSlotS.mono_l : ∀ k, (∀ y0 y1 y2, LeO (laws_toSlotS.l0 k y0 y1 y2) (laws_toSlotS.l0 (k + 1) y0 y1 y2))
 | 0 => fun _ _ _ r h => by simp [laws_toSlotS.l0] at h
 | k + 1 => by
  have ih0 := laws_toSlotS.mono_l k
  ·intro y0 y1 y2; unfold laws_toSlotS.l0
   repeat' first
   | (with_reducible exact ih0 _ _ _)
   | (with_reducible exact laws_toSlot.mono _ _ _)
   | (with_reducible exact LeO.refl _)
   | (with_reducible exact LeO.none _)
   | (with_reducible refine LeO.ite ?_ ?_)
   | (with_reducible refine LeO.bind ?_ (fun _ => ?_))
   | exact ih0 _ _ _
   | exact laws_toSlot.mono _ _ _
   | exact LeO.none _
   | refine LeO.ite ?_ ?_
   | refine LeO.bind ?_ (fun _ => ?_)
theorem laws_toSlotS.mono : ∀ a0 k, LeO (laws_toSlotS.f k a0) (laws_toSlotS.f (k + 1) a0) := by
 intro a0 k; have ih0 := laws_toSlotS.mono_l k; unfold laws_toSlotS.f
 repeat' first
   | (with_reducible exact ih0 _ _ _)
   | (with_reducible exact laws_toSlot.mono _ _ _)
   | (with_reducible exact LeO.refl _)
   | (with_reducible exact LeO.none _)
   | (with_reducible refine LeO.ite ?_ ?_)
   | (with_reducible refine LeO.bind ?_ (fun _ => ?_))
   | exact ih0 _ _ _
   | exact laws_toSlot.mono _ _ _
   | exact LeO.none _
   | refine LeO.ite ?_ ?_
   | refine LeO.bind ?_ (fun _ => ?_)
set_option maxHeartbeats 8000000 in
set_option maxRecDepth 100000 in
theorem laws_toSlotS.calls (k : Nat) (A0 : Option Addr) (c0 : Nat) (l0 : List (S148)) (r : List (S138)) (w : World) (hr0 : Kd.C k148 w A0 l0.length l0) (hc0 : l0.length ≤ c0) (h : laws_toSlotS.f k l0 = some r) :
  Calls Try.prog 82 #[.slice A0 l0.length c0] w fun e w' => ∃ v0_ : Value, e = .returned (v0_) ∧ Kd.S k138 138 w' w.heap.size (fun _ => True) v0_ r ∧ Below w.heap.size w w' := by
 have hu148 := Try.underlying148; have hu138 := Try.underlying138; have HR0 := Aside0.mk hr0; have HC0 := Aside0.mk hc0; clear hr0 hc0; have HB := Aside0.mk (Below.refl w.heap.size w); have H : (if 0 ≤ (l0.length : Int) then (if ((l0.length : Int) : Int).toNat ≤ 8796093022208 then (laws_toSlotS.l0 k l0 (List.replicate ((l0.length : Int) : Int).toNat z138) 0) else (none)) else (none)) = some r := h; clear h
 by_cases c2 : 0 ≤ (l0.length : Int)
 ·rw [if_pos c2] at H; have c2b0 := eq_true c2; have c2b1 : decide (0 ≤ (l0.length : Int)) = true := decide_eq_true c2; clear c2
  by_cases c3 : ((l0.length : Int) : Int).toNat ≤ 8796093022208
  ·rw [if_pos c3] at H; have c3b0 := eq_true c3; have c3b1 : decide (((l0.length : Int) : Int).toNat ≤ 8796093022208) = true := decide_eq_true c3; clear c3
   obtain ⟨y735, hy735⟩ : ∃ y_ : List (S138), y_ = (List.replicate ((l0.length : Int) : Int).toNat z138) := ⟨_, rfl⟩
   replace H : (laws_toSlotS.l0 k l0 y735 0) = some r := by first | (rw [hy735]; with_reducible exact H) | (have H2_ := (Option.bind_some _ _).symm.trans H; rw [hy735]; with_reducible exact H2_) | (have H2_ := (Option.bind_some _ _).symm.trans H; with_reducible exact H2_) | with_reducible exact H | (rw [hy735]; exact H) | exact H
   have Ny735 := Aside0.mk hy735; clear hy735; have H' := Aside0.mk H; clear H
   go_enter Try.func82, Try.ntmps82
   go_wp2_with (first | ((with_reducible refine gate_dst (N := 7) rfl ?_); refine Kd.S_make k138 _ 138 rfl (N := 7) rfl 39 _ _ rfl (l0.length : Int) rfl rfl Try.underlying39 (.agg #[(.int .i64 0), (.slice none 0 0)]) 32 info138 rfl (by decide) (by omega) z138 (ok := fun _ => True) (okp := fun _ => True) (k138_mkM _ _ _ z138 (Kd.R_nil _ _ _ _ _)) (fun _ hk => hk) trivial (of_decide_eq_true (by first | (with_reducible assumption) | assumption)) (Nat.le_trans (Nat.mul_le_mul_right _ (of_decide_eq_true (by first | (with_reducible assumption) | assumption) : (l0.length : Int).toNat ≤ 8796093022208)) (by omega)) (Below.refl _ _) (Nat.le_refl _) ?_; intro v736 w4 ho5 hb hg_ hnew_; clear hg_ hnew_; (first | rw [← Ny735.out] at ho5 | (simp only [Int.reduceToNat] at ho5; rw [← Ny735.out] at ho5)); have HO737 := Aside0.mk (Kd.S_lower ho5 (below_size (gB HB))); replace HB := Aside0.mk (below_step (gB HB) hb); clear hb ho5))
   go_loopg [4] k (fun kq v4 w' => ∃ (x3_1 : List (S138)) (x4_1 : Int), v4 = .int .i64 x4_1 ∧ Aside0 (laws_toSlotS.l0 kq l0 x3_1 x4_1 = some r) ∧ Aside0 (kq ≤ k) ∧ Aside0 (Kd.S k138 138 w' w.heap.size (fun _ => True) v736 x3_1) ∧ Aside0 (Below w.heap.size w w'))
   case atStart => exact ⟨(y735), (0), (by first | rfl | (simp; done) | (simp [*]; done)), H', ⟨Nat.le_refl _⟩, ⟨gS HO737⟩, ⟨gB HB⟩⟩
   case round =>
    clear H'; try clear c2
    try clear c2b0
    try clear c2b1
    try clear p2
    try clear c3
    try clear c3b0
    try clear c3b1
    obtain ⟨x3_1, x4_1, rfl, HA, HK1, HO_3, HB⟩ := hrel
    cases gk with
    | zero => exact absurd HA.out (by simp [laws_toSlotS.l0])
    | succ k1 =>
     have H := HA.out; clear HA; simp only [laws_toSlotS.l0] at H
     by_cases c6 : x4_1 < (l0.length : Int)
     ·rw [if_pos c6] at H; have c6b0 : decide (x4_1 < (l0.length : Int)) = true := decide_eq_true c6; clear c6
      by_cases c7 : 0 ≤ x4_1
      ·rw [if_pos c7] at H; have c7b0 : decide (0 ≤ x4_1) = true := decide_eq_true c7; clear c7; replace H := Option.bind_eq_some_iff.mp H; obtain ⟨⟨t739, t740⟩, A80, H⟩ := H; replace H : (if x4_1 < (x3_1.length : Int) then (laws_toSlotS.l0 k1 l0 (x3_1.set (x4_1 : Int).toNat (⟨t739, t740⟩ : S138)) (wrap64 (x4_1 + 1))) else (none)) = some r := H; have A8 := Aside0.mk A80; clear A80
       by_cases c9 : x4_1 < (x3_1.length : Int)
       ·rw [if_pos c9] at H; have c9b0 : decide (x4_1 < (x3_1.length : Int)) = true := decide_eq_true c9; clear c9
        obtain ⟨y743, hy743⟩ : ∃ y_ : List (S138), y_ = (x3_1.set (x4_1 : Int).toNat (⟨t739, t740⟩ : S138)) := ⟨_, rfl⟩
        replace H : (laws_toSlotS.l0 k1 l0 y743 (wrap64 (x4_1 + 1))) = some r := by first | (rw [hy743]; with_reducible exact H) | (have H2_ := (Option.bind_some _ _).symm.trans H; rw [hy743]; with_reducible exact H2_) | (have H2_ := (Option.bind_some _ _).symm.trans H; with_reducible exact H2_) | with_reducible exact H | (rw [hy743]; exact H) | exact H
        have Ny743 := Aside0.mk hy743; clear hy743; have H' := Aside0.mk H; clear H; have p738 : 0 ≤ (x4_1 : Int) := of_decide_eq_true (by first | (with_reducible assumption) | assumption); have q738 : x4_1 < (l0.length : Int) := of_decide_eq_true (by first | (with_reducible assumption) | assumption); obtain ⟨ad738, A738_1, c738_1, e738, hx738_0, hx738_1, hl738_1, hi738_1⟩ := at_T148 HR0.out x4_1 p738 q738
        cases e738; replace hx738_0 := (HB.out.cell (World.block_lt_of_cell? w _ hx738_0)).trans hx738_0; replace hx738_1 := (HB.out.cell (World.block_lt_of_cell? w _ hx738_1)).trans hx738_1; have HR738_1 := Aside0.mk hi738_1; have HC738_1 := Aside0.mk hl738_1; clear hi738_1 hl738_1; replace p738 := eq_true p738; replace q738 := eq_true q738
        go_wp2_with (first | ((with_reducible refine gate_callee (f := 116) rfl ?_); refine goesL_ (some 20) rfl rfl Try.func116 (by kernel_rfl) rfl #[.agg #[.int .i64 ((rd_T148 l0 x4_1).f0), .slice A738_1 ((rd_T148 l0 x4_1).f1).length c738_1]] rfl (by (try simp only [List.map_toArray, List.map_cons, List.map_nil]); first | done | rfl) ?_; (with_reducible refine (laws_toSlot.calls k1 ((rd_T148 l0 x4_1).f0) _ _ ((rd_T148 l0 x4_1).f1) t739 t740 _ ?side1 ?side2 A8.out).mono ?_); (case side1 => exact gE HR738_1 HB); (case side2 => exact HC738_1.out); rintro e w11 ⟨v741, rfl, ho0, hb⟩; refine ⟨_, rfl, ?_⟩; replace HO_3 := Aside0.mk (Kd.S_elder' (gS HO_3) (Kd.R_base ho0) hb); have HO742 := Aside0.mk (Kd.R_lower ho0 (below_size (gB HB))); replace HB := Aside0.mk (below_step (gB HB) hb); (try clear hb); (try clear hb2); (try clear hk); (try clear hi); (try clear ho0); have p10 : 0 ≤ (x4_1 : Int) := of_decide_eq_true (by first | (with_reducible assumption) | assumption); have q10 : (x4_1 : Int) < ((x3_1.length : Int) : Int) := of_decide_eq_true (by first | (with_reducible assumption) | assumption); obtain ⟨go10, co10, eo10, gb10, gl10, cl10, HG10⟩ := Kd.S_form HO_3.out (by omega); (first | cases eo10 | (injection eo10 with ea_ en_ ec_; (first | subst ea_ | (injection ea_ with ea_; subst ea_)); subst ec_; clear en_)); have GB10 := Aside0.mk gb10; have GG10 := Aside0.mk HG10; clear gb10 gl10 HG10; obtain ⟨_, ce10, hcl10, hM10, hcc10, hfr10, _, _⟩ := Kd.S_elem HO_3.out z138 (x4_1 : Int) p10 q10; obtain ⟨ve10_1, rfl, ge10_1⟩ := k138_openM hM10; have hx10_0 : w11.cell? ⟨go10, (x4_1 : Int).toNat * 2, none⟩ = some (.int .i64 ((rd_T138 x3_1 x4_1).f0)) := hcc10 0 _ rfl; have hx10_1 : w11.cell? ⟨go10, (x4_1 : Int).toNat * 2 + 1, none⟩ = some (ve10_1) := hcc10 1 _ rfl; have hf10_0 : w11.frozen? ⟨go10, (x4_1 : Int).toNat * 2, none⟩ = false := hfr10 0; have hf10_1 : w11.frozen? ⟨go10, (x4_1 : Int).toNat * 2 + 1, none⟩ = false := hfr10 1; (try clear hcl10); (try clear hcc10); (try clear hfr10); (try clear hM10); replace p10 := eq_true p10; replace q10 := eq_true q10; have n_ := Aside0.mk (Kd.S_mono (ok' := (fun k_ => some k_ ≠ (v741 : Value).ownBlock)) HO_3.out (fun k_ hk => hk.2)); clear HO_3; have HO_3 := n_; clear n_; have HX12 := Aside0.mk (show Kd.S k138 138 w11 w.heap.size (fun k_ => ((fun _ => True)) k_ ∧ ¬ ((fun k_ => some k_ = (v741 : Value).ownBlock)) k_) (.slice (some ⟨go10, 0, none⟩) x3_1.length co10) x3_1 from (by (with_reducible repeat (first | apply Kd.S_alloc | apply Kd.S_drewN | apply Kd.S_drew)); exact Kd.S_mono HO_3.out (fun k_ hk => ⟨trivial, fun e_ => hk e_⟩))); obtain ⟨oki12, ce12, hcl12, hM12, hcc12, hfr12, hoki12, hH12⟩ := Kd.S_elem HX12.out z138 (x4_1 : Int) (of_decide_eq_true (by first | (with_reducible assumption) | assumption)) (by have h_ : (x4_1 : Int) < ((x3_1.length : Int) : Int) := of_decide_eq_true (by first | (with_reducible assumption) | assumption); first | exact h_ | (have e_ := (Kd.S_reads' HO_3.out).1; omega) | simpa using h_); obtain ⟨ve12_1, rfl, ge12_1⟩ := k138_openM hM12; have HP12 := Kd.S_seg hH12 (of_decide_eq_true (by first | (with_reducible assumption) | assumption)) (by have h_ : (x4_1 : Int) < ((x3_1.length : Int) : Int) := of_decide_eq_true (by first | (with_reducible assumption) | assumption); first | exact h_ | (have e_ := (Kd.S_reads' HO_3.out).1; omega) | simpa using h_) (seg := [.int .i64 t739, v741]) (j := 0) (show 2 ≤ 2 from by decide) (x' := (⟨t739, t740⟩ : S138)) (k138_mkM _ _ _ (⟨t739, t740⟩ : S138) (Kd.R_mono (Kd.R_tight rfl (Kd.R_mono (ok' := fun k_ => ((fun _ => True)) k_ ∧ k_ ≠ go10) (Kd.R_apart' (HO742.out) (Kd.S_typed HO_3.out) (by decide)) (fun k_ hk => ⟨trivial, fun e_ => (hk.2) (by rw [e_]; rfl)⟩))) (fun _ h_ => Or.inr (h_)))) (fun _ hk => hk) (fun k_ hk_ => ((Kd.R_mono (ok' := fun k_ => ((fun _ => True)) k_ ∧ k_ ≠ go10) (Kd.R_apart' (HO742.out) (Kd.S_typed HO_3.out) (by decide)) (fun k_ hk => ⟨trivial, fun e_ => (hk.2) (by rw [e_]; rfl)⟩))).1 k_ hk_.symm); have hx12_0 := hcc12 0 _ rfl; (try simp only [show (k138).sz = 2 from rfl, Nat.mul_one, Nat.add_zero] at hx12_0); have hf12_0 := hfr12 0; (try simp only [show (k138).sz = 2 from rfl, Nat.mul_one, Nat.add_zero] at hf12_0); have hx12_1 := hcc12 1 _ rfl; (try simp only [show (k138).sz = 2 from rfl, Nat.mul_one, Nat.add_zero] at hx12_1); have hf12_1 := hfr12 1; (try simp only [show (k138).sz = 2 from rfl, Nat.mul_one, Nat.add_zero] at hf12_1); (try clear hcl12); (try clear hcc12); (try clear hfr12); (try clear hM12); (try clear hoki12); (try clear hH12)) | ((with_reducible refine gate_store (t := 138) (p := 21) rfl ?_); refine store_event (t := 138) (p := 21) (v := ?vo_w13) (w1 := ((w11.setCell ⟨go10, (x4_1 : Int).toNat * 2, none⟩ (.int .i64 t739)).setCell ⟨go10, (x4_1 : Int).toNat * 2 + 1, none⟩ (v741))) ?hg ?ho ?hn ?hr ?_; (case ho => rfl); (case hg => rfl); (case hn => rfl); (case hr => first | (go_simp; done) | (go_simp; rfl) | (obtain ⟨A_, c_, e_⟩ := Kd.R_slice HO742.out; rw [e_]; first | (go_simp; done) | (go_simp; rfl)) | (obtain ⟨A_, c_, e_⟩ := Kd.S_slice HO742.out; rw [e_]; first | (go_simp; done) | (go_simp; rfl))); intro w13 hw; have hg : w11.grownBy w13 (some go10) := (by rw [hw]; exact HP12.2); have hp_ : Kd.S k138 138 w13 w.heap.size (fun _ => True) (.slice (some ⟨go10, 0, none⟩) x3_1.length co10) y743 := (by rw [hw, Ny743.out]; exact HP12.1); clear HP12; have n0_ := Aside0.mk (hp_); have n1_ := Aside0.mk ((by rw [hw]; exact below_set (below_set (HB.out) GB10.out) GB10.out : Below w.heap.size w w13)); clear HO_3; clear HB; clear HO742; have HO_3 := n0_; have HB := n1_; clear n0_ n1_; clear hg hw hp_))
        go_roundg k1
        case measure => have := HK1.out; omega
        case rel => exact ⟨(y743), (wrap64 (x4_1 + 1)), (by first | rfl | (simp; done) | (simp [*]; done)), H', ⟨by have := HK1.out; omega⟩, ⟨gS HO_3⟩, ⟨gB HB⟩⟩
       ·rw [if_neg c9] at H; exact absurd H (by simp)
      ·rw [if_neg c7] at H; exact absurd H (by simp)
     ·rw [if_neg c6] at H; have c6b0 : decide (x4_1 < (l0.length : Int)) = false := decide_eq_false c6; clear c6; obtain rfl := Option.some.inj H; go_wp2
      go_ret
      exact ⟨_, by first | rfl | (simp [errW_none, errW_some] <;> rfl) | (simp [*, errW_none, errW_some] <;> rfl), gS HO_3, gB HB⟩
  ·rw [if_neg c3] at H; exact absurd H (by simp)
 ·rw [if_neg c2] at H; exact absurd H (by simp)
end Go.Proofs.Ytngonhgghncdiaa.P
end
section
namespace Go.Proofs.Ytngonhgghncdiaa.Pure
open Go.RowKit Go.Proofs.Ytngonhgghncdiaa.P Go.Proofs.YtngonhgghncdiaaW.PrintWords Go.Proofs.YtngonhgghncdiaaW.PrintLast Go.Proofs.YtngonhgghncdiaaW.PrintMore Go.Proofs.Ytngonhgghncdiaa.Aid
set_option linter.unusedVariables false
set_option linter.unusedSimpArgs false
theorem l01In_eq (a b c : Int) : spec_l01In.f a b c = some (decide (b ≤ a ∧ a ≤ c)) := in_dec a b c
theorem within_eq (a b c : Int) : impl_within.f a b c = some (decide (b ≤ a ∧ a ≤ c)) := in_dec a b c
def sizeB (n : Int) : Bool := decide (8 ≤ n ∧ n ≤ 32) && decide (n % 8 = 0)
theorem sizeB_bd {n : Int} (h : sizeB n = true) : 8 ≤ n ∧ n ≤ 32 ∧ n % 8 = 0 := by
  simp only [sizeB, Bool.and_eq_true, decide_eq_true_eq] at h
  exact ⟨h.1.1, h.1.2, h.2⟩
theorem l02Frames_eq (n : Int) : spec_l02Frames.f n = some (sizeB n) := by
  unfold spec_l02Frames.f sizeB
  rw [l01In_eq]
  simp only [Option.bind_some]
  by_cases h : 8 ≤ n ∧ n ≤ 32
  · rw [if_pos (by simpa using h), tmod_nonneg (by omega) (by omega), decide_eq_true h]; rfl
  · rw [if_neg (by simpa using h), decide_eq_false h]; rfl
theorem isSize_eq (n : Int) : impl_isSize.f n = some (sizeB n) := by
  unfold impl_isSize.f sizeB
  rw [within_eq]
  simp only [Option.bind_some]
  by_cases h : 8 ≤ n ∧ n ≤ 32
  · rw [if_pos (by simpa using h), tmod_nonneg (by omega) (by omega), decide_eq_true h]; rfl
  · rw [if_neg (by simpa using h), decide_eq_false h]; rfl
theorem szIntS_eq (l : List Int) (hl : l.length ≤ maxLen) (a : Int) (h0 : 0 ≤ a) (h1 : a ≤ 1048576) : laws_szIntS.f l a = some (if (l.length : Int) ≤ a then a - l.length else -1) := by
  unfold maxLen at hl
  unfold laws_szIntS.f
  have e : wrap64 (a - (l.length : Int)) = a - l.length := by unfold wrap64; omega
  rw [e]
  by_cases h : (l.length : Int) ≤ a
  · rw [if_neg (by omega), if_pos h]
  · rw [if_pos (by omega), if_neg h]
theorem toIntS_ev (l : List Int) (hl : l.length ≤ 1048576) : Ev (fun k => laws_toIntS.f k l) l := by
  have key := ev_copy0 (fun k acc i => laws_toIntS.l0 k l acc (i : Int)) l.length (fun i => l.getD i 0) id (by
    intro i acc hi ha r h
    refine Ev.step (fun k => ?_) h
    simp only [laws_toIntS.l0]
    rw [if_pos (by omega), if_pos (by omega), if_pos (by omega), wrap_succ (by omega), toNat_cast]
    rfl) (by
    intro acc ha
    refine Ev.of_succ (fun k => ?_)
    simp only [laws_toIntS.l0]
    rw [if_neg (by omega)]
    rfl) (List.replicate l.length 0) (by simp)
  rw [range_map_getD] at key
  refine Ev.congr (fun k => ?_) key
  unfold laws_toIntS.f
  rw [if_pos (by omega), if_pos (by omega), toNat_cast]
  rfl
theorem eqIntS_refl (l : List Int) (hl : l.length ≤ 1048576) : Ev (fun k => laws_eqIntS.f k l l) true := by
  have key := ev_all0 (fun k i => laws_eqIntS.l0 k l l (i : Int)) l.length (fun _ => true) false true (by
    intro i hi _ r h
    refine Ev.step (fun k => ?_) h
    simp only [laws_eqIntS.l0]
    rw [if_pos (by omega), if_pos (by omega), if_pos (by omega), if_pos trivial, wrap_succ (by omega)]) (by intro i _ h; cases h) (by
    refine Ev.of_succ (fun k => ?_)
    simp only [laws_eqIntS.l0]
    rw [if_neg (by omega)])
  rw [if_pos (by simp)] at key
  refine Ev.congr (fun k => ?_) key
  unfold laws_eqIntS.f
  rw [if_pos rfl]
  rfl
theorem szBoolS_eq (l : List Bool) (hl : l.length ≤ maxLen) (a : Int) (h0 : 0 ≤ a) (h1 : a ≤ 1048576) : laws_szBoolS.f l a = some (if (l.length : Int) ≤ a then a - l.length else -1) := by
  unfold maxLen at hl
  unfold laws_szBoolS.f
  have e : wrap64 (a - (l.length : Int)) = a - l.length := by unfold wrap64; omega
  rw [e]
  by_cases h : (l.length : Int) ≤ a
  · rw [if_neg (by omega), if_pos h]
  · rw [if_pos (by omega), if_neg h]
theorem toBoolS_ev (l : List Bool) (hl : l.length ≤ 1048576) : Ev (fun k => laws_toBoolS.f k l) l := by
  have key := ev_copy0 (fun k acc i => laws_toBoolS.l0 k l acc (i : Int)) l.length (fun i => l.getD i false) id (by
    intro i acc hi ha r h
    refine Ev.step (fun k => ?_) h
    simp only [laws_toBoolS.l0]
    rw [if_pos (by omega), if_pos (by omega), if_pos (by omega), wrap_succ (by omega), toNat_cast]
    rfl) (by
    intro acc ha
    refine Ev.of_succ (fun k => ?_)
    simp only [laws_toBoolS.l0]
    rw [if_neg (by omega)]
    rfl) (List.replicate l.length false) (by simp)
  rw [range_map_getD] at key
  refine Ev.congr (fun k => ?_) key
  unfold laws_toBoolS.f
  rw [if_pos (by omega), if_pos (by omega), toNat_cast]
  rfl
theorem eqBoolS_refl (l : List Bool) (hl : l.length ≤ 1048576) : Ev (fun k => laws_eqBoolS.f k l l) true := by
  have key := ev_all0 (fun k i => laws_eqBoolS.l0 k l l (i : Int)) l.length (fun _ => true) false true (by
    intro i hi _ r h
    refine Ev.step (fun k => ?_) h
    simp only [laws_eqBoolS.l0]
    rw [if_pos (by omega), if_pos (by omega), if_pos (by omega), if_neg (by simp), wrap_succ (by omega)]) (by intro i _ h; cases h) (by
    refine Ev.of_succ (fun k => ?_)
    simp only [laws_eqBoolS.l0]
    rw [if_neg (by omega)])
  rw [if_pos (by simp)] at key
  refine Ev.congr (fun k => ?_) key
  unfold laws_eqBoolS.f
  rw [if_pos rfl]
  rfl
def upInt (a : Int) (n : Nat) : List Int := (List.range n).map (fun j : Nat => a + (j : Int))
theorem upInt_len (a : Int) (n : Nat) : (upInt a n).length = n := by simp [upInt]
theorem upInt_getD (a : Int) (n i : Nat) (h : i < n) : (upInt a n).getD i 0 = a + i := by simp [upInt, List.getD_eq_getElem?_getD, h]
theorem markIntS_ev (l : List Int) (hl : l.length ≤ 1048576) (a : Int) (h0 : 0 ≤ a) (h1 : a ≤ 1000000000) : Ev (fun k => laws_markIntS.f k l a) (a + l.length, upInt a l.length) := by
  have key := ev_copy0 (fun k acc i => laws_markIntS.l0 k acc (a + (i : Int)) (i : Int)) l.length (fun i => a + (i : Int)) (fun acc => (a + (l.length : Int), acc)) (by
    intro i acc hi ha r h
    refine Ev.step (fun k => ?_) h
    simp only [laws_markIntS.l0]
    rw [if_pos (by omega), if_pos (by omega), wrap_succ (by omega), toNat_cast, wrap64_id (n := a + (i : Int) + 1) (by omega) (by omega), show a + (i : Int) + 1 = a + ((i + 1 : Nat) : Int) by omega]) (by
    intro acc ha
    refine Ev.of_succ (fun k => ?_)
    simp only [laws_markIntS.l0]
    rw [if_neg (by omega)]) l rfl
  simp only [show ((0 : Nat) : Int) = 0 from rfl, Int.add_zero] at key
  exact key
theorem heldIntS_ev (n : Nat) (hn : n ≤ 1048576) (a : Int) (h0 : 0 ≤ a) (h1 : a ≤ 1000000000) : Ev (fun k => laws_heldIntS.f k (upInt a n) a) (a + n) := by
  have key := ev_yes (fun k i => laws_heldIntS.l0 k (upInt a n) (a + (i : Int)) (i : Int)) n (fun _ => true) (a + (n : Int)) (by
    intro i hi _ r h
    refine Ev.step (fun k => ?_) h
    simp only [laws_heldIntS.l0]
    rw [upInt_len, if_pos (by omega), if_pos (by omega), if_pos (by unfold rd; rw [toNat_cast, upInt_getD _ _ _ hi]), wrap_succ (by omega), wrap64_id (n := a + (i : Int) + 1) (by omega) (by omega), show a + (i : Int) + 1 = a + ((i + 1 : Nat) : Int) by omega]) (by simp) (by
    refine Ev.of_succ (fun k => ?_)
    simp only [laws_heldIntS.l0]
    rw [upInt_len, if_neg (by omega)])
  simp only [show ((0 : Nat) : Int) = 0 from rfl, Int.add_zero] at key
  exact key
def upBool (a : Int) (n : Nat) : List Bool := (List.range n).map (fun j : Nat => (Int.tmod (a + (j : Int)) 3 == 0))
theorem upBool_len (a : Int) (n : Nat) : (upBool a n).length = n := by simp [upBool]
theorem upBool_getD (a : Int) (n i : Nat) (h : i < n) : (upBool a n).getD i false = (Int.tmod (a + (i : Int)) 3 == 0) := by simp [upBool, List.getD_eq_getElem?_getD, h]
theorem markBoolS_ev (l : List Bool) (hl : l.length ≤ 1048576) (a : Int) (h0 : 0 ≤ a) (h1 : a ≤ 1000000000) : Ev (fun k => laws_markBoolS.f k l a) (a + l.length, upBool a l.length) := by
  have key := ev_copy0 (fun k acc i => laws_markBoolS.l0 k acc (a + (i : Int)) (i : Int)) l.length (fun i => (Int.tmod (a + (i : Int)) 3 == 0)) (fun acc => (a + (l.length : Int), acc)) (by
    intro i acc hi ha r h
    refine Ev.step (fun k => ?_) h
    simp only [laws_markBoolS.l0]
    rw [if_pos (by omega), if_pos (by omega), wrap_succ (by omega), toNat_cast, wrap64_id (n := a + (i : Int) + 1) (by omega) (by omega), show a + (i : Int) + 1 = a + ((i + 1 : Nat) : Int) by omega]) (by
    intro acc ha
    refine Ev.of_succ (fun k => ?_)
    simp only [laws_markBoolS.l0]
    rw [if_neg (by omega)]) l rfl
  simp only [show ((0 : Nat) : Int) = 0 from rfl, Int.add_zero] at key
  exact key
theorem heldBoolS_ev (n : Nat) (hn : n ≤ 1048576) (a : Int) (h0 : 0 ≤ a) (h1 : a ≤ 1000000000) : Ev (fun k => laws_heldBoolS.f k (upBool a n) a) (a + n) := by
  have key := ev_yes (fun k i => laws_heldBoolS.l0 k (upBool a n) (a + (i : Int)) (i : Int)) n (fun _ => true) (a + (n : Int)) (by
    intro i hi _ r h
    refine Ev.step (fun k => ?_) h
    simp only [laws_heldBoolS.l0]
    rw [upBool_len, if_pos (by omega), if_pos (by omega), if_neg (by unfold rdOf; rw [toNat_cast, upBool_getD _ _ _ hi]; simp), wrap_succ (by omega), wrap64_id (n := a + (i : Int) + 1) (by omega) (by omega), show a + (i : Int) + 1 = a + ((i + 1 : Nat) : Int) by omega]) (by simp) (by
    refine Ev.of_succ (fun k => ?_)
    simp only [laws_heldBoolS.l0]
    rw [upBool_len, if_neg (by omega)])
  simp only [show ((0 : Nat) : Int) = 0 from rfl, Int.add_zero] at key
  exact key
theorem rdL (l : List (List Int)) (i : Nat) : rd_L2 l (i : Int) = l.getD i [] := by unfold rd_L2; rw [toNat_cast]
theorem szIntSS_ev (l : List (List Int)) (hl : l.length ≤ maxLen) (hls : ∀ x ∈ l, x.length ≤ maxLen) (a : Int) (h0 : 0 ≤ a) (h1 : a ≤ 1048576) :
    ∃ r, Ev (fun k => laws_szIntSS.f k l a) r ∧ (0 ≤ r → (l.length : Int) + ((l.map List.length).sum : Nat) + r ≤ a) := by
  by_cases hlen : (l.length : Int) ≤ a
  · have key : ∀ (d i : Nat) (b : Int), i + d = l.length → 0 ≤ b → b ≤ 1048576 → ∃ r, Ev (fun k => laws_szIntSS.l0 k l b (i : Int)) r ∧ (0 ≤ r → (((l.drop i).map List.length).sum : Nat) + r ≤ b) := by
      intro d
      induction d with
      | zero =>
        intro i b hi hb hb1
        refine ⟨b, Ev.of_succ (fun k => ?_), fun _ => ?_⟩
        · simp only [laws_szIntSS.l0]
          rw [if_neg (by omega)]
        · rw [List.drop_of_length_le (by omega)]; simp
      | succ d ih =>
        intro i b hi hb hb1
        have hi' : i < l.length := by omega
        have hmem := List.getElem_mem hi'
        have hx : l.getD i [] = l[i] := by simp [List.getD_eq_getElem?_getD, List.getElem?_eq_getElem hi']
        have hd : l.drop i = l[i] :: l.drop (i + 1) := List.drop_eq_getElem_cons hi'
        have hs := szIntS_eq l[i] (hls _ hmem) b hb hb1
        by_cases hle : (l[i].length : Int) ≤ b
        · obtain ⟨r, hr, hr2⟩ := ih (i + 1) (b - l[i].length) (by omega) (by omega) (by omega)
          refine ⟨r, Ev.step (fun k => ?_) hr, fun h => ?_⟩
          · simp only [laws_szIntSS.l0]
            rw [if_pos (by omega), if_pos (by omega), rdL, hx, hs, if_pos hle]
            simp only [Option.bind_some]
            rw [if_neg (by omega), wrap_succ (by simp only [maxLen] at hl; omega)]
          · have := hr2 h
            rw [hd]; simp only [List.map_cons, List.sum_cons]; omega
        · refine ⟨-1, Ev.of_succ (fun k => ?_), fun h => by omega⟩
          simp only [laws_szIntSS.l0]
          rw [if_pos (by omega), if_pos (by omega), rdL, hx, hs, if_neg hle]
          simp only [Option.bind_some]
          rw [if_pos (by omega)]
    obtain ⟨r, hr, hr2⟩ := key l.length 0 (a - l.length) (by omega) (by omega) (by omega)
    refine ⟨r, Ev.congr (fun k => ?_) hr, fun h => by have := hr2 h; simp only [List.drop_zero] at this; omega⟩
    unfold laws_szIntSS.f
    have e : wrap64 (a - (l.length : Int)) = a - l.length := by unfold wrap64; omega
    rw [e, if_neg (by omega)]
    rfl
  · refine ⟨-1, Ev.const (fun k => ?_), fun h => by omega⟩
    unfold maxLen at hl
    unfold laws_szIntSS.f
    have e : wrap64 (a - (l.length : Int)) = a - l.length := by unfold wrap64; omega
    rw [e, if_pos (by omega)]
theorem le_sum {l : List Nat} {x : Nat} (h : x ∈ l) : x ≤ l.sum := by
  induction l with
  | nil => cases h
  | cons y l ih =>
    rcases List.mem_cons.1 h with rfl | h
    · simp
    · have := ih h; simp; omega
def Small (l : List (List Int)) : Prop := l.length ≤ 1048576 ∧ ∀ x ∈ l, x.length ≤ 1048576
theorem Small.of_sum {l : List (List Int)} (h : (l.length : Int) + ((l.map List.length).sum : Nat) ≤ 1048576) : Small l :=
  ⟨by omega, fun x hx => by have := le_sum (List.mem_map_of_mem (f := List.length) hx); omega⟩
theorem Small.at_ {l : List (List Int)} (h : Small l) (i : Nat) : (l.getD i []).length ≤ 1048576 := by
  by_cases hi : i < l.length
  · rw [List.getD_eq_getElem?_getD, List.getElem?_eq_getElem hi]; exact h.2 _ (List.getElem_mem hi)
  · rw [List.getD_eq_getElem?_getD, List.getElem?_eq_none (by omega)]; simp
theorem toIntSS_ev (l : List (List Int)) (hl : Small l) : Ev (fun k => laws_toIntSS.f k l) l := by
  have h1 := hl.1
  have key := ev_copy0 (fun k acc i => laws_toIntSS.l0 k l acc (i : Int)) l.length (fun i => l.getD i []) id (by
    intro i acc hi ha r h
    refine Ev.step (f := fun k => (laws_toIntS.f k (l.getD i [])).bind fun t => laws_toIntSS.l0 k l (acc.set i t) ((i + 1 : Nat) : Int)) (fun k => ?_) (Ev.bind (toIntS_ev _ (hl.at_ i)) h)
    simp only [laws_toIntSS.l0]
    rw [if_pos (by omega), if_pos (by omega), rdL, wrap_succ (by omega), toNat_cast]
    congr 1
    funext t
    rw [if_pos (by omega)]) (by
    intro acc ha
    refine Ev.of_succ (fun k => ?_)
    simp only [laws_toIntSS.l0]
    rw [if_neg (by omega)]
    rfl) (List.replicate l.length []) (by simp)
  rw [range_map_getD] at key
  refine Ev.congr (fun k => ?_) key
  unfold laws_toIntSS.f
  rw [if_pos (by omega), if_pos (by omega), toNat_cast]
  rfl
theorem eqIntSS_refl (l : List (List Int)) (hl : Small l) : Ev (fun k => laws_eqIntSS.f k l l) true := by
  have h1 := hl.1
  have key := ev_all0 (fun k i => laws_eqIntSS.l0 k l l (i : Int)) l.length (fun _ => true) false true (by
    intro i hi _ r h
    refine Ev.step (f := fun k => (laws_eqIntS.f k (l.getD i []) (l.getD i [])).bind fun t => if t = true then laws_eqIntSS.l0 k l l ((i + 1 : Nat) : Int) else some false) (fun k => ?_) (Ev.bind (eqIntS_refl _ (hl.at_ i)) (by simpa using h))
    simp only [laws_eqIntSS.l0]
    rw [if_pos (by omega), if_pos (by omega), if_pos (by omega), rdL, wrap_succ (by omega)]) (by intro i _ h; cases h) (by
    refine Ev.of_succ (fun k => ?_)
    simp only [laws_eqIntSS.l0]
    rw [if_neg (by omega)])
  rw [if_pos (by simp)] at key
  refine Ev.congr (fun k => ?_) key
  unfold laws_eqIntSS.f
  rw [if_pos rfl]
  rfl
def markSS : Int → List (List Int) → List (List Int)
  | _, [] => []
  | a, x :: xs => upInt a x.length :: markSS (a + x.length) xs
def totSS (l : List (List Int)) : Nat := (l.map List.length).sum
theorem totSS_cons (x : List Int) (l : List (List Int)) : totSS (x :: l) = x.length + totSS l := by simp [totSS]
theorem markSS_len (a : Int) (l : List (List Int)) : (markSS a l).length = l.length := by
  induction l generalizing a with
  | nil => rfl
  | cons x l ih => simp [markSS, ih]
theorem getD_mid {α : Type} (pre : List α) (x : α) (rest : List α) (d : α) : (pre ++ x :: rest).getD pre.length d = x := by
  simp [List.getD_eq_getElem?_getD]
theorem set_mid {α : Type} (pre : List α) (x y : α) (rest : List α) : (pre ++ x :: rest).set pre.length y = (pre ++ [y]) ++ rest := by
  rw [List.set_append_right _ _ (Nat.le_refl _)]
  simp
theorem markSS_loop : ∀ (rest pre : List (List Int)) (b : Int), (∀ x ∈ rest, x.length ≤ 1048576) → pre.length + rest.length ≤ 1048576 → 0 ≤ b → b + totSS rest ≤ 1000000000 →
    Ev (fun k => laws_markIntSS.l0 k (pre ++ rest) b (pre.length : Int)) (b + totSS rest, pre ++ markSS b rest) := by
  intro rest
  induction rest with
  | nil =>
    intro pre b _ hl h0 h1
    refine Ev.of_succ (fun k => ?_)
    simp only [laws_markIntSS.l0]
    rw [if_neg (by simp)]
    simp [totSS, markSS]
  | cons x rest ih =>
    intro pre b hx hl h0 h1
    rw [totSS_cons] at h1 ⊢
    simp only [List.length_cons] at hl
    have hxl := hx x List.mem_cons_self
    have hm := markIntS_ev x hxl b h0 (by omega)
    have hi := ih (pre ++ [upInt b x.length]) (b + x.length) (fun y hy => hx y (List.mem_cons_of_mem _ hy)) (by simp only [List.length_append, List.length_cons, List.length_nil]; omega) (by omega) (by omega)
    rw [show b + (x.length : Int) + (totSS rest : Nat) = b + ((x.length + totSS rest : Nat) : Int) by omega] at hi
    rw [show pre ++ markSS b (x :: rest) = (pre ++ [upInt b x.length]) ++ markSS (b + x.length) rest by simp [markSS]]
    refine Ev.step (f := fun k => (laws_markIntS.f k x b).bind fun t => laws_markIntSS.l0 k ((pre ++ [t.2]) ++ rest) t.1 ((pre.length + 1 : Nat) : Int)) (fun k => ?_) (Ev.bind hm ?_)
    · simp only [laws_markIntSS.l0]
      rw [if_pos (by simp only [List.length_append, List.length_cons]; omega), if_pos (by omega), toNat_cast, getD_mid, wrap_succ (by omega)]
      simp only [set_mid]
    · simp only [List.length_append, List.length_cons, List.length_nil] at hi
      exact hi
theorem markIntSS_ev (l : List (List Int)) (hl : Small l) (a : Int) (h0 : 0 ≤ a) (h1 : a + totSS l ≤ 1000000000) : Ev (fun k => laws_markIntSS.f k l a) (a + totSS l, markSS a l) := by
  have := markSS_loop l [] a hl.2 (by simpa using hl.1) h0 h1
  exact this
theorem heldSS_loop : ∀ (rest pre : List (List Int)) (b : Int), (∀ x ∈ rest, x.length ≤ 1048576) → pre.length + rest.length ≤ 1048576 → 0 ≤ b → b + totSS rest ≤ 1000000000 →
    Ev (fun k => laws_heldIntSS.l0 k (pre ++ markSS b rest) b (pre.length : Int)) (b + totSS rest) := by
  intro rest
  induction rest with
  | nil =>
    intro pre b _ hl h0 h1
    refine Ev.of_succ (fun k => ?_)
    simp only [laws_heldIntSS.l0]
    rw [if_neg (by simp [markSS])]
    simp [totSS]
  | cons x rest ih =>
    intro pre b hx hl h0 h1
    rw [totSS_cons] at h1 ⊢
    simp only [List.length_cons] at hl
    have hxl := hx x List.mem_cons_self
    have hm := heldIntS_ev x.length hxl b h0 (by omega)
    have hi := ih (pre ++ [upInt b x.length]) (b + x.length) (fun y hy => hx y (List.mem_cons_of_mem _ hy)) (by simp only [List.length_append, List.length_cons, List.length_nil]; omega) (by omega) (by omega)
    rw [show b + (x.length : Int) + (totSS rest : Nat) = b + ((x.length + totSS rest : Nat) : Int) by omega] at hi
    have hml := markSS_len (b + x.length) rest
    refine Ev.step (f := fun k => (laws_heldIntS.f k (upInt b x.length) b).bind fun t307 => (if t307 < 0 then (some (-1)) else (laws_heldIntSS.l0 k (pre ++ markSS b (x :: rest)) t307 ((pre.length + 1 : Nat) : Int)))) (fun k => ?_) (Ev.bind hm ?_)
    · simp only [laws_heldIntSS.l0]
      rw [if_pos (by simp only [List.length_append, markSS, List.length_cons]; omega), if_pos (by omega), rdL, wrap_succ (by omega)]
      simp only [markSS, getD_mid]
    · simp only [if_neg (show ¬ b + (x.length : Int) < 0 by omega)]
      rw [show pre ++ markSS b (x :: rest) = (pre ++ [upInt b x.length]) ++ markSS (b + x.length) rest by simp [markSS]]
      simp only [List.length_append, List.length_cons, List.length_nil] at hi
      exact hi
theorem heldIntSS_ev (l : List (List Int)) (hl : Small l) (a : Int) (h0 : 0 ≤ a) (h1 : a + totSS l ≤ 1000000000) : Ev (fun k => laws_heldIntSS.f k (markSS a l) a) (a + totSS l) := by
  have := heldSS_loop l [] a hl.2 (by simpa using hl.1) h0 h1
  exact this
theorem map_getD {α β : Type} (f : α → β) (l : List α) (d : α) : (List.range l.length).map (fun i => f (l.getD i d)) = l.map f := by
  rw [show (fun i => f (l.getD i d)) = f ∘ (fun i => l.getD i d) from rfl, ← List.map_map, range_map_getD]
abbrev RunW := S124
abbrev RunL := S151
def toRun (r : RunL) : RunW := ⟨r.f0, r.f1⟩
theorem rdRL (l : List RunL) (i : Nat) : rd_T151 l (i : Int) = l.getD i z151 := by unfold rd_T151; rw [toNat_cast]
theorem rdRW (l : List RunW) (i : Nat) : rd_T124 l (i : Int) = l.getD i z124 := by unfold rd_T124; rw [toNat_cast]
theorem szRunS_eq (l : List RunL) (hl : l.length ≤ maxLen) : laws_szRunS.f l 1048576 = some (if (l.length : Int) ≤ 1048576 then (1048576 - (l.length : Int) : Int) else (-1 : Int)) := by
  unfold maxLen at hl
  unfold laws_szRunS.f
  have e : wrap64 (1048576 - (l.length : Int)) = 1048576 - l.length := by unfold wrap64; omega
  rw [e]
  by_cases h : (l.length : Int) ≤ 1048576
  · rw [if_neg (by omega), if_pos h]
  · rw [if_pos (by omega), if_neg h]
theorem toRunS_ev (l : List RunL) (hl : l.length ≤ 1048576) : Ev (fun k => laws_toRunS.f k l) (l.map toRun) := by
  have key := ev_copy0 (fun k acc i => laws_toRunS.l0 k l acc (i : Int)) l.length (fun i => toRun (l.getD i z151)) id (by
    intro i acc hi ha r h
    refine Ev.step (fun k => ?_) h
    simp only [laws_toRunS.l0]
    rw [if_pos (by omega), if_pos (by omega), rdRL]
    unfold laws_toRun.f
    simp only [Option.bind_some]
    rw [if_pos (by omega), wrap_succ (by omega), toNat_cast]
    rfl) (by
    intro acc ha
    refine Ev.of_succ (fun k => ?_)
    simp only [laws_toRunS.l0]
    rw [if_neg (by omega)]
    rfl) (List.replicate l.length z124) (by simp)
  rw [map_getD toRun l z151] at key
  refine Ev.congr (fun k => ?_) key
  unfold laws_toRunS.f
  rw [if_pos (by omega), if_pos (by omega), toNat_cast]
  rfl
theorem eqRunS_refl (l : List RunW) (hl : l.length ≤ 1048576) : Ev (fun k => laws_eqRunS.f k l l) true := by
  have key := ev_all0 (fun k i => laws_eqRunS.l0 k l l (i : Int)) l.length (fun _ => true) false true (by
    intro i hi _ r h
    refine Ev.step (fun k => ?_) h
    simp only [laws_eqRunS.l0]
    rw [if_pos (by omega), if_pos (by omega), if_pos (by omega)]
    unfold laws_eqRun.f
    simp only [if_true, Option.bind_some]
    rw [wrap_succ (by omega)]) (by intro i _ h; cases h) (by
    refine Ev.of_succ (fun k => ?_)
    simp only [laws_eqRunS.l0]
    rw [if_neg (by omega)])
  rw [if_pos (by simp)] at key
  refine Ev.congr (fun k => ?_) key
  unfold laws_eqRunS.f
  rw [if_pos rfl]
  rfl
theorem markRunS_ev (l : List RunW) (hl : l.length ≤ 1048576) (a : Int) (h0 : 0 ≤ a) (h1 : a ≤ 1000000000) : Ev (fun k => laws_markRunS.f k l a) (a + 2 * l.length, (List.range l.length).map (fun j : Nat => (⟨a + 2 * (j : Int), a + 2 * (j : Int) + 1⟩ : RunW))) := by
  have key := ev_copy0 (fun k acc i => laws_markRunS.l0 k acc (a + 2 * (i : Int)) (i : Int)) l.length (fun i => (⟨a + 2 * (i : Int), a + 2 * (i : Int) + 1⟩ : RunW)) (fun acc => (a + 2 * (l.length : Int), acc)) (by
    intro i acc hi ha r h
    refine Ev.step (fun k => ?_) h
    simp only [laws_markRunS.l0]
    rw [if_pos (by omega), if_pos (by omega)]
    simp only [Option.bind_some]
    rw [wrap_succ (by omega), toNat_cast, wrap64_id (n := a + 2 * (i : Int) + 1) (by omega) (by omega), wrap64_id (n := a + 2 * (i : Int) + 1 + 1) (by omega) (by omega), show a + 2 * (i : Int) + 1 + 1 = a + 2 * ((i + 1 : Nat) : Int) by omega, List.set_set]
    rw [rdRW]
    rw [show ((acc.set i (⟨a + 2 * (i : Int), (rd_T124 acc (i : Int)).f1⟩ : RunW)).getD i z124).f0 = a + 2 * (i : Int) by simp [List.getD_eq_getElem?_getD, show i < acc.length by omega]]) (by
    intro acc ha
    refine Ev.of_succ (fun k => ?_)
    simp only [laws_markRunS.l0]
    rw [if_neg (by omega)]) l rfl
  simp only [show ((0 : Nat) : Int) = 0 from rfl, Int.mul_zero, Int.add_zero] at key
  exact key
def upRun (a : Int) (n : Nat) : List RunW := (List.range n).map (fun j : Nat => (⟨a + 2 * (j : Int), a + 2 * (j : Int) + 1⟩ : RunW))
theorem upRun_len (a : Int) (n : Nat) : (upRun a n).length = n := by simp [upRun]
theorem upRun_getD (a : Int) (n i : Nat) (d : RunW) (h : i < n) : (upRun a n).getD i d = ⟨a + 2 * (i : Int), a + 2 * (i : Int) + 1⟩ := by simp [upRun, List.getD_eq_getElem?_getD, h]
theorem heldRunS_ev (n : Nat) (hn : n ≤ 1048576) (a : Int) (h0 : 0 ≤ a) (h1 : a ≤ 1000000000) : Ev (fun k => laws_heldRunS.f k (upRun a n) a) (a + 2 * n) := by
  have key := ev_yes (fun k i => laws_heldRunS.l0 k (upRun a n) (a + 2 * (i : Int)) (i : Int)) n (fun _ => true) (a + 2 * (n : Int)) (by
    intro i hi _ r h
    refine Ev.step (fun k => ?_) h
    simp only [laws_heldRunS.l0]
    rw [upRun_len, if_pos (by omega), if_pos (by omega), rdRW, upRun_getD _ _ _ _ hi, if_pos rfl, wrap_succ (by omega), wrap64_id (n := a + 2 * (i : Int) + 1) (by omega) (by omega), if_pos rfl, wrap64_id (n := a + 2 * (i : Int) + 1 + 1) (by omega) (by omega), show a + 2 * (i : Int) + 1 + 1 = a + 2 * ((i + 1 : Nat) : Int) by omega]) (by simp) (by
    refine Ev.of_succ (fun k => ?_)
    simp only [laws_heldRunS.l0]
    rw [upRun_len, if_neg (by omega)])
  simp only [show ((0 : Nat) : Int) = 0 from rfl, Int.mul_zero, Int.add_zero] at key
  exact key
abbrev SlabW := S131
abbrev zbw : SlabW := z131
theorem rdBW (l : List SlabW) (i : Nat) : rd_T131 l (i : Int) = l.getD i zbw := by unfold rd_T131; rw [toNat_cast]
theorem mem_getD_b {α : Type} {l : List α} {i : Nat} (h : i < l.length) (d : α) : l.getD i d ∈ l := by
  rw [List.getD_eq_getElem?_getD, List.getElem?_eq_getElem h]; exact List.getElem_mem h
def SmallSw (l : List SlabW) : Prop := l.length ≤ 1048576 ∧ ∀ x ∈ l, x.f2.length ≤ 1048576
theorem SmallSw.at_ {l : List SlabW} (h : SmallSw l) (i : Nat) : (l.getD i zbw).f2.length ≤ 1048576 := by
  by_cases hi : i < l.length
  · exact h.2 _ (mem_getD_b hi _)
  · rw [List.getD_eq_getElem?_getD, List.getElem?_eq_none (by omega)]; decide
abbrev SlabL := S142
abbrev zbl : SlabL := z142
def toSlab (r : SlabL) : SlabW := ⟨r.f0, r.f1, r.f2⟩
theorem rdBL (l : List SlabL) (i : Nat) : rd_T142 l (i : Int) = l.getD i zbl := by unfold rd_T142; rw [toNat_cast]
theorem szSlab_eq (s : SlabL) (hl : s.f2.length ≤ maxLen) (a : Int) (h0 : 0 ≤ a) (h1 : a ≤ 1048576) : laws_szSlab.f s.f0 s.f1 s.f2 a = some (if (s.f2.length : Int) ≤ a then (a - (s.f2.length : Int) : Int) else (-1 : Int)) := by
  unfold laws_szSlab.f
  rw [szBoolS_eq _ hl a h0 h1]
  simp only [Option.bind_some]
  by_cases h : (s.f2.length : Int) ≤ a
  · rw [if_pos h, if_neg (by omega)]
  · rw [if_neg h, if_pos (by omega)]
def SmallSl (l : List SlabL) : Prop := l.length ≤ 1048576 ∧ ∀ x ∈ l, x.f2.length ≤ 1048576
theorem szSlabS_ev (l : List SlabL) (hl : l.length ≤ maxLen) (hls : ∀ x ∈ l, x.f2.length ≤ maxLen) :
    ∃ r, Ev (fun k => laws_szSlabS.f k l 1048576) r ∧ (0 ≤ r → SmallSl l ∧ (l.length : Int) + ((l.map (fun s => s.f2.length)).sum : Nat) ≤ 1048576) := by
  by_cases hlen : (l.length : Int) ≤ 1048576
  · obtain ⟨r, hr, hq⟩ := ev_sz (fun k b i => laws_szSlabS.l0 k l b (i : Int)) l.length (fun i => (l.getD i zbl).f2.length) (by
      intro i b hi h0 h1 hs r h
      refine Ev.step (fun k => ?_) h
      simp only [laws_szSlabS.l0]
      rw [if_pos (by omega), if_pos (by omega), rdBL, szSlab_eq _ (hls _ (mem_getD_b hi _)) b h0 h1, if_pos hs]
      simp only [Option.bind_some]
      rw [if_neg (by omega), wrap_succ (by simp only [maxLen] at hl; omega)]) (by
      intro i b hi h0 h1 hs
      refine Ev.of_succ (fun k => ?_)
      simp only [laws_szSlabS.l0]
      rw [if_pos (by omega), if_pos (by omega), rdBL, szSlab_eq _ (hls _ (mem_getD_b hi _)) b h0 h1, if_neg hs]
      simp only [Option.bind_some]
      rw [if_pos (by omega)]) (by
      intro b
      refine Ev.of_succ (fun k => ?_)
      simp only [laws_szSlabS.l0]
      rw [if_neg (by omega)]) (1048576 - (l.length : Int)) (by omega) (by omega)
    refine ⟨r, Ev.congr (fun k => ?_) hr, fun h => ?_⟩
    · unfold laws_szSlabS.f
      rw [sub_len (by omega) (by omega) hl, if_neg (by omega)]
      rfl
    · have := hq h
      refine ⟨⟨by omega, fun x hx => ?_⟩, ?_⟩
      · obtain ⟨i, hi, rfl⟩ := List.getElem_of_mem hx
        have h5 := sum_ge (fun i => (l.getD i zbl).f2.length) hi
        simp only [List.getD_eq_getElem?_getD, List.getElem?_eq_getElem hi, Option.getD_some] at h5
        simp only [List.getD_eq_getElem?_getD] at this
        omega
      · rw [map_getD (fun s : SlabL => s.f2.length) l zbl] at this
        omega
  · refine ⟨-1, Ev.const (fun k => ?_), fun h => by omega⟩
    unfold laws_szSlabS.f
    rw [sub_len (by omega) (by omega) hl, if_pos (by omega)]
theorem SmallSl.at_ {l : List SlabL} (h : SmallSl l) (i : Nat) : (l.getD i zbl).f2.length ≤ 1048576 := by
  by_cases hi : i < l.length
  · exact h.2 _ (mem_getD_b hi _)
  · rw [List.getD_eq_getElem?_getD, List.getElem?_eq_none (by omega)]; decide
theorem toSlabS_ev (l : List SlabL) (hl : SmallSl l) : Ev (fun k => laws_toSlabS.f k l) (l.map toSlab) := by
  have h1 := hl.1
  have key := ev_copy0 (fun k acc i => laws_toSlabS.l0 k l acc (i : Int)) l.length (fun i => toSlab (l.getD i zbl)) id (by
    intro i acc hi ha r h
    refine Ev.step (f := fun k => (laws_toBoolS.f k (l.getD i zbl).f2).bind fun t => laws_toSlabS.l0 k l (acc.set i (⟨(l.getD i zbl).f0, (l.getD i zbl).f1, t⟩ : SlabW)) ((i + 1 : Nat) : Int)) (fun k => ?_) (Ev.bind (toBoolS_ev _ (hl.at_ i)) h)
    simp only [laws_toSlabS.l0]
    rw [if_pos (by omega), if_pos (by omega), rdBL]
    unfold laws_toSlab.f
    rw [Option.bind_assoc]
    congr 1
    funext t
    simp only [Option.bind_some]
    rw [if_pos (by omega), wrap_succ (by omega), toNat_cast]) (by
    intro acc ha
    refine Ev.of_succ (fun k => ?_)
    simp only [laws_toSlabS.l0]
    rw [if_neg (by omega)]
    rfl) (List.replicate l.length zbw) (by simp)
  rw [map_getD toSlab l zbl] at key
  refine Ev.congr (fun k => ?_) key
  unfold laws_toSlabS.f
  rw [if_pos (by omega), if_pos (by omega), toNat_cast]
  rfl
theorem SmallSl.toW {l : List SlabL} (h : SmallSl l) : SmallSw (l.map toSlab) := by
  refine ⟨by simpa using h.1, fun x hx => ?_⟩
  obtain ⟨y, hy, rfl⟩ := List.mem_map.1 hx
  exact h.2 y hy
theorem eqSlabS_refl (l : List SlabW) (hl : SmallSw l) : Ev (fun k => laws_eqSlabS.f k l l) true := by
  have h1 := hl.1
  have key := ev_all0 (fun k i => laws_eqSlabS.l0 k l l (i : Int)) l.length (fun _ => true) false true (by
    intro i hi _ r h
    refine Ev.step (f := fun k => (laws_eqBoolS.f k (l.getD i zbw).f2 (l.getD i zbw).f2).bind fun t => (if t = true then (some true) else (some false)).bind fun t => if t = true then laws_eqSlabS.l0 k l l ((i + 1 : Nat) : Int) else some false) (fun k => ?_) (Ev.bind (eqBoolS_refl _ (hl.at_ i)) (by simp only [if_true, Option.bind_some]; exact h))
    simp only [laws_eqSlabS.l0]
    rw [if_pos (by omega), if_pos (by omega), if_pos (by omega), rdBW]
    unfold laws_eqSlab.f
    rw [if_pos rfl, if_pos rfl, Option.bind_assoc, wrap_succ (by omega)]) (by intro i _ h; cases h) (by
    refine Ev.of_succ (fun k => ?_)
    simp only [laws_eqSlabS.l0]
    rw [if_neg (by omega)])
  rw [if_pos (by simp)] at key
  refine Ev.congr (fun k => ?_) key
  unfold laws_eqSlabS.f
  rw [if_pos rfl]
  rfl
def totSb (l : List SlabW) : Nat := (l.map (fun s : SlabW => s.f2.length + 2)).sum
theorem totSb_cons (x : SlabW) (l : List SlabW) : totSb (x :: l) = x.f2.length + 2 + totSb l := by simp [totSb]
def markSb : Int → List SlabW → List SlabW
  | _, [] => []
  | a, x :: xs => ⟨a, a + 1, upBool (a + 2) x.f2.length⟩ :: markSb (a + 2 + x.f2.length) xs
theorem markSb_len (a : Int) (l : List SlabW) : (markSb a l).length = l.length := by
  induction l generalizing a with
  | nil => rfl
  | cons x l ih => simp [markSb, ih]
theorem markSb_loop : ∀ (rest pre : List SlabW) (b : Int), (∀ x ∈ rest, x.f2.length ≤ 1048576) → pre.length + rest.length ≤ 1048576 → 0 ≤ b → b + totSb rest ≤ 1000000000 →
    Ev (fun k => laws_markSlabS.l0 k (pre ++ rest) b (pre.length : Int)) (b + totSb rest, pre ++ markSb b rest) := by
  intro rest
  induction rest with
  | nil =>
    intro pre b _ hl h0 h1
    refine Ev.of_succ (fun k => ?_)
    simp only [laws_markSlabS.l0]
    rw [if_neg (by simp)]
    simp [totSb, markSb]
  | cons x rest ih =>
    intro pre b hx hl h0 h1
    rw [totSb_cons] at h1 ⊢
    simp only [List.length_cons] at hl
    have hxl := hx x List.mem_cons_self
    have hm := markBoolS_ev x.f2 hxl (b + 2) (by omega) (by omega)
    have hi := ih (pre ++ [⟨b, b + 1, upBool (b + 2) x.f2.length⟩]) (b + 2 + x.f2.length) (fun y hy => hx y (List.mem_cons_of_mem _ hy)) (by simp only [List.length_append, List.length_cons, List.length_nil]; omega) (by omega) (by omega)
    rw [show b + 2 + (x.f2.length : Int) + (totSb rest : Nat) = b + ((x.f2.length + 2 + totSb rest : Nat) : Int) by omega] at hi
    rw [show pre ++ markSb b (x :: rest) = (pre ++ [⟨b, b + 1, upBool (b + 2) x.f2.length⟩]) ++ markSb (b + 2 + x.f2.length) rest by simp [markSb]]
    refine Ev.step (f := fun k => (laws_markBoolS.f k x.f2 (b + 2)).bind fun t => laws_markSlabS.l0 k ((pre ++ [(⟨b, b + 1, t.2⟩ : SlabW)]) ++ rest) t.1 ((pre.length + 1 : Nat) : Int)) (fun k => ?_) (Ev.bind hm ?_)
    · simp only [laws_markSlabS.l0]
      rw [if_pos (by simp only [List.length_append, List.length_cons]; omega), if_pos (by omega), toNat_cast, getD_mid, wrap_succ (by omega), wrap64_id (n := b + 1) (by omega) (by omega), wrap64_id (n := b + 1 + 1) (by omega) (by omega), show b + 1 + 1 = b + 2 by omega]
      simp only [set_mid]
    · simp only [List.length_append, List.length_cons, List.length_nil] at hi
      exact hi
theorem markSlabS_ev (l : List SlabW) (hl : SmallSw l) (a : Int) (h0 : 0 ≤ a) (h1 : a + totSb l ≤ 1000000000) : Ev (fun k => laws_markSlabS.f k l a) (a + totSb l, markSb a l) := by
  have := markSb_loop l [] a hl.2 (by simpa using hl.1) h0 h1
  exact this
theorem heldSb_loop : ∀ (rest pre : List SlabW) (b : Int), (∀ x ∈ rest, x.f2.length ≤ 1048576) → pre.length + rest.length ≤ 1048576 → 0 ≤ b → b + totSb rest ≤ 1000000000 →
    Ev (fun k => laws_heldSlabS.l0 k (pre ++ markSb b rest) b (pre.length : Int)) (b + totSb rest) := by
  intro rest
  induction rest with
  | nil =>
    intro pre b _ hl h0 h1
    refine Ev.of_succ (fun k => ?_)
    simp only [laws_heldSlabS.l0]
    rw [if_neg (by simp [markSb])]
    simp [totSb]
  | cons x rest ih =>
    intro pre b hx hl h0 h1
    rw [totSb_cons] at h1 ⊢
    simp only [List.length_cons] at hl
    have hxl := hx x List.mem_cons_self
    have hm := heldBoolS_ev x.f2.length hxl (b + 2) (by omega) (by omega)
    have hi := ih (pre ++ [⟨b, b + 1, upBool (b + 2) x.f2.length⟩]) (b + 2 + x.f2.length) (fun y hy => hx y (List.mem_cons_of_mem _ hy)) (by simp only [List.length_append, List.length_cons, List.length_nil]; omega) (by omega) (by omega)
    rw [show b + 2 + (x.f2.length : Int) + (totSb rest : Nat) = b + ((x.f2.length + 2 + totSb rest : Nat) : Int) by omega] at hi
    have hml := markSb_len (b + 2 + x.f2.length) rest
    refine Ev.step (f := fun k => (laws_heldBoolS.f k (upBool (b + 2) x.f2.length) (b + 2)).bind fun t307 => (if t307 < 0 then (some (-1)) else (laws_heldSlabS.l0 k (pre ++ markSb b (x :: rest)) t307 ((pre.length + 1 : Nat) : Int)))) (fun k => ?_) (Ev.bind hm ?_)
    · simp only [laws_heldSlabS.l0]
      rw [if_pos (by simp only [List.length_append, markSb, List.length_cons]; omega), if_pos (by omega), rdBW, wrap_succ (by omega), wrap64_id (n := b + 1) (by omega) (by omega), wrap64_id (n := b + 1 + 1) (by omega) (by omega), show b + 1 + 1 = b + 2 by omega]
      simp only [markSb, getD_mid, if_true]
    · simp only [if_neg (show ¬ b + 2 + (x.f2.length : Int) < 0 by omega)]
      rw [show pre ++ markSb b (x :: rest) = (pre ++ [⟨b, b + 1, upBool (b + 2) x.f2.length⟩]) ++ markSb (b + 2 + x.f2.length) rest by simp [markSb]]
      simp only [List.length_append, List.length_cons, List.length_nil] at hi
      exact hi
theorem heldSlabS_ev (l : List SlabW) (hl : SmallSw l) (a : Int) (h0 : 0 ≤ a) (h1 : a + totSb l ≤ 1000000000) : Ev (fun k => laws_heldSlabS.f k (markSb a l) a) (a + totSb l) := by
  have := heldSb_loop l [] a hl.2 (by simpa using hl.1) h0 h1
  exact this
theorem totSb_sum (l : List SlabL) (h : l.length ≤ 1048576) (h2 : ((l.map (fun s => s.f2.length)).sum : Nat) ≤ 1048576) : totSb (l.map toSlab) ≤ 4000000 := by
  have key : ∀ l : List SlabL, totSb (l.map toSlab) = 2 * l.length + (l.map (fun s => s.f2.length)).sum := by
    intro l
    induction l with
    | nil => rfl
    | cons x l ih => rw [List.map_cons, totSb_cons, ih]; simp only [toSlab, List.length_cons, List.map_cons, List.sum_cons]; omega
  rw [key]; omega
abbrev ObjW := S134
abbrev ObjL := S154
def toObj (r : ObjL) : ObjW := ⟨r.f0, r.f1, r.f2, r.f3, r.f4⟩
theorem rdOL (l : List ObjL) (i : Nat) : rd_T154 l (i : Int) = l.getD i z154 := by unfold rd_T154; rw [toNat_cast]
theorem rdOW (l : List ObjW) (i : Nat) : rd_T134 l (i : Int) = l.getD i z134 := by unfold rd_T134; rw [toNat_cast]
theorem toObjectS_ev (l : List ObjL) (hl : l.length ≤ 1048576) : Ev (fun k => laws_toObjectS.f k l) (l.map toObj) := by
  have key := ev_copy0 (fun k acc i => laws_toObjectS.l0 k l acc (i : Int)) l.length (fun i => toObj (l.getD i z154)) id (by
    intro i acc hi ha r h
    refine Ev.step (fun k => ?_) h
    simp only [laws_toObjectS.l0]
    rw [if_pos (by omega), if_pos (by omega), rdOL]
    unfold laws_toObject.f
    simp only [Option.bind_some]
    rw [if_pos (by omega), wrap_succ (by omega), toNat_cast]
    rfl) (by
    intro acc ha
    refine Ev.of_succ (fun k => ?_)
    simp only [laws_toObjectS.l0]
    rw [if_neg (by omega)]
    rfl) (List.replicate l.length z134) (by simp)
  rw [map_getD toObj l z154] at key
  refine Ev.congr (fun k => ?_) key
  unfold laws_toObjectS.f
  rw [if_pos (by omega), if_pos (by omega), toNat_cast]
  rfl
theorem eqObjectS_refl (l : List ObjW) (hl : l.length ≤ 1048576) : Ev (fun k => laws_eqObjectS.f k l l) true := by
  have key := ev_all0 (fun k i => laws_eqObjectS.l0 k l l (i : Int)) l.length (fun _ => true) false true (by
    intro i hi _ r h
    refine Ev.step (fun k => ?_) h
    simp only [laws_eqObjectS.l0]
    rw [if_pos (by omega), if_pos (by omega), if_pos (by omega)]
    unfold laws_eqObject.f
    simp only [if_true, Option.bind_some]
    rw [wrap_succ (by omega)]) (by intro i _ h; cases h) (by
    refine Ev.of_succ (fun k => ?_)
    simp only [laws_eqObjectS.l0]
    rw [if_neg (by omega)])
  rw [if_pos (by simp)] at key
  refine Ev.congr (fun k => ?_) key
  unfold laws_eqObjectS.f
  rw [if_pos rfl]
  rfl
abbrev RegW := S181
abbrev RegL := S209
def toReg_ (r : RegL) : RegW := ⟨r.f0, r.f1, r.f2⟩
theorem rdGL (l : List RegL) (i : Nat) : rd_T209 l (i : Int) = l.getD i z209 := by unfold rd_T209; rw [toNat_cast]
theorem rdGW (l : List RegW) (i : Nat) : rd_T181 l (i : Int) = l.getD i z181 := by unfold rd_T181; rw [toNat_cast]
theorem szRegionS_eq (l : List RegL) (hl : l.length ≤ maxLen) : laws_szRegionS.f l 1048576 = some (if (l.length : Int) ≤ 1048576 then (1048576 - (l.length : Int) : Int) else (-1 : Int)) := by
  unfold maxLen at hl
  unfold laws_szRegionS.f
  have e : wrap64 (1048576 - (l.length : Int)) = 1048576 - l.length := by unfold wrap64; omega
  rw [e]
  by_cases h : (l.length : Int) ≤ 1048576
  · rw [if_neg (by omega), if_pos h]
  · rw [if_pos (by omega), if_neg h]
theorem toRegionS_ev (l : List RegL) (hl : l.length ≤ 1048576) : Ev (fun k => laws_toRegionS.f k l) (l.map toReg_) := by
  have key := ev_copy0 (fun k acc i => laws_toRegionS.l0 k l acc (i : Int)) l.length (fun i => toReg_ (l.getD i z209)) id (by
    intro i acc hi ha r h
    refine Ev.step (fun k => ?_) h
    simp only [laws_toRegionS.l0]
    rw [if_pos (by omega), if_pos (by omega), rdGL]
    unfold laws_toRegion.f
    simp only [Option.bind_some]
    rw [if_pos (by omega), wrap_succ (by omega), toNat_cast]
    rfl) (by
    intro acc ha
    refine Ev.of_succ (fun k => ?_)
    simp only [laws_toRegionS.l0]
    rw [if_neg (by omega)]
    rfl) (List.replicate l.length z181) (by simp)
  rw [map_getD toReg_ l z209] at key
  refine Ev.congr (fun k => ?_) key
  unfold laws_toRegionS.f
  rw [if_pos (by omega), if_pos (by omega), toNat_cast]
  rfl
theorem eqRegionS_refl (l : List RegW) (hl : l.length ≤ 1048576) : Ev (fun k => laws_eqRegionS.f k l l) true := by
  have key := ev_all0 (fun k i => laws_eqRegionS.l0 k l l (i : Int)) l.length (fun _ => true) false true (by
    intro i hi _ r h
    refine Ev.step (fun k => ?_) h
    simp only [laws_eqRegionS.l0]
    rw [if_pos (by omega), if_pos (by omega), if_pos (by omega)]
    unfold laws_eqRegion.f
    simp only [if_true, Option.bind_some, bne_self_eq_false, Bool.false_eq_true, if_false]
    rw [wrap_succ (by omega)]) (by intro i _ h; cases h) (by
    refine Ev.of_succ (fun k => ?_)
    simp only [laws_eqRegionS.l0]
    rw [if_neg (by omega)])
  rw [if_pos (by simp)] at key
  refine Ev.congr (fun k => ?_) key
  unfold laws_eqRegionS.f
  rw [if_pos rfl]
  rfl
theorem markRegionS_ev (l : List RegW) (hl : l.length ≤ 1048576) (a : Int) (h0 : 0 ≤ a) (h1 : a ≤ 1000000000) : Ev (fun k => laws_markRegionS.f k l a) (a + 3 * l.length, (List.range l.length).map (fun j : Nat => (⟨a + 3 * (j : Int), a + 3 * (j : Int) + 1, (Int.tmod (a + 3 * (j : Int) + 2) 3 == 0)⟩ : RegW))) := by
  have key := ev_copy0 (fun k acc i => laws_markRegionS.l0 k acc (a + 3 * (i : Int)) (i : Int)) l.length (fun i => (⟨a + 3 * (i : Int), a + 3 * (i : Int) + 1, (Int.tmod (a + 3 * (i : Int) + 2) 3 == 0)⟩ : RegW)) (fun acc => (a + 3 * (l.length : Int), acc)) (by
    intro i acc hi ha r h
    refine Ev.step (fun k => ?_) h
    simp only [laws_markRegionS.l0]
    rw [if_pos (by omega), if_pos (by omega)]
    simp only [Option.bind_some]
    have g : ∀ y : RegW, (acc.set i y).getD i z181 = y := fun y => by
      rw [List.getD_eq_getElem?_getD, List.getElem?_set_self (by omega)]; rfl
    simp only [wrap_succ (show i < 9223372036854775807 by omega), toNat_cast, wrap64_id (n := a + 3 * (i : Int) + 1) (by omega) (by omega), wrap64_id (n := a + 3 * (i : Int) + 2) (by omega) (by omega), wrap64_id (n := a + 3 * ((i + 1 : Nat) : Int)) (by omega) (by omega), List.set_set, rdGW, g, show a + 3 * (i : Int) + 2 + 1 = a + 3 * ((i + 1 : Nat) : Int) by omega, show a + 3 * (i : Int) + 1 + 1 = a + 3 * (i : Int) + 2 by omega]) (by
    intro acc ha
    refine Ev.of_succ (fun k => ?_)
    simp only [laws_markRegionS.l0]
    rw [if_neg (by omega)]) l rfl
  simp only [show ((0 : Nat) : Int) = 0 from rfl, Int.mul_zero, Int.add_zero] at key
  exact key
def upReg (a : Int) (n : Nat) : List RegW := (List.range n).map (fun j : Nat => (⟨a + 3 * (j : Int), a + 3 * (j : Int) + 1, (Int.tmod (a + 3 * (j : Int) + 2) 3 == 0)⟩ : RegW))
theorem upReg_len (a : Int) (n : Nat) : (upReg a n).length = n := by simp [upReg]
theorem upReg_getD (a : Int) (n i : Nat) (d : RegW) (h : i < n) : (upReg a n).getD i d = ⟨a + 3 * (i : Int), a + 3 * (i : Int) + 1, (Int.tmod (a + 3 * (i : Int) + 2) 3 == 0)⟩ := by simp [upReg, List.getD_eq_getElem?_getD, h]
theorem heldRegionS_ev (n : Nat) (hn : n ≤ 1048576) (a : Int) (h0 : 0 ≤ a) (h1 : a ≤ 1000000000) : Ev (fun k => laws_heldRegionS.f k (upReg a n) a) (a + 3 * n) := by
  have key := ev_yes (fun k i => laws_heldRegionS.l0 k (upReg a n) (a + 3 * (i : Int)) (i : Int)) n (fun _ => true) (a + 3 * (n : Int)) (by
    intro i hi _ r h
    refine Ev.step (fun k => ?_) h
    simp only [laws_heldRegionS.l0]
    rw [upReg_len, if_pos (by omega), if_pos (by omega), rdGW, upReg_getD _ _ _ _ hi]
    simp only [wrap_succ (show i < 9223372036854775807 by omega), wrap64_id (n := a + 3 * (i : Int) + 1) (by omega) (by omega), wrap64_id (n := a + 3 * (i : Int) + 2) (by omega) (by omega), wrap64_id (n := a + 3 * ((i + 1 : Nat) : Int)) (by omega) (by omega), show a + 3 * (i : Int) + 2 + 1 = a + 3 * ((i + 1 : Nat) : Int) by omega, show a + 3 * (i : Int) + 1 + 1 = a + 3 * (i : Int) + 2 by omega, if_true, bne_self_eq_false, Bool.false_eq_true, if_false]) (by simp) (by
    refine Ev.of_succ (fun k => ?_)
    simp only [laws_heldRegionS.l0]
    rw [upReg_len, if_neg (by omega)])
  simp only [show ((0 : Nat) : Int) = 0 from rfl, Int.mul_zero, Int.add_zero] at key
  exact key
abbrev SlotW := S138
abbrev SlotL := S148
abbrev zsl : SlotL := z148
abbrev zsw : SlotW := z138
def toSlot (r : SlotL) : SlotW := ⟨r.f0, r.f1⟩
theorem rdSL (l : List SlotL) (i : Nat) : rd_T148 l (i : Int) = l.getD i zsl := by unfold rd_T148; rw [toNat_cast]
theorem rdSW (l : List SlotW) (i : Nat) : rd_T138 l (i : Int) = l.getD i zsw := by unfold rd_T138; rw [toNat_cast]
theorem szSlot_eq (s : SlotL) (hl : s.f1.length ≤ maxLen) (a : Int) (h0 : 0 ≤ a) (h1 : a ≤ 1048576) : laws_szSlot.f s.f0 s.f1 a = some (if (s.f1.length : Int) ≤ a then (a - (s.f1.length : Int) : Int) else (-1 : Int)) := by
  unfold laws_szSlot.f
  rw [szIntS_eq _ hl a h0 h1]
  simp only [Option.bind_some]
  by_cases h : (s.f1.length : Int) ≤ a
  · rw [if_pos h, if_neg (by omega)]
  · rw [if_neg h, if_pos (by omega)]
theorem mem_getD {α : Type} {l : List α} {i : Nat} (h : i < l.length) (d : α) : l.getD i d ∈ l := by
  rw [List.getD_eq_getElem?_getD, List.getElem?_eq_getElem h]; exact List.getElem_mem h
def SmallS (l : List SlotL) : Prop := l.length ≤ 1048576 ∧ ∀ x ∈ l, x.f1.length ≤ 1048576
theorem szSlotS_ev (l : List SlotL) (hl : l.length ≤ maxLen) (hls : ∀ x ∈ l, x.f1.length ≤ maxLen) :
    ∃ r, Ev (fun k => laws_szSlotS.f k l 1048576) r ∧ (0 ≤ r → SmallS l ∧ (l.length : Int) + ((l.map (fun s => s.f1.length)).sum : Nat) ≤ 1048576) := by
  by_cases hlen : (l.length : Int) ≤ 1048576
  · obtain ⟨r, hr, hq⟩ := ev_sz (fun k b i => laws_szSlotS.l0 k l b (i : Int)) l.length (fun i => (l.getD i zsl).f1.length) (by
      intro i b hi h0 h1 hs r h
      refine Ev.step (fun k => ?_) h
      simp only [laws_szSlotS.l0]
      rw [if_pos (by omega), if_pos (by omega), rdSL, szSlot_eq _ (hls _ (mem_getD hi _)) b h0 h1, if_pos hs]
      simp only [Option.bind_some]
      rw [if_neg (by omega), wrap_succ (by simp only [maxLen] at hl; omega)]) (by
      intro i b hi h0 h1 hs
      refine Ev.of_succ (fun k => ?_)
      simp only [laws_szSlotS.l0]
      rw [if_pos (by omega), if_pos (by omega), rdSL, szSlot_eq _ (hls _ (mem_getD hi _)) b h0 h1, if_neg hs]
      simp only [Option.bind_some]
      rw [if_pos (by omega)]) (by
      intro b
      refine Ev.of_succ (fun k => ?_)
      simp only [laws_szSlotS.l0]
      rw [if_neg (by omega)]) (1048576 - (l.length : Int)) (by omega) (by omega)
    refine ⟨r, Ev.congr (fun k => ?_) hr, fun h => ?_⟩
    · unfold laws_szSlotS.f
      rw [sub_len (by omega) (by omega) hl, if_neg (by omega)]
      rfl
    · have := hq h
      refine ⟨⟨by omega, fun x hx => ?_⟩, ?_⟩
      · obtain ⟨i, hi, rfl⟩ := List.getElem_of_mem hx
        have h5 := sum_ge (fun i => (l.getD i zsl).f1.length) hi
        simp only [List.getD_eq_getElem?_getD, List.getElem?_eq_getElem hi, Option.getD_some] at h5
        simp only [List.getD_eq_getElem?_getD] at this
        omega
      · rw [map_getD (fun s : SlotL => s.f1.length) l zsl] at this
        omega
  · refine ⟨-1, Ev.const (fun k => ?_), fun h => by omega⟩
    unfold laws_szSlotS.f
    rw [sub_len (by omega) (by omega) hl, if_pos (by omega)]
theorem SmallS.at_ {l : List SlotL} (h : SmallS l) (i : Nat) : (l.getD i zsl).f1.length ≤ 1048576 := by
  by_cases hi : i < l.length
  · exact h.2 _ (mem_getD hi _)
  · rw [List.getD_eq_getElem?_getD, List.getElem?_eq_none (by omega)]; decide
theorem toSlotS_ev (l : List SlotL) (hl : SmallS l) : Ev (fun k => laws_toSlotS.f k l) (l.map toSlot) := by
  have h1 := hl.1
  have key := ev_copy0 (fun k acc i => laws_toSlotS.l0 k l acc (i : Int)) l.length (fun i => toSlot (l.getD i zsl)) id (by
    intro i acc hi ha r h
    refine Ev.step (f := fun k => (laws_toIntS.f k (l.getD i zsl).f1).bind fun t => laws_toSlotS.l0 k l (acc.set i (⟨(l.getD i zsl).f0, t⟩ : SlotW)) ((i + 1 : Nat) : Int)) (fun k => ?_) (Ev.bind (toIntS_ev _ (hl.at_ i)) h)
    simp only [laws_toSlotS.l0]
    rw [if_pos (by omega), if_pos (by omega), rdSL]
    unfold laws_toSlot.f
    rw [Option.bind_assoc]
    congr 1
    funext t
    simp only [Option.bind_some]
    rw [if_pos (by omega), wrap_succ (by omega), toNat_cast]) (by
    intro acc ha
    refine Ev.of_succ (fun k => ?_)
    simp only [laws_toSlotS.l0]
    rw [if_neg (by omega)]
    rfl) (List.replicate l.length zsw) (by simp)
  rw [map_getD toSlot l zsl] at key
  refine Ev.congr (fun k => ?_) key
  unfold laws_toSlotS.f
  rw [if_pos (by omega), if_pos (by omega), toNat_cast]
  rfl
def SmallW (l : List SlotW) : Prop := l.length ≤ 1048576 ∧ ∀ x ∈ l, x.f1.length ≤ 1048576
theorem SmallS.toW {l : List SlotL} (h : SmallS l) : SmallW (l.map toSlot) := by
  refine ⟨by simpa using h.1, fun x hx => ?_⟩
  obtain ⟨y, hy, rfl⟩ := List.mem_map.1 hx
  exact h.2 y hy
theorem SmallW.at_ {l : List SlotW} (h : SmallW l) (i : Nat) : (l.getD i zsw).f1.length ≤ 1048576 := by
  by_cases hi : i < l.length
  · exact h.2 _ (mem_getD hi _)
  · rw [List.getD_eq_getElem?_getD, List.getElem?_eq_none (by omega)]; decide
theorem eqSlotS_refl (l : List SlotW) (hl : SmallW l) : Ev (fun k => laws_eqSlotS.f k l l) true := by
  have h1 := hl.1
  have key := ev_all0 (fun k i => laws_eqSlotS.l0 k l l (i : Int)) l.length (fun _ => true) false true (by
    intro i hi _ r h
    refine Ev.step (f := fun k => (laws_eqIntS.f k (l.getD i zsw).f1 (l.getD i zsw).f1).bind fun t => (if t = true then (some true) else (some false)).bind fun t => if t = true then laws_eqSlotS.l0 k l l ((i + 1 : Nat) : Int) else some false) (fun k => ?_) (Ev.bind (eqIntS_refl _ (hl.at_ i)) (by simp only [if_true, Option.bind_some]; exact h))
    simp only [laws_eqSlotS.l0]
    rw [if_pos (by omega), if_pos (by omega), if_pos (by omega), rdSW]
    unfold laws_eqSlot.f
    rw [if_pos rfl, Option.bind_assoc, wrap_succ (by omega)]) (by intro i _ h; cases h) (by
    refine Ev.of_succ (fun k => ?_)
    simp only [laws_eqSlotS.l0]
    rw [if_neg (by omega)])
  rw [if_pos (by simp)] at key
  refine Ev.congr (fun k => ?_) key
  unfold laws_eqSlotS.f
  rw [if_pos rfl]
  rfl
def markSl : Int → List SlotW → List SlotW
  | _, [] => []
  | a, x :: xs => ⟨a, upInt (a + 1) x.f1.length⟩ :: markSl (a + 1 + x.f1.length) xs
def totSl (l : List SlotW) : Nat := (l.map (fun s : SlotW => s.f1.length + 1)).sum
theorem totSl_cons (x : SlotW) (l : List SlotW) : totSl (x :: l) = x.f1.length + 1 + totSl l := by simp [totSl]
theorem markSl_len (a : Int) (l : List SlotW) : (markSl a l).length = l.length := by
  induction l generalizing a with
  | nil => rfl
  | cons x l ih => simp [markSl, ih]
theorem markSl_loop : ∀ (rest pre : List SlotW) (b : Int), (∀ x ∈ rest, x.f1.length ≤ 1048576) → pre.length + rest.length ≤ 1048576 → 0 ≤ b → b + totSl rest ≤ 1000000000 →
    Ev (fun k => laws_markSlotS.l0 k (pre ++ rest) b (pre.length : Int)) (b + totSl rest, pre ++ markSl b rest) := by
  intro rest
  induction rest with
  | nil =>
    intro pre b _ hl h0 h1
    refine Ev.of_succ (fun k => ?_)
    simp only [laws_markSlotS.l0]
    rw [if_neg (by simp)]
    simp [totSl, markSl]
  | cons x rest ih =>
    intro pre b hx hl h0 h1
    rw [totSl_cons] at h1 ⊢
    simp only [List.length_cons] at hl
    have hxl := hx x List.mem_cons_self
    have hm := markIntS_ev x.f1 hxl (b + 1) (by omega) (by omega)
    have hi := ih (pre ++ [⟨b, upInt (b + 1) x.f1.length⟩]) (b + 1 + x.f1.length) (fun y hy => hx y (List.mem_cons_of_mem _ hy)) (by simp only [List.length_append, List.length_cons, List.length_nil]; omega) (by omega) (by omega)
    rw [show b + 1 + (x.f1.length : Int) + (totSl rest : Nat) = b + ((x.f1.length + 1 + totSl rest : Nat) : Int) by omega] at hi
    rw [show pre ++ markSl b (x :: rest) = (pre ++ [⟨b, upInt (b + 1) x.f1.length⟩]) ++ markSl (b + 1 + x.f1.length) rest by simp [markSl]]
    refine Ev.step (f := fun k => (laws_markIntS.f k x.f1 (b + 1)).bind fun t => laws_markSlotS.l0 k ((pre ++ [(⟨b, t.2⟩ : SlotW)]) ++ rest) t.1 ((pre.length + 1 : Nat) : Int)) (fun k => ?_) (Ev.bind hm ?_)
    · simp only [laws_markSlotS.l0]
      rw [if_pos (by simp only [List.length_append, List.length_cons]; omega), if_pos (by omega), toNat_cast, getD_mid, wrap_succ (by omega), wrap64_id (n := b + 1) (by omega) (by omega)]
      simp only [set_mid]
    · simp only [List.length_append, List.length_cons, List.length_nil] at hi
      exact hi
theorem markSlotS_ev (l : List SlotW) (hl : SmallW l) (a : Int) (h0 : 0 ≤ a) (h1 : a + totSl l ≤ 1000000000) : Ev (fun k => laws_markSlotS.f k l a) (a + totSl l, markSl a l) := by
  have := markSl_loop l [] a hl.2 (by simpa using hl.1) h0 h1
  exact this
theorem heldSl_loop : ∀ (rest pre : List SlotW) (b : Int), (∀ x ∈ rest, x.f1.length ≤ 1048576) → pre.length + rest.length ≤ 1048576 → 0 ≤ b → b + totSl rest ≤ 1000000000 →
    Ev (fun k => laws_heldSlotS.l0 k (pre ++ markSl b rest) b (pre.length : Int)) (b + totSl rest) := by
  intro rest
  induction rest with
  | nil =>
    intro pre b _ hl h0 h1
    refine Ev.of_succ (fun k => ?_)
    simp only [laws_heldSlotS.l0]
    rw [if_neg (by simp [markSl])]
    simp [totSl]
  | cons x rest ih =>
    intro pre b hx hl h0 h1
    rw [totSl_cons] at h1 ⊢
    simp only [List.length_cons] at hl
    have hxl := hx x List.mem_cons_self
    have hm := heldIntS_ev x.f1.length hxl (b + 1) (by omega) (by omega)
    have hi := ih (pre ++ [⟨b, upInt (b + 1) x.f1.length⟩]) (b + 1 + x.f1.length) (fun y hy => hx y (List.mem_cons_of_mem _ hy)) (by simp only [List.length_append, List.length_cons, List.length_nil]; omega) (by omega) (by omega)
    rw [show b + 1 + (x.f1.length : Int) + (totSl rest : Nat) = b + ((x.f1.length + 1 + totSl rest : Nat) : Int) by omega] at hi
    have hml := markSl_len (b + 1 + x.f1.length) rest
    refine Ev.step (f := fun k => (laws_heldIntS.f k (upInt (b + 1) x.f1.length) (b + 1)).bind fun t307 => (if t307 < 0 then (some (-1)) else (laws_heldSlotS.l0 k (pre ++ markSl b (x :: rest)) t307 ((pre.length + 1 : Nat) : Int)))) (fun k => ?_) (Ev.bind hm ?_)
    · simp only [laws_heldSlotS.l0]
      rw [if_pos (by simp only [List.length_append, markSl, List.length_cons]; omega), if_pos (by omega), rdSW, wrap_succ (by omega), wrap64_id (n := b + 1) (by omega) (by omega)]
      simp only [markSl, getD_mid, if_true]
    · simp only [if_neg (show ¬ b + 1 + (x.f1.length : Int) < 0 by omega)]
      rw [show pre ++ markSl b (x :: rest) = (pre ++ [⟨b, upInt (b + 1) x.f1.length⟩]) ++ markSl (b + 1 + x.f1.length) rest by simp [markSl]]
      simp only [List.length_append, List.length_cons, List.length_nil] at hi
      exact hi
theorem heldSlotS_ev (l : List SlotW) (hl : SmallW l) (a : Int) (h0 : 0 ≤ a) (h1 : a + totSl l ≤ 1000000000) : Ev (fun k => laws_heldSlotS.f k (markSl a l) a) (a + totSl l) := by
  have := heldSl_loop l [] a hl.2 (by simpa using hl.1) h0 h1
  exact this
abbrev SpcW := S79
abbrev SpcL := S146
abbrev zpl : SpcL := z146
abbrev zpw : SpcW := z79
def toSpc (r : SpcL) : SpcW := ⟨r.f0, r.f1, r.f2.map toReg_⟩
theorem rdPL (l : List SpcL) (i : Nat) : rd_T146 l (i : Int) = l.getD i zpl := by unfold rd_T146; rw [toNat_cast]
theorem rdPW (l : List SpcW) (i : Nat) : rd_T79 l (i : Int) = l.getD i zpw := by unfold rd_T79; rw [toNat_cast]
def SmallP (l : List SpcL) : Prop := l.length ≤ 1048576 ∧ ∀ x ∈ l, x.f2.length ≤ 1048576
theorem SmallP.at_ {l : List SpcL} (h : SmallP l) (i : Nat) : (l.getD i zpl).f2.length ≤ 1048576 := by
  by_cases hi : i < l.length
  · exact h.2 _ (mem_getD hi _)
  · rw [List.getD_eq_getElem?_getD, List.getElem?_eq_none (by omega)]; decide
theorem toSpaceS_ev (l : List SpcL) (hl : SmallP l) : Ev (fun k => laws_toSpaceS.f k l) (l.map toSpc) := by
  have h1 := hl.1
  have key := ev_copy0 (fun k acc i => laws_toSpaceS.l0 k l acc (i : Int)) l.length (fun i => toSpc (l.getD i zpl)) id (by
    intro i acc hi ha r h
    refine Ev.step (f := fun k => (laws_toRegionS.f k (l.getD i zpl).f2).bind fun t => laws_toSpaceS.l0 k l (acc.set i (⟨(l.getD i zpl).f0, (l.getD i zpl).f1, t⟩ : SpcW)) ((i + 1 : Nat) : Int)) (fun k => ?_) (Ev.bind (toRegionS_ev _ (hl.at_ i)) h)
    simp only [laws_toSpaceS.l0]
    rw [if_pos (by omega), if_pos (by omega), rdPL]
    unfold laws_toSpace.f
    rw [Option.bind_assoc]
    congr 1
    funext t
    simp only [Option.bind_some]
    rw [if_pos (by omega), wrap_succ (by omega), toNat_cast]) (by
    intro acc ha
    refine Ev.of_succ (fun k => ?_)
    simp only [laws_toSpaceS.l0]
    rw [if_neg (by omega)]
    rfl) (List.replicate l.length zpw) (by simp)
  rw [map_getD toSpc l zpl] at key
  refine Ev.congr (fun k => ?_) key
  unfold laws_toSpaceS.f
  rw [if_pos (by omega), if_pos (by omega), toNat_cast]
  rfl
def SmallPw (l : List SpcW) : Prop := l.length ≤ 1048576 ∧ ∀ x ∈ l, x.f2.length ≤ 1048576
theorem SmallP.toW {l : List SpcL} (h : SmallP l) : SmallPw (l.map toSpc) := by
  refine ⟨by simpa using h.1, fun x hx => ?_⟩
  obtain ⟨y, hy, rfl⟩ := List.mem_map.1 hx
  show (y.f2.map toReg_).length ≤ _
  rw [List.length_map]
  exact h.2 y hy
theorem SmallPw.at_ {l : List SpcW} (h : SmallPw l) (i : Nat) : (l.getD i zpw).f2.length ≤ 1048576 := by
  by_cases hi : i < l.length
  · exact h.2 _ (mem_getD hi _)
  · rw [List.getD_eq_getElem?_getD, List.getElem?_eq_none (by omega)]; decide
theorem eqSpaceS_refl (l : List SpcW) (hl : SmallPw l) : Ev (fun k => laws_eqSpaceS.f k l l) true := by
  have h1 := hl.1
  have key := ev_all0 (fun k i => laws_eqSpaceS.l0 k l l (i : Int)) l.length (fun _ => true) false true (by
    intro i hi _ r h
    refine Ev.step (f := fun k => (laws_eqRegionS.f k (l.getD i zpw).f2 (l.getD i zpw).f2).bind fun t => (if t = true then (some true) else (some false)).bind fun t => if t = true then laws_eqSpaceS.l0 k l l ((i + 1 : Nat) : Int) else some false) (fun k => ?_) (Ev.bind (eqRegionS_refl _ (hl.at_ i)) (by simp only [if_true, Option.bind_some]; exact h))
    simp only [laws_eqSpaceS.l0]
    rw [if_pos (by omega), if_pos (by omega), if_pos (by omega), rdPW]
    unfold laws_eqSpace.f
    rw [if_neg (by simp), if_pos rfl, Option.bind_assoc, wrap_succ (by omega)]) (by intro i _ h; cases h) (by
    refine Ev.of_succ (fun k => ?_)
    simp only [laws_eqSpaceS.l0]
    rw [if_neg (by omega)])
  rw [if_pos (by simp)] at key
  refine Ev.congr (fun k => ?_) key
  unfold laws_eqSpaceS.f
  rw [if_pos rfl]
  rfl
def markSp : Int → List SpcW → List SpcW
  | _, [] => []
  | a, x :: xs => ⟨(Int.tmod a 3 == 0), a + 1, []⟩ :: markSp (a + 2) xs
theorem markSp_len (a : Int) (l : List SpcW) : (markSp a l).length = l.length := by
  induction l generalizing a with
  | nil => rfl
  | cons x l ih => simp [markSp, ih]
theorem markSp_loop : ∀ (rest pre : List SpcW) (b : Int), (∀ x ∈ rest, x.f2 = []) → pre.length + rest.length ≤ 1048576 → 0 ≤ b → b + 2 * rest.length ≤ 1000000000 →
    Ev (fun k => laws_markSpaceS.l0 k (pre ++ rest) b (pre.length : Int)) (b + 2 * rest.length, pre ++ markSp b rest) := by
  intro rest
  induction rest with
  | nil =>
    intro pre b _ hl h0 h1
    refine Ev.of_succ (fun k => ?_)
    simp only [laws_markSpaceS.l0]
    rw [if_neg (by simp)]
    simp [markSp]
  | cons x rest ih =>
    intro pre b hx hl h0 h1
    simp only [List.length_cons] at hl h1 ⊢
    have hx0 := hx x List.mem_cons_self
    have hm := markRegionS_ev [] (by decide) (b + 2) (by omega) (by omega)
    simp only [List.length_nil, List.range_zero, List.map_nil] at hm
    have hi := ih (pre ++ [⟨(Int.tmod b 3 == 0), b + 1, []⟩]) (b + 2) (fun y hy => hx y (List.mem_cons_of_mem _ hy)) (by simp only [List.length_append, List.length_cons, List.length_nil]; omega) (by omega) (by omega)
    rw [show b + 2 + 2 * (rest.length : Int) = b + 2 * ((rest.length + 1 : Nat) : Int) by omega] at hi
    rw [show pre ++ markSp b (x :: rest) = (pre ++ [⟨(Int.tmod b 3 == 0), b + 1, []⟩]) ++ markSp (b + 2) rest by simp [markSp]]
    refine Ev.step (f := fun k => (laws_markRegionS.f k [] (b + 2)).bind fun t => laws_markSpaceS.l0 k ((pre ++ [(⟨(Int.tmod b 3 == 0), b + 1, t.2⟩ : SpcW)]) ++ rest) t.1 ((pre.length + 1 : Nat) : Int)) (fun k => ?_) (Ev.bind hm ?_)
    · simp only [laws_markSpaceS.l0]
      rw [if_pos (by simp only [List.length_append, List.length_cons]; omega), if_pos (by omega), toNat_cast, getD_mid, wrap_succ (by omega), wrap64_id (n := b + 1) (by omega) (by omega), wrap64_id (n := b + 1 + 1) (by omega) (by omega), show b + 1 + 1 = b + 2 by omega, hx0]
      simp only [set_mid]
    · simp only [List.length_append, List.length_cons, List.length_nil] at hi
      simp only [show b + 2 + 3 * ((0 : Nat) : Int) = b + 2 by omega]
      exact hi
theorem markSpaceS_ev (l : List SpcW) (hl : l.length ≤ 1048576) (hx : ∀ x ∈ l, x.f2 = []) (a : Int) (h0 : 0 ≤ a) (h1 : a + 2 * l.length ≤ 1000000000) : Ev (fun k => laws_markSpaceS.f k l a) (a + 2 * l.length, markSp a l) := by
  have := markSp_loop l [] a hx (by simpa using hl) h0 h1
  exact this
theorem heldSp_loop : ∀ (rest pre : List SpcW) (b : Int), pre.length + rest.length ≤ 1048576 → 0 ≤ b → b + 2 * rest.length ≤ 1000000000 →
    Ev (fun k => laws_heldSpaceS.l0 k (pre ++ markSp b rest) b (pre.length : Int)) (b + 2 * rest.length) := by
  intro rest
  induction rest with
  | nil =>
    intro pre b hl h0 h1
    refine Ev.of_succ (fun k => ?_)
    simp only [laws_heldSpaceS.l0]
    rw [if_neg (by simp [markSp])]
    simp
  | cons x rest ih =>
    intro pre b hl h0 h1
    simp only [List.length_cons] at hl h1 ⊢
    have hm := heldRegionS_ev 0 (by decide) (b + 2) (by omega) (by omega)
    have hi := ih (pre ++ [⟨(Int.tmod b 3 == 0), b + 1, []⟩]) (b + 2) (by simp only [List.length_append, List.length_cons, List.length_nil]; omega) (by omega) (by omega)
    rw [show b + 2 + 2 * (rest.length : Int) = b + 2 * ((rest.length + 1 : Nat) : Int) by omega] at hi
    have hml := markSp_len (b + 2) rest
    refine Ev.step (f := fun k => (laws_heldRegionS.f k (upReg (b + 2) 0) (b + 2)).bind fun t => (if t < 0 then (some (-1)) else (laws_heldSpaceS.l0 k (pre ++ markSp b (x :: rest)) t ((pre.length + 1 : Nat) : Int)))) (fun k => ?_) (Ev.bind hm ?_)
    · simp only [laws_heldSpaceS.l0]
      rw [if_pos (by simp only [List.length_append, markSp, List.length_cons]; omega), if_pos (by omega), rdPW, wrap_succ (by omega), wrap64_id (n := b + 1) (by omega) (by omega), wrap64_id (n := b + 1 + 1) (by omega) (by omega), show b + 1 + 1 = b + 2 by omega]
      simp only [markSp, getD_mid]
      rw [if_neg (by simp)]
      simp only [if_true]
      rfl
    · simp only [show b + 2 + 3 * ((0 : Nat) : Int) = b + 2 by omega, if_neg (show ¬ b + 2 < 0 by omega)]
      rw [show pre ++ markSp b (x :: rest) = (pre ++ [⟨(Int.tmod b 3 == 0), b + 1, []⟩]) ++ markSp (b + 2) rest by simp [markSp]]
      simp only [List.length_append, List.length_cons, List.length_nil] at hi
      exact hi
theorem heldSpaceS_ev (l : List SpcW) (hl : l.length ≤ 1048576) (a : Int) (h0 : 0 ≤ a) (h1 : a + 2 * l.length ≤ 1000000000) : Ev (fun k => laws_heldSpaceS.f k (markSp a l) a) (a + 2 * l.length) := by
  have := heldSp_loop l [] a (by simpa using hl) h0 h1
  exact this
theorem markObjectS_nil (a : Int) : Ev (fun k => laws_markObjectS.f k [] a) (a, []) := by
  refine Ev.of_succ (fun k => ?_)
  unfold laws_markObjectS.f
  simp only [laws_markObjectS.l0]
  rw [if_neg (by simp)]
theorem heldObjectS_nil (a : Int) : Ev (fun k => laws_heldObjectS.f k [] a) a := by
  refine Ev.of_succ (fun k => ?_)
  unfold laws_heldObjectS.f
  simp only [laws_heldObjectS.l0]
  rw [if_neg (by simp)]
def pw (o : Int) : Int := if o = 0 then 1 else if o = 1 then 2 else if o = 2 then 4 else 8
theorem pw_pos (o : Int) : 0 < pw o := by unfold pw; repeat' split <;> omega
theorem pw_le (o : Int) : pw o ≤ 8 := by unfold pw; repeat' split <;> omega
theorem l03Pow_ev (o : Int) (h : 0 ≤ o ∧ o ≤ 3) : Ev (fun k => spec_l03Pow.f k o) (pw o) := by
  have hc : o = 0 ∨ o = 1 ∨ o = 2 ∨ o = 3 := by omega
  rcases hc with rfl | rfl | rfl | rfl <;> exact Ev.of (fun k => spec_l03Pow.mono _ k) (k := 9) (by decide +kernel)
theorem shl_eq (o : Int) (h : 0 ≤ o ∧ o ≤ 3) : shl .i64 1 o = pw o := by
  have hc : o = 0 ∨ o = 1 ∨ o = 2 ∨ o = 3 := by omega
  rcases hc with rfl | rfl | rfl | rfl <;> decide +kernel
def inB (l : List Int) (x : Int) : Bool := l.any (fun y => decide (y = x))
theorem inB_all (l : List Int) (x : Int) : (List.range l.length).all (fun i => !decide (l.getD i 0 = x)) = !inB l x := by
  rw [range_all l 0 (fun y => !decide (y = x))]
  unfold inB
  rw [List.all_eq_not_any_not]
  simp
theorem l03In_ev (l : List Int) (hl : l.length ≤ 1048576) (x : Int) : Ev (fun k => spec_l03In.f k l x) (inB l x) := by
  have key := ev_all0 (fun k i => spec_l03In.l0 k l x (i : Int)) l.length (fun i => !decide (l.getD i 0 = x)) true false (by
    intro i hi hb r h
    refine Ev.step (fun k => ?_) h
    simp only [Bool.not_eq_true', decide_eq_false_iff_not] at hb
    simp only [spec_l03In.l0]
    rw [if_pos (by omega), if_pos (by omega), if_neg (by unfold rd; rw [toNat_cast]; exact hb), wrap_succ (by omega)]) (by
    intro i hi hb
    refine Ev.of_succ (fun k => ?_)
    simp only [Bool.not_eq_false', decide_eq_true_eq] at hb
    simp only [spec_l03In.l0]
    rw [if_pos (by omega), if_pos (by omega), if_pos (by unfold rd; rw [toNat_cast]; exact hb)]) (by
    refine Ev.of_succ (fun k => ?_)
    simp only [spec_l03In.l0]
    rw [if_neg (by omega)])
  rw [inB_all] at key
  have e : (if (!inB l x) = true then false else true) = inB l x := by cases inB l x <;> rfl
  rw [e] at key
  exact key
def clearB (l : List Int) (a o : Int) : Bool := (List.range (pw o).toNat).all (fun j => !inB l (a + (j : Int))) && decide (a % pw o = 0)
theorem l03Clear_ev (l : List Int) (hl : l.length ≤ 1048576) (a o : Int) (ha : 0 ≤ a ∧ a ≤ 1000) (ho : 0 ≤ o ∧ o ≤ 3) : Ev (fun k => spec_l03Clear.f k l a o) (clearB l a o) := by
  unfold spec_l03Clear.f
  refine Ev.bind (l03Pow_ev o ho) ?_
  have hp := pw_pos o
  have hp8 := pw_le o
  have hw : wrap64 (a + pw o) = a + pw o := wrap64_id (by omega) (by omega)
  have key := ev_all0 (fun k j => spec_l03Clear.l0 k l a (pw o) (a + (j : Int))) (pw o).toNat (fun j => !inB l (a + (j : Int))) false (decide (a % pw o = 0)) (by
    intro j hj hb r h
    simp only [Bool.not_eq_true'] at hb
    refine Ev.step (f := fun k => (spec_l03In.f k l (a + (j : Int))).bind fun t104 => (if t104 = true then (some false) else (spec_l03Clear.l0 k l a (pw o) (wrap64 ((a + (j : Int)) + 1))))) (fun k => ?_) ?_
    · simp only [spec_l03Clear.l0]
      rw [hw, if_pos (by omega)]
    · refine Ev.bind (l03In_ev l hl _) ?_
      simp only [hb, Bool.false_eq_true, if_false]
      rw [wrap64_id (n := a + (j : Int) + 1) (by omega) (by omega), show a + (j : Int) + 1 = a + ((j + 1 : Nat) : Int) by omega]
      exact h) (by
    intro j hj hb
    simp only [Bool.not_eq_false'] at hb
    refine Ev.step (f := fun k => (spec_l03In.f k l (a + (j : Int))).bind fun t104 => (if t104 = true then (some false) else (spec_l03Clear.l0 k l a (pw o) (wrap64 ((a + (j : Int)) + 1))))) (fun k => ?_) ?_
    · simp only [spec_l03Clear.l0]
      rw [hw, if_pos (by omega)]
    · refine Ev.bind (l03In_ev l hl _) ?_
      simp only [hb, if_true]
      exact Ev.now _) (by
    refine Ev.of_succ (fun k => ?_)
    simp only [spec_l03Clear.l0]
    rw [hw, if_neg (by omega), if_neg (by omega), tmod_nonneg ha.1 hp]
    rfl)
  simp only [show ((0 : Nat) : Int) = 0 from rfl, Int.add_zero] at key
  have e : (if ((List.range (pw o).toNat).all (fun j => !inB l (a + (j : Int)))) = true then decide (a % pw o = 0) else false) = clearB l a o := by
    unfold clearB
    cases (List.range (pw o).toNat).all (fun j => !inB l (a + (j : Int))) <;> simp
  rw [e] at key
  exact key
def ordC (C : Int → Bool) : Int := if C 3 = true then 3 else if C 2 = true then 2 else if C 1 = true then 1 else if C 0 = true then 0 else -1
theorem ordC_bd (C : Int → Bool) : -1 ≤ ordC C ∧ ordC C ≤ 3 := by unfold ordC; repeat' split <;> omega
def jn (N : Int → Int) (n : Int) : Nat → Int → List RunW → List RunW
  | 0, _, out => out
  | f + 1, a, out => if a < n then (if N a < 0 then jn N n f (a + 1) out else jn N n f (a + pw (N a)) (out ++ [⟨a, N a⟩])) else out
theorem jn_congr (N N' : Int → Int) (n : Int) (h : ∀ a, 0 ≤ a → a < n → N a = N' a) : ∀ f a out, 0 ≤ a → jn N n f a out = jn N' n f a out := by
  intro f
  induction f with
  | zero => intro a out _; rfl
  | succ f ih =>
    intro a out ha
    unfold jn
    by_cases h1 : a < n
    · rw [if_pos h1, if_pos h1, h a ha h1]
      have := pw_pos (N' a)
      split
      · exact ih _ _ (by omega)
      · exact ih _ _ (by omega)
    · rw [if_neg h1, if_neg h1]
theorem ev_jn {ρ : Type} (g : Nat → List RunW → Int → Option ρ) (N : Int → Int) (n : Int) (hn : n ≤ 1000) (hN : ∀ a, -1 ≤ N a ∧ N a ≤ 3) (fin : List RunW → ρ)
    (h1 : ∀ a out, 0 ≤ a → a < n → (out.length : Int) ≤ a → N a < 0 → ∀ r, Ev (fun k => g k out (a + 1)) r → Ev (fun k => g k out a) r)
    (h2 : ∀ a out, 0 ≤ a → a < n → (out.length : Int) ≤ a → 0 ≤ N a → ∀ r, Ev (fun k => g k (out ++ [⟨a, N a⟩]) (a + pw (N a))) r → Ev (fun k => g k out a) r)
    (h3 : ∀ a out, n ≤ a → Ev (fun k => g k out a) (fin out)) : ∀ (f : Nat) a out, 0 ≤ a → n ≤ a + f → (out.length : Int) ≤ a → Ev (fun k => g k out a) (fin (jn N n f a out)) := by
  intro f
  induction f with
  | zero => intro a out _ h _; exact h3 a out (by omega)
  | succ f ih =>
    intro a out ha hf hl
    unfold jn
    by_cases hlt : a < n
    · rw [if_pos hlt]
      by_cases hneg : N a < 0
      · rw [if_pos hneg]
        exact h1 a out ha hlt hl hneg _ (ih _ _ (by omega) (by omega) (by omega))
      · rw [if_neg hneg]
        have := pw_pos (N a)
        exact h2 a out ha hlt hl (by omega) _ (ih _ _ (by omega) (by omega) (by simp only [List.length_append, List.length_cons, List.length_nil]; omega))
    · rw [if_neg hlt]
      exact h3 a out (by omega)
theorem spec_down (n : Int) (l : List Int) (hl : l.length ≤ 1048576) (a : Int) (ha : 0 ≤ a ∧ a ≤ 1000) (out : List RunW) (ho : out.length ≤ 1000) (r : List RunW × Bool)
    (h1 : ordC (clearB l a) < 0 → Ev (fun k => spec_AllRuns.l1 k n l out (a + 1)) r)
    (h2 : 0 ≤ ordC (clearB l a) → Ev (fun k => spec_AllRuns.l1 k n l (out ++ [⟨a, ordC (clearB l a)⟩]) (a + pw (ordC (clearB l a)))) r) : Ev (fun k => spec_AllRuns.l2 k n l out a 3) r := by
  have yes : ∀ o : Int, 0 ≤ o ∧ o ≤ 3 → clearB l a o = true → Ev (fun k => spec_AllRuns.l1 k n l (out ++ [⟨a, o⟩]) (a + pw o)) r → Ev (fun k => spec_AllRuns.l2 k n l out a o) r := by
    intro o ho3 hc h
    have hp := pw_pos o
    have hp8 := pw_le o
    refine Ev.step (f := fun k => (spec_l03Clear.f k l a o).bind fun t114 => (if t114 = true then (if o < 0 then (spec_AllRuns.l1 k n l out (wrap64 (a + 1))) else (if out.length < 8796093022208 then ((spec_l03Pow.f k o).bind fun t118 => (spec_AllRuns.l1 k n l (out ++ [(⟨a, o⟩ : RunW)]) (wrap64 (a + t118)))) else (none))) else (spec_AllRuns.l2 k n l out a (wrap64 (o - 1))))) (fun k => ?_) ?_
    · simp only [spec_AllRuns.l2]
      rw [if_pos (show o ≥ 0 from ho3.1)]
    · refine Ev.bind (l03Clear_ev l hl a o ha ho3) ?_
      simp only [hc, if_true, if_neg (show ¬ o < 0 by omega), if_pos (show out.length < 8796093022208 by omega)]
      refine Ev.bind (l03Pow_ev o ho3) ?_
      rw [wrap64_id (n := a + pw o) (by omega) (by omega)]
      exact h
  have no : ∀ o : Int, 0 ≤ o ∧ o ≤ 3 → clearB l a o = false → Ev (fun k => spec_AllRuns.l2 k n l out a (o - 1)) r → Ev (fun k => spec_AllRuns.l2 k n l out a o) r := by
    intro o ho3 hc h
    refine Ev.step (f := fun k => (spec_l03Clear.f k l a o).bind fun t114 => (if t114 = true then (if o < 0 then (spec_AllRuns.l1 k n l out (wrap64 (a + 1))) else (if out.length < 8796093022208 then ((spec_l03Pow.f k o).bind fun t118 => (spec_AllRuns.l1 k n l (out ++ [(⟨a, o⟩ : RunW)]) (wrap64 (a + t118)))) else (none))) else (spec_AllRuns.l2 k n l out a (wrap64 (o - 1))))) (fun k => ?_) ?_
    · simp only [spec_AllRuns.l2]
      rw [if_pos (show o ≥ 0 from ho3.1)]
    · refine Ev.bind (l03Clear_ev l hl a o ha ho3) ?_
      simp only [hc, Bool.false_eq_true, if_false]
      rw [wrap64_id (n := o - 1) (by omega) (by omega)]
      exact h
  unfold ordC at h1 h2
  by_cases c3 : clearB l a 3 = true
  · rw [if_pos c3] at h2
    exact yes 3 (by omega) c3 (h2 (by omega))
  · rw [if_neg c3] at h1 h2
    refine no 3 (by omega) (by simpa using c3) ?_
    show Ev (fun k => spec_AllRuns.l2 k n l out a 2) r
    by_cases c2 : clearB l a 2 = true
    · rw [if_pos c2] at h2
      exact yes 2 (by omega) c2 (h2 (by omega))
    · rw [if_neg c2] at h1 h2
      refine no 2 (by omega) (by simpa using c2) ?_
      show Ev (fun k => spec_AllRuns.l2 k n l out a 1) r
      by_cases c1 : clearB l a 1 = true
      · rw [if_pos c1] at h2
        exact yes 1 (by omega) c1 (h2 (by omega))
      · rw [if_neg c1] at h1 h2
        refine no 1 (by omega) (by simpa using c1) ?_
        show Ev (fun k => spec_AllRuns.l2 k n l out a 0) r
        by_cases c0 : clearB l a 0 = true
        · rw [if_pos c0] at h2
          exact yes 0 (by omega) c0 (h2 (by omega))
        · rw [if_neg c0] at h1
          refine no 0 (by omega) (by simpa using c0) ?_
          show Ev (fun k => spec_AllRuns.l2 k n l out a (-1)) r
          refine Ev.step (fun k => ?_) (h1 (by omega))
          simp only [spec_AllRuns.l2]
          rw [if_neg (by omega), if_pos (by omega), wrap64_id (n := a + 1) (by omega) (by omega)]
def runsOf (n : Int) (l : List Int) : List RunW := jn (fun a => ordC (clearB l a)) n n.toNat 0 []
def takenB (n : Int) (l : List Int) : Bool := l.all (fun x => decide (0 ≤ x ∧ x ≤ n - 1))
theorem takenB_all (n : Int) (l : List Int) : (List.range l.length).all (fun i => decide (0 ≤ l.getD i 0 ∧ l.getD i 0 ≤ n - 1)) = takenB n l := range_all l 0 (fun x => decide (0 ≤ x ∧ x ≤ n - 1))
theorem spec_AllRuns_ev (n : Int) (l : List Int) (hl : l.length ≤ 1048576) : Ev (fun k => spec_AllRuns.f k n l) (if sizeB n = true ∧ takenB n l = true then (runsOf n l, true) else ([], false)) := by
  unfold spec_AllRuns.f
  rw [l02Frames_eq]
  simp only [Option.bind_some]
  have bad : ∀ i : Nat, Ev (fun k => spec_AllRuns.l0 k n l false (i : Int)) ([], false) := by
    intro i
    refine Ev.step (f := fun k => spec_AllRuns.j1 k n l false) (fun k => ?_) (Ev.of_succ (fun k => ?_))
    · simp only [spec_AllRuns.l0]
      by_cases h : (i : Int) < (l.length : Int)
      · rw [if_pos h, if_neg (by simp)]
      · rw [if_neg h]
    · simp only [spec_AllRuns.j1]
      rfl
  by_cases hs : sizeB n = true
  · obtain ⟨hn1, hn2, hn3⟩ := sizeB_bd hs
    rw [hs]
    have hw : wrap64 (n - 1) = n - 1 := wrap64_id (by omega) (by omega)
    have key := ev_all0 (fun k i => spec_AllRuns.l0 k n l true (i : Int)) l.length (fun i => decide (0 ≤ l.getD i 0 ∧ l.getD i 0 ≤ n - 1)) ([], false) (runsOf n l, true) (by
      intro i hi hb r h
      refine Ev.step (fun k => ?_) h
      simp only [spec_AllRuns.l0]
      rw [if_pos (by omega), if_pos trivial, if_pos (by omega), l01In_eq, hw]
      unfold rd
      rw [toNat_cast, hb, wrap_succ (by omega)]
      rfl) (by
      intro i hi hb
      refine Ev.step (fun k => ?_) (bad (i + 1))
      simp only [spec_AllRuns.l0]
      rw [if_pos (by omega), if_pos trivial, if_pos (by omega), l01In_eq, hw]
      unfold rd
      rw [toNat_cast, hb, wrap_succ (by omega)]
      rfl) (by
      refine Ev.step (f := fun k => spec_AllRuns.j1 k n l true) (fun k => ?_) (Ev.step (f := fun k => spec_AllRuns.l1 k n l [] 0) (fun k => ?_) ?_)
      · simp only [spec_AllRuns.l0]
        rw [if_neg (by omega)]
      · simp only [spec_AllRuns.j1]
        rw [if_pos trivial]
      · refine ev_jn (fun k out a => spec_AllRuns.l1 k n l out a) (fun a => ordC (clearB l a)) n (by omega) (fun a => ordC_bd _) (fun out => (out, true)) ?_ ?_ ?_ n.toNat 0 [] (by omega) (by omega) (by simp)
        · intro a out ha hlt hlo hneg r h
          refine Ev.step (f := fun k => spec_AllRuns.l2 k n l out a 3) (fun k => ?_) (spec_down n l hl a (by omega) out (by omega) r (fun _ => h) (fun hp => by omega))
          simp only [spec_AllRuns.l1]
          rw [if_pos hlt]
        · intro a out ha hlt hlo hpos r h
          refine Ev.step (f := fun k => spec_AllRuns.l2 k n l out a 3) (fun k => ?_) (spec_down n l hl a (by omega) out (by omega) r (fun hp => by omega) (fun _ => h))
          simp only [spec_AllRuns.l1]
          rw [if_pos hlt]
        · intro a out ha
          refine Ev.of_succ (fun k => ?_)
          simp only [spec_AllRuns.l1]
          rw [if_neg (by omega)])
    rw [takenB_all] at key
    simp only [true_and]
    exact key
  · rw [if_neg (fun h => hs h.1), show sizeB n = false by simpa using hs]
    exact bad 0
theorem index_ev (l : List Bool) (hl : l.length ≤ 1000000) (b : Bool) : ∃ r, Ev (fun k => slices_Index_bool_bool.f k l b) r ∧ decide (r ≥ 0) = l.any (fun y => b == y) := by
  have h0 : ∀ d i, i + d = l.length → ∃ r, Ev (fun k => slices_Index_bool_bool.l0 k l b (l.length : Int) (i : Int)) r ∧ decide (r ≥ 0) = (l.drop i).any (fun y => b == y) := by
    intro d
    induction d with
    | zero =>
      intro i hi
      refine ⟨-1, Ev.of_succ (fun k => ?_), ?_⟩
      · simp only [slices_Index_bool_bool.l0]
        rw [if_neg (by omega)]
      · rw [List.drop_of_length_le (by omega)]; rfl
    | succ d ih =>
      intro i hi
      have hlt : i < l.length := by omega
      have hr : rdOf false l (i : Int) = l[i] := by unfold rdOf; rw [toNat_cast]; simp [List.getD_eq_getElem?_getD, List.getElem?_eq_getElem hlt]
      rw [List.drop_eq_getElem_cons hlt, List.any_cons]
      by_cases hb : (b == l[i]) = true
      · refine ⟨i, Ev.of_succ (fun k => ?_), ?_⟩
        · simp only [slices_Index_bool_bool.l0]
          rw [if_pos (by omega), if_pos (by omega), if_pos (by omega), hr, if_pos hb]
        · rw [hb, Bool.true_or]; simp
      · obtain ⟨r, h1, h2⟩ := ih (i + 1) (by omega)
        refine ⟨r, Ev.step (fun k => ?_) h1, ?_⟩
        · simp only [slices_Index_bool_bool.l0]
          rw [if_pos (by omega), if_pos (by omega), if_pos (by omega), hr, if_neg hb, wrap_succ (by omega)]
        · rw [show (b == l[i]) = false by simpa using hb, Bool.false_or, h2]
  obtain ⟨r, h1, h2⟩ := h0 l.length 0 (by omega)
  exact ⟨r, h1, by simpa using h2⟩
theorem contains_ev (l : List Bool) (hl : l.length ≤ 1000000) (b : Bool) : Ev (fun k => slices_Contains_bool_bool.f k l b) (l.any (fun y => b == y)) := by
  unfold slices_Contains_bool_bool.f
  obtain ⟨r, h1, h2⟩ := index_ev l hl b
  refine Ev.bind h1 ?_
  rw [h2]
  exact Ev.now _
def fitB (fr : List Bool) (a o : Int) : Bool := decide (a % pw o = 0) && decide (a + pw o ≤ (fr.length : Int)) && !((fr.take (a + pw o).toNat).drop a.toNat).any (fun y => false == y)
theorem impl_fit (fr : List Bool) (hl : fr.length ≤ 1000) (a : Int) (ha : 0 ≤ a ∧ a ≤ 1000) (out : List RunW) (b o : Int) (ho : 0 ≤ o ∧ o ≤ 3) (r : List RunW)
    (h : Ev (fun k => impl_joined.l1 k fr out a (if fitB fr a o = true then o else b) (o + 1)) r) : Ev (fun k => impl_joined.l1 k fr out a b o) r := by
  have hp := pw_pos o
  have hp8 := pw_le o
  have hw : wrap64 (a + pw o) = a + pw o := wrap64_id (by omega) (by omega)
  have hw2 : wrap64 (o + 1) = o + 1 := wrap64_id (by omega) (by omega)
  unfold fitB at h
  by_cases hm : a % pw o = 0
  · by_cases hlen : a + pw o ≤ (fr.length : Int)
    · refine Ev.step (f := fun k => (slices_Contains_bool_bool.f k ((fr.take ((a + pw o) : Int).toNat).drop (a : Int).toNat) false).bind fun t135 => (if t135 = true then (impl_joined.l1 k fr out a b (o + 1)) else (impl_joined.l1 k fr out a o (o + 1)))) (fun k => ?_) ?_
      · simp only [impl_joined.l1]
        rw [shl_eq o ho, hw, hw2, if_pos ho.2, if_pos ho.1, if_neg (by omega), tmod_nonneg ha.1 hp, if_pos hm, if_pos hlen, if_pos ha.1, if_pos (by omega)]
      · refine Ev.bind (contains_ev _ (by rw [List.length_drop, List.length_take]; omega) false) ?_
        rw [decide_eq_true hm, decide_eq_true hlen] at h
        simp only [Bool.true_and] at h
        cases hc : ((fr.take ((a + pw o) : Int).toNat).drop (a : Int).toNat).any (fun y => false == y) with
        | true => simp only [hc, Bool.not_true, Bool.false_eq_true, if_false] at h; simp only [if_true]; exact h
        | false => simp only [hc, Bool.not_false, if_true] at h; simp only [Bool.false_eq_true, if_false]; exact h
    · rw [decide_eq_true hm, decide_eq_false hlen] at h
      simp only [Bool.and_false, Bool.false_and, Bool.false_eq_true, if_false] at h
      refine Ev.step (fun k => ?_) h
      simp only [impl_joined.l1]
      rw [shl_eq o ho, hw, hw2, if_pos ho.2, if_pos ho.1, if_neg (by omega), tmod_nonneg ha.1 hp, if_pos hm, if_neg hlen]
  · rw [decide_eq_false hm] at h
    simp only [Bool.false_and, Bool.false_eq_true, if_false] at h
    refine Ev.step (fun k => ?_) h
    simp only [impl_joined.l1]
    rw [shl_eq o ho, hw2, if_pos ho.2, if_pos ho.1, if_neg (by omega), tmod_nonneg ha.1 hp, if_neg hm]
theorem ordC_up (C : Int → Bool) : (if C 3 = true then (3 : Int) else (if C 2 = true then 2 else (if C 1 = true then 1 else (if C 0 = true then 0 else -1)))) = ordC C := rfl
def joinB (fr : List Bool) : List RunW := jn (fun a => ordC (fitB fr a)) (fr.length : Int) fr.length 0 []
theorem joined_ev (fr : List Bool) (hl : fr.length ≤ 100) : Ev (fun k => impl_joined.f k fr) (joinB fr) := by
  unfold impl_joined.f
  refine ev_jn (fun k out a => impl_joined.l0 k fr out a) (fun a => ordC (fitB fr a)) (fr.length : Int) (by omega) (fun a => ordC_bd _) id ?_ ?_ ?_ fr.length 0 [] (by omega) (by omega) (by simp)
  · intro a out ha hlt hlo hneg r h
    refine Ev.step (f := fun k => impl_joined.l1 k fr out a (-1) 0) (fun k => ?_) ?_
    · simp only [impl_joined.l0]
      rw [if_pos hlt]
    refine impl_fit fr (by omega) a (by omega) out _ 0 (by omega) r (impl_fit fr (by omega) a (by omega) out _ 1 (by omega) r (impl_fit fr (by omega) a (by omega) out _ 2 (by omega) r (impl_fit fr (by omega) a (by omega) out _ 3 (by omega) r ?_)))
    rw [ordC_up]
    refine Ev.step (fun k => ?_) h
    simp only [impl_joined.l1]
    rw [if_neg (by omega), if_pos hneg, wrap64_id (n := a + 1) (by omega) (by omega)]
  · intro a out ha hlt hlo hpos r h
    have hb := ordC_bd (fitB fr a)
    have hp := pw_pos (ordC (fitB fr a))
    have hp8 := pw_le (ordC (fitB fr a))
    refine Ev.step (f := fun k => impl_joined.l1 k fr out a (-1) 0) (fun k => ?_) ?_
    · simp only [impl_joined.l0]
      rw [if_pos hlt]
    refine impl_fit fr (by omega) a (by omega) out _ 0 (by omega) r (impl_fit fr (by omega) a (by omega) out _ 1 (by omega) r (impl_fit fr (by omega) a (by omega) out _ 2 (by omega) r (impl_fit fr (by omega) a (by omega) out _ 3 (by omega) r ?_)))
    rw [ordC_up]
    refine Ev.step (fun k => ?_) h
    simp only [impl_joined.l1]
    rw [if_neg (by omega), if_neg (by omega), if_pos (by omega), if_pos hpos, shl_eq _ ⟨hpos, hb.2⟩, wrap64_id (n := a + pw (ordC (fitB fr a))) (by omega) (by omega)]
  · intro a out ha
    refine Ev.of_succ (fun k => ?_)
    simp only [impl_joined.l0]
    rw [if_neg (by omega)]
    rfl
def freeR (n : Nat) (l : List Int) : List Bool := (List.range n).map (fun j : Nat => !inB l (j : Int))
theorem freeR_len (n : Nat) (l : List Int) : (freeR n l).length = n := by simp [freeR]
theorem freeR_at (n : Nat) (l : List Int) (j : Nat) (h : j < n) : (freeR n l)[j]? = some (!inB l (j : Int)) := by simp [freeR, h]
theorem freeR_set (n : Nat) (l : List Int) (x : Int) (hx : 0 ≤ x) : (freeR n l).set x.toNat false = freeR n (l ++ [x]) := by
  apply List.ext_getElem?
  intro j
  by_cases hj : j < n
  · rw [List.getElem?_set, freeR_at n l j hj, freeR_at n (l ++ [x]) j hj, freeR_len]
    unfold inB
    rw [List.any_append]
    by_cases e : x.toNat = j
    · rw [if_pos e, if_pos (by omega)]
      have : x = (j : Int) := by omega
      simp [this]
    · rw [if_neg e]
      have : ¬ x = (j : Int) := by omega
      simp [this]
  · rw [List.getElem?_eq_none (by rw [List.length_set, freeR_len]; omega), List.getElem?_eq_none (by rw [freeR_len]; omega)]
theorem fit_clear (n : Int) (hn : n ≤ 32) (hn8 : n % 8 = 0) (l : List Int) (a : Int) (ha : 0 ≤ a) (han : a < n) (o : Int) : fitB (freeR n.toNat l) a o = clearB l a o := by
  unfold fitB clearB
  have hp := pw_pos o
  rw [freeR_len]
  by_cases hm : a % pw o = 0
  · have hle : a + pw o ≤ n := by
      have : pw o = 1 ∨ pw o = 2 ∨ pw o = 4 ∨ pw o = 8 := by unfold pw; repeat' split <;> omega
      rcases this with e | e | e | e <;> rw [e] at hm ⊢ <;> omega
    rw [decide_eq_true hm, decide_eq_true (show a + pw o ≤ (n.toNat : Int) by omega), Bool.true_and, Bool.true_and, Bool.and_true]
    have e : ((freeR n.toNat l).take (a + pw o).toNat).drop a.toNat = (List.range (pw o).toNat).map (fun j : Nat => !inB l (a + (j : Int))) := by
      apply List.ext_getElem?
      intro j
      by_cases hj : j < (pw o).toNat
      · rw [List.getElem?_drop, List.getElem?_take_of_lt (by omega), freeR_at _ _ _ (by omega)]
        simp only [List.getElem?_map, List.getElem?_range hj, Option.map_some]
        rw [show ((a.toNat + j : Nat) : Int) = a + (j : Int) by omega]
      · rw [List.getElem?_eq_none (by rw [List.length_drop, List.length_take, freeR_len]; omega), List.getElem?_eq_none (by simp; omega)]
    rw [e, List.any_map, List.all_eq_not_any_not]
    congr 1
    apply List.any_congr rfl
    intro x
    simp
  · rw [decide_eq_false hm]; simp
theorem joinB_free (n : Int) (h : sizeB n = true) (l : List Int) : joinB (freeR n.toNat l) = runsOf n l := by
  obtain ⟨h1, h2, h3⟩ := sizeB_bd h
  unfold joinB runsOf
  rw [freeR_len, show ((n.toNat : Nat) : Int) = n by omega]
  refine jn_congr _ _ n (fun a ha han => ?_) _ _ _ (by omega)
  unfold ordC
  rw [fit_clear n h2 h3 l a ha han, fit_clear n h2 h3 l a ha han, fit_clear n h2 h3 l a ha han, fit_clear n h2 h3 l a ha han]
def setAll (l : List Int) (acc : List Bool) : List Bool := l.foldl (fun s x => s.set x.toNat false) acc
theorem setAll_len (l : List Int) (acc : List Bool) : (setAll l acc).length = acc.length := by
  unfold setAll
  induction l generalizing acc with
  | nil => rfl
  | cons x l ih => rw [List.foldl_cons, ih, List.length_set]
theorem setAll_succ (l : List Int) (acc : List Bool) (i : Nat) (h : i < l.length) : setAll (l.take (i + 1)) acc = (setAll (l.take i) acc).set (l.getD i 0).toNat false := by
  unfold setAll
  rw [List.take_succ_eq_append_getElem h, List.foldl_append]
  simp [List.getD_eq_getElem?_getD, List.getElem?_eq_getElem h]
theorem setAll_free (n : Nat) (l l' : List Int) (h : ∀ x ∈ l, 0 ≤ x) : setAll l (freeR n l') = freeR n (l' ++ l) := by
  induction l generalizing l' with
  | nil => rw [List.append_nil]; rfl
  | cons x l ih =>
    have := ih (l' ++ [x]) (fun y hy => h y (List.mem_cons_of_mem _ hy))
    rw [List.append_assoc] at this
    rw [show l' ++ x :: l = l' ++ ([x] ++ l) from rfl, ← this, ← freeR_set n l' x (h x List.mem_cons_self)]
    rfl
theorem jn_len (N : Int → Int) (n : Int) : ∀ f a out, (jn N n f a out).length ≤ out.length + f := by
  intro f
  induction f with
  | zero => intro a out; simp [jn]
  | succ f ih =>
    intro a out
    unfold jn
    split
    · split
      · have := ih (a + 1) out; omega
      · have := ih (a + pw (N a)) (out ++ [⟨a, N a⟩]); simp only [List.length_append, List.length_cons, List.length_nil] at this; omega
    · omega
theorem impl_AllRuns_ev (n : Int) (l : List Int) (hl : l.length ≤ 1048576) : Ev (fun k => impl_AllRuns.f k n l) (if sizeB n = true ∧ takenB n l = true then (runsOf n l, true) else ([], false)) := by
  unfold impl_AllRuns.f
  rw [isSize_eq]
  simp only [Option.bind_some]
  by_cases hs : sizeB n = true
  · obtain ⟨hn1, hn2, hn3⟩ := sizeB_bd hs
    simp only [hs, if_true, if_pos (show 0 ≤ n by omega), if_pos (show n.toNat ≤ 281474976710656 by omega), Option.bind_some, true_and, List.length_replicate]
    have hw : wrap64 (n - 1) = n - 1 := wrap64_id (by omega) (by omega)
    have key := ev_copy0 (fun k acc i => impl_AllRuns.l0 k n l acc (n.toNat : Int) (i : Int)) n.toNat (fun _ => true) (fun acc => if takenB n l = true then (joinB (setAll l acc), true) else ([], false)) (by
      intro i acc hi ha r h
      refine Ev.step (fun k => ?_) h
      simp only [impl_AllRuns.l0]
      rw [if_pos (by omega), if_pos (by omega), if_pos (by omega), wrap_succ (by omega), toNat_cast]) (by
      intro acc hacc
      refine Ev.step (f := fun k => impl_AllRuns.l1 k n acc l (l.length : Int) 0) (fun k => ?_) ?_
      · simp only [impl_AllRuns.l0]
        rw [if_neg (by omega)]
      · have key := ev_all0 (fun k i => impl_AllRuns.l1 k n (setAll (l.take i) acc) l (l.length : Int) (i : Int)) l.length (fun i => decide (0 ≤ l.getD i 0 ∧ l.getD i 0 ≤ n - 1)) ([], false) (joinB (setAll l acc), true) (by
          intro i hi hb r h
          rw [setAll_succ l acc i hi] at h
          refine Ev.step (fun k => ?_) h
          simp only [decide_eq_true_eq] at hb
          simp only [impl_AllRuns.l1]
          rw [if_pos (by omega), if_pos (by omega), if_pos (by omega), within_eq, hw]
          unfold rd
          rw [toNat_cast]
          simp only [Option.bind_some]
          rw [if_pos (by simpa using hb), if_pos hb.1, if_pos (by rw [setAll_len]; omega), wrap_succ (by omega)]) (by
          intro i hi hb
          refine Ev.of_succ (fun k => ?_)
          simp only [impl_AllRuns.l1]
          rw [if_pos (by omega), if_pos (by omega), if_pos (by omega), within_eq, hw]
          unfold rd
          rw [toNat_cast, hb]
          rfl) (by
          refine Ev.step (f := fun k => (impl_joined.f k (setAll l acc)).bind fun t147 => (some (t147, true))) (fun k => ?_) ?_
          · simp only [impl_AllRuns.l1]
            rw [if_neg (by omega), List.take_length]
          · exact Ev.bind (joined_ev _ (by rw [setAll_len]; omega)) (Ev.now _))
        rw [takenB_all] at key
        exact key) (List.replicate n.toNat false) (by simp)
    have e0 : (List.range n.toNat).map (fun _ : Nat => true) = freeR n.toNat [] := by
      unfold freeR inB
      simp
    rw [e0] at key
    by_cases ht : takenB n l = true
    · simp only [ht, if_true] at key ⊢
      rw [setAll_free n.toNat l [] (fun x hx => by unfold takenB at ht; have := List.all_eq_true.1 ht x hx; simp only [decide_eq_true_eq] at this; exact this.1), List.nil_append, joinB_free n hs] at key
      exact key
    · simp only [ht] at key ⊢
      exact key
  · rw [if_neg (fun h => hs h.1), show sizeB n = false by simpa using hs]
    exact Ev.now _
def newMem (n : Nat) : List (List Int) := List.replicate n (List.replicate 4 0)
theorem newMem_succ (n : Nat) : newMem n ++ [List.replicate 4 0] = newMem (n + 1) := by unfold newMem; exact List.replicate_succ'.symm
theorem spec_new (n : Int) (hn : n ≤ 32) : ∀ (d i : Nat), (n ≤ (i : Int) + d) → (i : Int) ≤ n → Ev (fun k => spec_MemoryNew.l0 k n (newMem i) (i : Int)) (newMem n.toNat, true) := by
  intro d
  induction d with
  | zero =>
    intro i h1 h2
    refine Ev.of_succ (fun k => ?_)
    simp only [spec_MemoryNew.l0]
    rw [if_neg (by omega), show n.toNat = i by omega]
  | succ d ih =>
    intro i h1 h2
    by_cases h : (i : Int) < n
    · refine Ev.step (fun k => ?_) (ih (i + 1) (by omega) (by omega))
      simp only [spec_MemoryNew.l0]
      rw [if_pos h, if_pos (by omega), if_pos (by unfold newMem; rw [List.length_replicate]; omega), newMem_succ, wrap_succ (by omega)]
    · refine Ev.of_succ (fun k => ?_)
      simp only [spec_MemoryNew.l0]
      rw [if_neg h, show n.toNat = i by omega]
def newB (n : Int) : List (List Int) × Bool := if sizeB n = true then (newMem n.toNat, true) else ([], false)
theorem spec_New_ev (n : Int) : Ev (fun k => spec_MemoryNew.f k n) (newB n) := by
  unfold spec_MemoryNew.f newB
  rw [l02Frames_eq]
  simp only [Option.bind_some]
  by_cases hs : sizeB n = true
  · obtain ⟨h1, h2, h3⟩ := sizeB_bd hs
    simp only [if_pos hs]
    exact spec_new n h2 n.toNat 0 (by omega) (by omega)
  · simp only [if_neg hs]; exact Ev.now _
theorem impl_new (n : Int) (hn : n ≤ 32) : ∀ (d i : Nat), (n ≤ (i : Int) + d) → (i : Int) ≤ n → Ev (fun k => impl_MemoryNew.l0 k (newMem i) n (i : Int)) (newMem n.toNat, true) := by
  intro d
  induction d with
  | zero =>
    intro i h1 h2
    refine Ev.of_succ (fun k => ?_)
    simp only [impl_MemoryNew.l0]
    rw [if_neg (by omega), show n.toNat = i by omega]
  | succ d ih =>
    intro i h1 h2
    by_cases h : (i : Int) < n
    · refine Ev.step (fun k => ?_) (ih (i + 1) (by omega) (by omega))
      simp only [impl_MemoryNew.l0]
      rw [if_pos h, if_pos (by omega), if_pos (by unfold newMem; rw [List.length_replicate]; omega), newMem_succ, wrap_succ (by omega)]
    · refine Ev.of_succ (fun k => ?_)
      simp only [impl_MemoryNew.l0]
      rw [if_neg h, show n.toNat = i by omega]
theorem impl_New_ev (n : Int) : Ev (fun k => impl_MemoryNew.f k n) (newB n) := by
  unfold impl_MemoryNew.f newB
  rw [isSize_eq]
  simp only [Option.bind_some]
  by_cases hs : sizeB n = true
  · obtain ⟨h1, h2, h3⟩ := sizeB_bd hs
    simp only [if_pos hs]
    exact impl_new n h2 n.toNat 0 (by omega) (by omega)
  · simp only [if_neg hs]; exact Ev.now _
theorem newB_small (n : Int) : Small (newB n).1 ∧ totSS (newB n).1 ≤ 128 := by
  unfold newB
  by_cases hs : sizeB n = true
  · obtain ⟨h1, h2, h3⟩ := sizeB_bd hs
    rw [if_pos hs]
    refine ⟨⟨by unfold newMem; rw [List.length_replicate]; omega, fun x hx => ?_⟩, ?_⟩
    · rw [List.eq_of_mem_replicate hx]; decide
    · show totSS (newMem n.toNat) ≤ 128
      unfold totSS newMem
      rw [List.map_replicate, List.sum_replicate_nat, List.length_replicate]
      omega
  · rw [if_neg hs]
    exact ⟨⟨by decide, fun x hx => by cases hx⟩, by decide⟩
abbrev MachW := List (List Int) × List Int × List RunW × List SlabW × List ObjW × Int × List SpcW × List SlotW × List Int × List Int × Bool
def sp0 : SpcW := ⟨false, -1, []⟩
def kept2 (n : Int) : List Int := ((List.replicate n.toNat (0 : Int)).set 0 1).set 1 1
def runs2 (n : Int) : List RunW × Bool := if sizeB n = true ∧ takenB n [0, 1] = true then (runsOf n [0, 1], true) else ([], false)
def newM (n s : Int) : MachW := if sizeB n = true ∧ (0 ≤ s ∧ s ≤ 16) then (newMem n.toNat, kept2 n, (runs2 n).1, [], [], 1, List.replicate 4 sp0, List.replicate s.toNat z138, [], [], true) else ([], [], [], [], [], 0, [], [], [], [], false)
theorem spec_sp (x0 : List (List Int)) (x1 : List Int) (x2 : List RunW) (x5 : Int) (x7 : List SlotW) : ∀ d i : Nat, i + d = 4 → Ev (fun k => spec_MachineNew.l0 k (i : Int) x0 x1 x2 x5 (List.replicate i sp0) x7) (x0, x1, x2, [], [], x5, List.replicate 4 sp0, x7, [], [], true) := by
  intro d
  induction d with
  | zero =>
    intro i h
    refine Ev.of_succ (fun k => ?_)
    simp only [spec_MachineNew.l0]
    rw [if_neg (by omega), show i = 4 by omega]
  | succ d ih =>
    intro i h
    refine Ev.step (fun k => ?_) (ih (i + 1) (by omega))
    simp only [spec_MachineNew.l0]
    rw [if_pos (by omega), if_pos (by rw [List.length_replicate]; omega), wrap_succ (by omega), show List.replicate (i + 1) sp0 = List.replicate i sp0 ++ [sp0] from List.replicate_succ']
    rfl
theorem impl_sp (x0 : List (List Int)) (x1 : List Int) (x2 : List RunW) (x5 : Int) (x7 : List SlotW) : ∀ d i : Nat, i + d = 4 → Ev (fun k => impl_MachineNew.l0 k (i : Int) x0 x1 x2 x5 (List.replicate i sp0) x7) (x0, x1, x2, [], [], x5, List.replicate 4 sp0, x7, [], [], true) := by
  intro d
  induction d with
  | zero =>
    intro i h
    refine Ev.of_succ (fun k => ?_)
    simp only [impl_MachineNew.l0]
    rw [if_neg (by omega), show i = 4 by omega]
  | succ d ih =>
    intro i h
    refine Ev.step (fun k => ?_) (ih (i + 1) (by omega))
    simp only [impl_MachineNew.l0]
    rw [if_pos (by omega), if_pos (by rw [List.length_replicate]; omega), wrap_succ (by omega), show List.replicate (i + 1) sp0 = List.replicate i sp0 ++ [sp0] from List.replicate_succ']
    rfl
theorem spec_Machine_ev (n s : Int) : Ev (fun k => spec_MachineNew.f k n s) (newM n s) := by
  unfold spec_MachineNew.f newM
  refine Ev.bind (spec_New_ev n) ?_
  unfold newB
  by_cases hs : sizeB n = true
  · obtain ⟨h1, h2, h3⟩ := sizeB_bd hs
    simp only [if_pos hs, if_true, l01In_eq, Option.bind_some]
    by_cases hw : 0 ≤ s ∧ s ≤ 16
    · rw [if_pos ⟨hs, hw⟩, decide_eq_true hw]
      have hlen : (List.replicate n.toNat (0 : Int)).length = n.toNat := List.length_replicate
      refine Ev.step (f := fun k => (spec_AllRuns.f k n [0, 1]).bind fun t => spec_MachineNew.l0 k 0 (newMem n.toNat) (kept2 n) t.1 1 [] (List.replicate s.toNat z138)) (fun k => ?_) (Ev.bind (spec_AllRuns_ev n [0, 1] (by decide)) ?_)
      · simp only [spec_MachineNew.j0, Bool.not_true, Bool.false_eq_true, if_false, Option.bind_some, hlen]
        rw [if_pos (by omega), if_pos (by omega), if_pos (by omega), if_pos (by omega), if_pos (by omega), if_pos (by omega)]
        rfl
      · exact spec_sp _ _ _ _ _ 4 0 rfl
    · rw [if_neg (fun h => hw h.2), decide_eq_false hw]
      refine Ev.of_succ (fun k => ?_)
      simp only [spec_MachineNew.j0, Bool.not_false, if_true]
  · simp only [if_neg hs, Bool.false_eq_true, if_false]
    rw [if_neg (fun h => hs h.1)]
    refine Ev.of_succ (fun k => ?_)
    simp only [spec_MachineNew.j0, if_true]
theorem impl_Machine_ev (n s : Int) : Ev (fun k => impl_MachineNew.f k n s) (newM n s) := by
  unfold impl_MachineNew.f newM
  refine Ev.bind (impl_New_ev n) ?_
  unfold newB
  by_cases hs : sizeB n = true
  · obtain ⟨h1, h2, h3⟩ := sizeB_bd hs
    simp only [if_pos hs, if_true, within_eq, Option.bind_some]
    by_cases hw : 0 ≤ s ∧ s ≤ 16
    · rw [if_pos ⟨hs, hw⟩, decide_eq_true hw]
      have hlen : (List.replicate n.toNat (0 : Int)).length = n.toNat := List.length_replicate
      refine Ev.step (f := fun k => (impl_AllRuns.f k n [0, 1]).bind fun t => impl_MachineNew.l0 k 0 (newMem n.toNat) (kept2 n) t.1 1 [] (List.replicate s.toNat z138)) (fun k => ?_) (Ev.bind (impl_AllRuns_ev n [0, 1] (by decide)) ?_)
      · simp only [impl_MachineNew.j0, Bool.not_true, Bool.false_eq_true, if_false, Option.bind_some, hlen]
        rw [if_pos (by omega), if_pos (by omega), if_pos (by omega), if_pos (by omega), if_pos (by omega), if_pos (by omega)]
        rfl
      · exact impl_sp _ _ _ _ _ 4 0 rfl
    · rw [if_neg (fun h => hw h.2), decide_eq_false hw]
      refine Ev.of_succ (fun k => ?_)
      simp only [impl_MachineNew.j0, Bool.not_false, if_true]
  · simp only [if_neg hs, Bool.false_eq_true, if_false]
    rw [if_neg (fun h => hs h.1)]
    refine Ev.of_succ (fun k => ?_)
    simp only [impl_MachineNew.j0, if_true]
theorem runs2_len (n : Int) : (runs2 n).1.length ≤ 256 := by
  unfold runs2
  by_cases hb : sizeB n = true ∧ takenB n [0, 1] = true
  · rw [if_pos hb]
    have := jn_len (fun a => ordC (clearB [0, 1] a)) n n.toNat 0 []
    have h3 := sizeB_bd hb.1
    simp only [List.length_nil] at this
    show (runsOf n [0, 1]).length ≤ 256
    unfold runsOf
    omega
  · rw [if_neg hb]; simp
structure TinyM (x : MachW) : Prop where
  s0 : Small x.1
  t0 : totSS x.1 ≤ 128
  s1 : x.2.1.length ≤ 1000
  s2 : x.2.2.1.length ≤ 1000
  s3 : x.2.2.2.1 = []
  s4 : x.2.2.2.2.1 = []
  s6 : x.2.2.2.2.2.2.1.length ≤ 1000
  t6 : ∀ y ∈ x.2.2.2.2.2.2.1, y.f2 = []
  s7 : SmallW x.2.2.2.2.2.2.2.1
  t7 : totSl x.2.2.2.2.2.2.2.1 ≤ 16
  s8 : x.2.2.2.2.2.2.2.2.1 = []
  s9 : x.2.2.2.2.2.2.2.2.2.1 = []
theorem newM_tiny (n s : Int) : TinyM (newM n s) := by
  unfold newM
  by_cases h : sizeB n = true ∧ (0 ≤ s ∧ s ≤ 16)
  · rw [if_pos h]
    have hn := newB_small n
    unfold newB at hn
    rw [if_pos h.1] at hn
    have h3 := sizeB_bd h.1
    have hr := runs2_len n
    refine ⟨hn.1, hn.2, ?_, by show (runs2 n).1.length ≤ 1000; omega, rfl, rfl, by show (List.replicate 4 sp0).length ≤ 1000; decide, ?_, ⟨?_, ?_⟩, ?_, rfl, rfl⟩
    · show (kept2 n).length ≤ 1000
      unfold kept2
      rw [List.length_set, List.length_set, List.length_replicate]; omega
    · intro y hy
      rw [List.eq_of_mem_replicate hy]; rfl
    · show (List.replicate s.toNat z138).length ≤ 1048576
      rw [List.length_replicate]; omega
    · intro y hy
      rw [List.eq_of_mem_replicate hy]; decide
    · show totSl (List.replicate s.toNat z138) ≤ 16
      unfold totSl
      rw [List.map_replicate, List.sum_replicate_nat]
      show s.toNat * 1 ≤ 16
      omega
  · rw [if_neg h]
    exact ⟨⟨by decide, fun x hx => (by cases hx)⟩, by decide, by decide, by decide, rfl, rfl, by decide, fun x hx => (by cases hx), ⟨by decide, fun x hx => (by cases hx)⟩, by decide, rfl, rfl⟩
theorem FnExactMachineNew (a0 : Int) (_w0 : (Lit.int .i64 a0).wf = true) (a1 : Int) (_w1 : (Lit.int .i64 a1).wf = true) : (∃ (k : Nat) (u0 : List (List Int)) (u1 : List Int) (u2 : List S124) (u3 : List S131) (u4 : List S134) (u6 : List S79) (u7 : List S138) (u8 : List Int) (u9 : List Int) (xu : Int) (v0 : List (List Int)) (v1 : List Int) (v2 : List S124) (v3 : List S131) (v4 : List S134) (v6 : List S79) (v7 : List S138) (v8 : List Int) (v9 : List Int) (xv : Int) (bb : Bool) (r0 : List (List Int)) (r1 : List Int) (r2 : List S124) (r3 : List S131) (r4 : List S134) (r6 : List S79) (r7 : List S138) (r8 : List Int) (r9 : List Int) (m0 : Int) (m1 : Int) (m2 : Int) (m3 : Int) (m4 : Int) (m6 : Int) (m7 : Int) (m8 : Int) (m9 : Int), (spec_MachineNew.f k a0 a1 = some (u0, u1, u2, u3, u4, xu, u6, u7, u8, u9, bb)) ∧ (impl_MachineNew.f k a0 a1 = some (v0, v1, v2, v3, v4, xv, v6, v7, v8, v9, bb)) ∧ (laws_eqMachine.f k v0 v1 v2 v3 v4 xv v6 v7 v8 v9 u0 u1 u2 u3 u4 xu u6 u7 u8 u9 = some true) ∧ (laws_markIntSS.f k v0 1 = some (m0, r0)) ∧ (laws_markIntS.f k v1 m0 = some (m1, r1)) ∧ (laws_markRunS.f k v2 m1 = some (m2, r2)) ∧ (laws_markSlabS.f k v3 m2 = some (m3, r3)) ∧ (laws_markObjectS.f k v4 m3 = some (m4, r4)) ∧ (laws_markSpaceS.f k v6 m4 = some (m6, r6)) ∧ (laws_markSlotS.f k v7 m6 = some (m7, r7)) ∧ (laws_markIntS.f k v8 m7 = some (m8, r8)) ∧ (laws_markIntS.f k v9 m8 = some (m9, r9)) ∧ (laws_heldMachine.f k r0 r1 r2 r3 r4 xv r6 r7 r8 r9 1 = some m9) ∧ (¬ m9 < 0)) := by
  have ht := newM_tiny a0 a1
  have h1 := spec_Machine_ev a0 a1
  have h2 := impl_Machine_ev a0 a1
  generalize newM a0 a1 = x at *
  obtain ⟨x0, x1, x2, x3, x4, x5, x6, x7, x8, x9, b⟩ := x
  obtain ⟨s0, t0, s1, s2, s3, s4, s6, t6, s7, t7, s8, s9⟩ := ht
  dsimp only at s0 t0 s1 s2 s3 s4 s6 t6 s7 t7 s8 s9
  subst s3 s4 s8 s9
  have q3 : totSb ([] : List SlabW) = 0 := rfl
  have p6 : SmallPw x6 := ⟨by omega, fun y hy => by rw [t6 y hy]; decide⟩
  have e : Ev (fun k => laws_eqMachine.f k x0 x1 x2 [] [] x5 x6 x7 [] [] x0 x1 x2 [] [] x5 x6 x7 [] []) true := by
    unfold laws_eqMachine.f
    refine Ev.bind (eqIntSS_refl x0 s0) ?_
    simp only [if_true]
    refine Ev.bind (eqIntS_refl x1 (by omega)) ?_
    simp only [if_true]
    refine Ev.bind (eqRunS_refl x2 (by omega)) ?_
    simp only [if_true]
    refine Ev.bind (eqSlabS_refl [] ⟨by decide, fun x hx => by cases hx⟩) ?_
    simp only [if_true]
    refine Ev.bind (eqObjectS_refl [] (by decide)) ?_
    simp only [if_true]
    refine Ev.bind (eqSpaceS_refl x6 p6) ?_
    simp only [if_true]
    refine Ev.bind (eqSlotS_refl x7 s7) ?_
    simp only [if_true]
    refine Ev.bind (eqIntS_refl [] (by decide)) ?_
    simp only [if_true]
    refine Ev.bind (eqIntS_refl [] (by decide)) ?_
    simp only [if_true]
    exact Ev.now true
  have k0 := markIntSS_ev x0 s0 1 (by omega) (by omega)
  have g0 := heldIntSS_ev x0 s0 1 (by omega) (by omega)
  generalize hm0 : (1 : Int) + (totSS x0 : Nat) = m0 at k0 g0
  have k1 := markIntS_ev x1 (by omega) m0 (by omega) (by omega)
  have g1 := heldIntS_ev x1.length (by omega) m0 (by omega) (by omega)
  generalize hm1 : m0 + (x1.length : Int) = m1 at k1 g1
  have k2 := markRunS_ev x2 (by omega) m1 (by omega) (by omega)
  have g2 := heldRunS_ev x2.length (by omega) m1 (by omega) (by omega)
  generalize hm2 : m1 + 2 * (x2.length : Int) = m2 at k2 g2
  have k3 := markSlabS_ev [] ⟨by decide, fun x hx => by cases hx⟩ m2 (by omega) (by rw [q3]; omega)
  have g3 := heldSlabS_ev [] ⟨by decide, fun x hx => by cases hx⟩ m2 (by omega) (by rw [q3]; omega)
  rw [q3] at k3 g3
  have k4 := markObjectS_nil (m2 + ((0 : Nat) : Int))
  have g4 := heldObjectS_nil (m2 + ((0 : Nat) : Int))
  have k6 := markSpaceS_ev x6 (by omega) t6 (m2 + ((0 : Nat) : Int)) (by omega) (by omega)
  have g6 := heldSpaceS_ev x6 (by omega) (m2 + ((0 : Nat) : Int)) (by omega) (by omega)
  generalize hm6 : m2 + ((0 : Nat) : Int) + 2 * (x6.length : Int) = m6 at k6 g6
  have k7 := markSlotS_ev x7 s7 m6 (by omega) (by omega)
  have g7 := heldSlotS_ev x7 s7 m6 (by omega) (by omega)
  generalize hm7 : m6 + ((totSl x7 : Nat) : Int) = m7 at k7 g7
  have k8 := markIntS_ev [] (by decide) m7 (by omega) (by omega)
  have g8 := heldIntS_ev 0 (by decide) m7 (by omega) (by omega)
  have k9 := markIntS_ev [] (by decide) (m7 + ((([] : List Int).length : Nat) : Int)) (by show 0 ≤ m7 + 0; omega) (by show m7 + 0 ≤ _; omega)
  have g9 := heldIntS_ev 0 (by decide) (m7 + ((0 : Nat) : Int)) (by omega) (by omega)
  have gm : Ev (fun k => laws_heldMachine.f k (markSS 1 x0) (upInt m0 x1.length) (upRun m1 x2.length) (markSb m2 []) [] x5 (markSp (m2 + ((0 : Nat) : Int)) x6) (markSl m6 x7) (upInt m7 0) (upInt (m7 + ((0 : Nat) : Int)) 0) 1) (m7 + ((0 : Nat) : Int) + ((0 : Nat) : Int)) := by
    unfold laws_heldMachine.f
    refine Ev.bind g0 ?_
    simp only [if_neg (show ¬ m0 < 0 by omega)]
    refine Ev.bind g1 ?_
    simp only [if_neg (show ¬ m1 < 0 by omega)]
    refine Ev.bind g2 ?_
    simp only [if_neg (show ¬ m2 < 0 by omega)]
    refine Ev.bind g3 ?_
    simp only [if_neg (show ¬ m2 + ((0 : Nat) : Int) < 0 by omega)]
    refine Ev.bind g4 ?_
    simp only [if_neg (show ¬ m2 + ((0 : Nat) : Int) < 0 by omega)]
    refine Ev.bind g6 ?_
    simp only [if_neg (show ¬ m6 < 0 by omega)]
    refine Ev.bind g7 ?_
    simp only [if_neg (show ¬ m7 < 0 by omega)]
    refine Ev.bind g8 ?_
    simp only [if_neg (show ¬ m7 + ((0 : Nat) : Int) < 0 by omega)]
    refine Ev.bind g9 ?_
    simp only [if_neg (show ¬ m7 + ((0 : Nat) : Int) + ((0 : Nat) : Int) < 0 by omega)]
    exact Ev.now _
  obtain ⟨n1, e1⟩ := h1
  obtain ⟨n2, e2⟩ := h2
  obtain ⟨n3, e3⟩ := e
  obtain ⟨j0, i0⟩ := k0
  obtain ⟨j1, i1⟩ := k1
  obtain ⟨j2, i2⟩ := k2
  obtain ⟨j3, i3⟩ := k3
  obtain ⟨j4, i4⟩ := k4
  obtain ⟨j6, i6⟩ := k6
  obtain ⟨j7, i7⟩ := k7
  obtain ⟨j8, i8⟩ := k8
  obtain ⟨j9, i9⟩ := k9
  obtain ⟨jm, im⟩ := gm
  have b1 : n1 ≤ n1 + n2 + n3 + j0 + j1 + j2 + j3 + j4 + j6 + j7 + j8 + j9 + jm := by omega
  refine ⟨n1 + n2 + n3 + j0 + j1 + j2 + j3 + j4 + j6 + j7 + j8 + j9 + jm, x0, x1, x2, [], [], x6, x7, [], [], x5, x0, x1, x2, [], [], x6, x7, [], [], x5, b, markSS 1 x0, upInt m0 x1.length, upRun m1 x2.length, markSb m2 [], [], markSp (m2 + ((0 : Nat) : Int)) x6, markSl m6 x7, upInt m7 0, upInt (m7 + ((0 : Nat) : Int)) 0, m0, m1, m2, m2 + ((0 : Nat) : Int), m2 + ((0 : Nat) : Int), m6, m7, m7 + ((0 : Nat) : Int), m7 + ((0 : Nat) : Int) + ((0 : Nat) : Int), e1 _ b1, e2 _ (by omega), e3 _ (by omega), i0 _ (by omega), i1 _ (by omega), i2 _ (by omega), i3 _ (by omega), i4 _ (by omega), i6 _ (by omega), i7 _ (by omega), i8 _ (by omega), i9 _ (by omega), im _ (by omega), by omega⟩
end Go.Proofs.Ytngonhgghncdiaa.Pure
end
