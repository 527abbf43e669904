/- What the proof of FnExactTakePartSaid rests on, part 5: plain lemmas and contracts of the functions that the law reaches (in part written by a printing program over the translation). No condition. -/
import Derived.Test.YtdpejnckojhgjaaBFnExactTakePartd
import Derived.RowKit
import Derived.Laws.BitsLemmas
section
namespace Go.Proofs.Ytdpejnckojhgjaa.P
open Go.RowKit Go.Proofs.YtdpejnckojhgjaaW.PrintWords Go.Proofs.YtdpejnckojhgjaaW.PrintLast Go.Proofs.YtdpejnckojhgjaaW.PrintMore
attribute [local go_sem] max2_int min2_int max_two min_two max_three min_three max_four min_four   -- for this text's walks alone
set_option linter.unusedVariables false
set_option linter.unusedSimpArgs false

/-! ### impl_copySlabs: function 116 -/
def impl_copySlabs.l0 : Nat → List (S135) → List (S135) → Int → Int → Option ((List (S135)))
  | 0, _, _, _, _ => none
  | k + 1, x3, x6, x7, x8 => if x8 < x7 then (if 0 ≤ x8 then (if x8 < (x6.length : Int) then (if ([] : List Bool).length + ((rd_T135 x6 x8).f2).length < 140737488355328 then (if x3.length < 3518437208883 then (impl_copySlabs.l0 k (x3 ++ [(⟨(rd_T135 x6 x8).f0, (rd_T135 x6 x8).f1, (([] : List Bool) ++ ((rd_T135 x6 x8).f2))⟩ : S135)]) x6 x7 (wrap64 (x8 + 1))) else (none)) else (none)) else (none)) else (none)) else (some x3)
def impl_copySlabs.f (k : Nat) (l0 : List (S135)) : Option ((List (S135))) := impl_copySlabs.l0 k ([] : List (S135)) l0 (l0.length : Int) 0
theorem impl_copySlabs.mono_l : ∀ k, (∀ y0 y1 y2 y3, LeO (impl_copySlabs.l0 k y0 y1 y2 y3) (impl_copySlabs.l0 (k + 1) y0 y1 y2 y3))
  | 0 => fun _ _ _ _ r h => by simp [impl_copySlabs.l0] at h
  | k + 1 => by
    have ih0 := impl_copySlabs.mono_l k
    · intro y0 y1 y2 y3
      unfold impl_copySlabs.l0
      repeat' first
      | (with_reducible exact ih0 _ _ _ _)
      | (with_reducible exact LeO.refl _)
      | (with_reducible exact LeO.none _)
      | (with_reducible refine LeO.ite ?_ ?_)
      | (with_reducible refine LeO.bind ?_ (fun _ => ?_))
      | exact ih0 _ _ _ _
      | exact LeO.none _
      | refine LeO.ite ?_ ?_
      | refine LeO.bind ?_ (fun _ => ?_)
theorem impl_copySlabs.mono : ∀ a0 k, LeO (impl_copySlabs.f k a0) (impl_copySlabs.f (k + 1) a0) := by
  intro a0 k
  have ih0 := impl_copySlabs.mono_l k
  unfold impl_copySlabs.f
  repeat' first
      | (with_reducible exact ih0 _ _ _ _)
      | (with_reducible exact LeO.refl _)
      | (with_reducible exact LeO.none _)
      | (with_reducible refine LeO.ite ?_ ?_)
      | (with_reducible refine LeO.bind ?_ (fun _ => ?_))
      | exact ih0 _ _ _ _
      | exact LeO.none _
      | refine LeO.ite ?_ ?_
      | refine LeO.bind ?_ (fun _ => ?_)
set_option maxHeartbeats 8000000 in
set_option maxRecDepth 100000 in
theorem impl_copySlabs.calls (k : Nat) (A0 : Option Addr) (c0 : Nat) (l0 : List (S135)) (r : List (S135)) (w : World) (hr0 : Kd.C k135 w A0 l0.length l0) (hc0 : l0.length ≤ c0) (h : impl_copySlabs.f k l0 = some r) :
    Calls Try.prog 116 #[.slice A0 l0.length c0] w fun e w' => ∃ v0_ : Value, e = .returned (v0_) ∧ Kd.S k135 135 w' w.heap.size (fun _ => True) v0_ r ∧ Below w.heap.size w w' := by
  have hu135 := Try.underlying135
  have HR0 := Aside0.mk hr0
  have HC0 := Aside0.mk hc0
  clear hr0 hc0
  have HB := Aside0.mk (Below.refl w.heap.size w)
  have H : (impl_copySlabs.l0 k ([] : List (S135)) l0 (l0.length : Int) 0) = some r := h
  clear h
  have H' := Aside0.mk H
  clear H
  go_enter Try.func116, Try.ntmps116
  go_wp2
  go_loopg [3, 8] k (fun kq v3 v8 w' => ∃ (x3_1 : List (S135)) (x8_1 : Int), v8 = .int .i64 x8_1 ∧ Aside0 (impl_copySlabs.l0 kq x3_1 l0 (l0.length : Int) x8_1 = some r) ∧ Aside0 (kq ≤ k) ∧ Aside0 (Kd.S k135 135 w' w.heap.size (fun _ => True) v3 x3_1) ∧ Aside0 (Below w.heap.size w w'))
  case atStart => exact ⟨(([] : List (S135))), (0), (by first | rfl | (simp; done) | (simp [*]; done)), H', ⟨Nat.le_refl _⟩, ⟨by first | exact Kd.S_nil _ _ _ _ _ | exact Kd.N_nil _ _ _ _ _ | exact Kd.V_nil _ _ _ _ _ | exact Kd.Q_nil _ _ _ _ _ | exact Kd.R_nil _ _ _ _ _⟩, ⟨by repeat (first | (with_reducible first | exact HB.out | apply below_alloc | apply pw_below_drewN | apply below_drew1) | exact HB.out)⟩⟩
  case round =>
    clear H'
    try clear c1
    obtain ⟨x3_1, x8_1, rfl, HA, HK1, HO_3, HB⟩ := hrel
    cases gk with
    | zero => exact absurd HA.out (by simp [impl_copySlabs.l0])
    | succ k1 =>
      have H := HA.out
      clear HA
      simp only [impl_copySlabs.l0] at H
      by_cases c2 : x8_1 < (l0.length : Int)
      · rw [if_pos c2] at H
        have c2b0 : decide (x8_1 < (l0.length : Int)) = true := decide_eq_true c2
        clear c2
        by_cases c3 : 0 ≤ x8_1
        · rw [if_pos c3] at H
          have c3b0 : decide (0 ≤ x8_1) = true := decide_eq_true c3
          clear c3
          by_cases c4 : x8_1 < (l0.length : Int)
          · rw [if_pos c4] at H
            have c4b0 : decide (x8_1 < (l0.length : Int)) = true := decide_eq_true c4
            clear c4
            by_cases c5 : ([] : List Bool).length + ((rd_T135 l0 x8_1).f2).length < 140737488355328
            · rw [if_pos c5] at H
              have LMc5 := Aside0.mk c5
              clear c5
              obtain ⟨y977, hy977⟩ : ∃ y_ : List Bool, y_ = (([] : List Bool) ++ ((rd_T135 l0 x8_1).f2)) := ⟨_, rfl⟩
              replace H : (if x3_1.length < 3518437208883 then (impl_copySlabs.l0 k1 (x3_1 ++ [(⟨(rd_T135 l0 x8_1).f0, (rd_T135 l0 x8_1).f1, y977⟩ : S135)]) l0 (l0.length : Int) (wrap64 (x8_1 + 1))) else (none)) = some r := by first | (rw [hy977]; with_reducible exact H) | (have H2_ := (Option.bind_some _ _).symm.trans H; rw [hy977]; with_reducible exact H2_) | (have H2_ := (Option.bind_some _ _).symm.trans H; with_reducible exact H2_) | with_reducible exact H | (rw [hy977]; exact H) | exact H
              have Ny977 := Aside0.mk hy977
              clear hy977
              by_cases c6 : x3_1.length < 3518437208883
              · rw [if_pos c6] at H
                have LMc6 := Aside0.mk c6
                clear c6
                obtain ⟨y980, hy980⟩ : ∃ y_ : List (S135), y_ = (x3_1 ++ [(⟨(rd_T135 l0 x8_1).f0, (rd_T135 l0 x8_1).f1, y977⟩ : S135)]) := ⟨_, rfl⟩
                replace H : (impl_copySlabs.l0 k1 y980 l0 (l0.length : Int) (wrap64 (x8_1 + 1))) = some r := by first | (rw [hy980]; with_reducible exact H) | (have H2_ := (Option.bind_some _ _).symm.trans H; rw [hy980]; with_reducible exact H2_) | (have H2_ := (Option.bind_some _ _).symm.trans H; with_reducible exact H2_) | with_reducible exact H | (rw [hy980]; exact H) | exact H
                have Ny980 := Aside0.mk hy980
                clear hy980
                have H' := Aside0.mk H
                clear H
                have p975 : 0 ≤ (x8_1 : Int) := of_decide_eq_true (by first | (with_reducible assumption) | assumption)
                have q975 : x8_1 < (l0.length : Int) := of_decide_eq_true (by first | (with_reducible assumption) | assumption)
                obtain ⟨ad975, A975_2, c975_2, e975, hx975_0, hx975_1, hx975_2, hl975_2, hi975_2⟩ := at_T135 HR0.out x8_1 p975 q975
                cases e975
                replace hx975_0 := (HB.out.cell (World.block_lt_of_cell? w _ hx975_0)).trans hx975_0
                replace hx975_1 := (HB.out.cell (World.block_lt_of_cell? w _ hx975_1)).trans hx975_1
                replace hx975_2 := (HB.out.cell (World.block_lt_of_cell? w _ hx975_2)).trans hx975_2
                have HR975_2 := Aside0.mk hi975_2
                have HC975_2 := Aside0.mk hl975_2
                clear hi975_2 hl975_2
                replace p975 := eq_true p975
                replace q975 := eq_true q975
                go_wp2_with (first | ((with_reducible refine gate_dst (N := 5) rfl ?_); refine box_event ?hg (N := 5) ?hd (cs := #[.int .i64 0, .int .i64 0, .slice none 0 0]) (t := 135) ?hr ?_; (case hd => rfl); (case hg => rfl); (case hr => first | (go_simp; done) | (go_simp; rfl)); intro gb976 hg w7 hbox hb; have n0_ := Aside0.mk (Kd.S_below (Kd.S_elderB (by (with_reducible repeat (first | apply Kd.S_alloc | apply Kd.S_drewN | apply Kd.S_drew)); exact HO_3.out) gb976 (Nat.le_of_eq hg.symm)) hb); have n1_ := Aside0.mk (below_step (by repeat (first | (with_reducible first | exact HB.out | apply below_alloc | apply pw_below_drewN | apply below_drew1) | exact HB.out)) hb); have n2_ := Aside0.mk (hbox); have n3_ := Aside0.mk ((by rw [hg]; exact (below_size (by repeat (first | (with_reducible first | exact HB.out | apply below_alloc | apply pw_below_drewN | apply below_drew1) | exact HB.out))) : w.heap.size ≤ gb976)); have n4_ := Aside0.mk ((by rw [hg]; exact (below_size (by repeat (first | (with_reducible first | exact HB.out | apply below_alloc | apply pw_below_drewN | apply below_drew1) | exact HB.out))) : w.heap.size ≤ gb976)); clear HO_3; clear HB; have HO_3 := n0_; have HB := n1_; have BK976 := n2_; have GW976 := n3_; have GE976 := n4_; clear n0_ n1_ n2_ n3_ n4_; clear hb hbox hg; have hcz8_0 : w7.cell? ⟨gb976, 0, none⟩ = some (.int .i64 0) := (blk_cell BK976.out 0).trans rfl; have hcz8_1 : w7.cell? ⟨gb976, 1, none⟩ = some (.int .i64 0) := (blk_cell BK976.out 1).trans rfl; have hcz8_2 : w7.cell? ⟨gb976, 2, none⟩ = some (.slice none 0 0) := (blk_cell BK976.out 2).trans rfl; have hfz8_0 := blk_frozen BK976.out 0; have hfz8_1 := blk_frozen BK976.out 1; have hfz8_2 := blk_frozen BK976.out 2) | ((with_reducible refine gate_builtin (b := .append) (xs := #[(.const (.slice none 0 0)), .tmp 13]) rfl ?_); at_builtin; refine Kd.R_append_rows Kd.bool (w0 := w) w.heap.size rfl (.const (.slice none 0 0)) (.tmp 13) 98 4 (.bool false) 1 rfl Try.underlying98 info4 rfl (by decide) (by omega) (.slice none 0 0) ([] : List Bool) ((rd_T135 l0 x8_1).f2) _ _ _ (fun _ => True) (fun _ => False) rfl rfl ?aO ?aR (fun _ _ h => h) (fun _ h => h.elim) ?aF ?aB ?aS ?aL ?_; (case aR => exact Kd.C_below HR975_2.out (by repeat (first | (with_reducible first | exact HB.out | apply below_alloc | apply pw_below_drewN | apply below_drew1 | refine below_set ?_ GE976.out) | exact HB.out))); (case aB => exact (by repeat (first | (with_reducible first | exact HB.out | apply below_alloc | apply pw_below_drewN | apply below_drew1 | refine below_set ?_ GE976.out) | exact HB.out))); (case aF => exact (fun _ _ => trivial)); (case aO => exact ((Kd.R_nil _ _ _ _ (fun _ => True)))); (case aS => exact (below_size (by repeat (first | (with_reducible first | exact HB.out | apply below_alloc | apply pw_below_drewN | apply below_drew1 | refine below_set ?_ GE976.out) | exact HB.out)))); (case aL => have := LMc5.out; omega); intro v978 w9 ho hb hg hat; rw [← Ny977.out] at ho; have n0_ := Aside0.mk (Kd.S_after (Kd.S_apart_nil (by (with_reducible repeat (first | apply Kd.S_alloc | apply Kd.S_drewN | apply Kd.S_drew)); exact (Kd.S_mono (Kd.S_far (p := ⟨gb976, 2, none⟩) (Kd.S_far (p := ⟨gb976, 1, none⟩) (Kd.S_far (p := ⟨gb976, 0, none⟩) (Kd.S_mono HO_3.out (fun k_ hk => (⟨hk, hk.2⟩ : _ ∧ k_ ≠ gb976))) (fun _ hk => hk.2) (.int .i64 ((rd_T135 l0 x8_1).f0))) (fun _ hk => hk.2) (.int .i64 ((rd_T135 l0 x8_1).f1))) (fun _ hk => hk.2) (.slice A975_2 ((rd_T135 l0 x8_1).f2).length c975_2)) (fun _ h_ => h_.1)))) hg hat); have n1_ := Aside0.mk (blk_grown (g := gb976) (o := .cells #[.int .i64 ((rd_T135 l0 x8_1).f0), .int .i64 ((rd_T135 l0 x8_1).f1), .slice A975_2 ((rd_T135 l0 x8_1).f2).length c975_2] 135 (0, 0)) (by (with_reducible repeat (first | refine blk_drewN ?_ _ | refine blk_drew ?_ | refine blk_alloc ?_ _)); refine blk_put (cs := #[.int .i64 ((rd_T135 l0 x8_1).f0), .int .i64 ((rd_T135 l0 x8_1).f1), .slice none 0 0]) ?_ 2 _ rfl; (with_reducible repeat (first | refine blk_drewN ?_ _ | refine blk_drew ?_ | refine blk_alloc ?_ _)); refine blk_put (cs := #[.int .i64 ((rd_T135 l0 x8_1).f0), .int .i64 0, .slice none 0 0]) ?_ 1 _ rfl; (with_reducible repeat (first | refine blk_drewN ?_ _ | refine blk_drew ?_ | refine blk_alloc ?_ _)); refine blk_put (cs := #[.int .i64 0, .int .i64 0, .slice none 0 0]) ?_ 0 _ rfl; (with_reducible repeat (first | refine blk_drewN ?_ _ | refine blk_drew ?_ | refine blk_alloc ?_ _)); exact BK976.out) hg (by simp [Value.ownBlock])); have n2_ := Aside0.mk (hb); have n3_ := Aside0.mk (ho); clear HO_3; clear BK976; clear HB; have HO_3 := n0_; have BK976 := n1_; have HB := n2_; have HO979 := n3_; clear n0_ n1_ n2_ n3_; clear ho hb hg hat; obtain ⟨Ao10, co10, eo10⟩ := Kd.R_slice HO979.out; subst eo10; have hcz11_0 : w9.cell? ⟨gb976, 0, none⟩ = some (.int .i64 ((rd_T135 l0 x8_1).f0)) := (blk_cell BK976.out 0).trans rfl; have hcz11_1 : w9.cell? ⟨gb976, 1, none⟩ = some (.int .i64 ((rd_T135 l0 x8_1).f1)) := (blk_cell BK976.out 1).trans rfl; have hcz11_2 : w9.cell? ⟨gb976, 2, none⟩ = some (.slice A975_2 ((rd_T135 l0 x8_1).f2).length c975_2) := (blk_cell BK976.out 2).trans rfl; have hfz11_0 := blk_frozen BK976.out 0; have hfz11_1 := blk_frozen BK976.out 1; have hfz11_2 := blk_frozen BK976.out 2) | ((with_reducible refine gate_store (t := 98) (p := 15) rfl ?_); refine store_event (t := 98) (p := 15) (v := ?vo_w12) (w1 := (w9.setCell ⟨gb976, 2, none⟩ (.slice Ao10 y977.length co10))) ?hg ?ho ?hn ?hr ?_; (case ho => rfl); (case hg => rfl); (case hn => rfl); (case hr => first | (go_simp; done) | (go_simp; rfl)); intro w12 hw; have n0_ : Aside0 (Kd.S k135 135 w12 w.heap.size (fun k_ => some k_ ≠ (.slice Ao10 y977.length co10 : Value).ownBlock ∧ k_ ≠ gb976) u3 x3_1) := ⟨(by rw [hw]; exact (by (with_reducible repeat (first | apply Kd.S_alloc | apply Kd.S_drewN | apply Kd.S_drew)); exact Kd.S_mono (Kd.S_far (p := ⟨gb976, 2, none⟩) (Kd.S_mono HO_3.out (fun k_ hk => (⟨hk, hk.1.2⟩ : _ ∧ k_ ≠ gb976))) (fun _ hk => hk.2) (.slice Ao10 y977.length co10)) (fun _ hk => ⟨hk.1.2, hk.1.1.2⟩)))⟩; have n1_ : Aside0 (Kd.R Kd.bool 4 w12 w.heap.size (fun _ => True) (.slice Ao10 y977.length co10) y977) := ⟨(by rw [hw]; exact (by (with_reducible repeat (first | apply Kd.R_alloc | apply Kd.R_drewN | apply Kd.R_drew)); exact Kd.R_mono (Kd.R_far (p := ⟨gb976, 2, none⟩) (Kd.R_types HO979.out BK976.out (by decide)) (fun _ hk => hk.2) (.slice Ao10 y977.length co10)) (fun _ hk => trivial)))⟩; have n2_ : Aside0 (w12.heap[gb976]? = some (.cells #[.int .i64 ((rd_T135 l0 x8_1).f0), .int .i64 ((rd_T135 l0 x8_1).f1), .slice Ao10 y977.length co10] 135 (0, 0))) := ⟨(by rw [hw]; exact (by (with_reducible repeat (first | refine blk_drewN ?_ _ | refine blk_drew ?_ | refine blk_alloc ?_ _)); refine blk_put (cs := #[.int .i64 ((rd_T135 l0 x8_1).f0), .int .i64 ((rd_T135 l0 x8_1).f1), .slice A975_2 ((rd_T135 l0 x8_1).f2).length c975_2]) ?_ 2 _ rfl; (with_reducible repeat (first | refine blk_drewN ?_ _ | refine blk_drew ?_ | refine blk_alloc ?_ _)); exact BK976.out))⟩; have n3_ : Aside0 (Below w.heap.size w w12) := ⟨(by rw [hw]; exact (by repeat (first | (with_reducible first | exact HB.out | apply below_alloc | apply pw_below_drewN | apply below_drew1 | refine below_set ?_ GE976.out) | exact HB.out)))⟩; clear hw; clear HO_3; clear HO979; clear BK976; clear HB; have HO_3 := n0_; have HO979 := n1_; have BK976 := n2_; have HB := n3_; clear n0_ n1_ n2_ n3_; have hcz13_0 : w12.cell? ⟨gb976, 0, none⟩ = some (.int .i64 ((rd_T135 l0 x8_1).f0)) := (blk_cell BK976.out 0).trans rfl; have hcz13_1 : w12.cell? ⟨gb976, 1, none⟩ = some (.int .i64 ((rd_T135 l0 x8_1).f1)) := (blk_cell BK976.out 1).trans rfl; have hcz13_2 : w12.cell? ⟨gb976, 2, none⟩ = some (.slice Ao10 y977.length co10) := (blk_cell BK976.out 2).trans rfl; have hfz13_0 := blk_frozen BK976.out 0; have hfz13_1 := blk_frozen BK976.out 1; have hfz13_2 := blk_frozen BK976.out 2) | ((with_reducible refine gate_builtin (b := .append) (xs := #[.tmp 16, .tmp 18]) rfl ?_); at_builtin; refine Kd.S_append k135 (w0 := w) w.heap.size rfl (.tmp 16) (.tmp 18) 76 135 (.agg #[(.int .i64 0), (.int .i64 0), (.slice none 0 0)]) 40 rfl Try.underlying76 info135 rfl (by decide) (by omega) u3 x3_1 (⟨(rd_T135 l0 x8_1).f0, (rd_T135 l0 x8_1).f1, y977⟩ : S135) [.int .i64 ((rd_T135 l0 x8_1).f0), .int .i64 ((rd_T135 l0 x8_1).f1), .slice Ao10 y977.length co10] (fun k_ => k_ ≠ gb976) (fun k_ => some k_ = (.slice Ao10 y977.length co10 : Value).ownBlock) rfl rfl ?aP (fun k_ hk_ => ((Kd.R_mono (ok' := fun k_ => ((fun k_ => k_ ≠ gb976)) k_ ∧ some k_ ≠ (u3 : Value).ownBlock) (Kd.R_types (Kd.R_apart' (HO979.out) (Kd.S_typed HO_3.out) (by decide)) BK976.out (by decide)) (fun k_ hk => ⟨hk.2, hk.1.2⟩))).1 k_ hk_.symm) ?aF ?aO ?aB ?aS ?aL ?_; (case aP => exact k135_mkM _ _ _ (⟨(rd_T135 l0 x8_1).f0, (rd_T135 l0 x8_1).f1, y977⟩ : S135) (Kd.R_mono (Kd.R_tight rfl (Kd.R_mono (ok' := fun k_ => ((fun k_ => k_ ≠ gb976)) k_ ∧ some k_ ≠ (u3 : Value).ownBlock) (Kd.R_types (Kd.R_apart' (HO979.out) (Kd.S_typed HO_3.out) (by decide)) BK976.out (by decide)) (fun k_ hk => ⟨hk.2, hk.1.2⟩))) (fun _ h_ => h_))); (case aB => exact (by repeat (first | (with_reducible first | exact HB.out | apply below_alloc | apply pw_below_drewN | apply below_drew1 | refine below_set ?_ GE976.out) | exact HB.out))); (case aF => exact (fun k_ hk => Kd.freshB (g := gb976) (o := .cells #[.int .i64 ((rd_T135 l0 x8_1).f0), .int .i64 ((rd_T135 l0 x8_1).f1), .slice Ao10 y977.length co10] 135 (0, 0)) (by (with_reducible repeat (first | refine blk_drewN ?_ _ | refine blk_drew ?_ | refine blk_alloc ?_ _)); exact BK976.out) k_ hk)); (case aO => exact (by (with_reducible repeat (first | apply Kd.S_alloc | apply Kd.S_drewN | apply Kd.S_drew)); exact Kd.S_mono HO_3.out (fun k_ hk => ⟨hk.2, fun e_ => hk.1 e_⟩))); (case aS => exact (below_size (by repeat (first | (with_reducible first | exact HB.out | apply below_alloc | apply pw_below_drewN | apply below_drew1 | refine below_set ?_ GE976.out) | exact HB.out)))); (case aL => have := LMc6.out; omega); intro v981 w14 ho hb hg hat; rw [← Ny980.out] at ho; have n0_ := Aside0.mk (blk_grown (g := gb976) (o := .cells #[.int .i64 ((rd_T135 l0 x8_1).f0), .int .i64 ((rd_T135 l0 x8_1).f1), .slice Ao10 y977.length co10] 135 (0, 0)) (by (with_reducible repeat (first | refine blk_drewN ?_ _ | refine blk_drew ?_ | refine blk_alloc ?_ _)); exact BK976.out) hg (Kd.S_away HO_3.out (fun _ hk => hk.2))); have n1_ := Aside0.mk (hb); have n2_ := Aside0.mk (ho); clear BK976; clear HB; clear HO_3; clear HO979; have BK976 := n0_; have HB := n1_; have HO982 := n2_; clear n0_ n1_ n2_; clear ho hb hg hat))
                go_roundg k1
                case measure => have := HK1.out; omega
                case rel => exact ⟨(y980), (wrap64 (x8_1 + 1)), (by first | rfl | (simp; done) | (simp [*]; done)), H', ⟨by have := HK1.out; omega⟩, ⟨by (with_reducible repeat (first | apply Kd.S_alloc | apply Kd.S_drewN | apply Kd.S_drew)); exact Kd.S_mono HO982.out (fun _ hk => trivial)⟩, ⟨by repeat (first | (with_reducible first | exact HB.out | apply below_alloc | apply pw_below_drewN | apply below_drew1 | refine below_set ?_ GE976.out) | exact HB.out)⟩⟩
              · rw [if_neg c6] at H
                exact absurd H (by simp)
            · rw [if_neg c5] at H
              exact absurd H (by simp)
          · rw [if_neg c4] at H
            exact absurd H (by simp)
        · rw [if_neg c3] at H
          exact absurd H (by simp)
      · rw [if_neg c2] at H
        have c2b0 : decide (x8_1 < (l0.length : Int)) = false := decide_eq_false c2
        clear c2
        obtain rfl := Option.some.inj H
        go_wp2
        go_ret
        exact ⟨_, by first | rfl | (simp [errW_none, errW_some] <;> rfl) | (simp [*, errW_none, errW_some] <;> rfl), by (with_reducible repeat (first | apply Kd.S_alloc | apply Kd.S_drewN | apply Kd.S_drew)); exact HO_3.out, by repeat (first | (with_reducible first | exact HB.out | apply below_alloc | apply pw_below_drewN | apply below_drew1) | exact HB.out)⟩

end Go.Proofs.Ytdpejnckojhgjaa.P
end
section
namespace Go.Proofs.Ytdpejnckojhgjaa.P
open Go.RowKit Go.Proofs.YtdpejnckojhgjaaW.PrintWords Go.Proofs.YtdpejnckojhgjaaW.PrintLast Go.Proofs.YtdpejnckojhgjaaW.PrintMore
attribute [local go_sem] max2_int min2_int max_two min_two max_three min_three max_four min_four   -- for this text's walks alone
set_option linter.unusedVariables false
set_option linter.unusedSimpArgs false

/-! ### impl_TakePart: function 58 -/
def impl_TakePart.l0 : Nat → List (S135) → Int → List (S135) → Int → Int → Option ((List (S135)) × Int × Int × Bool)
  | 0, _, _, _, _, _ => none
  | k + 1, x0, x1, x15, x16, x17 => if x17 < x16 then (if 0 ≤ x17 then (if x17 < (x15.length : Int) then ((slices_Index_bool_bool.f k ((rd_T135 x15 x17).f2) false).bind fun t986 => (if ((rd_T135 x15 x17).f1) = x1 then (if t986 ≥ 0 then ((impl_copySlabs.f k x0).bind fun t987 => (if x17 < (t987.length : Int) then (if 0 ≤ t986 then (if t986 < (((rd_T135 t987 x17).f2).length : Int) then (some ((t987.set (x17 : Int).toNat (⟨(rd_T135 t987 x17).f0, (rd_T135 t987 x17).f1, (((rd_T135 t987 x17).f2).set (t986 : Int).toNat true)⟩ : S135)), (rd_T135 x15 x17).f0, t986, true)) else (none)) else (none)) else (none))) else (impl_TakePart.l0 k x0 x1 x15 x16 (wrap64 (x17 + 1)))) else (impl_TakePart.l0 k x0 x1 x15 x16 (wrap64 (x17 + 1))))) else (none)) else (none)) else (some (([] : List (S135)), 0, 0, false))
def impl_TakePart.f (k : Nat) (l0 : List (S135)) (a1 : Int) : Option ((List (S135)) × Int × Int × Bool) := (impl_SlabsOk.f k l0).bind fun t983 => (if t983 = true then (impl_TakePart.l0 k l0 a1 l0 (l0.length : Int) 0) else (some (([] : List (S135)), 0, 0, false)))
theorem impl_TakePart.mono_l : ∀ k, (∀ y0 y1 y2 y3 y4, LeO (impl_TakePart.l0 k y0 y1 y2 y3 y4) (impl_TakePart.l0 (k + 1) y0 y1 y2 y3 y4))
  | 0 => fun _ _ _ _ _ r h => by simp [impl_TakePart.l0] at h
  | k + 1 => by
    have ih0 := impl_TakePart.mono_l k
    · intro y0 y1 y2 y3 y4
      unfold impl_TakePart.l0
      repeat' first
      | (with_reducible exact ih0 _ _ _ _ _)
      | (with_reducible exact impl_SlabsOk.mono _ _)
      | (with_reducible exact impl_copySlabs.mono _ _)
      | (with_reducible exact slices_Index_bool_bool.mono _ _ _)
      | (with_reducible exact LeO.refl _)
      | (with_reducible exact LeO.none _)
      | (with_reducible refine LeO.ite ?_ ?_)
      | (with_reducible refine LeO.bind ?_ (fun _ => ?_))
      | exact ih0 _ _ _ _ _
      | exact impl_SlabsOk.mono _ _
      | exact impl_copySlabs.mono _ _
      | exact slices_Index_bool_bool.mono _ _ _
      | exact LeO.none _
      | refine LeO.ite ?_ ?_
      | refine LeO.bind ?_ (fun _ => ?_)
theorem impl_TakePart.mono : ∀ a0 a1 k, LeO (impl_TakePart.f k a0 a1) (impl_TakePart.f (k + 1) a0 a1) := by
  intro a0 a1 k
  have ih0 := impl_TakePart.mono_l k
  unfold impl_TakePart.f
  repeat' first
      | (with_reducible exact ih0 _ _ _ _ _)
      | (with_reducible exact impl_SlabsOk.mono _ _)
      | (with_reducible exact impl_copySlabs.mono _ _)
      | (with_reducible exact slices_Index_bool_bool.mono _ _ _)
      | (with_reducible exact LeO.refl _)
      | (with_reducible exact LeO.none _)
      | (with_reducible refine LeO.ite ?_ ?_)
      | (with_reducible refine LeO.bind ?_ (fun _ => ?_))
      | exact ih0 _ _ _ _ _
      | exact impl_SlabsOk.mono _ _
      | exact impl_copySlabs.mono _ _
      | exact slices_Index_bool_bool.mono _ _ _
      | exact LeO.none _
      | refine LeO.ite ?_ ?_
      | refine LeO.bind ?_ (fun _ => ?_)
set_option maxHeartbeats 8000000 in
set_option maxRecDepth 100000 in
theorem impl_TakePart.calls (k : Nat) (A0 : Option Addr) (c0 : Nat) (l0 : List (S135)) (a1 : Int) (r1 : List (S135)) (r2 : Int) (r3 : Int) (r4 : Bool) (w : World) (hr0 : Kd.C k135 w A0 l0.length l0) (hc0 : l0.length ≤ c0) (h : impl_TakePart.f k l0 a1 = some (r1, r2, r3, r4)) :
    Calls Try.prog 58 #[.slice A0 l0.length c0, .int .i64 a1] w fun e w' => ∃ v0_ : Value, e = .returned (.tuple #[v0_, .int .i64 r2, .int .i64 r3, .bool r4]) ∧ Kd.S k135 135 w' w.heap.size (fun _ => True) v0_ r1 ∧ Below w.heap.size w w' := by
  have hu135 := Try.underlying135
  have HR0 := Aside0.mk hr0
  have HC0 := Aside0.mk hc0
  clear hr0 hc0
  have HB := Aside0.mk (Below.refl w.heap.size w)
  have H : ((impl_SlabsOk.f k l0).bind fun t983 => (if t983 = true then (impl_TakePart.l0 k l0 a1 l0 (l0.length : Int) 0) else (some (([] : List (S135)), 0, 0, false)))) = some (r1, r2, r3, r4) := h
  clear h
  replace H := Option.bind_eq_some_iff.mp H
  obtain ⟨t983, A30, H⟩ := H
  replace H : (if t983 = true then (impl_TakePart.l0 k l0 a1 l0 (l0.length : Int) 0) else (some (([] : List (S135)), 0, 0, false))) = some (r1, r2, r3, r4) := H
  have A3 := Aside0.mk A30
  clear A30
  by_cases c4 : t983 = true
  · subst c4
    have H1 : (impl_TakePart.l0 k l0 a1 l0 (l0.length : Int) 0) = some (r1, r2, r3, r4) := by rw [if_pos rfl] at H; exact H
    clear H
    have H := H1
    clear H1
    have H' := Aside0.mk H
    clear H
    go_enter Try.func58, Try.ntmps58
    go_wp2_with (first | (go_at_call 114; (with_reducible refine (impl_SlabsOk.calls k _ _ l0 true _ ?side1 ?side2 A3.out).mono ?_); (case side1 => repeat (first | exact HR0.out | (with_reducible refine Kd.C_alloc ?_ _) | (with_reducible refine Kd.C_drewN ?_ _) | (with_reducible refine Kd.C_drew ?_))); (case side2 => exact HC0.out); rintro e w5 ⟨rfl, hb⟩; have n0_ := Aside0.mk (below_step (by repeat (first | (with_reducible first | exact HB.out | apply below_alloc | apply pw_below_drewN | apply below_drew1) | exact HB.out)) hb); clear HB; have HB := n0_; clear n0_; (try clear hb); (try clear hb2); (try clear hk); (try clear hi)))
    repeat (go_quiet (first | (go_at_call 114; (with_reducible refine (impl_SlabsOk.calls k _ _ l0 true _ ?side1 ?side2 A3.out).mono ?_); (case side1 => repeat (first | exact HR0.out | (with_reducible refine Kd.C_alloc ?_ _) | (with_reducible refine Kd.C_drewN ?_ _) | (with_reducible refine Kd.C_drew ?_))); (case side2 => exact HC0.out); rintro e w5 ⟨rfl, hb⟩; have n0_ := Aside0.mk (below_step (by repeat (first | (with_reducible first | exact HB.out | apply below_alloc | apply pw_below_drewN | apply below_drew1) | exact HB.out)) hb); clear HB; have HB := n0_; clear n0_; (try clear hb); (try clear hb2); (try clear hk); (try clear hi))); try go_wp2_with (first | (go_at_call 114; (with_reducible refine (impl_SlabsOk.calls k _ _ l0 true _ ?side1 ?side2 A3.out).mono ?_); (case side1 => repeat (first | exact HR0.out | (with_reducible refine Kd.C_alloc ?_ _) | (with_reducible refine Kd.C_drewN ?_ _) | (with_reducible refine Kd.C_drew ?_))); (case side2 => exact HC0.out); rintro e w5 ⟨rfl, hb⟩; have n0_ := Aside0.mk (below_step (by repeat (first | (with_reducible first | exact HB.out | apply below_alloc | apply pw_below_drewN | apply below_drew1) | exact HB.out)) hb); clear HB; have HB := n0_; clear n0_; (try clear hb); (try clear hb2); (try clear hk); (try clear hi))))
    go_loopg [17] k (fun kq v17 w' => ∃ (x17_1 : Int), v17 = .int .i64 x17_1 ∧ Aside0 (impl_TakePart.l0 kq l0 a1 l0 (l0.length : Int) x17_1 = some (r1, r2, r3, r4)) ∧ Aside0 (kq ≤ k) ∧ Aside0 (Below w.heap.size w w'))
    case atStart => exact ⟨(0), (by first | rfl | (simp; done) | (simp [*]; done)), H', ⟨Nat.le_refl _⟩, ⟨by repeat (first | (with_reducible first | exact HB.out | apply below_alloc | apply pw_below_drewN | apply below_drew1) | exact HB.out)⟩⟩
    case round =>
      clear H'
      try clear p2
      try clear c4
      try clear c5
      obtain ⟨x17_1, rfl, HA, HK1, HB⟩ := hrel
      cases gk with
      | zero => exact absurd HA.out (by simp [impl_TakePart.l0])
      | succ k1 =>
        have H := HA.out
        clear HA
        simp only [impl_TakePart.l0] at H
        by_cases c6 : x17_1 < (l0.length : Int)
        · rw [if_pos c6] at H
          have c6b0 : decide (x17_1 < (l0.length : Int)) = true := decide_eq_true c6
          clear c6
          by_cases c7 : 0 ≤ x17_1
          · rw [if_pos c7] at H
            have c7b0 : decide (0 ≤ x17_1) = true := decide_eq_true c7
            clear c7
            by_cases c8 : x17_1 < (l0.length : Int)
            · rw [if_pos c8] at H
              have c8b0 : decide (x17_1 < (l0.length : Int)) = true := decide_eq_true c8
              clear c8
              replace H := Option.bind_eq_some_iff.mp H
              obtain ⟨t986, A90, H⟩ := H
              replace H : (if ((rd_T135 l0 x17_1).f1) = a1 then (if t986 ≥ 0 then ((impl_copySlabs.f k1 l0).bind fun t987 => (if x17_1 < (t987.length : Int) then (if 0 ≤ t986 then (if t986 < (((rd_T135 t987 x17_1).f2).length : Int) then (some ((t987.set (x17_1 : Int).toNat (⟨(rd_T135 t987 x17_1).f0, (rd_T135 t987 x17_1).f1, (((rd_T135 t987 x17_1).f2).set (t986 : Int).toNat true)⟩ : S135)), (rd_T135 l0 x17_1).f0, t986, true)) else (none)) else (none)) else (none))) else (impl_TakePart.l0 k1 l0 a1 l0 (l0.length : Int) (wrap64 (x17_1 + 1)))) else (impl_TakePart.l0 k1 l0 a1 l0 (l0.length : Int) (wrap64 (x17_1 + 1)))) = some (r1, r2, r3, r4) := H
              have A9 := Aside0.mk A90
              clear A90
              by_cases c10 : ((rd_T135 l0 x17_1).f1) = a1
              · rw [if_pos c10] at H
                have c10b0 : (((rd_T135 l0 x17_1).f1) == a1) = true := beq_iff_eq.mpr c10
                have c10b1 : (((rd_T135 l0 x17_1).f1) != a1) = false := bne_eq_false_iff_eq.mpr c10
                clear c10
                by_cases c11 : t986 ≥ 0
                · rw [if_pos c11] at H
                  have c11b0 : decide (0 ≤ t986) = true := decide_eq_true c11
                  clear c11
                  replace H := Option.bind_eq_some_iff.mp H
                  obtain ⟨t987, A120, H⟩ := H
                  replace H : (if x17_1 < (t987.length : Int) then (if 0 ≤ t986 then (if t986 < (((rd_T135 t987 x17_1).f2).length : Int) then (some ((t987.set (x17_1 : Int).toNat (⟨(rd_T135 t987 x17_1).f0, (rd_T135 t987 x17_1).f1, (((rd_T135 t987 x17_1).f2).set (t986 : Int).toNat true)⟩ : S135)), (rd_T135 l0 x17_1).f0, t986, true)) else (none)) else (none)) else (none)) = some (r1, r2, r3, r4) := H
                  have A12 := Aside0.mk A120
                  clear A120
                  by_cases c13 : x17_1 < (t987.length : Int)
                  · rw [if_pos c13] at H
                    have c13b0 : decide (x17_1 < (t987.length : Int)) = true := decide_eq_true c13
                    clear c13
                    by_cases c14 : 0 ≤ t986
                    · rw [if_pos c14] at H
                      have c14b0 : decide (0 ≤ t986) = true := decide_eq_true c14
                      clear c14
                      by_cases c15 : t986 < (((rd_T135 t987 x17_1).f2).length : Int)
                      · rw [if_pos c15] at H
                        have c15b0 : decide (t986 < (((rd_T135 t987 x17_1).f2).length : Int)) = true := decide_eq_true c15
                        clear c15
                        obtain ⟨y991, hy991⟩ : ∃ y_ : List Bool, y_ = (((rd_T135 t987 x17_1).f2).set (t986 : Int).toNat true) := ⟨_, rfl⟩
                        replace H : (some ((t987.set (x17_1 : Int).toNat (⟨(rd_T135 t987 x17_1).f0, (rd_T135 t987 x17_1).f1, y991⟩ : S135)), (rd_T135 l0 x17_1).f0, t986, true)) = some (r1, r2, r3, r4) := by first | (rw [hy991]; with_reducible exact H) | (have H2_ := (Option.bind_some _ _).symm.trans H; rw [hy991]; with_reducible exact H2_) | (have H2_ := (Option.bind_some _ _).symm.trans H; with_reducible exact H2_) | with_reducible exact H | (rw [hy991]; exact H) | exact H
                        have Ny991 := Aside0.mk hy991
                        clear hy991
                        obtain ⟨y993, hy993⟩ : ∃ y_ : List (S135), y_ = (t987.set (x17_1 : Int).toNat (⟨(rd_T135 t987 x17_1).f0, (rd_T135 t987 x17_1).f1, y991⟩ : S135)) := ⟨_, rfl⟩
                        replace H : (some (y993, (rd_T135 l0 x17_1).f0, t986, true)) = some (r1, r2, r3, r4) := by first | (rw [hy993]; with_reducible exact H) | (have H2_ := (Option.bind_some _ _).symm.trans H; rw [hy993]; with_reducible exact H2_) | (have H2_ := (Option.bind_some _ _).symm.trans H; with_reducible exact H2_) | with_reducible exact H | (rw [hy993]; exact H) | exact H
                        have Ny993 := Aside0.mk hy993
                        clear hy993
                        simp only [Option.some.injEq, Prod.mk.injEq] at H
                        obtain ⟨rfl, rfl, rfl, rfl⟩ := H
                        have p984 : 0 ≤ (x17_1 : Int) := of_decide_eq_true (by first | (with_reducible assumption) | assumption)
                        have q984 : x17_1 < (l0.length : Int) := of_decide_eq_true (by first | (with_reducible assumption) | assumption)
                        obtain ⟨ad984, A984_2, c984_2, e984, hx984_0, hx984_1, hx984_2, hl984_2, hi984_2⟩ := at_T135 HR0.out x17_1 p984 q984
                        cases e984
                        replace hx984_0 := (HB.out.cell (World.block_lt_of_cell? w _ hx984_0)).trans hx984_0
                        replace hx984_1 := (HB.out.cell (World.block_lt_of_cell? w _ hx984_1)).trans hx984_1
                        replace hx984_2 := (HB.out.cell (World.block_lt_of_cell? w _ hx984_2)).trans hx984_2
                        have HR984_2 := Aside0.mk hi984_2
                        have HC984_2 := Aside0.mk hl984_2
                        clear hi984_2 hl984_2
                        replace p984 := eq_true p984
                        replace q984 := eq_true q984
                        go_wp2_with (first | ((with_reducible refine gate_dst (N := 9) rfl ?_); refine box_event ?hg (N := 9) ?hd (cs := #[.int .i64 0, .int .i64 0, .slice none 0 0]) (t := 135) ?hr ?_; (case hd => rfl); (case hg => rfl); (case hr => first | (go_simp; done) | (go_simp; rfl) | (obtain ⟨A_, c_, e_⟩ := Kd.R_slice HO989.out; rw [e_]; first | (go_simp; done) | (go_simp; rfl)) | (obtain ⟨A_, c_, e_⟩ := Kd.S_slice HO989.out; rw [e_]; first | (go_simp; done) | (go_simp; rfl))); intro gb985 hg w17 hbox hb; have n0_ := Aside0.mk (below_step (by repeat (first | (with_reducible first | exact HB.out | apply below_alloc | apply pw_below_drewN | apply below_drew1) | exact HB.out)) hb); have n1_ := Aside0.mk (hbox); have n2_ := Aside0.mk ((by rw [hg]; exact (below_size (by repeat (first | (with_reducible first | exact HB.out | apply below_alloc | apply pw_below_drewN | apply below_drew1) | exact HB.out))) : w.heap.size ≤ gb985)); have n3_ := Aside0.mk ((by rw [hg]; exact (below_size (by repeat (first | (with_reducible first | exact HB.out | apply below_alloc | apply pw_below_drewN | apply below_drew1) | exact HB.out))) : w.heap.size ≤ gb985)); clear HB; have HB := n0_; have BK985 := n1_; have GW985 := n2_; have GE985 := n3_; clear n0_ n1_ n2_ n3_; clear hb hbox hg; have hcz18_0 : w17.cell? ⟨gb985, 0, none⟩ = some (.int .i64 0) := (blk_cell BK985.out 0).trans rfl; have hcz18_1 : w17.cell? ⟨gb985, 1, none⟩ = some (.int .i64 0) := (blk_cell BK985.out 1).trans rfl; have hcz18_2 : w17.cell? ⟨gb985, 2, none⟩ = some (.slice none 0 0) := (blk_cell BK985.out 2).trans rfl; have hfz18_0 := blk_frozen BK985.out 0; have hfz18_1 := blk_frozen BK985.out 1; have hfz18_2 := blk_frozen BK985.out 2) | (go_at_call 115; (with_reducible refine (slices_Index_bool_bool.calls k1 _ _ ((rd_T135 l0 x17_1).f2) false t986 _ ?side1 ?side2 A9.out).mono ?_); (case side1 => exact Kd.C_below HR984_2.out (by repeat (first | (with_reducible first | exact HB.out | apply below_alloc | apply pw_below_drewN | apply below_drew1 | refine below_set ?_ GE985.out) | exact HB.out))); (case side2 => exact HC984_2.out); rintro e w' ⟨rfl, ⟨nd, rfl⟩⟩; (try first | exact ⟨rfl, _, World.drewN_drewN _ _ _⟩ | exact ⟨rfl, _, Eq.trans (World.drewN_drewN _ _ _) (congrArg (World.drewN _) (Nat.add_assoc _ _ _))⟩)) | (go_at_call 116; (with_reducible refine (impl_copySlabs.calls k1 _ _ l0 t987 _ ?side1 ?side2 A12.out).mono ?_); (case side1 => exact Kd.C_below HR0.out (by repeat (first | (with_reducible first | exact HB.out | apply below_alloc | apply pw_below_drewN | apply below_drew1 | refine below_set ?_ GE985.out) | exact HB.out))); (case side2 => exact HC0.out); rintro e w19 ⟨v988, rfl, ho0, hb⟩; have n0_ := Aside0.mk (Kd.S_lower (Kd.S_newB ho0 (g := gb985) (o := .cells #[.int .i64 ((rd_T135 l0 x17_1).f0), .int .i64 ((rd_T135 l0 x17_1).f1), .slice A984_2 ((rd_T135 l0 x17_1).f2).length c984_2] 135 (0, 0)) (by (with_reducible repeat (first | refine blk_drewN ?_ _ | refine blk_drew ?_ | refine blk_alloc ?_ _)); refine blk_put (cs := #[.int .i64 ((rd_T135 l0 x17_1).f0), .int .i64 ((rd_T135 l0 x17_1).f1), .slice none 0 0]) ?_ 2 _ rfl; (with_reducible repeat (first | refine blk_drewN ?_ _ | refine blk_drew ?_ | refine blk_alloc ?_ _)); refine blk_put (cs := #[.int .i64 ((rd_T135 l0 x17_1).f0), .int .i64 0, .slice none 0 0]) ?_ 1 _ rfl; (with_reducible repeat (first | refine blk_drewN ?_ _ | refine blk_drew ?_ | refine blk_alloc ?_ _)); refine blk_put (cs := #[.int .i64 0, .int .i64 0, .slice none 0 0]) ?_ 0 _ rfl; (with_reducible repeat (first | refine blk_drewN ?_ _ | refine blk_drew ?_ | refine blk_alloc ?_ _)); exact BK985.out)) (below_size (by repeat (first | (with_reducible first | exact HB.out | apply below_alloc | apply pw_below_drewN | apply below_drew1 | refine below_set ?_ GE985.out) | exact HB.out)))); have n1_ := Aside0.mk (blk_below (g := gb985) (o := .cells #[.int .i64 ((rd_T135 l0 x17_1).f0), .int .i64 ((rd_T135 l0 x17_1).f1), .slice A984_2 ((rd_T135 l0 x17_1).f2).length c984_2] 135 (0, 0)) (by (with_reducible repeat (first | refine blk_drewN ?_ _ | refine blk_drew ?_ | refine blk_alloc ?_ _)); refine blk_put (cs := #[.int .i64 ((rd_T135 l0 x17_1).f0), .int .i64 ((rd_T135 l0 x17_1).f1), .slice none 0 0]) ?_ 2 _ rfl; (with_reducible repeat (first | refine blk_drewN ?_ _ | refine blk_drew ?_ | refine blk_alloc ?_ _)); refine blk_put (cs := #[.int .i64 ((rd_T135 l0 x17_1).f0), .int .i64 0, .slice none 0 0]) ?_ 1 _ rfl; (with_reducible repeat (first | refine blk_drewN ?_ _ | refine blk_drew ?_ | refine blk_alloc ?_ _)); refine blk_put (cs := #[.int .i64 0, .int .i64 0, .slice none 0 0]) ?_ 0 _ rfl; (with_reducible repeat (first | refine blk_drewN ?_ _ | refine blk_drew ?_ | refine blk_alloc ?_ _)); exact BK985.out) hb); have n2_ := Aside0.mk (below_step (by repeat (first | (with_reducible first | exact HB.out | apply below_alloc | apply pw_below_drewN | apply below_drew1 | refine below_set ?_ GE985.out) | exact HB.out)) hb); clear BK985; clear HB; have HO989 := n0_; have BK985 := n1_; have HB := n2_; clear n0_ n1_ n2_; (try clear hb); (try clear hb2); (try clear hk); (try clear hi); (try clear ho0); obtain ⟨Ao20, co20, eo20⟩ := Kd.S_slice HO989.out; subst eo20; have p990 : 0 ≤ (x17_1 : Int) := of_decide_eq_true (by first | (with_reducible assumption) | assumption); have q990 : x17_1 < (t987.length : Int) := of_decide_eq_true (by first | (with_reducible assumption) | assumption); obtain ⟨ad990, A990_2, c990_2, e990, hx990_0, hx990_1, hx990_2, hl990_2, hi990_2⟩ := at_T135 (Kd.S_reads' HO989.out).2.2 x17_1 p990 q990; cases e990; obtain ⟨ce990, hce990, hMe990, hcc990⟩ := Kd.S_get HO989.out z135 x17_1 p990 (by first | exact q990 | exact of_decide_eq_true (by first | (with_reducible assumption) | assumption) | (have e_ := (Kd.S_reads' HO989.out).1; omega)); obtain ⟨ve990_2, rfl, ge990_2⟩ := k135_openM hMe990; have hv990_2 := hcc990 2 _ rfl; rw [add_field _ _ 2 (by omega)] at hv990_2; replace hv990_2 := Option.some.inj (hv990_2.symm.trans hx990_2); rw [hv990_2] at ge990_2; have HL990_2 := Aside0.mk (show Kd.R Kd.bool 4 _ _ _ _ ((rd_T135 t987 x17_1).f2) from ge990_2); clear hv990_2 ge990_2; have HX990_2 := Aside0.mk hx990_2; clear hcc990 hce990; have HR990_2 := Aside0.mk hi990_2; have HC990_2 := Aside0.mk hl990_2; clear hi990_2 hl990_2; replace p990 := eq_true p990; replace q990 := eq_true q990; have p16 : 0 ≤ (t986 : Int) := of_decide_eq_true (by first | (with_reducible assumption) | assumption); have q16 : (t986 : Int) < ((((rd_T135 t987 x17_1).f2).length : Int) : Int) := of_decide_eq_true (by first | (with_reducible assumption) | assumption); obtain ⟨go16, co16, eo16, gb16, gl16, cl16, HG16⟩ := Kd.R_form HL990_2.out (by omega); (first | cases eo16 | (injection eo16 with ea_ en_ ec_; (first | subst ea_ | (injection ea_ with ea_; subst ea_)); subst ec_; clear en_)); have GB16 := Aside0.mk gb16; have GG16 := Aside0.mk HG16; clear gb16 gl16 HG16; obtain ⟨hx16_0, hf16_0⟩ := Kd.R_celln false HL990_2.out (t986 : Int) p16 q16; replace p16 := eq_true p16; replace q16 := eq_true q16; have n_ := Aside0.mk (Kd.S_mono (ok' := (fun k_ => k_ ≠ gb985)) HO989.out (fun k_ hk => hk.2)); clear HO989; have HO989 := n_; clear n_; have hq21 : (x17_1 : Int) < (t987.length : Int) := (by have h_ : (x17_1 : Int) < ((t987.length : Int) : Int) := of_decide_eq_true (by first | (with_reducible assumption) | assumption); first | exact h_ | (have e_ := (Kd.S_reads' HO989.out).1; omega) | simpa only [List.length_set, List.length_set] using h_); obtain ⟨oki21, ce21, hcl21, hM21, hcc21, hok21, hbk21⟩ := Kd.S_borrow HO989.out z135 (x17_1 : Int) (of_decide_eq_true (by first | (with_reducible assumption) | assumption)) hq21; obtain ⟨ve21_2, rfl, ge21_2⟩ := k135_openM hM21; have hv21 := hcc21 2 _ rfl; rw [add_field _ _ 2 (by omega)] at hv21; replace hv21 := Option.some.inj (hv21.symm.trans HX990_2.out); subst hv21; (try clear hcc21); (try clear hcl21); replace ge21_2 := (show Kd.R Kd.bool 4 _ _ _ _ ((rd_T135 t987 x17_1).f2) from ge21_2); have HP21 := Kd.R_putg ge21_2 (t986 : Int) true) | ((with_reducible refine gate_store (t := 4) (p := 41) rfl ?_); (try (rw [drewN_self w19]; generalize hq_ : World.drewN w19 _ = w19; have n0_ := Aside0.mk (Kd.S_at hq_ HO989.out); have n1_ := Aside0.mk (Kd.R_at hq_ HL994.out); have n2_ := Aside0.mk (blk_at hq_ BK985.out); have n3_ := Aside0.mk (below_at hq_ HB.out); clear hq_ HO989 HL994 BK985 HB; have HO989 := n0_; have HL994 := n1_; have BK985 := n2_; have HB := n3_; clear n0_ n1_ n2_ n3_; (try (have n_ := Aside0.mk (Kd.S_mono (ok' := (fun k_ => k_ ≠ gb985)) HO989.out (fun k_ hk => hk.2)); clear HO989; have HO989 := n_; clear n_)); (try (have hq21 : (x17_1 : Int) < (t987.length : Int) := (by have h_ : (x17_1 : Int) < ((t987.length : Int) : Int) := of_decide_eq_true (by first | (with_reducible assumption) | assumption); first | exact h_ | (have e_ := (Kd.S_reads' HO989.out).1; omega) | simpa only [List.length_set, List.length_set] using h_))); (try (obtain ⟨oki21, ce21, hcl21, hM21, hcc21, hok21, hbk21⟩ := Kd.S_borrow HO989.out z135 (x17_1 : Int) (of_decide_eq_true (by first | (with_reducible assumption) | assumption)) hq21)); (try (obtain ⟨ve21_2, rfl, ge21_2⟩ := k135_openM hM21)); (try (have hv21 := hcc21 2 _ rfl)); (try (rw [add_field _ _ 2 (by omega)] at hv21)); (try (replace hv21 := Option.some.inj (hv21.symm.trans HX990_2.out))); (try (subst hv21)); (try ((try clear hcc21); (try clear hcl21))); (try (replace ge21_2 := (show Kd.R Kd.bool 4 _ _ _ _ ((rd_T135 t987 x17_1).f2) from ge21_2))); (try (have HP21 := Kd.R_putg ge21_2 (t986 : Int) true)))); refine store_event (t := 4) (p := 41) (v := ?vo_w22) (w1 := (w19.setCell ⟨go16, (t986 : Int).toNat, none⟩ (.bool true))) ?hg ?ho ?hn ?hr ?_; (case ho => rfl); (case hg => rfl); (case hn => rfl); (case hr => first | (go_simp; done) | (go_simp; rfl) | (obtain ⟨A_, c_, e_⟩ := Kd.R_slice HO989.out; rw [e_]; first | (go_simp; done) | (go_simp; rfl)) | (obtain ⟨A_, c_, e_⟩ := Kd.S_slice HO989.out; rw [e_]; first | (go_simp; done) | (go_simp; rfl))); intro w22 hw; have hg : w19.grownBy w22 (some go16) := (by rw [hw]; exact HP21.2); have hz_ : Kd.R Kd.bool 4 w22 w.heap.size oki21 (.slice (some ⟨go16, 0, none⟩) ((rd_T135 t987 x17_1).f2).length c990_2) y991 := (by rw [hw, Ny991.out]; exact HP21.1); have hp_ : Kd.S k135 135 w22 w.heap.size (fun k_ => k_ ≠ gb985) (.slice (some ad990) t987.length co20) y993 := (by rw [Ny993.out]; exact hbk21 hg (fun k_ e_ => by injection e_ with e_; subst e_; exact ge21_2.1 _ rfl) (k135_mkM _ _ _ (⟨(rd_T135 t987 x17_1).f0, (rd_T135 t987 x17_1).f1, y991⟩ : S135) hz_)); have hm_ := Kd.R_mono hz_ hok21; clear HP21 hbk21; have n0_ := Aside0.mk (blk_grown (g := gb985) (o := .cells #[.int .i64 ((rd_T135 l0 x17_1).f0), .int .i64 ((rd_T135 l0 x17_1).f1), .slice A984_2 ((rd_T135 l0 x17_1).f2).length c984_2] 135 (0, 0)) (by (with_reducible repeat (first | refine blk_drewN ?_ _ | refine blk_drew ?_ | refine blk_alloc ?_ _)); exact BK985.out) hg (Kd.R_ne HL990_2.out BK985.out (by decide))); have n1_ := Aside0.mk (hp_); have n2_ := Aside0.mk ((by rw [hw]; exact below_set (HB.out) GB16.out : Below w.heap.size w w22)); have n3_ := Aside0.mk (hm_); have n4_ := Aside0.mk ((Kd.R_reads' hm_).2.1); clear BK985; clear HO989; clear HB; clear HL990_2; have BK985 := n0_; have HO989 := n1_; have HB := n2_; have HL994 := n3_; have HC992 := n4_; clear n0_ n1_ n2_ n3_ n4_; clear hg hw hp_ hz_ hm_ hok21; have hcz23_0 : w22.cell? ⟨gb985, 0, none⟩ = some (.int .i64 ((rd_T135 l0 x17_1).f0)) := (blk_cell BK985.out 0).trans rfl; have hcz23_1 : w22.cell? ⟨gb985, 1, none⟩ = some (.int .i64 ((rd_T135 l0 x17_1).f1)) := (blk_cell BK985.out 1).trans rfl; have hcz23_2 : w22.cell? ⟨gb985, 2, none⟩ = some (.slice A984_2 ((rd_T135 l0 x17_1).f2).length c984_2) := (blk_cell BK985.out 2).trans rfl; have hfz23_0 := blk_frozen BK985.out 0; have hfz23_1 := blk_frozen BK985.out 1; have hfz23_2 := blk_frozen BK985.out 2))
                        repeat (go_quiet (first | ((with_reducible refine gate_dst (N := 9) rfl ?_); refine box_event ?hg (N := 9) ?hd (cs := #[.int .i64 0, .int .i64 0, .slice none 0 0]) (t := 135) ?hr ?_; (case hd => rfl); (case hg => rfl); (case hr => first | (go_simp; done) | (go_simp; rfl) | (obtain ⟨A_, c_, e_⟩ := Kd.R_slice HO989.out; rw [e_]; first | (go_simp; done) | (go_simp; rfl)) | (obtain ⟨A_, c_, e_⟩ := Kd.S_slice HO989.out; rw [e_]; first | (go_simp; done) | (go_simp; rfl))); intro gb985 hg w17 hbox hb; have n0_ := Aside0.mk (below_step (by repeat (first | (with_reducible first | exact HB.out | apply below_alloc | apply pw_below_drewN | apply below_drew1) | exact HB.out)) hb); have n1_ := Aside0.mk (hbox); have n2_ := Aside0.mk ((by rw [hg]; exact (below_size (by repeat (first | (with_reducible first | exact HB.out | apply below_alloc | apply pw_below_drewN | apply below_drew1) | exact HB.out))) : w.heap.size ≤ gb985)); have n3_ := Aside0.mk ((by rw [hg]; exact (below_size (by repeat (first | (with_reducible first | exact HB.out | apply below_alloc | apply pw_below_drewN | apply below_drew1) | exact HB.out))) : w.heap.size ≤ gb985)); clear HB; have HB := n0_; have BK985 := n1_; have GW985 := n2_; have GE985 := n3_; clear n0_ n1_ n2_ n3_; clear hb hbox hg; have hcz18_0 : w17.cell? ⟨gb985, 0, none⟩ = some (.int .i64 0) := (blk_cell BK985.out 0).trans rfl; have hcz18_1 : w17.cell? ⟨gb985, 1, none⟩ = some (.int .i64 0) := (blk_cell BK985.out 1).trans rfl; have hcz18_2 : w17.cell? ⟨gb985, 2, none⟩ = some (.slice none 0 0) := (blk_cell BK985.out 2).trans rfl; have hfz18_0 := blk_frozen BK985.out 0; have hfz18_1 := blk_frozen BK985.out 1; have hfz18_2 := blk_frozen BK985.out 2) | (go_at_call 115; (with_reducible refine (slices_Index_bool_bool.calls k1 _ _ ((rd_T135 l0 x17_1).f2) false t986 _ ?side1 ?side2 A9.out).mono ?_); (case side1 => exact Kd.C_below HR984_2.out (by repeat (first | (with_reducible first | exact HB.out | apply below_alloc | apply pw_below_drewN | apply below_drew1 | refine below_set ?_ GE985.out) | exact HB.out))); (case side2 => exact HC984_2.out); rintro e w' ⟨rfl, ⟨nd, rfl⟩⟩; (try first | exact ⟨rfl, _, World.drewN_drewN _ _ _⟩ | exact ⟨rfl, _, Eq.trans (World.drewN_drewN _ _ _) (congrArg (World.drewN _) (Nat.add_assoc _ _ _))⟩)) | (go_at_call 116; (with_reducible refine (impl_copySlabs.calls k1 _ _ l0 t987 _ ?side1 ?side2 A12.out).mono ?_); (case side1 => exact Kd.C_below HR0.out (by repeat (first | (with_reducible first | exact HB.out | apply below_alloc | apply pw_below_drewN | apply below_drew1 | refine below_set ?_ GE985.out) | exact HB.out))); (case side2 => exact HC0.out); rintro e w19 ⟨v988, rfl, ho0, hb⟩; have n0_ := Aside0.mk (Kd.S_lower (Kd.S_newB ho0 (g := gb985) (o := .cells #[.int .i64 ((rd_T135 l0 x17_1).f0), .int .i64 ((rd_T135 l0 x17_1).f1), .slice A984_2 ((rd_T135 l0 x17_1).f2).length c984_2] 135 (0, 0)) (by (with_reducible repeat (first | refine blk_drewN ?_ _ | refine blk_drew ?_ | refine blk_alloc ?_ _)); refine blk_put (cs := #[.int .i64 ((rd_T135 l0 x17_1).f0), .int .i64 ((rd_T135 l0 x17_1).f1), .slice none 0 0]) ?_ 2 _ rfl; (with_reducible repeat (first | refine blk_drewN ?_ _ | refine blk_drew ?_ | refine blk_alloc ?_ _)); refine blk_put (cs := #[.int .i64 ((rd_T135 l0 x17_1).f0), .int .i64 0, .slice none 0 0]) ?_ 1 _ rfl; (with_reducible repeat (first | refine blk_drewN ?_ _ | refine blk_drew ?_ | refine blk_alloc ?_ _)); refine blk_put (cs := #[.int .i64 0, .int .i64 0, .slice none 0 0]) ?_ 0 _ rfl; (with_reducible repeat (first | refine blk_drewN ?_ _ | refine blk_drew ?_ | refine blk_alloc ?_ _)); exact BK985.out)) (below_size (by repeat (first | (with_reducible first | exact HB.out | apply below_alloc | apply pw_below_drewN | apply below_drew1 | refine below_set ?_ GE985.out) | exact HB.out)))); have n1_ := Aside0.mk (blk_below (g := gb985) (o := .cells #[.int .i64 ((rd_T135 l0 x17_1).f0), .int .i64 ((rd_T135 l0 x17_1).f1), .slice A984_2 ((rd_T135 l0 x17_1).f2).length c984_2] 135 (0, 0)) (by (with_reducible repeat (first | refine blk_drewN ?_ _ | refine blk_drew ?_ | refine blk_alloc ?_ _)); refine blk_put (cs := #[.int .i64 ((rd_T135 l0 x17_1).f0), .int .i64 ((rd_T135 l0 x17_1).f1), .slice none 0 0]) ?_ 2 _ rfl; (with_reducible repeat (first | refine blk_drewN ?_ _ | refine blk_drew ?_ | refine blk_alloc ?_ _)); refine blk_put (cs := #[.int .i64 ((rd_T135 l0 x17_1).f0), .int .i64 0, .slice none 0 0]) ?_ 1 _ rfl; (with_reducible repeat (first | refine blk_drewN ?_ _ | refine blk_drew ?_ | refine blk_alloc ?_ _)); refine blk_put (cs := #[.int .i64 0, .int .i64 0, .slice none 0 0]) ?_ 0 _ rfl; (with_reducible repeat (first | refine blk_drewN ?_ _ | refine blk_drew ?_ | refine blk_alloc ?_ _)); exact BK985.out) hb); have n2_ := Aside0.mk (below_step (by repeat (first | (with_reducible first | exact HB.out | apply below_alloc | apply pw_below_drewN | apply below_drew1 | refine below_set ?_ GE985.out) | exact HB.out)) hb); clear BK985; clear HB; have HO989 := n0_; have BK985 := n1_; have HB := n2_; clear n0_ n1_ n2_; (try clear hb); (try clear hb2); (try clear hk); (try clear hi); (try clear ho0); obtain ⟨Ao20, co20, eo20⟩ := Kd.S_slice HO989.out; subst eo20; have p990 : 0 ≤ (x17_1 : Int) := of_decide_eq_true (by first | (with_reducible assumption) | assumption); have q990 : x17_1 < (t987.length : Int) := of_decide_eq_true (by first | (with_reducible assumption) | assumption); obtain ⟨ad990, A990_2, c990_2, e990, hx990_0, hx990_1, hx990_2, hl990_2, hi990_2⟩ := at_T135 (Kd.S_reads' HO989.out).2.2 x17_1 p990 q990; cases e990; obtain ⟨ce990, hce990, hMe990, hcc990⟩ := Kd.S_get HO989.out z135 x17_1 p990 (by first | exact q990 | exact of_decide_eq_true (by first | (with_reducible assumption) | assumption) | (have e_ := (Kd.S_reads' HO989.out).1; omega)); obtain ⟨ve990_2, rfl, ge990_2⟩ := k135_openM hMe990; have hv990_2 := hcc990 2 _ rfl; rw [add_field _ _ 2 (by omega)] at hv990_2; replace hv990_2 := Option.some.inj (hv990_2.symm.trans hx990_2); rw [hv990_2] at ge990_2; have HL990_2 := Aside0.mk (show Kd.R Kd.bool 4 _ _ _ _ ((rd_T135 t987 x17_1).f2) from ge990_2); clear hv990_2 ge990_2; have HX990_2 := Aside0.mk hx990_2; clear hcc990 hce990; have HR990_2 := Aside0.mk hi990_2; have HC990_2 := Aside0.mk hl990_2; clear hi990_2 hl990_2; replace p990 := eq_true p990; replace q990 := eq_true q990; have p16 : 0 ≤ (t986 : Int) := of_decide_eq_true (by first | (with_reducible assumption) | assumption); have q16 : (t986 : Int) < ((((rd_T135 t987 x17_1).f2).length : Int) : Int) := of_decide_eq_true (by first | (with_reducible assumption) | assumption); obtain ⟨go16, co16, eo16, gb16, gl16, cl16, HG16⟩ := Kd.R_form HL990_2.out (by omega); (first | cases eo16 | (injection eo16 with ea_ en_ ec_; (first | subst ea_ | (injection ea_ with ea_; subst ea_)); subst ec_; clear en_)); have GB16 := Aside0.mk gb16; have GG16 := Aside0.mk HG16; clear gb16 gl16 HG16; obtain ⟨hx16_0, hf16_0⟩ := Kd.R_celln false HL990_2.out (t986 : Int) p16 q16; replace p16 := eq_true p16; replace q16 := eq_true q16; have n_ := Aside0.mk (Kd.S_mono (ok' := (fun k_ => k_ ≠ gb985)) HO989.out (fun k_ hk => hk.2)); clear HO989; have HO989 := n_; clear n_; have hq21 : (x17_1 : Int) < (t987.length : Int) := (by have h_ : (x17_1 : Int) < ((t987.length : Int) : Int) := of_decide_eq_true (by first | (with_reducible assumption) | assumption); first | exact h_ | (have e_ := (Kd.S_reads' HO989.out).1; omega) | simpa only [List.length_set, List.length_set] using h_); obtain ⟨oki21, ce21, hcl21, hM21, hcc21, hok21, hbk21⟩ := Kd.S_borrow HO989.out z135 (x17_1 : Int) (of_decide_eq_true (by first | (with_reducible assumption) | assumption)) hq21; obtain ⟨ve21_2, rfl, ge21_2⟩ := k135_openM hM21; have hv21 := hcc21 2 _ rfl; rw [add_field _ _ 2 (by omega)] at hv21; replace hv21 := Option.some.inj (hv21.symm.trans HX990_2.out); subst hv21; (try clear hcc21); (try clear hcl21); replace ge21_2 := (show Kd.R Kd.bool 4 _ _ _ _ ((rd_T135 t987 x17_1).f2) from ge21_2); have HP21 := Kd.R_putg ge21_2 (t986 : Int) true) | ((with_reducible refine gate_store (t := 4) (p := 41) rfl ?_); (try (rw [drewN_self w19]; generalize hq_ : World.drewN w19 _ = w19; have n0_ := Aside0.mk (Kd.S_at hq_ HO989.out); have n1_ := Aside0.mk (Kd.R_at hq_ HL994.out); have n2_ := Aside0.mk (blk_at hq_ BK985.out); have n3_ := Aside0.mk (below_at hq_ HB.out); clear hq_ HO989 HL994 BK985 HB; have HO989 := n0_; have HL994 := n1_; have BK985 := n2_; have HB := n3_; clear n0_ n1_ n2_ n3_; (try (have n_ := Aside0.mk (Kd.S_mono (ok' := (fun k_ => k_ ≠ gb985)) HO989.out (fun k_ hk => hk.2)); clear HO989; have HO989 := n_; clear n_)); (try (have hq21 : (x17_1 : Int) < (t987.length : Int) := (by have h_ : (x17_1 : Int) < ((t987.length : Int) : Int) := of_decide_eq_true (by first | (with_reducible assumption) | assumption); first | exact h_ | (have e_ := (Kd.S_reads' HO989.out).1; omega) | simpa only [List.length_set, List.length_set] using h_))); (try (obtain ⟨oki21, ce21, hcl21, hM21, hcc21, hok21, hbk21⟩ := Kd.S_borrow HO989.out z135 (x17_1 : Int) (of_decide_eq_true (by first | (with_reducible assumption) | assumption)) hq21)); (try (obtain ⟨ve21_2, rfl, ge21_2⟩ := k135_openM hM21)); (try (have hv21 := hcc21 2 _ rfl)); (try (rw [add_field _ _ 2 (by omega)] at hv21)); (try (replace hv21 := Option.some.inj (hv21.symm.trans HX990_2.out))); (try (subst hv21)); (try ((try clear hcc21); (try clear hcl21))); (try (replace ge21_2 := (show Kd.R Kd.bool 4 _ _ _ _ ((rd_T135 t987 x17_1).f2) from ge21_2))); (try (have HP21 := Kd.R_putg ge21_2 (t986 : Int) true)))); refine store_event (t := 4) (p := 41) (v := ?vo_w22) (w1 := (w19.setCell ⟨go16, (t986 : Int).toNat, none⟩ (.bool true))) ?hg ?ho ?hn ?hr ?_; (case ho => rfl); (case hg => rfl); (case hn => rfl); (case hr => first | (go_simp; done) | (go_simp; rfl) | (obtain ⟨A_, c_, e_⟩ := Kd.R_slice HO989.out; rw [e_]; first | (go_simp; done) | (go_simp; rfl)) | (obtain ⟨A_, c_, e_⟩ := Kd.S_slice HO989.out; rw [e_]; first | (go_simp; done) | (go_simp; rfl))); intro w22 hw; have hg : w19.grownBy w22 (some go16) := (by rw [hw]; exact HP21.2); have hz_ : Kd.R Kd.bool 4 w22 w.heap.size oki21 (.slice (some ⟨go16, 0, none⟩) ((rd_T135 t987 x17_1).f2).length c990_2) y991 := (by rw [hw, Ny991.out]; exact HP21.1); have hp_ : Kd.S k135 135 w22 w.heap.size (fun k_ => k_ ≠ gb985) (.slice (some ad990) t987.length co20) y993 := (by rw [Ny993.out]; exact hbk21 hg (fun k_ e_ => by injection e_ with e_; subst e_; exact ge21_2.1 _ rfl) (k135_mkM _ _ _ (⟨(rd_T135 t987 x17_1).f0, (rd_T135 t987 x17_1).f1, y991⟩ : S135) hz_)); have hm_ := Kd.R_mono hz_ hok21; clear HP21 hbk21; have n0_ := Aside0.mk (blk_grown (g := gb985) (o := .cells #[.int .i64 ((rd_T135 l0 x17_1).f0), .int .i64 ((rd_T135 l0 x17_1).f1), .slice A984_2 ((rd_T135 l0 x17_1).f2).length c984_2] 135 (0, 0)) (by (with_reducible repeat (first | refine blk_drewN ?_ _ | refine blk_drew ?_ | refine blk_alloc ?_ _)); exact BK985.out) hg (Kd.R_ne HL990_2.out BK985.out (by decide))); have n1_ := Aside0.mk (hp_); have n2_ := Aside0.mk ((by rw [hw]; exact below_set (HB.out) GB16.out : Below w.heap.size w w22)); have n3_ := Aside0.mk (hm_); have n4_ := Aside0.mk ((Kd.R_reads' hm_).2.1); clear BK985; clear HO989; clear HB; clear HL990_2; have BK985 := n0_; have HO989 := n1_; have HB := n2_; have HL994 := n3_; have HC992 := n4_; clear n0_ n1_ n2_ n3_ n4_; clear hg hw hp_ hz_ hm_ hok21; have hcz23_0 : w22.cell? ⟨gb985, 0, none⟩ = some (.int .i64 ((rd_T135 l0 x17_1).f0)) := (blk_cell BK985.out 0).trans rfl; have hcz23_1 : w22.cell? ⟨gb985, 1, none⟩ = some (.int .i64 ((rd_T135 l0 x17_1).f1)) := (blk_cell BK985.out 1).trans rfl; have hcz23_2 : w22.cell? ⟨gb985, 2, none⟩ = some (.slice A984_2 ((rd_T135 l0 x17_1).f2).length c984_2) := (blk_cell BK985.out 2).trans rfl; have hfz23_0 := blk_frozen BK985.out 0; have hfz23_1 := blk_frozen BK985.out 1; have hfz23_2 := blk_frozen BK985.out 2)); try go_wp2_with (first | ((with_reducible refine gate_dst (N := 9) rfl ?_); refine box_event ?hg (N := 9) ?hd (cs := #[.int .i64 0, .int .i64 0, .slice none 0 0]) (t := 135) ?hr ?_; (case hd => rfl); (case hg => rfl); (case hr => first | (go_simp; done) | (go_simp; rfl) | (obtain ⟨A_, c_, e_⟩ := Kd.R_slice HO989.out; rw [e_]; first | (go_simp; done) | (go_simp; rfl)) | (obtain ⟨A_, c_, e_⟩ := Kd.S_slice HO989.out; rw [e_]; first | (go_simp; done) | (go_simp; rfl))); intro gb985 hg w17 hbox hb; have n0_ := Aside0.mk (below_step (by repeat (first | (with_reducible first | exact HB.out | apply below_alloc | apply pw_below_drewN | apply below_drew1) | exact HB.out)) hb); have n1_ := Aside0.mk (hbox); have n2_ := Aside0.mk ((by rw [hg]; exact (below_size (by repeat (first | (with_reducible first | exact HB.out | apply below_alloc | apply pw_below_drewN | apply below_drew1) | exact HB.out))) : w.heap.size ≤ gb985)); have n3_ := Aside0.mk ((by rw [hg]; exact (below_size (by repeat (first | (with_reducible first | exact HB.out | apply below_alloc | apply pw_below_drewN | apply below_drew1) | exact HB.out))) : w.heap.size ≤ gb985)); clear HB; have HB := n0_; have BK985 := n1_; have GW985 := n2_; have GE985 := n3_; clear n0_ n1_ n2_ n3_; clear hb hbox hg; have hcz18_0 : w17.cell? ⟨gb985, 0, none⟩ = some (.int .i64 0) := (blk_cell BK985.out 0).trans rfl; have hcz18_1 : w17.cell? ⟨gb985, 1, none⟩ = some (.int .i64 0) := (blk_cell BK985.out 1).trans rfl; have hcz18_2 : w17.cell? ⟨gb985, 2, none⟩ = some (.slice none 0 0) := (blk_cell BK985.out 2).trans rfl; have hfz18_0 := blk_frozen BK985.out 0; have hfz18_1 := blk_frozen BK985.out 1; have hfz18_2 := blk_frozen BK985.out 2) | (go_at_call 115; (with_reducible refine (slices_Index_bool_bool.calls k1 _ _ ((rd_T135 l0 x17_1).f2) false t986 _ ?side1 ?side2 A9.out).mono ?_); (case side1 => exact Kd.C_below HR984_2.out (by repeat (first | (with_reducible first | exact HB.out | apply below_alloc | apply pw_below_drewN | apply below_drew1 | refine below_set ?_ GE985.out) | exact HB.out))); (case side2 => exact HC984_2.out); rintro e w' ⟨rfl, ⟨nd, rfl⟩⟩; (try first | exact ⟨rfl, _, World.drewN_drewN _ _ _⟩ | exact ⟨rfl, _, Eq.trans (World.drewN_drewN _ _ _) (congrArg (World.drewN _) (Nat.add_assoc _ _ _))⟩)) | (go_at_call 116; (with_reducible refine (impl_copySlabs.calls k1 _ _ l0 t987 _ ?side1 ?side2 A12.out).mono ?_); (case side1 => exact Kd.C_below HR0.out (by repeat (first | (with_reducible first | exact HB.out | apply below_alloc | apply pw_below_drewN | apply below_drew1 | refine below_set ?_ GE985.out) | exact HB.out))); (case side2 => exact HC0.out); rintro e w19 ⟨v988, rfl, ho0, hb⟩; have n0_ := Aside0.mk (Kd.S_lower (Kd.S_newB ho0 (g := gb985) (o := .cells #[.int .i64 ((rd_T135 l0 x17_1).f0), .int .i64 ((rd_T135 l0 x17_1).f1), .slice A984_2 ((rd_T135 l0 x17_1).f2).length c984_2] 135 (0, 0)) (by (with_reducible repeat (first | refine blk_drewN ?_ _ | refine blk_drew ?_ | refine blk_alloc ?_ _)); refine blk_put (cs := #[.int .i64 ((rd_T135 l0 x17_1).f0), .int .i64 ((rd_T135 l0 x17_1).f1), .slice none 0 0]) ?_ 2 _ rfl; (with_reducible repeat (first | refine blk_drewN ?_ _ | refine blk_drew ?_ | refine blk_alloc ?_ _)); refine blk_put (cs := #[.int .i64 ((rd_T135 l0 x17_1).f0), .int .i64 0, .slice none 0 0]) ?_ 1 _ rfl; (with_reducible repeat (first | refine blk_drewN ?_ _ | refine blk_drew ?_ | refine blk_alloc ?_ _)); refine blk_put (cs := #[.int .i64 0, .int .i64 0, .slice none 0 0]) ?_ 0 _ rfl; (with_reducible repeat (first | refine blk_drewN ?_ _ | refine blk_drew ?_ | refine blk_alloc ?_ _)); exact BK985.out)) (below_size (by repeat (first | (with_reducible first | exact HB.out | apply below_alloc | apply pw_below_drewN | apply below_drew1 | refine below_set ?_ GE985.out) | exact HB.out)))); have n1_ := Aside0.mk (blk_below (g := gb985) (o := .cells #[.int .i64 ((rd_T135 l0 x17_1).f0), .int .i64 ((rd_T135 l0 x17_1).f1), .slice A984_2 ((rd_T135 l0 x17_1).f2).length c984_2] 135 (0, 0)) (by (with_reducible repeat (first | refine blk_drewN ?_ _ | refine blk_drew ?_ | refine blk_alloc ?_ _)); refine blk_put (cs := #[.int .i64 ((rd_T135 l0 x17_1).f0), .int .i64 ((rd_T135 l0 x17_1).f1), .slice none 0 0]) ?_ 2 _ rfl; (with_reducible repeat (first | refine blk_drewN ?_ _ | refine blk_drew ?_ | refine blk_alloc ?_ _)); refine blk_put (cs := #[.int .i64 ((rd_T135 l0 x17_1).f0), .int .i64 0, .slice none 0 0]) ?_ 1 _ rfl; (with_reducible repeat (first | refine blk_drewN ?_ _ | refine blk_drew ?_ | refine blk_alloc ?_ _)); refine blk_put (cs := #[.int .i64 0, .int .i64 0, .slice none 0 0]) ?_ 0 _ rfl; (with_reducible repeat (first | refine blk_drewN ?_ _ | refine blk_drew ?_ | refine blk_alloc ?_ _)); exact BK985.out) hb); have n2_ := Aside0.mk (below_step (by repeat (first | (with_reducible first | exact HB.out | apply below_alloc | apply pw_below_drewN | apply below_drew1 | refine below_set ?_ GE985.out) | exact HB.out)) hb); clear BK985; clear HB; have HO989 := n0_; have BK985 := n1_; have HB := n2_; clear n0_ n1_ n2_; (try clear hb); (try clear hb2); (try clear hk); (try clear hi); (try clear ho0); obtain ⟨Ao20, co20, eo20⟩ := Kd.S_slice HO989.out; subst eo20; have p990 : 0 ≤ (x17_1 : Int) := of_decide_eq_true (by first | (with_reducible assumption) | assumption); have q990 : x17_1 < (t987.length : Int) := of_decide_eq_true (by first | (with_reducible assumption) | assumption); obtain ⟨ad990, A990_2, c990_2, e990, hx990_0, hx990_1, hx990_2, hl990_2, hi990_2⟩ := at_T135 (Kd.S_reads' HO989.out).2.2 x17_1 p990 q990; cases e990; obtain ⟨ce990, hce990, hMe990, hcc990⟩ := Kd.S_get HO989.out z135 x17_1 p990 (by first | exact q990 | exact of_decide_eq_true (by first | (with_reducible assumption) | assumption) | (have e_ := (Kd.S_reads' HO989.out).1; omega)); obtain ⟨ve990_2, rfl, ge990_2⟩ := k135_openM hMe990; have hv990_2 := hcc990 2 _ rfl; rw [add_field _ _ 2 (by omega)] at hv990_2; replace hv990_2 := Option.some.inj (hv990_2.symm.trans hx990_2); rw [hv990_2] at ge990_2; have HL990_2 := Aside0.mk (show Kd.R Kd.bool 4 _ _ _ _ ((rd_T135 t987 x17_1).f2) from ge990_2); clear hv990_2 ge990_2; have HX990_2 := Aside0.mk hx990_2; clear hcc990 hce990; have HR990_2 := Aside0.mk hi990_2; have HC990_2 := Aside0.mk hl990_2; clear hi990_2 hl990_2; replace p990 := eq_true p990; replace q990 := eq_true q990; have p16 : 0 ≤ (t986 : Int) := of_decide_eq_true (by first | (with_reducible assumption) | assumption); have q16 : (t986 : Int) < ((((rd_T135 t987 x17_1).f2).length : Int) : Int) := of_decide_eq_true (by first | (with_reducible assumption) | assumption); obtain ⟨go16, co16, eo16, gb16, gl16, cl16, HG16⟩ := Kd.R_form HL990_2.out (by omega); (first | cases eo16 | (injection eo16 with ea_ en_ ec_; (first | subst ea_ | (injection ea_ with ea_; subst ea_)); subst ec_; clear en_)); have GB16 := Aside0.mk gb16; have GG16 := Aside0.mk HG16; clear gb16 gl16 HG16; obtain ⟨hx16_0, hf16_0⟩ := Kd.R_celln false HL990_2.out (t986 : Int) p16 q16; replace p16 := eq_true p16; replace q16 := eq_true q16; have n_ := Aside0.mk (Kd.S_mono (ok' := (fun k_ => k_ ≠ gb985)) HO989.out (fun k_ hk => hk.2)); clear HO989; have HO989 := n_; clear n_; have hq21 : (x17_1 : Int) < (t987.length : Int) := (by have h_ : (x17_1 : Int) < ((t987.length : Int) : Int) := of_decide_eq_true (by first | (with_reducible assumption) | assumption); first | exact h_ | (have e_ := (Kd.S_reads' HO989.out).1; omega) | simpa only [List.length_set, List.length_set] using h_); obtain ⟨oki21, ce21, hcl21, hM21, hcc21, hok21, hbk21⟩ := Kd.S_borrow HO989.out z135 (x17_1 : Int) (of_decide_eq_true (by first | (with_reducible assumption) | assumption)) hq21; obtain ⟨ve21_2, rfl, ge21_2⟩ := k135_openM hM21; have hv21 := hcc21 2 _ rfl; rw [add_field _ _ 2 (by omega)] at hv21; replace hv21 := Option.some.inj (hv21.symm.trans HX990_2.out); subst hv21; (try clear hcc21); (try clear hcl21); replace ge21_2 := (show Kd.R Kd.bool 4 _ _ _ _ ((rd_T135 t987 x17_1).f2) from ge21_2); have HP21 := Kd.R_putg ge21_2 (t986 : Int) true) | ((with_reducible refine gate_store (t := 4) (p := 41) rfl ?_); (try (rw [drewN_self w19]; generalize hq_ : World.drewN w19 _ = w19; have n0_ := Aside0.mk (Kd.S_at hq_ HO989.out); have n1_ := Aside0.mk (Kd.R_at hq_ HL994.out); have n2_ := Aside0.mk (blk_at hq_ BK985.out); have n3_ := Aside0.mk (below_at hq_ HB.out); clear hq_ HO989 HL994 BK985 HB; have HO989 := n0_; have HL994 := n1_; have BK985 := n2_; have HB := n3_; clear n0_ n1_ n2_ n3_; (try (have n_ := Aside0.mk (Kd.S_mono (ok' := (fun k_ => k_ ≠ gb985)) HO989.out (fun k_ hk => hk.2)); clear HO989; have HO989 := n_; clear n_)); (try (have hq21 : (x17_1 : Int) < (t987.length : Int) := (by have h_ : (x17_1 : Int) < ((t987.length : Int) : Int) := of_decide_eq_true (by first | (with_reducible assumption) | assumption); first | exact h_ | (have e_ := (Kd.S_reads' HO989.out).1; omega) | simpa only [List.length_set, List.length_set] using h_))); (try (obtain ⟨oki21, ce21, hcl21, hM21, hcc21, hok21, hbk21⟩ := Kd.S_borrow HO989.out z135 (x17_1 : Int) (of_decide_eq_true (by first | (with_reducible assumption) | assumption)) hq21)); (try (obtain ⟨ve21_2, rfl, ge21_2⟩ := k135_openM hM21)); (try (have hv21 := hcc21 2 _ rfl)); (try (rw [add_field _ _ 2 (by omega)] at hv21)); (try (replace hv21 := Option.some.inj (hv21.symm.trans HX990_2.out))); (try (subst hv21)); (try ((try clear hcc21); (try clear hcl21))); (try (replace ge21_2 := (show Kd.R Kd.bool 4 _ _ _ _ ((rd_T135 t987 x17_1).f2) from ge21_2))); (try (have HP21 := Kd.R_putg ge21_2 (t986 : Int) true)))); refine store_event (t := 4) (p := 41) (v := ?vo_w22) (w1 := (w19.setCell ⟨go16, (t986 : Int).toNat, none⟩ (.bool true))) ?hg ?ho ?hn ?hr ?_; (case ho => rfl); (case hg => rfl); (case hn => rfl); (case hr => first | (go_simp; done) | (go_simp; rfl) | (obtain ⟨A_, c_, e_⟩ := Kd.R_slice HO989.out; rw [e_]; first | (go_simp; done) | (go_simp; rfl)) | (obtain ⟨A_, c_, e_⟩ := Kd.S_slice HO989.out; rw [e_]; first | (go_simp; done) | (go_simp; rfl))); intro w22 hw; have hg : w19.grownBy w22 (some go16) := (by rw [hw]; exact HP21.2); have hz_ : Kd.R Kd.bool 4 w22 w.heap.size oki21 (.slice (some ⟨go16, 0, none⟩) ((rd_T135 t987 x17_1).f2).length c990_2) y991 := (by rw [hw, Ny991.out]; exact HP21.1); have hp_ : Kd.S k135 135 w22 w.heap.size (fun k_ => k_ ≠ gb985) (.slice (some ad990) t987.length co20) y993 := (by rw [Ny993.out]; exact hbk21 hg (fun k_ e_ => by injection e_ with e_; subst e_; exact ge21_2.1 _ rfl) (k135_mkM _ _ _ (⟨(rd_T135 t987 x17_1).f0, (rd_T135 t987 x17_1).f1, y991⟩ : S135) hz_)); have hm_ := Kd.R_mono hz_ hok21; clear HP21 hbk21; have n0_ := Aside0.mk (blk_grown (g := gb985) (o := .cells #[.int .i64 ((rd_T135 l0 x17_1).f0), .int .i64 ((rd_T135 l0 x17_1).f1), .slice A984_2 ((rd_T135 l0 x17_1).f2).length c984_2] 135 (0, 0)) (by (with_reducible repeat (first | refine blk_drewN ?_ _ | refine blk_drew ?_ | refine blk_alloc ?_ _)); exact BK985.out) hg (Kd.R_ne HL990_2.out BK985.out (by decide))); have n1_ := Aside0.mk (hp_); have n2_ := Aside0.mk ((by rw [hw]; exact below_set (HB.out) GB16.out : Below w.heap.size w w22)); have n3_ := Aside0.mk (hm_); have n4_ := Aside0.mk ((Kd.R_reads' hm_).2.1); clear BK985; clear HO989; clear HB; clear HL990_2; have BK985 := n0_; have HO989 := n1_; have HB := n2_; have HL994 := n3_; have HC992 := n4_; clear n0_ n1_ n2_ n3_ n4_; clear hg hw hp_ hz_ hm_ hok21; have hcz23_0 : w22.cell? ⟨gb985, 0, none⟩ = some (.int .i64 ((rd_T135 l0 x17_1).f0)) := (blk_cell BK985.out 0).trans rfl; have hcz23_1 : w22.cell? ⟨gb985, 1, none⟩ = some (.int .i64 ((rd_T135 l0 x17_1).f1)) := (blk_cell BK985.out 1).trans rfl; have hcz23_2 : w22.cell? ⟨gb985, 2, none⟩ = some (.slice A984_2 ((rd_T135 l0 x17_1).f2).length c984_2) := (blk_cell BK985.out 2).trans rfl; have hfz23_0 := blk_frozen BK985.out 0; have hfz23_1 := blk_frozen BK985.out 1; have hfz23_2 := blk_frozen BK985.out 2)))
                        refine bodyPost_ret (results_list (rs := [.tmp 4, .tmp 5, .tmp 6, .tmp 7]) rfl (by simp) (.tmp (.tmp (.tmp (.tmp .nil))))) rfl ?_
                        exact ⟨_, by first | rfl | (simp [errW_none, errW_some] <;> rfl) | (simp [*, errW_none, errW_some] <;> rfl), by (with_reducible repeat (first | apply Kd.S_alloc | apply Kd.S_drewN | apply Kd.S_drew)); exact Kd.S_mono HO989.out (fun _ hk => trivial), by repeat (first | (with_reducible first | exact HB.out | apply below_alloc | apply pw_below_drewN | apply below_drew1 | refine below_set ?_ GE985.out) | exact HB.out)⟩
                      · rw [if_neg c15] at H
                        exact absurd H (by simp)
                    · rw [if_neg c14] at H
                      exact absurd H (by simp)
                  · rw [if_neg c13] at H
                    exact absurd H (by simp)
                · rw [if_neg c11] at H
                  have c11b0 : decide (0 ≤ t986) = false := decide_eq_false c11
                  clear c11
                  have H' := Aside0.mk H
                  clear H
                  have p984 : 0 ≤ (x17_1 : Int) := of_decide_eq_true (by first | (with_reducible assumption) | assumption)
                  have q984 : x17_1 < (l0.length : Int) := of_decide_eq_true (by first | (with_reducible assumption) | assumption)
                  obtain ⟨ad984, A984_2, c984_2, e984, hx984_0, hx984_1, hx984_2, hl984_2, hi984_2⟩ := at_T135 HR0.out x17_1 p984 q984
                  cases e984
                  replace hx984_0 := (HB.out.cell (World.block_lt_of_cell? w _ hx984_0)).trans hx984_0
                  replace hx984_1 := (HB.out.cell (World.block_lt_of_cell? w _ hx984_1)).trans hx984_1
                  replace hx984_2 := (HB.out.cell (World.block_lt_of_cell? w _ hx984_2)).trans hx984_2
                  have HR984_2 := Aside0.mk hi984_2
                  have HC984_2 := Aside0.mk hl984_2
                  clear hi984_2 hl984_2
                  replace p984 := eq_true p984
                  replace q984 := eq_true q984
                  go_wp2_with (first | ((with_reducible refine gate_dst (N := 9) rfl ?_); refine box_event ?hg (N := 9) ?hd (cs := #[.int .i64 0, .int .i64 0, .slice none 0 0]) (t := 135) ?hr ?_; (case hd => rfl); (case hg => rfl); (case hr => first | (go_simp; done) | (go_simp; rfl)); intro gb985 hg w24 hbox hb; have n0_ := Aside0.mk (below_step (by repeat (first | (with_reducible first | exact HB.out | apply below_alloc | apply pw_below_drewN | apply below_drew1) | exact HB.out)) hb); have n1_ := Aside0.mk (hbox); have n2_ := Aside0.mk ((by rw [hg]; exact (below_size (by repeat (first | (with_reducible first | exact HB.out | apply below_alloc | apply pw_below_drewN | apply below_drew1) | exact HB.out))) : w.heap.size ≤ gb985)); have n3_ := Aside0.mk ((by rw [hg]; exact (below_size (by repeat (first | (with_reducible first | exact HB.out | apply below_alloc | apply pw_below_drewN | apply below_drew1) | exact HB.out))) : w.heap.size ≤ gb985)); clear HB; have HB := n0_; have BK985 := n1_; have GW985 := n2_; have GE985 := n3_; clear n0_ n1_ n2_ n3_; clear hb hbox hg; have hcz25_0 : w24.cell? ⟨gb985, 0, none⟩ = some (.int .i64 0) := (blk_cell BK985.out 0).trans rfl; have hcz25_1 : w24.cell? ⟨gb985, 1, none⟩ = some (.int .i64 0) := (blk_cell BK985.out 1).trans rfl; have hcz25_2 : w24.cell? ⟨gb985, 2, none⟩ = some (.slice none 0 0) := (blk_cell BK985.out 2).trans rfl; have hfz25_0 := blk_frozen BK985.out 0; have hfz25_1 := blk_frozen BK985.out 1; have hfz25_2 := blk_frozen BK985.out 2) | (go_at_call 115; (with_reducible refine (slices_Index_bool_bool.calls k1 _ _ ((rd_T135 l0 x17_1).f2) false t986 _ ?side1 ?side2 A9.out).mono ?_); (case side1 => exact Kd.C_below HR984_2.out (by repeat (first | (with_reducible first | exact HB.out | apply below_alloc | apply pw_below_drewN | apply below_drew1 | refine below_set ?_ GE985.out) | exact HB.out))); (case side2 => exact HC984_2.out); rintro e w' ⟨rfl, ⟨nd, rfl⟩⟩; (try first | exact ⟨rfl, _, World.drewN_drewN _ _ _⟩ | exact ⟨rfl, _, Eq.trans (World.drewN_drewN _ _ _) (congrArg (World.drewN _) (Nat.add_assoc _ _ _))⟩)))
                  repeat (go_quiet (first | ((with_reducible refine gate_dst (N := 9) rfl ?_); refine box_event ?hg (N := 9) ?hd (cs := #[.int .i64 0, .int .i64 0, .slice none 0 0]) (t := 135) ?hr ?_; (case hd => rfl); (case hg => rfl); (case hr => first | (go_simp; done) | (go_simp; rfl)); intro gb985 hg w24 hbox hb; have n0_ := Aside0.mk (below_step (by repeat (first | (with_reducible first | exact HB.out | apply below_alloc | apply pw_below_drewN | apply below_drew1) | exact HB.out)) hb); have n1_ := Aside0.mk (hbox); have n2_ := Aside0.mk ((by rw [hg]; exact (below_size (by repeat (first | (with_reducible first | exact HB.out | apply below_alloc | apply pw_below_drewN | apply below_drew1) | exact HB.out))) : w.heap.size ≤ gb985)); have n3_ := Aside0.mk ((by rw [hg]; exact (below_size (by repeat (first | (with_reducible first | exact HB.out | apply below_alloc | apply pw_below_drewN | apply below_drew1) | exact HB.out))) : w.heap.size ≤ gb985)); clear HB; have HB := n0_; have BK985 := n1_; have GW985 := n2_; have GE985 := n3_; clear n0_ n1_ n2_ n3_; clear hb hbox hg; have hcz25_0 : w24.cell? ⟨gb985, 0, none⟩ = some (.int .i64 0) := (blk_cell BK985.out 0).trans rfl; have hcz25_1 : w24.cell? ⟨gb985, 1, none⟩ = some (.int .i64 0) := (blk_cell BK985.out 1).trans rfl; have hcz25_2 : w24.cell? ⟨gb985, 2, none⟩ = some (.slice none 0 0) := (blk_cell BK985.out 2).trans rfl; have hfz25_0 := blk_frozen BK985.out 0; have hfz25_1 := blk_frozen BK985.out 1; have hfz25_2 := blk_frozen BK985.out 2) | (go_at_call 115; (with_reducible refine (slices_Index_bool_bool.calls k1 _ _ ((rd_T135 l0 x17_1).f2) false t986 _ ?side1 ?side2 A9.out).mono ?_); (case side1 => exact Kd.C_below HR984_2.out (by repeat (first | (with_reducible first | exact HB.out | apply below_alloc | apply pw_below_drewN | apply below_drew1 | refine below_set ?_ GE985.out) | exact HB.out))); (case side2 => exact HC984_2.out); rintro e w' ⟨rfl, ⟨nd, rfl⟩⟩; (try first | exact ⟨rfl, _, World.drewN_drewN _ _ _⟩ | exact ⟨rfl, _, Eq.trans (World.drewN_drewN _ _ _) (congrArg (World.drewN _) (Nat.add_assoc _ _ _))⟩))); try go_wp2_with (first | ((with_reducible refine gate_dst (N := 9) rfl ?_); refine box_event ?hg (N := 9) ?hd (cs := #[.int .i64 0, .int .i64 0, .slice none 0 0]) (t := 135) ?hr ?_; (case hd => rfl); (case hg => rfl); (case hr => first | (go_simp; done) | (go_simp; rfl)); intro gb985 hg w24 hbox hb; have n0_ := Aside0.mk (below_step (by repeat (first | (with_reducible first | exact HB.out | apply below_alloc | apply pw_below_drewN | apply below_drew1) | exact HB.out)) hb); have n1_ := Aside0.mk (hbox); have n2_ := Aside0.mk ((by rw [hg]; exact (below_size (by repeat (first | (with_reducible first | exact HB.out | apply below_alloc | apply pw_below_drewN | apply below_drew1) | exact HB.out))) : w.heap.size ≤ gb985)); have n3_ := Aside0.mk ((by rw [hg]; exact (below_size (by repeat (first | (with_reducible first | exact HB.out | apply below_alloc | apply pw_below_drewN | apply below_drew1) | exact HB.out))) : w.heap.size ≤ gb985)); clear HB; have HB := n0_; have BK985 := n1_; have GW985 := n2_; have GE985 := n3_; clear n0_ n1_ n2_ n3_; clear hb hbox hg; have hcz25_0 : w24.cell? ⟨gb985, 0, none⟩ = some (.int .i64 0) := (blk_cell BK985.out 0).trans rfl; have hcz25_1 : w24.cell? ⟨gb985, 1, none⟩ = some (.int .i64 0) := (blk_cell BK985.out 1).trans rfl; have hcz25_2 : w24.cell? ⟨gb985, 2, none⟩ = some (.slice none 0 0) := (blk_cell BK985.out 2).trans rfl; have hfz25_0 := blk_frozen BK985.out 0; have hfz25_1 := blk_frozen BK985.out 1; have hfz25_2 := blk_frozen BK985.out 2) | (go_at_call 115; (with_reducible refine (slices_Index_bool_bool.calls k1 _ _ ((rd_T135 l0 x17_1).f2) false t986 _ ?side1 ?side2 A9.out).mono ?_); (case side1 => exact Kd.C_below HR984_2.out (by repeat (first | (with_reducible first | exact HB.out | apply below_alloc | apply pw_below_drewN | apply below_drew1 | refine below_set ?_ GE985.out) | exact HB.out))); (case side2 => exact HC984_2.out); rintro e w' ⟨rfl, ⟨nd, rfl⟩⟩; (try first | exact ⟨rfl, _, World.drewN_drewN _ _ _⟩ | exact ⟨rfl, _, Eq.trans (World.drewN_drewN _ _ _) (congrArg (World.drewN _) (Nat.add_assoc _ _ _))⟩))))
                  go_roundg k1
                  case measure => have := HK1.out; omega
                  case rel => exact ⟨(wrap64 (x17_1 + 1)), (by first | rfl | (simp; done) | (simp [*]; done)), H', ⟨by have := HK1.out; omega⟩, ⟨by repeat (first | (with_reducible first | exact HB.out | apply below_alloc | apply pw_below_drewN | apply below_drew1 | refine below_set ?_ GE985.out) | exact HB.out)⟩⟩
              · rw [if_neg c10] at H
                have c10b0 : (((rd_T135 l0 x17_1).f1) == a1) = false := beq_eq_false_iff_ne.mpr c10
                have c10b1 : (((rd_T135 l0 x17_1).f1) != a1) = true := bne_iff_ne.mpr c10
                have H' := Aside0.mk H
                clear H
                have p984 : 0 ≤ (x17_1 : Int) := of_decide_eq_true (by first | (with_reducible assumption) | assumption)
                have q984 : x17_1 < (l0.length : Int) := of_decide_eq_true (by first | (with_reducible assumption) | assumption)
                obtain ⟨ad984, A984_2, c984_2, e984, hx984_0, hx984_1, hx984_2, hl984_2, hi984_2⟩ := at_T135 HR0.out x17_1 p984 q984
                cases e984
                replace hx984_0 := (HB.out.cell (World.block_lt_of_cell? w _ hx984_0)).trans hx984_0
                replace hx984_1 := (HB.out.cell (World.block_lt_of_cell? w _ hx984_1)).trans hx984_1
                replace hx984_2 := (HB.out.cell (World.block_lt_of_cell? w _ hx984_2)).trans hx984_2
                have HR984_2 := Aside0.mk hi984_2
                have HC984_2 := Aside0.mk hl984_2
                clear hi984_2 hl984_2
                replace p984 := eq_true p984
                replace q984 := eq_true q984
                go_wp2_with (first | ((with_reducible refine gate_dst (N := 9) rfl ?_); refine box_event ?hg (N := 9) ?hd (cs := #[.int .i64 0, .int .i64 0, .slice none 0 0]) (t := 135) ?hr ?_; (case hd => rfl); (case hg => rfl); (case hr => first | (go_simp; done) | (go_simp; rfl)); intro gb985 hg w26 hbox hb; have n0_ := Aside0.mk (below_step (by repeat (first | (with_reducible first | exact HB.out | apply below_alloc | apply pw_below_drewN | apply below_drew1) | exact HB.out)) hb); have n1_ := Aside0.mk (hbox); have n2_ := Aside0.mk ((by rw [hg]; exact (below_size (by repeat (first | (with_reducible first | exact HB.out | apply below_alloc | apply pw_below_drewN | apply below_drew1) | exact HB.out))) : w.heap.size ≤ gb985)); have n3_ := Aside0.mk ((by rw [hg]; exact (below_size (by repeat (first | (with_reducible first | exact HB.out | apply below_alloc | apply pw_below_drewN | apply below_drew1) | exact HB.out))) : w.heap.size ≤ gb985)); clear HB; have HB := n0_; have BK985 := n1_; have GW985 := n2_; have GE985 := n3_; clear n0_ n1_ n2_ n3_; clear hb hbox hg; have hcz27_0 : w26.cell? ⟨gb985, 0, none⟩ = some (.int .i64 0) := (blk_cell BK985.out 0).trans rfl; have hcz27_1 : w26.cell? ⟨gb985, 1, none⟩ = some (.int .i64 0) := (blk_cell BK985.out 1).trans rfl; have hcz27_2 : w26.cell? ⟨gb985, 2, none⟩ = some (.slice none 0 0) := (blk_cell BK985.out 2).trans rfl; have hfz27_0 := blk_frozen BK985.out 0; have hfz27_1 := blk_frozen BK985.out 1; have hfz27_2 := blk_frozen BK985.out 2) | (go_at_call 115; (with_reducible refine (slices_Index_bool_bool.calls k1 _ _ ((rd_T135 l0 x17_1).f2) false t986 _ ?side1 ?side2 A9.out).mono ?_); (case side1 => exact Kd.C_below HR984_2.out (by repeat (first | (with_reducible first | exact HB.out | apply below_alloc | apply pw_below_drewN | apply below_drew1 | refine below_set ?_ GE985.out) | exact HB.out))); (case side2 => exact HC984_2.out); rintro e w' ⟨rfl, ⟨nd, rfl⟩⟩; (try first | exact ⟨rfl, _, World.drewN_drewN _ _ _⟩ | exact ⟨rfl, _, Eq.trans (World.drewN_drewN _ _ _) (congrArg (World.drewN _) (Nat.add_assoc _ _ _))⟩)))
                repeat (go_quiet (first | ((with_reducible refine gate_dst (N := 9) rfl ?_); refine box_event ?hg (N := 9) ?hd (cs := #[.int .i64 0, .int .i64 0, .slice none 0 0]) (t := 135) ?hr ?_; (case hd => rfl); (case hg => rfl); (case hr => first | (go_simp; done) | (go_simp; rfl)); intro gb985 hg w26 hbox hb; have n0_ := Aside0.mk (below_step (by repeat (first | (with_reducible first | exact HB.out | apply below_alloc | apply pw_below_drewN | apply below_drew1) | exact HB.out)) hb); have n1_ := Aside0.mk (hbox); have n2_ := Aside0.mk ((by rw [hg]; exact (below_size (by repeat (first | (with_reducible first | exact HB.out | apply below_alloc | apply pw_below_drewN | apply below_drew1) | exact HB.out))) : w.heap.size ≤ gb985)); have n3_ := Aside0.mk ((by rw [hg]; exact (below_size (by repeat (first | (with_reducible first | exact HB.out | apply below_alloc | apply pw_below_drewN | apply below_drew1) | exact HB.out))) : w.heap.size ≤ gb985)); clear HB; have HB := n0_; have BK985 := n1_; have GW985 := n2_; have GE985 := n3_; clear n0_ n1_ n2_ n3_; clear hb hbox hg; have hcz27_0 : w26.cell? ⟨gb985, 0, none⟩ = some (.int .i64 0) := (blk_cell BK985.out 0).trans rfl; have hcz27_1 : w26.cell? ⟨gb985, 1, none⟩ = some (.int .i64 0) := (blk_cell BK985.out 1).trans rfl; have hcz27_2 : w26.cell? ⟨gb985, 2, none⟩ = some (.slice none 0 0) := (blk_cell BK985.out 2).trans rfl; have hfz27_0 := blk_frozen BK985.out 0; have hfz27_1 := blk_frozen BK985.out 1; have hfz27_2 := blk_frozen BK985.out 2) | (go_at_call 115; (with_reducible refine (slices_Index_bool_bool.calls k1 _ _ ((rd_T135 l0 x17_1).f2) false t986 _ ?side1 ?side2 A9.out).mono ?_); (case side1 => exact Kd.C_below HR984_2.out (by repeat (first | (with_reducible first | exact HB.out | apply below_alloc | apply pw_below_drewN | apply below_drew1 | refine below_set ?_ GE985.out) | exact HB.out))); (case side2 => exact HC984_2.out); rintro e w' ⟨rfl, ⟨nd, rfl⟩⟩; (try first | exact ⟨rfl, _, World.drewN_drewN _ _ _⟩ | exact ⟨rfl, _, Eq.trans (World.drewN_drewN _ _ _) (congrArg (World.drewN _) (Nat.add_assoc _ _ _))⟩))); try go_wp2_with (first | ((with_reducible refine gate_dst (N := 9) rfl ?_); refine box_event ?hg (N := 9) ?hd (cs := #[.int .i64 0, .int .i64 0, .slice none 0 0]) (t := 135) ?hr ?_; (case hd => rfl); (case hg => rfl); (case hr => first | (go_simp; done) | (go_simp; rfl)); intro gb985 hg w26 hbox hb; have n0_ := Aside0.mk (below_step (by repeat (first | (with_reducible first | exact HB.out | apply below_alloc | apply pw_below_drewN | apply below_drew1) | exact HB.out)) hb); have n1_ := Aside0.mk (hbox); have n2_ := Aside0.mk ((by rw [hg]; exact (below_size (by repeat (first | (with_reducible first | exact HB.out | apply below_alloc | apply pw_below_drewN | apply below_drew1) | exact HB.out))) : w.heap.size ≤ gb985)); have n3_ := Aside0.mk ((by rw [hg]; exact (below_size (by repeat (first | (with_reducible first | exact HB.out | apply below_alloc | apply pw_below_drewN | apply below_drew1) | exact HB.out))) : w.heap.size ≤ gb985)); clear HB; have HB := n0_; have BK985 := n1_; have GW985 := n2_; have GE985 := n3_; clear n0_ n1_ n2_ n3_; clear hb hbox hg; have hcz27_0 : w26.cell? ⟨gb985, 0, none⟩ = some (.int .i64 0) := (blk_cell BK985.out 0).trans rfl; have hcz27_1 : w26.cell? ⟨gb985, 1, none⟩ = some (.int .i64 0) := (blk_cell BK985.out 1).trans rfl; have hcz27_2 : w26.cell? ⟨gb985, 2, none⟩ = some (.slice none 0 0) := (blk_cell BK985.out 2).trans rfl; have hfz27_0 := blk_frozen BK985.out 0; have hfz27_1 := blk_frozen BK985.out 1; have hfz27_2 := blk_frozen BK985.out 2) | (go_at_call 115; (with_reducible refine (slices_Index_bool_bool.calls k1 _ _ ((rd_T135 l0 x17_1).f2) false t986 _ ?side1 ?side2 A9.out).mono ?_); (case side1 => exact Kd.C_below HR984_2.out (by repeat (first | (with_reducible first | exact HB.out | apply below_alloc | apply pw_below_drewN | apply below_drew1 | refine below_set ?_ GE985.out) | exact HB.out))); (case side2 => exact HC984_2.out); rintro e w' ⟨rfl, ⟨nd, rfl⟩⟩; (try first | exact ⟨rfl, _, World.drewN_drewN _ _ _⟩ | exact ⟨rfl, _, Eq.trans (World.drewN_drewN _ _ _) (congrArg (World.drewN _) (Nat.add_assoc _ _ _))⟩))))
                go_roundg k1
                case measure => have := HK1.out; omega
                case rel => exact ⟨(wrap64 (x17_1 + 1)), (by first | rfl | (simp; done) | (simp [*]; done)), H', ⟨by have := HK1.out; omega⟩, ⟨by repeat (first | (with_reducible first | exact HB.out | apply below_alloc | apply pw_below_drewN | apply below_drew1 | refine below_set ?_ GE985.out) | exact HB.out)⟩⟩
            · rw [if_neg c8] at H
              exact absurd H (by simp)
          · rw [if_neg c7] at H
            exact absurd H (by simp)
        · rw [if_neg c6] at H
          have c6b0 : decide (x17_1 < (l0.length : Int)) = false := decide_eq_false c6
          clear c6
          simp only [Option.some.injEq, Prod.mk.injEq] at H
          obtain ⟨rfl, rfl, rfl, rfl⟩ := H
          go_wp2
          repeat (go_quiet (fail); try go_wp2)
          refine bodyPost_ret (results_list (rs := [.tmp 4, .tmp 5, .tmp 6, .tmp 7]) rfl (by simp) (.tmp (.tmp (.tmp (.tmp .nil))))) rfl ?_
          exact ⟨_, by first | rfl | (simp [errW_none, errW_some] <;> rfl) | (simp [*, errW_none, errW_some] <;> rfl), by first | exact Kd.S_nil _ _ _ _ _ | exact Kd.N_nil _ _ _ _ _ | exact Kd.V_nil _ _ _ _ _ | exact Kd.Q_nil _ _ _ _ _ | exact Kd.R_nil _ _ _ _ _, by repeat (first | (with_reducible first | exact HB.out | apply below_alloc | apply pw_below_drewN | apply below_drew1) | exact HB.out)⟩
  · replace c4 := Bool.eq_false_iff.mpr c4
    subst c4
    have H1 : (some (([] : List (S135)), 0, 0, false)) = some (r1, r2, r3, r4) := by rw [if_neg (show ¬ (false = true) by decide)] at H; exact H
    clear H
    have H := H1
    clear H1
    simp only [Option.some.injEq, Prod.mk.injEq] at H
    obtain ⟨rfl, rfl, rfl, rfl⟩ := H
    go_enter Try.func58, Try.ntmps58
    go_wp2_with (first | (go_at_call 114; (with_reducible refine (impl_SlabsOk.calls k _ _ l0 false _ ?side1 ?side2 A3.out).mono ?_); (case side1 => repeat (first | exact HR0.out | (with_reducible refine Kd.C_alloc ?_ _) | (with_reducible refine Kd.C_drewN ?_ _) | (with_reducible refine Kd.C_drew ?_))); (case side2 => exact HC0.out); rintro e w28 ⟨rfl, hb⟩; have n0_ := Aside0.mk (below_step (by repeat (first | (with_reducible first | exact HB.out | apply below_alloc | apply pw_below_drewN | apply below_drew1) | exact HB.out)) hb); clear HB; have HB := n0_; clear n0_; (try clear hb); (try clear hb2); (try clear hk); (try clear hi)))
    repeat (go_quiet (first | (go_at_call 114; (with_reducible refine (impl_SlabsOk.calls k _ _ l0 false _ ?side1 ?side2 A3.out).mono ?_); (case side1 => repeat (first | exact HR0.out | (with_reducible refine Kd.C_alloc ?_ _) | (with_reducible refine Kd.C_drewN ?_ _) | (with_reducible refine Kd.C_drew ?_))); (case side2 => exact HC0.out); rintro e w28 ⟨rfl, hb⟩; have n0_ := Aside0.mk (below_step (by repeat (first | (with_reducible first | exact HB.out | apply below_alloc | apply pw_below_drewN | apply below_drew1) | exact HB.out)) hb); clear HB; have HB := n0_; clear n0_; (try clear hb); (try clear hb2); (try clear hk); (try clear hi))); try go_wp2_with (first | (go_at_call 114; (with_reducible refine (impl_SlabsOk.calls k _ _ l0 false _ ?side1 ?side2 A3.out).mono ?_); (case side1 => repeat (first | exact HR0.out | (with_reducible refine Kd.C_alloc ?_ _) | (with_reducible refine Kd.C_drewN ?_ _) | (with_reducible refine Kd.C_drew ?_))); (case side2 => exact HC0.out); rintro e w28 ⟨rfl, hb⟩; have n0_ := Aside0.mk (below_step (by repeat (first | (with_reducible first | exact HB.out | apply below_alloc | apply pw_below_drewN | apply below_drew1) | exact HB.out)) hb); clear HB; have HB := n0_; clear n0_; (try clear hb); (try clear hb2); (try clear hk); (try clear hi))))
    refine bodyPost_ret (results_list (rs := [.tmp 4, .tmp 5, .tmp 6, .tmp 7]) rfl (by simp) (.tmp (.tmp (.tmp (.tmp .nil))))) rfl ?_
    exact ⟨_, by first | rfl | (simp [errW_none, errW_some] <;> rfl) | (simp [*, errW_none, errW_some] <;> rfl), by first | exact Kd.S_nil _ _ _ _ _ | exact Kd.N_nil _ _ _ _ _ | exact Kd.V_nil _ _ _ _ _ | exact Kd.Q_nil _ _ _ _ _ | exact Kd.R_nil _ _ _ _ _, by repeat (first | (with_reducible first | exact HB.out | apply below_alloc | apply pw_below_drewN | apply below_drew1) | exact HB.out)⟩

end Go.Proofs.Ytdpejnckojhgjaa.P
end
section
namespace Go.Proofs.Ytdpejnckojhgjaa.P
open Go.RowKit Go.Proofs.YtdpejnckojhgjaaW.PrintWords Go.Proofs.YtdpejnckojhgjaaW.PrintLast Go.Proofs.YtdpejnckojhgjaaW.PrintMore
attribute [local go_sem] max2_int min2_int max_two min_two max_three min_three max_four min_four   -- for this text's walks alone
set_option linter.unusedVariables false
set_option linter.unusedSimpArgs false

/-! ### laws_eqBoolS: function 138 -/
def laws_eqBoolS.l0 : Nat → List Bool → List Bool → Int → Option (Bool)
  | 0, _, _, _ => none
  | k + 1, x0, x1, x5 => if x5 < (x0.length : Int) then (if 0 ≤ x5 then (if x5 < (x1.length : Int) then (if ((rdOf false x0 x5) != (rdOf false x1 x5)) = true then (some false) else (laws_eqBoolS.l0 k x0 x1 (wrap64 (x5 + 1)))) else (none)) else (none)) else (some true)
def laws_eqBoolS.f (k : Nat) (l0 : List Bool) (l1 : List Bool) : Option (Bool) := if (l0.length : Int) = (l1.length : Int) then (laws_eqBoolS.l0 k l0 l1 0) else (some false)
theorem laws_eqBoolS.mono_l : ∀ k, (∀ y0 y1 y2, LeO (laws_eqBoolS.l0 k y0 y1 y2) (laws_eqBoolS.l0 (k + 1) y0 y1 y2))
  | 0 => fun _ _ _ r h => by simp [laws_eqBoolS.l0] at h
  | k + 1 => by
    have ih0 := laws_eqBoolS.mono_l k
    · intro y0 y1 y2
      unfold laws_eqBoolS.l0
      repeat' first
      | (with_reducible exact ih0 _ _ _)
      | (with_reducible exact LeO.refl _)
      | (with_reducible exact LeO.none _)
      | (with_reducible refine LeO.ite ?_ ?_)
      | (with_reducible refine LeO.bind ?_ (fun _ => ?_))
      | exact ih0 _ _ _
      | exact LeO.none _
      | refine LeO.ite ?_ ?_
      | refine LeO.bind ?_ (fun _ => ?_)
theorem laws_eqBoolS.mono : ∀ a0 a1 k, LeO (laws_eqBoolS.f k a0 a1) (laws_eqBoolS.f (k + 1) a0 a1) := by
  intro a0 a1 k
  have ih0 := laws_eqBoolS.mono_l k
  unfold laws_eqBoolS.f
  repeat' first
      | (with_reducible exact ih0 _ _ _)
      | (with_reducible exact LeO.refl _)
      | (with_reducible exact LeO.none _)
      | (with_reducible refine LeO.ite ?_ ?_)
      | (with_reducible refine LeO.bind ?_ (fun _ => ?_))
      | exact ih0 _ _ _
      | exact LeO.none _
      | refine LeO.ite ?_ ?_
      | refine LeO.bind ?_ (fun _ => ?_)
set_option maxHeartbeats 8000000 in
set_option maxRecDepth 100000 in
theorem laws_eqBoolS.calls (k : Nat) (A0 : Option Addr) (c0 : Nat) (l0 : List Bool) (A1 : Option Addr) (c1 : Nat) (l1 : List Bool) (r : Bool) (w : World) (hr0 : Kd.C Kd.bool w A0 l0.length l0) (hc0 : l0.length ≤ c0) (hr1 : Kd.C Kd.bool w A1 l1.length l1) (hc1 : l1.length ≤ c1) (h : laws_eqBoolS.f k l0 l1 = some r) :
    Calls Try.prog 138 #[.slice A0 l0.length c0, .slice A1 l1.length c1] w fun e w' => e = .returned (.bool r) ∧ Drawn0 w w' := by
  have HR0 := Aside0.mk hr0
  have HC0 := Aside0.mk hc0
  clear hr0 hc0
  have HR1 := Aside0.mk hr1
  have HC1 := Aside0.mk hc1
  clear hr1 hc1
  have H : (if (l0.length : Int) = (l1.length : Int) then (laws_eqBoolS.l0 k l0 l1 0) else (some false)) = some r := h
  clear h
  by_cases c3 : (l0.length : Int) = (l1.length : Int)
  · rw [if_pos c3] at H
    have c3b0 : ((l0.length : Int) == (l1.length : Int)) = true := beq_iff_eq.mpr c3
    have c3b1 : ((l0.length : Int) != (l1.length : Int)) = false := bne_eq_false_iff_eq.mpr c3
    have c3b2 : (l0.length == l1.length) = true := by first | simpa using c3 | (simp at c3 ⊢; omega)
    clear c3
    have H' := Aside0.mk H
    clear H
    go_enter Try.func138, Try.ntmps138
    go_wp2
    repeat (go_quiet (fail); try go_wp2)
    go_loopg [5] k (fun kq v5 w' => ∃ (x5_1 : Int), v5 = .int .i64 x5_1 ∧ Aside0 (laws_eqBoolS.l0 kq l0 l1 x5_1 = some r) ∧ Aside0 (kq ≤ k) ∧ Drawn0 w w')
    case atStart => exact ⟨(0), (by first | rfl | (simp; done) | (simp [*]; done)), H', ⟨Nat.le_refl _⟩, by repeat (first | exact Drawn0.refl _ | apply Drawn0.step)⟩
    case round =>
      clear H'
      try clear c1
      try clear p2
      try clear c3
      try clear c3b0
      try clear c3b1
      try clear c3b2
      obtain ⟨x5_1, rfl, HA, HK1, ⟨m1, rfl⟩⟩ := hrel
      cases gk with
      | zero => exact absurd HA.out (by simp [laws_eqBoolS.l0])
      | succ k1 =>
        have H := HA.out
        clear HA
        simp only [laws_eqBoolS.l0] at H
        by_cases c4 : x5_1 < (l0.length : Int)
        · rw [if_pos c4] at H
          have c4b0 : decide (x5_1 < (l0.length : Int)) = true := decide_eq_true c4
          clear c4
          by_cases c5 : 0 ≤ x5_1
          · rw [if_pos c5] at H
            have c5b0 : decide (0 ≤ x5_1) = true := decide_eq_true c5
            clear c5
            by_cases c6 : x5_1 < (l1.length : Int)
            · rw [if_pos c6] at H
              have c6b0 : decide (x5_1 < (l1.length : Int)) = true := decide_eq_true c6
              clear c6
              by_cases c7 : ((rdOf false l0 x5_1) != (rdOf false l1 x5_1)) = true
              · rw [if_pos c7] at H
                have c7b0 : ((rdOf false l0 x5_1) != (rdOf false l1 x5_1)) = true := c7
                (try (have c7b1 : decide ((rdOf false l0 x5_1) = (rdOf false l1 x5_1)) = false := by simpa using c7))
                (try (have c7b2 : ((rdOf false l0 x5_1) == (rdOf false l1 x5_1)) = false := by simpa using c7))
                (try (have c7b3 : ¬ ((rdOf false l0 x5_1) = (rdOf false l1 x5_1)) := by simpa using c7))
                clear c7
                obtain rfl := Option.some.inj H
                have p995 : 0 ≤ (x5_1 : Int) := of_decide_eq_true (by first | (with_reducible assumption) | assumption)
                have q995 : x5_1 < (l0.length : Int) := of_decide_eq_true (by first | (with_reducible assumption) | assumption)
                obtain ⟨ad995, e995, hx995_0⟩ := Kd.at_bool HR0.out x5_1 p995 q995
                cases e995
                replace p995 := eq_true p995
                replace q995 := eq_true q995
                have p996 : 0 ≤ (x5_1 : Int) := of_decide_eq_true (by first | (with_reducible assumption) | assumption)
                have q996 : x5_1 < (l1.length : Int) := of_decide_eq_true (by first | (with_reducible assumption) | assumption)
                obtain ⟨ad996, e996, hx996_0⟩ := Kd.at_bool HR1.out x5_1 p996 q996
                cases e996
                replace p996 := eq_true p996
                replace q996 := eq_true q996
                go_wp2
                repeat (go_quiet (fail); try go_wp2)
                go_ret
                exact ⟨by first | rfl | (simp; done) | (simp [*]; done), by repeat (first | exact Drawn0.refl _ | apply Drawn0.step)⟩
              · rw [if_neg c7] at H
                have c7b0 : ((rdOf false l0 x5_1) != (rdOf false l1 x5_1)) = false := by simpa using c7
                (try (have c7b1 : decide ((rdOf false l0 x5_1) = (rdOf false l1 x5_1)) = true := by simpa using c7))
                (try (have c7b2 : ((rdOf false l0 x5_1) == (rdOf false l1 x5_1)) = true := by simpa using c7))
                clear c7
                have H' := Aside0.mk H
                clear H
                have p995 : 0 ≤ (x5_1 : Int) := of_decide_eq_true (by first | (with_reducible assumption) | assumption)
                have q995 : x5_1 < (l0.length : Int) := of_decide_eq_true (by first | (with_reducible assumption) | assumption)
                obtain ⟨ad995, e995, hx995_0⟩ := Kd.at_bool HR0.out x5_1 p995 q995
                cases e995
                replace p995 := eq_true p995
                replace q995 := eq_true q995
                have p996 : 0 ≤ (x5_1 : Int) := of_decide_eq_true (by first | (with_reducible assumption) | assumption)
                have q996 : x5_1 < (l1.length : Int) := of_decide_eq_true (by first | (with_reducible assumption) | assumption)
                obtain ⟨ad996, e996, hx996_0⟩ := Kd.at_bool HR1.out x5_1 p996 q996
                cases e996
                replace p996 := eq_true p996
                replace q996 := eq_true q996
                go_wp2
                repeat (go_quiet (fail); try go_wp2)
                go_roundg k1
                case measure => have := HK1.out; omega
                case rel => exact ⟨(wrap64 (x5_1 + 1)), (by first | rfl | (simp; done) | (simp [*]; done)), H', ⟨by have := HK1.out; omega⟩, by repeat (first | exact Drawn0.refl _ | apply Drawn0.step)⟩
            · rw [if_neg c6] at H
              exact absurd H (by simp)
          · rw [if_neg c5] at H
            exact absurd H (by simp)
        · rw [if_neg c4] at H
          have c4b0 : decide (x5_1 < (l0.length : Int)) = false := decide_eq_false c4
          clear c4
          obtain rfl := Option.some.inj H
          go_wp2
          repeat (go_quiet (fail); try go_wp2)
          go_ret
          exact ⟨by first | rfl | (simp; done) | (simp [*]; done), by repeat (first | exact Drawn0.refl _ | apply Drawn0.step)⟩
  · rw [if_neg c3] at H
    have c3b0 : ((l0.length : Int) == (l1.length : Int)) = false := beq_eq_false_iff_ne.mpr c3
    have c3b1 : ((l0.length : Int) != (l1.length : Int)) = true := bne_iff_ne.mpr c3
    have c3b2 : (l0.length == l1.length) = false := by first | simpa using c3 | (simp at c3 ⊢; omega)
    obtain rfl := Option.some.inj H
    go_enter Try.func138, Try.ntmps138
    go_wp2
    repeat (go_quiet (fail); try go_wp2)
    go_ret
    exact ⟨by first | rfl | (simp; done) | (simp [*]; done), by repeat (first | exact Drawn0.refl _ | apply Drawn0.step)⟩

end Go.Proofs.Ytdpejnckojhgjaa.P
end
section
namespace Go.Proofs.Ytdpejnckojhgjaa.P
open Go.RowKit Go.Proofs.YtdpejnckojhgjaaW.PrintWords Go.Proofs.YtdpejnckojhgjaaW.PrintLast Go.Proofs.YtdpejnckojhgjaaW.PrintMore
attribute [local go_sem] max2_int min2_int max_two min_two max_three min_three max_four min_four   -- for this text's walks alone
set_option linter.unusedVariables false
set_option linter.unusedSimpArgs false

/-! ### laws_eqSlab: function 117 -/
def laws_eqSlab.f (k : Nat) (a0_0 : Int) (a0_1 : Int) (l0_2 : List Bool) (a1_0 : Int) (a1_1 : Int) (l1_2 : List Bool) : Option (Bool) := if a0_0 = a1_0 then (if a0_1 = a1_1 then ((laws_eqBoolS.f k l0_2 l1_2).bind fun t999 => (if t999 = true then (some true) else (some false))) else (some false)) else (some false)
theorem laws_eqSlab.mono : ∀ a0 a1 a2 a3 a4 a5 k, LeO (laws_eqSlab.f k a0 a1 a2 a3 a4 a5) (laws_eqSlab.f (k + 1) a0 a1 a2 a3 a4 a5) := by
  intro a0 a1 a2 a3 a4 a5 k
  unfold laws_eqSlab.f
  repeat' first
      | (with_reducible exact laws_eqBoolS.mono _ _ _)
      | (with_reducible exact LeO.refl _)
      | (with_reducible exact LeO.none _)
      | (with_reducible refine LeO.ite ?_ ?_)
      | (with_reducible refine LeO.bind ?_ (fun _ => ?_))
      | exact laws_eqBoolS.mono _ _ _
      | exact LeO.none _
      | refine LeO.ite ?_ ?_
      | refine LeO.bind ?_ (fun _ => ?_)
set_option maxHeartbeats 8000000 in
set_option maxRecDepth 100000 in
theorem laws_eqSlab.calls (k : Nat) (a0_0 : Int) (a0_1 : Int) (A0_2 : Option Addr) (c0_2 : Nat) (l0_2 : List Bool) (a1_0 : Int) (a1_1 : Int) (A1_2 : Option Addr) (c1_2 : Nat) (l1_2 : List Bool) (r : Bool) (w : World) (hr0_2 : Kd.C Kd.bool w A0_2 l0_2.length l0_2) (hc0_2 : l0_2.length ≤ c0_2) (hr1_2 : Kd.C Kd.bool w A1_2 l1_2.length l1_2) (hc1_2 : l1_2.length ≤ c1_2) (h : laws_eqSlab.f k a0_0 a0_1 l0_2 a1_0 a1_1 l1_2 = some r) :
    Calls Try.prog 117 #[.agg #[.int .i64 a0_0, .int .i64 a0_1, .slice A0_2 l0_2.length c0_2], .agg #[.int .i64 a1_0, .int .i64 a1_1, .slice A1_2 l1_2.length c1_2]] w fun e w' => e = .returned (.bool r) ∧ Below w.heap.size w w' := by
  have hu135 := Try.underlying135
  have HR0_2 := Aside0.mk hr0_2
  have HC0_2 := Aside0.mk hc0_2
  clear hr0_2 hc0_2
  have HR1_2 := Aside0.mk hr1_2
  have HC1_2 := Aside0.mk hc1_2
  clear hr1_2 hc1_2
  have HB := Aside0.mk (Below.refl w.heap.size w)
  have H : (if a0_0 = a1_0 then (if a0_1 = a1_1 then ((laws_eqBoolS.f k l0_2 l1_2).bind fun t999 => (if t999 = true then (some true) else (some false))) else (some false)) else (some false)) = some r := h
  clear h
  by_cases c3 : a0_0 = a1_0
  · rw [if_pos c3] at H
    have c3b0 : (a0_0 == a1_0) = true := beq_iff_eq.mpr c3
    have c3b1 : (a0_0 != a1_0) = false := bne_eq_false_iff_eq.mpr c3
    clear c3
    by_cases c4 : a0_1 = a1_1
    · rw [if_pos c4] at H
      have c4b0 : (a0_1 == a1_1) = true := beq_iff_eq.mpr c4
      have c4b1 : (a0_1 != a1_1) = false := bne_eq_false_iff_eq.mpr c4
      clear c4
      replace H := Option.bind_eq_some_iff.mp H
      obtain ⟨t999, A50, H⟩ := H
      replace H : (if t999 = true then (some true) else (some false)) = some r := H
      have A5 := Aside0.mk A50
      clear A50
      by_cases c6 : t999 = true
      · subst c6
        have H1 : (some true) = some r := by rw [if_pos rfl] at H; exact H
        clear H
        have H := H1
        clear H1
        obtain rfl := Option.some.inj H
        go_enter Try.func117, Try.ntmps117
        go_wp2_with (first | ((with_reducible refine gate_dst (N := 2) rfl ?_); refine box_event ?hg (N := 2) ?hd (cs := #[.int .i64 a0_0, .int .i64 a0_1, .slice A0_2 l0_2.length c0_2]) (t := 135) ?hr ?_; (case hd => rfl); (case hg => rfl); (case hr => first | (go_simp; done) | (go_simp; rfl)); intro gb997 hg w7 hbox hb; have n0_ := Aside0.mk (below_step (by repeat (first | (with_reducible first | exact HB.out | apply below_alloc | apply pw_below_drewN | apply below_drew1) | exact HB.out)) hb); have n1_ := Aside0.mk (hbox); have n2_ := Aside0.mk ((by rw [hg]; exact (below_size (by repeat (first | (with_reducible first | exact HB.out | apply below_alloc | apply pw_below_drewN | apply below_drew1) | exact HB.out))) : w.heap.size ≤ gb997)); have n3_ := Aside0.mk ((by rw [hg]; exact (below_size (by repeat (first | (with_reducible first | exact HB.out | apply below_alloc | apply pw_below_drewN | apply below_drew1) | exact HB.out))) : w.heap.size ≤ gb997)); clear HB; have HB := n0_; have BK997 := n1_; have GW997 := n2_; have GE997 := n3_; clear n0_ n1_ n2_ n3_; clear hb hbox hg) | ((with_reducible refine gate_dst (N := 3) rfl ?_); refine box_event ?hg (N := 3) ?hd (cs := #[.int .i64 a1_0, .int .i64 a1_1, .slice A1_2 l1_2.length c1_2]) (t := 135) ?hr ?_; (case hd => rfl); (case hg => rfl); (case hr => first | (go_simp; done) | (go_simp; rfl)); intro gb998 hg w8 hbox hb; have n0_ := Aside0.mk (blk_below (g := gb997) (o := .cells #[.int .i64 a0_0, .int .i64 a0_1, .slice A0_2 l0_2.length c0_2] 135 (0, 0)) (by (with_reducible repeat (first | refine blk_drewN ?_ _ | refine blk_drew ?_ | refine blk_alloc ?_ _)); exact BK997.out) hb); have n1_ := Aside0.mk (below_step (by repeat (first | (with_reducible first | exact HB.out | apply below_alloc | apply pw_below_drewN | apply below_drew1 | refine below_set ?_ GE997.out) | exact HB.out)) hb); have n2_ := Aside0.mk (hbox); have n3_ := Aside0.mk ((by rw [hg]; exact (below_size (by repeat (first | (with_reducible first | exact HB.out | apply below_alloc | apply pw_below_drewN | apply below_drew1 | refine below_set ?_ GE997.out) | exact HB.out))) : w.heap.size ≤ gb998)); have n4_ := Aside0.mk ((by rw [hg]; exact (below_size (by repeat (first | (with_reducible first | exact HB.out | apply below_alloc | apply pw_below_drewN | apply below_drew1 | refine below_set ?_ GE997.out) | exact HB.out))) : w.heap.size ≤ gb998)); have n5_ := Aside0.mk ((by rw [hg]; exact Nat.ne_of_lt (blk_lt (g := gb997) (o := .cells #[.int .i64 a0_0, .int .i64 a0_1, .slice A0_2 l0_2.length c0_2] 135 (0, 0)) (by (with_reducible repeat (first | refine blk_drewN ?_ _ | refine blk_drew ?_ | refine blk_alloc ?_ _)); exact BK997.out)) : gb997 ≠ gb998)); have n6_ := Aside0.mk ((by rw [hg]; exact Nat.ne_of_gt (blk_lt (g := gb997) (o := .cells #[.int .i64 a0_0, .int .i64 a0_1, .slice A0_2 l0_2.length c0_2] 135 (0, 0)) (by (with_reducible repeat (first | refine blk_drewN ?_ _ | refine blk_drew ?_ | refine blk_alloc ?_ _)); exact BK997.out)) : gb998 ≠ gb997)); clear BK997; clear HB; have BK997 := n0_; have HB := n1_; have BK998 := n2_; have GW998 := n3_; have GE998 := n4_; have NB997_998 := n5_; have NB998_997 := n6_; clear n0_ n1_ n2_ n3_ n4_ n5_ n6_; clear hb hbox hg; have hnb9 := NB997_998.out; have hnc9 := NB998_997.out; have hcz10_0 : w8.cell? ⟨gb997, 0, none⟩ = some (.int .i64 a0_0) := (blk_cell BK997.out 0).trans rfl; have hcz10_1 : w8.cell? ⟨gb997, 1, none⟩ = some (.int .i64 a0_1) := (blk_cell BK997.out 1).trans rfl; have hcz10_2 : w8.cell? ⟨gb997, 2, none⟩ = some (.slice A0_2 l0_2.length c0_2) := (blk_cell BK997.out 2).trans rfl; have hfz10_0 := blk_frozen BK997.out 0; have hfz10_1 := blk_frozen BK997.out 1; have hfz10_2 := blk_frozen BK997.out 2; have hcz11_0 : w8.cell? ⟨gb998, 0, none⟩ = some (.int .i64 a1_0) := (blk_cell BK998.out 0).trans rfl; have hcz11_1 : w8.cell? ⟨gb998, 1, none⟩ = some (.int .i64 a1_1) := (blk_cell BK998.out 1).trans rfl; have hcz11_2 : w8.cell? ⟨gb998, 2, none⟩ = some (.slice A1_2 l1_2.length c1_2) := (blk_cell BK998.out 2).trans rfl; have hfz11_0 := blk_frozen BK998.out 0; have hfz11_1 := blk_frozen BK998.out 1; have hfz11_2 := blk_frozen BK998.out 2) | ((with_reducible refine gate_callee (f := 138) rfl ?_); refine goesL_ (some 19) rfl rfl Try.func138 (by kernel_rfl) rfl #[.slice A0_2 l0_2.length c0_2, .slice A1_2 l1_2.length c1_2] rfl (by (try simp only [List.map_toArray, List.map_cons, List.map_nil]); first | done | rfl | (simp only [List.length_drop, List.length_take]; rfl)) ?_; (with_reducible refine (laws_eqBoolS.calls k _ _ l0_2 _ _ l1_2 true _ ?side1 ?side2 ?side3 ?side4 A5.out).mono ?_); (case side1 => repeat (first | exact (Kd.C_below HR0_2.out HB.out) | (with_reducible refine Kd.C_alloc ?_ _) | (with_reducible refine Kd.C_drewN ?_ _) | (with_reducible refine Kd.C_drew ?_))); (case side2 => exact HC0_2.out); (case side3 => repeat (first | exact (Kd.C_below HR1_2.out HB.out) | (with_reducible refine Kd.C_alloc ?_ _) | (with_reducible refine Kd.C_drewN ?_ _) | (with_reducible refine Kd.C_drew ?_))); (case side4 => exact HC1_2.out); rintro e w' ⟨rfl, ⟨nd, rfl⟩⟩; refine ⟨_, rfl, ?_⟩))
        go_ret
        exact ⟨by first | rfl | (simp [errW_none, errW_some] <;> rfl) | (simp [*, errW_none, errW_some] <;> rfl), by repeat (first | (with_reducible first | exact HB.out | apply below_alloc | apply pw_below_drewN | apply below_drew1 | refine below_set ?_ GE997.out | refine below_set ?_ GE998.out) | exact HB.out)⟩
      · replace c6 := Bool.eq_false_iff.mpr c6
        subst c6
        have H1 : (some false) = some r := by rw [if_neg (show ¬ (false = true) by decide)] at H; exact H
        clear H
        have H := H1
        clear H1
        obtain rfl := Option.some.inj H
        go_enter Try.func117, Try.ntmps117
        go_wp2_with (first | ((with_reducible refine gate_dst (N := 2) rfl ?_); refine box_event ?hg (N := 2) ?hd (cs := #[.int .i64 a0_0, .int .i64 a0_1, .slice A0_2 l0_2.length c0_2]) (t := 135) ?hr ?_; (case hd => rfl); (case hg => rfl); (case hr => first | (go_simp; done) | (go_simp; rfl)); intro gb997 hg w12 hbox hb; have n0_ := Aside0.mk (below_step (by repeat (first | (with_reducible first | exact HB.out | apply below_alloc | apply pw_below_drewN | apply below_drew1) | exact HB.out)) hb); have n1_ := Aside0.mk (hbox); have n2_ := Aside0.mk ((by rw [hg]; exact (below_size (by repeat (first | (with_reducible first | exact HB.out | apply below_alloc | apply pw_below_drewN | apply below_drew1) | exact HB.out))) : w.heap.size ≤ gb997)); have n3_ := Aside0.mk ((by rw [hg]; exact (below_size (by repeat (first | (with_reducible first | exact HB.out | apply below_alloc | apply pw_below_drewN | apply below_drew1) | exact HB.out))) : w.heap.size ≤ gb997)); clear HB; have HB := n0_; have BK997 := n1_; have GW997 := n2_; have GE997 := n3_; clear n0_ n1_ n2_ n3_; clear hb hbox hg) | ((with_reducible refine gate_dst (N := 3) rfl ?_); refine box_event ?hg (N := 3) ?hd (cs := #[.int .i64 a1_0, .int .i64 a1_1, .slice A1_2 l1_2.length c1_2]) (t := 135) ?hr ?_; (case hd => rfl); (case hg => rfl); (case hr => first | (go_simp; done) | (go_simp; rfl)); intro gb998 hg w13 hbox hb; have n0_ := Aside0.mk (blk_below (g := gb997) (o := .cells #[.int .i64 a0_0, .int .i64 a0_1, .slice A0_2 l0_2.length c0_2] 135 (0, 0)) (by (with_reducible repeat (first | refine blk_drewN ?_ _ | refine blk_drew ?_ | refine blk_alloc ?_ _)); exact BK997.out) hb); have n1_ := Aside0.mk (below_step (by repeat (first | (with_reducible first | exact HB.out | apply below_alloc | apply pw_below_drewN | apply below_drew1 | refine below_set ?_ GE997.out) | exact HB.out)) hb); have n2_ := Aside0.mk (hbox); have n3_ := Aside0.mk ((by rw [hg]; exact (below_size (by repeat (first | (with_reducible first | exact HB.out | apply below_alloc | apply pw_below_drewN | apply below_drew1 | refine below_set ?_ GE997.out) | exact HB.out))) : w.heap.size ≤ gb998)); have n4_ := Aside0.mk ((by rw [hg]; exact (below_size (by repeat (first | (with_reducible first | exact HB.out | apply below_alloc | apply pw_below_drewN | apply below_drew1 | refine below_set ?_ GE997.out) | exact HB.out))) : w.heap.size ≤ gb998)); have n5_ := Aside0.mk ((by rw [hg]; exact Nat.ne_of_lt (blk_lt (g := gb997) (o := .cells #[.int .i64 a0_0, .int .i64 a0_1, .slice A0_2 l0_2.length c0_2] 135 (0, 0)) (by (with_reducible repeat (first | refine blk_drewN ?_ _ | refine blk_drew ?_ | refine blk_alloc ?_ _)); exact BK997.out)) : gb997 ≠ gb998)); have n6_ := Aside0.mk ((by rw [hg]; exact Nat.ne_of_gt (blk_lt (g := gb997) (o := .cells #[.int .i64 a0_0, .int .i64 a0_1, .slice A0_2 l0_2.length c0_2] 135 (0, 0)) (by (with_reducible repeat (first | refine blk_drewN ?_ _ | refine blk_drew ?_ | refine blk_alloc ?_ _)); exact BK997.out)) : gb998 ≠ gb997)); clear BK997; clear HB; have BK997 := n0_; have HB := n1_; have BK998 := n2_; have GW998 := n3_; have GE998 := n4_; have NB997_998 := n5_; have NB998_997 := n6_; clear n0_ n1_ n2_ n3_ n4_ n5_ n6_; clear hb hbox hg; have hnb14 := NB997_998.out; have hnc14 := NB998_997.out; have hcz15_0 : w13.cell? ⟨gb997, 0, none⟩ = some (.int .i64 a0_0) := (blk_cell BK997.out 0).trans rfl; have hcz15_1 : w13.cell? ⟨gb997, 1, none⟩ = some (.int .i64 a0_1) := (blk_cell BK997.out 1).trans rfl; have hcz15_2 : w13.cell? ⟨gb997, 2, none⟩ = some (.slice A0_2 l0_2.length c0_2) := (blk_cell BK997.out 2).trans rfl; have hfz15_0 := blk_frozen BK997.out 0; have hfz15_1 := blk_frozen BK997.out 1; have hfz15_2 := blk_frozen BK997.out 2; have hcz16_0 : w13.cell? ⟨gb998, 0, none⟩ = some (.int .i64 a1_0) := (blk_cell BK998.out 0).trans rfl; have hcz16_1 : w13.cell? ⟨gb998, 1, none⟩ = some (.int .i64 a1_1) := (blk_cell BK998.out 1).trans rfl; have hcz16_2 : w13.cell? ⟨gb998, 2, none⟩ = some (.slice A1_2 l1_2.length c1_2) := (blk_cell BK998.out 2).trans rfl; have hfz16_0 := blk_frozen BK998.out 0; have hfz16_1 := blk_frozen BK998.out 1; have hfz16_2 := blk_frozen BK998.out 2) | ((with_reducible refine gate_callee (f := 138) rfl ?_); refine goesL_ (some 19) rfl rfl Try.func138 (by kernel_rfl) rfl #[.slice A0_2 l0_2.length c0_2, .slice A1_2 l1_2.length c1_2] rfl (by (try simp only [List.map_toArray, List.map_cons, List.map_nil]); first | done | rfl | (simp only [List.length_drop, List.length_take]; rfl)) ?_; (with_reducible refine (laws_eqBoolS.calls k _ _ l0_2 _ _ l1_2 false _ ?side1 ?side2 ?side3 ?side4 A5.out).mono ?_); (case side1 => repeat (first | exact (Kd.C_below HR0_2.out HB.out) | (with_reducible refine Kd.C_alloc ?_ _) | (with_reducible refine Kd.C_drewN ?_ _) | (with_reducible refine Kd.C_drew ?_))); (case side2 => exact HC0_2.out); (case side3 => repeat (first | exact (Kd.C_below HR1_2.out HB.out) | (with_reducible refine Kd.C_alloc ?_ _) | (with_reducible refine Kd.C_drewN ?_ _) | (with_reducible refine Kd.C_drew ?_))); (case side4 => exact HC1_2.out); rintro e w' ⟨rfl, ⟨nd, rfl⟩⟩; refine ⟨_, rfl, ?_⟩))
        go_ret
        exact ⟨by first | rfl | (simp [errW_none, errW_some] <;> rfl) | (simp [*, errW_none, errW_some] <;> rfl), by repeat (first | (with_reducible first | exact HB.out | apply below_alloc | apply pw_below_drewN | apply below_drew1 | refine below_set ?_ GE997.out | refine below_set ?_ GE998.out) | exact HB.out)⟩
    · rw [if_neg c4] at H
      have c4b0 : (a0_1 == a1_1) = false := beq_eq_false_iff_ne.mpr c4
      have c4b1 : (a0_1 != a1_1) = true := bne_iff_ne.mpr c4
      obtain rfl := Option.some.inj H
      go_enter Try.func117, Try.ntmps117
      go_wp2_with (first | ((with_reducible refine gate_dst (N := 2) rfl ?_); refine box_event ?hg (N := 2) ?hd (cs := #[.int .i64 a0_0, .int .i64 a0_1, .slice A0_2 l0_2.length c0_2]) (t := 135) ?hr ?_; (case hd => rfl); (case hg => rfl); (case hr => first | (go_simp; done) | (go_simp; rfl)); intro gb997 hg w17 hbox hb; have n0_ := Aside0.mk (below_step (by repeat (first | (with_reducible first | exact HB.out | apply below_alloc | apply pw_below_drewN | apply below_drew1) | exact HB.out)) hb); have n1_ := Aside0.mk (hbox); have n2_ := Aside0.mk ((by rw [hg]; exact (below_size (by repeat (first | (with_reducible first | exact HB.out | apply below_alloc | apply pw_below_drewN | apply below_drew1) | exact HB.out))) : w.heap.size ≤ gb997)); have n3_ := Aside0.mk ((by rw [hg]; exact (below_size (by repeat (first | (with_reducible first | exact HB.out | apply below_alloc | apply pw_below_drewN | apply below_drew1) | exact HB.out))) : w.heap.size ≤ gb997)); clear HB; have HB := n0_; have BK997 := n1_; have GW997 := n2_; have GE997 := n3_; clear n0_ n1_ n2_ n3_; clear hb hbox hg) | ((with_reducible refine gate_dst (N := 3) rfl ?_); refine box_event ?hg (N := 3) ?hd (cs := #[.int .i64 a1_0, .int .i64 a1_1, .slice A1_2 l1_2.length c1_2]) (t := 135) ?hr ?_; (case hd => rfl); (case hg => rfl); (case hr => first | (go_simp; done) | (go_simp; rfl)); intro gb998 hg w18 hbox hb; have n0_ := Aside0.mk (blk_below (g := gb997) (o := .cells #[.int .i64 a0_0, .int .i64 a0_1, .slice A0_2 l0_2.length c0_2] 135 (0, 0)) (by (with_reducible repeat (first | refine blk_drewN ?_ _ | refine blk_drew ?_ | refine blk_alloc ?_ _)); exact BK997.out) hb); have n1_ := Aside0.mk (below_step (by repeat (first | (with_reducible first | exact HB.out | apply below_alloc | apply pw_below_drewN | apply below_drew1 | refine below_set ?_ GE997.out) | exact HB.out)) hb); have n2_ := Aside0.mk (hbox); have n3_ := Aside0.mk ((by rw [hg]; exact (below_size (by repeat (first | (with_reducible first | exact HB.out | apply below_alloc | apply pw_below_drewN | apply below_drew1 | refine below_set ?_ GE997.out) | exact HB.out))) : w.heap.size ≤ gb998)); have n4_ := Aside0.mk ((by rw [hg]; exact (below_size (by repeat (first | (with_reducible first | exact HB.out | apply below_alloc | apply pw_below_drewN | apply below_drew1 | refine below_set ?_ GE997.out) | exact HB.out))) : w.heap.size ≤ gb998)); have n5_ := Aside0.mk ((by rw [hg]; exact Nat.ne_of_lt (blk_lt (g := gb997) (o := .cells #[.int .i64 a0_0, .int .i64 a0_1, .slice A0_2 l0_2.length c0_2] 135 (0, 0)) (by (with_reducible repeat (first | refine blk_drewN ?_ _ | refine blk_drew ?_ | refine blk_alloc ?_ _)); exact BK997.out)) : gb997 ≠ gb998)); have n6_ := Aside0.mk ((by rw [hg]; exact Nat.ne_of_gt (blk_lt (g := gb997) (o := .cells #[.int .i64 a0_0, .int .i64 a0_1, .slice A0_2 l0_2.length c0_2] 135 (0, 0)) (by (with_reducible repeat (first | refine blk_drewN ?_ _ | refine blk_drew ?_ | refine blk_alloc ?_ _)); exact BK997.out)) : gb998 ≠ gb997)); clear BK997; clear HB; have BK997 := n0_; have HB := n1_; have BK998 := n2_; have GW998 := n3_; have GE998 := n4_; have NB997_998 := n5_; have NB998_997 := n6_; clear n0_ n1_ n2_ n3_ n4_ n5_ n6_; clear hb hbox hg; have hnb19 := NB997_998.out; have hnc19 := NB998_997.out; have hcz20_0 : w18.cell? ⟨gb997, 0, none⟩ = some (.int .i64 a0_0) := (blk_cell BK997.out 0).trans rfl; have hcz20_1 : w18.cell? ⟨gb997, 1, none⟩ = some (.int .i64 a0_1) := (blk_cell BK997.out 1).trans rfl; have hcz20_2 : w18.cell? ⟨gb997, 2, none⟩ = some (.slice A0_2 l0_2.length c0_2) := (blk_cell BK997.out 2).trans rfl; have hfz20_0 := blk_frozen BK997.out 0; have hfz20_1 := blk_frozen BK997.out 1; have hfz20_2 := blk_frozen BK997.out 2; have hcz21_0 : w18.cell? ⟨gb998, 0, none⟩ = some (.int .i64 a1_0) := (blk_cell BK998.out 0).trans rfl; have hcz21_1 : w18.cell? ⟨gb998, 1, none⟩ = some (.int .i64 a1_1) := (blk_cell BK998.out 1).trans rfl; have hcz21_2 : w18.cell? ⟨gb998, 2, none⟩ = some (.slice A1_2 l1_2.length c1_2) := (blk_cell BK998.out 2).trans rfl; have hfz21_0 := blk_frozen BK998.out 0; have hfz21_1 := blk_frozen BK998.out 1; have hfz21_2 := blk_frozen BK998.out 2))
      go_ret
      exact ⟨by first | rfl | (simp [errW_none, errW_some] <;> rfl) | (simp [*, errW_none, errW_some] <;> rfl), by repeat (first | (with_reducible first | exact HB.out | apply below_alloc | apply pw_below_drewN | apply below_drew1 | refine below_set ?_ GE997.out | refine below_set ?_ GE998.out) | exact HB.out)⟩
  · rw [if_neg c3] at H
    have c3b0 : (a0_0 == a1_0) = false := beq_eq_false_iff_ne.mpr c3
    have c3b1 : (a0_0 != a1_0) = true := bne_iff_ne.mpr c3
    obtain rfl := Option.some.inj H
    go_enter Try.func117, Try.ntmps117
    go_wp2_with (first | ((with_reducible refine gate_dst (N := 2) rfl ?_); refine box_event ?hg (N := 2) ?hd (cs := #[.int .i64 a0_0, .int .i64 a0_1, .slice A0_2 l0_2.length c0_2]) (t := 135) ?hr ?_; (case hd => rfl); (case hg => rfl); (case hr => first | (go_simp; done) | (go_simp; rfl)); intro gb997 hg w22 hbox hb; have n0_ := Aside0.mk (below_step (by repeat (first | (with_reducible first | exact HB.out | apply below_alloc | apply pw_below_drewN | apply below_drew1) | exact HB.out)) hb); have n1_ := Aside0.mk (hbox); have n2_ := Aside0.mk ((by rw [hg]; exact (below_size (by repeat (first | (with_reducible first | exact HB.out | apply below_alloc | apply pw_below_drewN | apply below_drew1) | exact HB.out))) : w.heap.size ≤ gb997)); have n3_ := Aside0.mk ((by rw [hg]; exact (below_size (by repeat (first | (with_reducible first | exact HB.out | apply below_alloc | apply pw_below_drewN | apply below_drew1) | exact HB.out))) : w.heap.size ≤ gb997)); clear HB; have HB := n0_; have BK997 := n1_; have GW997 := n2_; have GE997 := n3_; clear n0_ n1_ n2_ n3_; clear hb hbox hg) | ((with_reducible refine gate_dst (N := 3) rfl ?_); refine box_event ?hg (N := 3) ?hd (cs := #[.int .i64 a1_0, .int .i64 a1_1, .slice A1_2 l1_2.length c1_2]) (t := 135) ?hr ?_; (case hd => rfl); (case hg => rfl); (case hr => first | (go_simp; done) | (go_simp; rfl)); intro gb998 hg w23 hbox hb; have n0_ := Aside0.mk (blk_below (g := gb997) (o := .cells #[.int .i64 a0_0, .int .i64 a0_1, .slice A0_2 l0_2.length c0_2] 135 (0, 0)) (by (with_reducible repeat (first | refine blk_drewN ?_ _ | refine blk_drew ?_ | refine blk_alloc ?_ _)); exact BK997.out) hb); have n1_ := Aside0.mk (below_step (by repeat (first | (with_reducible first | exact HB.out | apply below_alloc | apply pw_below_drewN | apply below_drew1 | refine below_set ?_ GE997.out) | exact HB.out)) hb); have n2_ := Aside0.mk (hbox); have n3_ := Aside0.mk ((by rw [hg]; exact (below_size (by repeat (first | (with_reducible first | exact HB.out | apply below_alloc | apply pw_below_drewN | apply below_drew1 | refine below_set ?_ GE997.out) | exact HB.out))) : w.heap.size ≤ gb998)); have n4_ := Aside0.mk ((by rw [hg]; exact (below_size (by repeat (first | (with_reducible first | exact HB.out | apply below_alloc | apply pw_below_drewN | apply below_drew1 | refine below_set ?_ GE997.out) | exact HB.out))) : w.heap.size ≤ gb998)); have n5_ := Aside0.mk ((by rw [hg]; exact Nat.ne_of_lt (blk_lt (g := gb997) (o := .cells #[.int .i64 a0_0, .int .i64 a0_1, .slice A0_2 l0_2.length c0_2] 135 (0, 0)) (by (with_reducible repeat (first | refine blk_drewN ?_ _ | refine blk_drew ?_ | refine blk_alloc ?_ _)); exact BK997.out)) : gb997 ≠ gb998)); have n6_ := Aside0.mk ((by rw [hg]; exact Nat.ne_of_gt (blk_lt (g := gb997) (o := .cells #[.int .i64 a0_0, .int .i64 a0_1, .slice A0_2 l0_2.length c0_2] 135 (0, 0)) (by (with_reducible repeat (first | refine blk_drewN ?_ _ | refine blk_drew ?_ | refine blk_alloc ?_ _)); exact BK997.out)) : gb998 ≠ gb997)); clear BK997; clear HB; have BK997 := n0_; have HB := n1_; have BK998 := n2_; have GW998 := n3_; have GE998 := n4_; have NB997_998 := n5_; have NB998_997 := n6_; clear n0_ n1_ n2_ n3_ n4_ n5_ n6_; clear hb hbox hg; have hnb24 := NB997_998.out; have hnc24 := NB998_997.out; have hcz25_0 : w23.cell? ⟨gb997, 0, none⟩ = some (.int .i64 a0_0) := (blk_cell BK997.out 0).trans rfl; have hcz25_1 : w23.cell? ⟨gb997, 1, none⟩ = some (.int .i64 a0_1) := (blk_cell BK997.out 1).trans rfl; have hcz25_2 : w23.cell? ⟨gb997, 2, none⟩ = some (.slice A0_2 l0_2.length c0_2) := (blk_cell BK997.out 2).trans rfl; have hfz25_0 := blk_frozen BK997.out 0; have hfz25_1 := blk_frozen BK997.out 1; have hfz25_2 := blk_frozen BK997.out 2; have hcz26_0 : w23.cell? ⟨gb998, 0, none⟩ = some (.int .i64 a1_0) := (blk_cell BK998.out 0).trans rfl; have hcz26_1 : w23.cell? ⟨gb998, 1, none⟩ = some (.int .i64 a1_1) := (blk_cell BK998.out 1).trans rfl; have hcz26_2 : w23.cell? ⟨gb998, 2, none⟩ = some (.slice A1_2 l1_2.length c1_2) := (blk_cell BK998.out 2).trans rfl; have hfz26_0 := blk_frozen BK998.out 0; have hfz26_1 := blk_frozen BK998.out 1; have hfz26_2 := blk_frozen BK998.out 2))
    go_ret
    exact ⟨by first | rfl | (simp [errW_none, errW_some] <;> rfl) | (simp [*, errW_none, errW_some] <;> rfl), by repeat (first | (with_reducible first | exact HB.out | apply below_alloc | apply pw_below_drewN | apply below_drew1 | refine below_set ?_ GE997.out | refine below_set ?_ GE998.out) | exact HB.out)⟩

end Go.Proofs.Ytdpejnckojhgjaa.P
end
section
namespace Go.Proofs.Ytdpejnckojhgjaa.P
open Go.RowKit Go.Proofs.YtdpejnckojhgjaaW.PrintWords Go.Proofs.YtdpejnckojhgjaaW.PrintLast Go.Proofs.YtdpejnckojhgjaaW.PrintMore
attribute [local go_sem] max2_int min2_int max_two min_two max_three min_three max_four min_four   -- for this text's walks alone
set_option linter.unusedVariables false
set_option linter.unusedSimpArgs false

/-! ### laws_eqSlabS: function 59 -/
def laws_eqSlabS.l0 : Nat → List (S135) → List (S135) → Int → Option (Bool)
  | 0, _, _, _ => none
  | k + 1, x0, x1, x5 => if x5 < (x0.length : Int) then (if 0 ≤ x5 then (if x5 < (x1.length : Int) then ((laws_eqSlab.f k ((rd_T135 x0 x5).f0) ((rd_T135 x0 x5).f1) ((rd_T135 x0 x5).f2) ((rd_T135 x1 x5).f0) ((rd_T135 x1 x5).f1) ((rd_T135 x1 x5).f2)).bind fun t1002 => (if t1002 = true then (laws_eqSlabS.l0 k x0 x1 (wrap64 (x5 + 1))) else (some false))) else (none)) else (none)) else (some true)
def laws_eqSlabS.f (k : Nat) (l0 : List (S135)) (l1 : List (S135)) : Option (Bool) := if (l0.length : Int) = (l1.length : Int) then (laws_eqSlabS.l0 k l0 l1 0) else (some false)
theorem laws_eqSlabS.mono_l : ∀ k, (∀ y0 y1 y2, LeO (laws_eqSlabS.l0 k y0 y1 y2) (laws_eqSlabS.l0 (k + 1) y0 y1 y2))
  | 0 => fun _ _ _ r h => by simp [laws_eqSlabS.l0] at h
  | k + 1 => by
    have ih0 := laws_eqSlabS.mono_l k
    · intro y0 y1 y2
      unfold laws_eqSlabS.l0
      repeat' first
      | (with_reducible exact ih0 _ _ _)
      | (with_reducible exact laws_eqSlab.mono _ _ _ _ _ _ _)
      | (with_reducible exact LeO.refl _)
      | (with_reducible exact LeO.none _)
      | (with_reducible refine LeO.ite ?_ ?_)
      | (with_reducible refine LeO.bind ?_ (fun _ => ?_))
      | exact ih0 _ _ _
      | exact laws_eqSlab.mono _ _ _ _ _ _ _
      | exact LeO.none _
      | refine LeO.ite ?_ ?_
      | refine LeO.bind ?_ (fun _ => ?_)
theorem laws_eqSlabS.mono : ∀ a0 a1 k, LeO (laws_eqSlabS.f k a0 a1) (laws_eqSlabS.f (k + 1) a0 a1) := by
  intro a0 a1 k
  have ih0 := laws_eqSlabS.mono_l k
  unfold laws_eqSlabS.f
  repeat' first
      | (with_reducible exact ih0 _ _ _)
      | (with_reducible exact laws_eqSlab.mono _ _ _ _ _ _ _)
      | (with_reducible exact LeO.refl _)
      | (with_reducible exact LeO.none _)
      | (with_reducible refine LeO.ite ?_ ?_)
      | (with_reducible refine LeO.bind ?_ (fun _ => ?_))
      | exact ih0 _ _ _
      | exact laws_eqSlab.mono _ _ _ _ _ _ _
      | exact LeO.none _
      | refine LeO.ite ?_ ?_
      | refine LeO.bind ?_ (fun _ => ?_)
def laws_eqSlabS.T6 : Bool × List (List Nat × List Nat) := (true, [([], []), ([], []), ([0, 1], [0, 1]), ([2], [2]), ([], []), ([], []), ([4, 5], [4, 5]), ([6], [6]), ([3, 7], [3, 7]), ([8], [8])])
def laws_eqSlabS.B6 : List Nat := [0, 0, 3, 7, 0, 0, 48, 112, 255, 511]
theorem laws_eqSlabS.tab6 : rtab .any (opsOf Try.f59 6) = laws_eqSlabS.T6 := by kernel_rfl
theorem laws_eqSlabS.bits6 : waitsOk laws_eqSlabS.T6.2 laws_eqSlabS.B6 = true := by kernel_rfl
set_option maxHeartbeats 8000000 in
set_option maxRecDepth 100000 in
theorem laws_eqSlabS.calls (k : Nat) (A0 : Option Addr) (c0 : Nat) (l0 : List (S135)) (A1 : Option Addr) (c1 : Nat) (l1 : List (S135)) (r : Bool) (w : World) (hr0 : Kd.C k135 w A0 l0.length l0) (hc0 : l0.length ≤ c0) (hr1 : Kd.C k135 w A1 l1.length l1) (hc1 : l1.length ≤ c1) (h : laws_eqSlabS.f k l0 l1 = some r) :
    Calls Try.prog 59 #[.slice A0 l0.length c0, .slice A1 l1.length c1] w fun e w' => e = .returned (.bool r) ∧ Below w.heap.size w w' := by
  have hu135 := Try.underlying135
  have HR0 := Aside0.mk hr0
  have HC0 := Aside0.mk hc0
  clear hr0 hc0
  have HR1 := Aside0.mk hr1
  have HC1 := Aside0.mk hc1
  clear hr1 hc1
  have HB := Aside0.mk (Below.refl w.heap.size w)
  have H : (if (l0.length : Int) = (l1.length : Int) then (laws_eqSlabS.l0 k l0 l1 0) else (some false)) = some r := h
  clear h
  by_cases c3 : (l0.length : Int) = (l1.length : Int)
  · rw [if_pos c3] at H
    have c3b0 : ((l0.length : Int) == (l1.length : Int)) = true := beq_iff_eq.mpr c3
    have c3b1 : ((l0.length : Int) != (l1.length : Int)) = false := bne_eq_false_iff_eq.mpr c3
    have c3b2 : (l0.length == l1.length) = true := by first | simpa using c3 | (simp at c3 ⊢; omega)
    clear c3
    have H' := Aside0.mk H
    clear H
    go_enter Try.func59, Try.ntmps59
    go_wp2
    go_loopg [5] k (fun kq v5 w' => ∃ (x5_1 : Int), v5 = .int .i64 x5_1 ∧ Aside0 (laws_eqSlabS.l0 kq l0 l1 x5_1 = some r) ∧ Aside0 (kq ≤ k) ∧ Aside0 (Below w.heap.size w w'))
    case atStart => exact ⟨(0), (by first | rfl | (simp; done) | (simp [*]; done)), H', ⟨Nat.le_refl _⟩, ⟨by repeat (first | (with_reducible first | exact HB.out | apply below_alloc | apply pw_below_drewN | apply below_drew1) | exact HB.out)⟩⟩
    case round =>
      clear H'
      try clear c1
      try clear p2
      try clear c3
      try clear c3b0
      try clear c3b1
      try clear c3b2
      obtain ⟨x5_1, rfl, HA, HK1, HB⟩ := hrel
      cases gk with
      | zero => exact absurd HA.out (by simp [laws_eqSlabS.l0])
      | succ k1 =>
        have H := HA.out
        clear HA
        simp only [laws_eqSlabS.l0] at H
        by_cases c4 : x5_1 < (l0.length : Int)
        · rw [if_pos c4] at H
          have c4b0 : decide (x5_1 < (l0.length : Int)) = true := decide_eq_true c4
          clear c4
          by_cases c5 : 0 ≤ x5_1
          · rw [if_pos c5] at H
            have c5b0 : decide (0 ≤ x5_1) = true := decide_eq_true c5
            clear c5
            by_cases c6 : x5_1 < (l1.length : Int)
            · rw [if_pos c6] at H
              have c6b0 : decide (x5_1 < (l1.length : Int)) = true := decide_eq_true c6
              clear c6
              replace H := Option.bind_eq_some_iff.mp H
              obtain ⟨t1002, A70, H⟩ := H
              replace H : (if t1002 = true then (laws_eqSlabS.l0 k1 l0 l1 (wrap64 (x5_1 + 1))) else (some false)) = some r := H
              have A7 := Aside0.mk A70
              clear A70
              by_cases c8 : t1002 = true
              · subst c8
                have H1 : (laws_eqSlabS.l0 k1 l0 l1 (wrap64 (x5_1 + 1))) = some r := by rw [if_pos rfl] at H; exact H
                clear H
                have H := H1
                clear H1
                have H' := Aside0.mk H
                clear H
                try go_wp2
                have n0_ := Aside0.mk (below_drew1 HB.out)
                clear HB
                have HB := n0_
                clear n0_
                have p1000 : 0 ≤ (x5_1 : Int) := of_decide_eq_true (by first | (with_reducible assumption) | assumption)
                have q1000 : x5_1 < (l0.length : Int) := of_decide_eq_true (by first | (with_reducible assumption) | assumption)
                obtain ⟨ad1000, A1000_2, c1000_2, e1000, hx1000_0, hx1000_1, hx1000_2, hl1000_2, hi1000_2⟩ := at_T135 HR0.out x5_1 p1000 q1000
                have hw1000_2 := hx1000_2
                have hw1000_1 := hx1000_1
                have hw1000_0 := hx1000_0
                cases e1000
                replace hx1000_0 := (HB.out.cell (World.block_lt_of_cell? w _ hx1000_0)).trans hx1000_0
                replace hx1000_1 := (HB.out.cell (World.block_lt_of_cell? w _ hx1000_1)).trans hx1000_1
                replace hx1000_2 := (HB.out.cell (World.block_lt_of_cell? w _ hx1000_2)).trans hx1000_2
                have HR1000_2 := Aside0.mk hi1000_2
                have HC1000_2 := Aside0.mk hl1000_2
                clear hi1000_2 hl1000_2
                replace p1000 := eq_true p1000
                replace q1000 := eq_true q1000
                have p1001 : 0 ≤ (x5_1 : Int) := of_decide_eq_true (by first | (with_reducible assumption) | assumption)
                have q1001 : x5_1 < (l1.length : Int) := of_decide_eq_true (by first | (with_reducible assumption) | assumption)
                obtain ⟨ad1001, A1001_2, c1001_2, e1001, hx1001_0, hx1001_1, hx1001_2, hl1001_2, hi1001_2⟩ := at_T135 HR1.out x5_1 p1001 q1001
                have hw1001_2 := hx1001_2
                have hw1001_1 := hx1001_1
                have hw1001_0 := hx1001_0
                cases e1001
                replace hx1001_0 := (HB.out.cell (World.block_lt_of_cell? w _ hx1001_0)).trans hx1001_0
                replace hx1001_1 := (HB.out.cell (World.block_lt_of_cell? w _ hx1001_1)).trans hx1001_1
                replace hx1001_2 := (HB.out.cell (World.block_lt_of_cell? w _ hx1001_2)).trans hx1001_2
                have HR1001_2 := Aside0.mk hi1001_2
                have HC1001_2 := Aside0.mk hl1001_2
                clear hi1001_2 hl1001_2
                replace p1001 := eq_true p1001
                replace q1001 := eq_true q1001
                refine start_ (n := 10) (S := fun w' => w'.cell? (ad1000.add ((x5_1).toNat * 3)) = some (.int .i64 ((rd_T135 l0 x5_1).f0)) ∧ w'.cell? ⟨(ad1000.add ((x5_1).toNat * 3)).block, (ad1000.add ((x5_1).toNat * 3)).off + 1, none⟩ = some (.int .i64 ((rd_T135 l0 x5_1).f1)) ∧ w'.cell? ⟨(ad1000.add ((x5_1).toNat * 3)).block, (ad1000.add ((x5_1).toNat * 3)).off + 2, none⟩ = some (.slice A1000_2 ((rd_T135 l0 x5_1).f2).length c1000_2) ∧ w'.cell? (ad1001.add ((x5_1).toNat * 3)) = some (.int .i64 ((rd_T135 l1 x5_1).f0)) ∧ w'.cell? ⟨(ad1001.add ((x5_1).toNat * 3)).block, (ad1001.add ((x5_1).toNat * 3)).off + 1, none⟩ = some (.int .i64 ((rd_T135 l1 x5_1).f1)) ∧ w'.cell? ⟨(ad1001.add ((x5_1).toNat * 3)).block, (ad1001.add ((x5_1).toNat * 3)).off + 2, none⟩ = some (.slice A1001_2 ((rd_T135 l1 x5_1).f2).length c1001_2)) (ds := []) #[false, false, false, false, false, false, false, false, false, false] (by kernel_rfl) rfl rfl ⟨((HB.out.cell (World.block_lt_of_cell? w _ hw1000_0)).trans hw1000_0), ((HB.out.cell (World.block_lt_of_cell? w _ hw1000_1)).trans hw1000_1), ((HB.out.cell (World.block_lt_of_cell? w _ hw1000_2)).trans hw1000_2), ((HB.out.cell (World.block_lt_of_cell? w _ hw1001_0)).trans hw1001_0), ((HB.out.cell (World.block_lt_of_cell? w _ hw1001_1)).trans hw1001_1), ((HB.out.cell (World.block_lt_of_cell? w _ hw1001_2)).trans hw1001_2)⟩ (fun hHeld => ?_); refine with_tabW laws_eqSlabS.tab6 laws_eqSlabS.bits6 (fun HT_ HW_ => ?_)
                generalize wr.drew = w9 at HB HR1000_2 HR1001_2 hx1000_0 hx1000_1 hx1000_2 hx1001_0 hx1001_1 hx1001_2 hHeld ⊢
                refine pure_ (i := 0) (N := some 17) (v := ?_) (a' := ?_) #[true, false, false, false, false, false, false, false, false, false] rfl rfl (any_of HT_.out (by kernel_rfl)) (fun _ _ _ h => h) (Or.inl ⟨by rfl, ?_⟩) ?_ ?_
                rotate_left
                · intro w'
                  go_simp
                  with_reducible rfl
                rotate_left
                · simp only [Act.put, List.setIfInBounds_toArray, List.set_cons_zero, List.set_cons_succ, i64_w, i32_w]
                  rfl
                refine pure_ (i := 1) (N := some 18) (v := ?_) (a' := ?_) #[true, true, false, false, false, false, false, false, false, false] rfl rfl (any_of HT_.out (by kernel_rfl)) (fun _ _ _ h => h) (Or.inl ⟨by rfl, ?_⟩) ?_ ?_
                rotate_left
                · intro w'
                  go_simp
                  with_reducible rfl
                rotate_left
                · simp only [Act.put, List.setIfInBounds_toArray, List.set_cons_zero, List.set_cons_succ, i64_w, i32_w]
                  rfl
                refine pure_ (i := 2) (N := some 19) (v := ?_) (a' := ?_) #[true, true, true, false, false, false, false, false, false, false] rfl rfl (any_of HT_.out (by kernel_rfl)) (fun _ _ _ h => h) (Or.inl ⟨by rfl, ?_⟩) ?_ ?_
                rotate_left
                · intro w'
                  go_simp
                  with_reducible rfl
                rotate_left
                · simp only [Act.put, List.setIfInBounds_toArray, List.set_cons_zero, List.set_cons_succ, i64_w, i32_w]
                  rfl
                refine pure_ (i := 4) (N := some 21) (v := ?_) (a' := ?_) #[true, true, true, false, true, false, false, false, false, false] rfl rfl (any_of HT_.out (by kernel_rfl)) (fun _ _ _ h => h) (Or.inl ⟨by rfl, ?_⟩) ?_ ?_
                rotate_left
                · intro w'
                  go_simp
                  with_reducible rfl
                rotate_left
                · simp only [Act.put, List.setIfInBounds_toArray, List.set_cons_zero, List.set_cons_succ, i64_w, i32_w]
                  rfl
                refine pure_ (i := 5) (N := some 22) (v := ?_) (a' := ?_) #[true, true, true, false, true, true, false, false, false, false] rfl rfl (any_of HT_.out (by kernel_rfl)) (fun _ _ _ h => h) (Or.inl ⟨by rfl, ?_⟩) ?_ ?_
                rotate_left
                · intro w'
                  go_simp
                  with_reducible rfl
                rotate_left
                · simp only [Act.put, List.setIfInBounds_toArray, List.set_cons_zero, List.set_cons_succ, i64_w, i32_w]
                  rfl
                refine pure_ (i := 6) (N := some 23) (v := ?_) (a' := ?_) #[true, true, true, false, true, true, true, false, false, false] rfl rfl (any_of HT_.out (by kernel_rfl)) (fun _ _ _ h => h) (Or.inl ⟨by rfl, ?_⟩) ?_ ?_
                rotate_left
                · intro w'
                  go_simp
                  with_reducible rfl
                rotate_left
                · simp only [Act.put, List.setIfInBounds_toArray, List.set_cons_zero, List.set_cons_succ, i64_w, i32_w]
                  rfl
                refine take_ (i := 3) (N := some 20) (v := ?_) (a' := ?_) #[true, true, true, true, true, true, true, false, false, false] rfl rfl (take_ofW HT_.out HW_.out (by kernel_rfl)) (fun _ _ _ h => h) (Or.inl ⟨by rfl, ?_⟩) hHeld ?_ ?_
                rotate_left
                · rintro w' ⟨s0, s1, s2, s3, s4, s5⟩
                  go_simp
                  with_reducible rfl
                rotate_left
                · simp only [Act.put, List.setIfInBounds_toArray, List.set_cons_zero, List.set_cons_succ, i64_w, i32_w]
                  rfl
                refine take_ (i := 7) (N := some 24) (v := ?_) (a' := ?_) #[true, true, true, true, true, true, true, true, false, false] rfl rfl (take_ofW HT_.out HW_.out (by kernel_rfl)) (fun _ _ _ h => h) (Or.inl ⟨by rfl, ?_⟩) hHeld ?_ ?_
                rotate_left
                · rintro w' ⟨s0, s1, s2, s3, s4, s5⟩
                  go_simp
                  with_reducible rfl
                rotate_left
                · simp only [Act.put, List.setIfInBounds_toArray, List.set_cons_zero, List.set_cons_succ, i64_w, i32_w]
                  rfl
                refine one_ (i := 8) (N := some 25) #[true, true, true, true, true, true, true, true, true, false] rfl rfl (one_of HT_.out (by kernel_rfl)) (by decide) (fun K hK => ?_)
                refine goes_ Try.func117 (by kernel_rfl) rfl #[.agg #[.int .i64 ((rd_T135 l0 x5_1).f0), .int .i64 ((rd_T135 l0 x5_1).f1), .slice A1000_2 ((rd_T135 l0 x5_1).f2).length c1000_2], .agg #[.int .i64 ((rd_T135 l1 x5_1).f0), .int .i64 ((rd_T135 l1 x5_1).f1), .slice A1001_2 ((rd_T135 l1 x5_1).f2).length c1001_2]] (by rfl) rfl rfl (by (try simp only [List.map_toArray, List.map_cons, List.map_nil]); first | done | rfl | (simp only [List.length_drop, List.length_take]; rfl)) ?_
                with_reducible refine (laws_eqSlab.calls k1 ((rd_T135 l0 x5_1).f0) ((rd_T135 l0 x5_1).f1) _ _ ((rd_T135 l0 x5_1).f2) ((rd_T135 l1 x5_1).f0) ((rd_T135 l1 x5_1).f1) _ _ ((rd_T135 l1 x5_1).f2) true _ ?side1 ?side2 ?side3 ?side4 A7.out).mono ?_
                (case side1 => repeat (first | exact (Kd.C_below HR1000_2.out HB.out) | (with_reducible refine Kd.C_alloc ?_ _) | (with_reducible refine Kd.C_drewN ?_ _) | (with_reducible refine Kd.C_drew ?_)))
                (case side2 => exact HC1000_2.out)
                (case side3 => repeat (first | exact (Kd.C_below HR1001_2.out HB.out) | (with_reducible refine Kd.C_alloc ?_ _) | (with_reducible refine Kd.C_drewN ?_ _) | (with_reducible refine Kd.C_drew ?_)))
                (case side4 => exact HC1001_2.out)
                rintro e w10 ⟨rfl, hb⟩
                refine ⟨_, rfl, ?_⟩
                have n0_ := Aside0.mk (below_step (by repeat (first | (with_reducible first | exact HB.out | apply below_alloc | apply pw_below_drewN | apply below_drew1) | exact HB.out)) hb)
                clear HB
                have HB := n0_
                clear n0_
                (try clear hb)
                (try clear hb2)
                (try clear hk)
                (try clear hi)
                refine hK.out _ _ ⟨((HB.out.cell (World.block_lt_of_cell? w _ hw1000_0)).trans hw1000_0), ((HB.out.cell (World.block_lt_of_cell? w _ hw1000_1)).trans hw1000_1), ((HB.out.cell (World.block_lt_of_cell? w _ hw1000_2)).trans hw1000_2), ((HB.out.cell (World.block_lt_of_cell? w _ hw1001_0)).trans hw1001_0), ((HB.out.cell (World.block_lt_of_cell? w _ hw1001_1)).trans hw1001_1), ((HB.out.cell (World.block_lt_of_cell? w _ hw1001_2)).trans hw1001_2)⟩ (fun hHeld => ?_)
                clear hK K
                refine norm_ (a' := ?_) ?_ ?_
                rotate_left
                · show Act.put _ (some 25) _ = _
                  simp only [Act.put, List.setIfInBounds_toArray, List.set_cons_zero, List.set_cons_succ, i64_w, i32_w]
                  rfl
                refine pure_ (i := 9) (N := some 26) (v := ?_) (a' := ?_) #[true, true, true, true, true, true, true, true, true, true] rfl rfl (any_of HT_.out (by kernel_rfl)) (fun _ _ _ h => h) (Or.inl ⟨by rfl, ?_⟩) ?_ ?_
                rotate_left
                · intro w'
                  go_simp
                  with_reducible rfl
                rotate_left
                · simp only [Act.put, List.setIfInBounds_toArray, List.set_cons_zero, List.set_cons_succ, i64_w, i32_w]
                  rfl
                refine done_ (done_of HT_.out (by kernel_rfl)) ?_
                try go_wp2
                go_roundg k1
                case measure => have := HK1.out; omega
                case rel => exact ⟨(wrap64 (x5_1 + 1)), (by first | rfl | (simp; done) | (simp [*]; done)), H', ⟨by have := HK1.out; omega⟩, ⟨by repeat (first | (with_reducible first | exact HB.out | apply below_alloc | apply pw_below_drewN | apply below_drew1) | exact HB.out)⟩⟩
              · replace c8 := Bool.eq_false_iff.mpr c8
                subst c8
                have H1 : (some false) = some r := by rw [if_neg (show ¬ (false = true) by decide)] at H; exact H
                clear H
                have H := H1
                clear H1
                obtain rfl := Option.some.inj H
                try go_wp2
                have n0_ := Aside0.mk (below_drew1 HB.out)
                clear HB
                have HB := n0_
                clear n0_
                have p1000 : 0 ≤ (x5_1 : Int) := of_decide_eq_true (by first | (with_reducible assumption) | assumption)
                have q1000 : x5_1 < (l0.length : Int) := of_decide_eq_true (by first | (with_reducible assumption) | assumption)
                obtain ⟨ad1000, A1000_2, c1000_2, e1000, hx1000_0, hx1000_1, hx1000_2, hl1000_2, hi1000_2⟩ := at_T135 HR0.out x5_1 p1000 q1000
                have hw1000_2 := hx1000_2
                have hw1000_1 := hx1000_1
                have hw1000_0 := hx1000_0
                cases e1000
                replace hx1000_0 := (HB.out.cell (World.block_lt_of_cell? w _ hx1000_0)).trans hx1000_0
                replace hx1000_1 := (HB.out.cell (World.block_lt_of_cell? w _ hx1000_1)).trans hx1000_1
                replace hx1000_2 := (HB.out.cell (World.block_lt_of_cell? w _ hx1000_2)).trans hx1000_2
                have HR1000_2 := Aside0.mk hi1000_2
                have HC1000_2 := Aside0.mk hl1000_2
                clear hi1000_2 hl1000_2
                replace p1000 := eq_true p1000
                replace q1000 := eq_true q1000
                have p1001 : 0 ≤ (x5_1 : Int) := of_decide_eq_true (by first | (with_reducible assumption) | assumption)
                have q1001 : x5_1 < (l1.length : Int) := of_decide_eq_true (by first | (with_reducible assumption) | assumption)
                obtain ⟨ad1001, A1001_2, c1001_2, e1001, hx1001_0, hx1001_1, hx1001_2, hl1001_2, hi1001_2⟩ := at_T135 HR1.out x5_1 p1001 q1001
                have hw1001_2 := hx1001_2
                have hw1001_1 := hx1001_1
                have hw1001_0 := hx1001_0
                cases e1001
                replace hx1001_0 := (HB.out.cell (World.block_lt_of_cell? w _ hx1001_0)).trans hx1001_0
                replace hx1001_1 := (HB.out.cell (World.block_lt_of_cell? w _ hx1001_1)).trans hx1001_1
                replace hx1001_2 := (HB.out.cell (World.block_lt_of_cell? w _ hx1001_2)).trans hx1001_2
                have HR1001_2 := Aside0.mk hi1001_2
                have HC1001_2 := Aside0.mk hl1001_2
                clear hi1001_2 hl1001_2
                replace p1001 := eq_true p1001
                replace q1001 := eq_true q1001
                refine start_ (n := 10) (S := fun w' => w'.cell? (ad1000.add ((x5_1).toNat * 3)) = some (.int .i64 ((rd_T135 l0 x5_1).f0)) ∧ w'.cell? ⟨(ad1000.add ((x5_1).toNat * 3)).block, (ad1000.add ((x5_1).toNat * 3)).off + 1, none⟩ = some (.int .i64 ((rd_T135 l0 x5_1).f1)) ∧ w'.cell? ⟨(ad1000.add ((x5_1).toNat * 3)).block, (ad1000.add ((x5_1).toNat * 3)).off + 2, none⟩ = some (.slice A1000_2 ((rd_T135 l0 x5_1).f2).length c1000_2) ∧ w'.cell? (ad1001.add ((x5_1).toNat * 3)) = some (.int .i64 ((rd_T135 l1 x5_1).f0)) ∧ w'.cell? ⟨(ad1001.add ((x5_1).toNat * 3)).block, (ad1001.add ((x5_1).toNat * 3)).off + 1, none⟩ = some (.int .i64 ((rd_T135 l1 x5_1).f1)) ∧ w'.cell? ⟨(ad1001.add ((x5_1).toNat * 3)).block, (ad1001.add ((x5_1).toNat * 3)).off + 2, none⟩ = some (.slice A1001_2 ((rd_T135 l1 x5_1).f2).length c1001_2)) (ds := []) #[false, false, false, false, false, false, false, false, false, false] (by kernel_rfl) rfl rfl ⟨((HB.out.cell (World.block_lt_of_cell? w _ hw1000_0)).trans hw1000_0), ((HB.out.cell (World.block_lt_of_cell? w _ hw1000_1)).trans hw1000_1), ((HB.out.cell (World.block_lt_of_cell? w _ hw1000_2)).trans hw1000_2), ((HB.out.cell (World.block_lt_of_cell? w _ hw1001_0)).trans hw1001_0), ((HB.out.cell (World.block_lt_of_cell? w _ hw1001_1)).trans hw1001_1), ((HB.out.cell (World.block_lt_of_cell? w _ hw1001_2)).trans hw1001_2)⟩ (fun hHeld => ?_); refine with_tabW laws_eqSlabS.tab6 laws_eqSlabS.bits6 (fun HT_ HW_ => ?_)
                generalize wr.drew = w11 at HB HR1000_2 HR1001_2 hx1000_0 hx1000_1 hx1000_2 hx1001_0 hx1001_1 hx1001_2 hHeld ⊢
                refine pure_ (i := 0) (N := some 17) (v := ?_) (a' := ?_) #[true, false, false, false, false, false, false, false, false, false] rfl rfl (any_of HT_.out (by kernel_rfl)) (fun _ _ _ h => h) (Or.inl ⟨by rfl, ?_⟩) ?_ ?_
                rotate_left
                · intro w'
                  go_simp
                  with_reducible rfl
                rotate_left
                · simp only [Act.put, List.setIfInBounds_toArray, List.set_cons_zero, List.set_cons_succ, i64_w, i32_w]
                  rfl
                refine pure_ (i := 1) (N := some 18) (v := ?_) (a' := ?_) #[true, true, false, false, false, false, false, false, false, false] rfl rfl (any_of HT_.out (by kernel_rfl)) (fun _ _ _ h => h) (Or.inl ⟨by rfl, ?_⟩) ?_ ?_
                rotate_left
                · intro w'
                  go_simp
                  with_reducible rfl
                rotate_left
                · simp only [Act.put, List.setIfInBounds_toArray, List.set_cons_zero, List.set_cons_succ, i64_w, i32_w]
                  rfl
                refine pure_ (i := 2) (N := some 19) (v := ?_) (a' := ?_) #[true, true, true, false, false, false, false, false, false, false] rfl rfl (any_of HT_.out (by kernel_rfl)) (fun _ _ _ h => h) (Or.inl ⟨by rfl, ?_⟩) ?_ ?_
                rotate_left
                · intro w'
                  go_simp
                  with_reducible rfl
                rotate_left
                · simp only [Act.put, List.setIfInBounds_toArray, List.set_cons_zero, List.set_cons_succ, i64_w, i32_w]
                  rfl
                refine pure_ (i := 4) (N := some 21) (v := ?_) (a' := ?_) #[true, true, true, false, true, false, false, false, false, false] rfl rfl (any_of HT_.out (by kernel_rfl)) (fun _ _ _ h => h) (Or.inl ⟨by rfl, ?_⟩) ?_ ?_
                rotate_left
                · intro w'
                  go_simp
                  with_reducible rfl
                rotate_left
                · simp only [Act.put, List.setIfInBounds_toArray, List.set_cons_zero, List.set_cons_succ, i64_w, i32_w]
                  rfl
                refine pure_ (i := 5) (N := some 22) (v := ?_) (a' := ?_) #[true, true, true, false, true, true, false, false, false, false] rfl rfl (any_of HT_.out (by kernel_rfl)) (fun _ _ _ h => h) (Or.inl ⟨by rfl, ?_⟩) ?_ ?_
                rotate_left
                · intro w'
                  go_simp
                  with_reducible rfl
                rotate_left
                · simp only [Act.put, List.setIfInBounds_toArray, List.set_cons_zero, List.set_cons_succ, i64_w, i32_w]
                  rfl
                refine pure_ (i := 6) (N := some 23) (v := ?_) (a' := ?_) #[true, true, true, false, true, true, true, false, false, false] rfl rfl (any_of HT_.out (by kernel_rfl)) (fun _ _ _ h => h) (Or.inl ⟨by rfl, ?_⟩) ?_ ?_
                rotate_left
                · intro w'
                  go_simp
                  with_reducible rfl
                rotate_left
                · simp only [Act.put, List.setIfInBounds_toArray, List.set_cons_zero, List.set_cons_succ, i64_w, i32_w]
                  rfl
                refine take_ (i := 3) (N := some 20) (v := ?_) (a' := ?_) #[true, true, true, true, true, true, true, false, false, false] rfl rfl (take_ofW HT_.out HW_.out (by kernel_rfl)) (fun _ _ _ h => h) (Or.inl ⟨by rfl, ?_⟩) hHeld ?_ ?_
                rotate_left
                · rintro w' ⟨s0, s1, s2, s3, s4, s5⟩
                  go_simp
                  with_reducible rfl
                rotate_left
                · simp only [Act.put, List.setIfInBounds_toArray, List.set_cons_zero, List.set_cons_succ, i64_w, i32_w]
                  rfl
                refine take_ (i := 7) (N := some 24) (v := ?_) (a' := ?_) #[true, true, true, true, true, true, true, true, false, false] rfl rfl (take_ofW HT_.out HW_.out (by kernel_rfl)) (fun _ _ _ h => h) (Or.inl ⟨by rfl, ?_⟩) hHeld ?_ ?_
                rotate_left
                · rintro w' ⟨s0, s1, s2, s3, s4, s5⟩
                  go_simp
                  with_reducible rfl
                rotate_left
                · simp only [Act.put, List.setIfInBounds_toArray, List.set_cons_zero, List.set_cons_succ, i64_w, i32_w]
                  rfl
                refine one_ (i := 8) (N := some 25) #[true, true, true, true, true, true, true, true, true, false] rfl rfl (one_of HT_.out (by kernel_rfl)) (by decide) (fun K hK => ?_)
                refine goes_ Try.func117 (by kernel_rfl) rfl #[.agg #[.int .i64 ((rd_T135 l0 x5_1).f0), .int .i64 ((rd_T135 l0 x5_1).f1), .slice A1000_2 ((rd_T135 l0 x5_1).f2).length c1000_2], .agg #[.int .i64 ((rd_T135 l1 x5_1).f0), .int .i64 ((rd_T135 l1 x5_1).f1), .slice A1001_2 ((rd_T135 l1 x5_1).f2).length c1001_2]] (by rfl) rfl rfl (by (try simp only [List.map_toArray, List.map_cons, List.map_nil]); first | done | rfl | (simp only [List.length_drop, List.length_take]; rfl)) ?_
                with_reducible refine (laws_eqSlab.calls k1 ((rd_T135 l0 x5_1).f0) ((rd_T135 l0 x5_1).f1) _ _ ((rd_T135 l0 x5_1).f2) ((rd_T135 l1 x5_1).f0) ((rd_T135 l1 x5_1).f1) _ _ ((rd_T135 l1 x5_1).f2) false _ ?side1 ?side2 ?side3 ?side4 A7.out).mono ?_
                (case side1 => repeat (first | exact (Kd.C_below HR1000_2.out HB.out) | (with_reducible refine Kd.C_alloc ?_ _) | (with_reducible refine Kd.C_drewN ?_ _) | (with_reducible refine Kd.C_drew ?_)))
                (case side2 => exact HC1000_2.out)
                (case side3 => repeat (first | exact (Kd.C_below HR1001_2.out HB.out) | (with_reducible refine Kd.C_alloc ?_ _) | (with_reducible refine Kd.C_drewN ?_ _) | (with_reducible refine Kd.C_drew ?_)))
                (case side4 => exact HC1001_2.out)
                rintro e w12 ⟨rfl, hb⟩
                refine ⟨_, rfl, ?_⟩
                have n0_ := Aside0.mk (below_step (by repeat (first | (with_reducible first | exact HB.out | apply below_alloc | apply pw_below_drewN | apply below_drew1) | exact HB.out)) hb)
                clear HB
                have HB := n0_
                clear n0_
                (try clear hb)
                (try clear hb2)
                (try clear hk)
                (try clear hi)
                refine hK.out _ _ ⟨((HB.out.cell (World.block_lt_of_cell? w _ hw1000_0)).trans hw1000_0), ((HB.out.cell (World.block_lt_of_cell? w _ hw1000_1)).trans hw1000_1), ((HB.out.cell (World.block_lt_of_cell? w _ hw1000_2)).trans hw1000_2), ((HB.out.cell (World.block_lt_of_cell? w _ hw1001_0)).trans hw1001_0), ((HB.out.cell (World.block_lt_of_cell? w _ hw1001_1)).trans hw1001_1), ((HB.out.cell (World.block_lt_of_cell? w _ hw1001_2)).trans hw1001_2)⟩ (fun hHeld => ?_)
                clear hK K
                refine norm_ (a' := ?_) ?_ ?_
                rotate_left
                · show Act.put _ (some 25) _ = _
                  simp only [Act.put, List.setIfInBounds_toArray, List.set_cons_zero, List.set_cons_succ, i64_w, i32_w]
                  rfl
                refine pure_ (i := 9) (N := some 26) (v := ?_) (a' := ?_) #[true, true, true, true, true, true, true, true, true, true] rfl rfl (any_of HT_.out (by kernel_rfl)) (fun _ _ _ h => h) (Or.inl ⟨by rfl, ?_⟩) ?_ ?_
                rotate_left
                · intro w'
                  go_simp
                  with_reducible rfl
                rotate_left
                · simp only [Act.put, List.setIfInBounds_toArray, List.set_cons_zero, List.set_cons_succ, i64_w, i32_w]
                  rfl
                refine done_ (done_of HT_.out (by kernel_rfl)) ?_
                try go_wp2
                go_ret
                exact ⟨by first | rfl | (simp [errW_none, errW_some] <;> rfl) | (simp [*, errW_none, errW_some] <;> rfl), by repeat (first | (with_reducible first | exact HB.out | apply below_alloc | apply pw_below_drewN | apply below_drew1) | exact HB.out)⟩
            · rw [if_neg c6] at H
              exact absurd H (by simp)
          · rw [if_neg c5] at H
            exact absurd H (by simp)
        · rw [if_neg c4] at H
          have c4b0 : decide (x5_1 < (l0.length : Int)) = false := decide_eq_false c4
          clear c4
          obtain rfl := Option.some.inj H
          go_wp2
          go_ret
          exact ⟨by first | rfl | (simp [errW_none, errW_some] <;> rfl) | (simp [*, errW_none, errW_some] <;> rfl), by repeat (first | (with_reducible first | exact HB.out | apply below_alloc | apply pw_below_drewN | apply below_drew1) | exact HB.out)⟩
  · rw [if_neg c3] at H
    have c3b0 : ((l0.length : Int) == (l1.length : Int)) = false := beq_eq_false_iff_ne.mpr c3
    have c3b1 : ((l0.length : Int) != (l1.length : Int)) = true := bne_iff_ne.mpr c3
    have c3b2 : (l0.length == l1.length) = false := by first | simpa using c3 | (simp at c3 ⊢; omega)
    obtain rfl := Option.some.inj H
    go_enter Try.func59, Try.ntmps59
    go_wp2
    go_ret
    exact ⟨by first | rfl | (simp [errW_none, errW_some] <;> rfl) | (simp [*, errW_none, errW_some] <;> rfl), by repeat (first | (with_reducible first | exact HB.out | apply below_alloc | apply pw_below_drewN | apply below_drew1) | exact HB.out)⟩

end Go.Proofs.Ytdpejnckojhgjaa.P
end
section
namespace Go.Proofs.Ytdpejnckojhgjaa.P
open Go.RowKit Go.Proofs.YtdpejnckojhgjaaW.PrintWords Go.Proofs.YtdpejnckojhgjaaW.PrintLast Go.Proofs.YtdpejnckojhgjaaW.PrintMore
attribute [local go_sem] max2_int min2_int max_two min_two max_three min_three max_four min_four   -- for this text's walks alone
set_option linter.unusedVariables false
set_option linter.unusedSimpArgs false

/-! ### laws_markBoolS: function 118 -/
def laws_markBoolS.l0 : Nat → List Bool → Int → Int → Option (Int × List Bool)
  | 0, _, _, _ => none
  | k + 1, x0, x1, x5 => if x5 < (x0.length : Int) then (if 0 ≤ x5 then (laws_markBoolS.l0 k (x0.set (x5 : Int).toNat ((Int.tmod x1 3) == 0)) (wrap64 (x1 + 1)) (wrap64 (x5 + 1))) else (none)) else (some (x1, x0))
def laws_markBoolS.f (k : Nat) (l0 : List Bool) (a1 : Int) : Option (Int × List Bool) := laws_markBoolS.l0 k l0 a1 0
theorem laws_markBoolS.mono_l : ∀ k, (∀ y0 y1 y2, LeO (laws_markBoolS.l0 k y0 y1 y2) (laws_markBoolS.l0 (k + 1) y0 y1 y2))
  | 0 => fun _ _ _ r h => by simp [laws_markBoolS.l0] at h
  | k + 1 => by
    have ih0 := laws_markBoolS.mono_l k
    · intro y0 y1 y2
      unfold laws_markBoolS.l0
      repeat' first
      | (with_reducible exact ih0 _ _ _)
      | (with_reducible exact LeO.refl _)
      | (with_reducible exact LeO.none _)
      | (with_reducible refine LeO.ite ?_ ?_)
      | (with_reducible refine LeO.bind ?_ (fun _ => ?_))
      | exact ih0 _ _ _
      | exact LeO.none _
      | refine LeO.ite ?_ ?_
      | refine LeO.bind ?_ (fun _ => ?_)
theorem laws_markBoolS.mono : ∀ a0 a1 k, LeO (laws_markBoolS.f k a0 a1) (laws_markBoolS.f (k + 1) a0 a1) := by
  intro a0 a1 k
  have ih0 := laws_markBoolS.mono_l k
  unfold laws_markBoolS.f
  repeat' first
      | (with_reducible exact ih0 _ _ _)
      | (with_reducible exact LeO.refl _)
      | (with_reducible exact LeO.none _)
      | (with_reducible refine LeO.ite ?_ ?_)
      | (with_reducible refine LeO.bind ?_ (fun _ => ?_))
      | exact ih0 _ _ _
      | exact LeO.none _
      | refine LeO.ite ?_ ?_
      | refine LeO.bind ?_ (fun _ => ?_)
set_option maxHeartbeats 8000000 in
set_option maxRecDepth 100000 in
theorem laws_markBoolS.calls (k : Nat) (P0_ : Nat → Prop) (u9000_ : Value) (l0 : List Bool) (a1 : Int) (r1 : Int) (r2 : List Bool) (w0 w : World) (hB : Below w0.heap.size w0 w) (ho0 : Kd.R Kd.bool 4 w w0.heap.size P0_ u9000_ l0) (h : laws_markBoolS.f k l0 a1 = some (r1, r2)) :
    Calls Try.prog 118 #[u9000_, .int .i64 a1] w fun e w' => e = .returned (.int .i64 r1) ∧ Kd.R Kd.bool 4 w' w0.heap.size (fun k_ => (P0_ k_ ∨ w.heap.size ≤ k_)) u9000_ r2 ∧ Below w0.heap.size w0 w' ∧ Kept w w' (fun k_ => P0_ k_) := by
  have HO0 := Aside0.mk (show Kd.R Kd.bool 4 w w0.heap.size (fun k_ => (P0_ k_ ∨ w.heap.size ≤ k_)) u9000_ l0 from Kd.R_mono ho0 (fun k_ hk => (.inl hk)))
  have HK := Aside0.mk (Kept.refl w (fun k_ => P0_ k_))
  have HW0 := Aside0.mk hB.size
  have HB := Aside0.mk hB
  clear hB
  have H : (laws_markBoolS.l0 k l0 a1 0) = some (r1, r2) := h
  clear h
  have H' := Aside0.mk H
  clear H
  go_enter Try.func118, Try.ntmps118
  go_wp2
  go_loopg [1, 5] k (fun kq v1 v5 w' => ∃ (x0_1 : List Bool) (x1_1 : Int) (x5_1 : Int), v1 = .int .i64 x1_1 ∧ v5 = .int .i64 x5_1 ∧ Aside0 (laws_markBoolS.l0 kq x0_1 x1_1 x5_1 = some (r1, r2)) ∧ Aside0 (kq ≤ k) ∧ Aside0 (Kd.R Kd.bool 4 w' w0.heap.size (fun k_ => (P0_ k_ ∨ w.heap.size ≤ k_)) u9000_ x0_1) ∧ Aside0 (Kept w w' (fun k_ => P0_ k_)) ∧ Aside0 (Below w0.heap.size w0 w'))
  case atStart => exact ⟨(l0), (a1), (0), (by first | rfl | (simp; done) | (simp [*]; done)), (by first | rfl | (simp; done) | (simp [*]; done)), H', ⟨Nat.le_refl _⟩, ⟨by (with_reducible repeat (first | apply Kd.R_alloc | apply Kd.R_drewN | apply Kd.R_drew)); exact HO0.out⟩, ⟨by repeat (first | (with_reducible first | exact HK.out | apply Kept.alloc | apply Kept.drewN | apply Kept.drew) | exact HK.out)⟩, ⟨by repeat (first | (with_reducible first | exact HB.out | apply below_alloc | apply pw_below_drewN | apply below_drew1) | exact HB.out)⟩⟩
  case round =>
    clear H'
    try clear c1
    try clear p2
    obtain ⟨x0_1, x1_1, x5_1, rfl, rfl, HA, HK1, HO_0, HK, HB⟩ := hrel
    cases gk with
    | zero => exact absurd HA.out (by simp [laws_markBoolS.l0])
    | succ k1 =>
      have H := HA.out
      clear HA
      simp only [laws_markBoolS.l0] at H
      by_cases c3 : x5_1 < (x0_1.length : Int)
      · rw [if_pos c3] at H
        have c3b0 : decide (x5_1 < (x0_1.length : Int)) = true := decide_eq_true c3
        clear c3
        by_cases c4 : 0 ≤ x5_1
        · rw [if_pos c4] at H
          have c4b0 : decide (0 ≤ x5_1) = true := decide_eq_true c4
          clear c4
          obtain ⟨y1003, hy1003⟩ : ∃ y_ : List Bool, y_ = (x0_1.set (x5_1 : Int).toNat ((Int.tmod x1_1 3) == 0)) := ⟨_, rfl⟩
          replace H : (laws_markBoolS.l0 k1 y1003 (wrap64 (x1_1 + 1)) (wrap64 (x5_1 + 1))) = some (r1, r2) := by first | (rw [hy1003]; with_reducible exact H) | (have H2_ := (Option.bind_some _ _).symm.trans H; rw [hy1003]; with_reducible exact H2_) | (have H2_ := (Option.bind_some _ _).symm.trans H; with_reducible exact H2_) | with_reducible exact H | (rw [hy1003]; exact H) | exact H
          have Ny1003 := Aside0.mk hy1003
          clear hy1003
          have H' := Aside0.mk H
          clear H
          obtain ⟨Ao6, co6, eo6⟩ := Kd.R_slice HO_0.out
          subst eo6
          have p5 : 0 ≤ (x5_1 : Int) := of_decide_eq_true (by first | (with_reducible assumption) | assumption)
          have q5 : (x5_1 : Int) < ((x0_1.length : Int) : Int) := of_decide_eq_true (by first | (with_reducible assumption) | assumption)
          obtain ⟨go5, co5, eo5, gb5, gl5, cl5, HG5⟩ := Kd.R_form HO_0.out (by omega)
          (first | cases eo5 | (injection eo5 with ea_ en_ ec_; (first | subst ea_ | (injection ea_ with ea_; subst ea_)); subst ec_; clear en_))
          have GB5 := Aside0.mk gb5
          have GG5 := Aside0.mk HG5
          clear gb5 gl5 HG5
          have HMgo5 := Aside0.mk (show (P0_ go5 ∨ w.heap.size ≤ go5) from (HO_0.out.1 _ rfl))
          obtain ⟨hx5_0, hf5_0⟩ := Kd.R_celln false HO_0.out (x5_1 : Int) p5 q5
          replace p5 := eq_true p5
          replace q5 := eq_true q5
          have HP7 := Kd.R_putg HO_0.out (x5_1 : Int) ((Int.tmod x1_1 3) == 0)
          go_wp2_with (first | ((with_reducible refine gate_store (t := 4) (p := 17) rfl ?_); refine store_event (t := 4) (p := 17) (v := ?vo_w8) (w1 := (wr.setCell ⟨go5, (x5_1 : Int).toNat, none⟩ (.bool ((Int.tmod x1_1 3) == 0)))) ?hg ?ho ?hn ?hr ?_; (case ho => rfl); (case hg => rfl); (case hn => rfl); (case hr => first | (go_simp; done) | (go_simp; rfl)); intro w8 hw; have hg : wr.grownBy w8 (some go5) := (by rw [hw]; exact HP7.2); have hp_ : Kd.R Kd.bool 4 w8 w0.heap.size (fun k_ => (P0_ k_ ∨ w.heap.size ≤ k_)) (.slice (some ⟨go5, 0, none⟩) x0_1.length co6) y1003 := (by rw [hw, Ny1003.out]; exact HP7.1); clear HP7; have n0_ := Aside0.mk (hp_); have n1_ := Aside0.mk ((by rw [hw]; exact below_set (HB.out) GB5.out : Below w0.heap.size w0 w8)); have n2_ := Aside0.mk (Kept.of_grown (S := (fun k_ => P0_ k_)) hg (by repeat (first | (with_reducible first | exact HK.out | apply Kept.alloc | apply Kept.drewN | apply Kept.drew) | exact HK.out)) (fun k_ e_ => (HO_0.out.1 k_ e_))); clear HO_0; clear HB; clear HK; have HO_0 := n0_; have HB := n1_; have HK := n2_; clear n0_ n1_ n2_; clear hg hw hp_))
          go_roundg k1
          case measure => have := HK1.out; omega
          case rel => exact ⟨(y1003), (wrap64 (x1_1 + 1)), (wrap64 (x5_1 + 1)), (by first | rfl | (simp; done) | (simp [*]; done)), (by first | rfl | (simp; done) | (simp [*]; done)), H', ⟨by have := HK1.out; omega⟩, ⟨by (with_reducible repeat (first | apply Kd.R_alloc | apply Kd.R_drewN | apply Kd.R_drew)); exact HO_0.out⟩, ⟨by repeat (first | (with_reducible first | exact HK.out | apply Kept.alloc | apply Kept.drewN | apply Kept.drew) | exact HK.out)⟩, ⟨by repeat (first | (with_reducible first | exact HB.out | apply below_alloc | apply pw_below_drewN | apply below_drew1) | exact HB.out)⟩⟩
        · rw [if_neg c4] at H
          exact absurd H (by simp)
      · rw [if_neg c3] at H
        have c3b0 : decide (x5_1 < (x0_1.length : Int)) = false := decide_eq_false c3
        clear c3
        simp only [Option.some.injEq, Prod.mk.injEq] at H
        obtain ⟨rfl, rfl⟩ := H
        obtain ⟨Ao9, co9, eo9⟩ := Kd.R_slice HO_0.out
        subst eo9
        go_wp2
        go_ret
        exact ⟨by first | rfl | (simp [errW_none, errW_some] <;> rfl) | (simp [*, errW_none, errW_some] <;> rfl), by (with_reducible repeat (first | apply Kd.R_alloc | apply Kd.R_drewN | apply Kd.R_drew)); exact HO_0.out, by repeat (first | (with_reducible first | exact HB.out | apply below_alloc | apply pw_below_drewN | apply below_drew1) | exact HB.out), by repeat (first | (with_reducible first | exact HK.out | apply Kept.alloc | apply Kept.drewN | apply Kept.drew) | exact HK.out)⟩

end Go.Proofs.Ytdpejnckojhgjaa.P
end
section
namespace Go.Proofs.Ytdpejnckojhgjaa.P
open Go.RowKit Go.Proofs.YtdpejnckojhgjaaW.PrintWords Go.Proofs.YtdpejnckojhgjaaW.PrintLast Go.Proofs.YtdpejnckojhgjaaW.PrintMore
attribute [local go_sem] max2_int min2_int max_two min_two max_three min_three max_four min_four   -- for this text's walks alone
set_option linter.unusedVariables false
set_option linter.unusedSimpArgs false

/-! ### laws_markSlabS: function 60 -/
def laws_markSlabS.l0 : Nat → List S135 → Int → Int → Option (Int × List S135)
  | 0, _, _, _ => none
  | k + 1, x0, x1, x5 => if x5 < (x0.length : Int) then (if 0 ≤ x5 then ((laws_markBoolS.f k (x0.getD x5.toNat z135).f2 (wrap64 (wrap64 (x1 + 1) + 1))).bind fun t => (laws_markSlabS.l0 k (x0.set x5.toNat (⟨(x1), (wrap64 (x1 + 1)), t.2⟩ : S135)) t.1 (wrap64 (x5 + 1)))) else none) else some (x1, x0)
def laws_markSlabS.f (k : Nat) (l0 : List S135) (a1 : Int) : Option (Int × List S135) := laws_markSlabS.l0 k l0 a1 0
theorem laws_markSlabS.mono_l : ∀ k y0 y1 y2, LeO (laws_markSlabS.l0 k y0 y1 y2) (laws_markSlabS.l0 (k + 1) y0 y1 y2)
  | 0 => fun _ _ _ r h => by simp [laws_markSlabS.l0] at h
  | k + 1 => by
    intro y0 y1 y2
    rw [laws_markSlabS.l0, laws_markSlabS.l0]
    refine LeO.ite (LeO.ite (LeO.bind (laws_markBoolS.mono _ _ _) (fun _ => laws_markSlabS.mono_l k _ _ _)) (LeO.refl _)) (LeO.refl _)
theorem laws_markSlabS.mono : ∀ a0 a1 k, LeO (laws_markSlabS.f k a0 a1) (laws_markSlabS.f (k + 1) a0 a1) := fun _ _ k => laws_markSlabS.mono_l k _ _ _
theorem laws_markSlabS.get_set {xs : List S135} {a z : S135} {i : Int} (h0 : 0 ≤ i) (h1 : i < (xs.length : Int)) : (xs.set i.toNat a).getD i.toNat z = a := by
  rw [List.getD_eq_getElem?_getD, List.getElem?_set_self (by omega)]
  rfl
set_option maxHeartbeats 3200000 in
set_option maxRecDepth 100000 in
theorem laws_markSlabS.calls (k : Nat) (P0_ : Nat → Prop) (u9000_ : Value) (l0 : List S135) (a1 : Int) (r1 : Int) (r2 : List S135) (w0 w : World) (hB : Below w0.heap.size w0 w) (ho0 : Kd.S k135 135 w w0.heap.size P0_ u9000_ l0) (h : laws_markSlabS.f k l0 a1 = some (r1, r2)) :
    Calls Try.prog 60 #[u9000_, .int .i64 a1] w fun e w' => e = .returned (.int .i64 r1) ∧ Kd.S k135 135 w' w0.heap.size (fun k_ => (P0_ k_ ∨ w.heap.size ≤ k_)) u9000_ r2 ∧ Below w0.heap.size w0 w' ∧ Kept w w' (fun k_ => P0_ k_) := by
  have HO0 := Aside0.mk (show Kd.S k135 135 w w0.heap.size (fun k_ => (P0_ k_ ∨ w.heap.size ≤ k_)) u9000_ l0 from Kd.S_mono ho0 (fun k_ hk => (.inl hk)))
  have HK := Aside0.mk (Kept.refl w (fun k_ => P0_ k_))
  have HB := Aside0.mk hB
  clear hB ho0
  have H' := Aside0.mk (show laws_markSlabS.l0 k l0 a1 0 = some (r1, r2) from h)
  clear h
  go_enter Try.func60, Try.ntmps60
  go_wp2
  go_loopg [1, 5] k (fun kq v1 v5 w' => ∃ (x0_1 : List S135) (x1_1 : Int) (x5_1 : Int), v1 = .int .i64 x1_1 ∧ v5 = .int .i64 x5_1 ∧ Aside0 (laws_markSlabS.l0 kq x0_1 x1_1 x5_1 = some (r1, r2)) ∧ Aside0 (kq ≤ k) ∧ Aside0 (Kd.S k135 135 w' w0.heap.size (fun k_ => (P0_ k_ ∨ w.heap.size ≤ k_)) u9000_ x0_1) ∧ Aside0 (Kept w w' (fun k_ => P0_ k_)) ∧ Aside0 (Below w0.heap.size w0 w'))
  case atStart => exact ⟨l0, a1, 0, rfl, rfl, H', ⟨Nat.le_refl _⟩, HO0, HK, HB⟩
  case round =>
    clear H' HO0 HK HB
    obtain ⟨x0_1, x1_1, x5_1, rfl, rfl, HA, HK1, HO, HK, HB⟩ := hrel
    cases gk with
    | zero => exact absurd HA.out (by simp [laws_markSlabS.l0])
    | succ k1 =>
      have H := HA.out
      clear HA
      rw [laws_markSlabS.l0] at H
      obtain ⟨An, cn, en⟩ := Kd.S_slice HO.out
      subst en
      by_cases c3 : x5_1 < (x0_1.length : Int)
      · rw [if_pos c3] at H
        by_cases c4 : 0 ≤ x5_1
        · rw [if_pos c4] at H
          obtain ⟨⟨t1, t2⟩, hc, H⟩ := Option.bind_eq_some_iff.mp H
          have HC := Aside0.mk hc
          have H' := Aside0.mk H
          clear hc H
          obtain ⟨g, cap, eg, gb, gl, cl, HG⟩ := Kd.S_form HO.out (by omega)
          obtain ⟨ea, ec⟩ : An = some ⟨g, 0, none⟩ ∧ cn = cap := by injection eg with a b c; exact ⟨a, c⟩
          subst ea ec
          clear eg HG cl
          have GB := Aside0.mk gb
          have hgok : (P0_ g ∨ w.heap.size ≤ g) := (Kd.S_R HO.out).1 g (by simp [Value.ownBlock])
          have HGK := Aside0.mk hgok
          have C3 := Aside0.mk c3
          have C4 := Aside0.mk c4
          have C3b := decide_eq_true c3
          have C4b := decide_eq_true c4
          clear hgok gb gl
          have HX := Aside0.mk (show Kd.S k135 135 wr w0.heap.size (fun k_ => (P0_ k_ ∨ w.heap.size ≤ k_) ∧ ¬ ((fun _ => False) : Nat → Prop) k_) (.slice (some ⟨g, 0, none⟩) x0_1.length cn) x0_1 from (Kd.S_mono HO.out (fun k_ hk => ⟨hk, fun e_ => e_⟩)))
          obtain ⟨oki, ce, hcl, hM, hcc, hfr, hoki, hH⟩ := Kd.S_elem HX.out z135 x5_1 C4.out C3.out
          obtain ⟨ve, rfl, ge⟩ := k135_openM hM
          have HP := Aside0.mk (Kd.S_seg hH C4.out C3.out (seg := [.int .i64 (x1_1)]) (j := 0) (show 1 ≤ 3 from by decide) (x' := (⟨(x1_1), (x0_1.getD x5_1.toNat z135).f1, (x0_1.getD x5_1.toNat z135).f2⟩ : S135)) (k135_mkM _ _ _ (⟨(x1_1), (x0_1.getD x5_1.toNat z135).f1, (x0_1.getD x5_1.toNat z135).f2⟩ : S135) (Kd.R_mono ge (fun _ h_ => Or.inl h_))) (fun _ hk => hk) (fun k_ hk_ => hk_.elim))
          have hx := hcc 0 _ rfl
          have hf := hfr 0
          simp only [show (k135).sz = 3 from rfl, Nat.add_zero] at hx hf
          clear hcl hcc hfr hM hoki hH ge HX
          go_wp2_with (first | ((with_reducible refine gate_store (t := 3) (p := 16) rfl ?_); refine store_event (t := 3) (p := 16) (v := ?vo0) (w1 := (World.setCell wr ⟨g, x5_1.toNat * 3, none⟩ (.int .i64 (x1_1)))) ?hg ?ho ?hn ?hr ?_; (case ho => rfl); (case hg => rfl); (case hn => rfl); (case hr => first | (go_simp; done) | (go_simp; rfl)); intro w10 hw; have hS : Kd.S k135 135 w10 w0.heap.size (fun k_ => (P0_ k_ ∨ w.heap.size ≤ k_)) (.slice (some ⟨g, 0, none⟩) x0_1.length cn) (x0_1.set x5_1.toNat (⟨(x1_1), (x0_1.getD x5_1.toNat z135).f1, (x0_1.getD x5_1.toNat z135).f2⟩ : S135)) := (by rw [hw]; exact HP.out.1); have hg : World.grownBy wr w10 (some g) := (by rw [hw]; exact HP.out.2); have n0_ := Aside0.mk hS; have n1_ := Aside0.mk (Kept.of_grown hg HK.out (fun k_ e_ => by injection e_ with e_; subst e_; exact HGK.out)); have n2_ := Aside0.mk (HB.out.grown hg HB.out.size (fun k_ e_ => by injection e_ with e_; subst e_; exact GB.out)); clear HP HO HK HB hS hg hw hx hf; have HO := n0_; have HK := n1_; have HB := n2_; clear n0_ n1_ n2_; have HX := Aside0.mk (show Kd.S k135 135 w10 w0.heap.size (fun k_ => (P0_ k_ ∨ w.heap.size ≤ k_) ∧ ¬ ((fun _ => False) : Nat → Prop) k_) (.slice (some ⟨g, 0, none⟩) x0_1.length cn) (x0_1.set x5_1.toNat (⟨(x1_1), (x0_1.getD x5_1.toNat z135).f1, (x0_1.getD x5_1.toNat z135).f2⟩ : S135)) from (Kd.S_mono HO.out (fun k_ hk => ⟨hk, fun e_ => e_⟩))); obtain ⟨oki, ce, hcl, hM, hcc, hfr, hoki, hH⟩ := Kd.S_elem HX.out z135 x5_1 C4.out C3.out; rw [laws_markSlabS.get_set C4.out C3.out] at hM; obtain ⟨ve, rfl, ge⟩ := k135_openM hM; have HP := Aside0.mk (Kd.S_seg hH C4.out C3.out (seg := [.int .i64 (wrap64 (x1_1 + 1))]) (j := 1) (show 2 ≤ 3 from by decide) (x' := (⟨(x1_1), (wrap64 (x1_1 + 1)), (x0_1.getD x5_1.toNat z135).f2⟩ : S135)) (k135_mkM _ _ _ (⟨(x1_1), (wrap64 (x1_1 + 1)), (x0_1.getD x5_1.toNat z135).f2⟩ : S135) (Kd.R_mono ge (fun _ h_ => Or.inl h_))) (fun _ hk => hk) (fun k_ hk_ => hk_.elim)); rw [List.set_set] at HP; have hx := hcc 1 _ rfl; have hf := hfr 1; simp only [show (k135).sz = 3 from rfl, Nat.add_zero] at hx hf; clear hcl hcc hfr hM hoki hH ge HX) | ((with_reducible refine gate_store (t := 3) (p := 23) rfl ?_); refine store_event (t := 3) (p := 23) (v := ?vo1) (w1 := (World.setCell w10 ⟨g, x5_1.toNat * 3 + 1, none⟩ (.int .i64 (wrap64 (x1_1 + 1))))) ?hg ?ho ?hn ?hr ?_; (case ho => rfl); (case hg => rfl); (case hn => rfl); (case hr => first | (go_simp; done) | (go_simp; rfl)); intro w11 hw; have hS : Kd.S k135 135 w11 w0.heap.size (fun k_ => (P0_ k_ ∨ w.heap.size ≤ k_)) (.slice (some ⟨g, 0, none⟩) x0_1.length cn) (x0_1.set x5_1.toNat (⟨(x1_1), (wrap64 (x1_1 + 1)), (x0_1.getD x5_1.toNat z135).f2⟩ : S135)) := (by rw [hw]; exact HP.out.1); have hg : World.grownBy w10 w11 (some g) := (by rw [hw]; exact HP.out.2); have n0_ := Aside0.mk hS; have n1_ := Aside0.mk (Kept.of_grown hg HK.out (fun k_ e_ => by injection e_ with e_; subst e_; exact HGK.out)); have n2_ := Aside0.mk (HB.out.grown hg HB.out.size (fun k_ e_ => by injection e_ with e_; subst e_; exact GB.out)); clear HP HO HK HB hS hg hw hx hf; have HO := n0_; have HK := n1_; have HB := n2_; clear n0_ n1_ n2_; obtain ⟨oki, ce, hcl, hM, hcc, hoki, hH⟩ := Kd.S_lend HO.out z135 x5_1 C4.out (show x5_1 < (x0_1.length : Int) from C3.out); rw [laws_markSlabS.get_set C4.out C3.out] at hM; obtain ⟨ve, rfl, ge⟩ := k135_openM hM; have hx := hcc 2 _ rfl; simp only [show (k135).sz = 3 from rfl, Nat.add_zero] at hx; have HR := Aside0.mk ge; have HH := Aside0.mk (Kd.H_widen hH); have HI := Aside0.mk hoki; have HLT := Aside0.mk HK.out.1; clear hcl hcc hM hoki hH ge HO) | ((with_reducible refine gate_callee (f := 118) rfl ?_); refine goesL_ (some 32) rfl rfl Try.func118 (by kernel_rfl) rfl #[ve, .int .i64 (wrap64 (wrap64 (x1_1 + 1) + 1))] rfl (by (try simp only [List.map_toArray, List.map_cons, List.map_nil]); first | done | rfl) ?_; (with_reducible refine (laws_markBoolS.calls k1 oki ve (x0_1.getD x5_1.toNat z135).f2 (wrap64 (wrap64 (x1_1 + 1) + 1)) t1 t2 w0 _ HB.out HR.out HC.out).mono ?_); rintro e w20 ⟨rfl, hR1, hB1, hK1⟩; refine ⟨_, rfl, ?_⟩; have n1_ := Aside0.mk (HK.out.then_ hK1 (fun k_ hk => HI.out k_ hk |>.1)); have n2_ := Aside0.mk hB1; have n0_ := Aside0.mk (Kd.H_back (Kd.H_kept HH.out hK1 (fun k_ _ hn hk => hn (.inl hk))) (x' := (⟨(x1_1), (wrap64 (x1_1 + 1)), t2⟩ : S135)) (k135_mkM _ _ _ (⟨(x1_1), (wrap64 (x1_1 + 1)), t2⟩ : S135) hR1) (fun k_ hk => hk.elim .inl (fun h => .inr ⟨.inr (Nat.le_trans HLT.out h), h⟩))); rw [List.set_set] at n0_; clear hR1 hB1 hK1 HK HB HH HI HC HR; have HS := n0_; have HK := n1_; have HB := n2_; clear n0_ n1_ n2_))
          go_roundg k1
          case measure => have := HK1.out; omega
          case rel => exact ⟨_, _, _, rfl, rfl, H', ⟨by have := HK1.out; omega⟩, HS, HK, HB⟩
        · rw [if_neg c4] at H
          exact absurd H (by simp)
      · rw [if_neg c3] at H
        simp only [Option.some.injEq, Prod.mk.injEq] at H
        obtain ⟨rfl, rfl⟩ := H
        go_wp2
        go_ret
        exact ⟨rfl, HO.out, HB.out, HK.out⟩

end Go.Proofs.Ytdpejnckojhgjaa.P
end
section
namespace Go.Proofs.Ytdpejnckojhgjaa.P
open Go.RowKit Go.Proofs.YtdpejnckojhgjaaW.PrintWords Go.Proofs.YtdpejnckojhgjaaW.PrintLast Go.Proofs.YtdpejnckojhgjaaW.PrintMore
attribute [local go_sem] max2_int min2_int max_two min_two max_three min_three max_four min_four   -- for this text's walks alone
set_option linter.unusedVariables false
set_option linter.unusedSimpArgs false

/-! ### laws_heldBoolS: function 119 -/
def laws_heldBoolS.l0 : Nat → List Bool → Int → Int → Option (Int)
  | 0, _, _, _ => none
  | k + 1, x0, x1, x5 => if x5 < (x0.length : Int) then (if 0 ≤ x5 then (if ((rdOf false x0 x5) != ((Int.tmod x1 3) == 0)) = true then (some (-1)) else (laws_heldBoolS.l0 k x0 (wrap64 (x1 + 1)) (wrap64 (x5 + 1)))) else (none)) else (some x1)
def laws_heldBoolS.f (k : Nat) (l0 : List Bool) (a1 : Int) : Option (Int) := laws_heldBoolS.l0 k l0 a1 0
theorem laws_heldBoolS.mono_l : ∀ k, (∀ y0 y1 y2, LeO (laws_heldBoolS.l0 k y0 y1 y2) (laws_heldBoolS.l0 (k + 1) y0 y1 y2))
  | 0 => fun _ _ _ r h => by simp [laws_heldBoolS.l0] at h
  | k + 1 => by
    have ih0 := laws_heldBoolS.mono_l k
    · intro y0 y1 y2
      unfold laws_heldBoolS.l0
      repeat' first
      | (with_reducible exact ih0 _ _ _)
      | (with_reducible exact LeO.refl _)
      | (with_reducible exact LeO.none _)
      | (with_reducible refine LeO.ite ?_ ?_)
      | (with_reducible refine LeO.bind ?_ (fun _ => ?_))
      | exact ih0 _ _ _
      | exact LeO.none _
      | refine LeO.ite ?_ ?_
      | refine LeO.bind ?_ (fun _ => ?_)
theorem laws_heldBoolS.mono : ∀ a0 a1 k, LeO (laws_heldBoolS.f k a0 a1) (laws_heldBoolS.f (k + 1) a0 a1) := by
  intro a0 a1 k
  have ih0 := laws_heldBoolS.mono_l k
  unfold laws_heldBoolS.f
  repeat' first
      | (with_reducible exact ih0 _ _ _)
      | (with_reducible exact LeO.refl _)
      | (with_reducible exact LeO.none _)
      | (with_reducible refine LeO.ite ?_ ?_)
      | (with_reducible refine LeO.bind ?_ (fun _ => ?_))
      | exact ih0 _ _ _
      | exact LeO.none _
      | refine LeO.ite ?_ ?_
      | refine LeO.bind ?_ (fun _ => ?_)
set_option maxHeartbeats 8000000 in
set_option maxRecDepth 100000 in
theorem laws_heldBoolS.calls (k : Nat) (A0 : Option Addr) (c0 : Nat) (l0 : List Bool) (a1 : Int) (r : Int) (w : World) (hr0 : Kd.C Kd.bool w A0 l0.length l0) (hc0 : l0.length ≤ c0) (h : laws_heldBoolS.f k l0 a1 = some r) :
    Calls Try.prog 119 #[.slice A0 l0.length c0, .int .i64 a1] w fun e w' => e = .returned (.int .i64 r) ∧ Drawn0 w w' := by
  have HR0 := Aside0.mk hr0
  have HC0 := Aside0.mk hc0
  clear hr0 hc0
  have H : (laws_heldBoolS.l0 k l0 a1 0) = some r := h
  clear h
  have H' := Aside0.mk H
  clear H
  go_enter Try.func119, Try.ntmps119
  go_wp2
  go_loopg [1, 5] k (fun kq v1 v5 w' => ∃ (x1_1 : Int) (x5_1 : Int), v1 = .int .i64 x1_1 ∧ v5 = .int .i64 x5_1 ∧ Aside0 (laws_heldBoolS.l0 kq l0 x1_1 x5_1 = some r) ∧ Aside0 (kq ≤ k) ∧ Drawn0 w w')
  case atStart => exact ⟨(a1), (0), (by first | rfl | (simp; done) | (simp [*]; done)), (by first | rfl | (simp; done) | (simp [*]; done)), H', ⟨Nat.le_refl _⟩, by repeat (first | exact Drawn0.refl _ | apply Drawn0.step)⟩
  case round =>
    clear H'
    try clear c1
    try clear p2
    obtain ⟨x1_1, x5_1, rfl, rfl, HA, HK1, ⟨m1, rfl⟩⟩ := hrel
    cases gk with
    | zero => exact absurd HA.out (by simp [laws_heldBoolS.l0])
    | succ k1 =>
      have H := HA.out
      clear HA
      simp only [laws_heldBoolS.l0] at H
      by_cases c3 : x5_1 < (l0.length : Int)
      · rw [if_pos c3] at H
        have c3b0 : decide (x5_1 < (l0.length : Int)) = true := decide_eq_true c3
        clear c3
        by_cases c4 : 0 ≤ x5_1
        · rw [if_pos c4] at H
          have c4b0 : decide (0 ≤ x5_1) = true := decide_eq_true c4
          clear c4
          by_cases c5 : ((rdOf false l0 x5_1) != ((Int.tmod x1_1 3) == 0)) = true
          · rw [if_pos c5] at H
            have c5b0 : ((rdOf false l0 x5_1) != ((Int.tmod x1_1 3) == 0)) = true := c5
            (try (have c5b1 : decide ((rdOf false l0 x5_1) = ((Int.tmod x1_1 3) == 0)) = false := by simpa using c5))
            (try (have c5b2 : ((rdOf false l0 x5_1) == ((Int.tmod x1_1 3) == 0)) = false := by simpa using c5))
            (try (have c5b3 : ¬ ((rdOf false l0 x5_1) = ((Int.tmod x1_1 3) == 0)) := by simpa using c5))
            clear c5
            obtain rfl := Option.some.inj H
            have p1004 : 0 ≤ (x5_1 : Int) := of_decide_eq_true (by first | (with_reducible assumption) | assumption)
            have q1004 : x5_1 < (l0.length : Int) := of_decide_eq_true (by first | (with_reducible assumption) | assumption)
            obtain ⟨ad1004, e1004, hx1004_0⟩ := Kd.at_bool HR0.out x5_1 p1004 q1004
            cases e1004
            replace p1004 := eq_true p1004
            replace q1004 := eq_true q1004
            go_wp2
            go_ret
            exact ⟨by first | rfl | (simp; done) | (simp [*]; done), by repeat (first | exact Drawn0.refl _ | apply Drawn0.step)⟩
          · rw [if_neg c5] at H
            have c5b0 : ((rdOf false l0 x5_1) != ((Int.tmod x1_1 3) == 0)) = false := by simpa using c5
            (try (have c5b1 : decide ((rdOf false l0 x5_1) = ((Int.tmod x1_1 3) == 0)) = true := by simpa using c5))
            (try (have c5b2 : ((rdOf false l0 x5_1) == ((Int.tmod x1_1 3) == 0)) = true := by simpa using c5))
            clear c5
            have H' := Aside0.mk H
            clear H
            have p1004 : 0 ≤ (x5_1 : Int) := of_decide_eq_true (by first | (with_reducible assumption) | assumption)
            have q1004 : x5_1 < (l0.length : Int) := of_decide_eq_true (by first | (with_reducible assumption) | assumption)
            obtain ⟨ad1004, e1004, hx1004_0⟩ := Kd.at_bool HR0.out x5_1 p1004 q1004
            cases e1004
            replace p1004 := eq_true p1004
            replace q1004 := eq_true q1004
            go_wp2
            go_roundg k1
            case measure => have := HK1.out; omega
            case rel => exact ⟨(wrap64 (x1_1 + 1)), (wrap64 (x5_1 + 1)), (by first | rfl | (simp; done) | (simp [*]; done)), (by first | rfl | (simp; done) | (simp [*]; done)), H', ⟨by have := HK1.out; omega⟩, by repeat (first | exact Drawn0.refl _ | apply Drawn0.step)⟩
        · rw [if_neg c4] at H
          exact absurd H (by simp)
      · rw [if_neg c3] at H
        have c3b0 : decide (x5_1 < (l0.length : Int)) = false := decide_eq_false c3
        clear c3
        obtain rfl := Option.some.inj H
        go_wp2
        go_ret
        exact ⟨by first | rfl | (simp; done) | (simp [*]; done), by repeat (first | exact Drawn0.refl _ | apply Drawn0.step)⟩

end Go.Proofs.Ytdpejnckojhgjaa.P
end
section
namespace Go.Proofs.Ytdpejnckojhgjaa.P
open Go.RowKit Go.Proofs.YtdpejnckojhgjaaW.PrintWords Go.Proofs.YtdpejnckojhgjaaW.PrintLast Go.Proofs.YtdpejnckojhgjaaW.PrintMore
attribute [local go_sem] max2_int min2_int max_two min_two max_three min_three max_four min_four   -- for this text's walks alone
set_option linter.unusedVariables false
set_option linter.unusedSimpArgs false

/-! ### laws_heldSlabS: function 61 -/
def laws_heldSlabS.l0 : Nat → List (S135) → Int → Int → Option (Int)
  | 0, _, _, _ => none
  | k + 1, x0, x1, x5 => if x5 < (x0.length : Int) then (if 0 ≤ x5 then (if ((rd_T135 x0 x5).f0) = x1 then (if ((rd_T135 x0 x5).f1) = (wrap64 (x1 + 1)) then ((laws_heldBoolS.f k ((rd_T135 x0 x5).f2) (wrap64 ((wrap64 (x1 + 1)) + 1))).bind fun t1008 => (if t1008 < 0 then (some (-1)) else (laws_heldSlabS.l0 k x0 t1008 (wrap64 (x5 + 1))))) else (some (-1))) else (some (-1))) else (none)) else (some x1)
def laws_heldSlabS.f (k : Nat) (l0 : List (S135)) (a1 : Int) : Option (Int) := laws_heldSlabS.l0 k l0 a1 0
theorem laws_heldSlabS.mono_l : ∀ k, (∀ y0 y1 y2, LeO (laws_heldSlabS.l0 k y0 y1 y2) (laws_heldSlabS.l0 (k + 1) y0 y1 y2))
  | 0 => fun _ _ _ r h => by simp [laws_heldSlabS.l0] at h
  | k + 1 => by
    have ih0 := laws_heldSlabS.mono_l k
    · intro y0 y1 y2
      unfold laws_heldSlabS.l0
      repeat' first
      | (with_reducible exact ih0 _ _ _)
      | (with_reducible exact laws_heldBoolS.mono _ _ _)
      | (with_reducible exact LeO.refl _)
      | (with_reducible exact LeO.none _)
      | (with_reducible refine LeO.ite ?_ ?_)
      | (with_reducible refine LeO.bind ?_ (fun _ => ?_))
      | exact ih0 _ _ _
      | exact laws_heldBoolS.mono _ _ _
      | exact LeO.none _
      | refine LeO.ite ?_ ?_
      | refine LeO.bind ?_ (fun _ => ?_)
theorem laws_heldSlabS.mono : ∀ a0 a1 k, LeO (laws_heldSlabS.f k a0 a1) (laws_heldSlabS.f (k + 1) a0 a1) := by
  intro a0 a1 k
  have ih0 := laws_heldSlabS.mono_l k
  unfold laws_heldSlabS.f
  repeat' first
      | (with_reducible exact ih0 _ _ _)
      | (with_reducible exact laws_heldBoolS.mono _ _ _)
      | (with_reducible exact LeO.refl _)
      | (with_reducible exact LeO.none _)
      | (with_reducible refine LeO.ite ?_ ?_)
      | (with_reducible refine LeO.bind ?_ (fun _ => ?_))
      | exact ih0 _ _ _
      | exact laws_heldBoolS.mono _ _ _
      | exact LeO.none _
      | refine LeO.ite ?_ ?_
      | refine LeO.bind ?_ (fun _ => ?_)
set_option maxHeartbeats 8000000 in
set_option maxRecDepth 100000 in
theorem laws_heldSlabS.calls (k : Nat) (A0 : Option Addr) (c0 : Nat) (l0 : List (S135)) (a1 : Int) (r : Int) (w : World) (hr0 : Kd.C k135 w A0 l0.length l0) (hc0 : l0.length ≤ c0) (h : laws_heldSlabS.f k l0 a1 = some r) :
    Calls Try.prog 61 #[.slice A0 l0.length c0, .int .i64 a1] w fun e w' => e = .returned (.int .i64 r) ∧ Drawn0 w w' := by
  have HR0 := Aside0.mk hr0
  have HC0 := Aside0.mk hc0
  clear hr0 hc0
  have H : (laws_heldSlabS.l0 k l0 a1 0) = some r := h
  clear h
  have H' := Aside0.mk H
  clear H
  go_enter Try.func61, Try.ntmps61
  go_wp2
  go_loopg [1, 5] k (fun kq v1 v5 w' => ∃ (x1_1 : Int) (x5_1 : Int), v1 = .int .i64 x1_1 ∧ v5 = .int .i64 x5_1 ∧ Aside0 (laws_heldSlabS.l0 kq l0 x1_1 x5_1 = some r) ∧ Aside0 (kq ≤ k) ∧ Drawn0 w w')
  case atStart => exact ⟨(a1), (0), (by first | rfl | (simp; done) | (simp [*]; done)), (by first | rfl | (simp; done) | (simp [*]; done)), H', ⟨Nat.le_refl _⟩, by repeat (first | exact Drawn0.refl _ | apply Drawn0.step)⟩
  case round =>
    clear H'
    try clear p2
    obtain ⟨x1_1, x5_1, rfl, rfl, HA, HK1, ⟨m1, rfl⟩⟩ := hrel
    cases gk with
    | zero => exact absurd HA.out (by simp [laws_heldSlabS.l0])
    | succ k1 =>
      have H := HA.out
      clear HA
      simp only [laws_heldSlabS.l0] at H
      by_cases c3 : x5_1 < (l0.length : Int)
      · rw [if_pos c3] at H
        have c3b0 : decide (x5_1 < (l0.length : Int)) = true := decide_eq_true c3
        clear c3
        by_cases c4 : 0 ≤ x5_1
        · rw [if_pos c4] at H
          have c4b0 : decide (0 ≤ x5_1) = true := decide_eq_true c4
          clear c4
          by_cases c5 : ((rd_T135 l0 x5_1).f0) = x1_1
          · rw [if_pos c5] at H
            have c5b0 : (((rd_T135 l0 x5_1).f0) == x1_1) = true := beq_iff_eq.mpr c5
            have c5b1 : (((rd_T135 l0 x5_1).f0) != x1_1) = false := bne_eq_false_iff_eq.mpr c5
            clear c5
            by_cases c6 : ((rd_T135 l0 x5_1).f1) = (wrap64 (x1_1 + 1))
            · rw [if_pos c6] at H
              have c6b0 : (((rd_T135 l0 x5_1).f1) == (wrap64 (x1_1 + 1))) = true := beq_iff_eq.mpr c6
              have c6b1 : (((rd_T135 l0 x5_1).f1) != (wrap64 (x1_1 + 1))) = false := bne_eq_false_iff_eq.mpr c6
              clear c6
              replace H := Option.bind_eq_some_iff.mp H
              obtain ⟨t1008, A70, H⟩ := H
              replace H : (if t1008 < 0 then (some (-1)) else (laws_heldSlabS.l0 k1 l0 t1008 (wrap64 (x5_1 + 1)))) = some r := H
              have A7 := Aside0.mk A70
              clear A70
              by_cases c8 : t1008 < 0
              · rw [if_pos c8] at H
                have c8b0 : decide (t1008 < 0) = true := decide_eq_true c8
                clear c8
                obtain rfl := Option.some.inj H
                have p1005 : 0 ≤ (x5_1 : Int) := of_decide_eq_true (by first | (with_reducible assumption) | assumption)
                have q1005 : x5_1 < (l0.length : Int) := of_decide_eq_true (by first | (with_reducible assumption) | assumption)
                obtain ⟨ad1005, A1005_2, c1005_2, e1005, hx1005_0, hx1005_1, hx1005_2, hl1005_2, hi1005_2⟩ := at_T135 HR0.out x5_1 p1005 q1005
                cases e1005
                have HR1005_2 := Aside0.mk hi1005_2
                have HC1005_2 := Aside0.mk hl1005_2
                clear hi1005_2 hl1005_2
                replace p1005 := eq_true p1005
                replace q1005 := eq_true q1005
                have p1006 : 0 ≤ (x5_1 : Int) := of_decide_eq_true (by first | (with_reducible assumption) | assumption)
                have q1006 : x5_1 < (l0.length : Int) := of_decide_eq_true (by first | (with_reducible assumption) | assumption)
                obtain ⟨ad1006, A1006_2, c1006_2, e1006, hx1006_0, hx1006_1, hx1006_2, hl1006_2, hi1006_2⟩ := at_T135 HR0.out x5_1 p1006 q1006
                obtain rfl : ad1005 = ad1006 := (by injection e1006)
                have HR1006_2 := Aside0.mk hi1006_2
                have HC1006_2 := Aside0.mk hl1006_2
                clear hi1006_2 hl1006_2
                replace p1006 := eq_true p1006
                replace q1006 := eq_true q1006
                have ea_ := Option.some.inj (hx1005_2.symm.trans hx1006_2)
                injection ea_ with ea_ en_ ec_
                subst ea_
                subst ec_
                clear en_
                have p1007 : 0 ≤ (x5_1 : Int) := of_decide_eq_true (by first | (with_reducible assumption) | assumption)
                have q1007 : x5_1 < (l0.length : Int) := of_decide_eq_true (by first | (with_reducible assumption) | assumption)
                obtain ⟨ad1007, A1007_2, c1007_2, e1007, hx1007_0, hx1007_1, hx1007_2, hl1007_2, hi1007_2⟩ := at_T135 HR0.out x5_1 p1007 q1007
                obtain rfl : ad1005 = ad1007 := (by injection e1007)
                have HR1007_2 := Aside0.mk hi1007_2
                have HC1007_2 := Aside0.mk hl1007_2
                clear hi1007_2 hl1007_2
                replace p1007 := eq_true p1007
                replace q1007 := eq_true q1007
                have ea_ := Option.some.inj (hx1005_2.symm.trans hx1007_2)
                injection ea_ with ea_ en_ ec_
                subst ea_
                subst ec_
                clear en_
                go_wp2_with (first | ((with_reducible refine gate_callee (f := 119) rfl ?_); refine goesL_ (some 36) rfl rfl Try.func119 (by kernel_rfl) rfl #[.slice A1005_2 ((rd_T135 l0 x5_1).f2).length c1005_2, .int .i64 (wrap64 ((wrap64 (x1_1 + 1)) + 1))] rfl (by (try simp only [List.map_toArray, List.map_cons, List.map_nil]); first | done | rfl | (simp only [List.length_drop, List.length_take]; rfl)) ?_; (with_reducible refine (laws_heldBoolS.calls k1 _ _ ((rd_T135 l0 x5_1).f2) (wrap64 ((wrap64 (x1_1 + 1)) + 1)) t1008 _ ?side1 ?side2 A7.out).mono ?_); (case side1 => repeat (first | exact HR1007_2.out | (with_reducible refine Kd.C_alloc ?_ _) | (with_reducible refine Kd.C_drewN ?_ _) | (with_reducible refine Kd.C_drew ?_))); (case side2 => exact HC1007_2.out); rintro e w' ⟨rfl, ⟨nd, rfl⟩⟩; refine ⟨_, rfl, ?_⟩))
                go_ret
                exact ⟨by first | rfl | (simp; done) | (simp [*]; done), by repeat (first | exact Drawn0.refl _ | apply Drawn0.step)⟩
              · rw [if_neg c8] at H
                have c8b0 : decide (t1008 < 0) = false := decide_eq_false c8
                clear c8
                have H' := Aside0.mk H
                clear H
                have p1005 : 0 ≤ (x5_1 : Int) := of_decide_eq_true (by first | (with_reducible assumption) | assumption)
                have q1005 : x5_1 < (l0.length : Int) := of_decide_eq_true (by first | (with_reducible assumption) | assumption)
                obtain ⟨ad1005, A1005_2, c1005_2, e1005, hx1005_0, hx1005_1, hx1005_2, hl1005_2, hi1005_2⟩ := at_T135 HR0.out x5_1 p1005 q1005
                cases e1005
                have HR1005_2 := Aside0.mk hi1005_2
                have HC1005_2 := Aside0.mk hl1005_2
                clear hi1005_2 hl1005_2
                replace p1005 := eq_true p1005
                replace q1005 := eq_true q1005
                have p1006 : 0 ≤ (x5_1 : Int) := of_decide_eq_true (by first | (with_reducible assumption) | assumption)
                have q1006 : x5_1 < (l0.length : Int) := of_decide_eq_true (by first | (with_reducible assumption) | assumption)
                obtain ⟨ad1006, A1006_2, c1006_2, e1006, hx1006_0, hx1006_1, hx1006_2, hl1006_2, hi1006_2⟩ := at_T135 HR0.out x5_1 p1006 q1006
                obtain rfl : ad1005 = ad1006 := (by injection e1006)
                have HR1006_2 := Aside0.mk hi1006_2
                have HC1006_2 := Aside0.mk hl1006_2
                clear hi1006_2 hl1006_2
                replace p1006 := eq_true p1006
                replace q1006 := eq_true q1006
                have ea_ := Option.some.inj (hx1005_2.symm.trans hx1006_2)
                injection ea_ with ea_ en_ ec_
                subst ea_
                subst ec_
                clear en_
                have p1007 : 0 ≤ (x5_1 : Int) := of_decide_eq_true (by first | (with_reducible assumption) | assumption)
                have q1007 : x5_1 < (l0.length : Int) := of_decide_eq_true (by first | (with_reducible assumption) | assumption)
                obtain ⟨ad1007, A1007_2, c1007_2, e1007, hx1007_0, hx1007_1, hx1007_2, hl1007_2, hi1007_2⟩ := at_T135 HR0.out x5_1 p1007 q1007
                obtain rfl : ad1005 = ad1007 := (by injection e1007)
                have HR1007_2 := Aside0.mk hi1007_2
                have HC1007_2 := Aside0.mk hl1007_2
                clear hi1007_2 hl1007_2
                replace p1007 := eq_true p1007
                replace q1007 := eq_true q1007
                have ea_ := Option.some.inj (hx1005_2.symm.trans hx1007_2)
                injection ea_ with ea_ en_ ec_
                subst ea_
                subst ec_
                clear en_
                go_wp2_with (first | ((with_reducible refine gate_callee (f := 119) rfl ?_); refine goesL_ (some 36) rfl rfl Try.func119 (by kernel_rfl) rfl #[.slice A1005_2 ((rd_T135 l0 x5_1).f2).length c1005_2, .int .i64 (wrap64 ((wrap64 (x1_1 + 1)) + 1))] rfl (by (try simp only [List.map_toArray, List.map_cons, List.map_nil]); first | done | rfl | (simp only [List.length_drop, List.length_take]; rfl)) ?_; (with_reducible refine (laws_heldBoolS.calls k1 _ _ ((rd_T135 l0 x5_1).f2) (wrap64 ((wrap64 (x1_1 + 1)) + 1)) t1008 _ ?side1 ?side2 A7.out).mono ?_); (case side1 => repeat (first | exact HR1007_2.out | (with_reducible refine Kd.C_alloc ?_ _) | (with_reducible refine Kd.C_drewN ?_ _) | (with_reducible refine Kd.C_drew ?_))); (case side2 => exact HC1007_2.out); rintro e w' ⟨rfl, ⟨nd, rfl⟩⟩; refine ⟨_, rfl, ?_⟩))
                go_roundg k1
                case measure => have := HK1.out; omega
                case rel => exact ⟨(t1008), (wrap64 (x5_1 + 1)), (by first | rfl | (simp; done) | (simp [*]; done)), (by first | rfl | (simp; done) | (simp [*]; done)), H', ⟨by have := HK1.out; omega⟩, by repeat (first | exact Drawn0.refl _ | apply Drawn0.step)⟩
            · rw [if_neg c6] at H
              have c6b0 : (((rd_T135 l0 x5_1).f1) == (wrap64 (x1_1 + 1))) = false := beq_eq_false_iff_ne.mpr c6
              have c6b1 : (((rd_T135 l0 x5_1).f1) != (wrap64 (x1_1 + 1))) = true := bne_iff_ne.mpr c6
              obtain rfl := Option.some.inj H
              have p1005 : 0 ≤ (x5_1 : Int) := of_decide_eq_true (by first | (with_reducible assumption) | assumption)
              have q1005 : x5_1 < (l0.length : Int) := of_decide_eq_true (by first | (with_reducible assumption) | assumption)
              obtain ⟨ad1005, A1005_2, c1005_2, e1005, hx1005_0, hx1005_1, hx1005_2, hl1005_2, hi1005_2⟩ := at_T135 HR0.out x5_1 p1005 q1005
              cases e1005
              have HR1005_2 := Aside0.mk hi1005_2
              have HC1005_2 := Aside0.mk hl1005_2
              clear hi1005_2 hl1005_2
              replace p1005 := eq_true p1005
              replace q1005 := eq_true q1005
              have p1006 : 0 ≤ (x5_1 : Int) := of_decide_eq_true (by first | (with_reducible assumption) | assumption)
              have q1006 : x5_1 < (l0.length : Int) := of_decide_eq_true (by first | (with_reducible assumption) | assumption)
              obtain ⟨ad1006, A1006_2, c1006_2, e1006, hx1006_0, hx1006_1, hx1006_2, hl1006_2, hi1006_2⟩ := at_T135 HR0.out x5_1 p1006 q1006
              obtain rfl : ad1005 = ad1006 := (by injection e1006)
              have HR1006_2 := Aside0.mk hi1006_2
              have HC1006_2 := Aside0.mk hl1006_2
              clear hi1006_2 hl1006_2
              replace p1006 := eq_true p1006
              replace q1006 := eq_true q1006
              have ea_ := Option.some.inj (hx1005_2.symm.trans hx1006_2)
              injection ea_ with ea_ en_ ec_
              subst ea_
              subst ec_
              clear en_
              go_wp2
              go_ret
              exact ⟨by first | rfl | (simp; done) | (simp [*]; done), by repeat (first | exact Drawn0.refl _ | apply Drawn0.step)⟩
          · rw [if_neg c5] at H
            have c5b0 : (((rd_T135 l0 x5_1).f0) == x1_1) = false := beq_eq_false_iff_ne.mpr c5
            have c5b1 : (((rd_T135 l0 x5_1).f0) != x1_1) = true := bne_iff_ne.mpr c5
            obtain rfl := Option.some.inj H
            have p1005 : 0 ≤ (x5_1 : Int) := of_decide_eq_true (by first | (with_reducible assumption) | assumption)
            have q1005 : x5_1 < (l0.length : Int) := of_decide_eq_true (by first | (with_reducible assumption) | assumption)
            obtain ⟨ad1005, A1005_2, c1005_2, e1005, hx1005_0, hx1005_1, hx1005_2, hl1005_2, hi1005_2⟩ := at_T135 HR0.out x5_1 p1005 q1005
            cases e1005
            have HR1005_2 := Aside0.mk hi1005_2
            have HC1005_2 := Aside0.mk hl1005_2
            clear hi1005_2 hl1005_2
            replace p1005 := eq_true p1005
            replace q1005 := eq_true q1005
            go_wp2
            go_ret
            exact ⟨by first | rfl | (simp; done) | (simp [*]; done), by repeat (first | exact Drawn0.refl _ | apply Drawn0.step)⟩
        · rw [if_neg c4] at H
          exact absurd H (by simp)
      · rw [if_neg c3] at H
        have c3b0 : decide (x5_1 < (l0.length : Int)) = false := decide_eq_false c3
        clear c3
        obtain rfl := Option.some.inj H
        go_wp2
        go_ret
        exact ⟨by first | rfl | (simp; done) | (simp [*]; done), by repeat (first | exact Drawn0.refl _ | apply Drawn0.step)⟩

end Go.Proofs.Ytdpejnckojhgjaa.P
end
section
namespace Go.Proofs.Ytdpejnckojhgjaa.P
open Go.RowKit Go.Proofs.YtdpejnckojhgjaaW.PrintWords Go.Proofs.YtdpejnckojhgjaaW.PrintLast Go.Proofs.YtdpejnckojhgjaaW.PrintMore
set_option linter.unusedVariables false
set_option linter.unusedSimpArgs false

set_option maxHeartbeats 8000000 in
set_option maxRecDepth 100000 in
theorem laws_FnExactTakePart.walk (k : Nat) (A0 : Option Addr) (c0 : Nat) (l0 : List (S132)) (a1 : Int) (z : Int) (t : List (S135)) (y0 : List (S135)) (y1 : Int) (y2 : Int) (y3 : Bool) (m : Int) (M : List S135) (m1 : Int) (M1 : List S135) (w : World) (hr0 : Kd.C k132 w A0 l0.length l0) (hc0 : l0.length ≤ c0) (f0 : laws_szSlabS.f k l0 1048576 = some z) (f1 : laws_toSlabS.f k l0 = some t) (f2 : spec_TakePart.f k t a1 = some (y0, y1, y2, y3)) (f3 : impl_TakePart.f k t a1 = some (y0, y1, y2, y3)) (f4 : laws_eqSlabS.f k y0 y0 = some true) (f5 : laws_eqSlabS.f k t t = some true) (f6 : laws_markSlabS.f k t 1 = some (m, M)) (f7 : laws_markSlabS.f k y0 1 = some (m1, M1)) (f8 : laws_heldSlabS.f k M1 1 = some m1) (n0 : ¬ z < 0) (n1 : ¬ m < 0) (n2 : ¬ m1 < 0) :
    Calls Try.prog 12 #[.slice A0 l0.length c0, .int .i64 a1] w fun e w' => e = .returned (.bool true) ∧ Below w.heap.size w w' := by
  have HR0 := Aside0.mk hr0
  have HC0 := Aside0.mk hc0
  clear hr0 hc0
  have HB := Aside0.mk (Below.refl w.heap.size w)
  have Ff0 := Aside0.mk f0
  have Ff1 := Aside0.mk f1
  have Ff2 := Aside0.mk f2
  have Ff3 := Aside0.mk f3
  have Ff4 := Aside0.mk f4
  have Ff5 := Aside0.mk f5
  have Ff6 := Aside0.mk f6
  have Ff7 := Aside0.mk f7
  have Ff8 := Aside0.mk f8
  clear f0 f1 f2 f3 f4 f5 f6 f7 f8
  have nb0 : decide (z < 0) = false := decide_eq_false n0
  have nb1 : decide (m < 0) = false := decide_eq_false n1
  have nb2 : decide (m1 < 0) = false := decide_eq_false n2
  have eb0 : (y1 != y1) = false := bne_self_eq_false y1
  have eb1 : (y2 != y2) = false := bne_self_eq_false y2
  have eb2 : (y3 != y3) = false := bne_self_eq_false y3
  have eb3 : (m1 != m1) = false := bne_self_eq_false m1
  go_enter Try.func12, Try.ntmps12
  go_wp2_with (first | ((with_reducible refine gate_callee (f := 55) rfl ?_); refine goesL_ (some 24) rfl rfl Try.func55 (by kernel_rfl) rfl #[.slice A0 l0.length c0, .int .i64 (1048576)] rfl (by (try simp only [List.map_toArray, List.map_cons, List.map_nil]); first | done | rfl | (simp only [List.length_drop, List.length_take]; rfl)) ?_; (with_reducible refine (laws_szSlabS.calls k A0 c0 l0 (1048576) _ _ ?side1 ?side2 Ff0.out).mono ?_); (case side1 => exact Kd.C_below HR0.out HB.out); (case side2 => exact HC0.out); rintro e w1_ ⟨rfl, hb⟩; refine ⟨_, rfl, ?_⟩; have n0_ := Aside0.mk (below_step HB.out hb); have z_ := Aside0.mk (show w.heap.size ≤ w1_.heap.size from hb.size); (try clear HB); have HB := n0_; have Z := z_; clear z_ n0_; (try clear hb); (try clear hkp); (try clear hy); (try clear hd_)) | ((with_reducible refine gate_callee (f := 57) rfl ?_); refine goesL_ (some 29) rfl rfl Try.func57 (by kernel_rfl) rfl #[.slice A0 l0.length c0] rfl (by (try simp only [List.map_toArray, List.map_cons, List.map_nil]); first | done | rfl | (simp only [List.length_drop, List.length_take]; rfl)) ?_; (with_reducible refine (laws_toSlabS.calls k A0 c0 l0 _ _ ?side1 ?side2 Ff1.out).mono ?_); (case side1 => exact Kd.C_below HR0.out HB.out); (case side2 => exact HC0.out); rintro e w2_ ⟨v1_0, rfl, ho0, hb⟩; refine ⟨_, rfl, ?_⟩; have n0_ := Aside0.mk (Kd.S_lower (Kd.S_mono (Kd.S_bound ho0) (fun k_ hk_ => (⟨hk_.2.1, hk_.2.2.1⟩ : w1_.heap.size ≤ k_ ∧ k_ < w2_.heap.size))) HB.out.size); have n1_ := Aside0.mk (below_step HB.out hb); have z_ := Aside0.mk (show w.heap.size ≤ w1_.heap.size ∧ w1_.heap.size ≤ w2_.heap.size from ⟨Z.out, hb.size⟩); (try clear HB Z); have HO1 := n0_; have HB := n1_; have Z := z_; clear z_ n0_ n1_; (try clear hb); (try clear hkp); (try clear hy); (try clear hd_); (try clear ho0); obtain ⟨Ao1, co1, eo_⟩ := Kd.S_slice HO1.out; subst eo_) | ((with_reducible refine gate_callee (f := 56) rfl ?_); refine goesL_ (some 31) rfl rfl Try.func56 (by kernel_rfl) rfl #[.slice Ao1 t.length co1, .int .i64 (a1)] rfl (by (try simp only [List.map_toArray, List.map_cons, List.map_nil]); first | done | rfl | (simp only [List.length_drop, List.length_take]; rfl)) ?_; (with_reducible refine (spec_TakePart.calls k Ao1 co1 t (a1) _ _ _ _ _ ?side1 ?side2 Ff2.out).mono ?_); (case side1 => exact (Kd.S_reads' HO1.out).2.2); (case side2 => exact (Kd.S_reads' HO1.out).2.1); rintro e w3_ ⟨v2_0, rfl, ho0, hb⟩; refine ⟨_, rfl, ?_⟩; have n0_ := Aside0.mk (Kd.S_below HO1.out hb); have n1_ := Aside0.mk (Kd.S_lower (Kd.S_mono (Kd.S_bound ho0) (fun k_ hk_ => (⟨hk_.2.1, hk_.2.2.1⟩ : w2_.heap.size ≤ k_ ∧ k_ < w3_.heap.size))) HB.out.size); have n2_ := Aside0.mk (below_step HB.out hb); have z_ := Aside0.mk (show w.heap.size ≤ w1_.heap.size ∧ w1_.heap.size ≤ w2_.heap.size ∧ w2_.heap.size ≤ w3_.heap.size from ⟨Z.out.1, Z.out.2, hb.size⟩); (try clear HB HO1 Z); have HO1 := n0_; have HO2 := n1_; have HB := n2_; have Z := z_; clear z_ n0_ n1_ n2_; (try clear hb); (try clear hkp); (try clear hy); (try clear hd_); (try clear ho0); obtain ⟨Ao2, co2, eo_⟩ := Kd.S_slice HO2.out; subst eo_) | ((with_reducible refine gate_callee (f := 57) rfl ?_); refine goesL_ (some 37) rfl rfl Try.func57 (by kernel_rfl) rfl #[.slice A0 l0.length c0] rfl (by (try simp only [List.map_toArray, List.map_cons, List.map_nil]); first | done | rfl | (simp only [List.length_drop, List.length_take]; rfl)) ?_; (with_reducible refine (laws_toSlabS.calls k A0 c0 l0 _ _ ?side1 ?side2 Ff1.out).mono ?_); (case side1 => exact Kd.C_below HR0.out HB.out); (case side2 => exact HC0.out); rintro e w4_ ⟨v3_0, rfl, ho0, hb⟩; refine ⟨_, rfl, ?_⟩; have n0_ := Aside0.mk (Kd.S_below HO2.out hb); have n1_ := Aside0.mk (Kd.S_lower (Kd.S_mono (Kd.S_bound ho0) (fun k_ hk_ => (⟨hk_.2.1, hk_.2.2.1⟩ : w3_.heap.size ≤ k_ ∧ k_ < w4_.heap.size))) HB.out.size); have n2_ := Aside0.mk (below_step HB.out hb); have z_ := Aside0.mk (show w.heap.size ≤ w1_.heap.size ∧ w1_.heap.size ≤ w2_.heap.size ∧ w2_.heap.size ≤ w3_.heap.size ∧ w3_.heap.size ≤ w4_.heap.size from ⟨Z.out.1, Z.out.2.1, Z.out.2.2, hb.size⟩); (try clear HB HO2 Z); have HO2 := n0_; have HO3 := n1_; have HB := n2_; have Z := z_; clear z_ n0_ n1_ n2_; (try clear hb); (try clear hkp); (try clear hy); (try clear hd_); (try clear ho0); obtain ⟨Ao3, co3, eo_⟩ := Kd.S_slice HO3.out; subst eo_) | ((with_reducible refine gate_callee (f := 58) rfl ?_); refine goesL_ (some 41) rfl rfl Try.func58 (by kernel_rfl) rfl #[.slice Ao3 t.length co3, .int .i64 (a1)] rfl (by (try simp only [List.map_toArray, List.map_cons, List.map_nil]); first | done | rfl | (simp only [List.length_drop, List.length_take]; rfl)) ?_; (with_reducible refine (impl_TakePart.calls k Ao3 co3 t (a1) _ _ _ _ _ ?side1 ?side2 Ff3.out).mono ?_); (case side1 => exact (Kd.S_reads' HO3.out).2.2); (case side2 => exact (Kd.S_reads' HO3.out).2.1); rintro e w5_ ⟨v4_0, rfl, ho0, hb⟩; refine ⟨_, rfl, ?_⟩; have n0_ := Aside0.mk (Kd.S_below HO2.out hb); have n1_ := Aside0.mk (Kd.S_below HO3.out hb); have n2_ := Aside0.mk (Kd.S_lower (Kd.S_mono (Kd.S_bound ho0) (fun k_ hk_ => (⟨hk_.2.1, hk_.2.2.1⟩ : w4_.heap.size ≤ k_ ∧ k_ < w5_.heap.size))) HB.out.size); have n3_ := Aside0.mk (below_step HB.out hb); have z_ := Aside0.mk (show w.heap.size ≤ w1_.heap.size ∧ w1_.heap.size ≤ w2_.heap.size ∧ w2_.heap.size ≤ w3_.heap.size ∧ w3_.heap.size ≤ w4_.heap.size ∧ w4_.heap.size ≤ w5_.heap.size from ⟨Z.out.1, Z.out.2.1, Z.out.2.2.1, Z.out.2.2.2, hb.size⟩); (try clear HB HO2 HO3 Z); have HO2 := n0_; have HO3 := n1_; have HO4 := n2_; have HB := n3_; have Z := z_; clear z_ n0_ n1_ n2_ n3_; (try clear hb); (try clear hkp); (try clear hy); (try clear hd_); (try clear ho0); obtain ⟨Ao4, co4, eo_⟩ := Kd.S_slice HO4.out; subst eo_) | ((with_reducible refine gate_callee (f := 59) rfl ?_); refine goesL_ (some 48) rfl rfl Try.func59 (by kernel_rfl) rfl #[.slice Ao4 y0.length co4, .slice Ao2 y0.length co2] rfl (by (try simp only [List.map_toArray, List.map_cons, List.map_nil]); first | done | rfl | (simp only [List.length_drop, List.length_take]; rfl)) ?_; (with_reducible refine (laws_eqSlabS.calls k Ao4 co4 y0 Ao2 co2 y0 _ _ ?side1 ?side2 ?side3 ?side4 Ff4.out).mono ?_); (case side1 => exact (Kd.S_reads' HO4.out).2.2); (case side2 => exact (Kd.S_reads' HO4.out).2.1); (case side3 => exact (Kd.S_reads' HO2.out).2.2); (case side4 => exact (Kd.S_reads' HO2.out).2.1); rintro e w6_ ⟨rfl, hb⟩; refine ⟨_, rfl, ?_⟩; have n0_ := Aside0.mk (Kd.S_below HO2.out hb); have n1_ := Aside0.mk (Kd.S_below HO3.out hb); have n2_ := Aside0.mk (Kd.S_below HO4.out hb); have n3_ := Aside0.mk (below_step HB.out hb); have z_ := Aside0.mk (show w.heap.size ≤ w1_.heap.size ∧ w1_.heap.size ≤ w2_.heap.size ∧ w2_.heap.size ≤ w3_.heap.size ∧ w3_.heap.size ≤ w4_.heap.size ∧ w4_.heap.size ≤ w5_.heap.size ∧ w5_.heap.size ≤ w6_.heap.size from ⟨Z.out.1, Z.out.2.1, Z.out.2.2.1, Z.out.2.2.2.1, Z.out.2.2.2.2, hb.size⟩); (try clear HB HO2 HO3 HO4 Z); have HO2 := n0_; have HO3 := n1_; have HO4 := n2_; have HB := n3_; have Z := z_; clear z_ n0_ n1_ n2_ n3_; (try clear hb); (try clear hkp); (try clear hy); (try clear hd_)) | ((with_reducible refine gate_callee (f := 57) rfl ?_); refine goesL_ (some 67) rfl rfl Try.func57 (by kernel_rfl) rfl #[.slice A0 l0.length c0] rfl (by (try simp only [List.map_toArray, List.map_cons, List.map_nil]); first | done | rfl | (simp only [List.length_drop, List.length_take]; rfl)) ?_; (with_reducible refine (laws_toSlabS.calls k A0 c0 l0 _ _ ?side1 ?side2 Ff1.out).mono ?_); (case side1 => exact Kd.C_below HR0.out HB.out); (case side2 => exact HC0.out); rintro e w7_ ⟨v6_0, rfl, ho0, hb⟩; refine ⟨_, rfl, ?_⟩; have n0_ := Aside0.mk (Kd.S_below HO2.out hb); have n1_ := Aside0.mk (Kd.S_below HO3.out hb); have n2_ := Aside0.mk (Kd.S_below HO4.out hb); have n3_ := Aside0.mk (Kd.S_lower (Kd.S_mono (Kd.S_bound ho0) (fun k_ hk_ => (⟨hk_.2.1, hk_.2.2.1⟩ : w6_.heap.size ≤ k_ ∧ k_ < w7_.heap.size))) HB.out.size); have n4_ := Aside0.mk (below_step HB.out hb); have z_ := Aside0.mk (show w.heap.size ≤ w1_.heap.size ∧ w1_.heap.size ≤ w2_.heap.size ∧ w2_.heap.size ≤ w3_.heap.size ∧ w3_.heap.size ≤ w4_.heap.size ∧ w4_.heap.size ≤ w5_.heap.size ∧ w5_.heap.size ≤ w6_.heap.size ∧ w6_.heap.size ≤ w7_.heap.size from ⟨Z.out.1, Z.out.2.1, Z.out.2.2.1, Z.out.2.2.2.1, Z.out.2.2.2.2.1, Z.out.2.2.2.2.2, hb.size⟩); (try clear HB HO2 HO3 HO4 Z); have HO2 := n0_; have HO3 := n1_; have HO4 := n2_; have HO5 := n3_; have HB := n4_; have Z := z_; clear z_ n0_ n1_ n2_ n3_ n4_; (try clear hb); (try clear hkp); (try clear hy); (try clear hd_); (try clear ho0); obtain ⟨Ao5, co5, eo_⟩ := Kd.S_slice HO5.out; subst eo_) | ((with_reducible refine gate_callee (f := 59) rfl ?_); refine goesL_ (some 68) rfl rfl Try.func59 (by kernel_rfl) rfl #[.slice Ao3 t.length co3, .slice Ao5 t.length co5] rfl (by (try simp only [List.map_toArray, List.map_cons, List.map_nil]); first | done | rfl | (simp only [List.length_drop, List.length_take]; rfl)) ?_; (with_reducible refine (laws_eqSlabS.calls k Ao3 co3 t Ao5 co5 t _ _ ?side1 ?side2 ?side3 ?side4 Ff5.out).mono ?_); (case side1 => exact (Kd.S_reads' HO3.out).2.2); (case side2 => exact (Kd.S_reads' HO3.out).2.1); (case side3 => exact (Kd.S_reads' HO5.out).2.2); (case side4 => exact (Kd.S_reads' HO5.out).2.1); rintro e w8_ ⟨rfl, hb⟩; refine ⟨_, rfl, ?_⟩; have n0_ := Aside0.mk (Kd.S_below HO2.out hb); have n1_ := Aside0.mk (Kd.S_below HO3.out hb); have n2_ := Aside0.mk (Kd.S_below HO4.out hb); have n3_ := Aside0.mk (Kd.S_below HO5.out hb); have n4_ := Aside0.mk (below_step HB.out hb); have z_ := Aside0.mk (show w.heap.size ≤ w1_.heap.size ∧ w1_.heap.size ≤ w2_.heap.size ∧ w2_.heap.size ≤ w3_.heap.size ∧ w3_.heap.size ≤ w4_.heap.size ∧ w4_.heap.size ≤ w5_.heap.size ∧ w5_.heap.size ≤ w6_.heap.size ∧ w6_.heap.size ≤ w7_.heap.size ∧ w7_.heap.size ≤ w8_.heap.size from ⟨Z.out.1, Z.out.2.1, Z.out.2.2.1, Z.out.2.2.2.1, Z.out.2.2.2.2.1, Z.out.2.2.2.2.2.1, Z.out.2.2.2.2.2.2, hb.size⟩); (try clear HB HO2 HO3 HO4 HO5 Z); have HO2 := n0_; have HO3 := n1_; have HO4 := n2_; have HO5 := n3_; have HB := n4_; have Z := z_; clear z_ n0_ n1_ n2_ n3_ n4_; (try clear hb); (try clear hkp); (try clear hy); (try clear hd_)) | ((with_reducible refine gate_callee (f := 60) rfl ?_); refine goesL_ (some 72) rfl rfl Try.func60 (by kernel_rfl) rfl #[.slice Ao3 t.length co3, .int .i64 (1)] rfl (by (try simp only [List.map_toArray, List.map_cons, List.map_nil]); first | done | rfl | (simp only [List.length_drop, List.length_take]; rfl)) ?_; (with_reducible refine (laws_markSlabS.calls k (fun k_ => w3_.heap.size ≤ k_ ∧ k_ < w4_.heap.size) (.slice Ao3 t.length co3) t (1) _ _ w _ ?side1 ?side2 Ff6.out).mono ?_); (case side1 => exact HB.out); (case side2 => exact HO3.out); rintro e w9_ ⟨rfl, hy, hb, hkp⟩; refine ⟨_, rfl, ?_⟩; have n0_ := Aside0.mk (Kd.S_kept HO2.out hkp (fun k_ hk_ hs_ => by have := Z.out; omega)); have n1_ := Aside0.mk (Kd.S_kept HO4.out hkp (fun k_ hk_ hs_ => by have := Z.out; omega)); have n2_ := Aside0.mk (Kd.S_mono (Kd.S_bound hy) (fun k_ hk_ => (hk_.1.elim (fun h_ => .inl h_) (fun h_ => .inr ⟨h_, hk_.2.2.1⟩) : (w3_.heap.size ≤ k_ ∧ k_ < w4_.heap.size) ∨ (w8_.heap.size ≤ k_ ∧ k_ < w9_.heap.size)))); have n3_ := Aside0.mk hb; have z_ := Aside0.mk (show w.heap.size ≤ w1_.heap.size ∧ w1_.heap.size ≤ w2_.heap.size ∧ w2_.heap.size ≤ w3_.heap.size ∧ w3_.heap.size ≤ w4_.heap.size ∧ w4_.heap.size ≤ w5_.heap.size ∧ w5_.heap.size ≤ w6_.heap.size ∧ w6_.heap.size ≤ w7_.heap.size ∧ w7_.heap.size ≤ w8_.heap.size ∧ w8_.heap.size ≤ w9_.heap.size from ⟨Z.out.1, Z.out.2.1, Z.out.2.2.1, Z.out.2.2.2.1, Z.out.2.2.2.2.1, Z.out.2.2.2.2.2.1, Z.out.2.2.2.2.2.2.1, Z.out.2.2.2.2.2.2.2, hkp.1⟩); (try clear HB HO2 HO3 HO4 Z); have HO2 := n0_; have HO4 := n1_; have HO3 := n2_; have HB := n3_; have Z := z_; clear z_ n0_ n1_ n2_ n3_; (try clear hb); (try clear hkp); (try clear hy); (try clear hd_); have hl8 := (Kd.S_reads' HO3.out).1; (try rw [hl8] at HO3)) | (go_at_call 59; refine calls_of_args (args' := #[.slice Ao4 y0.length co4, .slice Ao2 y0.length co2]) (by first | rfl | (simp only [hl8]; done) | (simp only [hl8]; rfl)) ?_; (with_reducible refine (laws_eqSlabS.calls k Ao4 co4 y0 Ao2 co2 y0 _ _ ?side1 ?side2 ?side3 ?side4 Ff4.out).mono ?_); (case side1 => exact (Kd.S_reads' HO4.out).2.2); (case side2 => exact (Kd.S_reads' HO4.out).2.1); (case side3 => exact (Kd.S_reads' HO2.out).2.2); (case side4 => exact (Kd.S_reads' HO2.out).2.1); rintro e w10_ ⟨rfl, hb⟩; have n0_ := Aside0.mk (Kd.S_below HO2.out hb); have n1_ := Aside0.mk (Kd.S_below HO4.out hb); have n2_ := Aside0.mk (below_step HB.out hb); have z_ := Aside0.mk (show w.heap.size ≤ w1_.heap.size ∧ w1_.heap.size ≤ w2_.heap.size ∧ w2_.heap.size ≤ w3_.heap.size ∧ w3_.heap.size ≤ w4_.heap.size ∧ w4_.heap.size ≤ w5_.heap.size ∧ w5_.heap.size ≤ w6_.heap.size ∧ w6_.heap.size ≤ w7_.heap.size ∧ w7_.heap.size ≤ w8_.heap.size ∧ w8_.heap.size ≤ w9_.heap.size ∧ w9_.heap.size ≤ w10_.heap.size from ⟨Z.out.1, Z.out.2.1, Z.out.2.2.1, Z.out.2.2.2.1, Z.out.2.2.2.2.1, Z.out.2.2.2.2.2.1, Z.out.2.2.2.2.2.2.1, Z.out.2.2.2.2.2.2.2.1, Z.out.2.2.2.2.2.2.2.2, hb.size⟩); (try clear HB HO2 HO4 Z); have HO2 := n0_; have HO4 := n1_; have HB := n2_; have Z := z_; clear z_ n0_ n1_ n2_; (try clear hb); (try clear hkp); (try clear hy); (try clear hd_)) | ((with_reducible refine gate_callee (f := 60) rfl ?_); refine goesL_ (some 98) rfl rfl Try.func60 (by kernel_rfl) rfl #[.slice Ao4 y0.length co4, .int .i64 (1)] rfl (by (try simp only [List.map_toArray, List.map_cons, List.map_nil]); first | done | rfl | (simp only [hl8]; done) | (simp only [hl8]; rfl) | (simp only [List.length_drop, List.length_take]; rfl)) ?_; (with_reducible refine (laws_markSlabS.calls k (fun k_ => w4_.heap.size ≤ k_ ∧ k_ < w5_.heap.size) (.slice Ao4 y0.length co4) y0 (1) _ _ w _ ?side1 ?side2 Ff7.out).mono ?_); (case side1 => exact HB.out); (case side2 => exact HO4.out); rintro e w11_ ⟨rfl, hy, hb, hkp⟩; refine ⟨_, rfl, ?_⟩; have n0_ := Aside0.mk (Kd.S_kept HO2.out hkp (fun k_ hk_ hs_ => by have := Z.out; omega)); have n1_ := Aside0.mk (Kd.S_mono (Kd.S_bound hy) (fun k_ hk_ => (hk_.1.elim (fun h_ => .inl h_) (fun h_ => .inr ⟨h_, hk_.2.2.1⟩) : (w4_.heap.size ≤ k_ ∧ k_ < w5_.heap.size) ∨ (w10_.heap.size ≤ k_ ∧ k_ < w11_.heap.size)))); have n2_ := Aside0.mk hb; have z_ := Aside0.mk (show w.heap.size ≤ w1_.heap.size ∧ w1_.heap.size ≤ w2_.heap.size ∧ w2_.heap.size ≤ w3_.heap.size ∧ w3_.heap.size ≤ w4_.heap.size ∧ w4_.heap.size ≤ w5_.heap.size ∧ w5_.heap.size ≤ w6_.heap.size ∧ w6_.heap.size ≤ w7_.heap.size ∧ w7_.heap.size ≤ w8_.heap.size ∧ w8_.heap.size ≤ w9_.heap.size ∧ w9_.heap.size ≤ w10_.heap.size ∧ w10_.heap.size ≤ w11_.heap.size from ⟨Z.out.1, Z.out.2.1, Z.out.2.2.1, Z.out.2.2.2.1, Z.out.2.2.2.2.1, Z.out.2.2.2.2.2.1, Z.out.2.2.2.2.2.2.1, Z.out.2.2.2.2.2.2.2.1, Z.out.2.2.2.2.2.2.2.2.1, Z.out.2.2.2.2.2.2.2.2.2, hkp.1⟩); (try clear HB HO2 HO4 Z); have HO2 := n0_; have HO4 := n1_; have HB := n2_; have Z := z_; clear z_ n0_ n1_ n2_; (try clear hb); (try clear hkp); (try clear hy); (try clear hd_); have hl10 := (Kd.S_reads' HO4.out).1; (try rw [hl10] at HO4)) | ((with_reducible refine gate_callee (f := 61) rfl ?_); refine goesL_ (some 101) rfl rfl Try.func61 (by kernel_rfl) rfl #[.slice Ao4 M1.length co4, .int .i64 (1)] rfl (by (try simp only [List.map_toArray, List.map_cons, List.map_nil]); first | done | rfl | (simp only [hl8]; done) | (simp only [hl8]; rfl) | (simp only [hl10]; done) | (simp only [hl10]; rfl) | (simp only [List.length_drop, List.length_take]; rfl)) ?_; (with_reducible refine (laws_heldSlabS.calls k Ao4 co4 M1 (1) _ _ ?side1 ?side2 Ff8.out).mono ?_); (case side1 => exact (Kd.S_reads' HO4.out).2.2); (case side2 => exact (Kd.S_reads' HO4.out).2.1); rintro e w12_ ⟨rfl, hd_⟩; have hb := Drawn0.below hd_; refine ⟨_, rfl, ?_⟩; have n0_ := Aside0.mk (Kd.S_below HO2.out hb); have n1_ := Aside0.mk (Kd.S_below HO4.out hb); have n2_ := Aside0.mk (below_step HB.out hb); have z_ := Aside0.mk (show w.heap.size ≤ w1_.heap.size ∧ w1_.heap.size ≤ w2_.heap.size ∧ w2_.heap.size ≤ w3_.heap.size ∧ w3_.heap.size ≤ w4_.heap.size ∧ w4_.heap.size ≤ w5_.heap.size ∧ w5_.heap.size ≤ w6_.heap.size ∧ w6_.heap.size ≤ w7_.heap.size ∧ w7_.heap.size ≤ w8_.heap.size ∧ w8_.heap.size ≤ w9_.heap.size ∧ w9_.heap.size ≤ w10_.heap.size ∧ w10_.heap.size ≤ w11_.heap.size ∧ w11_.heap.size ≤ w12_.heap.size from ⟨Z.out.1, Z.out.2.1, Z.out.2.2.1, Z.out.2.2.2.1, Z.out.2.2.2.2.1, Z.out.2.2.2.2.2.1, Z.out.2.2.2.2.2.2.1, Z.out.2.2.2.2.2.2.2.1, Z.out.2.2.2.2.2.2.2.2.1, Z.out.2.2.2.2.2.2.2.2.2.1, Z.out.2.2.2.2.2.2.2.2.2.2, hb.size⟩); (try clear HB HO2 HO4 Z); have HO2 := n0_; have HO4 := n1_; have HB := n2_; have Z := z_; clear z_ n0_ n1_ n2_; (try clear hb); (try clear hkp); (try clear hy); (try clear hd_)) | ((with_reducible refine gate_callee (f := 57) rfl ?_); refine goesL_ (some 109) rfl rfl Try.func57 (by kernel_rfl) rfl #[.slice A0 l0.length c0] rfl (by (try simp only [List.map_toArray, List.map_cons, List.map_nil]); first | done | rfl | (simp only [hl8]; done) | (simp only [hl8]; rfl) | (simp only [hl10]; done) | (simp only [hl10]; rfl) | (simp only [List.length_drop, List.length_take]; rfl)) ?_; (with_reducible refine (laws_toSlabS.calls k A0 c0 l0 _ _ ?side1 ?side2 Ff1.out).mono ?_); (case side1 => exact Kd.C_below HR0.out HB.out); (case side2 => exact HC0.out); rintro e w13_ ⟨v12_0, rfl, ho0, hb⟩; refine ⟨_, rfl, ?_⟩; have n0_ := Aside0.mk (Kd.S_below HO2.out hb); have n1_ := Aside0.mk (Kd.S_below HO4.out hb); have n2_ := Aside0.mk (Kd.S_lower (Kd.S_mono (Kd.S_bound ho0) (fun k_ hk_ => (⟨hk_.2.1, hk_.2.2.1⟩ : w12_.heap.size ≤ k_ ∧ k_ < w13_.heap.size))) HB.out.size); have n3_ := Aside0.mk (below_step HB.out hb); have z_ := Aside0.mk (show w.heap.size ≤ w1_.heap.size ∧ w1_.heap.size ≤ w2_.heap.size ∧ w2_.heap.size ≤ w3_.heap.size ∧ w3_.heap.size ≤ w4_.heap.size ∧ w4_.heap.size ≤ w5_.heap.size ∧ w5_.heap.size ≤ w6_.heap.size ∧ w6_.heap.size ≤ w7_.heap.size ∧ w7_.heap.size ≤ w8_.heap.size ∧ w8_.heap.size ≤ w9_.heap.size ∧ w9_.heap.size ≤ w10_.heap.size ∧ w10_.heap.size ≤ w11_.heap.size ∧ w11_.heap.size ≤ w12_.heap.size ∧ w12_.heap.size ≤ w13_.heap.size from ⟨Z.out.1, Z.out.2.1, Z.out.2.2.1, Z.out.2.2.2.1, Z.out.2.2.2.2.1, Z.out.2.2.2.2.2.1, Z.out.2.2.2.2.2.2.1, Z.out.2.2.2.2.2.2.2.1, Z.out.2.2.2.2.2.2.2.2.1, Z.out.2.2.2.2.2.2.2.2.2.1, Z.out.2.2.2.2.2.2.2.2.2.2.1, Z.out.2.2.2.2.2.2.2.2.2.2.2, hb.size⟩); (try clear HB HO2 HO4 Z); have HO2 := n0_; have HO4 := n1_; have HO6 := n2_; have HB := n3_; have Z := z_; clear z_ n0_ n1_ n2_ n3_; (try clear hb); (try clear hkp); (try clear hy); (try clear hd_); (try clear ho0); obtain ⟨Ao6, co6, eo_⟩ := Kd.S_slice HO6.out; subst eo_) | ((with_reducible refine gate_callee (f := 58) rfl ?_); refine goesL_ (some 111) rfl rfl Try.func58 (by kernel_rfl) rfl #[.slice Ao6 t.length co6, .int .i64 (a1)] rfl (by (try simp only [List.map_toArray, List.map_cons, List.map_nil]); first | done | rfl | (simp only [hl8]; done) | (simp only [hl8]; rfl) | (simp only [hl10]; done) | (simp only [hl10]; rfl) | (simp only [List.length_drop, List.length_take]; rfl)) ?_; (with_reducible refine (impl_TakePart.calls k Ao6 co6 t (a1) _ _ _ _ _ ?side1 ?side2 Ff3.out).mono ?_); (case side1 => exact (Kd.S_reads' HO6.out).2.2); (case side2 => exact (Kd.S_reads' HO6.out).2.1); rintro e w14_ ⟨v13_0, rfl, ho0, hb⟩; refine ⟨_, rfl, ?_⟩; have n0_ := Aside0.mk (Kd.S_below HO2.out hb); have n1_ := Aside0.mk (Kd.S_below HO4.out hb); have n2_ := Aside0.mk (Kd.S_below HO6.out hb); have n3_ := Aside0.mk (Kd.S_lower (Kd.S_mono (Kd.S_bound ho0) (fun k_ hk_ => (⟨hk_.2.1, hk_.2.2.1⟩ : w13_.heap.size ≤ k_ ∧ k_ < w14_.heap.size))) HB.out.size); have n4_ := Aside0.mk (below_step HB.out hb); have z_ := Aside0.mk (show w.heap.size ≤ w1_.heap.size ∧ w1_.heap.size ≤ w2_.heap.size ∧ w2_.heap.size ≤ w3_.heap.size ∧ w3_.heap.size ≤ w4_.heap.size ∧ w4_.heap.size ≤ w5_.heap.size ∧ w5_.heap.size ≤ w6_.heap.size ∧ w6_.heap.size ≤ w7_.heap.size ∧ w7_.heap.size ≤ w8_.heap.size ∧ w8_.heap.size ≤ w9_.heap.size ∧ w9_.heap.size ≤ w10_.heap.size ∧ w10_.heap.size ≤ w11_.heap.size ∧ w11_.heap.size ≤ w12_.heap.size ∧ w12_.heap.size ≤ w13_.heap.size ∧ w13_.heap.size ≤ w14_.heap.size from ⟨Z.out.1, Z.out.2.1, Z.out.2.2.1, Z.out.2.2.2.1, Z.out.2.2.2.2.1, Z.out.2.2.2.2.2.1, Z.out.2.2.2.2.2.2.1, Z.out.2.2.2.2.2.2.2.1, Z.out.2.2.2.2.2.2.2.2.1, Z.out.2.2.2.2.2.2.2.2.2.1, Z.out.2.2.2.2.2.2.2.2.2.2.1, Z.out.2.2.2.2.2.2.2.2.2.2.2.1, Z.out.2.2.2.2.2.2.2.2.2.2.2.2, hb.size⟩); (try clear HB HO2 HO4 HO6 Z); have HO2 := n0_; have HO4 := n1_; have HO6 := n2_; have HO7 := n3_; have HB := n4_; have Z := z_; clear z_ n0_ n1_ n2_ n3_ n4_; (try clear hb); (try clear hkp); (try clear hy); (try clear hd_); (try clear ho0); obtain ⟨Ao7, co7, eo_⟩ := Kd.S_slice HO7.out; subst eo_) | ((with_reducible refine gate_callee (f := 59) rfl ?_); refine goesL_ (some 118) rfl rfl Try.func59 (by kernel_rfl) rfl #[.slice Ao7 y0.length co7, .slice Ao2 y0.length co2] rfl (by (try simp only [List.map_toArray, List.map_cons, List.map_nil]); first | done | rfl | (simp only [hl8]; done) | (simp only [hl8]; rfl) | (simp only [hl10]; done) | (simp only [hl10]; rfl) | (simp only [List.length_drop, List.length_take]; rfl)) ?_; (with_reducible refine (laws_eqSlabS.calls k Ao7 co7 y0 Ao2 co2 y0 _ _ ?side1 ?side2 ?side3 ?side4 Ff4.out).mono ?_); (case side1 => exact (Kd.S_reads' HO7.out).2.2); (case side2 => exact (Kd.S_reads' HO7.out).2.1); (case side3 => exact (Kd.S_reads' HO2.out).2.2); (case side4 => exact (Kd.S_reads' HO2.out).2.1); rintro e w15_ ⟨rfl, hb⟩; refine ⟨_, rfl, ?_⟩; have n0_ := Aside0.mk (Kd.S_below HO2.out hb); have n1_ := Aside0.mk (Kd.S_below HO4.out hb); have n2_ := Aside0.mk (Kd.S_below HO7.out hb); have n3_ := Aside0.mk (below_step HB.out hb); have z_ := Aside0.mk (show w.heap.size ≤ w1_.heap.size ∧ w1_.heap.size ≤ w2_.heap.size ∧ w2_.heap.size ≤ w3_.heap.size ∧ w3_.heap.size ≤ w4_.heap.size ∧ w4_.heap.size ≤ w5_.heap.size ∧ w5_.heap.size ≤ w6_.heap.size ∧ w6_.heap.size ≤ w7_.heap.size ∧ w7_.heap.size ≤ w8_.heap.size ∧ w8_.heap.size ≤ w9_.heap.size ∧ w9_.heap.size ≤ w10_.heap.size ∧ w10_.heap.size ≤ w11_.heap.size ∧ w11_.heap.size ≤ w12_.heap.size ∧ w12_.heap.size ≤ w13_.heap.size ∧ w13_.heap.size ≤ w14_.heap.size ∧ w14_.heap.size ≤ w15_.heap.size from ⟨Z.out.1, Z.out.2.1, Z.out.2.2.1, Z.out.2.2.2.1, Z.out.2.2.2.2.1, Z.out.2.2.2.2.2.1, Z.out.2.2.2.2.2.2.1, Z.out.2.2.2.2.2.2.2.1, Z.out.2.2.2.2.2.2.2.2.1, Z.out.2.2.2.2.2.2.2.2.2.1, Z.out.2.2.2.2.2.2.2.2.2.2.1, Z.out.2.2.2.2.2.2.2.2.2.2.2.1, Z.out.2.2.2.2.2.2.2.2.2.2.2.2.1, Z.out.2.2.2.2.2.2.2.2.2.2.2.2.2, hb.size⟩); (try clear HB HO2 HO4 HO7 Z); have HO2 := n0_; have HO4 := n1_; have HO7 := n2_; have HB := n3_; have Z := z_; clear z_ n0_ n1_ n2_ n3_; (try clear hb); (try clear hkp); (try clear hy); (try clear hd_)) | ((with_reducible refine gate_callee (f := 61) rfl ?_); refine goesL_ (some 137) rfl rfl Try.func61 (by kernel_rfl) rfl #[.slice Ao4 M1.length co4, .int .i64 (1)] rfl (by (try simp only [List.map_toArray, List.map_cons, List.map_nil]); first | done | rfl | (simp only [hl8]; done) | (simp only [hl8]; rfl) | (simp only [hl10]; done) | (simp only [hl10]; rfl) | (simp only [List.length_drop, List.length_take]; rfl)) ?_; (with_reducible refine (laws_heldSlabS.calls k Ao4 co4 M1 (1) _ _ ?side1 ?side2 Ff8.out).mono ?_); (case side1 => exact (Kd.S_reads' HO4.out).2.2); (case side2 => exact (Kd.S_reads' HO4.out).2.1); rintro e w16_ ⟨rfl, hd_⟩; have hb := Drawn0.below hd_; refine ⟨_, rfl, ?_⟩; have n0_ := Aside0.mk (Kd.S_below HO4.out hb); have n1_ := Aside0.mk (below_step HB.out hb); have z_ := Aside0.mk (show w.heap.size ≤ w1_.heap.size ∧ w1_.heap.size ≤ w2_.heap.size ∧ w2_.heap.size ≤ w3_.heap.size ∧ w3_.heap.size ≤ w4_.heap.size ∧ w4_.heap.size ≤ w5_.heap.size ∧ w5_.heap.size ≤ w6_.heap.size ∧ w6_.heap.size ≤ w7_.heap.size ∧ w7_.heap.size ≤ w8_.heap.size ∧ w8_.heap.size ≤ w9_.heap.size ∧ w9_.heap.size ≤ w10_.heap.size ∧ w10_.heap.size ≤ w11_.heap.size ∧ w11_.heap.size ≤ w12_.heap.size ∧ w12_.heap.size ≤ w13_.heap.size ∧ w13_.heap.size ≤ w14_.heap.size ∧ w14_.heap.size ≤ w15_.heap.size ∧ w15_.heap.size ≤ w16_.heap.size from ⟨Z.out.1, Z.out.2.1, Z.out.2.2.1, Z.out.2.2.2.1, Z.out.2.2.2.2.1, Z.out.2.2.2.2.2.1, Z.out.2.2.2.2.2.2.1, Z.out.2.2.2.2.2.2.2.1, Z.out.2.2.2.2.2.2.2.2.1, Z.out.2.2.2.2.2.2.2.2.2.1, Z.out.2.2.2.2.2.2.2.2.2.2.1, Z.out.2.2.2.2.2.2.2.2.2.2.2.1, Z.out.2.2.2.2.2.2.2.2.2.2.2.2.1, Z.out.2.2.2.2.2.2.2.2.2.2.2.2.2.1, Z.out.2.2.2.2.2.2.2.2.2.2.2.2.2.2, hb.size⟩); (try clear HB HO4 Z); have HO4 := n0_; have HB := n1_; have Z := z_; clear z_ n0_ n1_; (try clear hb); (try clear hkp); (try clear hy); (try clear hd_)))
  go_ret
  exact ⟨rfl, HB.out⟩
set_option maxHeartbeats 8000000 in
set_option maxRecDepth 100000 in
theorem laws_FnExactTakePart.walk1 (k : Nat) (A0 : Option Addr) (c0 : Nat) (l0 : List (S132)) (a1 : Int) (z : Int) (w : World) (hr0 : Kd.C k132 w A0 l0.length l0) (hc0 : l0.length ≤ c0) (f0 : laws_szSlabS.f k l0 1048576 = some z) (n0 : z < 0) :
    Calls Try.prog 12 #[.slice A0 l0.length c0, .int .i64 a1] w fun e w' => e = .returned (.bool true) ∧ Below w.heap.size w w' := by
  have HR0 := Aside0.mk hr0
  have HC0 := Aside0.mk hc0
  clear hr0 hc0
  have HB := Aside0.mk (Below.refl w.heap.size w)
  have Ff0 := Aside0.mk f0
  clear f0
  have nb0 : decide (z < 0) = true := decide_eq_true n0
  go_enter Try.func12, Try.ntmps12
  go_wp2_with (first | ((with_reducible refine gate_callee (f := 55) rfl ?_); refine goesL_ (some 24) rfl rfl Try.func55 (by kernel_rfl) rfl #[.slice A0 l0.length c0, .int .i64 (1048576)] rfl (by (try simp only [List.map_toArray, List.map_cons, List.map_nil]); first | done | rfl | (simp only [List.length_drop, List.length_take]; rfl)) ?_; (with_reducible refine (laws_szSlabS.calls k A0 c0 l0 (1048576) _ _ ?side1 ?side2 Ff0.out).mono ?_); (case side1 => exact Kd.C_below HR0.out HB.out); (case side2 => exact HC0.out); rintro e w1_ ⟨rfl, hb⟩; refine ⟨_, rfl, ?_⟩; have n0_ := Aside0.mk (below_step HB.out hb); have z_ := Aside0.mk (show w.heap.size ≤ w1_.heap.size from hb.size); (try clear HB); have HB := n0_; have Z := z_; clear z_ n0_; (try clear hb); (try clear hkp); (try clear hy); (try clear hd_)))
  go_ret
  exact ⟨rfl, HB.out⟩
end Go.Proofs.Ytdpejnckojhgjaa.P
end
section
namespace Go.Proofs.Ytdpejnckojhgjaa.Aid
open Go.RowKit Go.Proofs.YtdpejnckojhgjaaW.PrintWords

theorem wrap64_id {n : Int} (h : -9223372036854775808 ≤ n) (h2 : n ≤ 9223372036854775807) : wrap64 n = n := by unfold wrap64; omega
theorem wf_i64 {n : Int} (h : (Lit.int .i64 n).wf = true) : -9223372036854775808 ≤ n ∧ n ≤ 9223372036854775807 := by
  simpa [Lit.wf, IntKind.min, IntKind.max, IntKind.bits, IntKind.signed] using h

theorem and255 (n : Int) : bits .and .i64 n 255 = n % 256 := by
  have h127 : (BitVec.ofInt 64 255).toNat = 2 ^ 8 - 1 := by decide
  have key : (BitVec.ofInt 64 n &&& BitVec.ofInt 64 255).toNat = (n % ((2 ^ 64 : Nat) : Int)).toNat % 2 ^ 8 := by
    rw [BitVec.toNat_and, BitVec.toNat_ofInt, h127, Nat.and_two_pow_sub_one_eq_mod]
  show IntKind.i64.wrap ((BitVec.ofInt 64 n &&& BitVec.ofInt 64 255).toNat : Nat) = n % 256
  rw [key, IntKind.wrap_i64]
  omega

theorem tmod_nonneg {a b : Int} (ha : 0 ≤ a) (_hb : 0 < b) : Int.tmod a b = a % b := Int.tmod_eq_emod_of_nonneg ha
theorem tdiv_nonneg {a b : Int} (ha : 0 ≤ a) : Int.tdiv a b = a / b := Int.tdiv_eq_ediv_of_nonneg ha

/-! Loops over an index -/
theorem Ev.of_succ {α : Type} {g : Nat → Option α} {r : α} (h : ∀ k, g (k + 1) = some r) : Ev g r :=
  ⟨1, fun n hn => by obtain ⟨m, rfl⟩ : ∃ m, n = m + 1 := ⟨n - 1, by omega⟩; exact h m⟩
theorem Ev.const {α : Type} {g : Nat → Option α} {r : α} (h : ∀ k, g k = some r) : Ev g r := ⟨0, fun n _ => h n⟩
/-- A loop that asks one thing of each index. -/
theorem ev_all {ρ : Type} (g : Nat → Nat → Option ρ) (n : Nat) (B : Nat → Bool) (no yes : ρ)
    (h1 : ∀ i, i < n → B i = true → ∀ r, Ev (fun k => g k (i + 1)) r → Ev (fun k => g k i) r)
    (h2 : ∀ i, i < n → B i = false → Ev (fun k => g k i) no)
    (h3 : Ev (fun k => g k n) yes) : ∀ d i, i + d = n → Ev (fun k => g k i) (if (List.range' i d).all B = true then yes else no) := by
  intro d
  induction d with
  | zero =>
    intro i hi
    obtain rfl : i = n := by omega
    simpa using h3
  | succ d ih =>
    intro i hi
    rw [List.range'_succ, List.all_cons]
    cases hb : B i with
    | true => simp only [Bool.true_and]; exact h1 i (by omega) hb _ (ih (i + 1) (by omega))
    | false => simp only [Bool.false_and, Bool.false_eq_true, if_false]; exact h2 i (by omega) hb
theorem ev_yes {ρ : Type} (g : Nat → Nat → Option ρ) (n : Nat) (B : Nat → Bool) (r : ρ)
    (h1 : ∀ i, i < n → B i = true → ∀ r, Ev (fun k => g k (i + 1)) r → Ev (fun k => g k i) r)
    (hall : (List.range n).all B = true) (h3 : Ev (fun k => g k n) r) : Ev (fun k => g k 0) r := by
  have key : ∀ d i, i + d = n → Ev (fun k => g k i) r := by
    intro d
    induction d with
    | zero =>
      intro i hi
      obtain rfl : i = n := by omega
      exact h3
    | succ d ih =>
      intro i hi
      exact h1 i (by omega) (List.all_eq_true.1 hall i (List.mem_range.2 (by omega))) _ (ih (i + 1) (by omega))
  exact key n 0 (by omega)
theorem ev_no {ρ : Type} (g : Nat → Nat → Option ρ) (n : Nat) (B : Nat → Bool) (no : ρ)
    (h1 : ∀ i, i < n → B i = true → ∀ r, Ev (fun k => g k (i + 1)) r → Ev (fun k => g k i) r)
    (h2 : ∀ i, i < n → B i = false → Ev (fun k => g k i) no)
    (hall : (List.range n).all B = false) : Ev (fun k => g k 0) no := by
  have key : ∀ d i, i + d = n → (List.range' i d).all B = false → Ev (fun k => g k i) no := by
    intro d
    induction d with
    | zero => intro i _ h; simp at h
    | succ d ih =>
      intro i hi h
      rw [List.range'_succ, List.all_cons] at h
      cases hb : B i with
      | true => exact h1 i (by omega) hb _ (ih (i + 1) (by omega) (by simpa [hb] using h))
      | false => exact h2 i (by omega) hb
  exact key n 0 (by omega) (by rw [← List.range_eq_range']; exact hall)
theorem ev_all0 {ρ : Type} (g : Nat → Nat → Option ρ) (n : Nat) (B : Nat → Bool) (no yes : ρ)
    (h1 : ∀ i, i < n → B i = true → ∀ r, Ev (fun k => g k (i + 1)) r → Ev (fun k => g k i) r)
    (h2 : ∀ i, i < n → B i = false → Ev (fun k => g k i) no)
    (h3 : Ev (fun k => g k n) yes) : Ev (fun k => g k 0) (if (List.range n).all B = true then yes else no) := by
  rw [List.range_eq_range']
  exact ev_all g n B no yes h1 h2 h3 n 0 (by omega)
/-- The same, where what was asked before is known. -/
theorem ev_yesp {ρ : Type} (g : Nat → Nat → Option ρ) (n : Nat) (B : Nat → Bool) (r : ρ)
    (h1 : ∀ i, i < n → (∀ j, j < i → B j = true) → B i = true → ∀ r, Ev (fun k => g k (i + 1)) r → Ev (fun k => g k i) r)
    (hall : (List.range n).all B = true) (h3 : Ev (fun k => g k n) r) : Ev (fun k => g k 0) r := by
  have ha : ∀ i, i < n → B i = true := fun i hi => List.all_eq_true.1 hall i (List.mem_range.2 hi)
  have key : ∀ d i, i + d = n → Ev (fun k => g k i) r := by
    intro d
    induction d with
    | zero =>
      intro i hi
      obtain rfl : i = n := by omega
      exact h3
    | succ d ih =>
      intro i hi
      exact h1 i (by omega) (fun j hj => ha j (by omega)) (ha i (by omega)) _ (ih (i + 1) (by omega))
  exact key n 0 (by omega)
theorem ev_nop {ρ : Type} (g : Nat → Nat → Option ρ) (n : Nat) (B : Nat → Bool) (no : ρ)
    (h1 : ∀ i, i < n → (∀ j, j < i → B j = true) → B i = true → ∀ r, Ev (fun k => g k (i + 1)) r → Ev (fun k => g k i) r)
    (h2 : ∀ i, i < n → (∀ j, j < i → B j = true) → B i = false → Ev (fun k => g k i) no)
    (hall : (List.range n).all B = false) : Ev (fun k => g k 0) no := by
  have key : ∀ d i, i + d = n → (∀ j, j < i → B j = true) → Ev (fun k => g k i) no := by
    intro d
    induction d with
    | zero =>
      intro i hi h
      obtain rfl : i = n := by omega
      have : (List.range i).all B = true := List.all_eq_true.2 (fun j hj => h j (List.mem_range.1 hj))
      rw [this] at hall; cases hall
    | succ d ih =>
      intro i hi h
      cases hb : B i with
      | true => exact h1 i (by omega) h hb _ (ih (i + 1) (by omega) (fun j hj => by
          by_cases e : j = i
          · rw [e]; exact hb
          · exact h j (by omega)))
      | false => exact h2 i (by omega) h hb
  exact key n 0 (by omega) (fun j hj => by omega)
theorem ev_allp {ρ : Type} (g : Nat → Nat → Option ρ) (n : Nat) (B : Nat → Bool) (no yes : ρ)
    (h1 : ∀ i, i < n → (∀ j, j < i → B j = true) → B i = true → ∀ r, Ev (fun k => g k (i + 1)) r → Ev (fun k => g k i) r)
    (h2 : ∀ i, i < n → (∀ j, j < i → B j = true) → B i = false → Ev (fun k => g k i) no)
    (h3 : (∀ j, j < n → B j = true) → Ev (fun k => g k n) yes) : Ev (fun k => g k 0) (if (List.range n).all B = true then yes else no) := by
  cases hall : (List.range n).all B with
  | true =>
    rw [if_pos rfl]
    exact ev_yesp g n B yes h1 hall (h3 (fun j hj => List.all_eq_true.1 hall j (List.mem_range.2 hj)))
  | false =>
    rw [if_neg (by simp)]
    exact ev_nop g n B no h1 h2 hall
theorem range_all {α : Type} (xs : List α) (d : α) (P : α → Bool) : (List.range xs.length).all (fun i => P (xs.getD i d)) = xs.all P := by
  rw [Bool.eq_iff_iff, List.all_eq_true, List.all_eq_true]
  constructor
  · intro h x hx
    obtain ⟨i, hi, rfl⟩ := List.getElem_of_mem hx
    have := h i (List.mem_range.2 hi)
    simpa [List.getD_eq_getElem?_getD, List.getElem?_eq_getElem hi] using this
  · intro h i hi
    have hi := List.mem_range.1 hi
    have := h _ (List.getElem_mem hi)
    simpa [List.getD_eq_getElem?_getD, List.getElem?_eq_getElem hi] using this
/-- A loop that stores at each index. -/
theorem ev_copy {α ρ : Type} (g : Nat → List α → Nat → Option ρ) (n : Nat) (f : Nat → α) (fin : List α → ρ)
    (h1 : ∀ i acc, i < n → acc.length = n → ∀ r, Ev (fun k => g k (acc.set i (f i)) (i + 1)) r → Ev (fun k => g k acc i) r)
    (h3 : ∀ acc, acc.length = n → Ev (fun k => g k acc n) (fin acc)) : ∀ d i acc, i + d = n → acc.length = n → Ev (fun k => g k acc i) (fin (acc.take i ++ (List.range' i d).map f)) := by
  intro d
  induction d with
  | zero =>
    intro i acc hi hl
    obtain rfl : i = n := by omega
    simpa [← hl] using h3 acc hl
  | succ d ih =>
    intro i acc hi hl
    have h := ih (i + 1) (acc.set i (f i)) (by omega) (by simpa using hl)
    have e : (acc.set i (f i)).take (i + 1) ++ (List.range' (i + 1) d).map f = acc.take i ++ (List.range' i (d + 1)).map f := by
      rw [List.range'_succ, List.map_cons, List.take_succ_eq_append_getElem (by simp; omega), List.getElem_set_self, List.append_assoc]
      congr 1
      exact List.take_set_of_le (Nat.le_refl _)
    rw [e] at h
    exact h1 i acc (by omega) hl _ h
theorem ev_copy0 {α ρ : Type} (g : Nat → List α → Nat → Option ρ) (n : Nat) (f : Nat → α) (fin : List α → ρ)
    (h1 : ∀ i acc, i < n → acc.length = n → ∀ r, Ev (fun k => g k (acc.set i (f i)) (i + 1)) r → Ev (fun k => g k acc i) r)
    (h3 : ∀ acc, acc.length = n → Ev (fun k => g k acc n) (fin acc)) (acc : List α) (hl : acc.length = n) : Ev (fun k => g k acc 0) (fin ((List.range n).map f)) := by
  rw [List.range_eq_range']
  simpa using ev_copy g n f fin h1 h3 n 0 acc (by omega) hl
/-- A loop that carries a state. -/
theorem ev_fold {σ ρ : Type} (g : Nat → σ → Nat → Option ρ) (n : Nat) (f : σ → Nat → σ) (fin : σ → ρ) (Inv : Nat → σ → Prop)
    (h1 : ∀ i s, i < n → Inv i s → Inv (i + 1) (f s i) ∧ ∀ r, Ev (fun k => g k (f s i) (i + 1)) r → Ev (fun k => g k s i) r)
    (h3 : ∀ s, Inv n s → Ev (fun k => g k s n) (fin s)) (s : σ) (h0 : Inv 0 s) : Ev (fun k => g k s 0) (fin ((List.range n).foldl f s)) ∧ Inv n ((List.range n).foldl f s) := by
  have key : ∀ d i s, i + d = n → Inv i s → Ev (fun k => g k s i) (fin ((List.range' i d).foldl f s)) ∧ Inv n ((List.range' i d).foldl f s) := by
    intro d
    induction d with
    | zero =>
      intro i s hi hs
      obtain rfl : i = n := by omega
      simpa using ⟨h3 s hs, hs⟩
    | succ d ih =>
      intro i s hi hs
      obtain ⟨h4, h5⟩ := h1 i s (by omega) hs
      obtain ⟨h6, h7⟩ := ih (i + 1) (f s i) (by omega) h4
      rw [List.range'_succ, List.foldl_cons]
      exact ⟨h5 _ h6, h7⟩
  rw [List.range_eq_range']
  exact key n 0 s (by omega) h0
theorem range_map_getD {α : Type} (xs : List α) (d : α) : (List.range xs.length).map (fun i => xs.getD i d) = xs := by
  apply List.ext_getElem
  · simp
  · intro i h1 h2
    simp at h1
    simp [List.getD_eq_getElem?_getD, List.getElem?_eq_getElem h1]
theorem foldl_getD {α σ : Type} (f : σ → α → σ) (l : List α) (d : α) (s : σ) : (List.range l.length).foldl (fun s i => f s (l.getD i d)) s = l.foldl f s := by
  have := range_map_getD l d
  conv => rhs; rw [← this]
  rw [List.foldl_map]
theorem toNat_cast (i : Nat) : (i : Int).toNat = i := by omega
theorem wrap_succ {i : Nat} (h : i < 9223372036854775807) : wrap64 ((i : Int) + 1) = ((i + 1 : Nat) : Int) := by unfold wrap64; omega
theorem in_dec (a b c : Int) : (if a ≥ b then (some (decide (a ≤ c))) else (some false)) = some (decide (b ≤ a ∧ a ≤ c)) := by
  by_cases h : a ≥ b
  · rw [if_pos h]; congr 1; by_cases h2 : a ≤ c
    · rw [decide_eq_true h2, decide_eq_true ⟨h, h2⟩]
    · rw [decide_eq_false h2, decide_eq_false (fun x => h2 x.2)]
  · rw [if_neg h, decide_eq_false (fun x => h x.1)]
/-- What a count tells, where it does not refuse. -/
theorem ev_sz (g : Nat → Int → Nat → Option Int) (n : Nat) (sz : Nat → Nat)
    (h1 : ∀ i b, i < n → 0 ≤ b → b ≤ 1048576 → (sz i : Int) ≤ b → ∀ r, Ev (fun k => g k (b - sz i) (i + 1)) r → Ev (fun k => g k b i) r)
    (h2 : ∀ i b, i < n → 0 ≤ b → b ≤ 1048576 → ¬ (sz i : Int) ≤ b → Ev (fun k => g k b i) (-1)) (h3 : ∀ b, Ev (fun k => g k b n) b) (b : Int) (hb0 : 0 ≤ b) (hb1 : b ≤ 1048576) :
    ∃ r, Ev (fun k => g k b 0) r ∧ (0 ≤ r → (((List.range n).map sz).sum : Nat) + r ≤ b) := by
  have key : ∀ d i b, i + d = n → 0 ≤ b → b ≤ 1048576 → ∃ r, Ev (fun k => g k b i) r ∧ (0 ≤ r → (((List.range' i d).map sz).sum : Nat) + r ≤ b) := by
    intro d
    induction d with
    | zero =>
      intro i b hi _ _
      obtain rfl : i = n := by omega
      exact ⟨b, h3 b, fun _ => by simp⟩
    | succ d ih =>
      intro i b hi h0 hb
      by_cases hs : (sz i : Int) ≤ b
      · obtain ⟨r, hr, hq⟩ := ih (i + 1) (b - sz i) (by omega) (by omega) (by omega)
        refine ⟨r, h1 i b (by omega) h0 hb hs r hr, fun h => ?_⟩
        have := hq h
        rw [List.range'_succ, List.map_cons, List.sum_cons]
        omega
      · exact ⟨-1, h2 i b (by omega) h0 hb hs, fun h => by omega⟩
  rw [List.range_eq_range']
  exact key n 0 b (by omega) hb0 hb1
theorem sum_ge {n : Nat} (sz : Nat → Nat) {i : Nat} (h : i < n) : sz i ≤ ((List.range n).map sz).sum := by
  have : ∀ (l : List Nat) (x : Nat), x ∈ l → x ≤ l.sum := by
    intro l
    induction l with
    | nil => intro x hx; cases hx
    | cons y l ih =>
      intro x hx
      rcases List.mem_cons.1 hx with rfl | hx
      · simp
      · have := ih x hx; simp; omega
  exact this _ _ (List.mem_map_of_mem (List.mem_range.2 h))
theorem sub_len {a : Int} {n : Nat} (ha : 0 ≤ a) (ha1 : a ≤ 1048576) (hn : n ≤ maxLen) : wrap64 (a - (n : Int)) = a - n := by unfold maxLen at hn; unfold wrap64; omega
end Go.Proofs.Ytdpejnckojhgjaa.Aid
end
