/- What the proof of FnExactAddSlabSaid rests on, part 5: plain lemmas and contracts of the functions that the law reaches (in part written by a printing program over the translation). No condition. -/
import Derived.Test.YtpkdfdkicblheaaBFnExactAddSlabd
import Derived.RowKit
import Derived.Laws.BitsLemmas
section
namespace Go.Proofs.Ytpkdfdkicblheaa.P
open Go.RowKit Go.Proofs.YtpkdfdkicblheaaW.PrintWords Go.Proofs.YtpkdfdkicblheaaW.PrintLast Go.Proofs.YtpkdfdkicblheaaW.PrintMore
attribute [local go_sem] max2_int min2_int max_two min_two max_three min_three max_four min_four   -- for this text's walks alone
set_option linter.unusedVariables false
set_option linter.unusedSimpArgs false

/-! ### spec_AddSlab: function 20 -/
mutual
def spec_AddSlab.j0 : Nat → List (S47) → Int → Int → Bool → Int → Int → Option ((List (S47)) × Bool)
  | 0, _, _, _, _, _, _ => none
  | k + 1, x0, x1, x2, x25, x386000, x386001 => if x25 = true then (if x2 = 0 then (none) else (if 0 ≤ (wrap64 ((4 : Int) / x2)) then (if (wrap64 ((4 : Int) / x2) : Int).toNat ≤ 281474976710656 then ((some (List.replicate (wrap64 ((4 : Int) / x2) : Int).toNat false : List Bool)).bind fun y386 => (if 0 < (y386.length : Int) then (spec_AddSlab.j1 k x0 x1 x386000 x386001 (y386.set (0 : Int).toNat true)) else (none))) else (none)) else (none))) else (spec_AddSlab.j1 k x0 x1 x386000 x386001 ([] : List Bool))
def spec_AddSlab.j1 : Nat → List (S47) → Int → Int → Int → List Bool → Option ((List (S47)) × Bool)
  | 0, _, _, _, _, _ => none
  | k + 1, x0, x1, x386000, x386001, x386002 => (spec_SlabsOk.f k x0).bind fun t390 => (if t390 = true then ((spec_l04Slab.f k x386000 x386001 x386002).bind fun t391 => (spec_AddSlab.j2 k x0 x1 (!t391) x386000 x386001 x386002)) else (spec_AddSlab.j2 k x0 x1 true x386000 x386001 x386002))
def spec_AddSlab.j2 : Nat → List (S47) → Int → Bool → Int → Int → List Bool → Option ((List (S47)) × Bool)
  | 0, _, _, _, _, _, _ => none
  | k + 1, x0, x1, x40, x386000, x386001, x386002 => if x40 = true then (some ((([] : List (S47))), false)) else ((spec_l04Copy.f k x0).bind fun t398 => (spec_AddSlab.l0 k x1 (([] : List (S47))) t398 0 x386000 x386001 x386002))
def spec_AddSlab.l0 : Nat → Int → List (S47) → List (S47) → Int → Int → Int → List Bool → Option ((List (S47)) × Bool)
  | 0, _, _, _, _, _, _, _ => none
  | k + 1, x1, x9, x10, x11, x386000, x386001, x386002 => if x11 < (x10.length : Int) then (if 0 ≤ x11 then (if ((rd_T47 x10 x11).f0) = x1 then (some ((([] : List (S47))), false)) else (if ((rd_T47 x10 x11).f0) < x1 then (if x9.length < 3518437208883 then (spec_AddSlab.l0 k x1 (x9 ++ [(⟨(rd_T47 x10 x11).f0, (rd_T47 x10 x11).f1, (rd_T47 x10 x11).f2⟩ : S47)]) x10 (wrap64 (x11 + 1)) x386000 x386001 x386002) else (none)) else (spec_AddSlab.l0 k x1 x9 x10 (wrap64 (x11 + 1)) x386000 x386001 x386002))) else (none)) else (if x9.length < 3518437208883 then (spec_AddSlab.l1 k x1 (x9 ++ [(⟨x386000, x386001, x386002⟩ : S47)]) x10 0) else (none))
def spec_AddSlab.l1 : Nat → Int → List (S47) → List (S47) → Int → Option ((List (S47)) × Bool)
  | 0, _, _, _, _ => none
  | k + 1, x1, x9, x10, x12 => if x12 < (x10.length : Int) then (if 0 ≤ x12 then (if ((rd_T47 x10 x12).f0) > x1 then (if x9.length < 3518437208883 then (spec_AddSlab.l1 k x1 (x9 ++ [(⟨(rd_T47 x10 x12).f0, (rd_T47 x10 x12).f1, (rd_T47 x10 x12).f2⟩ : S47)]) x10 (wrap64 (x12 + 1))) else (none)) else (spec_AddSlab.l1 k x1 x9 x10 (wrap64 (x12 + 1)))) else (none)) else ((spec_SlabsOk.f k x9).bind fun t418 => (if t418 = true then (some (x9, true)) else (some ((([] : List (S47))), false))))
end
def spec_AddSlab.f (k : Nat) (l0 : List (S47)) (a1 : Int) (a2 : Int) : Option ((List (S47)) × Bool) := if a2 = 1 then (spec_AddSlab.j0 k l0 a1 a2 true a1 a2) else (if a2 = 2 then (spec_AddSlab.j0 k l0 a1 a2 true a1 a2) else (spec_AddSlab.j0 k l0 a1 a2 (a2 == 4) a1 a2))
theorem spec_AddSlab.mono_l : ∀ k, (∀ y0 y1 y2 y3 y4 y5, LeO (spec_AddSlab.j0 k y0 y1 y2 y3 y4 y5) (spec_AddSlab.j0 (k + 1) y0 y1 y2 y3 y4 y5)) ∧ (∀ y0 y1 y2 y3 y4, LeO (spec_AddSlab.j1 k y0 y1 y2 y3 y4) (spec_AddSlab.j1 (k + 1) y0 y1 y2 y3 y4)) ∧ (∀ y0 y1 y2 y3 y4 y5, LeO (spec_AddSlab.j2 k y0 y1 y2 y3 y4 y5) (spec_AddSlab.j2 (k + 1) y0 y1 y2 y3 y4 y5)) ∧ (∀ y0 y1 y2 y3 y4 y5 y6, LeO (spec_AddSlab.l0 k y0 y1 y2 y3 y4 y5 y6) (spec_AddSlab.l0 (k + 1) y0 y1 y2 y3 y4 y5 y6)) ∧ (∀ y0 y1 y2 y3, LeO (spec_AddSlab.l1 k y0 y1 y2 y3) (spec_AddSlab.l1 (k + 1) y0 y1 y2 y3))
  | 0 => ⟨fun _ _ _ _ _ _ r h => by simp [spec_AddSlab.j0] at h, fun _ _ _ _ _ r h => by simp [spec_AddSlab.j1] at h, fun _ _ _ _ _ _ r h => by simp [spec_AddSlab.j2] at h, fun _ _ _ _ _ _ _ r h => by simp [spec_AddSlab.l0] at h, fun _ _ _ _ r h => by simp [spec_AddSlab.l1] at h⟩
  | k + 1 => by
    obtain ⟨ih0, ih1, ih2, ih3, ih4⟩ := spec_AddSlab.mono_l k
    refine ⟨?_, ?_, ?_, ?_, ?_⟩
    · intro y0 y1 y2 y3 y4 y5
      unfold spec_AddSlab.j0
      repeat' first
      | (with_reducible exact ih0 _ _ _ _ _ _)
      | (with_reducible exact ih1 _ _ _ _ _)
      | (with_reducible exact ih2 _ _ _ _ _ _)
      | (with_reducible exact ih3 _ _ _ _ _ _ _)
      | (with_reducible exact ih4 _ _ _ _)
      | (with_reducible exact spec_SlabsOk.mono _ _)
      | (with_reducible exact spec_l04Copy.mono _ _)
      | (with_reducible exact spec_l04Slab.mono _ _ _ _)
      | (with_reducible exact LeO.refl _)
      | (with_reducible exact LeO.none _)
      | (with_reducible refine LeO.ite ?_ ?_)
      | (with_reducible refine LeO.bind ?_ (fun _ => ?_))
      | exact ih0 _ _ _ _ _ _
      | exact ih1 _ _ _ _ _
      | exact ih2 _ _ _ _ _ _
      | exact ih3 _ _ _ _ _ _ _
      | exact ih4 _ _ _ _
      | exact spec_SlabsOk.mono _ _
      | exact spec_l04Copy.mono _ _
      | exact spec_l04Slab.mono _ _ _ _
      | exact LeO.none _
      | refine LeO.ite ?_ ?_
      | refine LeO.bind ?_ (fun _ => ?_)
    · intro y0 y1 y2 y3 y4
      unfold spec_AddSlab.j1
      repeat' first
      | (with_reducible exact ih0 _ _ _ _ _ _)
      | (with_reducible exact ih1 _ _ _ _ _)
      | (with_reducible exact ih2 _ _ _ _ _ _)
      | (with_reducible exact ih3 _ _ _ _ _ _ _)
      | (with_reducible exact ih4 _ _ _ _)
      | (with_reducible exact spec_SlabsOk.mono _ _)
      | (with_reducible exact spec_l04Copy.mono _ _)
      | (with_reducible exact spec_l04Slab.mono _ _ _ _)
      | (with_reducible exact LeO.refl _)
      | (with_reducible exact LeO.none _)
      | (with_reducible refine LeO.ite ?_ ?_)
      | (with_reducible refine LeO.bind ?_ (fun _ => ?_))
      | exact ih0 _ _ _ _ _ _
      | exact ih1 _ _ _ _ _
      | exact ih2 _ _ _ _ _ _
      | exact ih3 _ _ _ _ _ _ _
      | exact ih4 _ _ _ _
      | exact spec_SlabsOk.mono _ _
      | exact spec_l04Copy.mono _ _
      | exact spec_l04Slab.mono _ _ _ _
      | exact LeO.none _
      | refine LeO.ite ?_ ?_
      | refine LeO.bind ?_ (fun _ => ?_)
    · intro y0 y1 y2 y3 y4 y5
      unfold spec_AddSlab.j2
      repeat' first
      | (with_reducible exact ih0 _ _ _ _ _ _)
      | (with_reducible exact ih1 _ _ _ _ _)
      | (with_reducible exact ih2 _ _ _ _ _ _)
      | (with_reducible exact ih3 _ _ _ _ _ _ _)
      | (with_reducible exact ih4 _ _ _ _)
      | (with_reducible exact spec_SlabsOk.mono _ _)
      | (with_reducible exact spec_l04Copy.mono _ _)
      | (with_reducible exact spec_l04Slab.mono _ _ _ _)
      | (with_reducible exact LeO.refl _)
      | (with_reducible exact LeO.none _)
      | (with_reducible refine LeO.ite ?_ ?_)
      | (with_reducible refine LeO.bind ?_ (fun _ => ?_))
      | exact ih0 _ _ _ _ _ _
      | exact ih1 _ _ _ _ _
      | exact ih2 _ _ _ _ _ _
      | exact ih3 _ _ _ _ _ _ _
      | exact ih4 _ _ _ _
      | exact spec_SlabsOk.mono _ _
      | exact spec_l04Copy.mono _ _
      | exact spec_l04Slab.mono _ _ _ _
      | exact LeO.none _
      | refine LeO.ite ?_ ?_
      | refine LeO.bind ?_ (fun _ => ?_)
    · intro y0 y1 y2 y3 y4 y5 y6
      unfold spec_AddSlab.l0
      repeat' first
      | (with_reducible exact ih0 _ _ _ _ _ _)
      | (with_reducible exact ih1 _ _ _ _ _)
      | (with_reducible exact ih2 _ _ _ _ _ _)
      | (with_reducible exact ih3 _ _ _ _ _ _ _)
      | (with_reducible exact ih4 _ _ _ _)
      | (with_reducible exact spec_SlabsOk.mono _ _)
      | (with_reducible exact spec_l04Copy.mono _ _)
      | (with_reducible exact spec_l04Slab.mono _ _ _ _)
      | (with_reducible exact LeO.refl _)
      | (with_reducible exact LeO.none _)
      | (with_reducible refine LeO.ite ?_ ?_)
      | (with_reducible refine LeO.bind ?_ (fun _ => ?_))
      | exact ih0 _ _ _ _ _ _
      | exact ih1 _ _ _ _ _
      | exact ih2 _ _ _ _ _ _
      | exact ih3 _ _ _ _ _ _ _
      | exact ih4 _ _ _ _
      | exact spec_SlabsOk.mono _ _
      | exact spec_l04Copy.mono _ _
      | exact spec_l04Slab.mono _ _ _ _
      | exact LeO.none _
      | refine LeO.ite ?_ ?_
      | refine LeO.bind ?_ (fun _ => ?_)
    · intro y0 y1 y2 y3
      unfold spec_AddSlab.l1
      repeat' first
      | (with_reducible exact ih0 _ _ _ _ _ _)
      | (with_reducible exact ih1 _ _ _ _ _)
      | (with_reducible exact ih2 _ _ _ _ _ _)
      | (with_reducible exact ih3 _ _ _ _ _ _ _)
      | (with_reducible exact ih4 _ _ _ _)
      | (with_reducible exact spec_SlabsOk.mono _ _)
      | (with_reducible exact spec_l04Copy.mono _ _)
      | (with_reducible exact spec_l04Slab.mono _ _ _ _)
      | (with_reducible exact LeO.refl _)
      | (with_reducible exact LeO.none _)
      | (with_reducible refine LeO.ite ?_ ?_)
      | (with_reducible refine LeO.bind ?_ (fun _ => ?_))
      | exact ih0 _ _ _ _ _ _
      | exact ih1 _ _ _ _ _
      | exact ih2 _ _ _ _ _ _
      | exact ih3 _ _ _ _ _ _ _
      | exact ih4 _ _ _ _
      | exact spec_SlabsOk.mono _ _
      | exact spec_l04Copy.mono _ _
      | exact spec_l04Slab.mono _ _ _ _
      | exact LeO.none _
      | refine LeO.ite ?_ ?_
      | refine LeO.bind ?_ (fun _ => ?_)
theorem spec_AddSlab.mono : ∀ a0 a1 a2 k, LeO (spec_AddSlab.f k a0 a1 a2) (spec_AddSlab.f (k + 1) a0 a1 a2) := by
  intro a0 a1 a2 k
  obtain ⟨ih0, ih1, ih2, ih3, ih4⟩ := spec_AddSlab.mono_l k
  unfold spec_AddSlab.f
  repeat' first
      | (with_reducible exact ih0 _ _ _ _ _ _)
      | (with_reducible exact ih1 _ _ _ _ _)
      | (with_reducible exact ih2 _ _ _ _ _ _)
      | (with_reducible exact ih3 _ _ _ _ _ _ _)
      | (with_reducible exact ih4 _ _ _ _)
      | (with_reducible exact spec_SlabsOk.mono _ _)
      | (with_reducible exact spec_l04Copy.mono _ _)
      | (with_reducible exact spec_l04Slab.mono _ _ _ _)
      | (with_reducible exact LeO.refl _)
      | (with_reducible exact LeO.none _)
      | (with_reducible refine LeO.ite ?_ ?_)
      | (with_reducible refine LeO.bind ?_ (fun _ => ?_))
      | exact ih0 _ _ _ _ _ _
      | exact ih1 _ _ _ _ _
      | exact ih2 _ _ _ _ _ _
      | exact ih3 _ _ _ _ _ _ _
      | exact ih4 _ _ _ _
      | exact spec_SlabsOk.mono _ _
      | exact spec_l04Copy.mono _ _
      | exact spec_l04Slab.mono _ _ _ _
      | exact LeO.none _
      | refine LeO.ite ?_ ?_
      | refine LeO.bind ?_ (fun _ => ?_)
set_option maxHeartbeats 8000000 in
set_option maxRecDepth 100000 in
theorem spec_AddSlab.calls (k : Nat) (A0 : Option Addr) (c0 : Nat) (l0 : List (S47)) (a1 : Int) (a2 : Int) (r1 : List (S47)) (r2 : Bool) (w : World) (hr0 : Kd.C k47 w A0 l0.length l0) (hc0 : l0.length ≤ c0) (h : spec_AddSlab.f k l0 a1 a2 = some (r1, r2)) :
    Calls Try.prog 20 #[.slice A0 l0.length c0, .int .i64 a1, .int .i64 a2] w fun e w' => ∃ v0_ : Value, e = .returned (.tuple #[v0_, .bool r2]) ∧ Kd.N k47 47 w' w.heap.size (fun k_ => (w.heap.size ≤ k_)) v0_ r1 ∧ Below w.heap.size w w' := by
  have hu47 := Try.underlying47
  have HR0 := Aside0.mk hr0
  have HC0 := Aside0.mk hc0
  clear hr0 hc0
  have HB := Aside0.mk (Below.refl w.heap.size w)
  have H : (if a2 = 1 then (spec_AddSlab.j0 k l0 a1 a2 true a1 a2) else (if a2 = 2 then (spec_AddSlab.j0 k l0 a1 a2 true a1 a2) else (spec_AddSlab.j0 k l0 a1 a2 (a2 == 4) a1 a2))) = some (r1, r2) := h
  clear h
  have HC4 := Aside0.mk H
  clear H
  go_enter Try.func20, Try.ntmps20
  go_upto_region 2 with (first | ((with_reducible refine gate_dst (N := 8) rfl ?_); refine box_event ?hg (N := 8) ?hd (cs := #[.int .i64 0, .int .i64 0, .slice none 0 0]) (t := 47) ?hr ?_; (case hd => rfl); (case hg => rfl); (case hr => first | (go_simp; done) | (go_simp; rfl)); intro gb385 hg w5 hbox hb; have n0_ := Aside0.mk (below_step (by repeat (first | (with_reducible first | exact HB.out | apply below_alloc | apply pw_below_drewN | apply below_drew1) | exact HB.out)) hb); have n1_ := Aside0.mk (hbox); have n2_ := Aside0.mk ((by rw [hg]; exact (below_size (by repeat (first | (with_reducible first | exact HB.out | apply below_alloc | apply pw_below_drewN | apply below_drew1) | exact HB.out))) : w.heap.size ≤ gb385)); have n3_ := Aside0.mk ((by rw [hg]; exact (below_size (by repeat (first | (with_reducible first | exact HB.out | apply below_alloc | apply pw_below_drewN | apply below_drew1) | exact HB.out))) : w.heap.size ≤ gb385)); clear HB; have HB := n0_; have BK385 := n1_; have GW385 := n2_; have GE385 := n3_; clear n0_ n1_ n2_ n3_; clear hb hbox hg; have hcz6_0 : w5.cell? ⟨gb385, 0, none⟩ = some (.int .i64 0) := (blk_cell BK385.out 0).trans rfl; have hcz6_1 : w5.cell? ⟨gb385, 1, none⟩ = some (.int .i64 0) := (blk_cell BK385.out 1).trans rfl; have hcz6_2 : w5.cell? ⟨gb385, 2, none⟩ = some (.slice none 0 0) := (blk_cell BK385.out 2).trans rfl; have hfz6_0 := blk_frozen BK385.out 0; have hfz6_1 := blk_frozen BK385.out 1; have hfz6_2 := blk_frozen BK385.out 2))
  (try simp only [Act.put, List.setIfInBounds_toArray, List.set_cons_zero, List.set_cons_succ])
  go_cut [25] (fun v25 wc => ∃ (kq : Nat) (x25_3 : Bool), v25 = .bool x25_3 ∧ Aside0 (spec_AddSlab.j0 kq l0 a1 a2 x25_3 a1 a2 = some (r1, r2)) ∧ Aside0 (kq ≤ k) ∧ Aside0 (wc.heap[gb385]? = some (.cells #[.int .i64 a1, .int .i64 a2, (.slice none 0 0)] 47 (0, 0))) ∧ Aside0 (Below w.heap.size w wc))
  case first =>
    have H := HC4.out
    clear HC4
    by_cases c7 : a2 = 1
    · rw [if_pos c7] at H
      have c7b0 : (a2 == 1) = true := beq_iff_eq.mpr c7
      have c7b1 : (a2 != 1) = false := bne_eq_false_iff_eq.mpr c7
      clear c7
      (first | rw [c7b0] | (simp only [i64_w, i32_w]; rw [c7b0]) | skip)
      have H' := Aside0.mk H
      clear H
      go_wp2
      go_meet
      case rel => exact ⟨_, (true), (by first | rfl | (simp; done) | (simp [*]; done)), H', ⟨by first | omega | exact Nat.le_refl _⟩, ⟨by (with_reducible repeat (first | refine blk_drewN ?_ _ | refine blk_drew ?_ | refine blk_alloc ?_ _)); refine blk_put (cs := #[.int .i64 a1, .int .i64 a2, .slice none 0 0]) ?_ 2 _ rfl; (with_reducible repeat (first | refine blk_drewN ?_ _ | refine blk_drew ?_ | refine blk_alloc ?_ _)); refine blk_put (cs := #[.int .i64 a1, .int .i64 0, .slice none 0 0]) ?_ 1 _ rfl; (with_reducible repeat (first | refine blk_drewN ?_ _ | refine blk_drew ?_ | refine blk_alloc ?_ _)); refine blk_put (cs := #[.int .i64 0, .int .i64 0, .slice none 0 0]) ?_ 0 _ rfl; (with_reducible repeat (first | refine blk_drewN ?_ _ | refine blk_drew ?_ | refine blk_alloc ?_ _)); exact BK385.out⟩, ⟨by repeat (first | (with_reducible first | exact HB.out | apply below_alloc | apply pw_below_drewN | apply below_drew1 | refine below_set ?_ GE385.out) | exact HB.out)⟩⟩
    · rw [if_neg c7] at H
      have c7b0 : (a2 == 1) = false := beq_eq_false_iff_ne.mpr c7
      have c7b1 : (a2 != 1) = true := bne_iff_ne.mpr c7
      (first | rw [c7b0] | (simp only [i64_w, i32_w]; rw [c7b0]) | skip)
      by_cases c8 : a2 = 2
      · rw [if_pos c8] at H
        have c8b0 : (a2 == 2) = true := beq_iff_eq.mpr c8
        have c8b1 : (a2 != 2) = false := bne_eq_false_iff_eq.mpr c8
        clear c8
        have H' := Aside0.mk H
        clear H
        go_wp2
        go_meet
        case rel => exact ⟨_, (true), (by first | rfl | (simp; done) | (simp [*]; done)), H', ⟨by first | omega | exact Nat.le_refl _⟩, ⟨by (with_reducible repeat (first | refine blk_drewN ?_ _ | refine blk_drew ?_ | refine blk_alloc ?_ _)); refine blk_put (cs := #[.int .i64 a1, .int .i64 a2, .slice none 0 0]) ?_ 2 _ rfl; (with_reducible repeat (first | refine blk_drewN ?_ _ | refine blk_drew ?_ | refine blk_alloc ?_ _)); refine blk_put (cs := #[.int .i64 a1, .int .i64 0, .slice none 0 0]) ?_ 1 _ rfl; (with_reducible repeat (first | refine blk_drewN ?_ _ | refine blk_drew ?_ | refine blk_alloc ?_ _)); refine blk_put (cs := #[.int .i64 0, .int .i64 0, .slice none 0 0]) ?_ 0 _ rfl; (with_reducible repeat (first | refine blk_drewN ?_ _ | refine blk_drew ?_ | refine blk_alloc ?_ _)); exact BK385.out⟩, ⟨by repeat (first | (with_reducible first | exact HB.out | apply below_alloc | apply pw_below_drewN | apply below_drew1 | refine below_set ?_ GE385.out) | exact HB.out)⟩⟩
      · rw [if_neg c8] at H
        have c8b0 : (a2 == 2) = false := beq_eq_false_iff_ne.mpr c8
        have c8b1 : (a2 != 2) = true := bne_iff_ne.mpr c8
        have H' := Aside0.mk H
        clear H
        go_wp2
        go_meet
        case rel => exact ⟨_, ((a2 == 4)), (by first | rfl | (simp; done) | (simp [*]; done)), H', ⟨by first | omega | exact Nat.le_refl _⟩, ⟨by (with_reducible repeat (first | refine blk_drewN ?_ _ | refine blk_drew ?_ | refine blk_alloc ?_ _)); refine blk_put (cs := #[.int .i64 a1, .int .i64 a2, .slice none 0 0]) ?_ 2 _ rfl; (with_reducible repeat (first | refine blk_drewN ?_ _ | refine blk_drew ?_ | refine blk_alloc ?_ _)); refine blk_put (cs := #[.int .i64 a1, .int .i64 0, .slice none 0 0]) ?_ 1 _ rfl; (with_reducible repeat (first | refine blk_drewN ?_ _ | refine blk_drew ?_ | refine blk_alloc ?_ _)); refine blk_put (cs := #[.int .i64 0, .int .i64 0, .slice none 0 0]) ?_ 0 _ rfl; (with_reducible repeat (first | refine blk_drewN ?_ _ | refine blk_drew ?_ | refine blk_alloc ?_ _)); exact BK385.out⟩, ⟨by repeat (first | (with_reducible first | exact HB.out | apply below_alloc | apply pw_below_drewN | apply below_drew1 | refine below_set ?_ GE385.out) | exact HB.out)⟩⟩
  case rest =>
    clear HC4
    try clear c2
    try clear p2
    try clear c7
    try clear c7b0
    try clear c7b1
    try clear c8
    try clear c8b0
    try clear c8b1
    try clear hcz6_0
    try clear hcz6_1
    try clear hcz6_2
    try clear hfz6_0
    try clear hfz6_1
    try clear hfz6_2
    obtain ⟨kq, x25_3, rfl, HA, HJ3, BK385, HB⟩ := hcut
    cases kq with
    | zero => exact absurd HA.out (by simp [spec_AddSlab.j0])
    | succ kj3 =>
      have H := HA.out
      clear HA
      simp only [spec_AddSlab.j0] at H
      have HC9 := Aside0.mk H
      clear H
      go_upto_if 25 with (fail)
      go_cut [] (fun wc => ∃ (kq : Nat) (x386002_8 : List Bool) (u386002 : Value), Aside0 (spec_AddSlab.j1 kq l0 a1 a1 a2 x386002_8 = some (r1, r2)) ∧ Aside0 (kq ≤ kj3) ∧ Aside0 (Kd.R Kd.bool 4 wc w.heap.size (fun k_ => (w.heap.size ≤ k_)) u386002 x386002_8) ∧ Aside0 (wc.heap[gb385]? = some (.cells #[.int .i64 a1, .int .i64 a2, u386002] 47 (0, 0))) ∧ Aside0 (Below w.heap.size w wc))
      case first =>
        have H := HC9.out
        clear HC9
        by_cases c10 : x25_3 = true
        · subst c10
          have H1 : (if a2 = 0 then (none) else (if 0 ≤ (wrap64 ((4 : Int) / a2)) then (if (wrap64 ((4 : Int) / a2) : Int).toNat ≤ 281474976710656 then ((some (List.replicate (wrap64 ((4 : Int) / a2) : Int).toNat false : List Bool)).bind fun y386 => (if 0 < (y386.length : Int) then (spec_AddSlab.j1 kj3 l0 a1 a1 a2 (y386.set (0 : Int).toNat true)) else (none))) else (none)) else (none))) = some (r1, r2) := by rw [if_pos rfl] at H; exact H
          clear H
          have H := H1
          clear H1
          by_cases c11 : a2 = 0
          · rw [if_pos c11] at H
            exact absurd H (by simp)
          · rw [if_neg c11] at H
            have c11b0 : (a2 == 0) = false := beq_eq_false_iff_ne.mpr c11
            have c11b1 : (a2 != 0) = true := bne_iff_ne.mpr c11
            (first | rw [c11b0] | (simp only [i64_w, i32_w]; rw [c11b0]) | skip)
            obtain ⟨ji12, hji12⟩ : ∃ j_ : Int, (wrap64 ((4 : Int) / a2)) = j_ := ⟨_, rfl⟩
            replace H : (if 0 ≤ (ji12) then (if (ji12 : Int).toNat ≤ 281474976710656 then ((some (List.replicate (ji12 : Int).toNat false : List Bool)).bind fun y386 => (if 0 < (y386.length : Int) then (spec_AddSlab.j1 kj3 l0 a1 a1 a2 (y386.set (0 : Int).toNat true)) else (none))) else (none)) else (none)) = some (r1, r2) := by first | (rw [hji12] at H; exact H) | (simp only [hji12] at H ⊢; exact H)
            have hji12w : (IntKind.i64.wrap ((4 : Int) / a2)) = ji12 := (i64_w _).trans hji12
            have hji12t : (wrap64 (Int.tdiv 4 a2)) = ji12 := by rw [Int.tdiv_eq_ediv_of_nonneg (by decide)]; exact hji12
            by_cases c13 : 0 ≤ (ji12)
            · rw [if_pos c13] at H
              have c13b0 := eq_true c13
              have c13b1 : decide (0 ≤ (ji12)) = true := decide_eq_true c13
              clear c13
              by_cases c14 : (ji12 : Int).toNat ≤ 281474976710656
              · rw [if_pos c14] at H
                have c14b0 := eq_true c14
                have c14b1 : decide ((ji12 : Int).toNat ≤ 281474976710656) = true := decide_eq_true c14
                clear c14
                obtain ⟨y386, hy386⟩ : ∃ y_ : List Bool, y_ = (List.replicate (ji12 : Int).toNat false) := ⟨_, rfl⟩
                replace H : (if 0 < (y386.length : Int) then (spec_AddSlab.j1 kj3 l0 a1 a1 a2 (y386.set (0 : Int).toNat true)) else (none)) = some (r1, r2) := by first | (rw [hy386]; with_reducible exact H) | (have H2_ := (Option.bind_some _ _).symm.trans H; rw [hy386]; with_reducible exact H2_) | (have H2_ := (Option.bind_some _ _).symm.trans H; with_reducible exact H2_) | with_reducible exact H | (rw [hy386]; exact H) | exact H
                have Ny386 := Aside0.mk hy386
                clear hy386
                by_cases c15 : 0 < (y386.length : Int)
                · rw [if_pos c15] at H
                  have c15b0 : decide (0 < (y386.length : Int)) = true := decide_eq_true c15
                  have c15b1 : decide (0 < y386.length) = true := decide_eq_true (by omega)
                  clear c15
                  obtain ⟨y389, hy389⟩ : ∃ y_ : List Bool, y_ = (y386.set (0 : Int).toNat true) := ⟨_, rfl⟩
                  replace H : (spec_AddSlab.j1 kj3 l0 a1 a1 a2 y389) = some (r1, r2) := by first | (rw [hy389]; with_reducible exact H) | (have H2_ := (Option.bind_some _ _).symm.trans H; rw [hy389]; with_reducible exact H2_) | (have H2_ := (Option.bind_some _ _).symm.trans H; with_reducible exact H2_) | with_reducible exact H | (rw [hy389]; exact H) | exact H
                  have Ny389 := Aside0.mk hy389
                  clear hy389
                  have H' := Aside0.mk H
                  clear H
                  go_wp2_with (first | ((with_reducible refine gate_dst (N := 28) rfl ?_); refine Kd.R_make Kd.bool _ 4 rfl (N := 28) rfl 43 _ _ rfl ji12 (by first | rfl | exact congrArg (Value.int .i64) hji12t) (by first | rfl | exact congrArg (Value.int .i64) hji12t) Try.underlying43 (.bool false) 1 info4 rfl (by decide) (by omega) false (ok := fun _ => True) (okp := fun _ => True) rfl (fun _ hk => hk) trivial (of_decide_eq_true (by first | (with_reducible assumption) | assumption)) (Nat.le_trans (Nat.mul_le_mul_right _ (of_decide_eq_true (by first | (with_reducible assumption) | assumption) : ji12.toNat ≤ 281474976710656)) (by omega)) (Below.refl _ _) (Nat.le_refl _) ?_; intro v387 w17 ho18 hb hg_ hnew_; clear hg_ hnew_; (first | rw [← Ny386.out] at ho18 | (simp only [Int.reduceToNat] at ho18; rw [← Ny386.out] at ho18)); have n0_ := Aside0.mk (Kd.R_lower (Kd.R_newM (M := fun k_ => (w.heap.size ≤ k_)) ho18 (below_size (by repeat (first | (with_reducible first | exact HB.out | apply below_alloc | apply pw_below_drewN | apply below_drew1 | refine below_set ?_ GE385.out) | exact HB.out))) (fun k_ h_ => h_)) (below_size (by repeat (first | (with_reducible first | exact HB.out | apply below_alloc | apply pw_below_drewN | apply below_drew1 | refine below_set ?_ GE385.out) | exact HB.out)))); have n1_ := Aside0.mk (blk_below (g := gb385) (o := .cells #[.int .i64 a1, .int .i64 a2, .slice none 0 0] 47 (0, 0)) (by (with_reducible repeat (first | refine blk_drewN ?_ _ | refine blk_drew ?_ | refine blk_alloc ?_ _)); exact BK385.out) hb); have n2_ := Aside0.mk (below_step (by repeat (first | (with_reducible first | exact HB.out | apply below_alloc | apply pw_below_drewN | apply below_drew1 | refine below_set ?_ GE385.out) | exact HB.out)) hb); clear BK385; clear HB; have HO388 := n0_; have BK385 := n1_; have HB := n2_; clear n0_ n1_ n2_; clear hb ho18; obtain ⟨Ao19, co19, eo19⟩ := Kd.R_slice HO388.out; subst eo19; have hcz20_0 : w17.cell? ⟨gb385, 0, none⟩ = some (.int .i64 a1) := (blk_cell BK385.out 0).trans rfl; have hcz20_1 : w17.cell? ⟨gb385, 1, none⟩ = some (.int .i64 a2) := (blk_cell BK385.out 1).trans rfl; have hcz20_2 : w17.cell? ⟨gb385, 2, none⟩ = some (.slice none 0 0) := (blk_cell BK385.out 2).trans rfl; have hfz20_0 := blk_frozen BK385.out 0; have hfz20_1 := blk_frozen BK385.out 1; have hfz20_2 := blk_frozen BK385.out 2) | ((with_reducible refine gate_store (t := 43) (p := 29) rfl ?_); refine store_event (t := 43) (p := 29) (v := ?vo_w21) (w1 := (w17.setCell ⟨gb385, 2, none⟩ (.slice Ao19 y386.length co19))) ?hg ?ho ?hn ?hr ?_; (case ho => rfl); (case hg => rfl); (case hn => rfl); (case hr => first | (go_simp; done) | (go_simp; rfl) | (obtain ⟨A_, c_, e_⟩ := Kd.R_slice HO388.out; rw [e_]; first | (go_simp; done) | (go_simp; rfl)) | (obtain ⟨A_, c_, e_⟩ := Kd.S_slice HO388.out; rw [e_]; first | (go_simp; done) | (go_simp; rfl))); intro w21 hw; have n0_ : Aside0 (Kd.R Kd.bool 4 w21 w.heap.size (fun k_ => (w.heap.size ≤ k_)) (.slice Ao19 y386.length co19) y386) := ⟨(by rw [hw]; exact (by (with_reducible repeat (first | apply Kd.R_alloc | apply Kd.R_drewN | apply Kd.R_drew)); exact Kd.R_mono (Kd.R_far (p := ⟨gb385, 2, none⟩) (Kd.R_types HO388.out BK385.out (by decide)) (fun _ hk => hk.2) (.slice Ao19 y386.length co19)) (fun _ hk => hk.1.1)))⟩; have n1_ : Aside0 (w21.heap[gb385]? = some (.cells #[.int .i64 a1, .int .i64 a2, .slice Ao19 y386.length co19] 47 (0, 0))) := ⟨(by rw [hw]; exact (by (with_reducible repeat (first | refine blk_drewN ?_ _ | refine blk_drew ?_ | refine blk_alloc ?_ _)); refine blk_put (cs := #[.int .i64 a1, .int .i64 a2, .slice none 0 0]) ?_ 2 _ rfl; (with_reducible repeat (first | refine blk_drewN ?_ _ | refine blk_drew ?_ | refine blk_alloc ?_ _)); exact BK385.out))⟩; have n2_ : Aside0 (Below w.heap.size w w21) := ⟨(by rw [hw]; exact (by repeat (first | (with_reducible first | exact HB.out | apply below_alloc | apply pw_below_drewN | apply below_drew1 | refine below_set ?_ GE385.out) | exact HB.out)))⟩; clear hw; clear HO388; clear BK385; clear HB; have HO388 := n0_; have BK385 := n1_; have HB := n2_; clear n0_ n1_ n2_; have hcz22_0 : w21.cell? ⟨gb385, 0, none⟩ = some (.int .i64 a1) := (blk_cell BK385.out 0).trans rfl; have hcz22_1 : w21.cell? ⟨gb385, 1, none⟩ = some (.int .i64 a2) := (blk_cell BK385.out 1).trans rfl; have hcz22_2 : w21.cell? ⟨gb385, 2, none⟩ = some (.slice Ao19 y386.length co19) := (blk_cell BK385.out 2).trans rfl; have hfz22_0 := blk_frozen BK385.out 0; have hfz22_1 := blk_frozen BK385.out 1; have hfz22_2 := blk_frozen BK385.out 2; have p16 : 0 ≤ (0 : Int) := (by omega); have q16 : (0 : Int) < ((y386.length : Int) : Int) := of_decide_eq_true (by first | (with_reducible assumption) | assumption); have qi16 : (0 < y386.length) = True := eq_true (by omega); obtain ⟨go16, co16, eo16, gb16, gl16, cl16, HG16⟩ := Kd.R_form HO388.out (by omega); (first | cases eo16 | (injection eo16 with ea_ en_ ec_; (first | subst ea_ | (injection ea_ with ea_; subst ea_)); subst ec_; clear en_)); have GB16 := Aside0.mk gb16; have GG16 := Aside0.mk HG16; clear gb16 gl16 HG16; obtain ⟨hx16_0, hf16_0⟩ := Kd.R_celln false HO388.out (0 : Int) p16 q16; (try rw [show ((0 : Int)).toNat = 0 from rfl] at hx16_0); (try simp only [Nat.reduceMul, Nat.zero_mul, Nat.zero_add, Nat.reduceAdd] at hx16_0); (try rw [show ((0 : Int)).toNat = 0 from rfl] at hf16_0); (try simp only [Nat.reduceMul, Nat.zero_mul, Nat.zero_add, Nat.reduceAdd] at hf16_0); replace p16 := eq_true p16; replace q16 := eq_true q16; obtain ⟨hy23_, hz23_⟩ := Kd.R_celln false HO388.out (0 : Int) (by omega) (of_decide_eq_true (by first | (with_reducible assumption) | assumption)); (try simp only [Int.reduceToNat, Int.toNat_zero, Int.toNat_ofNat, Nat.reduceMul, Nat.zero_mul, Nat.zero_add] at hy23_ hz23_); (try rw [show ((0 : Int)).toNat = 0 from rfl] at hy23_); (try rw [show ((0 : Int)).toNat = 0 from rfl] at hz23_); have HP23 := Kd.R_putg HO388.out (0 : Int) true) | ((with_reducible refine gate_store (t := 4) (p := 32) rfl ?_); refine store_event (t := 4) (p := 32) (v := ?vo_w24) (w1 := (w21.setCell ⟨go16, (0 : Int).toNat, none⟩ (.bool true))) ?hg ?ho ?hn ?hr ?_; (case ho => rfl); (case hg => rfl); (case hn => rfl); (case hr => first | (go_simp; done) | (go_simp; rfl) | (obtain ⟨A_, c_, e_⟩ := Kd.R_slice HO388.out; rw [e_]; first | (go_simp; done) | (go_simp; rfl)) | (obtain ⟨A_, c_, e_⟩ := Kd.S_slice HO388.out; rw [e_]; first | (go_simp; done) | (go_simp; rfl))); intro w24 hw; have hg : w21.grownBy w24 (some go16) := (by rw [hw]; exact HP23.2); have hp_ : Kd.R Kd.bool 4 w24 w.heap.size (fun k_ => (w.heap.size ≤ k_)) (.slice (some ⟨go16, 0, none⟩) y386.length co19) y389 := (by rw [hw, Ny389.out]; exact HP23.1); clear HP23; have n0_ := Aside0.mk (blk_grown (g := gb385) (o := .cells #[.int .i64 a1, .int .i64 a2, .slice (some ⟨go16, 0, none⟩) y386.length co19] 47 (0, 0)) (by (with_reducible repeat (first | refine blk_drewN ?_ _ | refine blk_drew ?_ | refine blk_alloc ?_ _)); exact BK385.out) hg (Kd.R_ne HO388.out BK385.out (by decide))); have n1_ := Aside0.mk (hp_); have n2_ := Aside0.mk ((by rw [hw]; exact below_set (HB.out) GB16.out : Below w.heap.size w w24)); clear BK385; clear HO388; clear HB; have BK385 := n0_; have HO388 := n1_; have HB := n2_; clear n0_ n1_ n2_; clear hg hw hp_))
                  go_meet
                  case rel => exact ⟨_, (y389), (.slice (some ⟨go16, 0, none⟩) y386.length co19), H', ⟨by have := HJ3.out; first | omega | exact Nat.le_refl _⟩, ⟨by (with_reducible repeat (first | apply Kd.R_alloc | apply Kd.R_drewN | apply Kd.R_drew)); exact HO388.out⟩, ⟨by (with_reducible repeat (first | refine blk_drewN ?_ _ | refine blk_drew ?_ | refine blk_alloc ?_ _)); exact BK385.out⟩, ⟨by repeat (first | (with_reducible first | exact HB.out | apply below_alloc | apply pw_below_drewN | apply below_drew1 | refine below_set ?_ GE385.out) | exact HB.out)⟩⟩
                · rw [if_neg c15] at H
                  exact absurd H (by simp)
              · rw [if_neg c14] at H
                exact absurd H (by simp)
            · rw [if_neg c13] at H
              exact absurd H (by simp)
        · replace c10 := Bool.eq_false_iff.mpr c10
          subst c10
          have H1 : (spec_AddSlab.j1 kj3 l0 a1 a1 a2 ([] : List Bool)) = some (r1, r2) := by rw [if_neg (show ¬ (false = true) by decide)] at H; exact H
          clear H
          have H := H1
          clear H1
          have H' := Aside0.mk H
          clear H
          go_wp2
          go_meet
          case rel => exact ⟨_, (([] : List Bool)), (.slice none 0 0), H', ⟨by have := HJ3.out; first | omega | exact Nat.le_refl _⟩, ⟨by first | exact Kd.R_nil _ _ _ _ _ | exact Kd.N_nil _ _ _ _ _ | exact Kd.V_nil _ _ _ _ _ | exact Kd.Q_nil _ _ _ _ _ | exact Kd.S_nil _ _ _ _ _⟩, ⟨by (with_reducible repeat (first | refine blk_drewN ?_ _ | refine blk_drew ?_ | refine blk_alloc ?_ _)); exact BK385.out⟩, ⟨by repeat (first | (with_reducible first | exact HB.out | apply below_alloc | apply pw_below_drewN | apply below_drew1 | refine below_set ?_ GE385.out) | exact HB.out)⟩⟩
      case rest =>
        clear HC9
        try clear c1
        try clear p1
        try clear q1
        try clear hx1
        try clear qi1
        try clear c2
        try clear p2
        try clear p6
        try clear c7
        try clear c7b0
        try clear c7b1
        try clear c8
        try clear c8b0
        try clear c8b1
        try clear c10
        try clear c11
        try clear c11b0
        try clear c11b1
        try clear c13
        try clear c13b0
        try clear c13b1
        try clear c14
        try clear c14b0
        try clear c14b1
        try clear c15
        try clear c15b0
        try clear c15b1
        try clear p16
        try clear q16
        try clear hx16
        try clear qi16
        try clear hf16
        try clear c20
        try clear hcz20_0
        try clear hcz20_1
        try clear hcz20_2
        try clear hcz22_0
        try clear hcz22_1
        try clear hcz22_2
        try clear hcz6_0
        try clear hcz6_1
        try clear hcz6_2
        try clear hfz20_0
        try clear hfz20_1
        try clear hfz20_2
        try clear hfz22_0
        try clear hfz22_1
        try clear hfz22_2
        try clear hfz6_0
        try clear hfz6_1
        try clear hfz6_2
        try clear hx16_0
        try clear p16
        try clear p2
        try clear q16
        obtain ⟨kq, x386002_8, u386002, HA, HJ8, HO_386002, BK385, HB⟩ := hcut
        cases kq with
        | zero => exact absurd HA.out (by simp [spec_AddSlab.j1])
        | succ kj8 =>
          have H := HA.out
          clear HA
          simp only [spec_AddSlab.j1] at H
          have HC25 := Aside0.mk H
          clear H
          go_upto_region 5 with (fail)
          go_cut [40] (fun v40 wc => ∃ (kq : Nat) (x40_24 : Bool), v40 = .bool x40_24 ∧ Aside0 (spec_AddSlab.j2 kq l0 a1 x40_24 a1 a2 x386002_8 = some (r1, r2)) ∧ Aside0 (kq ≤ kj8) ∧ Aside0 (Kd.R Kd.bool 4 wc w.heap.size (fun k_ => (w.heap.size ≤ k_)) u386002 x386002_8) ∧ Aside0 (wc.heap[gb385]? = some (.cells #[.int .i64 a1, .int .i64 a2, u386002] 47 (0, 0))) ∧ Aside0 (Below w.heap.size w wc))
          case first =>
            have H := HC25.out
            clear HC25
            replace H := Option.bind_eq_some_iff.mp H
            obtain ⟨t390, A260, H⟩ := H
            replace H : (if t390 = true then ((spec_l04Slab.f kj8 a1 a2 x386002_8).bind fun t391 => (spec_AddSlab.j2 kj8 l0 a1 (!t391) a1 a2 x386002_8)) else (spec_AddSlab.j2 kj8 l0 a1 true a1 a2 x386002_8)) = some (r1, r2) := H
            have A26 := Aside0.mk A260
            clear A260
            by_cases c27 : t390 = true
            · subst c27
              have H1 : ((spec_l04Slab.f kj8 a1 a2 x386002_8).bind fun t391 => (spec_AddSlab.j2 kj8 l0 a1 (!t391) a1 a2 x386002_8)) = some (r1, r2) := by rw [if_pos rfl] at H; exact H
              clear H
              have H := H1
              clear H1
              replace H := Option.bind_eq_some_iff.mp H
              obtain ⟨t391, A280, H⟩ := H
              replace H : (spec_AddSlab.j2 kj8 l0 a1 (!t391) a1 a2 x386002_8) = some (r1, r2) := H
              have A28 := Aside0.mk A280
              clear A280
              have H' := Aside0.mk H
              clear H
              go_wp2_with (first | ((with_reducible refine gate_callee (f := 15) rfl ?_); refine goesL_ (some 34) rfl rfl Try.func15 (by kernel_rfl) rfl #[.slice A0 l0.length c0] rfl (by (try simp only [List.map_toArray, List.map_cons, List.map_nil]); first | done | rfl | (simp only [List.length_drop, List.length_take]; rfl)) ?_; (with_reducible refine (spec_SlabsOk.calls kj8 _ _ l0 true _ ?side1 ?side2 A26.out).mono ?_); (case side1 => repeat (first | exact (Kd.C_below HR0.out HB.out) | (with_reducible refine Kd.C_alloc ?_ _) | (with_reducible refine Kd.C_drewN ?_ _) | (with_reducible refine Kd.C_drew ?_))); (case side2 => exact HC0.out); rintro e w29 ⟨rfl, hb⟩; refine ⟨_, rfl, ?_⟩; have n0_ := Aside0.mk (Kd.R_below (by (with_reducible repeat (first | apply Kd.R_alloc | apply Kd.R_drewN | apply Kd.R_drew)); exact HO_386002.out) hb); have n1_ := Aside0.mk (blk_below (g := gb385) (o := .cells #[.int .i64 a1, .int .i64 a2, u386002] 47 (0, 0)) (by (with_reducible repeat (first | refine blk_drewN ?_ _ | refine blk_drew ?_ | refine blk_alloc ?_ _)); exact BK385.out) hb); have n2_ := Aside0.mk (below_step (by repeat (first | (with_reducible first | exact HB.out | apply below_alloc | apply pw_below_drewN | apply below_drew1 | refine below_set ?_ GE385.out) | exact HB.out)) hb); clear HO_386002; clear BK385; clear HB; have HO_386002 := n0_; have BK385 := n1_; have HB := n2_; clear n0_ n1_ n2_; (try clear hb); (try clear hb2); (try clear hk); (try clear hi); have hcz30_0 : w29.cell? ⟨gb385, 0, none⟩ = some (.int .i64 a1) := (blk_cell BK385.out 0).trans rfl; have hcz30_1 : w29.cell? ⟨gb385, 1, none⟩ = some (.int .i64 a2) := (blk_cell BK385.out 1).trans rfl; have hcz30_2 : w29.cell? ⟨gb385, 2, none⟩ = some (u386002) := (blk_cell BK385.out 2).trans rfl; have hfz30_0 := blk_frozen BK385.out 0; have hfz30_1 := blk_frozen BK385.out 1; have hfz30_2 := blk_frozen BK385.out 2; obtain ⟨Ao31, co31, eo31⟩ := Kd.R_slice HO_386002.out; subst eo31) | (go_at_call 24; (with_reducible refine (spec_l04Slab.calls kj8 a1 a2 _ _ x386002_8 t391 _ ?side1 ?side2 A28.out).mono ?_); (case side1 => repeat (first | exact (Kd.R_reads' HO_386002.out).2.2 | (with_reducible refine Kd.C_alloc ?_ _) | (with_reducible refine Kd.C_drewN ?_ _) | (with_reducible refine Kd.C_drew ?_))); (case side2 => exact (Kd.R_reads' HO_386002.out).2.1); rintro e w32 ⟨rfl, hb⟩; have n0_ := Aside0.mk (Kd.R_below (by (with_reducible repeat (first | apply Kd.R_alloc | apply Kd.R_drewN | apply Kd.R_drew)); exact HO_386002.out) hb); have n1_ := Aside0.mk (blk_below (g := gb385) (o := .cells #[.int .i64 a1, .int .i64 a2, .slice Ao31 x386002_8.length co31] 47 (0, 0)) (by (with_reducible repeat (first | refine blk_drewN ?_ _ | refine blk_drew ?_ | refine blk_alloc ?_ _)); exact BK385.out) hb); have n2_ := Aside0.mk (below_step (by repeat (first | (with_reducible first | exact HB.out | apply below_alloc | apply pw_below_drewN | apply below_drew1 | refine below_set ?_ GE385.out) | exact HB.out)) hb); clear HO_386002; clear BK385; clear HB; have HO_386002 := n0_; have BK385 := n1_; have HB := n2_; clear n0_ n1_ n2_; (try clear hb); (try clear hb2); (try clear hk); (try clear hi)))
              go_meet
              case rel => exact ⟨_, (!t391), (by first | rfl | (simp; done) | (simp [*]; done)), H', ⟨by have := HJ3.out; have := HJ8.out; first | omega | exact Nat.le_refl _⟩, ⟨by (with_reducible repeat (first | apply Kd.R_alloc | apply Kd.R_drewN | apply Kd.R_drew)); exact HO_386002.out⟩, ⟨by (with_reducible repeat (first | refine blk_drewN ?_ _ | refine blk_drew ?_ | refine blk_alloc ?_ _)); exact BK385.out⟩, ⟨by repeat (first | (with_reducible first | exact HB.out | apply below_alloc | apply pw_below_drewN | apply below_drew1 | refine below_set ?_ GE385.out) | exact HB.out)⟩⟩
            · replace c27 := Bool.eq_false_iff.mpr c27
              subst c27
              have H1 : (spec_AddSlab.j2 kj8 l0 a1 true a1 a2 x386002_8) = some (r1, r2) := by rw [if_neg (show ¬ (false = true) by decide)] at H; exact H
              clear H
              have H := H1
              clear H1
              have H' := Aside0.mk H
              clear H
              go_wp2_with (first | ((with_reducible refine gate_callee (f := 15) rfl ?_); refine goesL_ (some 34) rfl rfl Try.func15 (by kernel_rfl) rfl #[.slice A0 l0.length c0] rfl (by (try simp only [List.map_toArray, List.map_cons, List.map_nil]); first | done | rfl | (simp only [List.length_drop, List.length_take]; rfl)) ?_; (with_reducible refine (spec_SlabsOk.calls kj8 _ _ l0 false _ ?side1 ?side2 A26.out).mono ?_); (case side1 => repeat (first | exact (Kd.C_below HR0.out HB.out) | (with_reducible refine Kd.C_alloc ?_ _) | (with_reducible refine Kd.C_drewN ?_ _) | (with_reducible refine Kd.C_drew ?_))); (case side2 => exact HC0.out); rintro e w33 ⟨rfl, hb⟩; refine ⟨_, rfl, ?_⟩; have n0_ := Aside0.mk (Kd.R_below (by (with_reducible repeat (first | apply Kd.R_alloc | apply Kd.R_drewN | apply Kd.R_drew)); exact HO_386002.out) hb); have n1_ := Aside0.mk (blk_below (g := gb385) (o := .cells #[.int .i64 a1, .int .i64 a2, u386002] 47 (0, 0)) (by (with_reducible repeat (first | refine blk_drewN ?_ _ | refine blk_drew ?_ | refine blk_alloc ?_ _)); exact BK385.out) hb); have n2_ := Aside0.mk (below_step (by repeat (first | (with_reducible first | exact HB.out | apply below_alloc | apply pw_below_drewN | apply below_drew1 | refine below_set ?_ GE385.out) | exact HB.out)) hb); clear HO_386002; clear BK385; clear HB; have HO_386002 := n0_; have BK385 := n1_; have HB := n2_; clear n0_ n1_ n2_; (try clear hb); (try clear hb2); (try clear hk); (try clear hi)))
              go_meet
              case rel => exact ⟨_, (true), (by first | rfl | (simp; done) | (simp [*]; done)), H', ⟨by have := HJ3.out; have := HJ8.out; first | omega | exact Nat.le_refl _⟩, ⟨by (with_reducible repeat (first | apply Kd.R_alloc | apply Kd.R_drewN | apply Kd.R_drew)); exact HO_386002.out⟩, ⟨by (with_reducible repeat (first | refine blk_drewN ?_ _ | refine blk_drew ?_ | refine blk_alloc ?_ _)); exact BK385.out⟩, ⟨by repeat (first | (with_reducible first | exact HB.out | apply below_alloc | apply pw_below_drewN | apply below_drew1 | refine below_set ?_ GE385.out) | exact HB.out)⟩⟩
          case rest =>
            clear HC25
            try clear c1
            try clear p1
            try clear q1
            try clear hx1
            try clear qi1
            try clear c2
            try clear p2
            try clear p6
            try clear c7
            try clear c7b0
            try clear c7b1
            try clear c8
            try clear c8b0
            try clear c8b1
            try clear c10
            try clear c11
            try clear c11b0
            try clear c11b1
            try clear c13
            try clear c13b0
            try clear c13b1
            try clear c14
            try clear c14b0
            try clear c14b1
            try clear c15
            try clear c15b0
            try clear c15b1
            try clear p16
            try clear q16
            try clear hx16
            try clear qi16
            try clear hf16
            try clear c20
            try clear c27
            try clear hcz20_0
            try clear hcz20_1
            try clear hcz20_2
            try clear hcz22_0
            try clear hcz22_1
            try clear hcz22_2
            try clear hcz30_0
            try clear hcz30_1
            try clear hcz30_2
            try clear hcz6_0
            try clear hcz6_1
            try clear hcz6_2
            try clear hfz20_0
            try clear hfz20_1
            try clear hfz20_2
            try clear hfz22_0
            try clear hfz22_1
            try clear hfz22_2
            try clear hfz30_0
            try clear hfz30_1
            try clear hfz30_2
            try clear hfz6_0
            try clear hfz6_1
            try clear hfz6_2
            try clear hx16_0
            try clear p1
            try clear p16
            try clear p2
            try clear p6
            try clear q1
            try clear q16
            obtain ⟨kq, x40_24, rfl, HA, HJ24, HO_386002, BK385, HB⟩ := hcut
            cases kq with
            | zero => exact absurd HA.out (by simp [spec_AddSlab.j2])
            | succ kj24 =>
              have H := HA.out
              clear HA
              simp only [spec_AddSlab.j2] at H
              by_cases c34 : x40_24 = true
              · subst c34
                have H1 : (some ((([] : List (S47))), false)) = some (r1, r2) := by rw [if_pos rfl] at H; exact H
                clear H
                have H := H1
                clear H1
                obtain ⟨y392, hy392⟩ : ∃ y_ : List (S47), y_ = (([] : List (S47))) := ⟨_, rfl⟩
                replace H : (some (y392, false)) = some (r1, r2) := by first | (rw [hy392]; with_reducible exact H) | (have H2_ := (Option.bind_some _ _).symm.trans H; rw [hy392]; with_reducible exact H2_) | (have H2_ := (Option.bind_some _ _).symm.trans H; with_reducible exact H2_) | with_reducible exact H | (rw [hy392]; exact H) | exact H
                have Ny392 := Aside0.mk hy392
                clear hy392
                simp only [Option.some.injEq, Prod.mk.injEq] at H
                obtain ⟨rfl, rfl⟩ := H
                go_wp2_with (first | ((with_reducible refine gate_dst (N := 41) rfl ?_); refine Kd.N_lit k47 _ 47 ?hg (N' := 41) ?hd (xs := ([] : List (S47))) (inner := []) (ok := (fun k_ => (w.heap.size ≤ k_) ∧ some k_ ≠ (u386002 : Value).ownBlock ∧ k_ ≠ gb385)) (okp := (fun k_ => (w.heap.size ≤ k_) ∧ some k_ ≠ (u386002 : Value).ownBlock ∧ k_ ≠ gb385)) ?hr ?hp (fun _ hk => hk) ((show ∀ k_, wc.heap.size ≤ k_ → (fun k_ => (w.heap.size ≤ k_) ∧ some k_ ≠ (u386002 : Value).ownBlock ∧ k_ ≠ gb385) k_ from fun k_ hk => ⟨(Nat.le_trans (below_size (by repeat (first | (with_reducible first | exact HB.out | apply below_alloc | apply pw_below_drewN | apply below_drew1 | refine below_set ?_ GE385.out) | exact HB.out))) hk), Kd.fresh' (Kd.R_lt (by (with_reducible repeat (first | apply Kd.R_alloc | apply Kd.R_drewN | apply Kd.R_drew)); exact HO_386002.out)) k_ hk, Kd.freshB (g := gb385) (o := .cells #[.int .i64 a1, .int .i64 a2, u386002] 47 (0, 0)) (by (with_reducible repeat (first | refine blk_drewN ?_ _ | refine blk_drew ?_ | refine blk_alloc ?_ _)); exact BK385.out) k_ hk⟩) _ (Nat.le_refl _)) (Below.refl _ _) (Nat.le_refl _) (by simp) ?_; (case hd => rfl); (case hg => rfl); (case hr => first | (go_simp; done) | (go_simp; rfl)); (case hp => exact (Reps.none _ _)); intro v393 w35 ho36 hb hg_ hnew_; clear hg_ hnew_; (first | rw [← Ny392.out] at ho36 | (simp only [Int.reduceToNat] at ho36; rw [← Ny392.out] at ho36)); have n0_ := Aside0.mk (Kd.R_below (by (with_reducible repeat (first | apply Kd.R_alloc | apply Kd.R_drewN | apply Kd.R_drew)); exact HO_386002.out) hb); have n1_ := Aside0.mk (Kd.N_lower ho36 (below_size (by repeat (first | (with_reducible first | exact HB.out | apply below_alloc | apply pw_below_drewN | apply below_drew1 | refine below_set ?_ GE385.out) | exact HB.out)))); have n2_ := Aside0.mk (blk_below (g := gb385) (o := .cells #[.int .i64 a1, .int .i64 a2, u386002] 47 (0, 0)) (by (with_reducible repeat (first | refine blk_drewN ?_ _ | refine blk_drew ?_ | refine blk_alloc ?_ _)); exact BK385.out) hb); have n3_ := Aside0.mk (below_step (by repeat (first | (with_reducible first | exact HB.out | apply below_alloc | apply pw_below_drewN | apply below_drew1 | refine below_set ?_ GE385.out) | exact HB.out)) hb); clear HO_386002; clear BK385; clear HB; have HO_386002 := n0_; have HO394 := n1_; have BK385 := n2_; have HB := n3_; clear n0_ n1_ n2_ n3_; clear hb ho36))
                go_ret2
                exact ⟨_, by first | rfl | (simp [errW_none, errW_some] <;> rfl) | (simp [*, errW_none, errW_some] <;> rfl), by (with_reducible repeat (first | apply Kd.N_alloc | apply Kd.N_drewN | apply Kd.N_drew)); exact Kd.N_mono HO394.out (fun _ hk => hk.1), by repeat (first | (with_reducible first | exact HB.out | apply below_alloc | apply pw_below_drewN | apply below_drew1 | refine below_set ?_ GE385.out) | exact HB.out)⟩
              · replace c34 := Bool.eq_false_iff.mpr c34
                subst c34
                have H1 : ((spec_l04Copy.f kj24 l0).bind fun t398 => (spec_AddSlab.l0 kj24 a1 (([] : List (S47))) t398 0 a1 a2 x386002_8)) = some (r1, r2) := by rw [if_neg (show ¬ (false = true) by decide)] at H; exact H
                clear H
                have H := H1
                clear H1
                obtain ⟨y395, hy395⟩ : ∃ y_ : List (S47), y_ = (([] : List (S47))) := ⟨_, rfl⟩
                replace H : ((spec_l04Copy.f kj24 l0).bind fun t398 => (spec_AddSlab.l0 kj24 a1 y395 t398 0 a1 a2 x386002_8)) = some (r1, r2) := by first | (rw [hy395]; with_reducible exact H) | (have H2_ := (Option.bind_some _ _).symm.trans H; rw [hy395]; with_reducible exact H2_) | (have H2_ := (Option.bind_some _ _).symm.trans H; with_reducible exact H2_) | with_reducible exact H | (rw [hy395]; exact H) | exact H
                have Ny395 := Aside0.mk hy395
                clear hy395
                replace H := Option.bind_eq_some_iff.mp H
                obtain ⟨t398, A370, H⟩ := H
                replace H : (spec_AddSlab.l0 kj24 a1 y395 t398 0 a1 a2 x386002_8) = some (r1, r2) := H
                have A37 := Aside0.mk A370
                clear A370
                have H' := Aside0.mk H
                clear H
                go_wp2_with (first | ((with_reducible refine gate_dst (N := 42) rfl ?_); refine Kd.N_lit k47 _ 47 ?hg (N' := 42) ?hd (xs := ([] : List (S47))) (inner := []) (ok := (fun k_ => (w.heap.size ≤ k_) ∧ some k_ ≠ (u386002 : Value).ownBlock ∧ k_ ≠ gb385)) (okp := (fun k_ => (w.heap.size ≤ k_) ∧ some k_ ≠ (u386002 : Value).ownBlock ∧ k_ ≠ gb385)) ?hr ?hp (fun _ hk => hk) ((show ∀ k_, wc.heap.size ≤ k_ → (fun k_ => (w.heap.size ≤ k_) ∧ some k_ ≠ (u386002 : Value).ownBlock ∧ k_ ≠ gb385) k_ from fun k_ hk => ⟨(Nat.le_trans (below_size (by repeat (first | (with_reducible first | exact HB.out | apply below_alloc | apply pw_below_drewN | apply below_drew1 | refine below_set ?_ GE385.out) | exact HB.out))) hk), Kd.fresh' (Kd.R_lt (by (with_reducible repeat (first | apply Kd.R_alloc | apply Kd.R_drewN | apply Kd.R_drew)); exact HO_386002.out)) k_ hk, Kd.freshB (g := gb385) (o := .cells #[.int .i64 a1, .int .i64 a2, u386002] 47 (0, 0)) (by (with_reducible repeat (first | refine blk_drewN ?_ _ | refine blk_drew ?_ | refine blk_alloc ?_ _)); exact BK385.out) k_ hk⟩) _ (Nat.le_refl _)) (Below.refl _ _) (Nat.le_refl _) (by simp) ?_; (case hd => rfl); (case hg => rfl); (case hr => first | (go_simp; done) | (go_simp; rfl)); (case hp => exact (Reps.none _ _)); intro v396 w38 ho39 hb hg_ hnew_; clear hg_ hnew_; (first | rw [← Ny395.out] at ho39 | (simp only [Int.reduceToNat] at ho39; rw [← Ny395.out] at ho39)); have n0_ := Aside0.mk (Kd.R_below (by (with_reducible repeat (first | apply Kd.R_alloc | apply Kd.R_drewN | apply Kd.R_drew)); exact HO_386002.out) hb); have n1_ := Aside0.mk (Kd.N_lower ho39 (below_size (by repeat (first | (with_reducible first | exact HB.out | apply below_alloc | apply pw_below_drewN | apply below_drew1 | refine below_set ?_ GE385.out) | exact HB.out)))); have n2_ := Aside0.mk (blk_below (g := gb385) (o := .cells #[.int .i64 a1, .int .i64 a2, u386002] 47 (0, 0)) (by (with_reducible repeat (first | refine blk_drewN ?_ _ | refine blk_drew ?_ | refine blk_alloc ?_ _)); exact BK385.out) hb); have n3_ := Aside0.mk (below_step (by repeat (first | (with_reducible first | exact HB.out | apply below_alloc | apply pw_below_drewN | apply below_drew1 | refine below_set ?_ GE385.out) | exact HB.out)) hb); clear HO_386002; clear BK385; clear HB; have HO_386002 := n0_; have HO397 := n1_; have BK385 := n2_; have HB := n3_; clear n0_ n1_ n2_ n3_; clear hb ho39) | ((with_reducible refine gate_callee (f := 22) rfl ?_); refine goesL_ (some 44) rfl rfl Try.func22 (by kernel_rfl) rfl #[.slice A0 l0.length c0] rfl (by (try simp only [List.map_toArray, List.map_cons, List.map_nil]); first | done | rfl | (simp only [List.length_drop, List.length_take]; rfl)) ?_; (with_reducible refine (spec_l04Copy.calls kj24 _ _ l0 t398 _ ?side1 ?side2 A37.out).mono ?_); (case side1 => repeat (first | exact (Kd.C_below HR0.out HB.out) | (with_reducible refine Kd.C_alloc ?_ _) | (with_reducible refine Kd.C_drewN ?_ _) | (with_reducible refine Kd.C_drew ?_))); (case side2 => exact HC0.out); rintro e w40 ⟨v399, rfl, ho0, hb⟩; refine ⟨_, rfl, ?_⟩; have n0_ := Aside0.mk (Kd.R_below (by (with_reducible repeat (first | apply Kd.R_alloc | apply Kd.R_drewN | apply Kd.R_drew)); exact HO_386002.out) hb); have n1_ := Aside0.mk (Kd.N_elder' (by (with_reducible repeat (first | apply Kd.N_alloc | apply Kd.N_drewN | apply Kd.N_drew)); exact HO397.out) (Kd.S_base ho0) hb); have n2_ := Aside0.mk (Kd.N_lower (Kd.N_mono (ok' := fun k_ => (w.heap.size ≤ k_) ∧ some k_ ≠ (u386002 : Value).ownBlock ∧ some k_ ≠ (v396 : Value).ownBlock ∧ k_ ≠ gb385) (Kd.S_N (Kd.S_bound ho0)) (fun k_ hk_ => ⟨(Nat.le_trans (below_size (by repeat (first | (with_reducible first | exact HB.out | apply below_alloc | apply pw_below_drewN | apply below_drew1 | refine below_set ?_ GE385.out) | exact HB.out))) hk_.2.1), (Kd.fresh' (Kd.R_lt (by (with_reducible repeat (first | apply Kd.R_alloc | apply Kd.R_drewN | apply Kd.R_drew)); exact HO_386002.out)) k_ hk_.2.1), (Kd.fresh' (Kd.N_lt (by (with_reducible repeat (first | apply Kd.N_alloc | apply Kd.N_drewN | apply Kd.N_drew)); exact HO397.out)) k_ hk_.2.1), (Kd.freshB (g := gb385) (o := .cells #[.int .i64 a1, .int .i64 a2, u386002] 47 (0, 0)) (by (with_reducible repeat (first | refine blk_drewN ?_ _ | refine blk_drew ?_ | refine blk_alloc ?_ _)); exact BK385.out) k_ hk_.2.1)⟩)) (below_size (by repeat (first | (with_reducible first | exact HB.out | apply below_alloc | apply pw_below_drewN | apply below_drew1 | refine below_set ?_ GE385.out) | exact HB.out)))); have n3_ := Aside0.mk (blk_below (g := gb385) (o := .cells #[.int .i64 a1, .int .i64 a2, u386002] 47 (0, 0)) (by (with_reducible repeat (first | refine blk_drewN ?_ _ | refine blk_drew ?_ | refine blk_alloc ?_ _)); exact BK385.out) hb); have n4_ := Aside0.mk (below_step (by repeat (first | (with_reducible first | exact HB.out | apply below_alloc | apply pw_below_drewN | apply below_drew1 | refine below_set ?_ GE385.out) | exact HB.out)) hb); clear HO_386002; clear HO397; clear BK385; clear HB; have HO_386002 := n0_; have HO397 := n1_; have HO400 := n2_; have BK385 := n3_; have HB := n4_; clear n0_ n1_ n2_ n3_ n4_; (try clear hb); (try clear hb2); (try clear hk); (try clear hi); (try clear ho0)))
                go_loopg [9, 11] kj24 (fun kq v9 v11 w' => ∃ (x9_4 : List (S47)) (x11_4 : Int), v11 = .int .i64 x11_4 ∧ Aside0 (spec_AddSlab.l0 kq a1 x9_4 t398 x11_4 a1 a2 x386002_8 = some (r1, r2)) ∧ Aside0 (kq ≤ kj24) ∧ Aside0 (Kd.N k47 47 w' w.heap.size (fun k_ => (w.heap.size ≤ k_) ∧ some k_ ≠ (v399 : Value).ownBlock ∧ k_ ≠ gb385) v9 x9_4) ∧ Aside0 (Kd.N k47 47 w' w.heap.size (fun k_ => (w.heap.size ≤ k_) ∧ some k_ ≠ (v9 : Value).ownBlock ∧ some k_ ≠ (u386002 : Value).ownBlock ∧ k_ ≠ gb385) v399 t398) ∧ Aside0 (Kd.R Kd.bool 4 w' w.heap.size (fun k_ => (w.heap.size ≤ k_)) u386002 x386002_8) ∧ Aside0 (w'.heap[gb385]? = some (.cells #[.int .i64 a1, .int .i64 a2, u386002] 47 (0, 0))) ∧ Aside0 (Below w.heap.size w w'))
                case atStart => exact ⟨(y395), (0), (by first | rfl | (simp; done) | (simp [*]; done)), H', ⟨Nat.le_refl _⟩, ⟨by (with_reducible repeat (first | apply Kd.N_alloc | apply Kd.N_drewN | apply Kd.N_drew)); exact Kd.N_mono HO397.out (fun _ hk => ⟨hk.1.1, ⟨hk.2, hk.1.2.2⟩⟩)⟩, ⟨by (with_reducible repeat (first | apply Kd.N_alloc | apply Kd.N_drewN | apply Kd.N_drew)); exact Kd.N_mono HO400.out (fun _ hk => ⟨hk.1, ⟨hk.2.2.1, ⟨hk.2.1, hk.2.2.2⟩⟩⟩)⟩, ⟨by (with_reducible repeat (first | apply Kd.R_alloc | apply Kd.R_drewN | apply Kd.R_drew)); exact HO_386002.out⟩, ⟨by (with_reducible repeat (first | refine blk_drewN ?_ _ | refine blk_drew ?_ | refine blk_alloc ?_ _)); exact BK385.out⟩, ⟨by repeat (first | (with_reducible first | exact HB.out | apply below_alloc | apply pw_below_drewN | apply below_drew1 | refine below_set ?_ GE385.out) | exact HB.out)⟩⟩
                case round =>
                  clear H'
                  try clear c1
                  try clear p1
                  try clear q1
                  try clear hx1
                  try clear qi1
                  try clear c2
                  try clear p2
                  try clear c3
                  try clear p6
                  try clear c7
                  try clear c7b0
                  try clear c7b1
                  try clear c8
                  try clear c8b0
                  try clear c8b1
                  try clear c10
                  try clear c11
                  try clear c11b0
                  try clear c11b1
                  try clear c13
                  try clear c13b0
                  try clear c13b1
                  try clear c14
                  try clear c14b0
                  try clear c14b1
                  try clear c15
                  try clear c15b0
                  try clear c15b1
                  try clear p16
                  try clear q16
                  try clear hx16
                  try clear qi16
                  try clear hf16
                  try clear c20
                  try clear c22
                  try clear c27
                  try clear c34
                  try clear hcz20_0
                  try clear hcz20_1
                  try clear hcz20_2
                  try clear hcz22_0
                  try clear hcz22_1
                  try clear hcz22_2
                  try clear hcz30_0
                  try clear hcz30_1
                  try clear hcz30_2
                  try clear hcz6_0
                  try clear hcz6_1
                  try clear hcz6_2
                  try clear hfz20_0
                  try clear hfz20_1
                  try clear hfz20_2
                  try clear hfz22_0
                  try clear hfz22_1
                  try clear hfz22_2
                  try clear hfz30_0
                  try clear hfz30_1
                  try clear hfz30_2
                  try clear hfz6_0
                  try clear hfz6_1
                  try clear hfz6_2
                  try clear hx16_0
                  try clear p1
                  try clear p16
                  try clear p2
                  try clear p6
                  try clear q1
                  try clear q16
                  obtain ⟨x9_4, x11_4, rfl, HA, HK4, HO_9, HO_10, HO_386002, BK385, HB⟩ := hrel
                  cases gk with
                  | zero => exact absurd HA.out (by simp [spec_AddSlab.l0])
                  | succ k4 =>
                    have H := HA.out
                    clear HA
                    simp only [spec_AddSlab.l0] at H
                    by_cases c41 : x11_4 < (t398.length : Int)
                    · rw [if_pos c41] at H
                      have c41b0 : decide (x11_4 < (t398.length : Int)) = true := decide_eq_true c41
                      clear c41
                      by_cases c42 : 0 ≤ x11_4
                      · rw [if_pos c42] at H
                        have c42b0 : decide (0 ≤ x11_4) = true := decide_eq_true c42
                        clear c42
                        by_cases c43 : ((rd_T47 t398 x11_4).f0) = a1
                        · rw [if_pos c43] at H
                          have c43b0 : (((rd_T47 t398 x11_4).f0) == a1) = true := beq_iff_eq.mpr c43
                          have c43b1 : (((rd_T47 t398 x11_4).f0) != a1) = false := bne_eq_false_iff_eq.mpr c43
                          clear c43
                          obtain ⟨y402, hy402⟩ : ∃ y_ : List (S47), y_ = (([] : List (S47))) := ⟨_, rfl⟩
                          replace H : (some (y402, false)) = some (r1, r2) := by first | (rw [hy402]; with_reducible exact H) | (have H2_ := (Option.bind_some _ _).symm.trans H; rw [hy402]; with_reducible exact H2_) | (have H2_ := (Option.bind_some _ _).symm.trans H; with_reducible exact H2_) | with_reducible exact H | (rw [hy402]; exact H) | exact H
                          have Ny402 := Aside0.mk hy402
                          clear hy402
                          simp only [Option.some.injEq, Prod.mk.injEq] at H
                          obtain ⟨rfl, rfl⟩ := H
                          obtain ⟨Ao44, co44, eo44⟩ := Kd.N_slice HO_10.out
                          subst eo44
                          have p401 : 0 ≤ (x11_4 : Int) := of_decide_eq_true (by first | (with_reducible assumption) | assumption)
                          have q401 : x11_4 < (t398.length : Int) := of_decide_eq_true (by first | (with_reducible assumption) | assumption)
                          obtain ⟨ad401, A401_2, c401_2, e401, hx401_0, hx401_1, hx401_2, hl401_2, hi401_2⟩ := at_T47 (Kd.N_reads' HO_10.out).2.2 x11_4 p401 q401
                          cases e401
                          obtain ⟨ce401, hce401, hMe401, hcc401⟩ := Kd.N_get HO_10.out z47 x11_4 p401 (by first | exact q401 | exact of_decide_eq_true (by first | (with_reducible assumption) | assumption) | (have e_ := (Kd.N_reads' HO_10.out).1; omega))
                          obtain ⟨ua401_2, uc401_2, rfl, ul401_2, ge401_2⟩ := k47_openF hMe401
                          have hv401_2 := hcc401 2 _ rfl
                          rw [add_field _ _ 2 (by omega)] at hv401_2
                          replace hv401_2 := Option.some.inj (hv401_2.symm.trans hx401_2)
                          injection hv401_2 with hva_ hvn_ hvc_
                          rw [hva_] at ge401_2
                          rw [hvc_] at ul401_2
                          have HL401_2 := Aside0.mk (show Kd.V Kd.bool 4 _ w.heap.size _ _ ((rd_T47 t398 x11_4).f2) from Kd.V_mk ul401_2 ge401_2)
                          clear hva_ hvn_ hvc_ ge401_2 ul401_2
                          clear hcc401 hce401
                          have HR401_2 := Aside0.mk hi401_2
                          have HC401_2 := Aside0.mk hl401_2
                          clear hi401_2 hl401_2
                          replace p401 := eq_true p401
                          replace q401 := eq_true q401
                          go_wp2_with (first | ((with_reducible refine gate_dst (N := 58) rfl ?_); refine Kd.N_lit k47 _ 47 ?hg (N' := 58) ?hd (xs := ([] : List (S47))) (inner := []) (ok := (fun k_ => (w.heap.size ≤ k_) ∧ some k_ ≠ (u9 : Value).ownBlock ∧ some k_ ≠ (.slice (some ad401) t398.length co44 : Value).ownBlock ∧ some k_ ≠ (u386002 : Value).ownBlock ∧ k_ ≠ gb385)) (okp := (fun k_ => (w.heap.size ≤ k_) ∧ some k_ ≠ (u9 : Value).ownBlock ∧ some k_ ≠ (.slice (some ad401) t398.length co44 : Value).ownBlock ∧ some k_ ≠ (u386002 : Value).ownBlock ∧ k_ ≠ gb385)) ?hr ?hp (fun _ hk => hk) ((show ∀ k_, wr.heap.size ≤ k_ → (fun k_ => (w.heap.size ≤ k_) ∧ some k_ ≠ (u9 : Value).ownBlock ∧ some k_ ≠ (.slice (some ad401) t398.length co44 : Value).ownBlock ∧ some k_ ≠ (u386002 : Value).ownBlock ∧ k_ ≠ gb385) k_ from fun k_ hk => ⟨(Nat.le_trans (below_size (by repeat (first | (with_reducible first | exact HB.out | apply below_alloc | apply pw_below_drewN | apply below_drew1 | refine below_set ?_ GE385.out) | exact HB.out))) hk), Kd.fresh' (Kd.N_lt (by (with_reducible repeat (first | apply Kd.N_alloc | apply Kd.N_drewN | apply Kd.N_drew)); exact HO_9.out)) k_ hk, Kd.fresh' (Kd.N_lt (by (with_reducible repeat (first | apply Kd.N_alloc | apply Kd.N_drewN | apply Kd.N_drew)); exact HO_10.out)) k_ hk, Kd.fresh' (Kd.R_lt (by (with_reducible repeat (first | apply Kd.R_alloc | apply Kd.R_drewN | apply Kd.R_drew)); exact HO_386002.out)) k_ hk, Kd.freshB (g := gb385) (o := .cells #[.int .i64 a1, .int .i64 a2, u386002] 47 (0, 0)) (by (with_reducible repeat (first | refine blk_drewN ?_ _ | refine blk_drew ?_ | refine blk_alloc ?_ _)); exact BK385.out) k_ hk⟩) _ (Nat.le_refl _)) (Below.refl _ _) (Nat.le_refl _) (by simp) ?_; (case hd => rfl); (case hg => rfl); (case hr => first | (go_simp; done) | (go_simp; rfl)); (case hp => exact (Reps.none _ _)); intro v403 w45 ho46 hb hg_ hnew_; clear hg_ hnew_; (first | rw [← Ny402.out] at ho46 | (simp only [Int.reduceToNat] at ho46; rw [← Ny402.out] at ho46)); have n0_ := Aside0.mk (Kd.N_elder' (by (with_reducible repeat (first | apply Kd.N_alloc | apply Kd.N_drewN | apply Kd.N_drew)); exact HO_9.out) (Kd.N_base ho46) hb); have n1_ := Aside0.mk (Kd.N_elder' (by (with_reducible repeat (first | apply Kd.N_alloc | apply Kd.N_drewN | apply Kd.N_drew)); exact HO_10.out) (Kd.N_base ho46) hb); have n2_ := Aside0.mk (Kd.R_below (by (with_reducible repeat (first | apply Kd.R_alloc | apply Kd.R_drewN | apply Kd.R_drew)); exact HO_386002.out) hb); have n3_ := Aside0.mk (Kd.V_elder' (by (with_reducible repeat (first | apply Kd.V_alloc | apply Kd.V_drewN | apply Kd.V_drew)); exact HL401_2.out) (Kd.N_base ho46) hb); have n4_ := Aside0.mk (Kd.N_lower ho46 (below_size (by repeat (first | (with_reducible first | exact HB.out | apply below_alloc | apply pw_below_drewN | apply below_drew1 | refine below_set ?_ GE385.out) | exact HB.out)))); have n5_ := Aside0.mk (blk_below (g := gb385) (o := .cells #[.int .i64 a1, .int .i64 a2, u386002] 47 (0, 0)) (by (with_reducible repeat (first | refine blk_drewN ?_ _ | refine blk_drew ?_ | refine blk_alloc ?_ _)); exact BK385.out) hb); have n6_ := Aside0.mk (Kd.C_below (by repeat (first | (with_reducible exact HR401_2.out) | (with_reducible refine Kd.C_alloc ?_ _) | (with_reducible refine Kd.C_drewN ?_ _) | (with_reducible refine Kd.C_drew ?_) | exact HR401_2.out)) hb); have n7_ := Aside0.mk (below_step (by repeat (first | (with_reducible first | exact HB.out | apply below_alloc | apply pw_below_drewN | apply below_drew1 | refine below_set ?_ GE385.out) | exact HB.out)) hb); clear HO_9; clear HO_10; clear HO_386002; clear HL401_2; clear BK385; clear HR401_2; clear HB; have HO_9 := n0_; have HO_10 := n1_; have HO_386002 := n2_; have HL401_2 := n3_; have HO404 := n4_; have BK385 := n5_; have HR401_2 := n6_; have HB := n7_; clear n0_ n1_ n2_ n3_ n4_ n5_ n6_ n7_; clear hb ho46))
                          go_ret2
                          exact ⟨_, by first | rfl | (simp [errW_none, errW_some] <;> rfl) | (simp [*, errW_none, errW_some] <;> rfl), by (with_reducible repeat (first | apply Kd.N_alloc | apply Kd.N_drewN | apply Kd.N_drew)); exact Kd.N_mono HO404.out (fun _ hk => hk.1), by repeat (first | (with_reducible first | exact HB.out | apply below_alloc | apply pw_below_drewN | apply below_drew1 | refine below_set ?_ GE385.out) | exact HB.out)⟩
                        · rw [if_neg c43] at H
                          have c43b0 : (((rd_T47 t398 x11_4).f0) == a1) = false := beq_eq_false_iff_ne.mpr c43
                          have c43b1 : (((rd_T47 t398 x11_4).f0) != a1) = true := bne_iff_ne.mpr c43
                          by_cases c47 : ((rd_T47 t398 x11_4).f0) < a1
                          · rw [if_pos c47] at H
                            have c47b0 : decide (((rd_T47 t398 x11_4).f0) < a1) = true := decide_eq_true c47
                            clear c47
                            by_cases c48 : x9_4.length < 3518437208883
                            · rw [if_pos c48] at H
                              have LMc48 := Aside0.mk c48
                              clear c48
                              obtain ⟨y407, hy407⟩ : ∃ y_ : List (S47), y_ = (x9_4 ++ [(⟨(rd_T47 t398 x11_4).f0, (rd_T47 t398 x11_4).f1, (rd_T47 t398 x11_4).f2⟩ : S47)]) := ⟨_, rfl⟩
                              replace H : (spec_AddSlab.l0 k4 a1 y407 t398 (wrap64 (x11_4 + 1)) a1 a2 x386002_8) = some (r1, r2) := by first | (rw [hy407]; with_reducible exact H) | (have H2_ := (Option.bind_some _ _).symm.trans H; rw [hy407]; with_reducible exact H2_) | (have H2_ := (Option.bind_some _ _).symm.trans H; with_reducible exact H2_) | with_reducible exact H | (rw [hy407]; exact H) | exact H
                              have Ny407 := Aside0.mk hy407
                              clear hy407
                              have H' := Aside0.mk H
                              clear H
                              obtain ⟨Ao49, co49, eo49⟩ := Kd.N_slice HO_10.out
                              subst eo49
                              have p401 : 0 ≤ (x11_4 : Int) := of_decide_eq_true (by first | (with_reducible assumption) | assumption)
                              have q401 : x11_4 < (t398.length : Int) := of_decide_eq_true (by first | (with_reducible assumption) | assumption)
                              obtain ⟨ad401, A401_2, c401_2, e401, hx401_0, hx401_1, hx401_2, hl401_2, hi401_2⟩ := at_T47 (Kd.N_reads' HO_10.out).2.2 x11_4 p401 q401
                              cases e401
                              obtain ⟨ce401, hce401, hMe401, hcc401⟩ := Kd.N_get HO_10.out z47 x11_4 p401 (by first | exact q401 | exact of_decide_eq_true (by first | (with_reducible assumption) | assumption) | (have e_ := (Kd.N_reads' HO_10.out).1; omega))
                              obtain ⟨ua401_2, uc401_2, rfl, ul401_2, ge401_2⟩ := k47_openF hMe401
                              have hv401_2 := hcc401 2 _ rfl
                              rw [add_field _ _ 2 (by omega)] at hv401_2
                              replace hv401_2 := Option.some.inj (hv401_2.symm.trans hx401_2)
                              injection hv401_2 with hva_ hvn_ hvc_
                              rw [hva_] at ge401_2
                              rw [hvc_] at ul401_2
                              have HL401_2 := Aside0.mk (show Kd.V Kd.bool 4 _ w.heap.size _ _ ((rd_T47 t398 x11_4).f2) from Kd.V_mk ul401_2 ge401_2)
                              clear hva_ hvn_ hvc_ ge401_2 ul401_2
                              clear hcc401 hce401
                              have HR401_2 := Aside0.mk hi401_2
                              have HC401_2 := Aside0.mk hl401_2
                              clear hi401_2 hl401_2
                              replace p401 := eq_true p401
                              replace q401 := eq_true q401
                              have p405 : 0 ≤ (x11_4 : Int) := of_decide_eq_true (by first | (with_reducible assumption) | assumption)
                              have q405 : x11_4 < (t398.length : Int) := of_decide_eq_true (by first | (with_reducible assumption) | assumption)
                              obtain ⟨ad405, A405_2, c405_2, e405, hx405_0, hx405_1, hx405_2, hl405_2, hi405_2⟩ := at_T47 (Kd.N_reads' HO_10.out).2.2 x11_4 p405 q405
                              obtain rfl : ad401 = ad405 := (by injection e405)
                              obtain ⟨ce405, hce405, hMe405, hcc405⟩ := Kd.N_get HO_10.out z47 x11_4 p405 (by first | exact q405 | exact of_decide_eq_true (by first | (with_reducible assumption) | assumption) | (have e_ := (Kd.N_reads' HO_10.out).1; omega))
                              obtain ⟨ua405_2, uc405_2, rfl, ul405_2, ge405_2⟩ := k47_openF hMe405
                              have hv405_2 := hcc405 2 _ rfl
                              rw [add_field _ _ 2 (by omega)] at hv405_2
                              replace hv405_2 := Option.some.inj (hv405_2.symm.trans hx405_2)
                              injection hv405_2 with hva_ hvn_ hvc_
                              rw [hva_] at ge405_2
                              rw [hvc_] at ul405_2
                              have HL405_2 := Aside0.mk (show Kd.V Kd.bool 4 _ w.heap.size _ _ ((rd_T47 t398 x11_4).f2) from Kd.V_mk ul405_2 ge405_2)
                              clear hva_ hvn_ hvc_ ge405_2 ul405_2
                              clear hcc405 hce405
                              have HR405_2 := Aside0.mk hi405_2
                              have HC405_2 := Aside0.mk hl405_2
                              clear hi405_2 hl405_2
                              replace p405 := eq_true p405
                              replace q405 := eq_true q405
                              have ea_ := Option.some.inj (hx401_2.symm.trans hx405_2)
                              injection ea_ with ea_ en_ ec_
                              subst ea_
                              subst ec_
                              clear en_
                              have p406 : 0 ≤ (x11_4 : Int) := of_decide_eq_true (by first | (with_reducible assumption) | assumption)
                              have q406 : x11_4 < (t398.length : Int) := of_decide_eq_true (by first | (with_reducible assumption) | assumption)
                              obtain ⟨ad406, A406_2, c406_2, e406, hx406_0, hx406_1, hx406_2, hl406_2, hi406_2⟩ := at_T47 (Kd.N_reads' HO_10.out).2.2 x11_4 p406 q406
                              obtain rfl : ad401 = ad406 := (by injection e406)
                              obtain ⟨ce406, hce406, hMe406, hcc406⟩ := Kd.N_get HO_10.out z47 x11_4 p406 (by first | exact q406 | exact of_decide_eq_true (by first | (with_reducible assumption) | assumption) | (have e_ := (Kd.N_reads' HO_10.out).1; omega))
                              obtain ⟨ua406_2, uc406_2, rfl, ul406_2, ge406_2⟩ := k47_openF hMe406
                              have hv406_2 := hcc406 2 _ rfl
                              rw [add_field _ _ 2 (by omega)] at hv406_2
                              replace hv406_2 := Option.some.inj (hv406_2.symm.trans hx406_2)
                              injection hv406_2 with hva_ hvn_ hvc_
                              rw [hva_] at ge406_2
                              rw [hvc_] at ul406_2
                              have HL406_2 := Aside0.mk (show Kd.V Kd.bool 4 _ w.heap.size _ _ ((rd_T47 t398 x11_4).f2) from Kd.V_mk ul406_2 ge406_2)
                              clear hva_ hvn_ hvc_ ge406_2 ul406_2
                              clear hcc406 hce406
                              have HR406_2 := Aside0.mk hi406_2
                              have HC406_2 := Aside0.mk hl406_2
                              clear hi406_2 hl406_2
                              replace p406 := eq_true p406
                              replace q406 := eq_true q406
                              have ea_ := Option.some.inj (hx401_2.symm.trans hx406_2)
                              injection ea_ with ea_ en_ ec_
                              subst ea_
                              subst ec_
                              clear en_
                              go_wp2_with (first | ((with_reducible refine gate_builtin (b := .append) (xs := #[.tmp 66, .tmp 71]) rfl ?_); at_builtin; refine Kd.N_append k47 (w0 := w) w.heap.size rfl (.tmp 66) (.tmp 71) 24 47 (.agg #[(.int .i64 0), (.int .i64 0), (.slice none 0 0)]) 40 rfl Try.underlying24 info47 rfl (by decide) (by omega) u9 x9_4 (⟨(rd_T47 t398 x11_4).f0, (rd_T47 t398 x11_4).f1, (rd_T47 t398 x11_4).f2⟩ : S47) [.int .i64 ((rd_T47 t398 x11_4).f0), .int .i64 ((rd_T47 t398 x11_4).f1), .slice A401_2 ((rd_T47 t398 x11_4).f2).length c401_2] (fun k_ => (w.heap.size ≤ k_) ∧ some k_ ≠ (.slice (some ad401) t398.length co49 : Value).ownBlock ∧ k_ ≠ gb385) (fun k_ => ((fun k_ => (w.heap.size ≤ k_) ∧ some k_ ≠ (.slice (some ad401) t398.length co49 : Value).ownBlock ∧ k_ ≠ gb385)) k_ ∧ some k_ ≠ (u9 : Value).ownBlock) rfl rfl ?aP (fun _ hk => hk) ?aF ?aO ?aB ?aS ?aL ?_; (case aP => exact (k47_mkF _ _ (⟨(rd_T47 t398 x11_4).f0, (rd_T47 t398 x11_4).f1, (rd_T47 t398 x11_4).f2⟩ : S47) (Kd.V_reads' (Kd.V_mono (ok' := (fun k_ => ((fun k_ => (w.heap.size ≤ k_) ∧ some k_ ≠ (.slice (some ad401) t398.length co49 : Value).ownBlock ∧ k_ ≠ gb385)) k_ ∧ some k_ ≠ (u9 : Value).ownBlock)) (HL406_2.out) (fun k_ hk => ⟨⟨hk.1.1, ⟨hk.2, hk.1.2.2.2⟩⟩, hk.1.2.1⟩))).2.1 (Kd.V_F (Kd.V_mono (ok' := (fun k_ => ((fun k_ => (w.heap.size ≤ k_) ∧ some k_ ≠ (.slice (some ad401) t398.length co49 : Value).ownBlock ∧ k_ ≠ gb385)) k_ ∧ some k_ ≠ (u9 : Value).ownBlock)) (HL406_2.out) (fun k_ hk => ⟨⟨hk.1.1, ⟨hk.2, hk.1.2.2.2⟩⟩, hk.1.2.1⟩))))); (case aB => exact (by repeat (first | (with_reducible first | exact HB.out | apply below_alloc | apply pw_below_drewN | apply below_drew1 | refine below_set ?_ GE385.out) | exact HB.out))); (case aF => exact (fun k_ hk => ⟨(Nat.le_trans (below_size (by repeat (first | (with_reducible first | exact HB.out | apply below_alloc | apply pw_below_drewN | apply below_drew1 | refine below_set ?_ GE385.out) | exact HB.out))) hk), Kd.fresh' (Kd.N_lt (by (with_reducible repeat (first | apply Kd.N_alloc | apply Kd.N_drewN | apply Kd.N_drew)); exact HO_10.out)) k_ hk, Kd.freshB (g := gb385) (o := .cells #[.int .i64 a1, .int .i64 a2, u386002] 47 (0, 0)) (by (with_reducible repeat (first | refine blk_drewN ?_ _ | refine blk_drew ?_ | refine blk_alloc ?_ _)); exact BK385.out) k_ hk⟩)); (case aO => exact (by (with_reducible repeat (first | apply Kd.N_alloc | apply Kd.N_drewN | apply Kd.N_drew)); exact HO_9.out)); (case aS => exact (below_size (by repeat (first | (with_reducible first | exact HB.out | apply below_alloc | apply pw_below_drewN | apply below_drew1 | refine below_set ?_ GE385.out) | exact HB.out)))); (case aL => have := LMc48.out; omega); intro v408 w50 ho hb hg hat; rw [← Ny407.out] at ho; have n0_ := Aside0.mk (Kd.N_afterv (ok := (fun k_ => (w.heap.size ≤ k_) ∧ some k_ ≠ (u386002 : Value).ownBlock ∧ k_ ≠ gb385)) (by (with_reducible repeat (first | apply Kd.N_alloc | apply Kd.N_drewN | apply Kd.N_drew)); exact Kd.N_mono HO_10.out (fun _ hk => ⟨⟨hk.1, ⟨hk.2.2.1, hk.2.2.2⟩⟩, hk.2.1⟩)) hg hat); have n1_ := Aside0.mk (Kd.R_over' (by (with_reducible repeat (first | apply Kd.R_alloc | apply Kd.R_drewN | apply Kd.R_drew)); exact HO_386002.out) (Kd.N_typed (by (with_reducible repeat (first | apply Kd.N_alloc | apply Kd.N_drewN | apply Kd.N_drew)); exact HO_9.out)) (by decide) hg); have n2_ := Aside0.mk (blk_grown (g := gb385) (o := .cells #[.int .i64 a1, .int .i64 a2, u386002] 47 (0, 0)) (by (with_reducible repeat (first | refine blk_drewN ?_ _ | refine blk_drew ?_ | refine blk_alloc ?_ _)); exact BK385.out) hg (Kd.N_away HO_9.out (fun _ hk => hk.2.2))); have n3_ := Aside0.mk (Kd.V_afterv (ok := (fun k_ => (w.heap.size ≤ k_) ∧ some k_ ≠ (.slice (some ad401) t398.length co49 : Value).ownBlock ∧ some k_ ≠ (u386002 : Value).ownBlock ∧ k_ ≠ gb385)) (by (with_reducible repeat (first | apply Kd.V_alloc | apply Kd.V_drewN | apply Kd.V_drew)); exact Kd.V_mono HL401_2.out (fun _ hk => ⟨⟨hk.1.1, ⟨hk.2, ⟨hk.1.2.2.1, hk.1.2.2.2⟩⟩⟩, hk.1.2.1⟩)) hg hat); have n4_ := Aside0.mk (Kd.V_afterv (ok := (fun k_ => (w.heap.size ≤ k_) ∧ some k_ ≠ (.slice (some ad401) t398.length co49 : Value).ownBlock ∧ some k_ ≠ (u386002 : Value).ownBlock ∧ k_ ≠ gb385)) (by (with_reducible repeat (first | apply Kd.V_alloc | apply Kd.V_drewN | apply Kd.V_drew)); exact Kd.V_mono HL405_2.out (fun _ hk => ⟨⟨hk.1.1, ⟨hk.2, ⟨hk.1.2.2.1, hk.1.2.2.2⟩⟩⟩, hk.1.2.1⟩)) hg hat); have n5_ := Aside0.mk (Kd.V_afterv (ok := (fun k_ => (w.heap.size ≤ k_) ∧ some k_ ≠ (.slice (some ad401) t398.length co49 : Value).ownBlock ∧ some k_ ≠ (u386002 : Value).ownBlock ∧ k_ ≠ gb385)) (by (with_reducible repeat (first | apply Kd.V_alloc | apply Kd.V_drewN | apply Kd.V_drew)); exact Kd.V_mono HL406_2.out (fun _ hk => ⟨⟨hk.1.1, ⟨hk.2, ⟨hk.1.2.2.1, hk.1.2.2.2⟩⟩⟩, hk.1.2.1⟩)) hg hat); have n6_ := Aside0.mk (hb); have n7_ := Aside0.mk (ho); clear HO_10; clear HO_386002; clear BK385; clear HL401_2; clear HL405_2; clear HL406_2; clear HB; clear HO_9; have HO_10 := n0_; have HO_386002 := n1_; have BK385 := n2_; have HL401_2 := n3_; have HL405_2 := n4_; have HL406_2 := n5_; have HB := n6_; have HO409 := n7_; clear n0_ n1_ n2_ n3_ n4_ n5_ n6_ n7_; clear ho hb hg hat))
                              go_roundg k4
                              case measure => have := HJ3.out; have := HJ8.out; have := HJ24.out; have := HK4.out; omega
                              case rel => exact ⟨(y407), (wrap64 (x11_4 + 1)), (by first | rfl | (simp; done) | (simp [*]; done)), H', ⟨by have := HJ3.out; have := HJ8.out; have := HJ24.out; have := HK4.out; omega⟩, ⟨by (with_reducible repeat (first | apply Kd.N_alloc | apply Kd.N_drewN | apply Kd.N_drew)); exact HO409.out⟩, ⟨by (with_reducible repeat (first | apply Kd.N_alloc | apply Kd.N_drewN | apply Kd.N_drew)); exact Kd.N_mono HO_10.out (fun _ hk => ⟨hk.1.1, ⟨hk.2, ⟨hk.1.2.1, hk.1.2.2⟩⟩⟩)⟩, ⟨by (with_reducible repeat (first | apply Kd.R_alloc | apply Kd.R_drewN | apply Kd.R_drew)); exact HO_386002.out⟩, ⟨by (with_reducible repeat (first | refine blk_drewN ?_ _ | refine blk_drew ?_ | refine blk_alloc ?_ _)); exact BK385.out⟩, ⟨by repeat (first | (with_reducible first | exact HB.out | apply below_alloc | apply pw_below_drewN | apply below_drew1 | refine below_set ?_ GE385.out) | exact HB.out)⟩⟩
                            · rw [if_neg c48] at H
                              exact absurd H (by simp)
                          · rw [if_neg c47] at H
                            have c47b0 : decide (((rd_T47 t398 x11_4).f0) < a1) = false := decide_eq_false c47
                            clear c47
                            have H' := Aside0.mk H
                            clear H
                            obtain ⟨Ao51, co51, eo51⟩ := Kd.N_slice HO_10.out
                            subst eo51
                            have p401 : 0 ≤ (x11_4 : Int) := of_decide_eq_true (by first | (with_reducible assumption) | assumption)
                            have q401 : x11_4 < (t398.length : Int) := of_decide_eq_true (by first | (with_reducible assumption) | assumption)
                            obtain ⟨ad401, A401_2, c401_2, e401, hx401_0, hx401_1, hx401_2, hl401_2, hi401_2⟩ := at_T47 (Kd.N_reads' HO_10.out).2.2 x11_4 p401 q401
                            cases e401
                            obtain ⟨ce401, hce401, hMe401, hcc401⟩ := Kd.N_get HO_10.out z47 x11_4 p401 (by first | exact q401 | exact of_decide_eq_true (by first | (with_reducible assumption) | assumption) | (have e_ := (Kd.N_reads' HO_10.out).1; omega))
                            obtain ⟨ua401_2, uc401_2, rfl, ul401_2, ge401_2⟩ := k47_openF hMe401
                            have hv401_2 := hcc401 2 _ rfl
                            rw [add_field _ _ 2 (by omega)] at hv401_2
                            replace hv401_2 := Option.some.inj (hv401_2.symm.trans hx401_2)
                            injection hv401_2 with hva_ hvn_ hvc_
                            rw [hva_] at ge401_2
                            rw [hvc_] at ul401_2
                            have HL401_2 := Aside0.mk (show Kd.V Kd.bool 4 _ w.heap.size _ _ ((rd_T47 t398 x11_4).f2) from Kd.V_mk ul401_2 ge401_2)
                            clear hva_ hvn_ hvc_ ge401_2 ul401_2
                            clear hcc401 hce401
                            have HR401_2 := Aside0.mk hi401_2
                            have HC401_2 := Aside0.mk hl401_2
                            clear hi401_2 hl401_2
                            replace p401 := eq_true p401
                            replace q401 := eq_true q401
                            have p405 : 0 ≤ (x11_4 : Int) := of_decide_eq_true (by first | (with_reducible assumption) | assumption)
                            have q405 : x11_4 < (t398.length : Int) := of_decide_eq_true (by first | (with_reducible assumption) | assumption)
                            obtain ⟨ad405, A405_2, c405_2, e405, hx405_0, hx405_1, hx405_2, hl405_2, hi405_2⟩ := at_T47 (Kd.N_reads' HO_10.out).2.2 x11_4 p405 q405
                            obtain rfl : ad401 = ad405 := (by injection e405)
                            obtain ⟨ce405, hce405, hMe405, hcc405⟩ := Kd.N_get HO_10.out z47 x11_4 p405 (by first | exact q405 | exact of_decide_eq_true (by first | (with_reducible assumption) | assumption) | (have e_ := (Kd.N_reads' HO_10.out).1; omega))
                            obtain ⟨ua405_2, uc405_2, rfl, ul405_2, ge405_2⟩ := k47_openF hMe405
                            have hv405_2 := hcc405 2 _ rfl
                            rw [add_field _ _ 2 (by omega)] at hv405_2
                            replace hv405_2 := Option.some.inj (hv405_2.symm.trans hx405_2)
                            injection hv405_2 with hva_ hvn_ hvc_
                            rw [hva_] at ge405_2
                            rw [hvc_] at ul405_2
                            have HL405_2 := Aside0.mk (show Kd.V Kd.bool 4 _ w.heap.size _ _ ((rd_T47 t398 x11_4).f2) from Kd.V_mk ul405_2 ge405_2)
                            clear hva_ hvn_ hvc_ ge405_2 ul405_2
                            clear hcc405 hce405
                            have HR405_2 := Aside0.mk hi405_2
                            have HC405_2 := Aside0.mk hl405_2
                            clear hi405_2 hl405_2
                            replace p405 := eq_true p405
                            replace q405 := eq_true q405
                            have ea_ := Option.some.inj (hx401_2.symm.trans hx405_2)
                            injection ea_ with ea_ en_ ec_
                            subst ea_
                            subst ec_
                            clear en_
                            go_wp2
                            go_roundg k4
                            case measure => have := HJ3.out; have := HJ8.out; have := HJ24.out; have := HK4.out; omega
                            case rel => exact ⟨(x9_4), (wrap64 (x11_4 + 1)), (by first | rfl | (simp; done) | (simp [*]; done)), H', ⟨by have := HJ3.out; have := HJ8.out; have := HJ24.out; have := HK4.out; omega⟩, ⟨by (with_reducible repeat (first | apply Kd.N_alloc | apply Kd.N_drewN | apply Kd.N_drew)); exact HO_9.out⟩, ⟨by (with_reducible repeat (first | apply Kd.N_alloc | apply Kd.N_drewN | apply Kd.N_drew)); exact HO_10.out⟩, ⟨by (with_reducible repeat (first | apply Kd.R_alloc | apply Kd.R_drewN | apply Kd.R_drew)); exact HO_386002.out⟩, ⟨by (with_reducible repeat (first | refine blk_drewN ?_ _ | refine blk_drew ?_ | refine blk_alloc ?_ _)); exact BK385.out⟩, ⟨by repeat (first | (with_reducible first | exact HB.out | apply below_alloc | apply pw_below_drewN | apply below_drew1 | refine below_set ?_ GE385.out) | exact HB.out)⟩⟩
                      · rw [if_neg c42] at H
                        exact absurd H (by simp)
                    · rw [if_neg c41] at H
                      have c41b0 : decide (x11_4 < (t398.length : Int)) = false := decide_eq_false c41
                      clear c41
                      by_cases c52 : x9_4.length < 3518437208883
                      · rw [if_pos c52] at H
                        have LMc52 := Aside0.mk c52
                        clear c52
                        obtain ⟨y410, hy410⟩ : ∃ y_ : List (S47), y_ = (x9_4 ++ [(⟨a1, a2, x386002_8⟩ : S47)]) := ⟨_, rfl⟩
                        replace H : (spec_AddSlab.l1 k4 a1 y410 t398 0) = some (r1, r2) := by first | (rw [hy410]; with_reducible exact H) | (have H2_ := (Option.bind_some _ _).symm.trans H; rw [hy410]; with_reducible exact H2_) | (have H2_ := (Option.bind_some _ _).symm.trans H; with_reducible exact H2_) | with_reducible exact H | (rw [hy410]; exact H) | exact H
                        have Ny410 := Aside0.mk hy410
                        clear hy410
                        have H' := Aside0.mk H
                        clear H
                        obtain ⟨Ao53, co53, eo53⟩ := Kd.N_slice HO_10.out
                        subst eo53
                        have hcz54_0 : wr.cell? ⟨gb385, 0, none⟩ = some (.int .i64 a1) := (blk_cell BK385.out 0).trans rfl
                        have hcz54_1 : wr.cell? ⟨gb385, 1, none⟩ = some (.int .i64 a2) := (blk_cell BK385.out 1).trans rfl
                        have hcz54_2 : wr.cell? ⟨gb385, 2, none⟩ = some (u386002) := (blk_cell BK385.out 2).trans rfl
                        have hfz54_0 := blk_frozen BK385.out 0
                        have hfz54_1 := blk_frozen BK385.out 1
                        have hfz54_2 := blk_frozen BK385.out 2
                        obtain ⟨Ao56, co56, eo56⟩ := Kd.R_slice HO_386002.out
                        subst eo56
                        go_wp2_with (first | ((with_reducible refine gate_builtin (b := .append) (xs := #[.tmp 73, .tmp 75]) rfl ?_); at_builtin; refine Kd.N_append k47 (w0 := w) w.heap.size rfl (.tmp 73) (.tmp 75) 24 47 (.agg #[(.int .i64 0), (.int .i64 0), (.slice none 0 0)]) 40 rfl Try.underlying24 info47 rfl (by decide) (by omega) u9 x9_4 (⟨a1, a2, x386002_8⟩ : S47) [.int .i64 a1, .int .i64 a2, .slice Ao56 x386002_8.length co56] (fun k_ => (w.heap.size ≤ k_) ∧ some k_ ≠ (.slice Ao53 t398.length co53 : Value).ownBlock ∧ k_ ≠ gb385) (fun k_ => ((fun k_ => (w.heap.size ≤ k_) ∧ some k_ ≠ (.slice Ao53 t398.length co53 : Value).ownBlock ∧ k_ ≠ gb385)) k_ ∧ some k_ ≠ (u9 : Value).ownBlock) rfl rfl ?aP (fun _ hk => hk) ?aF ?aO ?aB ?aS ?aL ?_; (case aP => exact (k47_mkF _ _ (⟨a1, a2, x386002_8⟩ : S47) (Kd.R_reads' (Kd.R_mono (ok' := (fun k_ => ((fun k_ => (w.heap.size ≤ k_) ∧ some k_ ≠ (.slice Ao53 t398.length co53 : Value).ownBlock ∧ k_ ≠ gb385)) k_ ∧ some k_ ≠ (u9 : Value).ownBlock)) (Kd.R_types (Kd.R_apart' (Kd.R_apart' (HO_386002.out) (Kd.N_typed HO_10.out) (by decide)) (Kd.N_typed HO_9.out) (by decide)) BK385.out (by decide)) (fun k_ hk => ⟨⟨hk.1.1.1, ⟨hk.1.1.2, hk.2⟩⟩, hk.1.2⟩))).2.1 (Kd.R_F (Kd.R_mono (ok' := (fun k_ => ((fun k_ => (w.heap.size ≤ k_) ∧ some k_ ≠ (.slice Ao53 t398.length co53 : Value).ownBlock ∧ k_ ≠ gb385)) k_ ∧ some k_ ≠ (u9 : Value).ownBlock)) (Kd.R_types (Kd.R_apart' (Kd.R_apart' (HO_386002.out) (Kd.N_typed HO_10.out) (by decide)) (Kd.N_typed HO_9.out) (by decide)) BK385.out (by decide)) (fun k_ hk => ⟨⟨hk.1.1.1, ⟨hk.1.1.2, hk.2⟩⟩, hk.1.2⟩))))); (case aB => exact (by repeat (first | (with_reducible first | exact HB.out | apply below_alloc | apply pw_below_drewN | apply below_drew1 | refine below_set ?_ GE385.out) | exact HB.out))); (case aF => exact (fun k_ hk => ⟨(Nat.le_trans (below_size (by repeat (first | (with_reducible first | exact HB.out | apply below_alloc | apply pw_below_drewN | apply below_drew1 | refine below_set ?_ GE385.out) | exact HB.out))) hk), Kd.fresh' (Kd.N_lt (by (with_reducible repeat (first | apply Kd.N_alloc | apply Kd.N_drewN | apply Kd.N_drew)); exact HO_10.out)) k_ hk, Kd.freshB (g := gb385) (o := .cells #[.int .i64 a1, .int .i64 a2, .slice Ao56 x386002_8.length co56] 47 (0, 0)) (by (with_reducible repeat (first | refine blk_drewN ?_ _ | refine blk_drew ?_ | refine blk_alloc ?_ _)); exact BK385.out) k_ hk⟩)); (case aO => exact (by (with_reducible repeat (first | apply Kd.N_alloc | apply Kd.N_drewN | apply Kd.N_drew)); exact HO_9.out)); (case aS => exact (below_size (by repeat (first | (with_reducible first | exact HB.out | apply below_alloc | apply pw_below_drewN | apply below_drew1 | refine below_set ?_ GE385.out) | exact HB.out)))); (case aL => have := LMc52.out; omega); intro v411 w55 ho hb hg hat; rw [← Ny410.out] at ho; have n0_ := Aside0.mk (Kd.N_afterv (ok := (fun k_ => (w.heap.size ≤ k_) ∧ some k_ ≠ (.slice Ao56 x386002_8.length co56 : Value).ownBlock ∧ k_ ≠ gb385)) (by (with_reducible repeat (first | apply Kd.N_alloc | apply Kd.N_drewN | apply Kd.N_drew)); exact Kd.N_mono HO_10.out (fun _ hk => ⟨⟨hk.1, ⟨hk.2.2.1, hk.2.2.2⟩⟩, hk.2.1⟩)) hg hat); have n1_ := Aside0.mk (blk_grown (g := gb385) (o := .cells #[.int .i64 a1, .int .i64 a2, .slice Ao56 x386002_8.length co56] 47 (0, 0)) (by (with_reducible repeat (first | refine blk_drewN ?_ _ | refine blk_drew ?_ | refine blk_alloc ?_ _)); exact BK385.out) hg (Kd.N_away HO_9.out (fun _ hk => hk.2.2))); have n2_ := Aside0.mk (hb); have n3_ := Aside0.mk (ho); have n9_ := Aside0.mk (Kd.R_over' (by (with_reducible repeat (first | apply Kd.R_alloc | apply Kd.R_drewN | apply Kd.R_drew)); exact HO_386002.out) (Kd.N_typed (by (with_reducible repeat (first | apply Kd.N_alloc | apply Kd.N_drewN | apply Kd.N_drew)); exact HO_9.out)) (by decide) hg); clear HO_10; clear BK385; clear HB; clear HO_9; clear HO_386002; have HO_386002 := n9_; clear n9_; have HO_10 := n0_; have BK385 := n1_; have HB := n2_; have HO412 := n3_; clear n0_ n1_ n2_ n3_; clear ho hb hg hat))
                        go_loopg [9, 12] k4 (fun kq v9 v12 w' => ∃ (x9_5 : List (S47)) (x12_5 : Int), v12 = .int .i64 x12_5 ∧ Aside0 (spec_AddSlab.l1 kq a1 x9_5 t398 x12_5 = some (r1, r2)) ∧ Aside0 (kq ≤ k4) ∧ Aside0 (Kd.N k47 47 w' w.heap.size (fun k_ => (w.heap.size ≤ k_) ∧ some k_ ≠ ((.slice Ao53 t398.length co53) : Value).ownBlock ∧ k_ ≠ gb385) v9 x9_5) ∧ Aside0 (Kd.N k47 47 w' w.heap.size (fun k_ => (w.heap.size ≤ k_) ∧ some k_ ≠ (v9 : Value).ownBlock ∧ some k_ ≠ ((.slice Ao56 x386002_8.length co56) : Value).ownBlock ∧ k_ ≠ gb385) (.slice Ao53 t398.length co53) t398) ∧ Aside0 (Kd.R Kd.bool 4 w' w.heap.size (fun k_ => (w.heap.size ≤ k_)) (.slice Ao56 x386002_8.length co56) x386002_8) ∧ Aside0 (w'.heap[gb385]? = some (.cells #[.int .i64 a1, .int .i64 a2, (.slice Ao56 x386002_8.length co56)] 47 (0, 0))) ∧ Aside0 (Below w.heap.size w w'))
                        case atStart => exact ⟨(y410), (0), (by first | rfl | (simp; done) | (simp [*]; done)), H', ⟨Nat.le_refl _⟩, ⟨by (with_reducible repeat (first | apply Kd.N_alloc | apply Kd.N_drewN | apply Kd.N_drew)); exact HO412.out⟩, ⟨by (with_reducible repeat (first | apply Kd.N_alloc | apply Kd.N_drewN | apply Kd.N_drew)); exact Kd.N_mono HO_10.out (fun _ hk => ⟨hk.1.1, ⟨hk.2, ⟨hk.1.2.1, hk.1.2.2⟩⟩⟩)⟩, ⟨by (with_reducible repeat (first | apply Kd.R_alloc | apply Kd.R_drewN | apply Kd.R_drew)); exact Kd.R_mono (Kd.R_bound HO_386002.out) (fun _ only_mine => only_mine.2.1)⟩, ⟨by (with_reducible repeat (first | refine blk_drewN ?_ _ | refine blk_drew ?_ | refine blk_alloc ?_ _)); exact BK385.out⟩, ⟨by repeat (first | (with_reducible first | exact HB.out | apply below_alloc | apply pw_below_drewN | apply below_drew1 | refine below_set ?_ GE385.out) | exact HB.out)⟩⟩
                        case round =>
                          clear H'
                          try clear c1
                          try clear p1
                          try clear q1
                          try clear hx1
                          try clear qi1
                          try clear c2
                          try clear p2
                          try clear c3
                          try clear c4
                          try clear p4
                          try clear q4
                          try clear hx4
                          try clear c5
                          try clear p6
                          try clear c7
                          try clear c7b0
                          try clear c7b1
                          try clear c8
                          try clear c8b0
                          try clear c8b1
                          try clear c10
                          try clear c11
                          try clear c11b0
                          try clear c11b1
                          try clear c13
                          try clear c13b0
                          try clear c13b1
                          try clear c14
                          try clear c14b0
                          try clear c14b1
                          try clear c15
                          try clear c15b0
                          try clear c15b1
                          try clear p16
                          try clear q16
                          try clear hx16
                          try clear qi16
                          try clear hf16
                          try clear c20
                          try clear c22
                          try clear c27
                          try clear c34
                          try clear c40
                          try clear p40
                          try clear q40
                          try clear hx40
                          try clear c41
                          try clear c41b0
                          try clear c42
                          try clear c42b0
                          try clear c43
                          try clear c43b0
                          try clear c43b1
                          try clear c47
                          try clear c47b0
                          try clear c48
                          try clear c52
                          try clear hcz20_0
                          try clear hcz20_1
                          try clear hcz20_2
                          try clear hcz22_0
                          try clear hcz22_1
                          try clear hcz22_2
                          try clear hcz30_0
                          try clear hcz30_1
                          try clear hcz30_2
                          try clear hcz54_0
                          try clear hcz54_1
                          try clear hcz54_2
                          try clear hcz6_0
                          try clear hcz6_1
                          try clear hcz6_2
                          try clear hfz20_0
                          try clear hfz20_1
                          try clear hfz20_2
                          try clear hfz22_0
                          try clear hfz22_1
                          try clear hfz22_2
                          try clear hfz30_0
                          try clear hfz30_1
                          try clear hfz30_2
                          try clear hfz54_0
                          try clear hfz54_1
                          try clear hfz54_2
                          try clear hfz6_0
                          try clear hfz6_1
                          try clear hfz6_2
                          try clear hx16_0
                          try clear hx401_0
                          try clear hx401_1
                          try clear hx401_2
                          try clear hx405_0
                          try clear hx405_1
                          try clear hx405_2
                          try clear hx406_0
                          try clear hx406_1
                          try clear hx406_2
                          try clear p1
                          try clear p16
                          try clear p2
                          try clear p401
                          try clear p405
                          try clear p406
                          try clear p6
                          try clear q1
                          try clear q16
                          try clear q401
                          try clear q405
                          try clear q406
                          obtain ⟨x9_5, x12_5, rfl, HA, HK5, HO_9, HO_10, HO_386002, BK385, HB⟩ := hrel
                          cases gk with
                          | zero => exact absurd HA.out (by simp [spec_AddSlab.l1])
                          | succ k5 =>
                            have H := HA.out
                            clear HA
                            simp only [spec_AddSlab.l1] at H
                            by_cases c57 : x12_5 < (t398.length : Int)
                            · rw [if_pos c57] at H
                              have c57b0 : decide (x12_5 < (t398.length : Int)) = true := decide_eq_true c57
                              clear c57
                              by_cases c58 : 0 ≤ x12_5
                              · rw [if_pos c58] at H
                                have c58b0 : decide (0 ≤ x12_5) = true := decide_eq_true c58
                                clear c58
                                by_cases c59 : ((rd_T47 t398 x12_5).f0) > a1
                                · rw [if_pos c59] at H
                                  have c59b0 : decide (a1 < ((rd_T47 t398 x12_5).f0)) = true := decide_eq_true c59
                                  clear c59
                                  by_cases c60 : x9_5.length < 3518437208883
                                  · rw [if_pos c60] at H
                                    have LMc60 := Aside0.mk c60
                                    clear c60
                                    obtain ⟨y415, hy415⟩ : ∃ y_ : List (S47), y_ = (x9_5 ++ [(⟨(rd_T47 t398 x12_5).f0, (rd_T47 t398 x12_5).f1, (rd_T47 t398 x12_5).f2⟩ : S47)]) := ⟨_, rfl⟩
                                    replace H : (spec_AddSlab.l1 k5 a1 y415 t398 (wrap64 (x12_5 + 1))) = some (r1, r2) := by first | (rw [hy415]; with_reducible exact H) | (have H2_ := (Option.bind_some _ _).symm.trans H; rw [hy415]; with_reducible exact H2_) | (have H2_ := (Option.bind_some _ _).symm.trans H; with_reducible exact H2_) | with_reducible exact H | (rw [hy415]; exact H) | exact H
                                    have Ny415 := Aside0.mk hy415
                                    clear hy415
                                    have H' := Aside0.mk H
                                    clear H
                                    have p413 : 0 ≤ (x12_5 : Int) := of_decide_eq_true (by first | (with_reducible assumption) | assumption)
                                    have q413 : x12_5 < (t398.length : Int) := of_decide_eq_true (by first | (with_reducible assumption) | assumption)
                                    obtain ⟨ad413, A413_2, c413_2, e413, hx413_0, hx413_1, hx413_2, hl413_2, hi413_2⟩ := at_T47 (Kd.N_reads' HO_10.out).2.2 x12_5 p413 q413
                                    cases e413
                                    obtain ⟨ce413, hce413, hMe413, hcc413⟩ := Kd.N_get HO_10.out z47 x12_5 p413 (by first | exact q413 | exact of_decide_eq_true (by first | (with_reducible assumption) | assumption) | (have e_ := (Kd.N_reads' HO_10.out).1; omega))
                                    obtain ⟨ua413_2, uc413_2, rfl, ul413_2, ge413_2⟩ := k47_openF hMe413
                                    have hv413_2 := hcc413 2 _ rfl
                                    rw [add_field _ _ 2 (by omega)] at hv413_2
                                    replace hv413_2 := Option.some.inj (hv413_2.symm.trans hx413_2)
                                    injection hv413_2 with hva_ hvn_ hvc_
                                    rw [hva_] at ge413_2
                                    rw [hvc_] at ul413_2
                                    have HL413_2 := Aside0.mk (show Kd.V Kd.bool 4 _ w.heap.size _ _ ((rd_T47 t398 x12_5).f2) from Kd.V_mk ul413_2 ge413_2)
                                    clear hva_ hvn_ hvc_ ge413_2 ul413_2
                                    clear hcc413 hce413
                                    have HR413_2 := Aside0.mk hi413_2
                                    have HC413_2 := Aside0.mk hl413_2
                                    clear hi413_2 hl413_2
                                    replace p413 := eq_true p413
                                    replace q413 := eq_true q413
                                    have p414 : 0 ≤ (x12_5 : Int) := of_decide_eq_true (by first | (with_reducible assumption) | assumption)
                                    have q414 : x12_5 < (t398.length : Int) := of_decide_eq_true (by first | (with_reducible assumption) | assumption)
                                    obtain ⟨ad414, A414_2, c414_2, e414, hx414_0, hx414_1, hx414_2, hl414_2, hi414_2⟩ := at_T47 (Kd.N_reads' HO_10.out).2.2 x12_5 p414 q414
                                    obtain rfl : ad413 = ad414 := (by injection e414)
                                    obtain ⟨ce414, hce414, hMe414, hcc414⟩ := Kd.N_get HO_10.out z47 x12_5 p414 (by first | exact q414 | exact of_decide_eq_true (by first | (with_reducible assumption) | assumption) | (have e_ := (Kd.N_reads' HO_10.out).1; omega))
                                    obtain ⟨ua414_2, uc414_2, rfl, ul414_2, ge414_2⟩ := k47_openF hMe414
                                    have hv414_2 := hcc414 2 _ rfl
                                    rw [add_field _ _ 2 (by omega)] at hv414_2
                                    replace hv414_2 := Option.some.inj (hv414_2.symm.trans hx414_2)
                                    injection hv414_2 with hva_ hvn_ hvc_
                                    rw [hva_] at ge414_2
                                    rw [hvc_] at ul414_2
                                    have HL414_2 := Aside0.mk (show Kd.V Kd.bool 4 _ w.heap.size _ _ ((rd_T47 t398 x12_5).f2) from Kd.V_mk ul414_2 ge414_2)
                                    clear hva_ hvn_ hvc_ ge414_2 ul414_2
                                    clear hcc414 hce414
                                    have HR414_2 := Aside0.mk hi414_2
                                    have HC414_2 := Aside0.mk hl414_2
                                    clear hi414_2 hl414_2
                                    replace p414 := eq_true p414
                                    replace q414 := eq_true q414
                                    have ea_ := Option.some.inj (hx413_2.symm.trans hx414_2)
                                    injection ea_ with ea_ en_ ec_
                                    subst ea_
                                    subst ec_
                                    clear en_
                                    go_wp2_with (first | ((with_reducible refine gate_builtin (b := .append) (xs := #[.tmp 90, .tmp 95]) rfl ?_); at_builtin; refine Kd.N_append k47 (w0 := w) w.heap.size rfl (.tmp 90) (.tmp 95) 24 47 (.agg #[(.int .i64 0), (.int .i64 0), (.slice none 0 0)]) 40 rfl Try.underlying24 info47 rfl (by decide) (by omega) u9 x9_5 (⟨(rd_T47 t398 x12_5).f0, (rd_T47 t398 x12_5).f1, (rd_T47 t398 x12_5).f2⟩ : S47) [.int .i64 ((rd_T47 t398 x12_5).f0), .int .i64 ((rd_T47 t398 x12_5).f1), .slice A413_2 ((rd_T47 t398 x12_5).f2).length c413_2] (fun k_ => (w.heap.size ≤ k_) ∧ some k_ ≠ (.slice (some ad413) t398.length co53 : Value).ownBlock ∧ k_ ≠ gb385) (fun k_ => ((fun k_ => (w.heap.size ≤ k_) ∧ some k_ ≠ (.slice (some ad413) t398.length co53 : Value).ownBlock ∧ k_ ≠ gb385)) k_ ∧ some k_ ≠ (u9 : Value).ownBlock) rfl rfl ?aP (fun _ hk => hk) ?aF ?aO ?aB ?aS ?aL ?_; (case aP => exact (k47_mkF _ _ (⟨(rd_T47 t398 x12_5).f0, (rd_T47 t398 x12_5).f1, (rd_T47 t398 x12_5).f2⟩ : S47) (Kd.V_reads' (Kd.V_mono (ok' := (fun k_ => ((fun k_ => (w.heap.size ≤ k_) ∧ some k_ ≠ (.slice (some ad413) t398.length co53 : Value).ownBlock ∧ k_ ≠ gb385)) k_ ∧ some k_ ≠ (u9 : Value).ownBlock)) (HL414_2.out) (fun k_ hk => ⟨⟨hk.1.1, ⟨hk.2, hk.1.2.2.2⟩⟩, hk.1.2.1⟩))).2.1 (Kd.V_F (Kd.V_mono (ok' := (fun k_ => ((fun k_ => (w.heap.size ≤ k_) ∧ some k_ ≠ (.slice (some ad413) t398.length co53 : Value).ownBlock ∧ k_ ≠ gb385)) k_ ∧ some k_ ≠ (u9 : Value).ownBlock)) (HL414_2.out) (fun k_ hk => ⟨⟨hk.1.1, ⟨hk.2, hk.1.2.2.2⟩⟩, hk.1.2.1⟩))))); (case aB => exact (by repeat (first | (with_reducible first | exact HB.out | apply below_alloc | apply pw_below_drewN | apply below_drew1 | refine below_set ?_ GE385.out) | exact HB.out))); (case aF => exact (fun k_ hk => ⟨(Nat.le_trans (below_size (by repeat (first | (with_reducible first | exact HB.out | apply below_alloc | apply pw_below_drewN | apply below_drew1 | refine below_set ?_ GE385.out) | exact HB.out))) hk), Kd.fresh' (Kd.N_lt (by (with_reducible repeat (first | apply Kd.N_alloc | apply Kd.N_drewN | apply Kd.N_drew)); exact HO_10.out)) k_ hk, Kd.freshB (g := gb385) (o := .cells #[.int .i64 a1, .int .i64 a2, .slice Ao56 x386002_8.length co56] 47 (0, 0)) (by (with_reducible repeat (first | refine blk_drewN ?_ _ | refine blk_drew ?_ | refine blk_alloc ?_ _)); exact BK385.out) k_ hk⟩)); (case aO => exact (by (with_reducible repeat (first | apply Kd.N_alloc | apply Kd.N_drewN | apply Kd.N_drew)); exact HO_9.out)); (case aS => exact (below_size (by repeat (first | (with_reducible first | exact HB.out | apply below_alloc | apply pw_below_drewN | apply below_drew1 | refine below_set ?_ GE385.out) | exact HB.out)))); (case aL => have := LMc60.out; omega); intro v416 w61 ho hb hg hat; rw [← Ny415.out] at ho; have n0_ := Aside0.mk (Kd.N_afterv (ok := (fun k_ => (w.heap.size ≤ k_) ∧ some k_ ≠ (.slice Ao56 x386002_8.length co56 : Value).ownBlock ∧ k_ ≠ gb385)) (by (with_reducible repeat (first | apply Kd.N_alloc | apply Kd.N_drewN | apply Kd.N_drew)); exact Kd.N_mono HO_10.out (fun _ hk => ⟨⟨hk.1, ⟨hk.2.2.1, hk.2.2.2⟩⟩, hk.2.1⟩)) hg hat); have n1_ := Aside0.mk (Kd.R_over' (by (with_reducible repeat (first | apply Kd.R_alloc | apply Kd.R_drewN | apply Kd.R_drew)); exact HO_386002.out) (Kd.N_typed (by (with_reducible repeat (first | apply Kd.N_alloc | apply Kd.N_drewN | apply Kd.N_drew)); exact HO_9.out)) (by decide) hg); have n2_ := Aside0.mk (blk_grown (g := gb385) (o := .cells #[.int .i64 a1, .int .i64 a2, .slice Ao56 x386002_8.length co56] 47 (0, 0)) (by (with_reducible repeat (first | refine blk_drewN ?_ _ | refine blk_drew ?_ | refine blk_alloc ?_ _)); exact BK385.out) hg (Kd.N_away HO_9.out (fun _ hk => hk.2.2))); have n3_ := Aside0.mk (Kd.V_afterv (ok := (fun k_ => (w.heap.size ≤ k_) ∧ some k_ ≠ (.slice (some ad413) t398.length co53 : Value).ownBlock ∧ some k_ ≠ (.slice Ao56 x386002_8.length co56 : Value).ownBlock ∧ k_ ≠ gb385)) (by (with_reducible repeat (first | apply Kd.V_alloc | apply Kd.V_drewN | apply Kd.V_drew)); exact Kd.V_mono HL413_2.out (fun _ hk => ⟨⟨hk.1.1, ⟨hk.2, ⟨hk.1.2.2.1, hk.1.2.2.2⟩⟩⟩, hk.1.2.1⟩)) hg hat); have n4_ := Aside0.mk (Kd.V_afterv (ok := (fun k_ => (w.heap.size ≤ k_) ∧ some k_ ≠ (.slice (some ad413) t398.length co53 : Value).ownBlock ∧ some k_ ≠ (.slice Ao56 x386002_8.length co56 : Value).ownBlock ∧ k_ ≠ gb385)) (by (with_reducible repeat (first | apply Kd.V_alloc | apply Kd.V_drewN | apply Kd.V_drew)); exact Kd.V_mono HL414_2.out (fun _ hk => ⟨⟨hk.1.1, ⟨hk.2, ⟨hk.1.2.2.1, hk.1.2.2.2⟩⟩⟩, hk.1.2.1⟩)) hg hat); have n5_ := Aside0.mk (hb); have n6_ := Aside0.mk (ho); clear HO_10; clear HO_386002; clear BK385; clear HL413_2; clear HL414_2; clear HB; clear HO_9; have HO_10 := n0_; have HO_386002 := n1_; have BK385 := n2_; have HL413_2 := n3_; have HL414_2 := n4_; have HB := n5_; have HO417 := n6_; clear n0_ n1_ n2_ n3_ n4_ n5_ n6_; clear ho hb hg hat))
                                    go_roundg k5
                                    case measure => have := HJ3.out; have := HJ8.out; have := HJ24.out; have := HK4.out; have := HK5.out; omega
                                    case rel => exact ⟨(y415), (wrap64 (x12_5 + 1)), (by first | rfl | (simp; done) | (simp [*]; done)), H', ⟨by have := HJ3.out; have := HJ8.out; have := HJ24.out; have := HK4.out; have := HK5.out; omega⟩, ⟨by (with_reducible repeat (first | apply Kd.N_alloc | apply Kd.N_drewN | apply Kd.N_drew)); exact HO417.out⟩, ⟨by (with_reducible repeat (first | apply Kd.N_alloc | apply Kd.N_drewN | apply Kd.N_drew)); exact Kd.N_mono HO_10.out (fun _ hk => ⟨hk.1.1, ⟨hk.2, ⟨hk.1.2.1, hk.1.2.2⟩⟩⟩)⟩, ⟨by (with_reducible repeat (first | apply Kd.R_alloc | apply Kd.R_drewN | apply Kd.R_drew)); exact HO_386002.out⟩, ⟨by (with_reducible repeat (first | refine blk_drewN ?_ _ | refine blk_drew ?_ | refine blk_alloc ?_ _)); exact BK385.out⟩, ⟨by repeat (first | (with_reducible first | exact HB.out | apply below_alloc | apply pw_below_drewN | apply below_drew1 | refine below_set ?_ GE385.out) | exact HB.out)⟩⟩
                                  · rw [if_neg c60] at H
                                    exact absurd H (by simp)
                                · rw [if_neg c59] at H
                                  have c59b0 : decide (a1 < ((rd_T47 t398 x12_5).f0)) = false := decide_eq_false c59
                                  clear c59
                                  have H' := Aside0.mk H
                                  clear H
                                  have p413 : 0 ≤ (x12_5 : Int) := of_decide_eq_true (by first | (with_reducible assumption) | assumption)
                                  have q413 : x12_5 < (t398.length : Int) := of_decide_eq_true (by first | (with_reducible assumption) | assumption)
                                  obtain ⟨ad413, A413_2, c413_2, e413, hx413_0, hx413_1, hx413_2, hl413_2, hi413_2⟩ := at_T47 (Kd.N_reads' HO_10.out).2.2 x12_5 p413 q413
                                  cases e413
                                  obtain ⟨ce413, hce413, hMe413, hcc413⟩ := Kd.N_get HO_10.out z47 x12_5 p413 (by first | exact q413 | exact of_decide_eq_true (by first | (with_reducible assumption) | assumption) | (have e_ := (Kd.N_reads' HO_10.out).1; omega))
                                  obtain ⟨ua413_2, uc413_2, rfl, ul413_2, ge413_2⟩ := k47_openF hMe413
                                  have hv413_2 := hcc413 2 _ rfl
                                  rw [add_field _ _ 2 (by omega)] at hv413_2
                                  replace hv413_2 := Option.some.inj (hv413_2.symm.trans hx413_2)
                                  injection hv413_2 with hva_ hvn_ hvc_
                                  rw [hva_] at ge413_2
                                  rw [hvc_] at ul413_2
                                  have HL413_2 := Aside0.mk (show Kd.V Kd.bool 4 _ w.heap.size _ _ ((rd_T47 t398 x12_5).f2) from Kd.V_mk ul413_2 ge413_2)
                                  clear hva_ hvn_ hvc_ ge413_2 ul413_2
                                  clear hcc413 hce413
                                  have HR413_2 := Aside0.mk hi413_2
                                  have HC413_2 := Aside0.mk hl413_2
                                  clear hi413_2 hl413_2
                                  replace p413 := eq_true p413
                                  replace q413 := eq_true q413
                                  go_wp2
                                  go_roundg k5
                                  case measure => have := HJ3.out; have := HJ8.out; have := HJ24.out; have := HK4.out; have := HK5.out; omega
                                  case rel => exact ⟨(x9_5), (wrap64 (x12_5 + 1)), (by first | rfl | (simp; done) | (simp [*]; done)), H', ⟨by have := HJ3.out; have := HJ8.out; have := HJ24.out; have := HK4.out; have := HK5.out; omega⟩, ⟨by (with_reducible repeat (first | apply Kd.N_alloc | apply Kd.N_drewN | apply Kd.N_drew)); exact HO_9.out⟩, ⟨by (with_reducible repeat (first | apply Kd.N_alloc | apply Kd.N_drewN | apply Kd.N_drew)); exact HO_10.out⟩, ⟨by (with_reducible repeat (first | apply Kd.R_alloc | apply Kd.R_drewN | apply Kd.R_drew)); exact HO_386002.out⟩, ⟨by (with_reducible repeat (first | refine blk_drewN ?_ _ | refine blk_drew ?_ | refine blk_alloc ?_ _)); exact BK385.out⟩, ⟨by repeat (first | (with_reducible first | exact HB.out | apply below_alloc | apply pw_below_drewN | apply below_drew1 | refine below_set ?_ GE385.out) | exact HB.out)⟩⟩
                              · rw [if_neg c58] at H
                                exact absurd H (by simp)
                            · rw [if_neg c57] at H
                              have c57b0 : decide (x12_5 < (t398.length : Int)) = false := decide_eq_false c57
                              clear c57
                              replace H := Option.bind_eq_some_iff.mp H
                              obtain ⟨t418, A620, H⟩ := H
                              replace H : (if t418 = true then (some (x9_5, true)) else (some ((([] : List (S47))), false))) = some (r1, r2) := H
                              have A62 := Aside0.mk A620
                              clear A620
                              by_cases c63 : t418 = true
                              · subst c63
                                have H1 : (some (x9_5, true)) = some (r1, r2) := by rw [if_pos rfl] at H; exact H
                                clear H
                                have H := H1
                                clear H1
                                simp only [Option.some.injEq, Prod.mk.injEq] at H
                                obtain ⟨rfl, rfl⟩ := H
                                obtain ⟨Ao64, co64, eo64⟩ := Kd.N_slice HO_9.out
                                subst eo64
                                go_wp2_with (first | ((with_reducible refine gate_callee (f := 15) rfl ?_); refine goesL_ (some 98) rfl rfl Try.func15 (by kernel_rfl) rfl #[.slice Ao64 x9_5.length co64] rfl (by (try simp only [List.map_toArray, List.map_cons, List.map_nil]); first | done | rfl | (simp only [List.length_drop, List.length_take]; rfl)) ?_; (with_reducible refine (spec_SlabsOk.calls k5 _ _ x9_5 true _ ?side1 ?side2 A62.out).mono ?_); (case side1 => repeat (first | exact (Kd.N_reads' HO_9.out).2.2 | (with_reducible refine Kd.C_alloc ?_ _) | (with_reducible refine Kd.C_drewN ?_ _) | (with_reducible refine Kd.C_drew ?_))); (case side2 => exact (Kd.N_reads' HO_9.out).2.1); rintro e w65 ⟨rfl, hb⟩; refine ⟨_, rfl, ?_⟩; have n0_ := Aside0.mk (Kd.N_below (by (with_reducible repeat (first | apply Kd.N_alloc | apply Kd.N_drewN | apply Kd.N_drew)); exact HO_9.out) hb); have n1_ := Aside0.mk (Kd.N_below (by (with_reducible repeat (first | apply Kd.N_alloc | apply Kd.N_drewN | apply Kd.N_drew)); exact HO_10.out) hb); have n2_ := Aside0.mk (Kd.R_below (by (with_reducible repeat (first | apply Kd.R_alloc | apply Kd.R_drewN | apply Kd.R_drew)); exact HO_386002.out) hb); have n3_ := Aside0.mk (blk_below (g := gb385) (o := .cells #[.int .i64 a1, .int .i64 a2, .slice Ao56 x386002_8.length co56] 47 (0, 0)) (by (with_reducible repeat (first | refine blk_drewN ?_ _ | refine blk_drew ?_ | refine blk_alloc ?_ _)); exact BK385.out) hb); have n4_ := Aside0.mk (below_step (by repeat (first | (with_reducible first | exact HB.out | apply below_alloc | apply pw_below_drewN | apply below_drew1 | refine below_set ?_ GE385.out) | exact HB.out)) hb); clear HO_9; clear HO_10; clear HO_386002; clear BK385; clear HB; have HO_9 := n0_; have HO_10 := n1_; have HO_386002 := n2_; have BK385 := n3_; have HB := n4_; clear n0_ n1_ n2_ n3_ n4_; (try clear hb); (try clear hb2); (try clear hk); (try clear hi)))
                                go_ret2
                                exact ⟨_, by first | rfl | (simp [errW_none, errW_some] <;> rfl) | (simp [*, errW_none, errW_some] <;> rfl), by (with_reducible repeat (first | apply Kd.N_alloc | apply Kd.N_drewN | apply Kd.N_drew)); exact Kd.N_mono HO_9.out (fun _ hk => hk.1), by repeat (first | (with_reducible first | exact HB.out | apply below_alloc | apply pw_below_drewN | apply below_drew1 | refine below_set ?_ GE385.out) | exact HB.out)⟩
                              · replace c63 := Bool.eq_false_iff.mpr c63
                                subst c63
                                have H1 : (some ((([] : List (S47))), false)) = some (r1, r2) := by rw [if_neg (show ¬ (false = true) by decide)] at H; exact H
                                clear H
                                have H := H1
                                clear H1
                                obtain ⟨y419, hy419⟩ : ∃ y_ : List (S47), y_ = (([] : List (S47))) := ⟨_, rfl⟩
                                replace H : (some (y419, false)) = some (r1, r2) := by first | (rw [hy419]; with_reducible exact H) | (have H2_ := (Option.bind_some _ _).symm.trans H; rw [hy419]; with_reducible exact H2_) | (have H2_ := (Option.bind_some _ _).symm.trans H; with_reducible exact H2_) | with_reducible exact H | (rw [hy419]; exact H) | exact H
                                have Ny419 := Aside0.mk hy419
                                clear hy419
                                simp only [Option.some.injEq, Prod.mk.injEq] at H
                                obtain ⟨rfl, rfl⟩ := H
                                obtain ⟨Ao66, co66, eo66⟩ := Kd.N_slice HO_9.out
                                subst eo66
                                go_wp2_with (first | ((with_reducible refine gate_callee (f := 15) rfl ?_); refine goesL_ (some 98) rfl rfl Try.func15 (by kernel_rfl) rfl #[.slice Ao66 x9_5.length co66] rfl (by (try simp only [List.map_toArray, List.map_cons, List.map_nil]); first | done | rfl | (simp only [List.length_drop, List.length_take]; rfl)) ?_; (with_reducible refine (spec_SlabsOk.calls k5 _ _ x9_5 false _ ?side1 ?side2 A62.out).mono ?_); (case side1 => repeat (first | exact (Kd.N_reads' HO_9.out).2.2 | (with_reducible refine Kd.C_alloc ?_ _) | (with_reducible refine Kd.C_drewN ?_ _) | (with_reducible refine Kd.C_drew ?_))); (case side2 => exact (Kd.N_reads' HO_9.out).2.1); rintro e w67 ⟨rfl, hb⟩; refine ⟨_, rfl, ?_⟩; have n0_ := Aside0.mk (Kd.N_below (by (with_reducible repeat (first | apply Kd.N_alloc | apply Kd.N_drewN | apply Kd.N_drew)); exact HO_9.out) hb); have n1_ := Aside0.mk (Kd.N_below (by (with_reducible repeat (first | apply Kd.N_alloc | apply Kd.N_drewN | apply Kd.N_drew)); exact HO_10.out) hb); have n2_ := Aside0.mk (Kd.R_below (by (with_reducible repeat (first | apply Kd.R_alloc | apply Kd.R_drewN | apply Kd.R_drew)); exact HO_386002.out) hb); have n3_ := Aside0.mk (blk_below (g := gb385) (o := .cells #[.int .i64 a1, .int .i64 a2, .slice Ao56 x386002_8.length co56] 47 (0, 0)) (by (with_reducible repeat (first | refine blk_drewN ?_ _ | refine blk_drew ?_ | refine blk_alloc ?_ _)); exact BK385.out) hb); have n4_ := Aside0.mk (below_step (by repeat (first | (with_reducible first | exact HB.out | apply below_alloc | apply pw_below_drewN | apply below_drew1 | refine below_set ?_ GE385.out) | exact HB.out)) hb); clear HO_9; clear HO_10; clear HO_386002; clear BK385; clear HB; have HO_9 := n0_; have HO_10 := n1_; have HO_386002 := n2_; have BK385 := n3_; have HB := n4_; clear n0_ n1_ n2_ n3_ n4_; (try clear hb); (try clear hb2); (try clear hk); (try clear hi)) | ((with_reducible refine gate_dst (N := 100) rfl ?_); refine Kd.N_lit k47 _ 47 ?hg (N' := 100) ?hd (xs := ([] : List (S47))) (inner := []) (ok := (fun k_ => (w.heap.size ≤ k_) ∧ some k_ ≠ (.slice Ao66 x9_5.length co66 : Value).ownBlock ∧ some k_ ≠ (.slice Ao53 t398.length co53 : Value).ownBlock ∧ some k_ ≠ (.slice Ao56 x386002_8.length co56 : Value).ownBlock ∧ k_ ≠ gb385)) (okp := (fun k_ => (w.heap.size ≤ k_) ∧ some k_ ≠ (.slice Ao66 x9_5.length co66 : Value).ownBlock ∧ some k_ ≠ (.slice Ao53 t398.length co53 : Value).ownBlock ∧ some k_ ≠ (.slice Ao56 x386002_8.length co56 : Value).ownBlock ∧ k_ ≠ gb385)) ?hr ?hp (fun _ hk => hk) ((show ∀ k_, w67.heap.size ≤ k_ → (fun k_ => (w.heap.size ≤ k_) ∧ some k_ ≠ (.slice Ao66 x9_5.length co66 : Value).ownBlock ∧ some k_ ≠ (.slice Ao53 t398.length co53 : Value).ownBlock ∧ some k_ ≠ (.slice Ao56 x386002_8.length co56 : Value).ownBlock ∧ k_ ≠ gb385) k_ from fun k_ hk => ⟨(Nat.le_trans (below_size (by repeat (first | (with_reducible first | exact HB.out | apply below_alloc | apply pw_below_drewN | apply below_drew1 | refine below_set ?_ GE385.out) | exact HB.out))) hk), Kd.fresh' (Kd.N_lt (by (with_reducible repeat (first | apply Kd.N_alloc | apply Kd.N_drewN | apply Kd.N_drew)); exact HO_9.out)) k_ hk, Kd.fresh' (Kd.N_lt (by (with_reducible repeat (first | apply Kd.N_alloc | apply Kd.N_drewN | apply Kd.N_drew)); exact HO_10.out)) k_ hk, Kd.fresh' (Kd.R_lt (by (with_reducible repeat (first | apply Kd.R_alloc | apply Kd.R_drewN | apply Kd.R_drew)); exact HO_386002.out)) k_ hk, Kd.freshB (g := gb385) (o := .cells #[.int .i64 a1, .int .i64 a2, .slice Ao56 x386002_8.length co56] 47 (0, 0)) (by (with_reducible repeat (first | refine blk_drewN ?_ _ | refine blk_drew ?_ | refine blk_alloc ?_ _)); exact BK385.out) k_ hk⟩) _ (Nat.le_refl _)) (Below.refl _ _) (Nat.le_refl _) (by simp) ?_; (case hd => rfl); (case hg => rfl); (case hr => first | (go_simp; done) | (go_simp; rfl)); (case hp => exact (Reps.none _ _)); intro v420 w68 ho69 hb hg_ hnew_; clear hg_ hnew_; (first | rw [← Ny419.out] at ho69 | (simp only [Int.reduceToNat] at ho69; rw [← Ny419.out] at ho69)); have n0_ := Aside0.mk (Kd.N_elder' (by (with_reducible repeat (first | apply Kd.N_alloc | apply Kd.N_drewN | apply Kd.N_drew)); exact HO_9.out) (Kd.N_base ho69) hb); have n1_ := Aside0.mk (Kd.N_elder' (by (with_reducible repeat (first | apply Kd.N_alloc | apply Kd.N_drewN | apply Kd.N_drew)); exact HO_10.out) (Kd.N_base ho69) hb); have n2_ := Aside0.mk (Kd.R_below (by (with_reducible repeat (first | apply Kd.R_alloc | apply Kd.R_drewN | apply Kd.R_drew)); exact HO_386002.out) hb); have n3_ := Aside0.mk (Kd.N_lower ho69 (below_size (by repeat (first | (with_reducible first | exact HB.out | apply below_alloc | apply pw_below_drewN | apply below_drew1 | refine below_set ?_ GE385.out) | exact HB.out)))); have n4_ := Aside0.mk (blk_below (g := gb385) (o := .cells #[.int .i64 a1, .int .i64 a2, .slice Ao56 x386002_8.length co56] 47 (0, 0)) (by (with_reducible repeat (first | refine blk_drewN ?_ _ | refine blk_drew ?_ | refine blk_alloc ?_ _)); exact BK385.out) hb); have n5_ := Aside0.mk (below_step (by repeat (first | (with_reducible first | exact HB.out | apply below_alloc | apply pw_below_drewN | apply below_drew1 | refine below_set ?_ GE385.out) | exact HB.out)) hb); clear HO_9; clear HO_10; clear HO_386002; clear BK385; clear HB; have HO_9 := n0_; have HO_10 := n1_; have HO_386002 := n2_; have HO421 := n3_; have BK385 := n4_; have HB := n5_; clear n0_ n1_ n2_ n3_ n4_ n5_; clear hb ho69))
                                go_ret2
                                exact ⟨_, by first | rfl | (simp [errW_none, errW_some] <;> rfl) | (simp [*, errW_none, errW_some] <;> rfl), by (with_reducible repeat (first | apply Kd.N_alloc | apply Kd.N_drewN | apply Kd.N_drew)); exact Kd.N_mono HO421.out (fun _ hk => hk.1), by repeat (first | (with_reducible first | exact HB.out | apply below_alloc | apply pw_below_drewN | apply below_drew1 | refine below_set ?_ GE385.out) | exact HB.out)⟩
                      · rw [if_neg c52] at H
                        exact absurd H (by simp)

end Go.Proofs.Ytpkdfdkicblheaa.P
end
section
namespace Go.Proofs.Ytpkdfdkicblheaa.P
open Go.RowKit Go.Proofs.YtpkdfdkicblheaaW.PrintWords Go.Proofs.YtpkdfdkicblheaaW.PrintLast Go.Proofs.YtpkdfdkicblheaaW.PrintMore
set_option linter.unusedVariables false
set_option linter.unusedSimpArgs false

set_option maxHeartbeats 8000000 in
set_option maxRecDepth 100000 in
theorem laws_FnExactAddSlab.walk (k : Nat) (A0 : Option Addr) (c0 : Nat) (l0 : List (S45)) (a1 : Int) (a2 : Int) (z : Int) (t : List (S47)) (y0 : List (S47)) (y1 : Bool) (m : Int) (M : List S47) (m1 : Int) (M1 : List S47) (w : World) (hr0 : Kd.C k45 w A0 l0.length l0) (hc0 : l0.length ≤ c0) (f0 : laws_szSlabS.f k l0 1048576 = some z) (f1 : laws_toSlabS.f k l0 = some t) (f2 : spec_AddSlab.f k t a1 a2 = some (y0, y1)) (f3 : impl_AddSlab.f k t a1 a2 = some (y0, y1)) (f4 : laws_eqSlabS.f k y0 y0 = some true) (f5 : laws_eqSlabS.f k t t = some true) (f6 : laws_markSlabS.f k t 1 = some (m, M)) (f7 : laws_markSlabS.f k y0 1 = some (m1, M1)) (f8 : laws_heldSlabS.f k M1 1 = some m1) (n0 : ¬ z < 0) (n1 : ¬ m < 0) (n2 : ¬ m1 < 0) :
    Calls Try.prog 5 #[.slice A0 l0.length c0, .int .i64 a1, .int .i64 a2] w fun e w' => e = .returned (.bool true) ∧ Below w.heap.size w w' := by
  have HR0 := Aside0.mk hr0
  have HC0 := Aside0.mk hc0
  clear hr0 hc0
  have HB := Aside0.mk (Below.refl w.heap.size w)
  have Ff0 := Aside0.mk f0
  have Ff1 := Aside0.mk f1
  have Ff2 := Aside0.mk f2
  have Ff3 := Aside0.mk f3
  have Ff4 := Aside0.mk f4
  have Ff5 := Aside0.mk f5
  have Ff6 := Aside0.mk f6
  have Ff7 := Aside0.mk f7
  have Ff8 := Aside0.mk f8
  clear f0 f1 f2 f3 f4 f5 f6 f7 f8
  have nb0 : decide (z < 0) = false := decide_eq_false n0
  have nb1 : decide (m < 0) = false := decide_eq_false n1
  have nb2 : decide (m1 < 0) = false := decide_eq_false n2
  have eb0 : (y1 != y1) = false := bne_self_eq_false y1
  have eb1 : (m1 != m1) = false := bne_self_eq_false m1
  go_enter Try.func5, Try.ntmps5
  go_wp2_with (first | ((with_reducible refine gate_callee (f := 6) rfl ?_); refine goesL_ (some 20) rfl rfl Try.func6 (by kernel_rfl) rfl #[.slice A0 l0.length c0, .int .i64 (1048576)] rfl (by (try simp only [List.map_toArray, List.map_cons, List.map_nil]); first | done | rfl | (simp only [List.length_drop, List.length_take]; rfl)) ?_; (with_reducible refine (laws_szSlabS.calls k A0 c0 l0 (1048576) _ _ ?side1 ?side2 Ff0.out).mono ?_); (case side1 => exact Kd.C_below HR0.out HB.out); (case side2 => exact HC0.out); rintro e w1_ ⟨rfl, hb⟩; refine ⟨_, rfl, ?_⟩; have n0_ := Aside0.mk (below_step HB.out hb); have z_ := Aside0.mk (show w.heap.size ≤ w1_.heap.size from hb.size); (try clear HB); have HB := n0_; have Z := z_; clear z_ n0_; (try clear hb); (try clear hkp); (try clear hy); (try clear hd_)) | ((with_reducible refine gate_callee (f := 8) rfl ?_); refine goesL_ (some 25) rfl rfl Try.func8 (by kernel_rfl) rfl #[.slice A0 l0.length c0] rfl (by (try simp only [List.map_toArray, List.map_cons, List.map_nil]); first | done | rfl | (simp only [List.length_drop, List.length_take]; rfl)) ?_; (with_reducible refine (laws_toSlabS.calls k A0 c0 l0 _ _ ?side1 ?side2 Ff1.out).mono ?_); (case side1 => exact Kd.C_below HR0.out HB.out); (case side2 => exact HC0.out); rintro e w2_ ⟨v1_0, rfl, ho0, hb⟩; refine ⟨_, rfl, ?_⟩; have n0_ := Aside0.mk (Kd.S_lower (Kd.S_mono (Kd.S_bound ho0) (fun k_ hk_ => (⟨hk_.2.1, hk_.2.2.1⟩ : w1_.heap.size ≤ k_ ∧ k_ < w2_.heap.size))) HB.out.size); have n1_ := Aside0.mk (below_step HB.out hb); have z_ := Aside0.mk (show w.heap.size ≤ w1_.heap.size ∧ w1_.heap.size ≤ w2_.heap.size from ⟨Z.out, hb.size⟩); (try clear HB Z); have HO1 := n0_; have HB := n1_; have Z := z_; clear z_ n0_ n1_; (try clear hb); (try clear hkp); (try clear hy); (try clear hd_); (try clear ho0); obtain ⟨Ao1, co1, eo_⟩ := Kd.S_slice HO1.out; subst eo_) | ((with_reducible refine gate_callee (f := 20) rfl ?_); refine goesL_ (some 28) rfl rfl Try.func20 (by kernel_rfl) rfl #[.slice Ao1 t.length co1, .int .i64 (a1), .int .i64 (a2)] rfl (by (try simp only [List.map_toArray, List.map_cons, List.map_nil]); first | done | rfl | (simp only [List.length_drop, List.length_take]; rfl)) ?_; (with_reducible refine (spec_AddSlab.calls k Ao1 co1 t (a1) (a2) _ _ _ ?side1 ?side2 Ff2.out).mono ?_); (case side1 => exact (Kd.S_reads' HO1.out).2.2); (case side2 => exact (Kd.S_reads' HO1.out).2.1); rintro e w3_ ⟨v2_0, rfl, ho0, hb⟩; refine ⟨_, rfl, ?_⟩; have n0_ := Aside0.mk (Kd.S_below HO1.out hb); have n1_ := Aside0.mk (Kd.N_lower (Kd.N_mono (Kd.N_bound ho0) (fun k_ hk_ => (⟨hk_.1, hk_.2⟩ : w2_.heap.size ≤ k_ ∧ k_ < w3_.heap.size))) HB.out.size); have n2_ := Aside0.mk (below_step HB.out hb); have z_ := Aside0.mk (show w.heap.size ≤ w1_.heap.size ∧ w1_.heap.size ≤ w2_.heap.size ∧ w2_.heap.size ≤ w3_.heap.size from ⟨Z.out.1, Z.out.2, hb.size⟩); (try clear HB HO1 Z); have HO1 := n0_; have HO2 := n1_; have HB := n2_; have Z := z_; clear z_ n0_ n1_ n2_; (try clear hb); (try clear hkp); (try clear hy); (try clear hd_); (try clear ho0); obtain ⟨Ao2, co2, eo_⟩ := Kd.N_slice HO2.out; subst eo_) | ((with_reducible refine gate_callee (f := 8) rfl ?_); refine goesL_ (some 32) rfl rfl Try.func8 (by kernel_rfl) rfl #[.slice A0 l0.length c0] rfl (by (try simp only [List.map_toArray, List.map_cons, List.map_nil]); first | done | rfl | (simp only [List.length_drop, List.length_take]; rfl)) ?_; (with_reducible refine (laws_toSlabS.calls k A0 c0 l0 _ _ ?side1 ?side2 Ff1.out).mono ?_); (case side1 => exact Kd.C_below HR0.out HB.out); (case side2 => exact HC0.out); rintro e w4_ ⟨v3_0, rfl, ho0, hb⟩; refine ⟨_, rfl, ?_⟩; have n0_ := Aside0.mk (Kd.N_below HO2.out hb); have n1_ := Aside0.mk (Kd.S_lower (Kd.S_mono (Kd.S_bound ho0) (fun k_ hk_ => (⟨hk_.2.1, hk_.2.2.1⟩ : w3_.heap.size ≤ k_ ∧ k_ < w4_.heap.size))) HB.out.size); have n2_ := Aside0.mk (below_step HB.out hb); have z_ := Aside0.mk (show w.heap.size ≤ w1_.heap.size ∧ w1_.heap.size ≤ w2_.heap.size ∧ w2_.heap.size ≤ w3_.heap.size ∧ w3_.heap.size ≤ w4_.heap.size from ⟨Z.out.1, Z.out.2.1, Z.out.2.2, hb.size⟩); (try clear HB HO2 Z); have HO2 := n0_; have HO3 := n1_; have HB := n2_; have Z := z_; clear z_ n0_ n1_ n2_; (try clear hb); (try clear hkp); (try clear hy); (try clear hd_); (try clear ho0); obtain ⟨Ao3, co3, eo_⟩ := Kd.S_slice HO3.out; subst eo_) | ((with_reducible refine gate_callee (f := 16) rfl ?_); refine goesL_ (some 37) rfl rfl Try.func16 (by kernel_rfl) rfl #[.slice Ao3 t.length co3, .int .i64 (a1), .int .i64 (a2)] rfl (by (try simp only [List.map_toArray, List.map_cons, List.map_nil]); first | done | rfl | (simp only [List.length_drop, List.length_take]; rfl)) ?_; (with_reducible refine (impl_AddSlab.calls k Ao3 co3 t (a1) (a2) _ _ _ ?side1 ?side2 Ff3.out).mono ?_); (case side1 => exact (Kd.S_reads' HO3.out).2.2); (case side2 => exact (Kd.S_reads' HO3.out).2.1); rintro e w5_ ⟨v4_0, rfl, ho0, hb⟩; refine ⟨_, rfl, ?_⟩; have n0_ := Aside0.mk (Kd.N_below HO2.out hb); have n1_ := Aside0.mk (Kd.S_below HO3.out hb); have n2_ := Aside0.mk (Kd.S_lower (Kd.S_mono (Kd.S_bound ho0) (fun k_ hk_ => (⟨hk_.2.1, hk_.2.2.1⟩ : w4_.heap.size ≤ k_ ∧ k_ < w5_.heap.size))) HB.out.size); have n3_ := Aside0.mk (below_step HB.out hb); have z_ := Aside0.mk (show w.heap.size ≤ w1_.heap.size ∧ w1_.heap.size ≤ w2_.heap.size ∧ w2_.heap.size ≤ w3_.heap.size ∧ w3_.heap.size ≤ w4_.heap.size ∧ w4_.heap.size ≤ w5_.heap.size from ⟨Z.out.1, Z.out.2.1, Z.out.2.2.1, Z.out.2.2.2, hb.size⟩); (try clear HB HO2 HO3 Z); have HO2 := n0_; have HO3 := n1_; have HO4 := n2_; have HB := n3_; have Z := z_; clear z_ n0_ n1_ n2_ n3_; (try clear hb); (try clear hkp); (try clear hy); (try clear hd_); (try clear ho0); obtain ⟨Ao4, co4, eo_⟩ := Kd.S_slice HO4.out; subst eo_) | ((with_reducible refine gate_callee (f := 10) rfl ?_); refine goesL_ (some 42) rfl rfl Try.func10 (by kernel_rfl) rfl #[.slice Ao4 y0.length co4, .slice Ao2 y0.length co2] rfl (by (try simp only [List.map_toArray, List.map_cons, List.map_nil]); first | done | rfl | (simp only [List.length_drop, List.length_take]; rfl)) ?_; (with_reducible refine (laws_eqSlabS.calls k Ao4 co4 y0 Ao2 co2 y0 _ _ ?side1 ?side2 ?side3 ?side4 Ff4.out).mono ?_); (case side1 => exact (Kd.S_reads' HO4.out).2.2); (case side2 => exact (Kd.S_reads' HO4.out).2.1); (case side3 => exact (Kd.N_reads' HO2.out).2.2); (case side4 => exact (Kd.N_reads' HO2.out).2.1); rintro e w6_ ⟨rfl, hb⟩; refine ⟨_, rfl, ?_⟩; have n0_ := Aside0.mk (Kd.N_below HO2.out hb); have n1_ := Aside0.mk (Kd.S_below HO3.out hb); have n2_ := Aside0.mk (Kd.S_below HO4.out hb); have n3_ := Aside0.mk (below_step HB.out hb); have z_ := Aside0.mk (show w.heap.size ≤ w1_.heap.size ∧ w1_.heap.size ≤ w2_.heap.size ∧ w2_.heap.size ≤ w3_.heap.size ∧ w3_.heap.size ≤ w4_.heap.size ∧ w4_.heap.size ≤ w5_.heap.size ∧ w5_.heap.size ≤ w6_.heap.size from ⟨Z.out.1, Z.out.2.1, Z.out.2.2.1, Z.out.2.2.2.1, Z.out.2.2.2.2, hb.size⟩); (try clear HB HO2 HO3 HO4 Z); have HO2 := n0_; have HO3 := n1_; have HO4 := n2_; have HB := n3_; have Z := z_; clear z_ n0_ n1_ n2_ n3_; (try clear hb); (try clear hkp); (try clear hy); (try clear hd_)) | ((with_reducible refine gate_callee (f := 8) rfl ?_); refine goesL_ (some 51) rfl rfl Try.func8 (by kernel_rfl) rfl #[.slice A0 l0.length c0] rfl (by (try simp only [List.map_toArray, List.map_cons, List.map_nil]); first | done | rfl | (simp only [List.length_drop, List.length_take]; rfl)) ?_; (with_reducible refine (laws_toSlabS.calls k A0 c0 l0 _ _ ?side1 ?side2 Ff1.out).mono ?_); (case side1 => exact Kd.C_below HR0.out HB.out); (case side2 => exact HC0.out); rintro e w7_ ⟨v6_0, rfl, ho0, hb⟩; refine ⟨_, rfl, ?_⟩; have n0_ := Aside0.mk (Kd.N_below HO2.out hb); have n1_ := Aside0.mk (Kd.S_below HO3.out hb); have n2_ := Aside0.mk (Kd.S_below HO4.out hb); have n3_ := Aside0.mk (Kd.S_lower (Kd.S_mono (Kd.S_bound ho0) (fun k_ hk_ => (⟨hk_.2.1, hk_.2.2.1⟩ : w6_.heap.size ≤ k_ ∧ k_ < w7_.heap.size))) HB.out.size); have n4_ := Aside0.mk (below_step HB.out hb); have z_ := Aside0.mk (show w.heap.size ≤ w1_.heap.size ∧ w1_.heap.size ≤ w2_.heap.size ∧ w2_.heap.size ≤ w3_.heap.size ∧ w3_.heap.size ≤ w4_.heap.size ∧ w4_.heap.size ≤ w5_.heap.size ∧ w5_.heap.size ≤ w6_.heap.size ∧ w6_.heap.size ≤ w7_.heap.size from ⟨Z.out.1, Z.out.2.1, Z.out.2.2.1, Z.out.2.2.2.1, Z.out.2.2.2.2.1, Z.out.2.2.2.2.2, hb.size⟩); (try clear HB HO2 HO3 HO4 Z); have HO2 := n0_; have HO3 := n1_; have HO4 := n2_; have HO5 := n3_; have HB := n4_; have Z := z_; clear z_ n0_ n1_ n2_ n3_ n4_; (try clear hb); (try clear hkp); (try clear hy); (try clear hd_); (try clear ho0); obtain ⟨Ao5, co5, eo_⟩ := Kd.S_slice HO5.out; subst eo_) | ((with_reducible refine gate_callee (f := 10) rfl ?_); refine goesL_ (some 52) rfl rfl Try.func10 (by kernel_rfl) rfl #[.slice Ao3 t.length co3, .slice Ao5 t.length co5] rfl (by (try simp only [List.map_toArray, List.map_cons, List.map_nil]); first | done | rfl | (simp only [List.length_drop, List.length_take]; rfl)) ?_; (with_reducible refine (laws_eqSlabS.calls k Ao3 co3 t Ao5 co5 t _ _ ?side1 ?side2 ?side3 ?side4 Ff5.out).mono ?_); (case side1 => exact (Kd.S_reads' HO3.out).2.2); (case side2 => exact (Kd.S_reads' HO3.out).2.1); (case side3 => exact (Kd.S_reads' HO5.out).2.2); (case side4 => exact (Kd.S_reads' HO5.out).2.1); rintro e w8_ ⟨rfl, hb⟩; refine ⟨_, rfl, ?_⟩; have n0_ := Aside0.mk (Kd.N_below HO2.out hb); have n1_ := Aside0.mk (Kd.S_below HO3.out hb); have n2_ := Aside0.mk (Kd.S_below HO4.out hb); have n3_ := Aside0.mk (Kd.S_below HO5.out hb); have n4_ := Aside0.mk (below_step HB.out hb); have z_ := Aside0.mk (show w.heap.size ≤ w1_.heap.size ∧ w1_.heap.size ≤ w2_.heap.size ∧ w2_.heap.size ≤ w3_.heap.size ∧ w3_.heap.size ≤ w4_.heap.size ∧ w4_.heap.size ≤ w5_.heap.size ∧ w5_.heap.size ≤ w6_.heap.size ∧ w6_.heap.size ≤ w7_.heap.size ∧ w7_.heap.size ≤ w8_.heap.size from ⟨Z.out.1, Z.out.2.1, Z.out.2.2.1, Z.out.2.2.2.1, Z.out.2.2.2.2.1, Z.out.2.2.2.2.2.1, Z.out.2.2.2.2.2.2, hb.size⟩); (try clear HB HO2 HO3 HO4 HO5 Z); have HO2 := n0_; have HO3 := n1_; have HO4 := n2_; have HO5 := n3_; have HB := n4_; have Z := z_; clear z_ n0_ n1_ n2_ n3_ n4_; (try clear hb); (try clear hkp); (try clear hy); (try clear hd_)) | ((with_reducible refine gate_callee (f := 11) rfl ?_); refine goesL_ (some 56) rfl rfl Try.func11 (by kernel_rfl) rfl #[.slice Ao3 t.length co3, .int .i64 (1)] rfl (by (try simp only [List.map_toArray, List.map_cons, List.map_nil]); first | done | rfl | (simp only [List.length_drop, List.length_take]; rfl)) ?_; (with_reducible refine (laws_markSlabS.calls k (fun k_ => w3_.heap.size ≤ k_ ∧ k_ < w4_.heap.size) (.slice Ao3 t.length co3) t (1) _ _ w _ ?side1 ?side2 Ff6.out).mono ?_); (case side1 => exact HB.out); (case side2 => exact HO3.out); rintro e w9_ ⟨rfl, hy, hb, hkp⟩; refine ⟨_, rfl, ?_⟩; have n0_ := Aside0.mk (Kd.N_kept HO2.out hkp (fun k_ hk_ hs_ => by have := Z.out; omega)); have n1_ := Aside0.mk (Kd.S_kept HO4.out hkp (fun k_ hk_ hs_ => by have := Z.out; omega)); have n2_ := Aside0.mk (Kd.S_mono (Kd.S_bound hy) (fun k_ hk_ => (hk_.1.elim (fun h_ => .inl h_) (fun h_ => .inr ⟨h_, hk_.2.2.1⟩) : (w3_.heap.size ≤ k_ ∧ k_ < w4_.heap.size) ∨ (w8_.heap.size ≤ k_ ∧ k_ < w9_.heap.size)))); have n3_ := Aside0.mk hb; have z_ := Aside0.mk (show w.heap.size ≤ w1_.heap.size ∧ w1_.heap.size ≤ w2_.heap.size ∧ w2_.heap.size ≤ w3_.heap.size ∧ w3_.heap.size ≤ w4_.heap.size ∧ w4_.heap.size ≤ w5_.heap.size ∧ w5_.heap.size ≤ w6_.heap.size ∧ w6_.heap.size ≤ w7_.heap.size ∧ w7_.heap.size ≤ w8_.heap.size ∧ w8_.heap.size ≤ w9_.heap.size from ⟨Z.out.1, Z.out.2.1, Z.out.2.2.1, Z.out.2.2.2.1, Z.out.2.2.2.2.1, Z.out.2.2.2.2.2.1, Z.out.2.2.2.2.2.2.1, Z.out.2.2.2.2.2.2.2, hkp.1⟩); (try clear HB HO2 HO3 HO4 Z); have HO2 := n0_; have HO4 := n1_; have HO3 := n2_; have HB := n3_; have Z := z_; clear z_ n0_ n1_ n2_ n3_; (try clear hb); (try clear hkp); (try clear hy); (try clear hd_); have hl8 := (Kd.S_reads' HO3.out).1; (try rw [hl8] at HO3)) | (go_at_call 10; refine calls_of_args (args' := #[.slice Ao4 y0.length co4, .slice Ao2 y0.length co2]) (by first | rfl | (simp only [hl8]; done) | (simp only [hl8]; rfl)) ?_; (with_reducible refine (laws_eqSlabS.calls k Ao4 co4 y0 Ao2 co2 y0 _ _ ?side1 ?side2 ?side3 ?side4 Ff4.out).mono ?_); (case side1 => exact (Kd.S_reads' HO4.out).2.2); (case side2 => exact (Kd.S_reads' HO4.out).2.1); (case side3 => exact (Kd.N_reads' HO2.out).2.2); (case side4 => exact (Kd.N_reads' HO2.out).2.1); rintro e w10_ ⟨rfl, hb⟩; have n0_ := Aside0.mk (Kd.N_below HO2.out hb); have n1_ := Aside0.mk (Kd.S_below HO4.out hb); have n2_ := Aside0.mk (below_step HB.out hb); have z_ := Aside0.mk (show w.heap.size ≤ w1_.heap.size ∧ w1_.heap.size ≤ w2_.heap.size ∧ w2_.heap.size ≤ w3_.heap.size ∧ w3_.heap.size ≤ w4_.heap.size ∧ w4_.heap.size ≤ w5_.heap.size ∧ w5_.heap.size ≤ w6_.heap.size ∧ w6_.heap.size ≤ w7_.heap.size ∧ w7_.heap.size ≤ w8_.heap.size ∧ w8_.heap.size ≤ w9_.heap.size ∧ w9_.heap.size ≤ w10_.heap.size from ⟨Z.out.1, Z.out.2.1, Z.out.2.2.1, Z.out.2.2.2.1, Z.out.2.2.2.2.1, Z.out.2.2.2.2.2.1, Z.out.2.2.2.2.2.2.1, Z.out.2.2.2.2.2.2.2.1, Z.out.2.2.2.2.2.2.2.2, hb.size⟩); (try clear HB HO2 HO4 Z); have HO2 := n0_; have HO4 := n1_; have HB := n2_; have Z := z_; clear z_ n0_ n1_ n2_; (try clear hb); (try clear hkp); (try clear hy); (try clear hd_)) | ((with_reducible refine gate_callee (f := 11) rfl ?_); refine goesL_ (some 72) rfl rfl Try.func11 (by kernel_rfl) rfl #[.slice Ao4 y0.length co4, .int .i64 (1)] rfl (by (try simp only [List.map_toArray, List.map_cons, List.map_nil]); first | done | rfl | (simp only [hl8]; done) | (simp only [hl8]; rfl) | (simp only [List.length_drop, List.length_take]; rfl)) ?_; (with_reducible refine (laws_markSlabS.calls k (fun k_ => w4_.heap.size ≤ k_ ∧ k_ < w5_.heap.size) (.slice Ao4 y0.length co4) y0 (1) _ _ w _ ?side1 ?side2 Ff7.out).mono ?_); (case side1 => exact HB.out); (case side2 => exact HO4.out); rintro e w11_ ⟨rfl, hy, hb, hkp⟩; refine ⟨_, rfl, ?_⟩; have n0_ := Aside0.mk (Kd.N_kept HO2.out hkp (fun k_ hk_ hs_ => by have := Z.out; omega)); have n1_ := Aside0.mk (Kd.S_mono (Kd.S_bound hy) (fun k_ hk_ => (hk_.1.elim (fun h_ => .inl h_) (fun h_ => .inr ⟨h_, hk_.2.2.1⟩) : (w4_.heap.size ≤ k_ ∧ k_ < w5_.heap.size) ∨ (w10_.heap.size ≤ k_ ∧ k_ < w11_.heap.size)))); have n2_ := Aside0.mk hb; have z_ := Aside0.mk (show w.heap.size ≤ w1_.heap.size ∧ w1_.heap.size ≤ w2_.heap.size ∧ w2_.heap.size ≤ w3_.heap.size ∧ w3_.heap.size ≤ w4_.heap.size ∧ w4_.heap.size ≤ w5_.heap.size ∧ w5_.heap.size ≤ w6_.heap.size ∧ w6_.heap.size ≤ w7_.heap.size ∧ w7_.heap.size ≤ w8_.heap.size ∧ w8_.heap.size ≤ w9_.heap.size ∧ w9_.heap.size ≤ w10_.heap.size ∧ w10_.heap.size ≤ w11_.heap.size from ⟨Z.out.1, Z.out.2.1, Z.out.2.2.1, Z.out.2.2.2.1, Z.out.2.2.2.2.1, Z.out.2.2.2.2.2.1, Z.out.2.2.2.2.2.2.1, Z.out.2.2.2.2.2.2.2.1, Z.out.2.2.2.2.2.2.2.2.1, Z.out.2.2.2.2.2.2.2.2.2, hkp.1⟩); (try clear HB HO2 HO4 Z); have HO2 := n0_; have HO4 := n1_; have HB := n2_; have Z := z_; clear z_ n0_ n1_ n2_; (try clear hb); (try clear hkp); (try clear hy); (try clear hd_); have hl10 := (Kd.S_reads' HO4.out).1; (try rw [hl10] at HO4)) | ((with_reducible refine gate_callee (f := 12) rfl ?_); refine goesL_ (some 75) rfl rfl Try.func12 (by kernel_rfl) rfl #[.slice Ao4 M1.length co4, .int .i64 (1)] rfl (by (try simp only [List.map_toArray, List.map_cons, List.map_nil]); first | done | rfl | (simp only [hl8]; done) | (simp only [hl8]; rfl) | (simp only [hl10]; done) | (simp only [hl10]; rfl) | (simp only [hl8, hl10]; done) | (simp only [hl8, hl10]; rfl) | (simp only [List.length_drop, List.length_take]; rfl)) ?_; (with_reducible refine (laws_heldSlabS.calls k Ao4 co4 M1 (1) _ _ ?side1 ?side2 Ff8.out).mono ?_); (case side1 => exact (Kd.S_reads' HO4.out).2.2); (case side2 => exact (Kd.S_reads' HO4.out).2.1); rintro e w12_ ⟨rfl, hd_⟩; have hb := Drawn0.below hd_; refine ⟨_, rfl, ?_⟩; have n0_ := Aside0.mk (Kd.N_below HO2.out hb); have n1_ := Aside0.mk (Kd.S_below HO4.out hb); have n2_ := Aside0.mk (below_step HB.out hb); have z_ := Aside0.mk (show w.heap.size ≤ w1_.heap.size ∧ w1_.heap.size ≤ w2_.heap.size ∧ w2_.heap.size ≤ w3_.heap.size ∧ w3_.heap.size ≤ w4_.heap.size ∧ w4_.heap.size ≤ w5_.heap.size ∧ w5_.heap.size ≤ w6_.heap.size ∧ w6_.heap.size ≤ w7_.heap.size ∧ w7_.heap.size ≤ w8_.heap.size ∧ w8_.heap.size ≤ w9_.heap.size ∧ w9_.heap.size ≤ w10_.heap.size ∧ w10_.heap.size ≤ w11_.heap.size ∧ w11_.heap.size ≤ w12_.heap.size from ⟨Z.out.1, Z.out.2.1, Z.out.2.2.1, Z.out.2.2.2.1, Z.out.2.2.2.2.1, Z.out.2.2.2.2.2.1, Z.out.2.2.2.2.2.2.1, Z.out.2.2.2.2.2.2.2.1, Z.out.2.2.2.2.2.2.2.2.1, Z.out.2.2.2.2.2.2.2.2.2.1, Z.out.2.2.2.2.2.2.2.2.2.2, hb.size⟩); (try clear HB HO2 HO4 Z); have HO2 := n0_; have HO4 := n1_; have HB := n2_; have Z := z_; clear z_ n0_ n1_ n2_; (try clear hb); (try clear hkp); (try clear hy); (try clear hd_)) | ((with_reducible refine gate_callee (f := 8) rfl ?_); refine goesL_ (some 83) rfl rfl Try.func8 (by kernel_rfl) rfl #[.slice A0 l0.length c0] rfl (by (try simp only [List.map_toArray, List.map_cons, List.map_nil]); first | done | rfl | (simp only [hl8]; done) | (simp only [hl8]; rfl) | (simp only [hl10]; done) | (simp only [hl10]; rfl) | (simp only [hl8, hl10]; done) | (simp only [hl8, hl10]; rfl) | (simp only [List.length_drop, List.length_take]; rfl)) ?_; (with_reducible refine (laws_toSlabS.calls k A0 c0 l0 _ _ ?side1 ?side2 Ff1.out).mono ?_); (case side1 => exact Kd.C_below HR0.out HB.out); (case side2 => exact HC0.out); rintro e w13_ ⟨v12_0, rfl, ho0, hb⟩; refine ⟨_, rfl, ?_⟩; have n0_ := Aside0.mk (Kd.N_below HO2.out hb); have n1_ := Aside0.mk (Kd.S_below HO4.out hb); have n2_ := Aside0.mk (Kd.S_lower (Kd.S_mono (Kd.S_bound ho0) (fun k_ hk_ => (⟨hk_.2.1, hk_.2.2.1⟩ : w12_.heap.size ≤ k_ ∧ k_ < w13_.heap.size))) HB.out.size); have n3_ := Aside0.mk (below_step HB.out hb); have z_ := Aside0.mk (show w.heap.size ≤ w1_.heap.size ∧ w1_.heap.size ≤ w2_.heap.size ∧ w2_.heap.size ≤ w3_.heap.size ∧ w3_.heap.size ≤ w4_.heap.size ∧ w4_.heap.size ≤ w5_.heap.size ∧ w5_.heap.size ≤ w6_.heap.size ∧ w6_.heap.size ≤ w7_.heap.size ∧ w7_.heap.size ≤ w8_.heap.size ∧ w8_.heap.size ≤ w9_.heap.size ∧ w9_.heap.size ≤ w10_.heap.size ∧ w10_.heap.size ≤ w11_.heap.size ∧ w11_.heap.size ≤ w12_.heap.size ∧ w12_.heap.size ≤ w13_.heap.size from ⟨Z.out.1, Z.out.2.1, Z.out.2.2.1, Z.out.2.2.2.1, Z.out.2.2.2.2.1, Z.out.2.2.2.2.2.1, Z.out.2.2.2.2.2.2.1, Z.out.2.2.2.2.2.2.2.1, Z.out.2.2.2.2.2.2.2.2.1, Z.out.2.2.2.2.2.2.2.2.2.1, Z.out.2.2.2.2.2.2.2.2.2.2.1, Z.out.2.2.2.2.2.2.2.2.2.2.2, hb.size⟩); (try clear HB HO2 HO4 Z); have HO2 := n0_; have HO4 := n1_; have HO6 := n2_; have HB := n3_; have Z := z_; clear z_ n0_ n1_ n2_ n3_; (try clear hb); (try clear hkp); (try clear hy); (try clear hd_); (try clear ho0); obtain ⟨Ao6, co6, eo_⟩ := Kd.S_slice HO6.out; subst eo_) | ((with_reducible refine gate_callee (f := 16) rfl ?_); refine goesL_ (some 86) rfl rfl Try.func16 (by kernel_rfl) rfl #[.slice Ao6 t.length co6, .int .i64 (a1), .int .i64 (a2)] rfl (by (try simp only [List.map_toArray, List.map_cons, List.map_nil]); first | done | rfl | (simp only [hl8]; done) | (simp only [hl8]; rfl) | (simp only [hl10]; done) | (simp only [hl10]; rfl) | (simp only [hl8, hl10]; done) | (simp only [hl8, hl10]; rfl) | (simp only [List.length_drop, List.length_take]; rfl)) ?_; (with_reducible refine (impl_AddSlab.calls k Ao6 co6 t (a1) (a2) _ _ _ ?side1 ?side2 Ff3.out).mono ?_); (case side1 => exact (Kd.S_reads' HO6.out).2.2); (case side2 => exact (Kd.S_reads' HO6.out).2.1); rintro e w14_ ⟨v13_0, rfl, ho0, hb⟩; refine ⟨_, rfl, ?_⟩; have n0_ := Aside0.mk (Kd.N_below HO2.out hb); have n1_ := Aside0.mk (Kd.S_below HO4.out hb); have n2_ := Aside0.mk (Kd.S_below HO6.out hb); have n3_ := Aside0.mk (Kd.S_lower (Kd.S_mono (Kd.S_bound ho0) (fun k_ hk_ => (⟨hk_.2.1, hk_.2.2.1⟩ : w13_.heap.size ≤ k_ ∧ k_ < w14_.heap.size))) HB.out.size); have n4_ := Aside0.mk (below_step HB.out hb); have z_ := Aside0.mk (show w.heap.size ≤ w1_.heap.size ∧ w1_.heap.size ≤ w2_.heap.size ∧ w2_.heap.size ≤ w3_.heap.size ∧ w3_.heap.size ≤ w4_.heap.size ∧ w4_.heap.size ≤ w5_.heap.size ∧ w5_.heap.size ≤ w6_.heap.size ∧ w6_.heap.size ≤ w7_.heap.size ∧ w7_.heap.size ≤ w8_.heap.size ∧ w8_.heap.size ≤ w9_.heap.size ∧ w9_.heap.size ≤ w10_.heap.size ∧ w10_.heap.size ≤ w11_.heap.size ∧ w11_.heap.size ≤ w12_.heap.size ∧ w12_.heap.size ≤ w13_.heap.size ∧ w13_.heap.size ≤ w14_.heap.size from ⟨Z.out.1, Z.out.2.1, Z.out.2.2.1, Z.out.2.2.2.1, Z.out.2.2.2.2.1, Z.out.2.2.2.2.2.1, Z.out.2.2.2.2.2.2.1, Z.out.2.2.2.2.2.2.2.1, Z.out.2.2.2.2.2.2.2.2.1, Z.out.2.2.2.2.2.2.2.2.2.1, Z.out.2.2.2.2.2.2.2.2.2.2.1, Z.out.2.2.2.2.2.2.2.2.2.2.2.1, Z.out.2.2.2.2.2.2.2.2.2.2.2.2, hb.size⟩); (try clear HB HO2 HO4 HO6 Z); have HO2 := n0_; have HO4 := n1_; have HO6 := n2_; have HO7 := n3_; have HB := n4_; have Z := z_; clear z_ n0_ n1_ n2_ n3_ n4_; (try clear hb); (try clear hkp); (try clear hy); (try clear hd_); (try clear ho0); obtain ⟨Ao7, co7, eo_⟩ := Kd.S_slice HO7.out; subst eo_) | ((with_reducible refine gate_callee (f := 10) rfl ?_); refine goesL_ (some 91) rfl rfl Try.func10 (by kernel_rfl) rfl #[.slice Ao7 y0.length co7, .slice Ao2 y0.length co2] rfl (by (try simp only [List.map_toArray, List.map_cons, List.map_nil]); first | done | rfl | (simp only [hl8]; done) | (simp only [hl8]; rfl) | (simp only [hl10]; done) | (simp only [hl10]; rfl) | (simp only [hl8, hl10]; done) | (simp only [hl8, hl10]; rfl) | (simp only [List.length_drop, List.length_take]; rfl)) ?_; (with_reducible refine (laws_eqSlabS.calls k Ao7 co7 y0 Ao2 co2 y0 _ _ ?side1 ?side2 ?side3 ?side4 Ff4.out).mono ?_); (case side1 => exact (Kd.S_reads' HO7.out).2.2); (case side2 => exact (Kd.S_reads' HO7.out).2.1); (case side3 => exact (Kd.N_reads' HO2.out).2.2); (case side4 => exact (Kd.N_reads' HO2.out).2.1); rintro e w15_ ⟨rfl, hb⟩; refine ⟨_, rfl, ?_⟩; have n0_ := Aside0.mk (Kd.N_below HO2.out hb); have n1_ := Aside0.mk (Kd.S_below HO4.out hb); have n2_ := Aside0.mk (Kd.S_below HO7.out hb); have n3_ := Aside0.mk (below_step HB.out hb); have z_ := Aside0.mk (show w.heap.size ≤ w1_.heap.size ∧ w1_.heap.size ≤ w2_.heap.size ∧ w2_.heap.size ≤ w3_.heap.size ∧ w3_.heap.size ≤ w4_.heap.size ∧ w4_.heap.size ≤ w5_.heap.size ∧ w5_.heap.size ≤ w6_.heap.size ∧ w6_.heap.size ≤ w7_.heap.size ∧ w7_.heap.size ≤ w8_.heap.size ∧ w8_.heap.size ≤ w9_.heap.size ∧ w9_.heap.size ≤ w10_.heap.size ∧ w10_.heap.size ≤ w11_.heap.size ∧ w11_.heap.size ≤ w12_.heap.size ∧ w12_.heap.size ≤ w13_.heap.size ∧ w13_.heap.size ≤ w14_.heap.size ∧ w14_.heap.size ≤ w15_.heap.size from ⟨Z.out.1, Z.out.2.1, Z.out.2.2.1, Z.out.2.2.2.1, Z.out.2.2.2.2.1, Z.out.2.2.2.2.2.1, Z.out.2.2.2.2.2.2.1, Z.out.2.2.2.2.2.2.2.1, Z.out.2.2.2.2.2.2.2.2.1, Z.out.2.2.2.2.2.2.2.2.2.1, Z.out.2.2.2.2.2.2.2.2.2.2.1, Z.out.2.2.2.2.2.2.2.2.2.2.2.1, Z.out.2.2.2.2.2.2.2.2.2.2.2.2.1, Z.out.2.2.2.2.2.2.2.2.2.2.2.2.2, hb.size⟩); (try clear HB HO2 HO4 HO7 Z); have HO2 := n0_; have HO4 := n1_; have HO7 := n2_; have HB := n3_; have Z := z_; clear z_ n0_ n1_ n2_ n3_; (try clear hb); (try clear hkp); (try clear hy); (try clear hd_)) | ((with_reducible refine gate_callee (f := 12) rfl ?_); refine goesL_ (some 100) rfl rfl Try.func12 (by kernel_rfl) rfl #[.slice Ao4 M1.length co4, .int .i64 (1)] rfl (by (try simp only [List.map_toArray, List.map_cons, List.map_nil]); first | done | rfl | (simp only [hl8]; done) | (simp only [hl8]; rfl) | (simp only [hl10]; done) | (simp only [hl10]; rfl) | (simp only [hl8, hl10]; done) | (simp only [hl8, hl10]; rfl) | (simp only [List.length_drop, List.length_take]; rfl)) ?_; (with_reducible refine (laws_heldSlabS.calls k Ao4 co4 M1 (1) _ _ ?side1 ?side2 Ff8.out).mono ?_); (case side1 => exact (Kd.S_reads' HO4.out).2.2); (case side2 => exact (Kd.S_reads' HO4.out).2.1); rintro e w16_ ⟨rfl, hd_⟩; have hb := Drawn0.below hd_; refine ⟨_, rfl, ?_⟩; have n0_ := Aside0.mk (Kd.S_below HO4.out hb); have n1_ := Aside0.mk (below_step HB.out hb); have z_ := Aside0.mk (show w.heap.size ≤ w1_.heap.size ∧ w1_.heap.size ≤ w2_.heap.size ∧ w2_.heap.size ≤ w3_.heap.size ∧ w3_.heap.size ≤ w4_.heap.size ∧ w4_.heap.size ≤ w5_.heap.size ∧ w5_.heap.size ≤ w6_.heap.size ∧ w6_.heap.size ≤ w7_.heap.size ∧ w7_.heap.size ≤ w8_.heap.size ∧ w8_.heap.size ≤ w9_.heap.size ∧ w9_.heap.size ≤ w10_.heap.size ∧ w10_.heap.size ≤ w11_.heap.size ∧ w11_.heap.size ≤ w12_.heap.size ∧ w12_.heap.size ≤ w13_.heap.size ∧ w13_.heap.size ≤ w14_.heap.size ∧ w14_.heap.size ≤ w15_.heap.size ∧ w15_.heap.size ≤ w16_.heap.size from ⟨Z.out.1, Z.out.2.1, Z.out.2.2.1, Z.out.2.2.2.1, Z.out.2.2.2.2.1, Z.out.2.2.2.2.2.1, Z.out.2.2.2.2.2.2.1, Z.out.2.2.2.2.2.2.2.1, Z.out.2.2.2.2.2.2.2.2.1, Z.out.2.2.2.2.2.2.2.2.2.1, Z.out.2.2.2.2.2.2.2.2.2.2.1, Z.out.2.2.2.2.2.2.2.2.2.2.2.1, Z.out.2.2.2.2.2.2.2.2.2.2.2.2.1, Z.out.2.2.2.2.2.2.2.2.2.2.2.2.2.1, Z.out.2.2.2.2.2.2.2.2.2.2.2.2.2.2, hb.size⟩); (try clear HB HO4 Z); have HO4 := n0_; have HB := n1_; have Z := z_; clear z_ n0_ n1_; (try clear hb); (try clear hkp); (try clear hy); (try clear hd_)))
  go_ret
  exact ⟨rfl, HB.out⟩
set_option maxHeartbeats 8000000 in
set_option maxRecDepth 100000 in
theorem laws_FnExactAddSlab.walk1 (k : Nat) (A0 : Option Addr) (c0 : Nat) (l0 : List (S45)) (a1 : Int) (a2 : Int) (z : Int) (w : World) (hr0 : Kd.C k45 w A0 l0.length l0) (hc0 : l0.length ≤ c0) (f0 : laws_szSlabS.f k l0 1048576 = some z) (n0 : z < 0) :
    Calls Try.prog 5 #[.slice A0 l0.length c0, .int .i64 a1, .int .i64 a2] w fun e w' => e = .returned (.bool true) ∧ Below w.heap.size w w' := by
  have HR0 := Aside0.mk hr0
  have HC0 := Aside0.mk hc0
  clear hr0 hc0
  have HB := Aside0.mk (Below.refl w.heap.size w)
  have Ff0 := Aside0.mk f0
  clear f0
  have nb0 : decide (z < 0) = true := decide_eq_true n0
  go_enter Try.func5, Try.ntmps5
  go_wp2_with (first | ((with_reducible refine gate_callee (f := 6) rfl ?_); refine goesL_ (some 20) rfl rfl Try.func6 (by kernel_rfl) rfl #[.slice A0 l0.length c0, .int .i64 (1048576)] rfl (by (try simp only [List.map_toArray, List.map_cons, List.map_nil]); first | done | rfl | (simp only [List.length_drop, List.length_take]; rfl)) ?_; (with_reducible refine (laws_szSlabS.calls k A0 c0 l0 (1048576) _ _ ?side1 ?side2 Ff0.out).mono ?_); (case side1 => exact Kd.C_below HR0.out HB.out); (case side2 => exact HC0.out); rintro e w1_ ⟨rfl, hb⟩; refine ⟨_, rfl, ?_⟩; have n0_ := Aside0.mk (below_step HB.out hb); have z_ := Aside0.mk (show w.heap.size ≤ w1_.heap.size from hb.size); (try clear HB); have HB := n0_; have Z := z_; clear z_ n0_; (try clear hb); (try clear hkp); (try clear hy); (try clear hd_)))
  go_ret
  exact ⟨rfl, HB.out⟩
end Go.Proofs.Ytpkdfdkicblheaa.P
end
section
namespace Go.Proofs.Ytpkdfdkicblheaa.Aid
open Go.RowKit Go.Proofs.YtpkdfdkicblheaaW.PrintWords

theorem wrap64_id {n : Int} (h : -9223372036854775808 ≤ n) (h2 : n ≤ 9223372036854775807) : wrap64 n = n := by unfold wrap64; omega
theorem wf_i64 {n : Int} (h : (Lit.int .i64 n).wf = true) : -9223372036854775808 ≤ n ∧ n ≤ 9223372036854775807 := by
  simpa [Lit.wf, IntKind.min, IntKind.max, IntKind.bits, IntKind.signed] using h

theorem and255 (n : Int) : bits .and .i64 n 255 = n % 256 := by
  have h127 : (BitVec.ofInt 64 255).toNat = 2 ^ 8 - 1 := by decide
  have key : (BitVec.ofInt 64 n &&& BitVec.ofInt 64 255).toNat = (n % ((2 ^ 64 : Nat) : Int)).toNat % 2 ^ 8 := by
    rw [BitVec.toNat_and, BitVec.toNat_ofInt, h127, Nat.and_two_pow_sub_one_eq_mod]
  show IntKind.i64.wrap ((BitVec.ofInt 64 n &&& BitVec.ofInt 64 255).toNat : Nat) = n % 256
  rw [key, IntKind.wrap_i64]
  omega

theorem tmod_nonneg {a b : Int} (ha : 0 ≤ a) (_hb : 0 < b) : Int.tmod a b = a % b := Int.tmod_eq_emod_of_nonneg ha
theorem tdiv_nonneg {a b : Int} (ha : 0 ≤ a) : Int.tdiv a b = a / b := Int.tdiv_eq_ediv_of_nonneg ha

/-! Loops over an index -/
theorem Ev.of_succ {α : Type} {g : Nat → Option α} {r : α} (h : ∀ k, g (k + 1) = some r) : Ev g r :=
  ⟨1, fun n hn => by obtain ⟨m, rfl⟩ : ∃ m, n = m + 1 := ⟨n - 1, by omega⟩; exact h m⟩
theorem Ev.const {α : Type} {g : Nat → Option α} {r : α} (h : ∀ k, g k = some r) : Ev g r := ⟨0, fun n _ => h n⟩
/-- A loop that asks one thing of each index. -/
theorem ev_all {ρ : Type} (g : Nat → Nat → Option ρ) (n : Nat) (B : Nat → Bool) (no yes : ρ)
    (h1 : ∀ i, i < n → B i = true → ∀ r, Ev (fun k => g k (i + 1)) r → Ev (fun k => g k i) r)
    (h2 : ∀ i, i < n → B i = false → Ev (fun k => g k i) no)
    (h3 : Ev (fun k => g k n) yes) : ∀ d i, i + d = n → Ev (fun k => g k i) (if (List.range' i d).all B = true then yes else no) := by
  intro d
  induction d with
  | zero =>
    intro i hi
    obtain rfl : i = n := by omega
    simpa using h3
  | succ d ih =>
    intro i hi
    rw [List.range'_succ, List.all_cons]
    cases hb : B i with
    | true => simp only [Bool.true_and]; exact h1 i (by omega) hb _ (ih (i + 1) (by omega))
    | false => simp only [Bool.false_and, Bool.false_eq_true, if_false]; exact h2 i (by omega) hb
theorem ev_yes {ρ : Type} (g : Nat → Nat → Option ρ) (n : Nat) (B : Nat → Bool) (r : ρ)
    (h1 : ∀ i, i < n → B i = true → ∀ r, Ev (fun k => g k (i + 1)) r → Ev (fun k => g k i) r)
    (hall : (List.range n).all B = true) (h3 : Ev (fun k => g k n) r) : Ev (fun k => g k 0) r := by
  have key : ∀ d i, i + d = n → Ev (fun k => g k i) r := by
    intro d
    induction d with
    | zero =>
      intro i hi
      obtain rfl : i = n := by omega
      exact h3
    | succ d ih =>
      intro i hi
      exact h1 i (by omega) (List.all_eq_true.1 hall i (List.mem_range.2 (by omega))) _ (ih (i + 1) (by omega))
  exact key n 0 (by omega)
theorem ev_no {ρ : Type} (g : Nat → Nat → Option ρ) (n : Nat) (B : Nat → Bool) (no : ρ)
    (h1 : ∀ i, i < n → B i = true → ∀ r, Ev (fun k => g k (i + 1)) r → Ev (fun k => g k i) r)
    (h2 : ∀ i, i < n → B i = false → Ev (fun k => g k i) no)
    (hall : (List.range n).all B = false) : Ev (fun k => g k 0) no := by
  have key : ∀ d i, i + d = n → (List.range' i d).all B = false → Ev (fun k => g k i) no := by
    intro d
    induction d with
    | zero => intro i _ h; simp at h
    | succ d ih =>
      intro i hi h
      rw [List.range'_succ, List.all_cons] at h
      cases hb : B i with
      | true => exact h1 i (by omega) hb _ (ih (i + 1) (by omega) (by simpa [hb] using h))
      | false => exact h2 i (by omega) hb
  exact key n 0 (by omega) (by rw [← List.range_eq_range']; exact hall)
theorem ev_all0 {ρ : Type} (g : Nat → Nat → Option ρ) (n : Nat) (B : Nat → Bool) (no yes : ρ)
    (h1 : ∀ i, i < n → B i = true → ∀ r, Ev (fun k => g k (i + 1)) r → Ev (fun k => g k i) r)
    (h2 : ∀ i, i < n → B i = false → Ev (fun k => g k i) no)
    (h3 : Ev (fun k => g k n) yes) : Ev (fun k => g k 0) (if (List.range n).all B = true then yes else no) := by
  rw [List.range_eq_range']
  exact ev_all g n B no yes h1 h2 h3 n 0 (by omega)
/-- The same, where what was asked before is known. -/
theorem ev_yesp {ρ : Type} (g : Nat → Nat → Option ρ) (n : Nat) (B : Nat → Bool) (r : ρ)
    (h1 : ∀ i, i < n → (∀ j, j < i → B j = true) → B i = true → ∀ r, Ev (fun k => g k (i + 1)) r → Ev (fun k => g k i) r)
    (hall : (List.range n).all B = true) (h3 : Ev (fun k => g k n) r) : Ev (fun k => g k 0) r := by
  have ha : ∀ i, i < n → B i = true := fun i hi => List.all_eq_true.1 hall i (List.mem_range.2 hi)
  have key : ∀ d i, i + d = n → Ev (fun k => g k i) r := by
    intro d
    induction d with
    | zero =>
      intro i hi
      obtain rfl : i = n := by omega
      exact h3
    | succ d ih =>
      intro i hi
      exact h1 i (by omega) (fun j hj => ha j (by omega)) (ha i (by omega)) _ (ih (i + 1) (by omega))
  exact key n 0 (by omega)
theorem ev_nop {ρ : Type} (g : Nat → Nat → Option ρ) (n : Nat) (B : Nat → Bool) (no : ρ)
    (h1 : ∀ i, i < n → (∀ j, j < i → B j = true) → B i = true → ∀ r, Ev (fun k => g k (i + 1)) r → Ev (fun k => g k i) r)
    (h2 : ∀ i, i < n → (∀ j, j < i → B j = true) → B i = false → Ev (fun k => g k i) no)
    (hall : (List.range n).all B = false) : Ev (fun k => g k 0) no := by
  have key : ∀ d i, i + d = n → (∀ j, j < i → B j = true) → Ev (fun k => g k i) no := by
    intro d
    induction d with
    | zero =>
      intro i hi h
      obtain rfl : i = n := by omega
      have : (List.range i).all B = true := List.all_eq_true.2 (fun j hj => h j (List.mem_range.1 hj))
      rw [this] at hall; cases hall
    | succ d ih =>
      intro i hi h
      cases hb : B i with
      | true => exact h1 i (by omega) h hb _ (ih (i + 1) (by omega) (fun j hj => by
          by_cases e : j = i
          · rw [e]; exact hb
          · exact h j (by omega)))
      | false => exact h2 i (by omega) h hb
  exact key n 0 (by omega) (fun j hj => by omega)
theorem ev_allp {ρ : Type} (g : Nat → Nat → Option ρ) (n : Nat) (B : Nat → Bool) (no yes : ρ)
    (h1 : ∀ i, i < n → (∀ j, j < i → B j = true) → B i = true → ∀ r, Ev (fun k => g k (i + 1)) r → Ev (fun k => g k i) r)
    (h2 : ∀ i, i < n → (∀ j, j < i → B j = true) → B i = false → Ev (fun k => g k i) no)
    (h3 : (∀ j, j < n → B j = true) → Ev (fun k => g k n) yes) : Ev (fun k => g k 0) (if (List.range n).all B = true then yes else no) := by
  cases hall : (List.range n).all B with
  | true =>
    rw [if_pos rfl]
    exact ev_yesp g n B yes h1 hall (h3 (fun j hj => List.all_eq_true.1 hall j (List.mem_range.2 hj)))
  | false =>
    rw [if_neg (by simp)]
    exact ev_nop g n B no h1 h2 hall
theorem range_all {α : Type} (xs : List α) (d : α) (P : α → Bool) : (List.range xs.length).all (fun i => P (xs.getD i d)) = xs.all P := by
  rw [Bool.eq_iff_iff, List.all_eq_true, List.all_eq_true]
  constructor
  · intro h x hx
    obtain ⟨i, hi, rfl⟩ := List.getElem_of_mem hx
    have := h i (List.mem_range.2 hi)
    simpa [List.getD_eq_getElem?_getD, List.getElem?_eq_getElem hi] using this
  · intro h i hi
    have hi := List.mem_range.1 hi
    have := h _ (List.getElem_mem hi)
    simpa [List.getD_eq_getElem?_getD, List.getElem?_eq_getElem hi] using this
/-- A loop that stores at each index. -/
theorem ev_copy {α ρ : Type} (g : Nat → List α → Nat → Option ρ) (n : Nat) (f : Nat → α) (fin : List α → ρ)
    (h1 : ∀ i acc, i < n → acc.length = n → ∀ r, Ev (fun k => g k (acc.set i (f i)) (i + 1)) r → Ev (fun k => g k acc i) r)
    (h3 : ∀ acc, acc.length = n → Ev (fun k => g k acc n) (fin acc)) : ∀ d i acc, i + d = n → acc.length = n → Ev (fun k => g k acc i) (fin (acc.take i ++ (List.range' i d).map f)) := by
  intro d
  induction d with
  | zero =>
    intro i acc hi hl
    obtain rfl : i = n := by omega
    simpa [← hl] using h3 acc hl
  | succ d ih =>
    intro i acc hi hl
    have h := ih (i + 1) (acc.set i (f i)) (by omega) (by simpa using hl)
    have e : (acc.set i (f i)).take (i + 1) ++ (List.range' (i + 1) d).map f = acc.take i ++ (List.range' i (d + 1)).map f := by
      rw [List.range'_succ, List.map_cons, List.take_succ_eq_append_getElem (by simp; omega), List.getElem_set_self, List.append_assoc]
      congr 1
      exact List.take_set_of_le (Nat.le_refl _)
    rw [e] at h
    exact h1 i acc (by omega) hl _ h
theorem ev_copy0 {α ρ : Type} (g : Nat → List α → Nat → Option ρ) (n : Nat) (f : Nat → α) (fin : List α → ρ)
    (h1 : ∀ i acc, i < n → acc.length = n → ∀ r, Ev (fun k => g k (acc.set i (f i)) (i + 1)) r → Ev (fun k => g k acc i) r)
    (h3 : ∀ acc, acc.length = n → Ev (fun k => g k acc n) (fin acc)) (acc : List α) (hl : acc.length = n) : Ev (fun k => g k acc 0) (fin ((List.range n).map f)) := by
  rw [List.range_eq_range']
  simpa using ev_copy g n f fin h1 h3 n 0 acc (by omega) hl
/-- A loop that carries a state. -/
theorem ev_fold {σ ρ : Type} (g : Nat → σ → Nat → Option ρ) (n : Nat) (f : σ → Nat → σ) (fin : σ → ρ) (Inv : Nat → σ → Prop)
    (h1 : ∀ i s, i < n → Inv i s → Inv (i + 1) (f s i) ∧ ∀ r, Ev (fun k => g k (f s i) (i + 1)) r → Ev (fun k => g k s i) r)
    (h3 : ∀ s, Inv n s → Ev (fun k => g k s n) (fin s)) (s : σ) (h0 : Inv 0 s) : Ev (fun k => g k s 0) (fin ((List.range n).foldl f s)) ∧ Inv n ((List.range n).foldl f s) := by
  have key : ∀ d i s, i + d = n → Inv i s → Ev (fun k => g k s i) (fin ((List.range' i d).foldl f s)) ∧ Inv n ((List.range' i d).foldl f s) := by
    intro d
    induction d with
    | zero =>
      intro i s hi hs
      obtain rfl : i = n := by omega
      simpa using ⟨h3 s hs, hs⟩
    | succ d ih =>
      intro i s hi hs
      obtain ⟨h4, h5⟩ := h1 i s (by omega) hs
      obtain ⟨h6, h7⟩ := ih (i + 1) (f s i) (by omega) h4
      rw [List.range'_succ, List.foldl_cons]
      exact ⟨h5 _ h6, h7⟩
  rw [List.range_eq_range']
  exact key n 0 s (by omega) h0
theorem range_map_getD {α : Type} (xs : List α) (d : α) : (List.range xs.length).map (fun i => xs.getD i d) = xs := by
  apply List.ext_getElem
  · simp
  · intro i h1 h2
    simp at h1
    simp [List.getD_eq_getElem?_getD, List.getElem?_eq_getElem h1]
theorem foldl_getD {α σ : Type} (f : σ → α → σ) (l : List α) (d : α) (s : σ) : (List.range l.length).foldl (fun s i => f s (l.getD i d)) s = l.foldl f s := by
  have := range_map_getD l d
  conv => rhs; rw [← this]
  rw [List.foldl_map]
theorem toNat_cast (i : Nat) : (i : Int).toNat = i := by omega
theorem wrap_succ {i : Nat} (h : i < 9223372036854775807) : wrap64 ((i : Int) + 1) = ((i + 1 : Nat) : Int) := by unfold wrap64; omega
theorem in_dec (a b c : Int) : (if a ≥ b then (some (decide (a ≤ c))) else (some false)) = some (decide (b ≤ a ∧ a ≤ c)) := by
  by_cases h : a ≥ b
  · rw [if_pos h]; congr 1; by_cases h2 : a ≤ c
    · rw [decide_eq_true h2, decide_eq_true ⟨h, h2⟩]
    · rw [decide_eq_false h2, decide_eq_false (fun x => h2 x.2)]
  · rw [if_neg h, decide_eq_false (fun x => h x.1)]
/-- What a count tells, where it does not refuse. -/
theorem ev_sz (g : Nat → Int → Nat → Option Int) (n : Nat) (sz : Nat → Nat)
    (h1 : ∀ i b, i < n → 0 ≤ b → b ≤ 1048576 → (sz i : Int) ≤ b → ∀ r, Ev (fun k => g k (b - sz i) (i + 1)) r → Ev (fun k => g k b i) r)
    (h2 : ∀ i b, i < n → 0 ≤ b → b ≤ 1048576 → ¬ (sz i : Int) ≤ b → Ev (fun k => g k b i) (-1)) (h3 : ∀ b, Ev (fun k => g k b n) b) (b : Int) (hb0 : 0 ≤ b) (hb1 : b ≤ 1048576) :
    ∃ r, Ev (fun k => g k b 0) r ∧ (0 ≤ r → (((List.range n).map sz).sum : Nat) + r ≤ b) := by
  have key : ∀ d i b, i + d = n → 0 ≤ b → b ≤ 1048576 → ∃ r, Ev (fun k => g k b i) r ∧ (0 ≤ r → (((List.range' i d).map sz).sum : Nat) + r ≤ b) := by
    intro d
    induction d with
    | zero =>
      intro i b hi _ _
      obtain rfl : i = n := by omega
      exact ⟨b, h3 b, fun _ => by simp⟩
    | succ d ih =>
      intro i b hi h0 hb
      by_cases hs : (sz i : Int) ≤ b
      · obtain ⟨r, hr, hq⟩ := ih (i + 1) (b - sz i) (by omega) (by omega) (by omega)
        refine ⟨r, h1 i b (by omega) h0 hb hs r hr, fun h => ?_⟩
        have := hq h
        rw [List.range'_succ, List.map_cons, List.sum_cons]
        omega
      · exact ⟨-1, h2 i b (by omega) h0 hb hs, fun h => by omega⟩
  rw [List.range_eq_range']
  exact key n 0 b (by omega) hb0 hb1
theorem sum_ge {n : Nat} (sz : Nat → Nat) {i : Nat} (h : i < n) : sz i ≤ ((List.range n).map sz).sum := by
  have : ∀ (l : List Nat) (x : Nat), x ∈ l → x ≤ l.sum := by
    intro l
    induction l with
    | nil => intro x hx; cases hx
    | cons y l ih =>
      intro x hx
      rcases List.mem_cons.1 hx with rfl | hx
      · simp
      · have := ih x hx; simp; omega
  exact this _ _ (List.mem_map_of_mem (List.mem_range.2 h))
theorem sub_len {a : Int} {n : Nat} (ha : 0 ≤ a) (ha1 : a ≤ 1048576) (hn : n ≤ maxLen) : wrap64 (a - (n : Int)) = a - n := by unfold maxLen at hn; unfold wrap64; omega
end Go.Proofs.Ytpkdfdkicblheaa.Aid
end
section
namespace Go.Proofs.Ytpkdfdkicblheaa.Pure
open Go.RowKit Go.Proofs.Ytpkdfdkicblheaa.P Go.Proofs.YtpkdfdkicblheaaW.PrintWords Go.Proofs.YtpkdfdkicblheaaW.PrintLast Go.Proofs.YtpkdfdkicblheaaW.PrintMore Go.Proofs.Ytpkdfdkicblheaa.Aid
set_option linter.unusedVariables false
set_option linter.unusedSimpArgs false

theorem l01In_eq (a b c : Int) : spec_l01In.f a b c = some (decide (b ≤ a ∧ a ≤ c)) := in_dec a b c
theorem within_eq (a b c : Int) : impl_within.f a b c = some (decide (b ≤ a ∧ a ≤ c)) := in_dec a b c
theorem szBoolS_eq (l : List Bool) (hl : l.length ≤ maxLen) (a : Int) (h0 : 0 ≤ a) (h1 : a ≤ 1048576) : laws_szBoolS.f l a = some (if (l.length : Int) ≤ a then a - l.length else -1) := by
  unfold maxLen at hl
  unfold laws_szBoolS.f
  have e : wrap64 (a - (l.length : Int)) = a - l.length := by unfold wrap64; omega
  rw [e]
  by_cases h : (l.length : Int) ≤ a
  · rw [if_neg (by omega), if_pos h]
  · rw [if_pos (by omega), if_neg h]
theorem toBoolS_ev (l : List Bool) (hl : l.length ≤ 1048576) : Ev (fun k => laws_toBoolS.f k l) l := by
  have key := ev_copy0 (fun k acc i => laws_toBoolS.l0 k l acc (i : Int)) l.length (fun i => l.getD i false) id (by
    intro i acc hi ha r h
    refine Ev.step (fun k => ?_) h
    simp only [laws_toBoolS.l0]
    rw [if_pos (by omega), if_pos (by omega), if_pos (by omega), wrap_succ (by omega), toNat_cast]
    rfl) (by
    intro acc ha
    refine Ev.of_succ (fun k => ?_)
    simp only [laws_toBoolS.l0]
    rw [if_neg (by omega)]
    rfl) (List.replicate l.length false) (by simp)
  rw [range_map_getD] at key
  refine Ev.congr (fun k => ?_) key
  unfold laws_toBoolS.f
  rw [if_pos (by omega), if_pos (by omega), toNat_cast]
  rfl
theorem eqBoolS_refl (l : List Bool) (hl : l.length ≤ 1048576) : Ev (fun k => laws_eqBoolS.f k l l) true := by
  have key := ev_all0 (fun k i => laws_eqBoolS.l0 k l l (i : Int)) l.length (fun _ => true) false true (by
    intro i hi _ r h
    refine Ev.step (fun k => ?_) h
    simp only [laws_eqBoolS.l0]
    rw [if_pos (by omega), if_pos (by omega), if_pos (by omega), if_neg (by simp), wrap_succ (by omega)]) (by intro i _ h; cases h) (by
    refine Ev.of_succ (fun k => ?_)
    simp only [laws_eqBoolS.l0]
    rw [if_neg (by omega)])
  rw [if_pos (by simp)] at key
  refine Ev.congr (fun k => ?_) key
  unfold laws_eqBoolS.f
  rw [if_pos rfl]
  rfl
theorem map_getD {α β : Type} (f : α → β) (l : List α) (d : α) : (List.range l.length).map (fun i => f (l.getD i d)) = l.map f := by
  rw [show (fun i => f (l.getD i d)) = f ∘ (fun i => l.getD i d) from rfl, ← List.map_map, range_map_getD]
abbrev SlabW := S47
abbrev SlabL := S45
abbrev zbl : SlabL := z45
abbrev zbw : SlabW := z47
def toSlab (r : SlabL) : SlabW := ⟨r.f0, r.f1, r.f2⟩
theorem rdBL (l : List SlabL) (i : Nat) : rd_T45 l (i : Int) = l.getD i zbl := by unfold rd_T45; rw [toNat_cast]
theorem rdBW (l : List SlabW) (i : Nat) : rd_T47 l (i : Int) = l.getD i zbw := by unfold rd_T47; rw [toNat_cast]
theorem szSlab_eq (s : SlabL) (hl : s.f2.length ≤ maxLen) (a : Int) (h0 : 0 ≤ a) (h1 : a ≤ 1048576) : laws_szSlab.f s.f0 s.f1 s.f2 a = some (if (s.f2.length : Int) ≤ a then (a - (s.f2.length : Int) : Int) else (-1 : Int)) := by
  unfold laws_szSlab.f
  rw [szBoolS_eq _ hl a h0 h1]
  simp only [Option.bind_some]
  by_cases h : (s.f2.length : Int) ≤ a
  · rw [if_pos h, if_neg (by omega)]
  · rw [if_neg h, if_pos (by omega)]
theorem mem_getD_b {α : Type} {l : List α} {i : Nat} (h : i < l.length) (d : α) : l.getD i d ∈ l := by
  rw [List.getD_eq_getElem?_getD, List.getElem?_eq_getElem h]; exact List.getElem_mem h
def SmallSl (l : List SlabL) : Prop := l.length ≤ 1048576 ∧ ∀ x ∈ l, x.f2.length ≤ 1048576
theorem szSlabS_ev (l : List SlabL) (hl : l.length ≤ maxLen) (hls : ∀ x ∈ l, x.f2.length ≤ maxLen) :
    ∃ r, Ev (fun k => laws_szSlabS.f k l 1048576) r ∧ (0 ≤ r → SmallSl l ∧ (l.length : Int) + ((l.map (fun s => s.f2.length)).sum : Nat) ≤ 1048576) := by
  by_cases hlen : (l.length : Int) ≤ 1048576
  · obtain ⟨r, hr, hq⟩ := ev_sz (fun k b i => laws_szSlabS.l0 k l b (i : Int)) l.length (fun i => (l.getD i zbl).f2.length) (by
      intro i b hi h0 h1 hs r h
      refine Ev.step (fun k => ?_) h
      simp only [laws_szSlabS.l0]
      rw [if_pos (by omega), if_pos (by omega), rdBL, szSlab_eq _ (hls _ (mem_getD_b hi _)) b h0 h1, if_pos hs]
      simp only [Option.bind_some]
      rw [if_neg (by omega), wrap_succ (by simp only [maxLen] at hl; omega)]) (by
      intro i b hi h0 h1 hs
      refine Ev.of_succ (fun k => ?_)
      simp only [laws_szSlabS.l0]
      rw [if_pos (by omega), if_pos (by omega), rdBL, szSlab_eq _ (hls _ (mem_getD_b hi _)) b h0 h1, if_neg hs]
      simp only [Option.bind_some]
      rw [if_pos (by omega)]) (by
      intro b
      refine Ev.of_succ (fun k => ?_)
      simp only [laws_szSlabS.l0]
      rw [if_neg (by omega)]) (1048576 - (l.length : Int)) (by omega) (by omega)
    refine ⟨r, Ev.congr (fun k => ?_) hr, fun h => ?_⟩
    · unfold laws_szSlabS.f
      rw [sub_len (by omega) (by omega) hl, if_neg (by omega)]
      rfl
    · have := hq h
      refine ⟨⟨by omega, fun x hx => ?_⟩, ?_⟩
      · obtain ⟨i, hi, rfl⟩ := List.getElem_of_mem hx
        have h5 := sum_ge (fun i => (l.getD i zbl).f2.length) hi
        simp only [List.getD_eq_getElem?_getD, List.getElem?_eq_getElem hi, Option.getD_some] at h5
        simp only [List.getD_eq_getElem?_getD] at this
        omega
      · rw [map_getD (fun s : SlabL => s.f2.length) l zbl] at this
        omega
  · refine ⟨-1, Ev.const (fun k => ?_), fun h => by omega⟩
    unfold laws_szSlabS.f
    rw [sub_len (by omega) (by omega) hl, if_pos (by omega)]
theorem SmallSl.at_ {l : List SlabL} (h : SmallSl l) (i : Nat) : (l.getD i zbl).f2.length ≤ 1048576 := by
  by_cases hi : i < l.length
  · exact h.2 _ (mem_getD_b hi _)
  · rw [List.getD_eq_getElem?_getD, List.getElem?_eq_none (by omega)]; decide
theorem toSlabS_ev (l : List SlabL) (hl : SmallSl l) : Ev (fun k => laws_toSlabS.f k l) (l.map toSlab) := by
  have h1 := hl.1
  have key := ev_copy0 (fun k acc i => laws_toSlabS.l0 k l acc (i : Int)) l.length (fun i => toSlab (l.getD i zbl)) id (by
    intro i acc hi ha r h
    refine Ev.step (f := fun k => (laws_toBoolS.f k (l.getD i zbl).f2).bind fun t => laws_toSlabS.l0 k l (acc.set i (⟨(l.getD i zbl).f0, (l.getD i zbl).f1, t⟩ : SlabW)) ((i + 1 : Nat) : Int)) (fun k => ?_) (Ev.bind (toBoolS_ev _ (hl.at_ i)) h)
    simp only [laws_toSlabS.l0]
    rw [if_pos (by omega), if_pos (by omega), rdBL]
    unfold laws_toSlab.f
    rw [Option.bind_assoc]
    congr 1
    funext t
    simp only [Option.bind_some]
    rw [if_pos (by omega), wrap_succ (by omega), toNat_cast]) (by
    intro acc ha
    refine Ev.of_succ (fun k => ?_)
    simp only [laws_toSlabS.l0]
    rw [if_neg (by omega)]
    rfl) (List.replicate l.length zbw) (by simp)
  rw [map_getD toSlab l zbl] at key
  refine Ev.congr (fun k => ?_) key
  unfold laws_toSlabS.f
  rw [if_pos (by omega), if_pos (by omega), toNat_cast]
  rfl
def SmallSw (l : List SlabW) : Prop := l.length ≤ 1048576 ∧ ∀ x ∈ l, x.f2.length ≤ 1048576
theorem SmallSl.toW {l : List SlabL} (h : SmallSl l) : SmallSw (l.map toSlab) := by
  refine ⟨by simpa using h.1, fun x hx => ?_⟩
  obtain ⟨y, hy, rfl⟩ := List.mem_map.1 hx
  exact h.2 y hy
theorem SmallSw.at_ {l : List SlabW} (h : SmallSw l) (i : Nat) : (l.getD i zbw).f2.length ≤ 1048576 := by
  by_cases hi : i < l.length
  · exact h.2 _ (mem_getD_b hi _)
  · rw [List.getD_eq_getElem?_getD, List.getElem?_eq_none (by omega)]; decide
theorem eqSlabS_refl (l : List SlabW) (hl : SmallSw l) : Ev (fun k => laws_eqSlabS.f k l l) true := by
  have h1 := hl.1
  have key := ev_all0 (fun k i => laws_eqSlabS.l0 k l l (i : Int)) l.length (fun _ => true) false true (by
    intro i hi _ r h
    refine Ev.step (f := fun k => (laws_eqBoolS.f k (l.getD i zbw).f2 (l.getD i zbw).f2).bind fun t => (if t = true then (some true) else (some false)).bind fun t => if t = true then laws_eqSlabS.l0 k l l ((i + 1 : Nat) : Int) else some false) (fun k => ?_) (Ev.bind (eqBoolS_refl _ (hl.at_ i)) (by simp only [if_true, Option.bind_some]; exact h))
    simp only [laws_eqSlabS.l0]
    rw [if_pos (by omega), if_pos (by omega), if_pos (by omega), rdBW]
    unfold laws_eqSlab.f
    rw [if_pos rfl, if_pos rfl, Option.bind_assoc, wrap_succ (by omega)]) (by intro i _ h; cases h) (by
    refine Ev.of_succ (fun k => ?_)
    simp only [laws_eqSlabS.l0]
    rw [if_neg (by omega)])
  rw [if_pos (by simp)] at key
  refine Ev.congr (fun k => ?_) key
  unfold laws_eqSlabS.f
  rw [if_pos rfl]
  rfl
theorem index_ev (l : List Bool) (hl : l.length ≤ 1000000) (b : Bool) : ∃ r, Ev (fun k => slices_Index_bool_bool.f k l b) r ∧ decide (r ≥ 0) = l.any (fun y => b == y) := by
  have h0 : ∀ d i, i + d = l.length → ∃ r, Ev (fun k => slices_Index_bool_bool.l0 k l b (l.length : Int) (i : Int)) r ∧ decide (r ≥ 0) = (l.drop i).any (fun y => b == y) := by
    intro d
    induction d with
    | zero =>
      intro i hi
      refine ⟨-1, Ev.of_succ (fun k => ?_), ?_⟩
      · simp only [slices_Index_bool_bool.l0]
        rw [if_neg (by omega)]
      · rw [List.drop_of_length_le (by omega)]; rfl
    | succ d ih =>
      intro i hi
      have hlt : i < l.length := by omega
      have hr : rdOf false l (i : Int) = l[i] := by unfold rdOf; rw [toNat_cast]; simp [List.getD_eq_getElem?_getD, List.getElem?_eq_getElem hlt]
      rw [List.drop_eq_getElem_cons hlt, List.any_cons]
      by_cases hb : (b == l[i]) = true
      · refine ⟨i, Ev.of_succ (fun k => ?_), ?_⟩
        · simp only [slices_Index_bool_bool.l0]
          rw [if_pos (by omega), if_pos (by omega), if_pos (by omega), hr, if_pos hb]
        · rw [hb, Bool.true_or]; simp
      · obtain ⟨r, h1, h2⟩ := ih (i + 1) (by omega)
        refine ⟨r, Ev.step (fun k => ?_) h1, ?_⟩
        · simp only [slices_Index_bool_bool.l0]
          rw [if_pos (by omega), if_pos (by omega), if_pos (by omega), hr, if_neg hb, wrap_succ (by omega)]
        · rw [show (b == l[i]) = false by simpa using hb, Bool.false_or, h2]
  obtain ⟨r, h1, h2⟩ := h0 l.length 0 (by omega)
  exact ⟨r, h1, by simpa using h2⟩
theorem contains_ev (l : List Bool) (hl : l.length ≤ 1000000) (b : Bool) : Ev (fun k => slices_Contains_bool_bool.f k l b) (l.any (fun y => b == y)) := by
  unfold slices_Contains_bool_bool.f
  obtain ⟨r, h1, h2⟩ := index_ev l hl b
  refine Ev.bind h1 ?_
  rw [h2]
  exact Ev.now _
def slabAt (l : List SlabW) (i : Nat) : SlabW := l.getD i zbw
def partB (s : Int) : Bool := decide (s = 1) || decide (s = 2) || decide (s = 4)
def usedB (l : List Bool) : Bool := l.any (fun y => true == y)
def slabB (s : SlabW) : Bool := decide (0 ≤ s.f0 ∧ s.f0 ≤ 31) && partB s.f1 && decide ((s.f2.length : Int) = 4 / s.f1) && usedB s.f2
def okSl (l : List SlabW) (i : Nat) : Bool := slabB (slabAt l i) && (decide (i = 0) || decide ((slabAt l (i - 1)).f0 < (slabAt l i).f0))
def slabsB (l : List SlabW) : Bool := decide (l.length ≤ 32) && (List.range l.length).all (okSl l)
theorem partB_or {s : Int} (h : partB s = true) : s = 1 ∨ s = 2 ∨ s = 4 := by
  unfold partB at h
  simp only [Bool.or_eq_true, decide_eq_true_eq] at h
  omega
theorem part_wrap {s : Int} (h : partB s = true) : wrap64 ((4 : Int) / s) = 4 / s ∧ s ≠ 0 := by
  rcases partB_or h with rfl | rfl | rfl <;> exact ⟨wrap64_id (by omega) (by omega), by decide⟩
theorem isPart_eq (s : Int) : impl_isPartSize.f s = some (partB s) := by
  unfold impl_isPartSize.f partB
  by_cases h1 : s = 1
  · rw [if_pos h1]; simp [h1]
  · rw [if_neg h1]
    by_cases h2 : s = 2
    · rw [if_pos h2]; simp [h2]
    · rw [if_neg h2]
      congr 1
      simp [h1, h2]
      rw [Bool.eq_iff_iff]; simp
theorem used_ev (f0 f1 : Int) (l : List Bool) (hl : l.length ≤ 1048576) : Ev (fun k => spec_l04Slab.l0 k false 0 f0 f1 l) (usedB l) := by
  have key : ∀ (d i : Nat) (b : Bool), i + d = l.length → Ev (fun k => spec_l04Slab.l0 k b (i : Int) f0 f1 l) (b || usedB (l.drop i)) := by
    intro d
    induction d with
    | zero =>
      intro i b hi
      rw [List.drop_of_length_le (by omega)]
      refine Ev.of_succ (fun k => ?_)
      simp only [spec_l04Slab.l0]
      rw [if_neg (by omega)]
      simp [usedB]
    | succ d ih =>
      intro i b hi
      have hlt : i < l.length := by omega
      have hr : rdOf false l (i : Int) = l[i] := by unfold rdOf; rw [toNat_cast]; simp [List.getD_eq_getElem?_getD, List.getElem?_eq_getElem hlt]
      have hd : usedB (l.drop i) = (l[i] || usedB (l.drop (i + 1))) := by rw [List.drop_eq_getElem_cons hlt]; unfold usedB; rw [List.any_cons]; simp
      rw [hd]
      cases b with
      | true =>
        have := ih (i + 1) true (by omega)
        rw [Bool.true_or] at this ⊢
        refine Ev.step (fun k => ?_) this
        simp only [spec_l04Slab.l0]
        rw [if_pos (by omega), if_pos trivial, wrap_succ (by omega)]
      | false =>
        rw [Bool.false_or]
        refine Ev.step (fun k => ?_) (ih (i + 1) l[i] (by omega))
        simp only [spec_l04Slab.l0]
        rw [if_pos (by omega), if_neg (by simp), if_pos (by omega), hr, wrap_succ (by omega)]
  have := key l.length 0 false (by omega)
  rw [Bool.false_or, List.drop_zero] at this
  exact this
theorem l04Slab_ev (s : SlabW) (hl : s.f2.length ≤ 1048576) : Ev (fun k => spec_l04Slab.f k s.f0 s.f1 s.f2) (slabB s) := by
  have bad : Ev (fun k => spec_l04Slab.j0 k true s.f0 s.f1 s.f2) false := Ev.of_succ (fun k => by simp only [spec_l04Slab.j0]; rw [if_pos trivial])
  have good : partB s.f1 = true → Ev (fun k => spec_l04Slab.j0 k ((s.f2.length : Int) != (wrap64 ((4 : Int) / s.f1))) s.f0 s.f1 s.f2) (decide ((s.f2.length : Int) = 4 / s.f1) && usedB s.f2) := by
    intro hp
    rw [(part_wrap hp).1]
    by_cases h : (s.f2.length : Int) = 4 / s.f1
    · rw [show ((s.f2.length : Int) != 4 / s.f1) = false by simpa using h, decide_eq_true h, Bool.true_and]
      refine Ev.step (fun k => ?_) (used_ev s.f0 s.f1 s.f2 hl)
      simp only [spec_l04Slab.j0]
      rw [if_neg (by simp)]
    · rw [show ((s.f2.length : Int) != 4 / s.f1) = true by simpa using h, decide_eq_false h, Bool.false_and]
      exact bad
  unfold spec_l04Slab.f slabB
  rw [l01In_eq]
  simp only [Option.bind_some]
  by_cases hf : 0 ≤ s.f0 ∧ s.f0 ≤ 31
  · simp only [decide_eq_true hf, if_true, Bool.true_and]
    by_cases hp : partB s.f1 = true
    · rw [hp, Bool.true_and]
      have hne := (part_wrap hp).2
      have hg := good hp
      by_cases h1 : s.f1 = 1
      · simp only [if_pos h1, if_neg hne]; exact hg
      · by_cases h2 : s.f1 = 2
        · simp only [if_neg h1, if_pos h2, if_neg hne]; exact hg
        · have h4 : s.f1 = 4 := by rcases partB_or hp with h | h | h <;> omega
          simp only [if_neg h1, if_neg h2, if_pos h4, if_neg hne]; exact hg
    · rw [show partB s.f1 = false by simpa using hp, Bool.false_and, Bool.false_and]
      have hq : ¬ (s.f1 = 1 ∨ s.f1 = 2 ∨ s.f1 = 4) := by
        intro h
        apply hp
        unfold partB
        rcases h with h | h | h <;> simp [h]
      simp only [if_neg (show ¬ s.f1 = 1 by omega), if_neg (show ¬ s.f1 = 2 by omega), if_neg (show ¬ s.f1 = 4 by omega)]
      exact bad
  · simp only [decide_eq_false hf, Bool.false_eq_true, if_false, Bool.false_and]
    exact bad
theorem wrap_pred_s {i : Nat} (h0 : 0 < i) (h : i < 9223372036854775807) : wrap64 ((i : Int) - 1) = ((i - 1 : Nat) : Int) := by unfold wrap64; omega
theorem okSl_cases {l : List SlabW} {i : Nat} (h0 : ¬ i = 0) : okSl l i = (slabB (slabAt l i) && decide ((slabAt l (i - 1)).f0 < (slabAt l i).f0)) := by unfold okSl; rw [decide_eq_false h0, Bool.false_or]
theorem spec_SlabsOk_ev (l : List SlabW) (hl : SmallSw l) : Ev (fun k => spec_SlabsOk.f k l) (slabsB l) := by
  have hll := hl.1
  unfold spec_SlabsOk.f slabsB
  by_cases h12 : (l.length : Int) > 32
  · simp only [if_pos h12, decide_eq_false (show ¬ l.length ≤ 32 by omega), Bool.false_and]; exact Ev.now _
  · simp only [if_neg h12, decide_eq_true (show l.length ≤ 32 by omega), Bool.true_and]
    have step : ∀ (i : Nat), i < l.length → ∀ r, Ev (fun k => (if slabB (slabAt l i) = true then (if (i : Int) > 0 then (if 0 ≤ (wrap64 ((i : Int) - 1)) then (if (wrap64 ((i : Int) - 1)) < (l.length : Int) then (if ((rd_T47 l (wrap64 ((i : Int) - 1))).f0) ≥ ((slabAt l i).f0) then (some false) else (spec_SlabsOk.l0 k l (wrap64 ((i : Int) + 1)))) else (none)) else (none)) else (spec_SlabsOk.l0 k l (wrap64 ((i : Int) + 1)))) else (some false))) r → Ev (fun k => spec_SlabsOk.l0 k l (i : Int)) r := by
      intro i hi r h
      refine Ev.step (f := fun k => (spec_l04Slab.f k (slabAt l i).f0 (slabAt l i).f1 (slabAt l i).f2).bind fun t486 => (if t486 = true then (if (i : Int) > 0 then (if 0 ≤ (wrap64 ((i : Int) - 1)) then (if (wrap64 ((i : Int) - 1)) < (l.length : Int) then (if ((rd_T47 l (wrap64 ((i : Int) - 1))).f0) ≥ ((slabAt l i).f0) then (some false) else (spec_SlabsOk.l0 k l (wrap64 ((i : Int) + 1)))) else (none)) else (none)) else (spec_SlabsOk.l0 k l (wrap64 ((i : Int) + 1)))) else (some false))) (fun k => ?_) (Ev.bind (l04Slab_ev (slabAt l i) (hl.at_ i)) h)
      simp only [spec_SlabsOk.l0]
      rw [if_pos (by omega), if_pos (by omega), rdBW]
      rfl
    have key := ev_all0 (fun k i => spec_SlabsOk.l0 k l (i : Int)) l.length (okSl l) false true (by
      intro i hi hb r h
      refine step i hi r ?_
      by_cases h0 : i = 0
      · subst h0
        unfold okSl at hb
        simp only [decide_true, Bool.true_or, Bool.and_true] at hb
        simp only [hb, if_true, if_neg (show ¬ ((0 : Nat) : Int) > 0 by omega), wrap_succ (show 0 < 9223372036854775807 by omega)]
        exact h
      · rw [okSl_cases h0, Bool.and_eq_true, decide_eq_true_eq] at hb
        obtain ⟨h1, h2⟩ := hb
        have hr : rd_T47 l ((i - 1 : Nat) : Int) = slabAt l (i - 1) := rdBW l (i - 1)
        simp only [h1, if_true, if_pos (show (i : Int) > 0 by omega), wrap_pred_s (show 0 < i by omega) (show i < 9223372036854775807 by omega), if_pos (show (0 : Int) ≤ ((i - 1 : Nat) : Int) by omega), if_pos (show ((i - 1 : Nat) : Int) < (l.length : Int) by omega), hr, if_neg (show ¬ (slabAt l (i - 1)).f0 ≥ (slabAt l i).f0 by omega), wrap_succ (show i < 9223372036854775807 by omega)]
        exact h) (by
      intro i hi hb
      refine step i hi false ?_
      by_cases h1 : slabB (slabAt l i) = true
      · have h0 : ¬ i = 0 := by rintro rfl; unfold okSl at hb; rw [h1] at hb; simp at hb
        rw [okSl_cases h0, h1, Bool.true_and, decide_eq_false_iff_not] at hb
        have hr : rd_T47 l ((i - 1 : Nat) : Int) = slabAt l (i - 1) := rdBW l (i - 1)
        simp only [h1, if_true, if_pos (show (i : Int) > 0 by omega), wrap_pred_s (show 0 < i by omega) (show i < 9223372036854775807 by omega), if_pos (show (0 : Int) ≤ ((i - 1 : Nat) : Int) by omega), if_pos (show ((i - 1 : Nat) : Int) < (l.length : Int) by omega), hr, if_pos (show (slabAt l (i - 1)).f0 ≥ (slabAt l i).f0 by omega)]
        exact Ev.now _
      · simp only [h1]
        exact Ev.now _) (by
      refine Ev.of_succ (fun k => ?_)
      simp only [spec_SlabsOk.l0]
      rw [if_neg (by omega)])
    have e : (if (List.range l.length).all (okSl l) = true then true else false) = (List.range l.length).all (okSl l) := by cases (List.range l.length).all (okSl l) <;> rfl
    rw [e] at key
    exact key
/-- What the program asks of a slab behind its frame. -/
theorem restSl_ev (l : List SlabW) (s : SlabW) (hs : s.f2.length ≤ 1048576) (g : Nat → Option Bool) (r : Bool)
    (h : Ev (fun k => if (partB s.f1 && decide ((s.f2.length : Int) = 4 / s.f1) && usedB s.f2) = true then g k else some false) r) :
    Ev (fun k => (impl_isPartSize.f s.f1).bind fun t516 => (if t516 = true then (if s.f1 = 0 then (none) else (if (s.f2.length : Int) = (wrap64 ((4 : Int) / s.f1)) then ((slices_Contains_bool_bool.f k s.f2 true).bind fun t517 => (if t517 = true then g k else (some false))) else (some false))) else (some false))) r := by
  rw [isPart_eq]
  simp only [Option.bind_some]
  by_cases hp : partB s.f1 = true
  · simp only [hp, if_true, if_neg (part_wrap hp).2, (part_wrap hp).1, Bool.true_and] at h ⊢
    by_cases hlen : (s.f2.length : Int) = 4 / s.f1
    · simp only [if_pos hlen, decide_eq_true hlen, Bool.true_and] at h ⊢
      have h4 : s.f2.length ≤ 4 := by rcases partB_or hp with e | e | e <;> rw [e] at hlen <;> omega
      exact Ev.bind (contains_ev s.f2 (by omega) true) h
    · simp only [if_neg hlen, decide_eq_false hlen, Bool.false_and, Bool.false_eq_true, if_false] at h ⊢
      exact h
  · have hp' : partB s.f1 = false := by simpa using hp
    simp only [hp', Bool.false_and, Bool.false_eq_true, if_false] at h ⊢
    exact h
theorem impl_SlabsOk_ev (l : List SlabW) (hl : SmallSw l) : Ev (fun k => impl_SlabsOk.f k l) (slabsB l) := by
  have hll := hl.1
  unfold impl_SlabsOk.f slabsB
  have tail : ∀ (i : Nat), i < l.length → ∀ r, (i = 0 ∨ (slabAt l (i - 1)).f0 < (slabAt l i).f0) → Ev (fun k => if slabB (slabAt l i) = true then impl_SlabsOk.l0 k l l (l.length : Int) ((i + 1 : Nat) : Int) else some false) r → Ev (fun k => impl_SlabsOk.l0 k l l (l.length : Int) (i : Int)) r := by
    intro i hi r h0 h
    by_cases hf : 0 ≤ (slabAt l i).f0 ∧ (slabAt l i).f0 ≤ 31
    · refine Ev.step (f := fun k => (impl_isPartSize.f (slabAt l i).f1).bind fun t516 => (if t516 = true then (if (slabAt l i).f1 = 0 then (none) else (if ((slabAt l i).f2.length : Int) = (wrap64 ((4 : Int) / (slabAt l i).f1)) then ((slices_Contains_bool_bool.f k (slabAt l i).f2 true).bind fun t517 => (if t517 = true then impl_SlabsOk.l0 k l l (l.length : Int) ((i + 1 : Nat) : Int) else (some false))) else (some false))) else (some false))) (fun k => ?_) (restSl_ev l (slabAt l i) (hl.at_ i) (fun k => impl_SlabsOk.l0 k l l (l.length : Int) ((i + 1 : Nat) : Int)) r ?_)
      · simp only [impl_SlabsOk.l0]
        rw [if_pos (by omega), if_pos (by omega), if_pos (by omega), rdBW, show l.getD i zbw = slabAt l i from rfl, within_eq, decide_eq_true hf]
        simp only [Option.bind_some, if_true]
        rw [wrap_succ (by omega)]
        by_cases hz : i = 0
        · subst hz
          rw [if_neg (by omega)]
        · have h2 : (slabAt l (i - 1)).f0 < (slabAt l i).f0 := by rcases h0 with h | h; exact absurd h hz; exact h
          rw [if_pos (by omega), wrap_pred_s (by omega) (by omega), if_pos (by omega), if_pos (by omega), rdBW, show l.getD (i - 1) zbw = slabAt l (i - 1) from rfl, if_neg (by omega)]
      · unfold slabB at h
        simp only [decide_eq_true hf, Bool.true_and] at h
        exact h
    · have hb : slabB (slabAt l i) = false := by unfold slabB; rw [decide_eq_false hf]; simp
      simp only [hb, Bool.false_eq_true, if_false] at h
      refine Ev.step (fun k => ?_) h
      simp only [impl_SlabsOk.l0]
      rw [if_pos (by omega), if_pos (by omega), if_pos (by omega), rdBW, show l.getD i zbw = slabAt l i from rfl, within_eq, decide_eq_false hf]
      rfl
  have key := ev_all0 (fun k i => impl_SlabsOk.l0 k l l (l.length : Int) (i : Int)) l.length (okSl l) false (decide (l.length ≤ 32)) (by
    intro i hi hb r h
    unfold okSl at hb
    simp only [Bool.and_eq_true, Bool.or_eq_true, decide_eq_true_eq] at hb
    refine tail i hi r hb.2 ?_
    simp only [hb.1, if_true]
    exact h) (by
    intro i hi hb
    by_cases h0 : i = 0 ∨ (slabAt l (i - 1)).f0 < (slabAt l i).f0
    · refine tail i hi false h0 ?_
      have hs : slabB (slabAt l i) = false := by
        unfold okSl at hb
        rw [show (decide (i = 0) || decide ((slabAt l (i - 1)).f0 < (slabAt l i).f0)) = true by simpa using h0, Bool.and_true] at hb
        exact hb
      simp only [hs, Bool.false_eq_true, if_false]
      exact Ev.now _
    · refine Ev.of_succ (fun k => ?_)
      simp only [impl_SlabsOk.l0]
      rw [if_pos (by omega), if_pos (by omega), if_pos (by omega), rdBW, show l.getD i zbw = slabAt l i from rfl, within_eq]
      simp only [Option.bind_some]
      by_cases hf : 0 ≤ (slabAt l i).f0 ∧ (slabAt l i).f0 ≤ 31
      · rw [decide_eq_true hf, if_pos rfl, if_pos (by omega), wrap_pred_s (by omega) (by omega), if_pos (by omega), if_pos (by omega), rdBW, show l.getD (i - 1) zbw = slabAt l (i - 1) from rfl, if_pos (by omega)]
      · rw [decide_eq_false hf]; rfl) (by
    refine Ev.of_succ (fun k => ?_)
    simp only [impl_SlabsOk.l0]
    rw [if_neg (by omega)]
    congr 1
    rw [decide_eq_decide]
    omega)
  have e : (if (List.range l.length).all (okSl l) = true then decide (l.length ≤ 32) else false) = (decide (l.length ≤ 32) && (List.range l.length).all (okSl l)) := by cases (List.range l.length).all (okSl l) <;> simp
  rw [e] at key
  exact key
theorem getD_mid {α : Type} (pre : List α) (x : α) (rest : List α) (d : α) : (pre ++ x :: rest).getD pre.length d = x := by
  simp [List.getD_eq_getElem?_getD]
theorem set_mid {α : Type} (pre : List α) (x y : α) (rest : List α) : (pre ++ x :: rest).set pre.length y = (pre ++ [y]) ++ rest := by
  rw [List.set_append_right _ _ (Nat.le_refl _)]
  simp
theorem take_getD {α : Type} (l : List α) (d : α) {i : Nat} (h : i < l.length) : l.take i ++ [l.getD i d] = l.take (i + 1) := by
  rw [List.take_succ_eq_append_getElem h]
  simp [List.getD_eq_getElem?_getD, List.getElem?_eq_getElem h]
def upBool (a : Int) (n : Nat) : List Bool := (List.range n).map (fun j : Nat => (Int.tmod (a + (j : Int)) 3 == 0))
theorem upBool_len (a : Int) (n : Nat) : (upBool a n).length = n := by simp [upBool]
theorem upBool_getD (a : Int) (n i : Nat) (h : i < n) : (upBool a n).getD i false = (Int.tmod (a + (i : Int)) 3 == 0) := by simp [upBool, List.getD_eq_getElem?_getD, h]
theorem markBoolS_ev (l : List Bool) (hl : l.length ≤ 1048576) (a : Int) (h0 : 0 ≤ a) (h1 : a ≤ 1000000000) : Ev (fun k => laws_markBoolS.f k l a) (a + l.length, upBool a l.length) := by
  have key := ev_copy0 (fun k acc i => laws_markBoolS.l0 k acc (a + (i : Int)) (i : Int)) l.length (fun i => (Int.tmod (a + (i : Int)) 3 == 0)) (fun acc => (a + (l.length : Int), acc)) (by
    intro i acc hi ha r h
    refine Ev.step (fun k => ?_) h
    simp only [laws_markBoolS.l0]
    rw [if_pos (by omega), if_pos (by omega), wrap_succ (by omega), toNat_cast, wrap64_id (n := a + (i : Int) + 1) (by omega) (by omega), show a + (i : Int) + 1 = a + ((i + 1 : Nat) : Int) by omega]) (by
    intro acc ha
    refine Ev.of_succ (fun k => ?_)
    simp only [laws_markBoolS.l0]
    rw [if_neg (by omega)]) l rfl
  simp only [show ((0 : Nat) : Int) = 0 from rfl, Int.add_zero] at key
  exact key
theorem heldBoolS_ev (n : Nat) (hn : n ≤ 1048576) (a : Int) (h0 : 0 ≤ a) (h1 : a ≤ 1000000000) : Ev (fun k => laws_heldBoolS.f k (upBool a n) a) (a + n) := by
  have key := ev_yes (fun k i => laws_heldBoolS.l0 k (upBool a n) (a + (i : Int)) (i : Int)) n (fun _ => true) (a + (n : Int)) (by
    intro i hi _ r h
    refine Ev.step (fun k => ?_) h
    simp only [laws_heldBoolS.l0]
    rw [upBool_len, if_pos (by omega), if_pos (by omega), if_neg (by unfold rdOf; rw [toNat_cast, upBool_getD _ _ _ hi]; simp), wrap_succ (by omega), wrap64_id (n := a + (i : Int) + 1) (by omega) (by omega), show a + (i : Int) + 1 = a + ((i + 1 : Nat) : Int) by omega]) (by simp) (by
    refine Ev.of_succ (fun k => ?_)
    simp only [laws_heldBoolS.l0]
    rw [upBool_len, if_neg (by omega)])
  simp only [show ((0 : Nat) : Int) = 0 from rfl, Int.add_zero] at key
  exact key
/-- What is marked, slab by slab. -/
def markSb : Int → List SlabW → List SlabW
  | _, [] => []
  | a, x :: xs => ⟨a, a + 1, upBool (a + 2) x.f2.length⟩ :: markSb (a + 2 + x.f2.length) xs
def totSb (l : List SlabW) : Nat := (l.map (fun s : SlabW => s.f2.length + 2)).sum
theorem totSb_cons (x : SlabW) (l : List SlabW) : totSb (x :: l) = x.f2.length + 2 + totSb l := by simp [totSb]
theorem markSb_len (a : Int) (l : List SlabW) : (markSb a l).length = l.length := by
  induction l generalizing a with
  | nil => rfl
  | cons x l ih => simp [markSb, ih]
theorem markSb_loop : ∀ (rest pre : List SlabW) (b : Int), (∀ x ∈ rest, x.f2.length ≤ 1048576) → pre.length + rest.length ≤ 1048576 → 0 ≤ b → b + totSb rest ≤ 1000000000 →
    Ev (fun k => laws_markSlabS.l0 k (pre ++ rest) b (pre.length : Int)) (b + totSb rest, pre ++ markSb b rest) := by
  intro rest
  induction rest with
  | nil =>
    intro pre b _ hl h0 h1
    refine Ev.of_succ (fun k => ?_)
    simp only [laws_markSlabS.l0]
    rw [if_neg (by simp)]
    simp [totSb, markSb]
  | cons x rest ih =>
    intro pre b hx hl h0 h1
    rw [totSb_cons] at h1 ⊢
    simp only [List.length_cons] at hl
    have hxl := hx x List.mem_cons_self
    have hm := markBoolS_ev x.f2 hxl (b + 2) (by omega) (by omega)
    have hi := ih (pre ++ [⟨b, b + 1, upBool (b + 2) x.f2.length⟩]) (b + 2 + x.f2.length) (fun y hy => hx y (List.mem_cons_of_mem _ hy)) (by simp only [List.length_append, List.length_cons, List.length_nil]; omega) (by omega) (by omega)
    rw [show b + 2 + (x.f2.length : Int) + (totSb rest : Nat) = b + ((x.f2.length + 2 + totSb rest : Nat) : Int) by omega] at hi
    rw [show pre ++ markSb b (x :: rest) = (pre ++ [⟨b, b + 1, upBool (b + 2) x.f2.length⟩]) ++ markSb (b + 2 + x.f2.length) rest by simp [markSb]]
    refine Ev.step (f := fun k => (laws_markBoolS.f k x.f2 (b + 2)).bind fun t => laws_markSlabS.l0 k ((pre ++ [(⟨b, b + 1, t.2⟩ : SlabW)]) ++ rest) t.1 ((pre.length + 1 : Nat) : Int)) (fun k => ?_) (Ev.bind hm ?_)
    · simp only [laws_markSlabS.l0]
      rw [if_pos (by simp only [List.length_append, List.length_cons]; omega), if_pos (by omega), toNat_cast, getD_mid, wrap_succ (by omega), wrap64_id (n := b + 1) (by omega) (by omega), wrap64_id (n := b + 1 + 1) (by omega) (by omega), show b + 1 + 1 = b + 2 by omega]
      simp only [set_mid]
    · simp only [List.length_append, List.length_cons, List.length_nil] at hi
      exact hi
theorem markSlabS_ev (l : List SlabW) (hl : SmallSw l) (a : Int) (h0 : 0 ≤ a) (h1 : a + totSb l ≤ 1000000000) : Ev (fun k => laws_markSlabS.f k l a) (a + totSb l, markSb a l) := by
  have := markSb_loop l [] a hl.2 (by simpa using hl.1) h0 h1
  exact this
theorem heldSb_loop : ∀ (rest pre : List SlabW) (b : Int), (∀ x ∈ rest, x.f2.length ≤ 1048576) → pre.length + rest.length ≤ 1048576 → 0 ≤ b → b + totSb rest ≤ 1000000000 →
    Ev (fun k => laws_heldSlabS.l0 k (pre ++ markSb b rest) b (pre.length : Int)) (b + totSb rest) := by
  intro rest
  induction rest with
  | nil =>
    intro pre b _ hl h0 h1
    refine Ev.of_succ (fun k => ?_)
    simp only [laws_heldSlabS.l0]
    rw [if_neg (by simp [markSb])]
    simp [totSb]
  | cons x rest ih =>
    intro pre b hx hl h0 h1
    rw [totSb_cons] at h1 ⊢
    simp only [List.length_cons] at hl
    have hxl := hx x List.mem_cons_self
    have hm := heldBoolS_ev x.f2.length hxl (b + 2) (by omega) (by omega)
    have hi := ih (pre ++ [⟨b, b + 1, upBool (b + 2) x.f2.length⟩]) (b + 2 + x.f2.length) (fun y hy => hx y (List.mem_cons_of_mem _ hy)) (by simp only [List.length_append, List.length_cons, List.length_nil]; omega) (by omega) (by omega)
    rw [show b + 2 + (x.f2.length : Int) + (totSb rest : Nat) = b + ((x.f2.length + 2 + totSb rest : Nat) : Int) by omega] at hi
    have hml := markSb_len (b + 2 + x.f2.length) rest
    refine Ev.step (f := fun k => (laws_heldBoolS.f k (upBool (b + 2) x.f2.length) (b + 2)).bind fun t307 => (if t307 < 0 then (some (-1)) else (laws_heldSlabS.l0 k (pre ++ markSb b (x :: rest)) t307 ((pre.length + 1 : Nat) : Int)))) (fun k => ?_) (Ev.bind hm ?_)
    · simp only [laws_heldSlabS.l0]
      rw [if_pos (by simp only [List.length_append, markSb, List.length_cons]; omega), if_pos (by omega), rdBW, wrap_succ (by omega), wrap64_id (n := b + 1) (by omega) (by omega), wrap64_id (n := b + 1 + 1) (by omega) (by omega), show b + 1 + 1 = b + 2 by omega]
      simp only [markSb, getD_mid, if_true]
    · simp only [if_neg (show ¬ b + 2 + (x.f2.length : Int) < 0 by omega)]
      rw [show pre ++ markSb b (x :: rest) = (pre ++ [⟨b, b + 1, upBool (b + 2) x.f2.length⟩]) ++ markSb (b + 2 + x.f2.length) rest by simp [markSb]]
      simp only [List.length_append, List.length_cons, List.length_nil] at hi
      exact hi
theorem heldSlabS_ev (l : List SlabW) (hl : SmallSw l) (a : Int) (h0 : 0 ≤ a) (h1 : a + totSb l ≤ 1000000000) : Ev (fun k => laws_heldSlabS.f k (markSb a l) a) (a + totSb l) := by
  have := heldSb_loop l [] a hl.2 (by simpa using hl.1) h0 h1
  exact this
theorem totSb_sum (l : List SlabL) (h : l.length ≤ 1048576) (h2 : ((l.map (fun s => s.f2.length)).sum : Nat) ≤ 1048576) : totSb (l.map toSlab) ≤ 4000000 := by
  have key : ∀ l : List SlabL, totSb (l.map toSlab) = 2 * l.length + (l.map (fun s => s.f2.length)).sum := by
    intro l
    induction l with
    | nil => rfl
    | cons x l ih => rw [List.map_cons, totSb_cons, ih]; simp only [toSlab, List.length_cons, List.map_cons, List.sum_cons]; omega
  rw [key]; omega
theorem spec_l04Copy_ev (l : List SlabW) (hl : SmallSw l) : Ev (fun k => spec_l04Copy.f k l) l := by
  have h1 := hl.1
  have key := ev_yes (fun k i => spec_l04Copy.l0 k l (l.take i) (i : Int)) l.length (fun _ => true) l (by
    intro i hi _ r h
    refine Ev.step (fun k => ?_) h
    have hr := hl.at_ i
    simp only [spec_l04Copy.l0]
    rw [if_pos (by omega), if_pos (by omega)]
    simp only [Option.bind_some, List.nil_append]
    rw [rdBW, if_pos (by simp only [List.length_nil]; omega), if_pos (by rw [List.length_take]; omega), take_getD l zbw hi, wrap_succ (by omega)]) (by simp) (by
    refine Ev.of_succ (fun k => ?_)
    simp only [spec_l04Copy.l0]
    rw [if_neg (by omega), List.take_length])
  exact key
theorem impl_copySlabs_ev (l : List SlabW) (hl : SmallSw l) : Ev (fun k => impl_copySlabs.f k l) l := by
  have h1 := hl.1
  have key := ev_yes (fun k i => impl_copySlabs.l0 k (l.take i) l (l.length : Int) (i : Int)) l.length (fun _ => true) l (by
    intro i hi _ r h
    refine Ev.step (fun k => ?_) h
    have hr := hl.at_ i
    simp only [impl_copySlabs.l0]
    rw [if_pos (by omega), if_pos (by omega), if_pos (by omega), rdBW, if_pos (by simp only [List.length_nil]; omega), if_pos (by rw [List.length_take]; omega)]
    simp only [List.nil_append]
    rw [take_getD l zbw hi, wrap_succ (by omega)]) (by simp) (by
    refine Ev.of_succ (fun k => ?_)
    simp only [impl_copySlabs.l0]
    rw [if_neg (by omega), List.take_length])
  exact key
/-- What is as right slabs are. -/
def SlabFours (l : List SlabW) : Prop := l.length ≤ 33 ∧ ∀ x ∈ l, x.f2.length ≤ 4
theorem SlabFours.nil : SlabFours [] := ⟨by decide, fun x hx => by cases hx⟩
theorem slabB_four {s : SlabW} (h : slabB s = true) : s.f2.length ≤ 4 := by
  simp only [slabB, Bool.and_eq_true, decide_eq_true_eq] at h
  obtain ⟨⟨⟨_, h2⟩, h3⟩, _⟩ := h
  rcases partB_or h2 with h4 | h4 | h4 <;> rw [h4] at h3 <;> omega
theorem slabsB_four {l : List SlabW} (h : slabsB l = true) : SlabFours l := by
  simp only [slabsB, Bool.and_eq_true, decide_eq_true_eq] at h
  refine ⟨by omega, fun x hx => ?_⟩
  obtain ⟨i, hi, rfl⟩ := List.getElem_of_mem hx
  have := List.all_eq_true.1 h.2 i (List.mem_range.2 hi)
  simp only [okSl, Bool.and_eq_true] at this
  have h5 := slabB_four this.1
  unfold slabAt at h5
  rwa [List.getD_eq_getElem?_getD, List.getElem?_eq_getElem hi] at h5
theorem totSb_le : ∀ (l : List SlabW), (∀ x ∈ l, x.f2.length ≤ 4) → totSb l ≤ 6 * l.length := by
  intro l
  induction l with
  | nil => intro _; exact Nat.le_refl _
  | cons x l ih =>
    intro h
    have h2 := ih (fun y hy => h y (List.mem_cons_of_mem _ hy))
    have h3 := h x List.mem_cons_self
    rw [totSb_cons, List.length_cons]
    omega
theorem SlabFours.small {l : List SlabW} (h : SlabFours l) : SmallSw l ∧ totSb l ≤ 198 :=
  ⟨⟨by have := h.1; omega, fun x hx => by have := h.2 x hx; omega⟩, by have := totSb_le l h.2; have := h.1; omega⟩
theorem SlabFours.set {l : List SlabW} (h : SlabFours l) (i : Nat) (a : SlabW) (ha : a.f2.length ≤ 4) : SlabFours (l.set i a) := by
  refine ⟨by simpa using h.1, fun x hx => ?_⟩
  rcases List.mem_or_eq_of_mem_set hx with hx | rfl
  · exact h.2 x hx
  · exact ha
/-! Where a frame's slab is, or would be. -/
def AscS (l : List SlabW) : Prop := l.Pairwise (fun a b => a.f0 < b.f0)
theorem slabsB_asc {l : List SlabW} (h : slabsB l = true) : (∀ x ∈ l, slabB x = true) ∧ AscS l ∧ l.length ≤ 32 := by
  simp only [slabsB, Bool.and_eq_true, decide_eq_true_eq] at h
  have hat : ∀ i (hi : i < l.length), slabAt l i = l[i] := fun i hi => by unfold slabAt; rw [List.getD_eq_getElem?_getD, List.getElem?_eq_getElem hi]; rfl
  have h1 : ∀ i, i < l.length → slabB (slabAt l i) = true ∧ (i = 0 ∨ (slabAt l (i - 1)).f0 < (slabAt l i).f0) := by
    intro i hi
    have h2 := List.all_eq_true.1 h.2 i (List.mem_range.2 hi)
    simp only [okSl, Bool.and_eq_true, Bool.or_eq_true, decide_eq_true_eq] at h2
    exact h2
  refine ⟨fun x hx => ?_, ?_, h.1⟩
  · obtain ⟨i, hi, rfl⟩ := List.getElem_of_mem hx
    rw [← hat i hi]; exact (h1 i hi).1
  · unfold AscS
    rw [List.pairwise_iff_getElem]
    intro i j hi hj hij
    have key : ∀ d, i + 1 + d < l.length → (slabAt l i).f0 < (slabAt l (i + 1 + d)).f0 := by
      intro d
      induction d with
      | zero =>
        intro hd
        rcases (h1 (i + 1) (by omega)).2 with h2 | h2
        · omega
        · exact h2
      | succ d ih =>
        intro hd
        have h2 := ih (by omega)
        rcases (h1 (i + 1 + (d + 1)) hd).2 with h3 | h3
        · omega
        · have h4 : (slabAt l (i + 1 + d)).f0 < (slabAt l (i + 1 + (d + 1))).f0 := h3
          omega
    have h2 := key (j - i - 1) (by omega)
    rw [show i + 1 + (j - i - 1) = j by omega, hat i hi, hat j hj] at h2
    exact h2
theorem slabsB_of {l : List SlabW} (h1 : ∀ x ∈ l, slabB x = true) (h2 : AscS l) (h3 : l.length ≤ 32) : slabsB l = true := by
  have hat : ∀ i (hi : i < l.length), slabAt l i = l[i] := fun i hi => by unfold slabAt; rw [List.getD_eq_getElem?_getD, List.getElem?_eq_getElem hi]; rfl
  unfold slabsB
  rw [decide_eq_true h3, Bool.true_and, List.all_eq_true]
  intro i hi
  have hi := List.mem_range.1 hi
  unfold AscS at h2
  rw [List.pairwise_iff_getElem] at h2
  unfold okSl
  rw [hat i hi, h1 _ (List.getElem_mem hi), Bool.true_and, Bool.or_eq_true, decide_eq_true_eq, decide_eq_true_eq]
  by_cases h0 : i = 0
  · exact Or.inl h0
  · refine Or.inr ?_
    rw [hat (i - 1) (by omega)]
    exact h2 (i - 1) i (by omega) hi (by omega)
theorem place_ends (l : List SlabW) (fr : Int) : ∃ A B, l = A ++ B ∧ (∀ x ∈ A, x.f0 < fr) ∧ (∀ b B', B = b :: B' → fr ≤ b.f0) := by
  induction l with
  | nil => exact ⟨[], [], rfl, fun x h => absurd h (by simp), fun b B' h => absurd h (by simp)⟩
  | cons x l ih =>
    by_cases h : x.f0 < fr
    · obtain ⟨A, B, h1, h2, h3⟩ := ih
      refine ⟨x :: A, B, by rw [h1]; rfl, fun y hy => ?_, h3⟩
      rcases List.mem_cons.1 hy with rfl | hy
      · exact h
      · exact h2 y hy
    · refine ⟨[], x :: l, rfl, fun y hy => absurd hy (by simp), fun b B' hb => ?_⟩
      injection hb with h1 h2
      subst h1
      omega
def hasB (fr : Int) : List SlabW → Bool
  | [] => false
  | b :: _ => b.f0 == fr
theorem slabAt_ev (A B : List SlabW) (fr : Int) (hl : (A ++ B).length ≤ 1048576) (hA : ∀ x ∈ A, x.f0 < fr) (hB : ∀ b B', B = b :: B' → fr ≤ b.f0) : Ev (fun k => impl_slabAt.f k (A ++ B) fr) ((A.length : Int), hasB fr B) := by
  have key : ∀ (d i : Nat), i + d = A.length → Ev (fun k => impl_slabAt.l0 k (A ++ B) fr (i : Int)) ((A.length : Int), hasB fr B) := by
    intro d
    induction d with
    | zero =>
      intro i hi
      have e : i = A.length := by omega
      subst e
      refine Ev.of_succ (fun k => ?_)
      simp only [impl_slabAt.l0]
      cases B with
      | nil => rw [if_neg (by simp)]; rfl
      | cons b B' =>
        have hb := hB b B' rfl
        rw [if_pos (by rw [List.length_append, List.length_cons]; omega), if_pos (by omega), rdBW, getD_mid, if_neg (by omega)]
        rfl
    | succ d ih =>
      intro i hi
      have hi2 : i < A.length := by omega
      have hx : (A ++ B).getD i zbw = A[i] := by rw [List.getD_eq_getElem?_getD, List.getElem?_append_left hi2, List.getElem?_eq_getElem hi2]; rfl
      refine Ev.step (fun k => ?_) (ih (i + 1) (by omega))
      simp only [impl_slabAt.l0]
      rw [if_pos (by rw [List.length_append]; omega), if_pos (by omega), rdBW, hx, if_pos (hA _ (List.getElem_mem hi2)), wrap_succ (by rw [List.length_append] at hl; omega)]
  exact key A.length 0 (by omega)
/-! A new slab. -/
def usedOf (sz : Int) : List Bool := (List.replicate (wrap64 ((4 : Int) / sz)).toNat false).set 0 true
def newS (fr sz : Int) : SlabW := ⟨fr, sz, usedOf sz⟩
def addR (A B : List SlabW) (fr sz : Int) : List SlabW × Bool := if slabsB (A ++ B) = true ∧ partB sz = true ∧ hasB fr B = false ∧ slabsB (A ++ newS fr sz :: B) = true then (A ++ newS fr sz :: B, true) else ([], false)
theorem used_facts {sz : Int} (h : partB sz = true) : ¬ sz = 0 ∧ 0 ≤ wrap64 ((4 : Int) / sz) ∧ (wrap64 ((4 : Int) / sz)).toNat ≤ 281474976710656 ∧ (0 : Int) < ((List.replicate (wrap64 ((4 : Int) / sz)).toNat false).length : Int) ∧ (usedOf sz).length ≤ 4 := by
  have e0 : (usedOf sz).length = (wrap64 ((4 : Int) / sz)).toNat := by unfold usedOf; rw [List.length_set, List.length_replicate]
  rw [e0, List.length_replicate, (part_wrap h).1]
  rcases partB_or h with rfl | rfl | rfl <;> decide
theorem addR_four (A B : List SlabW) (fr sz : Int) : SlabFours (addR A B fr sz).1 := by
  unfold addR
  split
  · rename_i h
    exact slabsB_four h.2.2.2
  · exact SlabFours.nil
theorem small_new {A B : List SlabW} (h : slabsB (A ++ B) = true) {fr sz : Int} (hp : partB sz = true) : SmallSw (A ++ newS fr sz :: B) := by
  have h4 := (slabsB_four h).small.1
  have h5 := (used_facts hp).2.2.2.2
  have h6 := (slabsB_four h).1
  rw [List.length_append] at h6
  refine ⟨by rw [List.length_append, List.length_cons]; omega, fun x hx => ?_⟩
  rcases List.mem_append.1 hx with h1 | h1
  · exact h4.2 x (List.mem_append_left _ h1)
  · rcases List.mem_cons.1 h1 with rfl | h1
    · show (usedOf sz).length ≤ _; omega
    · exact h4.2 x (List.mem_append_right _ h1)
theorem impl_Add_ev (A B : List SlabW) (fr sz : Int) (hsm : SmallSw (A ++ B)) (hA : ∀ x ∈ A, x.f0 < fr) (hB : ∀ b B', B = b :: B' → fr ≤ b.f0) : Ev (fun k => impl_AddSlab.f k (A ++ B) fr sz) (addR A B fr sz) := by
  have hok := impl_SlabsOk_ev (A ++ B) hsm
  have no : Ev (fun k => impl_AddSlab.j0 k (A ++ B) fr sz true) ([], false) := by
    refine Ev.of_succ (fun k => ?_)
    simp only [impl_AddSlab.j0, if_true]
  unfold impl_AddSlab.f
  refine Ev.bind hok ?_
  by_cases h : slabsB (A ++ B) = true
  · simp only [h, if_true, isPart_eq, Option.bind_some]
    by_cases hp : partB sz = true
    · obtain ⟨u1, u2, u3, u4, u5⟩ := used_facts hp
      have hpl := slabAt_ev A B fr hsm.1 hA hB
      have h4 := slabsB_four h
      simp only [hp, Bool.not_true]
      refine Ev.step (f := fun k => (impl_slabAt.f k (A ++ B) fr).bind fun bt => (if bt.2 = true then (some (([] : List SlabW), false)) else ((impl_copySlabs.f k (A ++ B)).bind fun t344 => ((insertSlab.f t344 bt.1 [newS fr sz]).bind fun t350 => ((impl_SlabsOk.f k t350).bind fun t353 => (if t353 = true then (some (t350, true)) else (some (([] : List SlabW), false)))))))) (fun k => ?_) (Ev.bind hpl ?_)
      · simp only [impl_AddSlab.j0, Bool.false_eq_true, if_false, if_neg u1, if_pos u2, if_pos u3, Option.bind_some, if_pos u4]
        rfl
      · by_cases hh : hasB fr B = true
        · have hgo : addR A B fr sz = ([], false) := if_neg (fun x => by rw [hh] at x; exact absurd x.2.2.1 (by decide))
          simp only [hh, if_true]
          rw [hgo]
          exact Ev.now _
        · have hh' : hasB fr B = false := by simpa using hh
          simp only [hh', Bool.false_eq_true, if_false]
          refine Ev.bind (impl_copySlabs_ev (A ++ B) hsm) ?_
          have e1 : insertSlab.f (A ++ B) (A.length : Int) [newS fr sz] = some (A ++ newS fr sz :: B) := by
            have h32 := h4.1
            unfold insertSlab.f
            rw [if_pos ⟨by omega, by rw [List.length_append]; omega, by omega, rfl⟩, toNat_cast, List.take_left, List.drop_left, List.append_assoc]
            rfl
          simp only [e1, Option.bind_some]
          refine Ev.bind (impl_SlabsOk_ev _ (small_new h hp)) ?_
          by_cases h9 : slabsB (A ++ newS fr sz :: B) = true
          · have hgo : addR A B fr sz = (A ++ newS fr sz :: B, true) := if_pos ⟨h, hp, hh', h9⟩
            simp only [h9, if_true]
            rw [hgo]
            exact Ev.now _
          · have hgo : addR A B fr sz = ([], false) := if_neg (fun x => h9 x.2.2.2)
            simp only [if_neg h9]
            rw [hgo]
            exact Ev.now _
    · have hgo : addR A B fr sz = ([], false) := if_neg (fun x => hp x.2.1)
      have hp' : partB sz = false := by simpa using hp
      rw [hgo]
      simp only [hp', Bool.not_false]
      exact no
  · have hgo : addR A B fr sz = ([], false) := if_neg (fun x => h x.1)
    rw [hgo]
    simp only [if_neg h]
    exact no
/-- The second loop: what is above the frame. -/
theorem spec_add_up (A B : List SlabW) (fr : Int) (out : List SlabW) (hl : (A ++ B).length ≤ 1000) (ho : out.length + B.length ≤ 1000) (hB : ∀ x ∈ B, fr < x.f0) (R : List SlabW × Bool)
    (hA : ∀ x ∈ A, x.f0 < fr) (hR : Ev (fun k => (spec_SlabsOk.f k (out ++ B)).bind fun t => (if t = true then some (out ++ B, true) else some ([], false))) R) :
    Ev (fun k => spec_AddSlab.l1 k fr out (A ++ B) 0) R := by
  have hi : ∀ (rest pre o : List SlabW), pre ++ rest = A ++ B → A.length ≤ pre.length → o ++ rest = out ++ B → o.length + rest.length ≤ 1000 → (∀ x ∈ rest, fr < x.f0) → Ev (fun k => spec_AddSlab.l1 k fr o (A ++ B) (pre.length : Int)) R := by
    intro rest
    induction rest with
    | nil =>
      intro pre o hp _ ho2 _ _
      rw [List.append_nil] at hp ho2
      subst hp ho2
      refine Ev.step (fun k => ?_) hR
      simp only [spec_AddSlab.l1]
      rw [if_neg (by omega)]
    | cons x rest ih =>
      intro pre o hp hal ho2 hol hgt
      have hx : (A ++ B).getD pre.length zbw = x := by rw [← hp]; exact getD_mid pre x rest zbw
      have hlen : pre.length < (A ++ B).length := by rw [← hp, List.length_append, List.length_cons]; omega
      rw [List.length_cons] at hol
      have h := ih (pre ++ [x]) (o ++ [x]) (by rw [List.append_assoc]; exact hp) (by rw [List.length_append]; omega) (by rw [List.append_assoc]; exact ho2) (by simp only [List.length_append, List.length_cons, List.length_nil]; omega) (fun y hy => hgt y (List.mem_cons_of_mem _ hy))
      have e : ((pre ++ [x]).length : Int) = ((pre.length + 1 : Nat) : Int) := by simp
      rw [e] at h
      refine Ev.step (fun k => ?_) h
      simp only [spec_AddSlab.l1]
      rw [if_pos (by omega), if_pos (by omega), rdBW, hx, if_pos (hgt x List.mem_cons_self), if_pos (by omega), wrap_succ (by omega)]
  have lo : ∀ (d i : Nat), i + d = A.length → Ev (fun k => spec_AddSlab.l1 k fr out (A ++ B) (i : Int)) R := by
    intro d
    induction d with
    | zero =>
      intro i hi0
      have e : i = A.length := by omega
      subst e
      exact hi B A out rfl (Nat.le_refl _) rfl ho hB
    | succ d ih =>
      intro i hi0
      have hi2 : i < A.length := by omega
      have hx : (A ++ B).getD i zbw = A[i] := by rw [List.getD_eq_getElem?_getD, List.getElem?_append_left hi2, List.getElem?_eq_getElem hi2]; rfl
      have hlt := hA A[i] (List.getElem_mem hi2)
      refine Ev.step (fun k => ?_) (ih (i + 1) (by omega))
      simp only [spec_AddSlab.l1]
      rw [if_pos (by rw [List.length_append]; omega), if_pos (by omega), rdBW, hx, if_neg (by omega), wrap_succ (by rw [List.length_append] at hl; omega)]
  exact lo A.length 0 (by omega)
/-- The first loop: what is below it; the frame's own slab ends all. -/
theorem spec_add_low (A B : List SlabW) (fr a b : Int) (u : List Bool) (hl : (A ++ B).length ≤ 1000) (hA : ∀ x ∈ A, x.f0 < fr) (hB : ∀ x ∈ B, fr < x.f0) (R : List SlabW × Bool)
    (hR : Ev (fun k => spec_AddSlab.l1 k fr (A ++ [⟨a, b, u⟩]) (A ++ B) 0) R) : Ev (fun k => spec_AddSlab.l0 k fr [] (A ++ B) 0 a b u) R := by
  have hal : A.length ≤ 1000 := by rw [List.length_append] at hl; omega
  have hi : ∀ (rest pre : List SlabW), pre ++ rest = A ++ B → A.length ≤ pre.length → (∀ x ∈ rest, fr < x.f0) → Ev (fun k => spec_AddSlab.l0 k fr A (A ++ B) (pre.length : Int) a b u) R := by
    intro rest
    induction rest with
    | nil =>
      intro pre hp _ _
      rw [List.append_nil] at hp
      subst hp
      refine Ev.step (fun k => ?_) hR
      simp only [spec_AddSlab.l0]
      rw [if_neg (by omega), if_pos (by omega)]
    | cons x rest ih =>
      intro pre hp hap hgt
      have hx : (A ++ B).getD pre.length zbw = x := by rw [← hp]; exact getD_mid pre x rest zbw
      have hlen : pre.length < (A ++ B).length := by rw [← hp, List.length_append, List.length_cons]; omega
      have h := ih (pre ++ [x]) (by rw [List.append_assoc]; exact hp) (by rw [List.length_append]; omega) (fun y hy => hgt y (List.mem_cons_of_mem _ hy))
      have e : ((pre ++ [x]).length : Int) = ((pre.length + 1 : Nat) : Int) := by simp
      rw [e] at h
      have hg := hgt x List.mem_cons_self
      refine Ev.step (fun k => ?_) h
      simp only [spec_AddSlab.l0]
      rw [if_pos (by omega), if_pos (by omega), rdBW, hx, if_neg (by omega), if_neg (by omega), wrap_succ (by omega)]
  have lo : ∀ (d i : Nat), i + d = A.length → Ev (fun k => spec_AddSlab.l0 k fr (A.take i) (A ++ B) (i : Int) a b u) R := by
    intro d
    induction d with
    | zero =>
      intro i hi0
      have e : i = A.length := by omega
      subst e
      rw [List.take_length]
      exact hi B A rfl (Nat.le_refl _) hB
    | succ d ih =>
      intro i hi0
      have hi2 : i < A.length := by omega
      have hx : (A ++ B).getD i zbw = A[i] := by rw [List.getD_eq_getElem?_getD, List.getElem?_append_left hi2, List.getElem?_eq_getElem hi2]; rfl
      have hlt := hA A[i] (List.getElem_mem hi2)
      refine Ev.step (fun k => ?_) (ih (i + 1) (by omega))
      simp only [spec_AddSlab.l0]
      have e9 : (⟨A[i].f0, A[i].f1, A[i].f2⟩ : SlabW) = A[i] := rfl
      rw [if_pos (by rw [List.length_append]; omega), if_pos (by omega), rdBW, hx, if_neg (by omega), if_pos hlt, if_pos (by rw [List.length_take]; omega), e9, ← List.take_succ_eq_append_getElem hi2, wrap_succ (by rw [List.length_append] at hl; omega)]
  have := lo A.length 0 (by omega)
  rw [List.take_zero] at this
  exact this
theorem spec_add_has (A B : List SlabW) (b : SlabW) (fr x y : Int) (u : List Bool) (hl : (A ++ b :: B).length ≤ 1000) (hA : ∀ x ∈ A, x.f0 < fr) (hb : b.f0 = fr) : Ev (fun k => spec_AddSlab.l0 k fr [] (A ++ b :: B) 0 x y u) ([], false) := by
  have lo : ∀ (d i : Nat), i + d = A.length → Ev (fun k => spec_AddSlab.l0 k fr (A.take i) (A ++ b :: B) (i : Int) x y u) ([], false) := by
    intro d
    induction d with
    | zero =>
      intro i hi0
      have e : i = A.length := by omega
      subst e
      have hx := getD_mid A b B zbw
      refine Ev.of_succ (fun k => ?_)
      simp only [spec_AddSlab.l0]
      rw [if_pos (by rw [List.length_append, List.length_cons]; omega), if_pos (by omega), rdBW, hx, if_pos hb]
    | succ d ih =>
      intro i hi0
      have hi2 : i < A.length := by omega
      have hx : (A ++ b :: B).getD i zbw = A[i] := by rw [List.getD_eq_getElem?_getD, List.getElem?_append_left hi2, List.getElem?_eq_getElem hi2]; rfl
      have hlt := hA A[i] (List.getElem_mem hi2)
      rw [List.length_append] at hl
      refine Ev.step (fun k => ?_) (ih (i + 1) (by omega))
      simp only [spec_AddSlab.l0]
      have e9 : (⟨A[i].f0, A[i].f1, A[i].f2⟩ : SlabW) = A[i] := rfl
      rw [if_pos (by rw [List.length_append]; omega), if_pos (by omega), rdBW, hx, if_neg (by omega), if_pos hlt, if_pos (by rw [List.length_take]; omega), e9, ← List.take_succ_eq_append_getElem hi2, wrap_succ (by omega)]
  have := lo A.length 0 (by omega)
  rw [List.take_zero] at this
  exact this
theorem spec_Add_ev (A B : List SlabW) (fr sz : Int) (hsm : SmallSw (A ++ B)) (hA : ∀ x ∈ A, x.f0 < fr) (hB : ∀ b B', B = b :: B' → fr ≤ b.f0) : Ev (fun k => spec_AddSlab.f k (A ++ B) fr sz) (addR A B fr sz) := by
  have hok := spec_SlabsOk_ev (A ++ B) hsm
  have e0 : ∀ k, spec_AddSlab.f k (A ++ B) fr sz = spec_AddSlab.j0 k (A ++ B) fr sz (partB sz) fr sz := by
    intro k
    unfold spec_AddSlab.f
    by_cases h1 : sz = 1
    · rw [if_pos h1, h1]; rfl
    · rw [if_neg h1]
      by_cases h2 : sz = 2
      · rw [if_pos h2, h2]; rfl
      · rw [if_neg h2]
        have : partB sz = (sz == 4) := by unfold partB; rw [decide_eq_false h1, decide_eq_false h2, Bool.false_or, Bool.false_or]; rfl
        rw [this]
  simp only [e0]
  have no : ∀ (u : List Bool), Ev (fun k => spec_AddSlab.j2 k (A ++ B) fr true fr sz u) ([], false) := fun u => by
    refine Ev.of_succ (fun k => ?_)
    simp only [spec_AddSlab.j2, if_true]
  have j1 : ∀ (u : List Bool) (R : List SlabW × Bool), u.length ≤ 1048576 → (slabsB (A ++ B) = true → slabB ⟨fr, sz, u⟩ = true → Ev (fun k => spec_AddSlab.l0 k fr [] (A ++ B) 0 fr sz u) R) → ((¬ slabsB (A ++ B) = true ∨ ¬ slabB ⟨fr, sz, u⟩ = true) → R = ([], false)) → Ev (fun k => spec_AddSlab.j1 k (A ++ B) fr fr sz u) R := by
    intro u R hu hyes hno
    refine Ev.step (f := fun k => (spec_SlabsOk.f k (A ++ B)).bind fun t390 => (if t390 = true then ((spec_l04Slab.f k fr sz u).bind fun t391 => (spec_AddSlab.j2 k (A ++ B) fr (!t391) fr sz u)) else (spec_AddSlab.j2 k (A ++ B) fr true fr sz u))) (fun k => by simp only [spec_AddSlab.j1]) (Ev.bind hok ?_)
    by_cases h : slabsB (A ++ B) = true
    · simp only [h, if_true]
      refine Ev.bind (l04Slab_ev ⟨fr, sz, u⟩ hu) ?_
      by_cases h2 : slabB ⟨fr, sz, u⟩ = true
      · simp only [h2, Bool.not_true]
        refine Ev.step (f := fun k => (spec_l04Copy.f k (A ++ B)).bind fun t398 => (spec_AddSlab.l0 k fr [] t398 0 fr sz u)) (fun k => by simp only [spec_AddSlab.j2, Bool.false_eq_true, if_false]) (Ev.bind (spec_l04Copy_ev (A ++ B) hsm) ?_)
        exact hyes h h2
      · have h2' : slabB ⟨fr, sz, u⟩ = false := by simpa using h2
        simp only [h2', Bool.not_false]
        rw [hno (.inr h2)]
        exact no u
    · simp only [if_neg h]
      rw [hno (.inl h)]
      exact no u
  by_cases hp : partB sz = true
  · obtain ⟨u1, u2, u3, u4, u5⟩ := used_facts hp
    refine Ev.step (f := fun k => spec_AddSlab.j1 k (A ++ B) fr fr sz (usedOf sz)) (fun k => ?_) (j1 (usedOf sz) _ (by omega) ?_ ?_)
    · simp only [spec_AddSlab.j0, hp, if_true, if_neg u1, if_pos u2, if_pos u3, Option.bind_some, if_pos u4]
      rfl
    · intro h hs
      obtain ⟨hall, hasc, h32⟩ := slabsB_asc h
      cases B with
      | nil =>
        refine spec_add_low A [] fr fr sz (usedOf sz) (by omega) hA (fun x hx => absurd hx (by simp)) _ (spec_add_up A [] fr _ (by omega) (by rw [List.append_nil] at h32; rw [List.length_append]; simp only [List.length_cons, List.length_nil]; omega) (fun x hx => absurd hx (by simp)) _ hA ?_)
        have e5 : (A ++ [(⟨fr, sz, usedOf sz⟩ : SlabW)]) ++ [] = A ++ newS fr sz :: [] := by rw [List.append_nil]; rfl
        rw [e5]
        refine Ev.bind (spec_SlabsOk_ev _ (small_new h hp)) ?_
        by_cases h9 : slabsB (A ++ newS fr sz :: []) = true
        · have hgo : addR A [] fr sz = (A ++ newS fr sz :: [], true) := if_pos ⟨h, hp, rfl, h9⟩
          simp only [h9, if_true]
          rw [hgo]
          exact Ev.now _
        · have hgo : addR A [] fr sz = ([], false) := if_neg (fun x => h9 x.2.2.2)
          simp only [if_neg h9]
          rw [hgo]
          exact Ev.now _
      | cons b B' =>
        have hb := hB b B' rfl
        have hgt : ∀ x ∈ B', b.f0 < x.f0 := (List.pairwise_cons.1 (List.pairwise_append.1 hasc).2.1).1
        by_cases hf : b.f0 = fr
        · have hgo : addR A (b :: B') fr sz = ([], false) := if_neg (fun x => by have := x.2.2.1; rw [show hasB fr (b :: B') = (b.f0 == fr) from rfl, hf] at this; simp at this)
          rw [hgo]
          exact spec_add_has A B' b fr fr sz _ (by omega) hA hf
        · have hh' : hasB fr (b :: B') = false := by show (b.f0 == fr) = false; exact beq_eq_false_iff_ne.2 hf
          have hgt2 : ∀ x ∈ b :: B', fr < x.f0 := fun x hx => by
            rcases List.mem_cons.1 hx with rfl | hx
            · omega
            · have := hgt x hx; omega
          refine spec_add_low A (b :: B') fr fr sz (usedOf sz) (by omega) hA hgt2 _ (spec_add_up A (b :: B') fr _ (by omega) (by rw [List.length_append, List.length_cons] at h32; simp only [List.length_append, List.length_cons, List.length_nil]; omega) hgt2 _ hA ?_)
          have e5 : (A ++ [(⟨fr, sz, usedOf sz⟩ : SlabW)]) ++ (b :: B') = A ++ newS fr sz :: (b :: B') := by rw [List.append_assoc]; rfl
          rw [e5]
          refine Ev.bind (spec_SlabsOk_ev _ (small_new h hp)) ?_
          by_cases h9 : slabsB (A ++ newS fr sz :: (b :: B')) = true
          · have hgo : addR A (b :: B') fr sz = (A ++ newS fr sz :: (b :: B'), true) := if_pos ⟨h, hp, hh', h9⟩
            simp only [h9, if_true]
            rw [hgo]
            exact Ev.now _
          · have hgo : addR A (b :: B') fr sz = ([], false) := if_neg (fun x => h9 x.2.2.2)
            simp only [if_neg h9]
            rw [hgo]
            exact Ev.now _
    · rintro (h | h)
      · exact if_neg (fun x => h x.1)
      · refine if_neg (fun x => h ?_)
        exact (slabsB_asc x.2.2.2).1 (newS fr sz) (by simp)
  · have hp' : partB sz = false := by simpa using hp
    have hsb : ¬ slabB (⟨fr, sz, []⟩ : SlabW) = true := fun x => by
      simp only [slabB, hp', Bool.and_false, Bool.false_and] at x
      cases x
    have hgo : addR A B fr sz = ([], false) := if_neg (fun x => hp x.2.1)
    refine Ev.step (f := fun k => spec_AddSlab.j1 k (A ++ B) fr fr sz []) (fun k => ?_) (j1 [] _ (by simp) (fun _ h => absurd h hsb) (fun _ => hgo))
    simp only [spec_AddSlab.j0, hp', Bool.false_eq_true, if_false]

theorem add_both (l : List SlabW) (hw : SmallSw l) (fr sz : Int) : ∃ y, SlabFours y.1 ∧ Ev (fun k => spec_AddSlab.f k l fr sz) y ∧ Ev (fun k => impl_AddSlab.f k l fr sz) y := by
  obtain ⟨A, B, rfl, hA, hB⟩ := place_ends l fr
  exact ⟨_, addR_four A B fr sz, spec_Add_ev A B fr sz hw hA hB, impl_Add_ev A B fr sz hw hA hB⟩
theorem FnExactAddSlab (l0 : List S45) (g0 : (l0.length ≤ maxLen ∧ ∀ y0 ∈ l0, ((Lit.int .i64 y0.f0).wf = true ∧ (Lit.int .i64 y0.f1).wf = true ∧ (y0.f2.length ≤ maxLen ∧ ∀ y1 ∈ y0.f2, True)))) (a1 : Int) (_w1 : (Lit.int .i64 a1).wf = true) (a2 : Int) (_w2 : (Lit.int .i64 a2).wf = true) : (∃ (k : Nat) (z : Int) (t : List (S47)) (y0 : List (S47)) (y1 : Bool) (m : Int) (M : List S47) (m1 : Int) (M1 : List S47), (laws_szSlabS.f k l0 1048576 = some z) ∧ (laws_toSlabS.f k l0 = some t) ∧ (spec_AddSlab.f k t a1 a2 = some (y0, y1)) ∧ (impl_AddSlab.f k t a1 a2 = some (y0, y1)) ∧ (laws_eqSlabS.f k y0 y0 = some true) ∧ (laws_eqSlabS.f k t t = some true) ∧ (laws_markSlabS.f k t 1 = some (m, M)) ∧ (laws_markSlabS.f k y0 1 = some (m1, M1)) ∧ (laws_heldSlabS.f k M1 1 = some m1) ∧ (¬ z < 0) ∧ (¬ m < 0) ∧ (¬ m1 < 0)) ∨ (∃ (k : Nat) (z : Int), (laws_szSlabS.f k l0 1048576 = some z) ∧ (z < 0)) := by
  obtain ⟨z, ⟨n0, e0⟩, hz⟩ := szSlabS_ev l0 g0.1 (fun x hx => (g0.2 x hx).2.2.1)
  by_cases hneg : z < 0
  · exact Or.inr ⟨n0, z, e0 _ (by omega), hneg⟩
  · refine Or.inl ?_
    obtain ⟨hsm, hq⟩ := hz (by omega)
    have ht := totSb_sum l0 hsm.1 (by omega)
    have hw := hsm.toW
    obtain ⟨y, hy4, hs, hi⟩ := add_both (l0.map toSlab) hw a1 a2
    obtain ⟨h4, h5⟩ := hy4.small
    obtain ⟨n1, e1⟩ := toSlabS_ev l0 hsm
    obtain ⟨n2, e2⟩ := hs
    obtain ⟨n3, e3⟩ := hi
    obtain ⟨n4, e4⟩ := eqSlabS_refl y.1 h4
    obtain ⟨n5, e5⟩ := eqSlabS_refl (l0.map toSlab) hw
    obtain ⟨n6, e6⟩ := markSlabS_ev (l0.map toSlab) hw 1 (by omega) (by omega)
    obtain ⟨n7, e7⟩ := markSlabS_ev y.1 h4 1 (by omega) (by omega)
    obtain ⟨n8, e8⟩ := heldSlabS_ev y.1 h4 1 (by omega) (by omega)
    exact ⟨n0 + n1 + n2 + n3 + n4 + n5 + n6 + n7 + n8, z, l0.map toSlab, y.1, y.2, _, _, _, _, e0 _ (by omega), e1 _ (by omega), e2 _ (by omega), e3 _ (by omega), e4 _ (by omega), e5 _ (by omega), e6 _ (by omega), e7 _ (by omega), e8 _ (by omega), hneg, by omega, by omega⟩

end Go.Proofs.Ytpkdfdkicblheaa.Pure
end
