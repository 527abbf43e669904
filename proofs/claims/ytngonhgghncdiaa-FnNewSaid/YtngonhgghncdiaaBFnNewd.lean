/- What the proof of FnNewSaid rests on, part 4: plain lemmas and contracts of the functions that the law reaches (in part written by a printing program over the translation). No condition. -/
import Derived.Test.YtngonhgghncdiaaBFnNewc
section
namespace Go.Proofs.Ytngonhgghncdiaa.P
open Go.Proofs.Ytngonhgghncdiaa.Up Go.Proofs.Ytngonhgghncdiaa
open Go.RowKit Go.Proofs.YtngonhgghncdiaaW.PrintWords Go.Proofs.YtngonhgghncdiaaW.PrintLast Go.Proofs.YtngonhgghncdiaaW.PrintMore
attribute [local go_sem] max2_int min2_int max_two min_two max_three min_three max_four min_four
set_option linter.unusedVariables false
set_option linter.unusedSimpArgs false
def impl_slotOk.f (k : Nat) (a0_0 : Int) (l0_1 : List Int) : Option (Bool) := if a0_0 = 0 then (some ((l0_1.length : Int) == 0)) else ((impl_within.f a0_0 1 64).bind fun t1193 => (if t1193 = true then ((impl_wordsOk.f k l0_1).bind fun t1194 => (some t1194)) else (some false)))
set_option maxHeartbeats 8000000 in
set_option maxRecDepth 100000 in
theorem impl_slotOk.calls (k : Nat) (a0_0 : Int) (A0_1 : Option Addr) (c0_1 : Nat) (l0_1 : List Int) (r : Bool) (w : World) (hr0_1 : Kd.C (Kd.int .i64) w A0_1 l0_1.length l0_1) (hc0_1 : l0_1.length ≤ c0_1) (h : impl_slotOk.f k a0_0 l0_1 = some r) :
    Calls Try.prog 159 #[.agg #[.int .i64 a0_0, .slice A0_1 l0_1.length c0_1]] w fun e w' => e = .returned (.bool r) ∧ Below w.heap.size w w' := by
  have hu138 := Try.underlying138
  have HR0_1 := Aside0.mk hr0_1
  have HC0_1 := Aside0.mk hc0_1
  clear hr0_1 hc0_1
  have HB := Aside0.mk (Below.refl w.heap.size w)
  have H : (if a0_0 = 0 then (some ((l0_1.length : Int) == 0)) else ((impl_within.f a0_0 1 64).bind fun t1193 => (if t1193 = true then ((impl_wordsOk.f k l0_1).bind fun t1194 => (some t1194)) else (some false)))) = some r := h
  clear h
  by_cases c2 : a0_0 = 0
  · rw [if_pos c2] at H
    have c2b0 : (a0_0 == 0) = true := beq_iff_eq.mpr c2
    have c2b1 : (a0_0 != 0) = false := bne_eq_false_iff_eq.mpr c2
    clear c2
    obtain rfl := Option.some.inj H
    go_enter Try.func159, Try.ntmps159
    go_wp2_with (first | ((with_reducible refine gate_dst (N := 1) rfl ?_); refine box_event ?hg (N := 1) ?hd (cs := #[.int .i64 a0_0, .slice A0_1 l0_1.length c0_1]) (t := 138) ?hr ?_; (case hd => rfl); (case hg => rfl); (case hr => first | (go_simp; done) | (go_simp; rfl)); intro gb1192 hg w3 hbox hb; have n0_ := Aside0.mk (below_step (by repeat (first | (with_reducible first | exact HB.out | apply below_alloc | apply pw_below_drewN | apply below_drew1) | exact HB.out)) hb); have n1_ := Aside0.mk (hbox); have n2_ := Aside0.mk ((by rw [hg]; exact (below_size (by repeat (first | (with_reducible first | exact HB.out | apply below_alloc | apply pw_below_drewN | apply below_drew1) | exact HB.out))) : w.heap.size ≤ gb1192)); have n3_ := Aside0.mk ((by rw [hg]; exact (below_size (by repeat (first | (with_reducible first | exact HB.out | apply below_alloc | apply pw_below_drewN | apply below_drew1) | exact HB.out))) : w.heap.size ≤ gb1192)); clear HB; have HB := n0_; have BK1192 := n1_; have GW1192 := n2_; have GE1192 := n3_; clear n0_ n1_ n2_ n3_; clear hb hbox hg; have hcz4_0 : w3.cell? ⟨gb1192, 0, none⟩ = some (.int .i64 a0_0) := (blk_cell BK1192.out 0).trans rfl; have hcz4_1 : w3.cell? ⟨gb1192, 1, none⟩ = some (.slice A0_1 l0_1.length c0_1) := (blk_cell BK1192.out 1).trans rfl; have hfz4_0 := blk_frozen BK1192.out 0; have hfz4_1 := blk_frozen BK1192.out 1))
    go_ret
    exact ⟨by first | rfl | (simp [errW_none, errW_some] <;> rfl) | (simp [*, errW_none, errW_some] <;> rfl), by repeat (first | (with_reducible first | exact HB.out | apply below_alloc | apply pw_below_drewN | apply below_drew1 | refine below_set ?_ GE1192.out) | exact HB.out)⟩
  · rw [if_neg c2] at H
    have c2b0 : (a0_0 == 0) = false := beq_eq_false_iff_ne.mpr c2
    have c2b1 : (a0_0 != 0) = true := bne_iff_ne.mpr c2
    replace H := Option.bind_eq_some_iff.mp H
    obtain ⟨t1193, A50, H⟩ := H
    replace H : (if t1193 = true then ((impl_wordsOk.f k l0_1).bind fun t1194 => (some t1194)) else (some false)) = some r := H
    have A5 := Aside0.mk A50
    clear A50
    by_cases c6 : t1193 = true
    · subst c6
      have H1 : ((impl_wordsOk.f k l0_1).bind fun t1194 => (some t1194)) = some r := by rw [if_pos rfl] at H; exact H
      clear H
      have H := H1
      clear H1
      replace H := Option.bind_eq_some_iff.mp H
      obtain ⟨t1194, A70, H⟩ := H
      replace H : (some t1194) = some r := H
      have A7 := Aside0.mk A70
      clear A70
      obtain rfl := Option.some.inj H
      go_enter Try.func159, Try.ntmps159
      go_wp2_with (first | ((with_reducible refine gate_dst (N := 1) rfl ?_); refine box_event ?hg (N := 1) ?hd (cs := #[.int .i64 a0_0, .slice A0_1 l0_1.length c0_1]) (t := 138) ?hr ?_; (case hd => rfl); (case hg => rfl); (case hr => first | (go_simp; done) | (go_simp; rfl)); intro gb1192 hg w8 hbox hb; have n0_ := Aside0.mk (below_step (by repeat (first | (with_reducible first | exact HB.out | apply below_alloc | apply pw_below_drewN | apply below_drew1) | exact HB.out)) hb); have n1_ := Aside0.mk (hbox); have n2_ := Aside0.mk ((by rw [hg]; exact (below_size (by repeat (first | (with_reducible first | exact HB.out | apply below_alloc | apply pw_below_drewN | apply below_drew1) | exact HB.out))) : w.heap.size ≤ gb1192)); have n3_ := Aside0.mk ((by rw [hg]; exact (below_size (by repeat (first | (with_reducible first | exact HB.out | apply below_alloc | apply pw_below_drewN | apply below_drew1) | exact HB.out))) : w.heap.size ≤ gb1192)); clear HB; have HB := n0_; have BK1192 := n1_; have GW1192 := n2_; have GE1192 := n3_; clear n0_ n1_ n2_ n3_; clear hb hbox hg; have hcz9_0 : w8.cell? ⟨gb1192, 0, none⟩ = some (.int .i64 a0_0) := (blk_cell BK1192.out 0).trans rfl; have hcz9_1 : w8.cell? ⟨gb1192, 1, none⟩ = some (.slice A0_1 l0_1.length c0_1) := (blk_cell BK1192.out 1).trans rfl; have hfz9_0 := blk_frozen BK1192.out 0; have hfz9_1 := blk_frozen BK1192.out 1) | ((with_reducible refine gate_callee (f := 35) rfl ?_); refine goesL_ (some 12) rfl rfl Try.func35 (by kernel_rfl) rfl #[.int .i64 a0_0, .int .i64 1, .int .i64 64] rfl (by (try simp only [List.map_toArray, List.map_cons, List.map_nil]); first | done | rfl | (simp only [List.length_drop, List.length_take]; rfl)) ?_; (with_reducible refine (impl_within.calls a0_0 1 64 true _ A5.out).mono ?_); rintro e w' ⟨rfl, ⟨nd, rfl⟩⟩; refine ⟨_, rfl, ?_⟩) | (go_at_call 37; (with_reducible refine (impl_wordsOk.calls k _ _ l0_1 t1194 _ ?side1 ?side2 A7.out).mono ?_); (case side1 => repeat (first | exact (Kd.C_below HR0_1.out (by repeat (first | (with_reducible first | exact HB.out | apply below_alloc | apply pw_below_drewN | apply below_drew1 | refine below_set ?_ GE1192.out) | exact HB.out))) | (with_reducible refine Kd.C_alloc ?_ _) | (with_reducible refine Kd.C_drewN ?_ _) | (with_reducible refine Kd.C_drew ?_))); (case side2 => exact HC0_1.out); rintro e w' ⟨rfl, ⟨nd, rfl⟩⟩))
      go_ret
      exact ⟨by first | rfl | (simp [errW_none, errW_some] <;> rfl) | (simp [*, errW_none, errW_some] <;> rfl), by repeat (first | (with_reducible first | exact HB.out | apply below_alloc | apply pw_below_drewN | apply below_drew1 | refine below_set ?_ GE1192.out) | exact HB.out)⟩
    · replace c6 := Bool.eq_false_iff.mpr c6
      subst c6
      have H1 : (some false) = some r := by rw [if_neg (show ¬ (false = true) by decide)] at H; exact H
      clear H
      have H := H1
      clear H1
      obtain rfl := Option.some.inj H
      go_enter Try.func159, Try.ntmps159
      go_wp2_with (first | ((with_reducible refine gate_dst (N := 1) rfl ?_); refine box_event ?hg (N := 1) ?hd (cs := #[.int .i64 a0_0, .slice A0_1 l0_1.length c0_1]) (t := 138) ?hr ?_; (case hd => rfl); (case hg => rfl); (case hr => first | (go_simp; done) | (go_simp; rfl)); intro gb1192 hg w10 hbox hb; have n0_ := Aside0.mk (below_step (by repeat (first | (with_reducible first | exact HB.out | apply below_alloc | apply pw_below_drewN | apply below_drew1) | exact HB.out)) hb); have n1_ := Aside0.mk (hbox); have n2_ := Aside0.mk ((by rw [hg]; exact (below_size (by repeat (first | (with_reducible first | exact HB.out | apply below_alloc | apply pw_below_drewN | apply below_drew1) | exact HB.out))) : w.heap.size ≤ gb1192)); have n3_ := Aside0.mk ((by rw [hg]; exact (below_size (by repeat (first | (with_reducible first | exact HB.out | apply below_alloc | apply pw_below_drewN | apply below_drew1) | exact HB.out))) : w.heap.size ≤ gb1192)); clear HB; have HB := n0_; have BK1192 := n1_; have GW1192 := n2_; have GE1192 := n3_; clear n0_ n1_ n2_ n3_; clear hb hbox hg; have hcz11_0 : w10.cell? ⟨gb1192, 0, none⟩ = some (.int .i64 a0_0) := (blk_cell BK1192.out 0).trans rfl; have hcz11_1 : w10.cell? ⟨gb1192, 1, none⟩ = some (.slice A0_1 l0_1.length c0_1) := (blk_cell BK1192.out 1).trans rfl; have hfz11_0 := blk_frozen BK1192.out 0; have hfz11_1 := blk_frozen BK1192.out 1) | ((with_reducible refine gate_callee (f := 35) rfl ?_); refine goesL_ (some 12) rfl rfl Try.func35 (by kernel_rfl) rfl #[.int .i64 a0_0, .int .i64 1, .int .i64 64] rfl (by (try simp only [List.map_toArray, List.map_cons, List.map_nil]); first | done | rfl | (simp only [List.length_drop, List.length_take]; rfl)) ?_; (with_reducible refine (impl_within.calls a0_0 1 64 false _ A5.out).mono ?_); rintro e w' ⟨rfl, ⟨nd, rfl⟩⟩; refine ⟨_, rfl, ?_⟩))
      go_ret
      exact ⟨by first | rfl | (simp [errW_none, errW_some] <;> rfl) | (simp [*, errW_none, errW_some] <;> rfl), by repeat (first | (with_reducible first | exact HB.out | apply below_alloc | apply pw_below_drewN | apply below_drew1 | refine below_set ?_ GE1192.out) | exact HB.out)⟩
def impl_SlotsOk.l0 : Nat → List (S138) → List (S138) → Int → Int → Option (Bool)
 | 0, _, _, _, _ => none
 | k + 1, x0, x5, x6, x7 => if x7 < x6 then (if 0 ≤ x7 then (if x7 < (x5.length : Int) then ((impl_slotOk.f k ((rd_T138 x5 x7).f0) ((rd_T138 x5 x7).f1)).bind fun t1197 => (if t1197 = true then (impl_SlotsOk.l0 k x0 x5 x6 (wrap64 (x7 + 1))) else (some false))) else (none)) else (none)) else (some (decide ((x0.length : Int) ≤ 16)))
def impl_SlotsOk.f (k : Nat) (l0 : List (S138)) : Option (Bool) := impl_SlotsOk.l0 k l0 l0 (l0.length : Int) 0
set_option maxHeartbeats 8000000 in
set_option maxRecDepth 100000 in
theorem impl_SlotsOk.calls (k : Nat) (A0 : Option Addr) (c0 : Nat) (l0 : List (S138)) (r : Bool) (w : World) (hr0 : Kd.C k138 w A0 l0.length l0) (hc0 : l0.length ≤ c0) (h : impl_SlotsOk.f k l0 = some r) :
  Calls Try.prog 135 #[.slice A0 l0.length c0] w fun e w' => e = .returned (.bool r) ∧ Below w.heap.size w w' := by
 have hu138 := Try.underlying138; have HR0 := Aside0.mk hr0; have HC0 := Aside0.mk hc0; clear hr0 hc0; have HB := Aside0.mk (Below.refl w.heap.size w); have H : (impl_SlotsOk.l0 k l0 l0 (l0.length : Int) 0) = some r := h; clear h; have H' := Aside0.mk H; clear H
 go_enter Try.func135, Try.ntmps135
 go_wp2
 go_loopg [7] k (fun kq v7 w' => ∃ (x7_1 : Int), v7 = .int .i64 x7_1 ∧ Aside0 (impl_SlotsOk.l0 kq l0 l0 (l0.length : Int) x7_1 = some r) ∧ Aside0 (kq ≤ k) ∧ Aside0 (Below w.heap.size w w'))
 case atStart => exact ⟨(0), (by first | rfl | (simp; done) | (simp [*]; done)), H', ⟨Nat.le_refl _⟩, ⟨gB HB⟩⟩
 case round =>
  clear H'; try clear c1
  obtain ⟨x7_1, rfl, HA, HK1, HB⟩ := hrel
  cases gk with
  | zero => exact absurd HA.out (by simp [impl_SlotsOk.l0])
  | succ k1 =>
   have H := HA.out; clear HA; simp only [impl_SlotsOk.l0] at H
   by_cases c2 : x7_1 < (l0.length : Int)
   ·rw [if_pos c2] at H; have c2b0 : decide (x7_1 < (l0.length : Int)) = true := decide_eq_true c2; clear c2
    by_cases c3 : 0 ≤ x7_1
    ·rw [if_pos c3] at H; have c3b0 : decide (0 ≤ x7_1) = true := decide_eq_true c3; clear c3
     by_cases c4 : x7_1 < (l0.length : Int)
     ·rw [if_pos c4] at H; have c4b0 : decide (x7_1 < (l0.length : Int)) = true := decide_eq_true c4; clear c4; replace H := Option.bind_eq_some_iff.mp H; obtain ⟨t1197, A50, H⟩ := H; replace H : (if t1197 = true then (impl_SlotsOk.l0 k1 l0 l0 (l0.length : Int) (wrap64 (x7_1 + 1))) else (some false)) = some r := H; have A5 := Aside0.mk A50; clear A50
      by_cases c6 : t1197 = true
      ·subst c6
       have H1 : (impl_SlotsOk.l0 k1 l0 l0 (l0.length : Int) (wrap64 (x7_1 + 1))) = some r := by rw [if_pos rfl] at H; exact H
       clear H; have H := H1; clear H1; have H' := Aside0.mk H; clear H; have p1195 : 0 ≤ (x7_1 : Int) := of_decide_eq_true (by first | (with_reducible assumption) | assumption); have q1195 : x7_1 < (l0.length : Int) := of_decide_eq_true (by first | (with_reducible assumption) | assumption); obtain ⟨ad1195, A1195_1, c1195_1, e1195, hx1195_0, hx1195_1, hl1195_1, hi1195_1⟩ := at_T138 HR0.out x7_1 p1195 q1195
       cases e1195; replace hx1195_0 := (HB.out.cell (World.block_lt_of_cell? w _ hx1195_0)).trans hx1195_0; replace hx1195_1 := (HB.out.cell (World.block_lt_of_cell? w _ hx1195_1)).trans hx1195_1; have HR1195_1 := Aside0.mk hi1195_1; have HC1195_1 := Aside0.mk hl1195_1; clear hi1195_1 hl1195_1; replace p1195 := eq_true p1195; replace q1195 := eq_true q1195
       go_wp2_with (first | ((with_reducible refine gate_dst (N := 4) rfl ?_); refine box_event ?hg (N := 4) ?hd (cs := #[.int .i64 0, .slice none 0 0]) (t := 138) ?hr ?_; (case hd => rfl); (case hg => rfl); (case hr => first | (go_simp; done) | (go_simp; rfl)); intro gb1196 hg w7 hbox hb; have BK1196 := Aside0.mk (hbox); have GW1196 := Aside0.mk ((by rw [hg]; exact (below_size (gB HB)) : w.heap.size ≤ gb1196)); have GE1196 := Aside0.mk ((by rw [hg]; exact (below_size (gB HB)) : w.heap.size ≤ gb1196)); replace HB := Aside0.mk (below_step (gB HB) hb); clear hb hbox hg; have hcz8_0 : w7.cell? ⟨gb1196, 0, none⟩ = some (.int .i64 0) := (blk_cell BK1196.out 0).trans rfl; have hcz8_1 : w7.cell? ⟨gb1196, 1, none⟩ = some (.slice none 0 0) := (blk_cell BK1196.out 1).trans rfl; have hfz8_0 := blk_frozen BK1196.out 0; have hfz8_1 := blk_frozen BK1196.out 1) | ((with_reducible refine gate_callee (f := 159) rfl ?_); refine goesL_ (some 12) rfl rfl Try.func159 (by kernel_rfl) rfl #[.agg #[.int .i64 ((rd_T138 l0 x7_1).f0), .slice A1195_1 ((rd_T138 l0 x7_1).f1).length c1195_1]] rfl (by (try simp only [List.map_toArray, List.map_cons, List.map_nil]); first | done | rfl) ?_; (with_reducible refine (impl_slotOk.calls k1 ((rd_T138 l0 x7_1).f0) _ _ ((rd_T138 l0 x7_1).f1) true _ ?side1 ?side2 A5.out).mono ?_); (case side1 => exact Kd.C_below HR1195_1.out (gT1 GE1196.out HB)); (case side2 => exact HC1195_1.out); rintro e w9 ⟨rfl, hb⟩; refine ⟨_, rfl, ?_⟩; replace BK1196 := Aside0.mk (blk_below (g := gb1196) (o := .cells #[.int .i64 ((rd_T138 l0 x7_1).f0), .slice A1195_1 ((rd_T138 l0 x7_1).f1).length c1195_1] 138 (0, 0)) (by (with_reducible repeat (first | refine blk_drewN ?_ _ | refine blk_drew ?_ | refine blk_alloc ?_ _)); refine blk_put (cs := #[.int .i64 ((rd_T138 l0 x7_1).f0), .slice none 0 0]) ?_ 1 _ rfl; (with_reducible repeat (first | refine blk_drewN ?_ _ | refine blk_drew ?_ | refine blk_alloc ?_ _)); refine blk_put (cs := #[.int .i64 0, .slice none 0 0]) ?_ 0 _ rfl; (with_reducible repeat (first | refine blk_drewN ?_ _ | refine blk_drew ?_ | refine blk_alloc ?_ _)); exact BK1196.out) hb); replace HB := Aside0.mk (below_step (gT1 GE1196.out HB) hb); (try clear hb); (try clear hb2); (try clear hk); (try clear hi)))
       go_roundg k1
       case measure => have := HK1.out; omega
       case rel => exact ⟨(wrap64 (x7_1 + 1)), (by first | rfl | (simp; done) | (simp [*]; done)), H', ⟨by have := HK1.out; omega⟩, ⟨gT1 GE1196.out HB⟩⟩
      ·replace c6 := Bool.eq_false_iff.mpr c6; subst c6
       have H1 : (some false) = some r := by rw [if_neg (show ¬ (false = true) by decide)] at H; exact H
       clear H; have H := H1; clear H1; obtain rfl := Option.some.inj H; have p1195 : 0 ≤ (x7_1 : Int) := of_decide_eq_true (by first | (with_reducible assumption) | assumption); have q1195 : x7_1 < (l0.length : Int) := of_decide_eq_true (by first | (with_reducible assumption) | assumption); obtain ⟨ad1195, A1195_1, c1195_1, e1195, hx1195_0, hx1195_1, hl1195_1, hi1195_1⟩ := at_T138 HR0.out x7_1 p1195 q1195
       cases e1195; replace hx1195_0 := (HB.out.cell (World.block_lt_of_cell? w _ hx1195_0)).trans hx1195_0; replace hx1195_1 := (HB.out.cell (World.block_lt_of_cell? w _ hx1195_1)).trans hx1195_1; have HR1195_1 := Aside0.mk hi1195_1; have HC1195_1 := Aside0.mk hl1195_1; clear hi1195_1 hl1195_1; replace p1195 := eq_true p1195; replace q1195 := eq_true q1195
       go_wp2_with (first | ((with_reducible refine gate_dst (N := 4) rfl ?_); refine box_event ?hg (N := 4) ?hd (cs := #[.int .i64 0, .slice none 0 0]) (t := 138) ?hr ?_; (case hd => rfl); (case hg => rfl); (case hr => first | (go_simp; done) | (go_simp; rfl)); intro gb1196 hg w10 hbox hb; have BK1196 := Aside0.mk (hbox); have GW1196 := Aside0.mk ((by rw [hg]; exact (below_size (gB HB)) : w.heap.size ≤ gb1196)); have GE1196 := Aside0.mk ((by rw [hg]; exact (below_size (gB HB)) : w.heap.size ≤ gb1196)); replace HB := Aside0.mk (below_step (gB HB) hb); clear hb hbox hg; have hcz11_0 : w10.cell? ⟨gb1196, 0, none⟩ = some (.int .i64 0) := (blk_cell BK1196.out 0).trans rfl; have hcz11_1 : w10.cell? ⟨gb1196, 1, none⟩ = some (.slice none 0 0) := (blk_cell BK1196.out 1).trans rfl; have hfz11_0 := blk_frozen BK1196.out 0; have hfz11_1 := blk_frozen BK1196.out 1) | ((with_reducible refine gate_callee (f := 159) rfl ?_); refine goesL_ (some 12) rfl rfl Try.func159 (by kernel_rfl) rfl #[.agg #[.int .i64 ((rd_T138 l0 x7_1).f0), .slice A1195_1 ((rd_T138 l0 x7_1).f1).length c1195_1]] rfl (by (try simp only [List.map_toArray, List.map_cons, List.map_nil]); first | done | rfl) ?_; (with_reducible refine (impl_slotOk.calls k1 ((rd_T138 l0 x7_1).f0) _ _ ((rd_T138 l0 x7_1).f1) false _ ?side1 ?side2 A5.out).mono ?_); (case side1 => exact Kd.C_below HR1195_1.out (gT1 GE1196.out HB)); (case side2 => exact HC1195_1.out); rintro e w12 ⟨rfl, hb⟩; refine ⟨_, rfl, ?_⟩; replace BK1196 := Aside0.mk (blk_below (g := gb1196) (o := .cells #[.int .i64 ((rd_T138 l0 x7_1).f0), .slice A1195_1 ((rd_T138 l0 x7_1).f1).length c1195_1] 138 (0, 0)) (by (with_reducible repeat (first | refine blk_drewN ?_ _ | refine blk_drew ?_ | refine blk_alloc ?_ _)); refine blk_put (cs := #[.int .i64 ((rd_T138 l0 x7_1).f0), .slice none 0 0]) ?_ 1 _ rfl; (with_reducible repeat (first | refine blk_drewN ?_ _ | refine blk_drew ?_ | refine blk_alloc ?_ _)); refine blk_put (cs := #[.int .i64 0, .slice none 0 0]) ?_ 0 _ rfl; (with_reducible repeat (first | refine blk_drewN ?_ _ | refine blk_drew ?_ | refine blk_alloc ?_ _)); exact BK1196.out) hb); replace HB := Aside0.mk (below_step (gT1 GE1196.out HB) hb); (try clear hb); (try clear hb2); (try clear hk); (try clear hi)))
       go_ret
       exact ⟨by first | rfl | (simp [errW_none, errW_some] <;> rfl) | (simp [*, errW_none, errW_some] <;> rfl), gT1 GE1196.out HB⟩
     ·rw [if_neg c4] at H; exact absurd H (by simp)
    ·rw [if_neg c3] at H; exact absurd H (by simp)
   ·rw [if_neg c2] at H; have c2b0 : decide (x7_1 < (l0.length : Int)) = false := decide_eq_false c2; clear c2; obtain rfl := Option.some.inj H; go_wp2
    go_ret
    exact ⟨by first | rfl | (simp [errW_none, errW_some] <;> rfl) | (simp [*, errW_none, errW_some] <;> rfl), gB HB⟩
end Go.Proofs.Ytngonhgghncdiaa.P
end
section
namespace Go.Proofs.Ytngonhgghncdiaa.P
open Go.Proofs.Ytngonhgghncdiaa.Up Go.Proofs.Ytngonhgghncdiaa
open Go.RowKit Go.Proofs.YtngonhgghncdiaaW.PrintWords Go.Proofs.YtngonhgghncdiaaW.PrintLast Go.Proofs.YtngonhgghncdiaaW.PrintMore
attribute [local go_sem] max2_int min2_int max_two min_two max_three min_three max_four min_four
set_option linter.unusedVariables false
set_option linter.unusedSimpArgs false
set_option maxRecDepth 100000 in
theorem lookup0 {w : World} {b : Nat} (hb : w.heap[b]? = some (.map #[] 0)) (y : Int) (hy : (Lit.int .i64 y).wf = true) : (Instr.lookup 170 (.map (some b)) (.int .i64 y) false).run Try.prog w = .ok (.int .i64 0) w := by
  obtain ⟨c, h1, h2, _⟩ := World.ownsMap.lookup_int (owns_empty hb Try.prog 3 (plainElem Try.prog 3)) (Go.Maps.int_keyed Try.underlying3) Try.underlying170 Try.underlying3 (by rfl) (Go.Maps.keyOf_int_mk Try.underlying3 hy)
  have : c = 0 := by simpa [DataW.atKey] using h2.symm
  subst this
  exact h1
variable {P : Program} {ops : Array Oper} {o : Oper} {rest : List Oper} {a : Act} {Q : Exit → Act → World → Prop} in
theorem gateS2 {W : World} {q : Addr} {v : Value} {t : TypeId} {p u : Operand} (_ho : o.op = .store t p u) (h : wpList P ops Q (o :: rest) a (W.setCell q v)) : wpList P ops Q (o :: rest) a (W.setCell q v) := h
set_option maxHeartbeats 8000000 in
set_option maxRecDepth 100000 in
theorem pagesOk_calls (k g : Nat) (A : Nat → Option Addr) (c : Nat → Nat) (l0 : List (List Int)) (l1 : List Int) (l2 : List S124) (l3 : List S131) (l4 : List S134) (l6 : List S79) (l7 : List S138) (l8 : List Int) (l9 : List Int) (x : Int) (w0 w : World) (HM : MB w0 w g A c l0 l1 l2 l3 l4 l6 l7 l8 l9 x) (h6 : l6.length = 4) (e6 : ∀ i : Int, 0 ≤ i → i < (l6.length : Int) → rd_T79 l6 i = ⟨false, -1, []⟩) (e7 : ∀ i : Int, 0 ≤ i → i < (l7.length : Int) → rd_T138 l7 i = ⟨0, []⟩) (ps : impl_SlotsOk.f k l7 = some true)
    (e8 : l8 = []) (e9 : l9 = []) (p8 : impl_Machine_framesIn.f k l0 l1 l2 l3 l4 x l6 l7 l8 l9 5 = some ([], x)) (p9 : slices_Equal_int_int.f k [] [] = some true) :
    Calls Try.prog 90 #[.pointer (some ⟨g, 0, none⟩)] w fun e w' => e = .returned (.bool true) ∧ Below w.heap.size w w' := by
  subst e8 e9
  have HM := Aside0.mk HM
  have HB := Aside0.mk (Below.refl w.heap.size w)
  have hmm := @run_makeMap Try.prog
  go_enter Try.func90, Try.ntmps90
  go_wp2_with (first | ((with_reducible refine gate_dst (N := 11) rfl ?_); refine map_event ?hg (N := 11) ?hd ?hr ?_; (case hd => rfl); (case hg => rfl); (case hr => first | (go_simp; done) | (go_simp; rfl)); intro msl hbz w_ hbk hb; replace HM := Aside0.mk ((gM_ HM).below hb); replace HB := Aside0.mk (below_step (gB_ HB) hb); clear hbz; clear hb; have Mmsl := Aside0.mk hbk; clear hbk) | ((with_reducible refine gate_dst (N := 12) rfl ?_); refine map_event ?hg (N := 12) ?hd ?hr ?_; (case hd => rfl); (case hg => rfl); (case hr => first | (go_simp; done) | (go_simp; rfl)); intro mfr hbz w_ hbk hb; replace HM := Aside0.mk ((gM_ HM).below hb); replace HB := Aside0.mk (below_step (gB_ HB) hb); clear hbz; replace Mmsl := Aside0.mk (blk_below (gK Mmsl) hb); clear hb; have Mmfr := Aside0.mk hbk; clear hbk) | ((with_reducible refine gate_dst (N := 13) rfl ?_); refine map_event ?hg (N := 13) ?hd ?hr ?_; (case hd => rfl); (case hg => rfl); (case hr => first | (go_simp; done) | (go_simp; rfl)); intro mwr hbz w_ hbk hb; replace HM := Aside0.mk ((gM_ HM).below hb); replace HB := Aside0.mk (below_step (gB_ HB) hb); clear hbz; replace Mmsl := Aside0.mk (blk_below (gK Mmsl) hb); replace Mmfr := Aside0.mk (blk_below (gK Mmfr) hb); clear hb; have Mmwr := Aside0.mk hbk; clear hbk) | ((with_reducible refine gate_dst (N := 3) rfl ?_); refine box_event ?hg (N := 3) ?hd (cs := #[.map none]) (t := 170) ?hr ?_; (case hd => rfl); (case hg => rfl); (case hr => first | (go_simp; done) | (go_simp; rfl)); intro bsl hbz w_ hbk hb; have Gbsl := Aside0.mk (show w.heap.size ≤ bsl by rw [hbz]; exact below_size (gB_ HB)); have Kbsl := Aside0.mk (show w0.heap.size ≤ bsl by rw [hbz]; exact below_size (gM_ HM).base); have NEbsl := Aside0.mk (show g ≠ bsl by rw [hbz]; exact Nat.ne_of_lt (blk_lt (gM_ HM).blk)); replace HM := Aside0.mk ((gM_ HM).below hb); replace HB := Aside0.mk (below_step (gB_ HB) hb); have NMmsl_bsl := Aside0.mk (show msl ≠ bsl by rw [hbz]; exact Nat.ne_of_lt (blk_lt (gK Mmsl))); have NMmfr_bsl := Aside0.mk (show mfr ≠ bsl by rw [hbz]; exact Nat.ne_of_lt (blk_lt (gK Mmfr))); have NMmwr_bsl := Aside0.mk (show mwr ≠ bsl by rw [hbz]; exact Nat.ne_of_lt (blk_lt (gK Mmwr))); replace Mmsl := Aside0.mk (blk_below (gK Mmsl) hb); replace Mmfr := Aside0.mk (blk_below (gK Mmfr) hb); replace Mmwr := Aside0.mk (blk_below (gK Mmwr) hb); clear hbz hb; have BSL := Aside0.mk hbk; clear hbk) | ((with_reducible refine gate_dst (N := 4) rfl ?_); refine box_event ?hg (N := 4) ?hd (cs := #[.map none]) (t := 170) ?hr ?_; (case hd => rfl); (case hg => rfl); (case hr => first | (go_simp; done) | (go_simp; rfl)); intro bfr hbz w_ hbk hb; have Gbfr := Aside0.mk (show w.heap.size ≤ bfr by rw [hbz]; exact below_size (gB_ HB)); have Kbfr := Aside0.mk (show w0.heap.size ≤ bfr by rw [hbz]; exact below_size (gM_ HM).base); have NEbfr := Aside0.mk (show g ≠ bfr by rw [hbz]; exact Nat.ne_of_lt (blk_lt (gM_ HM).blk)); replace HM := Aside0.mk ((gM_ HM).below hb); replace HB := Aside0.mk (below_step (gB_ HB) hb); have NMmsl_bfr := Aside0.mk (show msl ≠ bfr by rw [hbz]; exact Nat.ne_of_lt (blk_lt (gK Mmsl))); have NMmfr_bfr := Aside0.mk (show mfr ≠ bfr by rw [hbz]; exact Nat.ne_of_lt (blk_lt (gK Mmfr))); have NMmwr_bfr := Aside0.mk (show mwr ≠ bfr by rw [hbz]; exact Nat.ne_of_lt (blk_lt (gK Mmwr))); have NBSL_bfr := Aside0.mk (show bsl ≠ bfr by rw [hbz]; exact Nat.ne_of_lt (blk_lt (gK BSL))); replace Mmsl := Aside0.mk (blk_below (gK Mmsl) hb); replace Mmfr := Aside0.mk (blk_below (gK Mmfr) hb); replace Mmwr := Aside0.mk (blk_below (gK Mmwr) hb); replace BSL := Aside0.mk (blk_below (gK BSL) hb); clear hbz hb; have BFR := Aside0.mk hbk; clear hbk) | ((with_reducible refine gate_dst (N := 5) rfl ?_); refine box_event ?hg (N := 5) ?hd (cs := #[.map none]) (t := 170) ?hr ?_; (case hd => rfl); (case hg => rfl); (case hr => first | (go_simp; done) | (go_simp; rfl)); intro bwr hbz w_ hbk hb; have Gbwr := Aside0.mk (show w.heap.size ≤ bwr by rw [hbz]; exact below_size (gB_ HB)); have Kbwr := Aside0.mk (show w0.heap.size ≤ bwr by rw [hbz]; exact below_size (gM_ HM).base); have NEbwr := Aside0.mk (show g ≠ bwr by rw [hbz]; exact Nat.ne_of_lt (blk_lt (gM_ HM).blk)); replace HM := Aside0.mk ((gM_ HM).below hb); replace HB := Aside0.mk (below_step (gB_ HB) hb); have NMmsl_bwr := Aside0.mk (show msl ≠ bwr by rw [hbz]; exact Nat.ne_of_lt (blk_lt (gK Mmsl))); have NMmfr_bwr := Aside0.mk (show mfr ≠ bwr by rw [hbz]; exact Nat.ne_of_lt (blk_lt (gK Mmfr))); have NMmwr_bwr := Aside0.mk (show mwr ≠ bwr by rw [hbz]; exact Nat.ne_of_lt (blk_lt (gK Mmwr))); have NBSL_bwr := Aside0.mk (show bsl ≠ bwr by rw [hbz]; exact Nat.ne_of_lt (blk_lt (gK BSL))); have NBFR_bwr := Aside0.mk (show bfr ≠ bwr by rw [hbz]; exact Nat.ne_of_lt (blk_lt (gK BFR))); replace Mmsl := Aside0.mk (blk_below (gK Mmsl) hb); replace Mmfr := Aside0.mk (blk_below (gK Mmfr) hb); replace Mmwr := Aside0.mk (blk_below (gK Mmwr) hb); replace BSL := Aside0.mk (blk_below (gK BSL) hb); replace BFR := Aside0.mk (blk_below (gK BFR) hb); clear hbz hb; have BWR := Aside0.mk hbk; clear hbk; have hz0 := (blk_cell BSL.out 0).trans rfl; have hy0 := blk_frozen BSL.out 0) | ((with_reducible refine gateS2 rfl ?_); refine anew2 (fun W_ => MB w0 W_ g A c l0 l1 l2 l3 l4 l6 l7 [] [] x ∧ W_.heap[msl]? = some (.map #[] 0) ∧ W_.heap[mfr]? = some (.map #[] 0) ∧ W_.heap[mwr]? = some (.map #[] 0) ∧ W_.heap[bsl]? = some (.cells #[.map (some msl)] 170 (0, 0)) ∧ W_.heap[bfr]? = some (.cells #[.map none] 170 (0, 0)) ∧ W_.heap[bwr]? = some (.cells #[.map none] 170 (0, 0)) ∧ Below w.heap.size w W_) ⟨MB.off HM NEbsl.out Kbsl.out, far2 Mmsl NMmsl_bsl.out, far2 Mmfr NMmfr_bsl.out, far2 Mmwr NMmwr_bsl.out, (by (with_reducible repeat (first | refine blk_drewN ?_ _ | refine blk_drew ?_)); exact set1 BSL.out), far2 BFR NBSL_bfr.out.symm, far2 BWR NBSL_bwr.out.symm, gT1 Gbsl.out HB⟩ ?_; rintro wq ⟨hm, h1_, h2_, h3_, h4_, h5_, h6_, hb⟩; clear HM HB Mmsl Mmfr Mmwr BSL BFR BWR hz0 hy0; have HM := Aside0.mk hm; have HB := Aside0.mk hb; have Mmsl := Aside0.mk h1_; have Mmfr := Aside0.mk h2_; have Mmwr := Aside0.mk h3_; have BSL := Aside0.mk h4_; have BFR := Aside0.mk h5_; have BWR := Aside0.mk h6_; clear hm h1_ h2_ h3_ h4_ h5_ h6_ hb; have hz0 := (blk_cell BFR.out 0).trans rfl; have hy0 := blk_frozen BFR.out 0) | ((with_reducible refine gateS2 rfl ?_); refine anew2 (fun W_ => MB w0 W_ g A c l0 l1 l2 l3 l4 l6 l7 [] [] x ∧ W_.heap[msl]? = some (.map #[] 0) ∧ W_.heap[mfr]? = some (.map #[] 0) ∧ W_.heap[mwr]? = some (.map #[] 0) ∧ W_.heap[bsl]? = some (.cells #[.map (some msl)] 170 (0, 0)) ∧ W_.heap[bfr]? = some (.cells #[.map (some mfr)] 170 (0, 0)) ∧ W_.heap[bwr]? = some (.cells #[.map none] 170 (0, 0)) ∧ Below w.heap.size w W_) ⟨MB.off HM NEbfr.out Kbfr.out, far2 Mmsl NMmsl_bfr.out, far2 Mmfr NMmfr_bfr.out, far2 Mmwr NMmwr_bfr.out, far2 BSL NBSL_bfr.out, (by (with_reducible repeat (first | refine blk_drewN ?_ _ | refine blk_drew ?_)); exact set1 BFR.out), far2 BWR NBFR_bwr.out.symm, gT1 Gbfr.out HB⟩ ?_; rintro wq ⟨hm, h1_, h2_, h3_, h4_, h5_, h6_, hb⟩; clear HM HB Mmsl Mmfr Mmwr BSL BFR BWR hz0 hy0; have HM := Aside0.mk hm; have HB := Aside0.mk hb; have Mmsl := Aside0.mk h1_; have Mmfr := Aside0.mk h2_; have Mmwr := Aside0.mk h3_; have BSL := Aside0.mk h4_; have BFR := Aside0.mk h5_; have BWR := Aside0.mk h6_; clear hm h1_ h2_ h3_ h4_ h5_ h6_ hb; have hz0 := (blk_cell BWR.out 0).trans rfl; have hy0 := blk_frozen BWR.out 0) | (go_at_call 133; (with_reducible refine (maps_calls k g A c l0 l1 l2 l3 l4 l6 l7 [] [] x _ w0 _ (MB.off HM NEbwr.out Kbwr.out) h6 e6).mono ?_); rintro e w1 ⟨rfl, hb⟩; replace HM := Aside0.mk ((MB.off HM NEbwr.out Kbwr.out).below hb); replace HB := Aside0.mk (below_step (gT1 Gbwr.out HB) hb); replace Mmsl := Aside0.mk (blk_below (far2 Mmsl NMmsl_bwr.out) hb); replace Mmfr := Aside0.mk (blk_below (far2 Mmfr NMmfr_bwr.out) hb); replace Mmwr := Aside0.mk (blk_below (far2 Mmwr NMmwr_bwr.out) hb); replace BSL := Aside0.mk (blk_below (far2 BSL NBSL_bwr.out) hb); replace BFR := Aside0.mk (blk_below (far2 BFR NBFR_bwr.out) hb); replace BWR := Aside0.mk (blk_below (by (with_reducible repeat (first | refine blk_drewN ?_ _ | refine blk_drew ?_)); exact set1 BWR.out) hb); have hq7 := (blk_cell HM.out.blk 7).trans rfl; clear hb) | (go_at_call 135; (with_reducible refine (impl_SlotsOk.calls k (A 7) (c 7) l7 true _ (gM_ HM).c7 HM.out.k7 ps).mono ?_); rintro e w2 ⟨rfl, hb⟩; replace HM := Aside0.mk ((gM_ HM).below hb); replace HB := Aside0.mk (below_step (gB_ HB) hb); replace Mmsl := Aside0.mk (blk_below (gK Mmsl) hb); replace Mmfr := Aside0.mk (blk_below (gK Mmfr) hb); replace Mmwr := Aside0.mk (blk_below (gK Mmwr) hb); replace BSL := Aside0.mk (blk_below (gK BSL) hb); replace BFR := Aside0.mk (blk_below (gK BFR) hb); replace BWR := Aside0.mk (blk_below (gK BWR) hb); clear hb hq7; have hq7 := (blk_cell HM.out.blk 7).trans rfl))
  go_loopg [6, 28] l7.length (fun kq v6 v28 w' => ∃ y : Int, v6 = .int .i64 0 ∧ v28 = .int .i64 y ∧ 0 ≤ y ∧ y + (kq : Int) = (l7.length : Int) ∧ Aside0 (MB w0 w' g A c l0 l1 l2 l3 l4 l6 l7 [] [] x) ∧ Aside0 (w'.heap[msl]? = some (.map #[] 0)) ∧ Aside0 (w'.heap[mfr]? = some (.map #[] 0)) ∧ Aside0 (w'.heap[mwr]? = some (.map #[] 0)) ∧ Aside0 (w'.heap[bsl]? = some (.cells #[.map (some msl)] 170 (0, 0))) ∧ Aside0 (w'.heap[bfr]? = some (.cells #[.map (some mfr)] 170 (0, 0))) ∧ Aside0 (w'.heap[bwr]? = some (.cells #[.map (some mwr)] 170 (0, 0))) ∧ Aside0 (Below w.heap.size w w'))
  case atStart => exact ⟨0, rfl, rfl, by decide, by omega, ⟨gM_ HM⟩, ⟨gK Mmsl⟩, ⟨gK Mmfr⟩, ⟨gK Mmwr⟩, ⟨gK BSL⟩, ⟨gK BFR⟩, ⟨gK BWR⟩, ⟨gB_ HB⟩⟩
  case round =>
    clear HM HB Mmsl Mmfr Mmwr BSL BFR BWR hq7
    obtain ⟨y, rfl, rfl, hy0, hyk, HM, Mmsl, Mmfr, Mmwr, BSL, BFR, BWR, HB⟩ := hrel
    by_cases c1 : y < (l7.length : Int)
    · cases gk with
      | zero => exfalso; omega
      | succ k1 =>
        obtain ⟨ad, A2, c2, eA, hx0, hx1, hl2, hi2⟩ := at_T138 HM.out.c7 y hy0 c1
        rw [e7 y hy0 c1] at hx0 hx1 hl2 hi2
        dsimp only at hx0 hx1
        have hp := eq_true hy0
        have hp2 : decide (y < (l7.length : Int)) = true := decide_eq_true c1
        have hp3 : (y.toNat < l7.length) = True := eq_true (by omega)
        have hwf : (Lit.int .i64 y).wf = true := by
          have := HM.out.r7.2.1
          simp only [Lit.wf, Bool.and_eq_true, decide_eq_true_eq]
          exact ⟨by (show (-9223372036854775808 : Int) ≤ y); omega, by (show y ≤ 9223372036854775807); omega⟩
        rw [eA]
        clear hi2
        go_wp2_with (first | ((with_reducible refine gate_dst (N := 8) rfl ?_); refine box_event ?hg (N := 8) ?hd (cs := #[.int .i64 0, .slice none 0 0]) (t := 138) ?hr ?_; (case hd => rfl); (case hg => rfl); (case hr => first | (go_simp; done) | (go_simp; rfl)); intro bx hbz w_ hbk hb; have Gbx := Aside0.mk (show w.heap.size ≤ bx by rw [hbz]; exact below_size (gB_ HB)); have Kbx := Aside0.mk (show w0.heap.size ≤ bx by rw [hbz]; exact below_size (gM_ HM).base); have NEbx := Aside0.mk (show g ≠ bx by rw [hbz]; exact Nat.ne_of_lt (blk_lt (gM_ HM).blk)); replace HM := Aside0.mk ((gM_ HM).below hb); replace HB := Aside0.mk (below_step (gB_ HB) hb); have NMmsl_bx := Aside0.mk (show msl ≠ bx by rw [hbz]; exact Nat.ne_of_lt (blk_lt (gK Mmsl))); have NMmfr_bx := Aside0.mk (show mfr ≠ bx by rw [hbz]; exact Nat.ne_of_lt (blk_lt (gK Mmfr))); have NMmwr_bx := Aside0.mk (show mwr ≠ bx by rw [hbz]; exact Nat.ne_of_lt (blk_lt (gK Mmwr))); have NBSL_bx := Aside0.mk (show bsl ≠ bx by rw [hbz]; exact Nat.ne_of_lt (blk_lt (gK BSL))); have NBFR_bx := Aside0.mk (show bfr ≠ bx by rw [hbz]; exact Nat.ne_of_lt (blk_lt (gK BFR))); have NBWR_bx := Aside0.mk (show bwr ≠ bx by rw [hbz]; exact Nat.ne_of_lt (blk_lt (gK BWR))); replace Mmsl := Aside0.mk (blk_below (gK Mmsl) hb); replace Mmfr := Aside0.mk (blk_below (gK Mmfr) hb); replace Mmwr := Aside0.mk (blk_below (gK Mmwr) hb); replace BSL := Aside0.mk (blk_below (gK BSL) hb); replace BFR := Aside0.mk (blk_below (gK BFR) hb); replace BWR := Aside0.mk (blk_below (gK BWR) hb); clear hbz hb; have BX := Aside0.mk hbk; clear hbk; obtain ⟨⟨hc0, hc1⟩, hf0, hf1⟩ : ((w_.cell? ⟨bx, 0, none⟩ = some (.int .i64 0)) ∧ (w_.cell? ⟨bx, 1, none⟩ = some (.slice none 0 0))) ∧ w_.frozen? ⟨bx, 0, none⟩ = false ∧ w_.frozen? ⟨bx, 1, none⟩ = false := ⟨⟨(blk_cell BX.out 0).trans rfl, (blk_cell BX.out 1).trans rfl⟩, blk_frozen BX.out 0, blk_frozen BX.out 1⟩) | ((with_reducible refine gateL2 rfl ?_); refine anew2 (fun W_ => MB w0 W_ g A c l0 l1 l2 l3 l4 l6 l7 [] [] x ∧ W_.heap[msl]? = some (.map #[] 0) ∧ W_.heap[mfr]? = some (.map #[] 0) ∧ W_.heap[mwr]? = some (.map #[] 0) ∧ W_.heap[bsl]? = some (.cells #[.map (some msl)] 170 (0, 0)) ∧ W_.heap[bfr]? = some (.cells #[.map (some mfr)] 170 (0, 0)) ∧ W_.heap[bwr]? = some (.cells #[.map (some mwr)] 170 (0, 0)) ∧ Below w.heap.size w W_ ∧ W_.heap[bx]? = some (.cells #[.int .i64 0, .slice A2 0 c2] 138 (0, 0))) ⟨MB.off HM NEbx.out Kbx.out, far2 Mmsl NMmsl_bx.out, far2 Mmfr NMmfr_bx.out, far2 Mmwr NMmwr_bx.out, far2 BSL NBSL_bx.out, far2 BFR NBFR_bx.out, far2 BWR NBWR_bx.out, gT1 Gbx.out HB, (by (with_reducible repeat (first | refine blk_drewN ?_ _ | refine blk_drew ?_)); exact set2 BX.out)⟩ ?_; rintro wq ⟨hm, h1_, h2_, h3_, h4_, h5_, h6_, hb, hx_⟩; clear HM HB Mmsl Mmfr Mmwr BSL BFR BWR BX hc0 hc1 hf0 hf1; have HM := Aside0.mk hm; have HB := Aside0.mk hb; have Mmsl := Aside0.mk h1_; have Mmfr := Aside0.mk h2_; have Mmwr := Aside0.mk h3_; have BSL := Aside0.mk h4_; have BFR := Aside0.mk h5_; have BWR := Aside0.mk h6_; have hc0 := (blk_cell hx_ 0).trans rfl; have hz0 := (blk_cell BSL.out 0).trans rfl; have hlk := lookup0 Mmsl.out y hwf; clear hm h1_ h2_ h3_ h4_ h5_ h6_ hb hx_))
        rw [← eA]
        go_roundg k1
        case measure => omega
        case rel =>
          have hw : wrap64 (y + 1) = y + 1 := by have := HM.out.r7.2.1; unfold wrap64; omega
          exact ⟨y + 1, rfl, by rw [hw], by omega, by omega, ⟨gM_ HM⟩, ⟨gK Mmsl⟩, ⟨gK Mmfr⟩, ⟨gK Mmwr⟩, ⟨gK BSL⟩, ⟨gK BFR⟩, ⟨gK BWR⟩, ⟨gB_ HB⟩⟩
    · have c1b : decide (y < (l7.length : Int)) = false := decide_eq_false c1
      go_wp2_with (first | (go_at_call 91; (with_reducible refine (framesIn_calls k g l0 l1 l2 l3 l4 x l6 l7 [] [] 5 [] x w0 _ (gM_ HM).isS (gM_ HM).base p8).mono ?_); rintro e w3 ⟨v, rfl, ho, hi, hb0, hb⟩; replace HM := Aside0.mk ((gM_ HM).below hb); replace HB := Aside0.mk (below_step (gB_ HB) hb); replace Mmsl := Aside0.mk (blk_below (gK Mmsl) hb); replace Mmfr := Aside0.mk (blk_below (gK Mmfr) hb); replace Mmwr := Aside0.mk (blk_below (gK Mmwr) hb); replace BSL := Aside0.mk (blk_below (gK BSL) hb); replace BFR := Aside0.mk (blk_below (gK BFR) hb); replace BWR := Aside0.mk (blk_below (gK BWR) hb); obtain ⟨A4, c4, rfl⟩ := Kd.R_slice ho; clear ho hb hb0 hi))
      go_loopg [48] 0 (fun kq v48 w' => v48 = .int .i64 0 ∧ Aside0 (MB w0 w' g A c l0 l1 l2 l3 l4 l6 l7 [] [] x) ∧ Aside0 (w'.heap[msl]? = some (.map #[] 0)) ∧ Aside0 (w'.heap[mfr]? = some (.map #[] 0)) ∧ Aside0 (w'.heap[mwr]? = some (.map #[] 0)) ∧ Aside0 (w'.heap[bsl]? = some (.cells #[.map (some msl)] 170 (0, 0))) ∧ Aside0 (w'.heap[bfr]? = some (.cells #[.map (some mfr)] 170 (0, 0))) ∧ Aside0 (w'.heap[bwr]? = some (.cells #[.map (some mwr)] 170 (0, 0))) ∧ Aside0 (Below w.heap.size w w'))
      case atStart => exact ⟨rfl, ⟨gM_ HM⟩, ⟨gK Mmsl⟩, ⟨gK Mmfr⟩, ⟨gK Mmwr⟩, ⟨gK BSL⟩, ⟨gK BFR⟩, ⟨gK BWR⟩, ⟨gB_ HB⟩⟩
      case round =>
        clear HM HB Mmsl Mmfr Mmwr BSL BFR BWR
        obtain ⟨rfl, HM, Mmsl, Mmfr, Mmwr, BSL, BFR, BWR, HB⟩ := hrel
        go_upto_region 20 with (fail)
        go_region_held3 (fun w' => w'.cell? ⟨bsl, 0, none⟩ = some (.map (some msl)) ∧ w'.cell? ⟨bfr, 0, none⟩ = some (.map (some mfr)) ∧ w'.cell? ⟨g, 8, none⟩ = some (.slice (A 8) 0 (c 8)) ∧ w'.cell? ⟨g, 9, none⟩ = some (.slice (A 9) 0 (c 9)) ∧ (Builtin.len_ #[170] 3 #[.map (some msl)]).run Try.prog w' = .ok (.int .i64 0) w' ∧ (Builtin.len_ #[170] 3 #[.map (some mfr)]).run Try.prog w' = .ok (.int .i64 0) w') (exact ⟨(blk_cell (gK BSL) 0).trans rfl, (blk_cell (gK BFR) 0).trans rfl, (blk_cell (gM_ HM).blk 8).trans rfl, (blk_cell (gM_ HM).blk 9).trans rfl, len_empty (gK Mmsl) Try.underlying170 3, len_empty (gK Mmfr) Try.underlying170 3⟩) (first | (go_at_call 91; (with_reducible refine (framesIn_calls k g l0 l1 l2 l3 l4 x l6 l7 [] [] 5 [] x w0 _ (gM_ HM).isS (gM_ HM).base p8).mono ?_); rintro e w3 ⟨v, rfl, ho, hi, hb0, hb⟩; replace HM := Aside0.mk ((gM_ HM).below hb); replace HB := Aside0.mk (below_step (gB_ HB) hb); replace Mmsl := Aside0.mk (blk_below (gK Mmsl) hb); replace Mmfr := Aside0.mk (blk_below (gK Mmfr) hb); replace Mmwr := Aside0.mk (blk_below (gK Mmwr) hb); replace BSL := Aside0.mk (blk_below (gK BSL) hb); replace BFR := Aside0.mk (blk_below (gK BFR) hb); replace BWR := Aside0.mk (blk_below (gK BWR) hb); obtain ⟨A4, c4, rfl⟩ := Kd.R_slice ho; clear ho hb hb0 hi) | (go_at_call 136; (with_reducible refine (concat0_calls _ (A 8) (A 9) (c 8) (c 9) _ (blk_new _ _)).mono ?_); rintro e w4 ⟨rfl, hb⟩; replace HM := Aside0.mk ((gM_ HM).below hb); replace HB := Aside0.mk (below_step (gB_ HB) hb); replace Mmsl := Aside0.mk (blk_below (gK Mmsl) hb); replace Mmfr := Aside0.mk (blk_below (gK Mmfr) hb); replace Mmwr := Aside0.mk (blk_below (gK Mmwr) hb); replace BSL := Aside0.mk (blk_below (gK BSL) hb); replace BFR := Aside0.mk (blk_below (gK BFR) hb); replace BWR := Aside0.mk (blk_below (gK BWR) hb); clear hb) | (go_at_call 124; refine calls_of_args (args' := #[.pointer (some ⟨g, 0, none⟩), .slice none ([] : List Int).length 0, .int .i64 5]) (by rfl) ?_; (with_reducible refine (sameSet_calls k g A c l0 l1 l2 l3 l4 l6 l7 [] [] x none 0 [] 5 [] [] List.mergeSort_nil w0 _ (gM_ HM) (kd0 _ _) (Nat.le_refl _) (by decide) p8 p9).mono ?_); rintro e w5 ⟨rfl, hb⟩; replace HM := Aside0.mk ((gM_ HM).below hb); replace HB := Aside0.mk (below_step (gB_ HB) hb); replace Mmsl := Aside0.mk (blk_below (gK Mmsl) hb); replace Mmfr := Aside0.mk (blk_below (gK Mmfr) hb); replace Mmwr := Aside0.mk (blk_below (gK Mmwr) hb); replace BSL := Aside0.mk (blk_below (gK BSL) hb); replace BFR := Aside0.mk (blk_below (gK BFR) hb); replace BWR := Aside0.mk (blk_below (gK BWR) hb); clear hb))
        all_goals go_wp2
        all_goals go_ret
        all_goals exact ⟨rfl, gB_ HB⟩
end Go.Proofs.Ytngonhgghncdiaa.P
end
section
namespace Go.Proofs.Ytngonhgghncdiaa.P
open Go.Proofs.Ytngonhgghncdiaa.Up Go.Proofs.Ytngonhgghncdiaa
open Go.RowKit Go.Proofs.YtngonhgghncdiaaW.PrintWords Go.Proofs.YtngonhgghncdiaaW.PrintLast Go.Proofs.YtngonhgghncdiaaW.PrintMore
attribute [local go_sem] max2_int min2_int max_two min_two max_three min_three max_four min_four
set_option linter.unusedVariables false
set_option linter.unusedSimpArgs false
def impl_CountOf.f (k : Nat) (l0_0 : List (List Int)) (l0_1 : List Int) (l0_2 : List S124) (l0_3 : List S131) (l0_4 : List S134) (a0_5 : Int) (l0_6 : List S79) (l0_7 : List S138) (l0_8 : List Int) (l0_9 : List Int) (a1 : Int) : Option Int := (impl_Machine_framesIn.f k l0_0 l0_1 l0_2 l0_3 l0_4 a0_5 l0_6 l0_7 l0_8 l0_9 a1).bind fun t => (some (t.1.length : Int))
set_option maxHeartbeats 8000000 in
set_option maxRecDepth 100000 in
theorem impl_CountOf.calls (k : Nat) (A0_0 : Option Addr) (c0_0 : Nat) (l0_0 : List (List Int)) (A0_1 : Option Addr) (c0_1 : Nat) (l0_1 : List Int) (A0_2 : Option Addr) (c0_2 : Nat) (l0_2 : List S124) (A0_3 : Option Addr) (c0_3 : Nat) (l0_3 : List S131) (A0_4 : Option Addr) (c0_4 : Nat) (l0_4 : List S134) (a0_5 : Int) (A0_6 : Option Addr) (c0_6 : Nat) (l0_6 : List S79) (A0_7 : Option Addr) (c0_7 : Nat) (l0_7 : List S138) (A0_8 : Option Addr) (c0_8 : Nat) (l0_8 : List Int) (A0_9 : Option Addr) (c0_9 : Nat) (l0_9 : List Int) (a1 : Int) (r : Int) (w : World) (hr0_0 : Kd.C (Kd.slice 3 (Kd.int .i64)) w A0_0 l0_0.length l0_0) (hc0_0 : l0_0.length ≤ c0_0) (hr0_1 : Kd.C (Kd.int .i64) w A0_1 l0_1.length l0_1) (hc0_1 : l0_1.length ≤ c0_1) (hr0_2 : Kd.C k124 w A0_2 l0_2.length l0_2) (hc0_2 : l0_2.length ≤ c0_2) (hr0_3 : Kd.C k131 w A0_3 l0_3.length l0_3) (hc0_3 : l0_3.length ≤ c0_3) (hr0_4 : Kd.C k134 w A0_4 l0_4.length l0_4) (hc0_4 : l0_4.length ≤ c0_4) (hr0_6 : Kd.C k79 w A0_6 l0_6.length l0_6) (hc0_6 : l0_6.length ≤ c0_6) (hr0_7 : Kd.C k138 w A0_7 l0_7.length l0_7) (hc0_7 : l0_7.length ≤ c0_7) (hr0_8 : Kd.C (Kd.int .i64) w A0_8 l0_8.length l0_8) (hc0_8 : l0_8.length ≤ c0_8) (hr0_9 : Kd.C (Kd.int .i64) w A0_9 l0_9.length l0_9) (hc0_9 : l0_9.length ≤ c0_9) (h : impl_CountOf.f k l0_0 l0_1 l0_2 l0_3 l0_4 a0_5 l0_6 l0_7 l0_8 l0_9 a1 = some r) :
    Calls Try.prog 27 #[.agg #[.slice A0_0 l0_0.length c0_0, .slice A0_1 l0_1.length c0_1, .slice A0_2 l0_2.length c0_2, .slice A0_3 l0_3.length c0_3, .slice A0_4 l0_4.length c0_4, .int .i64 a0_5, .slice A0_6 l0_6.length c0_6, .slice A0_7 l0_7.length c0_7, .slice A0_8 l0_8.length c0_8, .slice A0_9 l0_9.length c0_9], .int .i64 a1] w fun e w' => e = .returned (.int .i64 r) ∧ Below w.heap.size w w' := by
  have hu56 := Try.underlying41
  have HR0_0 := Aside0.mk hr0_0
  have HC0_0 := Aside0.mk hc0_0
  clear hr0_0 hc0_0
  have HR0_1 := Aside0.mk hr0_1
  have HC0_1 := Aside0.mk hc0_1
  clear hr0_1 hc0_1
  have HR0_2 := Aside0.mk hr0_2
  have HC0_2 := Aside0.mk hc0_2
  clear hr0_2 hc0_2
  have HR0_3 := Aside0.mk hr0_3
  have HC0_3 := Aside0.mk hc0_3
  clear hr0_3 hc0_3
  have HR0_4 := Aside0.mk hr0_4
  have HC0_4 := Aside0.mk hc0_4
  clear hr0_4 hc0_4
  have HR0_6 := Aside0.mk hr0_6
  have HC0_6 := Aside0.mk hc0_6
  clear hr0_6 hc0_6
  have HR0_7 := Aside0.mk hr0_7
  have HC0_7 := Aside0.mk hc0_7
  clear hr0_7 hc0_7
  have HR0_8 := Aside0.mk hr0_8
  have HC0_8 := Aside0.mk hc0_8
  clear hr0_8 hc0_8
  have HR0_9 := Aside0.mk hr0_9
  have HC0_9 := Aside0.mk hc0_9
  clear hr0_9 hc0_9
  have HB := Aside0.mk (Below.refl w.heap.size w)
  have H := h
  clear h
  unfold impl_CountOf.f at H
  obtain ⟨⟨t, t2⟩, A3, H⟩ := Option.bind_eq_some_iff.mp H
  have A3 := Aside0.mk A3
  obtain rfl := Option.some.inj H
  go_enter Try.func27, Try.ntmps27
  go_wp2_with (first | ((with_reducible refine gate_dst (N := 2) rfl ?_); refine box_event ?hg (N := 2) ?hd (cs := #[.slice A0_0 l0_0.length c0_0, .slice A0_1 l0_1.length c0_1, .slice A0_2 l0_2.length c0_2, .slice A0_3 l0_3.length c0_3, .slice A0_4 l0_4.length c0_4, .int .i64 a0_5, .slice A0_6 l0_6.length c0_6, .slice A0_7 l0_7.length c0_7, .slice A0_8 l0_8.length c0_8, .slice A0_9 l0_9.length c0_9]) (t := 41) ?hr ?_; (case hd => rfl); (case hg => rfl); (case hr => first | (go_simp; done) | (go_simp; rfl)); intro gb hg w4 hbox hb; have n0_ := Aside0.mk (below_step (by repeat (first | (with_reducible first | exact HB.out | apply below_alloc | apply pw_below_drewN | apply below_drew1) | exact HB.out)) hb); have n1_ := Aside0.mk hbox; have n2_ := Aside0.mk ((by rw [hg]; exact (below_size (by repeat (first | (with_reducible first | exact HB.out | apply below_alloc | apply pw_below_drewN | apply below_drew1) | exact HB.out))) : w.heap.size ≤ gb)); clear HB; have HB := n0_; have BK := n1_; have GW := n2_; clear n0_ n1_ n2_; clear hb hbox hg) | ((with_reducible refine gate_callee (f := 91) rfl ?_); refine goesL_ (some 6) rfl rfl Try.func91 (by kernel_rfl) rfl #[.pointer (some ⟨gb, 0, none⟩), .int .i64 a1] rfl (by (try simp only [List.map_toArray, List.map_cons, List.map_nil]); first | done | rfl) ?_; (with_reducible refine (impl_Machine_framesIn.calls k gb l0_0 l0_1 l0_2 l0_3 l0_4 a0_5 l0_6 l0_7 l0_8 l0_9 a1 t t2 w _ ?sI ?sB A3.out).mono ?_); (case sI => exact ⟨_, _, _, _, _, _, _, _, _, _, _, _, _, _, _, _, _, _, (by (with_reducible repeat (first | refine blk_drewN ?_ _ | refine blk_drew ?_ | refine blk_alloc ?_ _)); exact BK.out), GW.out, HR0_0.out, HR0_1.out, HR0_2.out, HR0_3.out, HR0_4.out, HR0_6.out, HR0_7.out, HR0_8.out, HR0_9.out⟩); (case sB => exact (by repeat (first | (with_reducible first | exact HB.out | apply below_alloc | apply pw_below_drewN | apply below_drew1) | exact HB.out))); rintro e w9 ⟨v9, rfl, ho, hi, hb, hk⟩; refine ⟨_, rfl, ?_⟩; obtain ⟨A9_, c9_, e9_⟩ := Kd.R_slice ho; subst e9_; clear HB; have HB := Aside0.mk hb; clear hb hi hk))
  go_ret
  exact ⟨rfl, HB.out⟩
end Go.Proofs.Ytngonhgghncdiaa.P
end
section
namespace Go.Proofs.Ytngonhgghncdiaa.P
open Go.Proofs.Ytngonhgghncdiaa.Up Go.Proofs.Ytngonhgghncdiaa
open Go.RowKit Go.Proofs.YtngonhgghncdiaaW.PrintWords Go.Proofs.YtngonhgghncdiaaW.PrintLast Go.Proofs.YtngonhgghncdiaaW.PrintMore
attribute [local go_sem] max2_int min2_int max_two min_two max_three min_three max_four min_four
set_option linter.unusedVariables false
set_option linter.unusedSimpArgs false
structure MR (w : World) (A : Nat → Option Addr) (c : Nat → Nat) (l0 : List (List Int)) (l1 : List Int) (l2 : List S124) (l3 : List S131) (l4 : List S134) (l6 : List S79) (l7 : List S138) (l8 : List Int) (l9 : List Int) : Prop where
  r0 : Kd.C (Kd.slice 3 (Kd.int .i64)) w (A 0) l0.length l0
  k0 : l0.length ≤ c 0
  r1 : Kd.C (Kd.int .i64) w (A 1) l1.length l1
  k1 : l1.length ≤ c 1
  r2 : Kd.C k124 w (A 2) l2.length l2
  k2 : l2.length ≤ c 2
  r3 : Kd.C k131 w (A 3) l3.length l3
  k3 : l3.length ≤ c 3
  r4 : Kd.C k134 w (A 4) l4.length l4
  k4 : l4.length ≤ c 4
  r6 : Kd.C k79 w (A 6) l6.length l6
  k6 : l6.length ≤ c 6
  r7 : Kd.C k138 w (A 7) l7.length l7
  k7 : l7.length ≤ c 7
  r8 : Kd.C (Kd.int .i64) w (A 8) l8.length l8
  k8 : l8.length ≤ c 8
  r9 : Kd.C (Kd.int .i64) w (A 9) l9.length l9
  k9 : l9.length ≤ c 9
structure NewOk (k : Nat) (l0 : List (List Int)) (l1 : List Int) (l2 : List S124) (l3 : List S131) (l4 : List S134) (l6 : List S79) (l7 : List S138) (l8 : List Int) (l9 : List Int) (x : Int) (fo so f0s : List Int) : Prop where
  e1 : l1.length = l0.length
  e3 : l3 = []
  e4 : l4 = []
  h6 : l6.length = 4
  e6 : ∀ i : Int, 0 ≤ i → i < (l6.length : Int) → rd_T79 l6 i = ⟨false, -1, []⟩
  e7 : ∀ i : Int, 0 ≤ i → i < (l7.length : Int) → rd_T138 l7 i = ⟨0, []⟩
  e8 : l8 = []
  e9 : l9 = []
  pm : impl_MemoryOk.f k l0 = some true
  q1 : impl_Machine_framesIn.f k l0 l1 l2 l3 l4 x l6 l7 l8 l9 1 = some ([0, 1], x)
  z2 : slices_Equal_int_int.f k [0, 1] [0, 1] = some true
  pr : impl_RunsOk.f k (l0.length : Int) l2 = some true
  pl : impl_SlabsOk.f k l3 = some true
  pf : impl_framesOf.f k l2 = some fo
  hfo : fo.length ≤ 1000000
  hso : (fo.mergeSort fun x y => decide (x ≤ y)) = so
  q0 : impl_Machine_framesIn.f k l0 l1 l2 l3 l4 x l6 l7 l8 l9 0 = some (f0s, x)
  zf : slices_Equal_int_int.f k so f0s = some true
  q2 : impl_Machine_framesIn.f k l0 l1 l2 l3 l4 x l6 l7 l8 l9 2 = some ([], x)
  q3 : impl_Machine_framesIn.f k l0 l1 l2 l3 l4 x l6 l7 l8 l9 3 = some ([], x)
  q4 : impl_Machine_framesIn.f k l0 l1 l2 l3 l4 x l6 l7 l8 l9 4 = some ([], x)
  q5 : impl_Machine_framesIn.f k l0 l1 l2 l3 l4 x l6 l7 l8 l9 5 = some ([], x)
  z0 : slices_Equal_int_int.f k [] [] = some true
  pw : impl_within.f x 1 100000 = some true
  pg : impl_RegionsOk.f k [] = some true
  ps : impl_SlotsOk.f k l7 = some true
set_option maxHeartbeats 8000000 in
set_option maxRecDepth 100000 in
theorem MachineOk_calls (k : Nat) (A : Nat → Option Addr) (c : Nat → Nat) (l0 : List (List Int)) (l1 : List Int) (l2 : List S124) (l3 : List S131) (l4 : List S134) (l6 : List S79) (l7 : List S138) (l8 : List Int) (l9 : List Int) (x : Int) (fo so f0s : List Int) (w : World) (H : MR w A c l0 l1 l2 l3 l4 l6 l7 l8 l9) (N : NewOk k l0 l1 l2 l3 l4 l6 l7 l8 l9 x fo so f0s) :
    Calls Try.prog 26 #[.agg #[.slice (A 0) l0.length (c 0), .slice (A 1) l1.length (c 1), .slice (A 2) l2.length (c 2), .slice (A 3) l3.length (c 3), .slice (A 4) l4.length (c 4), .int .i64 x, .slice (A 6) l6.length (c 6), .slice (A 7) l7.length (c 7), .slice (A 8) l8.length (c 8), .slice (A 9) l9.length (c 9)]] w fun e w' => e = .returned (.bool true) ∧ Below w.heap.size w w' := by
  have HB := Aside0.mk (Below.refl w.heap.size w)
  go_enter Try.func26, Try.ntmps26
  go_wp2_with (first | ((with_reducible refine gate_dst (N := 1) rfl ?_); refine box_event ?hg (N := 1) ?hd (cs := #[.slice (A 0) l0.length (c 0), .slice (A 1) l1.length (c 1), .slice (A 2) l2.length (c 2), .slice (A 3) l3.length (c 3), .slice (A 4) l4.length (c 4), .int .i64 x, .slice (A 6) l6.length (c 6), .slice (A 7) l7.length (c 7), .slice (A 8) l8.length (c 8), .slice (A 9) l9.length (c 9)]) (t := 41) ?hr ?_; (case hd => rfl); (case hg => rfl); (case hr => first | (go_simp; done) | (go_simp; rfl)); intro g hbz w_ hbk hb; have HM : Aside0 (MB w w_ g A c l0 l1 l2 l3 l4 l6 l7 l8 l9 x) := ⟨⟨hbk, by rw [hbz]; exact below_size (gB_ HB), below_step (gB_ HB) hb, H.r0, H.k0, H.r1, H.k1, H.r2, H.k2, H.r3, H.k3, H.r4, H.k4, H.r6, H.k6, H.r7, H.k7, H.r8, H.k8, H.r9, H.k9⟩⟩; replace HB := Aside0.mk (below_step (gB_ HB) hb); clear hbz hb hbk) | (go_at_call 87; (with_reducible refine (framesOk_calls k g A c l0 l1 l2 l3 l4 l6 l7 l8 l9 x fo so f0s w _ (gM_ HM) N.e1 N.e3 N.pm N.q1 N.z2 N.pr N.pl N.pf N.hfo N.hso N.q0 N.zf N.q2 N.z0).mono ?_); rintro e w1 ⟨rfl, hb⟩; replace HM := Aside0.mk ((gM_ HM).below hb); replace HB := Aside0.mk (below_step (gB_ HB) hb); clear hb) | (go_at_call 88; (with_reducible refine (objectsOk_calls k g A c l0 l1 l2 l3 l4 l6 l7 l8 l9 x w _ (gM_ HM) N.e3 N.e4 N.pw N.q3 N.z0).mono ?_); rintro e w2 ⟨rfl, hb⟩; replace HM := Aside0.mk ((gM_ HM).below hb); replace HB := Aside0.mk (below_step (gB_ HB) hb); clear hb) | (go_at_call 89; (with_reducible refine (spacesOk_calls k g A c l0 l1 l2 l3 l4 l6 l7 l8 l9 x w _ (gM_ HM) N.h6 N.e6 N.pg N.q4 N.z0).mono ?_); rintro e w3 ⟨rfl, hb⟩; replace HM := Aside0.mk ((gM_ HM).below hb); replace HB := Aside0.mk (below_step (gB_ HB) hb); clear hb) | (go_at_call 90; (with_reducible refine (pagesOk_calls k g A c l0 l1 l2 l3 l4 l6 l7 l8 l9 x w _ (gM_ HM) N.h6 N.e6 N.e7 N.ps N.e8 N.e9 N.q5 N.z0).mono ?_); rintro e w4 ⟨rfl, hb⟩; replace HM := Aside0.mk ((gM_ HM).below hb); replace HB := Aside0.mk (below_step (gB_ HB) hb); clear hb))
  go_ret
  exact ⟨rfl, gB_ HB⟩
theorem CountOf_calls (k : Nat) (A : Nat → Option Addr) (c : Nat → Nat) (l0 : List (List Int)) (l1 : List Int) (l2 : List S124) (l3 : List S131) (l4 : List S134) (l6 : List S79) (l7 : List S138) (l8 : List Int) (l9 : List Int) (x a1 r : Int) (w : World) (H : MR w A c l0 l1 l2 l3 l4 l6 l7 l8 l9) (h : impl_CountOf.f k l0 l1 l2 l3 l4 x l6 l7 l8 l9 a1 = some r) :
    Calls Try.prog 27 #[.agg #[.slice (A 0) l0.length (c 0), .slice (A 1) l1.length (c 1), .slice (A 2) l2.length (c 2), .slice (A 3) l3.length (c 3), .slice (A 4) l4.length (c 4), .int .i64 x, .slice (A 6) l6.length (c 6), .slice (A 7) l7.length (c 7), .slice (A 8) l8.length (c 8), .slice (A 9) l9.length (c 9)], .int .i64 a1] w fun e w' => e = .returned (.int .i64 r) ∧ Below w.heap.size w w' :=
  impl_CountOf.calls k (A 0) (c 0) l0 (A 1) (c 1) l1 (A 2) (c 2) l2 (A 3) (c 3) l3 (A 4) (c 4) l4 x (A 6) (c 6) l6 (A 7) (c 7) l7 (A 8) (c 8) l8 (A 9) (c 9) l9 a1 r w H.r0 H.k0 H.r1 H.k1 H.r2 H.k2 H.r3 H.k3 H.r4 H.k4 H.r6 H.k6 H.r7 H.k7 H.r8 H.k8 H.r9 H.k9 h
set_option maxHeartbeats 8000000 in
set_option maxRecDepth 100000 in
theorem TablesOf_calls (k : Nat) (A : Nat → Option Addr) (c : Nat → Nat) (l0 : List (List Int)) (l1 : List Int) (l2 : List S124) (l3 : List S131) (l4 : List S134) (l6 : List S79) (l7 : List S138) (l8 : List Int) (l9 : List Int) (x y : Int) (w : World) (H : MR w A c l0 l1 l2 l3 l4 l6 l7 l8 l9) (h6 : l6.length = 4) (e6 : ∀ i : Int, 0 ≤ i → i < (l6.length : Int) → rd_T79 l6 i = ⟨false, -1, []⟩) (hy0 : 0 ≤ y) (hy1 : y < 4) (pw : impl_within.f y 0 3 = some true) :
    Calls Try.prog 28 #[.agg #[.slice (A 0) l0.length (c 0), .slice (A 1) l1.length (c 1), .slice (A 2) l2.length (c 2), .slice (A 3) l3.length (c 3), .slice (A 4) l4.length (c 4), .int .i64 x, .slice (A 6) l6.length (c 6), .slice (A 7) l7.length (c 7), .slice (A 8) l8.length (c 8), .slice (A 9) l9.length (c 9)], .int .i64 y] w fun e w' => ∃ b, e = .returned (.slice (some ⟨b, 0, none⟩) 0 0) ∧ Below w.heap.size w w' := by
  have HB := Aside0.mk (Below.refl w.heap.size w)
  have c1 : y < (l6.length : Int) := by omega
  obtain ⟨w0, hw0⟩ : ∃ w0, w0 = w := ⟨_, rfl⟩
  obtain ⟨ad, A2, c2, hA6, hx0, hx1, hx2, hl2, hi2⟩ := at_T79 H.r6 y hy0 c1
  rw [e6 y hy0 c1] at hx0 hx1 hx2
  dsimp only at hx0 hx1 hx2
  have HX := Aside0.mk hx1
  clear hx0 hx1 hx2 hl2 hi2 hw0
  have hp := eq_true hy0
  have hp3 : (y.toNat < 4) = True := eq_true (by omega)
  have E6 := Aside0.mk h6
  clear h6
  go_enter Try.func28, Try.ntmps28
  go_wp2_with (first | ((with_reducible refine gate_dst (N := 2) rfl ?_); refine box_event ?hg (N := 2) ?hd (cs := #[.slice (A 0) l0.length (c 0), .slice (A 1) l1.length (c 1), .slice (A 2) l2.length (c 2), .slice (A 3) l3.length (c 3), .slice (A 4) l4.length (c 4), .int .i64 x, .slice (A 6) l6.length (c 6), .slice (A 7) l7.length (c 7), .slice (A 8) l8.length (c 8), .slice (A 9) l9.length (c 9)]) (t := 41) ?hr ?_; (case hd => rfl); (case hg => rfl); (case hr => first | (go_simp; done) | (go_simp; rfl)); intro g hbz w_ hbk hb; have HM : Aside0 (MB w w_ g A c l0 l1 l2 l3 l4 l6 l7 l8 l9 x) := ⟨⟨hbk, by rw [hbz]; exact below_size (gB_ HB), below_step (gB_ HB) hb, H.r0, H.k0, H.r1, H.k1, H.r2, H.k2, H.r3, H.k3, H.r4, H.k4, H.r6, H.k6, H.r7, H.k7, H.r8, H.k8, H.r9, H.k9⟩⟩; replace HB := Aside0.mk (below_step (gB_ HB) hb); clear hbz hb hbk) | ((with_reducible refine gate_dst (N := 6) rfl ?_); refine slice_event ?hg (N := 6) ?hd (cs := #[]) (t := 3) (n := 0) ?hr ?_; (case hd => rfl); (case hg => rfl); (case hr => first | (go_simp; done) | (go_simp; rfl)); intro bs hbz w_ hbk hb; replace HM := Aside0.mk ((gM_ HM).below hb); replace HB := Aside0.mk (below_step (gB_ HB) hb); clear hbz hbk hb) | ((with_reducible refine gate_dst (N := 5) rfl ?_); refine box_event ?hg (N := 5) ?hd (cs := #[.slice none 0 0]) (t := 26) ?hr ?_; (case hd => rfl); (case hg => rfl); (case hr => first | (go_simp; done) | (go_simp; rfl)); intro bo hbz w_ hbk hb; have Gbo := Aside0.mk (show w.heap.size ≤ bo by rw [hbz]; exact below_size (gB_ HB)); have Kbo := Aside0.mk (show w.heap.size ≤ bo by rw [hbz]; exact below_size (gM_ HM).base); have NEbo := Aside0.mk (show g ≠ bo by rw [hbz]; exact Nat.ne_of_lt (blk_lt (gM_ HM).blk)); replace HM := Aside0.mk ((gM_ HM).below hb); replace HB := Aside0.mk (below_step (gB_ HB) hb); clear hbz hb; have BO := Aside0.mk hbk; clear hbk; have hz0 := (blk_cell BO.out 0).trans rfl; have hy0_ := blk_frozen BO.out 0) | ((with_reducible refine gateL2 rfl ?_); refine anew2 (fun W_ => MB w W_ g A c l0 l1 l2 l3 l4 l6 l7 l8 l9 x ∧ Below w.heap.size w W_) ⟨MB.off HM NEbo.out Kbo.out, gT1 Gbo.out HB⟩ ?_; rintro wq ⟨hm, hb⟩; clear HM BO HB hz0 hy0_; have HM := Aside0.mk hm; have HB := Aside0.mk hb; clear hm hb; have hq6 := (blk_cell HM.out.blk 6).trans rfl; rw [hA6, E6.out] at hq6) | (go_at_call 35; (with_reducible refine (impl_within.calls y 0 3 true _ pw).mono ?_); rintro e w1 ⟨rfl, hd⟩; have hb := Drawn0.below hd; replace HM := Aside0.mk ((gM_ HM).below hb); replace HB := Aside0.mk (below_step (gB_ HB) hb); clear hb hd hq6; have hq6 := (blk_cell HM.out.blk 6).trans rfl; rw [hA6, E6.out] at hq6; have hx1 := pw_cell_below HM.out.base HX.out) | ((with_reducible refine gate_dst (N := 33) rfl ?_); refine slice_event ?hg (N := 33) ?hd (cs := #[]) (t := 3) (n := 0) ?hr ?_; (case hd => rfl); (case hg => rfl); (case hr => first | (go_simp; done) | (go_simp; rfl)); intro bt hbz w_ hbk hb; replace HM := Aside0.mk ((gM_ HM).below hb); replace HB := Aside0.mk (below_step (gB_ HB) hb); clear hbz hbk hb))
  go_ret
  exact ⟨_, rfl, gB_ HB⟩
end Go.Proofs.Ytngonhgghncdiaa.P
end
section
namespace Go.Proofs.Ytngonhgghncdiaa.P
open Go.Proofs.Ytngonhgghncdiaa.Up Go.Proofs.Ytngonhgghncdiaa
open Go.RowKit Go.Proofs.YtngonhgghncdiaaW.PrintWords Go.Proofs.YtngonhgghncdiaaW.PrintLast Go.Proofs.YtngonhgghncdiaaW.PrintMore
attribute [local go_sem] max2_int min2_int max_two min_two max_three min_three max_four min_four
set_option linter.unusedVariables false
set_option linter.unusedSimpArgs false
def IsS120 (w0 W : World) (g : Nat) (f0 : List Int) (f1 : Int) (f2 : Int) : Prop := ∃ A0 c0, W.heap[g]? = some (.cells #[.slice A0 f0.length c0, .int .i64 f1, .int .i64 f2] 120 (0, 0)) ∧ w0.heap.size ≤ g ∧ Kd.C (Kd.int .u8) w0 A0 f0.length f0
theorem IsS120.grown {w0 W : World} {g : Nat} {f0 : List Int} {f1 : Int} {f2 : Int} {W1 : World} {row : Option Nat} (h : IsS120 w0 W g f0 f1 f2) (hw : W.grownBy W1 row) (hne : some g ≠ row) : IsS120 w0 W1 g f0 f1 f2 := by
 obtain ⟨A0, c0, hb, hg, hr0⟩ := h
 exact ⟨A0, c0, blk_grown hb hw hne, hg, hr0⟩
theorem IsS120.own_neN {w0 W : World} {g : Nat} {f0 : List Int} {f1 : Int} {f2 : Int} {α : Type} {d : Kd α} {e : Nat} {base : Nat} {ok : Nat → Prop} {v : Value} {xs : List α} (h : IsS120 w0 W g f0 f1 f2) (ho : Kd.N d e W base ok v xs) (ht : e ≠ 120) : some g ≠ v.ownBlock := by
 obtain ⟨A0, c0, hb, hg, hr0⟩ := h; exact Kd.N_ne ho hb ht
theorem IsS120.fresh {w0 W : World} {g : Nat} {f0 : List Int} {f1 : Int} {f2 : Int} (h : IsS120 w0 W g f0 f1 f2) : ∀ k, W.heap.size ≤ k → k ≠ g := by
 obtain ⟨A0, c0, hb, hg, hr0⟩ := h; exact Kd.freshB hb
theorem IsS120.kept {w0 W : World} {g : Nat} {f0 : List Int} {f1 : Int} {f2 : Int} {W1 : World} {S : Nat → Prop} (h : IsS120 w0 W g f0 f1 f2) (hk : Kept W W1 S) (hne : ¬ S g) : IsS120 w0 W1 g f0 f1 f2 := by
 obtain ⟨A0, c0, hb, hg, hr0⟩ := h
 exact ⟨A0, c0, blk_kept hb hk hne, hg, hr0⟩
theorem IsS120.below {w0 W : World} {g : Nat} {f0 : List Int} {f1 : Int} {f2 : Int} {W1 : World} (h : IsS120 w0 W g f0 f1 f2) (hw : Below W.heap.size W W1) : IsS120 w0 W1 g f0 f1 f2 := h.grown (grown_of_below hw none) (by simp)
theorem IsS120.alloc {w0 W : World} {g : Nat} {f0 : List Int} {f1 : Int} {f2 : Int} (h : IsS120 w0 W g f0 f1 f2) (o : Obj) : IsS120 w0 (W.alloc o) g f0 f1 f2 := h.below (below_alloc (Below.refl _ _) o)
theorem IsS120.drewN {w0 W : World} {g : Nat} {f0 : List Int} {f1 : Int} {f2 : Int} (h : IsS120 w0 W g f0 f1 f2) (m : Nat) : IsS120 w0 (W.drewN m) g f0 f1 f2 := h
theorem IsS120.drew {w0 W : World} {g : Nat} {f0 : List Int} {f1 : Int} {f2 : Int} (h : IsS120 w0 W g f0 f1 f2) : IsS120 w0 W.drew g f0 f1 f2 := h
theorem IsS120.at_ {w0 W : World} {g : Nat} {f0 : List Int} {f1 : Int} {f2 : Int} {w' : World} {m : Nat} (hq : W.drewN m = w') (h : IsS120 w0 W g f0 f1 f2) : IsS120 w0 w' g f0 f1 f2 := by subst hq; exact IsS120.drewN h m
theorem IsS120.apart {w0 W : World} {g : Nat} {f0 : List Int} {f1 : Int} {f2 : Int} {α : Type} {d : Kd α} {e : Nat} {base : Nat} {ok : Nat → Prop} {v : Value} {xs : List α} (h : IsS120 w0 W g f0 f1 f2) (ho : d.R e W base ok v xs) (ht : ∀ q, q ∈ e :: d.E → q ≠ 120) : d.R e W base (fun k => ok k ∧ k ≠ g) v xs := by
 obtain ⟨A0, c0, hb, hg, hr0⟩ := h; exact Kd.R_types ho hb ht
theorem IsS120.own_ne {w0 W : World} {g : Nat} {f0 : List Int} {f1 : Int} {f2 : Int} {α : Type} {d : Kd α} {e : Nat} {base : Nat} {ok : Nat → Prop} {v : Value} {xs : List α} (h : IsS120 w0 W g f0 f1 f2) (ho : d.R e W base ok v xs) (ht : e ≠ 120) : some g ≠ v.ownBlock := by
 obtain ⟨A0, c0, hb, hg, hr0⟩ := h; exact Kd.R_ne ho hb ht
theorem IsS120.apartQ {w0 W : World} {g : Nat} {f0 : List Int} {f1 : Int} {f2 : Int} {α : Type} {d : Kd α} {e : Nat} {base : Nat} {ok : Nat → Prop} {v : Value} {xs : List α} (h : IsS120 w0 W g f0 f1 f2) (ho : d.Q e W base ok v xs) (ht : ∀ q, q ∈ e :: d.E → q ≠ 120) : d.Q e W base (fun k => ok k ∧ k ≠ g) v xs := by
 obtain ⟨A0, c0, hb, hg, hr0⟩ := h; exact Kd.Q_types ho hb ht
theorem IsS120.own_neQ {w0 W : World} {g : Nat} {f0 : List Int} {f1 : Int} {f2 : Int} {α : Type} {d : Kd α} {e : Nat} {base : Nat} {ok : Nat → Prop} {v : Value} {xs : List α} (h : IsS120 w0 W g f0 f1 f2) (ho : d.Q e W base ok v xs) (ht : e ≠ 120) : some g ≠ v.ownBlock := by
 obtain ⟨A0, c0, hb, hg, hr0⟩ := h; exact Kd.Q_ne ho hb ht
theorem IsS120.apartS {w0 W : World} {g : Nat} {f0 : List Int} {f1 : Int} {f2 : Int} {α : Type} {d : Kd α} {e : Nat} {base : Nat} {ok : Nat → Prop} {v : Value} {xs : List α} (h : IsS120 w0 W g f0 f1 f2) (ho : d.S e W base ok v xs) (ht : ∀ q, q ∈ e :: d.E → q ≠ 120) : d.S e W base (fun k => ok k ∧ k ≠ g) v xs := by
 obtain ⟨A0, c0, hb, hg, hr0⟩ := h; exact Kd.S_types ho hb ht
theorem IsS120.own_neS {w0 W : World} {g : Nat} {f0 : List Int} {f1 : Int} {f2 : Int} {α : Type} {d : Kd α} {e : Nat} {base : Nat} {ok : Nat → Prop} {v : Value} {xs : List α} (h : IsS120 w0 W g f0 f1 f2) (ho : d.S e W base ok v xs) (ht : e ≠ 120) : some g ≠ v.ownBlock := by
 obtain ⟨A0, c0, hb, hg, hr0⟩ := h; exact Kd.S_ne ho hb ht
theorem IsS120.lt {w0 W : World} {g : Nat} {f0 : List Int} {f1 : Int} {f2 : Int} (h : IsS120 w0 W g f0 f1 f2) : g < W.heap.size := by
 obtain ⟨A0, c0, hb, hg, hr0⟩ := h; exact blk_lt hb
theorem IsS120.ge {w0 W : World} {g : Nat} {f0 : List Int} {f1 : Int} {f2 : Int} (h : IsS120 w0 W g f0 f1 f2) : w0.heap.size ≤ g := by
 obtain ⟨A0, c0, hb, hg, hr0⟩ := h; exact hg
theorem IsS120.ne_blk {w0 W : World} {g : Nat} {f0 : List Int} {f1 : Int} {f2 : Int} {a : Nat} {cs : Array Value} {t : TypeId} {fr : Nat × Nat} (h : IsS120 w0 W g f0 f1 f2) (hb2 : W.heap[a]? = some (.cells cs t fr)) (ht : t ≠ 120) : g ≠ a := by
 obtain ⟨A0, c0, hb, hg, hr0⟩ := h; rintro rfl; rw [hb] at hb2; injection hb2 with hb2; injection hb2 with _ ht2; exact ht ht2.symm
theorem IsS120.far {w0 W : World} {g : Nat} {f0 : List Int} {f1 : Int} {f2 : Int} {p : Addr} (h : IsS120 w0 W g f0 f1 f2) (hne : g ≠ p.block) (u : Value) : IsS120 w0 (W.setCell p u) g f0 f1 f2 := by
 obtain ⟨A0, c0, hb, hg, hr0⟩ := h
 exact ⟨A0, c0, blk_far hb hne u, hg, hr0⟩
theorem cellS120_0 {W : World} {g : Nat} {A0 : Option Addr} {c0 : Nat} {f0 : List Int} {f1 : Int} {f2 : Int} (h : W.heap[g]? = some (.cells #[.slice A0 f0.length c0, .int .i64 f1, .int .i64 f2] 120 (0, 0))) : W.cell? ⟨g, 0, none⟩ = some (.slice A0 f0.length c0) := (blk_cell h 0).trans rfl
theorem cellS120_1 {W : World} {g : Nat} {A0 : Option Addr} {c0 : Nat} {f0 : List Int} {f1 : Int} {f2 : Int} (h : W.heap[g]? = some (.cells #[.slice A0 f0.length c0, .int .i64 f1, .int .i64 f2] 120 (0, 0))) : W.cell? ⟨g, 1, none⟩ = some (.int .i64 f1) := (blk_cell h 1).trans rfl
theorem IsS120.set_1 {w0 W : World} {g : Nat} {f0 : List Int} {f1 : Int} {f2 : Int} (h : IsS120 w0 W g f0 f1 f2) (x : Int) : IsS120 w0 (W.setCell ⟨g, 1, none⟩ (.int .i64 x)) g f0 x f2 := by
 obtain ⟨A0, c0, hb, hg, hr0⟩ := h
 exact ⟨A0, c0, by simpa using blk_set hb 1 (.int .i64 x), hg, hr0⟩
theorem cellS120_2 {W : World} {g : Nat} {A0 : Option Addr} {c0 : Nat} {f0 : List Int} {f1 : Int} {f2 : Int} (h : W.heap[g]? = some (.cells #[.slice A0 f0.length c0, .int .i64 f1, .int .i64 f2] 120 (0, 0))) : W.cell? ⟨g, 2, none⟩ = some (.int .i64 f2) := (blk_cell h 2).trans rfl
theorem IsS120.set_2 {w0 W : World} {g : Nat} {f0 : List Int} {f1 : Int} {f2 : Int} (h : IsS120 w0 W g f0 f1 f2) (x : Int) : IsS120 w0 (W.setCell ⟨g, 2, none⟩ (.int .i64 x)) g f0 f1 x := by
 obtain ⟨A0, c0, hb, hg, hr0⟩ := h
 exact ⟨A0, c0, by simpa using blk_set hb 2 (.int .i64 x), hg, hr0⟩
theorem IsS120.new (w0 W : World) (A0 : Option Addr) (c0 : Nat) (f0 : List Int) (f1 : Int) (f2 : Int) (hB : Below w0.heap.size w0 W) (hr0 : Kd.C (Kd.int .u8) w0 A0 f0.length f0) : IsS120 w0 (W.alloc (.cells #[.slice A0 f0.length c0, .int .i64 f1, .int .i64 f2] 120)) W.heap.size f0 f1 f2 := ⟨A0, c0, by simpa using heap_alloc_new W _, hB.size, hr0⟩
def spec_l01New.l0 : Nat → List Int → Int → Int → Option (List Int × Int × Int)
 | 0, _, _, _ => none
 | k + 1, x0, x3, x4 => if x4 < (x0.length : Int) then (if x4 < 4000 then (if 0 ≤ x4 then (spec_l01New.l0 k x0 (Go.bits .and .i64 (wrap64 ((wrap64 ((wrap64 (x3 * 131)) + (wrap64 (rd x0 x4)))) + 7)) 1073741823) (wrap64 (x4 + 1))) else (none)) else (some (x0, 0, x3))) else (some (x0, 0, x3))
def spec_l01New.f (k : Nat) (l0 : List Int) : Option (List Int × Int × Int) := spec_l01New.l0 k l0 (wrap64 (10901 + (l0.length : Int))) 0
set_option maxHeartbeats 8000000 in
set_option maxRecDepth 100000 in
theorem spec_l01New.calls (k : Nat) (A0 : Option Addr) (c0 : Nat) (l0 : List Int) (r1 : List Int) (r2 : Int) (r3 : Int) (w0 w : World) (hB : Below w0.heap.size w0 w) (hr0 : Kd.C (Kd.int .u8) w0 A0 l0.length l0) (hc0 : l0.length ≤ c0) (h : spec_l01New.f k l0 = some (r1, r2, r3)) :
  Calls Try.prog 29 #[.slice A0 l0.length c0] w fun e w' => ∃ g_ : Nat, e = .returned (.pointer (some ⟨g_, 0, none⟩)) ∧ IsS120 w0 w' g_ r1 r2 r3 ∧ Below w0.heap.size w0 w' ∧ Below w.heap.size w w' := by
 have hu120 := Try.underlying120; have HR0 := Aside0.mk hr0; have HC0 := Aside0.mk hc0; clear hr0 hc0; have HBW := Aside0.mk (Below.refl w.heap.size w); have HW0 := Aside0.mk hB.size; have HB := Aside0.mk hB; clear hB; have H : (spec_l01New.l0 k l0 (wrap64 (10901 + (l0.length : Int))) 0) = some (r1, r2, r3) := h; clear h; have H' := Aside0.mk H; clear H
 go_enter Try.func29, Try.ntmps29
 go_wp2
 go_loopg [3, 4] k (fun kq v3 v4 w' => ∃ (x3_1 : Int) (x4_1 : Int), v3 = .int .i64 x3_1 ∧ v4 = .int .i64 x4_1 ∧ Aside0 (spec_l01New.l0 kq l0 x3_1 x4_1 = some (r1, r2, r3)) ∧ Aside0 (kq ≤ k) ∧ Aside0 (Below w0.heap.size w0 w') ∧ Aside0 (Below w.heap.size w w'))
 case atStart => exact ⟨(wrap64 (10901 + (l0.length : Int))), (0), (by first | rfl | (simp; done) | (simp [*]; done)), (by first | rfl | (simp; done) | (simp [*]; done)), H', ⟨Nat.le_refl _⟩, ⟨gB HB⟩, ⟨by repeat (first | (with_reducible first | exact HBW.out | apply below_alloc | apply pw_below_drewN | apply below_drew1) | exact HBW.out)⟩⟩
 case round =>
  clear H'; obtain ⟨x3_1, x4_1, rfl, rfl, HA, HK1, HB, HBW⟩ := hrel
  cases gk with
  | zero => exact absurd HA.out (by simp [spec_l01New.l0])
  | succ k1 =>
   have H := HA.out; clear HA; simp only [spec_l01New.l0] at H
   by_cases c2 : x4_1 < (l0.length : Int)
   ·rw [if_pos c2] at H; have c2b0 : decide (x4_1 < (l0.length : Int)) = true := decide_eq_true c2; clear c2
    by_cases c3 : x4_1 < 4000
    ·rw [if_pos c3] at H; have c3b0 : decide (x4_1 < 4000) = true := decide_eq_true c3; clear c3
     by_cases c4 : 0 ≤ x4_1
     ·rw [if_pos c4] at H; have c4b0 : decide (0 ≤ x4_1) = true := decide_eq_true c4; clear c4; have H' := Aside0.mk H; clear H; have p101 : 0 ≤ (x4_1 : Int) := of_decide_eq_true (by first | (with_reducible assumption) | assumption); have q101 : x4_1 < (l0.length : Int) := of_decide_eq_true (by first | (with_reducible assumption) | assumption); obtain ⟨ad101, e101, hx101_0⟩ := Kd.at_int HR0.out x4_1 p101 q101
      cases e101; replace hx101_0 := pw_cell_below HB.out hx101_0; replace p101 := eq_true p101; replace q101 := eq_true q101; go_wp2
      go_roundg k1
      case measure => have := HK1.out; omega
      case rel => exact ⟨(Go.bits .and .i64 (wrap64 ((wrap64 ((wrap64 (x3_1 * 131)) + (wrap64 (rd l0 x4_1)))) + 7)) 1073741823), (wrap64 (x4_1 + 1)), (by first | rfl | (simp; done) | (simp [*]; done)), (by first | rfl | (simp; done) | (simp [*]; done)), H', ⟨by have := HK1.out; omega⟩, ⟨gB HB⟩, ⟨by repeat (first | (with_reducible first | exact HBW.out | apply below_alloc | apply pw_below_drewN | apply below_drew1) | exact HBW.out)⟩⟩
     ·rw [if_neg c4] at H; exact absurd H (by simp)
    ·rw [if_neg c3] at H; have c3b0 : decide (x4_1 < 4000) = false := decide_eq_false c3; clear c3; simp only [Option.some.injEq, Prod.mk.injEq] at H; obtain ⟨rfl, rfl, rfl⟩ := H
     go_wp2_with (first | ((with_reducible refine gate_dst (N := 31) rfl ?_); refine box_event ?hg (N := 31) ?hd (cs := #[.slice A0 l0.length c0, .int .i64 0, .int .i64 x3_1]) (t := 120) ?hr ?_; (case hd => rfl); (case hg => rfl); (case hr => first | (go_simp; done) | (go_simp; rfl)); intro gb102 hg w5 hbox hb; replace HB := Aside0.mk (below_step (gB HB) hb); have BK102 := Aside0.mk (hbox); have GW102 := Aside0.mk ((by rw [hg]; exact (below_size (by repeat (first | (with_reducible first | exact HBW.out | apply below_alloc | apply pw_below_drewN | apply below_drew1) | exact HBW.out))) : w.heap.size ≤ gb102)); have GE102 := Aside0.mk ((Nat.le_trans HW0.out (by rw [hg]; exact (below_size (by repeat (first | (with_reducible first | exact HBW.out | apply below_alloc | apply pw_below_drewN | apply below_drew1) | exact HBW.out))) : w.heap.size ≤ gb102) : w0.heap.size ≤ gb102)); replace HBW := Aside0.mk (below_step HBW.out hb); clear hb hbox hg))
     go_ret
     exact ⟨_, rfl, (show IsS120 w0 _ gb102 l0 0 x3_1 from ⟨_, _, gK BK102, GE102.out, HR0.out⟩), gT1 GE102.out HB, by repeat (first | (with_reducible first | exact HBW.out | apply below_alloc | apply pw_below_drewN | apply below_drew1 | refine below_set ?_ GW102.out) | exact HBW.out)⟩
   ·rw [if_neg c2] at H; have c2b0 : decide (x4_1 < (l0.length : Int)) = false := decide_eq_false c2; clear c2; simp only [Option.some.injEq, Prod.mk.injEq] at H; obtain ⟨rfl, rfl, rfl⟩ := H
    go_wp2_with (first | ((with_reducible refine gate_dst (N := 31) rfl ?_); refine box_event ?hg (N := 31) ?hd (cs := #[.slice A0 l0.length c0, .int .i64 0, .int .i64 x3_1]) (t := 120) ?hr ?_; (case hd => rfl); (case hg => rfl); (case hr => first | (go_simp; done) | (go_simp; rfl)); intro gb103 hg w6 hbox hb; replace HB := Aside0.mk (below_step (gB HB) hb); have BK103 := Aside0.mk (hbox); have GW103 := Aside0.mk ((by rw [hg]; exact (below_size (by repeat (first | (with_reducible first | exact HBW.out | apply below_alloc | apply pw_below_drewN | apply below_drew1) | exact HBW.out))) : w.heap.size ≤ gb103)); have GE103 := Aside0.mk ((Nat.le_trans HW0.out (by rw [hg]; exact (below_size (by repeat (first | (with_reducible first | exact HBW.out | apply below_alloc | apply pw_below_drewN | apply below_drew1) | exact HBW.out))) : w.heap.size ≤ gb103) : w0.heap.size ≤ gb103)); replace HBW := Aside0.mk (below_step HBW.out hb); clear hb hbox hg))
    go_ret
    exact ⟨_, rfl, (show IsS120 w0 _ gb103 l0 0 x3_1 from ⟨_, _, gK BK103, GE103.out, HR0.out⟩), gT1 GE103.out HB, by repeat (first | (with_reducible first | exact HBW.out | apply below_alloc | apply pw_below_drewN | apply below_drew1 | refine below_set ?_ GW103.out) | exact HBW.out)⟩
def spec_l01Byte.f (s0_0 : List Int) (s0_1 : Int) (s0_2 : Int) : Option (Int × Int × Int) := if s0_1 < (s0_0.length : Int) then (if 0 ≤ s0_1 then (some (Go.bits .and .i64 (wrap64 ((Go.bits .and .i64 (Go.bits .xor .i64 ((wrap64 ((wrap64 (s0_2 * 6364136223846793005)) + 1442695040888963407)) / 8589934592) ((wrap64 ((wrap64 (s0_2 * 6364136223846793005)) + 1442695040888963407)) / 35184372088832)) 255) + (wrap64 (rd s0_0 s0_1)))) 255, wrap64 (s0_1 + 1), wrap64 ((wrap64 (s0_2 * 6364136223846793005)) + 1442695040888963407))) else (none)) else (some (Go.bits .and .i64 (Go.bits .xor .i64 ((wrap64 ((wrap64 (s0_2 * 6364136223846793005)) + 1442695040888963407)) / 8589934592) ((wrap64 ((wrap64 (s0_2 * 6364136223846793005)) + 1442695040888963407)) / 35184372088832)) 255, s0_1, wrap64 ((wrap64 (s0_2 * 6364136223846793005)) + 1442695040888963407)))
set_option maxHeartbeats 8000000 in
set_option maxRecDepth 100000 in
theorem spec_l01Byte.calls (g : Nat) (s0_0 : List Int) (s0_1 : Int) (s0_2 : Int) (r1 : Int) (r2 : Int) (r3 : Int) (w0 w : World) (hI : IsS120 w0 w g s0_0 s0_1 s0_2) (hB : Below w0.heap.size w0 w) (h : spec_l01Byte.f s0_0 s0_1 s0_2 = some (r1, r2, r3)) :
    Calls Try.prog 33 #[.pointer (some ⟨g, 0, none⟩)] w fun e w' => e = .returned (.int .i64 r1) ∧ IsS120 w0 w' g s0_0 r2 r3 ∧ Below w0.heap.size w0 w' ∧ KeepBut w w' g none := by
  have HI0 := Aside0.mk hI
  have HK := Aside0.mk (KeepBut.refl w g none)
  have HL := Aside0.mk hB.size
  clear hI
  have HW0 := Aside0.mk hB.size
  have HB := Aside0.mk hB
  clear hB
  have H : (if s0_1 < (s0_0.length : Int) then (if 0 ≤ s0_1 then (some (Go.bits .and .i64 (wrap64 ((Go.bits .and .i64 (Go.bits .xor .i64 ((wrap64 ((wrap64 (s0_2 * 6364136223846793005)) + 1442695040888963407)) / 8589934592) ((wrap64 ((wrap64 (s0_2 * 6364136223846793005)) + 1442695040888963407)) / 35184372088832)) 255) + (wrap64 (rd s0_0 s0_1)))) 255, wrap64 (s0_1 + 1), wrap64 ((wrap64 (s0_2 * 6364136223846793005)) + 1442695040888963407))) else (none)) else (some (Go.bits .and .i64 (Go.bits .xor .i64 ((wrap64 ((wrap64 (s0_2 * 6364136223846793005)) + 1442695040888963407)) / 8589934592) ((wrap64 ((wrap64 (s0_2 * 6364136223846793005)) + 1442695040888963407)) / 35184372088832)) 255, s0_1, wrap64 ((wrap64 (s0_2 * 6364136223846793005)) + 1442695040888963407)))) = some (r1, r2, r3) := h
  clear h
  by_cases c2 : s0_1 < (s0_0.length : Int)
  · rw [if_pos c2] at H
    have c2b0 : decide (s0_1 < (s0_0.length : Int)) = true := decide_eq_true c2
    clear c2
    by_cases c3 : 0 ≤ s0_1
    · rw [if_pos c3] at H
      have c3b0 : decide (0 ≤ s0_1) = true := decide_eq_true c3
      clear c3
      simp only [Option.some.injEq, Prod.mk.injEq] at H
      obtain ⟨rfl, rfl, rfl⟩ := H
      obtain ⟨ASz4_0, cSz4_0, HGz4, hgz4, HSz4_0⟩ := HI0.out
      have hcz4_0 := cellS120_0 HGz4
      have hcz4_1 := cellS120_1 HGz4
      have hcz4_2 := cellS120_2 HGz4
      have hfz4_1 := blk_frozen HGz4 1
      have hfz4_2 := blk_frozen HGz4 2
      clear HGz4 hgz4
      have p118 : 0 ≤ (s0_1 : Int) := of_decide_eq_true (by first | (with_reducible assumption) | assumption)
      have q118 : s0_1 < (s0_0.length : Int) := of_decide_eq_true (by first | (with_reducible assumption) | assumption)
      obtain ⟨ad118, e118, hx118_0⟩ := Kd.at_int HSz4_0 s0_1 p118 q118
      cases e118
      have hn118_0 : ad118.block ≠ g := Nat.ne_of_lt (Nat.lt_of_lt_of_le (by have := World.block_lt_of_cell? _ _ hx118_0; first | rwa [add_block] at this | exact this) (IsS120.ge HI0.out))
      replace hx118_0 := pw_cell_below HB.out hx118_0
      replace hx118_0 := (cell_far (p := ⟨g, 2, none⟩) (by first | (rw [add_block]; exact hn118_0) | (show (Addr.add _ _).block ≠ _; rw [add_block]; exact hn118_0) | exact hn118_0) (.int .i64 (wrap64 ((wrap64 (s0_2 * 6364136223846793005)) + 1442695040888963407)))).trans hx118_0
      (try have hy118_0 := fun (n_ : Nat) => (show (((w.drewN n_).setCell ⟨g, 2, none⟩ (.int .i64 (wrap64 ((wrap64 (s0_2 * 6364136223846793005)) + 1442695040888963407))))).cell? _ = some _ from hx118_0))
      clear hn118_0
      replace p118 := eq_true p118
      replace q118 := eq_true q118
      go_enter Try.func33, Try.ntmps33
      go_wp2
      repeat (go_quiet (fail); try go_wp2)
      go_ret
      exact ⟨by first | rfl | (simp [errW_none, errW_some] <;> rfl) | (simp [*, errW_none, errW_some] <;> rfl), by repeat (first | (with_reducible first | exact HI0.out | apply IsS120.alloc | apply IsS120.drewN | apply IsS120.drew | apply IsS120.set_1 | apply IsS120.set_2) | exact HI0.out), by repeat (first | (with_reducible first | exact HB.out | apply below_alloc | apply pw_below_drewN | apply below_drew1 | refine below_set ?_ (IsS120.ge HI0.out)) | exact HB.out), by repeat (first | (with_reducible first | exact HK.out | apply KeepBut.set_ | apply keep_drewN | apply keep_drew | apply keep_alloc) | exact HK.out)⟩
    · rw [if_neg c3] at H
      exact absurd H (by simp)
  · rw [if_neg c2] at H
    have c2b0 : decide (s0_1 < (s0_0.length : Int)) = false := decide_eq_false c2
    clear c2
    simp only [Option.some.injEq, Prod.mk.injEq] at H
    obtain ⟨rfl, rfl, rfl⟩ := H
    obtain ⟨ASz5_0, cSz5_0, HGz5, hgz5, HSz5_0⟩ := HI0.out
    have hcz5_0 := cellS120_0 HGz5
    have hcz5_1 := cellS120_1 HGz5
    have hcz5_2 := cellS120_2 HGz5
    have hfz5_1 := blk_frozen HGz5 1
    have hfz5_2 := blk_frozen HGz5 2
    clear HGz5 hgz5
    go_enter Try.func33, Try.ntmps33
    go_wp2
    repeat (go_quiet (fail); try go_wp2)
    go_ret
    exact ⟨by first | rfl | (simp [errW_none, errW_some] <;> rfl) | (simp [*, errW_none, errW_some] <;> rfl), by repeat (first | (with_reducible first | exact HI0.out | apply IsS120.alloc | apply IsS120.drewN | apply IsS120.drew | apply IsS120.set_1 | apply IsS120.set_2) | exact HI0.out), by repeat (first | (with_reducible first | exact HB.out | apply below_alloc | apply pw_below_drewN | apply below_drew1 | refine below_set ?_ (IsS120.ge HI0.out)) | exact HB.out), by repeat (first | (with_reducible first | exact HK.out | apply KeepBut.set_ | apply keep_drewN | apply keep_drew | apply keep_alloc) | exact HK.out)⟩
def spec_l01Below.f (s0_0 : List Int) (s0_1 : Int) (s0_2 : Int) (a1 : Int) : Option (Int × Int × Int) := if a1 ≤ 0 then (some (0, s0_1, s0_2)) else (if a1 ≤ 256 then ((spec_l01Byte.f s0_0 s0_1 s0_2).bind fun bt119 => (if a1 = 0 then (none) else (some (Int.tmod bt119.1 a1, bt119.2.1, bt119.2.2)))) else ((spec_l01Byte.f s0_0 s0_1 s0_2).bind fun bt122 => ((spec_l01Byte.f s0_0 bt122.2.1 bt122.2.2).bind fun bt125 => ((spec_l01Byte.f s0_0 bt125.2.1 bt125.2.2).bind fun bt128 => ((spec_l01Byte.f s0_0 bt128.2.1 bt128.2.2).bind fun bt131 => (if a1 = 0 then (none) else (some (Int.tmod (wrap64 ((wrap64 ((wrap64 ((wrap64 (bt122.1 * 16777216)) + (wrap64 (bt125.1 * 65536)))) + (wrap64 (bt128.1 * 256)))) + bt131.1)) a1, bt131.2.1, bt131.2.2))))))))
set_option maxHeartbeats 8000000 in
set_option maxRecDepth 100000 in
theorem spec_l01Below.calls (g : Nat) (s0_0 : List Int) (s0_1 : Int) (s0_2 : Int) (a1 : Int) (r1 : Int) (r2 : Int) (r3 : Int) (w0 w : World) (hI : IsS120 w0 w g s0_0 s0_1 s0_2) (hB : Below w0.heap.size w0 w) (h : spec_l01Below.f s0_0 s0_1 s0_2 a1 = some (r1, r2, r3)) :
  Calls Try.prog 32 #[.pointer (some ⟨g, 0, none⟩), .int .i64 a1] w fun e w' => e = .returned (.int .i64 r1) ∧ IsS120 w0 w' g s0_0 r2 r3 ∧ Below w0.heap.size w0 w' ∧ KeepBut w w' g none := by
 have HI0 := Aside0.mk hI; have HK := Aside0.mk (KeepBut.refl w g none); have HL := Aside0.mk hB.size; clear hI; have HW0 := Aside0.mk hB.size; have HB := Aside0.mk hB; clear hB; have H : (if a1 ≤ 0 then (some (0, s0_1, s0_2)) else (if a1 ≤ 256 then ((spec_l01Byte.f s0_0 s0_1 s0_2).bind fun bt119 => (if a1 = 0 then (none) else (some (Int.tmod bt119.1 a1, bt119.2.1, bt119.2.2)))) else ((spec_l01Byte.f s0_0 s0_1 s0_2).bind fun bt122 => ((spec_l01Byte.f s0_0 bt122.2.1 bt122.2.2).bind fun bt125 => ((spec_l01Byte.f s0_0 bt125.2.1 bt125.2.2).bind fun bt128 => ((spec_l01Byte.f s0_0 bt128.2.1 bt128.2.2).bind fun bt131 => (if a1 = 0 then (none) else (some (Int.tmod (wrap64 ((wrap64 ((wrap64 ((wrap64 (bt122.1 * 16777216)) + (wrap64 (bt125.1 * 65536)))) + (wrap64 (bt128.1 * 256)))) + bt131.1)) a1, bt131.2.1, bt131.2.2))))))))) = some (r1, r2, r3) := h; clear h
 by_cases c3 : a1 ≤ 0
 ·rw [if_pos c3] at H; have c3b0 : decide (a1 ≤ 0) = true := decide_eq_true c3; clear c3; simp only [Option.some.injEq, Prod.mk.injEq] at H; obtain ⟨rfl, rfl, rfl⟩ := H
  go_enter Try.func32, Try.ntmps32
  go_wp2
  go_ret
  exact ⟨by first | rfl | (simp [errW_none, errW_some] <;> rfl) | (simp [*, errW_none, errW_some] <;> rfl), by repeat (first | (with_reducible first | exact HI0.out | apply IsS120.alloc | apply IsS120.drewN | apply IsS120.drew | apply IsS120.set_1 | apply IsS120.set_2) | exact HI0.out), gT1 (IsS120.ge HI0.out) HB, by repeat (first | (with_reducible first | exact HK.out | apply KeepBut.set_ | apply keep_drewN | apply keep_drew | apply keep_alloc) | exact HK.out)⟩
 ·rw [if_neg c3] at H; have c3b0 : decide (a1 ≤ 0) = false := decide_eq_false c3; clear c3
  by_cases c4 : a1 ≤ 256
  ·rw [if_pos c4] at H; have c4b0 : decide (a1 ≤ 256) = true := decide_eq_true c4; clear c4; replace H := Option.bind_eq_some_iff.mp H; obtain ⟨⟨t119, t120, t121⟩, A50, H⟩ := H; replace H : (if a1 = 0 then (none) else (some (Int.tmod t119 a1, t120, t121))) = some (r1, r2, r3) := H; have A5 := Aside0.mk A50; clear A50
   by_cases c6 : a1 = 0
   ·rw [if_pos c6] at H; exact absurd H (by simp)
   ·rw [if_neg c6] at H; have c6b0 : (a1 == 0) = false := beq_eq_false_iff_ne.mpr c6; have c6b1 : (a1 != 0) = true := bne_iff_ne.mpr c6; simp only [Option.some.injEq, Prod.mk.injEq] at H; obtain ⟨rfl, rfl, rfl⟩ := H
    go_enter Try.func32, Try.ntmps32
    go_wp2_with (first | ((with_reducible refine gate_callee (f := 33) rfl ?_); refine goesL_ (some 14) rfl rfl Try.func33 (by kernel_rfl) rfl #[.pointer (some ⟨g, 0, none⟩)] rfl (by (try simp only [List.map_toArray, List.map_cons, List.map_nil]); first | done | rfl) ?_; (with_reducible refine (spec_l01Byte.calls g s0_0 s0_1 s0_2 t119 t120 t121 w0 _ ?side1 ?side2 A5.out).mono ?_); (case side1 => repeat (first | (with_reducible first | exact HI0.out | apply IsS120.alloc | apply IsS120.drewN | apply IsS120.drew | apply IsS120.set_1 | apply IsS120.set_2) | exact HI0.out)); (case side2 => repeat (first | (with_reducible first | exact HB.out | apply below_alloc | apply pw_below_drewN | apply below_drew1 | refine below_set ?_ (IsS120.ge HI0.out)) | exact HB.out)); rintro e w7 ⟨rfl, hi, hb, hk⟩; refine ⟨_, rfl, ?_⟩; replace HK := Aside0.mk (KeepBut.trans (by repeat (first | (with_reducible first | exact HK.out | apply KeepBut.set_ | apply keep_drewN | apply keep_drew | apply keep_alloc) | exact HK.out)) hk (.inl rfl)); replace HB := Aside0.mk (hb); replace HI0 := Aside0.mk (hi); (try clear hb); (try clear hb2); (try clear hk); (try clear hi)))
    go_ret
    exact ⟨by first | rfl | (simp [errW_none, errW_some] <;> rfl) | (simp [*, errW_none, errW_some] <;> rfl), by repeat (first | (with_reducible first | exact HI0.out | apply IsS120.alloc | apply IsS120.drewN | apply IsS120.drew | apply IsS120.set_1 | apply IsS120.set_2) | exact HI0.out), gT1 (IsS120.ge HI0.out) HB, by repeat (first | (with_reducible first | exact HK.out | apply KeepBut.set_ | apply keep_drewN | apply keep_drew | apply keep_alloc) | exact HK.out)⟩
  ·rw [if_neg c4] at H; have c4b0 : decide (a1 ≤ 256) = false := decide_eq_false c4; clear c4; replace H := Option.bind_eq_some_iff.mp H; obtain ⟨⟨t122, t123, t124⟩, A80, H⟩ := H; replace H : ((spec_l01Byte.f s0_0 t123 t124).bind fun bt125 => ((spec_l01Byte.f s0_0 bt125.2.1 bt125.2.2).bind fun bt128 => ((spec_l01Byte.f s0_0 bt128.2.1 bt128.2.2).bind fun bt131 => (if a1 = 0 then (none) else (some (Int.tmod (wrap64 ((wrap64 ((wrap64 ((wrap64 (t122 * 16777216)) + (wrap64 (bt125.1 * 65536)))) + (wrap64 (bt128.1 * 256)))) + bt131.1)) a1, bt131.2.1, bt131.2.2)))))) = some (r1, r2, r3) := H; have A8 := Aside0.mk A80; clear A80; replace H := Option.bind_eq_some_iff.mp H; obtain ⟨⟨t125, t126, t127⟩, A90, H⟩ := H; replace H : ((spec_l01Byte.f s0_0 t126 t127).bind fun bt128 => ((spec_l01Byte.f s0_0 bt128.2.1 bt128.2.2).bind fun bt131 => (if a1 = 0 then (none) else (some (Int.tmod (wrap64 ((wrap64 ((wrap64 ((wrap64 (t122 * 16777216)) + (wrap64 (t125 * 65536)))) + (wrap64 (bt128.1 * 256)))) + bt131.1)) a1, bt131.2.1, bt131.2.2))))) = some (r1, r2, r3) := H; have A9 := Aside0.mk A90; clear A90; replace H := Option.bind_eq_some_iff.mp H; obtain ⟨⟨t128, t129, t130⟩, A100, H⟩ := H; replace H : ((spec_l01Byte.f s0_0 t129 t130).bind fun bt131 => (if a1 = 0 then (none) else (some (Int.tmod (wrap64 ((wrap64 ((wrap64 ((wrap64 (t122 * 16777216)) + (wrap64 (t125 * 65536)))) + (wrap64 (t128 * 256)))) + bt131.1)) a1, bt131.2.1, bt131.2.2)))) = some (r1, r2, r3) := H; have A10 := Aside0.mk A100; clear A100; replace H := Option.bind_eq_some_iff.mp H; obtain ⟨⟨t131, t132, t133⟩, A110, H⟩ := H
   replace H : (if a1 = 0 then (none) else (some (Int.tmod (wrap64 ((wrap64 ((wrap64 ((wrap64 (t122 * 16777216)) + (wrap64 (t125 * 65536)))) + (wrap64 (t128 * 256)))) + t131)) a1, t132, t133))) = some (r1, r2, r3) := H; have A11 := Aside0.mk A110; clear A110
   by_cases c12 : a1 = 0
   ·rw [if_pos c12] at H; exact absurd H (by simp)
   ·rw [if_neg c12] at H; have c12b0 : (a1 == 0) = false := beq_eq_false_iff_ne.mpr c12; have c12b1 : (a1 != 0) = true := bne_iff_ne.mpr c12; simp only [Option.some.injEq, Prod.mk.injEq] at H; obtain ⟨rfl, rfl, rfl⟩ := H
    go_enter Try.func32, Try.ntmps32
    go_wp2_with (first | ((with_reducible refine gate_callee (f := 33) rfl ?_); refine goesL_ (some 18) rfl rfl Try.func33 (by kernel_rfl) rfl #[.pointer (some ⟨g, 0, none⟩)] rfl (by (try simp only [List.map_toArray, List.map_cons, List.map_nil]); first | done | rfl) ?_; (with_reducible refine (spec_l01Byte.calls g s0_0 s0_1 s0_2 t122 t123 t124 w0 _ ?side1 ?side2 A8.out).mono ?_); (case side1 => repeat (first | (with_reducible first | exact HI0.out | apply IsS120.alloc | apply IsS120.drewN | apply IsS120.drew | apply IsS120.set_1 | apply IsS120.set_2) | exact HI0.out)); (case side2 => repeat (first | (with_reducible first | exact HB.out | apply below_alloc | apply pw_below_drewN | apply below_drew1 | refine below_set ?_ (IsS120.ge HI0.out)) | exact HB.out)); rintro e w13 ⟨rfl, hi, hb, hk⟩; refine ⟨_, rfl, ?_⟩; replace HK := Aside0.mk (KeepBut.trans (by repeat (first | (with_reducible first | exact HK.out | apply KeepBut.set_ | apply keep_drewN | apply keep_drew | apply keep_alloc) | exact HK.out)) hk (.inl rfl)); replace HB := Aside0.mk (hb); replace HI0 := Aside0.mk (hi); (try clear hb); (try clear hb2); (try clear hk); (try clear hi)) | ((with_reducible refine gate_callee (f := 33) rfl ?_); refine goesL_ (some 20) rfl rfl Try.func33 (by kernel_rfl) rfl #[.pointer (some ⟨g, 0, none⟩)] rfl (by (try simp only [List.map_toArray, List.map_cons, List.map_nil]); first | done | rfl) ?_; (with_reducible refine (spec_l01Byte.calls g s0_0 t123 t124 t125 t126 t127 w0 _ ?side1 ?side2 A9.out).mono ?_); (case side1 => repeat (first | (with_reducible first | exact HI0.out | apply IsS120.alloc | apply IsS120.drewN | apply IsS120.drew | apply IsS120.set_1 | apply IsS120.set_2) | exact HI0.out)); (case side2 => repeat (first | (with_reducible first | exact HB.out | apply below_alloc | apply pw_below_drewN | apply below_drew1 | refine below_set ?_ (IsS120.ge HI0.out)) | exact HB.out)); rintro e w14 ⟨rfl, hi, hb, hk⟩; refine ⟨_, rfl, ?_⟩; replace HK := Aside0.mk (KeepBut.trans (by repeat (first | (with_reducible first | exact HK.out | apply KeepBut.set_ | apply keep_drewN | apply keep_drew | apply keep_alloc) | exact HK.out)) hk (.inl rfl)); replace HB := Aside0.mk (hb); replace HI0 := Aside0.mk (hi); (try clear hb); (try clear hb2); (try clear hk); (try clear hi)) | ((with_reducible refine gate_callee (f := 33) rfl ?_); refine goesL_ (some 22) rfl rfl Try.func33 (by kernel_rfl) rfl #[.pointer (some ⟨g, 0, none⟩)] rfl (by (try simp only [List.map_toArray, List.map_cons, List.map_nil]); first | done | rfl) ?_; (with_reducible refine (spec_l01Byte.calls g s0_0 t126 t127 t128 t129 t130 w0 _ ?side1 ?side2 A10.out).mono ?_); (case side1 => repeat (first | (with_reducible first | exact HI0.out | apply IsS120.alloc | apply IsS120.drewN | apply IsS120.drew | apply IsS120.set_1 | apply IsS120.set_2) | exact HI0.out)); (case side2 => repeat (first | (with_reducible first | exact HB.out | apply below_alloc | apply pw_below_drewN | apply below_drew1 | refine below_set ?_ (IsS120.ge HI0.out)) | exact HB.out)); rintro e w15 ⟨rfl, hi, hb, hk⟩; refine ⟨_, rfl, ?_⟩; replace HK := Aside0.mk (KeepBut.trans (by repeat (first | (with_reducible first | exact HK.out | apply KeepBut.set_ | apply keep_drewN | apply keep_drew | apply keep_alloc) | exact HK.out)) hk (.inl rfl)); replace HB := Aside0.mk (hb); replace HI0 := Aside0.mk (hi); (try clear hb); (try clear hb2); (try clear hk); (try clear hi)) | ((with_reducible refine gate_callee (f := 33) rfl ?_); refine goesL_ (some 24) rfl rfl Try.func33 (by kernel_rfl) rfl #[.pointer (some ⟨g, 0, none⟩)] rfl (by (try simp only [List.map_toArray, List.map_cons, List.map_nil]); first | done | rfl) ?_; (with_reducible refine (spec_l01Byte.calls g s0_0 t129 t130 t131 t132 t133 w0 _ ?side1 ?side2 A11.out).mono ?_); (case side1 => repeat (first | (with_reducible first | exact HI0.out | apply IsS120.alloc | apply IsS120.drewN | apply IsS120.drew | apply IsS120.set_1 | apply IsS120.set_2) | exact HI0.out)); (case side2 => repeat (first | (with_reducible first | exact HB.out | apply below_alloc | apply pw_below_drewN | apply below_drew1 | refine below_set ?_ (IsS120.ge HI0.out)) | exact HB.out)); rintro e w16 ⟨rfl, hi, hb, hk⟩; refine ⟨_, rfl, ?_⟩; replace HK := Aside0.mk (KeepBut.trans (by repeat (first | (with_reducible first | exact HK.out | apply KeepBut.set_ | apply keep_drewN | apply keep_drew | apply keep_alloc) | exact HK.out)) hk (.inl rfl)); replace HB := Aside0.mk (hb); replace HI0 := Aside0.mk (hi); (try clear hb); (try clear hb2); (try clear hk); (try clear hi)))
    go_ret
    exact ⟨by first | rfl | (simp [errW_none, errW_some] <;> rfl) | (simp [*, errW_none, errW_some] <;> rfl), by repeat (first | (with_reducible first | exact HI0.out | apply IsS120.alloc | apply IsS120.drewN | apply IsS120.drew | apply IsS120.set_1 | apply IsS120.set_2) | exact HI0.out), gT1 (IsS120.ge HI0.out) HB, by repeat (first | (with_reducible first | exact HK.out | apply KeepBut.set_ | apply keep_drewN | apply keep_drew | apply keep_alloc) | exact HK.out)⟩
def spec_l01PickInt.f (s0_0 : List Int) (s0_1 : Int) (s0_2 : Int) (l1 : List Int) : Option (Int × Int × Int) := (spec_l01Below.f s0_0 s0_1 s0_2 (l1.length : Int)).bind fun bt134 => (if 0 ≤ bt134.1 then (if bt134.1 < (l1.length : Int) then (some (rd l1 bt134.1, bt134.2.1, bt134.2.2)) else (none)) else (none))
set_option maxHeartbeats 8000000 in
set_option maxRecDepth 100000 in
theorem spec_l01PickInt.calls (g : Nat) (s0_0 : List Int) (s0_1 : Int) (s0_2 : Int) (A1 : Option Addr) (c1 : Nat) (l1 : List Int) (r1 : Int) (r2 : Int) (r3 : Int) (w0 w : World) (hI : IsS120 w0 w g s0_0 s0_1 s0_2) (hB : Below w0.heap.size w0 w) (hr1 : Kd.C (Kd.int .i64) w A1 l1.length l1) (hc1 : l1.length ≤ c1) (hf1 : ∀ ad, A1 = some ad → 0 < l1.length → ad.block ≠ g) (h : spec_l01PickInt.f s0_0 s0_1 s0_2 l1 = some (r1, r2, r3)) :
    Calls Try.prog 85 #[.pointer (some ⟨g, 0, none⟩), .slice A1 l1.length c1] w fun e w' => e = .returned (.int .i64 r1) ∧ IsS120 w0 w' g s0_0 r2 r3 ∧ Below w0.heap.size w0 w' ∧ KeepBut w w' g none := by
  have HR1 := Aside0.mk hr1
  have HC1 := Aside0.mk hc1
  clear hr1 hc1
  have HI0 := Aside0.mk hI
  have HK := Aside0.mk (KeepBut.refl w g none)
  have HL := Aside0.mk hB.size
  clear hI
  have HW0 := Aside0.mk hB.size
  have HB := Aside0.mk hB
  clear hB
  have H : ((spec_l01Below.f s0_0 s0_1 s0_2 (l1.length : Int)).bind fun bt134 => (if 0 ≤ bt134.1 then (if bt134.1 < (l1.length : Int) then (some (rd l1 bt134.1, bt134.2.1, bt134.2.2)) else (none)) else (none))) = some (r1, r2, r3) := h
  clear h
  replace H := Option.bind_eq_some_iff.mp H
  obtain ⟨⟨t134, t135, t136⟩, A30, H⟩ := H
  replace H : (if 0 ≤ t134 then (if t134 < (l1.length : Int) then (some (rd l1 t134, t135, t136)) else (none)) else (none)) = some (r1, r2, r3) := H
  have A3 := Aside0.mk A30
  clear A30
  by_cases c4 : 0 ≤ t134
  · rw [if_pos c4] at H
    have c4b0 : decide (0 ≤ t134) = true := decide_eq_true c4
    clear c4
    by_cases c5 : t134 < (l1.length : Int)
    · rw [if_pos c5] at H
      have c5b0 : decide (t134 < (l1.length : Int)) = true := decide_eq_true c5
      clear c5
      simp only [Option.some.injEq, Prod.mk.injEq] at H
      obtain ⟨rfl, rfl, rfl⟩ := H
      go_enter Try.func85, Try.ntmps85
      go_wp2_with (first | ((with_reducible refine gate_callee (f := 32) rfl ?_); refine goesL_ (some 9) rfl rfl Try.func32 (by kernel_rfl) rfl #[.pointer (some ⟨g, 0, none⟩), .int .i64 (l1.length : Int)] rfl (by (try simp only [List.map_toArray, List.map_cons, List.map_nil]); first | done | rfl | (simp only [List.length_drop, List.length_take]; rfl)) ?_; (with_reducible refine (spec_l01Below.calls g s0_0 s0_1 s0_2 (l1.length : Int) t134 t135 t136 w0 _ ?side1 ?side2 A3.out).mono ?_); (case side1 => repeat (first | (with_reducible first | exact HI0.out | apply IsS120.alloc | apply IsS120.drewN | apply IsS120.drew | apply IsS120.set_1 | apply IsS120.set_2) | exact HI0.out)); (case side2 => repeat (first | (with_reducible first | exact HB.out | apply below_alloc | apply pw_below_drewN | apply below_drew1 | refine below_set ?_ (IsS120.ge HI0.out)) | exact HB.out)); rintro e w6 ⟨rfl, hi, hb, hk⟩; refine ⟨_, rfl, ?_⟩; have n0_ := Aside0.mk (KeepBut.trans (by repeat (first | (with_reducible first | exact HK.out | apply KeepBut.set_ | apply keep_drewN | apply keep_drew | apply keep_alloc) | exact HK.out)) hk (.inl rfl)); have n1_ := Aside0.mk (hb); have n2_ := Aside0.mk (hi); clear HK; clear HB; clear HI0; have HK := n0_; have HB := n1_; have HI0 := n2_; clear n0_ n1_ n2_; (try clear hb); (try clear hb2); (try clear hk); (try clear hi); have p137 : 0 ≤ (t134 : Int) := of_decide_eq_true (by first | (with_reducible assumption) | assumption); have q137 : t134 < (l1.length : Int) := of_decide_eq_true (by first | (with_reducible assumption) | assumption); obtain ⟨ad137, e137, hx137_0⟩ := Kd.at_int HR1.out t134 p137 q137; cases e137; replace hx137_0 := keep_cell HK.out hx137_0 (by first | (rw [add_block]; exact hf1 _ rfl (by omega)) | exact hf1 _ rfl (by omega) | exact hf1 ad137 rfl (by omega)); replace p137 := eq_true p137; replace q137 := eq_true q137))
      go_ret
      exact ⟨by first | rfl | (simp [errW_none, errW_some] <;> rfl) | (simp [*, errW_none, errW_some] <;> rfl), by repeat (first | (with_reducible first | exact HI0.out | apply IsS120.alloc | apply IsS120.drewN | apply IsS120.drew | apply IsS120.set_1 | apply IsS120.set_2) | exact HI0.out), by repeat (first | (with_reducible first | exact HB.out | apply below_alloc | apply pw_below_drewN | apply below_drew1 | refine below_set ?_ (IsS120.ge HI0.out)) | exact HB.out), by repeat (first | (with_reducible first | exact HK.out | apply KeepBut.set_ | apply keep_drewN | apply keep_drew | apply keep_alloc) | exact HK.out)⟩
    · rw [if_neg c5] at H
      exact absurd H (by simp)
  · rw [if_neg c4] at H
    exact absurd H (by simp)
def spec_l01Once.f (s0_0 : List Int) (s0_1 : Int) (s0_2 : Int) (a1 : Int) : Option (Bool × Int × Int) := (spec_l01Below.f s0_0 s0_1 s0_2 a1).bind fun bt941 => (some ((bt941.1 == 0), bt941.2.1, bt941.2.2))
set_option maxHeartbeats 8000000 in
set_option maxRecDepth 100000 in
theorem spec_l01Once.calls (g : Nat) (s0_0 : List Int) (s0_1 : Int) (s0_2 : Int) (a1 : Int) (r1 : Bool) (r2 : Int) (r3 : Int) (w0 w : World) (hI : IsS120 w0 w g s0_0 s0_1 s0_2) (hB : Below w0.heap.size w0 w) (h : spec_l01Once.f s0_0 s0_1 s0_2 a1 = some (r1, r2, r3)) :
    Calls Try.prog 120 #[.pointer (some ⟨g, 0, none⟩), .int .i64 a1] w fun e w' => e = .returned (.bool r1) ∧ IsS120 w0 w' g s0_0 r2 r3 ∧ Below w0.heap.size w0 w' ∧ KeepBut w w' g none := by
  have HI0 := Aside0.mk hI
  have HK := Aside0.mk (KeepBut.refl w g none)
  have HL := Aside0.mk hB.size
  clear hI
  have HW0 := Aside0.mk hB.size
  have HB := Aside0.mk hB
  clear hB
  have H : ((spec_l01Below.f s0_0 s0_1 s0_2 a1).bind fun bt941 => (some ((bt941.1 == 0), bt941.2.1, bt941.2.2))) = some (r1, r2, r3) := h
  clear h
  replace H := Option.bind_eq_some_iff.mp H
  obtain ⟨⟨t941, t942, t943⟩, A30, H⟩ := H
  replace H : (some ((t941 == 0), t942, t943)) = some (r1, r2, r3) := H
  have A3 := Aside0.mk A30
  clear A30
  simp only [Option.some.injEq, Prod.mk.injEq] at H
  obtain ⟨rfl, rfl, rfl⟩ := H
  go_enter Try.func120, Try.ntmps120
  go_wp2_with (first | ((with_reducible refine gate_callee (f := 32) rfl ?_); refine goesL_ (some 7) rfl rfl Try.func32 (by kernel_rfl) rfl #[.pointer (some ⟨g, 0, none⟩), .int .i64 a1] rfl (by (try simp only [List.map_toArray, List.map_cons, List.map_nil]); first | done | rfl | (simp only [List.length_drop, List.length_take]; rfl)) ?_; (with_reducible refine (spec_l01Below.calls g s0_0 s0_1 s0_2 a1 t941 t942 t943 w0 _ ?side1 ?side2 A3.out).mono ?_); (case side1 => repeat (first | (with_reducible first | exact HI0.out | apply IsS120.alloc | apply IsS120.drewN | apply IsS120.drew | apply IsS120.set_1 | apply IsS120.set_2) | exact HI0.out)); (case side2 => repeat (first | (with_reducible first | exact HB.out | apply below_alloc | apply pw_below_drewN | apply below_drew1 | refine below_set ?_ (IsS120.ge HI0.out)) | exact HB.out)); rintro e w4 ⟨rfl, hi, hb, hk⟩; refine ⟨_, rfl, ?_⟩; have n0_ := Aside0.mk (KeepBut.trans (by repeat (first | (with_reducible first | exact HK.out | apply KeepBut.set_ | apply keep_drewN | apply keep_drew | apply keep_alloc) | exact HK.out)) hk (.inl rfl)); have n1_ := Aside0.mk (hb); have n2_ := Aside0.mk (hi); clear HK; clear HB; clear HI0; have HK := n0_; have HB := n1_; have HI0 := n2_; clear n0_ n1_ n2_; (try clear hb); (try clear hb2); (try clear hk); (try clear hi)))
  go_ret
  exact ⟨by first | rfl | (simp [errW_none, errW_some] <;> rfl) | (simp [*, errW_none, errW_some] <;> rfl), by repeat (first | (with_reducible first | exact HI0.out | apply IsS120.alloc | apply IsS120.drewN | apply IsS120.drew | apply IsS120.set_1 | apply IsS120.set_2) | exact HI0.out), by repeat (first | (with_reducible first | exact HB.out | apply below_alloc | apply pw_below_drewN | apply below_drew1 | refine below_set ?_ (IsS120.ge HI0.out)) | exact HB.out), by repeat (first | (with_reducible first | exact HK.out | apply KeepBut.set_ | apply keep_drewN | apply keep_drew | apply keep_alloc) | exact HK.out)⟩
def spec_l01Place.f (s0_0 : List Int) (s0_1 : Int) (s0_2 : Int) (a1 : Int) : Option (Int × Int × Int) := (spec_l01Once.f s0_0 s0_1 s0_2 15).bind fun bt944 => (if bt944.1 = true then ((spec_l01PickInt.f s0_0 bt944.2.1 bt944.2.2 (([(-1), a1, wrap64 (a1 + 1), 9223372036854775807, (-9223372036854775808)] : List Int))).bind fun bt950 => (some (bt950.1, bt950.2.1, bt950.2.2))) else ((spec_l01Below.f s0_0 bt944.2.1 bt944.2.2 a1).bind fun bt953 => (some (bt953.1, bt953.2.1, bt953.2.2))))
set_option maxHeartbeats 8000000 in
set_option maxRecDepth 100000 in
theorem spec_l01Place.calls (g : Nat) (s0_0 : List Int) (s0_1 : Int) (s0_2 : Int) (a1 : Int) (r1 : Int) (r2 : Int) (r3 : Int) (w0 w : World) (hI : IsS120 w0 w g s0_0 s0_1 s0_2) (hB : Below w0.heap.size w0 w) (h : spec_l01Place.f s0_0 s0_1 s0_2 a1 = some (r1, r2, r3)) :
  Calls Try.prog 86 #[.pointer (some ⟨g, 0, none⟩), .int .i64 a1] w fun e w' => e = .returned (.int .i64 r1) ∧ IsS120 w0 w' g s0_0 r2 r3 ∧ Below w0.heap.size w0 w' ∧ KeepBut w w' g none := by
 have HI0 := Aside0.mk hI; have HK := Aside0.mk (KeepBut.refl w g none); have HL := Aside0.mk hB.size; clear hI; have HW0 := Aside0.mk hB.size; have HB := Aside0.mk hB; clear hB; have H : ((spec_l01Once.f s0_0 s0_1 s0_2 15).bind fun bt944 => (if bt944.1 = true then ((spec_l01PickInt.f s0_0 bt944.2.1 bt944.2.2 (([(-1), a1, wrap64 (a1 + 1), 9223372036854775807, (-9223372036854775808)] : List Int))).bind fun bt950 => (some (bt950.1, bt950.2.1, bt950.2.2))) else ((spec_l01Below.f s0_0 bt944.2.1 bt944.2.2 a1).bind fun bt953 => (some (bt953.1, bt953.2.1, bt953.2.2))))) = some (r1, r2, r3) := h; clear h; replace H := Option.bind_eq_some_iff.mp H; obtain ⟨⟨t944, t945, t946⟩, A30, H⟩ := H; replace H : (if t944 = true then ((spec_l01PickInt.f s0_0 t945 t946 (([(-1), a1, wrap64 (a1 + 1), 9223372036854775807, (-9223372036854775808)] : List Int))).bind fun bt950 => (some (bt950.1, bt950.2.1, bt950.2.2))) else ((spec_l01Below.f s0_0 t945 t946 a1).bind fun bt953 => (some (bt953.1, bt953.2.1, bt953.2.2)))) = some (r1, r2, r3) := H; have A3 := Aside0.mk A30; clear A30
 by_cases c4 : t944 = true
 ·subst c4
  have H1 : ((spec_l01PickInt.f s0_0 t945 t946 (([(-1), a1, wrap64 (a1 + 1), 9223372036854775807, (-9223372036854775808)] : List Int))).bind fun bt950 => (some (bt950.1, bt950.2.1, bt950.2.2))) = some (r1, r2, r3) := by rw [if_pos rfl] at H; exact H
  clear H; have H := H1; clear H1
  obtain ⟨y947, hy947⟩ : ∃ y_ : List Int, y_ = (([(-1), a1, wrap64 (a1 + 1), 9223372036854775807, (-9223372036854775808)] : List Int)) := ⟨_, rfl⟩
  replace H : ((spec_l01PickInt.f s0_0 t945 t946 y947).bind fun bt950 => (some (bt950.1, bt950.2.1, bt950.2.2))) = some (r1, r2, r3) := by first | (rw [hy947]; with_reducible exact H) | (have H2_ := (Option.bind_some _ _).symm.trans H; rw [hy947]; with_reducible exact H2_) | (have H2_ := (Option.bind_some _ _).symm.trans H; with_reducible exact H2_) | with_reducible exact H | (rw [hy947]; exact H) | exact H
  have Ny947 := Aside0.mk hy947; clear hy947; replace H := Option.bind_eq_some_iff.mp H; obtain ⟨⟨t950, t951, t952⟩, A50, H⟩ := H; replace H : (some (t950, t951, t952)) = some (r1, r2, r3) := H; have A5 := Aside0.mk A50; clear A50; simp only [Option.some.injEq, Prod.mk.injEq] at H; obtain ⟨rfl, rfl, rfl⟩ := H
  go_enter Try.func86, Try.ntmps86
  go_wp2_with (first | ((with_reducible refine gate_callee (f := 120) rfl ?_); refine goesL_ (some 6) rfl rfl Try.func120 (by kernel_rfl) rfl #[.pointer (some ⟨g, 0, none⟩), .int .i64 15] rfl (by (try simp only [List.map_toArray, List.map_cons, List.map_nil]); first | done | rfl) ?_; (with_reducible refine (spec_l01Once.calls g s0_0 s0_1 s0_2 15 true t945 t946 w0 _ ?side1 ?side2 A3.out).mono ?_); (case side1 => repeat (first | (with_reducible first | exact HI0.out | apply IsS120.alloc | apply IsS120.drewN | apply IsS120.drew | apply IsS120.set_1 | apply IsS120.set_2) | exact HI0.out)); (case side2 => repeat (first | (with_reducible first | exact HB.out | apply below_alloc | apply pw_below_drewN | apply below_drew1 | refine below_set ?_ (IsS120.ge HI0.out)) | exact HB.out)); rintro e w6 ⟨rfl, hi, hb, hk⟩; refine ⟨_, rfl, ?_⟩; replace HK := Aside0.mk (KeepBut.trans (by repeat (first | (with_reducible first | exact HK.out | apply KeepBut.set_ | apply keep_drewN | apply keep_drew | apply keep_alloc) | exact HK.out)) hk (.inl rfl)); replace HB := Aside0.mk (hb); replace HI0 := Aside0.mk (hi); (try clear hb); (try clear hb2); (try clear hk); (try clear hi)) | ((with_reducible refine gate_dst (N := 11) rfl ?_); refine Kd.R_lit (Kd.int .i64) _ 3 ?hg (N := 11) ?hd (xs := ([(-1), a1, wrap64 (a1 + 1), 9223372036854775807, (-9223372036854775808)] : List Int)) (inner := [.int .i64 (-1), .int .i64 a1, .int .i64 (wrap64 (a1 + 1)), .int .i64 9223372036854775807, .int .i64 (-9223372036854775808)]) (ok := fun _ => True) (okp := fun _ => True) ?hr ?hp (fun _ hk => hk) trivial (Below.refl _ _) (Nat.le_refl _) (by simp) ?_; (case hd => rfl); (case hg => rfl); (case hr => first | (go_simp; done) | (go_simp; rfl)); (case hp => exact (Reps.one (show Kd.M (Kd.int .i64) _ _ _ (-1) [.int .i64 (-1)] from rfl) (Reps.one (show Kd.M (Kd.int .i64) _ _ _ a1 [.int .i64 a1] from rfl) (Reps.one (show Kd.M (Kd.int .i64) _ _ _ (wrap64 (a1 + 1)) [.int .i64 (wrap64 (a1 + 1))] from rfl) (Reps.one (show Kd.M (Kd.int .i64) _ _ _ 9223372036854775807 [.int .i64 9223372036854775807] from rfl) (Reps.one (show Kd.M (Kd.int .i64) _ _ _ (-9223372036854775808) [.int .i64 (-9223372036854775808)] from rfl) (Reps.none _ _))))))); intro v948 w7 ho8 hb hg_ hnew_; clear hg_ hnew_; (first | rw [← Ny947.out] at ho8 | (simp only [Int.reduceToNat] at ho8; rw [← Ny947.out] at ho8)); have HO949 := Aside0.mk (Kd.R_lower ho8 (keep_size (w := w) (g := g) (row := none) (by repeat (first | (with_reducible first | exact HK.out | apply KeepBut.set_ | apply keep_drewN | apply keep_drew | apply keep_alloc) | exact HK.out)))); replace HK := Aside0.mk (KeepBut.trans (by repeat (first | (with_reducible first | exact HK.out | apply KeepBut.set_ | apply keep_drewN | apply keep_drew | apply keep_alloc) | exact HK.out)) (KeepBut.of_below hb g none) (.inl rfl)); replace HB := Aside0.mk (below_step (gT1 (IsS120.ge HI0.out) HB) hb); replace HI0 := Aside0.mk (IsS120.below (by repeat (first | (with_reducible first | exact HI0.out | apply IsS120.alloc | apply IsS120.drewN | apply IsS120.drew | apply IsS120.set_1 | apply IsS120.set_2) | exact HI0.out)) hb); clear hb ho8; obtain ⟨Ao9, co9, eo9⟩ := Kd.R_slice HO949.out; subst eo9) | ((with_reducible refine gate_callee (f := 85) rfl ?_); refine goesL_ (some 12) rfl rfl Try.func85 (by kernel_rfl) rfl #[.pointer (some ⟨g, 0, none⟩), .slice Ao9 y947.length co9] rfl (by (try simp only [List.map_toArray, List.map_cons, List.map_nil]); first | done | rfl) ?_; (with_reducible refine (spec_l01PickInt.calls g s0_0 t945 t946 _ _ y947 t950 t951 t952 w0 _ ?side1 ?side2 ?side3 ?side4 ?side5 A5.out).mono ?_); (case side1 => repeat (first | (with_reducible first | exact HI0.out | apply IsS120.alloc | apply IsS120.drewN | apply IsS120.drew | apply IsS120.set_1 | apply IsS120.set_2) | exact HI0.out)); (case side2 => repeat (first | (with_reducible first | exact HB.out | apply below_alloc | apply pw_below_drewN | apply below_drew1 | refine below_set ?_ (IsS120.ge HI0.out)) | exact HB.out)); (case side3 => repeat (first | exact (Kd.R_reads' HO949.out).2.2 | (with_reducible refine Kd.C_alloc ?_ _) | (with_reducible refine Kd.C_drewN ?_ _) | (with_reducible refine Kd.C_drew ?_))); (case side4 => exact (Kd.R_reads' HO949.out).2.1); (case side5 => exact far_slice (IsS120.own_ne HI0.out HO949.out (by decide))); rintro e w10 ⟨rfl, hi, hb, hk⟩; refine ⟨_, rfl, ?_⟩; replace HO949 := Aside0.mk (Kd.R_mono (Kd.R_keep (IsS120.apart (show IsS120 w0 _ g s0_0 t945 t946 from by repeat (first | (with_reducible first | exact HI0.out | apply IsS120.alloc | apply IsS120.drewN | apply IsS120.drew | apply IsS120.set_1 | apply IsS120.set_2) | exact HI0.out)) (gR HO949) (by decide)) hk (fun _ h => h.2)) (fun _ h => h.1)); replace HK := Aside0.mk (KeepBut.trans (by repeat (first | (with_reducible first | exact HK.out | apply KeepBut.set_ | apply keep_drewN | apply keep_drew | apply keep_alloc) | exact HK.out)) hk (.inl rfl)); replace HB := Aside0.mk (hb); replace HI0 := Aside0.mk (hi); (try clear hb); (try clear hb2); (try clear hk); (try clear hi)))
  go_ret
  exact ⟨by first | rfl | (simp [errW_none, errW_some] <;> rfl) | (simp [*, errW_none, errW_some] <;> rfl), by repeat (first | (with_reducible first | exact HI0.out | apply IsS120.alloc | apply IsS120.drewN | apply IsS120.drew | apply IsS120.set_1 | apply IsS120.set_2) | exact HI0.out), gT1 (IsS120.ge HI0.out) HB, by repeat (first | (with_reducible first | exact HK.out | apply KeepBut.set_ | apply keep_drewN | apply keep_drew | apply keep_alloc) | exact HK.out)⟩
 ·replace c4 := Bool.eq_false_iff.mpr c4; subst c4
  have H1 : ((spec_l01Below.f s0_0 t945 t946 a1).bind fun bt953 => (some (bt953.1, bt953.2.1, bt953.2.2))) = some (r1, r2, r3) := by rw [if_neg (show ¬ (false = true) by decide)] at H; exact H
  clear H; have H := H1; clear H1; replace H := Option.bind_eq_some_iff.mp H; obtain ⟨⟨t953, t954, t955⟩, A110, H⟩ := H; replace H : (some (t953, t954, t955)) = some (r1, r2, r3) := H; have A11 := Aside0.mk A110; clear A110; simp only [Option.some.injEq, Prod.mk.injEq] at H; obtain ⟨rfl, rfl, rfl⟩ := H
  go_enter Try.func86, Try.ntmps86
  go_wp2_with (first | ((with_reducible refine gate_callee (f := 120) rfl ?_); refine goesL_ (some 6) rfl rfl Try.func120 (by kernel_rfl) rfl #[.pointer (some ⟨g, 0, none⟩), .int .i64 15] rfl (by (try simp only [List.map_toArray, List.map_cons, List.map_nil]); first | done | rfl) ?_; (with_reducible refine (spec_l01Once.calls g s0_0 s0_1 s0_2 15 false t945 t946 w0 _ ?side1 ?side2 A3.out).mono ?_); (case side1 => repeat (first | (with_reducible first | exact HI0.out | apply IsS120.alloc | apply IsS120.drewN | apply IsS120.drew | apply IsS120.set_1 | apply IsS120.set_2) | exact HI0.out)); (case side2 => repeat (first | (with_reducible first | exact HB.out | apply below_alloc | apply pw_below_drewN | apply below_drew1 | refine below_set ?_ (IsS120.ge HI0.out)) | exact HB.out)); rintro e w12 ⟨rfl, hi, hb, hk⟩; refine ⟨_, rfl, ?_⟩; replace HK := Aside0.mk (KeepBut.trans (by repeat (first | (with_reducible first | exact HK.out | apply KeepBut.set_ | apply keep_drewN | apply keep_drew | apply keep_alloc) | exact HK.out)) hk (.inl rfl)); replace HB := Aside0.mk (hb); replace HI0 := Aside0.mk (hi); (try clear hb); (try clear hb2); (try clear hk); (try clear hi)) | ((with_reducible refine gate_callee (f := 32) rfl ?_); refine goesL_ (some 15) rfl rfl Try.func32 (by kernel_rfl) rfl #[.pointer (some ⟨g, 0, none⟩), .int .i64 a1] rfl (by (try simp only [List.map_toArray, List.map_cons, List.map_nil]); first | done | rfl) ?_; (with_reducible refine (spec_l01Below.calls g s0_0 t945 t946 a1 t953 t954 t955 w0 _ ?side1 ?side2 A11.out).mono ?_); (case side1 => repeat (first | (with_reducible first | exact HI0.out | apply IsS120.alloc | apply IsS120.drewN | apply IsS120.drew | apply IsS120.set_1 | apply IsS120.set_2) | exact HI0.out)); (case side2 => repeat (first | (with_reducible first | exact HB.out | apply below_alloc | apply pw_below_drewN | apply below_drew1 | refine below_set ?_ (IsS120.ge HI0.out)) | exact HB.out)); rintro e w13 ⟨rfl, hi, hb, hk⟩; refine ⟨_, rfl, ?_⟩; replace HK := Aside0.mk (KeepBut.trans (by repeat (first | (with_reducible first | exact HK.out | apply KeepBut.set_ | apply keep_drewN | apply keep_drew | apply keep_alloc) | exact HK.out)) hk (.inl rfl)); replace HB := Aside0.mk (hb); replace HI0 := Aside0.mk (hi); (try clear hb); (try clear hb2); (try clear hk); (try clear hi)))
  go_ret
  exact ⟨by first | rfl | (simp [errW_none, errW_some] <;> rfl) | (simp [*, errW_none, errW_some] <;> rfl), by repeat (first | (with_reducible first | exact HI0.out | apply IsS120.alloc | apply IsS120.drewN | apply IsS120.drew | apply IsS120.set_1 | apply IsS120.set_2) | exact HI0.out), gT1 (IsS120.ge HI0.out) HB, by repeat (first | (with_reducible first | exact HK.out | apply KeepBut.set_ | apply keep_drewN | apply keep_drew | apply keep_alloc) | exact HK.out)⟩
def spec_DrawMachineNew.f (k : Nat) (l0 : List Int) : Option (Int × Int) := (spec_l01New.f k l0).bind fun bt956 => ((spec_l01PickInt.f bt956.1 bt956.2.1 bt956.2.2 (([8, 16, 24, 32, 0, 12, 40] : List Int))).bind fun bt963 => ((spec_l01Place.f bt956.1 bt963.2.1 bt963.2.2 17).bind fun bt966 => (some (bt963.1, bt966.1))))
set_option maxHeartbeats 8000000 in
set_option maxRecDepth 100000 in
theorem spec_DrawMachineNew.calls (k : Nat) (A0 : Option Addr) (c0 : Nat) (l0 : List Int) (r1 : Int) (r2 : Int) (w : World) (hr0 : Kd.C (Kd.int .u8) w A0 l0.length l0) (hc0 : l0.length ≤ c0) (h : spec_DrawMachineNew.f k l0 = some (r1, r2)) :
    Calls Try.prog 25 #[.slice A0 l0.length c0] w fun e w' => e = .returned (.tuple #[.int .i64 r1, .int .i64 r2]) ∧ Below w.heap.size w w' := by
  have HR0 := Aside0.mk hr0
  have HC0 := Aside0.mk hc0
  clear hr0 hc0
  have HB := Aside0.mk (Below.refl w.heap.size w)
  have H : ((spec_l01New.f k l0).bind fun bt956 => ((spec_l01PickInt.f bt956.1 bt956.2.1 bt956.2.2 (([8, 16, 24, 32, 0, 12, 40] : List Int))).bind fun bt963 => ((spec_l01Place.f bt956.1 bt963.2.1 bt963.2.2 17).bind fun bt966 => (some (bt963.1, bt966.1))))) = some (r1, r2) := h
  clear h
  replace H := Option.bind_eq_some_iff.mp H
  obtain ⟨⟨t956, t957, t958⟩, A20, H⟩ := H
  replace H : ((spec_l01PickInt.f t956 t957 t958 (([8, 16, 24, 32, 0, 12, 40] : List Int))).bind fun bt963 => ((spec_l01Place.f t956 bt963.2.1 bt963.2.2 17).bind fun bt966 => (some (bt963.1, bt966.1)))) = some (r1, r2) := H
  have A2 := Aside0.mk A20
  clear A20
  obtain ⟨y960, hy960⟩ : ∃ y_ : List Int, y_ = (([8, 16, 24, 32, 0, 12, 40] : List Int)) := ⟨_, rfl⟩
  replace H : ((spec_l01PickInt.f t956 t957 t958 y960).bind fun bt963 => ((spec_l01Place.f t956 bt963.2.1 bt963.2.2 17).bind fun bt966 => (some (bt963.1, bt966.1)))) = some (r1, r2) := by first | (rw [hy960]; with_reducible exact H) | (have H2_ := (Option.bind_some _ _).symm.trans H; rw [hy960]; with_reducible exact H2_) | (have H2_ := (Option.bind_some _ _).symm.trans H; with_reducible exact H2_) | with_reducible exact H | (rw [hy960]; exact H) | exact H
  have Ny960 := Aside0.mk hy960
  clear hy960
  replace H := Option.bind_eq_some_iff.mp H
  obtain ⟨⟨t963, t964, t965⟩, A30, H⟩ := H
  replace H : ((spec_l01Place.f t956 t964 t965 17).bind fun bt966 => (some (t963, bt966.1))) = some (r1, r2) := H
  have A3 := Aside0.mk A30
  clear A30
  replace H := Option.bind_eq_some_iff.mp H
  obtain ⟨⟨t966, t967, t968⟩, A40, H⟩ := H
  replace H : (some (t963, t966)) = some (r1, r2) := H
  have A4 := Aside0.mk A40
  clear A40
  simp only [Option.some.injEq, Prod.mk.injEq] at H
  obtain ⟨rfl, rfl⟩ := H
  go_enter Try.func25, Try.ntmps25
  go_wp2_with (first | ((with_reducible refine gate_callee (f := 29) rfl ?_); refine goesL_ (some 6) rfl rfl Try.func29 (by kernel_rfl) rfl #[.slice A0 l0.length c0] rfl (by (try simp only [List.map_toArray, List.map_cons, List.map_nil]); first | done | rfl | (simp only [List.length_drop, List.length_take]; rfl)) ?_; (with_reducible refine (spec_l01New.calls k _ _ l0 t956 t957 t958 w _ ?side1 ?side2 ?side3 A2.out).mono ?_); (case side1 => repeat (first | (with_reducible first | exact HB.out | apply below_alloc | apply pw_below_drewN | apply below_drew1) | exact HB.out)); (case side2 => exact HR0.out); (case side3 => exact HC0.out); rintro e w5 ⟨g959, rfl, hi, hb, hb2⟩; refine ⟨_, rfl, ?_⟩; have n0_ := Aside0.mk (hb); have n1_ := Aside0.mk (hi); clear HB; have HB := n0_; have HI959 := n1_; clear n0_ n1_; (try clear hb); (try clear hb2); (try clear hk); (try clear hi)) | ((with_reducible refine gate_dst (N := 8) rfl ?_); refine Kd.R_lit (Kd.int .i64) _ 3 ?hg (N := 8) ?hd (xs := ([8, 16, 24, 32, 0, 12, 40] : List Int)) (inner := [.int .i64 8, .int .i64 16, .int .i64 24, .int .i64 32, .int .i64 0, .int .i64 12, .int .i64 40]) (ok := fun _ => True) (okp := fun _ => True) ?hr ?hp (fun _ hk => hk) trivial (Below.refl _ _) (Nat.le_refl _) (by simp) ?_; (case hd => rfl); (case hg => rfl); (case hr => first | (go_simp; done) | (go_simp; rfl)); (case hp => exact (Reps.one (show Kd.M (Kd.int .i64) _ _ _ 8 [.int .i64 8] from rfl) (Reps.one (show Kd.M (Kd.int .i64) _ _ _ 16 [.int .i64 16] from rfl) (Reps.one (show Kd.M (Kd.int .i64) _ _ _ 24 [.int .i64 24] from rfl) (Reps.one (show Kd.M (Kd.int .i64) _ _ _ 32 [.int .i64 32] from rfl) (Reps.one (show Kd.M (Kd.int .i64) _ _ _ 0 [.int .i64 0] from rfl) (Reps.one (show Kd.M (Kd.int .i64) _ _ _ 12 [.int .i64 12] from rfl) (Reps.one (show Kd.M (Kd.int .i64) _ _ _ 40 [.int .i64 40] from rfl) (Reps.none _ _))))))))); intro v961 w6 ho7 hb hg_ hnew_; clear hg_ hnew_; (first | rw [← Ny960.out] at ho7 | (simp only [Int.reduceToNat] at ho7; rw [← Ny960.out] at ho7)); have n0_ := Aside0.mk (Kd.R_lower ho7 (below_size (by repeat (first | (with_reducible first | exact HB.out | apply below_alloc | apply pw_below_drewN | apply below_drew1 | refine below_set ?_ (IsS120.ge HI959.out)) | exact HB.out)))); have n1_ := Aside0.mk (IsS120.below (by repeat (first | (with_reducible first | exact HI959.out | apply IsS120.alloc | apply IsS120.drewN | apply IsS120.drew | apply IsS120.set_1 | apply IsS120.set_2) | exact HI959.out)) hb); have n2_ := Aside0.mk (below_step (by repeat (first | (with_reducible first | exact HB.out | apply below_alloc | apply pw_below_drewN | apply below_drew1 | refine below_set ?_ (IsS120.ge HI959.out)) | exact HB.out)) hb); clear HI959; clear HB; have HO962 := n0_; have HI959 := n1_; have HB := n2_; clear n0_ n1_ n2_; clear hb ho7; obtain ⟨Ao8, co8, eo8⟩ := Kd.R_slice HO962.out; subst eo8) | ((with_reducible refine gate_callee (f := 85) rfl ?_); refine goesL_ (some 9) rfl rfl Try.func85 (by kernel_rfl) rfl #[.pointer (some ⟨g959, 0, none⟩), .slice Ao8 y960.length co8] rfl (by (try simp only [List.map_toArray, List.map_cons, List.map_nil]); first | done | rfl | (simp only [List.length_drop, List.length_take]; rfl)) ?_; (with_reducible refine (spec_l01PickInt.calls g959 t956 t957 t958 _ _ y960 t963 t964 t965 w _ ?side1 ?side2 ?side3 ?side4 ?side5 A3.out).mono ?_); (case side1 => repeat (first | (with_reducible first | exact HI959.out | apply IsS120.alloc | apply IsS120.drewN | apply IsS120.drew | apply IsS120.set_1 | apply IsS120.set_2) | exact HI959.out)); (case side2 => repeat (first | (with_reducible first | exact HB.out | apply below_alloc | apply pw_below_drewN | apply below_drew1 | refine below_set ?_ (IsS120.ge HI959.out)) | exact HB.out)); (case side3 => repeat (first | exact (Kd.R_reads' HO962.out).2.2 | (with_reducible refine Kd.C_alloc ?_ _) | (with_reducible refine Kd.C_drewN ?_ _) | (with_reducible refine Kd.C_drew ?_))); (case side4 => exact (Kd.R_reads' HO962.out).2.1); (case side5 => exact far_slice (IsS120.own_ne HI959.out HO962.out (by decide))); rintro e w9 ⟨rfl, hi, hb, hk⟩; refine ⟨_, rfl, ?_⟩; have n0_ := Aside0.mk (Kd.R_mono (Kd.R_keep (IsS120.apart (show IsS120 w _ g959 t956 t957 t958 from by repeat (first | (with_reducible first | exact HI959.out | apply IsS120.alloc | apply IsS120.drewN | apply IsS120.drew | apply IsS120.set_1 | apply IsS120.set_2) | exact HI959.out)) (by (with_reducible repeat (first | apply Kd.R_alloc | apply Kd.R_drewN | apply Kd.R_drew)); exact HO962.out) (by decide)) hk (fun _ h => h.2)) (fun _ h => h.1)); have n1_ := Aside0.mk (hb); have n2_ := Aside0.mk (hi); clear HO962; clear HB; clear HI959; have HO962 := n0_; have HB := n1_; have HI959 := n2_; clear n0_ n1_ n2_; (try clear hb); (try clear hb2); (try clear hk); (try clear hi)) | ((with_reducible refine gate_callee (f := 86) rfl ?_); refine goesL_ (some 11) rfl rfl Try.func86 (by kernel_rfl) rfl #[.pointer (some ⟨g959, 0, none⟩), .int .i64 17] rfl (by (try simp only [List.map_toArray, List.map_cons, List.map_nil]); first | done | rfl | (simp only [List.length_drop, List.length_take]; rfl)) ?_; (with_reducible refine (spec_l01Place.calls g959 t956 t964 t965 17 t966 t967 t968 w _ ?side1 ?side2 A4.out).mono ?_); (case side1 => repeat (first | (with_reducible first | exact HI959.out | apply IsS120.alloc | apply IsS120.drewN | apply IsS120.drew | apply IsS120.set_1 | apply IsS120.set_2) | exact HI959.out)); (case side2 => repeat (first | (with_reducible first | exact HB.out | apply below_alloc | apply pw_below_drewN | apply below_drew1 | refine below_set ?_ (IsS120.ge HI959.out)) | exact HB.out)); rintro e w10 ⟨rfl, hi, hb, hk⟩; refine ⟨_, rfl, ?_⟩; have n0_ := Aside0.mk (Kd.R_mono (Kd.R_keep (IsS120.apart (show IsS120 w _ g959 t956 t964 t965 from by repeat (first | (with_reducible first | exact HI959.out | apply IsS120.alloc | apply IsS120.drewN | apply IsS120.drew | apply IsS120.set_1 | apply IsS120.set_2) | exact HI959.out)) (by (with_reducible repeat (first | apply Kd.R_alloc | apply Kd.R_drewN | apply Kd.R_drew)); exact HO962.out) (by decide)) hk (fun _ h => h.2)) (fun _ h => h.1)); have n1_ := Aside0.mk (hb); have n2_ := Aside0.mk (hi); clear HO962; clear HB; clear HI959; have HO962 := n0_; have HB := n1_; have HI959 := n2_; clear n0_ n1_ n2_; (try clear hb); (try clear hb2); (try clear hk); (try clear hi)))
  go_ret2
  exact ⟨by first | rfl | (simp [errW_none, errW_some] <;> rfl) | (simp [*, errW_none, errW_some] <;> rfl), by repeat (first | (with_reducible first | exact HB.out | apply below_alloc | apply pw_below_drewN | apply below_drew1 | refine below_set ?_ (IsS120.ge HI959.out)) | exact HB.out)⟩
def laws_big.f (l0 : List Int) : Option (Bool) := some (decide ((l0.length : Int) > 1048576))
set_option maxHeartbeats 8000000 in
set_option maxRecDepth 100000 in
theorem laws_big.calls (A0 : Option Addr) (c0 : Nat) (l0 : List Int) (r : Bool) (w : World) (hr0 : Kd.C (Kd.int .u8) w A0 l0.length l0) (hc0 : l0.length ≤ c0) (h : laws_big.f l0 = some r) :
    Calls Try.prog 7 #[.slice A0 l0.length c0] w fun e w' => e = .returned (.bool r) ∧ Drawn0 w w' := by
  have HR0 := Aside0.mk hr0
  have HC0 := Aside0.mk hc0
  clear hr0 hc0
  have H : (some (decide ((l0.length : Int) > 1048576))) = some r := h
  clear h
  obtain rfl := Option.some.inj H
  go_enter Try.func7, Try.ntmps7
  go_wp2
  go_ret
  exact ⟨by first | rfl | (simp; done) | (simp [*]; done), by repeat (first | exact Drawn0.refl _ | apply Drawn0.step)⟩
def spec_l01In.f (a0 : Int) (a1 : Int) (a2 : Int) : Option (Bool) := if a0 ≥ a1 then (some (decide (a0 ≤ a2))) else (some false)
set_option maxHeartbeats 8000000 in
set_option maxRecDepth 100000 in
theorem spec_l01In.calls (a0 : Int) (a1 : Int) (a2 : Int) (r : Bool) (w : World) (h : spec_l01In.f a0 a1 a2 = some r) :
    Calls Try.prog 39 #[.int .i64 a0, .int .i64 a1, .int .i64 a2] w fun e w' => e = .returned (.bool r) ∧ Drawn0 w w' := by
  have H : (if a0 ≥ a1 then (some (decide (a0 ≤ a2))) else (some false)) = some r := h
  clear h
  by_cases c4 : a0 ≥ a1
  · rw [if_pos c4] at H
    have c4b0 : decide (a1 ≤ a0) = true := decide_eq_true c4
    clear c4
    obtain rfl := Option.some.inj H
    go_enter Try.func39, Try.ntmps39
    go_wp2
    go_ret
    exact ⟨by first | rfl | (simp; done) | (simp [*]; done), by repeat (first | exact Drawn0.refl _ | apply Drawn0.step)⟩
  · rw [if_neg c4] at H
    have c4b0 : decide (a1 ≤ a0) = false := decide_eq_false c4
    clear c4
    obtain rfl := Option.some.inj H
    go_enter Try.func39, Try.ntmps39
    go_wp2
    go_ret
    exact ⟨by first | rfl | (simp; done) | (simp [*]; done), by repeat (first | exact Drawn0.refl _ | apply Drawn0.step)⟩
def spec_l02Frames.f (a0 : Int) : Option (Bool) := (spec_l01In.f a0 8 32).bind fun t104 => (if t104 = true then (some ((Int.tmod a0 8) == 0)) else (some false))
set_option maxHeartbeats 8000000 in
set_option maxRecDepth 100000 in
theorem spec_l02Frames.calls (a0 : Int) (r : Bool) (w : World) (h : spec_l02Frames.f a0 = some r) :
    Calls Try.prog 94 #[.int .i64 a0] w fun e w' => e = .returned (.bool r) ∧ Drawn0 w w' := by
  have H : ((spec_l01In.f a0 8 32).bind fun t104 => (if t104 = true then (some ((Int.tmod a0 8) == 0)) else (some false))) = some r := h
  clear h
  replace H := Option.bind_eq_some_iff.mp H
  obtain ⟨t104, A20, H⟩ := H
  replace H : (if t104 = true then (some ((Int.tmod a0 8) == 0)) else (some false)) = some r := H
  have A2 := Aside0.mk A20
  clear A20
  by_cases c3 : t104 = true
  · subst c3
    have H1 : (some ((Int.tmod a0 8) == 0)) = some r := by rw [if_pos rfl] at H; exact H
    clear H
    have H := H1
    clear H1
    obtain rfl := Option.some.inj H
    go_enter Try.func94, Try.ntmps94
    go_wp2_with (first | ((with_reducible refine gate_callee (f := 39) rfl ?_); refine goesL_ (some 4) rfl rfl Try.func39 (by kernel_rfl) rfl #[.int .i64 a0, .int .i64 8, .int .i64 32] rfl (by (try simp only [List.map_toArray, List.map_cons, List.map_nil]); first | done | rfl | (simp only [List.length_drop, List.length_take]; rfl)) ?_; (with_reducible refine (spec_l01In.calls a0 8 32 true _ A2.out).mono ?_); rintro e w' ⟨rfl, ⟨nd, rfl⟩⟩; refine ⟨_, rfl, ?_⟩))
    go_ret
    exact ⟨by first | rfl | (simp; done) | (simp [*]; done), by repeat (first | exact Drawn0.refl _ | apply Drawn0.step)⟩
  · replace c3 := Bool.eq_false_iff.mpr c3
    subst c3
    have H1 : (some false) = some r := by rw [if_neg (show ¬ (false = true) by decide)] at H; exact H
    clear H
    have H := H1
    clear H1
    obtain rfl := Option.some.inj H
    go_enter Try.func94, Try.ntmps94
    go_wp2_with (first | ((with_reducible refine gate_callee (f := 39) rfl ?_); refine goesL_ (some 4) rfl rfl Try.func39 (by kernel_rfl) rfl #[.int .i64 a0, .int .i64 8, .int .i64 32] rfl (by (try simp only [List.map_toArray, List.map_cons, List.map_nil]); first | done | rfl | (simp only [List.length_drop, List.length_take]; rfl)) ?_; (with_reducible refine (spec_l01In.calls a0 8 32 false _ A2.out).mono ?_); rintro e w' ⟨rfl, ⟨nd, rfl⟩⟩; refine ⟨_, rfl, ?_⟩))
    go_ret
    exact ⟨by first | rfl | (simp; done) | (simp [*]; done), by repeat (first | exact Drawn0.refl _ | apply Drawn0.step)⟩
def spec_MemoryNew.l0 : Nat → Int → List (List Int) → Int → Option ((List (List Int)) × Bool)
 | 0, _, _, _ => none
 | k + 1, x0, x4, x5 => if x5 < x0 then (if 4 ≤ 35184372088832 then (if x4.length < 5864062014805 then (spec_MemoryNew.l0 k x0 (x4 ++ [(List.replicate 4 0)]) (wrap64 (x5 + 1))) else (none)) else (none)) else (some (x4, true))
def spec_MemoryNew.f (k : Nat) (a0 : Int) : Option ((List (List Int)) × Bool) := (spec_l02Frames.f a0).bind fun t105 => (if t105 = true then (spec_MemoryNew.l0 k a0 (([] : List (List Int))) 0) else (some ((([] : List (List Int))), false)))
set_option maxHeartbeats 8000000 in
set_option maxRecDepth 100000 in
theorem spec_MemoryNew.calls (k : Nat) (a0 : Int) (r1 : List (List Int)) (r2 : Bool) (w : World) (h : spec_MemoryNew.f k a0 = some (r1, r2)) :
  Calls Try.prog 30 #[.int .i64 a0] w fun e w' => ∃ v0_ : Value, e = .returned (.tuple #[v0_, .bool r2]) ∧ Kd.S (Kd.slice 3 (Kd.int .i64)) 26 w' w.heap.size (fun _ => True) v0_ r1 ∧ Below w.heap.size w w' := by
 have HB := Aside0.mk (Below.refl w.heap.size w); have H : ((spec_l02Frames.f a0).bind fun t105 => (if t105 = true then (spec_MemoryNew.l0 k a0 (([] : List (List Int))) 0) else (some ((([] : List (List Int))), false)))) = some (r1, r2) := h; clear h; replace H := Option.bind_eq_some_iff.mp H; obtain ⟨t105, A20, H⟩ := H; replace H : (if t105 = true then (spec_MemoryNew.l0 k a0 (([] : List (List Int))) 0) else (some ((([] : List (List Int))), false))) = some (r1, r2) := H; have A2 := Aside0.mk A20; clear A20
 by_cases c3 : t105 = true
 ·subst c3
  have H1 : (spec_MemoryNew.l0 k a0 (([] : List (List Int))) 0) = some (r1, r2) := by rw [if_pos rfl] at H; exact H
  clear H; have H := H1; clear H1
  obtain ⟨y109, hy109⟩ : ∃ y_ : List (List Int), y_ = (([] : List (List Int))) := ⟨_, rfl⟩
  replace H : (spec_MemoryNew.l0 k a0 y109 0) = some (r1, r2) := by first | (rw [hy109]; with_reducible exact H) | (have H2_ := (Option.bind_some _ _).symm.trans H; rw [hy109]; with_reducible exact H2_) | (have H2_ := (Option.bind_some _ _).symm.trans H; with_reducible exact H2_) | with_reducible exact H | (rw [hy109]; exact H) | exact H
  have Ny109 := Aside0.mk hy109; clear hy109; have H' := Aside0.mk H; clear H
  go_enter Try.func30, Try.ntmps30
  go_wp2_with (first | ((with_reducible refine gate_callee (f := 94) rfl ?_); refine goesL_ (some 7) rfl rfl Try.func94 (by kernel_rfl) rfl #[.int .i64 a0] rfl (by (try simp only [List.map_toArray, List.map_cons, List.map_nil]); first | done | rfl) ?_; (with_reducible refine (spec_l02Frames.calls a0 true _ A2.out).mono ?_); rintro e w' ⟨rfl, ⟨nd, rfl⟩⟩; refine ⟨_, rfl, ?_⟩) | ((with_reducible refine gate_dst (N := 10) rfl ?_); refine Kd.S_lit (Kd.slice 3 (Kd.int .i64)) _ 26 ?hg (N := 10) ?hd (xs := ([] : List (List Int))) (inner := []) (ok := fun _ => True) (okp := fun _ => True) ?hr ?hp (fun _ hk => hk) trivial (Below.refl _ _) (Nat.le_refl _) (by simp) ?_; (case hd => rfl); (case hg => rfl); (case hr => first | (go_simp; done) | (go_simp; rfl)); (case hp => exact (Reps.none _ _)); intro v110 w4 ho5 hb hg_ hnew_; clear hg_ hnew_; (first | rw [← Ny109.out] at ho5 | (simp only [Int.reduceToNat] at ho5; rw [← Ny109.out] at ho5)); have HO111 := Aside0.mk (Kd.S_lower ho5 (below_size (gB HB))); replace HB := Aside0.mk (below_step (gB HB) hb); clear hb ho5))
  go_loopg [4, 5] k (fun kq v4 v5 w' => ∃ (x4_1 : List (List Int)) (x5_1 : Int), v5 = .int .i64 x5_1 ∧ Aside0 (spec_MemoryNew.l0 kq a0 x4_1 x5_1 = some (r1, r2)) ∧ Aside0 (kq ≤ k) ∧ Aside0 (Kd.S (Kd.slice 3 (Kd.int .i64)) 26 w' w.heap.size (fun _ => True) v4 x4_1) ∧ Aside0 (Below w.heap.size w w'))
  case atStart => exact ⟨(y109), (0), (by first | rfl | (simp; done) | (simp [*]; done)), H', ⟨Nat.le_refl _⟩, ⟨gS HO111⟩, ⟨gB HB⟩⟩
  case round =>
   clear H'; try clear p2
   try clear c3
   obtain ⟨x4_1, x5_1, rfl, HA, HK1, HO_4, HB⟩ := hrel
   cases gk with
   | zero => exact absurd HA.out (by simp [spec_MemoryNew.l0])
   | succ k1 =>
    have H := HA.out; clear HA; simp only [spec_MemoryNew.l0] at H
    by_cases c6 : x5_1 < a0
    ·rw [if_pos c6] at H; have c6b0 : decide (x5_1 < a0) = true := decide_eq_true c6; clear c6
     by_cases c7 : 4 ≤ 35184372088832
     ·rw [if_pos c7] at H; have c7b0 := eq_true c7; have c7b1 : decide (4 ≤ 35184372088832) = true := decide_eq_true c7; clear c7
      obtain ⟨y112, hy112⟩ : ∃ y_ : List Int, y_ = (List.replicate 4 0) := ⟨_, rfl⟩
      replace H : (if x4_1.length < 5864062014805 then (spec_MemoryNew.l0 k1 a0 (x4_1 ++ [y112]) (wrap64 (x5_1 + 1))) else (none)) = some (r1, r2) := by first | (rw [hy112]; with_reducible exact H) | (have H2_ := (Option.bind_some _ _).symm.trans H; rw [hy112]; with_reducible exact H2_) | (have H2_ := (Option.bind_some _ _).symm.trans H; with_reducible exact H2_) | with_reducible exact H | (rw [hy112]; exact H) | exact H
      have Ny112 := Aside0.mk hy112; clear hy112
      by_cases c8 : x4_1.length < 5864062014805
      ·rw [if_pos c8] at H; have LMc8 := Aside0.mk c8; clear c8
       obtain ⟨y115, hy115⟩ : ∃ y_ : List (List Int), y_ = (x4_1 ++ [y112]) := ⟨_, rfl⟩
       replace H : (spec_MemoryNew.l0 k1 a0 y115 (wrap64 (x5_1 + 1))) = some (r1, r2) := by first | (rw [hy115]; with_reducible exact H) | (have H2_ := (Option.bind_some _ _).symm.trans H; rw [hy115]; with_reducible exact H2_) | (have H2_ := (Option.bind_some _ _).symm.trans H; with_reducible exact H2_) | with_reducible exact H | (rw [hy115]; exact H) | exact H
       have Ny115 := Aside0.mk hy115; clear hy115; have H' := Aside0.mk H; clear H
       go_wp2_with (first | ((with_reducible refine gate_dst (N := 17) rfl ?_); refine Kd.R_make (Kd.int .i64) _ 3 rfl (N := 17) rfl 26 _ _ rfl 4 rfl rfl Try.underlying26 (.int .i64 0) 8 info3 rfl (by decide) (by omega) 0 (ok := fun _ => True) (okp := fun _ => True) rfl (fun _ hk => hk) trivial (by omega) (by omega) (Below.refl _ _) (Nat.le_refl _) ?_; intro v113 w9 ho10 hb hg_ hnew_; clear hg_ hnew_; (first | rw [← Ny112.out] at ho10 | (simp only [Int.reduceToNat] at ho10; rw [← Ny112.out] at ho10)); replace HO_4 := Aside0.mk (Kd.S_elder' (gS HO_4) (Kd.R_base ho10) hb); have HO114 := Aside0.mk (Kd.R_lower ho10 (below_size (gB HB))); replace HB := Aside0.mk (below_step (gB HB) hb); clear hb ho10; obtain ⟨Ao12, co12, eo12⟩ := Kd.R_slice HO114.out; subst eo12) | ((with_reducible refine gate_builtin (b := .append) (xs := #[.tmp 16, .tmp 18]) rfl ?_); at_builtin; refine Kd.S_append (Kd.slice 3 (Kd.int .i64)) (w0 := w) w.heap.size rfl (.tmp 16) (.tmp 18) 24 26 (.slice none 0 0) 24 rfl Try.underlying24 info26 rfl (by decide) (by omega) u4 x4_1 y112 [.slice Ao12 y112.length co12] (fun _ => True) (fun k_ => some k_ = (.slice Ao12 y112.length co12 : Value).ownBlock) rfl rfl ?aP (fun k_ hk_ => ((Kd.R_mono (ok' := fun k_ => ((fun _ => True)) k_ ∧ some k_ ≠ (u4 : Value).ownBlock) (Kd.R_apart' (HO114.out) (Kd.S_typed HO_4.out) (by decide)) (fun k_ hk => ⟨trivial, hk.2⟩))).1 k_ hk_.symm) ?aF ?aO ?aB ?aS ?aL ?_; (case aP => exact Kd.M_row (Kd.R_mono (Kd.R_tight rfl (Kd.R_mono (ok' := fun k_ => ((fun _ => True)) k_ ∧ some k_ ≠ (u4 : Value).ownBlock) (Kd.R_apart' (HO114.out) (Kd.S_typed HO_4.out) (by decide)) (fun k_ hk => ⟨trivial, hk.2⟩))) (fun _ h_ => h_))); (case aB => exact (gB HB)); (case aF => exact (fun _ _ => trivial)); (case aO => exact (by (with_reducible repeat (first | apply Kd.S_alloc | apply Kd.S_drewN | apply Kd.S_drew)); exact Kd.S_mono HO_4.out (fun k_ hk => ⟨trivial, fun e_ => hk.2 e_⟩))); (case aS => exact (below_size (gB HB))); (case aL => have := LMc8.out; omega); intro v116 w11 ho hb hg hat; rw [← Ny115.out] at ho; have n0_ := Aside0.mk (hb); have n1_ := Aside0.mk (ho); clear HB; clear HO_4; clear HO114; have HB := n0_; have HO117 := n1_; clear n0_ n1_; clear ho hb hg hat))
       go_roundg k1
       case measure => have := HK1.out; omega
       case rel => exact ⟨(y115), (wrap64 (x5_1 + 1)), (by first | rfl | (simp; done) | (simp [*]; done)), H', ⟨by have := HK1.out; omega⟩, ⟨gS HO117⟩, ⟨gB HB⟩⟩
      ·rw [if_neg c8] at H; exact absurd H (by simp)
     ·rw [if_neg c7] at H; exact absurd H (by simp)
    ·rw [if_neg c6] at H; have c6b0 : decide (x5_1 < a0) = false := decide_eq_false c6; clear c6; simp only [Option.some.injEq, Prod.mk.injEq] at H; obtain ⟨rfl, rfl⟩ := H; go_wp2
     go_ret2
     exact ⟨_, by first | rfl | (simp [errW_none, errW_some] <;> rfl) | (simp [*, errW_none, errW_some] <;> rfl), gS HO_4, gB HB⟩
 ·replace c3 := Bool.eq_false_iff.mpr c3; subst c3
  have H1 : (some ((([] : List (List Int))), false)) = some (r1, r2) := by rw [if_neg (show ¬ (false = true) by decide)] at H; exact H
  clear H; have H := H1; clear H1
  obtain ⟨y106, hy106⟩ : ∃ y_ : List (List Int), y_ = (([] : List (List Int))) := ⟨_, rfl⟩
  replace H : (some (y106, false)) = some (r1, r2) := by first | (rw [hy106]; with_reducible exact H) | (have H2_ := (Option.bind_some _ _).symm.trans H; rw [hy106]; with_reducible exact H2_) | (have H2_ := (Option.bind_some _ _).symm.trans H; with_reducible exact H2_) | with_reducible exact H | (rw [hy106]; exact H) | exact H
  have Ny106 := Aside0.mk hy106; clear hy106; simp only [Option.some.injEq, Prod.mk.injEq] at H; obtain ⟨rfl, rfl⟩ := H
  go_enter Try.func30, Try.ntmps30
  go_wp2_with (first | ((with_reducible refine gate_callee (f := 94) rfl ?_); refine goesL_ (some 7) rfl rfl Try.func94 (by kernel_rfl) rfl #[.int .i64 a0] rfl (by (try simp only [List.map_toArray, List.map_cons, List.map_nil]); first | done | rfl) ?_; (with_reducible refine (spec_l02Frames.calls a0 false _ A2.out).mono ?_); rintro e w' ⟨rfl, ⟨nd, rfl⟩⟩; refine ⟨_, rfl, ?_⟩) | ((with_reducible refine gate_dst (N := 9) rfl ?_); refine Kd.S_lit (Kd.slice 3 (Kd.int .i64)) _ 26 ?hg (N := 9) ?hd (xs := ([] : List (List Int))) (inner := []) (ok := fun _ => True) (okp := fun _ => True) ?hr ?hp (fun _ hk => hk) trivial (Below.refl _ _) (Nat.le_refl _) (by simp) ?_; (case hd => rfl); (case hg => rfl); (case hr => first | (go_simp; done) | (go_simp; rfl)); (case hp => exact (Reps.none _ _)); intro v107 w13 ho14 hb hg_ hnew_; clear hg_ hnew_; (first | rw [← Ny106.out] at ho14 | (simp only [Int.reduceToNat] at ho14; rw [← Ny106.out] at ho14)); have HO108 := Aside0.mk (Kd.S_lower ho14 (below_size (gB HB))); replace HB := Aside0.mk (below_step (gB HB) hb); clear hb ho14))
  go_ret2
  exact ⟨_, by first | rfl | (simp [errW_none, errW_some] <;> rfl) | (simp [*, errW_none, errW_some] <;> rfl), gS HO108, gB HB⟩
def spec_l03Pow.l0 : Nat → Int → Int → Int → Option (Int)
  | 0, _, _, _ => none
  | k + 1, x0, x3, x4 => if x4 < x0 then (spec_l03Pow.l0 k x0 (wrap64 (2 * x3)) (wrap64 (x4 + 1))) else (some x3)
def spec_l03Pow.f (k : Nat) (a0 : Int) : Option (Int) := spec_l03Pow.l0 k a0 1 0
set_option maxHeartbeats 8000000 in
set_option maxRecDepth 100000 in
theorem spec_l03Pow.calls (k : Nat) (a0 : Int) (r : Int) (w : World) (h : spec_l03Pow.f k a0 = some r) :
    Calls Try.prog 97 #[.int .i64 a0] w fun e w' => e = .returned (.int .i64 r) ∧ Drawn0 w w' := by
  have H : (spec_l03Pow.l0 k a0 1 0) = some r := h
  clear h
  have H' := Aside0.mk H
  clear H
  go_enter Try.func97, Try.ntmps97
  go_wp2
  go_loopg [3, 4] k (fun kq v3 v4 w' => ∃ (x3_1 : Int) (x4_1 : Int), v3 = .int .i64 x3_1 ∧ v4 = .int .i64 x4_1 ∧ Aside0 (spec_l03Pow.l0 kq a0 x3_1 x4_1 = some r) ∧ Aside0 (kq ≤ k) ∧ Drawn0 w w')
  case atStart => exact ⟨(1), (0), (by first | rfl | (simp; done) | (simp [*]; done)), (by first | rfl | (simp; done) | (simp [*]; done)), H', ⟨Nat.le_refl _⟩, by repeat (first | exact Drawn0.refl _ | apply Drawn0.step)⟩
  case round =>
    clear H'
    obtain ⟨x3_1, x4_1, rfl, rfl, HA, HK1, ⟨m1, rfl⟩⟩ := hrel
    cases gk with
    | zero => exact absurd HA.out (by simp [spec_l03Pow.l0])
    | succ k1 =>
      have H := HA.out
      clear HA
      simp only [spec_l03Pow.l0] at H
      by_cases c2 : x4_1 < a0
      · rw [if_pos c2] at H
        have c2b0 : decide (x4_1 < a0) = true := decide_eq_true c2
        clear c2
        have H' := Aside0.mk H
        clear H
        go_wp2
        go_roundg k1
        case measure => have := HK1.out; omega
        case rel => exact ⟨(wrap64 (2 * x3_1)), (wrap64 (x4_1 + 1)), (by first | rfl | (simp; done) | (simp [*]; done)), (by first | rfl | (simp; done) | (simp [*]; done)), H', ⟨by have := HK1.out; omega⟩, by repeat (first | exact Drawn0.refl _ | apply Drawn0.step)⟩
      · rw [if_neg c2] at H
        have c2b0 : decide (x4_1 < a0) = false := decide_eq_false c2
        clear c2
        obtain rfl := Option.some.inj H
        go_wp2
        go_ret
        exact ⟨by first | rfl | (simp; done) | (simp [*]; done), by repeat (first | exact Drawn0.refl _ | apply Drawn0.step)⟩
def spec_l03In.l0 : Nat → List Int → Int → Int → Option (Bool)
  | 0, _, _, _ => none
  | k + 1, x0, x1, x5 => if x5 < (x0.length : Int) then (if 0 ≤ x5 then (if (rd x0 x5) = x1 then (some true) else (spec_l03In.l0 k x0 x1 (wrap64 (x5 + 1)))) else (none)) else (some false)
def spec_l03In.f (k : Nat) (l0 : List Int) (a1 : Int) : Option (Bool) := spec_l03In.l0 k l0 a1 0
set_option maxHeartbeats 8000000 in
set_option maxRecDepth 100000 in
theorem spec_l03In.calls (k : Nat) (A0 : Option Addr) (c0 : Nat) (l0 : List Int) (a1 : Int) (r : Bool) (w : World) (hr0 : Kd.C (Kd.int .i64) w A0 l0.length l0) (hc0 : l0.length ≤ c0) (h : spec_l03In.f k l0 a1 = some r) :
    Calls Try.prog 140 #[.slice A0 l0.length c0, .int .i64 a1] w fun e w' => e = .returned (.bool r) ∧ Drawn0 w w' := by
  have HR0 := Aside0.mk hr0
  have HC0 := Aside0.mk hc0
  clear hr0 hc0
  have H : (spec_l03In.l0 k l0 a1 0) = some r := h
  clear h
  have H' := Aside0.mk H
  clear H
  go_enter Try.func140, Try.ntmps140
  go_wp2
  go_loopg [5] k (fun kq v5 w' => ∃ (x5_1 : Int), v5 = .int .i64 x5_1 ∧ Aside0 (spec_l03In.l0 kq l0 a1 x5_1 = some r) ∧ Aside0 (kq ≤ k) ∧ Drawn0 w w')
  case atStart => exact ⟨(0), (by first | rfl | (simp; done) | (simp [*]; done)), H', ⟨Nat.le_refl _⟩, by repeat (first | exact Drawn0.refl _ | apply Drawn0.step)⟩
  case round =>
    clear H'
    try clear c1
    try clear p2
    obtain ⟨x5_1, rfl, HA, HK1, ⟨m1, rfl⟩⟩ := hrel
    cases gk with
    | zero => exact absurd HA.out (by simp [spec_l03In.l0])
    | succ k1 =>
      have H := HA.out
      clear HA
      simp only [spec_l03In.l0] at H
      by_cases c3 : x5_1 < (l0.length : Int)
      · rw [if_pos c3] at H
        have c3b0 : decide (x5_1 < (l0.length : Int)) = true := decide_eq_true c3
        clear c3
        by_cases c4 : 0 ≤ x5_1
        · rw [if_pos c4] at H
          have c4b0 : decide (0 ≤ x5_1) = true := decide_eq_true c4
          clear c4
          by_cases c5 : (rd l0 x5_1) = a1
          · rw [if_pos c5] at H
            have c5b0 : ((rd l0 x5_1) == a1) = true := beq_iff_eq.mpr c5
            have c5b1 : ((rd l0 x5_1) != a1) = false := bne_eq_false_iff_eq.mpr c5
            clear c5
            obtain rfl := Option.some.inj H
            have p286 : 0 ≤ (x5_1 : Int) := of_decide_eq_true (by first | (with_reducible assumption) | assumption)
            have q286 : x5_1 < (l0.length : Int) := of_decide_eq_true (by first | (with_reducible assumption) | assumption)
            obtain ⟨ad286, e286, hx286_0⟩ := Kd.at_int HR0.out x5_1 p286 q286
            cases e286
            replace p286 := eq_true p286
            replace q286 := eq_true q286
            go_wp2
            go_ret
            exact ⟨by first | rfl | (simp; done) | (simp [*]; done), by repeat (first | exact Drawn0.refl _ | apply Drawn0.step)⟩
          · rw [if_neg c5] at H
            have c5b0 : ((rd l0 x5_1) == a1) = false := beq_eq_false_iff_ne.mpr c5
            have c5b1 : ((rd l0 x5_1) != a1) = true := bne_iff_ne.mpr c5
            have H' := Aside0.mk H
            clear H
            have p286 : 0 ≤ (x5_1 : Int) := of_decide_eq_true (by first | (with_reducible assumption) | assumption)
            have q286 : x5_1 < (l0.length : Int) := of_decide_eq_true (by first | (with_reducible assumption) | assumption)
            obtain ⟨ad286, e286, hx286_0⟩ := Kd.at_int HR0.out x5_1 p286 q286
            cases e286
            replace p286 := eq_true p286
            replace q286 := eq_true q286
            go_wp2
            go_roundg k1
            case measure => have := HK1.out; omega
            case rel => exact ⟨(wrap64 (x5_1 + 1)), (by first | rfl | (simp; done) | (simp [*]; done)), H', ⟨by have := HK1.out; omega⟩, by repeat (first | exact Drawn0.refl _ | apply Drawn0.step)⟩
        · rw [if_neg c4] at H
          exact absurd H (by simp)
      · rw [if_neg c3] at H
        have c3b0 : decide (x5_1 < (l0.length : Int)) = false := decide_eq_false c3
        clear c3
        obtain rfl := Option.some.inj H
        go_wp2
        go_ret
        exact ⟨by first | rfl | (simp; done) | (simp [*]; done), by repeat (first | exact Drawn0.refl _ | apply Drawn0.step)⟩
def spec_l03Clear.l0 : Nat → List Int → Int → Int → Int → Option (Bool)
  | 0, _, _, _, _ => none
  | k + 1, x0, x1, x7, x8 => if x8 < (wrap64 (x1 + x7)) then ((spec_l03In.f k x0 x8).bind fun t288 => (if t288 = true then (some false) else (spec_l03Clear.l0 k x0 x1 x7 (wrap64 (x8 + 1))))) else (if x7 = 0 then (none) else (some ((Int.tmod x1 x7) == 0)))
def spec_l03Clear.f (k : Nat) (l0 : List Int) (a1 : Int) (a2 : Int) : Option (Bool) := (spec_l03Pow.f k a2).bind fun t287 => (spec_l03Clear.l0 k l0 a1 t287 a1)
set_option maxHeartbeats 8000000 in
set_option maxRecDepth 100000 in
theorem spec_l03Clear.calls (k : Nat) (A0 : Option Addr) (c0 : Nat) (l0 : List Int) (a1 : Int) (a2 : Int) (r : Bool) (w : World) (hr0 : Kd.C (Kd.int .i64) w A0 l0.length l0) (hc0 : l0.length ≤ c0) (h : spec_l03Clear.f k l0 a1 a2 = some r) :
    Calls Try.prog 96 #[.slice A0 l0.length c0, .int .i64 a1, .int .i64 a2] w fun e w' => e = .returned (.bool r) ∧ Drawn0 w w' := by
  have HR0 := Aside0.mk hr0
  have HC0 := Aside0.mk hc0
  clear hr0 hc0
  have H : ((spec_l03Pow.f k a2).bind fun t287 => (spec_l03Clear.l0 k l0 a1 t287 a1)) = some r := h
  clear h
  replace H := Option.bind_eq_some_iff.mp H
  obtain ⟨t287, A40, H⟩ := H
  replace H : (spec_l03Clear.l0 k l0 a1 t287 a1) = some r := H
  have A4 := Aside0.mk A40
  clear A40
  have H' := Aside0.mk H
  clear H
  go_enter Try.func96, Try.ntmps96
  go_wp2_with (first | ((with_reducible refine gate_callee (f := 97) rfl ?_); refine goesL_ (some 10) rfl rfl Try.func97 (by kernel_rfl) rfl #[.int .i64 a2] rfl (by (try simp only [List.map_toArray, List.map_cons, List.map_nil]); first | done | rfl | (simp only [List.length_drop, List.length_take]; rfl)) ?_; (with_reducible refine (spec_l03Pow.calls k a2 t287 _ A4.out).mono ?_); rintro e w' ⟨rfl, ⟨nd, rfl⟩⟩; refine ⟨_, rfl, ?_⟩))
  go_loopg [8] k (fun kq v8 w' => ∃ (x8_1 : Int), v8 = .int .i64 x8_1 ∧ Aside0 (spec_l03Clear.l0 kq l0 a1 t287 x8_1 = some r) ∧ Aside0 (kq ≤ k) ∧ Drawn0 w w')
  case atStart => exact ⟨(a1), (by first | rfl | (simp; done) | (simp [*]; done)), H', ⟨Nat.le_refl _⟩, by repeat (first | exact Drawn0.refl _ | apply Drawn0.step)⟩
  case round =>
    clear H'
    try clear p2
    obtain ⟨x8_1, rfl, HA, HK1, ⟨m1, rfl⟩⟩ := hrel
    cases gk with
    | zero => exact absurd HA.out (by simp [spec_l03Clear.l0])
    | succ k1 =>
      have H := HA.out
      clear HA
      simp only [spec_l03Clear.l0] at H
      by_cases c5 : x8_1 < (wrap64 (a1 + t287))
      · rw [if_pos c5] at H
        have c5b0 : decide (x8_1 < (wrap64 (a1 + t287))) = true := decide_eq_true c5
        clear c5
        replace H := Option.bind_eq_some_iff.mp H
        obtain ⟨t288, A60, H⟩ := H
        replace H : (if t288 = true then (some false) else (spec_l03Clear.l0 k1 l0 a1 t287 (wrap64 (x8_1 + 1)))) = some r := H
        have A6 := Aside0.mk A60
        clear A60
        by_cases c7 : t288 = true
        · subst c7
          have H1 : (some false) = some r := by rw [if_pos rfl] at H; exact H
          clear H
          have H := H1
          clear H1
          obtain rfl := Option.some.inj H
          go_wp2_with (first | ((with_reducible refine gate_callee (f := 140) rfl ?_); refine goesL_ (some 21) rfl rfl Try.func140 (by kernel_rfl) rfl #[.slice A0 l0.length c0, .int .i64 x8_1] rfl (by (try simp only [List.map_toArray, List.map_cons, List.map_nil]); first | done | rfl | (simp only [List.length_drop, List.length_take]; rfl)) ?_; (with_reducible refine (spec_l03In.calls k1 _ _ l0 x8_1 true _ ?side1 ?side2 A6.out).mono ?_); (case side1 => repeat (first | exact HR0.out | (with_reducible refine Kd.C_alloc ?_ _) | (with_reducible refine Kd.C_drewN ?_ _) | (with_reducible refine Kd.C_drew ?_))); (case side2 => exact HC0.out); rintro e w' ⟨rfl, ⟨nd, rfl⟩⟩; refine ⟨_, rfl, ?_⟩))
          go_ret
          exact ⟨by first | rfl | (simp; done) | (simp [*]; done), by repeat (first | exact Drawn0.refl _ | apply Drawn0.step)⟩
        · replace c7 := Bool.eq_false_iff.mpr c7
          subst c7
          have H1 : (spec_l03Clear.l0 k1 l0 a1 t287 (wrap64 (x8_1 + 1))) = some r := by rw [if_neg (show ¬ (false = true) by decide)] at H; exact H
          clear H
          have H := H1
          clear H1
          have H' := Aside0.mk H
          clear H
          go_wp2_with (first | ((with_reducible refine gate_callee (f := 140) rfl ?_); refine goesL_ (some 21) rfl rfl Try.func140 (by kernel_rfl) rfl #[.slice A0 l0.length c0, .int .i64 x8_1] rfl (by (try simp only [List.map_toArray, List.map_cons, List.map_nil]); first | done | rfl | (simp only [List.length_drop, List.length_take]; rfl)) ?_; (with_reducible refine (spec_l03In.calls k1 _ _ l0 x8_1 false _ ?side1 ?side2 A6.out).mono ?_); (case side1 => repeat (first | exact HR0.out | (with_reducible refine Kd.C_alloc ?_ _) | (with_reducible refine Kd.C_drewN ?_ _) | (with_reducible refine Kd.C_drew ?_))); (case side2 => exact HC0.out); rintro e w' ⟨rfl, ⟨nd, rfl⟩⟩; refine ⟨_, rfl, ?_⟩))
          go_roundg k1
          case measure => have := HK1.out; omega
          case rel => exact ⟨(wrap64 (x8_1 + 1)), (by first | rfl | (simp; done) | (simp [*]; done)), H', ⟨by have := HK1.out; omega⟩, by repeat (first | exact Drawn0.refl _ | apply Drawn0.step)⟩
      · rw [if_neg c5] at H
        have c5b0 : decide (x8_1 < (wrap64 (a1 + t287))) = false := decide_eq_false c5
        clear c5
        by_cases c8 : t287 = 0
        · rw [if_pos c8] at H
          exact absurd H (by simp)
        · rw [if_neg c8] at H
          have c8b0 : (t287 == 0) = false := beq_eq_false_iff_ne.mpr c8
          have c8b1 : (t287 != 0) = true := bne_iff_ne.mpr c8
          obtain rfl := Option.some.inj H
          go_wp2
          go_ret
          exact ⟨by first | rfl | (simp; done) | (simp [*]; done), by repeat (first | exact Drawn0.refl _ | apply Drawn0.step)⟩
mutual
def spec_AllRuns.j1 : Nat → Int → List Int → Bool → Option ((List (S124)) × Bool)
 | 0, _, _, _ => none
 | k + 1, x0, x1, x6 => if x6 = true then (spec_AllRuns.l1 k x0 x1 (([] : List (S124))) 0) else (some ((([] : List (S124))), false))
def spec_AllRuns.l1 : Nat → Int → List Int → List (S124) → Int → Option ((List (S124)) × Bool)
 | 0, _, _, _, _ => none
 | k + 1, x0, x1, x8, x9 => if x9 < x0 then (spec_AllRuns.l2 k x0 x1 x8 x9 3) else (some (x8, true))
def spec_AllRuns.l2 : Nat → Int → List Int → List (S124) → Int → Int → Option ((List (S124)) × Bool)
 | 0, _, _, _, _, _ => none
 | k + 1, x0, x1, x8, x9, x10 => if x10 ≥ 0 then ((spec_l03Clear.f k x1 x9 x10).bind fun t298 => (if t298 = true then (if x10 < 0 then (spec_AllRuns.l1 k x0 x1 x8 (wrap64 (x9 + 1))) else (if x8.length < 8796093022208 then ((spec_l03Pow.f k x10).bind fun t302 => (spec_AllRuns.l1 k x0 x1 (x8 ++ [(⟨x9, x10⟩ : S124)]) (wrap64 (x9 + t302)))) else (none))) else (spec_AllRuns.l2 k x0 x1 x8 x9 (wrap64 (x10 - 1))))) else (if x10 < 0 then (spec_AllRuns.l1 k x0 x1 x8 (wrap64 (x9 + 1))) else (if x8.length < 8796093022208 then ((spec_l03Pow.f k x10).bind fun t306 => (spec_AllRuns.l1 k x0 x1 (x8 ++ [(⟨x9, x10⟩ : S124)]) (wrap64 (x9 + t306)))) else (none)))
def spec_AllRuns.l0 : Nat → Int → List Int → Bool → Int → Option ((List (S124)) × Bool)
 | 0, _, _, _, _ => none
 | k + 1, x0, x1, x6, x7 => if x7 < (x1.length : Int) then (if x6 = true then (if 0 ≤ x7 then ((spec_l01In.f (rd x1 x7) 0 (wrap64 (x0 - 1))).bind fun t291 => (spec_AllRuns.l0 k x0 x1 t291 (wrap64 (x7 + 1)))) else (none)) else (spec_AllRuns.j1 k x0 x1 x6)) else (spec_AllRuns.j1 k x0 x1 x6)
end
def spec_AllRuns.f (k : Nat) (a0 : Int) (l1 : List Int) : Option ((List (S124)) × Bool) := (spec_l02Frames.f a0).bind fun t289 => (spec_AllRuns.l0 k a0 l1 t289 0)
set_option maxHeartbeats 8000000 in
set_option maxRecDepth 100000 in
theorem spec_AllRuns.calls (k : Nat) (a0 : Int) (A1 : Option Addr) (c1 : Nat) (l1 : List Int) (r1 : List (S124)) (r2 : Bool) (w : World) (hr1 : Kd.C (Kd.int .i64) w A1 l1.length l1) (hc1 : l1.length ≤ c1) (h : spec_AllRuns.f k a0 l1 = some (r1, r2)) :
  Calls Try.prog 40 #[.int .i64 a0, .slice A1 l1.length c1] w fun e w' => ∃ v0_ : Value, e = .returned (.tuple #[v0_, .bool r2]) ∧ Kd.R k124 124 w' w.heap.size (fun _ => True) v0_ r1 ∧ Below w.heap.size w w' := by
 have hu124 := Try.underlying124; have HR1 := Aside0.mk hr1; have HC1 := Aside0.mk hc1; clear hr1 hc1; have HB := Aside0.mk (Below.refl w.heap.size w); have H : ((spec_l02Frames.f a0).bind fun t289 => (spec_AllRuns.l0 k a0 l1 t289 0)) = some (r1, r2) := h; clear h; replace H := Option.bind_eq_some_iff.mp H; obtain ⟨t289, A30, H⟩ := H; replace H : (spec_AllRuns.l0 k a0 l1 t289 0) = some (r1, r2) := H; have A3 := Aside0.mk A30; clear A30; have HC4 := Aside0.mk H; clear H
 go_enter Try.func40, Try.ntmps40
 go_upto_block 0 with (first | ((with_reducible refine gate_callee (f := 94) rfl ?_); refine goesL_ (some 12) rfl rfl Try.func94 (by kernel_rfl) rfl #[.int .i64 a0] rfl (by (try simp only [List.map_toArray, List.map_cons, List.map_nil]); first | done | rfl) ?_; (with_reducible refine (spec_l02Frames.calls a0 t289 _ A3.out).mono ?_); rintro e w' ⟨rfl, ⟨nd, rfl⟩⟩; refine ⟨_, rfl, ?_⟩))
 (try simp only [Act.put, pu])
 go_cut [6] (fun v6 wc => ∃ (kq : Nat) (x6_3 : Bool), v6 = .bool x6_3 ∧ Aside0 (spec_AllRuns.j1 kq a0 l1 x6_3 = some (r1, r2)) ∧ Aside0 (kq ≤ k) ∧ Aside0 (Below w.heap.size w wc))
 case first =>
  have H := HC4.out; clear HC4; have H' := Aside0.mk H; clear H; go_wp2
  go_loopg [6, 7] k (fun kq v6 v7 w' => ∃ (x6_1 : Bool) (x7_1 : Int), v6 = .bool x6_1 ∧ v7 = .int .i64 x7_1 ∧ Aside0 (spec_AllRuns.l0 kq a0 l1 x6_1 x7_1 = some (r1, r2)) ∧ Aside0 (kq ≤ k) ∧ Aside0 (Below w.heap.size w w'))
  case atStart => exact ⟨(t289), (0), (by first | rfl | (simp; done) | (simp [*]; done)), (by first | rfl | (simp; done) | (simp [*]; done)), H', ⟨Nat.le_refl _⟩, ⟨gB HB⟩⟩
  case round =>
   clear H'; try clear c1
   try clear p2
   try clear c4
   obtain ⟨x6_1, x7_1, rfl, rfl, HA, HK1, HB⟩ := hrel
   cases gk with
   | zero => exact absurd HA.out (by simp [spec_AllRuns.l0])
   | succ k1 =>
    have H := HA.out; clear HA; simp only [spec_AllRuns.l0] at H
    by_cases c5 : x7_1 < (l1.length : Int)
    ·rw [if_pos c5] at H; have c5b0 : decide (x7_1 < (l1.length : Int)) = true := decide_eq_true c5; clear c5; (first | rw [c5b0] | (simp only [i64_w, i32_w]; rw [c5b0]) | skip)
     by_cases c6 : x6_1 = true
     ·subst c6
      have H1 : (if 0 ≤ x7_1 then ((spec_l01In.f (rd l1 x7_1) 0 (wrap64 (a0 - 1))).bind fun t291 => (spec_AllRuns.l0 k1 a0 l1 t291 (wrap64 (x7_1 + 1)))) else (none)) = some (r1, r2) := by rw [if_pos rfl] at H; exact H
      clear H; have H := H1; clear H1
      by_cases c7 : 0 ≤ x7_1
      ·rw [if_pos c7] at H; have c7b0 : decide (0 ≤ x7_1) = true := decide_eq_true c7; clear c7; replace H := Option.bind_eq_some_iff.mp H; obtain ⟨t291, A80, H⟩ := H; replace H : (spec_AllRuns.l0 k1 a0 l1 t291 (wrap64 (x7_1 + 1))) = some (r1, r2) := H; have A8 := Aside0.mk A80; clear A80; have H' := Aside0.mk H; clear H; have p290 : 0 ≤ (x7_1 : Int) := of_decide_eq_true (by first | (with_reducible assumption) | assumption); have q290 : x7_1 < (l1.length : Int) := of_decide_eq_true (by first | (with_reducible assumption) | assumption); obtain ⟨ad290, e290, hx290_0⟩ := Kd.at_int HR1.out x7_1 p290 q290
       cases e290; replace hx290_0 := (HB.out.cell (World.block_lt_of_cell? w _ hx290_0)).trans hx290_0; replace p290 := eq_true p290; replace q290 := eq_true q290
       go_wp2_with (first | ((with_reducible refine gate_callee (f := 39) rfl ?_); refine goesL_ (some 28) rfl rfl Try.func39 (by kernel_rfl) rfl #[.int .i64 (rd l1 x7_1), .int .i64 0, .int .i64 (wrap64 (a0 - 1))] rfl (by (try simp only [List.map_toArray, List.map_cons, List.map_nil]); first | done | rfl) ?_; (with_reducible refine (spec_l01In.calls (rd l1 x7_1) 0 (wrap64 (a0 - 1)) t291 _ A8.out).mono ?_); rintro e w' ⟨rfl, ⟨nd, rfl⟩⟩; refine ⟨_, rfl, ?_⟩))
       go_roundg k1
       case measure => have := HK1.out; omega
       case rel => exact ⟨(t291), (wrap64 (x7_1 + 1)), (by first | rfl | (simp; done) | (simp [*]; done)), (by first | rfl | (simp; done) | (simp [*]; done)), H', ⟨by have := HK1.out; omega⟩, ⟨gB HB⟩⟩
      ·rw [if_neg c7] at H; exact absurd H (by simp)
     ·replace c6 := Bool.eq_false_iff.mpr c6; subst c6
      have H1 : (spec_AllRuns.j1 k1 a0 l1 false) = some (r1, r2) := by rw [if_neg (show ¬ (false = true) by decide)] at H; exact H
      clear H; have H := H1; clear H1; have H' := Aside0.mk H; clear H; go_wp2
      go_meet
      case rel => exact ⟨_, (false), (by first | rfl | (simp; done) | (simp [*]; done)), H', ⟨by have := HK1.out; first | omega | exact Nat.le_refl _⟩, ⟨gB HB⟩⟩
    ·rw [if_neg c5] at H; have c5b0 : decide (x7_1 < (l1.length : Int)) = false := decide_eq_false c5; clear c5; (first | rw [c5b0] | (simp only [i64_w, i32_w]; rw [c5b0]) | skip); have H' := Aside0.mk H; clear H; go_wp2
     go_meet
     case rel => exact ⟨_, (x6_1), (by first | rfl | (simp; done) | (simp [*]; done)), H', ⟨by have := HK1.out; first | omega | exact Nat.le_refl _⟩, ⟨gB HB⟩⟩
 case rest =>
  clear HC4; try clear c1
  try clear p2
  try clear q2
  try clear hx2
  try clear c3
  try clear c4
  try clear c5
  try clear c5b0
  try clear c6
  try clear p6
  try clear c7
  try clear c7b0
  try clear hx290_0
  try clear p2
  try clear p290
  try clear q290
  obtain ⟨kq, x6_3, rfl, HA, HJ3, HB⟩ := hcut
  cases kq with
  | zero => exact absurd HA.out (by simp [spec_AllRuns.j1])
  | succ kj3 =>
   have H := HA.out; clear HA; simp only [spec_AllRuns.j1] at H
   by_cases c9 : x6_3 = true
   ·subst c9
    have H1 : (spec_AllRuns.l1 kj3 a0 l1 (([] : List (S124))) 0) = some (r1, r2) := by rw [if_pos rfl] at H; exact H
    clear H; have H := H1; clear H1
    obtain ⟨y295, hy295⟩ : ∃ y_ : List (S124), y_ = (([] : List (S124))) := ⟨_, rfl⟩
    replace H : (spec_AllRuns.l1 kj3 a0 l1 y295 0) = some (r1, r2) := by first | (rw [hy295]; with_reducible exact H) | (have H2_ := (Option.bind_some _ _).symm.trans H; rw [hy295]; with_reducible exact H2_) | (have H2_ := (Option.bind_some _ _).symm.trans H; with_reducible exact H2_) | with_reducible exact H | (rw [hy295]; exact H) | exact H
    have Ny295 := Aside0.mk hy295; clear hy295; have H' := Aside0.mk H; clear H
    go_wp2_with (first | ((with_reducible refine gate_dst (N := 32) rfl ?_); refine Kd.R_lit k124 _ 124 ?hg (N := 32) ?hd (xs := ([] : List (S124))) (inner := []) (ok := fun _ => True) (okp := fun _ => True) ?hr ?hp (fun _ hk => hk) trivial (Below.refl _ _) (Nat.le_refl _) (by simp) ?_; (case hd => rfl); (case hg => rfl); (case hr => first | (go_simp; done) | (go_simp; rfl)); (case hp => exact (Reps.none _ _)); intro v296 w10 ho11 hb hg_ hnew_; clear hg_ hnew_; (first | rw [← Ny295.out] at ho11 | (simp only [Int.reduceToNat] at ho11; rw [← Ny295.out] at ho11)); have HO297 := Aside0.mk (Kd.R_lower ho11 (below_size (gB HB))); replace HB := Aside0.mk (below_step (gB HB) hb); clear hb ho11))
    go_loopg [8, 9] kj3 (fun kq v8 v9 w' => ∃ (x8_2 : List (S124)) (x9_2 : Int), v9 = .int .i64 x9_2 ∧ Aside0 (spec_AllRuns.l1 kq a0 l1 x8_2 x9_2 = some (r1, r2)) ∧ Aside0 (kq ≤ kj3) ∧ Aside0 (Kd.R k124 124 w' w.heap.size (fun _ => True) v8 x8_2) ∧ Aside0 (Below w.heap.size w w'))
    case atStart => exact ⟨(y295), (0), (by first | rfl | (simp; done) | (simp [*]; done)), H', ⟨Nat.le_refl _⟩, ⟨gR HO297⟩, ⟨gB HB⟩⟩
    case round =>
     clear H'; try clear c1
     try clear p2
     try clear q2
     try clear hx2
     try clear c3
     try clear c4
     try clear c5
     try clear c5b0
     try clear c6
     try clear p6
     try clear c7
     try clear c7b0
     try clear c9
     try clear hx290_0
     try clear p2
     try clear p290
     try clear p6
     try clear q2
     try clear q290
     obtain ⟨x8_2, x9_2, rfl, HA, HK2, HO_8, HB⟩ := hrel
     cases gk with
     | zero => exact absurd HA.out (by simp [spec_AllRuns.l1])
     | succ k2 =>
      have H := HA.out; clear HA; simp only [spec_AllRuns.l1] at H
      by_cases c12 : x9_2 < a0
      ·rw [if_pos c12] at H; have c12b0 : decide (x9_2 < a0) = true := decide_eq_true c12; clear c12; have H' := Aside0.mk H; clear H; go_wp2
       go_loopg [10] k2 (fun kq v10 w' => ∃ (x10_3 : Int), v10 = .int .i64 x10_3 ∧ Aside0 (spec_AllRuns.l2 kq a0 l1 x8_2 x9_2 x10_3 = some (r1, r2)) ∧ Aside0 (kq ≤ k2) ∧ Aside0 (Kd.R k124 124 w' w.heap.size (fun _ => True) u8 x8_2) ∧ Aside0 (Below w.heap.size w w'))
       case atStart => exact ⟨(3), (by first | rfl | (simp; done) | (simp [*]; done)), H', ⟨Nat.le_refl _⟩, ⟨gR HO_8⟩, ⟨gB HB⟩⟩
       case round =>
        clear H'; try clear c1
        try clear p2
        try clear q2
        try clear hx2
        try clear c3
        try clear c4
        try clear c5
        try clear c5b0
        try clear c6
        try clear p6
        try clear c7
        try clear c7b0
        try clear c9
        try clear c12
        try clear c12b0
        try clear hx290_0
        try clear p2
        try clear p290
        try clear p6
        try clear q2
        try clear q290
        obtain ⟨x10_3, rfl, HA, HK3, HO_8, HB⟩ := hrel
        cases gk with
        | zero => exact absurd HA.out (by simp [spec_AllRuns.l2])
        | succ k3 =>
         have H := HA.out; clear HA; simp only [spec_AllRuns.l2] at H
         by_cases c13 : x10_3 ≥ 0
         ·rw [if_pos c13] at H; have c13b0 : decide (0 ≤ x10_3) = true := decide_eq_true c13; clear c13; replace H := Option.bind_eq_some_iff.mp H; obtain ⟨t298, A140, H⟩ := H; replace H : (if t298 = true then (if x10_3 < 0 then (spec_AllRuns.l1 k3 a0 l1 x8_2 (wrap64 (x9_2 + 1))) else (if x8_2.length < 8796093022208 then ((spec_l03Pow.f k3 x10_3).bind fun t302 => (spec_AllRuns.l1 k3 a0 l1 (x8_2 ++ [(⟨x9_2, x10_3⟩ : S124)]) (wrap64 (x9_2 + t302)))) else (none))) else (spec_AllRuns.l2 k3 a0 l1 x8_2 x9_2 (wrap64 (x10_3 - 1)))) = some (r1, r2) := H; have A14 := Aside0.mk A140; clear A140
          by_cases c15 : t298 = true
          ·subst c15
           have H1 : (if x10_3 < 0 then (spec_AllRuns.l1 k3 a0 l1 x8_2 (wrap64 (x9_2 + 1))) else (if x8_2.length < 8796093022208 then ((spec_l03Pow.f k3 x10_3).bind fun t302 => (spec_AllRuns.l1 k3 a0 l1 (x8_2 ++ [(⟨x9_2, x10_3⟩ : S124)]) (wrap64 (x9_2 + t302)))) else (none))) = some (r1, r2) := by rw [if_pos rfl] at H; exact H
           clear H; have H := H1; clear H1
           by_cases c16 : x10_3 < 0
           ·rw [if_pos c16] at H; have c16b0 : decide (x10_3 < 0) = true := decide_eq_true c16; clear c16; have H' := Aside0.mk H; clear H
            go_wp2_with (first | (go_at_call 96; (with_reducible refine (spec_l03Clear.calls k3 _ _ l1 x9_2 x10_3 true _ ?side1 ?side2 A14.out).mono ?_); (case side1 => exact gE HR1 HB); (case side2 => exact HC1.out); rintro e w' ⟨rfl, ⟨nd, rfl⟩⟩))
            go_roundg k3
            case measure => have := HJ3.out; have := HK2.out; have := HK3.out; omega
            case rel => exact ⟨(x8_2), (wrap64 (x9_2 + 1)), (by first | rfl | (simp; done) | (simp [*]; done)), H', ⟨by have := HJ3.out; have := HK2.out; have := HK3.out; omega⟩, ⟨gR HO_8⟩, ⟨gB HB⟩⟩
           ·rw [if_neg c16] at H; have c16b0 : decide (x10_3 < 0) = false := decide_eq_false c16; clear c16
            by_cases c17 : x8_2.length < 8796093022208
            ·rw [if_pos c17] at H; have LMc17 := Aside0.mk c17; clear c17
             obtain ⟨y299, hy299⟩ : ∃ y_ : List (S124), y_ = (x8_2 ++ [(⟨x9_2, x10_3⟩ : S124)]) := ⟨_, rfl⟩
             replace H : ((spec_l03Pow.f k3 x10_3).bind fun t302 => (spec_AllRuns.l1 k3 a0 l1 y299 (wrap64 (x9_2 + t302)))) = some (r1, r2) := by first | (rw [hy299]; with_reducible exact H) | (have H2_ := (Option.bind_some _ _).symm.trans H; rw [hy299]; with_reducible exact H2_) | (have H2_ := (Option.bind_some _ _).symm.trans H; with_reducible exact H2_) | with_reducible exact H | (rw [hy299]; exact H) | exact H
             have Ny299 := Aside0.mk hy299; clear hy299; replace H := Option.bind_eq_some_iff.mp H; obtain ⟨t302, A180, H⟩ := H; replace H : (spec_AllRuns.l1 k3 a0 l1 y299 (wrap64 (x9_2 + t302))) = some (r1, r2) := H; have A18 := Aside0.mk A180; clear A180; have H' := Aside0.mk H; clear H
             go_wp2_with (first | (go_at_call 96; (with_reducible refine (spec_l03Clear.calls k3 _ _ l1 x9_2 x10_3 true _ ?side1 ?side2 A14.out).mono ?_); (case side1 => exact gE HR1 HB); (case side2 => exact HC1.out); rintro e w' ⟨rfl, ⟨nd, rfl⟩⟩) | ((with_reducible refine gate_builtin (b := .append) (xs := #[.tmp 51, .tmp 55]) rfl ?_); at_builtin; refine Kd.R_append k124 (w0 := w) w.heap.size rfl (.tmp 51) (.tmp 55) 35 124 (.agg #[(.int .i64 0), (.int .i64 0)]) 16 rfl Try.underlying35 info124 rfl (by decide) (by omega) u8 x8_2 (⟨x9_2, x10_3⟩ : S124) [.int .i64 x9_2, .int .i64 x10_3] (fun _ => True) (fun _ => False) rfl rfl ?aP (fun _ hk => hk.elim) ?aF ?aO ?aB ?aS ?aL ?_; (case aP => exact k124_mkM _ _ _ (⟨x9_2, x10_3⟩ : S124)); (case aB => exact (gB HB)); (case aF => exact (fun _ _ => trivial)); (case aO => exact (gR HO_8)); (case aS => exact (below_size (gB HB))); (case aL => have := LMc17.out; omega); intro v300 w19 ho hb hg hat; rw [← Ny299.out] at ho; have n0_ := Aside0.mk (hb); have n1_ := Aside0.mk (ho); clear HB; clear HO_8; have HB := n0_; have HO301 := n1_; clear n0_ n1_; clear ho hb hg hat) | ((with_reducible refine gate_callee (f := 97) rfl ?_); refine goesL_ (some 59) rfl rfl Try.func97 (by kernel_rfl) rfl #[.int .i64 x10_3] rfl (by (try simp only [List.map_toArray, List.map_cons, List.map_nil]); first | done | rfl) ?_; (with_reducible refine (spec_l03Pow.calls k3 x10_3 t302 _ A18.out).mono ?_); rintro e w' ⟨rfl, ⟨nd, rfl⟩⟩; refine ⟨_, rfl, ?_⟩))
             go_roundg k3
             case measure => have := HJ3.out; have := HK2.out; have := HK3.out; omega
             case rel => exact ⟨(y299), (wrap64 (x9_2 + t302)), (by first | rfl | (simp; done) | (simp [*]; done)), H', ⟨by have := HJ3.out; have := HK2.out; have := HK3.out; omega⟩, ⟨gR HO301⟩, ⟨gB HB⟩⟩
            ·rw [if_neg c17] at H; exact absurd H (by simp)
          ·replace c15 := Bool.eq_false_iff.mpr c15; subst c15
           have H1 : (spec_AllRuns.l2 k3 a0 l1 x8_2 x9_2 (wrap64 (x10_3 - 1))) = some (r1, r2) := by rw [if_neg (show ¬ (false = true) by decide)] at H; exact H
           clear H; have H := H1; clear H1; have H' := Aside0.mk H; clear H
           go_wp2_with (first | (go_at_call 96; (with_reducible refine (spec_l03Clear.calls k3 _ _ l1 x9_2 x10_3 false _ ?side1 ?side2 A14.out).mono ?_); (case side1 => exact gE HR1 HB); (case side2 => exact HC1.out); rintro e w' ⟨rfl, ⟨nd, rfl⟩⟩))
           go_roundg k3
           case measure => have := HJ3.out; have := HK2.out; have := HK3.out; omega
           case rel => exact ⟨(wrap64 (x10_3 - 1)), (by first | rfl | (simp; done) | (simp [*]; done)), H', ⟨by have := HJ3.out; have := HK2.out; have := HK3.out; omega⟩, ⟨gR HO_8⟩, ⟨gB HB⟩⟩
         ·rw [if_neg c13] at H; have c13b0 : decide (0 ≤ x10_3) = false := decide_eq_false c13; clear c13
          by_cases c20 : x10_3 < 0
          ·rw [if_pos c20] at H; have c20b0 : decide (x10_3 < 0) = true := decide_eq_true c20; clear c20; have H' := Aside0.mk H; clear H; go_wp2
           go_roundg k3
           case measure => have := HJ3.out; have := HK2.out; have := HK3.out; omega
           case rel => exact ⟨(x8_2), (wrap64 (x9_2 + 1)), (by first | rfl | (simp; done) | (simp [*]; done)), H', ⟨by have := HJ3.out; have := HK2.out; have := HK3.out; omega⟩, ⟨gR HO_8⟩, ⟨gB HB⟩⟩
          ·rw [if_neg c20] at H; have c20b0 : decide (x10_3 < 0) = false := decide_eq_false c20; clear c20
           by_cases c21 : x8_2.length < 8796093022208
           ·rw [if_pos c21] at H; have LMc21 := Aside0.mk c21; clear c21
            obtain ⟨y303, hy303⟩ : ∃ y_ : List (S124), y_ = (x8_2 ++ [(⟨x9_2, x10_3⟩ : S124)]) := ⟨_, rfl⟩
            replace H : ((spec_l03Pow.f k3 x10_3).bind fun t306 => (spec_AllRuns.l1 k3 a0 l1 y303 (wrap64 (x9_2 + t306)))) = some (r1, r2) := by first | (rw [hy303]; with_reducible exact H) | (have H2_ := (Option.bind_some _ _).symm.trans H; rw [hy303]; with_reducible exact H2_) | (have H2_ := (Option.bind_some _ _).symm.trans H; with_reducible exact H2_) | with_reducible exact H | (rw [hy303]; exact H) | exact H
            have Ny303 := Aside0.mk hy303; clear hy303; replace H := Option.bind_eq_some_iff.mp H; obtain ⟨t306, A220, H⟩ := H; replace H : (spec_AllRuns.l1 k3 a0 l1 y303 (wrap64 (x9_2 + t306))) = some (r1, r2) := H; have A22 := Aside0.mk A220; clear A220; have H' := Aside0.mk H; clear H
            go_wp2_with (first | ((with_reducible refine gate_builtin (b := .append) (xs := #[.tmp 51, .tmp 55]) rfl ?_); at_builtin; refine Kd.R_append k124 (w0 := w) w.heap.size rfl (.tmp 51) (.tmp 55) 35 124 (.agg #[(.int .i64 0), (.int .i64 0)]) 16 rfl Try.underlying35 info124 rfl (by decide) (by omega) u8 x8_2 (⟨x9_2, x10_3⟩ : S124) [.int .i64 x9_2, .int .i64 x10_3] (fun _ => True) (fun _ => False) rfl rfl ?aP (fun _ hk => hk.elim) ?aF ?aO ?aB ?aS ?aL ?_; (case aP => exact k124_mkM _ _ _ (⟨x9_2, x10_3⟩ : S124)); (case aB => exact (gB HB)); (case aF => exact (fun _ _ => trivial)); (case aO => exact (gR HO_8)); (case aS => exact (below_size (gB HB))); (case aL => have := LMc21.out; omega); intro v304 w23 ho hb hg hat; rw [← Ny303.out] at ho; have n0_ := Aside0.mk (hb); have n1_ := Aside0.mk (ho); clear HB; clear HO_8; have HB := n0_; have HO305 := n1_; clear n0_ n1_; clear ho hb hg hat) | ((with_reducible refine gate_callee (f := 97) rfl ?_); refine goesL_ (some 59) rfl rfl Try.func97 (by kernel_rfl) rfl #[.int .i64 x10_3] rfl (by (try simp only [List.map_toArray, List.map_cons, List.map_nil]); first | done | rfl) ?_; (with_reducible refine (spec_l03Pow.calls k3 x10_3 t306 _ A22.out).mono ?_); rintro e w' ⟨rfl, ⟨nd, rfl⟩⟩; refine ⟨_, rfl, ?_⟩))
            go_roundg k3
            case measure => have := HJ3.out; have := HK2.out; have := HK3.out; omega
            case rel => exact ⟨(y303), (wrap64 (x9_2 + t306)), (by first | rfl | (simp; done) | (simp [*]; done)), H', ⟨by have := HJ3.out; have := HK2.out; have := HK3.out; omega⟩, ⟨gR HO305⟩, ⟨gB HB⟩⟩
           ·rw [if_neg c21] at H; exact absurd H (by simp)
      ·rw [if_neg c12] at H; have c12b0 : decide (x9_2 < a0) = false := decide_eq_false c12; clear c12; simp only [Option.some.injEq, Prod.mk.injEq] at H; obtain ⟨rfl, rfl⟩ := H; go_wp2
       go_ret2
       exact ⟨_, by first | rfl | (simp [errW_none, errW_some] <;> rfl) | (simp [*, errW_none, errW_some] <;> rfl), gR HO_8, gB HB⟩
   ·replace c9 := Bool.eq_false_iff.mpr c9; subst c9
    have H1 : (some ((([] : List (S124))), false)) = some (r1, r2) := by rw [if_neg (show ¬ (false = true) by decide)] at H; exact H
    clear H; have H := H1; clear H1
    obtain ⟨y292, hy292⟩ : ∃ y_ : List (S124), y_ = (([] : List (S124))) := ⟨_, rfl⟩
    replace H : (some (y292, false)) = some (r1, r2) := by first | (rw [hy292]; with_reducible exact H) | (have H2_ := (Option.bind_some _ _).symm.trans H; rw [hy292]; with_reducible exact H2_) | (have H2_ := (Option.bind_some _ _).symm.trans H; with_reducible exact H2_) | with_reducible exact H | (rw [hy292]; exact H) | exact H
    have Ny292 := Aside0.mk hy292; clear hy292; simp only [Option.some.injEq, Prod.mk.injEq] at H; obtain ⟨rfl, rfl⟩ := H
    go_wp2_with (first | ((with_reducible refine gate_dst (N := 31) rfl ?_); refine Kd.R_lit k124 _ 124 ?hg (N := 31) ?hd (xs := ([] : List (S124))) (inner := []) (ok := fun _ => True) (okp := fun _ => True) ?hr ?hp (fun _ hk => hk) trivial (Below.refl _ _) (Nat.le_refl _) (by simp) ?_; (case hd => rfl); (case hg => rfl); (case hr => first | (go_simp; done) | (go_simp; rfl)); (case hp => exact (Reps.none _ _)); intro v293 w24 ho25 hb hg_ hnew_; clear hg_ hnew_; (first | rw [← Ny292.out] at ho25 | (simp only [Int.reduceToNat] at ho25; rw [← Ny292.out] at ho25)); have HO294 := Aside0.mk (Kd.R_lower ho25 (below_size (gB HB))); replace HB := Aside0.mk (below_step (gB HB) hb); clear hb ho25))
    go_ret2
    exact ⟨_, by first | rfl | (simp [errW_none, errW_some] <;> rfl) | (simp [*, errW_none, errW_some] <;> rfl), gR HO294, gB HB⟩
end Go.Proofs.Ytngonhgghncdiaa.P
end
