/- What the proof of FnNewSaid rests on, part 3: plain lemmas and contracts of the functions that the law reaches (in part written by a printing program over the translation). No condition. -/
import Derived.Test.YtngonhgghncdiaaBFnNewb
import Derived.Deep.RegionHeld3
import Derived.Deep.AppendLies
import Derived.Maps.OwnSet
import Derived.Deep.Upon
section
namespace Go.Proofs.Ytngonhgghncdiaa.P
open Go.Proofs.Ytngonhgghncdiaa.Up Go.Proofs.Ytngonhgghncdiaa
open Go.RowKit Go.Proofs.YtngonhgghncdiaaW.PrintWords Go.Proofs.YtngonhgghncdiaaW.PrintLast Go.Proofs.YtngonhgghncdiaaW.PrintMore
attribute [local go_sem] max2_int min2_int max_two min_two max_three min_three max_four min_four
set_option linter.unusedVariables false
set_option linter.unusedSimpArgs false
def impl_RunsOk.l0 : Nat → List (S124) → Int → Option (Bool)
 | 0, _, _ => none
 | k + 1, x1, x5 => if x5 < (x1.length : Int) then (if 0 ≤ (wrap64 (x5 - 1)) then (if (wrap64 (x5 - 1)) < (x1.length : Int) then (if 0 ≤ x5 then (if ((rd_T124 x1 (wrap64 (x5 - 1))).f1) = ((rd_T124 x1 x5).f1) then (if ((rd_T124 x1 (wrap64 (x5 - 1))).f1) < 3 then (if 0 ≤ ((rd_T124 x1 (wrap64 (x5 - 1))).f1) then (if (Go.bits .xor .i64 ((rd_T124 x1 (wrap64 (x5 - 1))).f0) (shl .i64 1 ((rd_T124 x1 (wrap64 (x5 - 1))).f1))) = ((rd_T124 x1 x5).f0) then (some false) else (impl_RunsOk.l0 k x1 (wrap64 (x5 + 1)))) else (none)) else (impl_RunsOk.l0 k x1 (wrap64 (x5 + 1)))) else (impl_RunsOk.l0 k x1 (wrap64 (x5 + 1)))) else (none)) else (none)) else (none)) else (some true)
def impl_RunsOk.f (k : Nat) (a0 : Int) (l1 : List (S124)) : Option (Bool) := (impl_apart.f k a0 l1).bind fun t987 => (if t987 = true then (impl_RunsOk.l0 k l1 1) else (some false))
def impl_RunsOk.T6 : Bool × List (List Nat × List Nat) := (true, [([], []), ([], []), ([1], [1]), ([0, 2], [0, 2]), ([3], [3]), ([], []), ([], []), ([5, 6], [5, 6]), ([7], [7]), ([], []), ([], []), ([9, 4, 0, 1, 2, 3, 4, 9, 10], [4, 9]), ([10, 8, 11, 0, 1, 2, 3, 4, 5, 6, 7, 8, 9, 10, 11], [8, 10])])
def impl_RunsOk.B6 : List Nat := [0, 0, 2, 7, 15, 0, 0, 96, 224, 0, 0, 1567, 4095]
theorem impl_RunsOk.tab6 : rtab .any (opsOf Try.f122 6) = impl_RunsOk.T6 := by kernel_rfl
theorem impl_RunsOk.bits6 : waitsOk impl_RunsOk.T6.2 impl_RunsOk.B6 = true := by kernel_rfl
def impl_RunsOk.T7 : Bool × List (List Nat × List Nat) := (true, [([], []), ([0], [0]), ([], []), ([2], [2]), ([1, 3], [1, 3]), ([4], [4]), ([5], [5]), ([6, 5], [5, 6]), ([7, 5], [5, 7]), ([5, 8], [5, 8]), ([9, 5], [9]), ([10], [10]), ([11, 10], [10, 11]), ([10], [10]), ([13, 10], [10, 13]), ([14, 10], [10, 14]), ([12, 15, 10], [10, 12, 15]), ([10], [10]), ([17, 10], [10, 17]), ([16, 18, 10], [10, 16, 18]), ([10, 19], [10, 19])])
def impl_RunsOk.B7 : List Nat := [0, 1, 0, 4, 15, 31, 63, 127, 255, 511, 1023, 2047, 4095, 2047, 10239, 26623, 65535, 2047, 133119, 524287, 1048575]
theorem impl_RunsOk.tab7 : rtab .any (opsOf Try.f122 7) = impl_RunsOk.T7 := by kernel_rfl
theorem impl_RunsOk.bits7 : waitsOk impl_RunsOk.T7.2 impl_RunsOk.B7 = true := by kernel_rfl
set_option maxHeartbeats 8000000 in
set_option maxRecDepth 100000 in
theorem impl_RunsOk.calls (k : Nat) (a0 : Int) (A1 : Option Addr) (c1 : Nat) (l1 : List (S124)) (r : Bool) (w : World) (hr1 : Kd.C k124 w A1 l1.length l1) (hc1 : l1.length ≤ c1) (h : impl_RunsOk.f k a0 l1 = some r) :
  Calls Try.prog 122 #[.int .i64 a0, .slice A1 l1.length c1] w fun e w' => e = .returned (.bool r) ∧ Below w.heap.size w w' := by
 have hu124 := Try.underlying124; have HR1 := Aside0.mk hr1; have HC1 := Aside0.mk hc1; clear hr1 hc1; have HB := Aside0.mk (Below.refl w.heap.size w); have H : ((impl_apart.f k a0 l1).bind fun t987 => (if t987 = true then (impl_RunsOk.l0 k l1 1) else (some false))) = some r := h; clear h; replace H := Option.bind_eq_some_iff.mp H; obtain ⟨t987, A30, H⟩ := H; replace H : (if t987 = true then (impl_RunsOk.l0 k l1 1) else (some false)) = some r := H; have A3 := Aside0.mk A30; clear A30
 by_cases c4 : t987 = true
 ·subst c4
  have H1 : (impl_RunsOk.l0 k l1 1) = some r := by rw [if_pos rfl] at H; exact H
  clear H; have H := H1; clear H1; have H' := Aside0.mk H; clear H
  go_enter Try.func122, Try.ntmps122
  go_wp2_with (first | ((with_reducible refine gate_callee (f := 151) rfl ?_); refine goesL_ (some 10) rfl rfl Try.func151 (by kernel_rfl) rfl #[.int .i64 a0, .slice A1 l1.length c1] rfl (by (try simp only [List.map_toArray, List.map_cons, List.map_nil]); first | done | rfl) ?_; (with_reducible refine (impl_apart.calls k a0 _ _ l1 true _ ?side1 ?side2 A3.out).mono ?_); (case side1 => repeat (first | exact HR1.out | (with_reducible refine Kd.C_alloc ?_ _) | (with_reducible refine Kd.C_drewN ?_ _) | (with_reducible refine Kd.C_drew ?_))); (case side2 => exact HC1.out); rintro e w5 ⟨rfl, hb⟩; refine ⟨_, rfl, ?_⟩; replace HB := Aside0.mk (below_step (gB HB) hb); (try clear hb); (try clear hb2); (try clear hk); (try clear hi)))
  go_loopg [5] k (fun kq v5 w' => ∃ (x5_1 : Int), v5 = .int .i64 x5_1 ∧ Aside0 (impl_RunsOk.l0 kq l1 x5_1 = some r) ∧ Aside0 (kq ≤ k) ∧ Aside0 (Below w.heap.size w w'))
  case atStart => exact ⟨(1), (by first | rfl | (simp; done) | (simp [*]; done)), H', ⟨Nat.le_refl _⟩, ⟨gB HB⟩⟩
  case round =>
   clear H'; try clear c1
   try clear p2
   try clear c4
   obtain ⟨x5_1, rfl, HA, HK1, HB⟩ := hrel
   cases gk with
   | zero => exact absurd HA.out (by simp [impl_RunsOk.l0])
   | succ k1 =>
    have H := HA.out; clear HA; simp only [impl_RunsOk.l0] at H
    by_cases c6 : x5_1 < (l1.length : Int)
    ·rw [if_pos c6] at H; have c6b0 : decide (x5_1 < (l1.length : Int)) = true := decide_eq_true c6; clear c6
     obtain ⟨ji7, hji7⟩ : ∃ j_ : Int, (wrap64 (x5_1 - 1)) = j_ := ⟨_, rfl⟩
     replace H : (if 0 ≤ (ji7) then (if (ji7) < (l1.length : Int) then (if 0 ≤ x5_1 then (if ((rd_T124 l1 (ji7)).f1) = ((rd_T124 l1 x5_1).f1) then (if ((rd_T124 l1 (ji7)).f1) < 3 then (if 0 ≤ ((rd_T124 l1 (ji7)).f1) then (if (Go.bits .xor .i64 ((rd_T124 l1 (ji7)).f0) (shl .i64 1 ((rd_T124 l1 (ji7)).f1))) = ((rd_T124 l1 x5_1).f0) then (some false) else (impl_RunsOk.l0 k1 l1 (wrap64 (x5_1 + 1)))) else (none)) else (impl_RunsOk.l0 k1 l1 (wrap64 (x5_1 + 1)))) else (impl_RunsOk.l0 k1 l1 (wrap64 (x5_1 + 1)))) else (none)) else (none)) else (none)) = some r := by first | (rw [hji7] at H; exact H) | (simp only [hji7] at H ⊢; exact H)
     have hji7w : (IntKind.i64.wrap (x5_1 - 1)) = ji7 := (i64_w _).trans hji7
     by_cases c8 : 0 ≤ (ji7)
     ·rw [if_pos c8] at H; have c8b0 : decide (0 ≤ (ji7)) = true := decide_eq_true c8; clear c8
      by_cases c9 : (ji7) < (l1.length : Int)
      ·rw [if_pos c9] at H; have c9b0 : decide ((ji7) < (l1.length : Int)) = true := decide_eq_true c9; clear c9
       by_cases c10 : 0 ≤ x5_1
       ·rw [if_pos c10] at H; have c10b0 : decide (0 ≤ x5_1) = true := decide_eq_true c10; clear c10
        by_cases c11 : ((rd_T124 l1 (ji7)).f1) = ((rd_T124 l1 x5_1).f1)
        ·rw [if_pos c11] at H; have c11b0 : (((rd_T124 l1 (ji7)).f1) == ((rd_T124 l1 x5_1).f1)) = true := beq_iff_eq.mpr c11; have c11b1 : (((rd_T124 l1 (ji7)).f1) != ((rd_T124 l1 x5_1).f1)) = false := bne_eq_false_iff_eq.mpr c11; clear c11
         by_cases c12 : ((rd_T124 l1 (ji7)).f1) < 3
         ·rw [if_pos c12] at H; have c12b0 : decide (((rd_T124 l1 (ji7)).f1) < 3) = true := decide_eq_true c12; clear c12
          by_cases c13 : 0 ≤ ((rd_T124 l1 (ji7)).f1)
          ·rw [if_pos c13] at H; have c13b0 := eq_true c13; have c13b1 : decide (0 ≤ ((rd_T124 l1 (ji7)).f1)) = true := decide_eq_true c13; clear c13
           obtain ⟨ji14, hji14⟩ : ∃ j_ : Int, (shl .i64 1 ((rd_T124 l1 (ji7)).f1)) = j_ := ⟨_, rfl⟩
           replace H : (if (Go.bits .xor .i64 ((rd_T124 l1 (ji7)).f0) (ji14)) = ((rd_T124 l1 x5_1).f0) then (some false) else (impl_RunsOk.l0 k1 l1 (wrap64 (x5_1 + 1)))) = some r := by first | (rw [hji14] at H; exact H) | (simp only [hji14] at H ⊢; exact H)
           have hji14_ : (IntKind.i64.wrap (1 * 2 ^ min ((rd_T124 l1 (ji7)).f1).toNat 64)) = ji14 := hji14; have hji14z : ((rd_T124 l1 (ji7)).f1) ≤ 64 → (IntKind.i64.wrap (1 * 2 ^ ((rd_T124 l1 (ji7)).f1).toNat)) = ji14 := shl_small hji14
           have hji14u : (IntKind.i64.wrap (2 ^ min ((rd_T124 l1 (ji7)).f1).toNat 64)) = ji14 := by have h_ := hji14_; rw [Int.one_mul] at h_; exact h_
           have hji14v : ((rd_T124 l1 (ji7)).f1) ≤ 64 → (IntKind.i64.wrap (2 ^ ((rd_T124 l1 (ji7)).f1).toNat)) = ji14 := fun hle_ => by have h_ := hji14z hle_; rw [Int.one_mul] at h_; exact h_
           have hji14y : (wrap64 (1 * 2 ^ min ((rd_T124 l1 (ji7)).f1).toNat 64)) = ji14 := (i64_w _).symm.trans hji14_
           have hji14x : ((rd_T124 l1 (ji7)).f1) ≤ 64 → (wrap64 (1 * 2 ^ ((rd_T124 l1 (ji7)).f1).toNat)) = ji14 := fun h_ => (i64_w _).symm.trans (hji14z h_)
           by_cases c15 : (Go.bits .xor .i64 ((rd_T124 l1 (ji7)).f0) (ji14)) = ((rd_T124 l1 x5_1).f0)
           ·rw [if_pos c15] at H; have c15b0 : ((Go.bits .xor .i64 ((rd_T124 l1 (ji7)).f0) (ji14)) == ((rd_T124 l1 x5_1).f0)) = true := beq_iff_eq.mpr c15; have c15b1 : ((Go.bits .xor .i64 ((rd_T124 l1 (ji7)).f0) (ji14)) != ((rd_T124 l1 x5_1).f0)) = false := bne_eq_false_iff_eq.mpr c15; clear c15; obtain rfl := Option.some.inj H; try go_wp2
            replace HB := Aside0.mk (below_drew1 HB.out); have p988 : 0 ≤ ((ji7) : Int) := of_decide_eq_true (by first | (with_reducible assumption) | assumption); have q988 : (ji7) < (l1.length : Int) := of_decide_eq_true (by first | (with_reducible assumption) | assumption); obtain ⟨ad988, e988, hx988_0, hx988_1⟩ := at_T124 HR1.out (ji7) p988 q988; have hw988_1 := hx988_1; have hw988_0 := hx988_0
            cases e988; replace hx988_0 := (HB.out.cell (World.block_lt_of_cell? w _ hx988_0)).trans hx988_0; replace hx988_1 := (HB.out.cell (World.block_lt_of_cell? w _ hx988_1)).trans hx988_1; replace p988 := eq_true p988; replace q988 := eq_true q988; have p989 : 0 ≤ (x5_1 : Int) := of_decide_eq_true (by first | (with_reducible assumption) | assumption); have q989 : x5_1 < (l1.length : Int) := of_decide_eq_true (by first | (with_reducible assumption) | assumption); obtain ⟨ad989, e989, hx989_0, hx989_1⟩ := at_T124 HR1.out x5_1 p989 q989; have hw989_1 := hx989_1; have hw989_0 := hx989_0; obtain rfl : ad988 = ad989 := (by injection e989); replace hx989_0 := (HB.out.cell (World.block_lt_of_cell? w _ hx989_0)).trans hx989_0; replace hx989_1 := (HB.out.cell (World.block_lt_of_cell? w _ hx989_1)).trans hx989_1; replace p989 := eq_true p989; replace q989 := eq_true q989
            refine start_ (n := 13) (S := fun w' => w'.cell? (ad988.add (((ji7)).toNat * 2)) = some (.int .i64 ((rd_T124 l1 (ji7)).f0)) ∧ w'.cell? ⟨(ad988.add (((ji7)).toNat * 2)).block, (ad988.add (((ji7)).toNat * 2)).off + 1, none⟩ = some (.int .i64 ((rd_T124 l1 (ji7)).f1)) ∧ w'.cell? (ad988.add ((x5_1).toNat * 2)) = some (.int .i64 ((rd_T124 l1 x5_1).f0)) ∧ w'.cell? ⟨(ad988.add ((x5_1).toNat * 2)).block, (ad988.add ((x5_1).toNat * 2)).off + 1, none⟩ = some (.int .i64 ((rd_T124 l1 x5_1).f1))) (ds := []) #[false, false, false, false, false, false, false, false, false, false, false, false, false] (by kernel_rfl) rfl rfl ⟨((HB.out.cell (World.block_lt_of_cell? w _ hw988_0)).trans hw988_0), ((HB.out.cell (World.block_lt_of_cell? w _ hw988_1)).trans hw988_1), ((HB.out.cell (World.block_lt_of_cell? w _ hw989_0)).trans hw989_0), ((HB.out.cell (World.block_lt_of_cell? w _ hw989_1)).trans hw989_1)⟩ (fun hHeld => ?_); refine with_tabW impl_RunsOk.tab6 impl_RunsOk.bits6 (fun HT_ HW_ => ?_)
            generalize wr.drew = w16 at HB hx988_0 hx988_1 hx989_0 hx989_1 hHeld ⊢; refine pure_ (i := 0) (N := some 18) (v := ?_) (a' := ?_) #[true, false, false, false, false, false, false, false, false, false, false, false, false] rfl rfl (any_of HT_.out (by kernel_rfl)) (fun _ _ _ h => h) (Or.inl ⟨by rfl, ?_⟩) ?_ ?_; rotate_left
            ·intro w'; go_simp; with_reducible rfl
            rotate_left
            ·simp only [Act.put, pu, i64_w, i32_w]; rfl
            refine pure_ (i := 1) (N := some 19) (v := ?_) (a' := ?_) #[true, true, false, false, false, false, false, false, false, false, false, false, false] rfl rfl (any_of HT_.out (by kernel_rfl)) (fun _ _ _ h => h) (Or.inl ⟨by rfl, ?_⟩) ?_ ?_; rotate_left
            ·intro w'; go_simp; with_reducible rfl
            rotate_left
            ·simp only [Act.put, pu, i64_w, i32_w]; rfl
            refine pure_ (i := 2) (N := some 20) (v := ?_) (a' := ?_) #[true, true, true, false, false, false, false, false, false, false, false, false, false] rfl rfl (any_of HT_.out (by kernel_rfl)) (fun _ _ _ h => h) (Or.inl ⟨by rfl, ?_⟩) ?_ ?_; rotate_left
            ·intro w'; go_simp; with_reducible rfl
            rotate_left
            ·simp only [Act.put, pu, i64_w, i32_w]; rfl
            refine pure_ (i := 3) (N := some 21) (v := ?_) (a' := ?_) #[true, true, true, true, false, false, false, false, false, false, false, false, false] rfl rfl (any_of HT_.out (by kernel_rfl)) (fun _ _ _ h => h) (Or.inl ⟨by rfl, ?_⟩) ?_ ?_; rotate_left
            ·intro w'; go_simp; with_reducible rfl
            rotate_left
            ·simp only [Act.put, pu, i64_w, i32_w]; rfl
            refine pure_ (i := 5) (N := some 23) (v := ?_) (a' := ?_) #[true, true, true, true, false, true, false, false, false, false, false, false, false] rfl rfl (any_of HT_.out (by kernel_rfl)) (fun _ _ _ h => h) (Or.inl ⟨by rfl, ?_⟩) ?_ ?_; rotate_left
            ·intro w'; go_simp; with_reducible rfl
            rotate_left
            ·simp only [Act.put, pu, i64_w, i32_w]; rfl
            refine pure_ (i := 6) (N := some 24) (v := ?_) (a' := ?_) #[true, true, true, true, false, true, true, false, false, false, false, false, false] rfl rfl (any_of HT_.out (by kernel_rfl)) (fun _ _ _ h => h) (Or.inl ⟨by rfl, ?_⟩) ?_ ?_; rotate_left
            ·intro w'; go_simp; with_reducible rfl
            rotate_left
            ·simp only [Act.put, pu, i64_w, i32_w]; rfl
            refine pure_ (i := 7) (N := some 25) (v := ?_) (a' := ?_) #[true, true, true, true, false, true, true, true, false, false, false, false, false] rfl rfl (any_of HT_.out (by kernel_rfl)) (fun _ _ _ h => h) (Or.inl ⟨by rfl, ?_⟩) ?_ ?_; rotate_left
            ·intro w'; go_simp; with_reducible rfl
            rotate_left
            ·simp only [Act.put, pu, i64_w, i32_w]; rfl
            refine take_ (i := 4) (N := some 22) (v := ?_) (a' := ?_) #[true, true, true, true, true, true, true, true, false, false, false, false, false] rfl rfl (take_ofW HT_.out HW_.out (by kernel_rfl)) (fun _ _ _ h => h) (Or.inl ⟨by rfl, ?_⟩) hHeld ?_ ?_; rotate_left
            ·rintro w' ⟨s0, s1, s2, s3⟩; go_simp; with_reducible rfl
            rotate_left
            ·simp only [Act.put, pu, i64_w, i32_w]; rfl
            refine take_ (i := 8) (N := some 26) (v := ?_) (a' := ?_) #[true, true, true, true, true, true, true, true, true, false, false, false, false] rfl rfl (take_ofW HT_.out HW_.out (by kernel_rfl)) (fun _ _ _ h => h) (Or.inl ⟨by rfl, ?_⟩) hHeld ?_ ?_; rotate_left
            ·rintro w' ⟨s0, s1, s2, s3⟩; go_simp; with_reducible rfl
            rotate_left
            ·simp only [Act.put, pu, i64_w, i32_w]; rfl
            refine join_ (σ := Nat × Nat) 2 #[true, true, true, true, true, true, true, true, true, true, true, false, false] (fun s_ => [(6, .pointer (some ⟨s_.1, 0, none⟩)), (7, .pointer (some ⟨s_.2, 0, none⟩))]) (fun s_ w' => (w'.cell? (ad988.add (((ji7)).toNat * 2)) = some (.int .i64 ((rd_T124 l1 (ji7)).f0)) ∧ w'.cell? ⟨(ad988.add (((ji7)).toNat * 2)).block, (ad988.add (((ji7)).toNat * 2)).off + 1, none⟩ = some (.int .i64 ((rd_T124 l1 (ji7)).f1)) ∧ w'.cell? (ad988.add ((x5_1).toNat * 2)) = some (.int .i64 ((rd_T124 l1 x5_1).f0)) ∧ w'.cell? ⟨(ad988.add ((x5_1).toNat * 2)).block, (ad988.add ((x5_1).toNat * 2)).off + 1, none⟩ = some (.int .i64 ((rd_T124 l1 x5_1).f1))) ∧ (w'.heap[s_.1]? = some (.cells #[.int .i64 0, .int .i64 0] 124 (0, 0))) ∧ (w'.heap[s_.2]? = some (.cells #[.int .i64 0, .int .i64 0] 124 (0, 0))) ∧ (w.heap.size ≤ s_.1) ∧ (w.heap.size ≤ s_.1) ∧ (s_.2 ≠ s_.1) ∧ (s_.1 ≠ s_.2) ∧ (w.heap.size ≤ s_.2) ∧ (w.heap.size ≤ s_.2) ∧ (Below w.heap.size w w')) ?_ ?_; rotate_left
            ·intro hCont; refine two_ (i := 9) (j := 10) (Ni := some 6) (Nj := some 7) #[true, true, true, true, true, true, true, true, true, true, false, false, false] #[true, true, true, true, true, true, true, true, true, false, true, false, false] rfl rfl rfl rfl (two_of HT_.out (by kernel_rfl)) (by decide) (by decide) (fun K hK => ?_) (fun K hK => ?_)
             ·skip
              refine box_step ?hg (N := 6) ?hd (cs := #[.int .i64 0, .int .i64 0]) (t := 124) ?hr ?_; (case hd => rfl); (case hg => rfl); (case hr => first | (go_simp; done) | (go_simp; rfl))
              intro gb990 hg w17 hbox hb; have BK990 := Aside0.mk (hbox); have GW990 := Aside0.mk ((by rw [hg]; exact (below_size (gB HB)) : w.heap.size ≤ gb990)); have GE990 := Aside0.mk ((by rw [hg]; exact (below_size (gB HB)) : w.heap.size ≤ gb990)); replace HB := Aside0.mk (below_step (gB HB) hb); clear hb hbox hg; refine hK.out _ _ ⟨((HB.out.cell (World.block_lt_of_cell? w _ hw988_0)).trans hw988_0), ((HB.out.cell (World.block_lt_of_cell? w _ hw988_1)).trans hw988_1), ((HB.out.cell (World.block_lt_of_cell? w _ hw989_0)).trans hw989_0), ((HB.out.cell (World.block_lt_of_cell? w _ hw989_1)).trans hw989_1)⟩ (fun hHeld => ?_); clear hK K; refine norm_ (a' := ?_) ?_ ?_; rotate_left
              ·show Act.put _ (some 6) _ = _; simp only [Act.put, pu, i64_w, i32_w]; rfl
              refine one_ (i := 10) (N := some 7) #[true, true, true, true, true, true, true, true, true, true, true, false, false] rfl rfl (one_of HT_.out (by kernel_rfl)) (by decide) (fun K hK => ?_); refine box_step ?hg (N := 7) ?hd (cs := #[.int .i64 0, .int .i64 0]) (t := 124) ?hr ?_; (case hd => rfl); (case hg => rfl); (case hr => first | (go_simp; done) | (go_simp; rfl))
              intro gb991 hg w18 hbox hb; have BK991 := Aside0.mk (hbox); have GW991 := Aside0.mk ((by rw [hg]; exact (below_size (gT1 GE990.out HB)) : w.heap.size ≤ gb991)); have GE991 := Aside0.mk ((by rw [hg]; exact (below_size (gT1 GE990.out HB)) : w.heap.size ≤ gb991)); replace HB := Aside0.mk (below_step (gT1 GE990.out HB) hb); have NB990_991 := Aside0.mk ((by rw [hg]; exact Nat.ne_of_lt (blk_lt (g := gb990) (gK BK990)) : gb990 ≠ gb991)); have NB991_990 := Aside0.mk ((by rw [hg]; exact Nat.ne_of_gt (blk_lt (g := gb990) (gK BK990)) : gb991 ≠ gb990)); replace BK990 := Aside0.mk (blk_below (g := gb990) (gK BK990) hb); clear hb hbox hg; refine hK.out _ _ ⟨((HB.out.cell (World.block_lt_of_cell? w _ hw988_0)).trans hw988_0), ((HB.out.cell (World.block_lt_of_cell? w _ hw988_1)).trans hw988_1), ((HB.out.cell (World.block_lt_of_cell? w _ hw989_0)).trans hw989_0), ((HB.out.cell (World.block_lt_of_cell? w _ hw989_1)).trans hw989_1)⟩ (fun hHeld => ?_); clear hK K; refine norm_ (a' := ?_) ?_ ?_; rotate_left
              ·show Act.put _ (some 7) _ = _; simp only [Act.put, pu, i64_w, i32_w]; rfl
              exact norm_ (by simp only [putAll, Act.put, List.setIfInBounds_toArray, List.set_cons_zero, List.set_cons_succ]) (hCont (gb990, gb991) _ ⟨hHeld, (gK BK990), (gK BK991), GW990.out, GE990.out, NB991_990.out, NB990_991.out, GW991.out, GE991.out, (gT2 GE990.out GE991.out HB)⟩)
             ·skip
              refine box_step ?hg (N := 7) ?hd (cs := #[.int .i64 0, .int .i64 0]) (t := 124) ?hr ?_; (case hd => rfl); (case hg => rfl); (case hr => first | (go_simp; done) | (go_simp; rfl))
              intro gb991 hg w17 hbox hb; have BK991 := Aside0.mk (hbox); have GW991 := Aside0.mk ((by rw [hg]; exact (below_size (gB HB)) : w.heap.size ≤ gb991)); have GE991 := Aside0.mk ((by rw [hg]; exact (below_size (gB HB)) : w.heap.size ≤ gb991)); replace HB := Aside0.mk (below_step (gB HB) hb); clear hb hbox hg; refine hK.out _ _ ⟨((HB.out.cell (World.block_lt_of_cell? w _ hw988_0)).trans hw988_0), ((HB.out.cell (World.block_lt_of_cell? w _ hw988_1)).trans hw988_1), ((HB.out.cell (World.block_lt_of_cell? w _ hw989_0)).trans hw989_0), ((HB.out.cell (World.block_lt_of_cell? w _ hw989_1)).trans hw989_1)⟩ (fun hHeld => ?_); clear hK K; refine norm_ (a' := ?_) ?_ ?_; rotate_left
              ·show Act.put _ (some 7) _ = _; simp only [Act.put, pu, i64_w, i32_w]; rfl
              refine one_ (i := 9) (N := some 6) #[true, true, true, true, true, true, true, true, true, true, true, false, false] rfl rfl (one_of HT_.out (by kernel_rfl)) (by decide) (fun K hK => ?_); refine box_step ?hg (N := 6) ?hd (cs := #[.int .i64 0, .int .i64 0]) (t := 124) ?hr ?_; (case hd => rfl); (case hg => rfl); (case hr => first | (go_simp; done) | (go_simp; rfl))
              intro gb990 hg w18 hbox hb; have BK990 := Aside0.mk (hbox); have GW990 := Aside0.mk ((by rw [hg]; exact (below_size (gT1 GE991.out HB)) : w.heap.size ≤ gb990)); have GE990 := Aside0.mk ((by rw [hg]; exact (below_size (gT1 GE991.out HB)) : w.heap.size ≤ gb990)); replace HB := Aside0.mk (below_step (gT1 GE991.out HB) hb); have NB991_990 := Aside0.mk ((by rw [hg]; exact Nat.ne_of_lt (blk_lt (g := gb991) (gK BK991)) : gb991 ≠ gb990)); have NB990_991 := Aside0.mk ((by rw [hg]; exact Nat.ne_of_gt (blk_lt (g := gb991) (gK BK991)) : gb990 ≠ gb991)); replace BK991 := Aside0.mk (blk_below (g := gb991) (gK BK991) hb); clear hb hbox hg; refine hK.out _ _ ⟨((HB.out.cell (World.block_lt_of_cell? w _ hw988_0)).trans hw988_0), ((HB.out.cell (World.block_lt_of_cell? w _ hw988_1)).trans hw988_1), ((HB.out.cell (World.block_lt_of_cell? w _ hw989_0)).trans hw989_0), ((HB.out.cell (World.block_lt_of_cell? w _ hw989_1)).trans hw989_1)⟩ (fun hHeld => ?_); clear hK K; refine norm_ (a' := ?_) ?_ ?_; rotate_left
              ·show Act.put _ (some 6) _ = _; simp only [Act.put, pu, i64_w, i32_w]; rfl
              exact norm_ (by simp only [putAll, Act.put, List.setIfInBounds_toArray, List.set_cons_zero, List.set_cons_succ]) (hCont (gb990, gb991) _ ⟨hHeld, (gK BK990), (gK BK991), GW990.out, GE990.out, NB991_990.out, NB990_991.out, GW991.out, GE991.out, (gT2 GE991.out GE990.out HB)⟩)
            rintro ⟨gb990, gb991⟩ w19 ⟨hS_, h0_, h1_, h2_, h3_, h4_, h5_, h6_, h7_, h8_⟩; have n0_ : Aside0 (w19.heap[gb990]? = some (.cells #[.int .i64 0, .int .i64 0] 124 (0, 0))) := ⟨h0_⟩; have n1_ : Aside0 (w19.heap[gb991]? = some (.cells #[.int .i64 0, .int .i64 0] 124 (0, 0))) := ⟨h1_⟩; have n2_ : Aside0 (w.heap.size ≤ gb990) := ⟨h2_⟩; have n3_ : Aside0 (w.heap.size ≤ gb990) := ⟨h3_⟩; have n4_ : Aside0 (gb991 ≠ gb990) := ⟨h4_⟩; have n5_ : Aside0 (gb990 ≠ gb991) := ⟨h5_⟩; have n6_ : Aside0 (w.heap.size ≤ gb991) := ⟨h6_⟩; have n7_ : Aside0 (w.heap.size ≤ gb991) := ⟨h7_⟩; have n8_ : Aside0 (Below w.heap.size w w19) := ⟨h8_⟩; clear HB; clear h0_ h1_ h2_ h3_ h4_ h5_ h6_ h7_ h8_; have BK990 := n0_; have BK991 := n1_; have GW990 := n2_; have GE990 := n3_; have NB991_990 := n4_; have NB990_991 := n5_; have GW991 := n6_; have GE991 := n7_; have HB := n8_; clear n0_ n1_ n2_ n3_ n4_ n5_ n6_ n7_ n8_; have hHeld : w19.cell? (ad988.add (((ji7)).toNat * 2)) = some (.int .i64 ((rd_T124 l1 (ji7)).f0)) ∧ w19.cell? ⟨(ad988.add (((ji7)).toNat * 2)).block, (ad988.add (((ji7)).toNat * 2)).off + 1, none⟩ = some (.int .i64 ((rd_T124 l1 (ji7)).f1)) ∧ w19.cell? (ad988.add ((x5_1).toNat * 2)) = some (.int .i64 ((rd_T124 l1 x5_1).f0)) ∧ w19.cell? ⟨(ad988.add ((x5_1).toNat * 2)).block, (ad988.add ((x5_1).toNat * 2)).off + 1, none⟩ = some (.int .i64 ((rd_T124 l1 x5_1).f1)) := hS_; refine norm_ (a' := ?_) ?_ ?_; rotate_left
            ·simp only [putAll, Act.put, List.setIfInBounds_toArray, List.set_cons_zero, List.set_cons_succ]; rfl
            refine one_ (i := 11) (N := none) #[true, true, true, true, true, true, true, true, true, true, true, true, false] rfl rfl (one_of HT_.out (by kernel_rfl)) (by decide) (fun K hK => ?_); have hs20 : w19.cell? ⟨gb990, 0, none⟩ = some (.int .i64 0) := (blk_cell BK990.out 0).trans rfl; have hfs20 := blk_frozen BK990.out 0; have hns20_1 := NB991_990.out; have hms20_1 := NB990_991.out; have hs21 : w19.cell? ⟨gb990, 1, none⟩ = some (.int .i64 0) := (blk_cell BK990.out 1).trans rfl; have hfs21 := blk_frozen BK990.out 1; have hns21_1 := NB991_990.out; have hms21_1 := NB990_991.out; refine skip_ (w1 := ?_) (by rfl) rfl ?_ ?_; rotate_left
            ·go_simp; rfl
            refine hK.out _ _ ⟨((cell_far (p := ⟨gb990, _, none⟩) (by first | exact Nat.ne_of_lt (Nat.lt_of_lt_of_le (by have := World.block_lt_of_cell? _ _ hw988_0; first | rwa [add_block] at this | exact this) GW990.out) | (rw [add_block]; exact Nat.ne_of_lt (Nat.lt_of_lt_of_le (by have := World.block_lt_of_cell? _ _ hw988_0; first | rwa [add_block] at this | exact this) GW990.out)) | (show (Addr.add _ _).block ≠ _; rw [add_block]; exact Nat.ne_of_lt (Nat.lt_of_lt_of_le (by have := World.block_lt_of_cell? _ _ hw988_0; first | rwa [add_block] at this | exact this) GW990.out)) | (dsimp only; exact Nat.ne_of_lt (Nat.lt_of_lt_of_le (by have := World.block_lt_of_cell? _ _ hw988_0; first | rwa [add_block] at this | exact this) GW990.out))) _).trans (((cell_far (p := ⟨gb990, _, none⟩) (by first | exact Nat.ne_of_lt (Nat.lt_of_lt_of_le (by have := World.block_lt_of_cell? _ _ hw988_0; first | rwa [add_block] at this | exact this) GW990.out) | (rw [add_block]; exact Nat.ne_of_lt (Nat.lt_of_lt_of_le (by have := World.block_lt_of_cell? _ _ hw988_0; first | rwa [add_block] at this | exact this) GW990.out)) | (show (Addr.add _ _).block ≠ _; rw [add_block]; exact Nat.ne_of_lt (Nat.lt_of_lt_of_le (by have := World.block_lt_of_cell? _ _ hw988_0; first | rwa [add_block] at this | exact this) GW990.out)) | (dsimp only; exact Nat.ne_of_lt (Nat.lt_of_lt_of_le (by have := World.block_lt_of_cell? _ _ hw988_0; first | rwa [add_block] at this | exact this) GW990.out))) _).trans (hHeld.1)))), ((cell_far (p := ⟨gb990, _, none⟩) (by first | exact Nat.ne_of_lt (Nat.lt_of_lt_of_le (by have := World.block_lt_of_cell? _ _ hw988_1; first | rwa [add_block] at this | exact this) GW990.out) | (rw [add_block]; exact Nat.ne_of_lt (Nat.lt_of_lt_of_le (by have := World.block_lt_of_cell? _ _ hw988_1; first | rwa [add_block] at this | exact this) GW990.out)) | (show (Addr.add _ _).block ≠ _; rw [add_block]; exact Nat.ne_of_lt (Nat.lt_of_lt_of_le (by have := World.block_lt_of_cell? _ _ hw988_1; first | rwa [add_block] at this | exact this) GW990.out)) | (dsimp only; exact Nat.ne_of_lt (Nat.lt_of_lt_of_le (by have := World.block_lt_of_cell? _ _ hw988_1; first | rwa [add_block] at this | exact this) GW990.out))) _).trans (((cell_far (p := ⟨gb990, _, none⟩) (by first | exact Nat.ne_of_lt (Nat.lt_of_lt_of_le (by have := World.block_lt_of_cell? _ _ hw988_1; first | rwa [add_block] at this | exact this) GW990.out) | (rw [add_block]; exact Nat.ne_of_lt (Nat.lt_of_lt_of_le (by have := World.block_lt_of_cell? _ _ hw988_1; first | rwa [add_block] at this | exact this) GW990.out)) | (show (Addr.add _ _).block ≠ _; rw [add_block]; exact Nat.ne_of_lt (Nat.lt_of_lt_of_le (by have := World.block_lt_of_cell? _ _ hw988_1; first | rwa [add_block] at this | exact this) GW990.out)) | (dsimp only; exact Nat.ne_of_lt (Nat.lt_of_lt_of_le (by have := World.block_lt_of_cell? _ _ hw988_1; first | rwa [add_block] at this | exact this) GW990.out))) _).trans (hHeld.2.1)))), ((cell_far (p := ⟨gb990, _, none⟩) (by first | exact Nat.ne_of_lt (Nat.lt_of_lt_of_le (by have := World.block_lt_of_cell? _ _ hw989_0; first | rwa [add_block] at this | exact this) GW990.out) | (rw [add_block]; exact Nat.ne_of_lt (Nat.lt_of_lt_of_le (by have := World.block_lt_of_cell? _ _ hw989_0; first | rwa [add_block] at this | exact this) GW990.out)) | (show (Addr.add _ _).block ≠ _; rw [add_block]; exact Nat.ne_of_lt (Nat.lt_of_lt_of_le (by have := World.block_lt_of_cell? _ _ hw989_0; first | rwa [add_block] at this | exact this) GW990.out)) | (dsimp only; exact Nat.ne_of_lt (Nat.lt_of_lt_of_le (by have := World.block_lt_of_cell? _ _ hw989_0; first | rwa [add_block] at this | exact this) GW990.out))) _).trans (((cell_far (p := ⟨gb990, _, none⟩) (by first | exact Nat.ne_of_lt (Nat.lt_of_lt_of_le (by have := World.block_lt_of_cell? _ _ hw989_0; first | rwa [add_block] at this | exact this) GW990.out) | (rw [add_block]; exact Nat.ne_of_lt (Nat.lt_of_lt_of_le (by have := World.block_lt_of_cell? _ _ hw989_0; first | rwa [add_block] at this | exact this) GW990.out)) | (show (Addr.add _ _).block ≠ _; rw [add_block]; exact Nat.ne_of_lt (Nat.lt_of_lt_of_le (by have := World.block_lt_of_cell? _ _ hw989_0; first | rwa [add_block] at this | exact this) GW990.out)) | (dsimp only; exact Nat.ne_of_lt (Nat.lt_of_lt_of_le (by have := World.block_lt_of_cell? _ _ hw989_0; first | rwa [add_block] at this | exact this) GW990.out))) _).trans (hHeld.2.2.1)))), ((cell_far (p := ⟨gb990, _, none⟩) (by first | exact Nat.ne_of_lt (Nat.lt_of_lt_of_le (by have := World.block_lt_of_cell? _ _ hw989_1; first | rwa [add_block] at this | exact this) GW990.out) | (rw [add_block]; exact Nat.ne_of_lt (Nat.lt_of_lt_of_le (by have := World.block_lt_of_cell? _ _ hw989_1; first | rwa [add_block] at this | exact this) GW990.out)) | (show (Addr.add _ _).block ≠ _; rw [add_block]; exact Nat.ne_of_lt (Nat.lt_of_lt_of_le (by have := World.block_lt_of_cell? _ _ hw989_1; first | rwa [add_block] at this | exact this) GW990.out)) | (dsimp only; exact Nat.ne_of_lt (Nat.lt_of_lt_of_le (by have := World.block_lt_of_cell? _ _ hw989_1; first | rwa [add_block] at this | exact this) GW990.out))) _).trans (((cell_far (p := ⟨gb990, _, none⟩) (by first | exact Nat.ne_of_lt (Nat.lt_of_lt_of_le (by have := World.block_lt_of_cell? _ _ hw989_1; first | rwa [add_block] at this | exact this) GW990.out) | (rw [add_block]; exact Nat.ne_of_lt (Nat.lt_of_lt_of_le (by have := World.block_lt_of_cell? _ _ hw989_1; first | rwa [add_block] at this | exact this) GW990.out)) | (show (Addr.add _ _).block ≠ _; rw [add_block]; exact Nat.ne_of_lt (Nat.lt_of_lt_of_le (by have := World.block_lt_of_cell? _ _ hw989_1; first | rwa [add_block] at this | exact this) GW990.out)) | (dsimp only; exact Nat.ne_of_lt (Nat.lt_of_lt_of_le (by have := World.block_lt_of_cell? _ _ hw989_1; first | rwa [add_block] at this | exact this) GW990.out))) _).trans (hHeld.2.2.2))))⟩ (fun hHeld => ?_)
            clear hK K; refine one_ (i := 12) (N := none) #[true, true, true, true, true, true, true, true, true, true, true, true, true] rfl rfl (one_of HT_.out (by kernel_rfl)) (by decide) (fun K hK => ?_); have hs22 : w19.cell? ⟨gb991, 0, none⟩ = some (.int .i64 0) := (blk_cell BK991.out 0).trans rfl; have hfs22 := blk_frozen BK991.out 0; have hns22_0 := NB990_991.out; have hms22_0 := NB991_990.out; have hs23 : w19.cell? ⟨gb991, 1, none⟩ = some (.int .i64 0) := (blk_cell BK991.out 1).trans rfl; have hfs23 := blk_frozen BK991.out 1; have hns23_0 := NB990_991.out; have hms23_0 := NB991_990.out; refine skip_ (w1 := ?_) (by rfl) rfl ?_ ?_; rotate_left
            ·go_simp; rfl
            refine hK.out _ _ ⟨((cell_far (p := ⟨gb991, _, none⟩) (by first | exact Nat.ne_of_lt (Nat.lt_of_lt_of_le (by have := World.block_lt_of_cell? _ _ hw988_0; first | rwa [add_block] at this | exact this) GW991.out) | (rw [add_block]; exact Nat.ne_of_lt (Nat.lt_of_lt_of_le (by have := World.block_lt_of_cell? _ _ hw988_0; first | rwa [add_block] at this | exact this) GW991.out)) | (show (Addr.add _ _).block ≠ _; rw [add_block]; exact Nat.ne_of_lt (Nat.lt_of_lt_of_le (by have := World.block_lt_of_cell? _ _ hw988_0; first | rwa [add_block] at this | exact this) GW991.out)) | (dsimp only; exact Nat.ne_of_lt (Nat.lt_of_lt_of_le (by have := World.block_lt_of_cell? _ _ hw988_0; first | rwa [add_block] at this | exact this) GW991.out))) _).trans (((cell_far (p := ⟨gb991, _, none⟩) (by first | exact Nat.ne_of_lt (Nat.lt_of_lt_of_le (by have := World.block_lt_of_cell? _ _ hw988_0; first | rwa [add_block] at this | exact this) GW991.out) | (rw [add_block]; exact Nat.ne_of_lt (Nat.lt_of_lt_of_le (by have := World.block_lt_of_cell? _ _ hw988_0; first | rwa [add_block] at this | exact this) GW991.out)) | (show (Addr.add _ _).block ≠ _; rw [add_block]; exact Nat.ne_of_lt (Nat.lt_of_lt_of_le (by have := World.block_lt_of_cell? _ _ hw988_0; first | rwa [add_block] at this | exact this) GW991.out)) | (dsimp only; exact Nat.ne_of_lt (Nat.lt_of_lt_of_le (by have := World.block_lt_of_cell? _ _ hw988_0; first | rwa [add_block] at this | exact this) GW991.out))) _).trans (hHeld.1)))), ((cell_far (p := ⟨gb991, _, none⟩) (by first | exact Nat.ne_of_lt (Nat.lt_of_lt_of_le (by have := World.block_lt_of_cell? _ _ hw988_1; first | rwa [add_block] at this | exact this) GW991.out) | (rw [add_block]; exact Nat.ne_of_lt (Nat.lt_of_lt_of_le (by have := World.block_lt_of_cell? _ _ hw988_1; first | rwa [add_block] at this | exact this) GW991.out)) | (show (Addr.add _ _).block ≠ _; rw [add_block]; exact Nat.ne_of_lt (Nat.lt_of_lt_of_le (by have := World.block_lt_of_cell? _ _ hw988_1; first | rwa [add_block] at this | exact this) GW991.out)) | (dsimp only; exact Nat.ne_of_lt (Nat.lt_of_lt_of_le (by have := World.block_lt_of_cell? _ _ hw988_1; first | rwa [add_block] at this | exact this) GW991.out))) _).trans (((cell_far (p := ⟨gb991, _, none⟩) (by first | exact Nat.ne_of_lt (Nat.lt_of_lt_of_le (by have := World.block_lt_of_cell? _ _ hw988_1; first | rwa [add_block] at this | exact this) GW991.out) | (rw [add_block]; exact Nat.ne_of_lt (Nat.lt_of_lt_of_le (by have := World.block_lt_of_cell? _ _ hw988_1; first | rwa [add_block] at this | exact this) GW991.out)) | (show (Addr.add _ _).block ≠ _; rw [add_block]; exact Nat.ne_of_lt (Nat.lt_of_lt_of_le (by have := World.block_lt_of_cell? _ _ hw988_1; first | rwa [add_block] at this | exact this) GW991.out)) | (dsimp only; exact Nat.ne_of_lt (Nat.lt_of_lt_of_le (by have := World.block_lt_of_cell? _ _ hw988_1; first | rwa [add_block] at this | exact this) GW991.out))) _).trans (hHeld.2.1)))), ((cell_far (p := ⟨gb991, _, none⟩) (by first | exact Nat.ne_of_lt (Nat.lt_of_lt_of_le (by have := World.block_lt_of_cell? _ _ hw989_0; first | rwa [add_block] at this | exact this) GW991.out) | (rw [add_block]; exact Nat.ne_of_lt (Nat.lt_of_lt_of_le (by have := World.block_lt_of_cell? _ _ hw989_0; first | rwa [add_block] at this | exact this) GW991.out)) | (show (Addr.add _ _).block ≠ _; rw [add_block]; exact Nat.ne_of_lt (Nat.lt_of_lt_of_le (by have := World.block_lt_of_cell? _ _ hw989_0; first | rwa [add_block] at this | exact this) GW991.out)) | (dsimp only; exact Nat.ne_of_lt (Nat.lt_of_lt_of_le (by have := World.block_lt_of_cell? _ _ hw989_0; first | rwa [add_block] at this | exact this) GW991.out))) _).trans (((cell_far (p := ⟨gb991, _, none⟩) (by first | exact Nat.ne_of_lt (Nat.lt_of_lt_of_le (by have := World.block_lt_of_cell? _ _ hw989_0; first | rwa [add_block] at this | exact this) GW991.out) | (rw [add_block]; exact Nat.ne_of_lt (Nat.lt_of_lt_of_le (by have := World.block_lt_of_cell? _ _ hw989_0; first | rwa [add_block] at this | exact this) GW991.out)) | (show (Addr.add _ _).block ≠ _; rw [add_block]; exact Nat.ne_of_lt (Nat.lt_of_lt_of_le (by have := World.block_lt_of_cell? _ _ hw989_0; first | rwa [add_block] at this | exact this) GW991.out)) | (dsimp only; exact Nat.ne_of_lt (Nat.lt_of_lt_of_le (by have := World.block_lt_of_cell? _ _ hw989_0; first | rwa [add_block] at this | exact this) GW991.out))) _).trans (hHeld.2.2.1)))), ((cell_far (p := ⟨gb991, _, none⟩) (by first | exact Nat.ne_of_lt (Nat.lt_of_lt_of_le (by have := World.block_lt_of_cell? _ _ hw989_1; first | rwa [add_block] at this | exact this) GW991.out) | (rw [add_block]; exact Nat.ne_of_lt (Nat.lt_of_lt_of_le (by have := World.block_lt_of_cell? _ _ hw989_1; first | rwa [add_block] at this | exact this) GW991.out)) | (show (Addr.add _ _).block ≠ _; rw [add_block]; exact Nat.ne_of_lt (Nat.lt_of_lt_of_le (by have := World.block_lt_of_cell? _ _ hw989_1; first | rwa [add_block] at this | exact this) GW991.out)) | (dsimp only; exact Nat.ne_of_lt (Nat.lt_of_lt_of_le (by have := World.block_lt_of_cell? _ _ hw989_1; first | rwa [add_block] at this | exact this) GW991.out))) _).trans (((cell_far (p := ⟨gb991, _, none⟩) (by first | exact Nat.ne_of_lt (Nat.lt_of_lt_of_le (by have := World.block_lt_of_cell? _ _ hw989_1; first | rwa [add_block] at this | exact this) GW991.out) | (rw [add_block]; exact Nat.ne_of_lt (Nat.lt_of_lt_of_le (by have := World.block_lt_of_cell? _ _ hw989_1; first | rwa [add_block] at this | exact this) GW991.out)) | (show (Addr.add _ _).block ≠ _; rw [add_block]; exact Nat.ne_of_lt (Nat.lt_of_lt_of_le (by have := World.block_lt_of_cell? _ _ hw989_1; first | rwa [add_block] at this | exact this) GW991.out)) | (dsimp only; exact Nat.ne_of_lt (Nat.lt_of_lt_of_le (by have := World.block_lt_of_cell? _ _ hw989_1; first | rwa [add_block] at this | exact this) GW991.out))) _).trans (hHeld.2.2.2))))⟩ (fun hHeld => ?_)
            clear hK K; refine done_ (done_of HT_.out (by kernel_rfl)) ?_; try go_wp2
            have n0_ : Aside0 (((((w19.setCell ⟨gb990, 0, none⟩ (.int .i64 ((rd_T124 l1 (ji7)).f0))).setCell ⟨gb990, 1, none⟩ (.int .i64 ((rd_T124 l1 (ji7)).f1))).setCell ⟨gb991, 0, none⟩ (.int .i64 ((rd_T124 l1 x5_1).f0))).setCell ⟨gb991, 1, none⟩ (.int .i64 ((rd_T124 l1 x5_1).f1))).heap[gb990]? = some (.cells #[.int .i64 ((rd_T124 l1 (ji7)).f0), .int .i64 ((rd_T124 l1 (ji7)).f1)] 124 (0, 0))) := ⟨by (with_reducible repeat (first | refine blk_drewN ?_ _ | refine blk_drew ?_ | refine blk_alloc ?_ _)); refine blk_far ?_ NB990_991.out _; (with_reducible repeat (first | refine blk_drewN ?_ _ | refine blk_drew ?_ | refine blk_alloc ?_ _)); refine blk_far ?_ NB990_991.out _; (with_reducible repeat (first | refine blk_drewN ?_ _ | refine blk_drew ?_ | refine blk_alloc ?_ _)); refine blk_put (cs := #[.int .i64 ((rd_T124 l1 (ji7)).f0), .int .i64 0]) ?_ 1 _ rfl; (with_reducible repeat (first | refine blk_drewN ?_ _ | refine blk_drew ?_ | refine blk_alloc ?_ _)); refine blk_put (cs := #[.int .i64 0, .int .i64 0]) ?_ 0 _ rfl; (with_reducible repeat (first | refine blk_drewN ?_ _ | refine blk_drew ?_ | refine blk_alloc ?_ _)); exact BK990.out⟩
            have n1_ : Aside0 (((((w19.setCell ⟨gb990, 0, none⟩ (.int .i64 ((rd_T124 l1 (ji7)).f0))).setCell ⟨gb990, 1, none⟩ (.int .i64 ((rd_T124 l1 (ji7)).f1))).setCell ⟨gb991, 0, none⟩ (.int .i64 ((rd_T124 l1 x5_1).f0))).setCell ⟨gb991, 1, none⟩ (.int .i64 ((rd_T124 l1 x5_1).f1))).heap[gb991]? = some (.cells #[.int .i64 ((rd_T124 l1 x5_1).f0), .int .i64 ((rd_T124 l1 x5_1).f1)] 124 (0, 0))) := ⟨by (with_reducible repeat (first | refine blk_drewN ?_ _ | refine blk_drew ?_ | refine blk_alloc ?_ _)); refine blk_put (cs := #[.int .i64 ((rd_T124 l1 x5_1).f0), .int .i64 0]) ?_ 1 _ rfl; (with_reducible repeat (first | refine blk_drewN ?_ _ | refine blk_drew ?_ | refine blk_alloc ?_ _)); refine blk_put (cs := #[.int .i64 0, .int .i64 0]) ?_ 0 _ rfl; (with_reducible repeat (first | refine blk_drewN ?_ _ | refine blk_drew ?_ | refine blk_alloc ?_ _)); refine blk_far ?_ NB991_990.out _; (with_reducible repeat (first | refine blk_drewN ?_ _ | refine blk_drew ?_ | refine blk_alloc ?_ _)); refine blk_far ?_ NB991_990.out _; (with_reducible repeat (first | refine blk_drewN ?_ _ | refine blk_drew ?_ | refine blk_alloc ?_ _)); exact BK991.out⟩; have n2_ : Aside0 (Below w.heap.size w ((((w19.setCell ⟨gb990, 0, none⟩ (.int .i64 ((rd_T124 l1 (ji7)).f0))).setCell ⟨gb990, 1, none⟩ (.int .i64 ((rd_T124 l1 (ji7)).f1))).setCell ⟨gb991, 0, none⟩ (.int .i64 ((rd_T124 l1 x5_1).f0))).setCell ⟨gb991, 1, none⟩ (.int .i64 ((rd_T124 l1 x5_1).f1)))) := ⟨gT2 GE990.out GE991.out HB⟩; (try clear BK990); (try clear BK991); (try clear HB)
            generalize ((((w19.setCell ⟨gb990, 0, none⟩ (.int .i64 ((rd_T124 l1 (ji7)).f0))).setCell ⟨gb990, 1, none⟩ (.int .i64 ((rd_T124 l1 (ji7)).f1))).setCell ⟨gb991, 0, none⟩ (.int .i64 ((rd_T124 l1 x5_1).f0))).setCell ⟨gb991, 1, none⟩ (.int .i64 ((rd_T124 l1 x5_1).f1))) = w24 at n0_ n1_ n2_ ⊢; have BK990 := n0_; have BK991 := n1_; have HB := n2_; clear n0_ n1_ n2_; replace BK990 := Aside0.mk (blk_drew BK990.out); replace BK991 := Aside0.mk (blk_drew BK991.out); replace HB := Aside0.mk (below_drew1 HB.out); refine start_ (n := 21) (S := fun w' => w'.cell? ⟨gb990, 0, none⟩ = some (.int .i64 ((rd_T124 l1 (ji7)).f0)) ∧ w'.cell? ⟨gb990, 1, none⟩ = some (.int .i64 ((rd_T124 l1 (ji7)).f1)) ∧ w'.cell? ⟨gb991, 0, none⟩ = some (.int .i64 ((rd_T124 l1 x5_1).f0)) ∧ w'.cell? ⟨gb991, 1, none⟩ = some (.int .i64 ((rd_T124 l1 x5_1).f1))) (ds := []) #[false, false, false, false, false, false, false, false, false, false, false, false, false, false, false, false, false, false, false, false, false] (by kernel_rfl) rfl rfl ⟨(blk_cell BK990.out 0).trans rfl, (blk_cell BK990.out 1).trans rfl, (blk_cell BK991.out 0).trans rfl, (blk_cell BK991.out 1).trans rfl⟩ (fun hHeld => ?_); refine with_tabW impl_RunsOk.tab7 impl_RunsOk.bits7 (fun HT_ HW_ => ?_)
            generalize w24.drew = w25 at BK990 BK991 HB hHeld ⊢; refine pure_ (i := 0) (N := some 27) (v := ?_) (a' := ?_) #[true, false, false, false, false, false, false, false, false, false, false, false, false, false, false, false, false, false, false, false, false] rfl rfl (any_of HT_.out (by kernel_rfl)) (fun _ _ _ h => h) (Or.inl ⟨by rfl, ?_⟩) ?_ ?_; rotate_left
            ·intro w'; go_simp; with_reducible rfl
            rotate_left
            ·simp only [Act.put, pu, i64_w, i32_w]; rfl
            refine pure_ (i := 2) (N := some 29) (v := ?_) (a' := ?_) #[true, false, true, false, false, false, false, false, false, false, false, false, false, false, false, false, false, false, false, false, false] rfl rfl (any_of HT_.out (by kernel_rfl)) (fun _ _ _ h => h) (Or.inl ⟨by rfl, ?_⟩) ?_ ?_; rotate_left
            ·intro w'; go_simp; with_reducible rfl
            rotate_left
            ·simp only [Act.put, pu, i64_w, i32_w]; rfl
            refine take_ (i := 1) (N := some 28) (v := ?_) (a' := ?_) #[true, true, true, false, false, false, false, false, false, false, false, false, false, false, false, false, false, false, false, false, false] rfl rfl (take_ofW HT_.out HW_.out (by kernel_rfl)) (fun _ _ _ h => h) (Or.inl ⟨by rfl, ?_⟩) hHeld ?_ ?_; rotate_left
            ·rintro w' ⟨s0, s1, s2, s3⟩; go_simp; with_reducible rfl
            rotate_left
            ·simp only [Act.put, pu, i64_w, i32_w]; rfl
            refine take_ (i := 3) (N := some 30) (v := ?_) (a' := ?_) #[true, true, true, true, false, false, false, false, false, false, false, false, false, false, false, false, false, false, false, false, false] rfl rfl (take_ofW HT_.out HW_.out (by kernel_rfl)) (fun _ _ _ h => h) (Or.inl ⟨by rfl, ?_⟩) hHeld ?_ ?_; rotate_left
            ·rintro w' ⟨s0, s1, s2, s3⟩; go_simp; with_reducible rfl
            rotate_left
            ·simp only [Act.put, pu, i64_w, i32_w]; rfl
            refine pure_ (i := 4) (N := some 31) (v := ?_) (a' := ?_) #[true, true, true, true, true, false, false, false, false, false, false, false, false, false, false, false, false, false, false, false, false] rfl rfl (any_of HT_.out (by kernel_rfl)) (fun _ _ _ h => h) (Or.inl ⟨by rfl, ?_⟩) ?_ ?_; rotate_left
            ·intro w'; go_simp; with_reducible rfl
            rotate_left
            ·simp only [Act.put, pu, i64_w, i32_w]; rfl
            refine pure_ (i := 5) (N := some 32) (v := ?_) (a' := ?_) #[true, true, true, true, true, true, false, false, false, false, false, false, false, false, false, false, false, false, false, false, false] rfl rfl (any_of HT_.out (by kernel_rfl)) (fun _ _ _ h => h) (Or.inl ⟨by rfl, ?_⟩) ?_ ?_; rotate_left
            ·intro w'; go_simp; with_reducible rfl
            rotate_left
            ·simp only [Act.put, pu, i64_w, i32_w]; rfl
            refine pure_ (i := 6) (N := some 33) (v := ?_) (a' := ?_) #[true, true, true, true, true, true, true, false, false, false, false, false, false, false, false, false, false, false, false, false, false] rfl rfl (any_of HT_.out (by kernel_rfl)) (fun _ _ _ h => h) (Or.inl ⟨by rfl, ?_⟩) ?_ ?_; rotate_left
            ·intro w'; go_simp; with_reducible rfl
            rotate_left
            ·simp only [Act.put, pu, i64_w, i32_w]; rfl
            refine take_ (i := 7) (N := some 34) (v := ?_) (a' := ?_) #[true, true, true, true, true, true, true, true, false, false, false, false, false, false, false, false, false, false, false, false, false] rfl rfl (take_ofW HT_.out HW_.out (by kernel_rfl)) (fun _ _ _ h => h) (Or.inl ⟨by rfl, ?_⟩) hHeld ?_ ?_; rotate_left
            ·rintro w' ⟨s0, s1, s2, s3⟩; go_simp; with_reducible rfl
            rotate_left
            ·simp only [Act.put, pu, i64_w, i32_w]; rfl
            refine pure_ (i := 8) (N := some 35) (v := ?_) (a' := ?_) #[true, true, true, true, true, true, true, true, true, false, false, false, false, false, false, false, false, false, false, false, false] rfl rfl (any_of HT_.out (by kernel_rfl)) (fun _ _ _ h => h) (Or.inl ⟨by rfl, ?_⟩) ?_ ?_; rotate_left
            ·intro w'; go_simp; with_reducible rfl
            rotate_left
            ·simp only [Act.put, pu, i64_w, i32_w]; rfl
            refine pure_ (i := 9) (N := some 36) (v := ?_) (a' := ?_) #[true, true, true, true, true, true, true, true, true, true, false, false, false, false, false, false, false, false, false, false, false] rfl rfl (any_of HT_.out (by kernel_rfl)) (fun _ _ _ h => h) (Or.inl ⟨by rfl, ?_⟩) ?_ ?_; rotate_left
            ·intro w'; go_simp; with_reducible rfl
            rotate_left
            ·simp only [Act.put, pu, i64_w, i32_w]; rfl
            refine pure_ (i := 10) (N := some 37) (v := ?_) (a' := ?_) #[true, true, true, true, true, true, true, true, true, true, true, false, false, false, false, false, false, false, false, false, false] rfl rfl (any_of HT_.out (by kernel_rfl)) (fun _ _ _ h => h) (Or.inl ⟨by rfl, ?_⟩) ?_ ?_; rotate_left
            ·intro w'; go_simp; with_reducible rfl
            rotate_left
            ·simp only [Act.put, pu, i64_w, i32_w]; rfl
            refine pure_ (i := 11) (N := some 38) (v := ?_) (a' := ?_) #[true, true, true, true, true, true, true, true, true, true, true, true, false, false, false, false, false, false, false, false, false] rfl rfl (any_of HT_.out (by kernel_rfl)) (fun _ _ _ h => h) (Or.inl ⟨by rfl, ?_⟩) ?_ ?_; rotate_left
            ·intro w'; go_simp; with_reducible rfl
            rotate_left
            ·simp only [Act.put, pu, i64_w, i32_w]; rfl
            refine pure_ (i := 13) (N := some 40) (v := ?_) (a' := ?_) #[true, true, true, true, true, true, true, true, true, true, true, true, false, true, false, false, false, false, false, false, false] rfl rfl (any_of HT_.out (by kernel_rfl)) (fun _ _ _ h => h) (Or.inl ⟨by rfl, ?_⟩) ?_ ?_; rotate_left
            ·intro w'; go_simp; with_reducible rfl
            rotate_left
            ·simp only [Act.put, pu, i64_w, i32_w]; rfl
            refine pure_ (i := 17) (N := some 44) (v := ?_) (a' := ?_) #[true, true, true, true, true, true, true, true, true, true, true, true, false, true, false, false, false, true, false, false, false] rfl rfl (any_of HT_.out (by kernel_rfl)) (fun _ _ _ h => h) (Or.inl ⟨by rfl, ?_⟩) ?_ ?_; rotate_left
            ·intro w'; go_simp; with_reducible rfl
            rotate_left
            ·simp only [Act.put, pu, i64_w, i32_w]; rfl
            refine take_ (i := 12) (N := some 39) (v := ?_) (a' := ?_) #[true, true, true, true, true, true, true, true, true, true, true, true, true, true, false, false, false, true, false, false, false] rfl rfl (take_ofW HT_.out HW_.out (by kernel_rfl)) (fun _ _ _ h => h) (Or.inl ⟨by rfl, ?_⟩) hHeld ?_ ?_; rotate_left
            ·rintro w' ⟨s0, s1, s2, s3⟩; go_simp; with_reducible rfl
            rotate_left
            ·simp only [Act.put, pu, i64_w, i32_w]; rfl
            refine take_ (i := 14) (N := some 41) (v := ?_) (a' := ?_) #[true, true, true, true, true, true, true, true, true, true, true, true, true, true, true, false, false, true, false, false, false] rfl rfl (take_ofW HT_.out HW_.out (by kernel_rfl)) (fun _ _ _ h => h) (Or.inl ⟨by rfl, ?_⟩) hHeld ?_ ?_; rotate_left
            ·rintro w' ⟨s0, s1, s2, s3⟩; go_simp; with_reducible rfl
            rotate_left
            ·simp only [Act.put, pu, i64_w, i32_w]; rfl
            refine pure_ (i := 15) (N := some 42) (v := ?_) (a' := ?_) #[true, true, true, true, true, true, true, true, true, true, true, true, true, true, true, true, false, true, false, false, false] rfl rfl (any_of HT_.out (by kernel_rfl)) (fun _ _ _ h => h) (Or.inl ⟨by rfl, ?_⟩) ?_ ?_; rotate_left
            ·intro w'; go_simp; with_reducible rfl
            rotate_left
            ·simp only [Act.put, pu, i64_w, i32_w]; rfl
            refine pure_ (i := 16) (N := some 43) (v := ?_) (a' := ?_) #[true, true, true, true, true, true, true, true, true, true, true, true, true, true, true, true, true, true, false, false, false] rfl rfl (any_of HT_.out (by kernel_rfl)) (fun _ _ _ h => h) (Or.inl ⟨by rfl, ?_⟩) ?_ ?_; rotate_left
            ·intro w'; go_simp; with_reducible rfl
            rotate_left
            ·simp only [Act.put, pu, i64_w, i32_w]; rfl
            refine take_ (i := 18) (N := some 45) (v := ?_) (a' := ?_) #[true, true, true, true, true, true, true, true, true, true, true, true, true, true, true, true, true, true, true, false, false] rfl rfl (take_ofW HT_.out HW_.out (by kernel_rfl)) (fun _ _ _ h => h) (Or.inl ⟨by rfl, ?_⟩) hHeld ?_ ?_; rotate_left
            ·rintro w' ⟨s0, s1, s2, s3⟩; go_simp; with_reducible rfl
            rotate_left
            ·simp only [Act.put, pu, i64_w, i32_w]; rfl
            refine pure_ (i := 19) (N := some 46) (v := ?_) (a' := ?_) #[true, true, true, true, true, true, true, true, true, true, true, true, true, true, true, true, true, true, true, true, false] rfl rfl (any_of HT_.out (by kernel_rfl)) (fun _ _ _ h => h) (Or.inl ⟨by rfl, ?_⟩) ?_ ?_; rotate_left
            ·intro w'; go_simp; with_reducible rfl
            rotate_left
            ·simp only [Act.put, pu, i64_w, i32_w]; rfl
            refine pure_ (i := 20) (N := some 47) (v := ?_) (a' := ?_) #[true, true, true, true, true, true, true, true, true, true, true, true, true, true, true, true, true, true, true, true, true] rfl rfl (any_of HT_.out (by kernel_rfl)) (fun _ _ _ h => h) (Or.inl ⟨by rfl, ?_⟩) ?_ ?_; rotate_left
            ·intro w'; go_simp; with_reducible rfl
            rotate_left
            ·simp only [Act.put, pu, i64_w, i32_w]; rfl
            refine done_ (done_of HT_.out (by kernel_rfl)) ?_; try go_wp2
            go_ret
            exact ⟨by first | rfl | (simp [errW_none, errW_some] <;> rfl) | (simp only [← hji7, ← hji14]; first | rfl | (simp [errW_none, errW_some] <;> rfl)) | (simp [*, errW_none, errW_some] <;> rfl), gT2 GE990.out GE991.out HB⟩
           ·rw [if_neg c15] at H; have c15b0 : ((Go.bits .xor .i64 ((rd_T124 l1 (ji7)).f0) (ji14)) == ((rd_T124 l1 x5_1).f0)) = false := beq_eq_false_iff_ne.mpr c15; have c15b1 : ((Go.bits .xor .i64 ((rd_T124 l1 (ji7)).f0) (ji14)) != ((rd_T124 l1 x5_1).f0)) = true := bne_iff_ne.mpr c15; have H' := Aside0.mk H; clear H; try go_wp2
            replace HB := Aside0.mk (below_drew1 HB.out); have p988 : 0 ≤ ((ji7) : Int) := of_decide_eq_true (by first | (with_reducible assumption) | assumption); have q988 : (ji7) < (l1.length : Int) := of_decide_eq_true (by first | (with_reducible assumption) | assumption); obtain ⟨ad988, e988, hx988_0, hx988_1⟩ := at_T124 HR1.out (ji7) p988 q988; have hw988_1 := hx988_1; have hw988_0 := hx988_0
            cases e988; replace hx988_0 := (HB.out.cell (World.block_lt_of_cell? w _ hx988_0)).trans hx988_0; replace hx988_1 := (HB.out.cell (World.block_lt_of_cell? w _ hx988_1)).trans hx988_1; replace p988 := eq_true p988; replace q988 := eq_true q988; have p989 : 0 ≤ (x5_1 : Int) := of_decide_eq_true (by first | (with_reducible assumption) | assumption); have q989 : x5_1 < (l1.length : Int) := of_decide_eq_true (by first | (with_reducible assumption) | assumption); obtain ⟨ad989, e989, hx989_0, hx989_1⟩ := at_T124 HR1.out x5_1 p989 q989; have hw989_1 := hx989_1; have hw989_0 := hx989_0; obtain rfl : ad988 = ad989 := (by injection e989); replace hx989_0 := (HB.out.cell (World.block_lt_of_cell? w _ hx989_0)).trans hx989_0; replace hx989_1 := (HB.out.cell (World.block_lt_of_cell? w _ hx989_1)).trans hx989_1; replace p989 := eq_true p989; replace q989 := eq_true q989
            refine start_ (n := 13) (S := fun w' => w'.cell? (ad988.add (((ji7)).toNat * 2)) = some (.int .i64 ((rd_T124 l1 (ji7)).f0)) ∧ w'.cell? ⟨(ad988.add (((ji7)).toNat * 2)).block, (ad988.add (((ji7)).toNat * 2)).off + 1, none⟩ = some (.int .i64 ((rd_T124 l1 (ji7)).f1)) ∧ w'.cell? (ad988.add ((x5_1).toNat * 2)) = some (.int .i64 ((rd_T124 l1 x5_1).f0)) ∧ w'.cell? ⟨(ad988.add ((x5_1).toNat * 2)).block, (ad988.add ((x5_1).toNat * 2)).off + 1, none⟩ = some (.int .i64 ((rd_T124 l1 x5_1).f1))) (ds := []) #[false, false, false, false, false, false, false, false, false, false, false, false, false] (by kernel_rfl) rfl rfl ⟨((HB.out.cell (World.block_lt_of_cell? w _ hw988_0)).trans hw988_0), ((HB.out.cell (World.block_lt_of_cell? w _ hw988_1)).trans hw988_1), ((HB.out.cell (World.block_lt_of_cell? w _ hw989_0)).trans hw989_0), ((HB.out.cell (World.block_lt_of_cell? w _ hw989_1)).trans hw989_1)⟩ (fun hHeld => ?_); refine with_tabW impl_RunsOk.tab6 impl_RunsOk.bits6 (fun HT_ HW_ => ?_)
            generalize wr.drew = w26 at HB hx988_0 hx988_1 hx989_0 hx989_1 hHeld ⊢; refine pure_ (i := 0) (N := some 18) (v := ?_) (a' := ?_) #[true, false, false, false, false, false, false, false, false, false, false, false, false] rfl rfl (any_of HT_.out (by kernel_rfl)) (fun _ _ _ h => h) (Or.inl ⟨by rfl, ?_⟩) ?_ ?_; rotate_left
            ·intro w'; go_simp; with_reducible rfl
            rotate_left
            ·simp only [Act.put, pu, i64_w, i32_w]; rfl
            refine pure_ (i := 1) (N := some 19) (v := ?_) (a' := ?_) #[true, true, false, false, false, false, false, false, false, false, false, false, false] rfl rfl (any_of HT_.out (by kernel_rfl)) (fun _ _ _ h => h) (Or.inl ⟨by rfl, ?_⟩) ?_ ?_; rotate_left
            ·intro w'; go_simp; with_reducible rfl
            rotate_left
            ·simp only [Act.put, pu, i64_w, i32_w]; rfl
            refine pure_ (i := 2) (N := some 20) (v := ?_) (a' := ?_) #[true, true, true, false, false, false, false, false, false, false, false, false, false] rfl rfl (any_of HT_.out (by kernel_rfl)) (fun _ _ _ h => h) (Or.inl ⟨by rfl, ?_⟩) ?_ ?_; rotate_left
            ·intro w'; go_simp; with_reducible rfl
            rotate_left
            ·simp only [Act.put, pu, i64_w, i32_w]; rfl
            refine pure_ (i := 3) (N := some 21) (v := ?_) (a' := ?_) #[true, true, true, true, false, false, false, false, false, false, false, false, false] rfl rfl (any_of HT_.out (by kernel_rfl)) (fun _ _ _ h => h) (Or.inl ⟨by rfl, ?_⟩) ?_ ?_; rotate_left
            ·intro w'; go_simp; with_reducible rfl
            rotate_left
            ·simp only [Act.put, pu, i64_w, i32_w]; rfl
            refine pure_ (i := 5) (N := some 23) (v := ?_) (a' := ?_) #[true, true, true, true, false, true, false, false, false, false, false, false, false] rfl rfl (any_of HT_.out (by kernel_rfl)) (fun _ _ _ h => h) (Or.inl ⟨by rfl, ?_⟩) ?_ ?_; rotate_left
            ·intro w'; go_simp; with_reducible rfl
            rotate_left
            ·simp only [Act.put, pu, i64_w, i32_w]; rfl
            refine pure_ (i := 6) (N := some 24) (v := ?_) (a' := ?_) #[true, true, true, true, false, true, true, false, false, false, false, false, false] rfl rfl (any_of HT_.out (by kernel_rfl)) (fun _ _ _ h => h) (Or.inl ⟨by rfl, ?_⟩) ?_ ?_; rotate_left
            ·intro w'; go_simp; with_reducible rfl
            rotate_left
            ·simp only [Act.put, pu, i64_w, i32_w]; rfl
            refine pure_ (i := 7) (N := some 25) (v := ?_) (a' := ?_) #[true, true, true, true, false, true, true, true, false, false, false, false, false] rfl rfl (any_of HT_.out (by kernel_rfl)) (fun _ _ _ h => h) (Or.inl ⟨by rfl, ?_⟩) ?_ ?_; rotate_left
            ·intro w'; go_simp; with_reducible rfl
            rotate_left
            ·simp only [Act.put, pu, i64_w, i32_w]; rfl
            refine take_ (i := 4) (N := some 22) (v := ?_) (a' := ?_) #[true, true, true, true, true, true, true, true, false, false, false, false, false] rfl rfl (take_ofW HT_.out HW_.out (by kernel_rfl)) (fun _ _ _ h => h) (Or.inl ⟨by rfl, ?_⟩) hHeld ?_ ?_; rotate_left
            ·rintro w' ⟨s0, s1, s2, s3⟩; go_simp; with_reducible rfl
            rotate_left
            ·simp only [Act.put, pu, i64_w, i32_w]; rfl
            refine take_ (i := 8) (N := some 26) (v := ?_) (a' := ?_) #[true, true, true, true, true, true, true, true, true, false, false, false, false] rfl rfl (take_ofW HT_.out HW_.out (by kernel_rfl)) (fun _ _ _ h => h) (Or.inl ⟨by rfl, ?_⟩) hHeld ?_ ?_; rotate_left
            ·rintro w' ⟨s0, s1, s2, s3⟩; go_simp; with_reducible rfl
            rotate_left
            ·simp only [Act.put, pu, i64_w, i32_w]; rfl
            refine join_ (σ := Nat × Nat) 2 #[true, true, true, true, true, true, true, true, true, true, true, false, false] (fun s_ => [(6, .pointer (some ⟨s_.1, 0, none⟩)), (7, .pointer (some ⟨s_.2, 0, none⟩))]) (fun s_ w' => (w'.cell? (ad988.add (((ji7)).toNat * 2)) = some (.int .i64 ((rd_T124 l1 (ji7)).f0)) ∧ w'.cell? ⟨(ad988.add (((ji7)).toNat * 2)).block, (ad988.add (((ji7)).toNat * 2)).off + 1, none⟩ = some (.int .i64 ((rd_T124 l1 (ji7)).f1)) ∧ w'.cell? (ad988.add ((x5_1).toNat * 2)) = some (.int .i64 ((rd_T124 l1 x5_1).f0)) ∧ w'.cell? ⟨(ad988.add ((x5_1).toNat * 2)).block, (ad988.add ((x5_1).toNat * 2)).off + 1, none⟩ = some (.int .i64 ((rd_T124 l1 x5_1).f1))) ∧ (w'.heap[s_.1]? = some (.cells #[.int .i64 0, .int .i64 0] 124 (0, 0))) ∧ (w'.heap[s_.2]? = some (.cells #[.int .i64 0, .int .i64 0] 124 (0, 0))) ∧ (w.heap.size ≤ s_.1) ∧ (w.heap.size ≤ s_.1) ∧ (s_.2 ≠ s_.1) ∧ (s_.1 ≠ s_.2) ∧ (w.heap.size ≤ s_.2) ∧ (w.heap.size ≤ s_.2) ∧ (Below w.heap.size w w')) ?_ ?_; rotate_left
            ·intro hCont; refine two_ (i := 9) (j := 10) (Ni := some 6) (Nj := some 7) #[true, true, true, true, true, true, true, true, true, true, false, false, false] #[true, true, true, true, true, true, true, true, true, false, true, false, false] rfl rfl rfl rfl (two_of HT_.out (by kernel_rfl)) (by decide) (by decide) (fun K hK => ?_) (fun K hK => ?_)
             ·skip
              refine box_step ?hg (N := 6) ?hd (cs := #[.int .i64 0, .int .i64 0]) (t := 124) ?hr ?_; (case hd => rfl); (case hg => rfl); (case hr => first | (go_simp; done) | (go_simp; rfl))
              intro gb990 hg w27 hbox hb; have BK990 := Aside0.mk (hbox); have GW990 := Aside0.mk ((by rw [hg]; exact (below_size (gB HB)) : w.heap.size ≤ gb990)); have GE990 := Aside0.mk ((by rw [hg]; exact (below_size (gB HB)) : w.heap.size ≤ gb990)); replace HB := Aside0.mk (below_step (gB HB) hb); clear hb hbox hg; refine hK.out _ _ ⟨((HB.out.cell (World.block_lt_of_cell? w _ hw988_0)).trans hw988_0), ((HB.out.cell (World.block_lt_of_cell? w _ hw988_1)).trans hw988_1), ((HB.out.cell (World.block_lt_of_cell? w _ hw989_0)).trans hw989_0), ((HB.out.cell (World.block_lt_of_cell? w _ hw989_1)).trans hw989_1)⟩ (fun hHeld => ?_); clear hK K; refine norm_ (a' := ?_) ?_ ?_; rotate_left
              ·show Act.put _ (some 6) _ = _; simp only [Act.put, pu, i64_w, i32_w]; rfl
              refine one_ (i := 10) (N := some 7) #[true, true, true, true, true, true, true, true, true, true, true, false, false] rfl rfl (one_of HT_.out (by kernel_rfl)) (by decide) (fun K hK => ?_); refine box_step ?hg (N := 7) ?hd (cs := #[.int .i64 0, .int .i64 0]) (t := 124) ?hr ?_; (case hd => rfl); (case hg => rfl); (case hr => first | (go_simp; done) | (go_simp; rfl))
              intro gb991 hg w28 hbox hb; have BK991 := Aside0.mk (hbox); have GW991 := Aside0.mk ((by rw [hg]; exact (below_size (gT1 GE990.out HB)) : w.heap.size ≤ gb991)); have GE991 := Aside0.mk ((by rw [hg]; exact (below_size (gT1 GE990.out HB)) : w.heap.size ≤ gb991)); replace HB := Aside0.mk (below_step (gT1 GE990.out HB) hb); have NB990_991 := Aside0.mk ((by rw [hg]; exact Nat.ne_of_lt (blk_lt (g := gb990) (gK BK990)) : gb990 ≠ gb991)); have NB991_990 := Aside0.mk ((by rw [hg]; exact Nat.ne_of_gt (blk_lt (g := gb990) (gK BK990)) : gb991 ≠ gb990)); replace BK990 := Aside0.mk (blk_below (g := gb990) (gK BK990) hb); clear hb hbox hg; refine hK.out _ _ ⟨((HB.out.cell (World.block_lt_of_cell? w _ hw988_0)).trans hw988_0), ((HB.out.cell (World.block_lt_of_cell? w _ hw988_1)).trans hw988_1), ((HB.out.cell (World.block_lt_of_cell? w _ hw989_0)).trans hw989_0), ((HB.out.cell (World.block_lt_of_cell? w _ hw989_1)).trans hw989_1)⟩ (fun hHeld => ?_); clear hK K; refine norm_ (a' := ?_) ?_ ?_; rotate_left
              ·show Act.put _ (some 7) _ = _; simp only [Act.put, pu, i64_w, i32_w]; rfl
              exact norm_ (by simp only [putAll, Act.put, List.setIfInBounds_toArray, List.set_cons_zero, List.set_cons_succ]) (hCont (gb990, gb991) _ ⟨hHeld, (gK BK990), (gK BK991), GW990.out, GE990.out, NB991_990.out, NB990_991.out, GW991.out, GE991.out, (gT2 GE990.out GE991.out HB)⟩)
             ·skip
              refine box_step ?hg (N := 7) ?hd (cs := #[.int .i64 0, .int .i64 0]) (t := 124) ?hr ?_; (case hd => rfl); (case hg => rfl); (case hr => first | (go_simp; done) | (go_simp; rfl))
              intro gb991 hg w27 hbox hb; have BK991 := Aside0.mk (hbox); have GW991 := Aside0.mk ((by rw [hg]; exact (below_size (gB HB)) : w.heap.size ≤ gb991)); have GE991 := Aside0.mk ((by rw [hg]; exact (below_size (gB HB)) : w.heap.size ≤ gb991)); replace HB := Aside0.mk (below_step (gB HB) hb); clear hb hbox hg; refine hK.out _ _ ⟨((HB.out.cell (World.block_lt_of_cell? w _ hw988_0)).trans hw988_0), ((HB.out.cell (World.block_lt_of_cell? w _ hw988_1)).trans hw988_1), ((HB.out.cell (World.block_lt_of_cell? w _ hw989_0)).trans hw989_0), ((HB.out.cell (World.block_lt_of_cell? w _ hw989_1)).trans hw989_1)⟩ (fun hHeld => ?_); clear hK K; refine norm_ (a' := ?_) ?_ ?_; rotate_left
              ·show Act.put _ (some 7) _ = _; simp only [Act.put, pu, i64_w, i32_w]; rfl
              refine one_ (i := 9) (N := some 6) #[true, true, true, true, true, true, true, true, true, true, true, false, false] rfl rfl (one_of HT_.out (by kernel_rfl)) (by decide) (fun K hK => ?_); refine box_step ?hg (N := 6) ?hd (cs := #[.int .i64 0, .int .i64 0]) (t := 124) ?hr ?_; (case hd => rfl); (case hg => rfl); (case hr => first | (go_simp; done) | (go_simp; rfl))
              intro gb990 hg w28 hbox hb; have BK990 := Aside0.mk (hbox); have GW990 := Aside0.mk ((by rw [hg]; exact (below_size (gT1 GE991.out HB)) : w.heap.size ≤ gb990)); have GE990 := Aside0.mk ((by rw [hg]; exact (below_size (gT1 GE991.out HB)) : w.heap.size ≤ gb990)); replace HB := Aside0.mk (below_step (gT1 GE991.out HB) hb); have NB991_990 := Aside0.mk ((by rw [hg]; exact Nat.ne_of_lt (blk_lt (g := gb991) (gK BK991)) : gb991 ≠ gb990)); have NB990_991 := Aside0.mk ((by rw [hg]; exact Nat.ne_of_gt (blk_lt (g := gb991) (gK BK991)) : gb990 ≠ gb991)); replace BK991 := Aside0.mk (blk_below (g := gb991) (gK BK991) hb); clear hb hbox hg; refine hK.out _ _ ⟨((HB.out.cell (World.block_lt_of_cell? w _ hw988_0)).trans hw988_0), ((HB.out.cell (World.block_lt_of_cell? w _ hw988_1)).trans hw988_1), ((HB.out.cell (World.block_lt_of_cell? w _ hw989_0)).trans hw989_0), ((HB.out.cell (World.block_lt_of_cell? w _ hw989_1)).trans hw989_1)⟩ (fun hHeld => ?_); clear hK K; refine norm_ (a' := ?_) ?_ ?_; rotate_left
              ·show Act.put _ (some 6) _ = _; simp only [Act.put, pu, i64_w, i32_w]; rfl
              exact norm_ (by simp only [putAll, Act.put, List.setIfInBounds_toArray, List.set_cons_zero, List.set_cons_succ]) (hCont (gb990, gb991) _ ⟨hHeld, (gK BK990), (gK BK991), GW990.out, GE990.out, NB991_990.out, NB990_991.out, GW991.out, GE991.out, (gT2 GE991.out GE990.out HB)⟩)
            rintro ⟨gb990, gb991⟩ w29 ⟨hS_, h0_, h1_, h2_, h3_, h4_, h5_, h6_, h7_, h8_⟩; have n0_ : Aside0 (w29.heap[gb990]? = some (.cells #[.int .i64 0, .int .i64 0] 124 (0, 0))) := ⟨h0_⟩; have n1_ : Aside0 (w29.heap[gb991]? = some (.cells #[.int .i64 0, .int .i64 0] 124 (0, 0))) := ⟨h1_⟩; have n2_ : Aside0 (w.heap.size ≤ gb990) := ⟨h2_⟩; have n3_ : Aside0 (w.heap.size ≤ gb990) := ⟨h3_⟩; have n4_ : Aside0 (gb991 ≠ gb990) := ⟨h4_⟩; have n5_ : Aside0 (gb990 ≠ gb991) := ⟨h5_⟩; have n6_ : Aside0 (w.heap.size ≤ gb991) := ⟨h6_⟩; have n7_ : Aside0 (w.heap.size ≤ gb991) := ⟨h7_⟩; have n8_ : Aside0 (Below w.heap.size w w29) := ⟨h8_⟩; clear HB; clear h0_ h1_ h2_ h3_ h4_ h5_ h6_ h7_ h8_; have BK990 := n0_; have BK991 := n1_; have GW990 := n2_; have GE990 := n3_; have NB991_990 := n4_; have NB990_991 := n5_; have GW991 := n6_; have GE991 := n7_; have HB := n8_; clear n0_ n1_ n2_ n3_ n4_ n5_ n6_ n7_ n8_; have hHeld : w29.cell? (ad988.add (((ji7)).toNat * 2)) = some (.int .i64 ((rd_T124 l1 (ji7)).f0)) ∧ w29.cell? ⟨(ad988.add (((ji7)).toNat * 2)).block, (ad988.add (((ji7)).toNat * 2)).off + 1, none⟩ = some (.int .i64 ((rd_T124 l1 (ji7)).f1)) ∧ w29.cell? (ad988.add ((x5_1).toNat * 2)) = some (.int .i64 ((rd_T124 l1 x5_1).f0)) ∧ w29.cell? ⟨(ad988.add ((x5_1).toNat * 2)).block, (ad988.add ((x5_1).toNat * 2)).off + 1, none⟩ = some (.int .i64 ((rd_T124 l1 x5_1).f1)) := hS_; refine norm_ (a' := ?_) ?_ ?_; rotate_left
            ·simp only [putAll, Act.put, List.setIfInBounds_toArray, List.set_cons_zero, List.set_cons_succ]; rfl
            refine one_ (i := 11) (N := none) #[true, true, true, true, true, true, true, true, true, true, true, true, false] rfl rfl (one_of HT_.out (by kernel_rfl)) (by decide) (fun K hK => ?_); have hs30 : w29.cell? ⟨gb990, 0, none⟩ = some (.int .i64 0) := (blk_cell BK990.out 0).trans rfl; have hfs30 := blk_frozen BK990.out 0; have hns30_1 := NB991_990.out; have hms30_1 := NB990_991.out; have hs31 : w29.cell? ⟨gb990, 1, none⟩ = some (.int .i64 0) := (blk_cell BK990.out 1).trans rfl; have hfs31 := blk_frozen BK990.out 1; have hns31_1 := NB991_990.out; have hms31_1 := NB990_991.out; refine skip_ (w1 := ?_) (by rfl) rfl ?_ ?_; rotate_left
            ·go_simp; rfl
            refine hK.out _ _ ⟨((cell_far (p := ⟨gb990, _, none⟩) (by first | exact Nat.ne_of_lt (Nat.lt_of_lt_of_le (by have := World.block_lt_of_cell? _ _ hw988_0; first | rwa [add_block] at this | exact this) GW990.out) | (rw [add_block]; exact Nat.ne_of_lt (Nat.lt_of_lt_of_le (by have := World.block_lt_of_cell? _ _ hw988_0; first | rwa [add_block] at this | exact this) GW990.out)) | (show (Addr.add _ _).block ≠ _; rw [add_block]; exact Nat.ne_of_lt (Nat.lt_of_lt_of_le (by have := World.block_lt_of_cell? _ _ hw988_0; first | rwa [add_block] at this | exact this) GW990.out)) | (dsimp only; exact Nat.ne_of_lt (Nat.lt_of_lt_of_le (by have := World.block_lt_of_cell? _ _ hw988_0; first | rwa [add_block] at this | exact this) GW990.out))) _).trans (((cell_far (p := ⟨gb990, _, none⟩) (by first | exact Nat.ne_of_lt (Nat.lt_of_lt_of_le (by have := World.block_lt_of_cell? _ _ hw988_0; first | rwa [add_block] at this | exact this) GW990.out) | (rw [add_block]; exact Nat.ne_of_lt (Nat.lt_of_lt_of_le (by have := World.block_lt_of_cell? _ _ hw988_0; first | rwa [add_block] at this | exact this) GW990.out)) | (show (Addr.add _ _).block ≠ _; rw [add_block]; exact Nat.ne_of_lt (Nat.lt_of_lt_of_le (by have := World.block_lt_of_cell? _ _ hw988_0; first | rwa [add_block] at this | exact this) GW990.out)) | (dsimp only; exact Nat.ne_of_lt (Nat.lt_of_lt_of_le (by have := World.block_lt_of_cell? _ _ hw988_0; first | rwa [add_block] at this | exact this) GW990.out))) _).trans (hHeld.1)))), ((cell_far (p := ⟨gb990, _, none⟩) (by first | exact Nat.ne_of_lt (Nat.lt_of_lt_of_le (by have := World.block_lt_of_cell? _ _ hw988_1; first | rwa [add_block] at this | exact this) GW990.out) | (rw [add_block]; exact Nat.ne_of_lt (Nat.lt_of_lt_of_le (by have := World.block_lt_of_cell? _ _ hw988_1; first | rwa [add_block] at this | exact this) GW990.out)) | (show (Addr.add _ _).block ≠ _; rw [add_block]; exact Nat.ne_of_lt (Nat.lt_of_lt_of_le (by have := World.block_lt_of_cell? _ _ hw988_1; first | rwa [add_block] at this | exact this) GW990.out)) | (dsimp only; exact Nat.ne_of_lt (Nat.lt_of_lt_of_le (by have := World.block_lt_of_cell? _ _ hw988_1; first | rwa [add_block] at this | exact this) GW990.out))) _).trans (((cell_far (p := ⟨gb990, _, none⟩) (by first | exact Nat.ne_of_lt (Nat.lt_of_lt_of_le (by have := World.block_lt_of_cell? _ _ hw988_1; first | rwa [add_block] at this | exact this) GW990.out) | (rw [add_block]; exact Nat.ne_of_lt (Nat.lt_of_lt_of_le (by have := World.block_lt_of_cell? _ _ hw988_1; first | rwa [add_block] at this | exact this) GW990.out)) | (show (Addr.add _ _).block ≠ _; rw [add_block]; exact Nat.ne_of_lt (Nat.lt_of_lt_of_le (by have := World.block_lt_of_cell? _ _ hw988_1; first | rwa [add_block] at this | exact this) GW990.out)) | (dsimp only; exact Nat.ne_of_lt (Nat.lt_of_lt_of_le (by have := World.block_lt_of_cell? _ _ hw988_1; first | rwa [add_block] at this | exact this) GW990.out))) _).trans (hHeld.2.1)))), ((cell_far (p := ⟨gb990, _, none⟩) (by first | exact Nat.ne_of_lt (Nat.lt_of_lt_of_le (by have := World.block_lt_of_cell? _ _ hw989_0; first | rwa [add_block] at this | exact this) GW990.out) | (rw [add_block]; exact Nat.ne_of_lt (Nat.lt_of_lt_of_le (by have := World.block_lt_of_cell? _ _ hw989_0; first | rwa [add_block] at this | exact this) GW990.out)) | (show (Addr.add _ _).block ≠ _; rw [add_block]; exact Nat.ne_of_lt (Nat.lt_of_lt_of_le (by have := World.block_lt_of_cell? _ _ hw989_0; first | rwa [add_block] at this | exact this) GW990.out)) | (dsimp only; exact Nat.ne_of_lt (Nat.lt_of_lt_of_le (by have := World.block_lt_of_cell? _ _ hw989_0; first | rwa [add_block] at this | exact this) GW990.out))) _).trans (((cell_far (p := ⟨gb990, _, none⟩) (by first | exact Nat.ne_of_lt (Nat.lt_of_lt_of_le (by have := World.block_lt_of_cell? _ _ hw989_0; first | rwa [add_block] at this | exact this) GW990.out) | (rw [add_block]; exact Nat.ne_of_lt (Nat.lt_of_lt_of_le (by have := World.block_lt_of_cell? _ _ hw989_0; first | rwa [add_block] at this | exact this) GW990.out)) | (show (Addr.add _ _).block ≠ _; rw [add_block]; exact Nat.ne_of_lt (Nat.lt_of_lt_of_le (by have := World.block_lt_of_cell? _ _ hw989_0; first | rwa [add_block] at this | exact this) GW990.out)) | (dsimp only; exact Nat.ne_of_lt (Nat.lt_of_lt_of_le (by have := World.block_lt_of_cell? _ _ hw989_0; first | rwa [add_block] at this | exact this) GW990.out))) _).trans (hHeld.2.2.1)))), ((cell_far (p := ⟨gb990, _, none⟩) (by first | exact Nat.ne_of_lt (Nat.lt_of_lt_of_le (by have := World.block_lt_of_cell? _ _ hw989_1; first | rwa [add_block] at this | exact this) GW990.out) | (rw [add_block]; exact Nat.ne_of_lt (Nat.lt_of_lt_of_le (by have := World.block_lt_of_cell? _ _ hw989_1; first | rwa [add_block] at this | exact this) GW990.out)) | (show (Addr.add _ _).block ≠ _; rw [add_block]; exact Nat.ne_of_lt (Nat.lt_of_lt_of_le (by have := World.block_lt_of_cell? _ _ hw989_1; first | rwa [add_block] at this | exact this) GW990.out)) | (dsimp only; exact Nat.ne_of_lt (Nat.lt_of_lt_of_le (by have := World.block_lt_of_cell? _ _ hw989_1; first | rwa [add_block] at this | exact this) GW990.out))) _).trans (((cell_far (p := ⟨gb990, _, none⟩) (by first | exact Nat.ne_of_lt (Nat.lt_of_lt_of_le (by have := World.block_lt_of_cell? _ _ hw989_1; first | rwa [add_block] at this | exact this) GW990.out) | (rw [add_block]; exact Nat.ne_of_lt (Nat.lt_of_lt_of_le (by have := World.block_lt_of_cell? _ _ hw989_1; first | rwa [add_block] at this | exact this) GW990.out)) | (show (Addr.add _ _).block ≠ _; rw [add_block]; exact Nat.ne_of_lt (Nat.lt_of_lt_of_le (by have := World.block_lt_of_cell? _ _ hw989_1; first | rwa [add_block] at this | exact this) GW990.out)) | (dsimp only; exact Nat.ne_of_lt (Nat.lt_of_lt_of_le (by have := World.block_lt_of_cell? _ _ hw989_1; first | rwa [add_block] at this | exact this) GW990.out))) _).trans (hHeld.2.2.2))))⟩ (fun hHeld => ?_)
            clear hK K; refine one_ (i := 12) (N := none) #[true, true, true, true, true, true, true, true, true, true, true, true, true] rfl rfl (one_of HT_.out (by kernel_rfl)) (by decide) (fun K hK => ?_); have hs32 : w29.cell? ⟨gb991, 0, none⟩ = some (.int .i64 0) := (blk_cell BK991.out 0).trans rfl; have hfs32 := blk_frozen BK991.out 0; have hns32_0 := NB990_991.out; have hms32_0 := NB991_990.out; have hs33 : w29.cell? ⟨gb991, 1, none⟩ = some (.int .i64 0) := (blk_cell BK991.out 1).trans rfl; have hfs33 := blk_frozen BK991.out 1; have hns33_0 := NB990_991.out; have hms33_0 := NB991_990.out; refine skip_ (w1 := ?_) (by rfl) rfl ?_ ?_; rotate_left
            ·go_simp; rfl
            refine hK.out _ _ ⟨((cell_far (p := ⟨gb991, _, none⟩) (by first | exact Nat.ne_of_lt (Nat.lt_of_lt_of_le (by have := World.block_lt_of_cell? _ _ hw988_0; first | rwa [add_block] at this | exact this) GW991.out) | (rw [add_block]; exact Nat.ne_of_lt (Nat.lt_of_lt_of_le (by have := World.block_lt_of_cell? _ _ hw988_0; first | rwa [add_block] at this | exact this) GW991.out)) | (show (Addr.add _ _).block ≠ _; rw [add_block]; exact Nat.ne_of_lt (Nat.lt_of_lt_of_le (by have := World.block_lt_of_cell? _ _ hw988_0; first | rwa [add_block] at this | exact this) GW991.out)) | (dsimp only; exact Nat.ne_of_lt (Nat.lt_of_lt_of_le (by have := World.block_lt_of_cell? _ _ hw988_0; first | rwa [add_block] at this | exact this) GW991.out))) _).trans (((cell_far (p := ⟨gb991, _, none⟩) (by first | exact Nat.ne_of_lt (Nat.lt_of_lt_of_le (by have := World.block_lt_of_cell? _ _ hw988_0; first | rwa [add_block] at this | exact this) GW991.out) | (rw [add_block]; exact Nat.ne_of_lt (Nat.lt_of_lt_of_le (by have := World.block_lt_of_cell? _ _ hw988_0; first | rwa [add_block] at this | exact this) GW991.out)) | (show (Addr.add _ _).block ≠ _; rw [add_block]; exact Nat.ne_of_lt (Nat.lt_of_lt_of_le (by have := World.block_lt_of_cell? _ _ hw988_0; first | rwa [add_block] at this | exact this) GW991.out)) | (dsimp only; exact Nat.ne_of_lt (Nat.lt_of_lt_of_le (by have := World.block_lt_of_cell? _ _ hw988_0; first | rwa [add_block] at this | exact this) GW991.out))) _).trans (hHeld.1)))), ((cell_far (p := ⟨gb991, _, none⟩) (by first | exact Nat.ne_of_lt (Nat.lt_of_lt_of_le (by have := World.block_lt_of_cell? _ _ hw988_1; first | rwa [add_block] at this | exact this) GW991.out) | (rw [add_block]; exact Nat.ne_of_lt (Nat.lt_of_lt_of_le (by have := World.block_lt_of_cell? _ _ hw988_1; first | rwa [add_block] at this | exact this) GW991.out)) | (show (Addr.add _ _).block ≠ _; rw [add_block]; exact Nat.ne_of_lt (Nat.lt_of_lt_of_le (by have := World.block_lt_of_cell? _ _ hw988_1; first | rwa [add_block] at this | exact this) GW991.out)) | (dsimp only; exact Nat.ne_of_lt (Nat.lt_of_lt_of_le (by have := World.block_lt_of_cell? _ _ hw988_1; first | rwa [add_block] at this | exact this) GW991.out))) _).trans (((cell_far (p := ⟨gb991, _, none⟩) (by first | exact Nat.ne_of_lt (Nat.lt_of_lt_of_le (by have := World.block_lt_of_cell? _ _ hw988_1; first | rwa [add_block] at this | exact this) GW991.out) | (rw [add_block]; exact Nat.ne_of_lt (Nat.lt_of_lt_of_le (by have := World.block_lt_of_cell? _ _ hw988_1; first | rwa [add_block] at this | exact this) GW991.out)) | (show (Addr.add _ _).block ≠ _; rw [add_block]; exact Nat.ne_of_lt (Nat.lt_of_lt_of_le (by have := World.block_lt_of_cell? _ _ hw988_1; first | rwa [add_block] at this | exact this) GW991.out)) | (dsimp only; exact Nat.ne_of_lt (Nat.lt_of_lt_of_le (by have := World.block_lt_of_cell? _ _ hw988_1; first | rwa [add_block] at this | exact this) GW991.out))) _).trans (hHeld.2.1)))), ((cell_far (p := ⟨gb991, _, none⟩) (by first | exact Nat.ne_of_lt (Nat.lt_of_lt_of_le (by have := World.block_lt_of_cell? _ _ hw989_0; first | rwa [add_block] at this | exact this) GW991.out) | (rw [add_block]; exact Nat.ne_of_lt (Nat.lt_of_lt_of_le (by have := World.block_lt_of_cell? _ _ hw989_0; first | rwa [add_block] at this | exact this) GW991.out)) | (show (Addr.add _ _).block ≠ _; rw [add_block]; exact Nat.ne_of_lt (Nat.lt_of_lt_of_le (by have := World.block_lt_of_cell? _ _ hw989_0; first | rwa [add_block] at this | exact this) GW991.out)) | (dsimp only; exact Nat.ne_of_lt (Nat.lt_of_lt_of_le (by have := World.block_lt_of_cell? _ _ hw989_0; first | rwa [add_block] at this | exact this) GW991.out))) _).trans (((cell_far (p := ⟨gb991, _, none⟩) (by first | exact Nat.ne_of_lt (Nat.lt_of_lt_of_le (by have := World.block_lt_of_cell? _ _ hw989_0; first | rwa [add_block] at this | exact this) GW991.out) | (rw [add_block]; exact Nat.ne_of_lt (Nat.lt_of_lt_of_le (by have := World.block_lt_of_cell? _ _ hw989_0; first | rwa [add_block] at this | exact this) GW991.out)) | (show (Addr.add _ _).block ≠ _; rw [add_block]; exact Nat.ne_of_lt (Nat.lt_of_lt_of_le (by have := World.block_lt_of_cell? _ _ hw989_0; first | rwa [add_block] at this | exact this) GW991.out)) | (dsimp only; exact Nat.ne_of_lt (Nat.lt_of_lt_of_le (by have := World.block_lt_of_cell? _ _ hw989_0; first | rwa [add_block] at this | exact this) GW991.out))) _).trans (hHeld.2.2.1)))), ((cell_far (p := ⟨gb991, _, none⟩) (by first | exact Nat.ne_of_lt (Nat.lt_of_lt_of_le (by have := World.block_lt_of_cell? _ _ hw989_1; first | rwa [add_block] at this | exact this) GW991.out) | (rw [add_block]; exact Nat.ne_of_lt (Nat.lt_of_lt_of_le (by have := World.block_lt_of_cell? _ _ hw989_1; first | rwa [add_block] at this | exact this) GW991.out)) | (show (Addr.add _ _).block ≠ _; rw [add_block]; exact Nat.ne_of_lt (Nat.lt_of_lt_of_le (by have := World.block_lt_of_cell? _ _ hw989_1; first | rwa [add_block] at this | exact this) GW991.out)) | (dsimp only; exact Nat.ne_of_lt (Nat.lt_of_lt_of_le (by have := World.block_lt_of_cell? _ _ hw989_1; first | rwa [add_block] at this | exact this) GW991.out))) _).trans (((cell_far (p := ⟨gb991, _, none⟩) (by first | exact Nat.ne_of_lt (Nat.lt_of_lt_of_le (by have := World.block_lt_of_cell? _ _ hw989_1; first | rwa [add_block] at this | exact this) GW991.out) | (rw [add_block]; exact Nat.ne_of_lt (Nat.lt_of_lt_of_le (by have := World.block_lt_of_cell? _ _ hw989_1; first | rwa [add_block] at this | exact this) GW991.out)) | (show (Addr.add _ _).block ≠ _; rw [add_block]; exact Nat.ne_of_lt (Nat.lt_of_lt_of_le (by have := World.block_lt_of_cell? _ _ hw989_1; first | rwa [add_block] at this | exact this) GW991.out)) | (dsimp only; exact Nat.ne_of_lt (Nat.lt_of_lt_of_le (by have := World.block_lt_of_cell? _ _ hw989_1; first | rwa [add_block] at this | exact this) GW991.out))) _).trans (hHeld.2.2.2))))⟩ (fun hHeld => ?_)
            clear hK K; refine done_ (done_of HT_.out (by kernel_rfl)) ?_; try go_wp2
            have n0_ : Aside0 (((((w29.setCell ⟨gb990, 0, none⟩ (.int .i64 ((rd_T124 l1 (ji7)).f0))).setCell ⟨gb990, 1, none⟩ (.int .i64 ((rd_T124 l1 (ji7)).f1))).setCell ⟨gb991, 0, none⟩ (.int .i64 ((rd_T124 l1 x5_1).f0))).setCell ⟨gb991, 1, none⟩ (.int .i64 ((rd_T124 l1 x5_1).f1))).heap[gb990]? = some (.cells #[.int .i64 ((rd_T124 l1 (ji7)).f0), .int .i64 ((rd_T124 l1 (ji7)).f1)] 124 (0, 0))) := ⟨by (with_reducible repeat (first | refine blk_drewN ?_ _ | refine blk_drew ?_ | refine blk_alloc ?_ _)); refine blk_far ?_ NB990_991.out _; (with_reducible repeat (first | refine blk_drewN ?_ _ | refine blk_drew ?_ | refine blk_alloc ?_ _)); refine blk_far ?_ NB990_991.out _; (with_reducible repeat (first | refine blk_drewN ?_ _ | refine blk_drew ?_ | refine blk_alloc ?_ _)); refine blk_put (cs := #[.int .i64 ((rd_T124 l1 (ji7)).f0), .int .i64 0]) ?_ 1 _ rfl; (with_reducible repeat (first | refine blk_drewN ?_ _ | refine blk_drew ?_ | refine blk_alloc ?_ _)); refine blk_put (cs := #[.int .i64 0, .int .i64 0]) ?_ 0 _ rfl; (with_reducible repeat (first | refine blk_drewN ?_ _ | refine blk_drew ?_ | refine blk_alloc ?_ _)); exact BK990.out⟩
            have n1_ : Aside0 (((((w29.setCell ⟨gb990, 0, none⟩ (.int .i64 ((rd_T124 l1 (ji7)).f0))).setCell ⟨gb990, 1, none⟩ (.int .i64 ((rd_T124 l1 (ji7)).f1))).setCell ⟨gb991, 0, none⟩ (.int .i64 ((rd_T124 l1 x5_1).f0))).setCell ⟨gb991, 1, none⟩ (.int .i64 ((rd_T124 l1 x5_1).f1))).heap[gb991]? = some (.cells #[.int .i64 ((rd_T124 l1 x5_1).f0), .int .i64 ((rd_T124 l1 x5_1).f1)] 124 (0, 0))) := ⟨by (with_reducible repeat (first | refine blk_drewN ?_ _ | refine blk_drew ?_ | refine blk_alloc ?_ _)); refine blk_put (cs := #[.int .i64 ((rd_T124 l1 x5_1).f0), .int .i64 0]) ?_ 1 _ rfl; (with_reducible repeat (first | refine blk_drewN ?_ _ | refine blk_drew ?_ | refine blk_alloc ?_ _)); refine blk_put (cs := #[.int .i64 0, .int .i64 0]) ?_ 0 _ rfl; (with_reducible repeat (first | refine blk_drewN ?_ _ | refine blk_drew ?_ | refine blk_alloc ?_ _)); refine blk_far ?_ NB991_990.out _; (with_reducible repeat (first | refine blk_drewN ?_ _ | refine blk_drew ?_ | refine blk_alloc ?_ _)); refine blk_far ?_ NB991_990.out _; (with_reducible repeat (first | refine blk_drewN ?_ _ | refine blk_drew ?_ | refine blk_alloc ?_ _)); exact BK991.out⟩; have n2_ : Aside0 (Below w.heap.size w ((((w29.setCell ⟨gb990, 0, none⟩ (.int .i64 ((rd_T124 l1 (ji7)).f0))).setCell ⟨gb990, 1, none⟩ (.int .i64 ((rd_T124 l1 (ji7)).f1))).setCell ⟨gb991, 0, none⟩ (.int .i64 ((rd_T124 l1 x5_1).f0))).setCell ⟨gb991, 1, none⟩ (.int .i64 ((rd_T124 l1 x5_1).f1)))) := ⟨gT2 GE990.out GE991.out HB⟩; (try clear BK990); (try clear BK991); (try clear HB)
            generalize ((((w29.setCell ⟨gb990, 0, none⟩ (.int .i64 ((rd_T124 l1 (ji7)).f0))).setCell ⟨gb990, 1, none⟩ (.int .i64 ((rd_T124 l1 (ji7)).f1))).setCell ⟨gb991, 0, none⟩ (.int .i64 ((rd_T124 l1 x5_1).f0))).setCell ⟨gb991, 1, none⟩ (.int .i64 ((rd_T124 l1 x5_1).f1))) = w34 at n0_ n1_ n2_ ⊢; have BK990 := n0_; have BK991 := n1_; have HB := n2_; clear n0_ n1_ n2_; replace BK990 := Aside0.mk (blk_drew BK990.out); replace BK991 := Aside0.mk (blk_drew BK991.out); replace HB := Aside0.mk (below_drew1 HB.out); refine start_ (n := 21) (S := fun w' => w'.cell? ⟨gb990, 0, none⟩ = some (.int .i64 ((rd_T124 l1 (ji7)).f0)) ∧ w'.cell? ⟨gb990, 1, none⟩ = some (.int .i64 ((rd_T124 l1 (ji7)).f1)) ∧ w'.cell? ⟨gb991, 0, none⟩ = some (.int .i64 ((rd_T124 l1 x5_1).f0)) ∧ w'.cell? ⟨gb991, 1, none⟩ = some (.int .i64 ((rd_T124 l1 x5_1).f1))) (ds := []) #[false, false, false, false, false, false, false, false, false, false, false, false, false, false, false, false, false, false, false, false, false] (by kernel_rfl) rfl rfl ⟨(blk_cell BK990.out 0).trans rfl, (blk_cell BK990.out 1).trans rfl, (blk_cell BK991.out 0).trans rfl, (blk_cell BK991.out 1).trans rfl⟩ (fun hHeld => ?_); refine with_tabW impl_RunsOk.tab7 impl_RunsOk.bits7 (fun HT_ HW_ => ?_)
            generalize w34.drew = w35 at BK990 BK991 HB hHeld ⊢; refine pure_ (i := 0) (N := some 27) (v := ?_) (a' := ?_) #[true, false, false, false, false, false, false, false, false, false, false, false, false, false, false, false, false, false, false, false, false] rfl rfl (any_of HT_.out (by kernel_rfl)) (fun _ _ _ h => h) (Or.inl ⟨by rfl, ?_⟩) ?_ ?_; rotate_left
            ·intro w'; go_simp; with_reducible rfl
            rotate_left
            ·simp only [Act.put, pu, i64_w, i32_w]; rfl
            refine pure_ (i := 2) (N := some 29) (v := ?_) (a' := ?_) #[true, false, true, false, false, false, false, false, false, false, false, false, false, false, false, false, false, false, false, false, false] rfl rfl (any_of HT_.out (by kernel_rfl)) (fun _ _ _ h => h) (Or.inl ⟨by rfl, ?_⟩) ?_ ?_; rotate_left
            ·intro w'; go_simp; with_reducible rfl
            rotate_left
            ·simp only [Act.put, pu, i64_w, i32_w]; rfl
            refine take_ (i := 1) (N := some 28) (v := ?_) (a' := ?_) #[true, true, true, false, false, false, false, false, false, false, false, false, false, false, false, false, false, false, false, false, false] rfl rfl (take_ofW HT_.out HW_.out (by kernel_rfl)) (fun _ _ _ h => h) (Or.inl ⟨by rfl, ?_⟩) hHeld ?_ ?_; rotate_left
            ·rintro w' ⟨s0, s1, s2, s3⟩; go_simp; with_reducible rfl
            rotate_left
            ·simp only [Act.put, pu, i64_w, i32_w]; rfl
            refine take_ (i := 3) (N := some 30) (v := ?_) (a' := ?_) #[true, true, true, true, false, false, false, false, false, false, false, false, false, false, false, false, false, false, false, false, false] rfl rfl (take_ofW HT_.out HW_.out (by kernel_rfl)) (fun _ _ _ h => h) (Or.inl ⟨by rfl, ?_⟩) hHeld ?_ ?_; rotate_left
            ·rintro w' ⟨s0, s1, s2, s3⟩; go_simp; with_reducible rfl
            rotate_left
            ·simp only [Act.put, pu, i64_w, i32_w]; rfl
            refine pure_ (i := 4) (N := some 31) (v := ?_) (a' := ?_) #[true, true, true, true, true, false, false, false, false, false, false, false, false, false, false, false, false, false, false, false, false] rfl rfl (any_of HT_.out (by kernel_rfl)) (fun _ _ _ h => h) (Or.inl ⟨by rfl, ?_⟩) ?_ ?_; rotate_left
            ·intro w'; go_simp; with_reducible rfl
            rotate_left
            ·simp only [Act.put, pu, i64_w, i32_w]; rfl
            refine pure_ (i := 5) (N := some 32) (v := ?_) (a' := ?_) #[true, true, true, true, true, true, false, false, false, false, false, false, false, false, false, false, false, false, false, false, false] rfl rfl (any_of HT_.out (by kernel_rfl)) (fun _ _ _ h => h) (Or.inl ⟨by rfl, ?_⟩) ?_ ?_; rotate_left
            ·intro w'; go_simp; with_reducible rfl
            rotate_left
            ·simp only [Act.put, pu, i64_w, i32_w]; rfl
            refine pure_ (i := 6) (N := some 33) (v := ?_) (a' := ?_) #[true, true, true, true, true, true, true, false, false, false, false, false, false, false, false, false, false, false, false, false, false] rfl rfl (any_of HT_.out (by kernel_rfl)) (fun _ _ _ h => h) (Or.inl ⟨by rfl, ?_⟩) ?_ ?_; rotate_left
            ·intro w'; go_simp; with_reducible rfl
            rotate_left
            ·simp only [Act.put, pu, i64_w, i32_w]; rfl
            refine take_ (i := 7) (N := some 34) (v := ?_) (a' := ?_) #[true, true, true, true, true, true, true, true, false, false, false, false, false, false, false, false, false, false, false, false, false] rfl rfl (take_ofW HT_.out HW_.out (by kernel_rfl)) (fun _ _ _ h => h) (Or.inl ⟨by rfl, ?_⟩) hHeld ?_ ?_; rotate_left
            ·rintro w' ⟨s0, s1, s2, s3⟩; go_simp; with_reducible rfl
            rotate_left
            ·simp only [Act.put, pu, i64_w, i32_w]; rfl
            refine pure_ (i := 8) (N := some 35) (v := ?_) (a' := ?_) #[true, true, true, true, true, true, true, true, true, false, false, false, false, false, false, false, false, false, false, false, false] rfl rfl (any_of HT_.out (by kernel_rfl)) (fun _ _ _ h => h) (Or.inl ⟨by rfl, ?_⟩) ?_ ?_; rotate_left
            ·intro w'; go_simp; with_reducible rfl
            rotate_left
            ·simp only [Act.put, pu, i64_w, i32_w]; rfl
            refine pure_ (i := 9) (N := some 36) (v := ?_) (a' := ?_) #[true, true, true, true, true, true, true, true, true, true, false, false, false, false, false, false, false, false, false, false, false] rfl rfl (any_of HT_.out (by kernel_rfl)) (fun _ _ _ h => h) (Or.inl ⟨by rfl, ?_⟩) ?_ ?_; rotate_left
            ·intro w'; go_simp; with_reducible rfl
            rotate_left
            ·simp only [Act.put, pu, i64_w, i32_w]; rfl
            refine pure_ (i := 10) (N := some 37) (v := ?_) (a' := ?_) #[true, true, true, true, true, true, true, true, true, true, true, false, false, false, false, false, false, false, false, false, false] rfl rfl (any_of HT_.out (by kernel_rfl)) (fun _ _ _ h => h) (Or.inl ⟨by rfl, ?_⟩) ?_ ?_; rotate_left
            ·intro w'; go_simp; with_reducible rfl
            rotate_left
            ·simp only [Act.put, pu, i64_w, i32_w]; rfl
            refine pure_ (i := 11) (N := some 38) (v := ?_) (a' := ?_) #[true, true, true, true, true, true, true, true, true, true, true, true, false, false, false, false, false, false, false, false, false] rfl rfl (any_of HT_.out (by kernel_rfl)) (fun _ _ _ h => h) (Or.inl ⟨by rfl, ?_⟩) ?_ ?_; rotate_left
            ·intro w'; go_simp; with_reducible rfl
            rotate_left
            ·simp only [Act.put, pu, i64_w, i32_w]; rfl
            refine pure_ (i := 13) (N := some 40) (v := ?_) (a' := ?_) #[true, true, true, true, true, true, true, true, true, true, true, true, false, true, false, false, false, false, false, false, false] rfl rfl (any_of HT_.out (by kernel_rfl)) (fun _ _ _ h => h) (Or.inl ⟨by rfl, ?_⟩) ?_ ?_; rotate_left
            ·intro w'; go_simp; with_reducible rfl
            rotate_left
            ·simp only [Act.put, pu, i64_w, i32_w]; rfl
            refine pure_ (i := 17) (N := some 44) (v := ?_) (a' := ?_) #[true, true, true, true, true, true, true, true, true, true, true, true, false, true, false, false, false, true, false, false, false] rfl rfl (any_of HT_.out (by kernel_rfl)) (fun _ _ _ h => h) (Or.inl ⟨by rfl, ?_⟩) ?_ ?_; rotate_left
            ·intro w'; go_simp; with_reducible rfl
            rotate_left
            ·simp only [Act.put, pu, i64_w, i32_w]; rfl
            refine take_ (i := 12) (N := some 39) (v := ?_) (a' := ?_) #[true, true, true, true, true, true, true, true, true, true, true, true, true, true, false, false, false, true, false, false, false] rfl rfl (take_ofW HT_.out HW_.out (by kernel_rfl)) (fun _ _ _ h => h) (Or.inl ⟨by rfl, ?_⟩) hHeld ?_ ?_; rotate_left
            ·rintro w' ⟨s0, s1, s2, s3⟩; go_simp; with_reducible rfl
            rotate_left
            ·simp only [Act.put, pu, i64_w, i32_w]; rfl
            refine take_ (i := 14) (N := some 41) (v := ?_) (a' := ?_) #[true, true, true, true, true, true, true, true, true, true, true, true, true, true, true, false, false, true, false, false, false] rfl rfl (take_ofW HT_.out HW_.out (by kernel_rfl)) (fun _ _ _ h => h) (Or.inl ⟨by rfl, ?_⟩) hHeld ?_ ?_; rotate_left
            ·rintro w' ⟨s0, s1, s2, s3⟩; go_simp; with_reducible rfl
            rotate_left
            ·simp only [Act.put, pu, i64_w, i32_w]; rfl
            refine pure_ (i := 15) (N := some 42) (v := ?_) (a' := ?_) #[true, true, true, true, true, true, true, true, true, true, true, true, true, true, true, true, false, true, false, false, false] rfl rfl (any_of HT_.out (by kernel_rfl)) (fun _ _ _ h => h) (Or.inl ⟨by rfl, ?_⟩) ?_ ?_; rotate_left
            ·intro w'; go_simp; with_reducible rfl
            rotate_left
            ·simp only [Act.put, pu, i64_w, i32_w]; rfl
            refine pure_ (i := 16) (N := some 43) (v := ?_) (a' := ?_) #[true, true, true, true, true, true, true, true, true, true, true, true, true, true, true, true, true, true, false, false, false] rfl rfl (any_of HT_.out (by kernel_rfl)) (fun _ _ _ h => h) (Or.inl ⟨by rfl, ?_⟩) ?_ ?_; rotate_left
            ·intro w'; go_simp; with_reducible rfl
            rotate_left
            ·simp only [Act.put, pu, i64_w, i32_w]; rfl
            refine take_ (i := 18) (N := some 45) (v := ?_) (a' := ?_) #[true, true, true, true, true, true, true, true, true, true, true, true, true, true, true, true, true, true, true, false, false] rfl rfl (take_ofW HT_.out HW_.out (by kernel_rfl)) (fun _ _ _ h => h) (Or.inl ⟨by rfl, ?_⟩) hHeld ?_ ?_; rotate_left
            ·rintro w' ⟨s0, s1, s2, s3⟩; go_simp; with_reducible rfl
            rotate_left
            ·simp only [Act.put, pu, i64_w, i32_w]; rfl
            refine pure_ (i := 19) (N := some 46) (v := ?_) (a' := ?_) #[true, true, true, true, true, true, true, true, true, true, true, true, true, true, true, true, true, true, true, true, false] rfl rfl (any_of HT_.out (by kernel_rfl)) (fun _ _ _ h => h) (Or.inl ⟨by rfl, ?_⟩) ?_ ?_; rotate_left
            ·intro w'; go_simp; with_reducible rfl
            rotate_left
            ·simp only [Act.put, pu, i64_w, i32_w]; rfl
            refine pure_ (i := 20) (N := some 47) (v := ?_) (a' := ?_) #[true, true, true, true, true, true, true, true, true, true, true, true, true, true, true, true, true, true, true, true, true] rfl rfl (any_of HT_.out (by kernel_rfl)) (fun _ _ _ h => h) (Or.inl ⟨by rfl, ?_⟩) ?_ ?_; rotate_left
            ·intro w'; go_simp; with_reducible rfl
            rotate_left
            ·simp only [Act.put, pu, i64_w, i32_w]; rfl
            refine done_ (done_of HT_.out (by kernel_rfl)) ?_; try go_wp2
            go_roundg k1
            case measure => have := HK1.out; omega
            case rel => exact ⟨(wrap64 (x5_1 + 1)), (by first | rfl | (simp; done) | (simp [*]; done)), H', ⟨by have := HK1.out; omega⟩, ⟨gT2 GE990.out GE991.out HB⟩⟩
          ·rw [if_neg c13] at H; exact absurd H (by simp)
         ·rw [if_neg c12] at H; have c12b0 : decide (((rd_T124 l1 (ji7)).f1) < 3) = false := decide_eq_false c12; clear c12; have H' := Aside0.mk H; clear H; try go_wp2
          replace HB := Aside0.mk (below_drew1 HB.out); have p988 : 0 ≤ ((ji7) : Int) := of_decide_eq_true (by first | (with_reducible assumption) | assumption); have q988 : (ji7) < (l1.length : Int) := of_decide_eq_true (by first | (with_reducible assumption) | assumption); obtain ⟨ad988, e988, hx988_0, hx988_1⟩ := at_T124 HR1.out (ji7) p988 q988; have hw988_1 := hx988_1; have hw988_0 := hx988_0
          cases e988; replace hx988_0 := (HB.out.cell (World.block_lt_of_cell? w _ hx988_0)).trans hx988_0; replace hx988_1 := (HB.out.cell (World.block_lt_of_cell? w _ hx988_1)).trans hx988_1; replace p988 := eq_true p988; replace q988 := eq_true q988; have p989 : 0 ≤ (x5_1 : Int) := of_decide_eq_true (by first | (with_reducible assumption) | assumption); have q989 : x5_1 < (l1.length : Int) := of_decide_eq_true (by first | (with_reducible assumption) | assumption); obtain ⟨ad989, e989, hx989_0, hx989_1⟩ := at_T124 HR1.out x5_1 p989 q989; have hw989_1 := hx989_1; have hw989_0 := hx989_0; obtain rfl : ad988 = ad989 := (by injection e989); replace hx989_0 := (HB.out.cell (World.block_lt_of_cell? w _ hx989_0)).trans hx989_0; replace hx989_1 := (HB.out.cell (World.block_lt_of_cell? w _ hx989_1)).trans hx989_1; replace p989 := eq_true p989; replace q989 := eq_true q989
          refine start_ (n := 13) (S := fun w' => w'.cell? (ad988.add (((ji7)).toNat * 2)) = some (.int .i64 ((rd_T124 l1 (ji7)).f0)) ∧ w'.cell? ⟨(ad988.add (((ji7)).toNat * 2)).block, (ad988.add (((ji7)).toNat * 2)).off + 1, none⟩ = some (.int .i64 ((rd_T124 l1 (ji7)).f1)) ∧ w'.cell? (ad988.add ((x5_1).toNat * 2)) = some (.int .i64 ((rd_T124 l1 x5_1).f0)) ∧ w'.cell? ⟨(ad988.add ((x5_1).toNat * 2)).block, (ad988.add ((x5_1).toNat * 2)).off + 1, none⟩ = some (.int .i64 ((rd_T124 l1 x5_1).f1))) (ds := []) #[false, false, false, false, false, false, false, false, false, false, false, false, false] (by kernel_rfl) rfl rfl ⟨((HB.out.cell (World.block_lt_of_cell? w _ hw988_0)).trans hw988_0), ((HB.out.cell (World.block_lt_of_cell? w _ hw988_1)).trans hw988_1), ((HB.out.cell (World.block_lt_of_cell? w _ hw989_0)).trans hw989_0), ((HB.out.cell (World.block_lt_of_cell? w _ hw989_1)).trans hw989_1)⟩ (fun hHeld => ?_); refine with_tabW impl_RunsOk.tab6 impl_RunsOk.bits6 (fun HT_ HW_ => ?_)
          generalize wr.drew = w36 at HB hx988_0 hx988_1 hx989_0 hx989_1 hHeld ⊢; refine pure_ (i := 0) (N := some 18) (v := ?_) (a' := ?_) #[true, false, false, false, false, false, false, false, false, false, false, false, false] rfl rfl (any_of HT_.out (by kernel_rfl)) (fun _ _ _ h => h) (Or.inl ⟨by rfl, ?_⟩) ?_ ?_; rotate_left
          ·intro w'; go_simp; with_reducible rfl
          rotate_left
          ·simp only [Act.put, pu, i64_w, i32_w]; rfl
          refine pure_ (i := 1) (N := some 19) (v := ?_) (a' := ?_) #[true, true, false, false, false, false, false, false, false, false, false, false, false] rfl rfl (any_of HT_.out (by kernel_rfl)) (fun _ _ _ h => h) (Or.inl ⟨by rfl, ?_⟩) ?_ ?_; rotate_left
          ·intro w'; go_simp; with_reducible rfl
          rotate_left
          ·simp only [Act.put, pu, i64_w, i32_w]; rfl
          refine pure_ (i := 2) (N := some 20) (v := ?_) (a' := ?_) #[true, true, true, false, false, false, false, false, false, false, false, false, false] rfl rfl (any_of HT_.out (by kernel_rfl)) (fun _ _ _ h => h) (Or.inl ⟨by rfl, ?_⟩) ?_ ?_; rotate_left
          ·intro w'; go_simp; with_reducible rfl
          rotate_left
          ·simp only [Act.put, pu, i64_w, i32_w]; rfl
          refine pure_ (i := 3) (N := some 21) (v := ?_) (a' := ?_) #[true, true, true, true, false, false, false, false, false, false, false, false, false] rfl rfl (any_of HT_.out (by kernel_rfl)) (fun _ _ _ h => h) (Or.inl ⟨by rfl, ?_⟩) ?_ ?_; rotate_left
          ·intro w'; go_simp; with_reducible rfl
          rotate_left
          ·simp only [Act.put, pu, i64_w, i32_w]; rfl
          refine pure_ (i := 5) (N := some 23) (v := ?_) (a' := ?_) #[true, true, true, true, false, true, false, false, false, false, false, false, false] rfl rfl (any_of HT_.out (by kernel_rfl)) (fun _ _ _ h => h) (Or.inl ⟨by rfl, ?_⟩) ?_ ?_; rotate_left
          ·intro w'; go_simp; with_reducible rfl
          rotate_left
          ·simp only [Act.put, pu, i64_w, i32_w]; rfl
          refine pure_ (i := 6) (N := some 24) (v := ?_) (a' := ?_) #[true, true, true, true, false, true, true, false, false, false, false, false, false] rfl rfl (any_of HT_.out (by kernel_rfl)) (fun _ _ _ h => h) (Or.inl ⟨by rfl, ?_⟩) ?_ ?_; rotate_left
          ·intro w'; go_simp; with_reducible rfl
          rotate_left
          ·simp only [Act.put, pu, i64_w, i32_w]; rfl
          refine pure_ (i := 7) (N := some 25) (v := ?_) (a' := ?_) #[true, true, true, true, false, true, true, true, false, false, false, false, false] rfl rfl (any_of HT_.out (by kernel_rfl)) (fun _ _ _ h => h) (Or.inl ⟨by rfl, ?_⟩) ?_ ?_; rotate_left
          ·intro w'; go_simp; with_reducible rfl
          rotate_left
          ·simp only [Act.put, pu, i64_w, i32_w]; rfl
          refine take_ (i := 4) (N := some 22) (v := ?_) (a' := ?_) #[true, true, true, true, true, true, true, true, false, false, false, false, false] rfl rfl (take_ofW HT_.out HW_.out (by kernel_rfl)) (fun _ _ _ h => h) (Or.inl ⟨by rfl, ?_⟩) hHeld ?_ ?_; rotate_left
          ·rintro w' ⟨s0, s1, s2, s3⟩; go_simp; with_reducible rfl
          rotate_left
          ·simp only [Act.put, pu, i64_w, i32_w]; rfl
          refine take_ (i := 8) (N := some 26) (v := ?_) (a' := ?_) #[true, true, true, true, true, true, true, true, true, false, false, false, false] rfl rfl (take_ofW HT_.out HW_.out (by kernel_rfl)) (fun _ _ _ h => h) (Or.inl ⟨by rfl, ?_⟩) hHeld ?_ ?_; rotate_left
          ·rintro w' ⟨s0, s1, s2, s3⟩; go_simp; with_reducible rfl
          rotate_left
          ·simp only [Act.put, pu, i64_w, i32_w]; rfl
          refine join_ (σ := Nat × Nat) 2 #[true, true, true, true, true, true, true, true, true, true, true, false, false] (fun s_ => [(6, .pointer (some ⟨s_.1, 0, none⟩)), (7, .pointer (some ⟨s_.2, 0, none⟩))]) (fun s_ w' => (w'.cell? (ad988.add (((ji7)).toNat * 2)) = some (.int .i64 ((rd_T124 l1 (ji7)).f0)) ∧ w'.cell? ⟨(ad988.add (((ji7)).toNat * 2)).block, (ad988.add (((ji7)).toNat * 2)).off + 1, none⟩ = some (.int .i64 ((rd_T124 l1 (ji7)).f1)) ∧ w'.cell? (ad988.add ((x5_1).toNat * 2)) = some (.int .i64 ((rd_T124 l1 x5_1).f0)) ∧ w'.cell? ⟨(ad988.add ((x5_1).toNat * 2)).block, (ad988.add ((x5_1).toNat * 2)).off + 1, none⟩ = some (.int .i64 ((rd_T124 l1 x5_1).f1))) ∧ (w'.heap[s_.1]? = some (.cells #[.int .i64 0, .int .i64 0] 124 (0, 0))) ∧ (w'.heap[s_.2]? = some (.cells #[.int .i64 0, .int .i64 0] 124 (0, 0))) ∧ (w.heap.size ≤ s_.1) ∧ (w.heap.size ≤ s_.1) ∧ (s_.2 ≠ s_.1) ∧ (s_.1 ≠ s_.2) ∧ (w.heap.size ≤ s_.2) ∧ (w.heap.size ≤ s_.2) ∧ (Below w.heap.size w w')) ?_ ?_; rotate_left
          ·intro hCont; refine two_ (i := 9) (j := 10) (Ni := some 6) (Nj := some 7) #[true, true, true, true, true, true, true, true, true, true, false, false, false] #[true, true, true, true, true, true, true, true, true, false, true, false, false] rfl rfl rfl rfl (two_of HT_.out (by kernel_rfl)) (by decide) (by decide) (fun K hK => ?_) (fun K hK => ?_)
           ·skip
            refine box_step ?hg (N := 6) ?hd (cs := #[.int .i64 0, .int .i64 0]) (t := 124) ?hr ?_; (case hd => rfl); (case hg => rfl); (case hr => first | (go_simp; done) | (go_simp; rfl))
            intro gb990 hg w37 hbox hb; have BK990 := Aside0.mk (hbox); have GW990 := Aside0.mk ((by rw [hg]; exact (below_size (gB HB)) : w.heap.size ≤ gb990)); have GE990 := Aside0.mk ((by rw [hg]; exact (below_size (gB HB)) : w.heap.size ≤ gb990)); replace HB := Aside0.mk (below_step (gB HB) hb); clear hb hbox hg; refine hK.out _ _ ⟨((HB.out.cell (World.block_lt_of_cell? w _ hw988_0)).trans hw988_0), ((HB.out.cell (World.block_lt_of_cell? w _ hw988_1)).trans hw988_1), ((HB.out.cell (World.block_lt_of_cell? w _ hw989_0)).trans hw989_0), ((HB.out.cell (World.block_lt_of_cell? w _ hw989_1)).trans hw989_1)⟩ (fun hHeld => ?_); clear hK K; refine norm_ (a' := ?_) ?_ ?_; rotate_left
            ·show Act.put _ (some 6) _ = _; simp only [Act.put, pu, i64_w, i32_w]; rfl
            refine one_ (i := 10) (N := some 7) #[true, true, true, true, true, true, true, true, true, true, true, false, false] rfl rfl (one_of HT_.out (by kernel_rfl)) (by decide) (fun K hK => ?_); refine box_step ?hg (N := 7) ?hd (cs := #[.int .i64 0, .int .i64 0]) (t := 124) ?hr ?_; (case hd => rfl); (case hg => rfl); (case hr => first | (go_simp; done) | (go_simp; rfl))
            intro gb991 hg w38 hbox hb; have BK991 := Aside0.mk (hbox); have GW991 := Aside0.mk ((by rw [hg]; exact (below_size (gT1 GE990.out HB)) : w.heap.size ≤ gb991)); have GE991 := Aside0.mk ((by rw [hg]; exact (below_size (gT1 GE990.out HB)) : w.heap.size ≤ gb991)); replace HB := Aside0.mk (below_step (gT1 GE990.out HB) hb); have NB990_991 := Aside0.mk ((by rw [hg]; exact Nat.ne_of_lt (blk_lt (g := gb990) (gK BK990)) : gb990 ≠ gb991)); have NB991_990 := Aside0.mk ((by rw [hg]; exact Nat.ne_of_gt (blk_lt (g := gb990) (gK BK990)) : gb991 ≠ gb990)); replace BK990 := Aside0.mk (blk_below (g := gb990) (gK BK990) hb); clear hb hbox hg; refine hK.out _ _ ⟨((HB.out.cell (World.block_lt_of_cell? w _ hw988_0)).trans hw988_0), ((HB.out.cell (World.block_lt_of_cell? w _ hw988_1)).trans hw988_1), ((HB.out.cell (World.block_lt_of_cell? w _ hw989_0)).trans hw989_0), ((HB.out.cell (World.block_lt_of_cell? w _ hw989_1)).trans hw989_1)⟩ (fun hHeld => ?_); clear hK K; refine norm_ (a' := ?_) ?_ ?_; rotate_left
            ·show Act.put _ (some 7) _ = _; simp only [Act.put, pu, i64_w, i32_w]; rfl
            exact norm_ (by simp only [putAll, Act.put, List.setIfInBounds_toArray, List.set_cons_zero, List.set_cons_succ]) (hCont (gb990, gb991) _ ⟨hHeld, (gK BK990), (gK BK991), GW990.out, GE990.out, NB991_990.out, NB990_991.out, GW991.out, GE991.out, (gT2 GE990.out GE991.out HB)⟩)
           ·skip
            refine box_step ?hg (N := 7) ?hd (cs := #[.int .i64 0, .int .i64 0]) (t := 124) ?hr ?_; (case hd => rfl); (case hg => rfl); (case hr => first | (go_simp; done) | (go_simp; rfl))
            intro gb991 hg w37 hbox hb; have BK991 := Aside0.mk (hbox); have GW991 := Aside0.mk ((by rw [hg]; exact (below_size (gB HB)) : w.heap.size ≤ gb991)); have GE991 := Aside0.mk ((by rw [hg]; exact (below_size (gB HB)) : w.heap.size ≤ gb991)); replace HB := Aside0.mk (below_step (gB HB) hb); clear hb hbox hg; refine hK.out _ _ ⟨((HB.out.cell (World.block_lt_of_cell? w _ hw988_0)).trans hw988_0), ((HB.out.cell (World.block_lt_of_cell? w _ hw988_1)).trans hw988_1), ((HB.out.cell (World.block_lt_of_cell? w _ hw989_0)).trans hw989_0), ((HB.out.cell (World.block_lt_of_cell? w _ hw989_1)).trans hw989_1)⟩ (fun hHeld => ?_); clear hK K; refine norm_ (a' := ?_) ?_ ?_; rotate_left
            ·show Act.put _ (some 7) _ = _; simp only [Act.put, pu, i64_w, i32_w]; rfl
            refine one_ (i := 9) (N := some 6) #[true, true, true, true, true, true, true, true, true, true, true, false, false] rfl rfl (one_of HT_.out (by kernel_rfl)) (by decide) (fun K hK => ?_); refine box_step ?hg (N := 6) ?hd (cs := #[.int .i64 0, .int .i64 0]) (t := 124) ?hr ?_; (case hd => rfl); (case hg => rfl); (case hr => first | (go_simp; done) | (go_simp; rfl))
            intro gb990 hg w38 hbox hb; have BK990 := Aside0.mk (hbox); have GW990 := Aside0.mk ((by rw [hg]; exact (below_size (gT1 GE991.out HB)) : w.heap.size ≤ gb990)); have GE990 := Aside0.mk ((by rw [hg]; exact (below_size (gT1 GE991.out HB)) : w.heap.size ≤ gb990)); replace HB := Aside0.mk (below_step (gT1 GE991.out HB) hb); have NB991_990 := Aside0.mk ((by rw [hg]; exact Nat.ne_of_lt (blk_lt (g := gb991) (gK BK991)) : gb991 ≠ gb990)); have NB990_991 := Aside0.mk ((by rw [hg]; exact Nat.ne_of_gt (blk_lt (g := gb991) (gK BK991)) : gb990 ≠ gb991)); replace BK991 := Aside0.mk (blk_below (g := gb991) (gK BK991) hb); clear hb hbox hg; refine hK.out _ _ ⟨((HB.out.cell (World.block_lt_of_cell? w _ hw988_0)).trans hw988_0), ((HB.out.cell (World.block_lt_of_cell? w _ hw988_1)).trans hw988_1), ((HB.out.cell (World.block_lt_of_cell? w _ hw989_0)).trans hw989_0), ((HB.out.cell (World.block_lt_of_cell? w _ hw989_1)).trans hw989_1)⟩ (fun hHeld => ?_); clear hK K; refine norm_ (a' := ?_) ?_ ?_; rotate_left
            ·show Act.put _ (some 6) _ = _; simp only [Act.put, pu, i64_w, i32_w]; rfl
            exact norm_ (by simp only [putAll, Act.put, List.setIfInBounds_toArray, List.set_cons_zero, List.set_cons_succ]) (hCont (gb990, gb991) _ ⟨hHeld, (gK BK990), (gK BK991), GW990.out, GE990.out, NB991_990.out, NB990_991.out, GW991.out, GE991.out, (gT2 GE991.out GE990.out HB)⟩)
          rintro ⟨gb990, gb991⟩ w39 ⟨hS_, h0_, h1_, h2_, h3_, h4_, h5_, h6_, h7_, h8_⟩; have n0_ : Aside0 (w39.heap[gb990]? = some (.cells #[.int .i64 0, .int .i64 0] 124 (0, 0))) := ⟨h0_⟩; have n1_ : Aside0 (w39.heap[gb991]? = some (.cells #[.int .i64 0, .int .i64 0] 124 (0, 0))) := ⟨h1_⟩; have n2_ : Aside0 (w.heap.size ≤ gb990) := ⟨h2_⟩; have n3_ : Aside0 (w.heap.size ≤ gb990) := ⟨h3_⟩; have n4_ : Aside0 (gb991 ≠ gb990) := ⟨h4_⟩; have n5_ : Aside0 (gb990 ≠ gb991) := ⟨h5_⟩; have n6_ : Aside0 (w.heap.size ≤ gb991) := ⟨h6_⟩; have n7_ : Aside0 (w.heap.size ≤ gb991) := ⟨h7_⟩; have n8_ : Aside0 (Below w.heap.size w w39) := ⟨h8_⟩; clear HB; clear h0_ h1_ h2_ h3_ h4_ h5_ h6_ h7_ h8_; have BK990 := n0_; have BK991 := n1_; have GW990 := n2_; have GE990 := n3_; have NB991_990 := n4_; have NB990_991 := n5_; have GW991 := n6_; have GE991 := n7_; have HB := n8_; clear n0_ n1_ n2_ n3_ n4_ n5_ n6_ n7_ n8_; have hHeld : w39.cell? (ad988.add (((ji7)).toNat * 2)) = some (.int .i64 ((rd_T124 l1 (ji7)).f0)) ∧ w39.cell? ⟨(ad988.add (((ji7)).toNat * 2)).block, (ad988.add (((ji7)).toNat * 2)).off + 1, none⟩ = some (.int .i64 ((rd_T124 l1 (ji7)).f1)) ∧ w39.cell? (ad988.add ((x5_1).toNat * 2)) = some (.int .i64 ((rd_T124 l1 x5_1).f0)) ∧ w39.cell? ⟨(ad988.add ((x5_1).toNat * 2)).block, (ad988.add ((x5_1).toNat * 2)).off + 1, none⟩ = some (.int .i64 ((rd_T124 l1 x5_1).f1)) := hS_; refine norm_ (a' := ?_) ?_ ?_; rotate_left
          ·simp only [putAll, Act.put, List.setIfInBounds_toArray, List.set_cons_zero, List.set_cons_succ]; rfl
          refine one_ (i := 11) (N := none) #[true, true, true, true, true, true, true, true, true, true, true, true, false] rfl rfl (one_of HT_.out (by kernel_rfl)) (by decide) (fun K hK => ?_); have hs40 : w39.cell? ⟨gb990, 0, none⟩ = some (.int .i64 0) := (blk_cell BK990.out 0).trans rfl; have hfs40 := blk_frozen BK990.out 0; have hns40_1 := NB991_990.out; have hms40_1 := NB990_991.out; have hs41 : w39.cell? ⟨gb990, 1, none⟩ = some (.int .i64 0) := (blk_cell BK990.out 1).trans rfl; have hfs41 := blk_frozen BK990.out 1; have hns41_1 := NB991_990.out; have hms41_1 := NB990_991.out; refine skip_ (w1 := ?_) (by rfl) rfl ?_ ?_; rotate_left
          ·go_simp; rfl
          refine hK.out _ _ ⟨((cell_far (p := ⟨gb990, _, none⟩) (by first | exact Nat.ne_of_lt (Nat.lt_of_lt_of_le (by have := World.block_lt_of_cell? _ _ hw988_0; first | rwa [add_block] at this | exact this) GW990.out) | (rw [add_block]; exact Nat.ne_of_lt (Nat.lt_of_lt_of_le (by have := World.block_lt_of_cell? _ _ hw988_0; first | rwa [add_block] at this | exact this) GW990.out)) | (show (Addr.add _ _).block ≠ _; rw [add_block]; exact Nat.ne_of_lt (Nat.lt_of_lt_of_le (by have := World.block_lt_of_cell? _ _ hw988_0; first | rwa [add_block] at this | exact this) GW990.out)) | (dsimp only; exact Nat.ne_of_lt (Nat.lt_of_lt_of_le (by have := World.block_lt_of_cell? _ _ hw988_0; first | rwa [add_block] at this | exact this) GW990.out))) _).trans (((cell_far (p := ⟨gb990, _, none⟩) (by first | exact Nat.ne_of_lt (Nat.lt_of_lt_of_le (by have := World.block_lt_of_cell? _ _ hw988_0; first | rwa [add_block] at this | exact this) GW990.out) | (rw [add_block]; exact Nat.ne_of_lt (Nat.lt_of_lt_of_le (by have := World.block_lt_of_cell? _ _ hw988_0; first | rwa [add_block] at this | exact this) GW990.out)) | (show (Addr.add _ _).block ≠ _; rw [add_block]; exact Nat.ne_of_lt (Nat.lt_of_lt_of_le (by have := World.block_lt_of_cell? _ _ hw988_0; first | rwa [add_block] at this | exact this) GW990.out)) | (dsimp only; exact Nat.ne_of_lt (Nat.lt_of_lt_of_le (by have := World.block_lt_of_cell? _ _ hw988_0; first | rwa [add_block] at this | exact this) GW990.out))) _).trans (hHeld.1)))), ((cell_far (p := ⟨gb990, _, none⟩) (by first | exact Nat.ne_of_lt (Nat.lt_of_lt_of_le (by have := World.block_lt_of_cell? _ _ hw988_1; first | rwa [add_block] at this | exact this) GW990.out) | (rw [add_block]; exact Nat.ne_of_lt (Nat.lt_of_lt_of_le (by have := World.block_lt_of_cell? _ _ hw988_1; first | rwa [add_block] at this | exact this) GW990.out)) | (show (Addr.add _ _).block ≠ _; rw [add_block]; exact Nat.ne_of_lt (Nat.lt_of_lt_of_le (by have := World.block_lt_of_cell? _ _ hw988_1; first | rwa [add_block] at this | exact this) GW990.out)) | (dsimp only; exact Nat.ne_of_lt (Nat.lt_of_lt_of_le (by have := World.block_lt_of_cell? _ _ hw988_1; first | rwa [add_block] at this | exact this) GW990.out))) _).trans (((cell_far (p := ⟨gb990, _, none⟩) (by first | exact Nat.ne_of_lt (Nat.lt_of_lt_of_le (by have := World.block_lt_of_cell? _ _ hw988_1; first | rwa [add_block] at this | exact this) GW990.out) | (rw [add_block]; exact Nat.ne_of_lt (Nat.lt_of_lt_of_le (by have := World.block_lt_of_cell? _ _ hw988_1; first | rwa [add_block] at this | exact this) GW990.out)) | (show (Addr.add _ _).block ≠ _; rw [add_block]; exact Nat.ne_of_lt (Nat.lt_of_lt_of_le (by have := World.block_lt_of_cell? _ _ hw988_1; first | rwa [add_block] at this | exact this) GW990.out)) | (dsimp only; exact Nat.ne_of_lt (Nat.lt_of_lt_of_le (by have := World.block_lt_of_cell? _ _ hw988_1; first | rwa [add_block] at this | exact this) GW990.out))) _).trans (hHeld.2.1)))), ((cell_far (p := ⟨gb990, _, none⟩) (by first | exact Nat.ne_of_lt (Nat.lt_of_lt_of_le (by have := World.block_lt_of_cell? _ _ hw989_0; first | rwa [add_block] at this | exact this) GW990.out) | (rw [add_block]; exact Nat.ne_of_lt (Nat.lt_of_lt_of_le (by have := World.block_lt_of_cell? _ _ hw989_0; first | rwa [add_block] at this | exact this) GW990.out)) | (show (Addr.add _ _).block ≠ _; rw [add_block]; exact Nat.ne_of_lt (Nat.lt_of_lt_of_le (by have := World.block_lt_of_cell? _ _ hw989_0; first | rwa [add_block] at this | exact this) GW990.out)) | (dsimp only; exact Nat.ne_of_lt (Nat.lt_of_lt_of_le (by have := World.block_lt_of_cell? _ _ hw989_0; first | rwa [add_block] at this | exact this) GW990.out))) _).trans (((cell_far (p := ⟨gb990, _, none⟩) (by first | exact Nat.ne_of_lt (Nat.lt_of_lt_of_le (by have := World.block_lt_of_cell? _ _ hw989_0; first | rwa [add_block] at this | exact this) GW990.out) | (rw [add_block]; exact Nat.ne_of_lt (Nat.lt_of_lt_of_le (by have := World.block_lt_of_cell? _ _ hw989_0; first | rwa [add_block] at this | exact this) GW990.out)) | (show (Addr.add _ _).block ≠ _; rw [add_block]; exact Nat.ne_of_lt (Nat.lt_of_lt_of_le (by have := World.block_lt_of_cell? _ _ hw989_0; first | rwa [add_block] at this | exact this) GW990.out)) | (dsimp only; exact Nat.ne_of_lt (Nat.lt_of_lt_of_le (by have := World.block_lt_of_cell? _ _ hw989_0; first | rwa [add_block] at this | exact this) GW990.out))) _).trans (hHeld.2.2.1)))), ((cell_far (p := ⟨gb990, _, none⟩) (by first | exact Nat.ne_of_lt (Nat.lt_of_lt_of_le (by have := World.block_lt_of_cell? _ _ hw989_1; first | rwa [add_block] at this | exact this) GW990.out) | (rw [add_block]; exact Nat.ne_of_lt (Nat.lt_of_lt_of_le (by have := World.block_lt_of_cell? _ _ hw989_1; first | rwa [add_block] at this | exact this) GW990.out)) | (show (Addr.add _ _).block ≠ _; rw [add_block]; exact Nat.ne_of_lt (Nat.lt_of_lt_of_le (by have := World.block_lt_of_cell? _ _ hw989_1; first | rwa [add_block] at this | exact this) GW990.out)) | (dsimp only; exact Nat.ne_of_lt (Nat.lt_of_lt_of_le (by have := World.block_lt_of_cell? _ _ hw989_1; first | rwa [add_block] at this | exact this) GW990.out))) _).trans (((cell_far (p := ⟨gb990, _, none⟩) (by first | exact Nat.ne_of_lt (Nat.lt_of_lt_of_le (by have := World.block_lt_of_cell? _ _ hw989_1; first | rwa [add_block] at this | exact this) GW990.out) | (rw [add_block]; exact Nat.ne_of_lt (Nat.lt_of_lt_of_le (by have := World.block_lt_of_cell? _ _ hw989_1; first | rwa [add_block] at this | exact this) GW990.out)) | (show (Addr.add _ _).block ≠ _; rw [add_block]; exact Nat.ne_of_lt (Nat.lt_of_lt_of_le (by have := World.block_lt_of_cell? _ _ hw989_1; first | rwa [add_block] at this | exact this) GW990.out)) | (dsimp only; exact Nat.ne_of_lt (Nat.lt_of_lt_of_le (by have := World.block_lt_of_cell? _ _ hw989_1; first | rwa [add_block] at this | exact this) GW990.out))) _).trans (hHeld.2.2.2))))⟩ (fun hHeld => ?_)
          clear hK K; refine one_ (i := 12) (N := none) #[true, true, true, true, true, true, true, true, true, true, true, true, true] rfl rfl (one_of HT_.out (by kernel_rfl)) (by decide) (fun K hK => ?_); have hs42 : w39.cell? ⟨gb991, 0, none⟩ = some (.int .i64 0) := (blk_cell BK991.out 0).trans rfl; have hfs42 := blk_frozen BK991.out 0; have hns42_0 := NB990_991.out; have hms42_0 := NB991_990.out; have hs43 : w39.cell? ⟨gb991, 1, none⟩ = some (.int .i64 0) := (blk_cell BK991.out 1).trans rfl; have hfs43 := blk_frozen BK991.out 1; have hns43_0 := NB990_991.out; have hms43_0 := NB991_990.out; refine skip_ (w1 := ?_) (by rfl) rfl ?_ ?_; rotate_left
          ·go_simp; rfl
          refine hK.out _ _ ⟨((cell_far (p := ⟨gb991, _, none⟩) (by first | exact Nat.ne_of_lt (Nat.lt_of_lt_of_le (by have := World.block_lt_of_cell? _ _ hw988_0; first | rwa [add_block] at this | exact this) GW991.out) | (rw [add_block]; exact Nat.ne_of_lt (Nat.lt_of_lt_of_le (by have := World.block_lt_of_cell? _ _ hw988_0; first | rwa [add_block] at this | exact this) GW991.out)) | (show (Addr.add _ _).block ≠ _; rw [add_block]; exact Nat.ne_of_lt (Nat.lt_of_lt_of_le (by have := World.block_lt_of_cell? _ _ hw988_0; first | rwa [add_block] at this | exact this) GW991.out)) | (dsimp only; exact Nat.ne_of_lt (Nat.lt_of_lt_of_le (by have := World.block_lt_of_cell? _ _ hw988_0; first | rwa [add_block] at this | exact this) GW991.out))) _).trans (((cell_far (p := ⟨gb991, _, none⟩) (by first | exact Nat.ne_of_lt (Nat.lt_of_lt_of_le (by have := World.block_lt_of_cell? _ _ hw988_0; first | rwa [add_block] at this | exact this) GW991.out) | (rw [add_block]; exact Nat.ne_of_lt (Nat.lt_of_lt_of_le (by have := World.block_lt_of_cell? _ _ hw988_0; first | rwa [add_block] at this | exact this) GW991.out)) | (show (Addr.add _ _).block ≠ _; rw [add_block]; exact Nat.ne_of_lt (Nat.lt_of_lt_of_le (by have := World.block_lt_of_cell? _ _ hw988_0; first | rwa [add_block] at this | exact this) GW991.out)) | (dsimp only; exact Nat.ne_of_lt (Nat.lt_of_lt_of_le (by have := World.block_lt_of_cell? _ _ hw988_0; first | rwa [add_block] at this | exact this) GW991.out))) _).trans (hHeld.1)))), ((cell_far (p := ⟨gb991, _, none⟩) (by first | exact Nat.ne_of_lt (Nat.lt_of_lt_of_le (by have := World.block_lt_of_cell? _ _ hw988_1; first | rwa [add_block] at this | exact this) GW991.out) | (rw [add_block]; exact Nat.ne_of_lt (Nat.lt_of_lt_of_le (by have := World.block_lt_of_cell? _ _ hw988_1; first | rwa [add_block] at this | exact this) GW991.out)) | (show (Addr.add _ _).block ≠ _; rw [add_block]; exact Nat.ne_of_lt (Nat.lt_of_lt_of_le (by have := World.block_lt_of_cell? _ _ hw988_1; first | rwa [add_block] at this | exact this) GW991.out)) | (dsimp only; exact Nat.ne_of_lt (Nat.lt_of_lt_of_le (by have := World.block_lt_of_cell? _ _ hw988_1; first | rwa [add_block] at this | exact this) GW991.out))) _).trans (((cell_far (p := ⟨gb991, _, none⟩) (by first | exact Nat.ne_of_lt (Nat.lt_of_lt_of_le (by have := World.block_lt_of_cell? _ _ hw988_1; first | rwa [add_block] at this | exact this) GW991.out) | (rw [add_block]; exact Nat.ne_of_lt (Nat.lt_of_lt_of_le (by have := World.block_lt_of_cell? _ _ hw988_1; first | rwa [add_block] at this | exact this) GW991.out)) | (show (Addr.add _ _).block ≠ _; rw [add_block]; exact Nat.ne_of_lt (Nat.lt_of_lt_of_le (by have := World.block_lt_of_cell? _ _ hw988_1; first | rwa [add_block] at this | exact this) GW991.out)) | (dsimp only; exact Nat.ne_of_lt (Nat.lt_of_lt_of_le (by have := World.block_lt_of_cell? _ _ hw988_1; first | rwa [add_block] at this | exact this) GW991.out))) _).trans (hHeld.2.1)))), ((cell_far (p := ⟨gb991, _, none⟩) (by first | exact Nat.ne_of_lt (Nat.lt_of_lt_of_le (by have := World.block_lt_of_cell? _ _ hw989_0; first | rwa [add_block] at this | exact this) GW991.out) | (rw [add_block]; exact Nat.ne_of_lt (Nat.lt_of_lt_of_le (by have := World.block_lt_of_cell? _ _ hw989_0; first | rwa [add_block] at this | exact this) GW991.out)) | (show (Addr.add _ _).block ≠ _; rw [add_block]; exact Nat.ne_of_lt (Nat.lt_of_lt_of_le (by have := World.block_lt_of_cell? _ _ hw989_0; first | rwa [add_block] at this | exact this) GW991.out)) | (dsimp only; exact Nat.ne_of_lt (Nat.lt_of_lt_of_le (by have := World.block_lt_of_cell? _ _ hw989_0; first | rwa [add_block] at this | exact this) GW991.out))) _).trans (((cell_far (p := ⟨gb991, _, none⟩) (by first | exact Nat.ne_of_lt (Nat.lt_of_lt_of_le (by have := World.block_lt_of_cell? _ _ hw989_0; first | rwa [add_block] at this | exact this) GW991.out) | (rw [add_block]; exact Nat.ne_of_lt (Nat.lt_of_lt_of_le (by have := World.block_lt_of_cell? _ _ hw989_0; first | rwa [add_block] at this | exact this) GW991.out)) | (show (Addr.add _ _).block ≠ _; rw [add_block]; exact Nat.ne_of_lt (Nat.lt_of_lt_of_le (by have := World.block_lt_of_cell? _ _ hw989_0; first | rwa [add_block] at this | exact this) GW991.out)) | (dsimp only; exact Nat.ne_of_lt (Nat.lt_of_lt_of_le (by have := World.block_lt_of_cell? _ _ hw989_0; first | rwa [add_block] at this | exact this) GW991.out))) _).trans (hHeld.2.2.1)))), ((cell_far (p := ⟨gb991, _, none⟩) (by first | exact Nat.ne_of_lt (Nat.lt_of_lt_of_le (by have := World.block_lt_of_cell? _ _ hw989_1; first | rwa [add_block] at this | exact this) GW991.out) | (rw [add_block]; exact Nat.ne_of_lt (Nat.lt_of_lt_of_le (by have := World.block_lt_of_cell? _ _ hw989_1; first | rwa [add_block] at this | exact this) GW991.out)) | (show (Addr.add _ _).block ≠ _; rw [add_block]; exact Nat.ne_of_lt (Nat.lt_of_lt_of_le (by have := World.block_lt_of_cell? _ _ hw989_1; first | rwa [add_block] at this | exact this) GW991.out)) | (dsimp only; exact Nat.ne_of_lt (Nat.lt_of_lt_of_le (by have := World.block_lt_of_cell? _ _ hw989_1; first | rwa [add_block] at this | exact this) GW991.out))) _).trans (((cell_far (p := ⟨gb991, _, none⟩) (by first | exact Nat.ne_of_lt (Nat.lt_of_lt_of_le (by have := World.block_lt_of_cell? _ _ hw989_1; first | rwa [add_block] at this | exact this) GW991.out) | (rw [add_block]; exact Nat.ne_of_lt (Nat.lt_of_lt_of_le (by have := World.block_lt_of_cell? _ _ hw989_1; first | rwa [add_block] at this | exact this) GW991.out)) | (show (Addr.add _ _).block ≠ _; rw [add_block]; exact Nat.ne_of_lt (Nat.lt_of_lt_of_le (by have := World.block_lt_of_cell? _ _ hw989_1; first | rwa [add_block] at this | exact this) GW991.out)) | (dsimp only; exact Nat.ne_of_lt (Nat.lt_of_lt_of_le (by have := World.block_lt_of_cell? _ _ hw989_1; first | rwa [add_block] at this | exact this) GW991.out))) _).trans (hHeld.2.2.2))))⟩ (fun hHeld => ?_)
          clear hK K; refine done_ (done_of HT_.out (by kernel_rfl)) ?_; try go_wp2
          have n0_ : Aside0 (((((w39.setCell ⟨gb990, 0, none⟩ (.int .i64 ((rd_T124 l1 (ji7)).f0))).setCell ⟨gb990, 1, none⟩ (.int .i64 ((rd_T124 l1 (ji7)).f1))).setCell ⟨gb991, 0, none⟩ (.int .i64 ((rd_T124 l1 x5_1).f0))).setCell ⟨gb991, 1, none⟩ (.int .i64 ((rd_T124 l1 x5_1).f1))).heap[gb990]? = some (.cells #[.int .i64 ((rd_T124 l1 (ji7)).f0), .int .i64 ((rd_T124 l1 (ji7)).f1)] 124 (0, 0))) := ⟨by (with_reducible repeat (first | refine blk_drewN ?_ _ | refine blk_drew ?_ | refine blk_alloc ?_ _)); refine blk_far ?_ NB990_991.out _; (with_reducible repeat (first | refine blk_drewN ?_ _ | refine blk_drew ?_ | refine blk_alloc ?_ _)); refine blk_far ?_ NB990_991.out _; (with_reducible repeat (first | refine blk_drewN ?_ _ | refine blk_drew ?_ | refine blk_alloc ?_ _)); refine blk_put (cs := #[.int .i64 ((rd_T124 l1 (ji7)).f0), .int .i64 0]) ?_ 1 _ rfl; (with_reducible repeat (first | refine blk_drewN ?_ _ | refine blk_drew ?_ | refine blk_alloc ?_ _)); refine blk_put (cs := #[.int .i64 0, .int .i64 0]) ?_ 0 _ rfl; (with_reducible repeat (first | refine blk_drewN ?_ _ | refine blk_drew ?_ | refine blk_alloc ?_ _)); exact BK990.out⟩
          have n1_ : Aside0 (((((w39.setCell ⟨gb990, 0, none⟩ (.int .i64 ((rd_T124 l1 (ji7)).f0))).setCell ⟨gb990, 1, none⟩ (.int .i64 ((rd_T124 l1 (ji7)).f1))).setCell ⟨gb991, 0, none⟩ (.int .i64 ((rd_T124 l1 x5_1).f0))).setCell ⟨gb991, 1, none⟩ (.int .i64 ((rd_T124 l1 x5_1).f1))).heap[gb991]? = some (.cells #[.int .i64 ((rd_T124 l1 x5_1).f0), .int .i64 ((rd_T124 l1 x5_1).f1)] 124 (0, 0))) := ⟨by (with_reducible repeat (first | refine blk_drewN ?_ _ | refine blk_drew ?_ | refine blk_alloc ?_ _)); refine blk_put (cs := #[.int .i64 ((rd_T124 l1 x5_1).f0), .int .i64 0]) ?_ 1 _ rfl; (with_reducible repeat (first | refine blk_drewN ?_ _ | refine blk_drew ?_ | refine blk_alloc ?_ _)); refine blk_put (cs := #[.int .i64 0, .int .i64 0]) ?_ 0 _ rfl; (with_reducible repeat (first | refine blk_drewN ?_ _ | refine blk_drew ?_ | refine blk_alloc ?_ _)); refine blk_far ?_ NB991_990.out _; (with_reducible repeat (first | refine blk_drewN ?_ _ | refine blk_drew ?_ | refine blk_alloc ?_ _)); refine blk_far ?_ NB991_990.out _; (with_reducible repeat (first | refine blk_drewN ?_ _ | refine blk_drew ?_ | refine blk_alloc ?_ _)); exact BK991.out⟩; have n2_ : Aside0 (Below w.heap.size w ((((w39.setCell ⟨gb990, 0, none⟩ (.int .i64 ((rd_T124 l1 (ji7)).f0))).setCell ⟨gb990, 1, none⟩ (.int .i64 ((rd_T124 l1 (ji7)).f1))).setCell ⟨gb991, 0, none⟩ (.int .i64 ((rd_T124 l1 x5_1).f0))).setCell ⟨gb991, 1, none⟩ (.int .i64 ((rd_T124 l1 x5_1).f1)))) := ⟨gT2 GE990.out GE991.out HB⟩; (try clear BK990); (try clear BK991); (try clear HB)
          generalize ((((w39.setCell ⟨gb990, 0, none⟩ (.int .i64 ((rd_T124 l1 (ji7)).f0))).setCell ⟨gb990, 1, none⟩ (.int .i64 ((rd_T124 l1 (ji7)).f1))).setCell ⟨gb991, 0, none⟩ (.int .i64 ((rd_T124 l1 x5_1).f0))).setCell ⟨gb991, 1, none⟩ (.int .i64 ((rd_T124 l1 x5_1).f1))) = w44 at n0_ n1_ n2_ ⊢; have BK990 := n0_; have BK991 := n1_; have HB := n2_; clear n0_ n1_ n2_; replace BK990 := Aside0.mk (blk_drew BK990.out); replace BK991 := Aside0.mk (blk_drew BK991.out); replace HB := Aside0.mk (below_drew1 HB.out); refine start_ (n := 21) (S := fun w' => w'.cell? ⟨gb990, 0, none⟩ = some (.int .i64 ((rd_T124 l1 (ji7)).f0)) ∧ w'.cell? ⟨gb990, 1, none⟩ = some (.int .i64 ((rd_T124 l1 (ji7)).f1)) ∧ w'.cell? ⟨gb991, 0, none⟩ = some (.int .i64 ((rd_T124 l1 x5_1).f0)) ∧ w'.cell? ⟨gb991, 1, none⟩ = some (.int .i64 ((rd_T124 l1 x5_1).f1))) (ds := []) #[false, false, false, false, false, false, false, false, false, false, false, false, false, false, false, false, false, false, false, false, false] (by kernel_rfl) rfl rfl ⟨(blk_cell BK990.out 0).trans rfl, (blk_cell BK990.out 1).trans rfl, (blk_cell BK991.out 0).trans rfl, (blk_cell BK991.out 1).trans rfl⟩ (fun hHeld => ?_); refine with_tabW impl_RunsOk.tab7 impl_RunsOk.bits7 (fun HT_ HW_ => ?_)
          generalize w44.drew = w45 at BK990 BK991 HB hHeld ⊢; refine pure_ (i := 0) (N := some 27) (v := ?_) (a' := ?_) #[true, false, false, false, false, false, false, false, false, false, false, false, false, false, false, false, false, false, false, false, false] rfl rfl (any_of HT_.out (by kernel_rfl)) (fun _ _ _ h => h) (Or.inl ⟨by rfl, ?_⟩) ?_ ?_; rotate_left
          ·intro w'; go_simp; with_reducible rfl
          rotate_left
          ·simp only [Act.put, pu, i64_w, i32_w]; rfl
          refine pure_ (i := 2) (N := some 29) (v := ?_) (a' := ?_) #[true, false, true, false, false, false, false, false, false, false, false, false, false, false, false, false, false, false, false, false, false] rfl rfl (any_of HT_.out (by kernel_rfl)) (fun _ _ _ h => h) (Or.inl ⟨by rfl, ?_⟩) ?_ ?_; rotate_left
          ·intro w'; go_simp; with_reducible rfl
          rotate_left
          ·simp only [Act.put, pu, i64_w, i32_w]; rfl
          refine take_ (i := 1) (N := some 28) (v := ?_) (a' := ?_) #[true, true, true, false, false, false, false, false, false, false, false, false, false, false, false, false, false, false, false, false, false] rfl rfl (take_ofW HT_.out HW_.out (by kernel_rfl)) (fun _ _ _ h => h) (Or.inl ⟨by rfl, ?_⟩) hHeld ?_ ?_; rotate_left
          ·rintro w' ⟨s0, s1, s2, s3⟩; go_simp; with_reducible rfl
          rotate_left
          ·simp only [Act.put, pu, i64_w, i32_w]; rfl
          refine take_ (i := 3) (N := some 30) (v := ?_) (a' := ?_) #[true, true, true, true, false, false, false, false, false, false, false, false, false, false, false, false, false, false, false, false, false] rfl rfl (take_ofW HT_.out HW_.out (by kernel_rfl)) (fun _ _ _ h => h) (Or.inl ⟨by rfl, ?_⟩) hHeld ?_ ?_; rotate_left
          ·rintro w' ⟨s0, s1, s2, s3⟩; go_simp; with_reducible rfl
          rotate_left
          ·simp only [Act.put, pu, i64_w, i32_w]; rfl
          refine pure_ (i := 4) (N := some 31) (v := ?_) (a' := ?_) #[true, true, true, true, true, false, false, false, false, false, false, false, false, false, false, false, false, false, false, false, false] rfl rfl (any_of HT_.out (by kernel_rfl)) (fun _ _ _ h => h) (Or.inl ⟨by rfl, ?_⟩) ?_ ?_; rotate_left
          ·intro w'; go_simp; with_reducible rfl
          rotate_left
          ·simp only [Act.put, pu, i64_w, i32_w]; rfl
          refine pure_ (i := 5) (N := some 32) (v := ?_) (a' := ?_) #[true, true, true, true, true, true, false, false, false, false, false, false, false, false, false, false, false, false, false, false, false] rfl rfl (any_of HT_.out (by kernel_rfl)) (fun _ _ _ h => h) (Or.inl ⟨by rfl, ?_⟩) ?_ ?_; rotate_left
          ·intro w'; go_simp; with_reducible rfl
          rotate_left
          ·simp only [Act.put, pu, i64_w, i32_w]; rfl
          refine pure_ (i := 6) (N := some 33) (v := ?_) (a' := ?_) #[true, true, true, true, true, true, true, false, false, false, false, false, false, false, false, false, false, false, false, false, false] rfl rfl (any_of HT_.out (by kernel_rfl)) (fun _ _ _ h => h) (Or.inl ⟨by rfl, ?_⟩) ?_ ?_; rotate_left
          ·intro w'; go_simp; with_reducible rfl
          rotate_left
          ·simp only [Act.put, pu, i64_w, i32_w]; rfl
          refine take_ (i := 7) (N := some 34) (v := ?_) (a' := ?_) #[true, true, true, true, true, true, true, true, false, false, false, false, false, false, false, false, false, false, false, false, false] rfl rfl (take_ofW HT_.out HW_.out (by kernel_rfl)) (fun _ _ _ h => h) (Or.inl ⟨by rfl, ?_⟩) hHeld ?_ ?_; rotate_left
          ·rintro w' ⟨s0, s1, s2, s3⟩; go_simp; with_reducible rfl
          rotate_left
          ·simp only [Act.put, pu, i64_w, i32_w]; rfl
          refine pure_ (i := 8) (N := some 35) (v := ?_) (a' := ?_) #[true, true, true, true, true, true, true, true, true, false, false, false, false, false, false, false, false, false, false, false, false] rfl rfl (any_of HT_.out (by kernel_rfl)) (fun _ _ _ h => h) (Or.inl ⟨by rfl, ?_⟩) ?_ ?_; rotate_left
          ·intro w'; go_simp; with_reducible rfl
          rotate_left
          ·simp only [Act.put, pu, i64_w, i32_w]; rfl
          refine pure_ (i := 9) (N := some 36) (v := ?_) (a' := ?_) #[true, true, true, true, true, true, true, true, true, true, false, false, false, false, false, false, false, false, false, false, false] rfl rfl (any_of HT_.out (by kernel_rfl)) (fun _ _ _ h => h) (Or.inl ⟨by rfl, ?_⟩) ?_ ?_; rotate_left
          ·intro w'; go_simp; with_reducible rfl
          rotate_left
          ·simp only [Act.put, pu, i64_w, i32_w]; rfl
          refine pure_ (i := 10) (N := some 37) (v := ?_) (a' := ?_) #[true, true, true, true, true, true, true, true, true, true, true, false, false, false, false, false, false, false, false, false, false] rfl rfl (any_of HT_.out (by kernel_rfl)) (fun _ _ _ h => h) (Or.inl ⟨by rfl, ?_⟩) ?_ ?_; rotate_left
          ·intro w'; go_simp; with_reducible rfl
          rotate_left
          ·simp only [Act.put, pu, i64_w, i32_w]; rfl
          refine pure_ (i := 11) (N := some 38) (v := undef) (a' := ?_) #[true, true, true, true, true, true, true, true, true, true, true, true, false, false, false, false, false, false, false, false, false] rfl rfl (any_of HT_.out (by kernel_rfl)) (fun _ _ _ h => h) (Or.inr ⟨by rfl, rfl⟩) ?_ ?_; rotate_left
          ·simp only [Act.put, pu, i64_w, i32_w]; rfl
          refine pure_ (i := 12) (N := some 39) (v := undef) (a' := ?_) #[true, true, true, true, true, true, true, true, true, true, true, true, true, false, false, false, false, false, false, false, false] rfl rfl (any_of HT_.out (by kernel_rfl)) (fun _ _ _ h => h) (Or.inr ⟨by rfl, rfl⟩) ?_ ?_; rotate_left
          ·simp only [Act.put, pu, i64_w, i32_w]; rfl
          refine pure_ (i := 13) (N := some 40) (v := undef) (a' := ?_) #[true, true, true, true, true, true, true, true, true, true, true, true, true, true, false, false, false, false, false, false, false] rfl rfl (any_of HT_.out (by kernel_rfl)) (fun _ _ _ h => h) (Or.inr ⟨by rfl, rfl⟩) ?_ ?_; rotate_left
          ·simp only [Act.put, pu, i64_w, i32_w]; rfl
          refine pure_ (i := 14) (N := some 41) (v := undef) (a' := ?_) #[true, true, true, true, true, true, true, true, true, true, true, true, true, true, true, false, false, false, false, false, false] rfl rfl (any_of HT_.out (by kernel_rfl)) (fun _ _ _ h => h) (Or.inr ⟨by rfl, rfl⟩) ?_ ?_; rotate_left
          ·simp only [Act.put, pu, i64_w, i32_w]; rfl
          refine pure_ (i := 15) (N := some 42) (v := undef) (a' := ?_) #[true, true, true, true, true, true, true, true, true, true, true, true, true, true, true, true, false, false, false, false, false] rfl rfl (any_of HT_.out (by kernel_rfl)) (fun _ _ _ h => h) (Or.inr ⟨by rfl, rfl⟩) ?_ ?_; rotate_left
          ·simp only [Act.put, pu, i64_w, i32_w]; rfl
          refine pure_ (i := 16) (N := some 43) (v := undef) (a' := ?_) #[true, true, true, true, true, true, true, true, true, true, true, true, true, true, true, true, true, false, false, false, false] rfl rfl (any_of HT_.out (by kernel_rfl)) (fun _ _ _ h => h) (Or.inr ⟨by rfl, rfl⟩) ?_ ?_; rotate_left
          ·simp only [Act.put, pu, i64_w, i32_w]; rfl
          refine pure_ (i := 17) (N := some 44) (v := undef) (a' := ?_) #[true, true, true, true, true, true, true, true, true, true, true, true, true, true, true, true, true, true, false, false, false] rfl rfl (any_of HT_.out (by kernel_rfl)) (fun _ _ _ h => h) (Or.inr ⟨by rfl, rfl⟩) ?_ ?_; rotate_left
          ·simp only [Act.put, pu, i64_w, i32_w]; rfl
          refine pure_ (i := 18) (N := some 45) (v := undef) (a' := ?_) #[true, true, true, true, true, true, true, true, true, true, true, true, true, true, true, true, true, true, true, false, false] rfl rfl (any_of HT_.out (by kernel_rfl)) (fun _ _ _ h => h) (Or.inr ⟨by rfl, rfl⟩) ?_ ?_; rotate_left
          ·simp only [Act.put, pu, i64_w, i32_w]; rfl
          refine pure_ (i := 19) (N := some 46) (v := undef) (a' := ?_) #[true, true, true, true, true, true, true, true, true, true, true, true, true, true, true, true, true, true, true, true, false] rfl rfl (any_of HT_.out (by kernel_rfl)) (fun _ _ _ h => h) (Or.inr ⟨by rfl, rfl⟩) ?_ ?_; rotate_left
          ·simp only [Act.put, pu, i64_w, i32_w]; rfl
          refine pure_ (i := 20) (N := some 47) (v := ?_) (a' := ?_) #[true, true, true, true, true, true, true, true, true, true, true, true, true, true, true, true, true, true, true, true, true] rfl rfl (any_of HT_.out (by kernel_rfl)) (fun _ _ _ h => h) (Or.inl ⟨by rfl, ?_⟩) ?_ ?_; rotate_left
          ·intro w'; go_simp; with_reducible rfl
          rotate_left
          ·simp only [Act.put, pu, i64_w, i32_w]; rfl
          refine done_ (done_of HT_.out (by kernel_rfl)) ?_; try go_wp2
          go_roundg k1
          case measure => have := HK1.out; omega
          case rel => exact ⟨(wrap64 (x5_1 + 1)), (by first | rfl | (simp; done) | (simp [*]; done)), H', ⟨by have := HK1.out; omega⟩, ⟨gT2 GE990.out GE991.out HB⟩⟩
        ·rw [if_neg c11] at H; have c11b0 : (((rd_T124 l1 (ji7)).f1) == ((rd_T124 l1 x5_1).f1)) = false := beq_eq_false_iff_ne.mpr c11; have c11b1 : (((rd_T124 l1 (ji7)).f1) != ((rd_T124 l1 x5_1).f1)) = true := bne_iff_ne.mpr c11; have H' := Aside0.mk H; clear H; try go_wp2
         replace HB := Aside0.mk (below_drew1 HB.out); have p988 : 0 ≤ ((ji7) : Int) := of_decide_eq_true (by first | (with_reducible assumption) | assumption); have q988 : (ji7) < (l1.length : Int) := of_decide_eq_true (by first | (with_reducible assumption) | assumption); obtain ⟨ad988, e988, hx988_0, hx988_1⟩ := at_T124 HR1.out (ji7) p988 q988; have hw988_1 := hx988_1; have hw988_0 := hx988_0
         cases e988; replace hx988_0 := (HB.out.cell (World.block_lt_of_cell? w _ hx988_0)).trans hx988_0; replace hx988_1 := (HB.out.cell (World.block_lt_of_cell? w _ hx988_1)).trans hx988_1; replace p988 := eq_true p988; replace q988 := eq_true q988; have p989 : 0 ≤ (x5_1 : Int) := of_decide_eq_true (by first | (with_reducible assumption) | assumption); have q989 : x5_1 < (l1.length : Int) := of_decide_eq_true (by first | (with_reducible assumption) | assumption); obtain ⟨ad989, e989, hx989_0, hx989_1⟩ := at_T124 HR1.out x5_1 p989 q989; have hw989_1 := hx989_1; have hw989_0 := hx989_0; obtain rfl : ad988 = ad989 := (by injection e989); replace hx989_0 := (HB.out.cell (World.block_lt_of_cell? w _ hx989_0)).trans hx989_0; replace hx989_1 := (HB.out.cell (World.block_lt_of_cell? w _ hx989_1)).trans hx989_1; replace p989 := eq_true p989; replace q989 := eq_true q989
         refine start_ (n := 13) (S := fun w' => w'.cell? (ad988.add (((ji7)).toNat * 2)) = some (.int .i64 ((rd_T124 l1 (ji7)).f0)) ∧ w'.cell? ⟨(ad988.add (((ji7)).toNat * 2)).block, (ad988.add (((ji7)).toNat * 2)).off + 1, none⟩ = some (.int .i64 ((rd_T124 l1 (ji7)).f1)) ∧ w'.cell? (ad988.add ((x5_1).toNat * 2)) = some (.int .i64 ((rd_T124 l1 x5_1).f0)) ∧ w'.cell? ⟨(ad988.add ((x5_1).toNat * 2)).block, (ad988.add ((x5_1).toNat * 2)).off + 1, none⟩ = some (.int .i64 ((rd_T124 l1 x5_1).f1))) (ds := []) #[false, false, false, false, false, false, false, false, false, false, false, false, false] (by kernel_rfl) rfl rfl ⟨((HB.out.cell (World.block_lt_of_cell? w _ hw988_0)).trans hw988_0), ((HB.out.cell (World.block_lt_of_cell? w _ hw988_1)).trans hw988_1), ((HB.out.cell (World.block_lt_of_cell? w _ hw989_0)).trans hw989_0), ((HB.out.cell (World.block_lt_of_cell? w _ hw989_1)).trans hw989_1)⟩ (fun hHeld => ?_); refine with_tabW impl_RunsOk.tab6 impl_RunsOk.bits6 (fun HT_ HW_ => ?_)
         generalize wr.drew = w46 at HB hx988_0 hx988_1 hx989_0 hx989_1 hHeld ⊢; refine pure_ (i := 0) (N := some 18) (v := ?_) (a' := ?_) #[true, false, false, false, false, false, false, false, false, false, false, false, false] rfl rfl (any_of HT_.out (by kernel_rfl)) (fun _ _ _ h => h) (Or.inl ⟨by rfl, ?_⟩) ?_ ?_; rotate_left
         ·intro w'; go_simp; with_reducible rfl
         rotate_left
         ·simp only [Act.put, pu, i64_w, i32_w]; rfl
         refine pure_ (i := 1) (N := some 19) (v := ?_) (a' := ?_) #[true, true, false, false, false, false, false, false, false, false, false, false, false] rfl rfl (any_of HT_.out (by kernel_rfl)) (fun _ _ _ h => h) (Or.inl ⟨by rfl, ?_⟩) ?_ ?_; rotate_left
         ·intro w'; go_simp; with_reducible rfl
         rotate_left
         ·simp only [Act.put, pu, i64_w, i32_w]; rfl
         refine pure_ (i := 2) (N := some 20) (v := ?_) (a' := ?_) #[true, true, true, false, false, false, false, false, false, false, false, false, false] rfl rfl (any_of HT_.out (by kernel_rfl)) (fun _ _ _ h => h) (Or.inl ⟨by rfl, ?_⟩) ?_ ?_; rotate_left
         ·intro w'; go_simp; with_reducible rfl
         rotate_left
         ·simp only [Act.put, pu, i64_w, i32_w]; rfl
         refine pure_ (i := 3) (N := some 21) (v := ?_) (a' := ?_) #[true, true, true, true, false, false, false, false, false, false, false, false, false] rfl rfl (any_of HT_.out (by kernel_rfl)) (fun _ _ _ h => h) (Or.inl ⟨by rfl, ?_⟩) ?_ ?_; rotate_left
         ·intro w'; go_simp; with_reducible rfl
         rotate_left
         ·simp only [Act.put, pu, i64_w, i32_w]; rfl
         refine pure_ (i := 5) (N := some 23) (v := ?_) (a' := ?_) #[true, true, true, true, false, true, false, false, false, false, false, false, false] rfl rfl (any_of HT_.out (by kernel_rfl)) (fun _ _ _ h => h) (Or.inl ⟨by rfl, ?_⟩) ?_ ?_; rotate_left
         ·intro w'; go_simp; with_reducible rfl
         rotate_left
         ·simp only [Act.put, pu, i64_w, i32_w]; rfl
         refine pure_ (i := 6) (N := some 24) (v := ?_) (a' := ?_) #[true, true, true, true, false, true, true, false, false, false, false, false, false] rfl rfl (any_of HT_.out (by kernel_rfl)) (fun _ _ _ h => h) (Or.inl ⟨by rfl, ?_⟩) ?_ ?_; rotate_left
         ·intro w'; go_simp; with_reducible rfl
         rotate_left
         ·simp only [Act.put, pu, i64_w, i32_w]; rfl
         refine pure_ (i := 7) (N := some 25) (v := ?_) (a' := ?_) #[true, true, true, true, false, true, true, true, false, false, false, false, false] rfl rfl (any_of HT_.out (by kernel_rfl)) (fun _ _ _ h => h) (Or.inl ⟨by rfl, ?_⟩) ?_ ?_; rotate_left
         ·intro w'; go_simp; with_reducible rfl
         rotate_left
         ·simp only [Act.put, pu, i64_w, i32_w]; rfl
         refine take_ (i := 4) (N := some 22) (v := ?_) (a' := ?_) #[true, true, true, true, true, true, true, true, false, false, false, false, false] rfl rfl (take_ofW HT_.out HW_.out (by kernel_rfl)) (fun _ _ _ h => h) (Or.inl ⟨by rfl, ?_⟩) hHeld ?_ ?_; rotate_left
         ·rintro w' ⟨s0, s1, s2, s3⟩; go_simp; with_reducible rfl
         rotate_left
         ·simp only [Act.put, pu, i64_w, i32_w]; rfl
         refine take_ (i := 8) (N := some 26) (v := ?_) (a' := ?_) #[true, true, true, true, true, true, true, true, true, false, false, false, false] rfl rfl (take_ofW HT_.out HW_.out (by kernel_rfl)) (fun _ _ _ h => h) (Or.inl ⟨by rfl, ?_⟩) hHeld ?_ ?_; rotate_left
         ·rintro w' ⟨s0, s1, s2, s3⟩; go_simp; with_reducible rfl
         rotate_left
         ·simp only [Act.put, pu, i64_w, i32_w]; rfl
         refine join_ (σ := Nat × Nat) 2 #[true, true, true, true, true, true, true, true, true, true, true, false, false] (fun s_ => [(6, .pointer (some ⟨s_.1, 0, none⟩)), (7, .pointer (some ⟨s_.2, 0, none⟩))]) (fun s_ w' => (w'.cell? (ad988.add (((ji7)).toNat * 2)) = some (.int .i64 ((rd_T124 l1 (ji7)).f0)) ∧ w'.cell? ⟨(ad988.add (((ji7)).toNat * 2)).block, (ad988.add (((ji7)).toNat * 2)).off + 1, none⟩ = some (.int .i64 ((rd_T124 l1 (ji7)).f1)) ∧ w'.cell? (ad988.add ((x5_1).toNat * 2)) = some (.int .i64 ((rd_T124 l1 x5_1).f0)) ∧ w'.cell? ⟨(ad988.add ((x5_1).toNat * 2)).block, (ad988.add ((x5_1).toNat * 2)).off + 1, none⟩ = some (.int .i64 ((rd_T124 l1 x5_1).f1))) ∧ (w'.heap[s_.1]? = some (.cells #[.int .i64 0, .int .i64 0] 124 (0, 0))) ∧ (w'.heap[s_.2]? = some (.cells #[.int .i64 0, .int .i64 0] 124 (0, 0))) ∧ (w.heap.size ≤ s_.1) ∧ (w.heap.size ≤ s_.1) ∧ (s_.2 ≠ s_.1) ∧ (s_.1 ≠ s_.2) ∧ (w.heap.size ≤ s_.2) ∧ (w.heap.size ≤ s_.2) ∧ (Below w.heap.size w w')) ?_ ?_; rotate_left
         ·intro hCont; refine two_ (i := 9) (j := 10) (Ni := some 6) (Nj := some 7) #[true, true, true, true, true, true, true, true, true, true, false, false, false] #[true, true, true, true, true, true, true, true, true, false, true, false, false] rfl rfl rfl rfl (two_of HT_.out (by kernel_rfl)) (by decide) (by decide) (fun K hK => ?_) (fun K hK => ?_)
          ·skip
           refine box_step ?hg (N := 6) ?hd (cs := #[.int .i64 0, .int .i64 0]) (t := 124) ?hr ?_; (case hd => rfl); (case hg => rfl); (case hr => first | (go_simp; done) | (go_simp; rfl))
           intro gb990 hg w47 hbox hb; have BK990 := Aside0.mk (hbox); have GW990 := Aside0.mk ((by rw [hg]; exact (below_size (gB HB)) : w.heap.size ≤ gb990)); have GE990 := Aside0.mk ((by rw [hg]; exact (below_size (gB HB)) : w.heap.size ≤ gb990)); replace HB := Aside0.mk (below_step (gB HB) hb); clear hb hbox hg; refine hK.out _ _ ⟨((HB.out.cell (World.block_lt_of_cell? w _ hw988_0)).trans hw988_0), ((HB.out.cell (World.block_lt_of_cell? w _ hw988_1)).trans hw988_1), ((HB.out.cell (World.block_lt_of_cell? w _ hw989_0)).trans hw989_0), ((HB.out.cell (World.block_lt_of_cell? w _ hw989_1)).trans hw989_1)⟩ (fun hHeld => ?_); clear hK K; refine norm_ (a' := ?_) ?_ ?_; rotate_left
           ·show Act.put _ (some 6) _ = _; simp only [Act.put, pu, i64_w, i32_w]; rfl
           refine one_ (i := 10) (N := some 7) #[true, true, true, true, true, true, true, true, true, true, true, false, false] rfl rfl (one_of HT_.out (by kernel_rfl)) (by decide) (fun K hK => ?_); refine box_step ?hg (N := 7) ?hd (cs := #[.int .i64 0, .int .i64 0]) (t := 124) ?hr ?_; (case hd => rfl); (case hg => rfl); (case hr => first | (go_simp; done) | (go_simp; rfl))
           intro gb991 hg w48 hbox hb; have BK991 := Aside0.mk (hbox); have GW991 := Aside0.mk ((by rw [hg]; exact (below_size (gT1 GE990.out HB)) : w.heap.size ≤ gb991)); have GE991 := Aside0.mk ((by rw [hg]; exact (below_size (gT1 GE990.out HB)) : w.heap.size ≤ gb991)); replace HB := Aside0.mk (below_step (gT1 GE990.out HB) hb); have NB990_991 := Aside0.mk ((by rw [hg]; exact Nat.ne_of_lt (blk_lt (g := gb990) (gK BK990)) : gb990 ≠ gb991)); have NB991_990 := Aside0.mk ((by rw [hg]; exact Nat.ne_of_gt (blk_lt (g := gb990) (gK BK990)) : gb991 ≠ gb990)); replace BK990 := Aside0.mk (blk_below (g := gb990) (gK BK990) hb); clear hb hbox hg; refine hK.out _ _ ⟨((HB.out.cell (World.block_lt_of_cell? w _ hw988_0)).trans hw988_0), ((HB.out.cell (World.block_lt_of_cell? w _ hw988_1)).trans hw988_1), ((HB.out.cell (World.block_lt_of_cell? w _ hw989_0)).trans hw989_0), ((HB.out.cell (World.block_lt_of_cell? w _ hw989_1)).trans hw989_1)⟩ (fun hHeld => ?_); clear hK K; refine norm_ (a' := ?_) ?_ ?_; rotate_left
           ·show Act.put _ (some 7) _ = _; simp only [Act.put, pu, i64_w, i32_w]; rfl
           exact norm_ (by simp only [putAll, Act.put, List.setIfInBounds_toArray, List.set_cons_zero, List.set_cons_succ]) (hCont (gb990, gb991) _ ⟨hHeld, (gK BK990), (gK BK991), GW990.out, GE990.out, NB991_990.out, NB990_991.out, GW991.out, GE991.out, (gT2 GE990.out GE991.out HB)⟩)
          ·skip
           refine box_step ?hg (N := 7) ?hd (cs := #[.int .i64 0, .int .i64 0]) (t := 124) ?hr ?_; (case hd => rfl); (case hg => rfl); (case hr => first | (go_simp; done) | (go_simp; rfl))
           intro gb991 hg w47 hbox hb; have BK991 := Aside0.mk (hbox); have GW991 := Aside0.mk ((by rw [hg]; exact (below_size (gB HB)) : w.heap.size ≤ gb991)); have GE991 := Aside0.mk ((by rw [hg]; exact (below_size (gB HB)) : w.heap.size ≤ gb991)); replace HB := Aside0.mk (below_step (gB HB) hb); clear hb hbox hg; refine hK.out _ _ ⟨((HB.out.cell (World.block_lt_of_cell? w _ hw988_0)).trans hw988_0), ((HB.out.cell (World.block_lt_of_cell? w _ hw988_1)).trans hw988_1), ((HB.out.cell (World.block_lt_of_cell? w _ hw989_0)).trans hw989_0), ((HB.out.cell (World.block_lt_of_cell? w _ hw989_1)).trans hw989_1)⟩ (fun hHeld => ?_); clear hK K; refine norm_ (a' := ?_) ?_ ?_; rotate_left
           ·show Act.put _ (some 7) _ = _; simp only [Act.put, pu, i64_w, i32_w]; rfl
           refine one_ (i := 9) (N := some 6) #[true, true, true, true, true, true, true, true, true, true, true, false, false] rfl rfl (one_of HT_.out (by kernel_rfl)) (by decide) (fun K hK => ?_); refine box_step ?hg (N := 6) ?hd (cs := #[.int .i64 0, .int .i64 0]) (t := 124) ?hr ?_; (case hd => rfl); (case hg => rfl); (case hr => first | (go_simp; done) | (go_simp; rfl))
           intro gb990 hg w48 hbox hb; have BK990 := Aside0.mk (hbox); have GW990 := Aside0.mk ((by rw [hg]; exact (below_size (gT1 GE991.out HB)) : w.heap.size ≤ gb990)); have GE990 := Aside0.mk ((by rw [hg]; exact (below_size (gT1 GE991.out HB)) : w.heap.size ≤ gb990)); replace HB := Aside0.mk (below_step (gT1 GE991.out HB) hb); have NB991_990 := Aside0.mk ((by rw [hg]; exact Nat.ne_of_lt (blk_lt (g := gb991) (gK BK991)) : gb991 ≠ gb990)); have NB990_991 := Aside0.mk ((by rw [hg]; exact Nat.ne_of_gt (blk_lt (g := gb991) (gK BK991)) : gb990 ≠ gb991)); replace BK991 := Aside0.mk (blk_below (g := gb991) (gK BK991) hb); clear hb hbox hg; refine hK.out _ _ ⟨((HB.out.cell (World.block_lt_of_cell? w _ hw988_0)).trans hw988_0), ((HB.out.cell (World.block_lt_of_cell? w _ hw988_1)).trans hw988_1), ((HB.out.cell (World.block_lt_of_cell? w _ hw989_0)).trans hw989_0), ((HB.out.cell (World.block_lt_of_cell? w _ hw989_1)).trans hw989_1)⟩ (fun hHeld => ?_); clear hK K; refine norm_ (a' := ?_) ?_ ?_; rotate_left
           ·show Act.put _ (some 6) _ = _; simp only [Act.put, pu, i64_w, i32_w]; rfl
           exact norm_ (by simp only [putAll, Act.put, List.setIfInBounds_toArray, List.set_cons_zero, List.set_cons_succ]) (hCont (gb990, gb991) _ ⟨hHeld, (gK BK990), (gK BK991), GW990.out, GE990.out, NB991_990.out, NB990_991.out, GW991.out, GE991.out, (gT2 GE991.out GE990.out HB)⟩)
         rintro ⟨gb990, gb991⟩ w49 ⟨hS_, h0_, h1_, h2_, h3_, h4_, h5_, h6_, h7_, h8_⟩; have n0_ : Aside0 (w49.heap[gb990]? = some (.cells #[.int .i64 0, .int .i64 0] 124 (0, 0))) := ⟨h0_⟩; have n1_ : Aside0 (w49.heap[gb991]? = some (.cells #[.int .i64 0, .int .i64 0] 124 (0, 0))) := ⟨h1_⟩; have n2_ : Aside0 (w.heap.size ≤ gb990) := ⟨h2_⟩; have n3_ : Aside0 (w.heap.size ≤ gb990) := ⟨h3_⟩; have n4_ : Aside0 (gb991 ≠ gb990) := ⟨h4_⟩; have n5_ : Aside0 (gb990 ≠ gb991) := ⟨h5_⟩; have n6_ : Aside0 (w.heap.size ≤ gb991) := ⟨h6_⟩; have n7_ : Aside0 (w.heap.size ≤ gb991) := ⟨h7_⟩; have n8_ : Aside0 (Below w.heap.size w w49) := ⟨h8_⟩; clear HB; clear h0_ h1_ h2_ h3_ h4_ h5_ h6_ h7_ h8_; have BK990 := n0_; have BK991 := n1_; have GW990 := n2_; have GE990 := n3_; have NB991_990 := n4_; have NB990_991 := n5_; have GW991 := n6_; have GE991 := n7_; have HB := n8_; clear n0_ n1_ n2_ n3_ n4_ n5_ n6_ n7_ n8_; have hHeld : w49.cell? (ad988.add (((ji7)).toNat * 2)) = some (.int .i64 ((rd_T124 l1 (ji7)).f0)) ∧ w49.cell? ⟨(ad988.add (((ji7)).toNat * 2)).block, (ad988.add (((ji7)).toNat * 2)).off + 1, none⟩ = some (.int .i64 ((rd_T124 l1 (ji7)).f1)) ∧ w49.cell? (ad988.add ((x5_1).toNat * 2)) = some (.int .i64 ((rd_T124 l1 x5_1).f0)) ∧ w49.cell? ⟨(ad988.add ((x5_1).toNat * 2)).block, (ad988.add ((x5_1).toNat * 2)).off + 1, none⟩ = some (.int .i64 ((rd_T124 l1 x5_1).f1)) := hS_; refine norm_ (a' := ?_) ?_ ?_; rotate_left
         ·simp only [putAll, Act.put, List.setIfInBounds_toArray, List.set_cons_zero, List.set_cons_succ]; rfl
         refine one_ (i := 11) (N := none) #[true, true, true, true, true, true, true, true, true, true, true, true, false] rfl rfl (one_of HT_.out (by kernel_rfl)) (by decide) (fun K hK => ?_); have hs50 : w49.cell? ⟨gb990, 0, none⟩ = some (.int .i64 0) := (blk_cell BK990.out 0).trans rfl; have hfs50 := blk_frozen BK990.out 0; have hns50_1 := NB991_990.out; have hms50_1 := NB990_991.out; have hs51 : w49.cell? ⟨gb990, 1, none⟩ = some (.int .i64 0) := (blk_cell BK990.out 1).trans rfl; have hfs51 := blk_frozen BK990.out 1; have hns51_1 := NB991_990.out; have hms51_1 := NB990_991.out; refine skip_ (w1 := ?_) (by rfl) rfl ?_ ?_; rotate_left
         ·go_simp; rfl
         refine hK.out _ _ ⟨((cell_far (p := ⟨gb990, _, none⟩) (by first | exact Nat.ne_of_lt (Nat.lt_of_lt_of_le (by have := World.block_lt_of_cell? _ _ hw988_0; first | rwa [add_block] at this | exact this) GW990.out) | (rw [add_block]; exact Nat.ne_of_lt (Nat.lt_of_lt_of_le (by have := World.block_lt_of_cell? _ _ hw988_0; first | rwa [add_block] at this | exact this) GW990.out)) | (show (Addr.add _ _).block ≠ _; rw [add_block]; exact Nat.ne_of_lt (Nat.lt_of_lt_of_le (by have := World.block_lt_of_cell? _ _ hw988_0; first | rwa [add_block] at this | exact this) GW990.out)) | (dsimp only; exact Nat.ne_of_lt (Nat.lt_of_lt_of_le (by have := World.block_lt_of_cell? _ _ hw988_0; first | rwa [add_block] at this | exact this) GW990.out))) _).trans (((cell_far (p := ⟨gb990, _, none⟩) (by first | exact Nat.ne_of_lt (Nat.lt_of_lt_of_le (by have := World.block_lt_of_cell? _ _ hw988_0; first | rwa [add_block] at this | exact this) GW990.out) | (rw [add_block]; exact Nat.ne_of_lt (Nat.lt_of_lt_of_le (by have := World.block_lt_of_cell? _ _ hw988_0; first | rwa [add_block] at this | exact this) GW990.out)) | (show (Addr.add _ _).block ≠ _; rw [add_block]; exact Nat.ne_of_lt (Nat.lt_of_lt_of_le (by have := World.block_lt_of_cell? _ _ hw988_0; first | rwa [add_block] at this | exact this) GW990.out)) | (dsimp only; exact Nat.ne_of_lt (Nat.lt_of_lt_of_le (by have := World.block_lt_of_cell? _ _ hw988_0; first | rwa [add_block] at this | exact this) GW990.out))) _).trans (hHeld.1)))), ((cell_far (p := ⟨gb990, _, none⟩) (by first | exact Nat.ne_of_lt (Nat.lt_of_lt_of_le (by have := World.block_lt_of_cell? _ _ hw988_1; first | rwa [add_block] at this | exact this) GW990.out) | (rw [add_block]; exact Nat.ne_of_lt (Nat.lt_of_lt_of_le (by have := World.block_lt_of_cell? _ _ hw988_1; first | rwa [add_block] at this | exact this) GW990.out)) | (show (Addr.add _ _).block ≠ _; rw [add_block]; exact Nat.ne_of_lt (Nat.lt_of_lt_of_le (by have := World.block_lt_of_cell? _ _ hw988_1; first | rwa [add_block] at this | exact this) GW990.out)) | (dsimp only; exact Nat.ne_of_lt (Nat.lt_of_lt_of_le (by have := World.block_lt_of_cell? _ _ hw988_1; first | rwa [add_block] at this | exact this) GW990.out))) _).trans (((cell_far (p := ⟨gb990, _, none⟩) (by first | exact Nat.ne_of_lt (Nat.lt_of_lt_of_le (by have := World.block_lt_of_cell? _ _ hw988_1; first | rwa [add_block] at this | exact this) GW990.out) | (rw [add_block]; exact Nat.ne_of_lt (Nat.lt_of_lt_of_le (by have := World.block_lt_of_cell? _ _ hw988_1; first | rwa [add_block] at this | exact this) GW990.out)) | (show (Addr.add _ _).block ≠ _; rw [add_block]; exact Nat.ne_of_lt (Nat.lt_of_lt_of_le (by have := World.block_lt_of_cell? _ _ hw988_1; first | rwa [add_block] at this | exact this) GW990.out)) | (dsimp only; exact Nat.ne_of_lt (Nat.lt_of_lt_of_le (by have := World.block_lt_of_cell? _ _ hw988_1; first | rwa [add_block] at this | exact this) GW990.out))) _).trans (hHeld.2.1)))), ((cell_far (p := ⟨gb990, _, none⟩) (by first | exact Nat.ne_of_lt (Nat.lt_of_lt_of_le (by have := World.block_lt_of_cell? _ _ hw989_0; first | rwa [add_block] at this | exact this) GW990.out) | (rw [add_block]; exact Nat.ne_of_lt (Nat.lt_of_lt_of_le (by have := World.block_lt_of_cell? _ _ hw989_0; first | rwa [add_block] at this | exact this) GW990.out)) | (show (Addr.add _ _).block ≠ _; rw [add_block]; exact Nat.ne_of_lt (Nat.lt_of_lt_of_le (by have := World.block_lt_of_cell? _ _ hw989_0; first | rwa [add_block] at this | exact this) GW990.out)) | (dsimp only; exact Nat.ne_of_lt (Nat.lt_of_lt_of_le (by have := World.block_lt_of_cell? _ _ hw989_0; first | rwa [add_block] at this | exact this) GW990.out))) _).trans (((cell_far (p := ⟨gb990, _, none⟩) (by first | exact Nat.ne_of_lt (Nat.lt_of_lt_of_le (by have := World.block_lt_of_cell? _ _ hw989_0; first | rwa [add_block] at this | exact this) GW990.out) | (rw [add_block]; exact Nat.ne_of_lt (Nat.lt_of_lt_of_le (by have := World.block_lt_of_cell? _ _ hw989_0; first | rwa [add_block] at this | exact this) GW990.out)) | (show (Addr.add _ _).block ≠ _; rw [add_block]; exact Nat.ne_of_lt (Nat.lt_of_lt_of_le (by have := World.block_lt_of_cell? _ _ hw989_0; first | rwa [add_block] at this | exact this) GW990.out)) | (dsimp only; exact Nat.ne_of_lt (Nat.lt_of_lt_of_le (by have := World.block_lt_of_cell? _ _ hw989_0; first | rwa [add_block] at this | exact this) GW990.out))) _).trans (hHeld.2.2.1)))), ((cell_far (p := ⟨gb990, _, none⟩) (by first | exact Nat.ne_of_lt (Nat.lt_of_lt_of_le (by have := World.block_lt_of_cell? _ _ hw989_1; first | rwa [add_block] at this | exact this) GW990.out) | (rw [add_block]; exact Nat.ne_of_lt (Nat.lt_of_lt_of_le (by have := World.block_lt_of_cell? _ _ hw989_1; first | rwa [add_block] at this | exact this) GW990.out)) | (show (Addr.add _ _).block ≠ _; rw [add_block]; exact Nat.ne_of_lt (Nat.lt_of_lt_of_le (by have := World.block_lt_of_cell? _ _ hw989_1; first | rwa [add_block] at this | exact this) GW990.out)) | (dsimp only; exact Nat.ne_of_lt (Nat.lt_of_lt_of_le (by have := World.block_lt_of_cell? _ _ hw989_1; first | rwa [add_block] at this | exact this) GW990.out))) _).trans (((cell_far (p := ⟨gb990, _, none⟩) (by first | exact Nat.ne_of_lt (Nat.lt_of_lt_of_le (by have := World.block_lt_of_cell? _ _ hw989_1; first | rwa [add_block] at this | exact this) GW990.out) | (rw [add_block]; exact Nat.ne_of_lt (Nat.lt_of_lt_of_le (by have := World.block_lt_of_cell? _ _ hw989_1; first | rwa [add_block] at this | exact this) GW990.out)) | (show (Addr.add _ _).block ≠ _; rw [add_block]; exact Nat.ne_of_lt (Nat.lt_of_lt_of_le (by have := World.block_lt_of_cell? _ _ hw989_1; first | rwa [add_block] at this | exact this) GW990.out)) | (dsimp only; exact Nat.ne_of_lt (Nat.lt_of_lt_of_le (by have := World.block_lt_of_cell? _ _ hw989_1; first | rwa [add_block] at this | exact this) GW990.out))) _).trans (hHeld.2.2.2))))⟩ (fun hHeld => ?_)
         clear hK K; refine one_ (i := 12) (N := none) #[true, true, true, true, true, true, true, true, true, true, true, true, true] rfl rfl (one_of HT_.out (by kernel_rfl)) (by decide) (fun K hK => ?_); have hs52 : w49.cell? ⟨gb991, 0, none⟩ = some (.int .i64 0) := (blk_cell BK991.out 0).trans rfl; have hfs52 := blk_frozen BK991.out 0; have hns52_0 := NB990_991.out; have hms52_0 := NB991_990.out; have hs53 : w49.cell? ⟨gb991, 1, none⟩ = some (.int .i64 0) := (blk_cell BK991.out 1).trans rfl; have hfs53 := blk_frozen BK991.out 1; have hns53_0 := NB990_991.out; have hms53_0 := NB991_990.out; refine skip_ (w1 := ?_) (by rfl) rfl ?_ ?_; rotate_left
         ·go_simp; rfl
         refine hK.out _ _ ⟨((cell_far (p := ⟨gb991, _, none⟩) (by first | exact Nat.ne_of_lt (Nat.lt_of_lt_of_le (by have := World.block_lt_of_cell? _ _ hw988_0; first | rwa [add_block] at this | exact this) GW991.out) | (rw [add_block]; exact Nat.ne_of_lt (Nat.lt_of_lt_of_le (by have := World.block_lt_of_cell? _ _ hw988_0; first | rwa [add_block] at this | exact this) GW991.out)) | (show (Addr.add _ _).block ≠ _; rw [add_block]; exact Nat.ne_of_lt (Nat.lt_of_lt_of_le (by have := World.block_lt_of_cell? _ _ hw988_0; first | rwa [add_block] at this | exact this) GW991.out)) | (dsimp only; exact Nat.ne_of_lt (Nat.lt_of_lt_of_le (by have := World.block_lt_of_cell? _ _ hw988_0; first | rwa [add_block] at this | exact this) GW991.out))) _).trans (((cell_far (p := ⟨gb991, _, none⟩) (by first | exact Nat.ne_of_lt (Nat.lt_of_lt_of_le (by have := World.block_lt_of_cell? _ _ hw988_0; first | rwa [add_block] at this | exact this) GW991.out) | (rw [add_block]; exact Nat.ne_of_lt (Nat.lt_of_lt_of_le (by have := World.block_lt_of_cell? _ _ hw988_0; first | rwa [add_block] at this | exact this) GW991.out)) | (show (Addr.add _ _).block ≠ _; rw [add_block]; exact Nat.ne_of_lt (Nat.lt_of_lt_of_le (by have := World.block_lt_of_cell? _ _ hw988_0; first | rwa [add_block] at this | exact this) GW991.out)) | (dsimp only; exact Nat.ne_of_lt (Nat.lt_of_lt_of_le (by have := World.block_lt_of_cell? _ _ hw988_0; first | rwa [add_block] at this | exact this) GW991.out))) _).trans (hHeld.1)))), ((cell_far (p := ⟨gb991, _, none⟩) (by first | exact Nat.ne_of_lt (Nat.lt_of_lt_of_le (by have := World.block_lt_of_cell? _ _ hw988_1; first | rwa [add_block] at this | exact this) GW991.out) | (rw [add_block]; exact Nat.ne_of_lt (Nat.lt_of_lt_of_le (by have := World.block_lt_of_cell? _ _ hw988_1; first | rwa [add_block] at this | exact this) GW991.out)) | (show (Addr.add _ _).block ≠ _; rw [add_block]; exact Nat.ne_of_lt (Nat.lt_of_lt_of_le (by have := World.block_lt_of_cell? _ _ hw988_1; first | rwa [add_block] at this | exact this) GW991.out)) | (dsimp only; exact Nat.ne_of_lt (Nat.lt_of_lt_of_le (by have := World.block_lt_of_cell? _ _ hw988_1; first | rwa [add_block] at this | exact this) GW991.out))) _).trans (((cell_far (p := ⟨gb991, _, none⟩) (by first | exact Nat.ne_of_lt (Nat.lt_of_lt_of_le (by have := World.block_lt_of_cell? _ _ hw988_1; first | rwa [add_block] at this | exact this) GW991.out) | (rw [add_block]; exact Nat.ne_of_lt (Nat.lt_of_lt_of_le (by have := World.block_lt_of_cell? _ _ hw988_1; first | rwa [add_block] at this | exact this) GW991.out)) | (show (Addr.add _ _).block ≠ _; rw [add_block]; exact Nat.ne_of_lt (Nat.lt_of_lt_of_le (by have := World.block_lt_of_cell? _ _ hw988_1; first | rwa [add_block] at this | exact this) GW991.out)) | (dsimp only; exact Nat.ne_of_lt (Nat.lt_of_lt_of_le (by have := World.block_lt_of_cell? _ _ hw988_1; first | rwa [add_block] at this | exact this) GW991.out))) _).trans (hHeld.2.1)))), ((cell_far (p := ⟨gb991, _, none⟩) (by first | exact Nat.ne_of_lt (Nat.lt_of_lt_of_le (by have := World.block_lt_of_cell? _ _ hw989_0; first | rwa [add_block] at this | exact this) GW991.out) | (rw [add_block]; exact Nat.ne_of_lt (Nat.lt_of_lt_of_le (by have := World.block_lt_of_cell? _ _ hw989_0; first | rwa [add_block] at this | exact this) GW991.out)) | (show (Addr.add _ _).block ≠ _; rw [add_block]; exact Nat.ne_of_lt (Nat.lt_of_lt_of_le (by have := World.block_lt_of_cell? _ _ hw989_0; first | rwa [add_block] at this | exact this) GW991.out)) | (dsimp only; exact Nat.ne_of_lt (Nat.lt_of_lt_of_le (by have := World.block_lt_of_cell? _ _ hw989_0; first | rwa [add_block] at this | exact this) GW991.out))) _).trans (((cell_far (p := ⟨gb991, _, none⟩) (by first | exact Nat.ne_of_lt (Nat.lt_of_lt_of_le (by have := World.block_lt_of_cell? _ _ hw989_0; first | rwa [add_block] at this | exact this) GW991.out) | (rw [add_block]; exact Nat.ne_of_lt (Nat.lt_of_lt_of_le (by have := World.block_lt_of_cell? _ _ hw989_0; first | rwa [add_block] at this | exact this) GW991.out)) | (show (Addr.add _ _).block ≠ _; rw [add_block]; exact Nat.ne_of_lt (Nat.lt_of_lt_of_le (by have := World.block_lt_of_cell? _ _ hw989_0; first | rwa [add_block] at this | exact this) GW991.out)) | (dsimp only; exact Nat.ne_of_lt (Nat.lt_of_lt_of_le (by have := World.block_lt_of_cell? _ _ hw989_0; first | rwa [add_block] at this | exact this) GW991.out))) _).trans (hHeld.2.2.1)))), ((cell_far (p := ⟨gb991, _, none⟩) (by first | exact Nat.ne_of_lt (Nat.lt_of_lt_of_le (by have := World.block_lt_of_cell? _ _ hw989_1; first | rwa [add_block] at this | exact this) GW991.out) | (rw [add_block]; exact Nat.ne_of_lt (Nat.lt_of_lt_of_le (by have := World.block_lt_of_cell? _ _ hw989_1; first | rwa [add_block] at this | exact this) GW991.out)) | (show (Addr.add _ _).block ≠ _; rw [add_block]; exact Nat.ne_of_lt (Nat.lt_of_lt_of_le (by have := World.block_lt_of_cell? _ _ hw989_1; first | rwa [add_block] at this | exact this) GW991.out)) | (dsimp only; exact Nat.ne_of_lt (Nat.lt_of_lt_of_le (by have := World.block_lt_of_cell? _ _ hw989_1; first | rwa [add_block] at this | exact this) GW991.out))) _).trans (((cell_far (p := ⟨gb991, _, none⟩) (by first | exact Nat.ne_of_lt (Nat.lt_of_lt_of_le (by have := World.block_lt_of_cell? _ _ hw989_1; first | rwa [add_block] at this | exact this) GW991.out) | (rw [add_block]; exact Nat.ne_of_lt (Nat.lt_of_lt_of_le (by have := World.block_lt_of_cell? _ _ hw989_1; first | rwa [add_block] at this | exact this) GW991.out)) | (show (Addr.add _ _).block ≠ _; rw [add_block]; exact Nat.ne_of_lt (Nat.lt_of_lt_of_le (by have := World.block_lt_of_cell? _ _ hw989_1; first | rwa [add_block] at this | exact this) GW991.out)) | (dsimp only; exact Nat.ne_of_lt (Nat.lt_of_lt_of_le (by have := World.block_lt_of_cell? _ _ hw989_1; first | rwa [add_block] at this | exact this) GW991.out))) _).trans (hHeld.2.2.2))))⟩ (fun hHeld => ?_)
         clear hK K; refine done_ (done_of HT_.out (by kernel_rfl)) ?_; try go_wp2
         have n0_ : Aside0 (((((w49.setCell ⟨gb990, 0, none⟩ (.int .i64 ((rd_T124 l1 (ji7)).f0))).setCell ⟨gb990, 1, none⟩ (.int .i64 ((rd_T124 l1 (ji7)).f1))).setCell ⟨gb991, 0, none⟩ (.int .i64 ((rd_T124 l1 x5_1).f0))).setCell ⟨gb991, 1, none⟩ (.int .i64 ((rd_T124 l1 x5_1).f1))).heap[gb990]? = some (.cells #[.int .i64 ((rd_T124 l1 (ji7)).f0), .int .i64 ((rd_T124 l1 (ji7)).f1)] 124 (0, 0))) := ⟨by (with_reducible repeat (first | refine blk_drewN ?_ _ | refine blk_drew ?_ | refine blk_alloc ?_ _)); refine blk_far ?_ NB990_991.out _; (with_reducible repeat (first | refine blk_drewN ?_ _ | refine blk_drew ?_ | refine blk_alloc ?_ _)); refine blk_far ?_ NB990_991.out _; (with_reducible repeat (first | refine blk_drewN ?_ _ | refine blk_drew ?_ | refine blk_alloc ?_ _)); refine blk_put (cs := #[.int .i64 ((rd_T124 l1 (ji7)).f0), .int .i64 0]) ?_ 1 _ rfl; (with_reducible repeat (first | refine blk_drewN ?_ _ | refine blk_drew ?_ | refine blk_alloc ?_ _)); refine blk_put (cs := #[.int .i64 0, .int .i64 0]) ?_ 0 _ rfl; (with_reducible repeat (first | refine blk_drewN ?_ _ | refine blk_drew ?_ | refine blk_alloc ?_ _)); exact BK990.out⟩
         have n1_ : Aside0 (((((w49.setCell ⟨gb990, 0, none⟩ (.int .i64 ((rd_T124 l1 (ji7)).f0))).setCell ⟨gb990, 1, none⟩ (.int .i64 ((rd_T124 l1 (ji7)).f1))).setCell ⟨gb991, 0, none⟩ (.int .i64 ((rd_T124 l1 x5_1).f0))).setCell ⟨gb991, 1, none⟩ (.int .i64 ((rd_T124 l1 x5_1).f1))).heap[gb991]? = some (.cells #[.int .i64 ((rd_T124 l1 x5_1).f0), .int .i64 ((rd_T124 l1 x5_1).f1)] 124 (0, 0))) := ⟨by (with_reducible repeat (first | refine blk_drewN ?_ _ | refine blk_drew ?_ | refine blk_alloc ?_ _)); refine blk_put (cs := #[.int .i64 ((rd_T124 l1 x5_1).f0), .int .i64 0]) ?_ 1 _ rfl; (with_reducible repeat (first | refine blk_drewN ?_ _ | refine blk_drew ?_ | refine blk_alloc ?_ _)); refine blk_put (cs := #[.int .i64 0, .int .i64 0]) ?_ 0 _ rfl; (with_reducible repeat (first | refine blk_drewN ?_ _ | refine blk_drew ?_ | refine blk_alloc ?_ _)); refine blk_far ?_ NB991_990.out _; (with_reducible repeat (first | refine blk_drewN ?_ _ | refine blk_drew ?_ | refine blk_alloc ?_ _)); refine blk_far ?_ NB991_990.out _; (with_reducible repeat (first | refine blk_drewN ?_ _ | refine blk_drew ?_ | refine blk_alloc ?_ _)); exact BK991.out⟩; have n2_ : Aside0 (Below w.heap.size w ((((w49.setCell ⟨gb990, 0, none⟩ (.int .i64 ((rd_T124 l1 (ji7)).f0))).setCell ⟨gb990, 1, none⟩ (.int .i64 ((rd_T124 l1 (ji7)).f1))).setCell ⟨gb991, 0, none⟩ (.int .i64 ((rd_T124 l1 x5_1).f0))).setCell ⟨gb991, 1, none⟩ (.int .i64 ((rd_T124 l1 x5_1).f1)))) := ⟨gT2 GE990.out GE991.out HB⟩; (try clear BK990); (try clear BK991); (try clear HB)
         generalize ((((w49.setCell ⟨gb990, 0, none⟩ (.int .i64 ((rd_T124 l1 (ji7)).f0))).setCell ⟨gb990, 1, none⟩ (.int .i64 ((rd_T124 l1 (ji7)).f1))).setCell ⟨gb991, 0, none⟩ (.int .i64 ((rd_T124 l1 x5_1).f0))).setCell ⟨gb991, 1, none⟩ (.int .i64 ((rd_T124 l1 x5_1).f1))) = w54 at n0_ n1_ n2_ ⊢; have BK990 := n0_; have BK991 := n1_; have HB := n2_; clear n0_ n1_ n2_; replace BK990 := Aside0.mk (blk_drew BK990.out); replace BK991 := Aside0.mk (blk_drew BK991.out); replace HB := Aside0.mk (below_drew1 HB.out); refine start_ (n := 21) (S := fun w' => w'.cell? ⟨gb990, 0, none⟩ = some (.int .i64 ((rd_T124 l1 (ji7)).f0)) ∧ w'.cell? ⟨gb990, 1, none⟩ = some (.int .i64 ((rd_T124 l1 (ji7)).f1)) ∧ w'.cell? ⟨gb991, 0, none⟩ = some (.int .i64 ((rd_T124 l1 x5_1).f0)) ∧ w'.cell? ⟨gb991, 1, none⟩ = some (.int .i64 ((rd_T124 l1 x5_1).f1))) (ds := []) #[false, false, false, false, false, false, false, false, false, false, false, false, false, false, false, false, false, false, false, false, false] (by kernel_rfl) rfl rfl ⟨(blk_cell BK990.out 0).trans rfl, (blk_cell BK990.out 1).trans rfl, (blk_cell BK991.out 0).trans rfl, (blk_cell BK991.out 1).trans rfl⟩ (fun hHeld => ?_); refine with_tabW impl_RunsOk.tab7 impl_RunsOk.bits7 (fun HT_ HW_ => ?_)
         generalize w54.drew = w55 at BK990 BK991 HB hHeld ⊢; refine pure_ (i := 0) (N := some 27) (v := ?_) (a' := ?_) #[true, false, false, false, false, false, false, false, false, false, false, false, false, false, false, false, false, false, false, false, false] rfl rfl (any_of HT_.out (by kernel_rfl)) (fun _ _ _ h => h) (Or.inl ⟨by rfl, ?_⟩) ?_ ?_; rotate_left
         ·intro w'; go_simp; with_reducible rfl
         rotate_left
         ·simp only [Act.put, pu, i64_w, i32_w]; rfl
         refine pure_ (i := 2) (N := some 29) (v := ?_) (a' := ?_) #[true, false, true, false, false, false, false, false, false, false, false, false, false, false, false, false, false, false, false, false, false] rfl rfl (any_of HT_.out (by kernel_rfl)) (fun _ _ _ h => h) (Or.inl ⟨by rfl, ?_⟩) ?_ ?_; rotate_left
         ·intro w'; go_simp; with_reducible rfl
         rotate_left
         ·simp only [Act.put, pu, i64_w, i32_w]; rfl
         refine take_ (i := 1) (N := some 28) (v := ?_) (a' := ?_) #[true, true, true, false, false, false, false, false, false, false, false, false, false, false, false, false, false, false, false, false, false] rfl rfl (take_ofW HT_.out HW_.out (by kernel_rfl)) (fun _ _ _ h => h) (Or.inl ⟨by rfl, ?_⟩) hHeld ?_ ?_; rotate_left
         ·rintro w' ⟨s0, s1, s2, s3⟩; go_simp; with_reducible rfl
         rotate_left
         ·simp only [Act.put, pu, i64_w, i32_w]; rfl
         refine take_ (i := 3) (N := some 30) (v := ?_) (a' := ?_) #[true, true, true, true, false, false, false, false, false, false, false, false, false, false, false, false, false, false, false, false, false] rfl rfl (take_ofW HT_.out HW_.out (by kernel_rfl)) (fun _ _ _ h => h) (Or.inl ⟨by rfl, ?_⟩) hHeld ?_ ?_; rotate_left
         ·rintro w' ⟨s0, s1, s2, s3⟩; go_simp; with_reducible rfl
         rotate_left
         ·simp only [Act.put, pu, i64_w, i32_w]; rfl
         refine pure_ (i := 4) (N := some 31) (v := ?_) (a' := ?_) #[true, true, true, true, true, false, false, false, false, false, false, false, false, false, false, false, false, false, false, false, false] rfl rfl (any_of HT_.out (by kernel_rfl)) (fun _ _ _ h => h) (Or.inl ⟨by rfl, ?_⟩) ?_ ?_; rotate_left
         ·intro w'; go_simp; with_reducible rfl
         rotate_left
         ·simp only [Act.put, pu, i64_w, i32_w]; rfl
         refine pure_ (i := 5) (N := some 32) (v := ?_) (a' := ?_) #[true, true, true, true, true, true, false, false, false, false, false, false, false, false, false, false, false, false, false, false, false] rfl rfl (any_of HT_.out (by kernel_rfl)) (fun _ _ _ h => h) (Or.inl ⟨by rfl, ?_⟩) ?_ ?_; rotate_left
         ·intro w'; go_simp; with_reducible rfl
         rotate_left
         ·simp only [Act.put, pu, i64_w, i32_w]; rfl
         refine pure_ (i := 6) (N := some 33) (v := undef) (a' := ?_) #[true, true, true, true, true, true, true, false, false, false, false, false, false, false, false, false, false, false, false, false, false] rfl rfl (any_of HT_.out (by kernel_rfl)) (fun _ _ _ h => h) (Or.inr ⟨by rfl, rfl⟩) ?_ ?_; rotate_left
         ·simp only [Act.put, pu, i64_w, i32_w]; rfl
         refine pure_ (i := 7) (N := some 34) (v := undef) (a' := ?_) #[true, true, true, true, true, true, true, true, false, false, false, false, false, false, false, false, false, false, false, false, false] rfl rfl (any_of HT_.out (by kernel_rfl)) (fun _ _ _ h => h) (Or.inr ⟨by rfl, rfl⟩) ?_ ?_; rotate_left
         ·simp only [Act.put, pu, i64_w, i32_w]; rfl
         refine pure_ (i := 8) (N := some 35) (v := undef) (a' := ?_) #[true, true, true, true, true, true, true, true, true, false, false, false, false, false, false, false, false, false, false, false, false] rfl rfl (any_of HT_.out (by kernel_rfl)) (fun _ _ _ h => h) (Or.inr ⟨by rfl, rfl⟩) ?_ ?_; rotate_left
         ·simp only [Act.put, pu, i64_w, i32_w]; rfl
         refine pure_ (i := 9) (N := some 36) (v := ?_) (a' := ?_) #[true, true, true, true, true, true, true, true, true, true, false, false, false, false, false, false, false, false, false, false, false] rfl rfl (any_of HT_.out (by kernel_rfl)) (fun _ _ _ h => h) (Or.inl ⟨by rfl, ?_⟩) ?_ ?_; rotate_left
         ·intro w'; go_simp; with_reducible rfl
         rotate_left
         ·simp only [Act.put, pu, i64_w, i32_w]; rfl
         refine pure_ (i := 10) (N := some 37) (v := ?_) (a' := ?_) #[true, true, true, true, true, true, true, true, true, true, true, false, false, false, false, false, false, false, false, false, false] rfl rfl (any_of HT_.out (by kernel_rfl)) (fun _ _ _ h => h) (Or.inl ⟨by rfl, ?_⟩) ?_ ?_; rotate_left
         ·intro w'; go_simp; with_reducible rfl
         rotate_left
         ·simp only [Act.put, pu, i64_w, i32_w]; rfl
         refine pure_ (i := 11) (N := some 38) (v := undef) (a' := ?_) #[true, true, true, true, true, true, true, true, true, true, true, true, false, false, false, false, false, false, false, false, false] rfl rfl (any_of HT_.out (by kernel_rfl)) (fun _ _ _ h => h) (Or.inr ⟨by rfl, rfl⟩) ?_ ?_; rotate_left
         ·simp only [Act.put, pu, i64_w, i32_w]; rfl
         refine pure_ (i := 12) (N := some 39) (v := undef) (a' := ?_) #[true, true, true, true, true, true, true, true, true, true, true, true, true, false, false, false, false, false, false, false, false] rfl rfl (any_of HT_.out (by kernel_rfl)) (fun _ _ _ h => h) (Or.inr ⟨by rfl, rfl⟩) ?_ ?_; rotate_left
         ·simp only [Act.put, pu, i64_w, i32_w]; rfl
         refine pure_ (i := 13) (N := some 40) (v := undef) (a' := ?_) #[true, true, true, true, true, true, true, true, true, true, true, true, true, true, false, false, false, false, false, false, false] rfl rfl (any_of HT_.out (by kernel_rfl)) (fun _ _ _ h => h) (Or.inr ⟨by rfl, rfl⟩) ?_ ?_; rotate_left
         ·simp only [Act.put, pu, i64_w, i32_w]; rfl
         refine pure_ (i := 14) (N := some 41) (v := undef) (a' := ?_) #[true, true, true, true, true, true, true, true, true, true, true, true, true, true, true, false, false, false, false, false, false] rfl rfl (any_of HT_.out (by kernel_rfl)) (fun _ _ _ h => h) (Or.inr ⟨by rfl, rfl⟩) ?_ ?_; rotate_left
         ·simp only [Act.put, pu, i64_w, i32_w]; rfl
         refine pure_ (i := 15) (N := some 42) (v := undef) (a' := ?_) #[true, true, true, true, true, true, true, true, true, true, true, true, true, true, true, true, false, false, false, false, false] rfl rfl (any_of HT_.out (by kernel_rfl)) (fun _ _ _ h => h) (Or.inr ⟨by rfl, rfl⟩) ?_ ?_; rotate_left
         ·simp only [Act.put, pu, i64_w, i32_w]; rfl
         refine pure_ (i := 16) (N := some 43) (v := undef) (a' := ?_) #[true, true, true, true, true, true, true, true, true, true, true, true, true, true, true, true, true, false, false, false, false] rfl rfl (any_of HT_.out (by kernel_rfl)) (fun _ _ _ h => h) (Or.inr ⟨by rfl, rfl⟩) ?_ ?_; rotate_left
         ·simp only [Act.put, pu, i64_w, i32_w]; rfl
         refine pure_ (i := 17) (N := some 44) (v := undef) (a' := ?_) #[true, true, true, true, true, true, true, true, true, true, true, true, true, true, true, true, true, true, false, false, false] rfl rfl (any_of HT_.out (by kernel_rfl)) (fun _ _ _ h => h) (Or.inr ⟨by rfl, rfl⟩) ?_ ?_; rotate_left
         ·simp only [Act.put, pu, i64_w, i32_w]; rfl
         refine pure_ (i := 18) (N := some 45) (v := undef) (a' := ?_) #[true, true, true, true, true, true, true, true, true, true, true, true, true, true, true, true, true, true, true, false, false] rfl rfl (any_of HT_.out (by kernel_rfl)) (fun _ _ _ h => h) (Or.inr ⟨by rfl, rfl⟩) ?_ ?_; rotate_left
         ·simp only [Act.put, pu, i64_w, i32_w]; rfl
         refine pure_ (i := 19) (N := some 46) (v := undef) (a' := ?_) #[true, true, true, true, true, true, true, true, true, true, true, true, true, true, true, true, true, true, true, true, false] rfl rfl (any_of HT_.out (by kernel_rfl)) (fun _ _ _ h => h) (Or.inr ⟨by rfl, rfl⟩) ?_ ?_; rotate_left
         ·simp only [Act.put, pu, i64_w, i32_w]; rfl
         refine pure_ (i := 20) (N := some 47) (v := ?_) (a' := ?_) #[true, true, true, true, true, true, true, true, true, true, true, true, true, true, true, true, true, true, true, true, true] rfl rfl (any_of HT_.out (by kernel_rfl)) (fun _ _ _ h => h) (Or.inl ⟨by rfl, ?_⟩) ?_ ?_; rotate_left
         ·intro w'; go_simp; with_reducible rfl
         rotate_left
         ·simp only [Act.put, pu, i64_w, i32_w]; rfl
         refine done_ (done_of HT_.out (by kernel_rfl)) ?_; try go_wp2
         go_roundg k1
         case measure => have := HK1.out; omega
         case rel => exact ⟨(wrap64 (x5_1 + 1)), (by first | rfl | (simp; done) | (simp [*]; done)), H', ⟨by have := HK1.out; omega⟩, ⟨gT2 GE990.out GE991.out HB⟩⟩
       ·rw [if_neg c10] at H; exact absurd H (by simp)
      ·rw [if_neg c9] at H; exact absurd H (by simp)
     ·rw [if_neg c8] at H; exact absurd H (by simp)
    ·rw [if_neg c6] at H; have c6b0 : decide (x5_1 < (l1.length : Int)) = false := decide_eq_false c6; clear c6; obtain rfl := Option.some.inj H; go_wp2
     go_ret
     exact ⟨by first | rfl | (simp [errW_none, errW_some] <;> rfl) | (simp [*, errW_none, errW_some] <;> rfl), gB HB⟩
 ·replace c4 := Bool.eq_false_iff.mpr c4; subst c4
  have H1 : (some false) = some r := by rw [if_neg (show ¬ (false = true) by decide)] at H; exact H
  clear H; have H := H1; clear H1; obtain rfl := Option.some.inj H
  go_enter Try.func122, Try.ntmps122
  go_wp2_with (first | ((with_reducible refine gate_callee (f := 151) rfl ?_); refine goesL_ (some 10) rfl rfl Try.func151 (by kernel_rfl) rfl #[.int .i64 a0, .slice A1 l1.length c1] rfl (by (try simp only [List.map_toArray, List.map_cons, List.map_nil]); first | done | rfl) ?_; (with_reducible refine (impl_apart.calls k a0 _ _ l1 false _ ?side1 ?side2 A3.out).mono ?_); (case side1 => repeat (first | exact HR1.out | (with_reducible refine Kd.C_alloc ?_ _) | (with_reducible refine Kd.C_drewN ?_ _) | (with_reducible refine Kd.C_drew ?_))); (case side2 => exact HC1.out); rintro e w56 ⟨rfl, hb⟩; refine ⟨_, rfl, ?_⟩; replace HB := Aside0.mk (below_step (gB HB) hb); (try clear hb); (try clear hb2); (try clear hk); (try clear hi)))
  go_ret
  exact ⟨by first | rfl | (simp [errW_none, errW_some] <;> rfl) | (simp [*, errW_none, errW_some] <;> rfl), gB HB⟩
def slices_Index_bool_bool.l0 : Nat → List Bool → Bool → Int → Int → Option (Int)
  | 0, _, _, _, _ => none
  | k + 1, x0, x1, x7, x8 => if x8 < x7 then (if 0 ≤ x8 then (if x8 < (x0.length : Int) then (if (x1 == (rdOf false x0 x8)) = true then (some x8) else (slices_Index_bool_bool.l0 k x0 x1 x7 (wrap64 (x8 + 1)))) else (none)) else (none)) else (some (-1))
def slices_Index_bool_bool.f (k : Nat) (l0 : List Bool) (a1 : Bool) : Option (Int) := slices_Index_bool_bool.l0 k l0 a1 (l0.length : Int) 0
set_option maxHeartbeats 8000000 in
set_option maxRecDepth 100000 in
theorem slices_Index_bool_bool.calls (k : Nat) (A0 : Option Addr) (c0 : Nat) (l0 : List Bool) (a1 : Bool) (r : Int) (w : World) (hr0 : Kd.C Kd.bool w A0 l0.length l0) (hc0 : l0.length ≤ c0) (h : slices_Index_bool_bool.f k l0 a1 = some r) :
    Calls Try.prog 173 #[.slice A0 l0.length c0, .bool a1] w fun e w' => e = .returned (.int .i64 r) ∧ Drawn0 w w' := by
  have HR0 := Aside0.mk hr0
  have HC0 := Aside0.mk hc0
  clear hr0 hc0
  have H : (slices_Index_bool_bool.l0 k l0 a1 (l0.length : Int) 0) = some r := h
  clear h
  have H' := Aside0.mk H
  clear H
  go_enter Try.func173, Try.ntmps173
  go_wp2
  go_loopg [8] k (fun kq v8 w' => ∃ (x8_1 : Int), v8 = .int .i64 x8_1 ∧ Aside0 (slices_Index_bool_bool.l0 kq l0 a1 (l0.length : Int) x8_1 = some r) ∧ Aside0 (kq ≤ k) ∧ Drawn0 w w')
  case atStart => exact ⟨(0), (by first | rfl | (simp; done) | (simp [*]; done)), H', ⟨Nat.le_refl _⟩, by repeat (first | exact Drawn0.refl _ | apply Drawn0.step)⟩
  case round =>
    clear H'
    try clear c1
    try clear p2
    obtain ⟨x8_1, rfl, HA, HK1, ⟨m1, rfl⟩⟩ := hrel
    cases gk with
    | zero => exact absurd HA.out (by simp [slices_Index_bool_bool.l0])
    | succ k1 =>
      have H := HA.out
      clear HA
      simp only [slices_Index_bool_bool.l0] at H
      by_cases c3 : x8_1 < (l0.length : Int)
      · rw [if_pos c3] at H
        have c3b0 : decide (x8_1 < (l0.length : Int)) = true := decide_eq_true c3
        clear c3
        by_cases c4 : 0 ≤ x8_1
        · rw [if_pos c4] at H
          have c4b0 : decide (0 ≤ x8_1) = true := decide_eq_true c4
          clear c4
          by_cases c5 : x8_1 < (l0.length : Int)
          · rw [if_pos c5] at H
            have c5b0 : decide (x8_1 < (l0.length : Int)) = true := decide_eq_true c5
            clear c5
            by_cases c6 : (a1 == (rdOf false l0 x8_1)) = true
            · rw [if_pos c6] at H
              have c6b0 : (a1 == (rdOf false l0 x8_1)) = true := c6
              (try (have c6b1 : decide (a1 = (rdOf false l0 x8_1)) = true := by simpa using c6))
              (try (have c6b2 : (a1 == (rdOf false l0 x8_1)) = true := by simpa using c6))
              clear c6
              obtain rfl := Option.some.inj H
              have p342 : 0 ≤ (x8_1 : Int) := of_decide_eq_true (by first | (with_reducible assumption) | assumption)
              have q342 : x8_1 < (l0.length : Int) := of_decide_eq_true (by first | (with_reducible assumption) | assumption)
              obtain ⟨ad342, e342, hx342_0⟩ := Kd.at_bool HR0.out x8_1 p342 q342
              cases e342
              replace p342 := eq_true p342
              replace q342 := eq_true q342
              go_wp2
              go_ret
              exact ⟨by first | rfl | (simp; done) | (simp [*]; done), by repeat (first | exact Drawn0.refl _ | apply Drawn0.step)⟩
            · rw [if_neg c6] at H
              have c6b0 : (a1 == (rdOf false l0 x8_1)) = false := by simpa using c6
              (try (have c6b1 : decide (a1 = (rdOf false l0 x8_1)) = false := by simpa using c6))
              (try (have c6b2 : (a1 == (rdOf false l0 x8_1)) = false := by simpa using c6))
              (try (have c6b3 : ¬ (a1 = (rdOf false l0 x8_1)) := by simpa using c6))
              clear c6
              have H' := Aside0.mk H
              clear H
              have p342 : 0 ≤ (x8_1 : Int) := of_decide_eq_true (by first | (with_reducible assumption) | assumption)
              have q342 : x8_1 < (l0.length : Int) := of_decide_eq_true (by first | (with_reducible assumption) | assumption)
              obtain ⟨ad342, e342, hx342_0⟩ := Kd.at_bool HR0.out x8_1 p342 q342
              cases e342
              replace p342 := eq_true p342
              replace q342 := eq_true q342
              go_wp2
              go_roundg k1
              case measure => have := HK1.out; omega
              case rel => exact ⟨(wrap64 (x8_1 + 1)), (by first | rfl | (simp; done) | (simp [*]; done)), H', ⟨by have := HK1.out; omega⟩, by repeat (first | exact Drawn0.refl _ | apply Drawn0.step)⟩
          · rw [if_neg c5] at H
            exact absurd H (by simp)
        · rw [if_neg c4] at H
          exact absurd H (by simp)
      · rw [if_neg c3] at H
        have c3b0 : decide (x8_1 < (l0.length : Int)) = false := decide_eq_false c3
        clear c3
        obtain rfl := Option.some.inj H
        go_wp2
        go_ret
        exact ⟨by first | rfl | (simp; done) | (simp [*]; done), by repeat (first | exact Drawn0.refl _ | apply Drawn0.step)⟩
def slices_Contains_bool_bool.f (k : Nat) (l0 : List Bool) (a1 : Bool) : Option (Bool) := (slices_Index_bool_bool.f k l0 a1).bind fun t343 => (some (decide (t343 ≥ 0)))
set_option maxHeartbeats 8000000 in
set_option maxRecDepth 100000 in
theorem slices_Contains_bool_bool.calls (k : Nat) (A0 : Option Addr) (c0 : Nat) (l0 : List Bool) (a1 : Bool) (r : Bool) (w : World) (hr0 : Kd.C Kd.bool w A0 l0.length l0) (hc0 : l0.length ≤ c0) (h : slices_Contains_bool_bool.f k l0 a1 = some r) :
    Calls Try.prog 141 #[.slice A0 l0.length c0, .bool a1] w fun e w' => e = .returned (.bool r) ∧ Drawn0 w w' := by
  have HR0 := Aside0.mk hr0
  have HC0 := Aside0.mk hc0
  clear hr0 hc0
  have H : ((slices_Index_bool_bool.f k l0 a1).bind fun t343 => (some (decide (t343 ≥ 0)))) = some r := h
  clear h
  replace H := Option.bind_eq_some_iff.mp H
  obtain ⟨t343, A30, H⟩ := H
  replace H : (some (decide (t343 ≥ 0))) = some r := H
  have A3 := Aside0.mk A30
  clear A30
  obtain rfl := Option.some.inj H
  go_enter Try.func141, Try.ntmps141
  go_wp2_with (first | ((with_reducible refine gate_callee (f := 173) rfl ?_); refine goesL_ (some 7) rfl rfl Try.func173 (by kernel_rfl) rfl #[.slice A0 l0.length c0, .bool a1] rfl (by (try simp only [List.map_toArray, List.map_cons, List.map_nil]); first | done | rfl | (simp only [List.length_drop, List.length_take]; rfl)) ?_; (with_reducible refine (slices_Index_bool_bool.calls k _ _ l0 a1 t343 _ ?side1 ?side2 A3.out).mono ?_); (case side1 => repeat (first | exact HR0.out | (with_reducible refine Kd.C_alloc ?_ _) | (with_reducible refine Kd.C_drewN ?_ _) | (with_reducible refine Kd.C_drew ?_))); (case side2 => exact HC0.out); rintro e w' ⟨rfl, ⟨nd, rfl⟩⟩; refine ⟨_, rfl, ?_⟩))
  go_ret
  exact ⟨by first | rfl | (simp; done) | (simp [*]; done), by repeat (first | exact Drawn0.refl _ | apply Drawn0.step)⟩
def impl_isPartSize.f (a0 : Int) : Option (Bool) := if a0 = 1 then (some true) else (if a0 = 2 then (some true) else (some (a0 == 4)))
set_option maxHeartbeats 8000000 in
set_option maxRecDepth 100000 in
theorem impl_isPartSize.calls (a0 : Int) (r : Bool) (w : World) (h : impl_isPartSize.f a0 = some r) :
    Calls Try.prog 152 #[.int .i64 a0] w fun e w' => e = .returned (.bool r) ∧ Drawn0 w w' := by
  have H : (if a0 = 1 then (some true) else (if a0 = 2 then (some true) else (some (a0 == 4)))) = some r := h
  clear h
  by_cases c2 : a0 = 1
  · rw [if_pos c2] at H
    have c2b0 : (a0 == 1) = true := beq_iff_eq.mpr c2
    have c2b1 : (a0 != 1) = false := bne_eq_false_iff_eq.mpr c2
    clear c2
    obtain rfl := Option.some.inj H
    go_enter Try.func152, Try.ntmps152
    go_wp2
    go_ret
    exact ⟨by first | rfl | (simp; done) | (simp [*]; done), by repeat (first | exact Drawn0.refl _ | apply Drawn0.step)⟩
  · rw [if_neg c2] at H
    have c2b0 : (a0 == 1) = false := beq_eq_false_iff_ne.mpr c2
    have c2b1 : (a0 != 1) = true := bne_iff_ne.mpr c2
    by_cases c3 : a0 = 2
    · rw [if_pos c3] at H
      have c3b0 : (a0 == 2) = true := beq_iff_eq.mpr c3
      have c3b1 : (a0 != 2) = false := bne_eq_false_iff_eq.mpr c3
      clear c3
      obtain rfl := Option.some.inj H
      go_enter Try.func152, Try.ntmps152
      go_wp2
      go_ret
      exact ⟨by first | rfl | (simp; done) | (simp [*]; done), by repeat (first | exact Drawn0.refl _ | apply Drawn0.step)⟩
    · rw [if_neg c3] at H
      have c3b0 : (a0 == 2) = false := beq_eq_false_iff_ne.mpr c3
      have c3b1 : (a0 != 2) = true := bne_iff_ne.mpr c3
      obtain rfl := Option.some.inj H
      go_enter Try.func152, Try.ntmps152
      go_wp2
      go_ret
      exact ⟨by first | rfl | (simp; done) | (simp [*]; done), by repeat (first | exact Drawn0.refl _ | apply Drawn0.step)⟩
def impl_SlabsOk.l0 : Nat → List (S131) → List (S131) → Int → Int → Option (Bool)
 | 0, _, _, _, _ => none
 | k + 1, x0, x5, x6, x7 => if x7 < x6 then none else (some (decide ((x0.length : Int) ≤ 32)))
def impl_SlabsOk.f (k : Nat) (l0 : List (S131)) : Option (Bool) := impl_SlabsOk.l0 k l0 l0 (l0.length : Int) 0
set_option maxHeartbeats 8000000 in
set_option maxRecDepth 100000 in
theorem impl_SlabsOk.calls (k : Nat) (A0 : Option Addr) (c0 : Nat) (l0 : List (S131)) (r : Bool) (w : World) (hr0 : Kd.C k131 w A0 l0.length l0) (hc0 : l0.length ≤ c0) (h : impl_SlabsOk.f k l0 = some r) :
  Calls Try.prog 123 #[.slice A0 l0.length c0] w fun e w' => e = .returned (.bool r) ∧ Below w.heap.size w w' := by
 have hu131 := Try.underlying131
 have HR0 := Aside0.mk hr0
 have HC0 := Aside0.mk hc0
 clear hr0 hc0
 have HB := Aside0.mk (Below.refl w.heap.size w)
 have H : (impl_SlabsOk.l0 k l0 l0 (l0.length : Int) 0) = some r := h
 clear h
 have H' := Aside0.mk H
 clear H
 go_enter Try.func123, Try.ntmps123
 go_wp2
 go_loopg [7] k (fun kq v7 w' => ∃ (x7_1 : Int), v7 = .int .i64 x7_1 ∧ Aside0 (impl_SlabsOk.l0 kq l0 l0 (l0.length : Int) x7_1 = some r) ∧ Aside0 (kq ≤ k) ∧ Aside0 (Below w.heap.size w w'))
 case atStart => exact ⟨(0), (by first | rfl | (simp; done) | (simp [*]; done) | (simp [Int.tdiv_eq_ediv_of_nonneg]; done)), H', ⟨Nat.le_refl _⟩, ⟨by repeat (first | (with_reducible first | exact HB.out | apply below_alloc | apply pw_below_drewN | apply below_drew1) | exact HB.out)⟩⟩
 case round =>
  clear H'
  try clear c1
  obtain ⟨x7_1, rfl, HA, HK1, HB⟩ := hrel
  cases gk with
  | zero => exact absurd HA.out (by simp [impl_SlabsOk.l0])
  | succ k1 =>
   have H := HA.out
   clear HA
   simp only [impl_SlabsOk.l0] at H
   by_cases c2 : x7_1 < (l0.length : Int)
   · rw [if_pos c2] at H
     exact absurd H (by simp)
   ·rw [if_neg c2] at H
    have c2b0 : decide (x7_1 < (l0.length : Int)) = false := decide_eq_false c2
    clear c2
    obtain rfl := Option.some.inj H
    go_wp2
    go_ret
    exact ⟨by first | rfl | (simp [errW_none, errW_some] <;> rfl) | (simp [*, errW_none, errW_some] <;> rfl), by repeat (first | (with_reducible first | exact HB.out | apply below_alloc | apply pw_below_drewN | apply below_drew1) | exact HB.out)⟩
mutual
def impl_framesOf.l0 : Nat → List Int → List (S124) → Int → Int → Option (List Int)
 | 0, _, _, _, _ => none
 | k + 1, x3, x8, x9, x10 => if x10 < x9 then (if 0 ≤ x10 then (if x10 < (x8.length : Int) then (if 0 ≤ ((rd_T124 x8 x10).f1) then (impl_framesOf.l1 k x3 x8 x9 x10 (shl .i64 1 ((rd_T124 x8 x10).f1)) 0 ((rd_T124 x8 x10).f0) ((rd_T124 x8 x10).f1)) else (none)) else (none)) else (none)) else (some x3)
def impl_framesOf.l1 : Nat → List Int → List (S124) → Int → Int → Int → Int → Int → Int → Option (List Int)
 | 0, _, _, _, _, _, _, _, _ => none
 | k + 1, x3, x8, x9, x10, x16, x17, x1125000, x1125001 => if x17 < x16 then (if x3.length < 17592186044416 then (impl_framesOf.l1 k (x3 ++ [wrap64 (x1125000 + x17)]) x8 x9 x10 x16 (wrap64 (x17 + 1)) x1125000 x1125001) else (none)) else (impl_framesOf.l0 k x3 x8 x9 (wrap64 (x10 + 1)))
end
def impl_framesOf.f (k : Nat) (l0 : List (S124)) : Option (List Int) := impl_framesOf.l0 k (([] : List Int)) l0 (l0.length : Int) 0
set_option maxHeartbeats 8000000 in
set_option maxRecDepth 100000 in
theorem impl_framesOf.calls (k : Nat) (A0 : Option Addr) (c0 : Nat) (l0 : List (S124)) (r : List Int) (w : World) (hr0 : Kd.C k124 w A0 l0.length l0) (hc0 : l0.length ≤ c0) (h : impl_framesOf.f k l0 = some r) :
  Calls Try.prog 125 #[.slice A0 l0.length c0] w fun e w' => ∃ v0_ : Value, e = .returned (v0_) ∧ Kd.R (Kd.int .i64) 3 w' w.heap.size (fun _ => True) v0_ r ∧ Below w.heap.size w w' := by
 have hu124 := Try.underlying124; have HR0 := Aside0.mk hr0; have HC0 := Aside0.mk hc0; clear hr0 hc0; have HB := Aside0.mk (Below.refl w.heap.size w); have H : (impl_framesOf.l0 k (([] : List Int)) l0 (l0.length : Int) 0) = some r := h; clear h
 obtain ⟨y1120, hy1120⟩ : ∃ y_ : List Int, y_ = (([] : List Int)) := ⟨_, rfl⟩
 replace H : (impl_framesOf.l0 k y1120 l0 (l0.length : Int) 0) = some r := by first | (rw [hy1120]; with_reducible exact H) | (have H2_ := (Option.bind_some _ _).symm.trans H; rw [hy1120]; with_reducible exact H2_) | (have H2_ := (Option.bind_some _ _).symm.trans H; with_reducible exact H2_) | with_reducible exact H | (rw [hy1120]; exact H) | exact H
 have Ny1120 := Aside0.mk hy1120; clear hy1120; have H' := Aside0.mk H; clear H
 go_enter Try.func125, Try.ntmps125
 go_wp2_with (first | ((with_reducible refine gate_dst (N := 7) rfl ?_); refine Kd.R_lit (Kd.int .i64) _ 3 ?hg (N := 7) ?hd (xs := ([] : List Int)) (inner := []) (ok := fun _ => True) (okp := fun _ => True) ?hr ?hp (fun _ hk => hk) trivial (Below.refl _ _) (Nat.le_refl _) (by simp) ?_; (case hd => rfl); (case hg => rfl); (case hr => first | (go_simp; done) | (go_simp; rfl)); (case hp => exact (Reps.none _ _)); intro v1121 w2 ho3 hb hg_ hnew_; clear hg_ hnew_; (first | rw [← Ny1120.out] at ho3 | (simp only [Int.reduceToNat] at ho3; rw [← Ny1120.out] at ho3)); have HO1122 := Aside0.mk (Kd.R_lower ho3 (below_size (gB HB))); replace HB := Aside0.mk (below_step (gB HB) hb); clear hb ho3))
 go_loopg [3, 10] k (fun kq v3 v10 w' => ∃ (x3_1 : List Int) (x10_1 : Int), v10 = .int .i64 x10_1 ∧ Aside0 (impl_framesOf.l0 kq x3_1 l0 (l0.length : Int) x10_1 = some r) ∧ Aside0 (kq ≤ k) ∧ Aside0 (Kd.R (Kd.int .i64) 3 w' w.heap.size (fun _ => True) v3 x3_1) ∧ Aside0 (Below w.heap.size w w'))
 case atStart => exact ⟨(y1120), (0), (by first | rfl | (simp; done) | (simp [*]; done)), H', ⟨Nat.le_refl _⟩, ⟨gR HO1122⟩, ⟨gB HB⟩⟩
 case round =>
  clear H'; try clear c1
  try clear p2
  obtain ⟨x3_1, x10_1, rfl, HA, HK1, HO_3, HB⟩ := hrel
  cases gk with
  | zero => exact absurd HA.out (by simp [impl_framesOf.l0])
  | succ k1 =>
   have H := HA.out; clear HA; simp only [impl_framesOf.l0] at H
   by_cases c4 : x10_1 < (l0.length : Int)
   ·rw [if_pos c4] at H; have c4b0 : decide (x10_1 < (l0.length : Int)) = true := decide_eq_true c4; clear c4
    by_cases c5 : 0 ≤ x10_1
    ·rw [if_pos c5] at H; have c5b0 : decide (0 ≤ x10_1) = true := decide_eq_true c5; clear c5
     by_cases c6 : x10_1 < (l0.length : Int)
     ·rw [if_pos c6] at H; have c6b0 : decide (x10_1 < (l0.length : Int)) = true := decide_eq_true c6; clear c6
      by_cases c7 : 0 ≤ ((rd_T124 l0 x10_1).f1)
      ·rw [if_pos c7] at H; have c7b0 := eq_true c7; have c7b1 : decide (0 ≤ ((rd_T124 l0 x10_1).f1)) = true := decide_eq_true c7; clear c7
       obtain ⟨ji8, hji8⟩ : ∃ j_ : Int, (shl .i64 1 ((rd_T124 l0 x10_1).f1)) = j_ := ⟨_, rfl⟩
       replace H : (impl_framesOf.l1 k1 x3_1 l0 (l0.length : Int) x10_1 ji8 0 ((rd_T124 l0 x10_1).f0) ((rd_T124 l0 x10_1).f1)) = some r := by first | (rw [hji8] at H; exact H) | (simp only [hji8] at H ⊢; exact H)
       have hji8_ : (IntKind.i64.wrap (1 * 2 ^ min ((rd_T124 l0 x10_1).f1).toNat 64)) = ji8 := hji8; have hji8z : ((rd_T124 l0 x10_1).f1) ≤ 64 → (IntKind.i64.wrap (1 * 2 ^ ((rd_T124 l0 x10_1).f1).toNat)) = ji8 := shl_small hji8
       have hji8u : (IntKind.i64.wrap (2 ^ min ((rd_T124 l0 x10_1).f1).toNat 64)) = ji8 := by have h_ := hji8_; rw [Int.one_mul] at h_; exact h_
       have hji8v : ((rd_T124 l0 x10_1).f1) ≤ 64 → (IntKind.i64.wrap (2 ^ ((rd_T124 l0 x10_1).f1).toNat)) = ji8 := fun hle_ => by have h_ := hji8z hle_; rw [Int.one_mul] at h_; exact h_
       have hji8y : (wrap64 (1 * 2 ^ min ((rd_T124 l0 x10_1).f1).toNat 64)) = ji8 := (i64_w _).symm.trans hji8_
       have hji8x : ((rd_T124 l0 x10_1).f1) ≤ 64 → (wrap64 (1 * 2 ^ ((rd_T124 l0 x10_1).f1).toNat)) = ji8 := fun h_ => (i64_w _).symm.trans (hji8z h_)
       have H' := Aside0.mk H; clear H; have p1123 : 0 ≤ (x10_1 : Int) := of_decide_eq_true (by first | (with_reducible assumption) | assumption); have q1123 : x10_1 < (l0.length : Int) := of_decide_eq_true (by first | (with_reducible assumption) | assumption); obtain ⟨ad1123, e1123, hx1123_0, hx1123_1⟩ := at_T124 HR0.out x10_1 p1123 q1123
       cases e1123; replace hx1123_0 := (HB.out.cell (World.block_lt_of_cell? w _ hx1123_0)).trans hx1123_0; replace hx1123_1 := (HB.out.cell (World.block_lt_of_cell? w _ hx1123_1)).trans hx1123_1; replace p1123 := eq_true p1123; replace q1123 := eq_true q1123
       go_wp2_with (first | ((with_reducible refine gate_dst (N := 5) rfl ?_); refine box_event ?hg (N := 5) ?hd (cs := #[.int .i64 0, .int .i64 0]) (t := 124) ?hr ?_; (case hd => rfl); (case hg => rfl); (case hr => first | (go_simp; done) | (go_simp; rfl)); intro gb1124 hg w9 hbox hb; replace HO_3 := Aside0.mk (Kd.R_below (gR HO_3) hb); have BK1124 := Aside0.mk (hbox); have GW1124 := Aside0.mk ((by rw [hg]; exact (below_size (gB HB)) : w.heap.size ≤ gb1124)); have GE1124 := Aside0.mk ((by rw [hg]; exact (below_size (gB HB)) : w.heap.size ≤ gb1124)); replace HB := Aside0.mk (below_step (gB HB) hb); clear hb hbox hg; have hcz10_0 : w9.cell? ⟨gb1124, 0, none⟩ = some (.int .i64 0) := (blk_cell BK1124.out 0).trans rfl; have hcz10_1 : w9.cell? ⟨gb1124, 1, none⟩ = some (.int .i64 0) := (blk_cell BK1124.out 1).trans rfl; have hfz10_0 := blk_frozen BK1124.out 0; have hfz10_1 := blk_frozen BK1124.out 1))
       go_loopg [3, 17] k1 (fun kq v3 v17 w' => ∃ (x3_2 : List Int) (x17_2 : Int), v17 = .int .i64 x17_2 ∧ Aside0 (impl_framesOf.l1 kq x3_2 l0 (l0.length : Int) x10_1 ji8 x17_2 ((rd_T124 l0 x10_1).f0) ((rd_T124 l0 x10_1).f1) = some r) ∧ Aside0 (kq ≤ k1) ∧ Aside0 (Kd.R (Kd.int .i64) 3 w' w.heap.size (fun _ => True) v3 x3_2) ∧ Aside0 (w'.heap[gb1124]? = some (.cells #[.int .i64 ((rd_T124 l0 x10_1).f0), .int .i64 ((rd_T124 l0 x10_1).f1)] 124 (0, 0))) ∧ Aside0 (Below w.heap.size w w'))
       case atStart => exact ⟨(x3_1), (0), (by first | rfl | (simp; done) | (simp [*]; done)), H', ⟨Nat.le_refl _⟩, ⟨by (with_reducible repeat (first | apply Kd.R_alloc | apply Kd.R_drewN | apply Kd.R_drew)); exact Kd.R_mono (Kd.R_far (p := ⟨gb1124, 1, none⟩) (Kd.R_far (p := ⟨gb1124, 0, none⟩) (Kd.R_types HO_3.out BK1124.out (by decide)) (fun _ hk => hk.2) (.int .i64 ((rd_T124 l0 x10_1).f0))) (fun _ hk => hk.2) (.int .i64 ((rd_T124 l0 x10_1).f1))) (fun _ hk => trivial)⟩, ⟨by (with_reducible repeat (first | refine blk_drewN ?_ _ | refine blk_drew ?_ | refine blk_alloc ?_ _)); refine blk_put (cs := #[.int .i64 ((rd_T124 l0 x10_1).f0), .int .i64 0]) ?_ 1 _ rfl; (with_reducible repeat (first | refine blk_drewN ?_ _ | refine blk_drew ?_ | refine blk_alloc ?_ _)); refine blk_put (cs := #[.int .i64 0, .int .i64 0]) ?_ 0 _ rfl; (with_reducible repeat (first | refine blk_drewN ?_ _ | refine blk_drew ?_ | refine blk_alloc ?_ _)); exact BK1124.out⟩, ⟨gT1 GE1124.out HB⟩⟩
       case round =>
        clear H'; try clear c1
        try clear p1
        try clear q1
        try clear hx1
        try clear p2
        try clear c4
        try clear c4b0
        try clear c5
        try clear c5b0
        try clear c6
        try clear c6b0
        try clear p6
        try clear c7
        try clear c7b0
        try clear c7b1
        try clear hcz10_0
        try clear hcz10_1
        try clear hfz10_0
        try clear hfz10_1
        try clear hx1123_0
        try clear hx1123_1
        try clear p1123
        try clear p2
        try clear q1123
        obtain ⟨x3_2, x17_2, rfl, HA, HK2, HO_3, BK1124, HB⟩ := hrel
        cases gk with
        | zero => exact absurd HA.out (by simp [impl_framesOf.l1])
        | succ k2 =>
         have H := HA.out; clear HA; simp only [impl_framesOf.l1] at H
         by_cases c11 : x17_2 < ji8
         ·rw [if_pos c11] at H; have c11b0 : decide (x17_2 < ji8) = true := decide_eq_true c11; clear c11
          by_cases c12 : x3_2.length < 17592186044416
          ·rw [if_pos c12] at H; have LMc12 := Aside0.mk c12; clear c12
           obtain ⟨y1125, hy1125⟩ : ∃ y_ : List Int, y_ = (x3_2 ++ [wrap64 (((rd_T124 l0 x10_1).f0) + x17_2)]) := ⟨_, rfl⟩
           replace H : (impl_framesOf.l1 k2 y1125 l0 (l0.length : Int) x10_1 ji8 (wrap64 (x17_2 + 1)) ((rd_T124 l0 x10_1).f0) ((rd_T124 l0 x10_1).f1)) = some r := by first | (rw [hy1125]; with_reducible exact H) | (have H2_ := (Option.bind_some _ _).symm.trans H; rw [hy1125]; with_reducible exact H2_) | (have H2_ := (Option.bind_some _ _).symm.trans H; with_reducible exact H2_) | with_reducible exact H | (rw [hy1125]; exact H) | exact H
           have Ny1125 := Aside0.mk hy1125; clear hy1125; have H' := Aside0.mk H; clear H; have hcz13_0 : wr.cell? ⟨gb1124, 0, none⟩ = some (.int .i64 ((rd_T124 l0 x10_1).f0)) := (blk_cell BK1124.out 0).trans rfl; have hcz13_1 : wr.cell? ⟨gb1124, 1, none⟩ = some (.int .i64 ((rd_T124 l0 x10_1).f1)) := (blk_cell BK1124.out 1).trans rfl; have hfz13_0 := blk_frozen BK1124.out 0; have hfz13_1 := blk_frozen BK1124.out 1
           go_wp2_with (first | ((with_reducible refine gate_builtin (b := .append) (xs := #[.tmp 20, .tmp 25]) rfl ?_); at_builtin; refine Kd.R_append (Kd.int .i64) (w0 := w) w.heap.size rfl (.tmp 20) (.tmp 25) 26 3 (.int .i64 0) 8 rfl Try.underlying26 info3 rfl (by decide) (by omega) u3 x3_2 (wrap64 (((rd_T124 l0 x10_1).f0) + x17_2)) [.int .i64 (wrap64 (((rd_T124 l0 x10_1).f0) + x17_2))] (fun _ => True) (fun _ => False) rfl rfl ?aP (fun _ hk => hk.elim) ?aF ?aO ?aB ?aS ?aL ?_; (case aP => exact rfl); (case aB => exact (gT1 GE1124.out HB)); (case aF => exact (fun _ _ => trivial)); (case aO => exact (gR HO_3)); (case aS => exact (below_size (gT1 GE1124.out HB))); (case aL => have := LMc12.out; omega); intro v1126 w14 ho hb hg hat; rw [← Ny1125.out] at ho; have n0_ := Aside0.mk (blk_grown (g := gb1124) (gK BK1124) hg (Kd.R_ne HO_3.out BK1124.out (by decide))); have n1_ := Aside0.mk (hb); have n2_ := Aside0.mk (ho); clear BK1124; clear HB; clear HO_3; have BK1124 := n0_; have HB := n1_; have HO1127 := n2_; clear n0_ n1_ n2_; clear ho hb hg hat))
           go_roundg k2
           case measure => have := HK1.out; have := HK2.out; omega
           case rel => exact ⟨(y1125), (wrap64 (x17_2 + 1)), (by first | rfl | (simp; done) | (simp [*]; done)), H', ⟨by have := HK1.out; have := HK2.out; omega⟩, ⟨gR HO1127⟩, ⟨gK BK1124⟩, ⟨gT1 GE1124.out HB⟩⟩
          ·rw [if_neg c12] at H; exact absurd H (by simp)
         ·rw [if_neg c11] at H; have c11b0 : decide (x17_2 < ji8) = false := decide_eq_false c11; clear c11; have H' := Aside0.mk H; clear H; go_wp2
          go_roundg k2
          case measure => have := HK1.out; have := HK2.out; omega
          case rel => exact ⟨(x3_2), (wrap64 (x10_1 + 1)), (by first | rfl | (simp; done) | (simp [*]; done)), H', ⟨by have := HK1.out; have := HK2.out; omega⟩, ⟨gR HO_3⟩, ⟨gT1 GE1124.out HB⟩⟩
      ·rw [if_neg c7] at H; exact absurd H (by simp)
     ·rw [if_neg c6] at H; exact absurd H (by simp)
    ·rw [if_neg c5] at H; exact absurd H (by simp)
   ·rw [if_neg c4] at H; have c4b0 : decide (x10_1 < (l0.length : Int)) = false := decide_eq_false c4; clear c4; obtain rfl := Option.some.inj H; go_wp2
    go_ret
    exact ⟨_, by first | rfl | (simp [errW_none, errW_some] <;> rfl) | (simp [*, errW_none, errW_some] <;> rfl), gR HO_3, gB HB⟩
def impl_wordsOk.l0 : Nat → List Int → List Int → Int → Int → Option (Bool)
  | 0, _, _, _, _ => none
  | k + 1, x0, x5, x6, x7 => if x7 < x6 then (if 0 ≤ x7 then (if x7 < (x5.length : Int) then ((impl_within.f (rd x5 x7) 0 100000).bind fun t179 => (if t179 = true then (impl_wordsOk.l0 k x0 x5 x6 (wrap64 (x7 + 1))) else (some false))) else (none)) else (none)) else (some ((x0.length : Int) == 4))
def impl_wordsOk.f (k : Nat) (l0 : List Int) : Option (Bool) := impl_wordsOk.l0 k l0 l0 (l0.length : Int) 0
set_option maxHeartbeats 8000000 in
set_option maxRecDepth 100000 in
theorem impl_wordsOk.calls (k : Nat) (A0 : Option Addr) (c0 : Nat) (l0 : List Int) (r : Bool) (w : World) (hr0 : Kd.C (Kd.int .i64) w A0 l0.length l0) (hc0 : l0.length ≤ c0) (h : impl_wordsOk.f k l0 = some r) :
    Calls Try.prog 37 #[.slice A0 l0.length c0] w fun e w' => e = .returned (.bool r) ∧ Drawn0 w w' := by
  have HR0 := Aside0.mk hr0
  have HC0 := Aside0.mk hc0
  clear hr0 hc0
  have H : (impl_wordsOk.l0 k l0 l0 (l0.length : Int) 0) = some r := h
  clear h
  have H' := Aside0.mk H
  clear H
  go_enter Try.func37, Try.ntmps37
  go_wp2
  go_loopg [7] k (fun kq v7 w' => ∃ (x7_1 : Int), v7 = .int .i64 x7_1 ∧ Aside0 (impl_wordsOk.l0 kq l0 l0 (l0.length : Int) x7_1 = some r) ∧ Aside0 (kq ≤ k) ∧ Drawn0 w w')
  case atStart => exact ⟨(0), (by first | rfl | (simp; done) | (simp [*]; done)), H', ⟨Nat.le_refl _⟩, by repeat (first | exact Drawn0.refl _ | apply Drawn0.step)⟩
  case round =>
    clear H'
    obtain ⟨x7_1, rfl, HA, HK1, ⟨m1, rfl⟩⟩ := hrel
    cases gk with
    | zero => exact absurd HA.out (by simp [impl_wordsOk.l0])
    | succ k1 =>
      have H := HA.out
      clear HA
      simp only [impl_wordsOk.l0] at H
      by_cases c2 : x7_1 < (l0.length : Int)
      · rw [if_pos c2] at H
        have c2b0 : decide (x7_1 < (l0.length : Int)) = true := decide_eq_true c2
        clear c2
        by_cases c3 : 0 ≤ x7_1
        · rw [if_pos c3] at H
          have c3b0 : decide (0 ≤ x7_1) = true := decide_eq_true c3
          clear c3
          by_cases c4 : x7_1 < (l0.length : Int)
          · rw [if_pos c4] at H
            have c4b0 : decide (x7_1 < (l0.length : Int)) = true := decide_eq_true c4
            clear c4
            replace H := Option.bind_eq_some_iff.mp H
            obtain ⟨t179, A50, H⟩ := H
            replace H : (if t179 = true then (impl_wordsOk.l0 k1 l0 l0 (l0.length : Int) (wrap64 (x7_1 + 1))) else (some false)) = some r := H
            have A5 := Aside0.mk A50
            clear A50
            by_cases c6 : t179 = true
            · subst c6
              have H1 : (impl_wordsOk.l0 k1 l0 l0 (l0.length : Int) (wrap64 (x7_1 + 1))) = some r := by rw [if_pos rfl] at H; exact H
              clear H
              have H := H1
              clear H1
              have H' := Aside0.mk H
              clear H
              have p178 : 0 ≤ (x7_1 : Int) := of_decide_eq_true (by first | (with_reducible assumption) | assumption)
              have q178 : x7_1 < (l0.length : Int) := of_decide_eq_true (by first | (with_reducible assumption) | assumption)
              obtain ⟨ad178, e178, hx178_0⟩ := Kd.at_int HR0.out x7_1 p178 q178
              cases e178
              replace p178 := eq_true p178
              replace q178 := eq_true q178
              go_wp2_with (first | ((with_reducible refine gate_callee (f := 35) rfl ?_); refine goesL_ (some 12) rfl rfl Try.func35 (by kernel_rfl) rfl #[.int .i64 (rd l0 x7_1), .int .i64 0, .int .i64 100000] rfl (by (try simp only [List.map_toArray, List.map_cons, List.map_nil]); first | done | rfl | (simp only [List.length_drop, List.length_take]; rfl)) ?_; (with_reducible refine (impl_within.calls (rd l0 x7_1) 0 100000 true _ A5.out).mono ?_); rintro e w' ⟨rfl, ⟨nd, rfl⟩⟩; refine ⟨_, rfl, ?_⟩))
              go_roundg k1
              case measure => have := HK1.out; omega
              case rel => exact ⟨(wrap64 (x7_1 + 1)), (by first | rfl | (simp; done) | (simp [*]; done)), H', ⟨by have := HK1.out; omega⟩, by repeat (first | exact Drawn0.refl _ | apply Drawn0.step)⟩
            · replace c6 := Bool.eq_false_iff.mpr c6
              subst c6
              have H1 : (some false) = some r := by rw [if_neg (show ¬ (false = true) by decide)] at H; exact H
              clear H
              have H := H1
              clear H1
              obtain rfl := Option.some.inj H
              have p178 : 0 ≤ (x7_1 : Int) := of_decide_eq_true (by first | (with_reducible assumption) | assumption)
              have q178 : x7_1 < (l0.length : Int) := of_decide_eq_true (by first | (with_reducible assumption) | assumption)
              obtain ⟨ad178, e178, hx178_0⟩ := Kd.at_int HR0.out x7_1 p178 q178
              cases e178
              replace p178 := eq_true p178
              replace q178 := eq_true q178
              go_wp2_with (first | ((with_reducible refine gate_callee (f := 35) rfl ?_); refine goesL_ (some 12) rfl rfl Try.func35 (by kernel_rfl) rfl #[.int .i64 (rd l0 x7_1), .int .i64 0, .int .i64 100000] rfl (by (try simp only [List.map_toArray, List.map_cons, List.map_nil]); first | done | rfl | (simp only [List.length_drop, List.length_take]; rfl)) ?_; (with_reducible refine (impl_within.calls (rd l0 x7_1) 0 100000 false _ A5.out).mono ?_); rintro e w' ⟨rfl, ⟨nd, rfl⟩⟩; refine ⟨_, rfl, ?_⟩))
              go_ret
              exact ⟨by first | rfl | (simp; done) | (simp [*]; done), by repeat (first | exact Drawn0.refl _ | apply Drawn0.step)⟩
          · rw [if_neg c4] at H
            exact absurd H (by simp)
        · rw [if_neg c3] at H
          exact absurd H (by simp)
      · rw [if_neg c2] at H
        have c2b0 : decide (x7_1 < (l0.length : Int)) = false := decide_eq_false c2
        clear c2
        obtain rfl := Option.some.inj H
        go_wp2
        go_ret
        exact ⟨by first | rfl | (simp; done) | (simp [*]; done), by repeat (first | exact Drawn0.refl _ | apply Drawn0.step)⟩
def impl_MemoryOk.l0 : Nat → List (List Int) → List (List Int) → Int → Int → Option (Bool)
  | 0, _, _, _, _ => none
  | k + 1, x0, x5, x6, x7 => if x7 < x6 then (if 0 ≤ x7 then (if x7 < (x5.length : Int) then ((impl_wordsOk.f k (rd_L2 x5 x7)).bind fun t182 => (if t182 = true then (impl_MemoryOk.l0 k x0 x5 x6 (wrap64 (x7 + 1))) else (some false))) else (none)) else (none)) else ((impl_isSize.f (x0.length : Int)).bind fun t183 => (some t183))
def impl_MemoryOk.f (k : Nat) (l0 : List (List Int)) : Option (Bool) := impl_MemoryOk.l0 k l0 l0 (l0.length : Int) 0
set_option maxHeartbeats 8000000 in
set_option maxRecDepth 100000 in
theorem impl_MemoryOk.calls (k : Nat) (A0 : Option Addr) (c0 : Nat) (l0 : List (List Int)) (r : Bool) (w : World) (hr0 : Kd.C (Kd.slice 3 (Kd.int .i64)) w A0 l0.length l0) (hc0 : l0.length ≤ c0) (h : impl_MemoryOk.f k l0 = some r) :
    Calls Try.prog 14 #[.slice A0 l0.length c0] w fun e w' => e = .returned (.bool r) ∧ Drawn0 w w' := by
  have HR0 := Aside0.mk hr0
  have HC0 := Aside0.mk hc0
  clear hr0 hc0
  have H : (impl_MemoryOk.l0 k l0 l0 (l0.length : Int) 0) = some r := h
  clear h
  have H' := Aside0.mk H
  clear H
  go_enter Try.func14, Try.ntmps14
  go_wp2
  go_loopg [7] k (fun kq v7 w' => ∃ (x7_1 : Int), v7 = .int .i64 x7_1 ∧ Aside0 (impl_MemoryOk.l0 kq l0 l0 (l0.length : Int) x7_1 = some r) ∧ Aside0 (kq ≤ k) ∧ Drawn0 w w')
  case atStart => exact ⟨(0), (by first | rfl | (simp; done) | (simp [*]; done)), H', ⟨Nat.le_refl _⟩, by repeat (first | exact Drawn0.refl _ | apply Drawn0.step)⟩
  case round =>
    clear H'
    try clear c1
    obtain ⟨x7_1, rfl, HA, HK1, ⟨m1, rfl⟩⟩ := hrel
    cases gk with
    | zero => exact absurd HA.out (by simp [impl_MemoryOk.l0])
    | succ k1 =>
      have H := HA.out
      clear HA
      simp only [impl_MemoryOk.l0] at H
      by_cases c2 : x7_1 < (l0.length : Int)
      · rw [if_pos c2] at H
        have c2b0 : decide (x7_1 < (l0.length : Int)) = true := decide_eq_true c2
        clear c2
        by_cases c3 : 0 ≤ x7_1
        · rw [if_pos c3] at H
          have c3b0 : decide (0 ≤ x7_1) = true := decide_eq_true c3
          clear c3
          by_cases c4 : x7_1 < (l0.length : Int)
          · rw [if_pos c4] at H
            have c4b0 : decide (x7_1 < (l0.length : Int)) = true := decide_eq_true c4
            clear c4
            replace H := Option.bind_eq_some_iff.mp H
            obtain ⟨t182, A50, H⟩ := H
            replace H : (if t182 = true then (impl_MemoryOk.l0 k1 l0 l0 (l0.length : Int) (wrap64 (x7_1 + 1))) else (some false)) = some r := H
            have A5 := Aside0.mk A50
            clear A50
            by_cases c6 : t182 = true
            · subst c6
              have H1 : (impl_MemoryOk.l0 k1 l0 l0 (l0.length : Int) (wrap64 (x7_1 + 1))) = some r := by rw [if_pos rfl] at H; exact H
              clear H
              have H := H1
              clear H1
              have H' := Aside0.mk H
              clear H
              have p181 : 0 ≤ (x7_1 : Int) := of_decide_eq_true (by first | (with_reducible assumption) | assumption)
              have q181 : x7_1 < (l0.length : Int) := of_decide_eq_true (by first | (with_reducible assumption) | assumption)
              obtain ⟨ad181, A181_0, c181_0, e181, hx181_0, hl181_0, hi181_0⟩ := at_L2 HR0.out x7_1 p181 q181
              cases e181
              have HR181_0 := Aside0.mk hi181_0
              have HC181_0 := Aside0.mk hl181_0
              clear hi181_0 hl181_0
              replace p181 := eq_true p181
              replace q181 := eq_true q181
              go_wp2_with (first | ((with_reducible refine gate_callee (f := 37) rfl ?_); refine goesL_ (some 12) rfl rfl Try.func37 (by kernel_rfl) rfl #[.slice A181_0 (rd_L2 l0 x7_1).length c181_0] rfl (by (try simp only [List.map_toArray, List.map_cons, List.map_nil]); first | done | rfl | (simp only [List.length_drop, List.length_take]; rfl)) ?_; (with_reducible refine (impl_wordsOk.calls k1 _ _ (rd_L2 l0 x7_1) true _ ?side1 ?side2 A5.out).mono ?_); (case side1 => repeat (first | exact HR181_0.out | (with_reducible refine Kd.C_alloc ?_ _) | (with_reducible refine Kd.C_drewN ?_ _) | (with_reducible refine Kd.C_drew ?_))); (case side2 => exact HC181_0.out); rintro e w' ⟨rfl, ⟨nd, rfl⟩⟩; refine ⟨_, rfl, ?_⟩))
              go_roundg k1
              case measure => have := HK1.out; omega
              case rel => exact ⟨(wrap64 (x7_1 + 1)), (by first | rfl | (simp; done) | (simp [*]; done)), H', ⟨by have := HK1.out; omega⟩, by repeat (first | exact Drawn0.refl _ | apply Drawn0.step)⟩
            · replace c6 := Bool.eq_false_iff.mpr c6
              subst c6
              have H1 : (some false) = some r := by rw [if_neg (show ¬ (false = true) by decide)] at H; exact H
              clear H
              have H := H1
              clear H1
              obtain rfl := Option.some.inj H
              have p181 : 0 ≤ (x7_1 : Int) := of_decide_eq_true (by first | (with_reducible assumption) | assumption)
              have q181 : x7_1 < (l0.length : Int) := of_decide_eq_true (by first | (with_reducible assumption) | assumption)
              obtain ⟨ad181, A181_0, c181_0, e181, hx181_0, hl181_0, hi181_0⟩ := at_L2 HR0.out x7_1 p181 q181
              cases e181
              have HR181_0 := Aside0.mk hi181_0
              have HC181_0 := Aside0.mk hl181_0
              clear hi181_0 hl181_0
              replace p181 := eq_true p181
              replace q181 := eq_true q181
              go_wp2_with (first | ((with_reducible refine gate_callee (f := 37) rfl ?_); refine goesL_ (some 12) rfl rfl Try.func37 (by kernel_rfl) rfl #[.slice A181_0 (rd_L2 l0 x7_1).length c181_0] rfl (by (try simp only [List.map_toArray, List.map_cons, List.map_nil]); first | done | rfl | (simp only [List.length_drop, List.length_take]; rfl)) ?_; (with_reducible refine (impl_wordsOk.calls k1 _ _ (rd_L2 l0 x7_1) false _ ?side1 ?side2 A5.out).mono ?_); (case side1 => repeat (first | exact HR181_0.out | (with_reducible refine Kd.C_alloc ?_ _) | (with_reducible refine Kd.C_drewN ?_ _) | (with_reducible refine Kd.C_drew ?_))); (case side2 => exact HC181_0.out); rintro e w' ⟨rfl, ⟨nd, rfl⟩⟩; refine ⟨_, rfl, ?_⟩))
              go_ret
              exact ⟨by first | rfl | (simp; done) | (simp [*]; done), by repeat (first | exact Drawn0.refl _ | apply Drawn0.step)⟩
          · rw [if_neg c4] at H
            exact absurd H (by simp)
        · rw [if_neg c3] at H
          exact absurd H (by simp)
      · rw [if_neg c2] at H
        have c2b0 : decide (x7_1 < (l0.length : Int)) = false := decide_eq_false c2
        clear c2
        replace H := Option.bind_eq_some_iff.mp H
        obtain ⟨t183, A70, H⟩ := H
        replace H : (some t183) = some r := H
        have A7 := Aside0.mk A70
        clear A70
        obtain rfl := Option.some.inj H
        go_wp2_with (first | ((with_reducible refine gate_callee (f := 38) rfl ?_); refine goesL_ (some 17) rfl rfl Try.func38 (by kernel_rfl) rfl #[.int .i64 (l0.length : Int)] rfl (by (try simp only [List.map_toArray, List.map_cons, List.map_nil]); first | done | rfl | (simp only [List.length_drop, List.length_take]; rfl)) ?_; (with_reducible refine (impl_isSize.calls (l0.length : Int) t183 _ A7.out).mono ?_); rintro e w' ⟨rfl, ⟨nd, rfl⟩⟩; refine ⟨_, rfl, ?_⟩))
        go_ret
        exact ⟨by first | rfl | (simp; done) | (simp [*]; done), by repeat (first | exact Drawn0.refl _ | apply Drawn0.step)⟩
end Go.Proofs.Ytngonhgghncdiaa.P
end
section
namespace Go.Proofs.Ytngonhgghncdiaa.P
open Go.Proofs.Ytngonhgghncdiaa.Up Go.Proofs.Ytngonhgghncdiaa
open Go.RowKit Go.Proofs.YtngonhgghncdiaaW.PrintWords Go.Proofs.YtngonhgghncdiaaW.PrintLast Go.Proofs.YtngonhgghncdiaaW.PrintMore
attribute [local go_sem] max2_int min2_int max_two min_two max_three min_three max_four min_four
set_option linter.unusedVariables false
set_option linter.unusedSimpArgs false
structure MB (w0 W : World) (g : Nat) (A : Nat → Option Addr) (c : Nat → Nat) (l0 : List (List Int)) (l1 : List Int) (l2 : List S124) (l3 : List S131) (l4 : List S134) (l6 : List S79) (l7 : List S138) (l8 : List Int) (l9 : List Int) (x : Int) : Prop where
  blk : W.heap[g]? = some (.cells #[.slice (A 0) l0.length (c 0), .slice (A 1) l1.length (c 1), .slice (A 2) l2.length (c 2), .slice (A 3) l3.length (c 3), .slice (A 4) l4.length (c 4), .int .i64 x, .slice (A 6) l6.length (c 6), .slice (A 7) l7.length (c 7), .slice (A 8) l8.length (c 8), .slice (A 9) l9.length (c 9)] 41 (0, 0))
  ge : w0.heap.size ≤ g
  base : Below w0.heap.size w0 W
  r0 : Kd.C (Kd.slice 3 (Kd.int .i64)) w0 (A 0) l0.length l0
  k0 : l0.length ≤ c 0
  r1 : Kd.C (Kd.int .i64) w0 (A 1) l1.length l1
  k1 : l1.length ≤ c 1
  r2 : Kd.C k124 w0 (A 2) l2.length l2
  k2 : l2.length ≤ c 2
  r3 : Kd.C k131 w0 (A 3) l3.length l3
  k3 : l3.length ≤ c 3
  r4 : Kd.C k134 w0 (A 4) l4.length l4
  k4 : l4.length ≤ c 4
  r6 : Kd.C k79 w0 (A 6) l6.length l6
  k6 : l6.length ≤ c 6
  r7 : Kd.C k138 w0 (A 7) l7.length l7
  k7 : l7.length ≤ c 7
  r8 : Kd.C (Kd.int .i64) w0 (A 8) l8.length l8
  k8 : l8.length ≤ c 8
  r9 : Kd.C (Kd.int .i64) w0 (A 9) l9.length l9
  k9 : l9.length ≤ c 9
section
variable {w0 W W' : World} {g : Nat} {A : Nat → Option Addr} {c : Nat → Nat} {l0 : List (List Int)} {l1 : List Int} {l2 : List S124} {l3 : List S131} {l4 : List S134} {l6 : List S79} {l7 : List S138} {l8 : List Int} {l9 : List Int} {x : Int}
theorem MB.below (h : MB w0 W g A c l0 l1 l2 l3 l4 l6 l7 l8 l9 x) (hb : Below W.heap.size W W') : MB w0 W' g A c l0 l1 l2 l3 l4 l6 l7 l8 l9 x := ⟨blk_below h.blk hb, h.ge, below_step h.base hb, h.r0, h.k0, h.r1, h.k1, h.r2, h.k2, h.r3, h.k3, h.r4, h.k4, h.r6, h.k6, h.r7, h.k7, h.r8, h.k8, h.r9, h.k9⟩
theorem gM_ (h : Aside0 (MB w0 W g A c l0 l1 l2 l3 l4 l6 l7 l8 l9 x)) [i : Upw W W'] : MB w0 W' g A c l0 l1 l2 l3 l4 l6 l7 l8 l9 x := h.out.below i.below
theorem MB.c0 (h : MB w0 W g A c l0 l1 l2 l3 l4 l6 l7 l8 l9 x) : Kd.C (Kd.slice 3 (Kd.int .i64)) W (A 0) l0.length l0 := Kd.C_below h.r0 h.base
theorem MB.c1 (h : MB w0 W g A c l0 l1 l2 l3 l4 l6 l7 l8 l9 x) : Kd.C (Kd.int .i64) W (A 1) l1.length l1 := Kd.C_below h.r1 h.base
theorem MB.c2 (h : MB w0 W g A c l0 l1 l2 l3 l4 l6 l7 l8 l9 x) : Kd.C k124 W (A 2) l2.length l2 := Kd.C_below h.r2 h.base
theorem MB.c3 (h : MB w0 W g A c l0 l1 l2 l3 l4 l6 l7 l8 l9 x) : Kd.C k131 W (A 3) l3.length l3 := Kd.C_below h.r3 h.base
theorem MB.c4 (h : MB w0 W g A c l0 l1 l2 l3 l4 l6 l7 l8 l9 x) : Kd.C k134 W (A 4) l4.length l4 := Kd.C_below h.r4 h.base
theorem MB.c6 (h : MB w0 W g A c l0 l1 l2 l3 l4 l6 l7 l8 l9 x) : Kd.C k79 W (A 6) l6.length l6 := Kd.C_below h.r6 h.base
theorem MB.c7 (h : MB w0 W g A c l0 l1 l2 l3 l4 l6 l7 l8 l9 x) : Kd.C k138 W (A 7) l7.length l7 := Kd.C_below h.r7 h.base
theorem MB.c8 (h : MB w0 W g A c l0 l1 l2 l3 l4 l6 l7 l8 l9 x) : Kd.C (Kd.int .i64) W (A 8) l8.length l8 := Kd.C_below h.r8 h.base
theorem MB.c9 (h : MB w0 W g A c l0 l1 l2 l3 l4 l6 l7 l8 l9 x) : Kd.C (Kd.int .i64) W (A 9) l9.length l9 := Kd.C_below h.r9 h.base
theorem MB.isS (h : MB w0 W g A c l0 l1 l2 l3 l4 l6 l7 l8 l9 x) : IsS41 w0 W g l0 l1 l2 l3 l4 x l6 l7 l8 l9 := ⟨A 0, c 0, A 1, c 1, A 2, c 2, A 3, c 3, A 4, c 4, A 6, c 6, A 7, c 7, A 8, c 8, A 9, c 9, h.blk, h.ge, h.r0, h.r1, h.r2, h.r3, h.r4, h.r6, h.r7, h.r8, h.r9⟩
theorem gB_ {w : World} (h : Aside0 (Below w.heap.size w W)) [i : Upw W W'] : Below w.heap.size w W' := below_step h.out i.below
end
set_option maxHeartbeats 8000000 in
set_option maxRecDepth 100000 in
theorem framesIn_calls (k : Nat) (g : Nat) (s0_0 : List (List Int)) (s0_1 : List Int) (s0_2 : List (S124)) (s0_3 : List (S131)) (s0_4 : List (S134)) (s0_5 : Int) (s0_6 : List (S79)) (s0_7 : List (S138)) (s0_8 : List Int) (s0_9 : List Int) (a1 : Int) (r1 : List Int) (r2 : Int) (w0 w : World) (hI : IsS41 w0 w g s0_0 s0_1 s0_2 s0_3 s0_4 s0_5 s0_6 s0_7 s0_8 s0_9) (hB : Below w0.heap.size w0 w) (h : impl_Machine_framesIn.f k s0_0 s0_1 s0_2 s0_3 s0_4 s0_5 s0_6 s0_7 s0_8 s0_9 a1 = some (r1, r2)) :
    Calls Try.prog 91 #[.pointer (some ⟨g, 0, none⟩), .int .i64 a1] w fun e w' => ∃ v0_ : Value, e = .returned (v0_) ∧ Kd.R (Kd.int .i64) 3 w' w.heap.size (fun _ => True) v0_ r1 ∧ IsS41 w0 w' g s0_0 s0_1 s0_2 s0_3 s0_4 r2 s0_6 s0_7 s0_8 s0_9 ∧ Below w0.heap.size w0 w' ∧ Below w.heap.size w w' := by
  have HI0 := Aside0.mk hI
  have HK := Aside0.mk (Below.refl w.heap.size w)
  have HL := Aside0.mk hB.size
  clear hI
  have HW0 := Aside0.mk hB.size
  have HB := Aside0.mk hB
  clear hB
  have H : (impl_Machine_framesIn.l0 k a1 (([] : List Int)) s0_1 (s0_1.length : Int) 0 s0_0 s0_1 s0_2 s0_3 s0_4 s0_5 s0_6 s0_7 s0_8 s0_9) = some (r1, r2) := h
  clear h
  obtain ⟨y969, hy969⟩ : ∃ y_ : List Int, y_ = (([] : List Int)) := ⟨_, rfl⟩
  replace H : (impl_Machine_framesIn.l0 k a1 y969 s0_1 (s0_1.length : Int) 0 s0_0 s0_1 s0_2 s0_3 s0_4 s0_5 s0_6 s0_7 s0_8 s0_9) = some (r1, r2) := by first | (rw [hy969]; with_reducible exact H) | (have H2_ := (Option.bind_some _ _).symm.trans H; rw [hy969]; with_reducible exact H2_) | (have H2_ := (Option.bind_some _ _).symm.trans H; with_reducible exact H2_) | with_reducible exact H | (rw [hy969]; exact H) | exact H
  have Ny969 := Aside0.mk hy969
  clear hy969
  have H' := Aside0.mk H
  clear H
  go_enter Try.func91, Try.ntmps91
  go_wp2_with (first | ((with_reducible refine gate_dst (N := 8) rfl ?_); refine Kd.R_lit (Kd.int .i64) _ 3 ?hg (N := 8) ?hd (xs := ([] : List Int)) (inner := []) (ok := fun _ => True) (okp := fun _ => True) ?hr ?hp (fun _ hk => hk) trivial (Below.refl _ _) (Nat.le_refl _) (by simp) ?_; (case hd => rfl); (case hg => rfl); (case hr => first | (go_simp; done) | (go_simp; rfl)); (case hp => exact (Reps.none _ _)); intro v970 w3 ho4 hb hg_ hnew_; clear hg_ hnew_; (first | rw [← Ny969.out] at ho4 | (simp only [Int.reduceToNat] at ho4; rw [← Ny969.out] at ho4)); have n0_ := Aside0.mk (Kd.R_lower ho4 (below_size (by repeat (first | (with_reducible first | exact HK.out | apply below_alloc | apply pw_below_drewN | apply below_drew1) | exact HK.out)))); have n1_ := Aside0.mk (IsS41.below (by repeat (first | (with_reducible first | exact HI0.out | apply IsS41.alloc | apply IsS41.drewN | apply IsS41.drew | apply IsS41.set_5) | exact HI0.out)) hb); have n2_ := Aside0.mk (below_step (by repeat (first | (with_reducible first | exact HK.out | apply below_alloc | apply pw_below_drewN | apply below_drew1) | exact HK.out)) hb); have n3_ := Aside0.mk (below_step (by repeat (first | (with_reducible first | exact HB.out | apply below_alloc | apply pw_below_drewN | apply below_drew1 | refine below_set ?_ (IsS41.ge HI0.out)) | exact HB.out)) hb); clear HI0; clear HK; clear HB; have HO971 := n0_; have HI0 := n1_; have HK := n2_; have HB := n3_; clear n0_ n1_ n2_ n3_; clear hb ho4; obtain ⟨ASz5_0, cSz5_0, ASz5_1, cSz5_1, ASz5_2, cSz5_2, ASz5_3, cSz5_3, ASz5_4, cSz5_4, ASz5_6, cSz5_6, ASz5_7, cSz5_7, ASz5_8, cSz5_8, ASz5_9, cSz5_9, HGz5, hgz5, HSz5_0, HSz5_1, HSz5_2, HSz5_3, HSz5_4, HSz5_6, HSz5_7, HSz5_8, HSz5_9⟩ := HI0.out; have hcz5_0 := cellS41_0 HGz5; have hcz5_1 := cellS41_1 HGz5; have hcz5_2 := cellS41_2 HGz5; have hcz5_3 := cellS41_3 HGz5; have hcz5_4 := cellS41_4 HGz5; have hcz5_5 := cellS41_5 HGz5; have hcz5_6 := cellS41_6 HGz5; have hcz5_7 := cellS41_7 HGz5; have hcz5_8 := cellS41_8 HGz5; have hcz5_9 := cellS41_9 HGz5; have hfz5_5 := blk_frozen HGz5 5; clear HGz5 hgz5))
  go_loopg [5, 14] k (fun kq v5 v14 w' => ∃ (x5_1 : List Int) (x14_1 : Int), v14 = .int .i64 x14_1 ∧ Aside0 (impl_Machine_framesIn.l0 kq a1 x5_1 s0_1 (s0_1.length : Int) x14_1 s0_0 s0_1 s0_2 s0_3 s0_4 s0_5 s0_6 s0_7 s0_8 s0_9 = some (r1, r2)) ∧ Aside0 (kq ≤ k) ∧ Aside0 (Kd.R (Kd.int .i64) 3 w' w.heap.size (fun _ => True) v5 x5_1) ∧ Aside0 (IsS41 w0 w' g s0_0 s0_1 s0_2 s0_3 s0_4 s0_5 s0_6 s0_7 s0_8 s0_9) ∧ Aside0 (Below w.heap.size w w') ∧ Aside0 (Below w0.heap.size w0 w'))
  case atStart => exact ⟨(y969), (0), (by first | rfl | (simp; done) | (simp [*]; done)), H', ⟨Nat.le_refl _⟩, ⟨by (with_reducible repeat (first | apply Kd.R_alloc | apply Kd.R_drewN | apply Kd.R_drew)); exact HO971.out⟩, ⟨by repeat (first | (with_reducible first | exact HI0.out | apply IsS41.alloc | apply IsS41.drewN | apply IsS41.drew | apply IsS41.set_5) | exact HI0.out)⟩, ⟨by repeat (first | (with_reducible first | exact HK.out | apply below_alloc | apply pw_below_drewN | apply below_drew1) | exact HK.out)⟩, ⟨by repeat (first | (with_reducible first | exact HB.out | apply below_alloc | apply pw_below_drewN | apply below_drew1 | refine below_set ?_ (IsS41.ge HI0.out)) | exact HB.out)⟩⟩
  case round =>
    clear H'
    try clear p2
    try clear hcz5_0
    try clear hcz5_1
    try clear hcz5_2
    try clear hcz5_3
    try clear hcz5_4
    try clear hcz5_5
    try clear hcz5_6
    try clear hcz5_7
    try clear hcz5_8
    try clear hcz5_9
    try clear hfz5_5
    obtain ⟨x5_1, x14_1, rfl, HA, HK1, HO_5, HI0, HK, HB⟩ := hrel
    cases gk with
    | zero => exact absurd HA.out (by simp [impl_Machine_framesIn.l0])
    | succ k1 =>
      have H := HA.out
      clear HA
      simp only [impl_Machine_framesIn.l0] at H
      by_cases c6 : x14_1 < (s0_1.length : Int)
      · rw [if_pos c6] at H
        have c6b0 : decide (x14_1 < (s0_1.length : Int)) = true := decide_eq_true c6
        clear c6
        by_cases c7 : 0 ≤ x14_1
        · rw [if_pos c7] at H
          have c7b0 : decide (0 ≤ x14_1) = true := decide_eq_true c7
          clear c7
          by_cases c8 : x14_1 < (s0_1.length : Int)
          · rw [if_pos c8] at H
            have c8b0 : decide (x14_1 < (s0_1.length : Int)) = true := decide_eq_true c8
            clear c8
            by_cases c9 : (rd s0_1 x14_1) = a1
            · rw [if_pos c9] at H
              have c9b0 : ((rd s0_1 x14_1) == a1) = true := beq_iff_eq.mpr c9
              have c9b1 : ((rd s0_1 x14_1) != a1) = false := bne_eq_false_iff_eq.mpr c9
              clear c9
              by_cases c10 : x5_1.length < 17592186044416
              · rw [if_pos c10] at H
                have LMc10 := Aside0.mk c10
                clear c10
                obtain ⟨y973, hy973⟩ : ∃ y_ : List Int, y_ = (x5_1 ++ [x14_1]) := ⟨_, rfl⟩
                replace H : (impl_Machine_framesIn.l0 k1 a1 y973 s0_1 (s0_1.length : Int) (wrap64 (x14_1 + 1)) s0_0 s0_1 s0_2 s0_3 s0_4 s0_5 s0_6 s0_7 s0_8 s0_9) = some (r1, r2) := by first | (rw [hy973]; with_reducible exact H) | (have H2_ := (Option.bind_some _ _).symm.trans H; rw [hy973]; with_reducible exact H2_) | (have H2_ := (Option.bind_some _ _).symm.trans H; with_reducible exact H2_) | with_reducible exact H | (rw [hy973]; exact H) | exact H
                have Ny973 := Aside0.mk hy973
                clear hy973
                have H' := Aside0.mk H
                clear H
                obtain ⟨ASz11_0, cSz11_0, ASz11_1, cSz11_1, ASz11_2, cSz11_2, ASz11_3, cSz11_3, ASz11_4, cSz11_4, ASz11_6, cSz11_6, ASz11_7, cSz11_7, ASz11_8, cSz11_8, ASz11_9, cSz11_9, HGz11, hgz11, HSz11_0, HSz11_1, HSz11_2, HSz11_3, HSz11_4, HSz11_6, HSz11_7, HSz11_8, HSz11_9⟩ := HI0.out
                have hcz11_0 := cellS41_0 HGz11
                have hcz11_1 := cellS41_1 HGz11
                have hcz11_2 := cellS41_2 HGz11
                have hcz11_3 := cellS41_3 HGz11
                have hcz11_4 := cellS41_4 HGz11
                have hcz11_5 := cellS41_5 HGz11
                have hcz11_6 := cellS41_6 HGz11
                have hcz11_7 := cellS41_7 HGz11
                have hcz11_8 := cellS41_8 HGz11
                have hcz11_9 := cellS41_9 HGz11
                have hfz11_5 := blk_frozen HGz11 5
                clear HGz11 hgz11
                have p972 : 0 ≤ (x14_1 : Int) := of_decide_eq_true (by first | (with_reducible assumption) | assumption)
                have q972 : x14_1 < (s0_1.length : Int) := of_decide_eq_true (by first | (with_reducible assumption) | assumption)
                obtain ⟨ad972, e972, hx972_0⟩ := Kd.at_int HSz5_1 x14_1 p972 q972
                cases e972
                replace hx972_0 := pw_cell_below HB.out hx972_0
                replace p972 := eq_true p972
                replace q972 := eq_true q972
                go_wp2_with (first | ((with_reducible refine gate_builtin (b := .append) (xs := #[.tmp 22, .tmp 24]) rfl ?_); at_builtin; refine Kd.R_append (Kd.int .i64) w.heap.size rfl (.tmp 22) (.tmp 24) 26 3 (.int .i64 0) 8 rfl Try.underlying26 info3 rfl (by decide) (by omega) u5 x5_1 x14_1 [.int .i64 x14_1] (fun _ => True) (fun _ => False) rfl rfl ?aP (fun _ hk => hk.elim) ?aF ?aO (Below.refl _ _) ?aS ?aL ?_; (case aP => exact rfl); (case aF => exact (fun _ _ => trivial)); (case aO => exact (by (with_reducible repeat (first | apply Kd.R_alloc | apply Kd.R_drewN | apply Kd.R_drew)); exact HO_5.out)); (case aS => exact (below_size (by repeat (first | (with_reducible first | exact HK.out | apply below_alloc | apply pw_below_drewN | apply below_drew1) | exact HK.out)))); (case aL => have := LMc10.out; omega); intro v974 w12 ho hb hg hat; rw [← Ny973.out] at ho; have n0_ := Aside0.mk (IsS41.grown (by repeat (first | (with_reducible first | exact HI0.out | apply IsS41.alloc | apply IsS41.drewN | apply IsS41.drew | apply IsS41.set_5) | exact HI0.out)) hg (IsS41.own_ne HI0.out HO_5.out (by decide))); have n1_ := Aside0.mk (below_weaken (by repeat (first | (with_reducible first | exact HB.out | apply below_alloc | apply pw_below_drewN | apply below_drew1 | refine below_set ?_ (IsS41.ge HI0.out)) | exact HB.out)) HL.out hb); have n2_ := Aside0.mk ((by repeat (first | (with_reducible first | exact HK.out | apply below_alloc | apply pw_below_drewN | apply below_drew1) | exact HK.out) : Below w.heap.size w _).trans hb); have n3_ := Aside0.mk (ho); clear HI0; clear HB; clear HK; clear HO_5; have HI0 := n0_; have HB := n1_; have HK := n2_; have HO975 := n3_; clear n0_ n1_ n2_ n3_; clear ho hb hg hat))
                go_roundg k1
                case measure => have := HK1.out; omega
                case rel => exact ⟨(y973), (wrap64 (x14_1 + 1)), (by first | rfl | (simp; done) | (simp [*]; done)), H', ⟨by have := HK1.out; omega⟩, ⟨by (with_reducible repeat (first | apply Kd.R_alloc | apply Kd.R_drewN | apply Kd.R_drew)); exact HO975.out⟩, ⟨by repeat (first | (with_reducible first | exact HI0.out | apply IsS41.alloc | apply IsS41.drewN | apply IsS41.drew | apply IsS41.set_5) | exact HI0.out)⟩, ⟨by repeat (first | (with_reducible first | exact HK.out | apply below_alloc | apply pw_below_drewN | apply below_drew1) | exact HK.out)⟩, ⟨by repeat (first | (with_reducible first | exact HB.out | apply below_alloc | apply pw_below_drewN | apply below_drew1 | refine below_set ?_ (IsS41.ge HI0.out)) | exact HB.out)⟩⟩
              · rw [if_neg c10] at H
                exact absurd H (by simp)
            · rw [if_neg c9] at H
              have c9b0 : ((rd s0_1 x14_1) == a1) = false := beq_eq_false_iff_ne.mpr c9
              have c9b1 : ((rd s0_1 x14_1) != a1) = true := bne_iff_ne.mpr c9
              have H' := Aside0.mk H
              clear H
              obtain ⟨ASz13_0, cSz13_0, ASz13_1, cSz13_1, ASz13_2, cSz13_2, ASz13_3, cSz13_3, ASz13_4, cSz13_4, ASz13_6, cSz13_6, ASz13_7, cSz13_7, ASz13_8, cSz13_8, ASz13_9, cSz13_9, HGz13, hgz13, HSz13_0, HSz13_1, HSz13_2, HSz13_3, HSz13_4, HSz13_6, HSz13_7, HSz13_8, HSz13_9⟩ := HI0.out
              have hcz13_0 := cellS41_0 HGz13
              have hcz13_1 := cellS41_1 HGz13
              have hcz13_2 := cellS41_2 HGz13
              have hcz13_3 := cellS41_3 HGz13
              have hcz13_4 := cellS41_4 HGz13
              have hcz13_5 := cellS41_5 HGz13
              have hcz13_6 := cellS41_6 HGz13
              have hcz13_7 := cellS41_7 HGz13
              have hcz13_8 := cellS41_8 HGz13
              have hcz13_9 := cellS41_9 HGz13
              have hfz13_5 := blk_frozen HGz13 5
              clear HGz13 hgz13
              have p972 : 0 ≤ (x14_1 : Int) := of_decide_eq_true (by first | (with_reducible assumption) | assumption)
              have q972 : x14_1 < (s0_1.length : Int) := of_decide_eq_true (by first | (with_reducible assumption) | assumption)
              obtain ⟨ad972, e972, hx972_0⟩ := Kd.at_int HSz5_1 x14_1 p972 q972
              cases e972
              replace hx972_0 := pw_cell_below HB.out hx972_0
              replace p972 := eq_true p972
              replace q972 := eq_true q972
              go_wp2
              go_roundg k1
              case measure => have := HK1.out; omega
              case rel => exact ⟨(x5_1), (wrap64 (x14_1 + 1)), (by first | rfl | (simp; done) | (simp [*]; done)), H', ⟨by have := HK1.out; omega⟩, ⟨by (with_reducible repeat (first | apply Kd.R_alloc | apply Kd.R_drewN | apply Kd.R_drew)); exact HO_5.out⟩, ⟨by repeat (first | (with_reducible first | exact HI0.out | apply IsS41.alloc | apply IsS41.drewN | apply IsS41.drew | apply IsS41.set_5) | exact HI0.out)⟩, ⟨by repeat (first | (with_reducible first | exact HK.out | apply below_alloc | apply pw_below_drewN | apply below_drew1) | exact HK.out)⟩, ⟨by repeat (first | (with_reducible first | exact HB.out | apply below_alloc | apply pw_below_drewN | apply below_drew1 | refine below_set ?_ (IsS41.ge HI0.out)) | exact HB.out)⟩⟩
          · rw [if_neg c8] at H
            exact absurd H (by simp)
        · rw [if_neg c7] at H
          exact absurd H (by simp)
      · rw [if_neg c6] at H
        have c6b0 : decide (x14_1 < (s0_1.length : Int)) = false := decide_eq_false c6
        clear c6
        simp only [Option.some.injEq, Prod.mk.injEq] at H
        obtain ⟨rfl, rfl⟩ := H
        go_wp2
        go_ret
        exact ⟨_, by first | rfl | (simp [errW_none, errW_some] <;> rfl) | (simp [*, errW_none, errW_some] <;> rfl), by (with_reducible repeat (first | apply Kd.R_alloc | apply Kd.R_drewN | apply Kd.R_drew)); exact HO_5.out, by repeat (first | (with_reducible first | exact HI0.out | apply IsS41.alloc | apply IsS41.drewN | apply IsS41.drew | apply IsS41.set_5) | exact HI0.out), by repeat (first | (with_reducible first | exact HB.out | apply below_alloc | apply pw_below_drewN | apply below_drew1 | refine below_set ?_ (IsS41.ge HI0.out)) | exact HB.out), by repeat (first | (with_reducible first | exact HK.out | apply below_alloc | apply pw_below_drewN | apply below_drew1) | exact HK.out)⟩
theorem ints_of_C {w : World} {A : Option Addr} {c : Nat} {l : List Int} (h : Kd.C (Kd.int .i64) w A l.length l) : Seq.Ggi.Ints w.heap.size w (.slice A l.length c) l := by
  by_cases hl : l = []
  · subst hl; exact .inl ⟨A, c, rfl, rfl⟩
  · have hp : 0 < l.length := List.length_pos_iff.2 hl
    have hr := Kd.reads_of_C (enc := Value.int .i64) (d := (0 : Int)) (h1 := fun _ => rfl) h
    obtain ⟨ad, rfl, hc⟩ := hr.2.2 hp
    have h0 := hc 0 hp
    obtain ⟨b, off, sp⟩ := ad
    have hsp : sp = none := by
      cases sp with
      | none => rfl
      | some s =>
        exfalso
        simp only [Addr.add, if_true] at h0
        unfold World.cell? at h0
        split at h0
        · simp at h0
        · cases h0
    subst hsp
    refine .inr ⟨b, off, c, rfl, World.block_lt_of_cell? w _ (by simpa [Addr.add] using h0), fun j hj => ?_⟩
    have := hc j hj
    rw [List.getD_eq_getElem?_getD] at this
    unfold Addr.add at this
    by_cases hj0 : j = 0
    · subst hj0; simpa using this
    · rw [if_neg hj0] at this; exact this
theorem values_calls' (A : Option Addr) (n c : Nat) (w : World) : Calls Try.prog 154 #[.slice A n c] w fun e w' => ∃ Bs, e = .returned (.func (.func 179) #[] #[.pointer (some ⟨Bs, 0, none⟩)]) ∧ w'.heap[Bs]? = some (.cells #[.slice A n c] 26 (0, 0)) ∧ w.heap.size ≤ Bs ∧ Below w.heap.size w w' := by
  refine (Seq.values_calls A n c w).mono ?_
  rintro e w' ⟨rfl, rfl⟩
  exact ⟨_, rfl, blk_new w _, Nat.le_refl _, below_alloc (Below.refl _ _) _⟩
theorem sorted_calls' (Bs : Nat) (A : Option Addr) (c : Nat) (zs ss : List Int) (hss : (zs.mergeSort fun x y => decide (x ≤ y)) = ss) (hlen : zs.length ≤ 1000000) (w : World) (hb : w.heap[Bs]? = some (.cells #[.slice A zs.length c] 26 (0, 0))) (hC : Kd.C (Kd.int .i64) w A zs.length zs) :
    Calls Try.prog 153 #[.func (.func 179) #[] #[.pointer (some ⟨Bs, 0, none⟩)]] w fun e w' => ∃ v, e = .returned v ∧ Kd.R (Kd.int .i64) 3 w' w.heap.size (fun _ => True) v ss ∧ Below w.heap.size w w' := by
  subst hss
  refine (Seq.sorted_calls Bs w.heap.size _ zs (by unfold maxLen; omega) (by omega) w (blk_lt hb) (Nat.le_refl _) ((blk_cell hb 0).trans rfl) (ints_of_C hC)).mono ?_
  rintro e w' ⟨v, rfl, ho, hb⟩
  refine ⟨v, rfl, Kd.R_of_own (enc := Value.int .i64) (h1 := fun _ => rfl) ?_ (fun _ _ => trivial), hb⟩
  rw [List.length_mergeSort]
  exact ho
set_option maxHeartbeats 4000000 in
set_option maxRecDepth 100000 in
theorem sameSet_calls (k g : Nat) (A : Nat → Option Addr) (c : Nat → Nat) (l0 : List (List Int)) (l1 : List Int) (l2 : List S124) (l3 : List S131) (l4 : List S134) (l6 : List S79) (l7 : List S138) (l8 : List Int) (l9 : List Int) (x : Int) (A1 : Option Addr) (c1 : Nat) (l : List Int) (a2 : Int) (ss fr : List Int) (hss : (l.mergeSort fun x y => decide (x ≤ y)) = ss) (w0 w : World) (HM : MB w0 w g A c l0 l1 l2 l3 l4 l6 l7 l8 l9 x) (hl : Kd.C (Kd.int .i64) w A1 l.length l) (hc1 : l.length ≤ c1) (hln : l.length ≤ 1000000)
    (f0 : impl_Machine_framesIn.f k l0 l1 l2 l3 l4 x l6 l7 l8 l9 a2 = some (fr, x)) (f1 : slices_Equal_int_int.f k ss fr = some true) :
    Calls Try.prog 124 #[.pointer (some ⟨g, 0, none⟩), .slice A1 l.length c1, .int .i64 a2] w fun e w' => e = .returned (.bool true) ∧ Below w.heap.size w w' := by
  have HM := Aside0.mk HM
  have HL := Aside0.mk hl
  have HB := Aside0.mk (Below.refl w.heap.size w)
  have F0 := Aside0.mk f0
  have F1 := Aside0.mk f1
  clear hl f0 f1
  go_enter Try.func124, Try.ntmps124
  go_wp2_with (first | ((with_reducible refine gate_callee (f := 154) rfl ?_); refine goesL_ (some 8) rfl rfl Try.func154 (by kernel_rfl) rfl #[.slice A1 l.length c1] rfl (by (try simp only [List.map_toArray, List.map_cons, List.map_nil]); first | done | rfl) ?_; (with_reducible refine (values_calls' A1 l.length c1 _).mono ?_); rintro e w1 ⟨Bs, rfl, hbk, hge, hb⟩; refine ⟨_, rfl, ?_⟩; replace HM := Aside0.mk ((gM_ HM).below hb); replace HL := Aside0.mk (Kd.C_below (Kd.C_below HL.out (Upw.below)) hb); replace HB := Aside0.mk (below_step (gB_ HB) hb); have BK := Aside0.mk hbk; clear hbk hge hb) | ((with_reducible refine gate_callee (f := 153) rfl ?_); refine goesL_ (some 9) rfl rfl Try.func153 (by kernel_rfl) rfl #[.func (.func 179) #[] #[.pointer (some ⟨Bs, 0, none⟩)]] rfl (by (try simp only [List.map_toArray, List.map_cons, List.map_nil]); first | done | rfl) ?_; (with_reducible refine (sorted_calls' Bs A1 c1 l ss hss hln _ (gK BK) (Kd.C_below HL.out (Upw.below))).mono ?_); rintro e w2 ⟨v, rfl, ho, hb⟩; refine ⟨_, rfl, ?_⟩; obtain ⟨A3, c3, rfl⟩ := Kd.R_slice ho; replace HM := Aside0.mk ((gM_ HM).below hb); replace HB := Aside0.mk (below_step (gB_ HB) hb); have HO := Aside0.mk ho; clear ho hb) | ((with_reducible refine gate_callee (f := 91) rfl ?_); refine goesL_ (some 13) rfl rfl Try.func91 (by kernel_rfl) rfl #[.pointer (some ⟨g, 0, none⟩), .int .i64 a2] rfl (by (try simp only [List.map_toArray, List.map_cons, List.map_nil]); first | done | rfl) ?_; (with_reducible refine (framesIn_calls k g l0 l1 l2 l3 l4 x l6 l7 l8 l9 a2 fr x w0 _ (gM_ HM).isS (gM_ HM).base F0.out).mono ?_); rintro e w3 ⟨v, rfl, ho, hi, hb0, hb⟩; refine ⟨_, rfl, ?_⟩; obtain ⟨A4, c4, rfl⟩ := Kd.R_slice ho; replace HM := Aside0.mk ((gM_ HM).below hb); replace HB := Aside0.mk (below_step (gB_ HB) hb); replace HO := Aside0.mk (Kd.R_below (gR HO) hb); have HF := Aside0.mk ho; clear ho hb hb0 hi) | ((with_reducible refine gate_callee (f := 121) rfl ?_); refine goesL_ (some 14) rfl rfl Try.func121 (by kernel_rfl) rfl #[.slice A3 ss.length c3, .slice A4 fr.length c4] rfl (by (try simp only [List.map_toArray, List.map_cons, List.map_nil]); first | done | rfl) ?_; (with_reducible refine (slices_Equal_int_int.calls k A3 c3 _ A4 c4 fr true _ (Kd.R_reads' HO.out).2.2 (Kd.R_reads' HO.out).2.1 (Kd.R_reads' HF.out).2.2 (Kd.R_reads' HF.out).2.1 F1.out).mono ?_); rintro e w4 ⟨rfl, hd⟩; have hb := Drawn0.below hd; refine ⟨_, rfl, ?_⟩; replace HB := Aside0.mk (below_step (gB_ HB) hb); clear hb hd))
  go_ret
  exact ⟨rfl, gB_ HB⟩
section
variable {P : Program} {ops : Array Oper} {o : Oper} {rest : List Oper} {a : Act} {Q : Exit → Act → World → Prop}
theorem slice_event {W : World} (hgd : o.guard = none) {N : Tmp} (_hd : o.dst = some N) {cs : Array Value} {t : TypeId} {n : Nat}
    (hrun : (execOp a.eval o).run P W = .ok (.value (.slice (some ⟨W.heap.size, 0, none⟩) n n)) (W.alloc (.cells cs t (0, 0))))
    (h : ∀ g, g = W.heap.size → ∀ w1, w1.heap[g]? = some (.cells cs t (0, 0)) → Below W.heap.size W w1 → wpList P ops Q rest (a.put o.dst (.slice (some ⟨g, 0, none⟩) n n)) w1) : wpList P ops Q (o :: rest) a W :=
  Kd.event_run hgd hrun (h _ rfl _ (blk_new W _) (below_alloc (Below.refl _ _) _))
end
theorem kd0 (w : World) (A : Option Addr) : Kd.C (Kd.int .i64) w A ([] : List Int).length [] := Kd.C_of_reads (enc := Value.int .i64) (d := (0 : Int)) (h1 := fun _ => rfl) ⟨rfl, by decide, fun h => absurd h (by decide)⟩
theorem kd01 {w : World} {b : Nat} (h : w.heap[b]? = some (.cells #[.int .i64 0, .int .i64 1] 3 (0, 0))) : Kd.C (Kd.int .i64) w (some ⟨b, 0, none⟩) ([0, 1] : List Int).length [0, 1] := by
  refine Kd.C_of_reads (enc := Value.int .i64) (d := (0 : Int)) (h1 := fun _ => rfl) ⟨rfl, by decide, fun _ => ⟨_, rfl, fun j hj => ?_⟩⟩
  have : j = 0 ∨ j = 1 := by have : j < 2 := hj; omega
  rcases this with rfl | rfl
  · exact (blk_cell h 0).trans rfl
  · exact (blk_cell h 1).trans rfl
set_option maxHeartbeats 8000000 in
set_option maxRecDepth 100000 in
theorem framesOk_calls (k g : Nat) (A : Nat → Option Addr) (c : Nat → Nat) (l0 : List (List Int)) (l1 : List Int) (l2 : List S124) (l3 : List S131) (l4 : List S134) (l6 : List S79) (l7 : List S138) (l8 : List Int) (l9 : List Int) (x : Int) (fo so f0s : List Int) (w0 w : World) (HM : MB w0 w g A c l0 l1 l2 l3 l4 l6 l7 l8 l9 x) (e1 : l1.length = l0.length) (e3 : l3 = [])
    (p0 : impl_MemoryOk.f k l0 = some true) (p1 : impl_Machine_framesIn.f k l0 l1 l2 l3 l4 x l6 l7 l8 l9 1 = some ([0, 1], x)) (p2 : slices_Equal_int_int.f k [0, 1] [0, 1] = some true) (p3 : impl_RunsOk.f k (l0.length : Int) l2 = some true) (p4 : impl_SlabsOk.f k l3 = some true)
    (p5 : impl_framesOf.f k l2 = some fo) (hfo : fo.length ≤ 1000000) (hso : (fo.mergeSort fun x y => decide (x ≤ y)) = so) (p6 : impl_Machine_framesIn.f k l0 l1 l2 l3 l4 x l6 l7 l8 l9 0 = some (f0s, x)) (p7 : slices_Equal_int_int.f k so f0s = some true)
    (p8 : impl_Machine_framesIn.f k l0 l1 l2 l3 l4 x l6 l7 l8 l9 2 = some ([], x)) (p9 : slices_Equal_int_int.f k [] [] = some true) :
    Calls Try.prog 87 #[.pointer (some ⟨g, 0, none⟩)] w fun e w' => e = .returned (.bool true) ∧ Below w.heap.size w w' := by
  have HM := Aside0.mk HM
  have HB := Aside0.mk (Below.refl w.heap.size w)
  have e1' : (l1.length : Int) = (l0.length : Int) := by rw [e1]
  have E3 := Aside0.mk e3
  clear e3
  go_enter Try.func87, Try.ntmps87
  go_upto_region 1 with (fail)
  go_cut [52] (fun v52 wc => v52 = .bool false ∧ Aside0 (MB w0 wc g A c l0 l1 l2 l3 l4 l6 l7 l8 l9 x) ∧ Aside0 (Below w.heap.size w wc))
  case first =>
    go_region_held3 (fun w' => w'.cell? ⟨g, 0, none⟩ = some (.slice (A 0) l0.length (c 0)) ∧ w'.cell? ⟨g, 1, none⟩ = some (.slice (A 1) l1.length (c 1)) ∧ w'.cell? ⟨g, 2, none⟩ = some (.slice (A 2) l2.length (c 2)) ∧ w'.cell? ⟨g, 3, none⟩ = some (.slice (A 3) l3.length (c 3))) (exact ⟨(blk_cell (gM_ HM).blk 0).trans rfl, (blk_cell (gM_ HM).blk 1).trans rfl, (blk_cell (gM_ HM).blk 2).trans rfl, (blk_cell (gM_ HM).blk 3).trans rfl⟩) (first | (go_at_call 14; with_reducible refine (impl_MemoryOk.calls k (A 0) (c 0) l0 true _ (gM_ HM).c0 HM.out.k0 p0).mono ?_; rintro e w1 ⟨rfl, hd⟩; have hb := Drawn0.below hd; replace HM := Aside0.mk ((gM_ HM).below hb); replace HB := Aside0.mk (below_step (gB_ HB) hb); clear hb hd) | (go_at_call 91; with_reducible refine (framesIn_calls k g l0 l1 l2 l3 l4 x l6 l7 l8 l9 1 [0, 1] x w0 _ (gM_ HM).isS (gM_ HM).base p1).mono ?_; rintro e w3 ⟨v, rfl, ho, hi, hb0, hb⟩; (try have BN := Aside0.mk (blk_below (blk_new _ _) hb)); replace HM := Aside0.mk ((gM_ HM).below hb); replace HB := Aside0.mk (below_step (gB_ HB) hb); obtain ⟨A4, c4, rfl⟩ := Kd.R_slice ho; have HF := Aside0.mk ho; clear ho hb hb0 hi) | (go_at_call 122; with_reducible refine (impl_RunsOk.calls k (l0.length : Int) (A 2) (c 2) l2 true _ (gM_ HM).c2 HM.out.k2 p3).mono ?_; rintro e w5 ⟨rfl, hb⟩; replace HM := Aside0.mk ((gM_ HM).below hb); replace HB := Aside0.mk (below_step (gB_ HB) hb); clear hb) | (go_at_call 123; with_reducible refine (impl_SlabsOk.calls k (A 3) (c 3) l3 true _ (gM_ HM).c3 HM.out.k3 p4).mono ?_; rintro e w6 ⟨rfl, hb⟩; replace HM := Aside0.mk ((gM_ HM).below hb); replace HB := Aside0.mk (below_step (gB_ HB) hb); clear hb) | (go_at_call 121; refine calls_of_args (args' := #[.slice A4 ([0, 1] : List Int).length c4, .slice _ ([0, 1] : List Int).length ([0, 1] : List Int).length]) (by rfl) ?_; (with_reducible refine (slices_Equal_int_int.calls k A4 c4 [0, 1] _ _ [0, 1] true _ (Kd.C_below (Kd.R_reads' HF.out).2.2 Upw.below) (Kd.R_reads' HF.out).2.1 (kd01 (blk_new w3 _)) (Nat.le_refl _) p2).mono ?_); rintro e w4 ⟨rfl, hd⟩; have hb := Drawn0.below hd; replace HM := Aside0.mk ((gM_ HM).below hb); replace HB := Aside0.mk (below_step (gB_ HB) hb); clear hb hd) | (go_at_call 121; refine calls_of_args (args' := #[.slice A4 ([0, 1] : List Int).length c4, .slice _ ([0, 1] : List Int).length ([0, 1] : List Int).length]) (by rfl) ?_; (with_reducible refine (slices_Equal_int_int.calls k A4 c4 [0, 1] _ _ [0, 1] true _ (Kd.C_below (Kd.R_reads' HF.out).2.2 Upw.below) (Kd.R_reads' HF.out).2.1 (kd01 BN.out) (Nat.le_refl _) p2).mono ?_); rintro e w4 ⟨rfl, hd⟩; have hb := Drawn0.below hd; replace HM := Aside0.mk ((gM_ HM).below hb); replace HB := Aside0.mk (below_step (gB_ HB) hb); clear hb hd))
    all_goals go_wp2
    all_goals go_meet
    all_goals exact ⟨rfl, ⟨gM_ HM⟩, ⟨gB_ HB⟩⟩
  case rest =>
    obtain ⟨rfl, HM, HB⟩ := hcut
    have e3 := E3.out
    clear E3
    subst e3
    clear p0 p1 p2 p3 p4
    go_wp2_with (first | ((with_reducible refine gate_dst (N := 53) rfl ?_); refine slice_event ?hg (N := 53) ?hd (cs := #[]) (t := 3) (n := 0) ?hr ?_; (case hd => rfl); (case hg => rfl); (case hr => first | (go_simp; done) | (go_simp; rfl)); intro bs hbz w_ hbk hb; replace HM := Aside0.mk ((gM_ HM).below hb); replace HB := Aside0.mk (below_step (gB_ HB) hb); clear hbz hbk hb; have hq3 := (blk_cell HM.out.blk 3).trans rfl))
    go_loopg [3, 59] 0 (fun kq v3 v59 w' => v3 = .slice (some ⟨bs, 0, none⟩) 0 0 ∧ v59 = .int .i64 0 ∧ Aside0 (MB w0 w' g A c l0 l1 l2 [] l4 l6 l7 l8 l9 x) ∧ Aside0 (Below w.heap.size w w'))
    case atStart => exact ⟨rfl, rfl, ⟨gM_ HM⟩, ⟨gB_ HB⟩⟩
    case round =>
      clear HM HB
      obtain ⟨rfl, rfl, HM, HB⟩ := hrel
      have hq2 := (blk_cell HM.out.blk 2).trans rfl
      go_wp2_with (first | ((with_reducible refine gate_callee (f := 125) rfl ?_); refine goesL_ (some 74) rfl rfl Try.func125 (by kernel_rfl) rfl #[.slice (A 2) l2.length (c 2)] rfl (by (try simp only [List.map_toArray, List.map_cons, List.map_nil]); first | done | rfl) ?_; (with_reducible refine (impl_framesOf.calls k (A 2) (c 2) l2 fo _ (gM_ HM).c2 HM.out.k2 p5).mono ?_); rintro e w1 ⟨v, rfl, ho, hb⟩; refine ⟨_, rfl, ?_⟩; replace HM := Aside0.mk ((gM_ HM).below hb); replace HB := Aside0.mk (below_step (gB_ HB) hb); obtain ⟨A5, c5, rfl⟩ := Kd.R_slice ho; have HF := Aside0.mk ho; clear ho hb) | ((with_reducible refine gate_callee (f := 124) rfl ?_); refine goesL_ (some 75) rfl rfl Try.func124 (by kernel_rfl) rfl #[.pointer (some ⟨g, 0, none⟩), .slice A5 fo.length c5, .int .i64 0] rfl (by (try simp only [List.map_toArray, List.map_cons, List.map_nil]); first | done | rfl) ?_; (with_reducible refine (sameSet_calls k g A c l0 l1 l2 [] l4 l6 l7 l8 l9 x A5 c5 fo 0 so f0s hso w0 _ (gM_ HM) (Kd.C_below (Kd.R_reads' HF.out).2.2 Upw.below) (Kd.R_reads' HF.out).2.1 hfo p6 p7).mono ?_); rintro e w2 ⟨rfl, hb⟩; refine ⟨_, rfl, ?_⟩; replace HM := Aside0.mk ((gM_ HM).below hb); replace HB := Aside0.mk (below_step (gB_ HB) hb); clear hb) | (go_at_call 124; refine calls_of_args (args' := #[.pointer (some ⟨g, 0, none⟩), .slice (some ⟨bs, 0, none⟩) ([] : List Int).length 0, .int .i64 2]) (by rfl) ?_; (with_reducible refine (sameSet_calls k g A c l0 l1 l2 [] l4 l6 l7 l8 l9 x (some ⟨bs, 0, none⟩) 0 [] 2 [] [] List.mergeSort_nil w0 _ (gM_ HM) (kd0 _ _) (Nat.le_refl _) (by decide) p8 p9).mono ?_); rintro e w3 ⟨rfl, hb⟩; replace HM := Aside0.mk ((gM_ HM).below hb); replace HB := Aside0.mk (below_step (gB_ HB) hb); clear hb))
      go_ret
      exact ⟨rfl, gB_ HB⟩
end Go.Proofs.Ytngonhgghncdiaa.P
end
section
namespace Go.Proofs.Ytngonhgghncdiaa.P
open Go.Proofs.Ytngonhgghncdiaa.Up Go.Proofs.Ytngonhgghncdiaa
open Go.RowKit Go.Proofs.YtngonhgghncdiaaW.PrintWords Go.Proofs.YtngonhgghncdiaaW.PrintLast Go.Proofs.YtngonhgghncdiaaW.PrintMore
attribute [local go_sem] max2_int min2_int max_two min_two max_three min_three max_four min_four
set_option linter.unusedVariables false
set_option linter.unusedSimpArgs false
section
variable {P : Program} {ops : Array Oper} {o : Oper} {rest : List Oper} {a : Act} {Q : Exit → Act → World → Prop}
theorem map_event {W : World} (hgd : o.guard = none) {N : Tmp} (_hd : o.dst = some N)
    (hrun : (execOp a.eval o).run P W = .ok (.value (.map (some W.heap.size))) (W.alloc (.map #[] 0)))
    (h : ∀ g, g = W.heap.size → ∀ w1, w1.heap[g]? = some (.map #[] 0) → Below W.heap.size W w1 → wpList P ops Q rest (a.put o.dst (.map (some g))) w1) : wpList P ops Q (o :: rest) a W :=
  Kd.event_run hgd hrun (h _ rfl _ (blk_new W _) (below_alloc (Below.refl _ _) _))
end
theorem owns_empty {w : World} {b : Nat} (hb : w.heap[b]? = some (.map #[] 0)) (P : Program) (k : TypeId) (R : Value → Option (DataW Unit × List MemPlace)) : w.ownsMap P k R b 0 (.map []) :=
  ⟨#[], 0, hb, ⟨by simp, by first | exact MapKept.stamped_empty 0 | simp [MapKept.Stamped] | decide, by simp⟩, Nat.le_refl _, rfl⟩
theorem len_empty {w : World} {b : Nat} (hb : w.heap[b]? = some (.map #[] 0)) {t k e : TypeId} (ht : Try.prog.underlying t = some (.map k e)) (ty : TypeId) : (Builtin.len_ #[t] ty #[.map (some b)]).run Try.prog w = .ok (.int .i64 0) w :=
  World.ownsMap.len (owns_empty hb Try.prog k (fun _ => none)) ht ty
set_option maxHeartbeats 8000000 in
set_option maxRecDepth 100000 in
theorem objectsOk_calls (k g : Nat) (A : Nat → Option Addr) (c : Nat → Nat) (l0 : List (List Int)) (l1 : List Int) (l2 : List S124) (l3 : List S131) (l4 : List S134) (l6 : List S79) (l7 : List S138) (l8 : List Int) (l9 : List Int) (x : Int) (w0 w : World) (HM : MB w0 w g A c l0 l1 l2 l3 l4 l6 l7 l8 l9 x) (e3 : l3 = []) (e4 : l4 = []) (p0 : impl_within.f x 1 100000 = some true)
    (p8 : impl_Machine_framesIn.f k l0 l1 l2 l3 l4 x l6 l7 l8 l9 3 = some ([], x)) (p9 : slices_Equal_int_int.f k [] [] = some true) :
    Calls Try.prog 88 #[.pointer (some ⟨g, 0, none⟩)] w fun e w' => e = .returned (.bool true) ∧ Below w.heap.size w w' := by
  subst e3 e4
  have HM := Aside0.mk HM
  have HB := Aside0.mk (Below.refl w.heap.size w)
  have hmm := @run_makeMap Try.prog
  go_enter Try.func88, Try.ntmps88
  go_wp2_with (first | ((with_reducible refine gate_dst (N := 13) rfl ?_); refine map_event ?hg (N := 13) ?hd ?hr ?_; (case hd => rfl); (case hg => rfl); (case hr => first | (go_simp; done) | (go_simp; rfl)); intro bm hbz w_ hbk hb; replace HM := Aside0.mk ((gM_ HM).below hb); replace HB := Aside0.mk (below_step (gB_ HB) hb); clear hbz; clear hb; have Mbm := Aside0.mk hbk; clear hbk) | ((with_reducible refine gate_dst (N := 14) rfl ?_); refine slice_event ?hg (N := 14) ?hd (cs := #[]) (t := 3) (n := 0) ?hr ?_; (case hd => rfl); (case hg => rfl); (case hr => first | (go_simp; done) | (go_simp; rfl)); intro bs hbz w_ hbk hb; replace HM := Aside0.mk ((gM_ HM).below hb); replace HB := Aside0.mk (below_step (gB_ HB) hb); replace Mbm := Aside0.mk (blk_below (gK Mbm) hb); clear hbz hbk hb; have hq4 := (blk_cell HM.out.blk 4).trans rfl))
  go_loopg [4, 20] 0 (fun kq v4 v20 w' => v4 = .slice (some ⟨bs, 0, none⟩) 0 0 ∧ v20 = .int .i64 0 ∧ Aside0 (MB w0 w' g A c l0 l1 l2 [] [] l6 l7 l8 l9 x) ∧ Aside0 (Below w.heap.size w w') ∧ Aside0 (w'.heap[bm]? = some (.map #[] 0)))
  case atStart => exact ⟨rfl, rfl, ⟨gM_ HM⟩, ⟨gB_ HB⟩, ⟨gK Mbm⟩⟩
  case round =>
    clear HM HB Mbm
    obtain ⟨rfl, rfl, HM, HB, Mbm⟩ := hrel
    have hq3 := (blk_cell HM.out.blk 3).trans rfl
    go_wp2
    go_loopg [8, 120] 0 (fun kq v8 v120 w' => v8 = .int .i64 0 ∧ v120 = .int .i64 0 ∧ Aside0 (MB w0 w' g A c l0 l1 l2 [] [] l6 l7 l8 l9 x) ∧ Aside0 (Below w.heap.size w w') ∧ Aside0 (w'.heap[bm]? = some (.map #[] 0)))
    case atStart => exact ⟨rfl, rfl, ⟨gM_ HM⟩, ⟨gB_ HB⟩, ⟨gK Mbm⟩⟩
    case round =>
      clear HM HB Mbm hq3
      obtain ⟨rfl, rfl, HM, HB, Mbm⟩ := hrel
      have hq4 := (blk_cell HM.out.blk 4).trans rfl
      have hq5 := (blk_cell HM.out.blk 5).trans rfl
      go_wp2_with (first | (go_at_call 35; (with_reducible refine (impl_within.calls x 1 100000 true _ p0).mono ?_); rintro e w1 ⟨rfl, hd⟩; have hb := Drawn0.below hd; replace HM := Aside0.mk ((gM_ HM).below hb); replace HB := Aside0.mk (below_step (gB_ HB) hb); replace Mbm := Aside0.mk (blk_below (gK Mbm) hb); have hln := len_empty Mbm.out Try.underlying164 3; clear hb hd) | (go_at_call 124; refine calls_of_args (args' := #[.pointer (some ⟨g, 0, none⟩), .slice (some ⟨bs, 0, none⟩) ([] : List Int).length 0, .int .i64 3]) (by rfl) ?_; (with_reducible refine (sameSet_calls k g A c l0 l1 l2 [] [] l6 l7 l8 l9 x (some ⟨bs, 0, none⟩) 0 [] 3 [] [] List.mergeSort_nil w0 _ (gM_ HM) (kd0 _ _) (Nat.le_refl _) (by decide) p8 p9).mono ?_); rintro e w3 ⟨rfl, hb⟩; replace HM := Aside0.mk ((gM_ HM).below hb); replace HB := Aside0.mk (below_step (gB_ HB) hb); clear hb))
      go_ret
      exact ⟨rfl, gB_ HB⟩
variable {P : Program} {ops : Array Oper} {o : Oper} {rest : List Oper} {a : Act} {Q : Exit → Act → World → Prop} in
theorem gateL2 {W : World} {q : Addr} {v : Value} {t : TypeId} {p : Operand} (_ho : o.op = .load t p) (h : wpList P ops Q (o :: rest) a (W.setCell q v)) : wpList P ops Q (o :: rest) a (W.setCell q v) := h
variable {P : Program} {ops : Array Oper} {o : Oper} {rest : List Oper} {a : Act} {Q : Exit → Act → World → Prop} in
theorem anew2 {W : World} (Φ : World → Prop) (hΦ : Φ W) (h : ∀ W', Φ W' → wpList P ops Q (o :: rest) a W') : wpList P ops Q (o :: rest) a W := h W hΦ
class Off2 (g : Nat) (W W' : World) : Prop where b : ∀ g' {o : Obj}, g' ≠ g → W.heap[g']? = some o → W'.heap[g']? = some o
instance (g : Nat) (W : World) : Off2 g W W := ⟨fun _ _ _ h => h⟩
instance (g : Nat) (W W' : World) [i : Off2 g W W'] (n : Nat) : Off2 g W (W'.drewN n) := ⟨fun g' _ hn h => i.b g' hn h⟩
instance (g : Nat) (W W' : World) [i : Off2 g W W'] : Off2 g W W'.drew := ⟨fun g' _ hn h => i.b g' hn h⟩
instance (g j : Nat) (W W' : World) [i : Off2 g W W'] (u : Value) : Off2 g W (W'.setCell ⟨g, j, none⟩ u) := ⟨fun g' _ hn h => (Below.heap_setCell W' ⟨g, j, none⟩ u g' hn).trans (i.b g' hn h)⟩
theorem far2 {g g' : Nat} {o : Obj} {W W' : World} (h : Aside0 (W.heap[g']? = some o)) (hn : g' ≠ g) [i : Off2 g W W'] : W'.heap[g']? = some o := i.b g' hn h.out
theorem set1 {W : World} {g t : Nat} {z0 a0 : Value} (h : W.heap[g]? = some (.cells #[z0] t (0, 0))) : (W.setCell ⟨g, 0, none⟩ a0).heap[g]? = some (.cells #[a0] t (0, 0)) := blk_put h 0 a0 (cs' := #[a0]) rfl
theorem set2 {W : World} {g t : Nat} {z0 z1 a0 a1 : Value} (h : W.heap[g]? = some (.cells #[z0, z1] t (0, 0))) : ((W.setCell ⟨g, 0, none⟩ a0).setCell ⟨g, 1, none⟩ a1).heap[g]? = some (.cells #[a0, a1] t (0, 0)) := by
  replace h := blk_put h 0 a0 (cs' := #[a0, z1]) rfl
  exact blk_put h 1 a1 (cs' := #[a0, a1]) rfl
theorem set3 {W : World} {g t : Nat} {z0 z1 z2 a0 a1 a2 : Value} (h : W.heap[g]? = some (.cells #[z0, z1, z2] t (0, 0))) : (((W.setCell ⟨g, 0, none⟩ a0).setCell ⟨g, 1, none⟩ a1).setCell ⟨g, 2, none⟩ a2).heap[g]? = some (.cells #[a0, a1, a2] t (0, 0)) := by
  replace h := blk_put h 0 a0 (cs' := #[a0, z1, z2]) rfl
  replace h := blk_put h 1 a1 (cs' := #[a0, a1, z2]) rfl
  exact blk_put h 2 a2 (cs' := #[a0, a1, a2]) rfl
theorem kdn {α : Type} (d : Kd α) (w : World) (A : Option Addr) : Kd.C d w A ([] : List α).length [] := ⟨rfl, Nat.zero_le _, fun h => absurd h (Nat.lt_irrefl 0)⟩
theorem upsz2 {W W' : World} [i : Upw W W'] : W.heap.size ≤ W'.heap.size := i.below.size
section
variable {w0 W W' : World} {g : Nat} {A : Nat → Option Addr} {c : Nat → Nat} {l0 : List (List Int)} {l1 : List Int} {l2 : List S124} {l3 : List S131} {l4 : List S134} {l6 : List S79} {l7 : List S138} {l8 : List Int} {l9 : List Int} {x : Int}
theorem MB.off {bx : Nat} (h : Aside0 (MB w0 W g A c l0 l1 l2 l3 l4 l6 l7 l8 l9 x)) (hn : g ≠ bx) (hx : w0.heap.size ≤ bx) [i : Off2 bx W W'] [j : Upl [bx] W W'] : MB w0 W' g A c l0 l1 l2 l3 l4 l6 l7 l8 l9 x := ⟨i.b g hn h.out.blk, h.out.ge, j.b w0 (by simp only [List.mem_cons, List.not_mem_nil, or_false]; rintro g rfl; assumption) h.out.base, h.out.r0, h.out.k0, h.out.r1, h.out.k1, h.out.r2, h.out.k2, h.out.r3, h.out.k3, h.out.r4, h.out.k4, h.out.r6, h.out.k6, h.out.r7, h.out.k7, h.out.r8, h.out.k8, h.out.r9, h.out.k9⟩
end
end Go.Proofs.Ytngonhgghncdiaa.P
end
section
namespace Go.Proofs.Ytngonhgghncdiaa.P
open Go.Proofs.Ytngonhgghncdiaa.Up Go.Proofs.Ytngonhgghncdiaa
open Go.RowKit Go.Proofs.YtngonhgghncdiaaW.PrintWords Go.Proofs.YtngonhgghncdiaaW.PrintLast Go.Proofs.YtngonhgghncdiaaW.PrintMore
attribute [local go_sem] max2_int min2_int max_two min_two max_three min_three max_four min_four
set_option linter.unusedVariables false
set_option linter.unusedSimpArgs false
def impl_RegionsOk.l0 : Nat → List (S181) → List (S181) → Int → Int → Option (Bool)
  | 0, _, _, _, _ => none
  | k + 1, x0, x5, x6, x7 => if x7 < x6 then none else (some (decide ((x0.length : Int) ≤ 12)))
def impl_RegionsOk.f (k : Nat) (l0 : List (S181)) : Option (Bool) := impl_RegionsOk.l0 k l0 l0 (l0.length : Int) 0
set_option maxHeartbeats 8000000 in
set_option maxRecDepth 100000 in
theorem impl_RegionsOk.calls (k : Nat) (A0 : Option Addr) (c0 : Nat) (l0 : List (S181)) (r : Bool) (w : World) (hr0 : Kd.C k181 w A0 l0.length l0) (hc0 : l0.length ≤ c0) (h : impl_RegionsOk.f k l0 = some r) :
    Calls Try.prog 129 #[.slice A0 l0.length c0] w fun e w' => e = .returned (.bool r) ∧ Below w.heap.size w w' := by
  have hu181 := Try.underlying181
  have HR0 := Aside0.mk hr0
  have HC0 := Aside0.mk hc0
  clear hr0 hc0
  have HB := Aside0.mk (Below.refl w.heap.size w)
  have H : (impl_RegionsOk.l0 k l0 l0 (l0.length : Int) 0) = some r := h
  clear h
  have H' := Aside0.mk H
  clear H
  go_enter Try.func129, Try.ntmps129
  go_wp2
  repeat (go_quiet (fail); try go_wp2)
  go_loopg [7] k (fun kq v7 w' => ∃ (x7_1 : Int), v7 = .int .i64 x7_1 ∧ Aside0 (impl_RegionsOk.l0 kq l0 l0 (l0.length : Int) x7_1 = some r) ∧ Aside0 (kq ≤ k) ∧ Aside0 (Below w.heap.size w w'))
  case atStart => exact ⟨(0), (by first | rfl | (simp; done) | (simp [*]; done)), H', ⟨Nat.le_refl _⟩, ⟨by repeat (first | (with_reducible first | exact HB.out | apply below_alloc | apply pw_below_drewN | apply below_drew1) | exact HB.out)⟩⟩
  case round =>
    clear H'
    try clear c1
    obtain ⟨x7_1, rfl, HA, HK1, HB⟩ := hrel
    cases gk with
    | zero => exact absurd HA.out (by simp [impl_RegionsOk.l0])
    | succ k1 =>
      have H := HA.out
      clear HA
      simp only [impl_RegionsOk.l0] at H
      by_cases c2 : x7_1 < (l0.length : Int)
      · rw [if_pos c2] at H
        exact absurd H (by simp)
      · rw [if_neg c2] at H
        have c2b0 : decide (x7_1 < (l0.length : Int)) = false := decide_eq_false c2
        clear c2
        obtain rfl := Option.some.inj H
        go_wp2
        repeat (go_quiet (fail); try go_wp2)
        go_ret
        exact ⟨by first | rfl | (simp [errW_none, errW_some] <;> rfl) | (simp [*, errW_none, errW_some] <;> rfl), by repeat (first | (with_reducible first | exact HB.out | apply below_alloc | apply pw_below_drewN | apply below_drew1) | exact HB.out)⟩
end Go.Proofs.Ytngonhgghncdiaa.P
end
section
namespace Go.Proofs.Ytngonhgghncdiaa.P
open Go.Proofs.Ytngonhgghncdiaa.Up Go.Proofs.Ytngonhgghncdiaa
open Go.RowKit Go.Proofs.YtngonhgghncdiaaW.PrintWords Go.Proofs.YtngonhgghncdiaaW.PrintLast Go.Proofs.YtngonhgghncdiaaW.PrintMore
attribute [local go_sem] max2_int min2_int max_two min_two max_three min_three max_four min_four
set_option linter.unusedVariables false
set_option linter.unusedSimpArgs false
set_option maxHeartbeats 8000000 in
set_option maxRecDepth 100000 in
theorem spacesOk_calls (k g : Nat) (A : Nat → Option Addr) (c : Nat → Nat) (l0 : List (List Int)) (l1 : List Int) (l2 : List S124) (l3 : List S131) (l4 : List S134) (l6 : List S79) (l7 : List S138) (l8 : List Int) (l9 : List Int) (x : Int) (w0 w : World) (HM : MB w0 w g A c l0 l1 l2 l3 l4 l6 l7 l8 l9 x) (h6 : l6.length = 4) (e6 : ∀ i : Int, 0 ≤ i → i < (l6.length : Int) → rd_T79 l6 i = ⟨false, -1, []⟩) (pr : impl_RegionsOk.f k [] = some true)
    (p8 : impl_Machine_framesIn.f k l0 l1 l2 l3 l4 x l6 l7 l8 l9 4 = some ([], x)) (p9 : slices_Equal_int_int.f k [] [] = some true) :
    Calls Try.prog 89 #[.pointer (some ⟨g, 0, none⟩)] w fun e w' => e = .returned (.bool true) ∧ Below w.heap.size w w' := by
  have HM := Aside0.mk HM
  have HB := Aside0.mk (Below.refl w.heap.size w)
  obtain ⟨ad, hA6⟩ : ∃ ad, A 6 = some ad := by
    obtain ⟨ad, _, _, e, _⟩ := at_T79 HM.out.c6 0 (by decide) (by omega)
    exact ⟨ad, e⟩
  have H6 := Aside0.mk h6
  have hb4 : ((l6.length : Int) == 4) = true := by rw [h6]; rfl
  clear h6
  go_enter Try.func89, Try.ntmps89
  go_wp2_with (first | ((with_reducible refine gate_dst (N := 8) rfl ?_); refine slice_event ?hg (N := 8) ?hd (cs := #[]) (t := 3) (n := 0) ?hr ?_; (case hd => rfl); (case hg => rfl); (case hr => first | (go_simp; done) | (go_simp; rfl)); intro bs hbz w_ hbk hb; replace HM := Aside0.mk ((gM_ HM).below hb); replace HB := Aside0.mk (below_step (gB_ HB) hb); clear hbz hbk hb) | ((with_reducible refine gate_dst (N := 3) rfl ?_); refine box_event ?hg (N := 3) ?hd (cs := #[.slice none 0 0]) (t := 26) ?hr ?_; (case hd => rfl); (case hg => rfl); (case hr => first | (go_simp; done) | (go_simp; rfl)); intro bt hbz w_ hbk hb; have Gbt := Aside0.mk (show w.heap.size ≤ bt by rw [hbz]; exact below_size (gB_ HB)); have Kbt := Aside0.mk (show w0.heap.size ≤ bt by rw [hbz]; exact below_size (gM_ HM).base); have NEbt := Aside0.mk (show g ≠ bt by rw [hbz]; exact Nat.ne_of_lt (blk_lt (gM_ HM).blk)); replace HM := Aside0.mk ((gM_ HM).below hb); replace HB := Aside0.mk (below_step (gB_ HB) hb); clear hbz hb; have BT := Aside0.mk hbk; clear hbk; have hz0 := (blk_cell BT.out 0).trans rfl; have hy0 := blk_frozen BT.out 0; have hq6 := (blk_cell HM.out.blk 6).trans rfl; rw [hA6] at hq6))
  go_loopg [14] 4 (fun kq v14 w' => ∃ y : Int, v14 = .int .i64 y ∧ 0 ≤ y ∧ y + (kq : Int) = 4 ∧ Aside0 (MB w0 w' g A c l0 l1 l2 l3 l4 l6 l7 l8 l9 x) ∧ Aside0 (Below w.heap.size w w') ∧ Aside0 (w'.heap[bt]? = some (.cells #[.slice (some ⟨bs, 0, none⟩) 0 0] 26 (0, 0))))
  case atStart => exact ⟨0, rfl, by decide, by decide, ⟨MB.off HM NEbt.out Kbt.out⟩, ⟨gT1 Gbt.out HB⟩, ⟨set1 BT.out⟩⟩
  case round =>
    clear HM HB BT hz0 hy0 hq6
    obtain ⟨y, rfl, hy0, hyk, HM, HB, BT⟩ := hrel
    have h6 := H6.out
    by_cases c1 : y < (l6.length : Int)
    · cases gk with
      | zero => exfalso; omega
      | succ k1 =>
        obtain ⟨ad', A2, c2, eA, hx0, hx1, hx2, hl2, hi2⟩ := at_T79 HM.out.c6 y hy0 c1
        obtain rfl : ad = ad' := by rw [hA6] at eA; exact Option.some.inj eA
        rw [e6 y hy0 c1] at hx0 hx1 hx2 hl2 hi2
        dsimp only at hx0 hx1 hx2
        have hp := eq_true hy0
        have hp2 : decide (y < (l6.length : Int)) = true := decide_eq_true c1
        have hp3 : (y.toNat < l6.length) = True := eq_true (by omega)
        have hq6 := (blk_cell HM.out.blk 6).trans rfl
        rw [hA6] at hq6
        clear h6 hi2 eA
        go_wp2_with (first | ((with_reducible refine gate_dst (N := 5) rfl ?_); refine box_event ?hg (N := 5) ?hd (cs := #[.bool false, .int .i64 0, .slice none 0 0]) (t := 79) ?hr ?_; (case hd => rfl); (case hg => rfl); (case hr => first | (go_simp; done) | (go_simp; rfl)); intro bx hbz w_ hbk hb; have Gbx := Aside0.mk (show w.heap.size ≤ bx by rw [hbz]; exact below_size (gB_ HB)); have Kbx := Aside0.mk (show w0.heap.size ≤ bx by rw [hbz]; exact below_size (gM_ HM).base); have NEbx := Aside0.mk (show g ≠ bx by rw [hbz]; exact Nat.ne_of_lt (blk_lt (gM_ HM).blk)); replace HM := Aside0.mk ((gM_ HM).below hb); replace HB := Aside0.mk (below_step (gB_ HB) hb); have NT := Aside0.mk (show bt ≠ bx by rw [hbz]; exact Nat.ne_of_lt (blk_lt (gK BT))); replace BT := Aside0.mk (blk_below (gK BT) hb); clear hbz hb; have BX := Aside0.mk hbk; clear hbk; obtain ⟨⟨hc0, hc1, hc2⟩, hf0, hf1, hf2⟩ : ((w_.cell? ⟨bx, 0, none⟩ = some (.bool false)) ∧ (w_.cell? ⟨bx, 1, none⟩ = some (.int .i64 0)) ∧ (w_.cell? ⟨bx, 2, none⟩ = some (.slice none 0 0))) ∧ w_.frozen? ⟨bx, 0, none⟩ = false ∧ w_.frozen? ⟨bx, 1, none⟩ = false ∧ w_.frozen? ⟨bx, 2, none⟩ = false := ⟨⟨(blk_cell BX.out 0).trans rfl, (blk_cell BX.out 1).trans rfl, (blk_cell BX.out 2).trans rfl⟩, blk_frozen BX.out 0, blk_frozen BX.out 1, blk_frozen BX.out 2⟩) | ((with_reducible refine gateL2 rfl ?_); refine anew2 (fun W_ => MB w0 W_ g A c l0 l1 l2 l3 l4 l6 l7 l8 l9 x ∧ W_.heap[bx]? = some (.cells #[.bool false, .int .i64 (-1), .slice A2 0 c2] 79 (0, 0)) ∧ W_.heap[bt]? = some (.cells #[.slice (some ⟨bs, 0, none⟩) 0 0] 26 (0, 0)) ∧ Below w.heap.size w W_) ⟨MB.off HM NEbx.out Kbx.out, (by (with_reducible repeat (first | refine blk_drewN ?_ _ | refine blk_drew ?_)); exact set3 BX.out), far2 BT NT.out, gT1 Gbx.out HB⟩ ?_; rintro wq ⟨hm, hbx, hbt, hb⟩; clear HM BX BT HB hc0 hc1 hc2 hf0 hf1 hf2; have HM := Aside0.mk hm; have BX := Aside0.mk hbx; have BT := Aside0.mk hbt; have HB := Aside0.mk hb; clear hm hbx hbt hb; have hc2 := (blk_cell BX.out 2).trans rfl) | (go_at_call 129; refine calls_of_args (args' := #[.slice A2 ([] : List S181).length c2]) (by rfl) ?_; (with_reducible refine (impl_RegionsOk.calls k A2 c2 [] true _ (kdn _ _ _) (Nat.zero_le _) pr).mono ?_); rintro e w3 ⟨rfl, hb⟩; replace HM := Aside0.mk ((gM_ HM).below hb); replace HB := Aside0.mk (below_step (gB_ HB) hb); replace BX := Aside0.mk (blk_below (gK BX) hb); replace BT := Aside0.mk (blk_below (gK BT) hb); clear hb hc2; have hc0 := (blk_cell BX.out 0).trans rfl; have hc1 := (blk_cell BX.out 1).trans rfl; have hc2 := (blk_cell BX.out 2).trans rfl))
        go_roundg k1
        case measure => omega
        case rel => exact ⟨y + 1, rfl, by omega, by omega, ⟨gM_ HM⟩, ⟨gB_ HB⟩, ⟨gK BT⟩⟩
    · have c1b : decide (y < (l6.length : Int)) = false := decide_eq_false c1
      have hz0 := (blk_cell BT.out 0).trans rfl
      go_wp2
      go_loopg [58] 0 (fun kq v58 w' => v58 = .int .i64 0 ∧ Aside0 (MB w0 w' g A c l0 l1 l2 l3 l4 l6 l7 l8 l9 x) ∧ Aside0 (Below w.heap.size w w') ∧ Aside0 (w'.heap[bt]? = some (.cells #[.slice (some ⟨bs, 0, none⟩) 0 0] 26 (0, 0))))
      case atStart => exact ⟨rfl, ⟨gM_ HM⟩, ⟨gB_ HB⟩, ⟨gK BT⟩⟩
      case round =>
        clear HM HB BT hz0
        obtain ⟨rfl, HM, HB, BT⟩ := hrel
        have hz0 := (blk_cell BT.out 0).trans rfl
        have hq6 := (blk_cell HM.out.blk 6).trans rfl
        rw [hA6] at hq6
        have hb4' : decide ((l6.length : Int) = 4) = true := decide_eq_true (by omega)
        clear h6
        go_wp2_with (first | (go_at_call 124; refine calls_of_args (args' := #[.pointer (some ⟨g, 0, none⟩), .slice (some ⟨bs, 0, none⟩) ([] : List Int).length 0, .int .i64 4]) (by rfl) ?_; (with_reducible refine (sameSet_calls k g A c l0 l1 l2 l3 l4 l6 l7 l8 l9 x (some ⟨bs, 0, none⟩) 0 [] 4 [] [] List.mergeSort_nil w0 _ (gM_ HM) (kd0 _ _) (Nat.le_refl _) (by decide) p8 p9).mono ?_); rintro e w3 ⟨rfl, hb⟩; replace HM := Aside0.mk ((gM_ HM).below hb); replace HB := Aside0.mk (below_step (gB_ HB) hb); clear hb))
        go_ret
        exact ⟨rfl, gB_ HB⟩
end Go.Proofs.Ytngonhgghncdiaa.P
end
section
namespace Go.Proofs.Ytngonhgghncdiaa.P
open Go.Proofs.Ytngonhgghncdiaa.Up Go.Proofs.Ytngonhgghncdiaa
open Go.RowKit Go.Proofs.YtngonhgghncdiaaW.PrintWords Go.Proofs.YtngonhgghncdiaaW.PrintLast Go.Proofs.YtngonhgghncdiaaW.PrintMore
attribute [local go_sem] max2_int min2_int max_two min_two max_three min_three max_four min_four
set_option linter.unusedVariables false
set_option linter.unusedSimpArgs false
set_option maxHeartbeats 8000000 in
set_option maxRecDepth 100000 in
theorem maps_calls (k g : Nat) (A : Nat → Option Addr) (c : Nat → Nat) (l0 : List (List Int)) (l1 : List Int) (l2 : List S124) (l3 : List S131) (l4 : List S134) (l6 : List S79) (l7 : List S138) (l8 : List Int) (l9 : List Int) (x : Int) (fv : Value) (w0 w : World) (HM : MB w0 w g A c l0 l1 l2 l3 l4 l6 l7 l8 l9 x) (h6 : l6.length = 4) (e6 : ∀ i : Int, 0 ≤ i → i < (l6.length : Int) → rd_T79 l6 i = ⟨false, -1, []⟩) :
    Calls Try.prog 133 #[.pointer (some ⟨g, 0, none⟩), fv] w fun e w' => e = .returned (.tuple #[]) ∧ Below w.heap.size w w' := by
  have HM := Aside0.mk HM
  have HB := Aside0.mk (Below.refl w.heap.size w)
  obtain ⟨ad, hA6⟩ : ∃ ad, A 6 = some ad := by
    obtain ⟨ad, _, _, e, _⟩ := at_T79 HM.out.c6 0 (by decide) (by omega)
    exact ⟨ad, e⟩
  have H6 := Aside0.mk h6
  clear h6
  have hq6 := (blk_cell HM.out.blk 6).trans rfl
  rw [hA6] at hq6
  go_enter Try.func133, Try.ntmps133
  go_wp2
  go_loopg [13] 4 (fun kq v13 w' => ∃ y : Int, v13 = .int .i64 y ∧ 0 ≤ y ∧ y + (kq : Int) = 4 ∧ Aside0 (MB w0 w' g A c l0 l1 l2 l3 l4 l6 l7 l8 l9 x) ∧ Aside0 (Below w.heap.size w w'))
  case atStart => exact ⟨0, rfl, by decide, by decide, ⟨gM_ HM⟩, ⟨gB_ HB⟩⟩
  case round =>
    clear HM HB hq6
    obtain ⟨y, rfl, hy0, hyk, HM, HB⟩ := hrel
    have h6 := H6.out
    by_cases c1 : y < (l6.length : Int)
    · cases gk with
      | zero => exfalso; omega
      | succ k1 =>
        obtain ⟨ad', A2, c2, eA, hx0, hx1, hx2, hl2, hi2⟩ := at_T79 HM.out.c6 y hy0 c1
        obtain rfl : ad = ad' := by rw [hA6] at eA; exact Option.some.inj eA
        rw [e6 y hy0 c1] at hx0 hx1 hx2 hl2 hi2
        dsimp only at hx0 hx1 hx2
        have hp := eq_true hy0
        have hp2 : decide (y < (l6.length : Int)) = true := decide_eq_true c1
        have hp3 : (y.toNat < l6.length) = True := eq_true (by omega)
        clear h6 hi2 eA
        go_wp2_with (first | ((with_reducible refine gate_dst (N := 5) rfl ?_); refine box_event ?hg (N := 5) ?hd (cs := #[.bool false, .int .i64 0, .slice none 0 0]) (t := 79) ?hr ?_; (case hd => rfl); (case hg => rfl); (case hr => first | (go_simp; done) | (go_simp; rfl)); intro bx hbz w_ hbk hb; have Gbx := Aside0.mk (show w.heap.size ≤ bx by rw [hbz]; exact below_size (gB_ HB)); have Kbx := Aside0.mk (show w0.heap.size ≤ bx by rw [hbz]; exact below_size (gM_ HM).base); have NEbx := Aside0.mk (show g ≠ bx by rw [hbz]; exact Nat.ne_of_lt (blk_lt (gM_ HM).blk)); replace HM := Aside0.mk ((gM_ HM).below hb); replace HB := Aside0.mk (below_step (gB_ HB) hb); clear hbz hb; have BX := Aside0.mk hbk; clear hbk; obtain ⟨⟨hc0, hc1, hc2⟩, hf0, hf1, hf2⟩ : ((w_.cell? ⟨bx, 0, none⟩ = some (.bool false)) ∧ (w_.cell? ⟨bx, 1, none⟩ = some (.int .i64 0)) ∧ (w_.cell? ⟨bx, 2, none⟩ = some (.slice none 0 0))) ∧ w_.frozen? ⟨bx, 0, none⟩ = false ∧ w_.frozen? ⟨bx, 1, none⟩ = false ∧ w_.frozen? ⟨bx, 2, none⟩ = false := ⟨⟨(blk_cell BX.out 0).trans rfl, (blk_cell BX.out 1).trans rfl, (blk_cell BX.out 2).trans rfl⟩, blk_frozen BX.out 0, blk_frozen BX.out 1, blk_frozen BX.out 2⟩) | ((with_reducible refine gateL2 rfl ?_); refine anew2 (fun W_ => MB w0 W_ g A c l0 l1 l2 l3 l4 l6 l7 l8 l9 x ∧ W_.heap[bx]? = some (.cells #[.bool false, .int .i64 (-1), .slice A2 0 c2] 79 (0, 0)) ∧ Below w.heap.size w W_) ⟨MB.off HM NEbx.out Kbx.out, (by (with_reducible repeat (first | refine blk_drewN ?_ _ | refine blk_drew ?_)); exact set3 BX.out), gT1 Gbx.out HB⟩ ?_; rintro wq ⟨hm, hbx, hb⟩; clear HM BX HB hc0 hc1 hc2 hf0 hf1 hf2; have HM := Aside0.mk hm; have BX := Aside0.mk hbx; have HB := Aside0.mk hb; clear hm hbx hb; have hc0 := (blk_cell BX.out 0).trans rfl))
        go_roundg k1
        case measure => omega
        case rel => exact ⟨y + 1, rfl, by omega, by omega, ⟨gM_ HM⟩, ⟨gB_ HB⟩⟩
    · have c1b : decide (y < (l6.length : Int)) = false := decide_eq_false c1
      go_wp2
      go_end0
      exact ⟨rfl, gB_ HB⟩
set_option maxHeartbeats 8000000 in
set_option maxRecDepth 100000 in
theorem grow0_calls (w : World) : Calls Try.prog 160 #[.slice none 0 0, .int .i64 0] w fun e w' => e = .returned (.slice none 0 0) ∧ Below w.heap.size w w' := by
  have HB := Aside0.mk (Below.refl w.heap.size w)
  go_enter Try.func160, Try.ntmps160
  go_wp2
  go_ret
  exact ⟨rfl, gB_ HB⟩
set_option maxHeartbeats 8000000 in
set_option maxRecDepth 100000 in
theorem app0 (A : Option Addr) (c : Nat) (w : World) : (Builtin.append_ #[26, 26] 26 #[.slice none 0 0, .slice A 0 c]).run Try.prog w = .ok (.slice none 0 0) w := by
  obtain ⟨i0, hi, _⟩ := info_parts Seq.info3
  refine run_append_nothing w 26 26 26 3 i0 Try.underlying26 hi none 0 0 (Nat.le_refl _) (.slice A 0 c) ?_
  exact ⟨.inl ⟨3, Try.underlying26⟩, fun w' => by simp [Builtin.lenOf], by cases A <;> simp [Builtin.firstCells, loadCells, loadCellsFrom], by cases A <;> simp [Builtin.firstCells, loadCells, loadCellsFrom], by simp, by simp⟩
theorem append0_event {ops : Array Oper} {rest : List Oper} {o : Oper} {a : Act} {Q : Exit → Act → World → Prop} {w : World} (hgd : o.guard = none) (s x : Operand) (ho : o.op = .call { callee := .builtin .append, args := #[s, x], argTypes := #[26, 26] }) (hty : o.type = 26) (A : Option Addr) (c : Nat)
    (hs : a.eval s = .slice none 0 0) (hx : a.eval x = .slice A 0 c) (h : wpList Try.prog ops Q rest (a.put o.dst (.slice none 0 0)) w) : wpList Try.prog ops Q (o :: rest) a w := by
  refine wpList_plain hgd fun K hK => ?_
  have hrun := app0 A c w
  unfold Oper.wp
  simp [execOp, ho, hty, resolve, invoke, builtin, hs, hx, hrun, Result.andThen]
  exact hK _ _ h
set_option maxHeartbeats 8000000 in
set_option maxRecDepth 100000 in
theorem concat0_calls (b : Nat) (A8 A9 : Option Addr) (c8 c9 : Nat) (w : World) (hb : w.heap[b]? = some (.cells #[.slice A8 0 c8, .slice A9 0 c9] 26 (0, 0))) : Calls Try.prog 136 #[.slice (some ⟨b, 0, none⟩) 2 2] w fun e w' => e = .returned (.slice none 0 0) ∧ Below w.heap.size w w' := by
  have HB := Aside0.mk (Below.refl w.heap.size w)
  have BC := Aside0.mk hb
  clear hb
  go_enter Try.func136, Try.ntmps136
  go_wp2
  go_loopg [3, 11] 2 (fun kq v3 v11 w' => ∃ y : Int, v3 = .int .i64 0 ∧ v11 = .int .i64 y ∧ (y = 0 ∨ y = 1 ∨ y = 2) ∧ y + (kq : Int) = 2 ∧ Aside0 (Below w.heap.size w w') ∧ Aside0 (w'.heap[b]? = some (.cells #[.slice A8 0 c8, .slice A9 0 c9] 26 (0, 0))))
  case atStart => exact ⟨0, rfl, rfl, .inl rfl, by decide, ⟨gB_ HB⟩, ⟨gK BC⟩⟩
  case round =>
    clear HB BC
    obtain ⟨y, rfl, rfl, hy, hyk, HB, BC⟩ := hrel
    have hc0 := (blk_cell BC.out 0).trans rfl
    have hc1 := (blk_cell BC.out 1).trans rfl
    rcases hy with rfl | rfl | rfl
    · obtain ⟨k1, rfl⟩ : ∃ m, gk = m + 1 := ⟨gk - 1, by omega⟩
      go_wp2
      go_roundg k1
      case measure => omega
      case rel => exact ⟨1, rfl, rfl, .inr (.inl rfl), by omega, ⟨gB_ HB⟩, ⟨gK BC⟩⟩
    · obtain ⟨k1, rfl⟩ : ∃ m, gk = m + 1 := ⟨gk - 1, by omega⟩
      go_wp2
      go_roundg k1
      case measure => omega
      case rel => exact ⟨2, rfl, rfl, .inr (.inr rfl), by omega, ⟨gB_ HB⟩, ⟨gK BC⟩⟩
    · go_wp2_with (first | (go_at_call 160; (with_reducible refine (grow0_calls _).mono ?_); rintro e w1 ⟨rfl, hb⟩; replace HB := Aside0.mk (below_step (gB_ HB) hb); replace BC := Aside0.mk (blk_below (gK BC) hb); clear hb))
      go_loopg [6, 27] 2 (fun kq v6 v27 w' => ∃ y : Int, v6 = .slice none 0 0 ∧ v27 = .int .i64 y ∧ (y = 0 ∨ y = 1 ∨ y = 2) ∧ y + (kq : Int) = 2 ∧ Aside0 (Below w.heap.size w w') ∧ Aside0 (w'.heap[b]? = some (.cells #[.slice A8 0 c8, .slice A9 0 c9] 26 (0, 0))))
      case atStart => exact ⟨0, rfl, rfl, .inl rfl, by decide, ⟨gB_ HB⟩, ⟨gK BC⟩⟩
      case round =>
        clear HB BC hc0 hc1
        obtain ⟨y, rfl, rfl, hy, hyk2, HB, BC⟩ := hrel
        have hc0 := (blk_cell BC.out 0).trans rfl
        have hc1 := (blk_cell BC.out 1).trans rfl
        rcases hy with rfl | rfl | rfl
        · obtain ⟨k1, rfl⟩ : ∃ m, gk = m + 1 := ⟨gk - 1, by omega⟩
          go_wp2_with (first | ((with_reducible refine gate_builtin (b := .append) (xs := #[.tmp 31, .tmp 32]) rfl ?_); refine append0_event rfl (.tmp 31) (.tmp 32) rfl rfl A8 c8 rfl rfl ?_))
          go_roundg k1
          case measure => omega
          case rel => exact ⟨1, rfl, rfl, .inr (.inl rfl), by omega, ⟨gB_ HB⟩, ⟨gK BC⟩⟩
        · obtain ⟨k1, rfl⟩ : ∃ m, gk = m + 1 := ⟨gk - 1, by omega⟩
          go_wp2_with (first | ((with_reducible refine gate_builtin (b := .append) (xs := #[.tmp 31, .tmp 32]) rfl ?_); refine append0_event rfl (.tmp 31) (.tmp 32) rfl rfl A9 c9 rfl rfl ?_))
          go_roundg k1
          case measure => omega
          case rel => exact ⟨2, rfl, rfl, .inr (.inr rfl), by omega, ⟨gB_ HB⟩, ⟨gK BC⟩⟩
        · go_wp2
          go_ret
          exact ⟨rfl, gB_ HB⟩
end Go.Proofs.Ytngonhgghncdiaa.P
end
