/- What the proof of FnExactCutRegionsSaid rests on, part 4: plain lemmas and contracts of the functions that the law reaches (in part written by a printing program over the translation). No condition. -/
import Derived.Test.YtdpejnckojhgjaaBFnExactCutRegionsc
import Derived.RowKit
import Derived.Laws.BitsLemmas
section
namespace Go.Proofs.Ytdpejnckojhgjaa.P
open Go.RowKit Go.Proofs.YtdpejnckojhgjaaW.PrintWords Go.Proofs.YtdpejnckojhgjaaW.PrintLast Go.Proofs.YtdpejnckojhgjaaW.PrintMore
attribute [local go_sem] max2_int min2_int max_two min_two max_three min_three max_four min_four   -- for this text's walks alone
set_option linter.unusedVariables false
set_option linter.unusedSimpArgs false

/-! ### laws_markRegionS: function 28 -/
def laws_markRegionS.l0 : Nat → List (S70) → Int → Int → Option (Int × (List (S70)))
  | 0, _, _, _ => none
  | k + 1, x0, x1, x5 => if x5 < (x0.length : Int) then (if 0 ≤ x5 then ((some (x0.set (x5 : Int).toNat (⟨x1, (rd_T70 x0 x5).f1, (rd_T70 x0 x5).f2⟩ : S70) : List (S70))).bind fun y273 => ((some (y273.set (x5 : Int).toNat (⟨(rd_T70 y273 x5).f0, wrap64 (x1 + 1), (rd_T70 y273 x5).f2⟩ : S70) : List (S70))).bind fun y274 => (laws_markRegionS.l0 k (y274.set (x5 : Int).toNat (⟨(rd_T70 y274 x5).f0, (rd_T70 y274 x5).f1, ((Int.tmod (wrap64 ((wrap64 (x1 + 1)) + 1)) 3) == 0)⟩ : S70)) (wrap64 ((wrap64 ((wrap64 (x1 + 1)) + 1)) + 1)) (wrap64 (x5 + 1))))) else (none)) else (some (x1, x0))
def laws_markRegionS.f (k : Nat) (l0 : List (S70)) (a1 : Int) : Option (Int × (List (S70))) := laws_markRegionS.l0 k l0 a1 0
theorem laws_markRegionS.mono_l : ∀ k, (∀ y0 y1 y2, LeO (laws_markRegionS.l0 k y0 y1 y2) (laws_markRegionS.l0 (k + 1) y0 y1 y2))
  | 0 => fun _ _ _ r h => by simp [laws_markRegionS.l0] at h
  | k + 1 => by
    have ih0 := laws_markRegionS.mono_l k
    · intro y0 y1 y2
      unfold laws_markRegionS.l0
      repeat' first
      | (with_reducible exact ih0 _ _ _)
      | (with_reducible exact LeO.refl _)
      | (with_reducible exact LeO.none _)
      | (with_reducible refine LeO.ite ?_ ?_)
      | (with_reducible refine LeO.bind ?_ (fun _ => ?_))
      | exact ih0 _ _ _
      | exact LeO.none _
      | refine LeO.ite ?_ ?_
      | refine LeO.bind ?_ (fun _ => ?_)
theorem laws_markRegionS.mono : ∀ a0 a1 k, LeO (laws_markRegionS.f k a0 a1) (laws_markRegionS.f (k + 1) a0 a1) := by
  intro a0 a1 k
  have ih0 := laws_markRegionS.mono_l k
  unfold laws_markRegionS.f
  repeat' first
      | (with_reducible exact ih0 _ _ _)
      | (with_reducible exact LeO.refl _)
      | (with_reducible exact LeO.none _)
      | (with_reducible refine LeO.ite ?_ ?_)
      | (with_reducible refine LeO.bind ?_ (fun _ => ?_))
      | exact ih0 _ _ _
      | exact LeO.none _
      | refine LeO.ite ?_ ?_
      | refine LeO.bind ?_ (fun _ => ?_)
set_option maxHeartbeats 8000000 in
set_option maxRecDepth 100000 in
theorem laws_markRegionS.calls (k : Nat) (P0_ : Nat → Prop) (u9000_ : Value) (l0 : List (S70)) (a1 : Int) (r1 : Int) (r2 : List (S70)) (w0 w : World) (hB : Below w0.heap.size w0 w) (ho0 : Kd.R k70 70 w w0.heap.size P0_ u9000_ l0) (h : laws_markRegionS.f k l0 a1 = some (r1, r2)) :
    Calls Try.prog 28 #[u9000_, .int .i64 a1] w fun e w' => e = .returned (.int .i64 r1) ∧ Kd.R k70 70 w' w0.heap.size (fun k_ => (P0_ k_ ∨ w.heap.size ≤ k_)) u9000_ r2 ∧ Below w0.heap.size w0 w' ∧ Kept w w' (fun k_ => P0_ k_) := by
  have HO0 := Aside0.mk (show Kd.R k70 70 w w0.heap.size (fun k_ => (P0_ k_ ∨ w.heap.size ≤ k_)) u9000_ l0 from Kd.R_mono ho0 (fun k_ hk => (.inl hk)))
  have HK := Aside0.mk (Kept.refl w (fun k_ => P0_ k_))
  have HW0 := Aside0.mk hB.size
  have HB := Aside0.mk hB
  clear hB
  have H : (laws_markRegionS.l0 k l0 a1 0) = some (r1, r2) := h
  clear h
  have H' := Aside0.mk H
  clear H
  go_enter Try.func28, Try.ntmps28
  go_wp2
  go_loopg [1, 5] k (fun kq v1 v5 w' => ∃ (x0_1 : List (S70)) (x1_1 : Int) (x5_1 : Int), v1 = .int .i64 x1_1 ∧ v5 = .int .i64 x5_1 ∧ Aside0 (laws_markRegionS.l0 kq x0_1 x1_1 x5_1 = some (r1, r2)) ∧ Aside0 (kq ≤ k) ∧ Aside0 (Kd.R k70 70 w' w0.heap.size (fun k_ => (P0_ k_ ∨ w.heap.size ≤ k_)) u9000_ x0_1) ∧ Aside0 (Kept w w' (fun k_ => P0_ k_)) ∧ Aside0 (Below w0.heap.size w0 w'))
  case atStart => exact ⟨(l0), (a1), (0), (by first | rfl | (simp; done) | (simp [*]; done)), (by first | rfl | (simp; done) | (simp [*]; done)), H', ⟨Nat.le_refl _⟩, ⟨by (with_reducible repeat (first | apply Kd.R_alloc | apply Kd.R_drewN | apply Kd.R_drew)); exact HO0.out⟩, ⟨by repeat (first | (with_reducible first | exact HK.out | apply Kept.alloc | apply Kept.drewN | apply Kept.drew) | exact HK.out)⟩, ⟨by repeat (first | (with_reducible first | exact HB.out | apply below_alloc | apply pw_below_drewN | apply below_drew1) | exact HB.out)⟩⟩
  case round =>
    clear H'
    try clear c2
    try clear p2
    obtain ⟨x0_1, x1_1, x5_1, rfl, rfl, HA, HK1, HO_0, HK, HB⟩ := hrel
    cases gk with
    | zero => exact absurd HA.out (by simp [laws_markRegionS.l0])
    | succ k1 =>
      have H := HA.out
      clear HA
      simp only [laws_markRegionS.l0] at H
      by_cases c3 : x5_1 < (x0_1.length : Int)
      · rw [if_pos c3] at H
        have c3b0 : decide (x5_1 < (x0_1.length : Int)) = true := decide_eq_true c3
        clear c3
        by_cases c4 : 0 ≤ x5_1
        · rw [if_pos c4] at H
          have c4b0 : decide (0 ≤ x5_1) = true := decide_eq_true c4
          clear c4
          obtain ⟨y273, hy273⟩ : ∃ y_ : List (S70), y_ = (x0_1.set (x5_1 : Int).toNat (⟨x1_1, (rd_T70 x0_1 x5_1).f1, (rd_T70 x0_1 x5_1).f2⟩ : S70)) := ⟨_, rfl⟩
          replace H : ((some (y273.set (x5_1 : Int).toNat (⟨(rd_T70 y273 x5_1).f0, wrap64 (x1_1 + 1), (rd_T70 y273 x5_1).f2⟩ : S70) : List (S70))).bind fun y274 => (laws_markRegionS.l0 k1 (y274.set (x5_1 : Int).toNat (⟨(rd_T70 y274 x5_1).f0, (rd_T70 y274 x5_1).f1, ((Int.tmod (wrap64 ((wrap64 (x1_1 + 1)) + 1)) 3) == 0)⟩ : S70)) (wrap64 ((wrap64 ((wrap64 (x1_1 + 1)) + 1)) + 1)) (wrap64 (x5_1 + 1)))) = some (r1, r2) := by first | (rw [hy273]; with_reducible exact H) | (have H2_ := (Option.bind_some _ _).symm.trans H; rw [hy273]; with_reducible exact H2_) | (have H2_ := (Option.bind_some _ _).symm.trans H; with_reducible exact H2_) | with_reducible exact H | (rw [hy273]; exact H) | exact H
          have Ny273 := Aside0.mk hy273
          clear hy273
          obtain ⟨y274, hy274⟩ : ∃ y_ : List (S70), y_ = (y273.set (x5_1 : Int).toNat (⟨(rd_T70 y273 x5_1).f0, wrap64 (x1_1 + 1), (rd_T70 y273 x5_1).f2⟩ : S70)) := ⟨_, rfl⟩
          replace H : (laws_markRegionS.l0 k1 (y274.set (x5_1 : Int).toNat (⟨(rd_T70 y274 x5_1).f0, (rd_T70 y274 x5_1).f1, ((Int.tmod (wrap64 ((wrap64 (x1_1 + 1)) + 1)) 3) == 0)⟩ : S70)) (wrap64 ((wrap64 ((wrap64 (x1_1 + 1)) + 1)) + 1)) (wrap64 (x5_1 + 1))) = some (r1, r2) := by first | (rw [hy274]; with_reducible exact H) | (have H2_ := (Option.bind_some _ _).symm.trans H; rw [hy274]; with_reducible exact H2_) | (have H2_ := (Option.bind_some _ _).symm.trans H; with_reducible exact H2_) | with_reducible exact H | (rw [hy274]; exact H) | exact H
          have Ny274 := Aside0.mk hy274
          clear hy274
          obtain ⟨y275, hy275⟩ : ∃ y_ : List (S70), y_ = (y274.set (x5_1 : Int).toNat (⟨(rd_T70 y274 x5_1).f0, (rd_T70 y274 x5_1).f1, ((Int.tmod (wrap64 ((wrap64 (x1_1 + 1)) + 1)) 3) == 0)⟩ : S70)) := ⟨_, rfl⟩
          replace H : (laws_markRegionS.l0 k1 y275 (wrap64 ((wrap64 ((wrap64 (x1_1 + 1)) + 1)) + 1)) (wrap64 (x5_1 + 1))) = some (r1, r2) := by first | (rw [hy275]; with_reducible exact H) | (have H2_ := (Option.bind_some _ _).symm.trans H; rw [hy275]; with_reducible exact H2_) | (have H2_ := (Option.bind_some _ _).symm.trans H; with_reducible exact H2_) | with_reducible exact H | (rw [hy275]; exact H) | exact H
          have Ny275 := Aside0.mk hy275
          clear hy275
          have H' := Aside0.mk H
          clear H
          obtain ⟨Ao8, co8, eo8⟩ := Kd.R_slice HO_0.out
          subst eo8
          have p5 : 0 ≤ (x5_1 : Int) := of_decide_eq_true (by first | (with_reducible assumption) | assumption)
          have q5 : (x5_1 : Int) < ((x0_1.length : Int) : Int) := of_decide_eq_true (by first | (with_reducible assumption) | assumption)
          obtain ⟨go5, co5, eo5, gb5, gl5, cl5, HG5⟩ := Kd.R_form HO_0.out (by omega)
          (first | cases eo5 | (injection eo5 with ea_ en_ ec_; (first | subst ea_ | (injection ea_ with ea_; subst ea_)); subst ec_; clear en_))
          have GB5 := Aside0.mk gb5
          have GG5 := Aside0.mk HG5
          clear gb5 gl5 HG5
          have HMgo5 := Aside0.mk (show (P0_ go5 ∨ w.heap.size ≤ go5) from (HO_0.out.1 _ rfl))
          obtain ⟨ce5, hcl5, hM5, hcc5, hfr5⟩ := Kd.R_elem HO_0.out z70 (x5_1 : Int) p5 q5
          obtain rfl := k70_openM hM5
          have hx5_0 : wr.cell? ⟨go5, (x5_1 : Int).toNat * 3, none⟩ = some (.int .i64 ((rd_T70 x0_1 x5_1).f0)) := hcc5 0 _ rfl
          have hx5_1 : wr.cell? ⟨go5, (x5_1 : Int).toNat * 3 + 1, none⟩ = some (.int .i64 ((rd_T70 x0_1 x5_1).f1)) := hcc5 1 _ rfl
          have hx5_2 : wr.cell? ⟨go5, (x5_1 : Int).toNat * 3 + 2, none⟩ = some (.bool ((rd_T70 x0_1 x5_1).f2)) := hcc5 2 _ rfl
          have hf5_0 : wr.frozen? ⟨go5, (x5_1 : Int).toNat * 3, none⟩ = false := hfr5 0
          have hf5_1 : wr.frozen? ⟨go5, (x5_1 : Int).toNat * 3 + 1, none⟩ = false := hfr5 1
          have hf5_2 : wr.frozen? ⟨go5, (x5_1 : Int).toNat * 3 + 2, none⟩ = false := hfr5 2
          (try clear hcl5); (try clear hcc5); (try clear hfr5); (try clear hM5)
          replace p5 := eq_true p5
          replace q5 := eq_true q5
          have HX9 := Aside0.mk (show Kd.R k70 70 wr w0.heap.size (fun k_ => (P0_ k_ ∨ w.heap.size ≤ k_)) (.slice (some ⟨go5, 0, none⟩) x0_1.length co8) x0_1 from (by (with_reducible repeat (first | apply Kd.R_alloc | apply Kd.R_drewN | apply Kd.R_drew)); exact HO_0.out))
          obtain ⟨ce9, hcl9, hM9, hcc9, hfr9⟩ := Kd.R_elem HX9.out z70 (x5_1 : Int) (of_decide_eq_true (by first | (with_reducible assumption) | assumption)) (by have h_ : (x5_1 : Int) < ((x0_1.length : Int) : Int) := of_decide_eq_true (by first | (with_reducible assumption) | assumption); first | exact h_ | (have e_ := (Kd.R_reads' HO_0.out).1; omega) | simpa using h_)
          obtain rfl := k70_openM hM9
          have HP9 := Kd.R_seg HX9.out (x5_1 : Int) (of_decide_eq_true (by first | (with_reducible assumption) | assumption)) (by have h_ : (x5_1 : Int) < ((x0_1.length : Int) : Int) := of_decide_eq_true (by first | (with_reducible assumption) | assumption); first | exact h_ | (have e_ := (Kd.R_reads' HO_0.out).1; omega) | simpa using h_) (seg := [.int .i64 x1_1]) (j := 0) hcl9 hcc9 (show 1 ≤ 3 from by decide) (x' := (⟨x1_1, (rd_T70 x0_1 x5_1).f1, (rd_T70 x0_1 x5_1).f2⟩ : S70)) (k70_mkM _ _ _ (⟨x1_1, (rd_T70 x0_1 x5_1).f1, (rd_T70 x0_1 x5_1).f2⟩ : S70) ) (fun _ hk => hk)
          have hx9_0 := hcc9 0 _ rfl
          (try simp only [show (k70).sz = 3 from rfl, Nat.mul_one, Nat.add_zero] at hx9_0)
          have hf9_0 := hfr9 0
          (try simp only [show (k70).sz = 3 from rfl, Nat.mul_one, Nat.add_zero] at hf9_0)
          (try clear hcl9); (try clear hcc9); (try clear hfr9); (try clear hM9)
          go_wp2_with (first | ((with_reducible refine gate_store (t := 3) (p := 16) rfl ?_); refine store_event (t := 3) (p := 16) (v := ?vo_w10) (w1 := (wr.setCell ⟨go5, (x5_1 : Int).toNat * 3, none⟩ (.int .i64 x1_1))) ?hg ?ho ?hn ?hr ?_; (case ho => rfl); (case hg => rfl); (case hn => rfl); (case hr => first | (go_simp; done) | (go_simp; rfl)); intro w10 hw; have hg : wr.grownBy w10 (some go5) := (by rw [hw]; exact HP9.2); have hp_ : Kd.R k70 70 w10 w0.heap.size (fun k_ => (P0_ k_ ∨ w.heap.size ≤ k_)) (.slice (some ⟨go5, 0, none⟩) x0_1.length co8) y273 := (by rw [hw, Ny273.out]; exact HP9.1); clear HP9; have n0_ := Aside0.mk (hp_); have n1_ := Aside0.mk ((by rw [hw]; exact below_set (HB.out) GB5.out : Below w0.heap.size w0 w10)); have n2_ := Aside0.mk (Kept.of_grown (S := (fun k_ => P0_ k_)) hg (by repeat (first | (with_reducible first | exact HK.out | apply Kept.alloc | apply Kept.drewN | apply Kept.drew) | exact HK.out)) (fun k_ e_ => (HO_0.out.1 k_ e_))); clear HO_0; clear HB; clear HK; have HO_0 := n0_; have HB := n1_; have HK := n2_; clear n0_ n1_ n2_; clear hg hw hp_; have p6 : 0 ≤ (x5_1 : Int) := of_decide_eq_true (by first | (with_reducible assumption) | assumption); have q6 : (x5_1 : Int) < ((x0_1.length : Int) : Int) := of_decide_eq_true (by first | (with_reducible assumption) | assumption); obtain ⟨ce6, hcl6, hM6, hcc6, hfr6⟩ := Kd.R_elem HO_0.out z70 (x5_1 : Int) p6 q6; obtain rfl := k70_openM hM6; have hx6_0 : w10.cell? ⟨go5, (x5_1 : Int).toNat * 3, none⟩ = some (.int .i64 ((rd_T70 y273 x5_1).f0)) := hcc6 0 _ rfl; have hx6_1 : w10.cell? ⟨go5, (x5_1 : Int).toNat * 3 + 1, none⟩ = some (.int .i64 ((rd_T70 y273 x5_1).f1)) := hcc6 1 _ rfl; have hx6_2 : w10.cell? ⟨go5, (x5_1 : Int).toNat * 3 + 2, none⟩ = some (.bool ((rd_T70 y273 x5_1).f2)) := hcc6 2 _ rfl; have hf6_0 : w10.frozen? ⟨go5, (x5_1 : Int).toNat * 3, none⟩ = false := hfr6 0; have hf6_1 : w10.frozen? ⟨go5, (x5_1 : Int).toNat * 3 + 1, none⟩ = false := hfr6 1; have hf6_2 : w10.frozen? ⟨go5, (x5_1 : Int).toNat * 3 + 2, none⟩ = false := hfr6 2; (try clear hcl6); (try clear hcc6); (try clear hfr6); (try clear hM6); replace p6 := eq_true p6; replace q6 := eq_true q6; have HX11 := Aside0.mk (show Kd.R k70 70 w10 w0.heap.size (fun k_ => (P0_ k_ ∨ w.heap.size ≤ k_)) (.slice (some ⟨go5, 0, none⟩) x0_1.length co8) y273 from (by (with_reducible repeat (first | apply Kd.R_alloc | apply Kd.R_drewN | apply Kd.R_drew)); exact HO_0.out)); obtain ⟨ce11, hcl11, hM11, hcc11, hfr11⟩ := Kd.R_elem HX11.out z70 (x5_1 : Int) (of_decide_eq_true (by first | (with_reducible assumption) | assumption)) (by have h_ : (x5_1 : Int) < ((x0_1.length : Int) : Int) := of_decide_eq_true (by first | (with_reducible assumption) | assumption); first | exact h_ | (have e_ := (Kd.R_reads' HO_0.out).1; omega) | simpa using h_); obtain rfl := k70_openM hM11; have HP11 := Kd.R_seg HX11.out (x5_1 : Int) (of_decide_eq_true (by first | (with_reducible assumption) | assumption)) (by have h_ : (x5_1 : Int) < ((x0_1.length : Int) : Int) := of_decide_eq_true (by first | (with_reducible assumption) | assumption); first | exact h_ | (have e_ := (Kd.R_reads' HO_0.out).1; omega) | simpa using h_) (seg := [.int .i64 (wrap64 (x1_1 + 1))]) (j := 1) hcl11 hcc11 (show 2 ≤ 3 from by decide) (x' := (⟨(rd_T70 y273 x5_1).f0, wrap64 (x1_1 + 1), (rd_T70 y273 x5_1).f2⟩ : S70)) (k70_mkM _ _ _ (⟨(rd_T70 y273 x5_1).f0, wrap64 (x1_1 + 1), (rd_T70 y273 x5_1).f2⟩ : S70) ) (fun _ hk => hk); have hx11_1 := hcc11 1 _ rfl; (try simp only [show (k70).sz = 3 from rfl, Nat.mul_one, Nat.add_zero] at hx11_1); have hf11_1 := hfr11 1; (try simp only [show (k70).sz = 3 from rfl, Nat.mul_one, Nat.add_zero] at hf11_1); (try clear hcl11); (try clear hcc11); (try clear hfr11); (try clear hM11)) | ((with_reducible refine gate_store (t := 3) (p := 23) rfl ?_); refine store_event (t := 3) (p := 23) (v := ?vo_w12) (w1 := (w10.setCell ⟨go5, (x5_1 : Int).toNat * 3 + 1, none⟩ (.int .i64 (wrap64 (x1_1 + 1))))) ?hg ?ho ?hn ?hr ?_; (case ho => rfl); (case hg => rfl); (case hn => rfl); (case hr => first | (go_simp; done) | (go_simp; rfl)); intro w12 hw; have hg : w10.grownBy w12 (some go5) := (by rw [hw]; exact HP11.2); have hp_ : Kd.R k70 70 w12 w0.heap.size (fun k_ => (P0_ k_ ∨ w.heap.size ≤ k_)) (.slice (some ⟨go5, 0, none⟩) x0_1.length co8) y274 := (by rw [hw, Ny274.out]; exact HP11.1); clear HP11; have n0_ := Aside0.mk (hp_); have n1_ := Aside0.mk ((by rw [hw]; exact below_set (HB.out) GB5.out : Below w0.heap.size w0 w12)); have n2_ := Aside0.mk (Kept.of_grown (S := (fun k_ => P0_ k_)) hg (by repeat (first | (with_reducible first | exact HK.out | apply Kept.alloc | apply Kept.drewN | apply Kept.drew) | exact HK.out)) (fun k_ e_ => (HO_0.out.1 k_ e_))); clear HO_0; clear HB; clear HK; have HO_0 := n0_; have HB := n1_; have HK := n2_; clear n0_ n1_ n2_; clear hg hw hp_; have p7 : 0 ≤ (x5_1 : Int) := of_decide_eq_true (by first | (with_reducible assumption) | assumption); have q7 : (x5_1 : Int) < ((x0_1.length : Int) : Int) := of_decide_eq_true (by first | (with_reducible assumption) | assumption); obtain ⟨ce7, hcl7, hM7, hcc7, hfr7⟩ := Kd.R_elem HO_0.out z70 (x5_1 : Int) p7 q7; obtain rfl := k70_openM hM7; have hx7_0 : w12.cell? ⟨go5, (x5_1 : Int).toNat * 3, none⟩ = some (.int .i64 ((rd_T70 y274 x5_1).f0)) := hcc7 0 _ rfl; have hx7_1 : w12.cell? ⟨go5, (x5_1 : Int).toNat * 3 + 1, none⟩ = some (.int .i64 ((rd_T70 y274 x5_1).f1)) := hcc7 1 _ rfl; have hx7_2 : w12.cell? ⟨go5, (x5_1 : Int).toNat * 3 + 2, none⟩ = some (.bool ((rd_T70 y274 x5_1).f2)) := hcc7 2 _ rfl; have hf7_0 : w12.frozen? ⟨go5, (x5_1 : Int).toNat * 3, none⟩ = false := hfr7 0; have hf7_1 : w12.frozen? ⟨go5, (x5_1 : Int).toNat * 3 + 1, none⟩ = false := hfr7 1; have hf7_2 : w12.frozen? ⟨go5, (x5_1 : Int).toNat * 3 + 2, none⟩ = false := hfr7 2; (try clear hcl7); (try clear hcc7); (try clear hfr7); (try clear hM7); replace p7 := eq_true p7; replace q7 := eq_true q7; have HX13 := Aside0.mk (show Kd.R k70 70 w12 w0.heap.size (fun k_ => (P0_ k_ ∨ w.heap.size ≤ k_)) (.slice (some ⟨go5, 0, none⟩) x0_1.length co8) y274 from (by (with_reducible repeat (first | apply Kd.R_alloc | apply Kd.R_drewN | apply Kd.R_drew)); exact HO_0.out)); obtain ⟨ce13, hcl13, hM13, hcc13, hfr13⟩ := Kd.R_elem HX13.out z70 (x5_1 : Int) (of_decide_eq_true (by first | (with_reducible assumption) | assumption)) (by have h_ : (x5_1 : Int) < ((x0_1.length : Int) : Int) := of_decide_eq_true (by first | (with_reducible assumption) | assumption); first | exact h_ | (have e_ := (Kd.R_reads' HO_0.out).1; omega) | simpa using h_); obtain rfl := k70_openM hM13; have HP13 := Kd.R_seg HX13.out (x5_1 : Int) (of_decide_eq_true (by first | (with_reducible assumption) | assumption)) (by have h_ : (x5_1 : Int) < ((x0_1.length : Int) : Int) := of_decide_eq_true (by first | (with_reducible assumption) | assumption); first | exact h_ | (have e_ := (Kd.R_reads' HO_0.out).1; omega) | simpa using h_) (seg := [.bool ((Int.tmod (wrap64 ((wrap64 (x1_1 + 1)) + 1)) 3) == 0)]) (j := 2) hcl13 hcc13 (show 3 ≤ 3 from by decide) (x' := (⟨(rd_T70 y274 x5_1).f0, (rd_T70 y274 x5_1).f1, ((Int.tmod (wrap64 ((wrap64 (x1_1 + 1)) + 1)) 3) == 0)⟩ : S70)) (k70_mkM _ _ _ (⟨(rd_T70 y274 x5_1).f0, (rd_T70 y274 x5_1).f1, ((Int.tmod (wrap64 ((wrap64 (x1_1 + 1)) + 1)) 3) == 0)⟩ : S70) ) (fun _ hk => hk); have hx13_2 := hcc13 2 _ rfl; (try simp only [show (k70).sz = 3 from rfl, Nat.mul_one, Nat.add_zero] at hx13_2); have hf13_2 := hfr13 2; (try simp only [show (k70).sz = 3 from rfl, Nat.mul_one, Nat.add_zero] at hf13_2); (try clear hcl13); (try clear hcc13); (try clear hfr13); (try clear hM13)) | ((with_reducible refine gate_store (t := 4) (p := 32) rfl ?_); refine store_event (t := 4) (p := 32) (v := ?vo_w14) (w1 := (w12.setCell ⟨go5, (x5_1 : Int).toNat * 3 + 2, none⟩ (.bool ((Int.tmod (wrap64 ((wrap64 (x1_1 + 1)) + 1)) 3) == 0)))) ?hg ?ho ?hn ?hr ?_; (case ho => rfl); (case hg => rfl); (case hn => rfl); (case hr => first | (go_simp; done) | (go_simp; rfl)); intro w14 hw; have hg : w12.grownBy w14 (some go5) := (by rw [hw]; exact HP13.2); have hp_ : Kd.R k70 70 w14 w0.heap.size (fun k_ => (P0_ k_ ∨ w.heap.size ≤ k_)) (.slice (some ⟨go5, 0, none⟩) x0_1.length co8) y275 := (by rw [hw, Ny275.out]; exact HP13.1); clear HP13; have n0_ := Aside0.mk (hp_); have n1_ := Aside0.mk ((by rw [hw]; exact below_set (HB.out) GB5.out : Below w0.heap.size w0 w14)); have n2_ := Aside0.mk (Kept.of_grown (S := (fun k_ => P0_ k_)) hg (by repeat (first | (with_reducible first | exact HK.out | apply Kept.alloc | apply Kept.drewN | apply Kept.drew) | exact HK.out)) (fun k_ e_ => (HO_0.out.1 k_ e_))); clear HO_0; clear HB; clear HK; have HO_0 := n0_; have HB := n1_; have HK := n2_; clear n0_ n1_ n2_; clear hg hw hp_))
          go_roundg k1
          case measure => have := HK1.out; omega
          case rel => exact ⟨(y275), (wrap64 ((wrap64 ((wrap64 (x1_1 + 1)) + 1)) + 1)), (wrap64 (x5_1 + 1)), (by first | rfl | (simp; done) | (simp [*]; done)), (by first | rfl | (simp; done) | (simp [*]; done)), H', ⟨by have := HK1.out; omega⟩, ⟨by (with_reducible repeat (first | apply Kd.R_alloc | apply Kd.R_drewN | apply Kd.R_drew)); exact HO_0.out⟩, ⟨by repeat (first | (with_reducible first | exact HK.out | apply Kept.alloc | apply Kept.drewN | apply Kept.drew) | exact HK.out)⟩, ⟨by repeat (first | (with_reducible first | exact HB.out | apply below_alloc | apply pw_below_drewN | apply below_drew1) | exact HB.out)⟩⟩
        · rw [if_neg c4] at H
          exact absurd H (by simp)
      · rw [if_neg c3] at H
        have c3b0 : decide (x5_1 < (x0_1.length : Int)) = false := decide_eq_false c3
        clear c3
        simp only [Option.some.injEq, Prod.mk.injEq] at H
        obtain ⟨rfl, rfl⟩ := H
        obtain ⟨Ao15, co15, eo15⟩ := Kd.R_slice HO_0.out
        subst eo15
        go_wp2
        go_ret
        exact ⟨by first | rfl | (simp [errW_none, errW_some] <;> rfl) | (simp [*, errW_none, errW_some] <;> rfl), by (with_reducible repeat (first | apply Kd.R_alloc | apply Kd.R_drewN | apply Kd.R_drew)); exact HO_0.out, by repeat (first | (with_reducible first | exact HB.out | apply below_alloc | apply pw_below_drewN | apply below_drew1) | exact HB.out), by repeat (first | (with_reducible first | exact HK.out | apply Kept.alloc | apply Kept.drewN | apply Kept.drew) | exact HK.out)⟩

end Go.Proofs.Ytdpejnckojhgjaa.P
end
section
namespace Go.Proofs.Ytdpejnckojhgjaa.P
open Go.RowKit Go.Proofs.YtdpejnckojhgjaaW.PrintWords Go.Proofs.YtdpejnckojhgjaaW.PrintLast Go.Proofs.YtdpejnckojhgjaaW.PrintMore
attribute [local go_sem] max2_int min2_int max_two min_two max_three min_three max_four min_four   -- for this text's walks alone
set_option linter.unusedVariables false
set_option linter.unusedSimpArgs false

/-! ### laws_heldRegionS: function 29 -/
def laws_heldRegionS.l0 : Nat → List (S70) → Int → Int → Option (Int)
  | 0, _, _, _ => none
  | k + 1, x0, x1, x5 => if x5 < (x0.length : Int) then (if 0 ≤ x5 then (if ((rd_T70 x0 x5).f0) = x1 then (if ((rd_T70 x0 x5).f1) = (wrap64 (x1 + 1)) then (if (((rd_T70 x0 x5).f2) != ((Int.tmod (wrap64 ((wrap64 (x1 + 1)) + 1)) 3) == 0)) = true then (some (-1)) else (laws_heldRegionS.l0 k x0 (wrap64 ((wrap64 ((wrap64 (x1 + 1)) + 1)) + 1)) (wrap64 (x5 + 1)))) else (some (-1))) else (some (-1))) else (none)) else (some x1)
def laws_heldRegionS.f (k : Nat) (l0 : List (S70)) (a1 : Int) : Option (Int) := laws_heldRegionS.l0 k l0 a1 0
theorem laws_heldRegionS.mono_l : ∀ k, (∀ y0 y1 y2, LeO (laws_heldRegionS.l0 k y0 y1 y2) (laws_heldRegionS.l0 (k + 1) y0 y1 y2))
  | 0 => fun _ _ _ r h => by simp [laws_heldRegionS.l0] at h
  | k + 1 => by
    have ih0 := laws_heldRegionS.mono_l k
    · intro y0 y1 y2
      unfold laws_heldRegionS.l0
      repeat' first
      | (with_reducible exact ih0 _ _ _)
      | (with_reducible exact LeO.refl _)
      | (with_reducible exact LeO.none _)
      | (with_reducible refine LeO.ite ?_ ?_)
      | (with_reducible refine LeO.bind ?_ (fun _ => ?_))
      | exact ih0 _ _ _
      | exact LeO.none _
      | refine LeO.ite ?_ ?_
      | refine LeO.bind ?_ (fun _ => ?_)
theorem laws_heldRegionS.mono : ∀ a0 a1 k, LeO (laws_heldRegionS.f k a0 a1) (laws_heldRegionS.f (k + 1) a0 a1) := by
  intro a0 a1 k
  have ih0 := laws_heldRegionS.mono_l k
  unfold laws_heldRegionS.f
  repeat' first
      | (with_reducible exact ih0 _ _ _)
      | (with_reducible exact LeO.refl _)
      | (with_reducible exact LeO.none _)
      | (with_reducible refine LeO.ite ?_ ?_)
      | (with_reducible refine LeO.bind ?_ (fun _ => ?_))
      | exact ih0 _ _ _
      | exact LeO.none _
      | refine LeO.ite ?_ ?_
      | refine LeO.bind ?_ (fun _ => ?_)
set_option maxHeartbeats 8000000 in
set_option maxRecDepth 100000 in
theorem laws_heldRegionS.calls (k : Nat) (A0 : Option Addr) (c0 : Nat) (l0 : List (S70)) (a1 : Int) (r : Int) (w : World) (hr0 : Kd.C k70 w A0 l0.length l0) (hc0 : l0.length ≤ c0) (h : laws_heldRegionS.f k l0 a1 = some r) :
    Calls Try.prog 29 #[.slice A0 l0.length c0, .int .i64 a1] w fun e w' => e = .returned (.int .i64 r) ∧ Drawn0 w w' := by
  have HR0 := Aside0.mk hr0
  have HC0 := Aside0.mk hc0
  clear hr0 hc0
  have H : (laws_heldRegionS.l0 k l0 a1 0) = some r := h
  clear h
  have H' := Aside0.mk H
  clear H
  go_enter Try.func29, Try.ntmps29
  go_wp2
  go_loopg [1, 5] k (fun kq v1 v5 w' => ∃ (x1_1 : Int) (x5_1 : Int), v1 = .int .i64 x1_1 ∧ v5 = .int .i64 x5_1 ∧ Aside0 (laws_heldRegionS.l0 kq l0 x1_1 x5_1 = some r) ∧ Aside0 (kq ≤ k) ∧ Drawn0 w w')
  case atStart => exact ⟨(a1), (0), (by first | rfl | (simp; done) | (simp [*]; done)), (by first | rfl | (simp; done) | (simp [*]; done)), H', ⟨Nat.le_refl _⟩, by repeat (first | exact Drawn0.refl _ | apply Drawn0.step)⟩
  case round =>
    clear H'
    try clear c2
    try clear p2
    obtain ⟨x1_1, x5_1, rfl, rfl, HA, HK1, ⟨m1, rfl⟩⟩ := hrel
    cases gk with
    | zero => exact absurd HA.out (by simp [laws_heldRegionS.l0])
    | succ k1 =>
      have H := HA.out
      clear HA
      simp only [laws_heldRegionS.l0] at H
      by_cases c3 : x5_1 < (l0.length : Int)
      · rw [if_pos c3] at H
        have c3b0 : decide (x5_1 < (l0.length : Int)) = true := decide_eq_true c3
        clear c3
        by_cases c4 : 0 ≤ x5_1
        · rw [if_pos c4] at H
          have c4b0 : decide (0 ≤ x5_1) = true := decide_eq_true c4
          clear c4
          by_cases c5 : ((rd_T70 l0 x5_1).f0) = x1_1
          · rw [if_pos c5] at H
            have c5b0 : (((rd_T70 l0 x5_1).f0) == x1_1) = true := beq_iff_eq.mpr c5
            have c5b1 : (((rd_T70 l0 x5_1).f0) != x1_1) = false := bne_eq_false_iff_eq.mpr c5
            clear c5
            by_cases c6 : ((rd_T70 l0 x5_1).f1) = (wrap64 (x1_1 + 1))
            · rw [if_pos c6] at H
              have c6b0 : (((rd_T70 l0 x5_1).f1) == (wrap64 (x1_1 + 1))) = true := beq_iff_eq.mpr c6
              have c6b1 : (((rd_T70 l0 x5_1).f1) != (wrap64 (x1_1 + 1))) = false := bne_eq_false_iff_eq.mpr c6
              clear c6
              by_cases c7 : (((rd_T70 l0 x5_1).f2) != ((Int.tmod (wrap64 ((wrap64 (x1_1 + 1)) + 1)) 3) == 0)) = true
              · rw [if_pos c7] at H
                have c7b0 : (((rd_T70 l0 x5_1).f2) != ((Int.tmod (wrap64 ((wrap64 (x1_1 + 1)) + 1)) 3) == 0)) = true := c7
                (try (have c7b1 : decide (((rd_T70 l0 x5_1).f2) = ((Int.tmod (wrap64 ((wrap64 (x1_1 + 1)) + 1)) 3) == 0)) = false := by simpa using c7))
                (try (have c7b2 : (((rd_T70 l0 x5_1).f2) == ((Int.tmod (wrap64 ((wrap64 (x1_1 + 1)) + 1)) 3) == 0)) = false := by simpa using c7))
                (try (have c7b3 : ¬ (((rd_T70 l0 x5_1).f2) = ((Int.tmod (wrap64 ((wrap64 (x1_1 + 1)) + 1)) 3) == 0)) := by simpa using c7))
                clear c7
                obtain rfl := Option.some.inj H
                have p276 : 0 ≤ (x5_1 : Int) := of_decide_eq_true (by first | (with_reducible assumption) | assumption)
                have q276 : x5_1 < (l0.length : Int) := of_decide_eq_true (by first | (with_reducible assumption) | assumption)
                obtain ⟨ad276, e276, hx276_0, hx276_1, hx276_2⟩ := at_T70 HR0.out x5_1 p276 q276
                cases e276
                replace p276 := eq_true p276
                replace q276 := eq_true q276
                have p277 : 0 ≤ (x5_1 : Int) := of_decide_eq_true (by first | (with_reducible assumption) | assumption)
                have q277 : x5_1 < (l0.length : Int) := of_decide_eq_true (by first | (with_reducible assumption) | assumption)
                obtain ⟨ad277, e277, hx277_0, hx277_1, hx277_2⟩ := at_T70 HR0.out x5_1 p277 q277
                obtain rfl : ad276 = ad277 := (by injection e277)
                replace p277 := eq_true p277
                replace q277 := eq_true q277
                have p278 : 0 ≤ (x5_1 : Int) := of_decide_eq_true (by first | (with_reducible assumption) | assumption)
                have q278 : x5_1 < (l0.length : Int) := of_decide_eq_true (by first | (with_reducible assumption) | assumption)
                obtain ⟨ad278, e278, hx278_0, hx278_1, hx278_2⟩ := at_T70 HR0.out x5_1 p278 q278
                obtain rfl : ad276 = ad278 := (by injection e278)
                replace p278 := eq_true p278
                replace q278 := eq_true q278
                go_wp2
                go_ret
                exact ⟨by first | rfl | (simp; done) | (simp [*]; done), by repeat (first | exact Drawn0.refl _ | apply Drawn0.step)⟩
              · rw [if_neg c7] at H
                have c7b0 : (((rd_T70 l0 x5_1).f2) != ((Int.tmod (wrap64 ((wrap64 (x1_1 + 1)) + 1)) 3) == 0)) = false := by simpa using c7
                (try (have c7b1 : decide (((rd_T70 l0 x5_1).f2) = ((Int.tmod (wrap64 ((wrap64 (x1_1 + 1)) + 1)) 3) == 0)) = true := by simpa using c7))
                (try (have c7b2 : (((rd_T70 l0 x5_1).f2) == ((Int.tmod (wrap64 ((wrap64 (x1_1 + 1)) + 1)) 3) == 0)) = true := by simpa using c7))
                clear c7
                have H' := Aside0.mk H
                clear H
                have p276 : 0 ≤ (x5_1 : Int) := of_decide_eq_true (by first | (with_reducible assumption) | assumption)
                have q276 : x5_1 < (l0.length : Int) := of_decide_eq_true (by first | (with_reducible assumption) | assumption)
                obtain ⟨ad276, e276, hx276_0, hx276_1, hx276_2⟩ := at_T70 HR0.out x5_1 p276 q276
                cases e276
                replace p276 := eq_true p276
                replace q276 := eq_true q276
                have p277 : 0 ≤ (x5_1 : Int) := of_decide_eq_true (by first | (with_reducible assumption) | assumption)
                have q277 : x5_1 < (l0.length : Int) := of_decide_eq_true (by first | (with_reducible assumption) | assumption)
                obtain ⟨ad277, e277, hx277_0, hx277_1, hx277_2⟩ := at_T70 HR0.out x5_1 p277 q277
                obtain rfl : ad276 = ad277 := (by injection e277)
                replace p277 := eq_true p277
                replace q277 := eq_true q277
                have p278 : 0 ≤ (x5_1 : Int) := of_decide_eq_true (by first | (with_reducible assumption) | assumption)
                have q278 : x5_1 < (l0.length : Int) := of_decide_eq_true (by first | (with_reducible assumption) | assumption)
                obtain ⟨ad278, e278, hx278_0, hx278_1, hx278_2⟩ := at_T70 HR0.out x5_1 p278 q278
                obtain rfl : ad276 = ad278 := (by injection e278)
                replace p278 := eq_true p278
                replace q278 := eq_true q278
                go_wp2
                go_roundg k1
                case measure => have := HK1.out; omega
                case rel => exact ⟨(wrap64 ((wrap64 ((wrap64 (x1_1 + 1)) + 1)) + 1)), (wrap64 (x5_1 + 1)), (by first | rfl | (simp; done) | (simp [*]; done)), (by first | rfl | (simp; done) | (simp [*]; done)), H', ⟨by have := HK1.out; omega⟩, by repeat (first | exact Drawn0.refl _ | apply Drawn0.step)⟩
            · rw [if_neg c6] at H
              have c6b0 : (((rd_T70 l0 x5_1).f1) == (wrap64 (x1_1 + 1))) = false := beq_eq_false_iff_ne.mpr c6
              have c6b1 : (((rd_T70 l0 x5_1).f1) != (wrap64 (x1_1 + 1))) = true := bne_iff_ne.mpr c6
              obtain rfl := Option.some.inj H
              have p276 : 0 ≤ (x5_1 : Int) := of_decide_eq_true (by first | (with_reducible assumption) | assumption)
              have q276 : x5_1 < (l0.length : Int) := of_decide_eq_true (by first | (with_reducible assumption) | assumption)
              obtain ⟨ad276, e276, hx276_0, hx276_1, hx276_2⟩ := at_T70 HR0.out x5_1 p276 q276
              cases e276
              replace p276 := eq_true p276
              replace q276 := eq_true q276
              have p277 : 0 ≤ (x5_1 : Int) := of_decide_eq_true (by first | (with_reducible assumption) | assumption)
              have q277 : x5_1 < (l0.length : Int) := of_decide_eq_true (by first | (with_reducible assumption) | assumption)
              obtain ⟨ad277, e277, hx277_0, hx277_1, hx277_2⟩ := at_T70 HR0.out x5_1 p277 q277
              obtain rfl : ad276 = ad277 := (by injection e277)
              replace p277 := eq_true p277
              replace q277 := eq_true q277
              go_wp2
              go_ret
              exact ⟨by first | rfl | (simp; done) | (simp [*]; done), by repeat (first | exact Drawn0.refl _ | apply Drawn0.step)⟩
          · rw [if_neg c5] at H
            have c5b0 : (((rd_T70 l0 x5_1).f0) == x1_1) = false := beq_eq_false_iff_ne.mpr c5
            have c5b1 : (((rd_T70 l0 x5_1).f0) != x1_1) = true := bne_iff_ne.mpr c5
            obtain rfl := Option.some.inj H
            have p276 : 0 ≤ (x5_1 : Int) := of_decide_eq_true (by first | (with_reducible assumption) | assumption)
            have q276 : x5_1 < (l0.length : Int) := of_decide_eq_true (by first | (with_reducible assumption) | assumption)
            obtain ⟨ad276, e276, hx276_0, hx276_1, hx276_2⟩ := at_T70 HR0.out x5_1 p276 q276
            cases e276
            replace p276 := eq_true p276
            replace q276 := eq_true q276
            go_wp2
            go_ret
            exact ⟨by first | rfl | (simp; done) | (simp [*]; done), by repeat (first | exact Drawn0.refl _ | apply Drawn0.step)⟩
        · rw [if_neg c4] at H
          exact absurd H (by simp)
      · rw [if_neg c3] at H
        have c3b0 : decide (x5_1 < (l0.length : Int)) = false := decide_eq_false c3
        clear c3
        obtain rfl := Option.some.inj H
        go_wp2
        go_ret
        exact ⟨by first | rfl | (simp; done) | (simp [*]; done), by repeat (first | exact Drawn0.refl _ | apply Drawn0.step)⟩

end Go.Proofs.Ytdpejnckojhgjaa.P
end
section
namespace Go.Proofs.Ytdpejnckojhgjaa.P
open Go.RowKit Go.Proofs.YtdpejnckojhgjaaW.PrintWords Go.Proofs.YtdpejnckojhgjaaW.PrintLast Go.Proofs.YtdpejnckojhgjaaW.PrintMore
set_option linter.unusedVariables false
set_option linter.unusedSimpArgs false

set_option maxHeartbeats 8000000 in
set_option maxRecDepth 100000 in
theorem laws_FnExactCutRegions.walk (k : Nat) (A0 : Option Addr) (c0 : Nat) (l0 : List (S68)) (a1 : Int) (a2 : Int) (z : Int) (t : List (S70)) (y0 : List (S70)) (y1 : Bool) (m : Int) (M : List (S70)) (m1 : Int) (M1 : List (S70)) (w : World) (hr0 : Kd.C k68 w A0 l0.length l0) (hc0 : l0.length ≤ c0) (f0 : laws_szRegionS.f l0 1048576 = some z) (f1 : laws_toRegionS.f k l0 = some t) (f2 : spec_CutRegions.f k t a1 a2 = some (y0, y1)) (f3 : impl_CutRegions.f k t a1 a2 = some (y0, y1)) (f4 : laws_eqRegionS.f k y0 y0 = some true) (f5 : laws_eqRegionS.f k t t = some true) (f6 : laws_markRegionS.f k t 1 = some (m, M)) (f7 : laws_markRegionS.f k y0 1 = some (m1, M1)) (f8 : laws_heldRegionS.f k M1 1 = some m1) (n0 : ¬ z < 0) (n1 : ¬ m < 0) (n2 : ¬ m1 < 0) :
    Calls Try.prog 4 #[.slice A0 l0.length c0, .int .i64 a1, .int .i64 a2] w fun e w' => e = .returned (.bool true) ∧ Below w.heap.size w w' := by
  have HR0 := Aside0.mk hr0
  have HC0 := Aside0.mk hc0
  clear hr0 hc0
  have HB := Aside0.mk (Below.refl w.heap.size w)
  have Ff0 := Aside0.mk f0
  have Ff1 := Aside0.mk f1
  have Ff2 := Aside0.mk f2
  have Ff3 := Aside0.mk f3
  have Ff4 := Aside0.mk f4
  have Ff5 := Aside0.mk f5
  have Ff6 := Aside0.mk f6
  have Ff7 := Aside0.mk f7
  have Ff8 := Aside0.mk f8
  clear f0 f1 f2 f3 f4 f5 f6 f7 f8
  have nb0 : decide (z < 0) = false := decide_eq_false n0
  have nb1 : decide (m < 0) = false := decide_eq_false n1
  have nb2 : decide (m1 < 0) = false := decide_eq_false n2
  have eb0 : (y1 != y1) = false := bne_self_eq_false y1
  have eb1 : (m1 != m1) = false := bne_self_eq_false m1
  go_enter Try.func4, Try.ntmps4
  go_wp2_with (first | ((with_reducible refine gate_callee (f := 23) rfl ?_); refine goesL_ (some 20) rfl rfl Try.func23 (by kernel_rfl) rfl #[.slice A0 l0.length c0, .int .i64 (1048576)] rfl (by (try simp only [List.map_toArray, List.map_cons, List.map_nil]); first | done | rfl | (simp only [List.length_drop, List.length_take]; rfl)) ?_; (with_reducible refine (laws_szRegionS.calls A0 c0 l0 (1048576) _ _ ?side1 ?side2 Ff0.out).mono ?_); (case side1 => exact Kd.C_below HR0.out HB.out); (case side2 => exact HC0.out); rintro e w1_ ⟨rfl, hd_⟩; have hb := Drawn0.below hd_; refine ⟨_, rfl, ?_⟩; have n0_ := Aside0.mk (below_step HB.out hb); have z_ := Aside0.mk (show w.heap.size ≤ w1_.heap.size from hb.size); (try clear HB); have HB := n0_; have Z := z_; clear z_ n0_; (try clear hb); (try clear hkp); (try clear hy); (try clear hd_)) | ((with_reducible refine gate_callee (f := 25) rfl ?_); refine goesL_ (some 25) rfl rfl Try.func25 (by kernel_rfl) rfl #[.slice A0 l0.length c0] rfl (by (try simp only [List.map_toArray, List.map_cons, List.map_nil]); first | done | rfl | (simp only [List.length_drop, List.length_take]; rfl)) ?_; (with_reducible refine (laws_toRegionS.calls k A0 c0 l0 _ _ ?side1 ?side2 Ff1.out).mono ?_); (case side1 => exact Kd.C_below HR0.out HB.out); (case side2 => exact HC0.out); rintro e w2_ ⟨v1_0, rfl, ho0, hb⟩; refine ⟨_, rfl, ?_⟩; have n0_ := Aside0.mk (Kd.R_lower (Kd.R_mono (Kd.R_bound ho0) (fun k_ hk_ => (⟨hk_.2.1, hk_.2.2.1⟩ : w1_.heap.size ≤ k_ ∧ k_ < w2_.heap.size))) HB.out.size); have n1_ := Aside0.mk (below_step HB.out hb); have z_ := Aside0.mk (show w.heap.size ≤ w1_.heap.size ∧ w1_.heap.size ≤ w2_.heap.size from ⟨Z.out, hb.size⟩); (try clear HB Z); have HO1 := n0_; have HB := n1_; have Z := z_; clear z_ n0_ n1_; (try clear hb); (try clear hkp); (try clear hy); (try clear hd_); (try clear ho0); obtain ⟨Ao1, co1, eo_⟩ := Kd.R_slice HO1.out; subst eo_) | ((with_reducible refine gate_callee (f := 24) rfl ?_); refine goesL_ (some 28) rfl rfl Try.func24 (by kernel_rfl) rfl #[.slice Ao1 t.length co1, .int .i64 (a1), .int .i64 (a2)] rfl (by (try simp only [List.map_toArray, List.map_cons, List.map_nil]); first | done | rfl | (simp only [List.length_drop, List.length_take]; rfl)) ?_; (with_reducible refine (spec_CutRegions.calls k Ao1 co1 t (a1) (a2) _ _ _ ?side1 ?side2 Ff2.out).mono ?_); (case side1 => exact (Kd.R_reads' HO1.out).2.2); (case side2 => exact (Kd.R_reads' HO1.out).2.1); rintro e w3_ ⟨v2_0, rfl, ho0, hb⟩; refine ⟨_, rfl, ?_⟩; have n0_ := Aside0.mk (Kd.R_below HO1.out hb); have n1_ := Aside0.mk (Kd.R_lower (Kd.R_mono (Kd.R_bound ho0) (fun k_ hk_ => (⟨hk_.2.1, hk_.2.2.1⟩ : w2_.heap.size ≤ k_ ∧ k_ < w3_.heap.size))) HB.out.size); have n2_ := Aside0.mk (below_step HB.out hb); have z_ := Aside0.mk (show w.heap.size ≤ w1_.heap.size ∧ w1_.heap.size ≤ w2_.heap.size ∧ w2_.heap.size ≤ w3_.heap.size from ⟨Z.out.1, Z.out.2, hb.size⟩); (try clear HB HO1 Z); have HO1 := n0_; have HO2 := n1_; have HB := n2_; have Z := z_; clear z_ n0_ n1_ n2_; (try clear hb); (try clear hkp); (try clear hy); (try clear hd_); (try clear ho0); obtain ⟨Ao2, co2, eo_⟩ := Kd.R_slice HO2.out; subst eo_) | ((with_reducible refine gate_callee (f := 25) rfl ?_); refine goesL_ (some 32) rfl rfl Try.func25 (by kernel_rfl) rfl #[.slice A0 l0.length c0] rfl (by (try simp only [List.map_toArray, List.map_cons, List.map_nil]); first | done | rfl | (simp only [List.length_drop, List.length_take]; rfl)) ?_; (with_reducible refine (laws_toRegionS.calls k A0 c0 l0 _ _ ?side1 ?side2 Ff1.out).mono ?_); (case side1 => exact Kd.C_below HR0.out HB.out); (case side2 => exact HC0.out); rintro e w4_ ⟨v3_0, rfl, ho0, hb⟩; refine ⟨_, rfl, ?_⟩; have n0_ := Aside0.mk (Kd.R_below HO2.out hb); have n1_ := Aside0.mk (Kd.R_lower (Kd.R_mono (Kd.R_bound ho0) (fun k_ hk_ => (⟨hk_.2.1, hk_.2.2.1⟩ : w3_.heap.size ≤ k_ ∧ k_ < w4_.heap.size))) HB.out.size); have n2_ := Aside0.mk (below_step HB.out hb); have z_ := Aside0.mk (show w.heap.size ≤ w1_.heap.size ∧ w1_.heap.size ≤ w2_.heap.size ∧ w2_.heap.size ≤ w3_.heap.size ∧ w3_.heap.size ≤ w4_.heap.size from ⟨Z.out.1, Z.out.2.1, Z.out.2.2, hb.size⟩); (try clear HB HO2 Z); have HO2 := n0_; have HO3 := n1_; have HB := n2_; have Z := z_; clear z_ n0_ n1_ n2_; (try clear hb); (try clear hkp); (try clear hy); (try clear hd_); (try clear ho0); obtain ⟨Ao3, co3, eo_⟩ := Kd.R_slice HO3.out; subst eo_) | ((with_reducible refine gate_callee (f := 26) rfl ?_); refine goesL_ (some 37) rfl rfl Try.func26 (by kernel_rfl) rfl #[.slice Ao3 t.length co3, .int .i64 (a1), .int .i64 (a2)] rfl (by (try simp only [List.map_toArray, List.map_cons, List.map_nil]); first | done | rfl | (simp only [List.length_drop, List.length_take]; rfl)) ?_; (with_reducible refine (impl_CutRegions.calls k Ao3 co3 t (a1) (a2) _ _ _ ?side1 ?side2 Ff3.out).mono ?_); (case side1 => exact (Kd.R_reads' HO3.out).2.2); (case side2 => exact (Kd.R_reads' HO3.out).2.1); rintro e w5_ ⟨v4_0, rfl, ho0, hb⟩; refine ⟨_, rfl, ?_⟩; have n0_ := Aside0.mk (Kd.R_below HO2.out hb); have n1_ := Aside0.mk (Kd.R_below HO3.out hb); have n2_ := Aside0.mk (Kd.R_lower (Kd.R_mono (Kd.R_bound ho0) (fun k_ hk_ => (⟨hk_.2.1, hk_.2.2.1⟩ : w4_.heap.size ≤ k_ ∧ k_ < w5_.heap.size))) HB.out.size); have n3_ := Aside0.mk (below_step HB.out hb); have z_ := Aside0.mk (show w.heap.size ≤ w1_.heap.size ∧ w1_.heap.size ≤ w2_.heap.size ∧ w2_.heap.size ≤ w3_.heap.size ∧ w3_.heap.size ≤ w4_.heap.size ∧ w4_.heap.size ≤ w5_.heap.size from ⟨Z.out.1, Z.out.2.1, Z.out.2.2.1, Z.out.2.2.2, hb.size⟩); (try clear HB HO2 HO3 Z); have HO2 := n0_; have HO3 := n1_; have HO4 := n2_; have HB := n3_; have Z := z_; clear z_ n0_ n1_ n2_ n3_; (try clear hb); (try clear hkp); (try clear hy); (try clear hd_); (try clear ho0); obtain ⟨Ao4, co4, eo_⟩ := Kd.R_slice HO4.out; subst eo_) | ((with_reducible refine gate_callee (f := 27) rfl ?_); refine goesL_ (some 42) rfl rfl Try.func27 (by kernel_rfl) rfl #[.slice Ao4 y0.length co4, .slice Ao2 y0.length co2] rfl (by (try simp only [List.map_toArray, List.map_cons, List.map_nil]); first | done | rfl | (simp only [List.length_drop, List.length_take]; rfl)) ?_; (with_reducible refine (laws_eqRegionS.calls k Ao4 co4 y0 Ao2 co2 y0 _ _ ?side1 ?side2 ?side3 ?side4 Ff4.out).mono ?_); (case side1 => exact (Kd.R_reads' HO4.out).2.2); (case side2 => exact (Kd.R_reads' HO4.out).2.1); (case side3 => exact (Kd.R_reads' HO2.out).2.2); (case side4 => exact (Kd.R_reads' HO2.out).2.1); rintro e w6_ ⟨rfl, hb⟩; refine ⟨_, rfl, ?_⟩; have n0_ := Aside0.mk (Kd.R_below HO2.out hb); have n1_ := Aside0.mk (Kd.R_below HO3.out hb); have n2_ := Aside0.mk (Kd.R_below HO4.out hb); have n3_ := Aside0.mk (below_step HB.out hb); have z_ := Aside0.mk (show w.heap.size ≤ w1_.heap.size ∧ w1_.heap.size ≤ w2_.heap.size ∧ w2_.heap.size ≤ w3_.heap.size ∧ w3_.heap.size ≤ w4_.heap.size ∧ w4_.heap.size ≤ w5_.heap.size ∧ w5_.heap.size ≤ w6_.heap.size from ⟨Z.out.1, Z.out.2.1, Z.out.2.2.1, Z.out.2.2.2.1, Z.out.2.2.2.2, hb.size⟩); (try clear HB HO2 HO3 HO4 Z); have HO2 := n0_; have HO3 := n1_; have HO4 := n2_; have HB := n3_; have Z := z_; clear z_ n0_ n1_ n2_ n3_; (try clear hb); (try clear hkp); (try clear hy); (try clear hd_)) | ((with_reducible refine gate_callee (f := 25) rfl ?_); refine goesL_ (some 51) rfl rfl Try.func25 (by kernel_rfl) rfl #[.slice A0 l0.length c0] rfl (by (try simp only [List.map_toArray, List.map_cons, List.map_nil]); first | done | rfl | (simp only [List.length_drop, List.length_take]; rfl)) ?_; (with_reducible refine (laws_toRegionS.calls k A0 c0 l0 _ _ ?side1 ?side2 Ff1.out).mono ?_); (case side1 => exact Kd.C_below HR0.out HB.out); (case side2 => exact HC0.out); rintro e w7_ ⟨v6_0, rfl, ho0, hb⟩; refine ⟨_, rfl, ?_⟩; have n0_ := Aside0.mk (Kd.R_below HO2.out hb); have n1_ := Aside0.mk (Kd.R_below HO3.out hb); have n2_ := Aside0.mk (Kd.R_below HO4.out hb); have n3_ := Aside0.mk (Kd.R_lower (Kd.R_mono (Kd.R_bound ho0) (fun k_ hk_ => (⟨hk_.2.1, hk_.2.2.1⟩ : w6_.heap.size ≤ k_ ∧ k_ < w7_.heap.size))) HB.out.size); have n4_ := Aside0.mk (below_step HB.out hb); have z_ := Aside0.mk (show w.heap.size ≤ w1_.heap.size ∧ w1_.heap.size ≤ w2_.heap.size ∧ w2_.heap.size ≤ w3_.heap.size ∧ w3_.heap.size ≤ w4_.heap.size ∧ w4_.heap.size ≤ w5_.heap.size ∧ w5_.heap.size ≤ w6_.heap.size ∧ w6_.heap.size ≤ w7_.heap.size from ⟨Z.out.1, Z.out.2.1, Z.out.2.2.1, Z.out.2.2.2.1, Z.out.2.2.2.2.1, Z.out.2.2.2.2.2, hb.size⟩); (try clear HB HO2 HO3 HO4 Z); have HO2 := n0_; have HO3 := n1_; have HO4 := n2_; have HO5 := n3_; have HB := n4_; have Z := z_; clear z_ n0_ n1_ n2_ n3_ n4_; (try clear hb); (try clear hkp); (try clear hy); (try clear hd_); (try clear ho0); obtain ⟨Ao5, co5, eo_⟩ := Kd.R_slice HO5.out; subst eo_) | ((with_reducible refine gate_callee (f := 27) rfl ?_); refine goesL_ (some 52) rfl rfl Try.func27 (by kernel_rfl) rfl #[.slice Ao3 t.length co3, .slice Ao5 t.length co5] rfl (by (try simp only [List.map_toArray, List.map_cons, List.map_nil]); first | done | rfl | (simp only [List.length_drop, List.length_take]; rfl)) ?_; (with_reducible refine (laws_eqRegionS.calls k Ao3 co3 t Ao5 co5 t _ _ ?side1 ?side2 ?side3 ?side4 Ff5.out).mono ?_); (case side1 => exact (Kd.R_reads' HO3.out).2.2); (case side2 => exact (Kd.R_reads' HO3.out).2.1); (case side3 => exact (Kd.R_reads' HO5.out).2.2); (case side4 => exact (Kd.R_reads' HO5.out).2.1); rintro e w8_ ⟨rfl, hb⟩; refine ⟨_, rfl, ?_⟩; have n0_ := Aside0.mk (Kd.R_below HO2.out hb); have n1_ := Aside0.mk (Kd.R_below HO3.out hb); have n2_ := Aside0.mk (Kd.R_below HO4.out hb); have n3_ := Aside0.mk (Kd.R_below HO5.out hb); have n4_ := Aside0.mk (below_step HB.out hb); have z_ := Aside0.mk (show w.heap.size ≤ w1_.heap.size ∧ w1_.heap.size ≤ w2_.heap.size ∧ w2_.heap.size ≤ w3_.heap.size ∧ w3_.heap.size ≤ w4_.heap.size ∧ w4_.heap.size ≤ w5_.heap.size ∧ w5_.heap.size ≤ w6_.heap.size ∧ w6_.heap.size ≤ w7_.heap.size ∧ w7_.heap.size ≤ w8_.heap.size from ⟨Z.out.1, Z.out.2.1, Z.out.2.2.1, Z.out.2.2.2.1, Z.out.2.2.2.2.1, Z.out.2.2.2.2.2.1, Z.out.2.2.2.2.2.2, hb.size⟩); (try clear HB HO2 HO3 HO4 HO5 Z); have HO2 := n0_; have HO3 := n1_; have HO4 := n2_; have HO5 := n3_; have HB := n4_; have Z := z_; clear z_ n0_ n1_ n2_ n3_ n4_; (try clear hb); (try clear hkp); (try clear hy); (try clear hd_)) | ((with_reducible refine gate_callee (f := 28) rfl ?_); refine goesL_ (some 56) rfl rfl Try.func28 (by kernel_rfl) rfl #[.slice Ao3 t.length co3, .int .i64 (1)] rfl (by (try simp only [List.map_toArray, List.map_cons, List.map_nil]); first | done | rfl | (simp only [List.length_drop, List.length_take]; rfl)) ?_; (with_reducible refine (laws_markRegionS.calls k (fun k_ => w3_.heap.size ≤ k_ ∧ k_ < w4_.heap.size) (.slice Ao3 t.length co3) t (1) _ _ w _ ?side1 ?side2 Ff6.out).mono ?_); (case side1 => exact HB.out); (case side2 => exact HO3.out); rintro e w9_ ⟨rfl, hy, hb, hkp⟩; refine ⟨_, rfl, ?_⟩; have n0_ := Aside0.mk (Kd.R_kept HO2.out hkp (fun k_ hk_ hs_ => by have := Z.out; omega)); have n1_ := Aside0.mk (Kd.R_kept HO4.out hkp (fun k_ hk_ hs_ => by have := Z.out; omega)); have n2_ := Aside0.mk (Kd.R_mono (Kd.R_bound hy) (fun k_ hk_ => (hk_.1.elim (fun h_ => .inl h_) (fun h_ => .inr ⟨h_, hk_.2.2.1⟩) : (w3_.heap.size ≤ k_ ∧ k_ < w4_.heap.size) ∨ (w8_.heap.size ≤ k_ ∧ k_ < w9_.heap.size)))); have n3_ := Aside0.mk hb; have z_ := Aside0.mk (show w.heap.size ≤ w1_.heap.size ∧ w1_.heap.size ≤ w2_.heap.size ∧ w2_.heap.size ≤ w3_.heap.size ∧ w3_.heap.size ≤ w4_.heap.size ∧ w4_.heap.size ≤ w5_.heap.size ∧ w5_.heap.size ≤ w6_.heap.size ∧ w6_.heap.size ≤ w7_.heap.size ∧ w7_.heap.size ≤ w8_.heap.size ∧ w8_.heap.size ≤ w9_.heap.size from ⟨Z.out.1, Z.out.2.1, Z.out.2.2.1, Z.out.2.2.2.1, Z.out.2.2.2.2.1, Z.out.2.2.2.2.2.1, Z.out.2.2.2.2.2.2.1, Z.out.2.2.2.2.2.2.2, hkp.1⟩); (try clear HB HO2 HO3 HO4 Z); have HO2 := n0_; have HO4 := n1_; have HO3 := n2_; have HB := n3_; have Z := z_; clear z_ n0_ n1_ n2_ n3_; (try clear hb); (try clear hkp); (try clear hy); (try clear hd_); have hl8 := (Kd.R_reads' HO3.out).1; (try rw [hl8] at HO3)) | (go_at_call 27; refine calls_of_args (args' := #[.slice Ao4 y0.length co4, .slice Ao2 y0.length co2]) (by first | rfl | (simp only [hl8]; done) | (simp only [hl8]; rfl)) ?_; (with_reducible refine (laws_eqRegionS.calls k Ao4 co4 y0 Ao2 co2 y0 _ _ ?side1 ?side2 ?side3 ?side4 Ff4.out).mono ?_); (case side1 => exact (Kd.R_reads' HO4.out).2.2); (case side2 => exact (Kd.R_reads' HO4.out).2.1); (case side3 => exact (Kd.R_reads' HO2.out).2.2); (case side4 => exact (Kd.R_reads' HO2.out).2.1); rintro e w10_ ⟨rfl, hb⟩; have n0_ := Aside0.mk (Kd.R_below HO2.out hb); have n1_ := Aside0.mk (Kd.R_below HO4.out hb); have n2_ := Aside0.mk (below_step HB.out hb); have z_ := Aside0.mk (show w.heap.size ≤ w1_.heap.size ∧ w1_.heap.size ≤ w2_.heap.size ∧ w2_.heap.size ≤ w3_.heap.size ∧ w3_.heap.size ≤ w4_.heap.size ∧ w4_.heap.size ≤ w5_.heap.size ∧ w5_.heap.size ≤ w6_.heap.size ∧ w6_.heap.size ≤ w7_.heap.size ∧ w7_.heap.size ≤ w8_.heap.size ∧ w8_.heap.size ≤ w9_.heap.size ∧ w9_.heap.size ≤ w10_.heap.size from ⟨Z.out.1, Z.out.2.1, Z.out.2.2.1, Z.out.2.2.2.1, Z.out.2.2.2.2.1, Z.out.2.2.2.2.2.1, Z.out.2.2.2.2.2.2.1, Z.out.2.2.2.2.2.2.2.1, Z.out.2.2.2.2.2.2.2.2, hb.size⟩); (try clear HB HO2 HO4 Z); have HO2 := n0_; have HO4 := n1_; have HB := n2_; have Z := z_; clear z_ n0_ n1_ n2_; (try clear hb); (try clear hkp); (try clear hy); (try clear hd_)) | ((with_reducible refine gate_callee (f := 28) rfl ?_); refine goesL_ (some 72) rfl rfl Try.func28 (by kernel_rfl) rfl #[.slice Ao4 y0.length co4, .int .i64 (1)] rfl (by (try simp only [List.map_toArray, List.map_cons, List.map_nil]); first | done | rfl | (simp only [hl8]; done) | (simp only [hl8]; rfl) | (simp only [List.length_drop, List.length_take]; rfl)) ?_; (with_reducible refine (laws_markRegionS.calls k (fun k_ => w4_.heap.size ≤ k_ ∧ k_ < w5_.heap.size) (.slice Ao4 y0.length co4) y0 (1) _ _ w _ ?side1 ?side2 Ff7.out).mono ?_); (case side1 => exact HB.out); (case side2 => exact HO4.out); rintro e w11_ ⟨rfl, hy, hb, hkp⟩; refine ⟨_, rfl, ?_⟩; have n0_ := Aside0.mk (Kd.R_kept HO2.out hkp (fun k_ hk_ hs_ => by have := Z.out; omega)); have n1_ := Aside0.mk (Kd.R_mono (Kd.R_bound hy) (fun k_ hk_ => (hk_.1.elim (fun h_ => .inl h_) (fun h_ => .inr ⟨h_, hk_.2.2.1⟩) : (w4_.heap.size ≤ k_ ∧ k_ < w5_.heap.size) ∨ (w10_.heap.size ≤ k_ ∧ k_ < w11_.heap.size)))); have n2_ := Aside0.mk hb; have z_ := Aside0.mk (show w.heap.size ≤ w1_.heap.size ∧ w1_.heap.size ≤ w2_.heap.size ∧ w2_.heap.size ≤ w3_.heap.size ∧ w3_.heap.size ≤ w4_.heap.size ∧ w4_.heap.size ≤ w5_.heap.size ∧ w5_.heap.size ≤ w6_.heap.size ∧ w6_.heap.size ≤ w7_.heap.size ∧ w7_.heap.size ≤ w8_.heap.size ∧ w8_.heap.size ≤ w9_.heap.size ∧ w9_.heap.size ≤ w10_.heap.size ∧ w10_.heap.size ≤ w11_.heap.size from ⟨Z.out.1, Z.out.2.1, Z.out.2.2.1, Z.out.2.2.2.1, Z.out.2.2.2.2.1, Z.out.2.2.2.2.2.1, Z.out.2.2.2.2.2.2.1, Z.out.2.2.2.2.2.2.2.1, Z.out.2.2.2.2.2.2.2.2.1, Z.out.2.2.2.2.2.2.2.2.2, hkp.1⟩); (try clear HB HO2 HO4 Z); have HO2 := n0_; have HO4 := n1_; have HB := n2_; have Z := z_; clear z_ n0_ n1_ n2_; (try clear hb); (try clear hkp); (try clear hy); (try clear hd_); have hl10 := (Kd.R_reads' HO4.out).1; (try rw [hl10] at HO4)) | ((with_reducible refine gate_callee (f := 29) rfl ?_); refine goesL_ (some 75) rfl rfl Try.func29 (by kernel_rfl) rfl #[.slice Ao4 M1.length co4, .int .i64 (1)] rfl (by (try simp only [List.map_toArray, List.map_cons, List.map_nil]); first | done | rfl | (simp only [hl8]; done) | (simp only [hl8]; rfl) | (simp only [hl10]; done) | (simp only [hl10]; rfl) | (simp only [hl8, hl10]; done) | (simp only [hl8, hl10]; rfl) | (simp only [List.length_drop, List.length_take]; rfl)) ?_; (with_reducible refine (laws_heldRegionS.calls k Ao4 co4 M1 (1) _ _ ?side1 ?side2 Ff8.out).mono ?_); (case side1 => exact (Kd.R_reads' HO4.out).2.2); (case side2 => exact (Kd.R_reads' HO4.out).2.1); rintro e w12_ ⟨rfl, hd_⟩; have hb := Drawn0.below hd_; refine ⟨_, rfl, ?_⟩; have n0_ := Aside0.mk (Kd.R_below HO2.out hb); have n1_ := Aside0.mk (Kd.R_below HO4.out hb); have n2_ := Aside0.mk (below_step HB.out hb); have z_ := Aside0.mk (show w.heap.size ≤ w1_.heap.size ∧ w1_.heap.size ≤ w2_.heap.size ∧ w2_.heap.size ≤ w3_.heap.size ∧ w3_.heap.size ≤ w4_.heap.size ∧ w4_.heap.size ≤ w5_.heap.size ∧ w5_.heap.size ≤ w6_.heap.size ∧ w6_.heap.size ≤ w7_.heap.size ∧ w7_.heap.size ≤ w8_.heap.size ∧ w8_.heap.size ≤ w9_.heap.size ∧ w9_.heap.size ≤ w10_.heap.size ∧ w10_.heap.size ≤ w11_.heap.size ∧ w11_.heap.size ≤ w12_.heap.size from ⟨Z.out.1, Z.out.2.1, Z.out.2.2.1, Z.out.2.2.2.1, Z.out.2.2.2.2.1, Z.out.2.2.2.2.2.1, Z.out.2.2.2.2.2.2.1, Z.out.2.2.2.2.2.2.2.1, Z.out.2.2.2.2.2.2.2.2.1, Z.out.2.2.2.2.2.2.2.2.2.1, Z.out.2.2.2.2.2.2.2.2.2.2, hb.size⟩); (try clear HB HO2 HO4 Z); have HO2 := n0_; have HO4 := n1_; have HB := n2_; have Z := z_; clear z_ n0_ n1_ n2_; (try clear hb); (try clear hkp); (try clear hy); (try clear hd_)) | ((with_reducible refine gate_callee (f := 25) rfl ?_); refine goesL_ (some 83) rfl rfl Try.func25 (by kernel_rfl) rfl #[.slice A0 l0.length c0] rfl (by (try simp only [List.map_toArray, List.map_cons, List.map_nil]); first | done | rfl | (simp only [hl8]; done) | (simp only [hl8]; rfl) | (simp only [hl10]; done) | (simp only [hl10]; rfl) | (simp only [hl8, hl10]; done) | (simp only [hl8, hl10]; rfl) | (simp only [List.length_drop, List.length_take]; rfl)) ?_; (with_reducible refine (laws_toRegionS.calls k A0 c0 l0 _ _ ?side1 ?side2 Ff1.out).mono ?_); (case side1 => exact Kd.C_below HR0.out HB.out); (case side2 => exact HC0.out); rintro e w13_ ⟨v12_0, rfl, ho0, hb⟩; refine ⟨_, rfl, ?_⟩; have n0_ := Aside0.mk (Kd.R_below HO2.out hb); have n1_ := Aside0.mk (Kd.R_below HO4.out hb); have n2_ := Aside0.mk (Kd.R_lower (Kd.R_mono (Kd.R_bound ho0) (fun k_ hk_ => (⟨hk_.2.1, hk_.2.2.1⟩ : w12_.heap.size ≤ k_ ∧ k_ < w13_.heap.size))) HB.out.size); have n3_ := Aside0.mk (below_step HB.out hb); have z_ := Aside0.mk (show w.heap.size ≤ w1_.heap.size ∧ w1_.heap.size ≤ w2_.heap.size ∧ w2_.heap.size ≤ w3_.heap.size ∧ w3_.heap.size ≤ w4_.heap.size ∧ w4_.heap.size ≤ w5_.heap.size ∧ w5_.heap.size ≤ w6_.heap.size ∧ w6_.heap.size ≤ w7_.heap.size ∧ w7_.heap.size ≤ w8_.heap.size ∧ w8_.heap.size ≤ w9_.heap.size ∧ w9_.heap.size ≤ w10_.heap.size ∧ w10_.heap.size ≤ w11_.heap.size ∧ w11_.heap.size ≤ w12_.heap.size ∧ w12_.heap.size ≤ w13_.heap.size from ⟨Z.out.1, Z.out.2.1, Z.out.2.2.1, Z.out.2.2.2.1, Z.out.2.2.2.2.1, Z.out.2.2.2.2.2.1, Z.out.2.2.2.2.2.2.1, Z.out.2.2.2.2.2.2.2.1, Z.out.2.2.2.2.2.2.2.2.1, Z.out.2.2.2.2.2.2.2.2.2.1, Z.out.2.2.2.2.2.2.2.2.2.2.1, Z.out.2.2.2.2.2.2.2.2.2.2.2, hb.size⟩); (try clear HB HO2 HO4 Z); have HO2 := n0_; have HO4 := n1_; have HO6 := n2_; have HB := n3_; have Z := z_; clear z_ n0_ n1_ n2_ n3_; (try clear hb); (try clear hkp); (try clear hy); (try clear hd_); (try clear ho0); obtain ⟨Ao6, co6, eo_⟩ := Kd.R_slice HO6.out; subst eo_) | ((with_reducible refine gate_callee (f := 26) rfl ?_); refine goesL_ (some 86) rfl rfl Try.func26 (by kernel_rfl) rfl #[.slice Ao6 t.length co6, .int .i64 (a1), .int .i64 (a2)] rfl (by (try simp only [List.map_toArray, List.map_cons, List.map_nil]); first | done | rfl | (simp only [hl8]; done) | (simp only [hl8]; rfl) | (simp only [hl10]; done) | (simp only [hl10]; rfl) | (simp only [hl8, hl10]; done) | (simp only [hl8, hl10]; rfl) | (simp only [List.length_drop, List.length_take]; rfl)) ?_; (with_reducible refine (impl_CutRegions.calls k Ao6 co6 t (a1) (a2) _ _ _ ?side1 ?side2 Ff3.out).mono ?_); (case side1 => exact (Kd.R_reads' HO6.out).2.2); (case side2 => exact (Kd.R_reads' HO6.out).2.1); rintro e w14_ ⟨v13_0, rfl, ho0, hb⟩; refine ⟨_, rfl, ?_⟩; have n0_ := Aside0.mk (Kd.R_below HO2.out hb); have n1_ := Aside0.mk (Kd.R_below HO4.out hb); have n2_ := Aside0.mk (Kd.R_below HO6.out hb); have n3_ := Aside0.mk (Kd.R_lower (Kd.R_mono (Kd.R_bound ho0) (fun k_ hk_ => (⟨hk_.2.1, hk_.2.2.1⟩ : w13_.heap.size ≤ k_ ∧ k_ < w14_.heap.size))) HB.out.size); have n4_ := Aside0.mk (below_step HB.out hb); have z_ := Aside0.mk (show w.heap.size ≤ w1_.heap.size ∧ w1_.heap.size ≤ w2_.heap.size ∧ w2_.heap.size ≤ w3_.heap.size ∧ w3_.heap.size ≤ w4_.heap.size ∧ w4_.heap.size ≤ w5_.heap.size ∧ w5_.heap.size ≤ w6_.heap.size ∧ w6_.heap.size ≤ w7_.heap.size ∧ w7_.heap.size ≤ w8_.heap.size ∧ w8_.heap.size ≤ w9_.heap.size ∧ w9_.heap.size ≤ w10_.heap.size ∧ w10_.heap.size ≤ w11_.heap.size ∧ w11_.heap.size ≤ w12_.heap.size ∧ w12_.heap.size ≤ w13_.heap.size ∧ w13_.heap.size ≤ w14_.heap.size from ⟨Z.out.1, Z.out.2.1, Z.out.2.2.1, Z.out.2.2.2.1, Z.out.2.2.2.2.1, Z.out.2.2.2.2.2.1, Z.out.2.2.2.2.2.2.1, Z.out.2.2.2.2.2.2.2.1, Z.out.2.2.2.2.2.2.2.2.1, Z.out.2.2.2.2.2.2.2.2.2.1, Z.out.2.2.2.2.2.2.2.2.2.2.1, Z.out.2.2.2.2.2.2.2.2.2.2.2.1, Z.out.2.2.2.2.2.2.2.2.2.2.2.2, hb.size⟩); (try clear HB HO2 HO4 HO6 Z); have HO2 := n0_; have HO4 := n1_; have HO6 := n2_; have HO7 := n3_; have HB := n4_; have Z := z_; clear z_ n0_ n1_ n2_ n3_ n4_; (try clear hb); (try clear hkp); (try clear hy); (try clear hd_); (try clear ho0); obtain ⟨Ao7, co7, eo_⟩ := Kd.R_slice HO7.out; subst eo_) | ((with_reducible refine gate_callee (f := 27) rfl ?_); refine goesL_ (some 91) rfl rfl Try.func27 (by kernel_rfl) rfl #[.slice Ao7 y0.length co7, .slice Ao2 y0.length co2] rfl (by (try simp only [List.map_toArray, List.map_cons, List.map_nil]); first | done | rfl | (simp only [hl8]; done) | (simp only [hl8]; rfl) | (simp only [hl10]; done) | (simp only [hl10]; rfl) | (simp only [hl8, hl10]; done) | (simp only [hl8, hl10]; rfl) | (simp only [List.length_drop, List.length_take]; rfl)) ?_; (with_reducible refine (laws_eqRegionS.calls k Ao7 co7 y0 Ao2 co2 y0 _ _ ?side1 ?side2 ?side3 ?side4 Ff4.out).mono ?_); (case side1 => exact (Kd.R_reads' HO7.out).2.2); (case side2 => exact (Kd.R_reads' HO7.out).2.1); (case side3 => exact (Kd.R_reads' HO2.out).2.2); (case side4 => exact (Kd.R_reads' HO2.out).2.1); rintro e w15_ ⟨rfl, hb⟩; refine ⟨_, rfl, ?_⟩; have n0_ := Aside0.mk (Kd.R_below HO2.out hb); have n1_ := Aside0.mk (Kd.R_below HO4.out hb); have n2_ := Aside0.mk (Kd.R_below HO7.out hb); have n3_ := Aside0.mk (below_step HB.out hb); have z_ := Aside0.mk (show w.heap.size ≤ w1_.heap.size ∧ w1_.heap.size ≤ w2_.heap.size ∧ w2_.heap.size ≤ w3_.heap.size ∧ w3_.heap.size ≤ w4_.heap.size ∧ w4_.heap.size ≤ w5_.heap.size ∧ w5_.heap.size ≤ w6_.heap.size ∧ w6_.heap.size ≤ w7_.heap.size ∧ w7_.heap.size ≤ w8_.heap.size ∧ w8_.heap.size ≤ w9_.heap.size ∧ w9_.heap.size ≤ w10_.heap.size ∧ w10_.heap.size ≤ w11_.heap.size ∧ w11_.heap.size ≤ w12_.heap.size ∧ w12_.heap.size ≤ w13_.heap.size ∧ w13_.heap.size ≤ w14_.heap.size ∧ w14_.heap.size ≤ w15_.heap.size from ⟨Z.out.1, Z.out.2.1, Z.out.2.2.1, Z.out.2.2.2.1, Z.out.2.2.2.2.1, Z.out.2.2.2.2.2.1, Z.out.2.2.2.2.2.2.1, Z.out.2.2.2.2.2.2.2.1, Z.out.2.2.2.2.2.2.2.2.1, Z.out.2.2.2.2.2.2.2.2.2.1, Z.out.2.2.2.2.2.2.2.2.2.2.1, Z.out.2.2.2.2.2.2.2.2.2.2.2.1, Z.out.2.2.2.2.2.2.2.2.2.2.2.2.1, Z.out.2.2.2.2.2.2.2.2.2.2.2.2.2, hb.size⟩); (try clear HB HO2 HO4 HO7 Z); have HO2 := n0_; have HO4 := n1_; have HO7 := n2_; have HB := n3_; have Z := z_; clear z_ n0_ n1_ n2_ n3_; (try clear hb); (try clear hkp); (try clear hy); (try clear hd_)) | ((with_reducible refine gate_callee (f := 29) rfl ?_); refine goesL_ (some 100) rfl rfl Try.func29 (by kernel_rfl) rfl #[.slice Ao4 M1.length co4, .int .i64 (1)] rfl (by (try simp only [List.map_toArray, List.map_cons, List.map_nil]); first | done | rfl | (simp only [hl8]; done) | (simp only [hl8]; rfl) | (simp only [hl10]; done) | (simp only [hl10]; rfl) | (simp only [hl8, hl10]; done) | (simp only [hl8, hl10]; rfl) | (simp only [List.length_drop, List.length_take]; rfl)) ?_; (with_reducible refine (laws_heldRegionS.calls k Ao4 co4 M1 (1) _ _ ?side1 ?side2 Ff8.out).mono ?_); (case side1 => exact (Kd.R_reads' HO4.out).2.2); (case side2 => exact (Kd.R_reads' HO4.out).2.1); rintro e w16_ ⟨rfl, hd_⟩; have hb := Drawn0.below hd_; refine ⟨_, rfl, ?_⟩; have n0_ := Aside0.mk (Kd.R_below HO4.out hb); have n1_ := Aside0.mk (below_step HB.out hb); have z_ := Aside0.mk (show w.heap.size ≤ w1_.heap.size ∧ w1_.heap.size ≤ w2_.heap.size ∧ w2_.heap.size ≤ w3_.heap.size ∧ w3_.heap.size ≤ w4_.heap.size ∧ w4_.heap.size ≤ w5_.heap.size ∧ w5_.heap.size ≤ w6_.heap.size ∧ w6_.heap.size ≤ w7_.heap.size ∧ w7_.heap.size ≤ w8_.heap.size ∧ w8_.heap.size ≤ w9_.heap.size ∧ w9_.heap.size ≤ w10_.heap.size ∧ w10_.heap.size ≤ w11_.heap.size ∧ w11_.heap.size ≤ w12_.heap.size ∧ w12_.heap.size ≤ w13_.heap.size ∧ w13_.heap.size ≤ w14_.heap.size ∧ w14_.heap.size ≤ w15_.heap.size ∧ w15_.heap.size ≤ w16_.heap.size from ⟨Z.out.1, Z.out.2.1, Z.out.2.2.1, Z.out.2.2.2.1, Z.out.2.2.2.2.1, Z.out.2.2.2.2.2.1, Z.out.2.2.2.2.2.2.1, Z.out.2.2.2.2.2.2.2.1, Z.out.2.2.2.2.2.2.2.2.1, Z.out.2.2.2.2.2.2.2.2.2.1, Z.out.2.2.2.2.2.2.2.2.2.2.1, Z.out.2.2.2.2.2.2.2.2.2.2.2.1, Z.out.2.2.2.2.2.2.2.2.2.2.2.2.1, Z.out.2.2.2.2.2.2.2.2.2.2.2.2.2.1, Z.out.2.2.2.2.2.2.2.2.2.2.2.2.2.2, hb.size⟩); (try clear HB HO4 Z); have HO4 := n0_; have HB := n1_; have Z := z_; clear z_ n0_ n1_; (try clear hb); (try clear hkp); (try clear hy); (try clear hd_)))
  go_ret
  exact ⟨rfl, HB.out⟩
set_option maxHeartbeats 8000000 in
set_option maxRecDepth 100000 in
theorem laws_FnExactCutRegions.walk1 (k : Nat) (A0 : Option Addr) (c0 : Nat) (l0 : List (S68)) (a1 : Int) (a2 : Int) (z : Int) (w : World) (hr0 : Kd.C k68 w A0 l0.length l0) (hc0 : l0.length ≤ c0) (f0 : laws_szRegionS.f l0 1048576 = some z) (n0 : z < 0) :
    Calls Try.prog 4 #[.slice A0 l0.length c0, .int .i64 a1, .int .i64 a2] w fun e w' => e = .returned (.bool true) ∧ Below w.heap.size w w' := by
  have HR0 := Aside0.mk hr0
  have HC0 := Aside0.mk hc0
  clear hr0 hc0
  have HB := Aside0.mk (Below.refl w.heap.size w)
  have Ff0 := Aside0.mk f0
  clear f0
  have nb0 : decide (z < 0) = true := decide_eq_true n0
  go_enter Try.func4, Try.ntmps4
  go_wp2_with (first | ((with_reducible refine gate_callee (f := 23) rfl ?_); refine goesL_ (some 20) rfl rfl Try.func23 (by kernel_rfl) rfl #[.slice A0 l0.length c0, .int .i64 (1048576)] rfl (by (try simp only [List.map_toArray, List.map_cons, List.map_nil]); first | done | rfl | (simp only [List.length_drop, List.length_take]; rfl)) ?_; (with_reducible refine (laws_szRegionS.calls A0 c0 l0 (1048576) _ _ ?side1 ?side2 Ff0.out).mono ?_); (case side1 => exact Kd.C_below HR0.out HB.out); (case side2 => exact HC0.out); rintro e w1_ ⟨rfl, hd_⟩; have hb := Drawn0.below hd_; refine ⟨_, rfl, ?_⟩; have n0_ := Aside0.mk (below_step HB.out hb); have z_ := Aside0.mk (show w.heap.size ≤ w1_.heap.size from hb.size); (try clear HB); have HB := n0_; have Z := z_; clear z_ n0_; (try clear hb); (try clear hkp); (try clear hy); (try clear hd_)))
  go_ret
  exact ⟨rfl, HB.out⟩
end Go.Proofs.Ytdpejnckojhgjaa.P
end
section
namespace Go.Proofs.Ytdpejnckojhgjaa.P
open Go.RowKit Go.Proofs.YtdpejnckojhgjaaW.PrintWords Go.Proofs.YtdpejnckojhgjaaW.PrintLast Go.Proofs.YtdpejnckojhgjaaW.PrintMore
attribute [local go_sem] max2_int min2_int max_two min_two max_three min_three max_four min_four   -- for this text's walks alone
set_option linter.unusedVariables false
set_option linter.unusedSimpArgs false

/-! ### spec_l01In: function 72 -/
def spec_l01In.f (a0 : Int) (a1 : Int) (a2 : Int) : Option (Bool) := if a0 ≥ a1 then (some (decide (a0 ≤ a2))) else (some false)
set_option maxHeartbeats 8000000 in
set_option maxRecDepth 100000 in
theorem spec_l01In.calls (a0 : Int) (a1 : Int) (a2 : Int) (r : Bool) (w : World) (h : spec_l01In.f a0 a1 a2 = some r) :
    Calls Try.prog 72 #[.int .i64 a0, .int .i64 a1, .int .i64 a2] w fun e w' => e = .returned (.bool r) ∧ Drawn0 w w' := by
  have H : (if a0 ≥ a1 then (some (decide (a0 ≤ a2))) else (some false)) = some r := h
  clear h
  by_cases c4 : a0 ≥ a1
  · rw [if_pos c4] at H
    have c4b0 : decide (a1 ≤ a0) = true := decide_eq_true c4
    clear c4
    obtain rfl := Option.some.inj H
    go_enter Try.func72, Try.ntmps72
    go_wp2
    go_ret
    exact ⟨by first | rfl | (simp; done) | (simp [*]; done), by repeat (first | exact Drawn0.refl _ | apply Drawn0.step)⟩
  · rw [if_neg c4] at H
    have c4b0 : decide (a1 ≤ a0) = false := decide_eq_false c4
    clear c4
    obtain rfl := Option.some.inj H
    go_enter Try.func72, Try.ntmps72
    go_wp2
    go_ret
    exact ⟨by first | rfl | (simp; done) | (simp [*]; done), by repeat (first | exact Drawn0.refl _ | apply Drawn0.step)⟩

end Go.Proofs.Ytdpejnckojhgjaa.P
end
section
namespace Go.Proofs.Ytdpejnckojhgjaa.P
open Go.RowKit Go.Proofs.YtdpejnckojhgjaaW.PrintWords Go.Proofs.YtdpejnckojhgjaaW.PrintLast Go.Proofs.YtdpejnckojhgjaaW.PrintMore
attribute [local go_sem] max2_int min2_int max_two min_two max_three min_three max_four min_four   -- for this text's walks alone
set_option linter.unusedVariables false
set_option linter.unusedSimpArgs false

/-! ### spec_l06Mark: function 107 -/
def spec_l06Mark.f (a0 : Bool) : Option (Int) := if a0 = true then (some 2) else (some 1)
set_option maxHeartbeats 8000000 in
set_option maxRecDepth 100000 in
theorem spec_l06Mark.calls (a0 : Bool) (r : Int) (w : World) (h : spec_l06Mark.f a0 = some r) :
    Calls Try.prog 107 #[.bool a0] w fun e w' => e = .returned (.int .i64 r) ∧ Drawn0 w w' := by
  have H : (if a0 = true then (some 2) else (some 1)) = some r := h
  clear h
  by_cases c2 : a0 = true
  · subst c2
    have H1 : (some 2) = some r := by rw [if_pos rfl] at H; exact H
    clear H
    have H := H1
    clear H1
    obtain rfl := Option.some.inj H
    go_enter Try.func107, Try.ntmps107
    go_wp2
    go_ret
    exact ⟨by first | rfl | (simp; done) | (simp [*]; done), by repeat (first | exact Drawn0.refl _ | apply Drawn0.step)⟩
  · replace c2 := Bool.eq_false_iff.mpr c2
    subst c2
    have H1 : (some 1) = some r := by rw [if_neg (show ¬ (false = true) by decide)] at H; exact H
    clear H
    have H := H1
    clear H1
    obtain rfl := Option.some.inj H
    go_enter Try.func107, Try.ntmps107
    go_wp2
    go_ret
    exact ⟨by first | rfl | (simp; done) | (simp [*]; done), by repeat (first | exact Drawn0.refl _ | apply Drawn0.step)⟩

end Go.Proofs.Ytdpejnckojhgjaa.P
end
section
namespace Go.Proofs.Ytdpejnckojhgjaa.P
open Go.RowKit Go.Proofs.YtdpejnckojhgjaaW.PrintWords Go.Proofs.YtdpejnckojhgjaaW.PrintLast Go.Proofs.YtdpejnckojhgjaaW.PrintMore
attribute [local go_sem] max2_int min2_int max_two min_two max_three min_three max_four min_four   -- for this text's walks alone
set_option linter.unusedVariables false
set_option linter.unusedSimpArgs false

/-! ### impl_writeOf: function 109 -/
def impl_writeOf.f (a0 : Bool) : Option (Int) := if a0 = true then (some 2) else (some 1)
set_option maxHeartbeats 8000000 in
set_option maxRecDepth 100000 in
theorem impl_writeOf.calls (a0 : Bool) (r : Int) (w : World) (h : impl_writeOf.f a0 = some r) :
    Calls Try.prog 109 #[.bool a0] w fun e w' => e = .returned (.int .i64 r) ∧ Drawn0 w w' := by
  have H : (if a0 = true then (some 2) else (some 1)) = some r := h
  clear h
  by_cases c2 : a0 = true
  · subst c2
    have H1 : (some 2) = some r := by rw [if_pos rfl] at H; exact H
    clear H
    have H := H1
    clear H1
    obtain rfl := Option.some.inj H
    go_enter Try.func109, Try.ntmps109
    go_wp2
    go_ret
    exact ⟨by first | rfl | (simp; done) | (simp [*]; done), by repeat (first | exact Drawn0.refl _ | apply Drawn0.step)⟩
  · replace c2 := Bool.eq_false_iff.mpr c2
    subst c2
    have H1 : (some 1) = some r := by rw [if_neg (show ¬ (false = true) by decide)] at H; exact H
    clear H
    have H := H1
    clear H1
    obtain rfl := Option.some.inj H
    go_enter Try.func109, Try.ntmps109
    go_wp2
    go_ret
    exact ⟨by first | rfl | (simp; done) | (simp [*]; done), by repeat (first | exact Drawn0.refl _ | apply Drawn0.step)⟩

end Go.Proofs.Ytdpejnckojhgjaa.P
end
section
namespace Go.Proofs.Ytdpejnckojhgjaa.Aid
open Go.RowKit Go.Proofs.YtdpejnckojhgjaaW.PrintWords

theorem wrap64_id {n : Int} (h : -9223372036854775808 ≤ n) (h2 : n ≤ 9223372036854775807) : wrap64 n = n := by unfold wrap64; omega
theorem wf_i64 {n : Int} (h : (Lit.int .i64 n).wf = true) : -9223372036854775808 ≤ n ∧ n ≤ 9223372036854775807 := by
  simpa [Lit.wf, IntKind.min, IntKind.max, IntKind.bits, IntKind.signed] using h

theorem and255 (n : Int) : bits .and .i64 n 255 = n % 256 := by
  have h127 : (BitVec.ofInt 64 255).toNat = 2 ^ 8 - 1 := by decide
  have key : (BitVec.ofInt 64 n &&& BitVec.ofInt 64 255).toNat = (n % ((2 ^ 64 : Nat) : Int)).toNat % 2 ^ 8 := by
    rw [BitVec.toNat_and, BitVec.toNat_ofInt, h127, Nat.and_two_pow_sub_one_eq_mod]
  show IntKind.i64.wrap ((BitVec.ofInt 64 n &&& BitVec.ofInt 64 255).toNat : Nat) = n % 256
  rw [key, IntKind.wrap_i64]
  omega

theorem tmod_nonneg {a b : Int} (ha : 0 ≤ a) (_hb : 0 < b) : Int.tmod a b = a % b := Int.tmod_eq_emod_of_nonneg ha
theorem tdiv_nonneg {a b : Int} (ha : 0 ≤ a) : Int.tdiv a b = a / b := Int.tdiv_eq_ediv_of_nonneg ha

/-! Loops over an index -/
theorem Ev.of_succ {α : Type} {g : Nat → Option α} {r : α} (h : ∀ k, g (k + 1) = some r) : Ev g r :=
  ⟨1, fun n hn => by obtain ⟨m, rfl⟩ : ∃ m, n = m + 1 := ⟨n - 1, by omega⟩; exact h m⟩
theorem Ev.const {α : Type} {g : Nat → Option α} {r : α} (h : ∀ k, g k = some r) : Ev g r := ⟨0, fun n _ => h n⟩
/-- A loop that asks one thing of each index. -/
theorem ev_all {ρ : Type} (g : Nat → Nat → Option ρ) (n : Nat) (B : Nat → Bool) (no yes : ρ)
    (h1 : ∀ i, i < n → B i = true → ∀ r, Ev (fun k => g k (i + 1)) r → Ev (fun k => g k i) r)
    (h2 : ∀ i, i < n → B i = false → Ev (fun k => g k i) no)
    (h3 : Ev (fun k => g k n) yes) : ∀ d i, i + d = n → Ev (fun k => g k i) (if (List.range' i d).all B = true then yes else no) := by
  intro d
  induction d with
  | zero =>
    intro i hi
    obtain rfl : i = n := by omega
    simpa using h3
  | succ d ih =>
    intro i hi
    rw [List.range'_succ, List.all_cons]
    cases hb : B i with
    | true => simp only [Bool.true_and]; exact h1 i (by omega) hb _ (ih (i + 1) (by omega))
    | false => simp only [Bool.false_and, Bool.false_eq_true, if_false]; exact h2 i (by omega) hb
theorem ev_yes {ρ : Type} (g : Nat → Nat → Option ρ) (n : Nat) (B : Nat → Bool) (r : ρ)
    (h1 : ∀ i, i < n → B i = true → ∀ r, Ev (fun k => g k (i + 1)) r → Ev (fun k => g k i) r)
    (hall : (List.range n).all B = true) (h3 : Ev (fun k => g k n) r) : Ev (fun k => g k 0) r := by
  have key : ∀ d i, i + d = n → Ev (fun k => g k i) r := by
    intro d
    induction d with
    | zero =>
      intro i hi
      obtain rfl : i = n := by omega
      exact h3
    | succ d ih =>
      intro i hi
      exact h1 i (by omega) (List.all_eq_true.1 hall i (List.mem_range.2 (by omega))) _ (ih (i + 1) (by omega))
  exact key n 0 (by omega)
theorem ev_no {ρ : Type} (g : Nat → Nat → Option ρ) (n : Nat) (B : Nat → Bool) (no : ρ)
    (h1 : ∀ i, i < n → B i = true → ∀ r, Ev (fun k => g k (i + 1)) r → Ev (fun k => g k i) r)
    (h2 : ∀ i, i < n → B i = false → Ev (fun k => g k i) no)
    (hall : (List.range n).all B = false) : Ev (fun k => g k 0) no := by
  have key : ∀ d i, i + d = n → (List.range' i d).all B = false → Ev (fun k => g k i) no := by
    intro d
    induction d with
    | zero => intro i _ h; simp at h
    | succ d ih =>
      intro i hi h
      rw [List.range'_succ, List.all_cons] at h
      cases hb : B i with
      | true => exact h1 i (by omega) hb _ (ih (i + 1) (by omega) (by simpa [hb] using h))
      | false => exact h2 i (by omega) hb
  exact key n 0 (by omega) (by rw [← List.range_eq_range']; exact hall)
theorem ev_all0 {ρ : Type} (g : Nat → Nat → Option ρ) (n : Nat) (B : Nat → Bool) (no yes : ρ)
    (h1 : ∀ i, i < n → B i = true → ∀ r, Ev (fun k => g k (i + 1)) r → Ev (fun k => g k i) r)
    (h2 : ∀ i, i < n → B i = false → Ev (fun k => g k i) no)
    (h3 : Ev (fun k => g k n) yes) : Ev (fun k => g k 0) (if (List.range n).all B = true then yes else no) := by
  rw [List.range_eq_range']
  exact ev_all g n B no yes h1 h2 h3 n 0 (by omega)
/-- The same, where what was asked before is known. -/
theorem ev_yesp {ρ : Type} (g : Nat → Nat → Option ρ) (n : Nat) (B : Nat → Bool) (r : ρ)
    (h1 : ∀ i, i < n → (∀ j, j < i → B j = true) → B i = true → ∀ r, Ev (fun k => g k (i + 1)) r → Ev (fun k => g k i) r)
    (hall : (List.range n).all B = true) (h3 : Ev (fun k => g k n) r) : Ev (fun k => g k 0) r := by
  have ha : ∀ i, i < n → B i = true := fun i hi => List.all_eq_true.1 hall i (List.mem_range.2 hi)
  have key : ∀ d i, i + d = n → Ev (fun k => g k i) r := by
    intro d
    induction d with
    | zero =>
      intro i hi
      obtain rfl : i = n := by omega
      exact h3
    | succ d ih =>
      intro i hi
      exact h1 i (by omega) (fun j hj => ha j (by omega)) (ha i (by omega)) _ (ih (i + 1) (by omega))
  exact key n 0 (by omega)
theorem ev_nop {ρ : Type} (g : Nat → Nat → Option ρ) (n : Nat) (B : Nat → Bool) (no : ρ)
    (h1 : ∀ i, i < n → (∀ j, j < i → B j = true) → B i = true → ∀ r, Ev (fun k => g k (i + 1)) r → Ev (fun k => g k i) r)
    (h2 : ∀ i, i < n → (∀ j, j < i → B j = true) → B i = false → Ev (fun k => g k i) no)
    (hall : (List.range n).all B = false) : Ev (fun k => g k 0) no := by
  have key : ∀ d i, i + d = n → (∀ j, j < i → B j = true) → Ev (fun k => g k i) no := by
    intro d
    induction d with
    | zero =>
      intro i hi h
      obtain rfl : i = n := by omega
      have : (List.range i).all B = true := List.all_eq_true.2 (fun j hj => h j (List.mem_range.1 hj))
      rw [this] at hall; cases hall
    | succ d ih =>
      intro i hi h
      cases hb : B i with
      | true => exact h1 i (by omega) h hb _ (ih (i + 1) (by omega) (fun j hj => by
          by_cases e : j = i
          · rw [e]; exact hb
          · exact h j (by omega)))
      | false => exact h2 i (by omega) h hb
  exact key n 0 (by omega) (fun j hj => by omega)
theorem ev_allp {ρ : Type} (g : Nat → Nat → Option ρ) (n : Nat) (B : Nat → Bool) (no yes : ρ)
    (h1 : ∀ i, i < n → (∀ j, j < i → B j = true) → B i = true → ∀ r, Ev (fun k => g k (i + 1)) r → Ev (fun k => g k i) r)
    (h2 : ∀ i, i < n → (∀ j, j < i → B j = true) → B i = false → Ev (fun k => g k i) no)
    (h3 : (∀ j, j < n → B j = true) → Ev (fun k => g k n) yes) : Ev (fun k => g k 0) (if (List.range n).all B = true then yes else no) := by
  cases hall : (List.range n).all B with
  | true =>
    rw [if_pos rfl]
    exact ev_yesp g n B yes h1 hall (h3 (fun j hj => List.all_eq_true.1 hall j (List.mem_range.2 hj)))
  | false =>
    rw [if_neg (by simp)]
    exact ev_nop g n B no h1 h2 hall
theorem range_all {α : Type} (xs : List α) (d : α) (P : α → Bool) : (List.range xs.length).all (fun i => P (xs.getD i d)) = xs.all P := by
  rw [Bool.eq_iff_iff, List.all_eq_true, List.all_eq_true]
  constructor
  · intro h x hx
    obtain ⟨i, hi, rfl⟩ := List.getElem_of_mem hx
    have := h i (List.mem_range.2 hi)
    simpa [List.getD_eq_getElem?_getD, List.getElem?_eq_getElem hi] using this
  · intro h i hi
    have hi := List.mem_range.1 hi
    have := h _ (List.getElem_mem hi)
    simpa [List.getD_eq_getElem?_getD, List.getElem?_eq_getElem hi] using this
/-- A loop that stores at each index. -/
theorem ev_copy {α ρ : Type} (g : Nat → List α → Nat → Option ρ) (n : Nat) (f : Nat → α) (fin : List α → ρ)
    (h1 : ∀ i acc, i < n → acc.length = n → ∀ r, Ev (fun k => g k (acc.set i (f i)) (i + 1)) r → Ev (fun k => g k acc i) r)
    (h3 : ∀ acc, acc.length = n → Ev (fun k => g k acc n) (fin acc)) : ∀ d i acc, i + d = n → acc.length = n → Ev (fun k => g k acc i) (fin (acc.take i ++ (List.range' i d).map f)) := by
  intro d
  induction d with
  | zero =>
    intro i acc hi hl
    obtain rfl : i = n := by omega
    simpa [← hl] using h3 acc hl
  | succ d ih =>
    intro i acc hi hl
    have h := ih (i + 1) (acc.set i (f i)) (by omega) (by simpa using hl)
    have e : (acc.set i (f i)).take (i + 1) ++ (List.range' (i + 1) d).map f = acc.take i ++ (List.range' i (d + 1)).map f := by
      rw [List.range'_succ, List.map_cons, List.take_succ_eq_append_getElem (by simp; omega), List.getElem_set_self, List.append_assoc]
      congr 1
      exact List.take_set_of_le (Nat.le_refl _)
    rw [e] at h
    exact h1 i acc (by omega) hl _ h
theorem ev_copy0 {α ρ : Type} (g : Nat → List α → Nat → Option ρ) (n : Nat) (f : Nat → α) (fin : List α → ρ)
    (h1 : ∀ i acc, i < n → acc.length = n → ∀ r, Ev (fun k => g k (acc.set i (f i)) (i + 1)) r → Ev (fun k => g k acc i) r)
    (h3 : ∀ acc, acc.length = n → Ev (fun k => g k acc n) (fin acc)) (acc : List α) (hl : acc.length = n) : Ev (fun k => g k acc 0) (fin ((List.range n).map f)) := by
  rw [List.range_eq_range']
  simpa using ev_copy g n f fin h1 h3 n 0 acc (by omega) hl
/-- A loop that carries a state. -/
theorem ev_fold {σ ρ : Type} (g : Nat → σ → Nat → Option ρ) (n : Nat) (f : σ → Nat → σ) (fin : σ → ρ) (Inv : Nat → σ → Prop)
    (h1 : ∀ i s, i < n → Inv i s → Inv (i + 1) (f s i) ∧ ∀ r, Ev (fun k => g k (f s i) (i + 1)) r → Ev (fun k => g k s i) r)
    (h3 : ∀ s, Inv n s → Ev (fun k => g k s n) (fin s)) (s : σ) (h0 : Inv 0 s) : Ev (fun k => g k s 0) (fin ((List.range n).foldl f s)) ∧ Inv n ((List.range n).foldl f s) := by
  have key : ∀ d i s, i + d = n → Inv i s → Ev (fun k => g k s i) (fin ((List.range' i d).foldl f s)) ∧ Inv n ((List.range' i d).foldl f s) := by
    intro d
    induction d with
    | zero =>
      intro i s hi hs
      obtain rfl : i = n := by omega
      simpa using ⟨h3 s hs, hs⟩
    | succ d ih =>
      intro i s hi hs
      obtain ⟨h4, h5⟩ := h1 i s (by omega) hs
      obtain ⟨h6, h7⟩ := ih (i + 1) (f s i) (by omega) h4
      rw [List.range'_succ, List.foldl_cons]
      exact ⟨h5 _ h6, h7⟩
  rw [List.range_eq_range']
  exact key n 0 s (by omega) h0
theorem range_map_getD {α : Type} (xs : List α) (d : α) : (List.range xs.length).map (fun i => xs.getD i d) = xs := by
  apply List.ext_getElem
  · simp
  · intro i h1 h2
    simp at h1
    simp [List.getD_eq_getElem?_getD, List.getElem?_eq_getElem h1]
theorem foldl_getD {α σ : Type} (f : σ → α → σ) (l : List α) (d : α) (s : σ) : (List.range l.length).foldl (fun s i => f s (l.getD i d)) s = l.foldl f s := by
  have := range_map_getD l d
  conv => rhs; rw [← this]
  rw [List.foldl_map]
theorem toNat_cast (i : Nat) : (i : Int).toNat = i := by omega
theorem wrap_succ {i : Nat} (h : i < 9223372036854775807) : wrap64 ((i : Int) + 1) = ((i + 1 : Nat) : Int) := by unfold wrap64; omega
theorem in_dec (a b c : Int) : (if a ≥ b then (some (decide (a ≤ c))) else (some false)) = some (decide (b ≤ a ∧ a ≤ c)) := by
  by_cases h : a ≥ b
  · rw [if_pos h]; congr 1; by_cases h2 : a ≤ c
    · rw [decide_eq_true h2, decide_eq_true ⟨h, h2⟩]
    · rw [decide_eq_false h2, decide_eq_false (fun x => h2 x.2)]
  · rw [if_neg h, decide_eq_false (fun x => h x.1)]
/-- What a count tells, where it does not refuse. -/
theorem ev_sz (g : Nat → Int → Nat → Option Int) (n : Nat) (sz : Nat → Nat)
    (h1 : ∀ i b, i < n → 0 ≤ b → b ≤ 1048576 → (sz i : Int) ≤ b → ∀ r, Ev (fun k => g k (b - sz i) (i + 1)) r → Ev (fun k => g k b i) r)
    (h2 : ∀ i b, i < n → 0 ≤ b → b ≤ 1048576 → ¬ (sz i : Int) ≤ b → Ev (fun k => g k b i) (-1)) (h3 : ∀ b, Ev (fun k => g k b n) b) (b : Int) (hb0 : 0 ≤ b) (hb1 : b ≤ 1048576) :
    ∃ r, Ev (fun k => g k b 0) r ∧ (0 ≤ r → (((List.range n).map sz).sum : Nat) + r ≤ b) := by
  have key : ∀ d i b, i + d = n → 0 ≤ b → b ≤ 1048576 → ∃ r, Ev (fun k => g k b i) r ∧ (0 ≤ r → (((List.range' i d).map sz).sum : Nat) + r ≤ b) := by
    intro d
    induction d with
    | zero =>
      intro i b hi _ _
      obtain rfl : i = n := by omega
      exact ⟨b, h3 b, fun _ => by simp⟩
    | succ d ih =>
      intro i b hi h0 hb
      by_cases hs : (sz i : Int) ≤ b
      · obtain ⟨r, hr, hq⟩ := ih (i + 1) (b - sz i) (by omega) (by omega) (by omega)
        refine ⟨r, h1 i b (by omega) h0 hb hs r hr, fun h => ?_⟩
        have := hq h
        rw [List.range'_succ, List.map_cons, List.sum_cons]
        omega
      · exact ⟨-1, h2 i b (by omega) h0 hb hs, fun h => by omega⟩
  rw [List.range_eq_range']
  exact key n 0 b (by omega) hb0 hb1
theorem sum_ge {n : Nat} (sz : Nat → Nat) {i : Nat} (h : i < n) : sz i ≤ ((List.range n).map sz).sum := by
  have : ∀ (l : List Nat) (x : Nat), x ∈ l → x ≤ l.sum := by
    intro l
    induction l with
    | nil => intro x hx; cases hx
    | cons y l ih =>
      intro x hx
      rcases List.mem_cons.1 hx with rfl | hx
      · simp
      · have := ih x hx; simp; omega
  exact this _ _ (List.mem_map_of_mem (List.mem_range.2 h))
theorem sub_len {a : Int} {n : Nat} (ha : 0 ≤ a) (ha1 : a ≤ 1048576) (hn : n ≤ maxLen) : wrap64 (a - (n : Int)) = a - n := by unfold maxLen at hn; unfold wrap64; omega
end Go.Proofs.Ytdpejnckojhgjaa.Aid
end
section
namespace Go.Proofs.Ytdpejnckojhgjaa.Pure
open Go.RowKit Go.Proofs.Ytdpejnckojhgjaa.P Go.Proofs.YtdpejnckojhgjaaW.PrintWords Go.Proofs.YtdpejnckojhgjaaW.PrintLast Go.Proofs.YtdpejnckojhgjaaW.PrintMore Go.Proofs.Ytdpejnckojhgjaa.Aid
set_option linter.unusedVariables false
set_option linter.unusedSimpArgs false

theorem l01In_eq (a b c : Int) : spec_l01In.f a b c = some (decide (b ≤ a ∧ a ≤ c)) := in_dec a b c
theorem within_eq (a b c : Int) : impl_within.f a b c = some (decide (b ≤ a ∧ a ≤ c)) := in_dec a b c
theorem map_getD {α β : Type} (f : α → β) (l : List α) (d : α) : (List.range l.length).map (fun i => f (l.getD i d)) = l.map f := by
  rw [show (fun i => f (l.getD i d)) = f ∘ (fun i => l.getD i d) from rfl, ← List.map_map, range_map_getD]
abbrev RegW := S70
abbrev RegL := S68
def toReg_ (r : RegL) : RegW := ⟨r.f0, r.f1, r.f2⟩
theorem rdGL (l : List RegL) (i : Nat) : rd_T68 l (i : Int) = l.getD i z68 := by unfold rd_T68; rw [toNat_cast]
theorem rdGW (l : List RegW) (i : Nat) : rd_T70 l (i : Int) = l.getD i z70 := by unfold rd_T70; rw [toNat_cast]
theorem szRegionS_eq (l : List RegL) (hl : l.length ≤ maxLen) : laws_szRegionS.f l 1048576 = some (if (l.length : Int) ≤ 1048576 then (1048576 - (l.length : Int) : Int) else (-1 : Int)) := by
  unfold maxLen at hl
  unfold laws_szRegionS.f
  have e : wrap64 (1048576 - (l.length : Int)) = 1048576 - l.length := by unfold wrap64; omega
  rw [e]
  by_cases h : (l.length : Int) ≤ 1048576
  · rw [if_neg (by omega), if_pos h]
  · rw [if_pos (by omega), if_neg h]
theorem toRegionS_ev (l : List RegL) (hl : l.length ≤ 1048576) : Ev (fun k => laws_toRegionS.f k l) (l.map toReg_) := by
  have key := ev_copy0 (fun k acc i => laws_toRegionS.l0 k l acc (i : Int)) l.length (fun i => toReg_ (l.getD i z68)) id (by
    intro i acc hi ha r h
    refine Ev.step (fun k => ?_) h
    simp only [laws_toRegionS.l0]
    rw [if_pos (by omega), if_pos (by omega), rdGL]
    unfold laws_toRegion.f
    simp only [Option.bind_some]
    rw [if_pos (by omega), wrap_succ (by omega), toNat_cast]
    rfl) (by
    intro acc ha
    refine Ev.of_succ (fun k => ?_)
    simp only [laws_toRegionS.l0]
    rw [if_neg (by omega)]
    rfl) (List.replicate l.length z70) (by simp)
  rw [map_getD toReg_ l z68] at key
  refine Ev.congr (fun k => ?_) key
  unfold laws_toRegionS.f
  rw [if_pos (by omega), if_pos (by omega), toNat_cast]
  rfl
theorem eqRegionS_refl (l : List RegW) (hl : l.length ≤ 1048576) : Ev (fun k => laws_eqRegionS.f k l l) true := by
  have key := ev_all0 (fun k i => laws_eqRegionS.l0 k l l (i : Int)) l.length (fun _ => true) false true (by
    intro i hi _ r h
    refine Ev.step (fun k => ?_) h
    simp only [laws_eqRegionS.l0]
    rw [if_pos (by omega), if_pos (by omega), if_pos (by omega)]
    unfold laws_eqRegion.f
    simp only [if_true, Option.bind_some, bne_self_eq_false, Bool.false_eq_true, if_false]
    rw [wrap_succ (by omega)]) (by intro i _ h; cases h) (by
    refine Ev.of_succ (fun k => ?_)
    simp only [laws_eqRegionS.l0]
    rw [if_neg (by omega)])
  rw [if_pos (by simp)] at key
  refine Ev.congr (fun k => ?_) key
  unfold laws_eqRegionS.f
  rw [if_pos rfl]
  rfl
abbrev zg : RegW := z70
def regAt (l : List RegW) (i : Nat) : RegW := l.getD i zg
def oneR (r : RegW) : Bool := decide (0 ≤ r.f0 ∧ r.f0 < r.f1 ∧ r.f1 ≤ 64)
/-- Does b follow a? -/
def nextR (a b : RegW) : Bool := !decide (a.f1 > b.f0) && (!decide (a.f1 = b.f0) || !(a.f2 == b.f2))
def okR (l : List RegW) (i : Nat) : Bool := oneR (regAt l i) && (decide (i = 0) || nextR (regAt l (i - 1)) (regAt l i))
def regsB (l : List RegW) : Bool := decide (l.length ≤ 12) && (List.range l.length).all (okR l)
theorem l06One_eq (a b : Int) (c : Bool) : spec_l06One.f a b c = some (oneR ⟨a, b, c⟩) := by
  unfold spec_l06One.f oneR
  by_cases h1 : a ≥ 0
  · rw [if_pos h1]
    by_cases h2 : a < b
    · rw [if_pos h2]; congr 1; simp [h2]; omega
    · rw [if_neg h2]; congr 1; simp [h2]
  · rw [if_neg h1]; congr 1; simp; omega
theorem wrap_pred_r {i : Nat} (h0 : 0 < i) (h : i < 9223372036854775807) : wrap64 ((i : Int) - 1) = ((i - 1 : Nat) : Int) := by unfold wrap64; omega
theorem okR_cases {l : List RegW} {i : Nat} (h0 : ¬ i = 0) : okR l i = (oneR (regAt l i) && nextR (regAt l (i - 1)) (regAt l i)) := by unfold okR; rw [decide_eq_false h0, Bool.false_or]
theorem spec_RegionsOk_ev (l : List RegW) (hl : l.length ≤ 1048576) : Ev (fun k => spec_RegionsOk.f k l) (regsB l) := by
  unfold spec_RegionsOk.f regsB
  by_cases h12 : (l.length : Int) > 12
  · simp only [if_pos h12, decide_eq_false (show ¬ l.length ≤ 12 by omega), Bool.false_and]; exact Ev.now _
  · simp only [if_neg h12, decide_eq_true (show l.length ≤ 12 by omega), Bool.true_and]
    have key := ev_all0 (fun k i => spec_RegionsOk.l0 k l (i : Int)) l.length (okR l) false true (by
      intro i hi hb r h
      refine Ev.step (fun k => ?_) h
      have hq : spec_l06One.f (l.getD i zg).f0 (l.getD i zg).f1 (l.getD i zg).f2 = some (oneR (regAt l i)) := l06One_eq _ _ _
      simp only [spec_RegionsOk.l0]
      rw [if_pos (by omega), if_pos (by omega), rdGW, hq]
      simp only [Option.bind_some]
      by_cases h0 : i = 0
      · subst h0
        unfold okR at hb
        simp only [decide_true, Bool.true_or, Bool.and_true] at hb
        rw [if_pos hb, if_neg (by omega), wrap_succ (by omega)]
      · rw [okR_cases h0, Bool.and_eq_true] at hb
        obtain ⟨h1, h2⟩ := hb
        rw [if_pos h1, if_pos (by omega), wrap_pred_r (by omega) (by omega), if_pos (by omega), if_pos (by omega), rdGW, wrap_succ (by omega)]
        unfold nextR regAt at h2
        simp only [Bool.and_eq_true, Bool.or_eq_true, Bool.not_eq_true', decide_eq_false_iff_not, beq_eq_false_iff_ne, ne_eq] at h2
        rw [if_neg h2.1]
        by_cases he : (l.getD (i - 1) zg).f1 = (l.getD i zg).f0
        · rw [if_pos he, if_neg]
          rcases h2.2 with h3 | h3
          · exact absurd he h3
          · simpa using h3
        · rw [if_neg he]) (by
      intro i hi hb
      refine Ev.of_succ (fun k => ?_)
      have hq : spec_l06One.f (l.getD i zg).f0 (l.getD i zg).f1 (l.getD i zg).f2 = some (oneR (regAt l i)) := l06One_eq _ _ _
      simp only [spec_RegionsOk.l0]
      rw [if_pos (by omega), if_pos (by omega), rdGW, hq]
      simp only [Option.bind_some]
      by_cases h1 : oneR (regAt l i) = true
      · have h0 : ¬ i = 0 := by rintro rfl; unfold okR at hb; rw [h1] at hb; simp at hb
        rw [okR_cases h0, h1, Bool.true_and] at hb
        rw [if_pos h1, if_pos (by omega), wrap_pred_r (by omega) (by omega), if_pos (by omega), if_pos (by omega), rdGW]
        unfold nextR regAt at hb
        by_cases h3 : (l.getD (i - 1) zg).f1 > (l.getD i zg).f0
        · rw [if_pos h3]
        · rw [if_neg h3]
          rw [decide_eq_false h3, Bool.not_false, Bool.true_and] at hb
          by_cases he : (l.getD (i - 1) zg).f1 = (l.getD i zg).f0
          · rw [if_pos he]
            rw [decide_eq_true he, Bool.not_true, Bool.false_or, Bool.not_eq_false'] at hb
            rw [if_pos hb]
          · rw [decide_eq_false he] at hb; simp at hb
      · rw [if_neg h1]) (by
      refine Ev.of_succ (fun k => ?_)
      simp only [spec_RegionsOk.l0]
      rw [if_neg (by omega)])
    have e : (if (List.range l.length).all (okR l) = true then true else false) = (List.range l.length).all (okR l) := by cases (List.range l.length).all (okR l) <;> rfl
    rw [e] at key
    exact key
theorem impl_one (a b : Int) (c : Bool) : ((impl_within.f a 0 (wrap64 (b - 1))) = some (decide (0 ≤ a ∧ a ≤ wrap64 (b - 1)))) ∧ (impl_within.f b 1 64 = some (decide (1 ≤ b ∧ b ≤ 64))) ∧ oneR ⟨a, b, c⟩ = (decide (0 ≤ a ∧ a ≤ wrap64 (b - 1)) && decide (1 ≤ b ∧ b ≤ 64)) := by
  refine ⟨within_eq _ _ _, within_eq _ _ _, ?_⟩
  unfold oneR
  by_cases hb : 1 ≤ b ∧ b ≤ 64
  · rw [wrap64_id (by omega) (by omega), decide_eq_true hb, Bool.and_true]
    congr 1
    rw [eq_iff_iff]
    show (0 ≤ a ∧ a < b ∧ b ≤ 64) ↔ _
    omega
  · rw [decide_eq_false hb, Bool.and_false, decide_eq_false_iff_not]
    show ¬ (0 ≤ a ∧ a < b ∧ b ≤ 64)
    omega
theorem impl_RegionsOk_ev (l : List RegW) (hl : l.length ≤ 1048576) : Ev (fun k => impl_RegionsOk.f k l) (regsB l) := by
  unfold impl_RegionsOk.f regsB
  have hj : ∀ (i : Nat), i < l.length → ∀ r, Ev (fun k => impl_RegionsOk.j1 k l (i : Int) l (l.length : Int) (i : Int) (!oneR (regAt l i)) (regAt l i).f0 (regAt l i).f1 (regAt l i).f2) r → Ev (fun k => impl_RegionsOk.l0 k l l (l.length : Int) (i : Int)) r := by
    intro i hi r h
    obtain ⟨h1, h2, h3⟩ := impl_one (regAt l i).f0 (regAt l i).f1 (regAt l i).f2
    refine Ev.step (fun k => ?_) h
    simp only [impl_RegionsOk.l0]
    rw [if_pos (by omega), if_pos (by omega), if_pos (by omega), rdGW, show l.getD i z70 = regAt l i from rfl, h1]
    simp only [Option.bind_some]
    rw [show oneR (regAt l i) = _ from h3]
    by_cases h4 : 0 ≤ (regAt l i).f0 ∧ (regAt l i).f0 ≤ wrap64 ((regAt l i).f1 - 1)
    · rw [decide_eq_true h4, if_pos rfl, h2]; rfl
    · rw [decide_eq_false h4, if_neg (by simp)]; rfl
  have key := ev_all0 (fun k i => impl_RegionsOk.l0 k l l (l.length : Int) (i : Int)) l.length (okR l) false (decide (l.length ≤ 12)) (by
    intro i hi hb r h
    refine hj i hi r (Ev.step (fun k => ?_) h)
    have h1 : oneR (regAt l i) = true := by unfold okR at hb; exact (Bool.and_eq_true _ _ ▸ hb).1
    simp only [impl_RegionsOk.j1]
    rw [h1, if_neg (by simp)]
    by_cases h0 : i = 0
    · subst h0
      rw [if_neg (by omega), wrap_succ (by omega)]
    · rw [okR_cases h0, h1, Bool.true_and] at hb
      rw [if_pos (by omega), wrap_pred_r (by omega) (by omega), if_pos (by omega), if_pos (by omega), rdGW, wrap_succ (by omega), show l.getD (i - 1) z70 = regAt l (i - 1) from rfl]
      unfold nextR at hb
      simp only [Bool.and_eq_true, Bool.or_eq_true, Bool.not_eq_true', decide_eq_false_iff_not, beq_eq_false_iff_ne, ne_eq] at hb
      rw [if_neg hb.1]
      by_cases he : (regAt l (i - 1)).f1 = (regAt l i).f0
      · rw [if_pos he, if_neg]
        rcases hb.2 with h3 | h3
        · exact absurd he h3
        · simpa using h3
      · rw [if_neg he]) (by
    intro i hi hb
    refine hj i hi false (Ev.of_succ (fun k => ?_))
    simp only [impl_RegionsOk.j1]
    by_cases h1 : oneR (regAt l i) = true
    · have h0 : ¬ i = 0 := by rintro rfl; unfold okR at hb; rw [h1] at hb; simp at hb
      rw [okR_cases h0, h1, Bool.true_and] at hb
      rw [h1, if_neg (by simp), if_pos (by omega), wrap_pred_r (by omega) (by omega), if_pos (by omega), if_pos (by omega), rdGW, show l.getD (i - 1) z70 = regAt l (i - 1) from rfl]
      unfold nextR at hb
      by_cases h3 : (regAt l (i - 1)).f1 > (regAt l i).f0
      · rw [if_pos h3]
      · rw [if_neg h3]
        rw [decide_eq_false h3, Bool.not_false, Bool.true_and] at hb
        by_cases he : (regAt l (i - 1)).f1 = (regAt l i).f0
        · rw [if_pos he]
          rw [decide_eq_true he, Bool.not_true, Bool.false_or, Bool.not_eq_false'] at hb
          rw [if_pos hb]
        · rw [decide_eq_false he] at hb; simp at hb
    · rw [show oneR (regAt l i) = false by simpa using h1, if_pos (by rfl)]) (by
    refine Ev.of_succ (fun k => ?_)
    simp only [impl_RegionsOk.l0]
    rw [if_neg (by omega)]
    congr 1
    rw [decide_eq_decide]
    omega)
  have e : (if (List.range l.length).all (okR l) = true then decide (l.length ≤ 12) else false) = (decide (l.length ≤ 12) && (List.range l.length).all (okR l)) := by cases (List.range l.length).all (okR l) <;> simp
  rw [e] at key
  exact key
def mkR (r : RegW) : Int := if r.f2 = true then 2 else 1
def pnt (v : Int) : Nat → Int → List Int → List Int
  | 0, _, m => m
  | n + 1, p, m => pnt v n (p + 1) (m.set p.toNat v)
theorem pnt_len (v : Int) : ∀ n p m, (pnt v n p m).length = m.length := by
  intro n
  induction n with
  | zero => intro p m; rfl
  | succ n ih => intro p m; rw [pnt, ih, List.length_set]
def Tri (m : List Int) : Prop := m.length = 64 ∧ ∀ x ∈ m, x = 0 ∨ x = 1 ∨ x = 2
theorem Tri.set {m : List Int} (h : Tri m) (i : Nat) {v : Int} (hv : v = 0 ∨ v = 1 ∨ v = 2) : Tri (m.set i v) := by
  refine ⟨by rw [List.length_set]; exact h.1, fun x hx => ?_⟩
  rcases List.mem_or_eq_of_mem_set hx with hx | rfl
  · exact h.2 x hx
  · exact hv
theorem pnt_tri {v : Int} (hv : v = 0 ∨ v = 1 ∨ v = 2) : ∀ n p m, Tri m → Tri (pnt v n p m) := by
  intro n
  induction n with
  | zero => intro p m h; exact h
  | succ n ih => intro p m h; exact ih _ _ (h.set _ hv)
theorem mkR_tri (r : RegW) : mkR r = 0 ∨ mkR r = 1 ∨ mkR r = 2 := by unfold mkR; split <;> simp
def zer : List Int := List.replicate 64 0
theorem zer_tri : Tri zer := ⟨by simp [zer], fun x hx => Or.inl (List.eq_of_mem_replicate hx)⟩
def marksB : List RegW → List Int → List Int
  | [], m => m
  | r :: rest, m => marksB rest (pnt (mkR r) (r.f1 - r.f0).toNat r.f0 m)
theorem marksB_tri : ∀ l m, Tri m → Tri (marksB l m) := by
  intro l
  induction l with
  | nil => intro m h; exact h
  | cons r l ih => intro m h; exact ih _ (pnt_tri (mkR_tri r) _ _ _ h)
theorem Tri.at_ {m : List Int} (h : Tri m) (p : Nat) : m.getD p 0 = 0 ∨ m.getD p 0 = 1 ∨ m.getD p 0 = 2 := by
  by_cases hp : p < m.length
  · rw [List.getD_eq_getElem?_getD, List.getElem?_eq_getElem hp]; exact h.2 _ (List.getElem_mem hp)
  · rw [List.getD_eq_getElem?_getD, List.getElem?_eq_none (by omega)]; exact Or.inl rfl
theorem oneR_bd {r : RegW} (h : oneR r = true) : 0 ≤ r.f0 ∧ r.f0 < r.f1 ∧ r.f1 ≤ 64 := by simpa [oneR] using h
theorem regsB_one {l : List RegW} (h : regsB l = true) : ∀ r ∈ l, oneR r = true := by
  intro r hr
  simp only [regsB, Bool.and_eq_true, decide_eq_true_eq] at h
  obtain ⟨i, hi, rfl⟩ := List.getElem_of_mem hr
  have := List.all_eq_true.1 h.2 i (List.mem_range.2 hi)
  simp only [okR, Bool.and_eq_true] at this
  have h5 := this.1
  unfold regAt at h5
  rwa [List.getD_eq_getElem?_getD, List.getElem?_eq_getElem hi] at h5
theorem regsB_len {l : List RegW} (h : regsB l = true) : l.length ≤ 12 := by
  simp only [regsB, Bool.and_eq_true, decide_eq_true_eq] at h
  exact h.1
theorem getD_midr (pre : List RegW) (x : RegW) (rest : List RegW) : (pre ++ x :: rest).getD pre.length zg = x := by
  simp [List.getD_eq_getElem?_getD]
theorem spec_marks_in (l : List RegW) (hl : l.length ≤ 1048576) (i : Nat) (hi : i < l.length) (r : RegW) (hr : l.getD i zg = r) (h1 : oneR r = true) (R : List Int) :
    ∀ (d : Nat) (p : Int) (m : List Int), p + d = r.f1 → 0 ≤ p → m.length = 64 → Ev (fun k => spec_l06Marks.l0 k l (pnt (mkR r) d p m) ((i + 1 : Nat) : Int)) R → Ev (fun k => spec_l06Marks.l1 k l m (i : Int) p) R := by
  have hb := oneR_bd h1
  intro d
  induction d with
  | zero =>
    intro p m hp h0 hm h
    refine Ev.step (fun k => ?_) h
    simp only [spec_l06Marks.l1, rdGW, hr]
    rw [if_pos (by omega), if_pos (by omega), if_neg (by omega), wrap_succ (by omega)]
    rfl
  | succ d ih =>
    intro p m hp h0 hm h
    refine Ev.step (fun k => ?_) (ih (p + 1) (m.set p.toNat (mkR r)) (by omega) (by omega) (by rw [List.length_set]; exact hm) h)
    simp only [spec_l06Marks.l1, rdGW, hr]
    rw [if_pos (by omega), if_pos (by omega), if_pos (by omega), if_pos (by omega), if_pos (by omega), wrap64_id (n := p + 1) (by omega) (by omega)]
    simp only [Option.bind_some, List.set_set]
    unfold mkR
    split <;> rfl
theorem spec_marks_ev (l : List RegW) (hl : l.length ≤ 1048576) (h1 : ∀ r ∈ l, oneR r = true) : Ev (fun k => spec_l06Marks.f k l) (marksB l zer) := by
  have key : ∀ (rest pre : List RegW) (m : List Int), l = pre ++ rest → m.length = 64 → Ev (fun k => spec_l06Marks.l0 k l m (pre.length : Int)) (marksB rest m) := by
    intro rest
    induction rest with
    | nil =>
      intro pre m e hm
      have hlen : l.length = pre.length := by rw [e]; simp
      refine Ev.of_succ (fun k => ?_)
      simp only [spec_l06Marks.l0, marksB]
      rw [if_neg (by omega)]
    | cons r rest ih =>
      intro pre m e hm
      have hlen : l.length = pre.length + (rest.length + 1) := by rw [e]; simp
      have hr : l.getD pre.length zg = r := by rw [e, getD_midr]
      have ho := h1 r (by rw [e]; simp)
      have hb := oneR_bd ho
      have hi := ih (pre ++ [r]) (pnt (mkR r) (r.f1 - r.f0).toNat r.f0 m) (by rw [e]; simp) (by rw [pnt_len]; exact hm)
      simp only [List.length_append, List.length_cons, List.length_nil, Nat.zero_add] at hi
      refine Ev.step (fun k => ?_) (spec_marks_in l hl pre.length (by omega) r hr ho _ (r.f1 - r.f0).toNat r.f0 m (by omega) hb.1 hm hi)
      simp only [spec_l06Marks.l0, rdGW, hr]
      rw [if_pos (by omega), if_pos (by omega)]
  refine Ev.congr (fun k => ?_) (key l [] zer rfl (by simp [zer]))
  unfold spec_l06Marks.f
  rw [if_pos (by omega)]
  rfl
theorem impl_pages_in (l : List RegW) (hl : l.length ≤ 1048576) (i : Nat) (hi : i < l.length) (r : RegW) (hr : l.getD i zg = r) (h1 : oneR r = true) (R : List Int) :
    ∀ (d : Nat) (p : Int) (m : List Int), p + d = r.f1 → 0 ≤ p → Ev (fun k => impl_pagesOf.l0 k l (pnt (mkR r) d p m) ((i + 1 : Nat) : Int)) R → Ev (fun k => impl_pagesOf.l1 k l m (i : Int) p) R := by
  have hb := oneR_bd h1
  intro d
  induction d with
  | zero =>
    intro p m hp h0 h
    refine Ev.step (fun k => ?_) h
    simp only [impl_pagesOf.l1, toNat_cast, hr]
    rw [if_neg (by omega), wrap_succ (by omega)]
    rfl
  | succ d ih =>
    intro p m hp h0 h
    refine Ev.step (fun k => ?_) (ih (p + 1) (m.set p.toNat (mkR r)) (by omega) (by omega) h)
    simp only [impl_pagesOf.l1, toNat_cast, hr]
    rw [if_pos (by omega), if_pos (by omega), if_pos (by omega), wrap64_id (n := p + 1) (by omega) (by omega)]
    rfl
theorem impl_pages_ev (l : List RegW) (hl : l.length ≤ 1048576) (h1 : ∀ r ∈ l, oneR r = true) : Ev (fun k => impl_pagesOf.f k l) (marksB l zer) := by
  have key : ∀ (rest pre : List RegW) (m : List Int), l = pre ++ rest → Ev (fun k => impl_pagesOf.l0 k l m (pre.length : Int)) (marksB rest m) := by
    intro rest
    induction rest with
    | nil =>
      intro pre m e
      have hlen : l.length = pre.length := by rw [e]; simp
      refine Ev.of_succ (fun k => ?_)
      simp only [impl_pagesOf.l0, marksB]
      rw [if_neg (by omega)]
    | cons r rest ih =>
      intro pre m e
      have hlen : l.length = pre.length + (rest.length + 1) := by rw [e]; simp
      have hr : l.getD pre.length zg = r := by rw [e, getD_midr]
      have ho := h1 r (by rw [e]; simp)
      have hb := oneR_bd ho
      have hi := ih (pre ++ [r]) (pnt (mkR r) (r.f1 - r.f0).toNat r.f0 m) (by rw [e]; simp)
      simp only [List.length_append, List.length_cons, List.length_nil, Nat.zero_add] at hi
      refine Ev.step (fun k => ?_) (impl_pages_in l hl pre.length (by omega) r hr ho _ (r.f1 - r.f0).toNat r.f0 m (by omega) hb.1 hi)
      simp only [impl_pagesOf.l0, toNat_cast, hr]
      rw [if_pos (by omega), if_pos (by omega)]
  exact key l [] zer rfl
def stepB (m : List Int) (out : List RegW) (p : Nat) : List RegW :=
  if m.getD p 0 = 0 then out
  else if 0 < p ∧ m.getD (p - 1) 0 = m.getD p 0 then out.set (out.length - 1) ⟨(out.getD (out.length - 1) zg).f0, (p : Int) + 1, (out.getD (out.length - 1) zg).f2⟩
  else out ++ [⟨(p : Int), (p : Int) + 1, (m.getD p 0 == 2)⟩]
def fromB (m : List Int) : List RegW := (List.range 64).foldl (stepB m) []
structure InvF (m : List Int) (p : Nat) (out : List RegW) : Prop where
  len : out.length ≤ p
  ok : ∀ i, i < out.length → okR out i = true
  last : 0 < out.length → (regAt out (out.length - 1)).f1 ≤ p
  on : 0 < p → m.getD (p - 1) 0 ≠ 0 → 0 < out.length ∧ (regAt out (out.length - 1)).f1 = p ∧ (regAt out (out.length - 1)).f2 = (m.getD (p - 1) 0 == 2)
  off : 0 < out.length → (regAt out (out.length - 1)).f1 = p → 0 < p ∧ m.getD (p - 1) 0 ≠ 0
theorem regAt_lt {out : List RegW} {y : RegW} {i : Nat} (h : i < out.length) : regAt (out ++ [y]) i = regAt out i := by
  unfold regAt
  rw [List.getD_eq_getElem?_getD, List.getD_eq_getElem?_getD, List.getElem?_append_left h]
theorem regAt_eq {out : List RegW} {y : RegW} : regAt (out ++ [y]) out.length = y := by
  unfold regAt
  simp [List.getD_eq_getElem?_getD]
theorem regAt_set {out : List RegW} {y : RegW} {n i : Nat} (h : i < out.length) : regAt (out.set n y) i = if i = n then y else regAt out i := by
  unfold regAt
  by_cases e : i = n
  · subst e
    rw [if_pos rfl, List.getD_eq_getElem?_getD, List.getElem?_set_self h]
    rfl
  · rw [if_neg e, List.getD_eq_getElem?_getD, List.getD_eq_getElem?_getD, List.getElem?_set_ne (by omega)]
theorem okR_one {out : List RegW} {i : Nat} (h : okR out i = true) : oneR (regAt out i) = true := by
  simp only [okR, Bool.and_eq_true] at h
  exact h.1
theorem okR_next {out : List RegW} {i : Nat} (h : okR out i = true) (h0 : ¬ i = 0) : nextR (regAt out (i - 1)) (regAt out i) = true := by
  rw [okR_cases h0, Bool.and_eq_true] at h
  exact h.2
theorem okR_mk {out : List RegW} {i : Nat} (h1 : oneR (regAt out i) = true) (h2 : ¬ i = 0 → nextR (regAt out (i - 1)) (regAt out i) = true) : okR out i = true := by
  by_cases h0 : i = 0
  · unfold okR; rw [h1, decide_eq_true h0]; rfl
  · rw [okR_cases h0, h1, h2 h0]; rfl
theorem nextR_iff {a b : RegW} : nextR a b = true ↔ a.f1 ≤ b.f0 ∧ (a.f1 = b.f0 → a.f2 ≠ b.f2) := by
  simp only [nextR, Bool.and_eq_true, Bool.or_eq_true, Bool.not_eq_true', decide_eq_false_iff_not, beq_eq_false_iff_ne]
  constructor
  · rintro ⟨h1, h2⟩
    exact ⟨by omega, fun h3 => h2.elim (fun h4 => absurd h3 h4) id⟩
  · rintro ⟨h1, h2⟩
    refine ⟨by omega, ?_⟩
    by_cases h3 : a.f1 = b.f0
    · exact Or.inr (h2 h3)
    · exact Or.inl h3
theorem stepB_inv (m : List Int) (hm : Tri m) (p : Nat) (hp : p < 64) (out : List RegW) (h : InvF m p out) : InvF m (p + 1) (stepB m out p) := by
  unfold stepB
  by_cases h0 : m.getD p 0 = 0
  · rw [if_pos h0]
    refine ⟨by have := h.len; omega, h.ok, fun x => by have := h.last x; omega, fun _ hn => absurd h0 (by simpa using hn), fun x e => ?_⟩
    have := h.last x
    omega
  · rw [if_neg h0]
    by_cases h1 : 0 < p ∧ m.getD (p - 1) 0 = m.getD p 0
    · rw [if_pos h1]
      obtain ⟨hl, hf, hw⟩ := h.on h1.1 (by rw [h1.2]; exact h0)
      have hlast := h.ok (out.length - 1) (by omega)
      have hone := oneR_bd (okR_one hlast)
      change (regAt out (out.length - 1)).f1 = p at hf
      have hL : (out.set (out.length - 1) (⟨(out.getD (out.length - 1) zg).f0, (p : Int) + 1, (out.getD (out.length - 1) zg).f2⟩ : RegW)).length = out.length := List.length_set ..
      have hA : regAt (out.set (out.length - 1) (⟨(out.getD (out.length - 1) zg).f0, (p : Int) + 1, (out.getD (out.length - 1) zg).f2⟩ : RegW)) (out.length - 1) = ⟨(regAt out (out.length - 1)).f0, (p : Int) + 1, (regAt out (out.length - 1)).f2⟩ := by
        rw [regAt_set (by omega), if_pos rfl]; rfl
      refine ⟨by rw [hL]; have := h.len; omega, fun i hi => ?_, fun _ => by rw [hL, hA]; show (p : Int) + 1 ≤ _; omega, fun _ _ => ?_, fun _ _ => ⟨by omega, by simpa using h0⟩⟩
      · rw [hL] at hi
        by_cases e : i = out.length - 1
        · subst e
          refine okR_mk ?_ (fun hn => ?_)
          · rw [hA]
            have h6 : (regAt out (out.length - 1)).f0 < (p : Int) + 1 := by omega
            simp only [oneR, decide_eq_true_eq]
            exact ⟨hone.1, h6, by omega⟩
          · rw [hA, regAt_set (by omega), if_neg (by omega)]
            have := nextR_iff.1 (okR_next hlast hn)
            exact nextR_iff.2 this
        · have hk := h.ok i hi
          refine okR_mk ?_ (fun hn => ?_)
          · rw [regAt_set hi, if_neg e]; exact okR_one hk
          · rw [regAt_set hi, if_neg e, regAt_set (by omega), if_neg (by omega)]; exact okR_next hk hn
      · rw [hL, hA]
        refine ⟨hl, by show (p : Int) + 1 = _; omega, ?_⟩
        show (regAt out (out.length - 1)).f2 = _
        rw [hw, h1.2]
        simp
    · rw [if_neg h1]
      have hL : (out ++ [(⟨(p : Int), (p : Int) + 1, (m.getD p 0 == 2)⟩ : RegW)]).length = out.length + 1 := by simp
      refine ⟨by rw [hL]; have := h.len; omega, fun i hi => ?_, fun _ => ?_, fun _ _ => ?_, fun _ _ => ⟨by omega, by simpa using h0⟩⟩
      · rw [hL] at hi
        by_cases e : i = out.length
        · subst e
          refine okR_mk ?_ (fun hn => ?_)
          · rw [regAt_eq]
            simp only [oneR, decide_eq_true_eq]
            refine ⟨?_, ?_, ?_⟩ <;> omega
          · rw [regAt_eq, regAt_lt (by omega)]
            refine nextR_iff.2 ⟨h.last (by omega), fun hf => ?_⟩
            show (regAt out (out.length - 1)).f2 ≠ (m.getD p 0 == 2)
            have hf' : (regAt out (out.length - 1)).f1 = p := hf
            obtain ⟨hp0, hne⟩ := h.off (by omega) hf'
            obtain ⟨_, _, hw⟩ := h.on hp0 hne
            rw [hw]
            have t1 := hm.at_ p
            have t2 := hm.at_ (p - 1)
            have hd : m.getD (p - 1) 0 ≠ m.getD p 0 := fun x => h1 ⟨hp0, x⟩
            generalize m.getD (p - 1) 0 = u at *
            generalize m.getD p 0 = v at *
            rcases t1 with rfl | rfl | rfl <;> rcases t2 with rfl | rfl | rfl <;> simp_all
        · have hi2 : i < out.length := by omega
          have hk := h.ok i hi2
          refine okR_mk ?_ (fun hn => ?_)
          · rw [regAt_lt hi2]; exact okR_one hk
          · rw [regAt_lt hi2, regAt_lt (by omega)]; exact okR_next hk hn
      · rw [hL, Nat.add_sub_cancel, regAt_eq]
        show (p : Int) + 1 ≤ _
        omega
      · rw [hL, Nat.add_sub_cancel, regAt_eq]
        refine ⟨by omega, by show (p : Int) + 1 = _; omega, ?_⟩
        simp
theorem InvF.zero (m : List Int) : InvF m 0 [] := ⟨by simp, fun i hi => by simp at hi, fun h => by simp at h, fun h => by omega, fun h => by simp at h⟩
theorem rdM (m : List Int) (i : Nat) : rd m (i : Int) = m.getD i 0 := by unfold rd; rw [toNat_cast]
theorem wrap_predI {i : Nat} (h0 : 0 < i) (h : i < 9223372036854775807) : wrap64 ((i : Int) - 1) = ((i - 1 : Nat) : Int) := by unfold wrap64; omega
theorem spec_from_ev (m : List Int) (hm : Tri m) : Ev (fun k => spec_l06From.f k m) (fromB m) ∧ InvF m 64 (fromB m) := by
  have hml := hm.1
  refine ev_fold (fun k out i => spec_l06From.l0 k m out (i : Int)) 64 (stepB m) id (InvF m) (fun i out hi hinv => ⟨stepB_inv m hm i hi out hinv, fun r h => ?_⟩) (fun out _ => ?_) [] (InvF.zero m)
  · have hlen := hinv.len
    refine Ev.step (fun k => ?_) h
    simp only [spec_l06From.l0, rdM]
    rw [if_pos (by omega), if_pos (by omega)]
    unfold stepB
    by_cases h0 : m.getD i 0 = 0
    · rw [if_pos h0, if_pos h0, wrap_succ (by omega)]
    · rw [if_neg h0, if_neg h0]
      by_cases hp : 0 < i
      · rw [if_pos (show (i : Int) > 0 by omega), wrap_predI hp (by omega), rdM]
        simp only [if_pos (show (0 : Int) ≤ ((i - 1 : Nat) : Int) by omega), if_pos (show ((i - 1 : Nat) : Int) < (m.length : Int) by omega)]
        by_cases h1 : m.getD (i - 1) 0 = m.getD i 0
        · obtain ⟨hl, _, _⟩ := hinv.on hp (by rw [h1]; exact h0)
          rw [if_pos h1, if_pos (show 0 < i ∧ m.getD (i - 1) 0 = m.getD i 0 from ⟨hp, h1⟩), wrap_predI hl (by omega), rdGW]
          simp only [if_pos (show (0 : Int) ≤ ((out.length - 1 : Nat) : Int) by omega), if_pos (show ((out.length - 1 : Nat) : Int) < (out.length : Int) by omega), toNat_cast, wrap_succ (show i < 9223372036854775807 by omega)]
          rfl
        · rw [if_neg h1, if_neg (show ¬ (0 < i ∧ m.getD (i - 1) 0 = m.getD i 0) from fun x => h1 x.2), if_pos (by omega)]
          simp only [wrap_succ (show i < 9223372036854775807 by omega)]
          rfl
      · rw [if_neg (show ¬ (i : Int) > 0 by omega), if_neg (show ¬ (0 < i ∧ m.getD (i - 1) 0 = m.getD i 0) from fun x => hp x.1), if_pos (by omega)]
        simp only [wrap_succ (show i < 9223372036854775807 by omega)]
        rfl
  · refine Ev.of_succ (fun k => ?_)
    simp only [spec_l06From.l0]
    rw [if_neg (by omega)]
    rfl
def setB (m : List Int) : List RegW × Bool := if (fromB m).length ≤ 12 then (fromB m, true) else ([], false)
theorem impl_from_ev (m : List Int) (hm : Tri m) : Ev (fun k => impl_regionsOf.f k m) (setB m) := by
  have hml := hm.1
  refine (ev_fold (fun k out i => impl_regionsOf.l0 k m out (i : Int)) 64 (stepB m) (fun out => if out.length ≤ 12 then (out, true) else ([], false)) (InvF m) (fun i out hi hinv => ⟨stepB_inv m hm i hi out hinv, fun r h => ?_⟩) (fun out _ => ?_) [] (InvF.zero m)).1
  · have hlen := hinv.len
    refine Ev.step (fun k => ?_) h
    simp only [impl_regionsOf.l0, toNat_cast]
    rw [if_pos (by omega), if_pos (by omega), wrap_succ (by omega)]
    unfold stepB
    by_cases h0 : m.getD i 0 = 0
    · rw [if_pos h0, if_pos h0]
    · rw [if_neg h0, if_neg h0]
      by_cases h1 : 0 < i ∧ m.getD (i - 1) 0 = m.getD i 0
      · obtain ⟨hl, hf, hw⟩ := hinv.on h1.1 (by rw [h1.2]; exact h0)
        rw [if_pos h1, if_pos (show 0 < out.length ∧ (out.getD (out.length - 1) zg).f1 = (i : Int) ∧ (out.getD (out.length - 1) zg).f2 = (m.getD i 0 == 2) from ⟨hl, hf, by rw [← h1.2]; exact hw⟩)]
        rfl
      · rw [if_neg h1, if_neg (fun x => ?_), if_pos (by omega)]
        · rfl
        · obtain ⟨x1, x2, x3⟩ := x
          obtain ⟨hp, hne⟩ := hinv.off x1 x2
          obtain ⟨_, _, hw⟩ := hinv.on hp hne
          have hw' : (out.getD (out.length - 1) zg).f2 = (m.getD (i - 1) 0 == 2) := hw
          change (out.getD (out.length - 1) zg).f2 = (m.getD i 0 == 2) at x3
          rw [hw'] at x3
          refine h1 ⟨hp, ?_⟩
          have t1 := hm.at_ i
          have t2 := hm.at_ (i - 1)
          generalize m.getD (i - 1) 0 = u at *
          generalize m.getD i 0 = v at *
          rcases t1 with rfl | rfl | rfl <;> rcases t2 with rfl | rfl | rfl <;> simp_all
  · refine Ev.of_succ (fun k => ?_)
    simp only [impl_regionsOf.l0]
    rw [if_neg (by omega)]
    by_cases h : out.length ≤ 12
    · rw [if_neg (by omega), if_pos h]
    · rw [if_pos (by omega), if_neg h]
theorem fromB_ok (m : List Int) (hm : Tri m) : regsB (fromB m) = decide ((fromB m).length ≤ 12) := by
  have h := (spec_from_ev m hm).2
  unfold regsB
  rw [List.all_eq_true.2 (fun i hi => h.ok i (List.mem_range.1 hi)), Bool.and_true]
theorem setB_small (m : List Int) : (setB m).1.length ≤ 12 := by
  unfold setB
  by_cases h : (fromB m).length ≤ 12
  · rw [if_pos h]; exact h
  · rw [if_neg h]; simp
theorem spec_set_ev (v : Int) (hv : v = 0 ∨ v = 1 ∨ v = 2) (b : Int) (hb : b ≤ 64) : ∀ (d : Nat) (p : Int) (m : List Int), p + d = b → 0 ≤ p → Tri m →
    Ev (fun k => spec_l06Set.l0 k m b v p) (if (fromB (pnt v d p m)).length ≤ 12 then (fromB (pnt v d p m), true, pnt v d p m) else ([], false, pnt v d p m)) := by
  intro d
  induction d with
  | zero =>
    intro p m hp h0 hm
    have hf := spec_from_ev m hm
    refine Ev.step (f := fun k => (spec_l06From.f k m).bind fun t221 => ((spec_RegionsOk.f k t221).bind fun t224 => (if t224 = true then (some (t221, true, m)) else (some ((([] : List RegW)), false, m))))) (fun k => ?_) (Ev.bind hf.1 (Ev.bind (spec_RegionsOk_ev _ (by have := hf.2.len; omega)) ?_))
    · simp only [spec_l06Set.l0]
      rw [if_neg (by omega)]
    · rw [fromB_ok m hm]
      show Ev _ (if (fromB m).length ≤ 12 then _ else _)
      by_cases h : (fromB m).length ≤ 12
      · simp only [decide_eq_true h, if_true, if_pos h]; exact Ev.now _
      · simp only [decide_eq_false h, Bool.false_eq_true, if_false, if_neg h]; exact Ev.now _
  | succ d ih =>
    intro p m hp h0 hm
    refine Ev.step (fun k => ?_) (ih (p + 1) (m.set p.toNat v) (by omega) (by omega) (hm.set _ hv))
    have := hm.1
    simp only [spec_l06Set.l0]
    rw [if_pos (by omega), if_pos (by omega), if_pos (by omega), wrap64_id (n := p + 1) (by omega) (by omega)]
theorem impl_paint_ev (v : Int) (hv : v = 0 ∨ v = 1 ∨ v = 2) (b : Int) (hb : b ≤ 64) : ∀ (d : Nat) (p : Int) (m : List Int), p + d = b → 0 ≤ p → Tri m → Ev (fun k => impl_painted.l0 k m b v p) (setB (pnt v d p m)) := by
  intro d
  induction d with
  | zero =>
    intro p m hp h0 hm
    refine Ev.step (fun k => ?_) (impl_from_ev m hm)
    simp only [impl_painted.l0]
    rw [if_neg (by omega)]
  | succ d ih =>
    intro p m hp h0 hm
    refine Ev.step (fun k => ?_) (ih (p + 1) (m.set p.toNat v) (by omega) (by omega) (hm.set _ hv))
    simp only [impl_painted.l0]
    rw [if_pos (by omega), if_pos (by omega), if_pos (by omega), wrap64_id (n := p + 1) (by omega) (by omega)]
def paintB (l : List RegW) (a b v : Int) : List RegW × Bool := setB (pnt v (b - a).toNat a (marksB l zer))
theorem painted_ev (l : List RegW) (hl : l.length ≤ 1048576) (h1 : ∀ r ∈ l, oneR r = true) (a b v : Int) (hab : 0 ≤ a ∧ a < b ∧ b ≤ 64) (hv : v = 0 ∨ v = 1 ∨ v = 2) : Ev (fun k => impl_painted.f k l a b v) (paintB l a b v) := by
  unfold impl_painted.f
  exact Ev.bind (impl_pages_ev l hl h1) (impl_paint_ev v hv b hab.2.2 (b - a).toNat a _ (by omega) hab.1 (marksB_tri l zer zer_tri))
theorem l06Set_ev (m : List Int) (hm : Tri m) (a b v : Int) (hab : 0 ≤ a ∧ a < b ∧ b ≤ 64) (hv : v = 0 ∨ v = 1 ∨ v = 2) : ∃ q, Ev (fun k => spec_l06Set.f k m a b v) q ∧ (q.1, q.2.1) = setB (pnt v (b - a).toNat a m) := by
  refine ⟨_, spec_set_ev v hv b hab.2.2 (b - a).toNat a m (by omega) hab.1 hm, ?_⟩
  unfold setB
  split <;> rfl
theorem isSpan_eq (a b : Int) (w : Bool) (hb : (Lit.int .i64 b).wf = true) : impl_isSpan.f a b = some (oneR ⟨a, b, w⟩) := by
  have hb2 := wf_i64 hb
  show _ = some (decide (0 ≤ a ∧ a < b ∧ b ≤ 64))
  unfold impl_isSpan.f
  rw [within_eq]
  by_cases h1 : b ≥ 1
  · rw [if_pos h1, wrap64_id (n := b - 1) (by omega) (by omega)]
    by_cases h2 : b ≤ 64
    · rw [if_pos h2]
      simp only [Option.bind_some]
      congr 1
      exact decide_eq_decide.2 (by constructor <;> intro h <;> omega)
    · rw [if_neg h2, decide_eq_false (show ¬ (0 ≤ a ∧ a < b ∧ b ≤ 64) by omega)]
  · rw [if_neg h1, decide_eq_false (show ¬ (0 ≤ a ∧ a < b ∧ b ≤ 64) by omega)]
theorem markRegionS_ev (l : List RegW) (hl : l.length ≤ 1048576) (a : Int) (h0 : 0 ≤ a) (h1 : a ≤ 1000000000) : Ev (fun k => laws_markRegionS.f k l a) (a + 3 * l.length, (List.range l.length).map (fun j : Nat => (⟨a + 3 * (j : Int), a + 3 * (j : Int) + 1, (Int.tmod (a + 3 * (j : Int) + 2) 3 == 0)⟩ : RegW))) := by
  have key := ev_copy0 (fun k acc i => laws_markRegionS.l0 k acc (a + 3 * (i : Int)) (i : Int)) l.length (fun i => (⟨a + 3 * (i : Int), a + 3 * (i : Int) + 1, (Int.tmod (a + 3 * (i : Int) + 2) 3 == 0)⟩ : RegW)) (fun acc => (a + 3 * (l.length : Int), acc)) (by
    intro i acc hi ha r h
    refine Ev.step (fun k => ?_) h
    simp only [laws_markRegionS.l0]
    rw [if_pos (by omega), if_pos (by omega)]
    simp only [Option.bind_some]
    have g : ∀ y : RegW, (acc.set i y).getD i z70 = y := fun y => by
      rw [List.getD_eq_getElem?_getD, List.getElem?_set_self (by omega)]; rfl
    simp only [wrap_succ (show i < 9223372036854775807 by omega), toNat_cast, wrap64_id (n := a + 3 * (i : Int) + 1) (by omega) (by omega), wrap64_id (n := a + 3 * (i : Int) + 2) (by omega) (by omega), wrap64_id (n := a + 3 * ((i + 1 : Nat) : Int)) (by omega) (by omega), List.set_set, rdGW, g, show a + 3 * (i : Int) + 2 + 1 = a + 3 * ((i + 1 : Nat) : Int) by omega, show a + 3 * (i : Int) + 1 + 1 = a + 3 * (i : Int) + 2 by omega]) (by
    intro acc ha
    refine Ev.of_succ (fun k => ?_)
    simp only [laws_markRegionS.l0]
    rw [if_neg (by omega)]) l rfl
  simp only [show ((0 : Nat) : Int) = 0 from rfl, Int.mul_zero, Int.add_zero] at key
  exact key
def upReg (a : Int) (n : Nat) : List RegW := (List.range n).map (fun j : Nat => (⟨a + 3 * (j : Int), a + 3 * (j : Int) + 1, (Int.tmod (a + 3 * (j : Int) + 2) 3 == 0)⟩ : RegW))
theorem upReg_len (a : Int) (n : Nat) : (upReg a n).length = n := by simp [upReg]
theorem upReg_getD (a : Int) (n i : Nat) (d : RegW) (h : i < n) : (upReg a n).getD i d = ⟨a + 3 * (i : Int), a + 3 * (i : Int) + 1, (Int.tmod (a + 3 * (i : Int) + 2) 3 == 0)⟩ := by simp [upReg, List.getD_eq_getElem?_getD, h]
theorem heldRegionS_ev (n : Nat) (hn : n ≤ 1048576) (a : Int) (h0 : 0 ≤ a) (h1 : a ≤ 1000000000) : Ev (fun k => laws_heldRegionS.f k (upReg a n) a) (a + 3 * n) := by
  have key := ev_yes (fun k i => laws_heldRegionS.l0 k (upReg a n) (a + 3 * (i : Int)) (i : Int)) n (fun _ => true) (a + 3 * (n : Int)) (by
    intro i hi _ r h
    refine Ev.step (fun k => ?_) h
    simp only [laws_heldRegionS.l0]
    rw [upReg_len, if_pos (by omega), if_pos (by omega), rdGW, upReg_getD _ _ _ _ hi]
    simp only [wrap_succ (show i < 9223372036854775807 by omega), wrap64_id (n := a + 3 * (i : Int) + 1) (by omega) (by omega), wrap64_id (n := a + 3 * (i : Int) + 2) (by omega) (by omega), wrap64_id (n := a + 3 * ((i + 1 : Nat) : Int)) (by omega) (by omega), show a + 3 * (i : Int) + 2 + 1 = a + 3 * ((i + 1 : Nat) : Int) by omega, show a + 3 * (i : Int) + 1 + 1 = a + 3 * (i : Int) + 2 by omega, if_true, bne_self_eq_false, Bool.false_eq_true, if_false]) (by simp) (by
    refine Ev.of_succ (fun k => ?_)
    simp only [laws_heldRegionS.l0]
    rw [upReg_len, if_neg (by omega)])
  simp only [show ((0 : Nat) : Int) = 0 from rfl, Int.mul_zero, Int.add_zero] at key
  exact key
def cutB (l : List RegW) (a b : Int) : List RegW × Bool := if regsB l = true ∧ oneR ⟨a, b, false⟩ = true then paintB l a b 0 else ([], false)
theorem paintB_small (l : List RegW) (a b v : Int) : (paintB l a b v).1.length ≤ 12 := setB_small _
theorem spec_Cut_ev (l : List RegW) (hl : l.length ≤ 1048576) (a b : Int) : Ev (fun k => spec_CutRegions.f k l a b) (cutB l a b) := by
  have hno : Ev (fun k => spec_CutRegions.j0 k l a b true) ([], false) := Ev.of_succ (fun k => by simp only [spec_CutRegions.j0, if_true])
  unfold spec_CutRegions.f cutB
  refine Ev.bind (spec_RegionsOk_ev l hl) ?_
  by_cases h : regsB l = true
  · simp only [if_pos h, l06One_eq, Option.bind_some]
    by_cases ho : oneR ⟨a, b, false⟩ = true
    · rw [if_pos ⟨h, ho⟩, ho]
      have hm := marksB_tri l zer zer_tri
      obtain ⟨q, hq, hs⟩ := l06Set_ev (marksB l zer) hm a b 0 (oneR_bd ho) (Or.inl rfl)
      unfold paintB
      rw [← hs]
      refine Ev.step (f := fun k => (spec_l06Marks.f k l).bind fun t241 => ((spec_l06Set.f k t241 a b 0).bind fun bt244 => (some (bt244.1, bt244.2.1)))) (fun k => ?_) (Ev.bind (spec_marks_ev l hl (regsB_one h)) (Ev.bind hq (Ev.now _)))
      simp only [spec_CutRegions.j0, Bool.not_true, Bool.false_eq_true, if_false]
    · rw [if_neg (fun x => ho x.2), Bool.eq_false_iff.2 ho]
      exact hno
  · simp only [if_neg h]
    rw [if_neg (fun x => h x.1)]
    exact hno
theorem impl_Cut_ev (l : List RegW) (hl : l.length ≤ 1048576) (a b : Int) (hb : (Lit.int .i64 b).wf = true) : Ev (fun k => impl_CutRegions.f k l a b) (cutB l a b) := by
  unfold impl_CutRegions.f cutB
  refine Ev.bind (impl_RegionsOk_ev l hl) ?_
  by_cases h : regsB l = true
  · simp only [if_pos h, isSpan_eq a b false hb, Option.bind_some]
    by_cases ho : oneR ⟨a, b, false⟩ = true
    · simp only [if_pos ho]
      rw [if_pos ⟨h, ho⟩]
      exact painted_ev l hl (regsB_one h) a b 0 (oneR_bd ho) (Or.inl rfl)
    · simp only [if_neg ho]
      rw [if_neg (fun x => ho x.2)]
      exact Ev.now _
  · simp only [if_neg h]
    rw [if_neg (fun x => h x.1)]
    exact Ev.now _
theorem cutB_small (l : List RegW) (a b : Int) : (cutB l a b).1.length ≤ 12 := by
  unfold cutB
  split
  · exact paintB_small _ _ _ _
  · simp
def allQ (q : Int → Bool) : Nat → Int → Bool
  | 0, _ => true
  | n + 1, p => q p && allQ q n (p + 1)
def wv (w : Bool) : Int := if w = true then 2 else 1
theorem wv_tri (w : Bool) : wv w = 0 ∨ wv w = 1 ∨ wv w = 2 := by unfold wv; split <;> simp
theorem writeOf_eq (w : Bool) : impl_writeOf.f w = some (wv w) := by unfold impl_writeOf.f wv; split <;> rfl
theorem l06Mark_eq (w : Bool) : spec_l06Mark.f w = some (wv w) := by unfold spec_l06Mark.f wv; split <;> rfl
def chB (l : List RegW) (a b : Int) (w : Bool) (q : Int → Bool) : List RegW × Bool := if regsB l = true ∧ oneR ⟨a, b, false⟩ = true then (if allQ q (b - a).toNat a = true then paintB l a b (wv w) else ([], false)) else ([], false)
theorem chB_small (l : List RegW) (a b : Int) (w : Bool) (q : Int → Bool) : (chB l a b w q).1.length ≤ 12 := by
  unfold chB
  repeat' split
  · exact paintB_small _ _ _ _
  · simp
  · simp
theorem oneR_w (a b : Int) (w w' : Bool) : oneR ⟨a, b, w⟩ = oneR ⟨a, b, w'⟩ := rfl

theorem FnExactCutRegions (l0 : List S68) (g0 : (l0.length ≤ maxLen ∧ ∀ y0 ∈ l0, ((Lit.int .i64 y0.f0).wf = true ∧ (Lit.int .i64 y0.f1).wf = true ∧ True))) (a1 : Int) (_w1 : (Lit.int .i64 a1).wf = true) (a2 : Int) (_w2 : (Lit.int .i64 a2).wf = true) : (∃ (k : Nat) (z : Int) (t : List (S70)) (y0 : List (S70)) (y1 : Bool) (m : Int) (M : List (S70)) (m1 : Int) (M1 : List (S70)), (laws_szRegionS.f l0 1048576 = some z) ∧ (laws_toRegionS.f k l0 = some t) ∧ (spec_CutRegions.f k t a1 a2 = some (y0, y1)) ∧ (impl_CutRegions.f k t a1 a2 = some (y0, y1)) ∧ (laws_eqRegionS.f k y0 y0 = some true) ∧ (laws_eqRegionS.f k t t = some true) ∧ (laws_markRegionS.f k t 1 = some (m, M)) ∧ (laws_markRegionS.f k y0 1 = some (m1, M1)) ∧ (laws_heldRegionS.f k M1 1 = some m1) ∧ (¬ z < 0) ∧ (¬ m < 0) ∧ (¬ m1 < 0)) ∨ (∃ (k : Nat) (z : Int), (laws_szRegionS.f l0 1048576 = some z) ∧ (z < 0)) := by
  by_cases hlen : (l0.length : Int) ≤ 1048576
  · refine Or.inl ?_
    have hl : (l0.map toReg_).length ≤ 1048576 := by rw [List.length_map]; omega
    have hy := cutB_small (l0.map toReg_) a1 a2
    obtain ⟨n1, e1⟩ := toRegionS_ev l0 (by omega)
    obtain ⟨n2, e2⟩ := spec_Cut_ev (l0.map toReg_) hl a1 a2
    obtain ⟨n3, e3⟩ := impl_Cut_ev (l0.map toReg_) hl a1 a2 _w2
    generalize cutB (l0.map toReg_) a1 a2 = y at *
    obtain ⟨n4, e4⟩ := eqRegionS_refl (l0.map toReg_) hl
    obtain ⟨n5, e5⟩ := eqRegionS_refl y.1 (by omega)
    obtain ⟨n6, e6⟩ := markRegionS_ev (l0.map toReg_) hl 1 (by omega) (by omega)
    obtain ⟨n7, e7⟩ := markRegionS_ev y.1 (by omega) 1 (by omega) (by omega)
    obtain ⟨n8, e8⟩ := heldRegionS_ev y.1.length (by omega) 1 (by omega) (by omega)
    exact ⟨n1 + n2 + n3 + n4 + n5 + n6 + n7 + n8, _, _, y.1, y.2, _, _, _, _, by rw [szRegionS_eq l0 g0.1, if_pos hlen], e1 _ (by omega), e2 _ (by omega), e3 _ (by omega), e5 _ (by omega), e4 _ (by omega), e6 _ (by omega), e7 _ (by omega), e8 _ (by omega), by omega, by omega, by omega⟩
  · exact Or.inr ⟨0, _, by rw [szRegionS_eq l0 g0.1, if_neg hlen], by omega⟩

end Go.Proofs.Ytdpejnckojhgjaa.Pure
end
