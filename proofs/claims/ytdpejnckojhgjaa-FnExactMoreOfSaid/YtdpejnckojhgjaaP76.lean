-- Printed by a program of this session's (wip/myprint.py), over the kit's printer, with texts of this session's own among it. Lean checks it.
import Derived.Test.YtdpejnckojhgjaaP0
import Derived.Test.YtdpejnckojhgjaaP18
namespace Go.Proofs.Ytdpejnckojhgjaa.P
open Go.RowKit Go.Proofs.YtdpejnckojhgjaaW.PrintWords Go.Proofs.YtdpejnckojhgjaaW.PrintLast Go.Proofs.YtdpejnckojhgjaaW.PrintMore
attribute [local go_sem] max2_int min2_int max_two min_two max_three min_three max_four min_four   -- for this text's walks alone
set_option linter.unusedVariables false
set_option linter.unusedSimpArgs false

/-! ### laws_markSlotS: function 40 -/
def laws_markSlotS.l0 : Nat → List S62 → Int → Int → Option (Int × List S62)
  | 0, _, _, _ => none
  | k + 1, x0, x1, x5 => if x5 < (x0.length : Int) then (if 0 ≤ x5 then ((laws_markIntS.f k (x0.getD x5.toNat z62).f1 (wrap64 (x1 + 1))).bind fun t => (laws_markSlotS.l0 k (x0.set x5.toNat (⟨(x1), t.2⟩ : S62)) t.1 (wrap64 (x5 + 1)))) else none) else some (x1, x0)
def laws_markSlotS.f (k : Nat) (l0 : List S62) (a1 : Int) : Option (Int × List S62) := laws_markSlotS.l0 k l0 a1 0
theorem laws_markSlotS.mono_l : ∀ k y0 y1 y2, LeO (laws_markSlotS.l0 k y0 y1 y2) (laws_markSlotS.l0 (k + 1) y0 y1 y2)
  | 0 => fun _ _ _ r h => by simp [laws_markSlotS.l0] at h
  | k + 1 => by
    intro y0 y1 y2
    rw [laws_markSlotS.l0, laws_markSlotS.l0]
    refine LeO.ite (LeO.ite (LeO.bind (laws_markIntS.mono _ _ _) (fun _ => laws_markSlotS.mono_l k _ _ _)) (LeO.refl _)) (LeO.refl _)
theorem laws_markSlotS.mono : ∀ a0 a1 k, LeO (laws_markSlotS.f k a0 a1) (laws_markSlotS.f (k + 1) a0 a1) := fun _ _ k => laws_markSlotS.mono_l k _ _ _
theorem laws_markSlotS.get_set {xs : List S62} {a z : S62} {i : Int} (h0 : 0 ≤ i) (h1 : i < (xs.length : Int)) : (xs.set i.toNat a).getD i.toNat z = a := by
  rw [List.getD_eq_getElem?_getD, List.getElem?_set_self (by omega)]
  rfl
set_option maxHeartbeats 3200000 in
set_option maxRecDepth 100000 in
theorem laws_markSlotS.calls (k : Nat) (P0_ : Nat → Prop) (u9000_ : Value) (l0 : List S62) (a1 : Int) (r1 : Int) (r2 : List S62) (w0 w : World) (hB : Below w0.heap.size w0 w) (ho0 : Kd.S k62 62 w w0.heap.size P0_ u9000_ l0) (h : laws_markSlotS.f k l0 a1 = some (r1, r2)) :
    Calls Try.prog 40 #[u9000_, .int .i64 a1] w fun e w' => e = .returned (.int .i64 r1) ∧ Kd.S k62 62 w' w0.heap.size (fun k_ => (P0_ k_ ∨ w.heap.size ≤ k_)) u9000_ r2 ∧ Below w0.heap.size w0 w' ∧ Kept w w' (fun k_ => P0_ k_) := by
  have HO0 := Aside0.mk (show Kd.S k62 62 w w0.heap.size (fun k_ => (P0_ k_ ∨ w.heap.size ≤ k_)) u9000_ l0 from Kd.S_mono ho0 (fun k_ hk => (.inl hk)))
  have HK := Aside0.mk (Kept.refl w (fun k_ => P0_ k_))
  have HB := Aside0.mk hB
  clear hB ho0
  have H' := Aside0.mk (show laws_markSlotS.l0 k l0 a1 0 = some (r1, r2) from h)
  clear h
  go_enter Try.func40, Try.ntmps40
  go_wp2
  go_loopg [1, 5] k (fun kq v1 v5 w' => ∃ (x0_1 : List S62) (x1_1 : Int) (x5_1 : Int), v1 = .int .i64 x1_1 ∧ v5 = .int .i64 x5_1 ∧ Aside0 (laws_markSlotS.l0 kq x0_1 x1_1 x5_1 = some (r1, r2)) ∧ Aside0 (kq ≤ k) ∧ Aside0 (Kd.S k62 62 w' w0.heap.size (fun k_ => (P0_ k_ ∨ w.heap.size ≤ k_)) u9000_ x0_1) ∧ Aside0 (Kept w w' (fun k_ => P0_ k_)) ∧ Aside0 (Below w0.heap.size w0 w'))
  case atStart => exact ⟨l0, a1, 0, rfl, rfl, H', ⟨Nat.le_refl _⟩, HO0, HK, HB⟩
  case round =>
    clear H' HO0 HK HB
    obtain ⟨x0_1, x1_1, x5_1, rfl, rfl, HA, HK1, HO, HK, HB⟩ := hrel
    cases gk with
    | zero => exact absurd HA.out (by simp [laws_markSlotS.l0])
    | succ k1 =>
      have H := HA.out
      clear HA
      rw [laws_markSlotS.l0] at H
      obtain ⟨An, cn, en⟩ := Kd.S_slice HO.out
      subst en
      by_cases c3 : x5_1 < (x0_1.length : Int)
      · rw [if_pos c3] at H
        by_cases c4 : 0 ≤ x5_1
        · rw [if_pos c4] at H
          obtain ⟨⟨t1, t2⟩, hc, H⟩ := Option.bind_eq_some_iff.mp H
          have HC := Aside0.mk hc
          have H' := Aside0.mk H
          clear hc H
          obtain ⟨g, cap, eg, gb, gl, cl, HG⟩ := Kd.S_form HO.out (by omega)
          obtain ⟨ea, ec⟩ : An = some ⟨g, 0, none⟩ ∧ cn = cap := by injection eg with a b c; exact ⟨a, c⟩
          subst ea ec
          clear eg HG cl
          have GB := Aside0.mk gb
          have hgok : (P0_ g ∨ w.heap.size ≤ g) := (Kd.S_R HO.out).1 g (by simp [Value.ownBlock])
          have HGK := Aside0.mk hgok
          have C3 := Aside0.mk c3
          have C4 := Aside0.mk c4
          have C3b := decide_eq_true c3
          have C4b := decide_eq_true c4
          clear hgok gb gl
          have HX := Aside0.mk (show Kd.S k62 62 wr w0.heap.size (fun k_ => (P0_ k_ ∨ w.heap.size ≤ k_) ∧ ¬ ((fun _ => False) : Nat → Prop) k_) (.slice (some ⟨g, 0, none⟩) x0_1.length cn) x0_1 from (Kd.S_mono HO.out (fun k_ hk => ⟨hk, fun e_ => e_⟩)))
          obtain ⟨oki, ce, hcl, hM, hcc, hfr, hoki, hH⟩ := Kd.S_elem HX.out z62 x5_1 C4.out C3.out
          obtain ⟨ve, rfl, ge⟩ := k62_openM hM
          have HP := Aside0.mk (Kd.S_seg hH C4.out C3.out (seg := [.int .i64 (x1_1)]) (j := 0) (show 1 ≤ 2 from by decide) (x' := (⟨(x1_1), (x0_1.getD x5_1.toNat z62).f1⟩ : S62)) (k62_mkM _ _ _ (⟨(x1_1), (x0_1.getD x5_1.toNat z62).f1⟩ : S62) (Kd.R_mono ge (fun _ h_ => Or.inl h_))) (fun _ hk => hk) (fun k_ hk_ => hk_.elim))
          have hx := hcc 0 _ rfl
          have hf := hfr 0
          simp only [show (k62).sz = 2 from rfl, Nat.add_zero] at hx hf
          clear hcl hcc hfr hM hoki hH ge HX
          go_wp2_with (first | ((with_reducible refine gate_store (t := 3) (p := 16) rfl ?_); refine store_event (t := 3) (p := 16) (v := ?vo0) (w1 := (World.setCell wr ⟨g, x5_1.toNat * 2, none⟩ (.int .i64 (x1_1)))) ?hg ?ho ?hn ?hr ?_; (case ho => rfl); (case hg => rfl); (case hn => rfl); (case hr => first | (go_simp; done) | (go_simp; rfl)); intro w10 hw; have hS : Kd.S k62 62 w10 w0.heap.size (fun k_ => (P0_ k_ ∨ w.heap.size ≤ k_)) (.slice (some ⟨g, 0, none⟩) x0_1.length cn) (x0_1.set x5_1.toNat (⟨(x1_1), (x0_1.getD x5_1.toNat z62).f1⟩ : S62)) := (by rw [hw]; exact HP.out.1); have hg : World.grownBy wr w10 (some g) := (by rw [hw]; exact HP.out.2); have n0_ := Aside0.mk hS; have n1_ := Aside0.mk (Kept.of_grown hg HK.out (fun k_ e_ => by injection e_ with e_; subst e_; exact HGK.out)); have n2_ := Aside0.mk (HB.out.grown hg HB.out.size (fun k_ e_ => by injection e_ with e_; subst e_; exact GB.out)); clear HP HO HK HB hS hg hw hx hf; have HO := n0_; have HK := n1_; have HB := n2_; clear n0_ n1_ n2_; obtain ⟨oki, ce, hcl, hM, hcc, hoki, hH⟩ := Kd.S_lend HO.out z62 x5_1 C4.out (show x5_1 < (x0_1.length : Int) from C3.out); rw [laws_markSlotS.get_set C4.out C3.out] at hM; obtain ⟨ve, rfl, ge⟩ := k62_openM hM; have hx := hcc 1 _ rfl; simp only [show (k62).sz = 2 from rfl, Nat.add_zero] at hx; have HR := Aside0.mk ge; have HH := Aside0.mk (Kd.H_widen hH); have HI := Aside0.mk hoki; have HLT := Aside0.mk HK.out.1; clear hcl hcc hM hoki hH ge HO) | ((with_reducible refine gate_callee (f := 20) rfl ?_); refine goesL_ (some 25) rfl rfl Try.func20 (by kernel_rfl) rfl #[ve, .int .i64 (wrap64 (x1_1 + 1))] rfl (by (try simp only [List.map_toArray, List.map_cons, List.map_nil]); first | done | rfl) ?_; (with_reducible refine (laws_markIntS.calls k1 oki ve (x0_1.getD x5_1.toNat z62).f1 (wrap64 (x1_1 + 1)) t1 t2 w0 _ HB.out HR.out HC.out).mono ?_); rintro e w20 ⟨rfl, hR1, hB1, hK1⟩; refine ⟨_, rfl, ?_⟩; have n1_ := Aside0.mk (HK.out.then_ hK1 (fun k_ hk => HI.out k_ hk |>.1)); have n2_ := Aside0.mk hB1; have n0_ := Aside0.mk (Kd.H_back (Kd.H_kept HH.out hK1 (fun k_ _ hn hk => hn (.inl hk))) (x' := (⟨(x1_1), t2⟩ : S62)) (k62_mkM _ _ _ (⟨(x1_1), t2⟩ : S62) hR1) (fun k_ hk => hk.elim .inl (fun h => .inr ⟨.inr (Nat.le_trans HLT.out h), h⟩))); rw [List.set_set] at n0_; clear hR1 hB1 hK1 HK HB HH HI HC HR; have HS := n0_; have HK := n1_; have HB := n2_; clear n0_ n1_ n2_))
          go_roundg k1
          case measure => have := HK1.out; omega
          case rel => exact ⟨_, _, _, rfl, rfl, H', ⟨by have := HK1.out; omega⟩, HS, HK, HB⟩
        · rw [if_neg c4] at H
          exact absurd H (by simp)
      · rw [if_neg c3] at H
        simp only [Option.some.injEq, Prod.mk.injEq] at H
        obtain ⟨rfl, rfl⟩ := H
        go_wp2
        go_ret
        exact ⟨rfl, HO.out, HB.out, HK.out⟩

end Go.Proofs.Ytdpejnckojhgjaa.P
