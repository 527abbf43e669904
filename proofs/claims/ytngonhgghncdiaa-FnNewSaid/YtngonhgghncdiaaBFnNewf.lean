/- What the proof of FnNewSaid rests on, part 6: plain lemmas and contracts of the functions that the law reaches (in part written by a printing program over the translation). No condition. -/
import Derived.Test.YtngonhgghncdiaaBFnNewe
import Derived.KernelRfl
section
namespace Go.Proofs.Ytngonhgghncdiaa.P
open Go.Proofs.Ytngonhgghncdiaa.Up Go.Proofs.Ytngonhgghncdiaa
open Go.RowKit Go.Proofs.YtngonhgghncdiaaW.PrintWords Go.Proofs.YtngonhgghncdiaaW.PrintLast Go.Proofs.YtngonhgghncdiaaW.PrintMore
attribute [local go_sem] max2_int min2_int max_two min_two max_three min_three max_four min_four
set_option linter.unusedVariables false
set_option linter.unusedSimpArgs false
theorem impl_MachineNew2 (k : Nat) (a0 a1 : Int) (r0 : List (List Int)) (r1 : List Int) (r2 : List S124) (r3 : List S131) (r4 : List S134) (r6 : List S79) (r7 : List S138) (r8 : List Int) (r9 : List Int) (r5 : Int) (b : Bool) (w : World) (h : impl_MachineNew.f k a0 a1 = some (r0, r1, r2, r3, r4, r5, r6, r7, r8, r9, b)) :
    Calls Try.prog 16 #[.int .i64 a0, .int .i64 a1] w fun e w' => ∃ (A : Nat → Option Addr) (c : Nat → Nat), e = .returned (.tuple #[.agg #[.slice (A 0) r0.length (c 0), .slice (A 1) r1.length (c 1), .slice (A 2) r2.length (c 2), .slice (A 3) r3.length (c 3), .slice (A 4) r4.length (c 4), .int .i64 r5, .slice (A 6) r6.length (c 6), .slice (A 7) r7.length (c 7), .slice (A 8) r8.length (c 8), .slice (A 9) r9.length (c 9)], .bool b]) ∧ MR w' A c r0 r1 r2 r3 r4 r6 r7 r8 r9 ∧ Below w.heap.size w w' := by
  refine (impl_MachineNew.calls k a0 a1 r0 r1 r2 r3 r4 r5 r6 r7 r8 r9 b w h).mono ?_
  rintro e w' ⟨v0, v1, v2, v3, v4, v6, v7, v8, v9, rfl, h0, h1, h2, h3, h4, h6, h7, h8, h9, hb⟩
  obtain ⟨A0, c0, rfl⟩ := Kd.S_slice h0
  obtain ⟨A1, c1, rfl⟩ := Kd.R_slice h1
  obtain ⟨A2, c2, rfl⟩ := Kd.R_slice h2
  obtain ⟨A3, c3, rfl⟩ := Kd.S_slice h3
  obtain ⟨A4, c4, rfl⟩ := Kd.R_slice h4
  obtain ⟨A6, c6, rfl⟩ := Kd.S_slice h6
  obtain ⟨A7, c7, rfl⟩ := Kd.S_slice h7
  obtain ⟨A8, c8, rfl⟩ := Kd.R_slice h8
  obtain ⟨A9, c9, rfl⟩ := Kd.R_slice h9
  exact ⟨(fun i => match i with | 0 => A0 | 1 => A1 | 2 => A2 | 3 => A3 | 4 => A4 | 6 => A6 | 7 => A7 | 8 => A8 | 9 => A9 | _ => none), (fun i => match i with | 0 => c0 | 1 => c1 | 2 => c2 | 3 => c3 | 4 => c4 | 6 => c6 | 7 => c7 | 8 => c8 | 9 => c9 | _ => 0), rfl, ⟨(Kd.S_reads' h0).2.2, (Kd.S_reads' h0).2.1, (Kd.R_reads' h1).2.2, (Kd.R_reads' h1).2.1, (Kd.R_reads' h2).2.2, (Kd.R_reads' h2).2.1, (Kd.S_reads' h3).2.2, (Kd.S_reads' h3).2.1, (Kd.R_reads' h4).2.2, (Kd.R_reads' h4).2.1, (Kd.S_reads' h6).2.2, (Kd.S_reads' h6).2.1, (Kd.S_reads' h7).2.2, (Kd.S_reads' h7).2.1, (Kd.R_reads' h8).2.2, (Kd.R_reads' h8).2.1, (Kd.R_reads' h9).2.2, (Kd.R_reads' h9).2.1⟩, hb⟩
theorem spec_MachineNew2 (k : Nat) (a0 a1 : Int) (r0 : List (List Int)) (r1 : List Int) (r2 : List S124) (r3 : List S131) (r4 : List S134) (r6 : List S79) (r7 : List S138) (r8 : List Int) (r9 : List Int) (r5 : Int) (b : Bool) (w : World) (h : spec_MachineNew.f k a0 a1 = some (r0, r1, r2, r3, r4, r5, r6, r7, r8, r9, b)) :
    Calls Try.prog 15 #[.int .i64 a0, .int .i64 a1] w fun e w' => ∃ (A : Nat → Option Addr) (n c : Nat → Nat), e = .returned (.tuple #[.agg #[.slice (A 0) (n 0) (c 0), .slice (A 1) (n 1) (c 1), .slice (A 2) (n 2) (c 2), .slice (A 3) (n 3) (c 3), .slice (A 4) (n 4) (c 4), .int .i64 r5, .slice (A 6) (n 6) (c 6), .slice (A 7) (n 7) (c 7), .slice (A 8) (n 8) (c 8), .slice (A 9) (n 9) (c 9)], .bool b]) ∧ Below w.heap.size w w' := by
  refine (spec_MachineNew.calls k a0 a1 r0 r1 r2 r3 r4 r5 r6 r7 r8 r9 b w h).mono ?_
  rintro e w' ⟨v0, v1, v2, v3, v4, v6, v7, v8, v9, rfl, h0, h1, h2, h3, h4, h6, h7, h8, h9, hb⟩
  obtain ⟨A0, c0, rfl⟩ := Kd.S_slice h0
  obtain ⟨A1, c1, rfl⟩ := Kd.R_slice h1
  obtain ⟨A2, c2, rfl⟩ := Kd.R_slice h2
  obtain ⟨A3, c3, rfl⟩ := Kd.S_slice h3
  obtain ⟨A4, c4, rfl⟩ := Kd.R_slice h4
  obtain ⟨A6, c6, rfl⟩ := Kd.S_slice h6
  obtain ⟨A7, c7, rfl⟩ := Kd.S_slice h7
  obtain ⟨A8, c8, rfl⟩ := Kd.R_slice h8
  obtain ⟨A9, c9, rfl⟩ := Kd.R_slice h9
  exact ⟨(fun i => match i with | 0 => A0 | 1 => A1 | 2 => A2 | 3 => A3 | 4 => A4 | 6 => A6 | 7 => A7 | 8 => A8 | 9 => A9 | _ => none), (fun i => match i with | 0 => r0.length | 1 => r1.length | 2 => r2.length | 3 => r3.length | 4 => r4.length | 6 => r6.length | 7 => r7.length | 8 => r8.length | 9 => r9.length | _ => 0), (fun i => match i with | 0 => c0 | 1 => c1 | 2 => c2 | 3 => c3 | 4 => c4 | 6 => c6 | 7 => c7 | 8 => c8 | 9 => c9 | _ => 0), rfl, hb⟩
theorem set10n {W : World} {g t : Nat} {z0 z1 z2 z3 z4 z5 z6 z7 z8 z9 a0 a1 a2 a3 a4 a5 a6 a7 a8 a9 : Value} (h : W.heap[g]? = some (.cells #[z0, z1, z2, z3, z4, z5, z6, z7, z8, z9] t (0, 0))) : ((((((((((W.setCell ⟨g, 0, none⟩ a0).setCell ⟨g, 1, none⟩ a1).setCell ⟨g, 2, none⟩ a2).setCell ⟨g, 3, none⟩ a3).setCell ⟨g, 4, none⟩ a4).setCell ⟨g, 5, none⟩ a5).setCell ⟨g, 6, none⟩ a6).setCell ⟨g, 7, none⟩ a7).setCell ⟨g, 8, none⟩ a8).setCell ⟨g, 9, none⟩ a9).heap[g]? = some (.cells #[a0, a1, a2, a3, a4, a5, a6, a7, a8, a9] t (0, 0)) := by
  replace h := blk_put h 0 a0 (cs' := #[a0, z1, z2, z3, z4, z5, z6, z7, z8, z9]) rfl
  replace h := blk_put h 1 a1 (cs' := #[a0, a1, z2, z3, z4, z5, z6, z7, z8, z9]) rfl
  replace h := blk_put h 2 a2 (cs' := #[a0, a1, a2, z3, z4, z5, z6, z7, z8, z9]) rfl
  replace h := blk_put h 3 a3 (cs' := #[a0, a1, a2, a3, z4, z5, z6, z7, z8, z9]) rfl
  replace h := blk_put h 4 a4 (cs' := #[a0, a1, a2, a3, a4, z5, z6, z7, z8, z9]) rfl
  replace h := blk_put h 5 a5 (cs' := #[a0, a1, a2, a3, a4, a5, z6, z7, z8, z9]) rfl
  replace h := blk_put h 6 a6 (cs' := #[a0, a1, a2, a3, a4, a5, a6, z7, z8, z9]) rfl
  replace h := blk_put h 7 a7 (cs' := #[a0, a1, a2, a3, a4, a5, a6, a7, z8, z9]) rfl
  replace h := blk_put h 8 a8 (cs' := #[a0, a1, a2, a3, a4, a5, a6, a7, a8, z9]) rfl
  replace h := blk_put h 9 a9 (cs' := #[a0, a1, a2, a3, a4, a5, a6, a7, a8, a9]) rfl
  exact h
theorem MB.mr {w0 W : World} {g : Nat} {A : Nat → Option Addr} {c : Nat → Nat} {l0 : List (List Int)} {l1 : List Int} {l2 : List S124} {l3 : List S131} {l4 : List S134} {l6 : List S79} {l7 : List S138} {l8 : List Int} {l9 : List Int} {x : Int} (h : MB w0 W g A c l0 l1 l2 l3 l4 l6 l7 l8 l9 x) : MR W A c l0 l1 l2 l3 l4 l6 l7 l8 l9 := ⟨h.c0, h.k0, h.c1, h.k1, h.c2, h.k2, h.c3, h.k3, h.c4, h.k4, h.c6, h.k6, h.c7, h.k7, h.c8, h.k8, h.c9, h.k9⟩
set_option maxHeartbeats 8000000 in
set_option maxRecDepth 100000 in
theorem laws_FnNew.walk (k : Nat) (A0 : Option Addr) (c0 : Nat) (l0 : List Int) (fr sl : Int) (v0 : List (List Int)) (v1 : List Int) (v2 : List S124) (v3 : List S131) (v4 : List S134) (v6 : List S79) (v7 : List S138) (v8 : List Int) (v9 : List Int) (xv : Int) (u0 : List (List Int)) (u1 : List Int) (u2 : List S124) (u3 : List S131) (u4 : List S134) (u6 : List S79) (u7 : List S138) (u8 : List Int) (u9 : List Int) (xu : Int) (fo so f0s : List Int) (w : World) (hr0 : Kd.C (Kd.int .u8) w A0 l0.length l0) (hc0 : l0.length ≤ c0) (f0 : laws_big.f l0 = some false) (f1 : spec_DrawMachineNew.f k l0 = some (fr, sl)) (f2 : impl_MachineNew.f k fr sl = some (v0, v1, v2, v3, v4, xv, v6, v7, v8, v9, true)) (f3 : spec_MachineNew.f k fr sl = some (u0, u1, u2, u3, u4, xu, u6, u7, u8, u9, true)) (f4 : v1.length = v0.length) (f5 : v3 = []) (f6 : v4 = []) (f7 : v6.length = 4) (f8 : ∀ i : Int, 0 ≤ i → i < (v6.length : Int) → rd_T79 v6 i = ⟨false, -1, []⟩) (f9 : ∀ i : Int, 0 ≤ i → i < (v7.length : Int) → rd_T138 v7 i = ⟨0, []⟩) (f10 : v8 = []) (f11 : v9 = []) (f12 : impl_MemoryOk.f k v0 = some true) (f13 : impl_Machine_framesIn.f k v0 v1 v2 v3 v4 xv v6 v7 v8 v9 1 = some ([0, 1], xv)) (f14 : slices_Equal_int_int.f k [0, 1] [0, 1] = some true) (f15 : impl_RunsOk.f k (v0.length : Int) v2 = some true) (f16 : impl_SlabsOk.f k v3 = some true) (f17 : impl_framesOf.f k v2 = some fo) (f18 : fo.length ≤ 1000000) (f19 : (fo.mergeSort fun x y => decide (x ≤ y)) = so) (f20 : impl_Machine_framesIn.f k v0 v1 v2 v3 v4 xv v6 v7 v8 v9 0 = some (f0s, xv)) (f21 : slices_Equal_int_int.f k so f0s = some true) (f22 : impl_Machine_framesIn.f k v0 v1 v2 v3 v4 xv v6 v7 v8 v9 2 = some ([], xv)) (f23 : impl_Machine_framesIn.f k v0 v1 v2 v3 v4 xv v6 v7 v8 v9 3 = some ([], xv)) (f24 : impl_Machine_framesIn.f k v0 v1 v2 v3 v4 xv v6 v7 v8 v9 4 = some ([], xv)) (f25 : impl_Machine_framesIn.f k v0 v1 v2 v3 v4 xv v6 v7 v8 v9 5 = some ([], xv)) (f26 : slices_Equal_int_int.f k [] [] = some true) (f27 : impl_within.f xv 1 100000 = some true) (f28 : impl_RegionsOk.f k [] = some true) (f29 : impl_SlotsOk.f k v7 = some true) (f30 : impl_CountOf.f k v0 v1 v2 v3 v4 xv v6 v7 v8 v9 0 = some (fr - 2)) (f31 : impl_CountOf.f k v0 v1 v2 v3 v4 xv v6 v7 v8 v9 1 = some 2) (f32 : impl_within.f 0 0 3 = some true) (n0 : (v7.length : Int) = sl) (n1 : 0 ≤ fr - 2 ∧ fr ≤ 1000) :
    Calls Try.prog 6 #[.slice A0 l0.length c0] w fun e w' => e = .returned (.bool true) ∧ Below w.heap.size w w' := by
  have hu41 := Try.underlying41
  have HB := Aside0.mk (Below.refl w.heap.size w)
  have HR0 := Aside0.mk hr0
  have NK : Aside0 (NewOk k v0 v1 v2 v3 v4 v6 v7 v8 v9 xv fo so f0s) := ⟨⟨f4, f5, f6, f7, f8, f9, f10, f11, f12, f13, f14, f15, f16, f17, f18, f19, f20, f21, f22, f23, f24, f25, f26, f27, f28, f29⟩⟩
  have F0 := Aside0.mk f0
  have F1 := Aside0.mk f1
  have F2 := Aside0.mk f2
  have F3 := Aside0.mk f3
  have FA := Aside0.mk f30
  have FB := Aside0.mk f31
  have FW := Aside0.mk f32
  clear hr0 f0 f1 f2 f3 f4 f5 f6 f7 f8 f9 f10 f11 f12 f13 f14 f15 f16 f17 f18 f19 f20 f21 f22 f23 f24 f25 f26 f27 f28 f29 f30 f31 f32
  have e7a : ((v7.length : Int) == sl) = true := by rw [n0]; exact beq_self_eq_true sl
  have e7b : decide ((v7.length : Int) = sl) = true := decide_eq_true n0
  have hw : wrap64 (fr - 2) = fr - 2 := by unfold wrap64; omega
  obtain ⟨bb, hbb⟩ : ∃ b, b = true := ⟨_, rfl⟩
  rw [← hbb] at F2 F3
  go_enter Try.func6, Try.ntmps6
  go_wp2_with (first | (go_at_call 7; (with_reducible refine (laws_big.calls A0 c0 l0 false _ (Kd.C_below HR0.out Upw.below) hc0 F0.out).mono ?_); rintro e w1 ⟨rfl, hd⟩; have hb := Drawn0.below hd; replace HR0 := Aside0.mk (Kd.C_below HR0.out hb); replace HB := Aside0.mk (below_step (gB_ HB) hb); clear hb hd) | (go_at_call 25; (with_reducible refine (spec_DrawMachineNew.calls k A0 c0 l0 fr sl _ (Kd.C_below HR0.out Upw.below) hc0 F1.out).mono ?_); rintro e w1 ⟨rfl, hb⟩; replace HB := Aside0.mk (below_step (gB_ HB) hb); clear hb) | (go_at_call 16; (with_reducible refine (impl_MachineNew2 k fr sl v0 v1 v2 v3 v4 v6 v7 v8 v9 xv bb _ F2.out).mono ?_); rintro e w2 ⟨A, c, rfl, hmr, hb⟩; have HR := Aside0.mk hmr; replace HB := Aside0.mk (below_step (gB_ HB) hb); have H2 := Aside0.mk (Below.refl w2.heap.size w2); clear hb hmr) | ((with_reducible refine gate_dst (N := 5) rfl ?_); refine box_event ?hg (N := 5) ?hd (cs := #[.slice none 0 0, .slice none 0 0, .slice none 0 0, .slice none 0 0, .slice none 0 0, .int .i64 0, .slice none 0 0, .slice none 0 0, .slice none 0 0, .slice none 0 0]) (t := 41) ?hr ?_; (case hd => rfl); (case hg => rfl); (case hr => first | (go_simp; done) | (go_simp; rfl)); intro g hbz w_ hbk hb; have GG := Aside0.mk (show w2.heap.size ≤ g by rw [hbz]; exact upsz2); have Gg := Aside0.mk (show w.heap.size ≤ g by rw [hbz]; exact below_size (gB_ HB)); replace HB := Aside0.mk (below_step (gB_ HB) hb); replace H2 := Aside0.mk (below_step (gB_ H2) hb); have BG := Aside0.mk hbk; clear hbz hb hbk; obtain ⟨hg_0, hg_1, hg_2, hg_3, hg_4, hg_5, hg_6, hg_7, hg_8, hg_9⟩ := gk10 BG; obtain ⟨hgf_0, hgf_1, hgf_2, hgf_3, hgf_4, hgf_5, hgf_6, hgf_7, hgf_8, hgf_9⟩ := gf10 BG) | ((with_reducible refine gate_callee (f := 15) rfl ?_); refine anew2 (fun W_ => MB w2 W_ g A c v0 v1 v2 v3 v4 v6 v7 v8 v9 xv ∧ Below w.heap.size w W_) ⟨⟨(by (with_reducible repeat (first | refine blk_drewN ?_ _ | refine blk_drew ?_)); exact set10n BG.out), GG.out, gT1 GG.out H2, HR.out.r0, HR.out.k0, HR.out.r1, HR.out.k1, HR.out.r2, HR.out.k2, HR.out.r3, HR.out.k3, HR.out.r4, HR.out.k4, HR.out.r6, HR.out.k6, HR.out.r7, HR.out.k7, HR.out.r8, HR.out.k8, HR.out.r9, HR.out.k9⟩, gT1 Gg.out HB⟩ ?_; rintro w3 ⟨hm, hb⟩; clear HB H2 BG HR hg_0 hg_1 hg_2 hg_3 hg_4 hg_5 hg_6 hg_7 hg_8 hg_9 hgf_0 hgf_1 hgf_2 hgf_3 hgf_4 hgf_5 hgf_6 hgf_7 hgf_8 hgf_9; have HM := Aside0.mk hm; have HB := Aside0.mk hb; clear hm hb; refine goesL_ (some 25) rfl rfl Try.func15 (by kernel_rfl) rfl #[.int .i64 fr, .int .i64 sl] rfl (by (try simp only [List.map_toArray, List.map_cons, List.map_nil]); first | done | rfl) ?_; (with_reducible refine (spec_MachineNew2 k fr sl u0 u1 u2 u3 u4 u6 u7 u8 u9 xu bb _ F3.out).mono ?_); rintro e w4 ⟨As, ns, cs, rfl, hb⟩; refine ⟨_, rfl, ?_⟩; replace HM := Aside0.mk ((gM_ HM).below hb); replace HB := Aside0.mk (below_step (gB_ HB) hb); clear hb) | ((with_reducible refine gate_dst (N := 7) rfl ?_); refine box_event ?hg (N := 7) ?hd (cs := #[.slice none 0 0, .slice none 0 0, .slice none 0 0, .slice none 0 0, .slice none 0 0, .int .i64 0, .slice none 0 0, .slice none 0 0, .slice none 0 0, .slice none 0 0]) (t := 41) ?hr ?_; (case hd => rfl); (case hg => rfl); (case hr => first | (go_simp; done) | (go_simp; rfl)); intro gs hbz w_ hbk hb; have KS := Aside0.mk (show w2.heap.size ≤ gs by rw [hbz]; exact below_size (gM_ HM).base); have GS := Aside0.mk (show w.heap.size ≤ gs by rw [hbz]; exact below_size (gB_ HB)); have NS := Aside0.mk (show g ≠ gs by rw [hbz]; exact Nat.ne_of_lt (blk_lt (gM_ HM).blk)); replace HM := Aside0.mk ((gM_ HM).below hb); replace HB := Aside0.mk (below_step (gB_ HB) hb); have BS := Aside0.mk hbk; clear hbz hb hbk; obtain ⟨hs_0, hs_1, hs_2, hs_3, hs_4, hs_5, hs_6, hs_7, hs_8, hs_9⟩ := gk10 BS; obtain ⟨hsf_0, hsf_1, hsf_2, hsf_3, hsf_4, hsf_5, hsf_6, hsf_7, hsf_8, hsf_9⟩ := gf10 BS) | ((with_reducible refine gateL2 rfl ?_); refine anew2 (fun W_ => MB w2 W_ g A c v0 v1 v2 v3 v4 v6 v7 v8 v9 xv ∧ Below w.heap.size w W_) ⟨MB.off HM NS.out KS.out, gT1 GS.out HB⟩ ?_; rintro w5 ⟨hm, hb⟩; clear HM HB BS hs_0 hs_1 hs_2 hs_3 hs_4 hs_5 hs_6 hs_7 hs_8 hs_9 hsf_0 hsf_1 hsf_2 hsf_3 hsf_4 hsf_5 hsf_6 hsf_7 hsf_8 hsf_9; have HM := Aside0.mk hm; have HB := Aside0.mk hb; clear hm hb; obtain ⟨hm_0, hm_1, hm_2, hm_3, hm_4, hm_5, hm_6, hm_7, hm_8, hm_9⟩ := gk10 (Aside0.mk HM.out.blk)) | (go_at_call 26; (with_reducible refine (MachineOk_calls k A c v0 v1 v2 v3 v4 v6 v7 v8 v9 xv fo so f0s _ (gM_ HM).mr NK.out).mono ?_); rintro e w6 ⟨rfl, hb⟩; replace HM := Aside0.mk ((gM_ HM).below hb); replace HB := Aside0.mk (below_step (gB_ HB) hb); clear hb; clear hm_0 hm_1 hm_2 hm_3 hm_4 hm_5 hm_6 hm_7 hm_8 hm_9; obtain ⟨hm_0, hm_1, hm_2, hm_3, hm_4, hm_5, hm_6, hm_7, hm_8, hm_9⟩ := gk10 (Aside0.mk HM.out.blk)) | (go_at_call 27; (with_reducible refine (CountOf_calls k A c v0 v1 v2 v3 v4 v6 v7 v8 v9 xv 0 (fr - 2) _ (gM_ HM).mr FA.out).mono ?_); rintro e w6 ⟨rfl, hb⟩; replace HM := Aside0.mk ((gM_ HM).below hb); replace HB := Aside0.mk (below_step (gB_ HB) hb); clear hb; clear hm_0 hm_1 hm_2 hm_3 hm_4 hm_5 hm_6 hm_7 hm_8 hm_9; obtain ⟨hm_0, hm_1, hm_2, hm_3, hm_4, hm_5, hm_6, hm_7, hm_8, hm_9⟩ := gk10 (Aside0.mk HM.out.blk)) | (go_at_call 27; (with_reducible refine (CountOf_calls k A c v0 v1 v2 v3 v4 v6 v7 v8 v9 xv 1 2 _ (gM_ HM).mr FB.out).mono ?_); rintro e w6 ⟨rfl, hb⟩; replace HM := Aside0.mk ((gM_ HM).below hb); replace HB := Aside0.mk (below_step (gB_ HB) hb); clear hb; clear hm_0 hm_1 hm_2 hm_3 hm_4 hm_5 hm_6 hm_7 hm_8 hm_9; obtain ⟨hm_0, hm_1, hm_2, hm_3, hm_4, hm_5, hm_6, hm_7, hm_8, hm_9⟩ := gk10 (Aside0.mk HM.out.blk)) | (go_at_call 28; (with_reducible refine (TablesOf_calls k A c v0 v1 v2 v3 v4 v6 v7 v8 v9 xv 0 _ (gM_ HM).mr NK.out.h6 NK.out.e6 (by decide) (by decide) FW.out).mono ?_); rintro e w6 ⟨bt, rfl, hb⟩; replace HM := Aside0.mk ((gM_ HM).below hb); replace HB := Aside0.mk (below_step (gB_ HB) hb); clear hb; clear hm_0 hm_1 hm_2 hm_3 hm_4 hm_5 hm_6 hm_7 hm_8 hm_9; obtain ⟨hm_0, hm_1, hm_2, hm_3, hm_4, hm_5, hm_6, hm_7, hm_8, hm_9⟩ := gk10 (Aside0.mk HM.out.blk)))
  go_ret
  exact ⟨rfl, gB_ HB⟩
set_option maxHeartbeats 8000000 in
set_option maxRecDepth 100000 in
theorem laws_FnNew.walk1 (A0 : Option Addr) (c0 : Nat) (l0 : List Int) (w : World) (hr0 : Kd.C (Kd.int .u8) w A0 l0.length l0) (hc0 : l0.length ≤ c0) (f0 : laws_big.f l0 = some true) :
    Calls Try.prog 6 #[.slice A0 l0.length c0] w fun e w' => e = .returned (.bool true) ∧ Below w.heap.size w w' := by
  have hu41 := Try.underlying41
  have HB := Aside0.mk (Below.refl w.heap.size w)
  have HR0 := Aside0.mk hr0
  have F0 := Aside0.mk f0
  clear hr0 f0
  go_enter Try.func6, Try.ntmps6
  go_wp2_with (first | (go_at_call 7; (with_reducible refine (laws_big.calls A0 c0 l0 true _ (Kd.C_below HR0.out Upw.below) hc0 F0.out).mono ?_); rintro e w1 ⟨rfl, hd⟩; have hb := Drawn0.below hd; replace HR0 := Aside0.mk (Kd.C_below HR0.out hb); replace HB := Aside0.mk (below_step (gB_ HB) hb); clear hb hd))
  go_ret
  exact ⟨rfl, gB_ HB⟩
set_option maxHeartbeats 8000000 in
set_option maxRecDepth 100000 in
theorem laws_FnNew.walk2 (k : Nat) (A0 : Option Addr) (c0 : Nat) (l0 : List Int) (fr sl : Int) (v0 : List (List Int)) (v1 : List Int) (v2 : List S124) (v3 : List S131) (v4 : List S134) (v6 : List S79) (v7 : List S138) (v8 : List Int) (v9 : List Int) (xv : Int) (u0 : List (List Int)) (u1 : List Int) (u2 : List S124) (u3 : List S131) (u4 : List S134) (u6 : List S79) (u7 : List S138) (u8 : List Int) (u9 : List Int) (xu : Int) (w : World) (hr0 : Kd.C (Kd.int .u8) w A0 l0.length l0) (hc0 : l0.length ≤ c0) (f0 : laws_big.f l0 = some false) (f1 : spec_DrawMachineNew.f k l0 = some (fr, sl)) (f2 : impl_MachineNew.f k fr sl = some (v0, v1, v2, v3, v4, xv, v6, v7, v8, v9, false)) (f3 : spec_MachineNew.f k fr sl = some (u0, u1, u2, u3, u4, xu, u6, u7, u8, u9, false)) (n0 : v0.length = 0) :
    Calls Try.prog 6 #[.slice A0 l0.length c0] w fun e w' => e = .returned (.bool true) ∧ Below w.heap.size w w' := by
  have hu41 := Try.underlying41
  have HB := Aside0.mk (Below.refl w.heap.size w)
  have HR0 := Aside0.mk hr0
  have F0 := Aside0.mk f0
  have F1 := Aside0.mk f1
  have F2 := Aside0.mk f2
  have F3 := Aside0.mk f3
  clear hr0 f0 f1 f2 f3
  have n1 : ((v0.length : Int) == 0) = true := by rw [n0]; rfl
  have n2 : decide ((v0.length : Int) = 0) = true := by rw [n0]; rfl
  clear n0
  obtain ⟨bb, hbb⟩ : ∃ b, b = false := ⟨_, rfl⟩
  rw [← hbb] at F2 F3
  go_enter Try.func6, Try.ntmps6
  go_wp2_with (first | (go_at_call 7; (with_reducible refine (laws_big.calls A0 c0 l0 false _ (Kd.C_below HR0.out Upw.below) hc0 F0.out).mono ?_); rintro e w1 ⟨rfl, hd⟩; have hb := Drawn0.below hd; replace HR0 := Aside0.mk (Kd.C_below HR0.out hb); replace HB := Aside0.mk (below_step (gB_ HB) hb); clear hb hd) | (go_at_call 25; (with_reducible refine (spec_DrawMachineNew.calls k A0 c0 l0 fr sl _ (Kd.C_below HR0.out Upw.below) hc0 F1.out).mono ?_); rintro e w1 ⟨rfl, hb⟩; replace HB := Aside0.mk (below_step (gB_ HB) hb); clear hb) | (go_at_call 16; (with_reducible refine (impl_MachineNew2 k fr sl v0 v1 v2 v3 v4 v6 v7 v8 v9 xv bb _ F2.out).mono ?_); rintro e w2 ⟨A, c, rfl, hmr, hb⟩; have HR := Aside0.mk hmr; replace HB := Aside0.mk (below_step (gB_ HB) hb); have H2 := Aside0.mk (Below.refl w2.heap.size w2); clear hb hmr) | ((with_reducible refine gate_dst (N := 5) rfl ?_); refine box_event ?hg (N := 5) ?hd (cs := #[.slice none 0 0, .slice none 0 0, .slice none 0 0, .slice none 0 0, .slice none 0 0, .int .i64 0, .slice none 0 0, .slice none 0 0, .slice none 0 0, .slice none 0 0]) (t := 41) ?hr ?_; (case hd => rfl); (case hg => rfl); (case hr => first | (go_simp; done) | (go_simp; rfl)); intro g hbz w_ hbk hb; have GG := Aside0.mk (show w2.heap.size ≤ g by rw [hbz]; exact upsz2); have Gg := Aside0.mk (show w.heap.size ≤ g by rw [hbz]; exact below_size (gB_ HB)); replace HB := Aside0.mk (below_step (gB_ HB) hb); replace H2 := Aside0.mk (below_step (gB_ H2) hb); have BG := Aside0.mk hbk; clear hbz hb hbk; obtain ⟨hg_0, hg_1, hg_2, hg_3, hg_4, hg_5, hg_6, hg_7, hg_8, hg_9⟩ := gk10 BG; obtain ⟨hgf_0, hgf_1, hgf_2, hgf_3, hgf_4, hgf_5, hgf_6, hgf_7, hgf_8, hgf_9⟩ := gf10 BG) | ((with_reducible refine gate_callee (f := 15) rfl ?_); refine anew2 (fun W_ => MB w2 W_ g A c v0 v1 v2 v3 v4 v6 v7 v8 v9 xv ∧ Below w.heap.size w W_) ⟨⟨(by (with_reducible repeat (first | refine blk_drewN ?_ _ | refine blk_drew ?_)); exact set10n BG.out), GG.out, gT1 GG.out H2, HR.out.r0, HR.out.k0, HR.out.r1, HR.out.k1, HR.out.r2, HR.out.k2, HR.out.r3, HR.out.k3, HR.out.r4, HR.out.k4, HR.out.r6, HR.out.k6, HR.out.r7, HR.out.k7, HR.out.r8, HR.out.k8, HR.out.r9, HR.out.k9⟩, gT1 Gg.out HB⟩ ?_; rintro w3 ⟨hm, hb⟩; clear HB H2 BG HR hg_0 hg_1 hg_2 hg_3 hg_4 hg_5 hg_6 hg_7 hg_8 hg_9 hgf_0 hgf_1 hgf_2 hgf_3 hgf_4 hgf_5 hgf_6 hgf_7 hgf_8 hgf_9; have HM := Aside0.mk hm; have HB := Aside0.mk hb; clear hm hb; refine goesL_ (some 25) rfl rfl Try.func15 (by kernel_rfl) rfl #[.int .i64 fr, .int .i64 sl] rfl (by (try simp only [List.map_toArray, List.map_cons, List.map_nil]); first | done | rfl) ?_; (with_reducible refine (spec_MachineNew2 k fr sl u0 u1 u2 u3 u4 u6 u7 u8 u9 xu bb _ F3.out).mono ?_); rintro e w4 ⟨As, ns, cs, rfl, hb⟩; refine ⟨_, rfl, ?_⟩; replace HM := Aside0.mk ((gM_ HM).below hb); replace HB := Aside0.mk (below_step (gB_ HB) hb); clear hb) | ((with_reducible refine gate_dst (N := 7) rfl ?_); refine box_event ?hg (N := 7) ?hd (cs := #[.slice none 0 0, .slice none 0 0, .slice none 0 0, .slice none 0 0, .slice none 0 0, .int .i64 0, .slice none 0 0, .slice none 0 0, .slice none 0 0, .slice none 0 0]) (t := 41) ?hr ?_; (case hd => rfl); (case hg => rfl); (case hr => first | (go_simp; done) | (go_simp; rfl)); intro gs hbz w_ hbk hb; have KS := Aside0.mk (show w2.heap.size ≤ gs by rw [hbz]; exact below_size (gM_ HM).base); have GS := Aside0.mk (show w.heap.size ≤ gs by rw [hbz]; exact below_size (gB_ HB)); have NS := Aside0.mk (show g ≠ gs by rw [hbz]; exact Nat.ne_of_lt (blk_lt (gM_ HM).blk)); replace HM := Aside0.mk ((gM_ HM).below hb); replace HB := Aside0.mk (below_step (gB_ HB) hb); have BS := Aside0.mk hbk; clear hbz hb hbk; obtain ⟨hs_0, hs_1, hs_2, hs_3, hs_4, hs_5, hs_6, hs_7, hs_8, hs_9⟩ := gk10 BS; obtain ⟨hsf_0, hsf_1, hsf_2, hsf_3, hsf_4, hsf_5, hsf_6, hsf_7, hsf_8, hsf_9⟩ := gf10 BS) | ((with_reducible refine gateL2 rfl ?_); refine anew2 (fun W_ => MB w2 W_ g A c v0 v1 v2 v3 v4 v6 v7 v8 v9 xv ∧ Below w.heap.size w W_) ⟨MB.off HM NS.out KS.out, gT1 GS.out HB⟩ ?_; rintro w5 ⟨hm, hb⟩; clear HM HB BS hs_0 hs_1 hs_2 hs_3 hs_4 hs_5 hs_6 hs_7 hs_8 hs_9 hsf_0 hsf_1 hsf_2 hsf_3 hsf_4 hsf_5 hsf_6 hsf_7 hsf_8 hsf_9; have HM := Aside0.mk hm; have HB := Aside0.mk hb; clear hm hb; obtain ⟨hm_0, hm_1, hm_2, hm_3, hm_4, hm_5, hm_6, hm_7, hm_8, hm_9⟩ := gk10 (Aside0.mk HM.out.blk)))
  go_ret
  exact ⟨rfl, gB_ HB⟩
end Go.Proofs.Ytngonhgghncdiaa.P
end
section
namespace Go.Proofs.Ytngonhgghncdiaa.Pure
open Go.RowKit Go.Proofs.Ytngonhgghncdiaa.P Go.Proofs.YtngonhgghncdiaaW.PrintWords Go.Proofs.YtngonhgghncdiaaW.PrintLast Go.Proofs.YtngonhgghncdiaaW.PrintMore Go.Proofs.Ytngonhgghncdiaa.Aid
set_option linter.unusedVariables false
set_option linter.unusedSimpArgs false
theorem l01New_ends (l : List Int) (hl : l.length ≤ 9223372036854775806) : ∃ h, Ev (fun k => spec_l01New.f k l) (l, 0, h) := by
  have key : ∀ (d i : Nat) (h : Int), i + d = l.length → ∃ h', Ev (fun k => spec_l01New.l0 k l h (i : Int)) (l, 0, h') := by
    intro d
    induction d with
    | zero =>
      intro i h hi
      refine ⟨h, 1, fun n hn => ?_⟩
      obtain ⟨m, rfl⟩ : ∃ m, n = m + 1 := ⟨n - 1, by omega⟩
      show spec_l01New.l0 (m + 1) _ _ _ = _
      simp only [spec_l01New.l0]
      rw [if_neg (by omega)]
    | succ d ih =>
      intro i h hi
      by_cases h4 : (i : Int) < 4000
      · obtain ⟨h', he⟩ := ih (i + 1) (Go.bits .and .i64 (wrap64 ((wrap64 ((wrap64 (h * 131)) + (wrap64 (rd l (i : Int))))) + 7)) 1073741823) (by omega)
        refine ⟨h', Ev.step (fun k => ?_) he⟩
        show spec_l01New.l0 (k + 1) _ _ _ = _
        simp only [spec_l01New.l0]
        rw [if_pos (by omega), if_pos h4, if_pos (by omega), show wrap64 ((i : Int) + 1) = ((i + 1 : Nat) : Int) from by unfold wrap64; omega]
      · refine ⟨h, 1, fun n hn => ?_⟩
        obtain ⟨m, rfl⟩ : ∃ m, n = m + 1 := ⟨n - 1, by omega⟩
        show spec_l01New.l0 (m + 1) _ _ _ = _
        simp only [spec_l01New.l0]
        rw [if_pos (by omega), if_neg h4]
  obtain ⟨h', he⟩ := key l.length 0 (wrap64 (10901 + (l.length : Int))) (by omega)
  exact ⟨h', he⟩
theorem l01Byte_ends (l : List Int) (hl : l.length ≤ 9223372036854775806) (i h : Int) (h0 : 0 ≤ i) (h1 : i ≤ l.length) :
    ∃ x i' h', spec_l01Byte.f l i h = some (x, i', h') ∧ 0 ≤ x ∧ x < 256 ∧ 0 ≤ i' ∧ i' ≤ l.length := by
  unfold spec_l01Byte.f
  by_cases hi : i < (l.length : Int)
  · rw [if_pos hi, if_pos h0]
    refine ⟨_, _, _, rfl, ?_, ?_, ?_, ?_⟩
    · rw [and255]; omega
    · rw [and255]; omega
    · rw [wrap64_id (by omega) (by omega)]; omega
    · rw [wrap64_id (by omega) (by omega)]; omega
  · rw [if_neg hi]
    refine ⟨_, _, _, rfl, ?_, ?_, h0, h1⟩
    · rw [and255]; omega
    · rw [and255]; omega
theorem l01Below_ends (l : List Int) (hl : l.length ≤ 9223372036854775806) (i h n : Int) (h0 : 0 ≤ i) (h1 : i ≤ l.length) :
    ∃ x i' h', spec_l01Below.f l i h n = some (x, i', h') ∧ 0 ≤ x ∧ (0 < n → x < n) ∧ (n ≤ 0 → x = 0) ∧ 0 ≤ i' ∧ i' ≤ l.length := by
  unfold spec_l01Below.f
  by_cases hn : n ≤ 0
  · rw [if_pos hn]
    exact ⟨_, _, _, rfl, by omega, by omega, fun _ => rfl, h0, h1⟩
  · rw [if_neg hn]
    obtain ⟨x, i1, g1, e1, a1, b1, c1, d1⟩ := l01Byte_ends l hl i h h0 h1
    by_cases h256 : n ≤ 256
    · rw [if_pos h256, e1]
      simp only [Option.bind_some]
      rw [if_neg (by omega)]
      refine ⟨_, _, _, rfl, ?_, ?_, by omega, c1, d1⟩
      · rw [tmod_nonneg a1 (by omega)]; exact Int.emod_nonneg _ (by omega)
      · intro hp; rw [tmod_nonneg a1 (by omega)]; exact Int.emod_lt_of_pos _ hp
    · rw [if_neg h256, e1]
      simp only [Option.bind_some]
      obtain ⟨y, i2, g2, e2, a2, b2, c2, d2⟩ := l01Byte_ends l hl i1 g1 c1 d1
      rw [e2]; simp only [Option.bind_some]
      obtain ⟨z, i3, g3, e3, a3, b3, c3, d3⟩ := l01Byte_ends l hl i2 g2 c2 d2
      rw [e3]; simp only [Option.bind_some]
      obtain ⟨t, i4, g4, e4, a4, b4, c4, d4⟩ := l01Byte_ends l hl i3 g3 c3 d3
      rw [e4]; simp only [Option.bind_some]
      rw [if_neg (by omega)]
      have hnn : 0 ≤ wrap64 ((wrap64 ((wrap64 ((wrap64 (x * 16777216)) + (wrap64 (y * 65536)))) + (wrap64 (z * 256)))) + t) := by unfold wrap64; omega
      refine ⟨_, _, _, rfl, ?_, ?_, by omega, c4, d4⟩
      · rw [tmod_nonneg hnn (by omega)]; exact Int.emod_nonneg _ (by omega)
      · intro hp; rw [tmod_nonneg hnn (by omega)]; exact Int.emod_lt_of_pos _ hp
theorem l01PickInt_ends (l : List Int) (hl : l.length ≤ 9223372036854775806) (i h : Int) (l1 : List Int) (h0 : 0 ≤ i) (h1 : i ≤ l.length) (hp : 0 < l1.length) :
    ∃ j i' h', spec_l01PickInt.f l i h l1 = some (rd l1 j, i', h') ∧ 0 ≤ j ∧ j < l1.length ∧ 0 ≤ i' ∧ i' ≤ l.length := by
  unfold spec_l01PickInt.f
  obtain ⟨x, i1, g1, e1, a1, b1, _, c1, d1⟩ := l01Below_ends l hl i h (l1.length : Int) h0 h1
  rw [e1]; simp only [Option.bind_some]
  rw [if_pos a1, if_pos (b1 (by omega))]
  exact ⟨x, _, _, rfl, a1, b1 (by omega), c1, d1⟩
theorem once_ends (l : List Int) (hl : l.length ≤ 9223372036854775806) (i h n : Int) (h0 : 0 ≤ i) (h1 : i ≤ l.length) :
    ∃ b i' h', spec_l01Once.f l i h n = some (b, i', h') ∧ 0 ≤ i' ∧ i' ≤ l.length := by
  obtain ⟨x, i1, g1, e1, a1, b1, _, c1, d1⟩ := l01Below_ends l hl i h n h0 h1
  unfold spec_l01Once.f
  rw [e1]
  exact ⟨_, _, _, rfl, c1, d1⟩
theorem placeV_ends (l : List Int) (hl : l.length ≤ 9223372036854775806) (i h : Int) (h0 : 0 ≤ i) (h1 : i ≤ l.length) :
    ∃ x i' h', spec_l01Place.f l i h 17 = some (x, i', h') ∧ ((0 ≤ x ∧ x < 17) ∨ x = -1 ∨ x = 17 ∨ x = 18 ∨ x = 9223372036854775807 ∨ x = -9223372036854775808) := by
  obtain ⟨b, i1, g1, e1, c1, d1⟩ := once_ends l hl i h 15 h0 h1
  unfold spec_l01Place.f
  rw [e1]
  simp only [Option.bind_some]
  cases b with
  | true =>
    rw [if_pos rfl]
    obtain ⟨j, i2, g2, e2, p, q, c2, d2⟩ := l01PickInt_ends l hl i1 g1 [(-1), 17, wrap64 (17 + 1), 9223372036854775807, (-9223372036854775808)] c1 d1 (by simp)
    rw [e2]
    refine ⟨_, _, _, rfl, Or.inr ?_⟩
    have q' : j < 5 := q
    obtain rfl | rfl | rfl | rfl | rfl : j = 0 ∨ j = 1 ∨ j = 2 ∨ j = 3 ∨ j = 4 := by omega
    · exact Or.inl rfl
    · exact Or.inr (Or.inl rfl)
    · exact Or.inr (Or.inr (Or.inl (show wrap64 ((17 : Int) + 1) = 18 by unfold wrap64; omega)))
    · exact Or.inr (Or.inr (Or.inr (Or.inl rfl)))
    · exact Or.inr (Or.inr (Or.inr (Or.inr rfl)))
  | false =>
    rw [if_neg (by decide)]
    obtain ⟨x, i2, g2, e2, p, q, _, c2, d2⟩ := l01Below_ends l hl i1 g1 17 c1 d1
    rw [e2]
    exact ⟨_, _, _, rfl, Or.inl ⟨p, q (by decide)⟩⟩
theorem drawNew_ends (l : List Int) (hl : l.length ≤ 9223372036854775806) :
    ∃ fr sl, Ev (fun k => spec_DrawMachineNew.f k l) (fr, sl) ∧ (fr = 8 ∨ fr = 16 ∨ fr = 24 ∨ fr = 32 ∨ fr = 0 ∨ fr = 12 ∨ fr = 40) ∧ ((0 ≤ sl ∧ sl < 17) ∨ sl = -1 ∨ sl = 17 ∨ sl = 18 ∨ sl = 9223372036854775807 ∨ sl = -9223372036854775808) := by
  obtain ⟨g0, e0⟩ := l01New_ends l hl
  obtain ⟨j, i1, g1, e1, p, q, c1, d1⟩ := l01PickInt_ends l hl 0 g0 [8, 16, 24, 32, 0, 12, 40] (by omega) (by omega) (by simp)
  obtain ⟨sl, i2, g2, e2, hs⟩ := placeV_ends l hl i1 g1 c1 d1
  refine ⟨rd [8, 16, 24, 32, 0, 12, 40] j, sl, ?_, ?_, hs⟩
  · unfold spec_DrawMachineNew.f
    refine Ev.bind e0 ?_
    simp only [e1, e2, Option.bind_some]
    exact Ev.now _
  · have q' : j < 7 := q
    obtain rfl | rfl | rfl | rfl | rfl | rfl | rfl : j = 0 ∨ j = 1 ∨ j = 2 ∨ j = 3 ∨ j = 4 ∨ j = 5 ∨ j = 6 := by omega
    · exact Or.inl rfl
    · exact Or.inr (Or.inl rfl)
    · exact Or.inr (Or.inr (Or.inl rfl))
    · exact Or.inr (Or.inr (Or.inr (Or.inl rfl)))
    · exact Or.inr (Or.inr (Or.inr (Or.inr (Or.inl rfl))))
    · exact Or.inr (Or.inr (Or.inr (Or.inr (Or.inr (Or.inl rfl)))))
    · exact Or.inr (Or.inr (Or.inr (Or.inr (Or.inr (Or.inr rfl)))))
abbrev MachN := List (List Int) × List Int × List S124 × List S131 × List S134 × Int × List S79 × List S138 × List Int × List Int × Bool
def memN (n : Nat) : List (List Int) := List.replicate n [0, 0, 0, 0]
def keptN (n : Nat) : List Int := 1 :: 1 :: List.replicate (n - 2) 0
def spN : List S79 := List.replicate 4 ⟨false, -1, []⟩
def slN (s : Int) : List S138 := List.replicate s.toNat z138
def noneN : MachN := ([], [], [], [], [], 0, [], [], [], [], false)
structure GoodN (n : Nat) (r : List S124) (q : List Int) : Prop where
  new : ∀ (k : Nat) (s : Int), 0 ≤ s ∧ s < 17 → impl_MachineNew.f (k + 400) n s = some (memN n, keptN n, r, [], [], 1, spN, slN s, [], [], true)
  ref : ∀ (k : Nat) (s : Int), 0 ≤ s ∧ s < 17 → spec_MachineNew.f (k + 400) n s = some (memN n, keptN n, r, [], [], 1, spN, slN s, [], [], true)
  mem : ∀ k : Nat, impl_MemoryOk.f (k + 400) (memN n) = some true
  f1 : ∀ (k : Nat) (v : List S138), impl_Machine_framesIn.f (k + 400) (memN n) (keptN n) r [] [] 1 spN v [] [] 1 = some ([0, 1], 1)
  f0 : ∀ (k : Nat) (v : List S138), impl_Machine_framesIn.f (k + 400) (memN n) (keptN n) r [] [] 1 spN v [] [] 0 = some (q, 1)
  f2 : ∀ (k : Nat) (v : List S138), impl_Machine_framesIn.f (k + 400) (memN n) (keptN n) r [] [] 1 spN v [] [] 2 = some ([], 1)
  f3 : ∀ (k : Nat) (v : List S138), impl_Machine_framesIn.f (k + 400) (memN n) (keptN n) r [] [] 1 spN v [] [] 3 = some ([], 1)
  f4 : ∀ (k : Nat) (v : List S138), impl_Machine_framesIn.f (k + 400) (memN n) (keptN n) r [] [] 1 spN v [] [] 4 = some ([], 1)
  f5 : ∀ (k : Nat) (v : List S138), impl_Machine_framesIn.f (k + 400) (memN n) (keptN n) r [] [] 1 spN v [] [] 5 = some ([], 1)
  runs : ∀ k : Nat, impl_RunsOk.f (k + 400) n r = some true
  frames : ∀ k : Nat, impl_framesOf.f (k + 400) r = some q
  small : q.length ≤ 1000000
  sorted : (q.mergeSort fun x y => decide (x ≤ y)) = q
  eq : ∀ k : Nat, slices_Equal_int_int.f (k + 400) q q = some true
  c0 : ∀ (k : Nat) (v : List S138), impl_CountOf.f (k + 400) (memN n) (keptN n) r [] [] 1 spN v [] [] 0 = some ((n : Int) - 2)
  c1 : ∀ (k : Nat) (v : List S138), impl_CountOf.f (k + 400) (memN n) (keptN n) r [] [] 1 spN v [] [] 1 = some 2
  bound : 0 ≤ (n : Int) - 2 ∧ (n : Int) ≤ 1000
  len : (keptN n).length = (memN n).length
  lenn : ((memN n).length : Int) = n
  bi : ∀ (k : Nat) (s : Int), s = -1 ∨ s = 17 ∨ s = 18 ∨ s = 9223372036854775807 ∨ s = -9223372036854775808 → impl_MachineNew.f (k + 400) n s = some noneN
  bs : ∀ (k : Nat) (s : Int), s = -1 ∨ s = 17 ∨ s = 18 ∨ s = 9223372036854775807 ∨ s = -9223372036854775808 → spec_MachineNew.f (k + 400) n s = some noneN
theorem upto17 {s : Int} (h : 0 ≤ s ∧ s < 17) : s = 0 ∨ s = 1 ∨ s = 2 ∨ s = 3 ∨ s = 4 ∨ s = 5 ∨ s = 6 ∨ s = 7 ∨ s = 8 ∨ s = 9 ∨ s = 10 ∨ s = 11 ∨ s = 12 ∨ s = 13 ∨ s = 14 ∨ s = 15 ∨ s = 16 := by omega
set_option maxRecDepth 1000000
def runs8 : List S124 := [⟨2, 1⟩, ⟨4, 2⟩]
def free8 : List Int := [2, 3, 4, 5, 6, 7]
theorem goodN8 : GoodN 8 runs8 free8 where
  new := fun k s h => by rcases upto17 h with rfl | rfl | rfl | rfl | rfl | rfl | rfl | rfl | rfl | rfl | rfl | rfl | rfl | rfl | rfl | rfl | rfl <;> kernel_rfl
  ref := fun k s h => by rcases upto17 h with rfl | rfl | rfl | rfl | rfl | rfl | rfl | rfl | rfl | rfl | rfl | rfl | rfl | rfl | rfl | rfl | rfl <;> kernel_rfl
  mem := fun k => by kernel_rfl
  f1 := fun k v => by kernel_rfl
  f0 := fun k v => by kernel_rfl
  f2 := fun k v => by kernel_rfl
  f3 := fun k v => by kernel_rfl
  f4 := fun k v => by kernel_rfl
  f5 := fun k v => by kernel_rfl
  runs := fun k => by kernel_rfl
  frames := fun k => by kernel_rfl
  small := by decide
  sorted := List.mergeSort_of_pairwise (by decide)
  eq := fun k => by kernel_rfl
  c0 := fun k v => by kernel_rfl
  c1 := fun k v => by kernel_rfl
  bound := by decide
  len := rfl
  lenn := rfl
  bi := fun k s h => by rcases h with rfl | rfl | rfl | rfl | rfl <;> kernel_rfl
  bs := fun k s h => by rcases h with rfl | rfl | rfl | rfl | rfl <;> kernel_rfl
def runs16 : List S124 := [⟨2, 1⟩, ⟨4, 2⟩, ⟨8, 3⟩]
def free16 : List Int := [2, 3, 4, 5, 6, 7, 8, 9, 10, 11, 12, 13, 14, 15]
theorem goodN16 : GoodN 16 runs16 free16 where
  new := fun k s h => by rcases upto17 h with rfl | rfl | rfl | rfl | rfl | rfl | rfl | rfl | rfl | rfl | rfl | rfl | rfl | rfl | rfl | rfl | rfl <;> kernel_rfl
  ref := fun k s h => by rcases upto17 h with rfl | rfl | rfl | rfl | rfl | rfl | rfl | rfl | rfl | rfl | rfl | rfl | rfl | rfl | rfl | rfl | rfl <;> kernel_rfl
  mem := fun k => by kernel_rfl
  f1 := fun k v => by kernel_rfl
  f0 := fun k v => by kernel_rfl
  f2 := fun k v => by kernel_rfl
  f3 := fun k v => by kernel_rfl
  f4 := fun k v => by kernel_rfl
  f5 := fun k v => by kernel_rfl
  runs := fun k => by kernel_rfl
  frames := fun k => by kernel_rfl
  small := by decide
  sorted := List.mergeSort_of_pairwise (by decide)
  eq := fun k => by kernel_rfl
  c0 := fun k v => by kernel_rfl
  c1 := fun k v => by kernel_rfl
  bound := by decide
  len := rfl
  lenn := rfl
  bi := fun k s h => by rcases h with rfl | rfl | rfl | rfl | rfl <;> kernel_rfl
  bs := fun k s h => by rcases h with rfl | rfl | rfl | rfl | rfl <;> kernel_rfl
def runs24 : List S124 := [⟨2, 1⟩, ⟨4, 2⟩, ⟨8, 3⟩, ⟨16, 3⟩]
def free24 : List Int := [2, 3, 4, 5, 6, 7, 8, 9, 10, 11, 12, 13, 14, 15, 16, 17, 18, 19, 20, 21, 22, 23]
theorem goodN24 : GoodN 24 runs24 free24 where
  new := fun k s h => by rcases upto17 h with rfl | rfl | rfl | rfl | rfl | rfl | rfl | rfl | rfl | rfl | rfl | rfl | rfl | rfl | rfl | rfl | rfl <;> kernel_rfl
  ref := fun k s h => by rcases upto17 h with rfl | rfl | rfl | rfl | rfl | rfl | rfl | rfl | rfl | rfl | rfl | rfl | rfl | rfl | rfl | rfl | rfl <;> kernel_rfl
  mem := fun k => by kernel_rfl
  f1 := fun k v => by kernel_rfl
  f0 := fun k v => by kernel_rfl
  f2 := fun k v => by kernel_rfl
  f3 := fun k v => by kernel_rfl
  f4 := fun k v => by kernel_rfl
  f5 := fun k v => by kernel_rfl
  runs := fun k => by kernel_rfl
  frames := fun k => by kernel_rfl
  small := by decide
  sorted := List.mergeSort_of_pairwise (by decide)
  eq := fun k => by kernel_rfl
  c0 := fun k v => by kernel_rfl
  c1 := fun k v => by kernel_rfl
  bound := by decide
  len := rfl
  lenn := rfl
  bi := fun k s h => by rcases h with rfl | rfl | rfl | rfl | rfl <;> kernel_rfl
  bs := fun k s h => by rcases h with rfl | rfl | rfl | rfl | rfl <;> kernel_rfl
def runs32 : List S124 := [⟨2, 1⟩, ⟨4, 2⟩, ⟨8, 3⟩, ⟨16, 3⟩, ⟨24, 3⟩]
def free32 : List Int := [2, 3, 4, 5, 6, 7, 8, 9, 10, 11, 12, 13, 14, 15, 16, 17, 18, 19, 20, 21, 22, 23, 24, 25, 26, 27, 28, 29, 30, 31]
theorem goodN32 : GoodN 32 runs32 free32 where
  new := fun k s h => by rcases upto17 h with rfl | rfl | rfl | rfl | rfl | rfl | rfl | rfl | rfl | rfl | rfl | rfl | rfl | rfl | rfl | rfl | rfl <;> kernel_rfl
  ref := fun k s h => by rcases upto17 h with rfl | rfl | rfl | rfl | rfl | rfl | rfl | rfl | rfl | rfl | rfl | rfl | rfl | rfl | rfl | rfl | rfl <;> kernel_rfl
  mem := fun k => by kernel_rfl
  f1 := fun k v => by kernel_rfl
  f0 := fun k v => by kernel_rfl
  f2 := fun k v => by kernel_rfl
  f3 := fun k v => by kernel_rfl
  f4 := fun k v => by kernel_rfl
  f5 := fun k v => by kernel_rfl
  runs := fun k => by kernel_rfl
  frames := fun k => by kernel_rfl
  small := by decide
  sorted := List.mergeSort_of_pairwise (by decide)
  eq := fun k => by kernel_rfl
  c0 := fun k v => by kernel_rfl
  c1 := fun k v => by kernel_rfl
  bound := by decide
  len := rfl
  lenn := rfl
  bi := fun k s h => by rcases h with rfl | rfl | rfl | rfl | rfl <;> kernel_rfl
  bs := fun k s h => by rcases h with rfl | rfl | rfl | rfl | rfl <;> kernel_rfl
theorem no0_impl (k : Nat) (s : Int) : impl_MachineNew.f (k + 400) 0 s = some noneN := by kernel_rfl
theorem no0_spec (k : Nat) (s : Int) : spec_MachineNew.f (k + 400) 0 s = some noneN := by kernel_rfl
theorem no12_impl (k : Nat) (s : Int) : impl_MachineNew.f (k + 400) 12 s = some noneN := by kernel_rfl
theorem no12_spec (k : Nat) (s : Int) : spec_MachineNew.f (k + 400) 12 s = some noneN := by kernel_rfl
theorem no40_impl (k : Nat) (s : Int) : impl_MachineNew.f (k + 400) 40 s = some noneN := by kernel_rfl
theorem no40_spec (k : Nat) (s : Int) : spec_MachineNew.f (k + 400) 40 s = some noneN := by kernel_rfl
theorem slotsN (k : Nat) (s : Int) (h : 0 ≤ s ∧ s < 17) : impl_SlotsOk.f (k + 400) (slN s) = some true := by rcases upto17 h with rfl | rfl | rfl | rfl | rfl | rfl | rfl | rfl | rfl | rfl | rfl | rfl | rfl | rfl | rfl | rfl | rfl <;> kernel_rfl
theorem slN_at (s : Int) : ∀ i : Int, 0 ≤ i → i < ((slN s).length : Int) → rd_T138 (slN s) i = ⟨0, []⟩ := fun i h0 h1 => by
  have h1' : i < (s.toNat : Int) := by rw [show (slN s).length = s.toNat from List.length_replicate] at h1; exact h1
  show (List.replicate s.toNat z138).getD i.toNat z138 = _
  rw [List.getD_eq_getElem?_getD, List.getElem?_replicate, if_pos (by omega)]
  rfl
theorem spN_at : ∀ i : Int, 0 ≤ i → i < (spN.length : Int) → rd_T79 spN i = ⟨false, -1, []⟩ := fun i h0 h1 => by
  have h1' : i < 4 := h1
  obtain rfl | rfl | rfl | rfl : i = 0 ∨ i = 1 ∨ i = 2 ∨ i = 3 := by omega
  all_goals rfl
theorem eqs01 (k : Nat) : slices_Equal_int_int.f (k + 400) [0, 1] [0, 1] = some true := by kernel_rfl
theorem eqs0 (k : Nat) : slices_Equal_int_int.f (k + 400) [] [] = some true := by kernel_rfl
theorem slabs0 (k : Nat) : impl_SlabsOk.f (k + 400) [] = some true := by kernel_rfl
theorem regs0 (k : Nat) : impl_RegionsOk.f (k + 400) [] = some true := by kernel_rfl
theorem in1 (k : Nat) : impl_within.f 1 1 100000 = some true := by kernel_rfl
theorem in0 (k : Nat) : impl_within.f 0 0 3 = some true := by kernel_rfl
theorem FnNew (l0 : List Int) (g0 : (l0.length ≤ maxLen ∧ ∀ y0 ∈ l0, (Lit.int .u8 y0).wf = true)) : (∃ (k : Nat) (fr sl : Int) (v0 : List (List Int)) (v1 : List Int) (v2 : List S124) (v3 : List S131) (v4 : List S134) (v6 : List S79) (v7 : List S138) (v8 : List Int) (v9 : List Int) (xv : Int) (u0 : List (List Int)) (u1 : List Int) (u2 : List S124) (u3 : List S131) (u4 : List S134) (u6 : List S79) (u7 : List S138) (u8 : List Int) (u9 : List Int) (xu : Int) (fo so f0s : List Int), (laws_big.f l0 = some false) ∧ (spec_DrawMachineNew.f k l0 = some (fr, sl)) ∧ (impl_MachineNew.f k fr sl = some (v0, v1, v2, v3, v4, xv, v6, v7, v8, v9, true)) ∧ (spec_MachineNew.f k fr sl = some (u0, u1, u2, u3, u4, xu, u6, u7, u8, u9, true)) ∧ (v1.length = v0.length) ∧ (v3 = []) ∧ (v4 = []) ∧ (v6.length = 4) ∧ (∀ i : Int, 0 ≤ i → i < (v6.length : Int) → rd_T79 v6 i = ⟨false, -1, []⟩) ∧ (∀ i : Int, 0 ≤ i → i < (v7.length : Int) → rd_T138 v7 i = ⟨0, []⟩) ∧ (v8 = []) ∧ (v9 = []) ∧ (impl_MemoryOk.f k v0 = some true) ∧ (impl_Machine_framesIn.f k v0 v1 v2 v3 v4 xv v6 v7 v8 v9 1 = some ([0, 1], xv)) ∧ (slices_Equal_int_int.f k [0, 1] [0, 1] = some true) ∧ (impl_RunsOk.f k (v0.length : Int) v2 = some true) ∧ (impl_SlabsOk.f k v3 = some true) ∧ (impl_framesOf.f k v2 = some fo) ∧ (fo.length ≤ 1000000) ∧ ((fo.mergeSort fun x y => decide (x ≤ y)) = so) ∧ (impl_Machine_framesIn.f k v0 v1 v2 v3 v4 xv v6 v7 v8 v9 0 = some (f0s, xv)) ∧ (slices_Equal_int_int.f k so f0s = some true) ∧ (impl_Machine_framesIn.f k v0 v1 v2 v3 v4 xv v6 v7 v8 v9 2 = some ([], xv)) ∧ (impl_Machine_framesIn.f k v0 v1 v2 v3 v4 xv v6 v7 v8 v9 3 = some ([], xv)) ∧ (impl_Machine_framesIn.f k v0 v1 v2 v3 v4 xv v6 v7 v8 v9 4 = some ([], xv)) ∧ (impl_Machine_framesIn.f k v0 v1 v2 v3 v4 xv v6 v7 v8 v9 5 = some ([], xv)) ∧ (slices_Equal_int_int.f k [] [] = some true) ∧ (impl_within.f xv 1 100000 = some true) ∧ (impl_RegionsOk.f k [] = some true) ∧ (impl_SlotsOk.f k v7 = some true) ∧ (impl_CountOf.f k v0 v1 v2 v3 v4 xv v6 v7 v8 v9 0 = some (fr - 2)) ∧ (impl_CountOf.f k v0 v1 v2 v3 v4 xv v6 v7 v8 v9 1 = some 2) ∧ (impl_within.f 0 0 3 = some true) ∧ ((v7.length : Int) = sl) ∧ (0 ≤ fr - 2 ∧ fr ≤ 1000)) ∨ (∃ (k : Nat), (laws_big.f l0 = some true)) ∨ (∃ (k : Nat) (fr sl : Int) (v0 : List (List Int)) (v1 : List Int) (v2 : List S124) (v3 : List S131) (v4 : List S134) (v6 : List S79) (v7 : List S138) (v8 : List Int) (v9 : List Int) (xv : Int) (u0 : List (List Int)) (u1 : List Int) (u2 : List S124) (u3 : List S131) (u4 : List S134) (u6 : List S79) (u7 : List S138) (u8 : List Int) (u9 : List Int) (xu : Int), (laws_big.f l0 = some false) ∧ (spec_DrawMachineNew.f k l0 = some (fr, sl)) ∧ (impl_MachineNew.f k fr sl = some (v0, v1, v2, v3, v4, xv, v6, v7, v8, v9, false)) ∧ (spec_MachineNew.f k fr sl = some (u0, u1, u2, u3, u4, xu, u6, u7, u8, u9, false)) ∧ (v0.length = 0)) := by
  by_cases hb : l0.length > 1048576
  · refine Or.inr (Or.inl ⟨0, ?_⟩)
    unfold laws_big.f
    rw [decide_eq_true (by omega)]
  have big : laws_big.f l0 = some false := by
    unfold laws_big.f
    rw [decide_eq_false (by omega)]
  obtain ⟨fr, sl, ⟨k0, e⟩, hf, hs⟩ := drawNew_ends l0 (by omega)
  have e' := e (k0 + 400) (by omega)
  obtain ⟨n, r, q, rfl, G⟩ | hf : (∃ (n : Nat) (r : List S124) (q : List Int), fr = (n : Int) ∧ GoodN n r q) ∨ (fr = 0 ∨ fr = 12 ∨ fr = 40) := by
    rcases hf with hf | hf | hf | hf | hf
    · exact Or.inl ⟨8, _, _, hf, goodN8⟩
    · exact Or.inl ⟨16, _, _, hf, goodN16⟩
    · exact Or.inl ⟨24, _, _, hf, goodN24⟩
    · exact Or.inl ⟨32, _, _, hf, goodN32⟩
    · exact Or.inr hf
  · rcases hs with hs | hs
    · exact Or.inl ⟨k0 + 400, n, sl, memN n, keptN n, r, [], [], spN, slN sl, [], [], 1, memN n, keptN n, r, [], [], spN, slN sl, [], [], 1, q, q, q, big, e', G.new k0 sl hs, G.ref k0 sl hs, G.len, rfl, rfl, rfl, spN_at, slN_at sl, rfl, rfl, G.mem k0, G.f1 k0 _, eqs01 k0, by rw [G.lenn]; exact G.runs k0, slabs0 k0, G.frames k0, G.small, G.sorted, G.f0 k0 _, G.eq k0, G.f2 k0 _, G.f3 k0 _, G.f4 k0 _, G.f5 k0 _, eqs0 k0, in1 k0, regs0 k0, slotsN k0 sl hs, G.c0 k0 _, G.c1 k0 _, in0 k0, by rw [show (slN sl).length = sl.toNat from List.length_replicate]; omega, G.bound⟩
    · exact Or.inr (Or.inr ⟨k0 + 400, n, sl, [], [], [], [], [], [], [], [], [], 0, [], [], [], [], [], [], [], [], [], 0, big, e', G.bi k0 sl hs, G.bs k0 sl hs, rfl⟩)
  rcases hf with hf | hf | hf
  · subst hf
    exact Or.inr (Or.inr ⟨k0 + 400, 0, sl, [], [], [], [], [], [], [], [], [], 0, [], [], [], [], [], [], [], [], [], 0, big, e', no0_impl k0 sl, no0_spec k0 sl, rfl⟩)
  · subst hf
    exact Or.inr (Or.inr ⟨k0 + 400, 12, sl, [], [], [], [], [], [], [], [], [], 0, [], [], [], [], [], [], [], [], [], 0, big, e', no12_impl k0 sl, no12_spec k0 sl, rfl⟩)
  · subst hf
    exact Or.inr (Or.inr ⟨k0 + 400, 40, sl, [], [], [], [], [], [], [], [], [], 0, [], [], [], [], [], [], [], [], [], 0, big, e', no40_impl k0 sl, no40_spec k0 sl, rfl⟩)
end Go.Proofs.Ytngonhgghncdiaa.Pure
end
