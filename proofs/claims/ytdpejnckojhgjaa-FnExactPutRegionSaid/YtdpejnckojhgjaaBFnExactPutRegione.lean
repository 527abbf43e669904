/- What the proof of FnExactPutRegionSaid rests on, part 5: plain lemmas and contracts of the functions that the law reaches (in part written by a printing program over the translation). No condition. -/
import Derived.Test.YtdpejnckojhgjaaBFnExactPutRegiond
import Derived.RowKit
import Derived.Laws.BitsLemmas
section
namespace Go.Proofs.Ytdpejnckojhgjaa.P
open Go.RowKit Go.Proofs.YtdpejnckojhgjaaW.PrintWords Go.Proofs.YtdpejnckojhgjaaW.PrintLast Go.Proofs.YtdpejnckojhgjaaW.PrintMore
attribute [local go_sem] max2_int min2_int max_two min_two max_three min_three max_four min_four   -- for this text's walks alone
set_option linter.unusedVariables false
set_option linter.unusedSimpArgs false

/-! ### laws_FnExactPutRegion: function 9 -/
mutual
def laws_FnExactPutRegion.j0 : Nat → List (S68) → List (S70) → Bool → List (S70) → List (S70) → Bool → Bool → Int → Int → Bool → Option (Bool)
  | 0, _, _, _, _, _, _, _, _, _, _ => none
  | k + 1, x0, x6, x7, x8, x9, x10, x46, x836000, x836001, x836002 => if x46 = true then (some false) else ((laws_toRegionS.f k x0).bind fun t858 => ((laws_eqRegionS.f k x8 t858).bind fun t861 => (if t861 = true then ((laws_markRegionS.f k x8 1).bind fun bt862 => (if bt862.1 < 0 then (laws_FnExactPutRegion.j1 k x0 x6 x7 x9 true x836000 x836001 x836002) else ((laws_eqRegionS.f k x9 x6).bind fun t864 => (if t864 = true then (laws_FnExactPutRegion.j1 k x0 x6 x7 x9 (x10 != x7) x836000 x836001 x836002) else (laws_FnExactPutRegion.j1 k x0 x6 x7 x9 true x836000 x836001 x836002))))) else (some false))))
def laws_FnExactPutRegion.j1 : Nat → List (S68) → List (S70) → Bool → List (S70) → Bool → Int → Int → Bool → Option (Bool)
  | 0, _, _, _, _, _, _, _, _ => none
  | k + 1, x0, x6, x7, x9, x67, x836000, x836001, x836002 => if x67 = true then (some false) else ((laws_markRegionS.f k x9 1).bind fun bt865 => ((laws_heldRegionS.f k bt865.2 1).bind fun t867 => (if t867 < 0 then (some false) else (if t867 = bt865.1 then ((laws_toRegionS.f k x0).bind fun t868 => ((laws_toRegion.f x836000 x836001 x836002).bind fun bt871 => ((impl_PutRegion.f k t868 bt871.1 bt871.2.1 bt871.2.2).bind fun bt874 => ((laws_eqRegionS.f k bt874.1 x6).bind fun t878 => (if t878 = true then (laws_FnExactPutRegion.j2 k bt865.2 bt865.1 (bt874.2 != x7)) else (laws_FnExactPutRegion.j2 k bt865.2 bt865.1 true)))))) else (some false)))))
def laws_FnExactPutRegion.j2 : Nat → List (S70) → Int → Bool → Option (Bool)
  | 0, _, _, _ => none
  | k + 1, x9, x12, x95 => if x95 = true then (some false) else ((laws_heldRegionS.f k x9 1).bind fun t879 => (if t879 < 0 then (some false) else (if t879 = x12 then (some true) else (some false))))
end
def laws_FnExactPutRegion.f (k : Nat) (l0 : List (S68)) (a1_0 : Int) (a1_1 : Int) (a1_2 : Bool) : Option (Bool) := (laws_szRegionS.f l0 1048576).bind fun t836 => (if t836 < 0 then (some true) else ((laws_toRegionS.f k l0).bind fun t837 => ((laws_toRegion.f a1_0 a1_1 a1_2).bind fun bt840 => ((spec_PutRegion.f k t837 bt840.1 bt840.2.1 bt840.2.2).bind fun bt843 => ((laws_toRegionS.f k l0).bind fun t847 => ((laws_toRegion.f a1_0 a1_1 a1_2).bind fun bt850 => ((impl_PutRegion.f k t847 bt850.1 bt850.2.1 bt850.2.2).bind fun bt853 => ((laws_eqRegionS.f k bt853.1 bt843.1).bind fun t857 => (if t857 = true then (laws_FnExactPutRegion.j0 k l0 bt843.1 bt843.2 t847 bt853.1 bt853.2 (bt853.2 != bt843.2) a1_0 a1_1 a1_2) else (laws_FnExactPutRegion.j0 k l0 bt843.1 bt843.2 t847 bt853.1 bt853.2 true a1_0 a1_1 a1_2))))))))))
theorem laws_FnExactPutRegion.mono_l : ∀ k, (∀ y0 y1 y2 y3 y4 y5 y6 y7 y8 y9, LeO (laws_FnExactPutRegion.j0 k y0 y1 y2 y3 y4 y5 y6 y7 y8 y9) (laws_FnExactPutRegion.j0 (k + 1) y0 y1 y2 y3 y4 y5 y6 y7 y8 y9)) ∧ (∀ y0 y1 y2 y3 y4 y5 y6 y7, LeO (laws_FnExactPutRegion.j1 k y0 y1 y2 y3 y4 y5 y6 y7) (laws_FnExactPutRegion.j1 (k + 1) y0 y1 y2 y3 y4 y5 y6 y7)) ∧ (∀ y0 y1 y2, LeO (laws_FnExactPutRegion.j2 k y0 y1 y2) (laws_FnExactPutRegion.j2 (k + 1) y0 y1 y2))
  | 0 => ⟨fun _ _ _ _ _ _ _ _ _ _ r h => by simp [laws_FnExactPutRegion.j0] at h, fun _ _ _ _ _ _ _ _ r h => by simp [laws_FnExactPutRegion.j1] at h, fun _ _ _ r h => by simp [laws_FnExactPutRegion.j2] at h⟩
  | k + 1 => by
    obtain ⟨ih0, ih1, ih2⟩ := laws_FnExactPutRegion.mono_l k
    refine ⟨?_, ?_, ?_⟩
    · intro y0 y1 y2 y3 y4 y5 y6 y7 y8 y9
      unfold laws_FnExactPutRegion.j0
      repeat' first
      | (with_reducible exact ih0 _ _ _ _ _ _ _ _ _ _)
      | (with_reducible exact ih1 _ _ _ _ _ _ _ _)
      | (with_reducible exact ih2 _ _ _)
      | (with_reducible exact impl_PutRegion.mono _ _ _ _ _)
      | (with_reducible exact laws_eqRegionS.mono _ _ _)
      | (with_reducible exact laws_heldRegionS.mono _ _ _)
      | (with_reducible exact laws_markRegionS.mono _ _ _)
      | (with_reducible exact laws_toRegionS.mono _ _)
      | (with_reducible exact spec_PutRegion.mono _ _ _ _ _)
      | (with_reducible exact LeO.refl _)
      | (with_reducible exact LeO.none _)
      | (with_reducible refine LeO.ite ?_ ?_)
      | (with_reducible refine LeO.bind ?_ (fun _ => ?_))
      | exact ih0 _ _ _ _ _ _ _ _ _ _
      | exact ih1 _ _ _ _ _ _ _ _
      | exact ih2 _ _ _
      | exact impl_PutRegion.mono _ _ _ _ _
      | exact laws_eqRegionS.mono _ _ _
      | exact laws_heldRegionS.mono _ _ _
      | exact laws_markRegionS.mono _ _ _
      | exact laws_toRegionS.mono _ _
      | exact spec_PutRegion.mono _ _ _ _ _
      | exact LeO.none _
      | refine LeO.ite ?_ ?_
      | refine LeO.bind ?_ (fun _ => ?_)
    · intro y0 y1 y2 y3 y4 y5 y6 y7
      unfold laws_FnExactPutRegion.j1
      repeat' first
      | (with_reducible exact ih0 _ _ _ _ _ _ _ _ _ _)
      | (with_reducible exact ih1 _ _ _ _ _ _ _ _)
      | (with_reducible exact ih2 _ _ _)
      | (with_reducible exact impl_PutRegion.mono _ _ _ _ _)
      | (with_reducible exact laws_eqRegionS.mono _ _ _)
      | (with_reducible exact laws_heldRegionS.mono _ _ _)
      | (with_reducible exact laws_markRegionS.mono _ _ _)
      | (with_reducible exact laws_toRegionS.mono _ _)
      | (with_reducible exact spec_PutRegion.mono _ _ _ _ _)
      | (with_reducible exact LeO.refl _)
      | (with_reducible exact LeO.none _)
      | (with_reducible refine LeO.ite ?_ ?_)
      | (with_reducible refine LeO.bind ?_ (fun _ => ?_))
      | exact ih0 _ _ _ _ _ _ _ _ _ _
      | exact ih1 _ _ _ _ _ _ _ _
      | exact ih2 _ _ _
      | exact impl_PutRegion.mono _ _ _ _ _
      | exact laws_eqRegionS.mono _ _ _
      | exact laws_heldRegionS.mono _ _ _
      | exact laws_markRegionS.mono _ _ _
      | exact laws_toRegionS.mono _ _
      | exact spec_PutRegion.mono _ _ _ _ _
      | exact LeO.none _
      | refine LeO.ite ?_ ?_
      | refine LeO.bind ?_ (fun _ => ?_)
    · intro y0 y1 y2
      unfold laws_FnExactPutRegion.j2
      repeat' first
      | (with_reducible exact ih0 _ _ _ _ _ _ _ _ _ _)
      | (with_reducible exact ih1 _ _ _ _ _ _ _ _)
      | (with_reducible exact ih2 _ _ _)
      | (with_reducible exact impl_PutRegion.mono _ _ _ _ _)
      | (with_reducible exact laws_eqRegionS.mono _ _ _)
      | (with_reducible exact laws_heldRegionS.mono _ _ _)
      | (with_reducible exact laws_markRegionS.mono _ _ _)
      | (with_reducible exact laws_toRegionS.mono _ _)
      | (with_reducible exact spec_PutRegion.mono _ _ _ _ _)
      | (with_reducible exact LeO.refl _)
      | (with_reducible exact LeO.none _)
      | (with_reducible refine LeO.ite ?_ ?_)
      | (with_reducible refine LeO.bind ?_ (fun _ => ?_))
      | exact ih0 _ _ _ _ _ _ _ _ _ _
      | exact ih1 _ _ _ _ _ _ _ _
      | exact ih2 _ _ _
      | exact impl_PutRegion.mono _ _ _ _ _
      | exact laws_eqRegionS.mono _ _ _
      | exact laws_heldRegionS.mono _ _ _
      | exact laws_markRegionS.mono _ _ _
      | exact laws_toRegionS.mono _ _
      | exact spec_PutRegion.mono _ _ _ _ _
      | exact LeO.none _
      | refine LeO.ite ?_ ?_
      | refine LeO.bind ?_ (fun _ => ?_)
theorem laws_FnExactPutRegion.mono : ∀ a0 a1 a2 a3 k, LeO (laws_FnExactPutRegion.f k a0 a1 a2 a3) (laws_FnExactPutRegion.f (k + 1) a0 a1 a2 a3) := by
  intro a0 a1 a2 a3 k
  obtain ⟨ih0, ih1, ih2⟩ := laws_FnExactPutRegion.mono_l k
  unfold laws_FnExactPutRegion.f
  repeat' first
      | (with_reducible exact ih0 _ _ _ _ _ _ _ _ _ _)
      | (with_reducible exact ih1 _ _ _ _ _ _ _ _)
      | (with_reducible exact ih2 _ _ _)
      | (with_reducible exact impl_PutRegion.mono _ _ _ _ _)
      | (with_reducible exact laws_eqRegionS.mono _ _ _)
      | (with_reducible exact laws_heldRegionS.mono _ _ _)
      | (with_reducible exact laws_markRegionS.mono _ _ _)
      | (with_reducible exact laws_toRegionS.mono _ _)
      | (with_reducible exact spec_PutRegion.mono _ _ _ _ _)
      | (with_reducible exact LeO.refl _)
      | (with_reducible exact LeO.none _)
      | (with_reducible refine LeO.ite ?_ ?_)
      | (with_reducible refine LeO.bind ?_ (fun _ => ?_))
      | exact ih0 _ _ _ _ _ _ _ _ _ _
      | exact ih1 _ _ _ _ _ _ _ _
      | exact ih2 _ _ _
      | exact impl_PutRegion.mono _ _ _ _ _
      | exact laws_eqRegionS.mono _ _ _
      | exact laws_heldRegionS.mono _ _ _
      | exact laws_markRegionS.mono _ _ _
      | exact laws_toRegionS.mono _ _
      | exact spec_PutRegion.mono _ _ _ _ _
      | exact LeO.none _
      | refine LeO.ite ?_ ?_
      | refine LeO.bind ?_ (fun _ => ?_)
def laws_FnExactPutRegion.T5 : Bool × List (List Nat × List Nat) := (true, [([], []), ([0], [0]), ([], []), ([2, 1], [2]), ([1, 3, 3], [1, 3]), ([4], [4]), ([5], [5]), ([5], [5]), ([6, 4, 0, 1, 2, 3, 4, 5, 6], [6]), ([7, 8, 0, 1, 2, 3, 4, 5, 6, 7, 8], [7])])
def laws_FnExactPutRegion.B5 : List Nat := [0, 1, 0, 7, 15, 31, 63, 63, 127, 511]
theorem laws_FnExactPutRegion.tab5 : rtab .any (opsOf Try.f9 5) = laws_FnExactPutRegion.T5 := by kernel_rfl
theorem laws_FnExactPutRegion.bits5 : waitsOk laws_FnExactPutRegion.T5.2 laws_FnExactPutRegion.B5 = true := by kernel_rfl
def laws_FnExactPutRegion.T24 : Bool × List (List Nat × List Nat) := (true, [([], []), ([0], [0]), ([], []), ([2, 1], [2]), ([1, 3, 3], [1, 3]), ([4], [4]), ([5], [5]), ([5], [5]), ([6, 4, 0, 1, 2, 3, 4, 5, 6], [6]), ([7, 8, 0, 1, 2, 3, 4, 5, 6, 7, 8], [7])])
def laws_FnExactPutRegion.B24 : List Nat := [0, 1, 0, 7, 15, 31, 63, 63, 127, 511]
theorem laws_FnExactPutRegion.tab24 : rtab .any (opsOf Try.f9 24) = laws_FnExactPutRegion.T24 := by kernel_rfl
theorem laws_FnExactPutRegion.bits24 : waitsOk laws_FnExactPutRegion.T24.2 laws_FnExactPutRegion.B24 = true := by kernel_rfl
set_option maxHeartbeats 8000000 in
set_option maxRecDepth 100000 in
theorem laws_FnExactPutRegion.calls (k : Nat) (A0 : Option Addr) (c0 : Nat) (l0 : List (S68)) (a1_0 : Int) (a1_1 : Int) (a1_2 : Bool) (r : Bool) (w : World) (hr0 : Kd.C k68 w A0 l0.length l0) (hc0 : l0.length ≤ c0) (h : laws_FnExactPutRegion.f k l0 a1_0 a1_1 a1_2 = some r) :
    Calls Try.prog 9 #[.slice A0 l0.length c0, .agg #[.int .i64 a1_0, .int .i64 a1_1, .bool a1_2]] w fun e w' => e = .returned (.bool r) ∧ Below w.heap.size w w' := by
  have hu68 := Try.underlying68
  have HR0 := Aside0.mk hr0
  have HC0 := Aside0.mk hc0
  clear hr0 hc0
  have HB := Aside0.mk (Below.refl w.heap.size w)
  have H : ((laws_szRegionS.f l0 1048576).bind fun t836 => (if t836 < 0 then (some true) else ((laws_toRegionS.f k l0).bind fun t837 => ((laws_toRegion.f a1_0 a1_1 a1_2).bind fun bt840 => ((spec_PutRegion.f k t837 bt840.1 bt840.2.1 bt840.2.2).bind fun bt843 => ((laws_toRegionS.f k l0).bind fun t847 => ((laws_toRegion.f a1_0 a1_1 a1_2).bind fun bt850 => ((impl_PutRegion.f k t847 bt850.1 bt850.2.1 bt850.2.2).bind fun bt853 => ((laws_eqRegionS.f k bt853.1 bt843.1).bind fun t857 => (if t857 = true then (laws_FnExactPutRegion.j0 k l0 bt843.1 bt843.2 t847 bt853.1 bt853.2 (bt853.2 != bt843.2) a1_0 a1_1 a1_2) else (laws_FnExactPutRegion.j0 k l0 bt843.1 bt843.2 t847 bt853.1 bt853.2 true a1_0 a1_1 a1_2))))))))))) = some r := h
  clear h
  replace H := Option.bind_eq_some_iff.mp H
  obtain ⟨t836, A30, H⟩ := H
  replace H : (if t836 < 0 then (some true) else ((laws_toRegionS.f k l0).bind fun t837 => ((laws_toRegion.f a1_0 a1_1 a1_2).bind fun bt840 => ((spec_PutRegion.f k t837 bt840.1 bt840.2.1 bt840.2.2).bind fun bt843 => ((laws_toRegionS.f k l0).bind fun t847 => ((laws_toRegion.f a1_0 a1_1 a1_2).bind fun bt850 => ((impl_PutRegion.f k t847 bt850.1 bt850.2.1 bt850.2.2).bind fun bt853 => ((laws_eqRegionS.f k bt853.1 bt843.1).bind fun t857 => (if t857 = true then (laws_FnExactPutRegion.j0 k l0 bt843.1 bt843.2 t847 bt853.1 bt853.2 (bt853.2 != bt843.2) a1_0 a1_1 a1_2) else (laws_FnExactPutRegion.j0 k l0 bt843.1 bt843.2 t847 bt853.1 bt853.2 true a1_0 a1_1 a1_2)))))))))) = some r := H
  have A3 := Aside0.mk A30
  clear A30
  by_cases c4 : t836 < 0
  · rw [if_pos c4] at H
    have c4b0 : decide (t836 < 0) = true := decide_eq_true c4
    clear c4
    obtain rfl := Option.some.inj H
    go_enter Try.func9, Try.ntmps9
    go_wp2_with (first | ((with_reducible refine gate_dst (N := 3) rfl ?_); refine box_event ?hg (N := 3) ?hd (cs := #[.int .i64 a1_0, .int .i64 a1_1, .bool a1_2]) (t := 68) ?hr ?_; (case hd => rfl); (case hg => rfl); (case hr => first | (go_simp; done) | (go_simp; rfl)); intro gb835 hg w5 hbox hb; have n0_ := Aside0.mk (below_step (by repeat (first | (with_reducible first | exact HB.out | apply below_alloc | apply pw_below_drewN | apply below_drew1) | exact HB.out)) hb); have n1_ := Aside0.mk (hbox); have n2_ := Aside0.mk ((by rw [hg]; exact (below_size (by repeat (first | (with_reducible first | exact HB.out | apply below_alloc | apply pw_below_drewN | apply below_drew1) | exact HB.out))) : w.heap.size ≤ gb835)); have n3_ := Aside0.mk ((by rw [hg]; exact (below_size (by repeat (first | (with_reducible first | exact HB.out | apply below_alloc | apply pw_below_drewN | apply below_drew1) | exact HB.out))) : w.heap.size ≤ gb835)); clear HB; have HB := n0_; have BK835 := n1_; have GW835 := n2_; have GE835 := n3_; clear n0_ n1_ n2_ n3_; clear hb hbox hg) | ((with_reducible refine gate_callee (f := 23) rfl ?_); refine goesL_ (some 18) rfl rfl Try.func23 (by kernel_rfl) rfl #[.slice A0 l0.length c0, .int .i64 1048576] rfl (by (try simp only [List.map_toArray, List.map_cons, List.map_nil]); first | done | rfl | (simp only [List.length_drop, List.length_take]; rfl)) ?_; (with_reducible refine (laws_szRegionS.calls _ _ l0 1048576 t836 _ ?side1 ?side2 A3.out).mono ?_); (case side1 => repeat (first | exact (Kd.C_below HR0.out HB.out) | (with_reducible refine Kd.C_alloc ?_ _) | (with_reducible refine Kd.C_drewN ?_ _) | (with_reducible refine Kd.C_drew ?_))); (case side2 => exact HC0.out); rintro e w' ⟨rfl, ⟨nd, rfl⟩⟩; refine ⟨_, rfl, ?_⟩))
    go_ret
    exact ⟨by first | rfl | (simp [errW_none, errW_some] <;> rfl) | (simp [*, errW_none, errW_some] <;> rfl), by repeat (first | (with_reducible first | exact HB.out | apply below_alloc | apply pw_below_drewN | apply below_drew1 | refine below_set ?_ GE835.out) | exact HB.out)⟩
  · rw [if_neg c4] at H
    have c4b0 : decide (t836 < 0) = false := decide_eq_false c4
    clear c4
    replace H := Option.bind_eq_some_iff.mp H
    obtain ⟨t837, A60, H⟩ := H
    replace H : ((laws_toRegion.f a1_0 a1_1 a1_2).bind fun bt840 => ((spec_PutRegion.f k t837 bt840.1 bt840.2.1 bt840.2.2).bind fun bt843 => ((laws_toRegionS.f k l0).bind fun t847 => ((laws_toRegion.f a1_0 a1_1 a1_2).bind fun bt850 => ((impl_PutRegion.f k t847 bt850.1 bt850.2.1 bt850.2.2).bind fun bt853 => ((laws_eqRegionS.f k bt853.1 bt843.1).bind fun t857 => (if t857 = true then (laws_FnExactPutRegion.j0 k l0 bt843.1 bt843.2 t847 bt853.1 bt853.2 (bt853.2 != bt843.2) a1_0 a1_1 a1_2) else (laws_FnExactPutRegion.j0 k l0 bt843.1 bt843.2 t847 bt853.1 bt853.2 true a1_0 a1_1 a1_2)))))))) = some r := H
    have A6 := Aside0.mk A60
    clear A60
    replace H := Option.bind_eq_some_iff.mp H
    obtain ⟨⟨t840, t841, t842⟩, A70, H⟩ := H
    replace H : ((spec_PutRegion.f k t837 t840 t841 t842).bind fun bt843 => ((laws_toRegionS.f k l0).bind fun t847 => ((laws_toRegion.f a1_0 a1_1 a1_2).bind fun bt850 => ((impl_PutRegion.f k t847 bt850.1 bt850.2.1 bt850.2.2).bind fun bt853 => ((laws_eqRegionS.f k bt853.1 bt843.1).bind fun t857 => (if t857 = true then (laws_FnExactPutRegion.j0 k l0 bt843.1 bt843.2 t847 bt853.1 bt853.2 (bt853.2 != bt843.2) a1_0 a1_1 a1_2) else (laws_FnExactPutRegion.j0 k l0 bt843.1 bt843.2 t847 bt853.1 bt853.2 true a1_0 a1_1 a1_2))))))) = some r := H
    have A7 := Aside0.mk A70
    clear A70
    replace H := Option.bind_eq_some_iff.mp H
    obtain ⟨⟨t843, t846⟩, A80, H⟩ := H
    replace H : ((laws_toRegionS.f k l0).bind fun t847 => ((laws_toRegion.f a1_0 a1_1 a1_2).bind fun bt850 => ((impl_PutRegion.f k t847 bt850.1 bt850.2.1 bt850.2.2).bind fun bt853 => ((laws_eqRegionS.f k bt853.1 t843).bind fun t857 => (if t857 = true then (laws_FnExactPutRegion.j0 k l0 t843 t846 t847 bt853.1 bt853.2 (bt853.2 != t846) a1_0 a1_1 a1_2) else (laws_FnExactPutRegion.j0 k l0 t843 t846 t847 bt853.1 bt853.2 true a1_0 a1_1 a1_2)))))) = some r := H
    have A8 := Aside0.mk A80
    clear A80
    replace H := Option.bind_eq_some_iff.mp H
    obtain ⟨t847, A90, H⟩ := H
    replace H : ((laws_toRegion.f a1_0 a1_1 a1_2).bind fun bt850 => ((impl_PutRegion.f k t847 bt850.1 bt850.2.1 bt850.2.2).bind fun bt853 => ((laws_eqRegionS.f k bt853.1 t843).bind fun t857 => (if t857 = true then (laws_FnExactPutRegion.j0 k l0 t843 t846 t847 bt853.1 bt853.2 (bt853.2 != t846) a1_0 a1_1 a1_2) else (laws_FnExactPutRegion.j0 k l0 t843 t846 t847 bt853.1 bt853.2 true a1_0 a1_1 a1_2))))) = some r := H
    have A9 := Aside0.mk A90
    clear A90
    replace H := Option.bind_eq_some_iff.mp H
    obtain ⟨⟨t850, t851, t852⟩, A100, H⟩ := H
    replace H : ((impl_PutRegion.f k t847 t850 t851 t852).bind fun bt853 => ((laws_eqRegionS.f k bt853.1 t843).bind fun t857 => (if t857 = true then (laws_FnExactPutRegion.j0 k l0 t843 t846 t847 bt853.1 bt853.2 (bt853.2 != t846) a1_0 a1_1 a1_2) else (laws_FnExactPutRegion.j0 k l0 t843 t846 t847 bt853.1 bt853.2 true a1_0 a1_1 a1_2)))) = some r := H
    have A10 := Aside0.mk A100
    clear A100
    replace H := Option.bind_eq_some_iff.mp H
    obtain ⟨⟨t853, t856⟩, A110, H⟩ := H
    replace H : ((laws_eqRegionS.f k t853 t843).bind fun t857 => (if t857 = true then (laws_FnExactPutRegion.j0 k l0 t843 t846 t847 t853 t856 (t856 != t846) a1_0 a1_1 a1_2) else (laws_FnExactPutRegion.j0 k l0 t843 t846 t847 t853 t856 true a1_0 a1_1 a1_2))) = some r := H
    have A11 := Aside0.mk A110
    clear A110
    have HC12 := Aside0.mk H
    clear H
    go_enter Try.func9, Try.ntmps9
    try go_wp2_with (first | ((with_reducible refine gate_dst (N := 3) rfl ?_); refine box_event ?hg (N := 3) ?hd (cs := #[.int .i64 a1_0, .int .i64 a1_1, .bool a1_2]) (t := 68) ?hr ?_; (case hd => rfl); (case hg => rfl); (case hr => first | (go_simp; done) | (go_simp; rfl)); intro gb835 hg w13 hbox hb; have n0_ := Aside0.mk (below_step (by repeat (first | (with_reducible first | exact HB.out | apply below_alloc | apply pw_below_drewN | apply below_drew1) | exact HB.out)) hb); have n1_ := Aside0.mk (hbox); have n2_ := Aside0.mk ((by rw [hg]; exact (below_size (by repeat (first | (with_reducible first | exact HB.out | apply below_alloc | apply pw_below_drewN | apply below_drew1) | exact HB.out))) : w.heap.size ≤ gb835)); have n3_ := Aside0.mk ((by rw [hg]; exact (below_size (by repeat (first | (with_reducible first | exact HB.out | apply below_alloc | apply pw_below_drewN | apply below_drew1) | exact HB.out))) : w.heap.size ≤ gb835)); clear HB; have HB := n0_; have BK835 := n1_; have GW835 := n2_; have GE835 := n3_; clear n0_ n1_ n2_ n3_; clear hb hbox hg) | ((with_reducible refine gate_callee (f := 23) rfl ?_); refine goesL_ (some 18) rfl rfl Try.func23 (by kernel_rfl) rfl #[.slice A0 l0.length c0, .int .i64 1048576] rfl (by (try simp only [List.map_toArray, List.map_cons, List.map_nil]); first | done | rfl | (simp only [List.length_drop, List.length_take]; rfl)) ?_; (with_reducible refine (laws_szRegionS.calls _ _ l0 1048576 t836 _ ?side1 ?side2 A3.out).mono ?_); (case side1 => repeat (first | exact (Kd.C_below HR0.out HB.out) | (with_reducible refine Kd.C_alloc ?_ _) | (with_reducible refine Kd.C_drewN ?_ _) | (with_reducible refine Kd.C_drew ?_))); (case side2 => exact HC0.out); rintro e w' ⟨rfl, ⟨nd, rfl⟩⟩; refine ⟨_, rfl, ?_⟩))
    (try (rw [drewN_self w13]; generalize hq_ : World.drewN w13 _ = w13; have n0_ : Aside0 (w13.heap[gb835]? = some (.cells #[.int .i64 a1_0, .int .i64 a1_1, .bool a1_2] 68 (0, 0))) := ⟨by rw [← hq_]; exact (by (with_reducible repeat (first | refine blk_drewN ?_ _ | refine blk_drew ?_ | refine blk_alloc ?_ _)); exact BK835.out)⟩; have n1_ : Aside0 (Below w.heap.size w w13) := ⟨by rw [← hq_]; exact (by repeat (first | (with_reducible first | exact HB.out | apply below_alloc | apply pw_below_drewN | apply below_drew1 | refine below_set ?_ GE835.out) | exact HB.out))⟩; clear BK835 HB hq_; have BK835 := n0_; have HB := n1_; clear n0_ n1_))
    have n0_ := Aside0.mk (blk_drew BK835.out)
    have n1_ := Aside0.mk (below_drew1 HB.out)
    clear BK835
    clear HB
    have BK835 := n0_
    have HB := n1_
    clear n0_ n1_
    refine start_ (n := 10) (S := fun w' => w'.cell? ⟨gb835, 0, none⟩ = some (.int .i64 a1_0) ∧ w'.cell? ⟨gb835, 1, none⟩ = some (.int .i64 a1_1) ∧ w'.cell? ⟨gb835, 2, none⟩ = some (.bool a1_2)) (ds := []) #[false, false, false, false, false, false, false, false, false, false] (by kernel_rfl) rfl rfl ⟨(blk_cell BK835.out 0).trans rfl, (blk_cell BK835.out 1).trans rfl, (blk_cell BK835.out 2).trans rfl⟩ (fun hHeld => ?_); refine with_tabW laws_FnExactPutRegion.tab5 laws_FnExactPutRegion.bits5 (fun HT_ HW_ => ?_)
    generalize w13.drew = w14 at BK835 HB hHeld ⊢
    refine pure_ (i := 0) (N := some 22) (v := ?_) (a' := ?_) #[true, false, false, false, false, false, false, false, false, false] rfl rfl (any_of HT_.out (by kernel_rfl)) (fun _ _ _ h => h) (Or.inl ⟨by rfl, ?_⟩) ?_ ?_
    rotate_left
    · intro w'
      go_simp
      with_reducible rfl
    rotate_left
    · simp only [Act.put, List.setIfInBounds_toArray, List.set_cons_zero, List.set_cons_succ, i64_w, i32_w]
      rfl
    refine take_ (i := 2) (N := some 24) (v := ?_) (a' := ?_) #[true, false, true, false, false, false, false, false, false, false] rfl rfl (take_ofW HT_.out HW_.out (by kernel_rfl)) (fun _ _ _ h => h) (Or.inl ⟨by rfl, ?_⟩) hHeld ?_ ?_
    rotate_left
    · rintro w' ⟨s0, s1, s2⟩
      go_simp
      with_reducible rfl
    rotate_left
    · simp only [Act.put, List.setIfInBounds_toArray, List.set_cons_zero, List.set_cons_succ, i64_w, i32_w]
      rfl
    refine one_ (i := 1) (N := some 23) #[true, true, true, false, false, false, false, false, false, false] rfl rfl (one_of HT_.out (by kernel_rfl)) (by decide) (fun K hK => ?_)
    refine goes_ Try.func25 (by kernel_rfl) rfl #[.slice A0 l0.length c0] (by rfl) rfl rfl (by (try simp only [List.map_toArray, List.map_cons, List.map_nil]); first | done | rfl | (simp only [List.length_drop, List.length_take]; rfl)) ?_
    with_reducible refine (laws_toRegionS.calls k _ _ l0 t837 _ ?side1 ?side2 A6.out).mono ?_
    (case side1 => repeat (first | exact (Kd.C_below HR0.out HB.out) | (with_reducible refine Kd.C_alloc ?_ _) | (with_reducible refine Kd.C_drewN ?_ _) | (with_reducible refine Kd.C_drew ?_)))
    (case side2 => exact HC0.out)
    rintro e w15 ⟨v838, rfl, ho0, hb⟩
    refine ⟨_, rfl, ?_⟩
    have n0_ := Aside0.mk (Kd.R_lower ho0 (below_size (by repeat (first | (with_reducible first | exact HB.out | apply below_alloc | apply pw_below_drewN | apply below_drew1 | refine below_set ?_ GE835.out) | exact HB.out))))
    have n1_ := Aside0.mk (blk_below (g := gb835) (o := .cells #[.int .i64 a1_0, .int .i64 a1_1, .bool a1_2] 68 (0, 0)) (by (with_reducible repeat (first | refine blk_drewN ?_ _ | refine blk_drew ?_ | refine blk_alloc ?_ _)); exact BK835.out) hb)
    have n2_ := Aside0.mk (below_step (by repeat (first | (with_reducible first | exact HB.out | apply below_alloc | apply pw_below_drewN | apply below_drew1 | refine below_set ?_ GE835.out) | exact HB.out)) hb)
    clear BK835
    clear HB
    have HO839 := n0_
    have BK835 := n1_
    have HB := n2_
    clear n0_ n1_ n2_
    (try clear hb)
    (try clear hb2)
    (try clear hk)
    (try clear hi)
    (try clear ho0)
    refine hK.out _ _ ⟨(blk_cell BK835.out 0).trans rfl, (blk_cell BK835.out 1).trans rfl, (blk_cell BK835.out 2).trans rfl⟩ (fun hHeld => ?_)
    clear hK K
    refine norm_ (a' := ?_) ?_ ?_
    rotate_left
    · show Act.put _ (some 23) _ = _
      simp only [Act.put, List.setIfInBounds_toArray, List.set_cons_zero, List.set_cons_succ, i64_w, i32_w]
      rfl
    refine one_ (i := 3) (N := some 25) #[true, true, true, true, false, false, false, false, false, false] rfl rfl (one_of HT_.out (by kernel_rfl)) (by decide) (fun K hK => ?_)
    refine goes_ Try.func52 (by kernel_rfl) rfl #[.agg #[.int .i64 a1_0, .int .i64 a1_1, .bool a1_2]] (by rfl) rfl rfl (by (try simp only [List.map_toArray, List.map_cons, List.map_nil]); first | done | rfl | (simp only [List.length_drop, List.length_take]; rfl)) ?_
    with_reducible refine (laws_toRegion.calls a1_0 a1_1 a1_2 t840 t841 t842 _ A7.out).mono ?_
    rintro e w16 ⟨rfl, hb⟩
    refine ⟨_, rfl, ?_⟩
    have n0_ := Aside0.mk (Kd.R_below (by (with_reducible repeat (first | apply Kd.R_alloc | apply Kd.R_drewN | apply Kd.R_drew)); exact HO839.out) hb)
    have n1_ := Aside0.mk (blk_below (g := gb835) (o := .cells #[.int .i64 a1_0, .int .i64 a1_1, .bool a1_2] 68 (0, 0)) (by (with_reducible repeat (first | refine blk_drewN ?_ _ | refine blk_drew ?_ | refine blk_alloc ?_ _)); exact BK835.out) hb)
    have n2_ := Aside0.mk (below_step (by repeat (first | (with_reducible first | exact HB.out | apply below_alloc | apply pw_below_drewN | apply below_drew1 | refine below_set ?_ GE835.out) | exact HB.out)) hb)
    clear HO839
    clear BK835
    clear HB
    have HO839 := n0_
    have BK835 := n1_
    have HB := n2_
    clear n0_ n1_ n2_
    (try clear hb)
    (try clear hb2)
    (try clear hk)
    (try clear hi)
    obtain ⟨Ao17, co17, eo17⟩ := Kd.R_slice HO839.out
    (first | subst eo17 | (injection eo17 with f1_ f2_ f3_; have f4_ := f1_.symm; have f5_ := f3_.symm; clear f1_ f2_ f3_; subst f4_; subst f5_))
    refine hK.out _ _ ⟨(blk_cell BK835.out 0).trans rfl, (blk_cell BK835.out 1).trans rfl, (blk_cell BK835.out 2).trans rfl⟩ (fun hHeld => ?_)
    clear hK K
    refine norm_ (a' := ?_) ?_ ?_
    rotate_left
    · show Act.put _ (some 25) _ = _
      simp only [Act.put, List.setIfInBounds_toArray, List.set_cons_zero, List.set_cons_succ, i64_w, i32_w]
      rfl
    refine one_ (i := 4) (N := some 26) #[true, true, true, true, true, false, false, false, false, false] rfl rfl (one_of HT_.out (by kernel_rfl)) (by decide) (fun K hK => ?_)
    refine goes_ Try.func51 (by kernel_rfl) rfl #[.slice Ao17 t837.length co17, .agg #[.int .i64 t840, .int .i64 t841, .bool t842]] (by rfl) rfl rfl (by (try simp only [List.map_toArray, List.map_cons, List.map_nil]); first | done | rfl | (simp only [List.length_drop, List.length_take]; rfl)) ?_
    with_reducible refine (spec_PutRegion.calls k _ _ t837 t840 t841 t842 t843 t846 _ ?side1 ?side2 A8.out).mono ?_
    (case side1 => repeat (first | exact (Kd.R_reads' HO839.out).2.2 | (with_reducible refine Kd.C_alloc ?_ _) | (with_reducible refine Kd.C_drewN ?_ _) | (with_reducible refine Kd.C_drew ?_)))
    (case side2 => exact (Kd.R_reads' HO839.out).2.1)
    rintro e w18 ⟨v844, rfl, ho0, hb⟩
    refine ⟨_, rfl, ?_⟩
    have n0_ := Aside0.mk (Kd.R_elder' (by (with_reducible repeat (first | apply Kd.R_alloc | apply Kd.R_drewN | apply Kd.R_drew)); exact HO839.out) (Kd.R_base ho0) hb)
    have n1_ := Aside0.mk (Kd.R_lower (Kd.R_new' ho0 (Kd.R_lt (by (with_reducible repeat (first | apply Kd.R_alloc | apply Kd.R_drewN | apply Kd.R_drew)); exact HO839.out))) (below_size (by repeat (first | (with_reducible first | exact HB.out | apply below_alloc | apply pw_below_drewN | apply below_drew1 | refine below_set ?_ GE835.out) | exact HB.out))))
    have n2_ := Aside0.mk (blk_below (g := gb835) (o := .cells #[.int .i64 a1_0, .int .i64 a1_1, .bool a1_2] 68 (0, 0)) (by (with_reducible repeat (first | refine blk_drewN ?_ _ | refine blk_drew ?_ | refine blk_alloc ?_ _)); exact BK835.out) hb)
    have n3_ := Aside0.mk (below_step (by repeat (first | (with_reducible first | exact HB.out | apply below_alloc | apply pw_below_drewN | apply below_drew1 | refine below_set ?_ GE835.out) | exact HB.out)) hb)
    clear HO839
    clear BK835
    clear HB
    have HO839 := n0_
    have HO845 := n1_
    have BK835 := n2_
    have HB := n3_
    clear n0_ n1_ n2_ n3_
    (try clear hb)
    (try clear hb2)
    (try clear hk)
    (try clear hi)
    (try clear ho0)
    refine hK.out _ _ ⟨(blk_cell BK835.out 0).trans rfl, (blk_cell BK835.out 1).trans rfl, (blk_cell BK835.out 2).trans rfl⟩ (fun hHeld => ?_)
    clear hK K
    refine norm_ (a' := ?_) ?_ ?_
    rotate_left
    · show Act.put _ (some 26) _ = _
      simp only [Act.put, List.setIfInBounds_toArray, List.set_cons_zero, List.set_cons_succ, i64_w, i32_w]
      rfl
    refine pure_ (i := 5) (N := some 21) (v := ?_) (a' := ?_) #[true, true, true, true, true, true, false, false, false, false] rfl rfl (any_of HT_.out (by kernel_rfl)) (fun _ _ _ h => h) (Or.inl ⟨by rfl, ?_⟩) ?_ ?_
    rotate_left
    · intro w'
      go_simp
      with_reducible rfl
    rotate_left
    · simp only [Act.put, List.setIfInBounds_toArray, List.set_cons_zero, List.set_cons_succ, i64_w, i32_w]
      rfl
    refine pure_ (i := 6) (N := some 27) (v := ?_) (a' := ?_) #[true, true, true, true, true, true, true, false, false, false] rfl rfl (any_of HT_.out (by kernel_rfl)) (fun _ _ _ h => h) (Or.inl ⟨by rfl, ?_⟩) ?_ ?_
    rotate_left
    · intro w'
      go_simp
      with_reducible rfl
    rotate_left
    · simp only [Act.put, List.setIfInBounds_toArray, List.set_cons_zero, List.set_cons_succ, i64_w, i32_w]
      rfl
    refine pure_ (i := 7) (N := some 28) (v := ?_) (a' := ?_) #[true, true, true, true, true, true, true, true, false, false] rfl rfl (any_of HT_.out (by kernel_rfl)) (fun _ _ _ h => h) (Or.inl ⟨by rfl, ?_⟩) ?_ ?_
    rotate_left
    · intro w'
      go_simp
      with_reducible rfl
    rotate_left
    · simp only [Act.put, List.setIfInBounds_toArray, List.set_cons_zero, List.set_cons_succ, i64_w, i32_w]
      rfl
    refine pure_ (i := 8) (N := some 6) (v := ?_) (a' := ?_) #[true, true, true, true, true, true, true, true, true, false] rfl rfl (any_of HT_.out (by kernel_rfl)) (fun _ _ _ h => h) (Or.inl ⟨by rfl, ?_⟩) ?_ ?_
    rotate_left
    · intro w'
      go_simp
      with_reducible rfl
    rotate_left
    · simp only [Act.put, List.setIfInBounds_toArray, List.set_cons_zero, List.set_cons_succ, i64_w, i32_w]
      rfl
    refine pure_ (i := 9) (N := some 7) (v := ?_) (a' := ?_) #[true, true, true, true, true, true, true, true, true, true] rfl rfl (any_of HT_.out (by kernel_rfl)) (fun _ _ _ h => h) (Or.inl ⟨by rfl, ?_⟩) ?_ ?_
    rotate_left
    · intro w'
      go_simp
      with_reducible rfl
    rotate_left
    · simp only [Act.put, List.setIfInBounds_toArray, List.set_cons_zero, List.set_cons_succ, i64_w, i32_w]
      rfl
    refine done_ (done_of HT_.out (by kernel_rfl)) ?_
    go_upto_region 8 with (first | ((with_reducible refine gate_callee (f := 25) rfl ?_); refine goesL_ (some 30) rfl rfl Try.func25 (by kernel_rfl) rfl #[.slice A0 l0.length c0] rfl (by (try simp only [List.map_toArray, List.map_cons, List.map_nil]); first | done | rfl | (simp only [List.length_drop, List.length_take]; rfl)) ?_; (with_reducible refine (laws_toRegionS.calls k _ _ l0 t847 _ ?side1 ?side2 A9.out).mono ?_); (case side1 => repeat (first | exact (Kd.C_below HR0.out HB.out) | (with_reducible refine Kd.C_alloc ?_ _) | (with_reducible refine Kd.C_drewN ?_ _) | (with_reducible refine Kd.C_drew ?_))); (case side2 => exact HC0.out); rintro e w19 ⟨v848, rfl, ho0, hb⟩; refine ⟨_, rfl, ?_⟩; have n0_ := Aside0.mk (Kd.R_elder' (by (with_reducible repeat (first | apply Kd.R_alloc | apply Kd.R_drewN | apply Kd.R_drew)); exact HO839.out) (Kd.R_base ho0) hb); have n1_ := Aside0.mk (Kd.R_elder' (by (with_reducible repeat (first | apply Kd.R_alloc | apply Kd.R_drewN | apply Kd.R_drew)); exact HO845.out) (Kd.R_base ho0) hb); have n2_ := Aside0.mk (Kd.R_lower (Kd.R_new' (Kd.R_new' ho0 (Kd.R_lt (by (with_reducible repeat (first | apply Kd.R_alloc | apply Kd.R_drewN | apply Kd.R_drew)); exact HO839.out))) (Kd.R_lt (by (with_reducible repeat (first | apply Kd.R_alloc | apply Kd.R_drewN | apply Kd.R_drew)); exact HO845.out))) (below_size (by repeat (first | (with_reducible first | exact HB.out | apply below_alloc | apply pw_below_drewN | apply below_drew1 | refine below_set ?_ GE835.out) | exact HB.out)))); have n3_ := Aside0.mk (blk_below (g := gb835) (o := .cells #[.int .i64 a1_0, .int .i64 a1_1, .bool a1_2] 68 (0, 0)) (by (with_reducible repeat (first | refine blk_drewN ?_ _ | refine blk_drew ?_ | refine blk_alloc ?_ _)); exact BK835.out) hb); have n4_ := Aside0.mk (below_step (by repeat (first | (with_reducible first | exact HB.out | apply below_alloc | apply pw_below_drewN | apply below_drew1 | refine below_set ?_ GE835.out) | exact HB.out)) hb); clear HO839; clear HO845; clear BK835; clear HB; have HO839 := n0_; have HO845 := n1_; have HO849 := n2_; have BK835 := n3_; have HB := n4_; clear n0_ n1_ n2_ n3_ n4_; (try clear hb); (try clear hb2); (try clear hk); (try clear hi); (try clear ho0); have hcz20_0 : w19.cell? ⟨gb835, 0, none⟩ = some (.int .i64 a1_0) := (blk_cell BK835.out 0).trans rfl; have hcz20_1 : w19.cell? ⟨gb835, 1, none⟩ = some (.int .i64 a1_1) := (blk_cell BK835.out 1).trans rfl; have hcz20_2 : w19.cell? ⟨gb835, 2, none⟩ = some (.bool a1_2) := (blk_cell BK835.out 2).trans rfl; have hfz20_0 := blk_frozen BK835.out 0; have hfz20_1 := blk_frozen BK835.out 1; have hfz20_2 := blk_frozen BK835.out 2) | ((with_reducible refine gate_callee (f := 52) rfl ?_); refine goesL_ (some 34) rfl rfl Try.func52 (by kernel_rfl) rfl #[.agg #[.int .i64 a1_0, .int .i64 a1_1, .bool a1_2]] rfl (by (try simp only [List.map_toArray, List.map_cons, List.map_nil]); first | done | rfl | (simp only [List.length_drop, List.length_take]; rfl)) ?_; (with_reducible refine (laws_toRegion.calls a1_0 a1_1 a1_2 t850 t851 t852 _ A10.out).mono ?_); rintro e w21 ⟨rfl, hb⟩; refine ⟨_, rfl, ?_⟩; have n0_ := Aside0.mk (Kd.R_below (by (with_reducible repeat (first | apply Kd.R_alloc | apply Kd.R_drewN | apply Kd.R_drew)); exact HO839.out) hb); have n1_ := Aside0.mk (Kd.R_below (by (with_reducible repeat (first | apply Kd.R_alloc | apply Kd.R_drewN | apply Kd.R_drew)); exact HO845.out) hb); have n2_ := Aside0.mk (Kd.R_below (by (with_reducible repeat (first | apply Kd.R_alloc | apply Kd.R_drewN | apply Kd.R_drew)); exact HO849.out) hb); have n3_ := Aside0.mk (blk_below (g := gb835) (o := .cells #[.int .i64 a1_0, .int .i64 a1_1, .bool a1_2] 68 (0, 0)) (by (with_reducible repeat (first | refine blk_drewN ?_ _ | refine blk_drew ?_ | refine blk_alloc ?_ _)); exact BK835.out) hb); have n4_ := Aside0.mk (below_step (by repeat (first | (with_reducible first | exact HB.out | apply below_alloc | apply pw_below_drewN | apply below_drew1 | refine below_set ?_ GE835.out) | exact HB.out)) hb); clear HO839; clear HO845; clear HO849; clear BK835; clear HB; have HO839 := n0_; have HO845 := n1_; have HO849 := n2_; have BK835 := n3_; have HB := n4_; clear n0_ n1_ n2_ n3_ n4_; (try clear hb); (try clear hb2); (try clear hk); (try clear hi); obtain ⟨Ao22, co22, eo22⟩ := Kd.R_slice HO849.out; subst eo22) | ((with_reducible refine gate_callee (f := 53) rfl ?_); refine goesL_ (some 35) rfl rfl Try.func53 (by kernel_rfl) rfl #[.slice Ao22 t847.length co22, .agg #[.int .i64 t850, .int .i64 t851, .bool t852]] rfl (by (try simp only [List.map_toArray, List.map_cons, List.map_nil]); first | done | rfl | (simp only [List.length_drop, List.length_take]; rfl)) ?_; (with_reducible refine (impl_PutRegion.calls k _ _ t847 t850 t851 t852 t853 t856 _ ?side1 ?side2 A11.out).mono ?_); (case side1 => repeat (first | exact (Kd.R_reads' HO849.out).2.2 | (with_reducible refine Kd.C_alloc ?_ _) | (with_reducible refine Kd.C_drewN ?_ _) | (with_reducible refine Kd.C_drew ?_))); (case side2 => exact (Kd.R_reads' HO849.out).2.1); rintro e w23 ⟨v854, rfl, ho0, hb⟩; refine ⟨_, rfl, ?_⟩; have n0_ := Aside0.mk (Kd.R_elder' (by (with_reducible repeat (first | apply Kd.R_alloc | apply Kd.R_drewN | apply Kd.R_drew)); exact HO839.out) (Kd.R_base ho0) hb); have n1_ := Aside0.mk (Kd.R_elder' (by (with_reducible repeat (first | apply Kd.R_alloc | apply Kd.R_drewN | apply Kd.R_drew)); exact HO845.out) (Kd.R_base ho0) hb); have n2_ := Aside0.mk (Kd.R_elder' (by (with_reducible repeat (first | apply Kd.R_alloc | apply Kd.R_drewN | apply Kd.R_drew)); exact HO849.out) (Kd.R_base ho0) hb); have n3_ := Aside0.mk (Kd.R_lower (Kd.R_new' (Kd.R_new' (Kd.R_new' ho0 (Kd.R_lt (by (with_reducible repeat (first | apply Kd.R_alloc | apply Kd.R_drewN | apply Kd.R_drew)); exact HO839.out))) (Kd.R_lt (by (with_reducible repeat (first | apply Kd.R_alloc | apply Kd.R_drewN | apply Kd.R_drew)); exact HO845.out))) (Kd.R_lt (by (with_reducible repeat (first | apply Kd.R_alloc | apply Kd.R_drewN | apply Kd.R_drew)); exact HO849.out))) (below_size (by repeat (first | (with_reducible first | exact HB.out | apply below_alloc | apply pw_below_drewN | apply below_drew1 | refine below_set ?_ GE835.out) | exact HB.out)))); have n4_ := Aside0.mk (blk_below (g := gb835) (o := .cells #[.int .i64 a1_0, .int .i64 a1_1, .bool a1_2] 68 (0, 0)) (by (with_reducible repeat (first | refine blk_drewN ?_ _ | refine blk_drew ?_ | refine blk_alloc ?_ _)); exact BK835.out) hb); have n5_ := Aside0.mk (below_step (by repeat (first | (with_reducible first | exact HB.out | apply below_alloc | apply pw_below_drewN | apply below_drew1 | refine below_set ?_ GE835.out) | exact HB.out)) hb); clear HO839; clear HO845; clear HO849; clear BK835; clear HB; have HO839 := n0_; have HO845 := n1_; have HO849 := n2_; have HO855 := n3_; have BK835 := n4_; have HB := n5_; clear n0_ n1_ n2_ n3_ n4_ n5_; (try clear hb); (try clear hb2); (try clear hk); (try clear hi); (try clear ho0)))
    (try simp only [Act.put, List.setIfInBounds_toArray, List.set_cons_zero, List.set_cons_succ])
    go_cut [46] (fun v46 wc => ∃ (kq : Nat) (x46_11 : Bool), v46 = .bool x46_11 ∧ Aside0 (laws_FnExactPutRegion.j0 kq l0 t843 t846 t847 t853 t856 x46_11 a1_0 a1_1 a1_2 = some r) ∧ Aside0 (kq ≤ k) ∧ Aside0 (Kd.R k70 70 wc w.heap.size (fun k_ => some k_ ≠ ((.slice Ao22 t847.length co22) : Value).ownBlock ∧ some k_ ≠ (v854 : Value).ownBlock) v844 t843) ∧ Aside0 (Kd.R k70 70 wc w.heap.size (fun k_ => some k_ ≠ (v844 : Value).ownBlock ∧ some k_ ≠ (v854 : Value).ownBlock) (.slice Ao22 t847.length co22) t847) ∧ Aside0 (Kd.R k70 70 wc w.heap.size (fun k_ => some k_ ≠ (v844 : Value).ownBlock ∧ some k_ ≠ ((.slice Ao22 t847.length co22) : Value).ownBlock) v854 t853) ∧ Aside0 (wc.heap[gb835]? = some (.cells #[.int .i64 a1_0, .int .i64 a1_1, .bool a1_2] 68 (0, 0))) ∧ Aside0 (Below w.heap.size w wc))
    case first =>
      have H := HC12.out
      clear HC12
      replace H := Option.bind_eq_some_iff.mp H
      obtain ⟨t857, A240, H⟩ := H
      replace H : (if t857 = true then (laws_FnExactPutRegion.j0 k l0 t843 t846 t847 t853 t856 (t856 != t846) a1_0 a1_1 a1_2) else (laws_FnExactPutRegion.j0 k l0 t843 t846 t847 t853 t856 true a1_0 a1_1 a1_2)) = some r := H
      have A24 := Aside0.mk A240
      clear A240
      by_cases c25 : t857 = true
      · subst c25
        have H1 : (laws_FnExactPutRegion.j0 k l0 t843 t846 t847 t853 t856 (t856 != t846) a1_0 a1_1 a1_2) = some r := by rw [if_pos rfl] at H; exact H
        clear H
        have H := H1
        clear H1
        have H' := Aside0.mk H
        clear H
        obtain ⟨Ao26, co26, eo26⟩ := Kd.R_slice HO855.out
        subst eo26
        obtain ⟨Ao27, co27, eo27⟩ := Kd.R_slice HO845.out
        subst eo27
        go_wp2_with (first | ((with_reducible refine gate_callee (f := 27) rfl ?_); refine goesL_ (some 40) rfl rfl Try.func27 (by kernel_rfl) rfl #[.slice Ao26 t853.length co26, .slice Ao27 t843.length co27] rfl (by (try simp only [List.map_toArray, List.map_cons, List.map_nil]); first | done | rfl | (simp only [List.length_drop, List.length_take]; rfl)) ?_; (with_reducible refine (laws_eqRegionS.calls k _ _ t853 _ _ t843 true _ ?side1 ?side2 ?side3 ?side4 A24.out).mono ?_); (case side1 => repeat (first | exact (Kd.R_reads' HO855.out).2.2 | (with_reducible refine Kd.C_alloc ?_ _) | (with_reducible refine Kd.C_drewN ?_ _) | (with_reducible refine Kd.C_drew ?_))); (case side2 => exact (Kd.R_reads' HO855.out).2.1); (case side3 => repeat (first | exact (Kd.R_reads' HO845.out).2.2 | (with_reducible refine Kd.C_alloc ?_ _) | (with_reducible refine Kd.C_drewN ?_ _) | (with_reducible refine Kd.C_drew ?_))); (case side4 => exact (Kd.R_reads' HO845.out).2.1); rintro e w28 ⟨rfl, hb⟩; refine ⟨_, rfl, ?_⟩; have n0_ := Aside0.mk (Kd.R_below (by (with_reducible repeat (first | apply Kd.R_alloc | apply Kd.R_drewN | apply Kd.R_drew)); exact HO839.out) hb); have n1_ := Aside0.mk (Kd.R_below (by (with_reducible repeat (first | apply Kd.R_alloc | apply Kd.R_drewN | apply Kd.R_drew)); exact HO845.out) hb); have n2_ := Aside0.mk (Kd.R_below (by (with_reducible repeat (first | apply Kd.R_alloc | apply Kd.R_drewN | apply Kd.R_drew)); exact HO849.out) hb); have n3_ := Aside0.mk (Kd.R_below (by (with_reducible repeat (first | apply Kd.R_alloc | apply Kd.R_drewN | apply Kd.R_drew)); exact HO855.out) hb); have n4_ := Aside0.mk (blk_below (g := gb835) (o := .cells #[.int .i64 a1_0, .int .i64 a1_1, .bool a1_2] 68 (0, 0)) (by (with_reducible repeat (first | refine blk_drewN ?_ _ | refine blk_drew ?_ | refine blk_alloc ?_ _)); exact BK835.out) hb); have n5_ := Aside0.mk (below_step (by repeat (first | (with_reducible first | exact HB.out | apply below_alloc | apply pw_below_drewN | apply below_drew1 | refine below_set ?_ GE835.out) | exact HB.out)) hb); clear HO839; clear HO845; clear HO849; clear HO855; clear BK835; clear HB; have HO839 := n0_; have HO845 := n1_; have HO849 := n2_; have HO855 := n3_; have BK835 := n4_; have HB := n5_; clear n0_ n1_ n2_ n3_ n4_ n5_; (try clear hb); (try clear hb2); (try clear hk); (try clear hi)))
        go_meet
        case rel => exact ⟨_, ((t856 != t846)), (by first | rfl | (simp; done) | (simp [*]; done)), H', ⟨by first | omega | exact Nat.le_refl _⟩, ⟨by (with_reducible repeat (first | apply Kd.R_alloc | apply Kd.R_drewN | apply Kd.R_drew)); exact Kd.R_mono HO845.out (fun _ hk => ⟨hk.1.2, hk.2⟩)⟩, ⟨by (with_reducible repeat (first | apply Kd.R_alloc | apply Kd.R_drewN | apply Kd.R_drew)); exact Kd.R_mono HO849.out (fun _ hk => ⟨hk.1.2, hk.2⟩)⟩, ⟨by (with_reducible repeat (first | apply Kd.R_alloc | apply Kd.R_drewN | apply Kd.R_drew)); exact Kd.R_mono HO855.out (fun _ hk => ⟨hk.1.2, hk.2⟩)⟩, ⟨by (with_reducible repeat (first | refine blk_drewN ?_ _ | refine blk_drew ?_ | refine blk_alloc ?_ _)); exact BK835.out⟩, ⟨by repeat (first | (with_reducible first | exact HB.out | apply below_alloc | apply pw_below_drewN | apply below_drew1 | refine below_set ?_ GE835.out) | exact HB.out)⟩⟩
      · replace c25 := Bool.eq_false_iff.mpr c25
        subst c25
        have H1 : (laws_FnExactPutRegion.j0 k l0 t843 t846 t847 t853 t856 true a1_0 a1_1 a1_2) = some r := by rw [if_neg (show ¬ (false = true) by decide)] at H; exact H
        clear H
        have H := H1
        clear H1
        have H' := Aside0.mk H
        clear H
        obtain ⟨Ao29, co29, eo29⟩ := Kd.R_slice HO855.out
        subst eo29
        obtain ⟨Ao30, co30, eo30⟩ := Kd.R_slice HO845.out
        subst eo30
        go_wp2_with (first | ((with_reducible refine gate_callee (f := 27) rfl ?_); refine goesL_ (some 40) rfl rfl Try.func27 (by kernel_rfl) rfl #[.slice Ao29 t853.length co29, .slice Ao30 t843.length co30] rfl (by (try simp only [List.map_toArray, List.map_cons, List.map_nil]); first | done | rfl | (simp only [List.length_drop, List.length_take]; rfl)) ?_; (with_reducible refine (laws_eqRegionS.calls k _ _ t853 _ _ t843 false _ ?side1 ?side2 ?side3 ?side4 A24.out).mono ?_); (case side1 => repeat (first | exact (Kd.R_reads' HO855.out).2.2 | (with_reducible refine Kd.C_alloc ?_ _) | (with_reducible refine Kd.C_drewN ?_ _) | (with_reducible refine Kd.C_drew ?_))); (case side2 => exact (Kd.R_reads' HO855.out).2.1); (case side3 => repeat (first | exact (Kd.R_reads' HO845.out).2.2 | (with_reducible refine Kd.C_alloc ?_ _) | (with_reducible refine Kd.C_drewN ?_ _) | (with_reducible refine Kd.C_drew ?_))); (case side4 => exact (Kd.R_reads' HO845.out).2.1); rintro e w31 ⟨rfl, hb⟩; refine ⟨_, rfl, ?_⟩; have n0_ := Aside0.mk (Kd.R_below (by (with_reducible repeat (first | apply Kd.R_alloc | apply Kd.R_drewN | apply Kd.R_drew)); exact HO839.out) hb); have n1_ := Aside0.mk (Kd.R_below (by (with_reducible repeat (first | apply Kd.R_alloc | apply Kd.R_drewN | apply Kd.R_drew)); exact HO845.out) hb); have n2_ := Aside0.mk (Kd.R_below (by (with_reducible repeat (first | apply Kd.R_alloc | apply Kd.R_drewN | apply Kd.R_drew)); exact HO849.out) hb); have n3_ := Aside0.mk (Kd.R_below (by (with_reducible repeat (first | apply Kd.R_alloc | apply Kd.R_drewN | apply Kd.R_drew)); exact HO855.out) hb); have n4_ := Aside0.mk (blk_below (g := gb835) (o := .cells #[.int .i64 a1_0, .int .i64 a1_1, .bool a1_2] 68 (0, 0)) (by (with_reducible repeat (first | refine blk_drewN ?_ _ | refine blk_drew ?_ | refine blk_alloc ?_ _)); exact BK835.out) hb); have n5_ := Aside0.mk (below_step (by repeat (first | (with_reducible first | exact HB.out | apply below_alloc | apply pw_below_drewN | apply below_drew1 | refine below_set ?_ GE835.out) | exact HB.out)) hb); clear HO839; clear HO845; clear HO849; clear HO855; clear BK835; clear HB; have HO839 := n0_; have HO845 := n1_; have HO849 := n2_; have HO855 := n3_; have BK835 := n4_; have HB := n5_; clear n0_ n1_ n2_ n3_ n4_ n5_; (try clear hb); (try clear hb2); (try clear hk); (try clear hi)))
        go_meet
        case rel => exact ⟨_, (true), (by first | rfl | (simp; done) | (simp [*]; done)), H', ⟨by first | omega | exact Nat.le_refl _⟩, ⟨by (with_reducible repeat (first | apply Kd.R_alloc | apply Kd.R_drewN | apply Kd.R_drew)); exact Kd.R_mono HO845.out (fun _ hk => ⟨hk.1.2, hk.2⟩)⟩, ⟨by (with_reducible repeat (first | apply Kd.R_alloc | apply Kd.R_drewN | apply Kd.R_drew)); exact Kd.R_mono HO849.out (fun _ hk => ⟨hk.1.2, hk.2⟩)⟩, ⟨by (with_reducible repeat (first | apply Kd.R_alloc | apply Kd.R_drewN | apply Kd.R_drew)); exact Kd.R_mono HO855.out (fun _ hk => ⟨hk.1.2, hk.2⟩)⟩, ⟨by (with_reducible repeat (first | refine blk_drewN ?_ _ | refine blk_drew ?_ | refine blk_alloc ?_ _)); exact BK835.out⟩, ⟨by repeat (first | (with_reducible first | exact HB.out | apply below_alloc | apply pw_below_drewN | apply below_drew1 | refine below_set ?_ GE835.out) | exact HB.out)⟩⟩
    case rest =>
      clear HC12
      try clear c2
      try clear p2
      try clear c4
      try clear c4b0
      try clear c5
      try clear c9
      try clear c23
      try clear c25
      try clear c27
      try clear hcz20_0
      try clear hcz20_1
      try clear hcz20_2
      try clear hfz20_0
      try clear hfz20_1
      try clear hfz20_2
      obtain ⟨kq, x46_11, rfl, HA, HJ11, HO_6, HO_8, HO_9, BK835, HB⟩ := hcut
      cases kq with
      | zero => exact absurd HA.out (by simp [laws_FnExactPutRegion.j0])
      | succ kj11 =>
        have H := HA.out
        clear HA
        simp only [laws_FnExactPutRegion.j0] at H
        by_cases c32 : x46_11 = true
        · subst c32
          have H1 : (some false) = some r := by rw [if_pos rfl] at H; exact H
          clear H
          have H := H1
          clear H1
          obtain rfl := Option.some.inj H
          go_wp2
          go_ret
          exact ⟨by first | rfl | (simp [errW_none, errW_some] <;> rfl) | (simp [*, errW_none, errW_some] <;> rfl), by repeat (first | (with_reducible first | exact HB.out | apply below_alloc | apply pw_below_drewN | apply below_drew1 | refine below_set ?_ GE835.out) | exact HB.out)⟩
        · replace c32 := Bool.eq_false_iff.mpr c32
          subst c32
          have H1 : ((laws_toRegionS.f kj11 l0).bind fun t858 => ((laws_eqRegionS.f kj11 t847 t858).bind fun t861 => (if t861 = true then ((laws_markRegionS.f kj11 t847 1).bind fun bt862 => (if bt862.1 < 0 then (laws_FnExactPutRegion.j1 kj11 l0 t843 t846 t853 true a1_0 a1_1 a1_2) else ((laws_eqRegionS.f kj11 t853 t843).bind fun t864 => (if t864 = true then (laws_FnExactPutRegion.j1 kj11 l0 t843 t846 t853 (t856 != t846) a1_0 a1_1 a1_2) else (laws_FnExactPutRegion.j1 kj11 l0 t843 t846 t853 true a1_0 a1_1 a1_2))))) else (some false)))) = some r := by rw [if_neg (show ¬ (false = true) by decide)] at H; exact H
          clear H
          have H := H1
          clear H1
          replace H := Option.bind_eq_some_iff.mp H
          obtain ⟨t858, A330, H⟩ := H
          replace H : ((laws_eqRegionS.f kj11 t847 t858).bind fun t861 => (if t861 = true then ((laws_markRegionS.f kj11 t847 1).bind fun bt862 => (if bt862.1 < 0 then (laws_FnExactPutRegion.j1 kj11 l0 t843 t846 t853 true a1_0 a1_1 a1_2) else ((laws_eqRegionS.f kj11 t853 t843).bind fun t864 => (if t864 = true then (laws_FnExactPutRegion.j1 kj11 l0 t843 t846 t853 (t856 != t846) a1_0 a1_1 a1_2) else (laws_FnExactPutRegion.j1 kj11 l0 t843 t846 t853 true a1_0 a1_1 a1_2))))) else (some false))) = some r := H
          have A33 := Aside0.mk A330
          clear A330
          replace H := Option.bind_eq_some_iff.mp H
          obtain ⟨t861, A340, H⟩ := H
          replace H : (if t861 = true then ((laws_markRegionS.f kj11 t847 1).bind fun bt862 => (if bt862.1 < 0 then (laws_FnExactPutRegion.j1 kj11 l0 t843 t846 t853 true a1_0 a1_1 a1_2) else ((laws_eqRegionS.f kj11 t853 t843).bind fun t864 => (if t864 = true then (laws_FnExactPutRegion.j1 kj11 l0 t843 t846 t853 (t856 != t846) a1_0 a1_1 a1_2) else (laws_FnExactPutRegion.j1 kj11 l0 t843 t846 t853 true a1_0 a1_1 a1_2))))) else (some false)) = some r := H
          have A34 := Aside0.mk A340
          clear A340
          by_cases c35 : t861 = true
          · subst c35
            have H1 : ((laws_markRegionS.f kj11 t847 1).bind fun bt862 => (if bt862.1 < 0 then (laws_FnExactPutRegion.j1 kj11 l0 t843 t846 t853 true a1_0 a1_1 a1_2) else ((laws_eqRegionS.f kj11 t853 t843).bind fun t864 => (if t864 = true then (laws_FnExactPutRegion.j1 kj11 l0 t843 t846 t853 (t856 != t846) a1_0 a1_1 a1_2) else (laws_FnExactPutRegion.j1 kj11 l0 t843 t846 t853 true a1_0 a1_1 a1_2))))) = some r := by rw [if_pos rfl] at H; exact H
            clear H
            have H := H1
            clear H1
            replace H := Option.bind_eq_some_iff.mp H
            obtain ⟨⟨t862, t863⟩, A360, H⟩ := H
            replace H : (if t862 < 0 then (laws_FnExactPutRegion.j1 kj11 l0 t843 t846 t853 true a1_0 a1_1 a1_2) else ((laws_eqRegionS.f kj11 t853 t843).bind fun t864 => (if t864 = true then (laws_FnExactPutRegion.j1 kj11 l0 t843 t846 t853 (t856 != t846) a1_0 a1_1 a1_2) else (laws_FnExactPutRegion.j1 kj11 l0 t843 t846 t853 true a1_0 a1_1 a1_2)))) = some r := H
            have A36 := Aside0.mk A360
            clear A360
            have HC37 := Aside0.mk H
            clear H
            go_upto_region 14 with (first | ((with_reducible refine gate_callee (f := 25) rfl ?_); refine goesL_ (some 49) rfl rfl Try.func25 (by kernel_rfl) rfl #[.slice A0 l0.length c0] rfl (by (try simp only [List.map_toArray, List.map_cons, List.map_nil]); first | done | rfl | (simp only [List.length_drop, List.length_take]; rfl)) ?_; (with_reducible refine (laws_toRegionS.calls kj11 _ _ l0 t858 _ ?side1 ?side2 A33.out).mono ?_); (case side1 => repeat (first | exact (Kd.C_below HR0.out HB.out) | (with_reducible refine Kd.C_alloc ?_ _) | (with_reducible refine Kd.C_drewN ?_ _) | (with_reducible refine Kd.C_drew ?_))); (case side2 => exact HC0.out); rintro e w38 ⟨v859, rfl, ho0, hb⟩; refine ⟨_, rfl, ?_⟩; have n0_ := Aside0.mk (Kd.R_elder' (by (with_reducible repeat (first | apply Kd.R_alloc | apply Kd.R_drewN | apply Kd.R_drew)); exact HO_6.out) (Kd.R_base ho0) hb); have n1_ := Aside0.mk (Kd.R_elder' (by (with_reducible repeat (first | apply Kd.R_alloc | apply Kd.R_drewN | apply Kd.R_drew)); exact HO_8.out) (Kd.R_base ho0) hb); have n2_ := Aside0.mk (Kd.R_elder' (by (with_reducible repeat (first | apply Kd.R_alloc | apply Kd.R_drewN | apply Kd.R_drew)); exact HO_9.out) (Kd.R_base ho0) hb); have n3_ := Aside0.mk (Kd.R_lower (Kd.R_new' (Kd.R_new' (Kd.R_new' ho0 (Kd.R_lt (by (with_reducible repeat (first | apply Kd.R_alloc | apply Kd.R_drewN | apply Kd.R_drew)); exact HO_6.out))) (Kd.R_lt (by (with_reducible repeat (first | apply Kd.R_alloc | apply Kd.R_drewN | apply Kd.R_drew)); exact HO_8.out))) (Kd.R_lt (by (with_reducible repeat (first | apply Kd.R_alloc | apply Kd.R_drewN | apply Kd.R_drew)); exact HO_9.out))) (below_size (by repeat (first | (with_reducible first | exact HB.out | apply below_alloc | apply pw_below_drewN | apply below_drew1 | refine below_set ?_ GE835.out) | exact HB.out)))); have n4_ := Aside0.mk (blk_below (g := gb835) (o := .cells #[.int .i64 a1_0, .int .i64 a1_1, .bool a1_2] 68 (0, 0)) (by (with_reducible repeat (first | refine blk_drewN ?_ _ | refine blk_drew ?_ | refine blk_alloc ?_ _)); exact BK835.out) hb); have n5_ := Aside0.mk (below_step (by repeat (first | (with_reducible first | exact HB.out | apply below_alloc | apply pw_below_drewN | apply below_drew1 | refine below_set ?_ GE835.out) | exact HB.out)) hb); clear HO_6; clear HO_8; clear HO_9; clear BK835; clear HB; have HO_6 := n0_; have HO_8 := n1_; have HO_9 := n2_; have HO860 := n3_; have BK835 := n4_; have HB := n5_; clear n0_ n1_ n2_ n3_ n4_ n5_; (try clear hb); (try clear hb2); (try clear hk); (try clear hi); (try clear ho0); obtain ⟨Ao39, co39, eo39⟩ := Kd.R_slice HO860.out; subst eo39) | ((with_reducible refine gate_callee (f := 27) rfl ?_); refine goesL_ (some 50) rfl rfl Try.func27 (by kernel_rfl) rfl #[.slice Ao22 t847.length co22, .slice Ao39 t858.length co39] rfl (by (try simp only [List.map_toArray, List.map_cons, List.map_nil]); first | done | rfl | (simp only [List.length_drop, List.length_take]; rfl)) ?_; (with_reducible refine (laws_eqRegionS.calls kj11 _ _ t847 _ _ t858 true _ ?side1 ?side2 ?side3 ?side4 A34.out).mono ?_); (case side1 => repeat (first | exact (Kd.R_reads' HO_8.out).2.2 | (with_reducible refine Kd.C_alloc ?_ _) | (with_reducible refine Kd.C_drewN ?_ _) | (with_reducible refine Kd.C_drew ?_))); (case side2 => exact (Kd.R_reads' HO_8.out).2.1); (case side3 => repeat (first | exact (Kd.R_reads' HO860.out).2.2 | (with_reducible refine Kd.C_alloc ?_ _) | (with_reducible refine Kd.C_drewN ?_ _) | (with_reducible refine Kd.C_drew ?_))); (case side4 => exact (Kd.R_reads' HO860.out).2.1); rintro e w40 ⟨rfl, hb⟩; refine ⟨_, rfl, ?_⟩; have n0_ := Aside0.mk (Kd.R_below (by (with_reducible repeat (first | apply Kd.R_alloc | apply Kd.R_drewN | apply Kd.R_drew)); exact HO_6.out) hb); have n1_ := Aside0.mk (Kd.R_below (by (with_reducible repeat (first | apply Kd.R_alloc | apply Kd.R_drewN | apply Kd.R_drew)); exact HO_8.out) hb); have n2_ := Aside0.mk (Kd.R_below (by (with_reducible repeat (first | apply Kd.R_alloc | apply Kd.R_drewN | apply Kd.R_drew)); exact HO_9.out) hb); have n3_ := Aside0.mk (Kd.R_below (by (with_reducible repeat (first | apply Kd.R_alloc | apply Kd.R_drewN | apply Kd.R_drew)); exact HO860.out) hb); have n4_ := Aside0.mk (blk_below (g := gb835) (o := .cells #[.int .i64 a1_0, .int .i64 a1_1, .bool a1_2] 68 (0, 0)) (by (with_reducible repeat (first | refine blk_drewN ?_ _ | refine blk_drew ?_ | refine blk_alloc ?_ _)); exact BK835.out) hb); have n5_ := Aside0.mk (below_step (by repeat (first | (with_reducible first | exact HB.out | apply below_alloc | apply pw_below_drewN | apply below_drew1 | refine below_set ?_ GE835.out) | exact HB.out)) hb); clear HO_6; clear HO_8; clear HO_9; clear HO860; clear BK835; clear HB; have HO_6 := n0_; have HO_8 := n1_; have HO_9 := n2_; have HO860 := n3_; have BK835 := n4_; have HB := n5_; clear n0_ n1_ n2_ n3_ n4_ n5_; (try clear hb); (try clear hb2); (try clear hk); (try clear hi)) | ((with_reducible refine gate_callee (f := 28) rfl ?_); refine goesL_ (some 54) rfl rfl Try.func28 (by kernel_rfl) rfl #[.slice Ao22 t847.length co22, .int .i64 1] rfl (by (try simp only [List.map_toArray, List.map_cons, List.map_nil]); first | done | rfl | (simp only [List.length_drop, List.length_take]; rfl)) ?_; (with_reducible refine (laws_markRegionS.calls kj11 (fun k_ => some k_ = (.slice Ao22 t847.length co22 : Value).ownBlock) (.slice Ao22 t847.length co22) t847 1 t862 t863 w _ ?side1 ?side2 A36.out).mono ?_); (case side1 => repeat (first | (with_reducible first | exact HB.out | apply below_alloc | apply pw_below_drewN | apply below_drew1 | refine below_set ?_ GE835.out) | exact HB.out)); (case side2 => exact Kd.R_tight rfl HO_8.out); rintro e w41 ⟨rfl, hy0, hb, hkp⟩; refine ⟨_, rfl, ?_⟩; have n0_ := Aside0.mk (Kd.R_mono (ok' := fun k_ => some k_ ≠ (.slice Ao22 t847.length co22 : Value).ownBlock ∧ some k_ ≠ (v854 : Value).ownBlock ∧ some k_ ≠ (.slice Ao39 t858.length co39 : Value).ownBlock) (Kd.R_keptB (HO_6.out) hkp (fun k_ hk_ hs_ => (hk_.1.1) hs_)) (fun k_ hk_ => ⟨hk_.1.1.1, hk_.1.1.2, hk_.1.2⟩)); have n1_ := Aside0.mk (Kd.R_reok rfl hy0 (fun k_ e_ => HO_8.out.1 k_ e_)); have n2_ := Aside0.mk (Kd.R_mono (ok' := fun k_ => some k_ ≠ (v844 : Value).ownBlock ∧ some k_ ≠ (.slice Ao22 t847.length co22 : Value).ownBlock ∧ some k_ ≠ (.slice Ao39 t858.length co39 : Value).ownBlock) (Kd.R_keptB (HO_9.out) hkp (fun k_ hk_ hs_ => (hk_.1.2) hs_)) (fun k_ hk_ => ⟨hk_.1.1.1, hk_.1.1.2, hk_.1.2⟩)); have n3_ := Aside0.mk (blk_kept (by (with_reducible repeat (first | refine blk_drewN ?_ _ | refine blk_drew ?_ | refine blk_alloc ?_ _)); exact BK835.out) hkp (fun hs_ => (fun e_ => (Kd.R_ne HO_8.out BK835.out (by decide)) e_) hs_)); have n4_ := Aside0.mk (Kd.R_mono (ok' := fun k_ => some k_ ≠ (v844 : Value).ownBlock ∧ some k_ ≠ (.slice Ao22 t847.length co22 : Value).ownBlock ∧ some k_ ≠ (v854 : Value).ownBlock) (Kd.R_keptB (HO860.out) hkp (fun k_ hk_ hs_ => (hk_.1.2) hs_)) (fun k_ hk_ => ⟨hk_.1.1.1.2, hk_.1.1.2, hk_.1.2⟩)); have n5_ := Aside0.mk (hb); clear HO_6; clear HO_8; clear HO_9; clear BK835; clear HO860; clear HB; have HO_6 := n0_; have HO_8 := n1_; have HO_9 := n2_; have BK835 := n3_; have HO860 := n4_; have HB := n5_; clear n0_ n1_ n2_ n3_ n4_ n5_; (try clear hb); (try clear hkp); (try clear hy0)))
            (try simp only [Act.put, List.setIfInBounds_toArray, List.set_cons_zero, List.set_cons_succ])
            go_cut [67] (fun v67 wc => ∃ (kq : Nat) (x67_36 : Bool), v67 = .bool x67_36 ∧ Aside0 (laws_FnExactPutRegion.j1 kq l0 t843 t846 t853 x67_36 a1_0 a1_1 a1_2 = some r) ∧ Aside0 (kq ≤ kj11) ∧ Aside0 (Kd.R k70 70 wc w.heap.size (fun k_ => some k_ ≠ (v854 : Value).ownBlock) v844 t843) ∧ Aside0 (Kd.R k70 70 wc w.heap.size (fun k_ => some k_ ≠ (v844 : Value).ownBlock) v854 t853) ∧ Aside0 (wc.heap[gb835]? = some (.cells #[.int .i64 a1_0, .int .i64 a1_1, .bool a1_2] 68 (0, 0))) ∧ Aside0 (Below w.heap.size w wc))
            case first =>
              have H := HC37.out
              clear HC37
              by_cases c42 : t862 < 0
              · rw [if_pos c42] at H
                have c42b0 : decide (t862 < 0) = true := decide_eq_true c42
                clear c42
                (first | rw [c42b0] | (simp only [i64_w, i32_w]; rw [c42b0]) | skip)
                have H' := Aside0.mk H
                clear H
                go_wp2
                go_meet
                case rel => exact ⟨_, (true), (by first | rfl | (simp; done) | (simp [*]; done)), H', ⟨by have := HJ11.out; first | omega | exact Nat.le_refl _⟩, ⟨by (with_reducible repeat (first | apply Kd.R_alloc | apply Kd.R_drewN | apply Kd.R_drew)); exact Kd.R_mono HO_6.out (fun _ hk => hk.2.1)⟩, ⟨by (with_reducible repeat (first | apply Kd.R_alloc | apply Kd.R_drewN | apply Kd.R_drew)); exact Kd.R_mono HO_9.out (fun _ hk => hk.1)⟩, ⟨by (with_reducible repeat (first | refine blk_drewN ?_ _ | refine blk_drew ?_ | refine blk_alloc ?_ _)); exact BK835.out⟩, ⟨by repeat (first | (with_reducible first | exact HB.out | apply below_alloc | apply pw_below_drewN | apply below_drew1 | refine below_set ?_ GE835.out) | exact HB.out)⟩⟩
              · rw [if_neg c42] at H
                have c42b0 : decide (t862 < 0) = false := decide_eq_false c42
                clear c42
                (first | rw [c42b0] | (simp only [i64_w, i32_w]; rw [c42b0]) | skip)
                replace H := Option.bind_eq_some_iff.mp H
                obtain ⟨t864, A430, H⟩ := H
                replace H : (if t864 = true then (laws_FnExactPutRegion.j1 kj11 l0 t843 t846 t853 (t856 != t846) a1_0 a1_1 a1_2) else (laws_FnExactPutRegion.j1 kj11 l0 t843 t846 t853 true a1_0 a1_1 a1_2)) = some r := H
                have A43 := Aside0.mk A430
                clear A430
                by_cases c44 : t864 = true
                · subst c44
                  have H1 : (laws_FnExactPutRegion.j1 kj11 l0 t843 t846 t853 (t856 != t846) a1_0 a1_1 a1_2) = some r := by rw [if_pos rfl] at H; exact H
                  clear H
                  have H := H1
                  clear H1
                  have H' := Aside0.mk H
                  clear H
                  obtain ⟨Ao45, co45, eo45⟩ := Kd.R_slice HO_9.out
                  subst eo45
                  obtain ⟨Ao46, co46, eo46⟩ := Kd.R_slice HO_6.out
                  subst eo46
                  go_wp2_with (first | (go_at_call 27; (with_reducible refine (laws_eqRegionS.calls kj11 _ _ t853 _ _ t843 true _ ?side1 ?side2 ?side3 ?side4 A43.out).mono ?_); (case side1 => repeat (first | exact (Kd.R_reads' HO_9.out).2.2 | (with_reducible refine Kd.C_alloc ?_ _) | (with_reducible refine Kd.C_drewN ?_ _) | (with_reducible refine Kd.C_drew ?_))); (case side2 => exact (Kd.R_reads' HO_9.out).2.1); (case side3 => repeat (first | exact (Kd.R_reads' HO_6.out).2.2 | (with_reducible refine Kd.C_alloc ?_ _) | (with_reducible refine Kd.C_drewN ?_ _) | (with_reducible refine Kd.C_drew ?_))); (case side4 => exact (Kd.R_reads' HO_6.out).2.1); rintro e w47 ⟨rfl, hb⟩; have n0_ := Aside0.mk (Kd.R_below (by (with_reducible repeat (first | apply Kd.R_alloc | apply Kd.R_drewN | apply Kd.R_drew)); exact HO_6.out) hb); have n1_ := Aside0.mk (Kd.R_below (by (with_reducible repeat (first | apply Kd.R_alloc | apply Kd.R_drewN | apply Kd.R_drew)); exact HO_8.out) hb); have n2_ := Aside0.mk (Kd.R_below (by (with_reducible repeat (first | apply Kd.R_alloc | apply Kd.R_drewN | apply Kd.R_drew)); exact HO_9.out) hb); have n3_ := Aside0.mk (Kd.R_below (by (with_reducible repeat (first | apply Kd.R_alloc | apply Kd.R_drewN | apply Kd.R_drew)); exact HO860.out) hb); have n4_ := Aside0.mk (blk_below (g := gb835) (o := .cells #[.int .i64 a1_0, .int .i64 a1_1, .bool a1_2] 68 (0, 0)) (by (with_reducible repeat (first | refine blk_drewN ?_ _ | refine blk_drew ?_ | refine blk_alloc ?_ _)); exact BK835.out) hb); have n5_ := Aside0.mk (below_step (by repeat (first | (with_reducible first | exact HB.out | apply below_alloc | apply pw_below_drewN | apply below_drew1 | refine below_set ?_ GE835.out) | exact HB.out)) hb); clear HO_6; clear HO_8; clear HO_9; clear HO860; clear BK835; clear HB; have HO_6 := n0_; have HO_8 := n1_; have HO_9 := n2_; have HO860 := n3_; have BK835 := n4_; have HB := n5_; clear n0_ n1_ n2_ n3_ n4_ n5_; (try clear hb); (try clear hb2); (try clear hk); (try clear hi)))
                  go_meet
                  case rel => exact ⟨_, ((t856 != t846)), (by first | rfl | (simp; done) | (simp [*]; done)), H', ⟨by have := HJ11.out; first | omega | exact Nat.le_refl _⟩, ⟨by (with_reducible repeat (first | apply Kd.R_alloc | apply Kd.R_drewN | apply Kd.R_drew)); exact Kd.R_mono HO_6.out (fun _ hk => hk.2.1)⟩, ⟨by (with_reducible repeat (first | apply Kd.R_alloc | apply Kd.R_drewN | apply Kd.R_drew)); exact Kd.R_mono HO_9.out (fun _ hk => hk.1)⟩, ⟨by (with_reducible repeat (first | refine blk_drewN ?_ _ | refine blk_drew ?_ | refine blk_alloc ?_ _)); exact BK835.out⟩, ⟨by repeat (first | (with_reducible first | exact HB.out | apply below_alloc | apply pw_below_drewN | apply below_drew1 | refine below_set ?_ GE835.out) | exact HB.out)⟩⟩
                · replace c44 := Bool.eq_false_iff.mpr c44
                  subst c44
                  have H1 : (laws_FnExactPutRegion.j1 kj11 l0 t843 t846 t853 true a1_0 a1_1 a1_2) = some r := by rw [if_neg (show ¬ (false = true) by decide)] at H; exact H
                  clear H
                  have H := H1
                  clear H1
                  have H' := Aside0.mk H
                  clear H
                  obtain ⟨Ao48, co48, eo48⟩ := Kd.R_slice HO_9.out
                  subst eo48
                  obtain ⟨Ao49, co49, eo49⟩ := Kd.R_slice HO_6.out
                  subst eo49
                  go_wp2_with (first | (go_at_call 27; (with_reducible refine (laws_eqRegionS.calls kj11 _ _ t853 _ _ t843 false _ ?side1 ?side2 ?side3 ?side4 A43.out).mono ?_); (case side1 => repeat (first | exact (Kd.R_reads' HO_9.out).2.2 | (with_reducible refine Kd.C_alloc ?_ _) | (with_reducible refine Kd.C_drewN ?_ _) | (with_reducible refine Kd.C_drew ?_))); (case side2 => exact (Kd.R_reads' HO_9.out).2.1); (case side3 => repeat (first | exact (Kd.R_reads' HO_6.out).2.2 | (with_reducible refine Kd.C_alloc ?_ _) | (with_reducible refine Kd.C_drewN ?_ _) | (with_reducible refine Kd.C_drew ?_))); (case side4 => exact (Kd.R_reads' HO_6.out).2.1); rintro e w50 ⟨rfl, hb⟩; have n0_ := Aside0.mk (Kd.R_below (by (with_reducible repeat (first | apply Kd.R_alloc | apply Kd.R_drewN | apply Kd.R_drew)); exact HO_6.out) hb); have n1_ := Aside0.mk (Kd.R_below (by (with_reducible repeat (first | apply Kd.R_alloc | apply Kd.R_drewN | apply Kd.R_drew)); exact HO_8.out) hb); have n2_ := Aside0.mk (Kd.R_below (by (with_reducible repeat (first | apply Kd.R_alloc | apply Kd.R_drewN | apply Kd.R_drew)); exact HO_9.out) hb); have n3_ := Aside0.mk (Kd.R_below (by (with_reducible repeat (first | apply Kd.R_alloc | apply Kd.R_drewN | apply Kd.R_drew)); exact HO860.out) hb); have n4_ := Aside0.mk (blk_below (g := gb835) (o := .cells #[.int .i64 a1_0, .int .i64 a1_1, .bool a1_2] 68 (0, 0)) (by (with_reducible repeat (first | refine blk_drewN ?_ _ | refine blk_drew ?_ | refine blk_alloc ?_ _)); exact BK835.out) hb); have n5_ := Aside0.mk (below_step (by repeat (first | (with_reducible first | exact HB.out | apply below_alloc | apply pw_below_drewN | apply below_drew1 | refine below_set ?_ GE835.out) | exact HB.out)) hb); clear HO_6; clear HO_8; clear HO_9; clear HO860; clear BK835; clear HB; have HO_6 := n0_; have HO_8 := n1_; have HO_9 := n2_; have HO860 := n3_; have BK835 := n4_; have HB := n5_; clear n0_ n1_ n2_ n3_ n4_ n5_; (try clear hb); (try clear hb2); (try clear hk); (try clear hi)))
                  go_meet
                  case rel => exact ⟨_, (true), (by first | rfl | (simp; done) | (simp [*]; done)), H', ⟨by have := HJ11.out; first | omega | exact Nat.le_refl _⟩, ⟨by (with_reducible repeat (first | apply Kd.R_alloc | apply Kd.R_drewN | apply Kd.R_drew)); exact Kd.R_mono HO_6.out (fun _ hk => hk.2.1)⟩, ⟨by (with_reducible repeat (first | apply Kd.R_alloc | apply Kd.R_drewN | apply Kd.R_drew)); exact Kd.R_mono HO_9.out (fun _ hk => hk.1)⟩, ⟨by (with_reducible repeat (first | refine blk_drewN ?_ _ | refine blk_drew ?_ | refine blk_alloc ?_ _)); exact BK835.out⟩, ⟨by repeat (first | (with_reducible first | exact HB.out | apply below_alloc | apply pw_below_drewN | apply below_drew1 | refine below_set ?_ GE835.out) | exact HB.out)⟩⟩
            case rest =>
              clear HC37
              try clear c2
              try clear p2
              try clear c3
              try clear c4
              try clear c4b0
              try clear c5
              try clear c9
              try clear c23
              try clear c25
              try clear c27
              try clear c28
              try clear c32
              try clear c35
              try clear c42
              try clear c42b0
              try clear c44
              try clear hcz20_0
              try clear hcz20_1
              try clear hcz20_2
              try clear hfz20_0
              try clear hfz20_1
              try clear hfz20_2
              try clear p2
              obtain ⟨kq, x67_36, rfl, HA, HJ36, HO_6, HO_9, BK835, HB⟩ := hcut
              cases kq with
              | zero => exact absurd HA.out (by simp [laws_FnExactPutRegion.j1])
              | succ kj36 =>
                have H := HA.out
                clear HA
                simp only [laws_FnExactPutRegion.j1] at H
                by_cases c51 : x67_36 = true
                · subst c51
                  have H1 : (some false) = some r := by rw [if_pos rfl] at H; exact H
                  clear H
                  have H := H1
                  clear H1
                  obtain rfl := Option.some.inj H
                  go_wp2
                  go_ret
                  exact ⟨by first | rfl | (simp [errW_none, errW_some] <;> rfl) | (simp [*, errW_none, errW_some] <;> rfl), by repeat (first | (with_reducible first | exact HB.out | apply below_alloc | apply pw_below_drewN | apply below_drew1 | refine below_set ?_ GE835.out) | exact HB.out)⟩
                · replace c51 := Bool.eq_false_iff.mpr c51
                  subst c51
                  have H1 : ((laws_markRegionS.f kj36 t853 1).bind fun bt865 => ((laws_heldRegionS.f kj36 bt865.2 1).bind fun t867 => (if t867 < 0 then (some false) else (if t867 = bt865.1 then ((laws_toRegionS.f kj36 l0).bind fun t868 => ((laws_toRegion.f a1_0 a1_1 a1_2).bind fun bt871 => ((impl_PutRegion.f kj36 t868 bt871.1 bt871.2.1 bt871.2.2).bind fun bt874 => ((laws_eqRegionS.f kj36 bt874.1 t843).bind fun t878 => (if t878 = true then (laws_FnExactPutRegion.j2 kj36 bt865.2 bt865.1 (bt874.2 != t846)) else (laws_FnExactPutRegion.j2 kj36 bt865.2 bt865.1 true)))))) else (some false))))) = some r := by rw [if_neg (show ¬ (false = true) by decide)] at H; exact H
                  clear H
                  have H := H1
                  clear H1
                  replace H := Option.bind_eq_some_iff.mp H
                  obtain ⟨⟨t865, t866⟩, A520, H⟩ := H
                  replace H : ((laws_heldRegionS.f kj36 t866 1).bind fun t867 => (if t867 < 0 then (some false) else (if t867 = t865 then ((laws_toRegionS.f kj36 l0).bind fun t868 => ((laws_toRegion.f a1_0 a1_1 a1_2).bind fun bt871 => ((impl_PutRegion.f kj36 t868 bt871.1 bt871.2.1 bt871.2.2).bind fun bt874 => ((laws_eqRegionS.f kj36 bt874.1 t843).bind fun t878 => (if t878 = true then (laws_FnExactPutRegion.j2 kj36 t866 t865 (bt874.2 != t846)) else (laws_FnExactPutRegion.j2 kj36 t866 t865 true)))))) else (some false)))) = some r := H
                  have A52 := Aside0.mk A520
                  clear A520
                  replace H := Option.bind_eq_some_iff.mp H
                  obtain ⟨t867, A530, H⟩ := H
                  replace H : (if t867 < 0 then (some false) else (if t867 = t865 then ((laws_toRegionS.f kj36 l0).bind fun t868 => ((laws_toRegion.f a1_0 a1_1 a1_2).bind fun bt871 => ((impl_PutRegion.f kj36 t868 bt871.1 bt871.2.1 bt871.2.2).bind fun bt874 => ((laws_eqRegionS.f kj36 bt874.1 t843).bind fun t878 => (if t878 = true then (laws_FnExactPutRegion.j2 kj36 t866 t865 (bt874.2 != t846)) else (laws_FnExactPutRegion.j2 kj36 t866 t865 true)))))) else (some false))) = some r := H
                  have A53 := Aside0.mk A530
                  clear A530
                  by_cases c54 : t867 < 0
                  · rw [if_pos c54] at H
                    have c54b0 : decide (t867 < 0) = true := decide_eq_true c54
                    clear c54
                    obtain rfl := Option.some.inj H
                    obtain ⟨Ao55, co55, eo55⟩ := Kd.R_slice HO_9.out
                    subst eo55
                    go_wp2_with (first | ((with_reducible refine gate_callee (f := 28) rfl ?_); refine goesL_ (some 70) rfl rfl Try.func28 (by kernel_rfl) rfl #[.slice Ao55 t853.length co55, .int .i64 1] rfl (by (try simp only [List.map_toArray, List.map_cons, List.map_nil]); first | done | rfl | (simp only [List.length_drop, List.length_take]; rfl)) ?_; (with_reducible refine (laws_markRegionS.calls kj36 (fun k_ => some k_ = (.slice Ao55 t853.length co55 : Value).ownBlock) (.slice Ao55 t853.length co55) t853 1 t865 t866 w _ ?side1 ?side2 A52.out).mono ?_); (case side1 => repeat (first | (with_reducible first | exact HB.out | apply below_alloc | apply pw_below_drewN | apply below_drew1 | refine below_set ?_ GE835.out) | exact HB.out)); (case side2 => exact Kd.R_tight rfl HO_9.out); rintro e w56 ⟨rfl, hy0, hb, hkp⟩; refine ⟨_, rfl, ?_⟩; have n0_ := Aside0.mk (Kd.R_mono (ok' := fun k_ => some k_ ≠ (.slice Ao55 t853.length co55 : Value).ownBlock) (Kd.R_keptB (HO_6.out) hkp (fun k_ hk_ hs_ => (hk_) hs_)) (fun k_ hk_ => hk_.1)); have n1_ := Aside0.mk (Kd.R_reok rfl hy0 (fun k_ e_ => HO_9.out.1 k_ e_)); have n2_ := Aside0.mk (blk_kept (by (with_reducible repeat (first | refine blk_drewN ?_ _ | refine blk_drew ?_ | refine blk_alloc ?_ _)); exact BK835.out) hkp (fun hs_ => (fun e_ => (Kd.R_ne HO_9.out BK835.out (by decide)) e_) hs_)); have n3_ := Aside0.mk (hb); clear HO_6; clear HO_9; clear BK835; clear HB; have HO_6 := n0_; have HO_9 := n1_; have BK835 := n2_; have HB := n3_; clear n0_ n1_ n2_ n3_; (try clear hb); (try clear hkp); (try clear hy0)) | ((with_reducible refine gate_callee (f := 29) rfl ?_); refine goesL_ (some 73) rfl rfl Try.func29 (by kernel_rfl) rfl #[.slice Ao55 t866.length co55, .int .i64 1] rfl (by (try simp only [List.map_toArray, List.map_cons, List.map_nil]); first | done | (rw [show t866.length = t853.length from (Kd.R_reads' HO_9.out).1.symm] <;> rfl) | rfl | (simp only [List.length_drop, List.length_take]; rfl)) ?_; (with_reducible refine (laws_heldRegionS.calls kj36 _ _ t866 1 t867 _ ?side1 ?side2 A53.out).mono ?_); (case side1 => repeat (first | exact (Kd.R_reads' HO_9.out).2.2 | (with_reducible refine Kd.C_alloc ?_ _) | (with_reducible refine Kd.C_drewN ?_ _) | (with_reducible refine Kd.C_drew ?_))); (case side2 => rw [show t866.length = t853.length from (Kd.R_reads' HO_9.out).1.symm]; exact (Kd.R_reads' HO_9.out).2.1); rintro e w' ⟨rfl, ⟨nd, rfl⟩⟩; refine ⟨_, rfl, ?_⟩))
                    go_ret
                    exact ⟨by first | rfl | (simp [errW_none, errW_some] <;> rfl) | (simp [*, errW_none, errW_some] <;> rfl), by repeat (first | (with_reducible first | exact HB.out | apply below_alloc | apply pw_below_drewN | apply below_drew1 | refine below_set ?_ GE835.out) | exact HB.out)⟩
                  · rw [if_neg c54] at H
                    have c54b0 : decide (t867 < 0) = false := decide_eq_false c54
                    clear c54
                    by_cases c57 : t867 = t865
                    · rw [if_pos c57] at H
                      have c57b0 : (t867 == t865) = true := beq_iff_eq.mpr c57
                      have c57b1 : (t867 != t865) = false := bne_eq_false_iff_eq.mpr c57
                      clear c57
                      replace H := Option.bind_eq_some_iff.mp H
                      obtain ⟨t868, A580, H⟩ := H
                      replace H : ((laws_toRegion.f a1_0 a1_1 a1_2).bind fun bt871 => ((impl_PutRegion.f kj36 t868 bt871.1 bt871.2.1 bt871.2.2).bind fun bt874 => ((laws_eqRegionS.f kj36 bt874.1 t843).bind fun t878 => (if t878 = true then (laws_FnExactPutRegion.j2 kj36 t866 t865 (bt874.2 != t846)) else (laws_FnExactPutRegion.j2 kj36 t866 t865 true))))) = some r := H
                      have A58 := Aside0.mk A580
                      clear A580
                      replace H := Option.bind_eq_some_iff.mp H
                      obtain ⟨⟨t871, t872, t873⟩, A590, H⟩ := H
                      replace H : ((impl_PutRegion.f kj36 t868 t871 t872 t873).bind fun bt874 => ((laws_eqRegionS.f kj36 bt874.1 t843).bind fun t878 => (if t878 = true then (laws_FnExactPutRegion.j2 kj36 t866 t865 (bt874.2 != t846)) else (laws_FnExactPutRegion.j2 kj36 t866 t865 true)))) = some r := H
                      have A59 := Aside0.mk A590
                      clear A590
                      replace H := Option.bind_eq_some_iff.mp H
                      obtain ⟨⟨t874, t877⟩, A600, H⟩ := H
                      replace H : ((laws_eqRegionS.f kj36 t874 t843).bind fun t878 => (if t878 = true then (laws_FnExactPutRegion.j2 kj36 t866 t865 (t877 != t846)) else (laws_FnExactPutRegion.j2 kj36 t866 t865 true))) = some r := H
                      have A60 := Aside0.mk A600
                      clear A600
                      have HC61 := Aside0.mk H
                      clear H
                      obtain ⟨Ao62, co62, eo62⟩ := Kd.R_slice HO_9.out
                      subst eo62
                      try go_wp2_with (first | ((with_reducible refine gate_callee (f := 28) rfl ?_); refine goesL_ (some 70) rfl rfl Try.func28 (by kernel_rfl) rfl #[.slice Ao62 t853.length co62, .int .i64 1] rfl (by (try simp only [List.map_toArray, List.map_cons, List.map_nil]); first | done | rfl | (simp only [List.length_drop, List.length_take]; rfl)) ?_; (with_reducible refine (laws_markRegionS.calls kj36 (fun k_ => some k_ = (.slice Ao62 t853.length co62 : Value).ownBlock) (.slice Ao62 t853.length co62) t853 1 t865 t866 w _ ?side1 ?side2 A52.out).mono ?_); (case side1 => repeat (first | (with_reducible first | exact HB.out | apply below_alloc | apply pw_below_drewN | apply below_drew1 | refine below_set ?_ GE835.out) | exact HB.out)); (case side2 => exact Kd.R_tight rfl HO_9.out); rintro e w63 ⟨rfl, hy0, hb, hkp⟩; refine ⟨_, rfl, ?_⟩; have n0_ := Aside0.mk (Kd.R_mono (ok' := fun k_ => some k_ ≠ (.slice Ao62 t853.length co62 : Value).ownBlock) (Kd.R_keptB (HO_6.out) hkp (fun k_ hk_ hs_ => (hk_) hs_)) (fun k_ hk_ => hk_.1)); have n1_ := Aside0.mk (Kd.R_reok rfl hy0 (fun k_ e_ => HO_9.out.1 k_ e_)); have n2_ := Aside0.mk (blk_kept (by (with_reducible repeat (first | refine blk_drewN ?_ _ | refine blk_drew ?_ | refine blk_alloc ?_ _)); exact BK835.out) hkp (fun hs_ => (fun e_ => (Kd.R_ne HO_9.out BK835.out (by decide)) e_) hs_)); have n3_ := Aside0.mk (hb); clear HO_6; clear HO_9; clear BK835; clear HB; have HO_6 := n0_; have HO_9 := n1_; have BK835 := n2_; have HB := n3_; clear n0_ n1_ n2_ n3_; (try clear hb); (try clear hkp); (try clear hy0)) | ((with_reducible refine gate_callee (f := 29) rfl ?_); refine goesL_ (some 73) rfl rfl Try.func29 (by kernel_rfl) rfl #[.slice Ao62 t866.length co62, .int .i64 1] rfl (by (try simp only [List.map_toArray, List.map_cons, List.map_nil]); first | done | (rw [show t866.length = t853.length from (Kd.R_reads' HO_9.out).1.symm] <;> rfl) | rfl | (simp only [List.length_drop, List.length_take]; rfl)) ?_; (with_reducible refine (laws_heldRegionS.calls kj36 _ _ t866 1 t867 _ ?side1 ?side2 A53.out).mono ?_); (case side1 => repeat (first | exact (Kd.R_reads' HO_9.out).2.2 | (with_reducible refine Kd.C_alloc ?_ _) | (with_reducible refine Kd.C_drewN ?_ _) | (with_reducible refine Kd.C_drew ?_))); (case side2 => rw [show t866.length = t853.length from (Kd.R_reads' HO_9.out).1.symm]; exact (Kd.R_reads' HO_9.out).2.1); rintro e w' ⟨rfl, ⟨nd, rfl⟩⟩; refine ⟨_, rfl, ?_⟩))
                      (try (rw [drewN_self w63]; generalize hq_ : World.drewN w63 _ = w63; have n0_ : Aside0 (Kd.R k70 70 w63 w.heap.size (fun k_ => some k_ ≠ (.slice Ao62 t853.length co62 : Value).ownBlock) v844 t843) := ⟨by rw [← hq_]; exact (by (with_reducible repeat (first | apply Kd.R_alloc | apply Kd.R_drewN | apply Kd.R_drew)); exact HO_6.out)⟩; have n1_ : Aside0 (Kd.R k70 70 w63 w.heap.size (fun k_ => some k_ ≠ (v844 : Value).ownBlock) (.slice Ao62 t853.length co62) t866) := ⟨by rw [← hq_]; exact (by (with_reducible repeat (first | apply Kd.R_alloc | apply Kd.R_drewN | apply Kd.R_drew)); exact HO_9.out)⟩; have n2_ : Aside0 (w63.heap[gb835]? = some (.cells #[.int .i64 a1_0, .int .i64 a1_1, .bool a1_2] 68 (0, 0))) := ⟨by rw [← hq_]; exact (by (with_reducible repeat (first | refine blk_drewN ?_ _ | refine blk_drew ?_ | refine blk_alloc ?_ _)); exact BK835.out)⟩; have n3_ : Aside0 (Below w.heap.size w w63) := ⟨by rw [← hq_]; exact (by repeat (first | (with_reducible first | exact HB.out | apply below_alloc | apply pw_below_drewN | apply below_drew1 | refine below_set ?_ GE835.out) | exact HB.out))⟩; clear HO_6 HO_9 BK835 HB hq_; have HO_6 := n0_; have HO_9 := n1_; have BK835 := n2_; have HB := n3_; clear n0_ n1_ n2_ n3_))
                      have n0_ := Aside0.mk (Kd.R_drew HO_6.out)
                      have n1_ := Aside0.mk (Kd.R_drew HO_9.out)
                      have n2_ := Aside0.mk (blk_drew BK835.out)
                      have n3_ := Aside0.mk (below_drew1 HB.out)
                      clear HO_6
                      clear HO_9
                      clear BK835
                      clear HB
                      have HO_6 := n0_
                      have HO_9 := n1_
                      have BK835 := n2_
                      have HB := n3_
                      clear n0_ n1_ n2_ n3_
                      refine start_ (n := 10) (S := fun w' => w'.cell? ⟨gb835, 0, none⟩ = some (.int .i64 a1_0) ∧ w'.cell? ⟨gb835, 1, none⟩ = some (.int .i64 a1_1) ∧ w'.cell? ⟨gb835, 2, none⟩ = some (.bool a1_2)) (ds := []) #[false, false, false, false, false, false, false, false, false, false] (by kernel_rfl) rfl rfl ⟨(blk_cell BK835.out 0).trans rfl, (blk_cell BK835.out 1).trans rfl, (blk_cell BK835.out 2).trans rfl⟩ (fun hHeld => ?_); refine with_tabW laws_FnExactPutRegion.tab24 laws_FnExactPutRegion.bits24 (fun HT_ HW_ => ?_)
                      generalize w63.drew = w64 at HO_6 HO_9 BK835 HB hHeld ⊢
                      refine pure_ (i := 0) (N := some 80) (v := ?_) (a' := ?_) #[true, false, false, false, false, false, false, false, false, false] rfl rfl (any_of HT_.out (by kernel_rfl)) (fun _ _ _ h => h) (Or.inl ⟨by rfl, ?_⟩) ?_ ?_
                      rotate_left
                      · intro w'
                        go_simp
                        with_reducible rfl
                      rotate_left
                      · simp only [Act.put, List.setIfInBounds_toArray, List.set_cons_zero, List.set_cons_succ, i64_w, i32_w]
                        rfl
                      refine take_ (i := 2) (N := some 82) (v := ?_) (a' := ?_) #[true, false, true, false, false, false, false, false, false, false] rfl rfl (take_ofW HT_.out HW_.out (by kernel_rfl)) (fun _ _ _ h => h) (Or.inl ⟨by rfl, ?_⟩) hHeld ?_ ?_
                      rotate_left
                      · rintro w' ⟨s0, s1, s2⟩
                        go_simp
                        with_reducible rfl
                      rotate_left
                      · simp only [Act.put, List.setIfInBounds_toArray, List.set_cons_zero, List.set_cons_succ, i64_w, i32_w]
                        rfl
                      refine one_ (i := 1) (N := some 81) #[true, true, true, false, false, false, false, false, false, false] rfl rfl (one_of HT_.out (by kernel_rfl)) (by decide) (fun K hK => ?_)
                      refine goes_ Try.func25 (by kernel_rfl) rfl #[.slice A0 l0.length c0] (by rfl) rfl rfl (by (try simp only [List.map_toArray, List.map_cons, List.map_nil]); first | done | rfl | (simp only [List.length_drop, List.length_take]; rfl)) ?_
                      with_reducible refine (laws_toRegionS.calls kj36 _ _ l0 t868 _ ?side1 ?side2 A58.out).mono ?_
                      (case side1 => repeat (first | exact (Kd.C_below HR0.out HB.out) | (with_reducible refine Kd.C_alloc ?_ _) | (with_reducible refine Kd.C_drewN ?_ _) | (with_reducible refine Kd.C_drew ?_)))
                      (case side2 => exact HC0.out)
                      rintro e w65 ⟨v869, rfl, ho0, hb⟩
                      refine ⟨_, rfl, ?_⟩
                      have n0_ := Aside0.mk (Kd.R_elder' (by (with_reducible repeat (first | apply Kd.R_alloc | apply Kd.R_drewN | apply Kd.R_drew)); exact HO_6.out) (Kd.R_base ho0) hb)
                      have n1_ := Aside0.mk (Kd.R_elder' (by (with_reducible repeat (first | apply Kd.R_alloc | apply Kd.R_drewN | apply Kd.R_drew)); exact HO_9.out) (Kd.R_base ho0) hb)
                      have n2_ := Aside0.mk (Kd.R_lower (Kd.R_new' (Kd.R_new' ho0 (Kd.R_lt (by (with_reducible repeat (first | apply Kd.R_alloc | apply Kd.R_drewN | apply Kd.R_drew)); exact HO_6.out))) (Kd.R_lt (by (with_reducible repeat (first | apply Kd.R_alloc | apply Kd.R_drewN | apply Kd.R_drew)); exact HO_9.out))) (below_size (by repeat (first | (with_reducible first | exact HB.out | apply below_alloc | apply pw_below_drewN | apply below_drew1 | refine below_set ?_ GE835.out) | exact HB.out))))
                      have n3_ := Aside0.mk (blk_below (g := gb835) (o := .cells #[.int .i64 a1_0, .int .i64 a1_1, .bool a1_2] 68 (0, 0)) (by (with_reducible repeat (first | refine blk_drewN ?_ _ | refine blk_drew ?_ | refine blk_alloc ?_ _)); exact BK835.out) hb)
                      have n4_ := Aside0.mk (below_step (by repeat (first | (with_reducible first | exact HB.out | apply below_alloc | apply pw_below_drewN | apply below_drew1 | refine below_set ?_ GE835.out) | exact HB.out)) hb)
                      clear HO_6
                      clear HO_9
                      clear BK835
                      clear HB
                      have HO_6 := n0_
                      have HO_9 := n1_
                      have HO870 := n2_
                      have BK835 := n3_
                      have HB := n4_
                      clear n0_ n1_ n2_ n3_ n4_
                      (try clear hb)
                      (try clear hb2)
                      (try clear hk)
                      (try clear hi)
                      (try clear ho0)
                      refine hK.out _ _ ⟨(blk_cell BK835.out 0).trans rfl, (blk_cell BK835.out 1).trans rfl, (blk_cell BK835.out 2).trans rfl⟩ (fun hHeld => ?_)
                      clear hK K
                      refine norm_ (a' := ?_) ?_ ?_
                      rotate_left
                      · show Act.put _ (some 81) _ = _
                        simp only [Act.put, List.setIfInBounds_toArray, List.set_cons_zero, List.set_cons_succ, i64_w, i32_w]
                        rfl
                      refine one_ (i := 3) (N := some 83) #[true, true, true, true, false, false, false, false, false, false] rfl rfl (one_of HT_.out (by kernel_rfl)) (by decide) (fun K hK => ?_)
                      refine goes_ Try.func52 (by kernel_rfl) rfl #[.agg #[.int .i64 a1_0, .int .i64 a1_1, .bool a1_2]] (by rfl) rfl rfl (by (try simp only [List.map_toArray, List.map_cons, List.map_nil]); first | done | rfl | (simp only [List.length_drop, List.length_take]; rfl)) ?_
                      with_reducible refine (laws_toRegion.calls a1_0 a1_1 a1_2 t871 t872 t873 _ A59.out).mono ?_
                      rintro e w66 ⟨rfl, hb⟩
                      refine ⟨_, rfl, ?_⟩
                      have n0_ := Aside0.mk (Kd.R_below (by (with_reducible repeat (first | apply Kd.R_alloc | apply Kd.R_drewN | apply Kd.R_drew)); exact HO_6.out) hb)
                      have n1_ := Aside0.mk (Kd.R_below (by (with_reducible repeat (first | apply Kd.R_alloc | apply Kd.R_drewN | apply Kd.R_drew)); exact HO_9.out) hb)
                      have n2_ := Aside0.mk (Kd.R_below (by (with_reducible repeat (first | apply Kd.R_alloc | apply Kd.R_drewN | apply Kd.R_drew)); exact HO870.out) hb)
                      have n3_ := Aside0.mk (blk_below (g := gb835) (o := .cells #[.int .i64 a1_0, .int .i64 a1_1, .bool a1_2] 68 (0, 0)) (by (with_reducible repeat (first | refine blk_drewN ?_ _ | refine blk_drew ?_ | refine blk_alloc ?_ _)); exact BK835.out) hb)
                      have n4_ := Aside0.mk (below_step (by repeat (first | (with_reducible first | exact HB.out | apply below_alloc | apply pw_below_drewN | apply below_drew1 | refine below_set ?_ GE835.out) | exact HB.out)) hb)
                      clear HO_6
                      clear HO_9
                      clear HO870
                      clear BK835
                      clear HB
                      have HO_6 := n0_
                      have HO_9 := n1_
                      have HO870 := n2_
                      have BK835 := n3_
                      have HB := n4_
                      clear n0_ n1_ n2_ n3_ n4_
                      (try clear hb)
                      (try clear hb2)
                      (try clear hk)
                      (try clear hi)
                      obtain ⟨Ao67, co67, eo67⟩ := Kd.R_slice HO870.out
                      (first | subst eo67 | (injection eo67 with f1_ f2_ f3_; have f4_ := f1_.symm; have f5_ := f3_.symm; clear f1_ f2_ f3_; subst f4_; subst f5_))
                      refine hK.out _ _ ⟨(blk_cell BK835.out 0).trans rfl, (blk_cell BK835.out 1).trans rfl, (blk_cell BK835.out 2).trans rfl⟩ (fun hHeld => ?_)
                      clear hK K
                      refine norm_ (a' := ?_) ?_ ?_
                      rotate_left
                      · show Act.put _ (some 83) _ = _
                        simp only [Act.put, List.setIfInBounds_toArray, List.set_cons_zero, List.set_cons_succ, i64_w, i32_w]
                        rfl
                      refine one_ (i := 4) (N := some 84) #[true, true, true, true, true, false, false, false, false, false] rfl rfl (one_of HT_.out (by kernel_rfl)) (by decide) (fun K hK => ?_)
                      refine goes_ Try.func53 (by kernel_rfl) rfl #[.slice Ao67 t868.length co67, .agg #[.int .i64 t871, .int .i64 t872, .bool t873]] (by rfl) rfl rfl (by (try simp only [List.map_toArray, List.map_cons, List.map_nil]); first | done | rfl | (simp only [List.length_drop, List.length_take]; rfl)) ?_
                      with_reducible refine (impl_PutRegion.calls kj36 _ _ t868 t871 t872 t873 t874 t877 _ ?side1 ?side2 A60.out).mono ?_
                      (case side1 => repeat (first | exact (Kd.R_reads' HO870.out).2.2 | (with_reducible refine Kd.C_alloc ?_ _) | (with_reducible refine Kd.C_drewN ?_ _) | (with_reducible refine Kd.C_drew ?_)))
                      (case side2 => exact (Kd.R_reads' HO870.out).2.1)
                      rintro e w68 ⟨v875, rfl, ho0, hb⟩
                      refine ⟨_, rfl, ?_⟩
                      have n0_ := Aside0.mk (Kd.R_elder' (by (with_reducible repeat (first | apply Kd.R_alloc | apply Kd.R_drewN | apply Kd.R_drew)); exact HO_6.out) (Kd.R_base ho0) hb)
                      have n1_ := Aside0.mk (Kd.R_elder' (by (with_reducible repeat (first | apply Kd.R_alloc | apply Kd.R_drewN | apply Kd.R_drew)); exact HO_9.out) (Kd.R_base ho0) hb)
                      have n2_ := Aside0.mk (Kd.R_elder' (by (with_reducible repeat (first | apply Kd.R_alloc | apply Kd.R_drewN | apply Kd.R_drew)); exact HO870.out) (Kd.R_base ho0) hb)
                      have n3_ := Aside0.mk (Kd.R_lower (Kd.R_new' (Kd.R_new' (Kd.R_new' ho0 (Kd.R_lt (by (with_reducible repeat (first | apply Kd.R_alloc | apply Kd.R_drewN | apply Kd.R_drew)); exact HO_6.out))) (Kd.R_lt (by (with_reducible repeat (first | apply Kd.R_alloc | apply Kd.R_drewN | apply Kd.R_drew)); exact HO_9.out))) (Kd.R_lt (by (with_reducible repeat (first | apply Kd.R_alloc | apply Kd.R_drewN | apply Kd.R_drew)); exact HO870.out))) (below_size (by repeat (first | (with_reducible first | exact HB.out | apply below_alloc | apply pw_below_drewN | apply below_drew1 | refine below_set ?_ GE835.out) | exact HB.out))))
                      have n4_ := Aside0.mk (blk_below (g := gb835) (o := .cells #[.int .i64 a1_0, .int .i64 a1_1, .bool a1_2] 68 (0, 0)) (by (with_reducible repeat (first | refine blk_drewN ?_ _ | refine blk_drew ?_ | refine blk_alloc ?_ _)); exact BK835.out) hb)
                      have n5_ := Aside0.mk (below_step (by repeat (first | (with_reducible first | exact HB.out | apply below_alloc | apply pw_below_drewN | apply below_drew1 | refine below_set ?_ GE835.out) | exact HB.out)) hb)
                      clear HO_6
                      clear HO_9
                      clear HO870
                      clear BK835
                      clear HB
                      have HO_6 := n0_
                      have HO_9 := n1_
                      have HO870 := n2_
                      have HO876 := n3_
                      have BK835 := n4_
                      have HB := n5_
                      clear n0_ n1_ n2_ n3_ n4_ n5_
                      (try clear hb)
                      (try clear hb2)
                      (try clear hk)
                      (try clear hi)
                      (try clear ho0)
                      refine hK.out _ _ ⟨(blk_cell BK835.out 0).trans rfl, (blk_cell BK835.out 1).trans rfl, (blk_cell BK835.out 2).trans rfl⟩ (fun hHeld => ?_)
                      clear hK K
                      refine norm_ (a' := ?_) ?_ ?_
                      rotate_left
                      · show Act.put _ (some 84) _ = _
                        simp only [Act.put, List.setIfInBounds_toArray, List.set_cons_zero, List.set_cons_succ, i64_w, i32_w]
                        rfl
                      refine pure_ (i := 5) (N := some 79) (v := ?_) (a' := ?_) #[true, true, true, true, true, true, false, false, false, false] rfl rfl (any_of HT_.out (by kernel_rfl)) (fun _ _ _ h => h) (Or.inl ⟨by rfl, ?_⟩) ?_ ?_
                      rotate_left
                      · intro w'
                        go_simp
                        with_reducible rfl
                      rotate_left
                      · simp only [Act.put, List.setIfInBounds_toArray, List.set_cons_zero, List.set_cons_succ, i64_w, i32_w]
                        rfl
                      refine pure_ (i := 6) (N := some 85) (v := ?_) (a' := ?_) #[true, true, true, true, true, true, true, false, false, false] rfl rfl (any_of HT_.out (by kernel_rfl)) (fun _ _ _ h => h) (Or.inl ⟨by rfl, ?_⟩) ?_ ?_
                      rotate_left
                      · intro w'
                        go_simp
                        with_reducible rfl
                      rotate_left
                      · simp only [Act.put, List.setIfInBounds_toArray, List.set_cons_zero, List.set_cons_succ, i64_w, i32_w]
                        rfl
                      refine pure_ (i := 7) (N := some 86) (v := ?_) (a' := ?_) #[true, true, true, true, true, true, true, true, false, false] rfl rfl (any_of HT_.out (by kernel_rfl)) (fun _ _ _ h => h) (Or.inl ⟨by rfl, ?_⟩) ?_ ?_
                      rotate_left
                      · intro w'
                        go_simp
                        with_reducible rfl
                      rotate_left
                      · simp only [Act.put, List.setIfInBounds_toArray, List.set_cons_zero, List.set_cons_succ, i64_w, i32_w]
                        rfl
                      refine pure_ (i := 8) (N := some 14) (v := ?_) (a' := ?_) #[true, true, true, true, true, true, true, true, true, false] rfl rfl (any_of HT_.out (by kernel_rfl)) (fun _ _ _ h => h) (Or.inl ⟨by rfl, ?_⟩) ?_ ?_
                      rotate_left
                      · intro w'
                        go_simp
                        with_reducible rfl
                      rotate_left
                      · simp only [Act.put, List.setIfInBounds_toArray, List.set_cons_zero, List.set_cons_succ, i64_w, i32_w]
                        rfl
                      refine pure_ (i := 9) (N := some 15) (v := ?_) (a' := ?_) #[true, true, true, true, true, true, true, true, true, true] rfl rfl (any_of HT_.out (by kernel_rfl)) (fun _ _ _ h => h) (Or.inl ⟨by rfl, ?_⟩) ?_ ?_
                      rotate_left
                      · intro w'
                        go_simp
                        with_reducible rfl
                      rotate_left
                      · simp only [Act.put, List.setIfInBounds_toArray, List.set_cons_zero, List.set_cons_succ, i64_w, i32_w]
                        rfl
                      refine done_ (done_of HT_.out (by kernel_rfl)) ?_
                      go_upto_region 25 with (fail)
                      go_cut [95] (fun v95 wc => ∃ (kq : Nat) (x95_60 : Bool), v95 = .bool x95_60 ∧ Aside0 (laws_FnExactPutRegion.j2 kq t866 t865 x95_60 = some r) ∧ Aside0 (kq ≤ kj36) ∧ Aside0 (Kd.R k70 70 wc w.heap.size (fun _ => True) (.slice Ao62 t853.length co62) t866) ∧ Aside0 (wc.heap[gb835]? = some (.cells #[.int .i64 a1_0, .int .i64 a1_1, .bool a1_2] 68 (0, 0))) ∧ Aside0 (Below w.heap.size w wc))
                      case first =>
                        have H := HC61.out
                        clear HC61
                        replace H := Option.bind_eq_some_iff.mp H
                        obtain ⟨t878, A690, H⟩ := H
                        replace H : (if t878 = true then (laws_FnExactPutRegion.j2 kj36 t866 t865 (t877 != t846)) else (laws_FnExactPutRegion.j2 kj36 t866 t865 true)) = some r := H
                        have A69 := Aside0.mk A690
                        clear A690
                        by_cases c70 : t878 = true
                        · subst c70
                          have H1 : (laws_FnExactPutRegion.j2 kj36 t866 t865 (t877 != t846)) = some r := by rw [if_pos rfl] at H; exact H
                          clear H
                          have H := H1
                          clear H1
                          have H' := Aside0.mk H
                          clear H
                          obtain ⟨Ao71, co71, eo71⟩ := Kd.R_slice HO876.out
                          subst eo71
                          obtain ⟨Ao72, co72, eo72⟩ := Kd.R_slice HO_6.out
                          subst eo72
                          go_wp2_with (first | ((with_reducible refine gate_callee (f := 27) rfl ?_); refine goesL_ (some 89) rfl rfl Try.func27 (by kernel_rfl) rfl #[.slice Ao71 t874.length co71, .slice Ao72 t843.length co72] rfl (by (try simp only [List.map_toArray, List.map_cons, List.map_nil]); first | done | rfl | (simp only [List.length_drop, List.length_take]; rfl)) ?_; (with_reducible refine (laws_eqRegionS.calls kj36 _ _ t874 _ _ t843 true _ ?side1 ?side2 ?side3 ?side4 A69.out).mono ?_); (case side1 => repeat (first | exact (Kd.R_reads' HO876.out).2.2 | (with_reducible refine Kd.C_alloc ?_ _) | (with_reducible refine Kd.C_drewN ?_ _) | (with_reducible refine Kd.C_drew ?_))); (case side2 => exact (Kd.R_reads' HO876.out).2.1); (case side3 => repeat (first | exact (Kd.R_reads' HO_6.out).2.2 | (with_reducible refine Kd.C_alloc ?_ _) | (with_reducible refine Kd.C_drewN ?_ _) | (with_reducible refine Kd.C_drew ?_))); (case side4 => exact (Kd.R_reads' HO_6.out).2.1); rintro e w73 ⟨rfl, hb⟩; refine ⟨_, rfl, ?_⟩; have n0_ := Aside0.mk (Kd.R_below (by (with_reducible repeat (first | apply Kd.R_alloc | apply Kd.R_drewN | apply Kd.R_drew)); exact HO_6.out) hb); have n1_ := Aside0.mk (Kd.R_below (by (with_reducible repeat (first | apply Kd.R_alloc | apply Kd.R_drewN | apply Kd.R_drew)); exact HO_9.out) hb); have n2_ := Aside0.mk (Kd.R_below (by (with_reducible repeat (first | apply Kd.R_alloc | apply Kd.R_drewN | apply Kd.R_drew)); exact HO870.out) hb); have n3_ := Aside0.mk (Kd.R_below (by (with_reducible repeat (first | apply Kd.R_alloc | apply Kd.R_drewN | apply Kd.R_drew)); exact HO876.out) hb); have n4_ := Aside0.mk (blk_below (g := gb835) (o := .cells #[.int .i64 a1_0, .int .i64 a1_1, .bool a1_2] 68 (0, 0)) (by (with_reducible repeat (first | refine blk_drewN ?_ _ | refine blk_drew ?_ | refine blk_alloc ?_ _)); exact BK835.out) hb); have n5_ := Aside0.mk (below_step (by repeat (first | (with_reducible first | exact HB.out | apply below_alloc | apply pw_below_drewN | apply below_drew1 | refine below_set ?_ GE835.out) | exact HB.out)) hb); clear HO_6; clear HO_9; clear HO870; clear HO876; clear BK835; clear HB; have HO_6 := n0_; have HO_9 := n1_; have HO870 := n2_; have HO876 := n3_; have BK835 := n4_; have HB := n5_; clear n0_ n1_ n2_ n3_ n4_ n5_; (try clear hb); (try clear hb2); (try clear hk); (try clear hi)))
                          go_meet
                          case rel => exact ⟨_, ((t877 != t846)), (by first | rfl | (simp; done) | (simp [*]; done)), H', ⟨by have := HJ11.out; have := HJ36.out; first | omega | exact Nat.le_refl _⟩, ⟨by (with_reducible repeat (first | apply Kd.R_alloc | apply Kd.R_drewN | apply Kd.R_drew)); exact Kd.R_mono HO_9.out (fun _ hk => trivial)⟩, ⟨by (with_reducible repeat (first | refine blk_drewN ?_ _ | refine blk_drew ?_ | refine blk_alloc ?_ _)); exact BK835.out⟩, ⟨by repeat (first | (with_reducible first | exact HB.out | apply below_alloc | apply pw_below_drewN | apply below_drew1 | refine below_set ?_ GE835.out) | exact HB.out)⟩⟩
                        · replace c70 := Bool.eq_false_iff.mpr c70
                          subst c70
                          have H1 : (laws_FnExactPutRegion.j2 kj36 t866 t865 true) = some r := by rw [if_neg (show ¬ (false = true) by decide)] at H; exact H
                          clear H
                          have H := H1
                          clear H1
                          have H' := Aside0.mk H
                          clear H
                          obtain ⟨Ao74, co74, eo74⟩ := Kd.R_slice HO876.out
                          subst eo74
                          obtain ⟨Ao75, co75, eo75⟩ := Kd.R_slice HO_6.out
                          subst eo75
                          go_wp2_with (first | ((with_reducible refine gate_callee (f := 27) rfl ?_); refine goesL_ (some 89) rfl rfl Try.func27 (by kernel_rfl) rfl #[.slice Ao74 t874.length co74, .slice Ao75 t843.length co75] rfl (by (try simp only [List.map_toArray, List.map_cons, List.map_nil]); first | done | rfl | (simp only [List.length_drop, List.length_take]; rfl)) ?_; (with_reducible refine (laws_eqRegionS.calls kj36 _ _ t874 _ _ t843 false _ ?side1 ?side2 ?side3 ?side4 A69.out).mono ?_); (case side1 => repeat (first | exact (Kd.R_reads' HO876.out).2.2 | (with_reducible refine Kd.C_alloc ?_ _) | (with_reducible refine Kd.C_drewN ?_ _) | (with_reducible refine Kd.C_drew ?_))); (case side2 => exact (Kd.R_reads' HO876.out).2.1); (case side3 => repeat (first | exact (Kd.R_reads' HO_6.out).2.2 | (with_reducible refine Kd.C_alloc ?_ _) | (with_reducible refine Kd.C_drewN ?_ _) | (with_reducible refine Kd.C_drew ?_))); (case side4 => exact (Kd.R_reads' HO_6.out).2.1); rintro e w76 ⟨rfl, hb⟩; refine ⟨_, rfl, ?_⟩; have n0_ := Aside0.mk (Kd.R_below (by (with_reducible repeat (first | apply Kd.R_alloc | apply Kd.R_drewN | apply Kd.R_drew)); exact HO_6.out) hb); have n1_ := Aside0.mk (Kd.R_below (by (with_reducible repeat (first | apply Kd.R_alloc | apply Kd.R_drewN | apply Kd.R_drew)); exact HO_9.out) hb); have n2_ := Aside0.mk (Kd.R_below (by (with_reducible repeat (first | apply Kd.R_alloc | apply Kd.R_drewN | apply Kd.R_drew)); exact HO870.out) hb); have n3_ := Aside0.mk (Kd.R_below (by (with_reducible repeat (first | apply Kd.R_alloc | apply Kd.R_drewN | apply Kd.R_drew)); exact HO876.out) hb); have n4_ := Aside0.mk (blk_below (g := gb835) (o := .cells #[.int .i64 a1_0, .int .i64 a1_1, .bool a1_2] 68 (0, 0)) (by (with_reducible repeat (first | refine blk_drewN ?_ _ | refine blk_drew ?_ | refine blk_alloc ?_ _)); exact BK835.out) hb); have n5_ := Aside0.mk (below_step (by repeat (first | (with_reducible first | exact HB.out | apply below_alloc | apply pw_below_drewN | apply below_drew1 | refine below_set ?_ GE835.out) | exact HB.out)) hb); clear HO_6; clear HO_9; clear HO870; clear HO876; clear BK835; clear HB; have HO_6 := n0_; have HO_9 := n1_; have HO870 := n2_; have HO876 := n3_; have BK835 := n4_; have HB := n5_; clear n0_ n1_ n2_ n3_ n4_ n5_; (try clear hb); (try clear hb2); (try clear hk); (try clear hi)))
                          go_meet
                          case rel => exact ⟨_, (true), (by first | rfl | (simp; done) | (simp [*]; done)), H', ⟨by have := HJ11.out; have := HJ36.out; first | omega | exact Nat.le_refl _⟩, ⟨by (with_reducible repeat (first | apply Kd.R_alloc | apply Kd.R_drewN | apply Kd.R_drew)); exact Kd.R_mono HO_9.out (fun _ hk => trivial)⟩, ⟨by (with_reducible repeat (first | refine blk_drewN ?_ _ | refine blk_drew ?_ | refine blk_alloc ?_ _)); exact BK835.out⟩, ⟨by repeat (first | (with_reducible first | exact HB.out | apply below_alloc | apply pw_below_drewN | apply below_drew1 | refine below_set ?_ GE835.out) | exact HB.out)⟩⟩
                      case rest =>
                        clear HC61
                        try clear c2
                        try clear p2
                        try clear c3
                        try clear c4
                        try clear c4b0
                        try clear c5
                        try clear c7
                        try clear c9
                        try clear c23
                        try clear c25
                        try clear c27
                        try clear c28
                        try clear c29
                        try clear c32
                        try clear c35
                        try clear c42
                        try clear c42b0
                        try clear c44
                        try clear c51
                        try clear c52
                        try clear c53
                        try clear c54
                        try clear c54b0
                        try clear c57
                        try clear c57b0
                        try clear c57b1
                        try clear c70
                        try clear hcz20_0
                        try clear hcz20_1
                        try clear hcz20_2
                        try clear hfz20_0
                        try clear hfz20_1
                        try clear hfz20_2
                        try clear p2
                        obtain ⟨kq, x95_60, rfl, HA, HJ60, HO_9, BK835, HB⟩ := hcut
                        have hl9_60 := (Kd.R_reads' HO_9.out).1
                        rw [hl9_60] at HO_9
                        (try simp only [hl9_60])
                        (try simp only [hl9_60] at BK835)
                        cases kq with
                        | zero => exact absurd HA.out (by simp [laws_FnExactPutRegion.j2])
                        | succ kj60 =>
                          have H := HA.out
                          clear HA
                          simp only [laws_FnExactPutRegion.j2] at H
                          by_cases c77 : x95_60 = true
                          · subst c77
                            have H1 : (some false) = some r := by rw [if_pos rfl] at H; exact H
                            clear H
                            have H := H1
                            clear H1
                            obtain rfl := Option.some.inj H
                            go_wp2
                            go_ret
                            exact ⟨by first | rfl | (simp [errW_none, errW_some] <;> rfl) | (simp [*, errW_none, errW_some] <;> rfl), by repeat (first | (with_reducible first | exact HB.out | apply below_alloc | apply pw_below_drewN | apply below_drew1 | refine below_set ?_ GE835.out) | exact HB.out)⟩
                          · replace c77 := Bool.eq_false_iff.mpr c77
                            subst c77
                            have H1 : ((laws_heldRegionS.f kj60 t866 1).bind fun t879 => (if t879 < 0 then (some false) else (if t879 = t865 then (some true) else (some false)))) = some r := by rw [if_neg (show ¬ (false = true) by decide)] at H; exact H
                            clear H
                            have H := H1
                            clear H1
                            replace H := Option.bind_eq_some_iff.mp H
                            obtain ⟨t879, A780, H⟩ := H
                            replace H : (if t879 < 0 then (some false) else (if t879 = t865 then (some true) else (some false))) = some r := H
                            have A78 := Aside0.mk A780
                            clear A780
                            by_cases c79 : t879 < 0
                            · rw [if_pos c79] at H
                              have c79b0 : decide (t879 < 0) = true := decide_eq_true c79
                              clear c79
                              obtain rfl := Option.some.inj H
                              go_wp2_with (first | ((with_reducible refine gate_callee (f := 29) rfl ?_); refine goesL_ (some 98) rfl rfl Try.func29 (by kernel_rfl) rfl #[.slice Ao62 t866.length co62, .int .i64 1] rfl (by (try simp only [List.map_toArray, List.map_cons, List.map_nil]); first | done | rfl | (simp only [List.length_drop, List.length_take]; rfl)) ?_; (with_reducible refine (laws_heldRegionS.calls kj60 _ _ t866 1 t879 _ ?side1 ?side2 A78.out).mono ?_); (case side1 => repeat (first | exact (Kd.R_reads' HO_9.out).2.2 | (with_reducible refine Kd.C_alloc ?_ _) | (with_reducible refine Kd.C_drewN ?_ _) | (with_reducible refine Kd.C_drew ?_))); (case side2 => exact (Kd.R_reads' HO_9.out).2.1); rintro e w' ⟨rfl, ⟨nd, rfl⟩⟩; refine ⟨_, rfl, ?_⟩))
                              go_ret
                              exact ⟨by first | rfl | (simp [errW_none, errW_some] <;> rfl) | (simp [*, errW_none, errW_some] <;> rfl), by repeat (first | (with_reducible first | exact HB.out | apply below_alloc | apply pw_below_drewN | apply below_drew1 | refine below_set ?_ GE835.out) | exact HB.out)⟩
                            · rw [if_neg c79] at H
                              have c79b0 : decide (t879 < 0) = false := decide_eq_false c79
                              clear c79
                              by_cases c80 : t879 = t865
                              · rw [if_pos c80] at H
                                have c80b0 : (t879 == t865) = true := beq_iff_eq.mpr c80
                                have c80b1 : (t879 != t865) = false := bne_eq_false_iff_eq.mpr c80
                                clear c80
                                obtain rfl := Option.some.inj H
                                go_wp2_with (first | ((with_reducible refine gate_callee (f := 29) rfl ?_); refine goesL_ (some 98) rfl rfl Try.func29 (by kernel_rfl) rfl #[.slice Ao62 t866.length co62, .int .i64 1] rfl (by (try simp only [List.map_toArray, List.map_cons, List.map_nil]); first | done | rfl | (simp only [List.length_drop, List.length_take]; rfl)) ?_; (with_reducible refine (laws_heldRegionS.calls kj60 _ _ t866 1 t879 _ ?side1 ?side2 A78.out).mono ?_); (case side1 => repeat (first | exact (Kd.R_reads' HO_9.out).2.2 | (with_reducible refine Kd.C_alloc ?_ _) | (with_reducible refine Kd.C_drewN ?_ _) | (with_reducible refine Kd.C_drew ?_))); (case side2 => exact (Kd.R_reads' HO_9.out).2.1); rintro e w' ⟨rfl, ⟨nd, rfl⟩⟩; refine ⟨_, rfl, ?_⟩))
                                go_ret
                                exact ⟨by first | rfl | (simp [errW_none, errW_some] <;> rfl) | (simp [*, errW_none, errW_some] <;> rfl), by repeat (first | (with_reducible first | exact HB.out | apply below_alloc | apply pw_below_drewN | apply below_drew1 | refine below_set ?_ GE835.out) | exact HB.out)⟩
                              · rw [if_neg c80] at H
                                have c80b0 : (t879 == t865) = false := beq_eq_false_iff_ne.mpr c80
                                have c80b1 : (t879 != t865) = true := bne_iff_ne.mpr c80
                                obtain rfl := Option.some.inj H
                                go_wp2_with (first | ((with_reducible refine gate_callee (f := 29) rfl ?_); refine goesL_ (some 98) rfl rfl Try.func29 (by kernel_rfl) rfl #[.slice Ao62 t866.length co62, .int .i64 1] rfl (by (try simp only [List.map_toArray, List.map_cons, List.map_nil]); first | done | rfl | (simp only [List.length_drop, List.length_take]; rfl)) ?_; (with_reducible refine (laws_heldRegionS.calls kj60 _ _ t866 1 t879 _ ?side1 ?side2 A78.out).mono ?_); (case side1 => repeat (first | exact (Kd.R_reads' HO_9.out).2.2 | (with_reducible refine Kd.C_alloc ?_ _) | (with_reducible refine Kd.C_drewN ?_ _) | (with_reducible refine Kd.C_drew ?_))); (case side2 => exact (Kd.R_reads' HO_9.out).2.1); rintro e w' ⟨rfl, ⟨nd, rfl⟩⟩; refine ⟨_, rfl, ?_⟩))
                                go_ret
                                exact ⟨by first | rfl | (simp [errW_none, errW_some] <;> rfl) | (simp [*, errW_none, errW_some] <;> rfl), by repeat (first | (with_reducible first | exact HB.out | apply below_alloc | apply pw_below_drewN | apply below_drew1 | refine below_set ?_ GE835.out) | exact HB.out)⟩
                    · rw [if_neg c57] at H
                      have c57b0 : (t867 == t865) = false := beq_eq_false_iff_ne.mpr c57
                      have c57b1 : (t867 != t865) = true := bne_iff_ne.mpr c57
                      obtain rfl := Option.some.inj H
                      obtain ⟨Ao81, co81, eo81⟩ := Kd.R_slice HO_9.out
                      subst eo81
                      go_wp2_with (first | ((with_reducible refine gate_callee (f := 28) rfl ?_); refine goesL_ (some 70) rfl rfl Try.func28 (by kernel_rfl) rfl #[.slice Ao81 t853.length co81, .int .i64 1] rfl (by (try simp only [List.map_toArray, List.map_cons, List.map_nil]); first | done | rfl | (simp only [List.length_drop, List.length_take]; rfl)) ?_; (with_reducible refine (laws_markRegionS.calls kj36 (fun k_ => some k_ = (.slice Ao81 t853.length co81 : Value).ownBlock) (.slice Ao81 t853.length co81) t853 1 t865 t866 w _ ?side1 ?side2 A52.out).mono ?_); (case side1 => repeat (first | (with_reducible first | exact HB.out | apply below_alloc | apply pw_below_drewN | apply below_drew1 | refine below_set ?_ GE835.out) | exact HB.out)); (case side2 => exact Kd.R_tight rfl HO_9.out); rintro e w82 ⟨rfl, hy0, hb, hkp⟩; refine ⟨_, rfl, ?_⟩; have n0_ := Aside0.mk (Kd.R_mono (ok' := fun k_ => some k_ ≠ (.slice Ao81 t853.length co81 : Value).ownBlock) (Kd.R_keptB (HO_6.out) hkp (fun k_ hk_ hs_ => (hk_) hs_)) (fun k_ hk_ => hk_.1)); have n1_ := Aside0.mk (Kd.R_reok rfl hy0 (fun k_ e_ => HO_9.out.1 k_ e_)); have n2_ := Aside0.mk (blk_kept (by (with_reducible repeat (first | refine blk_drewN ?_ _ | refine blk_drew ?_ | refine blk_alloc ?_ _)); exact BK835.out) hkp (fun hs_ => (fun e_ => (Kd.R_ne HO_9.out BK835.out (by decide)) e_) hs_)); have n3_ := Aside0.mk (hb); clear HO_6; clear HO_9; clear BK835; clear HB; have HO_6 := n0_; have HO_9 := n1_; have BK835 := n2_; have HB := n3_; clear n0_ n1_ n2_ n3_; (try clear hb); (try clear hkp); (try clear hy0)) | ((with_reducible refine gate_callee (f := 29) rfl ?_); refine goesL_ (some 73) rfl rfl Try.func29 (by kernel_rfl) rfl #[.slice Ao81 t866.length co81, .int .i64 1] rfl (by (try simp only [List.map_toArray, List.map_cons, List.map_nil]); first | done | (rw [show t866.length = t853.length from (Kd.R_reads' HO_9.out).1.symm] <;> rfl) | rfl | (simp only [List.length_drop, List.length_take]; rfl)) ?_; (with_reducible refine (laws_heldRegionS.calls kj36 _ _ t866 1 t867 _ ?side1 ?side2 A53.out).mono ?_); (case side1 => repeat (first | exact (Kd.R_reads' HO_9.out).2.2 | (with_reducible refine Kd.C_alloc ?_ _) | (with_reducible refine Kd.C_drewN ?_ _) | (with_reducible refine Kd.C_drew ?_))); (case side2 => rw [show t866.length = t853.length from (Kd.R_reads' HO_9.out).1.symm]; exact (Kd.R_reads' HO_9.out).2.1); rintro e w' ⟨rfl, ⟨nd, rfl⟩⟩; refine ⟨_, rfl, ?_⟩))
                      go_ret
                      exact ⟨by first | rfl | (simp [errW_none, errW_some] <;> rfl) | (simp [*, errW_none, errW_some] <;> rfl), by repeat (first | (with_reducible first | exact HB.out | apply below_alloc | apply pw_below_drewN | apply below_drew1 | refine below_set ?_ GE835.out) | exact HB.out)⟩
          · replace c35 := Bool.eq_false_iff.mpr c35
            subst c35
            have H1 : (some false) = some r := by rw [if_neg (show ¬ (false = true) by decide)] at H; exact H
            clear H
            have H := H1
            clear H1
            obtain rfl := Option.some.inj H
            go_wp2_with (first | ((with_reducible refine gate_callee (f := 25) rfl ?_); refine goesL_ (some 49) rfl rfl Try.func25 (by kernel_rfl) rfl #[.slice A0 l0.length c0] rfl (by (try simp only [List.map_toArray, List.map_cons, List.map_nil]); first | done | rfl | (simp only [List.length_drop, List.length_take]; rfl)) ?_; (with_reducible refine (laws_toRegionS.calls kj11 _ _ l0 t858 _ ?side1 ?side2 A33.out).mono ?_); (case side1 => repeat (first | exact (Kd.C_below HR0.out HB.out) | (with_reducible refine Kd.C_alloc ?_ _) | (with_reducible refine Kd.C_drewN ?_ _) | (with_reducible refine Kd.C_drew ?_))); (case side2 => exact HC0.out); rintro e w83 ⟨v859, rfl, ho0, hb⟩; refine ⟨_, rfl, ?_⟩; have n0_ := Aside0.mk (Kd.R_elder' (by (with_reducible repeat (first | apply Kd.R_alloc | apply Kd.R_drewN | apply Kd.R_drew)); exact HO_6.out) (Kd.R_base ho0) hb); have n1_ := Aside0.mk (Kd.R_elder' (by (with_reducible repeat (first | apply Kd.R_alloc | apply Kd.R_drewN | apply Kd.R_drew)); exact HO_8.out) (Kd.R_base ho0) hb); have n2_ := Aside0.mk (Kd.R_elder' (by (with_reducible repeat (first | apply Kd.R_alloc | apply Kd.R_drewN | apply Kd.R_drew)); exact HO_9.out) (Kd.R_base ho0) hb); have n3_ := Aside0.mk (Kd.R_lower (Kd.R_new' (Kd.R_new' (Kd.R_new' ho0 (Kd.R_lt (by (with_reducible repeat (first | apply Kd.R_alloc | apply Kd.R_drewN | apply Kd.R_drew)); exact HO_6.out))) (Kd.R_lt (by (with_reducible repeat (first | apply Kd.R_alloc | apply Kd.R_drewN | apply Kd.R_drew)); exact HO_8.out))) (Kd.R_lt (by (with_reducible repeat (first | apply Kd.R_alloc | apply Kd.R_drewN | apply Kd.R_drew)); exact HO_9.out))) (below_size (by repeat (first | (with_reducible first | exact HB.out | apply below_alloc | apply pw_below_drewN | apply below_drew1 | refine below_set ?_ GE835.out) | exact HB.out)))); have n4_ := Aside0.mk (blk_below (g := gb835) (o := .cells #[.int .i64 a1_0, .int .i64 a1_1, .bool a1_2] 68 (0, 0)) (by (with_reducible repeat (first | refine blk_drewN ?_ _ | refine blk_drew ?_ | refine blk_alloc ?_ _)); exact BK835.out) hb); have n5_ := Aside0.mk (below_step (by repeat (first | (with_reducible first | exact HB.out | apply below_alloc | apply pw_below_drewN | apply below_drew1 | refine below_set ?_ GE835.out) | exact HB.out)) hb); clear HO_6; clear HO_8; clear HO_9; clear BK835; clear HB; have HO_6 := n0_; have HO_8 := n1_; have HO_9 := n2_; have HO860 := n3_; have BK835 := n4_; have HB := n5_; clear n0_ n1_ n2_ n3_ n4_ n5_; (try clear hb); (try clear hb2); (try clear hk); (try clear hi); (try clear ho0); obtain ⟨Ao84, co84, eo84⟩ := Kd.R_slice HO860.out; subst eo84) | ((with_reducible refine gate_callee (f := 27) rfl ?_); refine goesL_ (some 50) rfl rfl Try.func27 (by kernel_rfl) rfl #[.slice Ao22 t847.length co22, .slice Ao84 t858.length co84] rfl (by (try simp only [List.map_toArray, List.map_cons, List.map_nil]); first | done | rfl | (simp only [List.length_drop, List.length_take]; rfl)) ?_; (with_reducible refine (laws_eqRegionS.calls kj11 _ _ t847 _ _ t858 false _ ?side1 ?side2 ?side3 ?side4 A34.out).mono ?_); (case side1 => repeat (first | exact (Kd.R_reads' HO_8.out).2.2 | (with_reducible refine Kd.C_alloc ?_ _) | (with_reducible refine Kd.C_drewN ?_ _) | (with_reducible refine Kd.C_drew ?_))); (case side2 => exact (Kd.R_reads' HO_8.out).2.1); (case side3 => repeat (first | exact (Kd.R_reads' HO860.out).2.2 | (with_reducible refine Kd.C_alloc ?_ _) | (with_reducible refine Kd.C_drewN ?_ _) | (with_reducible refine Kd.C_drew ?_))); (case side4 => exact (Kd.R_reads' HO860.out).2.1); rintro e w85 ⟨rfl, hb⟩; refine ⟨_, rfl, ?_⟩; have n0_ := Aside0.mk (Kd.R_below (by (with_reducible repeat (first | apply Kd.R_alloc | apply Kd.R_drewN | apply Kd.R_drew)); exact HO_6.out) hb); have n1_ := Aside0.mk (Kd.R_below (by (with_reducible repeat (first | apply Kd.R_alloc | apply Kd.R_drewN | apply Kd.R_drew)); exact HO_8.out) hb); have n2_ := Aside0.mk (Kd.R_below (by (with_reducible repeat (first | apply Kd.R_alloc | apply Kd.R_drewN | apply Kd.R_drew)); exact HO_9.out) hb); have n3_ := Aside0.mk (Kd.R_below (by (with_reducible repeat (first | apply Kd.R_alloc | apply Kd.R_drewN | apply Kd.R_drew)); exact HO860.out) hb); have n4_ := Aside0.mk (blk_below (g := gb835) (o := .cells #[.int .i64 a1_0, .int .i64 a1_1, .bool a1_2] 68 (0, 0)) (by (with_reducible repeat (first | refine blk_drewN ?_ _ | refine blk_drew ?_ | refine blk_alloc ?_ _)); exact BK835.out) hb); have n5_ := Aside0.mk (below_step (by repeat (first | (with_reducible first | exact HB.out | apply below_alloc | apply pw_below_drewN | apply below_drew1 | refine below_set ?_ GE835.out) | exact HB.out)) hb); clear HO_6; clear HO_8; clear HO_9; clear HO860; clear BK835; clear HB; have HO_6 := n0_; have HO_8 := n1_; have HO_9 := n2_; have HO860 := n3_; have BK835 := n4_; have HB := n5_; clear n0_ n1_ n2_ n3_ n4_ n5_; (try clear hb); (try clear hb2); (try clear hk); (try clear hi)))
            go_ret
            exact ⟨by first | rfl | (simp [errW_none, errW_some] <;> rfl) | (simp [*, errW_none, errW_some] <;> rfl), by repeat (first | (with_reducible first | exact HB.out | apply below_alloc | apply pw_below_drewN | apply below_drew1 | refine below_set ?_ GE835.out) | exact HB.out)⟩

end Go.Proofs.Ytdpejnckojhgjaa.P
end
section
namespace Go.Proofs.Ytdpejnckojhgjaa.P
open Go.RowKit Go.Proofs.YtdpejnckojhgjaaW.PrintWords Go.Proofs.YtdpejnckojhgjaaW.PrintLast Go.Proofs.YtdpejnckojhgjaaW.PrintMore
attribute [local go_sem] max2_int min2_int max_two min_two max_three min_three max_four min_four   -- for this text's walks alone
set_option linter.unusedVariables false
set_option linter.unusedSimpArgs false

/-! ### spec_l01In: function 72 -/
def spec_l01In.f (a0 : Int) (a1 : Int) (a2 : Int) : Option (Bool) := if a0 ≥ a1 then (some (decide (a0 ≤ a2))) else (some false)
set_option maxHeartbeats 8000000 in
set_option maxRecDepth 100000 in
theorem spec_l01In.calls (a0 : Int) (a1 : Int) (a2 : Int) (r : Bool) (w : World) (h : spec_l01In.f a0 a1 a2 = some r) :
    Calls Try.prog 72 #[.int .i64 a0, .int .i64 a1, .int .i64 a2] w fun e w' => e = .returned (.bool r) ∧ Drawn0 w w' := by
  have H : (if a0 ≥ a1 then (some (decide (a0 ≤ a2))) else (some false)) = some r := h
  clear h
  by_cases c4 : a0 ≥ a1
  · rw [if_pos c4] at H
    have c4b0 : decide (a1 ≤ a0) = true := decide_eq_true c4
    clear c4
    obtain rfl := Option.some.inj H
    go_enter Try.func72, Try.ntmps72
    go_wp2
    go_ret
    exact ⟨by first | rfl | (simp; done) | (simp [*]; done), by repeat (first | exact Drawn0.refl _ | apply Drawn0.step)⟩
  · rw [if_neg c4] at H
    have c4b0 : decide (a1 ≤ a0) = false := decide_eq_false c4
    clear c4
    obtain rfl := Option.some.inj H
    go_enter Try.func72, Try.ntmps72
    go_wp2
    go_ret
    exact ⟨by first | rfl | (simp; done) | (simp [*]; done), by repeat (first | exact Drawn0.refl _ | apply Drawn0.step)⟩

end Go.Proofs.Ytdpejnckojhgjaa.P
end
section
namespace Go.Proofs.Ytdpejnckojhgjaa.P
open Go.RowKit Go.Proofs.YtdpejnckojhgjaaW.PrintWords Go.Proofs.YtdpejnckojhgjaaW.PrintLast Go.Proofs.YtdpejnckojhgjaaW.PrintMore
attribute [local go_sem] max2_int min2_int max_two min_two max_three min_three max_four min_four   -- for this text's walks alone
set_option linter.unusedVariables false
set_option linter.unusedSimpArgs false

/-! ### spec_CutRegions: function 24 -/
def spec_CutRegions.j0 : Nat → List (S70) → Int → Int → Bool → Option ((List (S70)) × Bool)
  | 0, _, _, _, _ => none
  | k + 1, x0, x1, x2, x17 => if x17 = true then (some ((([] : List (S70))), false)) else ((spec_l06Marks.f k x0).bind fun t241 => ((spec_l06Set.f k t241 x1 x2 0).bind fun bt244 => (some (bt244.1, bt244.2.1))))
def spec_CutRegions.f (k : Nat) (l0 : List (S70)) (a1 : Int) (a2 : Int) : Option ((List (S70)) × Bool) := (spec_RegionsOk.f k l0).bind fun t236 => (if t236 = true then ((spec_l06One.f a1 a2 false).bind fun t237 => (spec_CutRegions.j0 k l0 a1 a2 (!t237))) else (spec_CutRegions.j0 k l0 a1 a2 true))
theorem spec_CutRegions.mono_l : ∀ k, (∀ y0 y1 y2 y3, LeO (spec_CutRegions.j0 k y0 y1 y2 y3) (spec_CutRegions.j0 (k + 1) y0 y1 y2 y3))
  | 0 => fun _ _ _ _ r h => by simp [spec_CutRegions.j0] at h
  | k + 1 => by
    have ih0 := spec_CutRegions.mono_l k
    · intro y0 y1 y2 y3
      unfold spec_CutRegions.j0
      repeat' first
      | (with_reducible exact ih0 _ _ _ _)
      | (with_reducible exact spec_RegionsOk.mono _ _)
      | (with_reducible exact spec_l06Marks.mono _ _)
      | (with_reducible exact spec_l06Set.mono _ _ _ _ _)
      | (with_reducible exact LeO.refl _)
      | (with_reducible exact LeO.none _)
      | (with_reducible refine LeO.ite ?_ ?_)
      | (with_reducible refine LeO.bind ?_ (fun _ => ?_))
      | exact ih0 _ _ _ _
      | exact spec_RegionsOk.mono _ _
      | exact spec_l06Marks.mono _ _
      | exact spec_l06Set.mono _ _ _ _ _
      | exact LeO.none _
      | refine LeO.ite ?_ ?_
      | refine LeO.bind ?_ (fun _ => ?_)
theorem spec_CutRegions.mono : ∀ a0 a1 a2 k, LeO (spec_CutRegions.f k a0 a1 a2) (spec_CutRegions.f (k + 1) a0 a1 a2) := by
  intro a0 a1 a2 k
  have ih0 := spec_CutRegions.mono_l k
  unfold spec_CutRegions.f
  repeat' first
      | (with_reducible exact ih0 _ _ _ _)
      | (with_reducible exact spec_RegionsOk.mono _ _)
      | (with_reducible exact spec_l06Marks.mono _ _)
      | (with_reducible exact spec_l06Set.mono _ _ _ _ _)
      | (with_reducible exact LeO.refl _)
      | (with_reducible exact LeO.none _)
      | (with_reducible refine LeO.ite ?_ ?_)
      | (with_reducible refine LeO.bind ?_ (fun _ => ?_))
      | exact ih0 _ _ _ _
      | exact spec_RegionsOk.mono _ _
      | exact spec_l06Marks.mono _ _
      | exact spec_l06Set.mono _ _ _ _ _
      | exact LeO.none _
      | refine LeO.ite ?_ ?_
      | refine LeO.bind ?_ (fun _ => ?_)
set_option maxHeartbeats 8000000 in
set_option maxRecDepth 100000 in
theorem spec_CutRegions.calls (k : Nat) (A0 : Option Addr) (c0 : Nat) (l0 : List (S70)) (a1 : Int) (a2 : Int) (r1 : List (S70)) (r2 : Bool) (w : World) (hr0 : Kd.C k70 w A0 l0.length l0) (hc0 : l0.length ≤ c0) (h : spec_CutRegions.f k l0 a1 a2 = some (r1, r2)) :
    Calls Try.prog 24 #[.slice A0 l0.length c0, .int .i64 a1, .int .i64 a2] w fun e w' => ∃ v0_ : Value, e = .returned (.tuple #[v0_, .bool r2]) ∧ Kd.R k70 70 w' w.heap.size (fun _ => True) v0_ r1 ∧ Below w.heap.size w w' := by
  have hu70 := Try.underlying70
  have HR0 := Aside0.mk hr0
  have HC0 := Aside0.mk hc0
  clear hr0 hc0
  have HB := Aside0.mk (Below.refl w.heap.size w)
  have H : ((spec_RegionsOk.f k l0).bind fun t236 => (if t236 = true then ((spec_l06One.f a1 a2 false).bind fun t237 => (spec_CutRegions.j0 k l0 a1 a2 (!t237))) else (spec_CutRegions.j0 k l0 a1 a2 true))) = some (r1, r2) := h
  clear h
  have HC4 := Aside0.mk H
  clear H
  go_enter Try.func24, Try.ntmps24
  go_upto_region 1 with (fail)
  go_cut [17] (fun v17 wc => ∃ (kq : Nat) (x17_3 : Bool), v17 = .bool x17_3 ∧ Aside0 (spec_CutRegions.j0 kq l0 a1 a2 x17_3 = some (r1, r2)) ∧ Aside0 (kq ≤ k) ∧ Aside0 (Below w.heap.size w wc))
  case first =>
    have H := HC4.out
    clear HC4
    replace H := Option.bind_eq_some_iff.mp H
    obtain ⟨t236, A50, H⟩ := H
    replace H : (if t236 = true then ((spec_l06One.f a1 a2 false).bind fun t237 => (spec_CutRegions.j0 k l0 a1 a2 (!t237))) else (spec_CutRegions.j0 k l0 a1 a2 true)) = some (r1, r2) := H
    have A5 := Aside0.mk A50
    clear A50
    by_cases c6 : t236 = true
    · subst c6
      have H1 : ((spec_l06One.f a1 a2 false).bind fun t237 => (spec_CutRegions.j0 k l0 a1 a2 (!t237))) = some (r1, r2) := by rw [if_pos rfl] at H; exact H
      clear H
      have H := H1
      clear H1
      replace H := Option.bind_eq_some_iff.mp H
      obtain ⟨t237, A70, H⟩ := H
      replace H : (spec_CutRegions.j0 k l0 a1 a2 (!t237)) = some (r1, r2) := H
      have A7 := Aside0.mk A70
      clear A70
      have H' := Aside0.mk H
      clear H
      go_wp2_with (first | ((with_reducible refine gate_callee (f := 79) rfl ?_); refine goesL_ (some 9) rfl rfl Try.func79 (by kernel_rfl) rfl #[.slice A0 l0.length c0] rfl (by (try simp only [List.map_toArray, List.map_cons, List.map_nil]); first | done | rfl | (simp only [List.length_drop, List.length_take]; rfl)) ?_; (with_reducible refine (spec_RegionsOk.calls k _ _ l0 true _ ?side1 ?side2 A5.out).mono ?_); (case side1 => repeat (first | exact (Kd.C_below HR0.out HB.out) | (with_reducible refine Kd.C_alloc ?_ _) | (with_reducible refine Kd.C_drewN ?_ _) | (with_reducible refine Kd.C_drew ?_))); (case side2 => exact HC0.out); rintro e w8 ⟨rfl, hb⟩; refine ⟨_, rfl, ?_⟩; have n0_ := Aside0.mk (below_step (by repeat (first | (with_reducible first | exact HB.out | apply below_alloc | apply pw_below_drewN | apply below_drew1) | exact HB.out)) hb); clear HB; have HB := n0_; clear n0_; (try clear hb); (try clear hb2); (try clear hk); (try clear hi)) | (go_at_call 80; (with_reducible refine (spec_l06One.calls a1 a2 false t237 _ A7.out).mono ?_); rintro e w9 ⟨rfl, hb⟩; have n0_ := Aside0.mk (below_step (by repeat (first | (with_reducible first | exact HB.out | apply below_alloc | apply pw_below_drewN | apply below_drew1) | exact HB.out)) hb); clear HB; have HB := n0_; clear n0_; (try clear hb); (try clear hb2); (try clear hk); (try clear hi)))
      go_meet
      case rel => exact ⟨_, (!t237), (by first | rfl | (simp; done) | (simp [*]; done)), H', ⟨by first | omega | exact Nat.le_refl _⟩, ⟨by repeat (first | (with_reducible first | exact HB.out | apply below_alloc | apply pw_below_drewN | apply below_drew1) | exact HB.out)⟩⟩
    · replace c6 := Bool.eq_false_iff.mpr c6
      subst c6
      have H1 : (spec_CutRegions.j0 k l0 a1 a2 true) = some (r1, r2) := by rw [if_neg (show ¬ (false = true) by decide)] at H; exact H
      clear H
      have H := H1
      clear H1
      have H' := Aside0.mk H
      clear H
      go_wp2_with (first | ((with_reducible refine gate_callee (f := 79) rfl ?_); refine goesL_ (some 9) rfl rfl Try.func79 (by kernel_rfl) rfl #[.slice A0 l0.length c0] rfl (by (try simp only [List.map_toArray, List.map_cons, List.map_nil]); first | done | rfl | (simp only [List.length_drop, List.length_take]; rfl)) ?_; (with_reducible refine (spec_RegionsOk.calls k _ _ l0 false _ ?side1 ?side2 A5.out).mono ?_); (case side1 => repeat (first | exact (Kd.C_below HR0.out HB.out) | (with_reducible refine Kd.C_alloc ?_ _) | (with_reducible refine Kd.C_drewN ?_ _) | (with_reducible refine Kd.C_drew ?_))); (case side2 => exact HC0.out); rintro e w10 ⟨rfl, hb⟩; refine ⟨_, rfl, ?_⟩; have n0_ := Aside0.mk (below_step (by repeat (first | (with_reducible first | exact HB.out | apply below_alloc | apply pw_below_drewN | apply below_drew1) | exact HB.out)) hb); clear HB; have HB := n0_; clear n0_; (try clear hb); (try clear hb2); (try clear hk); (try clear hi)))
      go_meet
      case rel => exact ⟨_, (true), (by first | rfl | (simp; done) | (simp [*]; done)), H', ⟨by first | omega | exact Nat.le_refl _⟩, ⟨by repeat (first | (with_reducible first | exact HB.out | apply below_alloc | apply pw_below_drewN | apply below_drew1) | exact HB.out)⟩⟩
  case rest =>
    clear HC4
    try clear c2
    try clear p2
    try clear c6
    try clear c7
    obtain ⟨kq, x17_3, rfl, HA, HJ3, HB⟩ := hcut
    cases kq with
    | zero => exact absurd HA.out (by simp [spec_CutRegions.j0])
    | succ kj3 =>
      have H := HA.out
      clear HA
      simp only [spec_CutRegions.j0] at H
      by_cases c11 : x17_3 = true
      · subst c11
        have H1 : (some ((([] : List (S70))), false)) = some (r1, r2) := by rw [if_pos rfl] at H; exact H
        clear H
        have H := H1
        clear H1
        obtain ⟨y238, hy238⟩ : ∃ y_ : List (S70), y_ = (([] : List (S70))) := ⟨_, rfl⟩
        replace H : (some (y238, false)) = some (r1, r2) := by first | (rw [hy238]; with_reducible exact H) | (have H2_ := (Option.bind_some _ _).symm.trans H; rw [hy238]; with_reducible exact H2_) | (have H2_ := (Option.bind_some _ _).symm.trans H; with_reducible exact H2_) | with_reducible exact H | (rw [hy238]; exact H) | exact H
        have Ny238 := Aside0.mk hy238
        clear hy238
        simp only [Option.some.injEq, Prod.mk.injEq] at H
        obtain ⟨rfl, rfl⟩ := H
        go_wp2_with (first | ((with_reducible refine gate_dst (N := 18) rfl ?_); refine Kd.R_lit k70 _ 70 ?hg (N := 18) ?hd (xs := ([] : List (S70))) (inner := []) (ok := fun _ => True) (okp := fun _ => True) ?hr ?hp (fun _ hk => hk) trivial (Below.refl _ _) (Nat.le_refl _) (by simp) ?_; (case hd => rfl); (case hg => rfl); (case hr => first | (go_simp; done) | (go_simp; rfl)); (case hp => exact (Reps.none _ _)); intro v239 w12 ho13 hb hg_ hnew_; clear hg_ hnew_; (first | rw [← Ny238.out] at ho13 | (simp only [Int.reduceToNat] at ho13; rw [← Ny238.out] at ho13)); have n0_ := Aside0.mk (Kd.R_lower ho13 (below_size (by repeat (first | (with_reducible first | exact HB.out | apply below_alloc | apply pw_below_drewN | apply below_drew1) | exact HB.out)))); have n1_ := Aside0.mk (below_step (by repeat (first | (with_reducible first | exact HB.out | apply below_alloc | apply pw_below_drewN | apply below_drew1) | exact HB.out)) hb); clear HB; have HO240 := n0_; have HB := n1_; clear n0_ n1_; clear hb ho13))
        go_ret2
        exact ⟨_, by first | rfl | (simp [errW_none, errW_some] <;> rfl) | (simp [*, errW_none, errW_some] <;> rfl), by (with_reducible repeat (first | apply Kd.R_alloc | apply Kd.R_drewN | apply Kd.R_drew)); exact HO240.out, by repeat (first | (with_reducible first | exact HB.out | apply below_alloc | apply pw_below_drewN | apply below_drew1) | exact HB.out)⟩
      · replace c11 := Bool.eq_false_iff.mpr c11
        subst c11
        have H1 : ((spec_l06Marks.f kj3 l0).bind fun t241 => ((spec_l06Set.f kj3 t241 a1 a2 0).bind fun bt244 => (some (bt244.1, bt244.2.1)))) = some (r1, r2) := by rw [if_neg (show ¬ (false = true) by decide)] at H; exact H
        clear H
        have H := H1
        clear H1
        replace H := Option.bind_eq_some_iff.mp H
        obtain ⟨t241, A140, H⟩ := H
        replace H : ((spec_l06Set.f kj3 t241 a1 a2 0).bind fun bt244 => (some (bt244.1, bt244.2.1))) = some (r1, r2) := H
        have A14 := Aside0.mk A140
        clear A140
        replace H := Option.bind_eq_some_iff.mp H
        obtain ⟨⟨t244, t247, t248⟩, A150, H⟩ := H
        replace H : (some (t244, t247)) = some (r1, r2) := H
        have A15 := Aside0.mk A150
        clear A150
        simp only [Option.some.injEq, Prod.mk.injEq] at H
        obtain ⟨rfl, rfl⟩ := H
        go_wp2_with (first | ((with_reducible refine gate_callee (f := 82) rfl ?_); refine goesL_ (some 20) rfl rfl Try.func82 (by kernel_rfl) rfl #[.slice A0 l0.length c0] rfl (by (try simp only [List.map_toArray, List.map_cons, List.map_nil]); first | done | rfl | (simp only [List.length_drop, List.length_take]; rfl)) ?_; (with_reducible refine (spec_l06Marks.calls kj3 _ _ l0 t241 _ ?side1 ?side2 A14.out).mono ?_); (case side1 => repeat (first | exact (Kd.C_below HR0.out HB.out) | (with_reducible refine Kd.C_alloc ?_ _) | (with_reducible refine Kd.C_drewN ?_ _) | (with_reducible refine Kd.C_drew ?_))); (case side2 => exact HC0.out); rintro e w16 ⟨v242, rfl, ho0, hb⟩; refine ⟨_, rfl, ?_⟩; have n0_ := Aside0.mk (Kd.R_lower ho0 (below_size (by repeat (first | (with_reducible first | exact HB.out | apply below_alloc | apply pw_below_drewN | apply below_drew1) | exact HB.out)))); have n1_ := Aside0.mk (below_step (by repeat (first | (with_reducible first | exact HB.out | apply below_alloc | apply pw_below_drewN | apply below_drew1) | exact HB.out)) hb); clear HB; have HO243 := n0_; have HB := n1_; clear n0_ n1_; (try clear hb); (try clear hb2); (try clear hk); (try clear hi); (try clear ho0); obtain ⟨Ao17, co17, eo17⟩ := Kd.R_slice HO243.out; subst eo17) | ((with_reducible refine gate_callee (f := 81) rfl ?_); refine goesL_ (some 23) rfl rfl Try.func81 (by kernel_rfl) rfl #[.slice Ao17 t241.length co17, .int .i64 a1, .int .i64 a2, .int .i64 0] rfl (by (try simp only [List.map_toArray, List.map_cons, List.map_nil]); first | done | rfl | (simp only [List.length_drop, List.length_take]; rfl)) ?_; (with_reducible refine (spec_l06Set.calls kj3 (fun k_ => some k_ = (.slice Ao17 t241.length co17 : Value).ownBlock) (.slice Ao17 t241.length co17) t241 a1 a2 0 t244 t247 t248 w _ ?side1 ?side2 A15.out).mono ?_); (case side1 => repeat (first | (with_reducible first | exact HB.out | apply below_alloc | apply pw_below_drewN | apply below_drew1) | exact HB.out)); (case side2 => exact Kd.R_tight rfl HO243.out); rintro e w18 ⟨v245, rfl, ho0, hy0, hb, hkp⟩; refine ⟨_, rfl, ?_⟩; have n0_ := Aside0.mk (Kd.R_reok rfl hy0 (fun k_ e_ => HO243.out.1 k_ e_)); have n1_ := Aside0.mk (Kd.R_mono (ok' := fun k_ => True) ho0 (fun k_ hk_ => trivial)); have n2_ := Aside0.mk (hb); clear HO243; clear HB; have HO243 := n0_; have HO246 := n1_; have HB := n2_; clear n0_ n1_ n2_; (try clear hb); (try clear hkp); (try clear ho0); (try clear hy0)))
        go_ret2
        exact ⟨_, by first | rfl | (simp [errW_none, errW_some] <;> rfl) | (simp [*, errW_none, errW_some] <;> rfl), by (with_reducible repeat (first | apply Kd.R_alloc | apply Kd.R_drewN | apply Kd.R_drew)); exact HO246.out, by repeat (first | (with_reducible first | exact HB.out | apply below_alloc | apply pw_below_drewN | apply below_drew1) | exact HB.out)⟩

end Go.Proofs.Ytdpejnckojhgjaa.P
end
section
namespace Go.Proofs.Ytdpejnckojhgjaa.P
open Go.RowKit Go.Proofs.YtdpejnckojhgjaaW.PrintWords Go.Proofs.YtdpejnckojhgjaaW.PrintLast Go.Proofs.YtdpejnckojhgjaaW.PrintMore
attribute [local go_sem] max2_int min2_int max_two min_two max_three min_three max_four min_four   -- for this text's walks alone
set_option linter.unusedVariables false
set_option linter.unusedSimpArgs false

/-! ### impl_CutRegions: function 26 -/
def impl_CutRegions.f (k : Nat) (l0 : List S70) (a1 a2 : Int) : Option (List S70 × Bool) := (impl_RegionsOk.f k l0).bind fun t1 => (if t1 = true then ((impl_isSpan.f a1 a2).bind fun t2 => (if t2 = true then (impl_painted.f k l0 a1 a2 0) else (some ([], false)))) else (some ([], false)))
theorem impl_CutRegions.mono : ∀ a0 a1 a2 k, LeO (impl_CutRegions.f k a0 a1 a2) (impl_CutRegions.f (k + 1) a0 a1 a2) := by
  intro a0 a1 a2 k
  unfold impl_CutRegions.f
  repeat' first
      | (with_reducible exact impl_RegionsOk.mono _ _)
      | (with_reducible exact impl_painted.mono _ _ _ _ _)
      | (with_reducible exact LeO.refl _)
      | (with_reducible exact LeO.none _)
      | (with_reducible refine LeO.ite ?_ ?_)
      | (with_reducible refine LeO.bind ?_ (fun _ => ?_))
set_option maxHeartbeats 8000000 in
set_option maxRecDepth 100000 in
theorem impl_CutRegions.calls (k : Nat) (A0 : Option Addr) (c0 : Nat) (l0 : List S70) (a1 : Int) (a2 : Int) (r1 : List S70) (r2 : Bool) (w : World) (hr0 : Kd.C k70 w A0 l0.length l0) (hc0 : l0.length ≤ c0) (h : impl_CutRegions.f k l0 a1 a2 = some (r1, r2)) :
    Calls Try.prog 26 #[.slice A0 l0.length c0, .int .i64 a1, .int .i64 a2] w fun e w' => ∃ v0_ : Value, e = .returned (.tuple #[v0_, .bool r2]) ∧ Kd.R k70 70 w' w.heap.size (fun _ => True) v0_ r1 ∧ Below w.heap.size w w' := by
  have HR0 := Aside0.mk hr0
  have HC0 := Aside0.mk hc0
  clear hr0 hc0
  have HB := Aside0.mk (Below.refl w.heap.size w)
  have H := h
  clear h
  unfold impl_CutRegions.f at H
  obtain ⟨t1, A1, H⟩ := Option.bind_eq_some_iff.mp H
  have A1 := Aside0.mk A1
  cases t1 with
  | false =>
    simp only [Bool.false_eq_true, if_false, Option.some.injEq, Prod.mk.injEq] at H
    obtain ⟨rfl, rfl⟩ := H
    go_enter Try.func26, Try.ntmps26
    go_wp2_with (first | ((with_reducible refine gate_callee (f := 64) rfl ?_); refine goesL_ (some 9) rfl rfl Try.func64 (by kernel_rfl) rfl #[.slice A0 l0.length c0] rfl (by (try simp only [List.map_toArray, List.map_cons, List.map_nil]); first | done | rfl) ?_; (with_reducible refine (impl_RegionsOk.calls k _ _ l0 false _ ?side1 ?side2 A1.out).mono ?_); (case side1 => exact Kd.C_below HR0.out HB.out); (case side2 => exact HC0.out); rintro e w1 ⟨rfl, hb⟩; refine ⟨_, rfl, ?_⟩; have n0_ := Aside0.mk (below_step HB.out hb); clear HB; have HB := n0_; clear n0_ hb))
    go_ret2
    exact ⟨_, rfl, Kd.R_nil _ _ _ _ _, HB.out⟩
  | true =>
    simp only [if_true] at H
    obtain ⟨t2, A2, H⟩ := Option.bind_eq_some_iff.mp H
    have A2 := Aside0.mk A2
    cases t2 with
    | false =>
      simp only [Bool.false_eq_true, if_false, Option.some.injEq, Prod.mk.injEq] at H
      obtain ⟨rfl, rfl⟩ := H
      go_enter Try.func26, Try.ntmps26
      go_wp2_with (first | ((with_reducible refine gate_callee (f := 64) rfl ?_); refine goesL_ (some 9) rfl rfl Try.func64 (by kernel_rfl) rfl #[.slice A0 l0.length c0] rfl (by (try simp only [List.map_toArray, List.map_cons, List.map_nil]); first | done | rfl) ?_; (with_reducible refine (impl_RegionsOk.calls k _ _ l0 true _ ?side1 ?side2 A1.out).mono ?_); (case side1 => exact Kd.C_below HR0.out HB.out); (case side2 => exact HC0.out); rintro e w1 ⟨rfl, hb⟩; refine ⟨_, rfl, ?_⟩; have n0_ := Aside0.mk (below_step HB.out hb); clear HB; have HB := n0_; clear n0_ hb) | (go_at_call 83; (with_reducible refine (impl_isSpan.calls a1 a2 false _ A2.out).mono ?_); rintro e w2 ⟨rfl, hd_⟩; have hb := Drawn0.below hd_; have n0_ := Aside0.mk (below_step HB.out hb); clear HB; have HB := n0_; clear n0_ hb hd_))
      go_ret2
      exact ⟨_, rfl, Kd.R_nil _ _ _ _ _, HB.out⟩
    | true =>
      simp only [if_true] at H
      have H' := Aside0.mk H
      clear H
      go_enter Try.func26, Try.ntmps26
      go_wp2_with (first | ((with_reducible refine gate_callee (f := 64) rfl ?_); refine goesL_ (some 9) rfl rfl Try.func64 (by kernel_rfl) rfl #[.slice A0 l0.length c0] rfl (by (try simp only [List.map_toArray, List.map_cons, List.map_nil]); first | done | rfl) ?_; (with_reducible refine (impl_RegionsOk.calls k _ _ l0 true _ ?side1 ?side2 A1.out).mono ?_); (case side1 => exact Kd.C_below HR0.out HB.out); (case side2 => exact HC0.out); rintro e w1 ⟨rfl, hb⟩; refine ⟨_, rfl, ?_⟩; have n0_ := Aside0.mk (below_step HB.out hb); clear HB; have HB := n0_; clear n0_ hb) | (go_at_call 83; (with_reducible refine (impl_isSpan.calls a1 a2 true _ A2.out).mono ?_); rintro e w2 ⟨rfl, hd_⟩; have hb := Drawn0.below hd_; have n0_ := Aside0.mk (below_step HB.out hb); clear HB; have HB := n0_; clear n0_ hb hd_) | ((with_reducible refine gate_callee (f := 84) rfl ?_); refine goesL_ (some 20) rfl rfl Try.func84 (by kernel_rfl) rfl #[.slice A0 l0.length c0, .int .i64 a1, .int .i64 a2, .int .i64 0] rfl (by (try simp only [List.map_toArray, List.map_cons, List.map_nil]); first | done | rfl) ?_; (with_reducible refine (impl_painted.calls k _ _ l0 a1 a2 0 r1 r2 _ ?side1 ?side2 H'.out).mono ?_); (case side1 => exact Kd.C_below HR0.out HB.out); (case side2 => exact HC0.out); rintro e w9 ⟨v9, rfl, ho, hb⟩; refine ⟨_, rfl, ?_⟩; have n1_ := Aside0.mk (Kd.R_lower ho HB.out.size); have n0_ := Aside0.mk (below_step HB.out hb); clear HB; have HB := n0_; have HO := n1_; clear n0_ n1_ hb ho))
      go_ret2
      exact ⟨_, rfl, HO.out, HB.out⟩

end Go.Proofs.Ytdpejnckojhgjaa.P
end
section
namespace Go.Proofs.Ytdpejnckojhgjaa.Aid
open Go.RowKit Go.Proofs.YtdpejnckojhgjaaW.PrintWords

theorem wrap64_id {n : Int} (h : -9223372036854775808 ≤ n) (h2 : n ≤ 9223372036854775807) : wrap64 n = n := by unfold wrap64; omega
theorem wf_i64 {n : Int} (h : (Lit.int .i64 n).wf = true) : -9223372036854775808 ≤ n ∧ n ≤ 9223372036854775807 := by
  simpa [Lit.wf, IntKind.min, IntKind.max, IntKind.bits, IntKind.signed] using h

theorem and255 (n : Int) : bits .and .i64 n 255 = n % 256 := by
  have h127 : (BitVec.ofInt 64 255).toNat = 2 ^ 8 - 1 := by decide
  have key : (BitVec.ofInt 64 n &&& BitVec.ofInt 64 255).toNat = (n % ((2 ^ 64 : Nat) : Int)).toNat % 2 ^ 8 := by
    rw [BitVec.toNat_and, BitVec.toNat_ofInt, h127, Nat.and_two_pow_sub_one_eq_mod]
  show IntKind.i64.wrap ((BitVec.ofInt 64 n &&& BitVec.ofInt 64 255).toNat : Nat) = n % 256
  rw [key, IntKind.wrap_i64]
  omega

theorem tmod_nonneg {a b : Int} (ha : 0 ≤ a) (_hb : 0 < b) : Int.tmod a b = a % b := Int.tmod_eq_emod_of_nonneg ha
theorem tdiv_nonneg {a b : Int} (ha : 0 ≤ a) : Int.tdiv a b = a / b := Int.tdiv_eq_ediv_of_nonneg ha

/-! Loops over an index -/
theorem Ev.of_succ {α : Type} {g : Nat → Option α} {r : α} (h : ∀ k, g (k + 1) = some r) : Ev g r :=
  ⟨1, fun n hn => by obtain ⟨m, rfl⟩ : ∃ m, n = m + 1 := ⟨n - 1, by omega⟩; exact h m⟩
theorem Ev.const {α : Type} {g : Nat → Option α} {r : α} (h : ∀ k, g k = some r) : Ev g r := ⟨0, fun n _ => h n⟩
/-- A loop that asks one thing of each index. -/
theorem ev_all {ρ : Type} (g : Nat → Nat → Option ρ) (n : Nat) (B : Nat → Bool) (no yes : ρ)
    (h1 : ∀ i, i < n → B i = true → ∀ r, Ev (fun k => g k (i + 1)) r → Ev (fun k => g k i) r)
    (h2 : ∀ i, i < n → B i = false → Ev (fun k => g k i) no)
    (h3 : Ev (fun k => g k n) yes) : ∀ d i, i + d = n → Ev (fun k => g k i) (if (List.range' i d).all B = true then yes else no) := by
  intro d
  induction d with
  | zero =>
    intro i hi
    obtain rfl : i = n := by omega
    simpa using h3
  | succ d ih =>
    intro i hi
    rw [List.range'_succ, List.all_cons]
    cases hb : B i with
    | true => simp only [Bool.true_and]; exact h1 i (by omega) hb _ (ih (i + 1) (by omega))
    | false => simp only [Bool.false_and, Bool.false_eq_true, if_false]; exact h2 i (by omega) hb
theorem ev_yes {ρ : Type} (g : Nat → Nat → Option ρ) (n : Nat) (B : Nat → Bool) (r : ρ)
    (h1 : ∀ i, i < n → B i = true → ∀ r, Ev (fun k => g k (i + 1)) r → Ev (fun k => g k i) r)
    (hall : (List.range n).all B = true) (h3 : Ev (fun k => g k n) r) : Ev (fun k => g k 0) r := by
  have key : ∀ d i, i + d = n → Ev (fun k => g k i) r := by
    intro d
    induction d with
    | zero =>
      intro i hi
      obtain rfl : i = n := by omega
      exact h3
    | succ d ih =>
      intro i hi
      exact h1 i (by omega) (List.all_eq_true.1 hall i (List.mem_range.2 (by omega))) _ (ih (i + 1) (by omega))
  exact key n 0 (by omega)
theorem ev_no {ρ : Type} (g : Nat → Nat → Option ρ) (n : Nat) (B : Nat → Bool) (no : ρ)
    (h1 : ∀ i, i < n → B i = true → ∀ r, Ev (fun k => g k (i + 1)) r → Ev (fun k => g k i) r)
    (h2 : ∀ i, i < n → B i = false → Ev (fun k => g k i) no)
    (hall : (List.range n).all B = false) : Ev (fun k => g k 0) no := by
  have key : ∀ d i, i + d = n → (List.range' i d).all B = false → Ev (fun k => g k i) no := by
    intro d
    induction d with
    | zero => intro i _ h; simp at h
    | succ d ih =>
      intro i hi h
      rw [List.range'_succ, List.all_cons] at h
      cases hb : B i with
      | true => exact h1 i (by omega) hb _ (ih (i + 1) (by omega) (by simpa [hb] using h))
      | false => exact h2 i (by omega) hb
  exact key n 0 (by omega) (by rw [← List.range_eq_range']; exact hall)
theorem ev_all0 {ρ : Type} (g : Nat → Nat → Option ρ) (n : Nat) (B : Nat → Bool) (no yes : ρ)
    (h1 : ∀ i, i < n → B i = true → ∀ r, Ev (fun k => g k (i + 1)) r → Ev (fun k => g k i) r)
    (h2 : ∀ i, i < n → B i = false → Ev (fun k => g k i) no)
    (h3 : Ev (fun k => g k n) yes) : Ev (fun k => g k 0) (if (List.range n).all B = true then yes else no) := by
  rw [List.range_eq_range']
  exact ev_all g n B no yes h1 h2 h3 n 0 (by omega)
/-- The same, where what was asked before is known. -/
theorem ev_yesp {ρ : Type} (g : Nat → Nat → Option ρ) (n : Nat) (B : Nat → Bool) (r : ρ)
    (h1 : ∀ i, i < n → (∀ j, j < i → B j = true) → B i = true → ∀ r, Ev (fun k => g k (i + 1)) r → Ev (fun k => g k i) r)
    (hall : (List.range n).all B = true) (h3 : Ev (fun k => g k n) r) : Ev (fun k => g k 0) r := by
  have ha : ∀ i, i < n → B i = true := fun i hi => List.all_eq_true.1 hall i (List.mem_range.2 hi)
  have key : ∀ d i, i + d = n → Ev (fun k => g k i) r := by
    intro d
    induction d with
    | zero =>
      intro i hi
      obtain rfl : i = n := by omega
      exact h3
    | succ d ih =>
      intro i hi
      exact h1 i (by omega) (fun j hj => ha j (by omega)) (ha i (by omega)) _ (ih (i + 1) (by omega))
  exact key n 0 (by omega)
theorem ev_nop {ρ : Type} (g : Nat → Nat → Option ρ) (n : Nat) (B : Nat → Bool) (no : ρ)
    (h1 : ∀ i, i < n → (∀ j, j < i → B j = true) → B i = true → ∀ r, Ev (fun k => g k (i + 1)) r → Ev (fun k => g k i) r)
    (h2 : ∀ i, i < n → (∀ j, j < i → B j = true) → B i = false → Ev (fun k => g k i) no)
    (hall : (List.range n).all B = false) : Ev (fun k => g k 0) no := by
  have key : ∀ d i, i + d = n → (∀ j, j < i → B j = true) → Ev (fun k => g k i) no := by
    intro d
    induction d with
    | zero =>
      intro i hi h
      obtain rfl : i = n := by omega
      have : (List.range i).all B = true := List.all_eq_true.2 (fun j hj => h j (List.mem_range.1 hj))
      rw [this] at hall; cases hall
    | succ d ih =>
      intro i hi h
      cases hb : B i with
      | true => exact h1 i (by omega) h hb _ (ih (i + 1) (by omega) (fun j hj => by
          by_cases e : j = i
          · rw [e]; exact hb
          · exact h j (by omega)))
      | false => exact h2 i (by omega) h hb
  exact key n 0 (by omega) (fun j hj => by omega)
theorem ev_allp {ρ : Type} (g : Nat → Nat → Option ρ) (n : Nat) (B : Nat → Bool) (no yes : ρ)
    (h1 : ∀ i, i < n → (∀ j, j < i → B j = true) → B i = true → ∀ r, Ev (fun k => g k (i + 1)) r → Ev (fun k => g k i) r)
    (h2 : ∀ i, i < n → (∀ j, j < i → B j = true) → B i = false → Ev (fun k => g k i) no)
    (h3 : (∀ j, j < n → B j = true) → Ev (fun k => g k n) yes) : Ev (fun k => g k 0) (if (List.range n).all B = true then yes else no) := by
  cases hall : (List.range n).all B with
  | true =>
    rw [if_pos rfl]
    exact ev_yesp g n B yes h1 hall (h3 (fun j hj => List.all_eq_true.1 hall j (List.mem_range.2 hj)))
  | false =>
    rw [if_neg (by simp)]
    exact ev_nop g n B no h1 h2 hall
theorem range_all {α : Type} (xs : List α) (d : α) (P : α → Bool) : (List.range xs.length).all (fun i => P (xs.getD i d)) = xs.all P := by
  rw [Bool.eq_iff_iff, List.all_eq_true, List.all_eq_true]
  constructor
  · intro h x hx
    obtain ⟨i, hi, rfl⟩ := List.getElem_of_mem hx
    have := h i (List.mem_range.2 hi)
    simpa [List.getD_eq_getElem?_getD, List.getElem?_eq_getElem hi] using this
  · intro h i hi
    have hi := List.mem_range.1 hi
    have := h _ (List.getElem_mem hi)
    simpa [List.getD_eq_getElem?_getD, List.getElem?_eq_getElem hi] using this
/-- A loop that stores at each index. -/
theorem ev_copy {α ρ : Type} (g : Nat → List α → Nat → Option ρ) (n : Nat) (f : Nat → α) (fin : List α → ρ)
    (h1 : ∀ i acc, i < n → acc.length = n → ∀ r, Ev (fun k => g k (acc.set i (f i)) (i + 1)) r → Ev (fun k => g k acc i) r)
    (h3 : ∀ acc, acc.length = n → Ev (fun k => g k acc n) (fin acc)) : ∀ d i acc, i + d = n → acc.length = n → Ev (fun k => g k acc i) (fin (acc.take i ++ (List.range' i d).map f)) := by
  intro d
  induction d with
  | zero =>
    intro i acc hi hl
    obtain rfl : i = n := by omega
    simpa [← hl] using h3 acc hl
  | succ d ih =>
    intro i acc hi hl
    have h := ih (i + 1) (acc.set i (f i)) (by omega) (by simpa using hl)
    have e : (acc.set i (f i)).take (i + 1) ++ (List.range' (i + 1) d).map f = acc.take i ++ (List.range' i (d + 1)).map f := by
      rw [List.range'_succ, List.map_cons, List.take_succ_eq_append_getElem (by simp; omega), List.getElem_set_self, List.append_assoc]
      congr 1
      exact List.take_set_of_le (Nat.le_refl _)
    rw [e] at h
    exact h1 i acc (by omega) hl _ h
theorem ev_copy0 {α ρ : Type} (g : Nat → List α → Nat → Option ρ) (n : Nat) (f : Nat → α) (fin : List α → ρ)
    (h1 : ∀ i acc, i < n → acc.length = n → ∀ r, Ev (fun k => g k (acc.set i (f i)) (i + 1)) r → Ev (fun k => g k acc i) r)
    (h3 : ∀ acc, acc.length = n → Ev (fun k => g k acc n) (fin acc)) (acc : List α) (hl : acc.length = n) : Ev (fun k => g k acc 0) (fin ((List.range n).map f)) := by
  rw [List.range_eq_range']
  simpa using ev_copy g n f fin h1 h3 n 0 acc (by omega) hl
/-- A loop that carries a state. -/
theorem ev_fold {σ ρ : Type} (g : Nat → σ → Nat → Option ρ) (n : Nat) (f : σ → Nat → σ) (fin : σ → ρ) (Inv : Nat → σ → Prop)
    (h1 : ∀ i s, i < n → Inv i s → Inv (i + 1) (f s i) ∧ ∀ r, Ev (fun k => g k (f s i) (i + 1)) r → Ev (fun k => g k s i) r)
    (h3 : ∀ s, Inv n s → Ev (fun k => g k s n) (fin s)) (s : σ) (h0 : Inv 0 s) : Ev (fun k => g k s 0) (fin ((List.range n).foldl f s)) ∧ Inv n ((List.range n).foldl f s) := by
  have key : ∀ d i s, i + d = n → Inv i s → Ev (fun k => g k s i) (fin ((List.range' i d).foldl f s)) ∧ Inv n ((List.range' i d).foldl f s) := by
    intro d
    induction d with
    | zero =>
      intro i s hi hs
      obtain rfl : i = n := by omega
      simpa using ⟨h3 s hs, hs⟩
    | succ d ih =>
      intro i s hi hs
      obtain ⟨h4, h5⟩ := h1 i s (by omega) hs
      obtain ⟨h6, h7⟩ := ih (i + 1) (f s i) (by omega) h4
      rw [List.range'_succ, List.foldl_cons]
      exact ⟨h5 _ h6, h7⟩
  rw [List.range_eq_range']
  exact key n 0 s (by omega) h0
theorem range_map_getD {α : Type} (xs : List α) (d : α) : (List.range xs.length).map (fun i => xs.getD i d) = xs := by
  apply List.ext_getElem
  · simp
  · intro i h1 h2
    simp at h1
    simp [List.getD_eq_getElem?_getD, List.getElem?_eq_getElem h1]
theorem foldl_getD {α σ : Type} (f : σ → α → σ) (l : List α) (d : α) (s : σ) : (List.range l.length).foldl (fun s i => f s (l.getD i d)) s = l.foldl f s := by
  have := range_map_getD l d
  conv => rhs; rw [← this]
  rw [List.foldl_map]
theorem toNat_cast (i : Nat) : (i : Int).toNat = i := by omega
theorem wrap_succ {i : Nat} (h : i < 9223372036854775807) : wrap64 ((i : Int) + 1) = ((i + 1 : Nat) : Int) := by unfold wrap64; omega
theorem in_dec (a b c : Int) : (if a ≥ b then (some (decide (a ≤ c))) else (some false)) = some (decide (b ≤ a ∧ a ≤ c)) := by
  by_cases h : a ≥ b
  · rw [if_pos h]; congr 1; by_cases h2 : a ≤ c
    · rw [decide_eq_true h2, decide_eq_true ⟨h, h2⟩]
    · rw [decide_eq_false h2, decide_eq_false (fun x => h2 x.2)]
  · rw [if_neg h, decide_eq_false (fun x => h x.1)]
/-- What a count tells, where it does not refuse. -/
theorem ev_sz (g : Nat → Int → Nat → Option Int) (n : Nat) (sz : Nat → Nat)
    (h1 : ∀ i b, i < n → 0 ≤ b → b ≤ 1048576 → (sz i : Int) ≤ b → ∀ r, Ev (fun k => g k (b - sz i) (i + 1)) r → Ev (fun k => g k b i) r)
    (h2 : ∀ i b, i < n → 0 ≤ b → b ≤ 1048576 → ¬ (sz i : Int) ≤ b → Ev (fun k => g k b i) (-1)) (h3 : ∀ b, Ev (fun k => g k b n) b) (b : Int) (hb0 : 0 ≤ b) (hb1 : b ≤ 1048576) :
    ∃ r, Ev (fun k => g k b 0) r ∧ (0 ≤ r → (((List.range n).map sz).sum : Nat) + r ≤ b) := by
  have key : ∀ d i b, i + d = n → 0 ≤ b → b ≤ 1048576 → ∃ r, Ev (fun k => g k b i) r ∧ (0 ≤ r → (((List.range' i d).map sz).sum : Nat) + r ≤ b) := by
    intro d
    induction d with
    | zero =>
      intro i b hi _ _
      obtain rfl : i = n := by omega
      exact ⟨b, h3 b, fun _ => by simp⟩
    | succ d ih =>
      intro i b hi h0 hb
      by_cases hs : (sz i : Int) ≤ b
      · obtain ⟨r, hr, hq⟩ := ih (i + 1) (b - sz i) (by omega) (by omega) (by omega)
        refine ⟨r, h1 i b (by omega) h0 hb hs r hr, fun h => ?_⟩
        have := hq h
        rw [List.range'_succ, List.map_cons, List.sum_cons]
        omega
      · exact ⟨-1, h2 i b (by omega) h0 hb hs, fun h => by omega⟩
  rw [List.range_eq_range']
  exact key n 0 b (by omega) hb0 hb1
theorem sum_ge {n : Nat} (sz : Nat → Nat) {i : Nat} (h : i < n) : sz i ≤ ((List.range n).map sz).sum := by
  have : ∀ (l : List Nat) (x : Nat), x ∈ l → x ≤ l.sum := by
    intro l
    induction l with
    | nil => intro x hx; cases hx
    | cons y l ih =>
      intro x hx
      rcases List.mem_cons.1 hx with rfl | hx
      · simp
      · have := ih x hx; simp; omega
  exact this _ _ (List.mem_map_of_mem (List.mem_range.2 h))
theorem sub_len {a : Int} {n : Nat} (ha : 0 ≤ a) (ha1 : a ≤ 1048576) (hn : n ≤ maxLen) : wrap64 (a - (n : Int)) = a - n := by unfold maxLen at hn; unfold wrap64; omega
end Go.Proofs.Ytdpejnckojhgjaa.Aid
end
section
namespace Go.Proofs.Ytdpejnckojhgjaa.Pure
open Go.RowKit Go.Proofs.Ytdpejnckojhgjaa.P Go.Proofs.YtdpejnckojhgjaaW.PrintWords Go.Proofs.YtdpejnckojhgjaaW.PrintLast Go.Proofs.YtdpejnckojhgjaaW.PrintMore Go.Proofs.Ytdpejnckojhgjaa.Aid
set_option linter.unusedVariables false
set_option linter.unusedSimpArgs false

theorem l01In_eq (a b c : Int) : spec_l01In.f a b c = some (decide (b ≤ a ∧ a ≤ c)) := in_dec a b c
theorem within_eq (a b c : Int) : impl_within.f a b c = some (decide (b ≤ a ∧ a ≤ c)) := in_dec a b c
theorem map_getD {α β : Type} (f : α → β) (l : List α) (d : α) : (List.range l.length).map (fun i => f (l.getD i d)) = l.map f := by
  rw [show (fun i => f (l.getD i d)) = f ∘ (fun i => l.getD i d) from rfl, ← List.map_map, range_map_getD]
abbrev RegW := S70
abbrev RegL := S68
def toReg_ (r : RegL) : RegW := ⟨r.f0, r.f1, r.f2⟩
theorem rdGL (l : List RegL) (i : Nat) : rd_T68 l (i : Int) = l.getD i z68 := by unfold rd_T68; rw [toNat_cast]
theorem rdGW (l : List RegW) (i : Nat) : rd_T70 l (i : Int) = l.getD i z70 := by unfold rd_T70; rw [toNat_cast]
theorem szRegionS_eq (l : List RegL) (hl : l.length ≤ maxLen) : laws_szRegionS.f l 1048576 = some (if (l.length : Int) ≤ 1048576 then (1048576 - (l.length : Int) : Int) else (-1 : Int)) := by
  unfold maxLen at hl
  unfold laws_szRegionS.f
  have e : wrap64 (1048576 - (l.length : Int)) = 1048576 - l.length := by unfold wrap64; omega
  rw [e]
  by_cases h : (l.length : Int) ≤ 1048576
  · rw [if_neg (by omega), if_pos h]
  · rw [if_pos (by omega), if_neg h]
theorem toRegionS_ev (l : List RegL) (hl : l.length ≤ 1048576) : Ev (fun k => laws_toRegionS.f k l) (l.map toReg_) := by
  have key := ev_copy0 (fun k acc i => laws_toRegionS.l0 k l acc (i : Int)) l.length (fun i => toReg_ (l.getD i z68)) id (by
    intro i acc hi ha r h
    refine Ev.step (fun k => ?_) h
    simp only [laws_toRegionS.l0]
    rw [if_pos (by omega), if_pos (by omega), rdGL]
    unfold laws_toRegion.f
    simp only [Option.bind_some]
    rw [if_pos (by omega), wrap_succ (by omega), toNat_cast]
    rfl) (by
    intro acc ha
    refine Ev.of_succ (fun k => ?_)
    simp only [laws_toRegionS.l0]
    rw [if_neg (by omega)]
    rfl) (List.replicate l.length z70) (by simp)
  rw [map_getD toReg_ l z68] at key
  refine Ev.congr (fun k => ?_) key
  unfold laws_toRegionS.f
  rw [if_pos (by omega), if_pos (by omega), toNat_cast]
  rfl
theorem eqRegionS_refl (l : List RegW) (hl : l.length ≤ 1048576) : Ev (fun k => laws_eqRegionS.f k l l) true := by
  have key := ev_all0 (fun k i => laws_eqRegionS.l0 k l l (i : Int)) l.length (fun _ => true) false true (by
    intro i hi _ r h
    refine Ev.step (fun k => ?_) h
    simp only [laws_eqRegionS.l0]
    rw [if_pos (by omega), if_pos (by omega), if_pos (by omega)]
    unfold laws_eqRegion.f
    simp only [if_true, Option.bind_some, bne_self_eq_false, Bool.false_eq_true, if_false]
    rw [wrap_succ (by omega)]) (by intro i _ h; cases h) (by
    refine Ev.of_succ (fun k => ?_)
    simp only [laws_eqRegionS.l0]
    rw [if_neg (by omega)])
  rw [if_pos (by simp)] at key
  refine Ev.congr (fun k => ?_) key
  unfold laws_eqRegionS.f
  rw [if_pos rfl]
  rfl
abbrev zg : RegW := z70
def regAt (l : List RegW) (i : Nat) : RegW := l.getD i zg
def oneR (r : RegW) : Bool := decide (0 ≤ r.f0 ∧ r.f0 < r.f1 ∧ r.f1 ≤ 64)
/-- Does b follow a? -/
def nextR (a b : RegW) : Bool := !decide (a.f1 > b.f0) && (!decide (a.f1 = b.f0) || !(a.f2 == b.f2))
def okR (l : List RegW) (i : Nat) : Bool := oneR (regAt l i) && (decide (i = 0) || nextR (regAt l (i - 1)) (regAt l i))
def regsB (l : List RegW) : Bool := decide (l.length ≤ 12) && (List.range l.length).all (okR l)
theorem l06One_eq (a b : Int) (c : Bool) : spec_l06One.f a b c = some (oneR ⟨a, b, c⟩) := by
  unfold spec_l06One.f oneR
  by_cases h1 : a ≥ 0
  · rw [if_pos h1]
    by_cases h2 : a < b
    · rw [if_pos h2]; congr 1; simp [h2]; omega
    · rw [if_neg h2]; congr 1; simp [h2]
  · rw [if_neg h1]; congr 1; simp; omega
theorem wrap_pred_r {i : Nat} (h0 : 0 < i) (h : i < 9223372036854775807) : wrap64 ((i : Int) - 1) = ((i - 1 : Nat) : Int) := by unfold wrap64; omega
theorem okR_cases {l : List RegW} {i : Nat} (h0 : ¬ i = 0) : okR l i = (oneR (regAt l i) && nextR (regAt l (i - 1)) (regAt l i)) := by unfold okR; rw [decide_eq_false h0, Bool.false_or]
theorem spec_RegionsOk_ev (l : List RegW) (hl : l.length ≤ 1048576) : Ev (fun k => spec_RegionsOk.f k l) (regsB l) := by
  unfold spec_RegionsOk.f regsB
  by_cases h12 : (l.length : Int) > 12
  · simp only [if_pos h12, decide_eq_false (show ¬ l.length ≤ 12 by omega), Bool.false_and]; exact Ev.now _
  · simp only [if_neg h12, decide_eq_true (show l.length ≤ 12 by omega), Bool.true_and]
    have key := ev_all0 (fun k i => spec_RegionsOk.l0 k l (i : Int)) l.length (okR l) false true (by
      intro i hi hb r h
      refine Ev.step (fun k => ?_) h
      have hq : spec_l06One.f (l.getD i zg).f0 (l.getD i zg).f1 (l.getD i zg).f2 = some (oneR (regAt l i)) := l06One_eq _ _ _
      simp only [spec_RegionsOk.l0]
      rw [if_pos (by omega), if_pos (by omega), rdGW, hq]
      simp only [Option.bind_some]
      by_cases h0 : i = 0
      · subst h0
        unfold okR at hb
        simp only [decide_true, Bool.true_or, Bool.and_true] at hb
        rw [if_pos hb, if_neg (by omega), wrap_succ (by omega)]
      · rw [okR_cases h0, Bool.and_eq_true] at hb
        obtain ⟨h1, h2⟩ := hb
        rw [if_pos h1, if_pos (by omega), wrap_pred_r (by omega) (by omega), if_pos (by omega), if_pos (by omega), rdGW, wrap_succ (by omega)]
        unfold nextR regAt at h2
        simp only [Bool.and_eq_true, Bool.or_eq_true, Bool.not_eq_true', decide_eq_false_iff_not, beq_eq_false_iff_ne, ne_eq] at h2
        rw [if_neg h2.1]
        by_cases he : (l.getD (i - 1) zg).f1 = (l.getD i zg).f0
        · rw [if_pos he, if_neg]
          rcases h2.2 with h3 | h3
          · exact absurd he h3
          · simpa using h3
        · rw [if_neg he]) (by
      intro i hi hb
      refine Ev.of_succ (fun k => ?_)
      have hq : spec_l06One.f (l.getD i zg).f0 (l.getD i zg).f1 (l.getD i zg).f2 = some (oneR (regAt l i)) := l06One_eq _ _ _
      simp only [spec_RegionsOk.l0]
      rw [if_pos (by omega), if_pos (by omega), rdGW, hq]
      simp only [Option.bind_some]
      by_cases h1 : oneR (regAt l i) = true
      · have h0 : ¬ i = 0 := by rintro rfl; unfold okR at hb; rw [h1] at hb; simp at hb
        rw [okR_cases h0, h1, Bool.true_and] at hb
        rw [if_pos h1, if_pos (by omega), wrap_pred_r (by omega) (by omega), if_pos (by omega), if_pos (by omega), rdGW]
        unfold nextR regAt at hb
        by_cases h3 : (l.getD (i - 1) zg).f1 > (l.getD i zg).f0
        · rw [if_pos h3]
        · rw [if_neg h3]
          rw [decide_eq_false h3, Bool.not_false, Bool.true_and] at hb
          by_cases he : (l.getD (i - 1) zg).f1 = (l.getD i zg).f0
          · rw [if_pos he]
            rw [decide_eq_true he, Bool.not_true, Bool.false_or, Bool.not_eq_false'] at hb
            rw [if_pos hb]
          · rw [decide_eq_false he] at hb; simp at hb
      · rw [if_neg h1]) (by
      refine Ev.of_succ (fun k => ?_)
      simp only [spec_RegionsOk.l0]
      rw [if_neg (by omega)])
    have e : (if (List.range l.length).all (okR l) = true then true else false) = (List.range l.length).all (okR l) := by cases (List.range l.length).all (okR l) <;> rfl
    rw [e] at key
    exact key
theorem impl_one (a b : Int) (c : Bool) : ((impl_within.f a 0 (wrap64 (b - 1))) = some (decide (0 ≤ a ∧ a ≤ wrap64 (b - 1)))) ∧ (impl_within.f b 1 64 = some (decide (1 ≤ b ∧ b ≤ 64))) ∧ oneR ⟨a, b, c⟩ = (decide (0 ≤ a ∧ a ≤ wrap64 (b - 1)) && decide (1 ≤ b ∧ b ≤ 64)) := by
  refine ⟨within_eq _ _ _, within_eq _ _ _, ?_⟩
  unfold oneR
  by_cases hb : 1 ≤ b ∧ b ≤ 64
  · rw [wrap64_id (by omega) (by omega), decide_eq_true hb, Bool.and_true]
    congr 1
    rw [eq_iff_iff]
    show (0 ≤ a ∧ a < b ∧ b ≤ 64) ↔ _
    omega
  · rw [decide_eq_false hb, Bool.and_false, decide_eq_false_iff_not]
    show ¬ (0 ≤ a ∧ a < b ∧ b ≤ 64)
    omega
theorem impl_RegionsOk_ev (l : List RegW) (hl : l.length ≤ 1048576) : Ev (fun k => impl_RegionsOk.f k l) (regsB l) := by
  unfold impl_RegionsOk.f regsB
  have hj : ∀ (i : Nat), i < l.length → ∀ r, Ev (fun k => impl_RegionsOk.j1 k l (i : Int) l (l.length : Int) (i : Int) (!oneR (regAt l i)) (regAt l i).f0 (regAt l i).f1 (regAt l i).f2) r → Ev (fun k => impl_RegionsOk.l0 k l l (l.length : Int) (i : Int)) r := by
    intro i hi r h
    obtain ⟨h1, h2, h3⟩ := impl_one (regAt l i).f0 (regAt l i).f1 (regAt l i).f2
    refine Ev.step (fun k => ?_) h
    simp only [impl_RegionsOk.l0]
    rw [if_pos (by omega), if_pos (by omega), if_pos (by omega), rdGW, show l.getD i z70 = regAt l i from rfl, h1]
    simp only [Option.bind_some]
    rw [show oneR (regAt l i) = _ from h3]
    by_cases h4 : 0 ≤ (regAt l i).f0 ∧ (regAt l i).f0 ≤ wrap64 ((regAt l i).f1 - 1)
    · rw [decide_eq_true h4, if_pos rfl, h2]; rfl
    · rw [decide_eq_false h4, if_neg (by simp)]; rfl
  have key := ev_all0 (fun k i => impl_RegionsOk.l0 k l l (l.length : Int) (i : Int)) l.length (okR l) false (decide (l.length ≤ 12)) (by
    intro i hi hb r h
    refine hj i hi r (Ev.step (fun k => ?_) h)
    have h1 : oneR (regAt l i) = true := by unfold okR at hb; exact (Bool.and_eq_true _ _ ▸ hb).1
    simp only [impl_RegionsOk.j1]
    rw [h1, if_neg (by simp)]
    by_cases h0 : i = 0
    · subst h0
      rw [if_neg (by omega), wrap_succ (by omega)]
    · rw [okR_cases h0, h1, Bool.true_and] at hb
      rw [if_pos (by omega), wrap_pred_r (by omega) (by omega), if_pos (by omega), if_pos (by omega), rdGW, wrap_succ (by omega), show l.getD (i - 1) z70 = regAt l (i - 1) from rfl]
      unfold nextR at hb
      simp only [Bool.and_eq_true, Bool.or_eq_true, Bool.not_eq_true', decide_eq_false_iff_not, beq_eq_false_iff_ne, ne_eq] at hb
      rw [if_neg hb.1]
      by_cases he : (regAt l (i - 1)).f1 = (regAt l i).f0
      · rw [if_pos he, if_neg]
        rcases hb.2 with h3 | h3
        · exact absurd he h3
        · simpa using h3
      · rw [if_neg he]) (by
    intro i hi hb
    refine hj i hi false (Ev.of_succ (fun k => ?_))
    simp only [impl_RegionsOk.j1]
    by_cases h1 : oneR (regAt l i) = true
    · have h0 : ¬ i = 0 := by rintro rfl; unfold okR at hb; rw [h1] at hb; simp at hb
      rw [okR_cases h0, h1, Bool.true_and] at hb
      rw [h1, if_neg (by simp), if_pos (by omega), wrap_pred_r (by omega) (by omega), if_pos (by omega), if_pos (by omega), rdGW, show l.getD (i - 1) z70 = regAt l (i - 1) from rfl]
      unfold nextR at hb
      by_cases h3 : (regAt l (i - 1)).f1 > (regAt l i).f0
      · rw [if_pos h3]
      · rw [if_neg h3]
        rw [decide_eq_false h3, Bool.not_false, Bool.true_and] at hb
        by_cases he : (regAt l (i - 1)).f1 = (regAt l i).f0
        · rw [if_pos he]
          rw [decide_eq_true he, Bool.not_true, Bool.false_or, Bool.not_eq_false'] at hb
          rw [if_pos hb]
        · rw [decide_eq_false he] at hb; simp at hb
    · rw [show oneR (regAt l i) = false by simpa using h1, if_pos (by rfl)]) (by
    refine Ev.of_succ (fun k => ?_)
    simp only [impl_RegionsOk.l0]
    rw [if_neg (by omega)]
    congr 1
    rw [decide_eq_decide]
    omega)
  have e : (if (List.range l.length).all (okR l) = true then decide (l.length ≤ 12) else false) = (decide (l.length ≤ 12) && (List.range l.length).all (okR l)) := by cases (List.range l.length).all (okR l) <;> simp
  rw [e] at key
  exact key
def mkR (r : RegW) : Int := if r.f2 = true then 2 else 1
def pnt (v : Int) : Nat → Int → List Int → List Int
  | 0, _, m => m
  | n + 1, p, m => pnt v n (p + 1) (m.set p.toNat v)
theorem pnt_len (v : Int) : ∀ n p m, (pnt v n p m).length = m.length := by
  intro n
  induction n with
  | zero => intro p m; rfl
  | succ n ih => intro p m; rw [pnt, ih, List.length_set]
def Tri (m : List Int) : Prop := m.length = 64 ∧ ∀ x ∈ m, x = 0 ∨ x = 1 ∨ x = 2
theorem Tri.set {m : List Int} (h : Tri m) (i : Nat) {v : Int} (hv : v = 0 ∨ v = 1 ∨ v = 2) : Tri (m.set i v) := by
  refine ⟨by rw [List.length_set]; exact h.1, fun x hx => ?_⟩
  rcases List.mem_or_eq_of_mem_set hx with hx | rfl
  · exact h.2 x hx
  · exact hv
theorem pnt_tri {v : Int} (hv : v = 0 ∨ v = 1 ∨ v = 2) : ∀ n p m, Tri m → Tri (pnt v n p m) := by
  intro n
  induction n with
  | zero => intro p m h; exact h
  | succ n ih => intro p m h; exact ih _ _ (h.set _ hv)
theorem mkR_tri (r : RegW) : mkR r = 0 ∨ mkR r = 1 ∨ mkR r = 2 := by unfold mkR; split <;> simp
def zer : List Int := List.replicate 64 0
theorem zer_tri : Tri zer := ⟨by simp [zer], fun x hx => Or.inl (List.eq_of_mem_replicate hx)⟩
def marksB : List RegW → List Int → List Int
  | [], m => m
  | r :: rest, m => marksB rest (pnt (mkR r) (r.f1 - r.f0).toNat r.f0 m)
theorem marksB_tri : ∀ l m, Tri m → Tri (marksB l m) := by
  intro l
  induction l with
  | nil => intro m h; exact h
  | cons r l ih => intro m h; exact ih _ (pnt_tri (mkR_tri r) _ _ _ h)
theorem Tri.at_ {m : List Int} (h : Tri m) (p : Nat) : m.getD p 0 = 0 ∨ m.getD p 0 = 1 ∨ m.getD p 0 = 2 := by
  by_cases hp : p < m.length
  · rw [List.getD_eq_getElem?_getD, List.getElem?_eq_getElem hp]; exact h.2 _ (List.getElem_mem hp)
  · rw [List.getD_eq_getElem?_getD, List.getElem?_eq_none (by omega)]; exact Or.inl rfl
theorem oneR_bd {r : RegW} (h : oneR r = true) : 0 ≤ r.f0 ∧ r.f0 < r.f1 ∧ r.f1 ≤ 64 := by simpa [oneR] using h
theorem regsB_one {l : List RegW} (h : regsB l = true) : ∀ r ∈ l, oneR r = true := by
  intro r hr
  simp only [regsB, Bool.and_eq_true, decide_eq_true_eq] at h
  obtain ⟨i, hi, rfl⟩ := List.getElem_of_mem hr
  have := List.all_eq_true.1 h.2 i (List.mem_range.2 hi)
  simp only [okR, Bool.and_eq_true] at this
  have h5 := this.1
  unfold regAt at h5
  rwa [List.getD_eq_getElem?_getD, List.getElem?_eq_getElem hi] at h5
theorem regsB_len {l : List RegW} (h : regsB l = true) : l.length ≤ 12 := by
  simp only [regsB, Bool.and_eq_true, decide_eq_true_eq] at h
  exact h.1
theorem getD_midr (pre : List RegW) (x : RegW) (rest : List RegW) : (pre ++ x :: rest).getD pre.length zg = x := by
  simp [List.getD_eq_getElem?_getD]
theorem spec_marks_in (l : List RegW) (hl : l.length ≤ 1048576) (i : Nat) (hi : i < l.length) (r : RegW) (hr : l.getD i zg = r) (h1 : oneR r = true) (R : List Int) :
    ∀ (d : Nat) (p : Int) (m : List Int), p + d = r.f1 → 0 ≤ p → m.length = 64 → Ev (fun k => spec_l06Marks.l0 k l (pnt (mkR r) d p m) ((i + 1 : Nat) : Int)) R → Ev (fun k => spec_l06Marks.l1 k l m (i : Int) p) R := by
  have hb := oneR_bd h1
  intro d
  induction d with
  | zero =>
    intro p m hp h0 hm h
    refine Ev.step (fun k => ?_) h
    simp only [spec_l06Marks.l1, rdGW, hr]
    rw [if_pos (by omega), if_pos (by omega), if_neg (by omega), wrap_succ (by omega)]
    rfl
  | succ d ih =>
    intro p m hp h0 hm h
    refine Ev.step (fun k => ?_) (ih (p + 1) (m.set p.toNat (mkR r)) (by omega) (by omega) (by rw [List.length_set]; exact hm) h)
    simp only [spec_l06Marks.l1, rdGW, hr]
    rw [if_pos (by omega), if_pos (by omega), if_pos (by omega), if_pos (by omega), if_pos (by omega), wrap64_id (n := p + 1) (by omega) (by omega)]
    simp only [Option.bind_some, List.set_set]
    unfold mkR
    split <;> rfl
theorem spec_marks_ev (l : List RegW) (hl : l.length ≤ 1048576) (h1 : ∀ r ∈ l, oneR r = true) : Ev (fun k => spec_l06Marks.f k l) (marksB l zer) := by
  have key : ∀ (rest pre : List RegW) (m : List Int), l = pre ++ rest → m.length = 64 → Ev (fun k => spec_l06Marks.l0 k l m (pre.length : Int)) (marksB rest m) := by
    intro rest
    induction rest with
    | nil =>
      intro pre m e hm
      have hlen : l.length = pre.length := by rw [e]; simp
      refine Ev.of_succ (fun k => ?_)
      simp only [spec_l06Marks.l0, marksB]
      rw [if_neg (by omega)]
    | cons r rest ih =>
      intro pre m e hm
      have hlen : l.length = pre.length + (rest.length + 1) := by rw [e]; simp
      have hr : l.getD pre.length zg = r := by rw [e, getD_midr]
      have ho := h1 r (by rw [e]; simp)
      have hb := oneR_bd ho
      have hi := ih (pre ++ [r]) (pnt (mkR r) (r.f1 - r.f0).toNat r.f0 m) (by rw [e]; simp) (by rw [pnt_len]; exact hm)
      simp only [List.length_append, List.length_cons, List.length_nil, Nat.zero_add] at hi
      refine Ev.step (fun k => ?_) (spec_marks_in l hl pre.length (by omega) r hr ho _ (r.f1 - r.f0).toNat r.f0 m (by omega) hb.1 hm hi)
      simp only [spec_l06Marks.l0, rdGW, hr]
      rw [if_pos (by omega), if_pos (by omega)]
  refine Ev.congr (fun k => ?_) (key l [] zer rfl (by simp [zer]))
  unfold spec_l06Marks.f
  rw [if_pos (by omega)]
  rfl
theorem impl_pages_in (l : List RegW) (hl : l.length ≤ 1048576) (i : Nat) (hi : i < l.length) (r : RegW) (hr : l.getD i zg = r) (h1 : oneR r = true) (R : List Int) :
    ∀ (d : Nat) (p : Int) (m : List Int), p + d = r.f1 → 0 ≤ p → Ev (fun k => impl_pagesOf.l0 k l (pnt (mkR r) d p m) ((i + 1 : Nat) : Int)) R → Ev (fun k => impl_pagesOf.l1 k l m (i : Int) p) R := by
  have hb := oneR_bd h1
  intro d
  induction d with
  | zero =>
    intro p m hp h0 h
    refine Ev.step (fun k => ?_) h
    simp only [impl_pagesOf.l1, toNat_cast, hr]
    rw [if_neg (by omega), wrap_succ (by omega)]
    rfl
  | succ d ih =>
    intro p m hp h0 h
    refine Ev.step (fun k => ?_) (ih (p + 1) (m.set p.toNat (mkR r)) (by omega) (by omega) h)
    simp only [impl_pagesOf.l1, toNat_cast, hr]
    rw [if_pos (by omega), if_pos (by omega), if_pos (by omega), wrap64_id (n := p + 1) (by omega) (by omega)]
    rfl
theorem impl_pages_ev (l : List RegW) (hl : l.length ≤ 1048576) (h1 : ∀ r ∈ l, oneR r = true) : Ev (fun k => impl_pagesOf.f k l) (marksB l zer) := by
  have key : ∀ (rest pre : List RegW) (m : List Int), l = pre ++ rest → Ev (fun k => impl_pagesOf.l0 k l m (pre.length : Int)) (marksB rest m) := by
    intro rest
    induction rest with
    | nil =>
      intro pre m e
      have hlen : l.length = pre.length := by rw [e]; simp
      refine Ev.of_succ (fun k => ?_)
      simp only [impl_pagesOf.l0, marksB]
      rw [if_neg (by omega)]
    | cons r rest ih =>
      intro pre m e
      have hlen : l.length = pre.length + (rest.length + 1) := by rw [e]; simp
      have hr : l.getD pre.length zg = r := by rw [e, getD_midr]
      have ho := h1 r (by rw [e]; simp)
      have hb := oneR_bd ho
      have hi := ih (pre ++ [r]) (pnt (mkR r) (r.f1 - r.f0).toNat r.f0 m) (by rw [e]; simp)
      simp only [List.length_append, List.length_cons, List.length_nil, Nat.zero_add] at hi
      refine Ev.step (fun k => ?_) (impl_pages_in l hl pre.length (by omega) r hr ho _ (r.f1 - r.f0).toNat r.f0 m (by omega) hb.1 hi)
      simp only [impl_pagesOf.l0, toNat_cast, hr]
      rw [if_pos (by omega), if_pos (by omega)]
  exact key l [] zer rfl
def stepB (m : List Int) (out : List RegW) (p : Nat) : List RegW :=
  if m.getD p 0 = 0 then out
  else if 0 < p ∧ m.getD (p - 1) 0 = m.getD p 0 then out.set (out.length - 1) ⟨(out.getD (out.length - 1) zg).f0, (p : Int) + 1, (out.getD (out.length - 1) zg).f2⟩
  else out ++ [⟨(p : Int), (p : Int) + 1, (m.getD p 0 == 2)⟩]
def fromB (m : List Int) : List RegW := (List.range 64).foldl (stepB m) []
structure InvF (m : List Int) (p : Nat) (out : List RegW) : Prop where
  len : out.length ≤ p
  ok : ∀ i, i < out.length → okR out i = true
  last : 0 < out.length → (regAt out (out.length - 1)).f1 ≤ p
  on : 0 < p → m.getD (p - 1) 0 ≠ 0 → 0 < out.length ∧ (regAt out (out.length - 1)).f1 = p ∧ (regAt out (out.length - 1)).f2 = (m.getD (p - 1) 0 == 2)
  off : 0 < out.length → (regAt out (out.length - 1)).f1 = p → 0 < p ∧ m.getD (p - 1) 0 ≠ 0
theorem regAt_lt {out : List RegW} {y : RegW} {i : Nat} (h : i < out.length) : regAt (out ++ [y]) i = regAt out i := by
  unfold regAt
  rw [List.getD_eq_getElem?_getD, List.getD_eq_getElem?_getD, List.getElem?_append_left h]
theorem regAt_eq {out : List RegW} {y : RegW} : regAt (out ++ [y]) out.length = y := by
  unfold regAt
  simp [List.getD_eq_getElem?_getD]
theorem regAt_set {out : List RegW} {y : RegW} {n i : Nat} (h : i < out.length) : regAt (out.set n y) i = if i = n then y else regAt out i := by
  unfold regAt
  by_cases e : i = n
  · subst e
    rw [if_pos rfl, List.getD_eq_getElem?_getD, List.getElem?_set_self h]
    rfl
  · rw [if_neg e, List.getD_eq_getElem?_getD, List.getD_eq_getElem?_getD, List.getElem?_set_ne (by omega)]
theorem okR_one {out : List RegW} {i : Nat} (h : okR out i = true) : oneR (regAt out i) = true := by
  simp only [okR, Bool.and_eq_true] at h
  exact h.1
theorem okR_next {out : List RegW} {i : Nat} (h : okR out i = true) (h0 : ¬ i = 0) : nextR (regAt out (i - 1)) (regAt out i) = true := by
  rw [okR_cases h0, Bool.and_eq_true] at h
  exact h.2
theorem okR_mk {out : List RegW} {i : Nat} (h1 : oneR (regAt out i) = true) (h2 : ¬ i = 0 → nextR (regAt out (i - 1)) (regAt out i) = true) : okR out i = true := by
  by_cases h0 : i = 0
  · unfold okR; rw [h1, decide_eq_true h0]; rfl
  · rw [okR_cases h0, h1, h2 h0]; rfl
theorem nextR_iff {a b : RegW} : nextR a b = true ↔ a.f1 ≤ b.f0 ∧ (a.f1 = b.f0 → a.f2 ≠ b.f2) := by
  simp only [nextR, Bool.and_eq_true, Bool.or_eq_true, Bool.not_eq_true', decide_eq_false_iff_not, beq_eq_false_iff_ne]
  constructor
  · rintro ⟨h1, h2⟩
    exact ⟨by omega, fun h3 => h2.elim (fun h4 => absurd h3 h4) id⟩
  · rintro ⟨h1, h2⟩
    refine ⟨by omega, ?_⟩
    by_cases h3 : a.f1 = b.f0
    · exact Or.inr (h2 h3)
    · exact Or.inl h3
theorem stepB_inv (m : List Int) (hm : Tri m) (p : Nat) (hp : p < 64) (out : List RegW) (h : InvF m p out) : InvF m (p + 1) (stepB m out p) := by
  unfold stepB
  by_cases h0 : m.getD p 0 = 0
  · rw [if_pos h0]
    refine ⟨by have := h.len; omega, h.ok, fun x => by have := h.last x; omega, fun _ hn => absurd h0 (by simpa using hn), fun x e => ?_⟩
    have := h.last x
    omega
  · rw [if_neg h0]
    by_cases h1 : 0 < p ∧ m.getD (p - 1) 0 = m.getD p 0
    · rw [if_pos h1]
      obtain ⟨hl, hf, hw⟩ := h.on h1.1 (by rw [h1.2]; exact h0)
      have hlast := h.ok (out.length - 1) (by omega)
      have hone := oneR_bd (okR_one hlast)
      change (regAt out (out.length - 1)).f1 = p at hf
      have hL : (out.set (out.length - 1) (⟨(out.getD (out.length - 1) zg).f0, (p : Int) + 1, (out.getD (out.length - 1) zg).f2⟩ : RegW)).length = out.length := List.length_set ..
      have hA : regAt (out.set (out.length - 1) (⟨(out.getD (out.length - 1) zg).f0, (p : Int) + 1, (out.getD (out.length - 1) zg).f2⟩ : RegW)) (out.length - 1) = ⟨(regAt out (out.length - 1)).f0, (p : Int) + 1, (regAt out (out.length - 1)).f2⟩ := by
        rw [regAt_set (by omega), if_pos rfl]; rfl
      refine ⟨by rw [hL]; have := h.len; omega, fun i hi => ?_, fun _ => by rw [hL, hA]; show (p : Int) + 1 ≤ _; omega, fun _ _ => ?_, fun _ _ => ⟨by omega, by simpa using h0⟩⟩
      · rw [hL] at hi
        by_cases e : i = out.length - 1
        · subst e
          refine okR_mk ?_ (fun hn => ?_)
          · rw [hA]
            have h6 : (regAt out (out.length - 1)).f0 < (p : Int) + 1 := by omega
            simp only [oneR, decide_eq_true_eq]
            exact ⟨hone.1, h6, by omega⟩
          · rw [hA, regAt_set (by omega), if_neg (by omega)]
            have := nextR_iff.1 (okR_next hlast hn)
            exact nextR_iff.2 this
        · have hk := h.ok i hi
          refine okR_mk ?_ (fun hn => ?_)
          · rw [regAt_set hi, if_neg e]; exact okR_one hk
          · rw [regAt_set hi, if_neg e, regAt_set (by omega), if_neg (by omega)]; exact okR_next hk hn
      · rw [hL, hA]
        refine ⟨hl, by show (p : Int) + 1 = _; omega, ?_⟩
        show (regAt out (out.length - 1)).f2 = _
        rw [hw, h1.2]
        simp
    · rw [if_neg h1]
      have hL : (out ++ [(⟨(p : Int), (p : Int) + 1, (m.getD p 0 == 2)⟩ : RegW)]).length = out.length + 1 := by simp
      refine ⟨by rw [hL]; have := h.len; omega, fun i hi => ?_, fun _ => ?_, fun _ _ => ?_, fun _ _ => ⟨by omega, by simpa using h0⟩⟩
      · rw [hL] at hi
        by_cases e : i = out.length
        · subst e
          refine okR_mk ?_ (fun hn => ?_)
          · rw [regAt_eq]
            simp only [oneR, decide_eq_true_eq]
            refine ⟨?_, ?_, ?_⟩ <;> omega
          · rw [regAt_eq, regAt_lt (by omega)]
            refine nextR_iff.2 ⟨h.last (by omega), fun hf => ?_⟩
            show (regAt out (out.length - 1)).f2 ≠ (m.getD p 0 == 2)
            have hf' : (regAt out (out.length - 1)).f1 = p := hf
            obtain ⟨hp0, hne⟩ := h.off (by omega) hf'
            obtain ⟨_, _, hw⟩ := h.on hp0 hne
            rw [hw]
            have t1 := hm.at_ p
            have t2 := hm.at_ (p - 1)
            have hd : m.getD (p - 1) 0 ≠ m.getD p 0 := fun x => h1 ⟨hp0, x⟩
            generalize m.getD (p - 1) 0 = u at *
            generalize m.getD p 0 = v at *
            rcases t1 with rfl | rfl | rfl <;> rcases t2 with rfl | rfl | rfl <;> simp_all
        · have hi2 : i < out.length := by omega
          have hk := h.ok i hi2
          refine okR_mk ?_ (fun hn => ?_)
          · rw [regAt_lt hi2]; exact okR_one hk
          · rw [regAt_lt hi2, regAt_lt (by omega)]; exact okR_next hk hn
      · rw [hL, Nat.add_sub_cancel, regAt_eq]
        show (p : Int) + 1 ≤ _
        omega
      · rw [hL, Nat.add_sub_cancel, regAt_eq]
        refine ⟨by omega, by show (p : Int) + 1 = _; omega, ?_⟩
        simp
theorem InvF.zero (m : List Int) : InvF m 0 [] := ⟨by simp, fun i hi => by simp at hi, fun h => by simp at h, fun h => by omega, fun h => by simp at h⟩
theorem rdM (m : List Int) (i : Nat) : rd m (i : Int) = m.getD i 0 := by unfold rd; rw [toNat_cast]
theorem wrap_predI {i : Nat} (h0 : 0 < i) (h : i < 9223372036854775807) : wrap64 ((i : Int) - 1) = ((i - 1 : Nat) : Int) := by unfold wrap64; omega
theorem spec_from_ev (m : List Int) (hm : Tri m) : Ev (fun k => spec_l06From.f k m) (fromB m) ∧ InvF m 64 (fromB m) := by
  have hml := hm.1
  refine ev_fold (fun k out i => spec_l06From.l0 k m out (i : Int)) 64 (stepB m) id (InvF m) (fun i out hi hinv => ⟨stepB_inv m hm i hi out hinv, fun r h => ?_⟩) (fun out _ => ?_) [] (InvF.zero m)
  · have hlen := hinv.len
    refine Ev.step (fun k => ?_) h
    simp only [spec_l06From.l0, rdM]
    rw [if_pos (by omega), if_pos (by omega)]
    unfold stepB
    by_cases h0 : m.getD i 0 = 0
    · rw [if_pos h0, if_pos h0, wrap_succ (by omega)]
    · rw [if_neg h0, if_neg h0]
      by_cases hp : 0 < i
      · rw [if_pos (show (i : Int) > 0 by omega), wrap_predI hp (by omega), rdM]
        simp only [if_pos (show (0 : Int) ≤ ((i - 1 : Nat) : Int) by omega), if_pos (show ((i - 1 : Nat) : Int) < (m.length : Int) by omega)]
        by_cases h1 : m.getD (i - 1) 0 = m.getD i 0
        · obtain ⟨hl, _, _⟩ := hinv.on hp (by rw [h1]; exact h0)
          rw [if_pos h1, if_pos (show 0 < i ∧ m.getD (i - 1) 0 = m.getD i 0 from ⟨hp, h1⟩), wrap_predI hl (by omega), rdGW]
          simp only [if_pos (show (0 : Int) ≤ ((out.length - 1 : Nat) : Int) by omega), if_pos (show ((out.length - 1 : Nat) : Int) < (out.length : Int) by omega), toNat_cast, wrap_succ (show i < 9223372036854775807 by omega)]
          rfl
        · rw [if_neg h1, if_neg (show ¬ (0 < i ∧ m.getD (i - 1) 0 = m.getD i 0) from fun x => h1 x.2), if_pos (by omega)]
          simp only [wrap_succ (show i < 9223372036854775807 by omega)]
          rfl
      · rw [if_neg (show ¬ (i : Int) > 0 by omega), if_neg (show ¬ (0 < i ∧ m.getD (i - 1) 0 = m.getD i 0) from fun x => hp x.1), if_pos (by omega)]
        simp only [wrap_succ (show i < 9223372036854775807 by omega)]
        rfl
  · refine Ev.of_succ (fun k => ?_)
    simp only [spec_l06From.l0]
    rw [if_neg (by omega)]
    rfl
def setB (m : List Int) : List RegW × Bool := if (fromB m).length ≤ 12 then (fromB m, true) else ([], false)
theorem impl_from_ev (m : List Int) (hm : Tri m) : Ev (fun k => impl_regionsOf.f k m) (setB m) := by
  have hml := hm.1
  refine (ev_fold (fun k out i => impl_regionsOf.l0 k m out (i : Int)) 64 (stepB m) (fun out => if out.length ≤ 12 then (out, true) else ([], false)) (InvF m) (fun i out hi hinv => ⟨stepB_inv m hm i hi out hinv, fun r h => ?_⟩) (fun out _ => ?_) [] (InvF.zero m)).1
  · have hlen := hinv.len
    refine Ev.step (fun k => ?_) h
    simp only [impl_regionsOf.l0, toNat_cast]
    rw [if_pos (by omega), if_pos (by omega), wrap_succ (by omega)]
    unfold stepB
    by_cases h0 : m.getD i 0 = 0
    · rw [if_pos h0, if_pos h0]
    · rw [if_neg h0, if_neg h0]
      by_cases h1 : 0 < i ∧ m.getD (i - 1) 0 = m.getD i 0
      · obtain ⟨hl, hf, hw⟩ := hinv.on h1.1 (by rw [h1.2]; exact h0)
        rw [if_pos h1, if_pos (show 0 < out.length ∧ (out.getD (out.length - 1) zg).f1 = (i : Int) ∧ (out.getD (out.length - 1) zg).f2 = (m.getD i 0 == 2) from ⟨hl, hf, by rw [← h1.2]; exact hw⟩)]
        rfl
      · rw [if_neg h1, if_neg (fun x => ?_), if_pos (by omega)]
        · rfl
        · obtain ⟨x1, x2, x3⟩ := x
          obtain ⟨hp, hne⟩ := hinv.off x1 x2
          obtain ⟨_, _, hw⟩ := hinv.on hp hne
          have hw' : (out.getD (out.length - 1) zg).f2 = (m.getD (i - 1) 0 == 2) := hw
          change (out.getD (out.length - 1) zg).f2 = (m.getD i 0 == 2) at x3
          rw [hw'] at x3
          refine h1 ⟨hp, ?_⟩
          have t1 := hm.at_ i
          have t2 := hm.at_ (i - 1)
          generalize m.getD (i - 1) 0 = u at *
          generalize m.getD i 0 = v at *
          rcases t1 with rfl | rfl | rfl <;> rcases t2 with rfl | rfl | rfl <;> simp_all
  · refine Ev.of_succ (fun k => ?_)
    simp only [impl_regionsOf.l0]
    rw [if_neg (by omega)]
    by_cases h : out.length ≤ 12
    · rw [if_neg (by omega), if_pos h]
    · rw [if_pos (by omega), if_neg h]
theorem fromB_ok (m : List Int) (hm : Tri m) : regsB (fromB m) = decide ((fromB m).length ≤ 12) := by
  have h := (spec_from_ev m hm).2
  unfold regsB
  rw [List.all_eq_true.2 (fun i hi => h.ok i (List.mem_range.1 hi)), Bool.and_true]
theorem setB_small (m : List Int) : (setB m).1.length ≤ 12 := by
  unfold setB
  by_cases h : (fromB m).length ≤ 12
  · rw [if_pos h]; exact h
  · rw [if_neg h]; simp
theorem spec_set_ev (v : Int) (hv : v = 0 ∨ v = 1 ∨ v = 2) (b : Int) (hb : b ≤ 64) : ∀ (d : Nat) (p : Int) (m : List Int), p + d = b → 0 ≤ p → Tri m →
    Ev (fun k => spec_l06Set.l0 k m b v p) (if (fromB (pnt v d p m)).length ≤ 12 then (fromB (pnt v d p m), true, pnt v d p m) else ([], false, pnt v d p m)) := by
  intro d
  induction d with
  | zero =>
    intro p m hp h0 hm
    have hf := spec_from_ev m hm
    refine Ev.step (f := fun k => (spec_l06From.f k m).bind fun t221 => ((spec_RegionsOk.f k t221).bind fun t224 => (if t224 = true then (some (t221, true, m)) else (some ((([] : List RegW)), false, m))))) (fun k => ?_) (Ev.bind hf.1 (Ev.bind (spec_RegionsOk_ev _ (by have := hf.2.len; omega)) ?_))
    · simp only [spec_l06Set.l0]
      rw [if_neg (by omega)]
    · rw [fromB_ok m hm]
      show Ev _ (if (fromB m).length ≤ 12 then _ else _)
      by_cases h : (fromB m).length ≤ 12
      · simp only [decide_eq_true h, if_true, if_pos h]; exact Ev.now _
      · simp only [decide_eq_false h, Bool.false_eq_true, if_false, if_neg h]; exact Ev.now _
  | succ d ih =>
    intro p m hp h0 hm
    refine Ev.step (fun k => ?_) (ih (p + 1) (m.set p.toNat v) (by omega) (by omega) (hm.set _ hv))
    have := hm.1
    simp only [spec_l06Set.l0]
    rw [if_pos (by omega), if_pos (by omega), if_pos (by omega), wrap64_id (n := p + 1) (by omega) (by omega)]
theorem impl_paint_ev (v : Int) (hv : v = 0 ∨ v = 1 ∨ v = 2) (b : Int) (hb : b ≤ 64) : ∀ (d : Nat) (p : Int) (m : List Int), p + d = b → 0 ≤ p → Tri m → Ev (fun k => impl_painted.l0 k m b v p) (setB (pnt v d p m)) := by
  intro d
  induction d with
  | zero =>
    intro p m hp h0 hm
    refine Ev.step (fun k => ?_) (impl_from_ev m hm)
    simp only [impl_painted.l0]
    rw [if_neg (by omega)]
  | succ d ih =>
    intro p m hp h0 hm
    refine Ev.step (fun k => ?_) (ih (p + 1) (m.set p.toNat v) (by omega) (by omega) (hm.set _ hv))
    simp only [impl_painted.l0]
    rw [if_pos (by omega), if_pos (by omega), if_pos (by omega), wrap64_id (n := p + 1) (by omega) (by omega)]
def paintB (l : List RegW) (a b v : Int) : List RegW × Bool := setB (pnt v (b - a).toNat a (marksB l zer))
theorem painted_ev (l : List RegW) (hl : l.length ≤ 1048576) (h1 : ∀ r ∈ l, oneR r = true) (a b v : Int) (hab : 0 ≤ a ∧ a < b ∧ b ≤ 64) (hv : v = 0 ∨ v = 1 ∨ v = 2) : Ev (fun k => impl_painted.f k l a b v) (paintB l a b v) := by
  unfold impl_painted.f
  exact Ev.bind (impl_pages_ev l hl h1) (impl_paint_ev v hv b hab.2.2 (b - a).toNat a _ (by omega) hab.1 (marksB_tri l zer zer_tri))
theorem l06Set_ev (m : List Int) (hm : Tri m) (a b v : Int) (hab : 0 ≤ a ∧ a < b ∧ b ≤ 64) (hv : v = 0 ∨ v = 1 ∨ v = 2) : ∃ q, Ev (fun k => spec_l06Set.f k m a b v) q ∧ (q.1, q.2.1) = setB (pnt v (b - a).toNat a m) := by
  refine ⟨_, spec_set_ev v hv b hab.2.2 (b - a).toNat a m (by omega) hab.1 hm, ?_⟩
  unfold setB
  split <;> rfl
theorem isSpan_eq (a b : Int) (w : Bool) (hb : (Lit.int .i64 b).wf = true) : impl_isSpan.f a b = some (oneR ⟨a, b, w⟩) := by
  have hb2 := wf_i64 hb
  show _ = some (decide (0 ≤ a ∧ a < b ∧ b ≤ 64))
  unfold impl_isSpan.f
  rw [within_eq]
  by_cases h1 : b ≥ 1
  · rw [if_pos h1, wrap64_id (n := b - 1) (by omega) (by omega)]
    by_cases h2 : b ≤ 64
    · rw [if_pos h2]
      simp only [Option.bind_some]
      congr 1
      exact decide_eq_decide.2 (by constructor <;> intro h <;> omega)
    · rw [if_neg h2, decide_eq_false (show ¬ (0 ≤ a ∧ a < b ∧ b ≤ 64) by omega)]
  · rw [if_neg h1, decide_eq_false (show ¬ (0 ≤ a ∧ a < b ∧ b ≤ 64) by omega)]
theorem markRegionS_ev (l : List RegW) (hl : l.length ≤ 1048576) (a : Int) (h0 : 0 ≤ a) (h1 : a ≤ 1000000000) : Ev (fun k => laws_markRegionS.f k l a) (a + 3 * l.length, (List.range l.length).map (fun j : Nat => (⟨a + 3 * (j : Int), a + 3 * (j : Int) + 1, (Int.tmod (a + 3 * (j : Int) + 2) 3 == 0)⟩ : RegW))) := by
  have key := ev_copy0 (fun k acc i => laws_markRegionS.l0 k acc (a + 3 * (i : Int)) (i : Int)) l.length (fun i => (⟨a + 3 * (i : Int), a + 3 * (i : Int) + 1, (Int.tmod (a + 3 * (i : Int) + 2) 3 == 0)⟩ : RegW)) (fun acc => (a + 3 * (l.length : Int), acc)) (by
    intro i acc hi ha r h
    refine Ev.step (fun k => ?_) h
    simp only [laws_markRegionS.l0]
    rw [if_pos (by omega), if_pos (by omega)]
    simp only [Option.bind_some]
    have g : ∀ y : RegW, (acc.set i y).getD i z70 = y := fun y => by
      rw [List.getD_eq_getElem?_getD, List.getElem?_set_self (by omega)]; rfl
    simp only [wrap_succ (show i < 9223372036854775807 by omega), toNat_cast, wrap64_id (n := a + 3 * (i : Int) + 1) (by omega) (by omega), wrap64_id (n := a + 3 * (i : Int) + 2) (by omega) (by omega), wrap64_id (n := a + 3 * ((i + 1 : Nat) : Int)) (by omega) (by omega), List.set_set, rdGW, g, show a + 3 * (i : Int) + 2 + 1 = a + 3 * ((i + 1 : Nat) : Int) by omega, show a + 3 * (i : Int) + 1 + 1 = a + 3 * (i : Int) + 2 by omega]) (by
    intro acc ha
    refine Ev.of_succ (fun k => ?_)
    simp only [laws_markRegionS.l0]
    rw [if_neg (by omega)]) l rfl
  simp only [show ((0 : Nat) : Int) = 0 from rfl, Int.mul_zero, Int.add_zero] at key
  exact key
def upReg (a : Int) (n : Nat) : List RegW := (List.range n).map (fun j : Nat => (⟨a + 3 * (j : Int), a + 3 * (j : Int) + 1, (Int.tmod (a + 3 * (j : Int) + 2) 3 == 0)⟩ : RegW))
theorem upReg_len (a : Int) (n : Nat) : (upReg a n).length = n := by simp [upReg]
theorem upReg_getD (a : Int) (n i : Nat) (d : RegW) (h : i < n) : (upReg a n).getD i d = ⟨a + 3 * (i : Int), a + 3 * (i : Int) + 1, (Int.tmod (a + 3 * (i : Int) + 2) 3 == 0)⟩ := by simp [upReg, List.getD_eq_getElem?_getD, h]
theorem heldRegionS_ev (n : Nat) (hn : n ≤ 1048576) (a : Int) (h0 : 0 ≤ a) (h1 : a ≤ 1000000000) : Ev (fun k => laws_heldRegionS.f k (upReg a n) a) (a + 3 * n) := by
  have key := ev_yes (fun k i => laws_heldRegionS.l0 k (upReg a n) (a + 3 * (i : Int)) (i : Int)) n (fun _ => true) (a + 3 * (n : Int)) (by
    intro i hi _ r h
    refine Ev.step (fun k => ?_) h
    simp only [laws_heldRegionS.l0]
    rw [upReg_len, if_pos (by omega), if_pos (by omega), rdGW, upReg_getD _ _ _ _ hi]
    simp only [wrap_succ (show i < 9223372036854775807 by omega), wrap64_id (n := a + 3 * (i : Int) + 1) (by omega) (by omega), wrap64_id (n := a + 3 * (i : Int) + 2) (by omega) (by omega), wrap64_id (n := a + 3 * ((i + 1 : Nat) : Int)) (by omega) (by omega), show a + 3 * (i : Int) + 2 + 1 = a + 3 * ((i + 1 : Nat) : Int) by omega, show a + 3 * (i : Int) + 1 + 1 = a + 3 * (i : Int) + 2 by omega, if_true, bne_self_eq_false, Bool.false_eq_true, if_false]) (by simp) (by
    refine Ev.of_succ (fun k => ?_)
    simp only [laws_heldRegionS.l0]
    rw [upReg_len, if_neg (by omega)])
  simp only [show ((0 : Nat) : Int) = 0 from rfl, Int.mul_zero, Int.add_zero] at key
  exact key
def cutB (l : List RegW) (a b : Int) : List RegW × Bool := if regsB l = true ∧ oneR ⟨a, b, false⟩ = true then paintB l a b 0 else ([], false)
theorem paintB_small (l : List RegW) (a b v : Int) : (paintB l a b v).1.length ≤ 12 := setB_small _
theorem spec_Cut_ev (l : List RegW) (hl : l.length ≤ 1048576) (a b : Int) : Ev (fun k => spec_CutRegions.f k l a b) (cutB l a b) := by
  have hno : Ev (fun k => spec_CutRegions.j0 k l a b true) ([], false) := Ev.of_succ (fun k => by simp only [spec_CutRegions.j0, if_true])
  unfold spec_CutRegions.f cutB
  refine Ev.bind (spec_RegionsOk_ev l hl) ?_
  by_cases h : regsB l = true
  · simp only [if_pos h, l06One_eq, Option.bind_some]
    by_cases ho : oneR ⟨a, b, false⟩ = true
    · rw [if_pos ⟨h, ho⟩, ho]
      have hm := marksB_tri l zer zer_tri
      obtain ⟨q, hq, hs⟩ := l06Set_ev (marksB l zer) hm a b 0 (oneR_bd ho) (Or.inl rfl)
      unfold paintB
      rw [← hs]
      refine Ev.step (f := fun k => (spec_l06Marks.f k l).bind fun t241 => ((spec_l06Set.f k t241 a b 0).bind fun bt244 => (some (bt244.1, bt244.2.1)))) (fun k => ?_) (Ev.bind (spec_marks_ev l hl (regsB_one h)) (Ev.bind hq (Ev.now _)))
      simp only [spec_CutRegions.j0, Bool.not_true, Bool.false_eq_true, if_false]
    · rw [if_neg (fun x => ho x.2), Bool.eq_false_iff.2 ho]
      exact hno
  · simp only [if_neg h]
    rw [if_neg (fun x => h x.1)]
    exact hno
theorem impl_Cut_ev (l : List RegW) (hl : l.length ≤ 1048576) (a b : Int) (hb : (Lit.int .i64 b).wf = true) : Ev (fun k => impl_CutRegions.f k l a b) (cutB l a b) := by
  unfold impl_CutRegions.f cutB
  refine Ev.bind (impl_RegionsOk_ev l hl) ?_
  by_cases h : regsB l = true
  · simp only [if_pos h, isSpan_eq a b false hb, Option.bind_some]
    by_cases ho : oneR ⟨a, b, false⟩ = true
    · simp only [if_pos ho]
      rw [if_pos ⟨h, ho⟩]
      exact painted_ev l hl (regsB_one h) a b 0 (oneR_bd ho) (Or.inl rfl)
    · simp only [if_neg ho]
      rw [if_neg (fun x => ho x.2)]
      exact Ev.now _
  · simp only [if_neg h]
    rw [if_neg (fun x => h x.1)]
    exact Ev.now _
theorem cutB_small (l : List RegW) (a b : Int) : (cutB l a b).1.length ≤ 12 := by
  unfold cutB
  split
  · exact paintB_small _ _ _ _
  · simp
def allQ (q : Int → Bool) : Nat → Int → Bool
  | 0, _ => true
  | n + 1, p => q p && allQ q n (p + 1)
def wv (w : Bool) : Int := if w = true then 2 else 1
theorem wv_tri (w : Bool) : wv w = 0 ∨ wv w = 1 ∨ wv w = 2 := by unfold wv; split <;> simp
theorem writeOf_eq (w : Bool) : impl_writeOf.f w = some (wv w) := by unfold impl_writeOf.f wv; split <;> rfl
theorem l06Mark_eq (w : Bool) : spec_l06Mark.f w = some (wv w) := by unfold spec_l06Mark.f wv; split <;> rfl
def chB (l : List RegW) (a b : Int) (w : Bool) (q : Int → Bool) : List RegW × Bool := if regsB l = true ∧ oneR ⟨a, b, false⟩ = true then (if allQ q (b - a).toNat a = true then paintB l a b (wv w) else ([], false)) else ([], false)
theorem chB_small (l : List RegW) (a b : Int) (w : Bool) (q : Int → Bool) : (chB l a b w q).1.length ≤ 12 := by
  unfold chB
  repeat' split
  · exact paintB_small _ _ _ _
  · simp
  · simp
theorem oneR_w (a b : Int) (w w' : Bool) : oneR ⟨a, b, w⟩ = oneR ⟨a, b, w'⟩ := rfl
def zz (m : List Int) (p : Int) : Bool := decide (rd m p = 0)
theorem spec_put_loop (a b : Int) (w : Bool) (hab : 0 ≤ a ∧ a < b ∧ b ≤ 64) (m : List Int) (hm : Tri m) : ∀ (d : Nat) (p : Int), p + d = b → 0 ≤ p → Ev (fun k => spec_PutRegion.l0 k m p a b w) (if allQ (zz m) d p = true then setB (pnt (wv w) (b - a).toNat a m) else ([], false)) := by
  have hml := hm.1
  intro d
  induction d with
  | zero =>
    intro p hp h0
    obtain ⟨q, hq, hs⟩ := l06Set_ev m hm a b (wv w) hab (wv_tri w)
    rw [if_pos (show allQ (zz m) 0 p = true from rfl), ← hs]
    refine Ev.step (f := fun k => (spec_l06Set.f k m a b (wv w)).bind fun bt776 => (some (bt776.1, bt776.2.1))) (fun k => ?_) (Ev.bind hq (Ev.now _))
    simp only [spec_PutRegion.l0, l06Mark_eq, Option.bind_some]
    rw [if_neg (by omega)]
  | succ d ih =>
    intro p hp h0
    unfold allQ
    by_cases h : rd m p = 0
    · have : zz m p = true := by simp [zz, h]
      rw [this, Bool.true_and]
      refine Ev.step (fun k => ?_) (ih (p + 1) (by omega) (by omega))
      simp only [spec_PutRegion.l0]
      rw [if_pos (by omega), if_pos (by omega), if_pos (by omega), if_pos h, wrap64_id (n := p + 1) (by omega) (by omega)]
    · have : zz m p = false := by simp [zz, h]
      rw [this, Bool.false_and, if_neg (by decide)]
      refine Ev.of_succ (fun k => ?_)
      simp only [spec_PutRegion.l0]
      rw [if_pos (by omega), if_pos (by omega), if_pos (by omega), if_neg h]
theorem impl_put_loop (l : List RegW) (hl : l.length ≤ 1048576) (h1 : ∀ r ∈ l, oneR r = true) (a b : Int) (w : Bool) (hab : 0 ≤ a ∧ a < b ∧ b ≤ 64) : ∀ (d : Nat) (p : Int), p + d = b → 0 ≤ p → Ev (fun k => impl_PutRegion.l0 k l (marksB l zer) a b (wv w) p) (if allQ (zz (marksB l zer)) d p = true then paintB l a b (wv w) else ([], false)) := by
  intro d
  induction d with
  | zero =>
    intro p hp h0
    rw [if_pos (show allQ (zz (marksB l zer)) 0 p = true from rfl)]
    refine Ev.step (fun k => ?_) (painted_ev l hl h1 a b (wv w) hab (wv_tri w))
    simp only [impl_PutRegion.l0]
    rw [if_neg (by omega)]
  | succ d ih =>
    intro p hp h0
    unfold allQ
    by_cases h : rd (marksB l zer) p = 0
    · have : zz (marksB l zer) p = true := by simp [zz, h]
      rw [this, Bool.true_and]
      refine Ev.step (fun k => ?_) (ih (p + 1) (by omega) (by omega))
      simp only [impl_PutRegion.l0]
      rw [if_pos (by omega), if_pos (by omega), if_pos (by omega), if_pos (show (marksB l zer).getD p.toNat 0 = 0 from h), wrap64_id (n := p + 1) (by omega) (by omega)]
    · have : zz (marksB l zer) p = false := by simp [zz, h]
      rw [this, Bool.false_and, if_neg (by decide)]
      refine Ev.of_succ (fun k => ?_)
      simp only [impl_PutRegion.l0]
      rw [if_pos (by omega), if_pos (by omega), if_pos (by omega), if_neg (show ¬ (marksB l zer).getD p.toNat 0 = 0 from h)]
def putB (l : List RegW) (a b : Int) (w : Bool) : List RegW × Bool := chB l a b w (zz (marksB l zer))
theorem spec_Put_ev (l : List RegW) (hl : l.length ≤ 1048576) (a b : Int) (w : Bool) : Ev (fun k => spec_PutRegion.f k l a b w) (putB l a b w) := by
  have hno : Ev (fun k => spec_PutRegion.j0 k l true a b w) ([], false) := Ev.of_succ (fun k => by simp only [spec_PutRegion.j0, if_true])
  unfold spec_PutRegion.f putB chB
  refine Ev.bind (spec_RegionsOk_ev l hl) ?_
  by_cases h : regsB l = true
  · simp only [if_pos h, l06One_eq, Option.bind_some]
    rw [oneR_w a b w false]
    by_cases ho : oneR ⟨a, b, false⟩ = true
    · rw [if_pos ⟨h, ho⟩, ho]
      have hb := oneR_bd ho
      refine Ev.step (f := fun k => (spec_l06Marks.f k l).bind fun t768 => (spec_PutRegion.l0 k t768 a a b w)) (fun k => ?_) (Ev.bind (spec_marks_ev l hl (regsB_one h)) (spec_put_loop a b w hb _ (marksB_tri l zer zer_tri) (b - a).toNat a (by have := hb.2.1; change a < b at this; omega) hb.1))
      simp only [spec_PutRegion.j0, Bool.not_true, Bool.false_eq_true, if_false]
    · rw [if_neg (fun x => ho x.2), Bool.eq_false_iff.2 ho]
      exact hno
  · simp only [if_neg h]
    rw [if_neg (fun x => h x.1)]
    exact hno
theorem impl_Put_ev (l : List RegW) (hl : l.length ≤ 1048576) (a b : Int) (w : Bool) (hb : (Lit.int .i64 b).wf = true) : Ev (fun k => impl_PutRegion.f k l a b w) (putB l a b w) := by
  unfold impl_PutRegion.f putB chB
  refine Ev.bind (impl_RegionsOk_ev l hl) ?_
  by_cases h : regsB l = true
  · simp only [if_pos h, isSpan_eq a b false hb, Option.bind_some]
    by_cases ho : oneR ⟨a, b, false⟩ = true
    · simp only [if_pos ho]
      rw [if_pos ⟨h, ho⟩]
      have hb := oneR_bd ho
      refine Ev.bind (impl_pages_ev l hl (regsB_one h)) ?_
      simp only [writeOf_eq, Option.bind_some]
      exact impl_put_loop l hl (regsB_one h) a b w hb (b - a).toNat a (by have := hb.2.1; change a < b at this; omega) hb.1
    · simp only [if_neg ho]
      rw [if_neg (fun x => ho x.2)]
      exact Ev.now _
  · simp only [if_neg h]
    rw [if_neg (fun x => h x.1)]
    exact Ev.now _

theorem FnExactPutRegion (l0 : List S68) (g0 : (l0.length ≤ maxLen ∧ ∀ y0 ∈ l0, ((Lit.int .i64 y0.f0).wf = true ∧ (Lit.int .i64 y0.f1).wf = true ∧ True))) (x1 : Int × Int × Bool) (g1 : (Lit.int .i64 x1.1).wf = true ∧ (Lit.int .i64 x1.2.1).wf = true ∧ True) : ∃ k, laws_FnExactPutRegion.f k l0 (x1.1) (x1.2.1) (x1.2.2) = some true := by
  suffices h : Ev (fun k => laws_FnExactPutRegion.f k l0 (x1.1) (x1.2.1) (x1.2.2)) true by
    obtain ⟨n, hn⟩ := h; exact ⟨n, hn n (Nat.le_refl n)⟩
  unfold laws_FnExactPutRegion.f
  simp only [szRegionS_eq l0 g0.1, Option.bind_some]
  by_cases hlen : (l0.length : Int) ≤ 1048576
  · simp only [if_pos hlen, if_neg (show ¬ (1048576 - (l0.length : Int)) < 0 by omega)]
    have hl : (l0.map toReg_).length ≤ 1048576 := by rw [List.length_map]; omega
    have hy := chB_small (l0.map toReg_) x1.1 x1.2.1 x1.2.2 (zz (marksB (l0.map toReg_) zer))
    have e1 := toRegionS_ev l0 (by omega)
    have e2 := spec_Put_ev (l0.map toReg_) hl x1.1 x1.2.1 x1.2.2
    have e3 := impl_Put_ev (l0.map toReg_) hl x1.1 x1.2.1 x1.2.2 g1.2.1
    change (putB (l0.map toReg_) x1.1 x1.2.1 x1.2.2).1.length ≤ 12 at hy
    have e0 : laws_toRegion.f x1.1 x1.2.1 x1.2.2 = some (x1.1, x1.2.1, x1.2.2) := rfl
    generalize putB (l0.map toReg_) x1.1 x1.2.1 x1.2.2 = y at *
    generalize l0.map toReg_ = t at *
    have e4 := eqRegionS_refl t hl
    have e5 := eqRegionS_refl y.1 (by omega)
    have e6 := markRegionS_ev t hl 1 (by omega) (by omega)
    have e7 := markRegionS_ev y.1 (by omega) 1 (by omega) (by omega)
    have e8 := heldRegionS_ev y.1.length (by omega) 1 (by omega) (by omega)
    refine Ev.bind e1 ?_
    simp only [e0, Option.bind_some]
    refine Ev.bind e2 ?_
    refine Ev.bind e1 ?_
    refine Ev.bind e3 ?_
    refine Ev.bind e5 ?_
    simp only [if_true]
    refine Ev.step (f := fun k => (laws_toRegionS.f k l0).bind fun t858 => ((laws_eqRegionS.f k t t858).bind fun t861 => (if t861 = true then ((laws_markRegionS.f k t 1).bind fun bt862 => (if bt862.1 < 0 then (laws_FnExactPutRegion.j1 k l0 y.1 y.2 y.1 true x1.1 x1.2.1 x1.2.2) else ((laws_eqRegionS.f k y.1 y.1).bind fun t864 => (if t864 = true then (laws_FnExactPutRegion.j1 k l0 y.1 y.2 y.1 (y.2 != y.2) x1.1 x1.2.1 x1.2.2) else (laws_FnExactPutRegion.j1 k l0 y.1 y.2 y.1 true x1.1 x1.2.1 x1.2.2))))) else (some false)))) (fun k => ?_) ?_
    · simp only [laws_FnExactPutRegion.j0]
      rw [if_neg (by simp)]
    refine Ev.bind e1 ?_
    refine Ev.bind e4 ?_
    simp only [if_true]
    refine Ev.bind e6 ?_
    simp only [if_neg (show ¬ (1 + 3 * (t.length : Int)) < 0 by omega)]
    refine Ev.bind e5 ?_
    simp only [if_true]
    refine Ev.step (f := fun k => (laws_markRegionS.f k y.1 1).bind fun bt865 => ((laws_heldRegionS.f k bt865.2 1).bind fun t867 => (if t867 < 0 then (some false) else (if t867 = bt865.1 then ((laws_toRegionS.f k l0).bind fun t868 => ((laws_toRegion.f x1.1 x1.2.1 x1.2.2).bind fun bt871 => ((impl_PutRegion.f k t868 bt871.1 bt871.2.1 bt871.2.2).bind fun bt874 => ((laws_eqRegionS.f k bt874.1 y.1).bind fun t878 => (if t878 = true then (laws_FnExactPutRegion.j2 k bt865.2 bt865.1 (bt874.2 != y.2)) else (laws_FnExactPutRegion.j2 k bt865.2 bt865.1 true)))))) else (some false))))) (fun k => ?_) ?_
    · simp only [laws_FnExactPutRegion.j1]
      rw [if_neg (by simp)]
    refine Ev.bind e7 ?_
    refine Ev.bind e8 ?_
    simp only [if_neg (show ¬ (1 + 3 * (y.1.length : Int)) < 0 by omega), if_true]
    refine Ev.bind e1 ?_
    simp only [e0, Option.bind_some]
    refine Ev.bind e3 ?_
    refine Ev.bind e5 ?_
    simp only [if_true]
    refine Ev.step (f := fun k => (laws_heldRegionS.f k (upReg 1 y.1.length) 1).bind fun t879 => (if t879 < 0 then (some false) else (if t879 = (1 + 3 * (y.1.length : Int)) then (some true) else (some false)))) (fun k => ?_) ?_
    · simp only [laws_FnExactPutRegion.j2]
      rw [if_neg (by simp)]
      rfl
    refine Ev.bind e8 ?_
    simp only [if_neg (show ¬ (1 + 3 * (y.1.length : Int)) < 0 by omega), if_true]
    exact Ev.now true
  · simp only [if_neg hlen, if_pos (show (-1 : Int) < 0 by omega)]
    exact Ev.now true

end Go.Proofs.Ytdpejnckojhgjaa.Pure
end
