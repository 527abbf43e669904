/- What the proof of FnPartsSaid rests on, part 5: plain lemmas and contracts of the functions that the law reaches (in part written by a printing program over the translation). No condition. -/
import Derived.Test.YtpkdfdkicblheaaBFnPartsd
import Derived.Shelf.Spec.SlicesInsertGrow
section
namespace Go.Proofs.Ytpkdfdkicblheaa.P
open Go.RowKit Go.Proofs.YtpkdfdkicblheaaW.PrintWords Go.Proofs.YtpkdfdkicblheaaW.PrintLast Go.Proofs.YtpkdfdkicblheaaW.PrintMore
attribute [local go_sem] max2_int min2_int max_two min_two max_three min_three max_four min_four   -- for this text's walks alone
set_option linter.unusedVariables false
set_option linter.unusedSimpArgs false

/-! ### spec_DrawTakePart: function 14 -/
def spec_DrawTakePart.f (k : Nat) (l0 : List Int) : Option ((List (S47)) × Int) := (spec_l01New.f k l0).bind fun bt320 => ((spec_l04Slabs.f k bt320.1 bt320.2.1 bt320.2.2).bind fun bt324 => ((spec_l01PickInt.f bt320.1 bt324.2.1 bt324.2.2 (([1, 2, 4, 3, 0] : List Int))).bind fun bt332 => (some (bt324.1, bt332.1))))
theorem spec_DrawTakePart.mono : ∀ a0 k, LeO (spec_DrawTakePart.f k a0) (spec_DrawTakePart.f (k + 1) a0) := by
  intro a0 k
  unfold spec_DrawTakePart.f
  repeat' first
      | (with_reducible exact spec_l01New.mono _ _)
      | (with_reducible exact spec_l04Slabs.mono _ _ _ _)
      | (with_reducible exact LeO.refl _)
      | (with_reducible exact LeO.none _)
      | (with_reducible refine LeO.ite ?_ ?_)
      | (with_reducible refine LeO.bind ?_ (fun _ => ?_))
      | exact spec_l01New.mono _ _
      | exact spec_l04Slabs.mono _ _ _ _
      | exact LeO.none _
      | refine LeO.ite ?_ ?_
      | refine LeO.bind ?_ (fun _ => ?_)
set_option maxHeartbeats 8000000 in
set_option maxRecDepth 100000 in
theorem spec_DrawTakePart.calls (k : Nat) (A0 : Option Addr) (c0 : Nat) (l0 : List Int) (r1 : List (S47)) (r2 : Int) (w : World) (hr0 : Kd.C (Kd.int .u8) w A0 l0.length l0) (hc0 : l0.length ≤ c0) (h : spec_DrawTakePart.f k l0 = some (r1, r2)) :
    Calls Try.prog 14 #[.slice A0 l0.length c0] w fun e w' => ∃ v0_ : Value, e = .returned (.tuple #[v0_, .int .i64 r2]) ∧ Kd.N k47 47 w' w.heap.size (fun k_ => (w.heap.size ≤ k_)) v0_ r1 ∧ Below w.heap.size w w' := by
  have HR0 := Aside0.mk hr0
  have HC0 := Aside0.mk hc0
  clear hr0 hc0
  have HB := Aside0.mk (Below.refl w.heap.size w)
  have H : ((spec_l01New.f k l0).bind fun bt320 => ((spec_l04Slabs.f k bt320.1 bt320.2.1 bt320.2.2).bind fun bt324 => ((spec_l01PickInt.f bt320.1 bt324.2.1 bt324.2.2 (([1, 2, 4, 3, 0] : List Int))).bind fun bt332 => (some (bt324.1, bt332.1))))) = some (r1, r2) := h
  clear h
  replace H := Option.bind_eq_some_iff.mp H
  obtain ⟨⟨t320, t321, t322⟩, A20, H⟩ := H
  replace H : ((spec_l04Slabs.f k t320 t321 t322).bind fun bt324 => ((spec_l01PickInt.f t320 bt324.2.1 bt324.2.2 (([1, 2, 4, 3, 0] : List Int))).bind fun bt332 => (some (bt324.1, bt332.1)))) = some (r1, r2) := H
  have A2 := Aside0.mk A20
  clear A20
  replace H := Option.bind_eq_some_iff.mp H
  obtain ⟨⟨t324, t327, t328⟩, A30, H⟩ := H
  replace H : ((spec_l01PickInt.f t320 t327 t328 (([1, 2, 4, 3, 0] : List Int))).bind fun bt332 => (some (t324, bt332.1))) = some (r1, r2) := H
  have A3 := Aside0.mk A30
  clear A30
  obtain ⟨y329, hy329⟩ : ∃ y_ : List Int, y_ = (([1, 2, 4, 3, 0] : List Int)) := ⟨_, rfl⟩
  replace H : ((spec_l01PickInt.f t320 t327 t328 y329).bind fun bt332 => (some (t324, bt332.1))) = some (r1, r2) := by first | (rw [hy329]; with_reducible exact H) | (have H2_ := (Option.bind_some _ _).symm.trans H; rw [hy329]; with_reducible exact H2_) | (have H2_ := (Option.bind_some _ _).symm.trans H; with_reducible exact H2_) | with_reducible exact H | (rw [hy329]; exact H) | exact H
  have Ny329 := Aside0.mk hy329
  clear hy329
  replace H := Option.bind_eq_some_iff.mp H
  obtain ⟨⟨t332, t333, t334⟩, A40, H⟩ := H
  replace H : (some (t324, t332)) = some (r1, r2) := H
  have A4 := Aside0.mk A40
  clear A40
  simp only [Option.some.injEq, Prod.mk.injEq] at H
  obtain ⟨rfl, rfl⟩ := H
  go_enter Try.func14, Try.ntmps14
  go_wp2_with (first | ((with_reducible refine gate_callee (f := 34) rfl ?_); refine goesL_ (some 6) rfl rfl Try.func34 (by kernel_rfl) rfl #[.slice A0 l0.length c0] rfl (by (try simp only [List.map_toArray, List.map_cons, List.map_nil]); first | done | rfl | (simp only [List.length_drop, List.length_take]; rfl)) ?_; (with_reducible refine (spec_l01New.calls k _ _ l0 t320 t321 t322 w _ ?side1 ?side2 ?side3 A2.out).mono ?_); (case side1 => repeat (first | (with_reducible first | exact HB.out | apply below_alloc | apply pw_below_drewN | apply below_drew1) | exact HB.out)); (case side2 => exact HR0.out); (case side3 => exact HC0.out); rintro e w5 ⟨g323, rfl, hi, hb, hb2⟩; refine ⟨_, rfl, ?_⟩; have n0_ := Aside0.mk (hb); have n1_ := Aside0.mk (hi); clear HB; have HB := n0_; have HI323 := n1_; clear n0_ n1_; (try clear hb); (try clear hb2); (try clear hk); (try clear hi)) | ((with_reducible refine gate_callee (f := 35) rfl ?_); refine goesL_ (some 8) rfl rfl Try.func35 (by kernel_rfl) rfl #[.pointer (some ⟨g323, 0, none⟩)] rfl (by (try simp only [List.map_toArray, List.map_cons, List.map_nil]); first | done | rfl | (simp only [List.length_drop, List.length_take]; rfl)) ?_; (with_reducible refine (spec_l04Slabs.calls k g323 t320 t321 t322 t324 t327 t328 w _ ?side1 ?side2 A3.out).mono ?_); (case side1 => repeat (first | (with_reducible first | exact HI323.out | apply IsS67.alloc | apply IsS67.drewN | apply IsS67.drew | apply IsS67.set_1 | apply IsS67.set_2) | exact HI323.out)); (case side2 => repeat (first | (with_reducible first | exact HB.out | apply below_alloc | apply pw_below_drewN | apply below_drew1 | refine below_set ?_ (IsS67.ge HI323.out)) | exact HB.out)); rintro e w6 ⟨v325, rfl, ho0, hi, hb, hk⟩; refine ⟨_, rfl, ?_⟩; have n0_ := Aside0.mk (Kd.N_lower (Kd.N_mono (ok' := fun k_ => (w.heap.size ≤ k_) ∧ k_ ≠ g323) ho0 (fun k_ hk_ => ⟨(Nat.le_trans (below_size (by repeat (first | (with_reducible first | exact HB.out | apply below_alloc | apply pw_below_drewN | apply below_drew1 | refine below_set ?_ (IsS67.ge HI323.out)) | exact HB.out))) hk_), (IsS67.fresh (by repeat (first | (with_reducible first | exact HI323.out | apply IsS67.alloc | apply IsS67.drewN | apply IsS67.drew | apply IsS67.set_1 | apply IsS67.set_2) | exact HI323.out)) k_ hk_)⟩)) (below_size (by repeat (first | (with_reducible first | exact HB.out | apply below_alloc | apply pw_below_drewN | apply below_drew1 | refine below_set ?_ (IsS67.ge HI323.out)) | exact HB.out)))); have n1_ := Aside0.mk (hb); have n2_ := Aside0.mk (hi); clear HB; clear HI323; have HO326 := n0_; have HB := n1_; have HI323 := n2_; clear n0_ n1_ n2_; (try clear hb); (try clear hb2); (try clear hk); (try clear hi); (try clear ho0)) | ((with_reducible refine gate_dst (N := 10) rfl ?_); refine Kd.R_lit (Kd.int .i64) _ 3 ?hg (N := 10) ?hd (xs := ([1, 2, 4, 3, 0] : List Int)) (inner := [.int .i64 1, .int .i64 2, .int .i64 4, .int .i64 3, .int .i64 0]) (ok := fun _ => True) (okp := fun _ => True) ?hr ?hp (fun _ hk => hk) trivial (Below.refl _ _) (Nat.le_refl _) (by simp) ?_; (case hd => rfl); (case hg => rfl); (case hr => first | (go_simp; done) | (go_simp; rfl)); (case hp => exact (Reps.one (show Kd.M (Kd.int .i64) _ _ _ 1 [.int .i64 1] from rfl) (Reps.one (show Kd.M (Kd.int .i64) _ _ _ 2 [.int .i64 2] from rfl) (Reps.one (show Kd.M (Kd.int .i64) _ _ _ 4 [.int .i64 4] from rfl) (Reps.one (show Kd.M (Kd.int .i64) _ _ _ 3 [.int .i64 3] from rfl) (Reps.one (show Kd.M (Kd.int .i64) _ _ _ 0 [.int .i64 0] from rfl) (Reps.none _ _))))))); intro v330 w7 ho8 hb hg_ hnew_; clear hg_ hnew_; (first | rw [← Ny329.out] at ho8 | (simp only [Int.reduceToNat] at ho8; rw [← Ny329.out] at ho8)); have n0_ := Aside0.mk (Kd.N_elder' (by (with_reducible repeat (first | apply Kd.N_alloc | apply Kd.N_drewN | apply Kd.N_drew)); exact HO326.out) (Kd.R_base ho8) hb); have n1_ := Aside0.mk (Kd.R_lower (Kd.R_newM (M := fun k_ => (w.heap.size ≤ k_)) ho8 (below_size (by repeat (first | (with_reducible first | exact HB.out | apply below_alloc | apply pw_below_drewN | apply below_drew1 | refine below_set ?_ (IsS67.ge HI323.out)) | exact HB.out))) (fun k_ h_ => h_)) (below_size (by repeat (first | (with_reducible first | exact HB.out | apply below_alloc | apply pw_below_drewN | apply below_drew1 | refine below_set ?_ (IsS67.ge HI323.out)) | exact HB.out)))); have n2_ := Aside0.mk (IsS67.below (by repeat (first | (with_reducible first | exact HI323.out | apply IsS67.alloc | apply IsS67.drewN | apply IsS67.drew | apply IsS67.set_1 | apply IsS67.set_2) | exact HI323.out)) hb); have n3_ := Aside0.mk (below_step (by repeat (first | (with_reducible first | exact HB.out | apply below_alloc | apply pw_below_drewN | apply below_drew1 | refine below_set ?_ (IsS67.ge HI323.out)) | exact HB.out)) hb); clear HO326; clear HI323; clear HB; have HO326 := n0_; have HO331 := n1_; have HI323 := n2_; have HB := n3_; clear n0_ n1_ n2_ n3_; clear hb ho8; obtain ⟨Ao9, co9, eo9⟩ := Kd.R_slice HO331.out; subst eo9) | ((with_reducible refine gate_callee (f := 36) rfl ?_); refine goesL_ (some 11) rfl rfl Try.func36 (by kernel_rfl) rfl #[.pointer (some ⟨g323, 0, none⟩), .slice Ao9 y329.length co9] rfl (by (try simp only [List.map_toArray, List.map_cons, List.map_nil]); first | done | rfl | (simp only [List.length_drop, List.length_take]; rfl)) ?_; (with_reducible refine (spec_l01PickInt.calls g323 t320 t327 t328 _ _ y329 t332 t333 t334 w _ ?side1 ?side2 ?side3 ?side4 ?side5 A4.out).mono ?_); (case side1 => repeat (first | (with_reducible first | exact HI323.out | apply IsS67.alloc | apply IsS67.drewN | apply IsS67.drew | apply IsS67.set_1 | apply IsS67.set_2) | exact HI323.out)); (case side2 => repeat (first | (with_reducible first | exact HB.out | apply below_alloc | apply pw_below_drewN | apply below_drew1 | refine below_set ?_ (IsS67.ge HI323.out)) | exact HB.out)); (case side3 => repeat (first | exact (Kd.R_reads' HO331.out).2.2 | (with_reducible refine Kd.C_alloc ?_ _) | (with_reducible refine Kd.C_drewN ?_ _) | (with_reducible refine Kd.C_drew ?_))); (case side4 => exact (Kd.R_reads' HO331.out).2.1); (case side5 => exact far_slice (IsS67.own_ne HI323.out HO331.out (by decide))); rintro e w10 ⟨rfl, hi, hb, hk⟩; refine ⟨_, rfl, ?_⟩; have n0_ := Aside0.mk (Kd.N_mono (Kd.N_keep (Kd.N_mono (ok := fun k_ => ((((w.heap.size ≤ k_)) ∧ k_ ≠ g323) ∧ some k_ ≠ (.slice Ao9 y329.length co9 : Value).ownBlock)) (by (with_reducible repeat (first | apply Kd.N_alloc | apply Kd.N_drewN | apply Kd.N_drew)); exact HO326.out) (fun k_ hk_ => (⟨hk_, hk_.1.2⟩ : _ ∧ k_ ≠ g323))) hk (fun _ h => h.2)) (fun _ h => h.1)); have n1_ := Aside0.mk (Kd.R_mono (Kd.R_keep (IsS67.apart (show IsS67 w _ g323 t320 t327 t328 from by repeat (first | (with_reducible first | exact HI323.out | apply IsS67.alloc | apply IsS67.drewN | apply IsS67.drew | apply IsS67.set_1 | apply IsS67.set_2) | exact HI323.out)) (by (with_reducible repeat (first | apply Kd.R_alloc | apply Kd.R_drewN | apply Kd.R_drew)); exact HO331.out) (by decide)) hk (fun _ h => h.2)) (fun _ h => h.1)); have n2_ := Aside0.mk (hb); have n3_ := Aside0.mk (hi); clear HO326; clear HO331; clear HB; clear HI323; have HO326 := n0_; have HO331 := n1_; have HB := n2_; have HI323 := n3_; clear n0_ n1_ n2_ n3_; (try clear hb); (try clear hb2); (try clear hk); (try clear hi)))
  go_ret2
  exact ⟨_, by first | rfl | (simp [errW_none, errW_some] <;> rfl) | (simp [*, errW_none, errW_some] <;> rfl), by (with_reducible repeat (first | apply Kd.N_alloc | apply Kd.N_drewN | apply Kd.N_drew)); exact Kd.N_mono HO326.out (fun _ hk => hk.1.1), by repeat (first | (with_reducible first | exact HB.out | apply below_alloc | apply pw_below_drewN | apply below_drew1 | refine below_set ?_ (IsS67.ge HI323.out)) | exact HB.out)⟩

end Go.Proofs.Ytpkdfdkicblheaa.P
end
section
namespace Go.Proofs.Ytpkdfdkicblheaa.P
open Go.RowKit Go.Proofs.YtpkdfdkicblheaaW.PrintWords Go.Proofs.YtpkdfdkicblheaaW.PrintLast Go.Proofs.YtpkdfdkicblheaaW.PrintMore
attribute [local go_sem] max2_int min2_int max_two min_two max_three min_three max_four min_four   -- for this text's walks alone
set_option linter.unusedVariables false
set_option linter.unusedSimpArgs false

/-! ### impl_Slab_38: function 38 -/
theorem cut3 (inner vc : List Value) (n i : Nat) (hi : i ≤ n) (hn : inner.length = n * 3) (hv : vc.length = 3) (j : Nat) (hj : j < n + 1) :
    ((inner.take (i * 3) ++ vc ++ inner.drop (i * 3)).drop (j * 3)).take 3 = if j < i then (inner.drop (j * 3)).take 3 else if j = i then vc else (inner.drop ((j - 1) * 3)).take 3 := by
  have h1 : (inner.take (i * 3)).length = i * 3 := by rw [List.length_take]; omega
  by_cases c1 : j < i
  · rw [if_pos c1]
    apply List.ext_getElem?
    intro t
    by_cases ht : t < 3
    · rw [List.getElem?_take_of_lt ht, List.getElem?_take_of_lt ht, List.getElem?_drop, List.getElem?_drop, List.append_assoc, List.getElem?_append_left (by rw [h1]; omega), List.getElem?_take_of_lt (by omega)]
    · rw [List.getElem?_eq_none (by rw [List.length_take]; omega), List.getElem?_eq_none (by rw [List.length_take]; omega)]
  · rw [if_neg c1]
    by_cases c2 : j = i
    · rw [if_pos c2]
      subst c2
      rw [List.append_assoc, List.drop_append_of_le_length (by omega), List.drop_of_length_le (by omega), List.nil_append, List.take_append_of_le_length (by omega), List.take_of_length_le (by omega)]
    · rw [if_neg c2]
      apply List.ext_getElem?
      intro t
      by_cases ht : t < 3
      · rw [List.getElem?_take_of_lt ht, List.getElem?_take_of_lt ht, List.getElem?_drop, List.getElem?_drop, List.getElem?_append_right (by rw [List.length_append, h1, hv]; omega), List.length_append, h1, hv, List.getElem?_drop]
        congr 1
        omega
      · rw [List.getElem?_eq_none (by rw [List.length_take]; omega), List.getElem?_eq_none (by rw [List.length_take]; omega)]
theorem ins_at {α : Type} (l : List α) (x : α) (i : Nat) (hi : i ≤ l.length) (j : Nat) : (l.take i ++ x :: l.drop i)[j]? = if j < i then l[j]? else if j = i then some x else l[j - 1]? := by
  have h1 : (l.take i).length = i := by rw [List.length_take]; omega
  by_cases c1 : j < i
  · rw [if_pos c1, List.getElem?_append_left (by omega), List.getElem?_take_of_lt c1]
  · rw [if_neg c1, List.getElem?_append_right (by omega), h1]
    by_cases c2 : j = i
    · rw [if_pos c2]; subst c2; rw [Nat.sub_self]; rfl
    · rw [if_neg c2, show j - i = (j - i - 1) + 1 by omega, List.getElem?_cons_succ, List.getElem?_drop]
      congr 1
      omega
theorem S_ins {w w' : World} {base : Nat} {P0 okv : Nat → Prop} {u v : Value} {l0 : List S47} {x : S47} {i : Nat} {inner vc : List Value} {f : Nat → Nat} (hi : i ≤ l0.length) (hl : inner.length = l0.length * 3) (hP : ∀ k, u.ownBlock = some k → P0 k)
    (hr : Reps ((Kd.tag f k47).M w base (fun k => P0 k ∧ some k ≠ u.ownBlock)) 3 l0.zipIdx inner) (hx : k47.M w base okv x vc) (hdis : ∀ k, okv k → ¬ P0 k)
    (hg : w.grownBy w' u.ownBlock) (hown' : w'.ownsRow base 47 3 v (l0.length + 1) (inner.take (i * 3) ++ vc ++ inner.drop (i * 3))) (hat : v.ownBlock = u.ownBlock ∨ ∃ b, v.ownBlock = some b ∧ w.heap.size ≤ b) :
    Kd.S k47 47 w' base (fun k => P0 k ∨ okv k ∨ w.heap.size ≤ k) v (l0.take i ++ x :: l0.drop i) := by
  classical
  have hvl : vc.length = 3 := k47.K_len (k47.K_of_M hx)
  have hokv : ∀ k, okv k → some k ≠ u.ownBlock := fun k hk e => hdis k hk (hP k e.symm)
  have hnv : ∀ k, some k ≠ u.ownBlock → k < w.heap.size → some k ≠ v.ownBlock := by
    intro k h1 h2
    rcases hat with h | ⟨b, h, hb⟩
    · rw [h]; exact h1
    · rw [h]; intro e; injection e with e; omega
  have hlen : (l0.take i ++ x :: l0.drop i).length = l0.length + 1 := by rw [List.length_append, List.length_cons, List.length_take, List.length_drop]; omega
  refine ⟨fun k => if okv k then i else if f k < i then f k else f k + 1, fun k hk => ?_, inner.take (i * 3) ++ vc ++ inner.drop (i * 3), by rw [List.length_zipIdx, hlen]; exact hown', ?_, fun j p hj => ?_⟩
  · rcases hat with h | ⟨b, h, hb⟩
    · exact .inl (hP k (h ▸ hk))
    · rw [h] at hk; injection hk with hk; exact .inr (.inr (by omega))
  · rw [List.length_zipIdx, hlen]
    exact hown'.1
  · rw [List.getElem?_zipIdx, Nat.zero_add, Option.map_eq_some_iff] at hj
    obtain ⟨q, hq, rfl⟩ := hj
    have hjl : j < l0.length + 1 := by have := (List.getElem?_eq_some_iff.1 hq).1; omega
    show (Kd.tag _ k47).M w' base _ (q, j) (((inner.take (i * 3) ++ vc ++ inner.drop (i * 3)).drop (j * 3)).take 3)
    rw [cut3 inner vc l0.length i hi hl hvl j hjl]
    rw [ins_at l0 x i hi j] at hq
    have old : ∀ (j0 : Nat) (c : List Value), (j0 < i ∧ j = j0 ∨ ¬ j0 < i ∧ j = j0 + 1) → l0[j0]? = some q → c = (inner.drop (j0 * 3)).take 3 → (Kd.tag (fun k => if okv k then i else if f k < i then f k else f k + 1) k47).M w' base (fun k => (P0 k ∨ okv k ∨ w.heap.size ≤ k) ∧ some k ≠ v.ownBlock) (q, j) c := by
      intro j0 c hj0 hq0 hc
      subst hc
      have h1 := hr.2 j0 (q, j0) (by rw [List.getElem?_zipIdx, hq0, Nat.zero_add]; rfl)
      have h2 : k47.M w base (fun k => (P0 k ∧ some k ≠ u.ownBlock) ∧ f k = j0) q ((inner.drop (j0 * 3)).take 3) := h1
      have h3 := Kd.M_step (w1 := w') (k47.M_bound h2) (fun k hk hlt => hg.block k hlt hk.1.1.2)
      refine k47.M_mono (fun k hk => ?_) h3
      obtain ⟨⟨⟨h4, h5⟩, h6⟩, _, h7, _⟩ := hk
      refine ⟨⟨.inl h4, hnv k h5 h7⟩, ?_⟩
      have h8 : ¬ okv k := fun h => hdis k h h4
      show (if okv k then i else if f k < i then f k else f k + 1) = j
      rw [if_neg h8, h6]
      rcases hj0 with ⟨h9, h10⟩ | ⟨h9, h10⟩
      · rw [if_pos h9, h10]
      · rw [if_neg h9, h10]
    by_cases c1 : j < i
    · rw [if_pos c1] at hq ⊢
      exact old j _ (.inl ⟨c1, rfl⟩) hq rfl
    · rw [if_neg c1] at hq ⊢
      by_cases c2 : j = i
      · rw [if_pos c2] at hq ⊢
        obtain rfl := Option.some.inj hq
        subst c2
        have h3 := Kd.M_step (w1 := w') (k47.M_bound hx) (fun k hk hlt => hg.block k hlt (hokv k hk.1))
        refine k47.M_mono (fun k hk => ?_) h3
        obtain ⟨h4, _, h7, _⟩ := hk
        refine ⟨⟨.inr (.inl h4), hnv k (hokv k h4) h7⟩, ?_⟩
        show (if okv k then j else if f k < j then f k else f k + 1) = j
        rw [if_pos h4]
      · rw [if_neg c2] at hq ⊢
        exact old (j - 1) _ (.inr ⟨by omega, by omega⟩) hq rfl
def insertSlab.slabZ : List Value := [.int .i64 0, .int .i64 0, .slice none 0 0]
theorem insertSlab.slab_size : (Try.prog.info? 47).map (·.size) = some k47.sz := by
  obtain ⟨i0, hi, hz⟩ := Option.map_eq_some_iff.1 info47
  simp only [Prod.mk.injEq] at hz
  rw [hi]
  exact congrArg some hz.2.1
theorem run_copy3 {P : Program} (w : World) (dT sT ty elem : TypeId) (b o dLen dCap : Nat) (a : Addr) (sLen sCap m : Nat) (cs : List Value)
    (hu : P.underlying dT = some (.slice elem)) (hs : (P.info? elem).map (·.size) = some 3) (hm : m = Nat.min sLen dLen) (hn : cs.length = m * 3)
    (hsrc : ∀ j v, cs[j]? = some v → w.cell? (a.add j) = some v) (hc : ∀ j, j < cs.length → (w.cell? ⟨b, o + j, none⟩).isSome = true) (hf : ∀ j, j < cs.length → w.frozen? ⟨b, o + j, none⟩ = false) (h1 : ∀ v ∈ cs, v.oneCell' = true) :
    (Builtin.copy_ #[dT, sT] ty #[.slice (some ⟨b, o, none⟩) dLen dCap, .slice (some a) sLen sCap]).run P w = .ok (goInt m) (w.setCells b o cs) := by
  have hl := run_loadCells_list (P := P) w a cs hsrc
  have hst := run_storeCells_cells (P := P) b o cs 0 w (by simpa using hc) (by simpa using hf) h1
  rw [hn] at hl
  cases hq : P.info? elem with
  | none => simp [hq] at hs
  | some i =>
    have hi : i.size = 3 := by simpa [hq] using hs
    simp [Builtin.copy_, run_underlying hu, Builtin.lenOf, Builtin.firstCells, sizeOf, typeInfo, hq, hi, ← hm, hl, hst]
theorem setCells_blk2 {g : Nat} {t : TypeId} : ∀ (vs : List Value) (o : Nat) (w : World) (cs : Array Value), w.heap[g]? = some (.cells cs t (0, 0)) → o + vs.length ≤ cs.size → ∃ cs', (w.setCells g o vs).heap[g]? = some (.cells cs' t (0, 0)) ∧ cs'.size = cs.size ∧ ∀ j, cs'[j]? = if o ≤ j ∧ j < o + vs.length then vs[j - o]? else cs[j]?
  | [], o, w, cs, h, _ => ⟨cs, h, rfl, fun j => by rw [if_neg (by simp only [List.length_nil]; omega)]⟩
  | v :: vs, o, w, cs, h, hl => by
    rw [List.length_cons] at hl
    obtain ⟨cs', h1, h2, h3⟩ := setCells_blk2 vs (o + 1) (w.setCell ⟨g, o, none⟩ v) _ (blk_set h o v) (by simp; omega)
    refine ⟨cs', h1, by rw [h2]; simp, fun j => ?_⟩
    rw [h3 j, List.length_cons]
    by_cases c1 : o + 1 ≤ j ∧ j < o + 1 + vs.length
    · rw [if_pos c1, if_pos (by omega), show j - o = (j - (o + 1)) + 1 by omega, List.getElem?_cons_succ]
    · rw [if_neg c1, Array.getElem?_setIfInBounds]
      by_cases c2 : o = j
      · subst c2
        rw [if_pos rfl, if_pos (by omega), if_pos (by omega), Nat.sub_self]
        rfl
      · rw [if_neg c2, if_neg (by omega)]
theorem insertSlab.setCells_grown (g : Nat) (vs : List Value) : ∀ (o : Nat) (w : World), w.grownBy (w.setCells g o vs) (some g) := by
  induction vs with
  | nil => intro o w; exact ⟨rfl, rfl, rfl, Nat.le_refl _, fun _ _ _ => rfl⟩
  | cons v vs ih =>
    intro o w
    have h := ih (o + 1) (w.setCell ⟨g, o, none⟩ v)
    have h2 : (w.setCell ⟨g, o, none⟩ v).heap.size = w.heap.size := by simp [World.setCell]
    refine ⟨h.os.trans rfl, h.tape.trans rfl, h.output.trans rfl, by have := h.size; rw [h2] at this; exact this, fun k hk hne => ?_⟩
    have h3 := h.block k (by rw [h2]; exact hk) hne
    exact h3.trans (Below.heap_setCell w _ v k (fun e => hne (by rw [e])))
def InsP (base : Nat) (w w' : World) (u v : Value) (n : Nat) (cells : List Value) : Prop := w.grownBy w' u.ownBlock ∧ w'.ownsRow base 47 3 v (n + 1) cells ∧ (v.ownBlock = u.ownBlock ∨ ∃ b, v.ownBlock = some b ∧ w.heap.size ≤ b)
theorem raw_flat {w : World} {base : Nat} {ok : Nat → Prop} : ∀ (rows : List (List Value)) (cs : List Value), Reps ((Kd.raw 3).M w base ok) 3 rows cs → cs = rows.flatten
  | [], cs, h => by
    have h1 := h.1
    rw [List.length_nil, Nat.zero_mul] at h1
    exact List.length_eq_zero_iff.1 h1
  | x :: rows, cs, h => by
    have h1 := h.1
    rw [List.length_cons] at h1
    have h2 : (cs.drop (0 * 3)).take 3 = x := (h.2 0 x rfl).1
    rw [Nat.zero_mul, List.drop_zero] at h2
    have h3 : Reps ((Kd.raw 3).M w base ok) 3 rows (cs.drop 3) := ⟨by rw [List.length_drop]; omega, fun j p hj => by
      have h4 := h.2 (j + 1) p hj
      rw [show (j + 1) * 3 = 3 + j * 3 by omega, ← List.drop_drop] at h4
      exact h4⟩
    rw [List.flatten_cons, ← raw_flat rows _ h3, ← h2, List.take_append_drop]
theorem raw_row {w : World} {base g n cap : Nat} {u : Value} {inner : List Value} (ho : w.ownsRow base 47 3 u n inner) (h1 : ∀ c ∈ inner, c.oneCell' = true) : (Kd.raw 3).R 47 w base (fun _ => True) u (Kd.chunks 3 n inner) ∧ (Kd.chunks 3 n inner).flatten = inner := by
  have hrep : Reps ((Kd.raw 3).M w base (fun k => True ∧ some k ≠ u.ownBlock)) 3 (Kd.chunks 3 n inner) inner := by
    refine ⟨by rw [Kd.chunks_length]; exact ho.1, fun j p hj => ?_⟩
    have hp := Kd.chunks_get hj
    have hjn : j < n := by have := (List.getElem?_eq_some_iff.1 hj).1; rwa [Kd.chunks_length] at this
    refine ⟨hp.symm, ?_, fun c hc => ?_⟩
    · rw [List.length_take, List.length_drop, ho.1]; omega
    · exact h1 c (List.mem_of_mem_drop (List.mem_of_mem_take hc))
  exact ⟨⟨fun _ _ => trivial, inner, by rw [Kd.chunks_length]; exact ho, hrep⟩, (raw_flat _ _ hrep).symm⟩
set_option maxHeartbeats 4000000 in
set_option maxRecDepth 100000 in
theorem insEnd (u : Value) (n gv : Nat) (inner : List Value) (a b c : Value) (w0 w : World) (hB : Below w0.heap.size w0 w) (ho : w.ownsRow w0.heap.size 47 3 u n inner) (h1 : ∀ c ∈ inner, c.oneCell' = true) (hn : n ≤ 1000000)
    (hv : w.heap[gv]? = some (.cells #[a, b, c] 47 (0, 0))) (h2 : ∀ x ∈ [a, b, c], x.oneCell' = true) :
    Calls Try.prog 38 #[u, .int .i64 (n : Int), .slice (some ⟨gv, 0, none⟩) 1 1] w fun e w' => ∃ v, e = .returned v ∧ InsP w0.heap.size w w' u v n (inner.take (n * 3) ++ [a, b, c] ++ inner.drop (n * 3)) := by
  have HR := Aside0.mk (raw_row (g := 0) (cap := 0) ho h1)
  have HV : Aside0 ((Kd.raw 3).R 47 w 0 (fun _ => True) (.slice (some ⟨gv, 0, none⟩) 1 1) [[a, b, c]]) := ⟨⟨fun _ _ => trivial, [a, b, c], ⟨rfl, .inr ⟨gv, 1, #[a, b, c], rfl, Nat.zero_le _, hv, Nat.le_refl _, by unfold maxLen; omega, rfl, rfl⟩⟩, rfl, fun j p hj => by
    match j, hj with
    | 0, hj => injection hj with hj; subst hj; exact ⟨rfl, rfl, h2⟩
    | j + 1, hj => exact absurd hj (by simp)⟩⟩
  have HB := Aside0.mk hB
  have hlen := ho.1
  obtain ⟨A, cp, hu⟩ := Kd.R_slice HR.out.1
  rw [Kd.chunks_length] at hu
  subst hu
  have hnc : n ≤ cp := by have := (Kd.R_reads' HR.out.1).2.1; exact this
  have HL := Aside0.mk hlen
  clear ho h1 hv h2 hB hlen
  by_cases hcn : cp = n
  · have hcT : (cp = n) = True := eq_true hcn
    clear hcn
    go_enter Try.func38, Try.ntmps38
    go_wp2_with (first | ((with_reducible refine gate_builtin (b := .append) (xs := #[.tmp 23, .tmp 24]) rfl ?_); at_builtin; refine Kd.R_append_rows (Kd.raw 3) (w0 := w0) w0.heap.size rfl (.tmp 23) (.tmp 24) 24 47 (.agg #[(.int .i64 0), (.int .i64 0), (.slice none 0 0)]) 40 rfl Try.underlying24 info47 rfl (by decide) (by omega) (.slice A n cp) (Kd.chunks 3 n inner) [[a, b, c]] (some ⟨gv, 0, none⟩) 1 1 (fun _ => True) (fun _ => False) rfl rfl HR.out.1 (Kd.R_reads' HV.out).2.2 (fun x cs h => h) (fun _ h => h.elim) (fun _ _ => trivial) HB.out HB.out.size (by rw [Kd.chunks_length]; omega) ?_; intro v1 w1 hr hb hg hat))
    go_ret
    obtain ⟨_, inner', hown, hre⟩ := hr
    have e1 := raw_flat _ _ hre
    rw [List.flatten_append, HR.out.2] at e1
    rw [List.length_append, Kd.chunks_length] at hown
    refine ⟨v1, rfl, hg, ?_, hat⟩
    have e2 : inner.take (n * 3) ++ [a, b, c] ++ inner.drop (n * 3) = inner' := by
      rw [e1, List.take_of_length_le (by rw [HL.out]; omega), List.drop_of_length_le (by rw [HL.out]; omega), List.append_nil]
      rfl
    rw [e2]
    exact hown
  · have hcT : (cp = n) = False := eq_false hcn
    clear hcn
    go_enter Try.func38, Try.ntmps38
    go_wp2_with (first | ((with_reducible refine gate_builtin (b := .append) (xs := #[.tmp 23, .tmp 24]) rfl ?_); at_builtin; refine Kd.R_append_rows (Kd.raw 3) (w0 := w0) w0.heap.size rfl (.tmp 23) (.tmp 24) 24 47 (.agg #[(.int .i64 0), (.int .i64 0), (.slice none 0 0)]) 40 rfl Try.underlying24 info47 rfl (by decide) (by omega) (.slice A n cp) (Kd.chunks 3 n inner) [[a, b, c]] (some ⟨gv, 0, none⟩) 1 1 (fun _ => True) (fun _ => False) rfl rfl HR.out.1 (Kd.R_reads' HV.out).2.2 (fun x cs h => h) (fun _ h => h.elim) (fun _ _ => trivial) HB.out HB.out.size (by rw [Kd.chunks_length]; omega) ?_; intro v1 w1 hr hb hg hat))
    go_ret
    obtain ⟨_, inner', hown, hre⟩ := hr
    have e1 := raw_flat _ _ hre
    rw [List.flatten_append, HR.out.2] at e1
    rw [List.length_append, Kd.chunks_length] at hown
    refine ⟨v1, rfl, hg, ?_, hat⟩
    have e2 : inner.take (n * 3) ++ [a, b, c] ++ inner.drop (n * 3) = inner' := by
      rw [e1, List.take_of_length_le (by rw [HL.out]; omega), List.drop_of_length_le (by rw [HL.out]; omega), List.append_nil]
      rfl
    rw [e2]
    exact hown
set_option maxHeartbeats 4000000 in
set_option maxRecDepth 100000 in
theorem insShift (g n cap i gv : Nat) (cur : Array Value) (inner : List Value) (a b c : Value) (w0 w : World) (hi : i < n) (hroom : n + 1 ≤ cap) (hc63 : cap ≤ 9223372036854775807) (hvb : gv ≠ g)
    (hg : w.heap[g]? = some (.cells cur 47 (0, 0))) (hsz : cur.size = cap * 3) (htk : cur.toList.take (n * 3) = inner) (hgb : w0.heap.size ≤ g) (h1 : ∀ c ∈ inner, c.oneCell' = true) (hn : n ≤ 1000000)
    (hv : w.heap[gv]? = some (.cells #[a, b, c] 47 (0, 0))) (h2 : ∀ x ∈ [a, b, c], x.oneCell' = true) :
    Calls Try.prog 38 #[.slice (some ⟨g, 0, none⟩) n cap, .int .i64 (i : Int), .slice (some ⟨gv, 0, none⟩) 1 1] w fun e w' => ∃ v, e = .returned v ∧ InsP w0.heap.size w w' (.slice (some ⟨g, 0, none⟩) n cap) v n (inner.take (i * 3) ++ [a, b, c] ++ inner.drop (i * 3)) := by
  have hil : inner.length = n * 3 := by rw [← htk, List.length_take, Array.length_toList, hsz]; omega
  have hcell : ∀ j, w.cell? ⟨g, j, none⟩ = cur[j]? := fun j => blk_cell hg j
  have hfz : ∀ j, w.frozen? ⟨g, j, none⟩ = false := fun j => blk_frozen hg j
  have hcs : ∀ j v, inner[j]? = some v → w.cell? ⟨g, j, none⟩ = some v := fun j v hj => by
    rw [hcell]
    rw [← htk] at hj
    have hlt : j < n * 3 := by
      by_cases h : j < n * 3
      · exact h
      · rw [List.getElem?_eq_none (by rw [List.length_take]; omega)] at hj; cases hj
    rwa [List.getElem?_take_of_lt hlt, Array.getElem?_toList] at hj
  have hsp : ∀ j, j < (n + 1) * 3 → (w.cell? ⟨g, j, none⟩).isSome = true := fun j hj => by rw [hcell, Array.getElem?_eq_getElem (by omega)]; rfl
  have hdl : (inner.drop (i * 3)).length = (n - i) * 3 := by rw [List.length_drop, hil]; omega
  have hov : ∀ lb cb, (callFunc 45 #[.slice (some ⟨gv, 0, none⟩) 1 1, .slice (some ⟨g, (i + 1) * 3, none⟩) lb cb]).run Try.prog w = .ok (.value (.bool false)) w := fun lb cb => by
    rw [run_callFunc_extern Try.func45 (by kernel_rfl) (by kernel_rfl) (by kernel_rfl) (e := Extern.SlicesOverlaps.overlaps #[24, 24] #[4]) (by kernel_rfl),
      Lib.run_overlaps_apart w 24 4 47 Try.underlying24 3 Try.sizeOf47 ⟨gv, 0, none⟩ ⟨g, (i + 1) * 3, none⟩ 1 1 lb cb hvb 47 47 3 cur.size (by simp [World.shape?, hv]) (by simp [World.shape?, hg]) (by omega) (blk_frozen hv 0) (blk_frozen hv 3)]
    rfl
  have hcp1 : ∀ ty dc sc, (Builtin.copy_ #[24, 24] ty #[.slice (some ⟨g, (i + 1) * 3, none⟩) (n - i) dc, .slice (some ⟨g, i * 3, none⟩) (n + 1 - i) sc]).run Try.prog w.drew = .ok (goInt ((n - i : Nat) : Int)) (w.drew.setCells g ((i + 1) * 3) (inner.drop (i * 3))) := fun ty dc sc =>
    run_copy3 w.drew 24 24 ty 47 g ((i + 1) * 3) (n - i) dc ⟨g, i * 3, none⟩ (n + 1 - i) sc (n - i) (inner.drop (i * 3)) Try.underlying24 insertSlab.slab_size (by simp only [Nat.min_def]; split <;> omega) hdl
      (fun j v hj => by
        rw [Addr.add_lit]
        exact hcs (i * 3 + j) v (by rwa [List.getElem?_drop] at hj))
      (fun j hj => hsp _ (by omega)) (fun j hj => hfz _) (fun v hv => h1 v (List.mem_of_mem_drop hv))
  obtain ⟨W1, hW1⟩ : ∃ W1, W1 = w.drew.setCells g ((i + 1) * 3) (inner.drop (i * 3)) := ⟨_, rfl⟩
  obtain ⟨cur1, hb1, hs1, hc1⟩ := setCells_blk2 (inner.drop (i * 3)) ((i + 1) * 3) w.drew cur hg (by rw [hdl, hsz]; omega)
  have hgr1 := insertSlab.setCells_grown g (inner.drop (i * 3)) ((i + 1) * 3) w.drew
  rw [← hW1] at hcp1 hb1 hgr1
  have hv1 : W1.heap[gv]? = some (.cells #[a, b, c] 47 (0, 0)) := (hgr1.block gv (blk_lt hv) (fun e => hvb (by injection e))).trans hv
  have hcp2 : ∀ ty dc, (Builtin.copy_ #[24, 24] ty #[.slice (some ⟨g, i * 3, none⟩) (n + 1 - i) dc, .slice (some ⟨gv, 0, none⟩) 1 1]).run Try.prog W1 = .ok (goInt ((1 : Nat) : Int)) (W1.setCells g (i * 3) [a, b, c]) := fun ty dc =>
    run_copy3 W1 24 24 ty 47 g (i * 3) (n + 1 - i) dc ⟨gv, 0, none⟩ 1 1 1 [a, b, c] Try.underlying24 insertSlab.slab_size (by simp only [Nat.min_def]; split <;> omega) rfl
      (fun j v hj => by
        rw [add_plain, blk_cell hv1]
        rw [← List.getElem?_toArray] at hj
        exact hj)
      (fun j hj => by
        rw [blk_cell hb1, Array.getElem?_eq_getElem (by have h9 : j < 3 := hj; omega)]; rfl) (fun j hj => blk_frozen hb1 _) h2
  obtain ⟨cur2, hb2, hs2, hc2⟩ := setCells_blk2 [a, b, c] (i * 3) W1 cur1 hb1 (by rw [hs1, hsz]; show i * 3 + 3 ≤ _; omega)
  have hgr2 := insertSlab.setCells_grown g [a, b, c] (i * 3) W1
  have HF : Aside0 (InsP w0.heap.size w (W1.setCells g (i * 3) [a, b, c]) (.slice (some ⟨g, 0, none⟩) n cap) (.slice (some ⟨g, 0, none⟩) (n + 1) cap) n (inner.take (i * 3) ++ [a, b, c] ++ inner.drop (i * 3))) := by
    refine ⟨⟨?_, ⟨?_, .inr ⟨g, cap, cur2, rfl, hgb, hb2, hroom, hc63, by rw [hs2, hs1, hsz], ?_⟩⟩, .inl rfl⟩⟩
    · exact ⟨hgr2.os.trans hgr1.os, hgr2.tape.trans hgr1.tape, hgr2.output.trans hgr1.output, Nat.le_trans hgr1.size hgr2.size, fun k hk hne => (hgr2.block k (Nat.lt_of_lt_of_le hk hgr1.size) hne).trans (hgr1.block k hk hne)⟩
    · simp only [List.length_append, List.length_take, List.length_drop, hil, List.length_cons, List.length_nil]; omega
    · apply List.ext_getElem?
      intro j
      have ht : (inner.take (i * 3)).length = i * 3 := by rw [List.length_take, hil]; omega
      by_cases hj : j < (n + 1) * 3
      · rw [List.getElem?_take_of_lt hj, Array.getElem?_toList, hc2 j, hc1 j, hdl]
        show (if i * 3 ≤ j ∧ j < i * 3 + 3 then _ else _) = _
        by_cases c1 : j < i * 3
        · rw [if_neg (by omega), if_neg (by omega), List.append_assoc, List.getElem?_append_left (by omega), List.getElem?_take_of_lt c1, ← htk, List.getElem?_take_of_lt (by omega), Array.getElem?_toList]
        · by_cases c2 : j < i * 3 + 3
          · rw [if_pos (by omega), List.append_assoc, List.getElem?_append_right (by omega), ht, List.getElem?_append_left (by show _ < 3; omega)]
          · rw [if_neg (by omega), if_pos (by omega), List.getElem?_append_right (by rw [List.length_append, ht]; show i * 3 + 3 ≤ j; omega), List.length_append, ht]
            congr 1
            show j - (i + 1) * 3 = j - (i * 3 + 3)
            omega
      · rw [List.getElem?_eq_none (by rw [List.length_take]; omega), List.getElem?_eq_none (by simp only [List.length_append, List.length_take, List.length_drop, hil, List.length_cons, List.length_nil]; omega)]
  have hz2 : ¬ ((i : Int) = (n : Int)) := by omega
  have hin : i ≤ n := by omega
  have hb5 : ¬ (cap = i + 1) := by omega
  have hb3 : (i : Int) ≤ (n : Int) + 1 := by omega
  have hb4 : ¬ (cap = i) := by omega
  have hb6 : ¬ ((cap : Int) < (n : Int) + 1) := by omega
  have hb7 : (0 : Int) ≤ (i : Int) + 1 := by omega
  have hb8 : (i : Int) + 1 ≤ (n : Int) + 1 := by omega
  have hb9 : (i : Int) ≤ (n : Int) := by omega
  have hw1 : IntKind.i64.wrap ((i : Int) + 1) = (i : Int) + 1 := by rw [IntKind.wrap_i64]; omega
  have htn : ((i : Int) + 1).toNat = i + 1 := by omega
  clear hW1 hb2 hs2 hc2 hgr2 hgr1 hb1 hs1 hc1 hv1 hcell hfz hcs hsp hdl hil htk hsz hg hv hgb h1 h2
  go_enter Try.func38, Try.ntmps38
  go_wp2_with (simp only [hov])
  go_region_law (refine step_copy_runI rfl (.tmp 73) (.tmp 76) 24 24 rfl (.slice (some ⟨g, (i + 1) * 3, none⟩) (n - i) (cap - (i + 1))) (.slice (some ⟨g, i * 3, none⟩) (n + 1 - i) (cap - i)) (by simp [Act.eval, Act.put]) (by simp [Act.eval, Act.put]) (hcp1 _ _ _) ?_)
  go_wp2_with (at_builtin; refine wpList_copy_runI _ rfl (.tmp 80) (.tmp 81) 24 24 rfl _ _ rfl rfl (hcp2 _ _) ?_)
  go_ret
  exact ⟨_, rfl, HF.out⟩
set_option maxHeartbeats 4000000 in
set_option maxRecDepth 100000 in
theorem insGrow (g n cap i gv : Nat) (inner : List Value) (a b c : Value) (w0 w : World) (hB : w0.heap.size ≤ w.heap.size) (hi : i < n) (hnc : n ≤ cap) (hroom : cap < n + 1)
    (hil : inner.length = n * 3) (hcs : ∀ j v, inner[j]? = some v → w.cell? ⟨g, j, none⟩ = some v) (h1 : ∀ c ∈ inner, c.oneCell' = true) (hn : n ≤ 1000000)
    (hv : w.heap[gv]? = some (.cells #[a, b, c] 47 (0, 0))) (h2 : ∀ x ∈ [a, b, c], x.oneCell' = true) :
    Calls Try.prog 38 #[.slice (some ⟨g, 0, none⟩) n cap, .int .i64 (i : Int), .slice (some ⟨gv, 0, none⟩) 1 1] w fun e w' => ∃ v, e = .returned v ∧ InsP w0.heap.size w w' (.slice (some ⟨g, 0, none⟩) n cap) v n (inner.take (i * 3) ++ [a, b, c] ++ inner.drop (i * 3)) := by
  obtain ⟨i0, hi0, hz0, hzs, hzb⟩ := info_parts info47
  have hgw : g < w.heap.size := block_lt_of_cell (hcs 0 _ (List.getElem?_eq_getElem (by omega)))
  have hvw : gv < w.heap.size := blk_lt hv
  have hkk : (n : Int) + 1 - (i : Int) = ((n + 1 - i : Nat) : Int) := by omega
  have hik : i + (n + 1 - i) = n + 1 := by omega
  have hold : (Builtin.firstCells i0.size i (.slice (some ⟨g, 0, none⟩) i cap)).run Try.prog w.drew = .ok (inner.take (i * 3)).toArray w.drew := by
    rw [hzs]
    exact run_firstCells_some w.drew 3 i ⟨g, 0, none⟩ i cap (inner.take (i * 3)) (by rw [List.length_take]; omega) (fun j v hj => by
      rw [add_plain]
      rw [List.getElem?_take] at hj
      split at hj
      · exact hcs j v hj
      · cases hj)
  obtain ⟨G, hG⟩ : ∃ G, G = grownCap w (n + 1) cap 47 := ⟨_, rfl⟩
  have hGn : n + 1 ≤ G := by rw [hG]; exact grownCap_ge w _ _ _
  have hG63 : G ≤ 9223372036854775807 := by
    have := grownCap_le_maxLen w (n + 1) cap 47 (by unfold maxLen; omega)
    rw [← hG] at this
    unfold maxLen at this
    omega
  obtain ⟨ROW, hROW⟩ : ∃ ROW : Array Value, ROW = (inner.take (i * 3)).toArray ++ Builtin.zeroCells (Value.agg #[.int .i64 0, .int .i64 0, .slice none 0 0]).cells (n + 1 - i) ++ Builtin.zeroCells (Value.agg #[.int .i64 0, .int .i64 0, .slice none 0 0]).cells (G - (n + 1)) := ⟨_, rfl⟩
  have hzc : (Value.agg #[.int .i64 0, .int .i64 0, .slice none 0 0]).cells.size = 3 := rfl
  have hRs : ROW.size = G * 3 := by
    rw [hROW]
    simp only [Array.size_append, List.size_toArray, List.length_take, size_zeroCells, hzc, hil]
    omega
  have hRl : ∀ j, j < i * 3 → ROW[j]? = inner[j]? := fun j hj => by
    rw [hROW, Array.append_assoc, Array.getElem?_append_left (by rw [List.size_toArray, List.length_take]; omega), List.getElem?_toArray, List.getElem?_take_of_lt hj]
  obtain ⟨W1, hW1⟩ : ∃ W1, W1 = w.drew.alloc (.cells ROW 47) := ⟨_, rfl⟩
  have hrz : ∀ ty, (Builtin.append_ #[24, 3] ty #[.slice (some ⟨g, 0, none⟩) i cap, .int .i64 ((n : Int) + 1 - (i : Int))]).run Try.prog w = .ok (.slice (some ⟨w.heap.size, 0, none⟩) (n + 1) G) W1 := fun ty => by
    have h := Lib.run_append_grow_zeros w 24 3 ty 47 i0 _ .i64 .i64 Try.underlying24 Try.underlying3 hi0 hz0 (some ⟨g, 0, none⟩) i cap (inner.take (i * 3)) hold (n + 1 - i) (by omega) (by omega) (by omega) (by omega) (by rw [hzb]; omega) (by rw [hzb, hik]; exact growslice_fits hroom (by omega))
    rw [hik] at h
    rw [hkk, hW1, hROW, hG]
    exact h
  have hb1 : W1.heap[w.heap.size]? = some (.cells ROW 47 (0, 0)) := by rw [hW1]; exact heap_alloc_new w.drew _
  have hgr1 : w.grownBy W1 none := by
    rw [hW1]
    have h := World.grownBy_alloc w.drew (.cells ROW 47) none
    exact ⟨h.os, h.tape, h.output, h.size, h.block⟩
  have hv1 : W1.heap[gv]? = some (.cells #[a, b, c] 47 (0, 0)) := (hgr1.block gv hvw (by simp)).trans hv
  have hold1 : ∀ j v, inner[j]? = some v → W1.cell? ⟨g, j, none⟩ = some v := fun j v hj => by
    have h9 := hcs j v hj
    rw [← h9]
    have h10 := hgr1.block g hgw (by simp)
    simp only [World.cell?, h10]
  have hcpA : ∀ ty dc, (Builtin.copy_ #[24, 24] ty #[.slice (some ⟨w.heap.size, i * 3, none⟩) (n + 1 - i) dc, .slice (some ⟨gv, 0, none⟩) 1 1]).run Try.prog W1 = .ok (goInt ((1 : Nat) : Int)) (W1.setCells w.heap.size (i * 3) [a, b, c]) := fun ty dc =>
    run_copy3 W1 24 24 ty 47 w.heap.size (i * 3) (n + 1 - i) dc ⟨gv, 0, none⟩ 1 1 1 [a, b, c] Try.underlying24 insertSlab.slab_size (by simp only [Nat.min_def]; split <;> omega) rfl
      (fun j v hj => by
        rw [add_plain, blk_cell hv1]
        rw [← List.getElem?_toArray] at hj
        exact hj)
      (fun j hj => by
        rw [blk_cell hb1, Array.getElem?_eq_getElem (by have h9 : j < 3 := hj; omega)]; rfl) (fun j hj => blk_frozen hb1 _) h2
  obtain ⟨W2, hW2⟩ : ∃ W2, W2 = W1.setCells w.heap.size (i * 3) [a, b, c] := ⟨_, rfl⟩
  obtain ⟨cur2, hb2, hs2, hc2⟩ := setCells_blk2 [a, b, c] (i * 3) W1 ROW hb1 (by rw [hRs]; show i * 3 + 3 ≤ _; omega)
  have hgr2 := insertSlab.setCells_grown w.heap.size [a, b, c] (i * 3) W1
  rw [← hW2] at hcpA hb2 hgr2
  have hdl : (inner.drop (i * 3)).length = (n - i) * 3 := by rw [List.length_drop, hil]; omega
  have hold2 : ∀ j v, inner[j]? = some v → W2.cell? ⟨g, j, none⟩ = some v := fun j v hj => by
    have h9 := hold1 j v hj
    rw [← h9]
    have h10 := hgr2.block g (Nat.lt_of_lt_of_le hgw hgr1.size) (fun e => by injection e with e; omega)
    simp only [World.cell?, h10]
  have hcpB : ∀ ty dc sc, (Builtin.copy_ #[24, 24] ty #[.slice (some ⟨w.heap.size, (i + 1) * 3, none⟩) (n - i) dc, .slice (some ⟨g, i * 3, none⟩) (n - i) sc]).run Try.prog W2.drew = .ok (goInt ((n - i : Nat) : Int)) (W2.drew.setCells w.heap.size ((i + 1) * 3) (inner.drop (i * 3))) := fun ty dc sc =>
    run_copy3 W2.drew 24 24 ty 47 w.heap.size ((i + 1) * 3) (n - i) dc ⟨g, i * 3, none⟩ (n - i) sc (n - i) (inner.drop (i * 3)) Try.underlying24 insertSlab.slab_size (by simp only [Nat.min_def]; split <;> omega) hdl
      (fun j v hj => by
        rw [Addr.add_lit]
        exact hold2 (i * 3 + j) v (by rwa [List.getElem?_drop] at hj))
      (fun j hj => by
        have h9 : W2.drew.cell? ⟨w.heap.size, (i + 1) * 3 + j, none⟩ = cur2[(i + 1) * 3 + j]? := blk_cell hb2 _
        rw [h9, Array.getElem?_eq_getElem (by omega)]; rfl) (fun j hj => blk_frozen hb2 _) (fun v hv => h1 v (List.mem_of_mem_drop hv))
  obtain ⟨cur3, hb3, hs3, hc3⟩ := setCells_blk2 (inner.drop (i * 3)) ((i + 1) * 3) W2.drew cur2 hb2 (by rw [hdl, hs2, hRs]; omega)
  have hgr3 := insertSlab.setCells_grown w.heap.size (inner.drop (i * 3)) ((i + 1) * 3) W2.drew
  have HF : Aside0 (InsP w0.heap.size w (W2.drew.setCells w.heap.size ((i + 1) * 3) (inner.drop (i * 3))) (.slice (some ⟨g, 0, none⟩) n cap) (.slice (some ⟨w.heap.size, 0, none⟩) (n + 1) G) n (inner.take (i * 3) ++ [a, b, c] ++ inner.drop (i * 3))) := by
    refine ⟨⟨?_, ⟨?_, .inr ⟨w.heap.size, G, cur3, rfl, hB, hb3, hGn, hG63, by rw [hs3, hs2, hRs], ?_⟩⟩, .inr ⟨w.heap.size, rfl, Nat.le_refl _⟩⟩⟩
    · refine ⟨hgr3.os.trans (hgr2.os.trans hgr1.os), hgr3.tape.trans (hgr2.tape.trans hgr1.tape), hgr3.output.trans (hgr2.output.trans hgr1.output), Nat.le_trans hgr1.size (Nat.le_trans hgr2.size hgr3.size), fun k hk hne => ?_⟩
      have hk2 : some k ≠ some w.heap.size := fun e => by injection e with e; omega
      exact (hgr3.block k (Nat.lt_of_lt_of_le hk (Nat.le_trans hgr1.size hgr2.size)) hk2).trans ((hgr2.block k (Nat.lt_of_lt_of_le hk hgr1.size) hk2).trans (hgr1.block k hk (by simp)))
    · simp only [List.length_append, List.length_take, List.length_drop, hil, List.length_cons, List.length_nil]; omega
    · apply List.ext_getElem?
      intro j
      have ht : (inner.take (i * 3)).length = i * 3 := by rw [List.length_take, hil]; omega
      by_cases hj : j < (n + 1) * 3
      · rw [List.getElem?_take_of_lt hj, Array.getElem?_toList, hc3 j, hc2 j, hdl]
        show (if (i + 1) * 3 ≤ j ∧ j < (i + 1) * 3 + (n - i) * 3 then _ else (if i * 3 ≤ j ∧ j < i * 3 + 3 then _ else _)) = _
        by_cases c1 : j < i * 3
        · rw [if_neg (by omega), if_neg (by omega), List.append_assoc, List.getElem?_append_left (by omega), List.getElem?_take_of_lt c1, hRl j c1]
        · by_cases c2 : j < i * 3 + 3
          · rw [if_neg (by omega), if_pos (by omega), List.append_assoc, List.getElem?_append_right (by omega), ht, List.getElem?_append_left (by show _ < 3; omega)]
          · rw [if_pos (by omega), List.getElem?_append_right (by rw [List.length_append, ht]; show i * 3 + 3 ≤ j; omega), List.length_append, ht]
            congr 1
            show j - (i + 1) * 3 = j - (i * 3 + 3)
            omega
      · rw [List.getElem?_eq_none (by rw [List.length_take]; omega), List.getElem?_eq_none (by simp only [List.length_append, List.length_take, List.length_drop, hil, List.length_cons, List.length_nil]; omega)]
  have hz2 : ¬ ((i : Int) = (n : Int)) := by omega
  have hz3 : (cap : Int) < (n : Int) + 1 := by omega
  have hin : i ≤ n := by omega
  have hGi : ¬ (G = i) := by omega
  have hGim : ¬ (G = i + 1) := by omega
  have hci : ¬ (cap = i) := by omega
  have hw1 : IntKind.i64.wrap ((i : Int) + 1) = (i : Int) + 1 := by rw [IntKind.wrap_i64]; omega
  have hb7 : (0 : Int) ≤ (i : Int) + 1 := by omega
  have hb8 : (i : Int) + 1 ≤ (n : Int) + 1 := by omega
  have htn : ((i : Int) + 1).toNat = i + 1 := by omega
  have hb9 : (i : Int) ≤ (n : Int) := by omega
  have hb10 : (i : Int) ≤ (cap : Int) := by omega
  have hb11 : (i : Int) ≤ (n : Int) + 1 := by omega
  clear hkk hik hold hROW hG hRl hRs hi0 hz0 hzs hzb hW1 hW2 hb1 hgr1 hv1 hold1 hb2 hs2 hc2 hgr2 hdl hold2 hb3 hs3 hc3 hgr3 hil hcs h1 hv h2 hzc
  go_enter Try.func38, Try.ntmps38
  go_wp2_with (first | (at_builtin; refine Lib.wpList_append_run _ rfl _ _ _ _ rfl _ _ rfl rfl _ _ (hrz _) ?_) | (at_builtin; refine wpList_copy_runI _ rfl (.tmp 43) (.tmp 44) 24 24 rfl _ _ rfl rfl (hcpA _ _) ?_))
  go_region_law (refine step_copy_runI rfl (.tmp 50) (.tmp 53) 24 24 rfl (.slice (some ⟨w.heap.size, (i + 1) * 3, none⟩) (n - i) (G - (i + 1))) (.slice (some ⟨g, i * 3, none⟩) (n - i) (cap - i)) (by simp [Act.eval, Act.put]) (by simp [Act.eval, Act.put]) (hcpB _ _ _) ?_)
  go_wp2
  go_ret
  exact ⟨_, rfl, HF.out⟩
theorem insertSlab (P0_ okv : Nat → Prop) (u : Value) (l0 : List S47) (i : Nat) (x : S47) (gv : Nat) (v2 : Value) (w0 w : World) (hB : Below w0.heap.size w0 w) (ho0 : Kd.S k47 47 w w0.heap.size P0_ u l0) (hi : i ≤ l0.length) (hl : l0.length ≤ 1000000)
    (hv : w.heap[gv]? = some (.cells #[.int .i64 x.f0, .int .i64 x.f1, v2] 47 (0, 0))) (hR : Kd.bool.R 4 w w0.heap.size okv v2 x.f2) (hdis : ∀ k, okv k → ¬ P0_ k) (hgv : ¬ P0_ gv) :
    Calls Try.prog 38 #[u, .int .i64 (i : Int), .slice (some ⟨gv, 0, none⟩) 1 1] w fun e w' => ∃ v, e = .returned v ∧ Kd.S k47 47 w' w0.heap.size (fun k => P0_ k ∨ okv k ∨ w.heap.size ≤ k) v (l0.take i ++ x :: l0.drop i) ∧ Below w0.heap.size w0 w' ∧ w.grownBy w' u.ownBlock := by
  obtain ⟨f, hP, inner, ho, hr⟩ := ho0
  rw [List.length_zipIdx] at ho
  have ho3 : w.ownsRow w0.heap.size 47 3 u l0.length inner := ho
  have hil : inner.length = l0.length * 3 := ho3.1
  have hr3 : Reps ((Kd.tag f k47).M w w0.heap.size (fun k => P0_ k ∧ some k ≠ u.ownBlock)) 3 l0.zipIdx inner := hr
  have h1 : ∀ c ∈ inner, c.oneCell' = true := by
    intro c hc
    obtain ⟨t, ht, rfl⟩ := List.getElem_of_mem hc
    have hq : t / 3 < l0.length := by omega
    have hM := hr3.2 (t / 3) (l0[t / 3], t / 3) (by rw [List.getElem?_zipIdx, List.getElem?_eq_getElem hq, Nat.zero_add]; rfl)
    refine (Kd.tag f k47).K_one ((Kd.tag f k47).K_of_M hM) _ ?_
    rw [List.mem_iff_getElem?]
    exact ⟨t % 3, by rw [List.getElem?_take_of_lt (by omega), List.getElem?_drop, show t / 3 * 3 + t % 3 = t by omega, List.getElem?_eq_getElem ht]⟩
  have hx : k47.M w w0.heap.size okv x [.int .i64 x.f0, .int .i64 x.f1, v2] := k47_mkM _ _ _ x hR
  have h2 : ∀ y ∈ [Value.int .i64 x.f0, Value.int .i64 x.f1, v2], y.oneCell' = true := k47.K_one (k47.K_of_M hx)
  have fin : ∀ e w', (∃ v, e = Ending.returned v ∧ InsP w0.heap.size w w' u v l0.length (inner.take (i * 3) ++ [.int .i64 x.f0, .int .i64 x.f1, v2] ++ inner.drop (i * 3))) → ∃ v, e = .returned v ∧ Kd.S k47 47 w' w0.heap.size (fun k => P0_ k ∨ okv k ∨ w.heap.size ≤ k) v (l0.take i ++ x :: l0.drop i) ∧ Below w0.heap.size w0 w' ∧ w.grownBy w' u.ownBlock := by
    rintro e w' ⟨v, rfl, hg, hown', hat⟩
    exact ⟨v, rfl, S_ins hi hil hP hr3 hx hdis hg hown' hat, hB.grown hg hB.size (fun k hk => own_base ho3 k hk), hg⟩
  by_cases he : i = l0.length
  · subst he
    exact (insEnd u l0.length gv inner _ _ _ w0 w hB ho3 h1 hl hv h2).mono fin
  · rcases ho3.2 with ⟨_, hz⟩ | ⟨g, cap, cur, rfl, hgb, hh, hnc, hcm, hsz, htk⟩
    · omega
    · have hne : gv ≠ g := fun e => hgv (by rw [e]; exact hP g rfl)
      have hcap : cap ≤ 9223372036854775807 := hcm
      by_cases hroom : l0.length + 1 ≤ cap
      · exact (insShift g l0.length cap i gv cur inner _ _ _ w0 w (by omega) hroom hcap hne hh hsz htk hgb h1 hl hv h2).mono fin
      · have hcs : ∀ j v, inner[j]? = some v → w.cell? ⟨g, j, none⟩ = some v := fun j v hj => by
          rw [blk_cell hh]
          rw [← htk] at hj
          have hlt : j < l0.length * 3 := by
            by_cases h : j < l0.length * 3
            · exact h
            · rw [List.getElem?_eq_none (by rw [List.length_take]; omega)] at hj; cases hj
          rwa [List.getElem?_take_of_lt hlt, Array.getElem?_toList] at hj
        exact (insGrow g l0.length cap i gv inner _ _ _ w0 w hB.size (by omega) hnc (by omega) hil hcs h1 hl hv h2).mono fin
def insertSlab.f (l0 : List S47) (a1 : Int) (l2 : List S47) : Option (List S47) := if 0 ≤ a1 ∧ a1 ≤ (l0.length : Int) ∧ l0.length ≤ 1000000 ∧ l2.length = 1 then some (l0.take a1.toNat ++ l2 ++ l0.drop a1.toNat) else none
theorem insertSlab.ev {l0 : List S47} {a1 : Int} {x : S47} {r : List S47} (h : insertSlab.f l0 a1 [x] = some r) : ∃ i : Nat, a1 = (i : Int) ∧ i ≤ l0.length ∧ l0.length ≤ 1000000 ∧ r = l0.take i ++ x :: l0.drop i := by
  unfold insertSlab.f at h
  by_cases hc : 0 ≤ a1 ∧ a1 ≤ (l0.length : Int) ∧ l0.length ≤ 1000000 ∧ [x].length = 1
  · rw [if_pos hc] at h
    refine ⟨a1.toNat, by omega, by omega, hc.2.2.1, ?_⟩
    rw [← Option.some.inj h, List.append_assoc]
    rfl
  · rw [if_neg hc] at h
    cases h
def impl_Slab_38.f := insertSlab.f

end Go.Proofs.Ytpkdfdkicblheaa.P
end
section
namespace Go.Proofs.Ytpkdfdkicblheaa.P
open Go.RowKit Go.Proofs.YtpkdfdkicblheaaW.PrintWords Go.Proofs.YtpkdfdkicblheaaW.PrintLast Go.Proofs.YtpkdfdkicblheaaW.PrintMore
attribute [local go_sem] max2_int min2_int max_two min_two max_three min_three max_four min_four   -- for this text's walks alone
set_option linter.unusedVariables false
set_option linter.unusedSimpArgs false

/-! ### impl_AddSlab: function 16 -/
def impl_AddSlab.j0 : Nat → List (S47) → Int → Int → Bool → Option ((List (S47)) × Bool)
  | 0, _, _, _, _ => none
  | k + 1, x0, x1, x2, x19 => if x19 = true then (some (([] : List (S47)), false)) else ((impl_slabAt.f k x0 x1).bind fun bt337 => (if bt337.2 = true then (some (([] : List (S47)), false)) else (if x2 = 0 then (none) else (if 0 ≤ (wrap64 ((4 : Int) / x2)) then (if (wrap64 ((4 : Int) / x2) : Int).toNat ≤ 281474976710656 then ((some (List.replicate (wrap64 ((4 : Int) / x2) : Int).toNat false : List Bool)).bind fun y339 => (if 0 < (y339.length : Int) then ((impl_copySlabs.f k x0).bind fun t344 => ((insertSlab.f t344 bt337.1 (([(⟨x1, x2, (y339.set (0 : Int).toNat true)⟩ : S47)] : List (S47)))).bind fun t350 => ((impl_SlabsOk.f k t350).bind fun t353 => (if t353 = true then (some (t350, true)) else (some (([] : List (S47)), false)))))) else (none))) else (none)) else (none)))))
def impl_AddSlab.f (k : Nat) (l0 : List (S47)) (a1 : Int) (a2 : Int) : Option ((List (S47)) × Bool) := (impl_SlabsOk.f k l0).bind fun t335 => (if t335 = true then ((impl_isPartSize.f a2).bind fun t336 => (impl_AddSlab.j0 k l0 a1 a2 (!t336))) else (impl_AddSlab.j0 k l0 a1 a2 true))
theorem impl_AddSlab.mono_l : ∀ k, (∀ y0 y1 y2 y3, LeO (impl_AddSlab.j0 k y0 y1 y2 y3) (impl_AddSlab.j0 (k + 1) y0 y1 y2 y3))
  | 0 => fun _ _ _ _ r h => by simp [impl_AddSlab.j0] at h
  | k + 1 => by
    have ih0 := impl_AddSlab.mono_l k
    · intro y0 y1 y2 y3
      unfold impl_AddSlab.j0
      repeat' first
      | (with_reducible exact ih0 _ _ _ _)
      | (with_reducible exact impl_SlabsOk.mono _ _)
      | (with_reducible exact impl_copySlabs.mono _ _)
      | (with_reducible exact impl_slabAt.mono _ _ _)
      | (with_reducible exact LeO.refl _)
      | (with_reducible exact LeO.none _)
      | (with_reducible refine LeO.ite ?_ ?_)
      | (with_reducible refine LeO.bind ?_ (fun _ => ?_))
      | exact ih0 _ _ _ _
      | exact impl_SlabsOk.mono _ _
      | exact impl_copySlabs.mono _ _
      | exact impl_slabAt.mono _ _ _
      | exact LeO.none _
      | refine LeO.ite ?_ ?_
      | refine LeO.bind ?_ (fun _ => ?_)
theorem impl_AddSlab.mono : ∀ a0 a1 a2 k, LeO (impl_AddSlab.f k a0 a1 a2) (impl_AddSlab.f (k + 1) a0 a1 a2) := by
  intro a0 a1 a2 k
  have ih0 := impl_AddSlab.mono_l k
  unfold impl_AddSlab.f
  repeat' first
      | (with_reducible exact ih0 _ _ _ _)
      | (with_reducible exact impl_SlabsOk.mono _ _)
      | (with_reducible exact impl_copySlabs.mono _ _)
      | (with_reducible exact impl_slabAt.mono _ _ _)
      | (with_reducible exact LeO.refl _)
      | (with_reducible exact LeO.none _)
      | (with_reducible refine LeO.ite ?_ ?_)
      | (with_reducible refine LeO.bind ?_ (fun _ => ?_))
      | exact ih0 _ _ _ _
      | exact impl_SlabsOk.mono _ _
      | exact impl_copySlabs.mono _ _
      | exact impl_slabAt.mono _ _ _
      | exact LeO.none _
      | refine LeO.ite ?_ ?_
      | refine LeO.bind ?_ (fun _ => ?_)
set_option maxHeartbeats 8000000 in
set_option maxRecDepth 100000 in
theorem impl_AddSlab.calls (k : Nat) (A0 : Option Addr) (c0 : Nat) (l0 : List (S47)) (a1 : Int) (a2 : Int) (r1 : List (S47)) (r2 : Bool) (w : World) (hr0 : Kd.C k47 w A0 l0.length l0) (hc0 : l0.length ≤ c0) (h : impl_AddSlab.f k l0 a1 a2 = some (r1, r2)) :
    Calls Try.prog 16 #[.slice A0 l0.length c0, .int .i64 a1, .int .i64 a2] w fun e w' => ∃ v0_ : Value, e = .returned (.tuple #[v0_, .bool r2]) ∧ Kd.S k47 47 w' w.heap.size (fun _ => True) v0_ r1 ∧ Below w.heap.size w w' := by
  have hu47 := Try.underlying47
  have HR0 := Aside0.mk hr0
  have HC0 := Aside0.mk hc0
  clear hr0 hc0
  have HB := Aside0.mk (Below.refl w.heap.size w)
  have H : ((impl_SlabsOk.f k l0).bind fun t335 => (if t335 = true then ((impl_isPartSize.f a2).bind fun t336 => (impl_AddSlab.j0 k l0 a1 a2 (!t336))) else (impl_AddSlab.j0 k l0 a1 a2 true))) = some (r1, r2) := h
  clear h
  have HC4 := Aside0.mk H
  clear H
  go_enter Try.func16, Try.ntmps16
  go_upto_region 1 with (fail)
  go_cut [19] (fun v19 wc => ∃ (kq : Nat) (x19_3 : Bool), v19 = .bool x19_3 ∧ Aside0 (impl_AddSlab.j0 kq l0 a1 a2 x19_3 = some (r1, r2)) ∧ Aside0 (kq ≤ k) ∧ Aside0 (Below w.heap.size w wc))
  case first =>
    have H := HC4.out
    clear HC4
    replace H := Option.bind_eq_some_iff.mp H
    obtain ⟨t335, A50, H⟩ := H
    replace H : (if t335 = true then ((impl_isPartSize.f a2).bind fun t336 => (impl_AddSlab.j0 k l0 a1 a2 (!t336))) else (impl_AddSlab.j0 k l0 a1 a2 true)) = some (r1, r2) := H
    have A5 := Aside0.mk A50
    clear A50
    by_cases c6 : t335 = true
    · subst c6
      have H1 : ((impl_isPartSize.f a2).bind fun t336 => (impl_AddSlab.j0 k l0 a1 a2 (!t336))) = some (r1, r2) := by rw [if_pos rfl] at H; exact H
      clear H
      have H := H1
      clear H1
      replace H := Option.bind_eq_some_iff.mp H
      obtain ⟨t336, A70, H⟩ := H
      replace H : (impl_AddSlab.j0 k l0 a1 a2 (!t336)) = some (r1, r2) := H
      have A7 := Aside0.mk A70
      clear A70
      have H' := Aside0.mk H
      clear H
      go_wp2_with (first | ((with_reducible refine gate_callee (f := 19) rfl ?_); refine goesL_ (some 13) rfl rfl Try.func19 (by kernel_rfl) rfl #[.slice A0 l0.length c0] rfl (by (try simp only [List.map_toArray, List.map_cons, List.map_nil]); first | done | rfl | (simp only [List.length_drop, List.length_take]; rfl)) ?_; (with_reducible refine (impl_SlabsOk.calls k _ _ l0 true _ ?side1 ?side2 A5.out).mono ?_); (case side1 => repeat (first | exact (Kd.C_below HR0.out HB.out) | (with_reducible refine Kd.C_alloc ?_ _) | (with_reducible refine Kd.C_drewN ?_ _) | (with_reducible refine Kd.C_drew ?_))); (case side2 => exact HC0.out); rintro e w8 ⟨rfl, hb⟩; refine ⟨_, rfl, ?_⟩; have n0_ := Aside0.mk (below_step (by repeat (first | (with_reducible first | exact HB.out | apply below_alloc | apply pw_below_drewN | apply below_drew1) | exact HB.out)) hb); clear HB; have HB := n0_; clear n0_; (try clear hb); (try clear hb2); (try clear hk); (try clear hi)) | (go_at_call 37; (with_reducible refine (impl_isPartSize.calls a2 t336 _ A7.out).mono ?_); rintro e w' ⟨rfl, ⟨nd, rfl⟩⟩))
      go_meet
      case rel => exact ⟨_, (!t336), (by first | rfl | (simp; done) | (simp [*]; done)), H', ⟨by first | omega | exact Nat.le_refl _⟩, ⟨by repeat (first | (with_reducible first | exact HB.out | apply below_alloc | apply pw_below_drewN | apply below_drew1) | exact HB.out)⟩⟩
    · replace c6 := Bool.eq_false_iff.mpr c6
      subst c6
      have H1 : (impl_AddSlab.j0 k l0 a1 a2 true) = some (r1, r2) := by rw [if_neg (show ¬ (false = true) by decide)] at H; exact H
      clear H
      have H := H1
      clear H1
      have H' := Aside0.mk H
      clear H
      go_wp2_with (first | ((with_reducible refine gate_callee (f := 19) rfl ?_); refine goesL_ (some 13) rfl rfl Try.func19 (by kernel_rfl) rfl #[.slice A0 l0.length c0] rfl (by (try simp only [List.map_toArray, List.map_cons, List.map_nil]); first | done | rfl | (simp only [List.length_drop, List.length_take]; rfl)) ?_; (with_reducible refine (impl_SlabsOk.calls k _ _ l0 false _ ?side1 ?side2 A5.out).mono ?_); (case side1 => repeat (first | exact (Kd.C_below HR0.out HB.out) | (with_reducible refine Kd.C_alloc ?_ _) | (with_reducible refine Kd.C_drewN ?_ _) | (with_reducible refine Kd.C_drew ?_))); (case side2 => exact HC0.out); rintro e w9 ⟨rfl, hb⟩; refine ⟨_, rfl, ?_⟩; have n0_ := Aside0.mk (below_step (by repeat (first | (with_reducible first | exact HB.out | apply below_alloc | apply pw_below_drewN | apply below_drew1) | exact HB.out)) hb); clear HB; have HB := n0_; clear n0_; (try clear hb); (try clear hb2); (try clear hk); (try clear hi)))
      go_meet
      case rel => exact ⟨_, (true), (by first | rfl | (simp; done) | (simp [*]; done)), H', ⟨by first | omega | exact Nat.le_refl _⟩, ⟨by repeat (first | (with_reducible first | exact HB.out | apply below_alloc | apply pw_below_drewN | apply below_drew1) | exact HB.out)⟩⟩
  case rest =>
    clear HC4
    try clear c1
    try clear p2
    try clear c6
    obtain ⟨kq, x19_3, rfl, HA, HJ3, HB⟩ := hcut
    cases kq with
    | zero => exact absurd HA.out (by simp [impl_AddSlab.j0])
    | succ kj3 =>
      have H := HA.out
      clear HA
      simp only [impl_AddSlab.j0] at H
      by_cases c10 : x19_3 = true
      · subst c10
        have H1 : (some (([] : List (S47)), false)) = some (r1, r2) := by rw [if_pos rfl] at H; exact H
        clear H
        have H := H1
        clear H1
        simp only [Option.some.injEq, Prod.mk.injEq] at H
        obtain ⟨rfl, rfl⟩ := H
        go_wp2
        go_ret2
        exact ⟨_, by first | rfl | (simp [errW_none, errW_some] <;> rfl) | (simp [*, errW_none, errW_some] <;> rfl), by first | exact Kd.S_nil _ _ _ _ _ | exact Kd.N_nil _ _ _ _ _ | exact Kd.V_nil _ _ _ _ _ | exact Kd.Q_nil _ _ _ _ _ | exact Kd.R_nil _ _ _ _ _, by repeat (first | (with_reducible first | exact HB.out | apply below_alloc | apply pw_below_drewN | apply below_drew1) | exact HB.out)⟩
      · replace c10 := Bool.eq_false_iff.mpr c10
        subst c10
        have H1 : ((impl_slabAt.f kj3 l0 a1).bind fun bt337 => (if bt337.2 = true then (some (([] : List (S47)), false)) else (if a2 = 0 then (none) else (if 0 ≤ (wrap64 ((4 : Int) / a2)) then (if (wrap64 ((4 : Int) / a2) : Int).toNat ≤ 281474976710656 then ((some (List.replicate (wrap64 ((4 : Int) / a2) : Int).toNat false : List Bool)).bind fun y339 => (if 0 < (y339.length : Int) then ((impl_copySlabs.f kj3 l0).bind fun t344 => ((insertSlab.f t344 bt337.1 (([(⟨a1, a2, (y339.set (0 : Int).toNat true)⟩ : S47)] : List (S47)))).bind fun t350 => ((impl_SlabsOk.f kj3 t350).bind fun t353 => (if t353 = true then (some (t350, true)) else (some (([] : List (S47)), false)))))) else (none))) else (none)) else (none))))) = some (r1, r2) := by rw [if_neg (show ¬ (false = true) by decide)] at H; exact H
        clear H
        have H := H1
        clear H1
        replace H := Option.bind_eq_some_iff.mp H
        obtain ⟨⟨t337, t338⟩, A110, H⟩ := H
        replace H : (if t338 = true then (some (([] : List (S47)), false)) else (if a2 = 0 then (none) else (if 0 ≤ (wrap64 ((4 : Int) / a2)) then (if (wrap64 ((4 : Int) / a2) : Int).toNat ≤ 281474976710656 then ((some (List.replicate (wrap64 ((4 : Int) / a2) : Int).toNat false : List Bool)).bind fun y339 => (if 0 < (y339.length : Int) then ((impl_copySlabs.f kj3 l0).bind fun t344 => ((insertSlab.f t344 t337 (([(⟨a1, a2, (y339.set (0 : Int).toNat true)⟩ : S47)] : List (S47)))).bind fun t350 => ((impl_SlabsOk.f kj3 t350).bind fun t353 => (if t353 = true then (some (t350, true)) else (some (([] : List (S47)), false)))))) else (none))) else (none)) else (none)))) = some (r1, r2) := H
        have A11 := Aside0.mk A110
        clear A110
        by_cases c12 : t338 = true
        · subst c12
          have H1 : (some (([] : List (S47)), false)) = some (r1, r2) := by rw [if_pos rfl] at H; exact H
          clear H
          have H := H1
          clear H1
          simp only [Option.some.injEq, Prod.mk.injEq] at H
          obtain ⟨rfl, rfl⟩ := H
          go_wp2_with (first | ((with_reducible refine gate_callee (f := 26) rfl ?_); refine goesL_ (some 23) rfl rfl Try.func26 (by kernel_rfl) rfl #[.slice A0 l0.length c0, .int .i64 a1] rfl (by (try simp only [List.map_toArray, List.map_cons, List.map_nil]); first | done | rfl | (simp only [List.length_drop, List.length_take]; rfl)) ?_; (with_reducible refine (impl_slabAt.calls kj3 _ _ l0 a1 t337 true _ ?side1 ?side2 A11.out).mono ?_); (case side1 => repeat (first | exact (Kd.C_below HR0.out HB.out) | (with_reducible refine Kd.C_alloc ?_ _) | (with_reducible refine Kd.C_drewN ?_ _) | (with_reducible refine Kd.C_drew ?_))); (case side2 => exact HC0.out); rintro e w' ⟨rfl, ⟨nd, rfl⟩⟩; refine ⟨_, rfl, ?_⟩))
          go_ret2
          exact ⟨_, by first | rfl | (simp [errW_none, errW_some] <;> rfl) | (simp [*, errW_none, errW_some] <;> rfl), by first | exact Kd.S_nil _ _ _ _ _ | exact Kd.N_nil _ _ _ _ _ | exact Kd.V_nil _ _ _ _ _ | exact Kd.Q_nil _ _ _ _ _ | exact Kd.R_nil _ _ _ _ _, by repeat (first | (with_reducible first | exact HB.out | apply below_alloc | apply pw_below_drewN | apply below_drew1) | exact HB.out)⟩
        · replace c12 := Bool.eq_false_iff.mpr c12
          subst c12
          have H1 : (if a2 = 0 then (none) else (if 0 ≤ (wrap64 ((4 : Int) / a2)) then (if (wrap64 ((4 : Int) / a2) : Int).toNat ≤ 281474976710656 then ((some (List.replicate (wrap64 ((4 : Int) / a2) : Int).toNat false : List Bool)).bind fun y339 => (if 0 < (y339.length : Int) then ((impl_copySlabs.f kj3 l0).bind fun t344 => ((insertSlab.f t344 t337 (([(⟨a1, a2, (y339.set (0 : Int).toNat true)⟩ : S47)] : List (S47)))).bind fun t350 => ((impl_SlabsOk.f kj3 t350).bind fun t353 => (if t353 = true then (some (t350, true)) else (some (([] : List (S47)), false)))))) else (none))) else (none)) else (none))) = some (r1, r2) := by rw [if_neg (show ¬ (false = true) by decide)] at H; exact H
          clear H
          have H := H1
          clear H1
          by_cases c13 : a2 = 0
          · rw [if_pos c13] at H
            exact absurd H (by simp)
          · rw [if_neg c13] at H
            have c13b0 : (a2 == 0) = false := beq_eq_false_iff_ne.mpr c13
            have c13b1 : (a2 != 0) = true := bne_iff_ne.mpr c13
            obtain ⟨ji14, hji14⟩ : ∃ j_ : Int, (wrap64 ((4 : Int) / a2)) = j_ := ⟨_, rfl⟩
            replace H : (if 0 ≤ (ji14) then (if (ji14 : Int).toNat ≤ 281474976710656 then ((some (List.replicate (ji14 : Int).toNat false : List Bool)).bind fun y339 => (if 0 < (y339.length : Int) then ((impl_copySlabs.f kj3 l0).bind fun t344 => ((insertSlab.f t344 t337 (([(⟨a1, a2, (y339.set (0 : Int).toNat true)⟩ : S47)] : List (S47)))).bind fun t350 => ((impl_SlabsOk.f kj3 t350).bind fun t353 => (if t353 = true then (some (t350, true)) else (some (([] : List (S47)), false)))))) else (none))) else (none)) else (none)) = some (r1, r2) := by first | (rw [hji14] at H; exact H) | (simp only [hji14] at H ⊢; exact H)
            (try rw [hji14] at A11)
            have hji14w : (IntKind.i64.wrap ((4 : Int) / a2)) = ji14 := (i64_w _).trans hji14
            have hji14t : (wrap64 (Int.tdiv 4 a2)) = ji14 := by rw [Int.tdiv_eq_ediv_of_nonneg (by decide)]; exact hji14
            by_cases c15 : 0 ≤ (ji14)
            · rw [if_pos c15] at H
              have c15b0 := eq_true c15
              have c15b1 : decide (0 ≤ (ji14)) = true := decide_eq_true c15
              clear c15
              by_cases c16 : (ji14 : Int).toNat ≤ 281474976710656
              · rw [if_pos c16] at H
                have c16b0 := eq_true c16
                have c16b1 : decide ((ji14 : Int).toNat ≤ 281474976710656) = true := decide_eq_true c16
                clear c16
                obtain ⟨y339, hy339⟩ : ∃ y_ : List Bool, y_ = (List.replicate (ji14 : Int).toNat false) := ⟨_, rfl⟩
                replace H : (if 0 < (y339.length : Int) then ((impl_copySlabs.f kj3 l0).bind fun t344 => ((insertSlab.f t344 t337 (([(⟨a1, a2, (y339.set (0 : Int).toNat true)⟩ : S47)] : List (S47)))).bind fun t350 => ((impl_SlabsOk.f kj3 t350).bind fun t353 => (if t353 = true then (some (t350, true)) else (some (([] : List (S47)), false)))))) else (none)) = some (r1, r2) := by first | (rw [hy339]; with_reducible exact H) | (have H2_ := (Option.bind_some _ _).symm.trans H; rw [hy339]; with_reducible exact H2_) | (have H2_ := (Option.bind_some _ _).symm.trans H; with_reducible exact H2_) | with_reducible exact H | (rw [hy339]; exact H) | exact H
                have Ny339 := Aside0.mk hy339
                clear hy339
                by_cases c17 : 0 < (y339.length : Int)
                · rw [if_pos c17] at H
                  have c17b0 : decide (0 < (y339.length : Int)) = true := decide_eq_true c17
                  have c17b1 : decide (0 < y339.length) = true := decide_eq_true (by omega)
                  clear c17
                  obtain ⟨y343, hy343⟩ : ∃ y_ : List Bool, y_ = (y339.set (0 : Int).toNat true) := ⟨_, rfl⟩
                  replace H : ((impl_copySlabs.f kj3 l0).bind fun t344 => ((insertSlab.f t344 t337 (([(⟨a1, a2, y343⟩ : S47)] : List (S47)))).bind fun t350 => ((impl_SlabsOk.f kj3 t350).bind fun t353 => (if t353 = true then (some (t350, true)) else (some (([] : List (S47)), false)))))) = some (r1, r2) := by first | (rw [hy343]; with_reducible exact H) | (have H2_ := (Option.bind_some _ _).symm.trans H; rw [hy343]; with_reducible exact H2_) | (have H2_ := (Option.bind_some _ _).symm.trans H; with_reducible exact H2_) | with_reducible exact H | (rw [hy343]; exact H) | exact H
                  have Ny343 := Aside0.mk hy343
                  clear hy343
                  replace H := Option.bind_eq_some_iff.mp H
                  obtain ⟨t344, A190, H⟩ := H
                  replace H : ((insertSlab.f t344 t337 (([(⟨a1, a2, y343⟩ : S47)] : List (S47)))).bind fun t350 => ((impl_SlabsOk.f kj3 t350).bind fun t353 => (if t353 = true then (some (t350, true)) else (some (([] : List (S47)), false))))) = some (r1, r2) := H
                  have A19 := Aside0.mk A190
                  clear A190
                  obtain ⟨y347, hy347⟩ : ∃ y_ : List (S47), y_ = (([(⟨a1, a2, y343⟩ : S47)] : List (S47))) := ⟨_, rfl⟩
                  replace H : ((insertSlab.f t344 t337 y347).bind fun t350 => ((impl_SlabsOk.f kj3 t350).bind fun t353 => (if t353 = true then (some (t350, true)) else (some (([] : List (S47)), false))))) = some (r1, r2) := by first | (rw [hy347]; with_reducible exact H) | (have H2_ := (Option.bind_some _ _).symm.trans H; rw [hy347]; with_reducible exact H2_) | (have H2_ := (Option.bind_some _ _).symm.trans H; with_reducible exact H2_) | with_reducible exact H | (rw [hy347]; exact H) | exact H
                  have Ny347 := Aside0.mk hy347
                  clear hy347
                  replace H := Option.bind_eq_some_iff.mp H
                  obtain ⟨t350, A200, H⟩ := H
                  replace H : ((impl_SlabsOk.f kj3 t350).bind fun t353 => (if t353 = true then (some (t350, true)) else (some (([] : List (S47)), false)))) = some (r1, r2) := H
                  have A20 := Aside0.mk A200
                  clear A200
                  replace H := Option.bind_eq_some_iff.mp H
                  obtain ⟨t353, A210, H⟩ := H
                  replace H : (if t353 = true then (some (t350, true)) else (some (([] : List (S47)), false))) = some (r1, r2) := H
                  have A21 := Aside0.mk A210
                  clear A210
                  rw [Ny347.out] at A20
                  obtain ⟨ii, rfl, hii, hlm, hrr⟩ := insertSlab.ev A20.out
                  have HII := Aside0.mk hii
                  have HLM := Aside0.mk hlm
                  have HRR := Aside0.mk hrr
                  clear hii hlm hrr A20
                  have HZ := Aside0.mk H
                  clear H
                  go_wp2_with (first | ((with_reducible refine gate_callee (f := 26) rfl ?_); refine goesL_ (some 23) rfl rfl Try.func26 (by kernel_rfl) rfl #[.slice A0 l0.length c0, .int .i64 a1] rfl (by (try simp only [List.map_toArray, List.map_cons, List.map_nil]); first | done | rfl | (simp only [List.length_drop, List.length_take]; rfl)) ?_; (with_reducible refine (impl_slabAt.calls kj3 _ _ l0 a1 (ii : Int) false _ ?side1 ?side2 A11.out).mono ?_); (case side1 => repeat (first | exact (Kd.C_below HR0.out HB.out) | (with_reducible refine Kd.C_alloc ?_ _) | (with_reducible refine Kd.C_drewN ?_ _) | (with_reducible refine Kd.C_drew ?_))); (case side2 => exact HC0.out); rintro e w' ⟨rfl, ⟨nd, rfl⟩⟩; refine ⟨_, rfl, ?_⟩; (try (rw [drewN_self wc]; generalize hq_ : World.drewN wc _ = wc; have n0_ : Aside0 (Below w.heap.size w wc) := ⟨by rw [← hq_]; exact (by repeat (first | (with_reducible first | exact HB.out | apply below_alloc | apply pw_below_drewN | apply below_drew1) | exact HB.out))⟩; clear HB hq_; have HB := n0_; clear n0_))) | ((with_reducible refine gate_dst (N := 31) rfl ?_); refine Kd.R_make Kd.bool _ 4 rfl (N := 31) rfl 43 _ _ rfl ji14 (by first | rfl | exact congrArg (Value.int .i64) hji14t) (by first | rfl | exact congrArg (Value.int .i64) hji14t) Try.underlying43 (.bool false) 1 info4 rfl (by decide) (by omega) false (ok := fun _ => True) (okp := fun _ => True) rfl (fun _ hk => hk) trivial (of_decide_eq_true (by first | (with_reducible assumption) | assumption)) (Nat.le_trans (Nat.mul_le_mul_right _ (of_decide_eq_true (by first | (with_reducible assumption) | assumption) : ji14.toNat ≤ 281474976710656)) (by omega)) (Below.refl _ _) (Nat.le_refl _) ?_; intro v340 w23 ho24 hb hg_ hnew_; clear hg_ hnew_; (first | rw [← Ny339.out] at ho24 | (simp only [Int.reduceToNat] at ho24; rw [← Ny339.out] at ho24)); have n0_ := Aside0.mk (Kd.R_lower (Kd.R_newM (M := fun k_ => (w.heap.size ≤ k_)) ho24 (below_size (by repeat (first | (with_reducible first | exact HB.out | apply below_alloc | apply pw_below_drewN | apply below_drew1) | exact HB.out))) (fun k_ h_ => h_)) (below_size (by repeat (first | (with_reducible first | exact HB.out | apply below_alloc | apply pw_below_drewN | apply below_drew1) | exact HB.out)))); have n1_ := Aside0.mk (below_step (by repeat (first | (with_reducible first | exact HB.out | apply below_alloc | apply pw_below_drewN | apply below_drew1) | exact HB.out)) hb); clear HB; have HO341 := n0_; have HB := n1_; clear n0_ n1_; clear hb ho24; obtain ⟨Ao25, co25, eo25⟩ := Kd.R_slice HO341.out; subst eo25) | ((with_reducible refine gate_dst (N := 10) rfl ?_); refine box_event ?hg (N := 10) ?hd (cs := #[.int .i64 0, .int .i64 0, .slice none 0 0]) (t := 47) ?hr ?_; (case hd => rfl); (case hg => rfl); (case hr => first | (go_simp; done) | (go_simp; rfl) | (obtain ⟨A_, c_, e_⟩ := Kd.R_slice HO341.out; rw [e_]; first | (go_simp; done) | (go_simp; rfl)) | (obtain ⟨A_, c_, e_⟩ := Kd.S_slice HO341.out; rw [e_]; first | (go_simp; done) | (go_simp; rfl))); intro gb342 hg w26 hbox hb; have n0_ := Aside0.mk (Kd.R_below (by (with_reducible repeat (first | apply Kd.R_alloc | apply Kd.R_drewN | apply Kd.R_drew)); exact HO341.out) hb); have n1_ := Aside0.mk (below_step (by repeat (first | (with_reducible first | exact HB.out | apply below_alloc | apply pw_below_drewN | apply below_drew1) | exact HB.out)) hb); have n2_ := Aside0.mk (hbox); have n3_ := Aside0.mk ((by rw [hg]; exact (below_size (by repeat (first | (with_reducible first | exact HB.out | apply below_alloc | apply pw_below_drewN | apply below_drew1) | exact HB.out))) : w.heap.size ≤ gb342)); have n4_ := Aside0.mk ((by rw [hg]; exact (below_size (by repeat (first | (with_reducible first | exact HB.out | apply below_alloc | apply pw_below_drewN | apply below_drew1) | exact HB.out))) : w.heap.size ≤ gb342)); clear HO341; clear HB; have HO341 := n0_; have HB := n1_; have BK342 := n2_; have GW342 := n3_; have GE342 := n4_; clear n0_ n1_ n2_ n3_ n4_; clear hb hbox hg; have hcz27_0 : w26.cell? ⟨gb342, 0, none⟩ = some (.int .i64 0) := (blk_cell BK342.out 0).trans rfl; have hcz27_1 : w26.cell? ⟨gb342, 1, none⟩ = some (.int .i64 0) := (blk_cell BK342.out 1).trans rfl; have hcz27_2 : w26.cell? ⟨gb342, 2, none⟩ = some (.slice none 0 0) := (blk_cell BK342.out 2).trans rfl; have hfz27_0 := blk_frozen BK342.out 0; have hfz27_1 := blk_frozen BK342.out 1; have hfz27_2 := blk_frozen BK342.out 2) | ((with_reducible refine gate_store (t := 47) (p := 10) rfl ?_); refine store_event (t := 47) (p := 10) (v := ?vo_w28) (w1 := (((w26.setCell ⟨gb342, 0, none⟩ (.int .i64 a1)).setCell ⟨gb342, 1, none⟩ (.int .i64 a2)).setCell ⟨gb342, 2, none⟩ (.slice Ao25 y339.length co25))) ?hg ?ho ?hn ?hr ?_; (case ho => rfl); (case hg => rfl); (case hn => rfl); (case hr => first | (go_simp; done) | (go_simp; rfl) | (obtain ⟨A_, c_, e_⟩ := Kd.R_slice HO341.out; rw [e_]; first | (go_simp; done) | (go_simp; rfl)) | (obtain ⟨A_, c_, e_⟩ := Kd.S_slice HO341.out; rw [e_]; first | (go_simp; done) | (go_simp; rfl))); intro w28 hw; have n0_ : Aside0 (Kd.R Kd.bool 4 w28 w.heap.size (fun k_ => (w.heap.size ≤ k_)) (.slice Ao25 y339.length co25) y339) := ⟨(by rw [hw]; exact (by (with_reducible repeat (first | apply Kd.R_alloc | apply Kd.R_drewN | apply Kd.R_drew)); exact Kd.R_mono (Kd.R_far (p := ⟨gb342, 2, none⟩) (Kd.R_far (p := ⟨gb342, 1, none⟩) (Kd.R_far (p := ⟨gb342, 0, none⟩) (Kd.R_types HO341.out BK342.out (by decide)) (fun _ hk => hk.2) (.int .i64 a1)) (fun _ hk => hk.2) (.int .i64 a2)) (fun _ hk => hk.2) (.slice Ao25 y339.length co25)) (fun _ hk => hk.1.1)))⟩; have n1_ : Aside0 (w28.heap[gb342]? = some (.cells #[.int .i64 a1, .int .i64 a2, .slice Ao25 y339.length co25] 47 (0, 0))) := ⟨(by rw [hw]; exact (by (with_reducible repeat (first | refine blk_drewN ?_ _ | refine blk_drew ?_ | refine blk_alloc ?_ _)); refine blk_put (cs := #[.int .i64 a1, .int .i64 a2, .slice none 0 0]) ?_ 2 _ rfl; (with_reducible repeat (first | refine blk_drewN ?_ _ | refine blk_drew ?_ | refine blk_alloc ?_ _)); refine blk_put (cs := #[.int .i64 a1, .int .i64 0, .slice none 0 0]) ?_ 1 _ rfl; (with_reducible repeat (first | refine blk_drewN ?_ _ | refine blk_drew ?_ | refine blk_alloc ?_ _)); refine blk_put (cs := #[.int .i64 0, .int .i64 0, .slice none 0 0]) ?_ 0 _ rfl; (with_reducible repeat (first | refine blk_drewN ?_ _ | refine blk_drew ?_ | refine blk_alloc ?_ _)); exact BK342.out))⟩; have n2_ : Aside0 (Below w.heap.size w w28) := ⟨(by rw [hw]; exact (by repeat (first | (with_reducible first | exact HB.out | apply below_alloc | apply pw_below_drewN | apply below_drew1 | refine below_set ?_ GE342.out) | exact HB.out)))⟩; clear hw; clear HO341; clear BK342; clear HB; have HO341 := n0_; have BK342 := n1_; have HB := n2_; clear n0_ n1_ n2_; have hcz29_0 : w28.cell? ⟨gb342, 0, none⟩ = some (.int .i64 a1) := (blk_cell BK342.out 0).trans rfl; have hcz29_1 : w28.cell? ⟨gb342, 1, none⟩ = some (.int .i64 a2) := (blk_cell BK342.out 1).trans rfl; have hcz29_2 : w28.cell? ⟨gb342, 2, none⟩ = some (.slice Ao25 y339.length co25) := (blk_cell BK342.out 2).trans rfl; have hfz29_0 := blk_frozen BK342.out 0; have hfz29_1 := blk_frozen BK342.out 1; have hfz29_2 := blk_frozen BK342.out 2; have p18 : 0 ≤ (0 : Int) := (by omega); have q18 : (0 : Int) < ((y339.length : Int) : Int) := of_decide_eq_true (by first | (with_reducible assumption) | assumption); have qi18 : (0 < y339.length) = True := eq_true (by omega); obtain ⟨go18, co18, eo18, gb18, gl18, cl18, HG18⟩ := Kd.R_form HO341.out (by omega); (first | cases eo18 | (injection eo18 with ea_ en_ ec_; (first | subst ea_ | (injection ea_ with ea_; subst ea_)); subst ec_; clear en_)); have GB18 := Aside0.mk gb18; have GG18 := Aside0.mk HG18; clear gb18 gl18 HG18; obtain ⟨hx18_0, hf18_0⟩ := Kd.R_celln false HO341.out (0 : Int) p18 q18; (try rw [show ((0 : Int)).toNat = 0 from rfl] at hx18_0); (try simp only [Nat.reduceMul, Nat.zero_mul, Nat.zero_add, Nat.reduceAdd] at hx18_0); (try rw [show ((0 : Int)).toNat = 0 from rfl] at hf18_0); (try simp only [Nat.reduceMul, Nat.zero_mul, Nat.zero_add, Nat.reduceAdd] at hf18_0); replace p18 := eq_true p18; replace q18 := eq_true q18; obtain ⟨hy30_, hz30_⟩ := Kd.R_celln false HO341.out (0 : Int) (by omega) (of_decide_eq_true (by first | (with_reducible assumption) | assumption)); (try simp only [Int.reduceToNat, Int.toNat_zero, Int.toNat_ofNat, Nat.reduceMul, Nat.zero_mul, Nat.zero_add] at hy30_ hz30_); (try rw [show ((0 : Int)).toNat = 0 from rfl] at hy30_); (try rw [show ((0 : Int)).toNat = 0 from rfl] at hz30_); have HP30 := Kd.R_putg HO341.out (0 : Int) true) | ((with_reducible refine gate_store (t := 4) (p := 35) rfl ?_); refine store_event (t := 4) (p := 35) (v := ?vo_w31) (w1 := (w28.setCell ⟨go18, (0 : Int).toNat, none⟩ (.bool true))) ?hg ?ho ?hn ?hr ?_; (case ho => rfl); (case hg => rfl); (case hn => rfl); (case hr => first | (go_simp; done) | (go_simp; rfl) | (obtain ⟨A_, c_, e_⟩ := Kd.R_slice HO341.out; rw [e_]; first | (go_simp; done) | (go_simp; rfl)) | (obtain ⟨A_, c_, e_⟩ := Kd.S_slice HO341.out; rw [e_]; first | (go_simp; done) | (go_simp; rfl))); intro w31 hw; have hg : w28.grownBy w31 (some go18) := (by rw [hw]; exact HP30.2); have hp_ : Kd.R Kd.bool 4 w31 w.heap.size (fun k_ => (w.heap.size ≤ k_)) (.slice (some ⟨go18, 0, none⟩) y339.length co25) y343 := (by rw [hw, Ny343.out]; exact HP30.1); clear HP30; have n0_ := Aside0.mk (hp_); have n1_ := Aside0.mk (blk_grown (g := gb342) (o := .cells #[.int .i64 a1, .int .i64 a2, .slice (some ⟨go18, 0, none⟩) y339.length co25] 47 (0, 0)) (by (with_reducible repeat (first | refine blk_drewN ?_ _ | refine blk_drew ?_ | refine blk_alloc ?_ _)); exact BK342.out) hg (Kd.R_ne HO341.out BK342.out (by decide))); have n2_ := Aside0.mk ((by rw [hw]; exact below_set (HB.out) GB18.out : Below w.heap.size w w31)); clear HO341; clear BK342; clear HB; have HO341 := n0_; have BK342 := n1_; have HB := n2_; clear n0_ n1_ n2_; clear hg hw hp_))
                  have n0_ := Aside0.mk (Kd.R_drew HO341.out)
                  have n1_ := Aside0.mk (blk_drew BK342.out)
                  have n2_ := Aside0.mk (below_drew1 HB.out)
                  clear HO341
                  clear BK342
                  clear HB
                  have HO341 := n0_
                  have BK342 := n1_
                  have HB := n2_
                  clear n0_ n1_ n2_
                  refine start_ (n := 7) (S := fun w' => w'.cell? ⟨gb342, 0, none⟩ = some (.int .i64 a1) ∧ w'.cell? ⟨gb342, 1, none⟩ = some (.int .i64 a2) ∧ w'.cell? ⟨gb342, 2, none⟩ = some (.slice (some ⟨go18, 0, none⟩) y339.length co25)) (ds := []) #[false, false, false, false, false, false, false] (by kernel_rfl) rfl rfl ⟨(blk_cell BK342.out 0).trans rfl, (blk_cell BK342.out 1).trans rfl, (blk_cell BK342.out 2).trans rfl⟩ (fun hHeld => ?_)
                  generalize w31.drew = w32 at HO341 BK342 HB hHeld ⊢
                  refine pure_ (i := 0) (N := some 36) (v := ?_) (a' := ?_) #[true, false, false, false, false, false, false] rfl rfl (by kernel_rfl) (fun _ _ _ h => h) (Or.inl ⟨by rfl, ?_⟩) ?_ ?_
                  rotate_left
                  · intro w'
                    go_simp
                    with_reducible rfl
                  rotate_left
                  · simp only [Act.put, List.setIfInBounds_toArray, List.set_cons_zero, List.set_cons_succ, i64_w, i32_w]
                    rfl
                  refine pure_ (i := 2) (N := some 38) (v := ?_) (a' := ?_) #[true, false, true, false, false, false, false] rfl rfl (by kernel_rfl) (fun _ _ _ h => h) (Or.inl ⟨by rfl, ?_⟩) ?_ ?_
                  rotate_left
                  · intro w'
                    go_simp
                    with_reducible rfl
                  rotate_left
                  · simp only [Act.put, List.setIfInBounds_toArray, List.set_cons_zero, List.set_cons_succ, i64_w, i32_w]
                    rfl
                  refine take_ (i := 3) (N := some 39) (v := ?_) (a' := ?_) #[true, false, true, true, false, false, false] rfl rfl (by kernel_rfl) (fun _ _ _ h => h) (Or.inl ⟨by rfl, ?_⟩) hHeld ?_ ?_
                  rotate_left
                  · rintro w' ⟨s0, s1, s2⟩
                    go_simp
                    with_reducible rfl
                  rotate_left
                  · simp only [Act.put, List.setIfInBounds_toArray, List.set_cons_zero, List.set_cons_succ, i64_w, i32_w]
                    rfl
                  have HGO := Aside0.mk (Kd.R_lt HO341.out go18 rfl)
                  have HGB := Aside0.mk (blk_lt BK342.out)
                  have HO5 := Aside0.mk (Kd.R_mono (ok' := fun k => k < w32.heap.size) (Kd.R_bound HO341.out) (fun k hk => hk.2.2.1))
                  clear HO341
                  have HO341 := HO5
                  clear HO5
                  refine join_ (σ := Value × Nat) 2 #[true, true, true, true, true, false, false] (fun s_ => [(37, s_.1), (40, .slice (some ⟨s_.2, 0, none⟩) 1 1)]) (fun s_ w' => (w'.cell? ⟨gb342, 0, none⟩ = some (.int .i64 a1) ∧ w'.cell? ⟨gb342, 1, none⟩ = some (.int .i64 a2) ∧ w'.cell? ⟨gb342, 2, none⟩ = some (.slice (some ⟨go18, 0, none⟩) y339.length co25)) ∧ Kd.S k47 47 w' w.heap.size (fun k_ => w32.heap.size ≤ k_ ∧ k_ ≠ s_.2) s_.1 t344 ∧ w'.heap[s_.2]? = some (.cells #[.int .i64 a1, .int .i64 a2, .slice (some ⟨go18, 0, none⟩) y339.length co25] 47 (0, 0)) ∧ w'.heap[gb342]? = some (.cells #[.int .i64 a1, .int .i64 a2, .slice (some ⟨go18, 0, none⟩) y339.length co25] 47 (0, 0)) ∧ Kd.bool.R 4 w' w.heap.size (fun k_ => k_ < w32.heap.size) (.slice (some ⟨go18, 0, none⟩) y339.length co25) y343 ∧ w32.heap.size ≤ s_.2 ∧ Below w.heap.size w w') ?_ ?_
                  rotate_left
                  · intro hCont
                    refine two_ (i := 1) (j := 4) (Ni := some 37) (Nj := some 40) #[true, true, true, true, false, false, false] #[true, false, true, true, true, false, false] rfl rfl rfl rfl (by kernel_rfl) (by decide) (by decide) (fun K hK => ?_) (fun K hK => ?_)
                    · skip
                      refine goes_ Try.func28 (by kernel_rfl) rfl #[.slice A0 l0.length c0] (by rfl) rfl rfl (by (try simp only [List.map_toArray, List.map_cons, List.map_nil]); first | done | rfl | (simp only [List.length_drop, List.length_take]; rfl)) ?_
                      with_reducible refine (impl_copySlabs.calls kj3 _ _ l0 t344 _ ?side1 ?side2 A19.out).mono ?_
                      (case side1 => exact Kd.C_below HR0.out HB.out)
                      (case side2 => exact HC0.out)
                      rintro e w33 ⟨v345, rfl, ho0, hb⟩
                      refine ⟨_, rfl, ?_⟩
                      have hb1 := below_step HB.out hb
                      have n0_ := Aside0.mk (Kd.R_below HO341.out hb)
                      have n2_ := Aside0.mk (blk_below BK342.out hb)
                      have HS := Aside0.mk (Kd.S_lower (Kd.S_bound ho0) (below_size HB.out))
                      have hs2 := hb.size
                      clear HO341 BK342 HB ho0 hb
                      have HO341 := n0_
                      have BK342 := n2_
                      have HB := Aside0.mk hb1
                      clear n0_ n2_ hb1
                      refine hK.out _ _ ⟨(blk_cell BK342.out 0).trans rfl, (blk_cell BK342.out 1).trans rfl, (blk_cell BK342.out 2).trans rfl⟩ (fun hHeld => ?_)
                      clear hK K
                      refine norm_ (a' := ?_) ?_ ?_
                      rotate_left
                      · show Act.put _ (some 37) _ = _
                        simp only [Act.put, List.setIfInBounds_toArray, List.set_cons_zero, List.set_cons_succ, i64_w, i32_w]
                        rfl
                      refine one_ (i := 4) (N := some 40) #[true, true, true, true, true, false, false] rfl rfl (by kernel_rfl) (by decide) (fun K hK => ?_)
                      refine event_step (v := .slice (some ⟨w33.heap.size, 0, none⟩) 1 1) (w1 := w33.alloc (.cells #[.int .i64 a1, .int .i64 a2, .slice (some ⟨go18, 0, none⟩) y339.length co25] 47 (0, 0))) ?hg ?hr ?_
                      (case hg => rfl)
                      (case hr => first | (go_simp; done) | (go_simp; rfl))
                      have hn := heap_alloc_new w33 (.cells #[.int .i64 a1, .int .i64 a2, .slice (some ⟨go18, 0, none⟩) y339.length co25] 47 (0, 0))
                      have hb := below_alloc (Below.refl w33.heap.size w33) (.cells #[.int .i64 a1, .int .i64 a2, .slice (some ⟨go18, 0, none⟩) y339.length co25] 47 (0, 0))
                      generalize w33.alloc (.cells #[.int .i64 a1, .int .i64 a2, .slice (some ⟨go18, 0, none⟩) y339.length co25] 47 (0, 0)) = w34 at hn hb ⊢
                      refine hK.out _ _ ⟨(blk_cell (blk_below BK342.out hb) 0).trans rfl, (blk_cell (blk_below BK342.out hb) 1).trans rfl, (blk_cell (blk_below BK342.out hb) 2).trans rfl⟩ (fun hHeld => ?_)
                      clear hK K
                      refine norm_ (a' := ?_) ?_ ?_
                      rotate_left
                      · show Act.put _ (some 40) _ = _
                        simp only [Act.put, List.setIfInBounds_toArray, List.set_cons_zero, List.set_cons_succ, i64_w, i32_w]
                        rfl
                      exact norm_ (by simp only [putAll, Act.put, List.setIfInBounds_toArray, List.set_cons_zero, List.set_cons_succ]) (hCont (v345, w33.heap.size) _ ⟨hHeld, Kd.S_mono (Kd.S_below HS.out hb) (fun k hk => ⟨hk.2.1, fun e => by have := hk.2.2.1; omega⟩), hn, blk_below BK342.out hb, Kd.R_below HO341.out hb, hs2, below_step HB.out hb⟩)
                    · skip
                      refine event_step (v := .slice (some ⟨w32.heap.size, 0, none⟩) 1 1) (w1 := w32.alloc (.cells #[.int .i64 a1, .int .i64 a2, .slice (some ⟨go18, 0, none⟩) y339.length co25] 47 (0, 0))) ?hg ?hr ?_
                      (case hg => rfl)
                      (case hr => first | (go_simp; done) | (go_simp; rfl))
                      have hn := heap_alloc_new w32 (.cells #[.int .i64 a1, .int .i64 a2, .slice (some ⟨go18, 0, none⟩) y339.length co25] 47 (0, 0))
                      have hb := below_alloc (Below.refl w32.heap.size w32) (.cells #[.int .i64 a1, .int .i64 a2, .slice (some ⟨go18, 0, none⟩) y339.length co25] 47 (0, 0))
                      generalize w32.alloc (.cells #[.int .i64 a1, .int .i64 a2, .slice (some ⟨go18, 0, none⟩) y339.length co25] 47 (0, 0)) = w33 at hn hb ⊢
                      have hb1 := below_step HB.out hb
                      have n0_ := Aside0.mk (Kd.R_below HO341.out hb)
                      have n2_ := Aside0.mk (blk_below BK342.out hb)
                      have hs2 := hb.size
                      have NW := Aside0.mk hn
                      clear HO341 BK342 HB hn hb
                      have HO341 := n0_
                      have BK342 := n2_
                      have HB := Aside0.mk hb1
                      clear n0_ n2_ hb1
                      refine hK.out _ _ ⟨(blk_cell BK342.out 0).trans rfl, (blk_cell BK342.out 1).trans rfl, (blk_cell BK342.out 2).trans rfl⟩ (fun hHeld => ?_)
                      clear hK K
                      refine norm_ (a' := ?_) ?_ ?_
                      rotate_left
                      · show Act.put _ (some 40) _ = _
                        simp only [Act.put, List.setIfInBounds_toArray, List.set_cons_zero, List.set_cons_succ, i64_w, i32_w]
                        rfl
                      refine one_ (i := 1) (N := some 37) #[true, true, true, true, true, false, false] rfl rfl (by kernel_rfl) (by decide) (fun K hK => ?_)
                      refine goes_ Try.func28 (by kernel_rfl) rfl #[.slice A0 l0.length c0] (by rfl) rfl rfl (by (try simp only [List.map_toArray, List.map_cons, List.map_nil]); first | done | rfl | (simp only [List.length_drop, List.length_take]; rfl)) ?_
                      with_reducible refine (impl_copySlabs.calls kj3 _ _ l0 t344 _ ?side1 ?side2 A19.out).mono ?_
                      (case side1 => exact Kd.C_below HR0.out HB.out)
                      (case side2 => exact HC0.out)
                      rintro e w34 ⟨v345, rfl, ho0, hb⟩
                      refine ⟨_, rfl, ?_⟩
                      refine hK.out _ _ ⟨(blk_cell (blk_below BK342.out hb) 0).trans rfl, (blk_cell (blk_below BK342.out hb) 1).trans rfl, (blk_cell (blk_below BK342.out hb) 2).trans rfl⟩ (fun hHeld => ?_)
                      clear hK K
                      refine norm_ (a' := ?_) ?_ ?_
                      rotate_left
                      · show Act.put _ (some 37) _ = _
                        simp only [Act.put, List.setIfInBounds_toArray, List.set_cons_zero, List.set_cons_succ, i64_w, i32_w]
                        rfl
                      have hlt := blk_lt NW.out
                      exact norm_ (by simp only [putAll, Act.put, List.setIfInBounds_toArray, List.set_cons_zero, List.set_cons_succ]) (hCont (v345, w32.heap.size) _ ⟨hHeld, Kd.S_mono (Kd.S_lower (Kd.S_bound ho0) (below_size HB.out)) (fun k hk => ⟨Nat.le_trans hs2 hk.2.1, fun e => by have := hk.2.1; omega⟩), blk_below NW.out hb, blk_below BK342.out hb, Kd.R_below HO341.out hb, Nat.le_refl _, below_step HB.out hb⟩)
                  rintro ⟨v345, gn⟩ w36 ⟨hS_, h0_, h1_, h2_, h3_, h4_, h5_⟩
                  have hHeld : w36.cell? ⟨gb342, 0, none⟩ = some (.int .i64 a1) ∧ w36.cell? ⟨gb342, 1, none⟩ = some (.int .i64 a2) ∧ w36.cell? ⟨gb342, 2, none⟩ = some (.slice (some ⟨go18, 0, none⟩) y339.length co25) := hS_
                  replace h0_ : Kd.S k47 47 w36 w.heap.size (fun k_ => w32.heap.size ≤ k_ ∧ k_ ≠ gn) v345 t344 := h0_
                  replace h1_ : w36.heap[gn]? = some (.cells #[.int .i64 a1, .int .i64 a2, .slice (some ⟨go18, 0, none⟩) y339.length co25] 47 (0, 0)) := h1_
                  replace h4_ : w32.heap.size ≤ gn := h4_
                  clear HO341 BK342 HB
                  have HS := Aside0.mk h0_
                  have NW := Aside0.mk h1_
                  have BK342 := Aside0.mk h2_
                  have HO341 := Aside0.mk h3_
                  have HGN := Aside0.mk h4_
                  have HB := Aside0.mk h5_
                  clear hS_ h0_ h1_ h2_ h3_ h4_ h5_
                  obtain ⟨Ao37, co37, eo37⟩ := Kd.S_slice HS.out
                  subst eo37
                  refine norm_ (a' := ?_) ?_ ?_
                  rotate_left
                  · simp only [putAll, Act.put, List.setIfInBounds_toArray, List.set_cons_zero, List.set_cons_succ]
                    rfl
                  refine one_ (i := 5) (N := some 41) #[true, true, true, true, true, true, false] rfl rfl (by kernel_rfl) (by decide) (fun K hK => ?_)
                  refine goes_ Try.func38 (by kernel_rfl) rfl #[.slice Ao37 t344.length co37, .int .i64 (ii : Int), .slice (some ⟨gn, 0, none⟩) 1 1] (by rfl) rfl rfl (by (try simp only [List.map_toArray, List.map_cons, List.map_nil]); first | done | rfl | (simp only [List.length_drop, List.length_take]; rfl)) ?_
                  with_reducible refine (insertSlab (fun k_ => w32.heap.size ≤ k_ ∧ k_ ≠ gn) (fun k_ => k_ < w32.heap.size) (.slice Ao37 t344.length co37) t344 ii (⟨a1, a2, y343⟩ : S47) gn (.slice (some ⟨go18, 0, none⟩) y339.length co25) w w36 HB.out HS.out HII.out HLM.out NW.out HO341.out (fun k h1 h2 => by have := h2.1; omega) (fun h => absurd rfl h.2)).mono ?_
                  rintro e w39 ⟨v351, rfl, ho0, hb, hg⟩
                  refine ⟨_, rfl, ?_⟩
                  rw [← HRR.out] at ho0
                  have n0_ := Aside0.mk (Kd.S_mono (ok' := fun _ => True) ho0 (fun _ _ => trivial))
                  have n1_ := Aside0.mk (blk_grown BK342.out hg (fun e => by obtain ⟨_, hp_, _⟩ := HS.out; have h1 := hp_ gb342 e.symm; have h2 := HGB.out; have h3 := h1.1; omega))
                  clear HS NW BK342 HO341 HGN HB ho0 hg
                  have HO352 := n0_
                  have BK342 := n1_
                  have HB := Aside0.mk hb
                  clear n0_ n1_ hb
                  refine hK.out _ _ ⟨(blk_cell BK342.out 0).trans rfl, (blk_cell BK342.out 1).trans rfl, (blk_cell BK342.out 2).trans rfl⟩ (fun hHeld => ?_)
                  clear hK K
                  refine norm_ (a' := ?_) ?_ ?_
                  rotate_left
                  · show Act.put _ (some 41) _ = _
                    simp only [Act.put, List.setIfInBounds_toArray, List.set_cons_zero, List.set_cons_succ, i64_w, i32_w]
                    rfl
                  refine pure_ (i := 6) (N := some 11) (v := ?_) (a' := ?_) #[true, true, true, true, true, true, true] rfl rfl (by kernel_rfl) (fun _ _ _ h => h) (Or.inl ⟨by rfl, ?_⟩) ?_ ?_
                  rotate_left
                  · intro w'
                    go_simp
                    with_reducible rfl
                  rotate_left
                  · simp only [Act.put, List.setIfInBounds_toArray, List.set_cons_zero, List.set_cons_succ, i64_w, i32_w]
                    rfl
                  refine done_ (by kernel_rfl) ?_
                  obtain ⟨Ao40, co40, eo40⟩ := Kd.S_slice HO352.out
                  subst eo40
                  cases t353 with
                  | true =>
                    have H := HZ.out
                    rw [if_pos rfl] at H
                    simp only [Option.some.injEq, Prod.mk.injEq] at H
                    obtain ⟨rfl, rfl⟩ := H
                    clear HZ
                    go_wp2_with (first | ((with_reducible refine gate_callee (f := 19) rfl ?_); refine goesL_ (some 43) rfl rfl Try.func19 (by kernel_rfl) rfl #[.slice Ao40 _ co40] rfl (by (try simp only [List.map_toArray, List.map_cons, List.map_nil]); first | done | rfl | (simp only [List.length_drop, List.length_take]; rfl)) ?_; (with_reducible refine (impl_SlabsOk.calls kj3 _ _ _ true _ ?side1 ?side2 A21.out).mono ?_); (case side1 => repeat (first | exact (Kd.S_reads' HO352.out).2.2 | (with_reducible refine Kd.C_alloc ?_ _) | (with_reducible refine Kd.C_drewN ?_ _) | (with_reducible refine Kd.C_drew ?_))); (case side2 => exact (Kd.S_reads' HO352.out).2.1); rintro e w41 ⟨rfl, hb⟩; refine ⟨_, rfl, ?_⟩; have n0_ := Aside0.mk (Kd.S_below HO352.out hb); have n4_ := Aside0.mk (below_step HB.out hb); clear HO352 BK342 HB hb; have HO352 := n0_; have HB := n4_; clear n0_ n4_))
                    go_ret2
                    exact ⟨_, rfl, HO352.out, HB.out⟩
                  | false =>
                    have H := HZ.out
                    rw [if_neg (show ¬ (false = true) by decide)] at H
                    simp only [Option.some.injEq, Prod.mk.injEq] at H
                    obtain ⟨rfl, rfl⟩ := H
                    clear HZ
                    go_wp2_with (first | ((with_reducible refine gate_callee (f := 19) rfl ?_); refine goesL_ (some 43) rfl rfl Try.func19 (by kernel_rfl) rfl #[.slice Ao40 _ co40] rfl (by (try simp only [List.map_toArray, List.map_cons, List.map_nil]); first | done | rfl | (simp only [List.length_drop, List.length_take]; rfl)) ?_; (with_reducible refine (impl_SlabsOk.calls kj3 _ _ _ false _ ?side1 ?side2 A21.out).mono ?_); (case side1 => repeat (first | exact (Kd.S_reads' HO352.out).2.2 | (with_reducible refine Kd.C_alloc ?_ _) | (with_reducible refine Kd.C_drewN ?_ _) | (with_reducible refine Kd.C_drew ?_))); (case side2 => exact (Kd.S_reads' HO352.out).2.1); rintro e w41 ⟨rfl, hb⟩; refine ⟨_, rfl, ?_⟩; have n0_ := Aside0.mk (Kd.S_below HO352.out hb); have n4_ := Aside0.mk (below_step HB.out hb); clear HO352 BK342 HB hb; have HO352 := n0_; have HB := n4_; clear n0_ n4_))
                    go_ret2
                    exact ⟨_, rfl, Kd.S_nil _ _ _ _ _, HB.out⟩
                · rw [if_neg c17] at H
                  exact absurd H (by simp)
              · rw [if_neg c16] at H
                exact absurd H (by simp)
            · rw [if_neg c15] at H
              exact absurd H (by simp)

end Go.Proofs.Ytpkdfdkicblheaa.P
end
section
namespace Go.Proofs.Ytpkdfdkicblheaa.P
open Go.RowKit Go.Proofs.YtpkdfdkicblheaaW.PrintWords Go.Proofs.YtpkdfdkicblheaaW.PrintLast Go.Proofs.YtpkdfdkicblheaaW.PrintMore
attribute [local go_sem] max2_int min2_int max_two min_two max_three min_three max_four min_four   -- for this text's walks alone
set_option linter.unusedVariables false
set_option linter.unusedSimpArgs false

/-! ### impl_TakePart: function 17 -/
def impl_TakePart.l0 : Nat → List (S47) → Int → List (S47) → Int → Int → Option ((List (S47)) × Int × Int × Bool)
  | 0, _, _, _, _, _ => none
  | k + 1, x0, x1, x15, x16, x17 => if x17 < x16 then (if 0 ≤ x17 then (if x17 < (x15.length : Int) then ((slices_Index_bool_bool.f k ((rd_T47 x15 x17).f2) false).bind fun t338 => (if ((rd_T47 x15 x17).f1) = x1 then (if t338 ≥ 0 then ((impl_copySlabs.f k x0).bind fun t339 => (if x17 < (t339.length : Int) then (if 0 ≤ t338 then (if t338 < (((rd_T47 t339 x17).f2).length : Int) then (some ((t339.set (x17 : Int).toNat (⟨(rd_T47 t339 x17).f0, (rd_T47 t339 x17).f1, (((rd_T47 t339 x17).f2).set (t338 : Int).toNat true)⟩ : S47)), (rd_T47 x15 x17).f0, t338, true)) else (none)) else (none)) else (none))) else (impl_TakePart.l0 k x0 x1 x15 x16 (wrap64 (x17 + 1)))) else (impl_TakePart.l0 k x0 x1 x15 x16 (wrap64 (x17 + 1))))) else (none)) else (none)) else (some (([] : List (S47)), 0, 0, false))
def impl_TakePart.f (k : Nat) (l0 : List (S47)) (a1 : Int) : Option ((List (S47)) × Int × Int × Bool) := (impl_SlabsOk.f k l0).bind fun t335 => (if t335 = true then (impl_TakePart.l0 k l0 a1 l0 (l0.length : Int) 0) else (some (([] : List (S47)), 0, 0, false)))
theorem impl_TakePart.mono_l : ∀ k, (∀ y0 y1 y2 y3 y4, LeO (impl_TakePart.l0 k y0 y1 y2 y3 y4) (impl_TakePart.l0 (k + 1) y0 y1 y2 y3 y4))
  | 0 => fun _ _ _ _ _ r h => by simp [impl_TakePart.l0] at h
  | k + 1 => by
    have ih0 := impl_TakePart.mono_l k
    · intro y0 y1 y2 y3 y4
      unfold impl_TakePart.l0
      repeat' first
      | (with_reducible exact ih0 _ _ _ _ _)
      | (with_reducible exact impl_SlabsOk.mono _ _)
      | (with_reducible exact impl_copySlabs.mono _ _)
      | (with_reducible exact slices_Index_bool_bool.mono _ _ _)
      | (with_reducible exact LeO.refl _)
      | (with_reducible exact LeO.none _)
      | (with_reducible refine LeO.ite ?_ ?_)
      | (with_reducible refine LeO.bind ?_ (fun _ => ?_))
      | exact ih0 _ _ _ _ _
      | exact impl_SlabsOk.mono _ _
      | exact impl_copySlabs.mono _ _
      | exact slices_Index_bool_bool.mono _ _ _
      | exact LeO.none _
      | refine LeO.ite ?_ ?_
      | refine LeO.bind ?_ (fun _ => ?_)
theorem impl_TakePart.mono : ∀ a0 a1 k, LeO (impl_TakePart.f k a0 a1) (impl_TakePart.f (k + 1) a0 a1) := by
  intro a0 a1 k
  have ih0 := impl_TakePart.mono_l k
  unfold impl_TakePart.f
  repeat' first
      | (with_reducible exact ih0 _ _ _ _ _)
      | (with_reducible exact impl_SlabsOk.mono _ _)
      | (with_reducible exact impl_copySlabs.mono _ _)
      | (with_reducible exact slices_Index_bool_bool.mono _ _ _)
      | (with_reducible exact LeO.refl _)
      | (with_reducible exact LeO.none _)
      | (with_reducible refine LeO.ite ?_ ?_)
      | (with_reducible refine LeO.bind ?_ (fun _ => ?_))
      | exact ih0 _ _ _ _ _
      | exact impl_SlabsOk.mono _ _
      | exact impl_copySlabs.mono _ _
      | exact slices_Index_bool_bool.mono _ _ _
      | exact LeO.none _
      | refine LeO.ite ?_ ?_
      | refine LeO.bind ?_ (fun _ => ?_)
set_option maxHeartbeats 8000000 in
set_option maxRecDepth 100000 in
theorem impl_TakePart.calls (k : Nat) (A0 : Option Addr) (c0 : Nat) (l0 : List (S47)) (a1 : Int) (r1 : List (S47)) (r2 : Int) (r3 : Int) (r4 : Bool) (w : World) (hr0 : Kd.C k47 w A0 l0.length l0) (hc0 : l0.length ≤ c0) (h : impl_TakePart.f k l0 a1 = some (r1, r2, r3, r4)) :
    Calls Try.prog 17 #[.slice A0 l0.length c0, .int .i64 a1] w fun e w' => ∃ v0_ : Value, e = .returned (.tuple #[v0_, .int .i64 r2, .int .i64 r3, .bool r4]) ∧ Kd.S k47 47 w' w.heap.size (fun _ => True) v0_ r1 ∧ Below w.heap.size w w' := by
  have hu47 := Try.underlying47
  have HR0 := Aside0.mk hr0
  have HC0 := Aside0.mk hc0
  clear hr0 hc0
  have HB := Aside0.mk (Below.refl w.heap.size w)
  have H : ((impl_SlabsOk.f k l0).bind fun t335 => (if t335 = true then (impl_TakePart.l0 k l0 a1 l0 (l0.length : Int) 0) else (some (([] : List (S47)), 0, 0, false)))) = some (r1, r2, r3, r4) := h
  clear h
  replace H := Option.bind_eq_some_iff.mp H
  obtain ⟨t335, A30, H⟩ := H
  replace H : (if t335 = true then (impl_TakePart.l0 k l0 a1 l0 (l0.length : Int) 0) else (some (([] : List (S47)), 0, 0, false))) = some (r1, r2, r3, r4) := H
  have A3 := Aside0.mk A30
  clear A30
  by_cases c4 : t335 = true
  · subst c4
    have H1 : (impl_TakePart.l0 k l0 a1 l0 (l0.length : Int) 0) = some (r1, r2, r3, r4) := by rw [if_pos rfl] at H; exact H
    clear H
    have H := H1
    clear H1
    have H' := Aside0.mk H
    clear H
    go_enter Try.func17, Try.ntmps17
    go_wp2_with (first | (go_at_call 19; (with_reducible refine (impl_SlabsOk.calls k _ _ l0 true _ ?side1 ?side2 A3.out).mono ?_); (case side1 => repeat (first | exact HR0.out | (with_reducible refine Kd.C_alloc ?_ _) | (with_reducible refine Kd.C_drewN ?_ _) | (with_reducible refine Kd.C_drew ?_))); (case side2 => exact HC0.out); rintro e w5 ⟨rfl, hb⟩; have n0_ := Aside0.mk (below_step (by repeat (first | (with_reducible first | exact HB.out | apply below_alloc | apply pw_below_drewN | apply below_drew1) | exact HB.out)) hb); clear HB; have HB := n0_; clear n0_; (try clear hb); (try clear hb2); (try clear hk); (try clear hi)))
    repeat (go_quiet (first | (go_at_call 19; (with_reducible refine (impl_SlabsOk.calls k _ _ l0 true _ ?side1 ?side2 A3.out).mono ?_); (case side1 => repeat (first | exact HR0.out | (with_reducible refine Kd.C_alloc ?_ _) | (with_reducible refine Kd.C_drewN ?_ _) | (with_reducible refine Kd.C_drew ?_))); (case side2 => exact HC0.out); rintro e w5 ⟨rfl, hb⟩; have n0_ := Aside0.mk (below_step (by repeat (first | (with_reducible first | exact HB.out | apply below_alloc | apply pw_below_drewN | apply below_drew1) | exact HB.out)) hb); clear HB; have HB := n0_; clear n0_; (try clear hb); (try clear hb2); (try clear hk); (try clear hi))); try go_wp2_with (first | (go_at_call 19; (with_reducible refine (impl_SlabsOk.calls k _ _ l0 true _ ?side1 ?side2 A3.out).mono ?_); (case side1 => repeat (first | exact HR0.out | (with_reducible refine Kd.C_alloc ?_ _) | (with_reducible refine Kd.C_drewN ?_ _) | (with_reducible refine Kd.C_drew ?_))); (case side2 => exact HC0.out); rintro e w5 ⟨rfl, hb⟩; have n0_ := Aside0.mk (below_step (by repeat (first | (with_reducible first | exact HB.out | apply below_alloc | apply pw_below_drewN | apply below_drew1) | exact HB.out)) hb); clear HB; have HB := n0_; clear n0_; (try clear hb); (try clear hb2); (try clear hk); (try clear hi))))
    go_loopg [17] k (fun kq v17 w' => ∃ (x17_1 : Int), v17 = .int .i64 x17_1 ∧ Aside0 (impl_TakePart.l0 kq l0 a1 l0 (l0.length : Int) x17_1 = some (r1, r2, r3, r4)) ∧ Aside0 (kq ≤ k) ∧ Aside0 (Below w.heap.size w w'))
    case atStart => exact ⟨(0), (by first | rfl | (simp; done) | (simp [*]; done)), H', ⟨Nat.le_refl _⟩, ⟨by repeat (first | (with_reducible first | exact HB.out | apply below_alloc | apply pw_below_drewN | apply below_drew1) | exact HB.out)⟩⟩
    case round =>
      clear H'
      try clear c1
      try clear p2
      try clear c4
      obtain ⟨x17_1, rfl, HA, HK1, HB⟩ := hrel
      cases gk with
      | zero => exact absurd HA.out (by simp [impl_TakePart.l0])
      | succ k1 =>
        have H := HA.out
        clear HA
        simp only [impl_TakePart.l0] at H
        by_cases c6 : x17_1 < (l0.length : Int)
        · rw [if_pos c6] at H
          have c6b0 : decide (x17_1 < (l0.length : Int)) = true := decide_eq_true c6
          clear c6
          by_cases c7 : 0 ≤ x17_1
          · rw [if_pos c7] at H
            have c7b0 : decide (0 ≤ x17_1) = true := decide_eq_true c7
            clear c7
            by_cases c8 : x17_1 < (l0.length : Int)
            · rw [if_pos c8] at H
              have c8b0 : decide (x17_1 < (l0.length : Int)) = true := decide_eq_true c8
              clear c8
              replace H := Option.bind_eq_some_iff.mp H
              obtain ⟨t338, A90, H⟩ := H
              replace H : (if ((rd_T47 l0 x17_1).f1) = a1 then (if t338 ≥ 0 then ((impl_copySlabs.f k1 l0).bind fun t339 => (if x17_1 < (t339.length : Int) then (if 0 ≤ t338 then (if t338 < (((rd_T47 t339 x17_1).f2).length : Int) then (some ((t339.set (x17_1 : Int).toNat (⟨(rd_T47 t339 x17_1).f0, (rd_T47 t339 x17_1).f1, (((rd_T47 t339 x17_1).f2).set (t338 : Int).toNat true)⟩ : S47)), (rd_T47 l0 x17_1).f0, t338, true)) else (none)) else (none)) else (none))) else (impl_TakePart.l0 k1 l0 a1 l0 (l0.length : Int) (wrap64 (x17_1 + 1)))) else (impl_TakePart.l0 k1 l0 a1 l0 (l0.length : Int) (wrap64 (x17_1 + 1)))) = some (r1, r2, r3, r4) := H
              have A9 := Aside0.mk A90
              clear A90
              by_cases c10 : ((rd_T47 l0 x17_1).f1) = a1
              · rw [if_pos c10] at H
                have c10b0 : (((rd_T47 l0 x17_1).f1) == a1) = true := beq_iff_eq.mpr c10
                have c10b1 : (((rd_T47 l0 x17_1).f1) != a1) = false := bne_eq_false_iff_eq.mpr c10
                clear c10
                by_cases c11 : t338 ≥ 0
                · rw [if_pos c11] at H
                  have c11b0 : decide (0 ≤ t338) = true := decide_eq_true c11
                  clear c11
                  replace H := Option.bind_eq_some_iff.mp H
                  obtain ⟨t339, A120, H⟩ := H
                  replace H : (if x17_1 < (t339.length : Int) then (if 0 ≤ t338 then (if t338 < (((rd_T47 t339 x17_1).f2).length : Int) then (some ((t339.set (x17_1 : Int).toNat (⟨(rd_T47 t339 x17_1).f0, (rd_T47 t339 x17_1).f1, (((rd_T47 t339 x17_1).f2).set (t338 : Int).toNat true)⟩ : S47)), (rd_T47 l0 x17_1).f0, t338, true)) else (none)) else (none)) else (none)) = some (r1, r2, r3, r4) := H
                  have A12 := Aside0.mk A120
                  clear A120
                  by_cases c13 : x17_1 < (t339.length : Int)
                  · rw [if_pos c13] at H
                    have c13b0 : decide (x17_1 < (t339.length : Int)) = true := decide_eq_true c13
                    clear c13
                    by_cases c14 : 0 ≤ t338
                    · rw [if_pos c14] at H
                      have c14b0 : decide (0 ≤ t338) = true := decide_eq_true c14
                      clear c14
                      by_cases c15 : t338 < (((rd_T47 t339 x17_1).f2).length : Int)
                      · rw [if_pos c15] at H
                        have c15b0 : decide (t338 < (((rd_T47 t339 x17_1).f2).length : Int)) = true := decide_eq_true c15
                        clear c15
                        obtain ⟨y343, hy343⟩ : ∃ y_ : List Bool, y_ = (((rd_T47 t339 x17_1).f2).set (t338 : Int).toNat true) := ⟨_, rfl⟩
                        replace H : (some ((t339.set (x17_1 : Int).toNat (⟨(rd_T47 t339 x17_1).f0, (rd_T47 t339 x17_1).f1, y343⟩ : S47)), (rd_T47 l0 x17_1).f0, t338, true)) = some (r1, r2, r3, r4) := by first | (rw [hy343]; with_reducible exact H) | (have H2_ := (Option.bind_some _ _).symm.trans H; rw [hy343]; with_reducible exact H2_) | (have H2_ := (Option.bind_some _ _).symm.trans H; with_reducible exact H2_) | with_reducible exact H | (rw [hy343]; exact H) | exact H
                        have Ny343 := Aside0.mk hy343
                        clear hy343
                        obtain ⟨y345, hy345⟩ : ∃ y_ : List (S47), y_ = (t339.set (x17_1 : Int).toNat (⟨(rd_T47 t339 x17_1).f0, (rd_T47 t339 x17_1).f1, y343⟩ : S47)) := ⟨_, rfl⟩
                        replace H : (some (y345, (rd_T47 l0 x17_1).f0, t338, true)) = some (r1, r2, r3, r4) := by first | (rw [hy345]; with_reducible exact H) | (have H2_ := (Option.bind_some _ _).symm.trans H; rw [hy345]; with_reducible exact H2_) | (have H2_ := (Option.bind_some _ _).symm.trans H; with_reducible exact H2_) | with_reducible exact H | (rw [hy345]; exact H) | exact H
                        have Ny345 := Aside0.mk hy345
                        clear hy345
                        simp only [Option.some.injEq, Prod.mk.injEq] at H
                        obtain ⟨rfl, rfl, rfl, rfl⟩ := H
                        have p336 : 0 ≤ (x17_1 : Int) := of_decide_eq_true (by first | (with_reducible assumption) | assumption)
                        have q336 : x17_1 < (l0.length : Int) := of_decide_eq_true (by first | (with_reducible assumption) | assumption)
                        obtain ⟨ad336, A336_2, c336_2, e336, hx336_0, hx336_1, hx336_2, hl336_2, hi336_2⟩ := at_T47 HR0.out x17_1 p336 q336
                        cases e336
                        replace hx336_0 := (HB.out.cell (World.block_lt_of_cell? w _ hx336_0)).trans hx336_0
                        replace hx336_1 := (HB.out.cell (World.block_lt_of_cell? w _ hx336_1)).trans hx336_1
                        replace hx336_2 := (HB.out.cell (World.block_lt_of_cell? w _ hx336_2)).trans hx336_2
                        have HR336_2 := Aside0.mk hi336_2
                        have HC336_2 := Aside0.mk hl336_2
                        clear hi336_2 hl336_2
                        replace p336 := eq_true p336
                        replace q336 := eq_true q336
                        go_wp2_with (first | ((with_reducible refine gate_dst (N := 9) rfl ?_); refine box_event ?hg (N := 9) ?hd (cs := #[.int .i64 0, .int .i64 0, .slice none 0 0]) (t := 47) ?hr ?_; (case hd => rfl); (case hg => rfl); (case hr => first | (go_simp; done) | (go_simp; rfl) | (obtain ⟨A_, c_, e_⟩ := Kd.R_slice HO341.out; rw [e_]; first | (go_simp; done) | (go_simp; rfl)) | (obtain ⟨A_, c_, e_⟩ := Kd.S_slice HO341.out; rw [e_]; first | (go_simp; done) | (go_simp; rfl))); intro gb337 hg w17 hbox hb; have n0_ := Aside0.mk (below_step (by repeat (first | (with_reducible first | exact HB.out | apply below_alloc | apply pw_below_drewN | apply below_drew1) | exact HB.out)) hb); have n1_ := Aside0.mk (hbox); have n2_ := Aside0.mk ((by rw [hg]; exact (below_size (by repeat (first | (with_reducible first | exact HB.out | apply below_alloc | apply pw_below_drewN | apply below_drew1) | exact HB.out))) : w.heap.size ≤ gb337)); have n3_ := Aside0.mk ((by rw [hg]; exact (below_size (by repeat (first | (with_reducible first | exact HB.out | apply below_alloc | apply pw_below_drewN | apply below_drew1) | exact HB.out))) : w.heap.size ≤ gb337)); clear HB; have HB := n0_; have BK337 := n1_; have GW337 := n2_; have GE337 := n3_; clear n0_ n1_ n2_ n3_; clear hb hbox hg; have hcz18_0 : w17.cell? ⟨gb337, 0, none⟩ = some (.int .i64 0) := (blk_cell BK337.out 0).trans rfl; have hcz18_1 : w17.cell? ⟨gb337, 1, none⟩ = some (.int .i64 0) := (blk_cell BK337.out 1).trans rfl; have hcz18_2 : w17.cell? ⟨gb337, 2, none⟩ = some (.slice none 0 0) := (blk_cell BK337.out 2).trans rfl; have hfz18_0 := blk_frozen BK337.out 0; have hfz18_1 := blk_frozen BK337.out 1; have hfz18_2 := blk_frozen BK337.out 2) | (go_at_call 39; (with_reducible refine (slices_Index_bool_bool.calls k1 _ _ ((rd_T47 l0 x17_1).f2) false t338 _ ?side1 ?side2 A9.out).mono ?_); (case side1 => exact Kd.C_below HR336_2.out (by repeat (first | (with_reducible first | exact HB.out | apply below_alloc | apply pw_below_drewN | apply below_drew1 | refine below_set ?_ GE337.out) | exact HB.out))); (case side2 => exact HC336_2.out); rintro e w' ⟨rfl, ⟨nd, rfl⟩⟩; (try first | exact ⟨rfl, _, World.drewN_drewN _ _ _⟩ | exact ⟨rfl, _, Eq.trans (World.drewN_drewN _ _ _) (congrArg (World.drewN _) (Nat.add_assoc _ _ _))⟩)) | (go_at_call 28; (with_reducible refine (impl_copySlabs.calls k1 _ _ l0 t339 _ ?side1 ?side2 A12.out).mono ?_); (case side1 => exact Kd.C_below HR0.out (by repeat (first | (with_reducible first | exact HB.out | apply below_alloc | apply pw_below_drewN | apply below_drew1 | refine below_set ?_ GE337.out) | exact HB.out))); (case side2 => exact HC0.out); rintro e w19 ⟨v340, rfl, ho0, hb⟩; have n0_ := Aside0.mk (Kd.S_lower (Kd.S_newB ho0 (g := gb337) (o := .cells #[.int .i64 ((rd_T47 l0 x17_1).f0), .int .i64 ((rd_T47 l0 x17_1).f1), .slice A336_2 ((rd_T47 l0 x17_1).f2).length c336_2] 47 (0, 0)) (by (with_reducible repeat (first | refine blk_drewN ?_ _ | refine blk_drew ?_ | refine blk_alloc ?_ _)); refine blk_put (cs := #[.int .i64 ((rd_T47 l0 x17_1).f0), .int .i64 ((rd_T47 l0 x17_1).f1), .slice none 0 0]) ?_ 2 _ rfl; (with_reducible repeat (first | refine blk_drewN ?_ _ | refine blk_drew ?_ | refine blk_alloc ?_ _)); refine blk_put (cs := #[.int .i64 ((rd_T47 l0 x17_1).f0), .int .i64 0, .slice none 0 0]) ?_ 1 _ rfl; (with_reducible repeat (first | refine blk_drewN ?_ _ | refine blk_drew ?_ | refine blk_alloc ?_ _)); refine blk_put (cs := #[.int .i64 0, .int .i64 0, .slice none 0 0]) ?_ 0 _ rfl; (with_reducible repeat (first | refine blk_drewN ?_ _ | refine blk_drew ?_ | refine blk_alloc ?_ _)); exact BK337.out)) (below_size (by repeat (first | (with_reducible first | exact HB.out | apply below_alloc | apply pw_below_drewN | apply below_drew1 | refine below_set ?_ GE337.out) | exact HB.out)))); have n1_ := Aside0.mk (blk_below (g := gb337) (o := .cells #[.int .i64 ((rd_T47 l0 x17_1).f0), .int .i64 ((rd_T47 l0 x17_1).f1), .slice A336_2 ((rd_T47 l0 x17_1).f2).length c336_2] 47 (0, 0)) (by (with_reducible repeat (first | refine blk_drewN ?_ _ | refine blk_drew ?_ | refine blk_alloc ?_ _)); refine blk_put (cs := #[.int .i64 ((rd_T47 l0 x17_1).f0), .int .i64 ((rd_T47 l0 x17_1).f1), .slice none 0 0]) ?_ 2 _ rfl; (with_reducible repeat (first | refine blk_drewN ?_ _ | refine blk_drew ?_ | refine blk_alloc ?_ _)); refine blk_put (cs := #[.int .i64 ((rd_T47 l0 x17_1).f0), .int .i64 0, .slice none 0 0]) ?_ 1 _ rfl; (with_reducible repeat (first | refine blk_drewN ?_ _ | refine blk_drew ?_ | refine blk_alloc ?_ _)); refine blk_put (cs := #[.int .i64 0, .int .i64 0, .slice none 0 0]) ?_ 0 _ rfl; (with_reducible repeat (first | refine blk_drewN ?_ _ | refine blk_drew ?_ | refine blk_alloc ?_ _)); exact BK337.out) hb); have n2_ := Aside0.mk (below_step (by repeat (first | (with_reducible first | exact HB.out | apply below_alloc | apply pw_below_drewN | apply below_drew1 | refine below_set ?_ GE337.out) | exact HB.out)) hb); clear BK337; clear HB; have HO341 := n0_; have BK337 := n1_; have HB := n2_; clear n0_ n1_ n2_; (try clear hb); (try clear hb2); (try clear hk); (try clear hi); (try clear ho0); obtain ⟨Ao20, co20, eo20⟩ := Kd.S_slice HO341.out; subst eo20; have p342 : 0 ≤ (x17_1 : Int) := of_decide_eq_true (by first | (with_reducible assumption) | assumption); have q342 : x17_1 < (t339.length : Int) := of_decide_eq_true (by first | (with_reducible assumption) | assumption); obtain ⟨ad342, A342_2, c342_2, e342, hx342_0, hx342_1, hx342_2, hl342_2, hi342_2⟩ := at_T47 (Kd.S_reads' HO341.out).2.2 x17_1 p342 q342; cases e342; obtain ⟨ce342, hce342, hMe342, hcc342⟩ := Kd.S_get HO341.out z47 x17_1 p342 (by first | exact q342 | exact of_decide_eq_true (by first | (with_reducible assumption) | assumption) | (have e_ := (Kd.S_reads' HO341.out).1; omega)); obtain ⟨ve342_2, rfl, ge342_2⟩ := k47_openM hMe342; have hv342_2 := hcc342 2 _ rfl; rw [add_field _ _ 2 (by omega)] at hv342_2; replace hv342_2 := Option.some.inj (hv342_2.symm.trans hx342_2); rw [hv342_2] at ge342_2; have HL342_2 := Aside0.mk (show Kd.R Kd.bool 4 _ _ _ _ ((rd_T47 t339 x17_1).f2) from ge342_2); clear hv342_2 ge342_2; have HX342_2 := Aside0.mk hx342_2; clear hcc342 hce342; have HR342_2 := Aside0.mk hi342_2; have HC342_2 := Aside0.mk hl342_2; clear hi342_2 hl342_2; replace p342 := eq_true p342; replace q342 := eq_true q342; have p16 : 0 ≤ (t338 : Int) := of_decide_eq_true (by first | (with_reducible assumption) | assumption); have q16 : (t338 : Int) < ((((rd_T47 t339 x17_1).f2).length : Int) : Int) := of_decide_eq_true (by first | (with_reducible assumption) | assumption); obtain ⟨go16, co16, eo16, gb16, gl16, cl16, HG16⟩ := Kd.R_form HL342_2.out (by omega); (first | cases eo16 | (injection eo16 with ea_ en_ ec_; (first | subst ea_ | (injection ea_ with ea_; subst ea_)); subst ec_; clear en_)); have GB16 := Aside0.mk gb16; have GG16 := Aside0.mk HG16; clear gb16 gl16 HG16; obtain ⟨hx16_0, hf16_0⟩ := Kd.R_celln false HL342_2.out (t338 : Int) p16 q16; replace p16 := eq_true p16; replace q16 := eq_true q16; have n_ := Aside0.mk (Kd.S_mono (ok' := (fun k_ => k_ ≠ gb337)) HO341.out (fun k_ hk => hk.2)); clear HO341; have HO341 := n_; clear n_; have hq21 : (x17_1 : Int) < (t339.length : Int) := (by have h_ : (x17_1 : Int) < ((t339.length : Int) : Int) := of_decide_eq_true (by first | (with_reducible assumption) | assumption); first | exact h_ | (have e_ := (Kd.S_reads' HO341.out).1; omega) | simpa only [List.length_set, List.length_set] using h_); obtain ⟨oki21, ce21, hcl21, hM21, hcc21, hok21, hbk21⟩ := Kd.S_borrow HO341.out z47 (x17_1 : Int) (of_decide_eq_true (by first | (with_reducible assumption) | assumption)) hq21; obtain ⟨ve21_2, rfl, ge21_2⟩ := k47_openM hM21; have hv21 := hcc21 2 _ rfl; rw [add_field _ _ 2 (by omega)] at hv21; replace hv21 := Option.some.inj (hv21.symm.trans HX342_2.out); subst hv21; (try clear hcc21); (try clear hcl21); replace ge21_2 := (show Kd.R Kd.bool 4 _ _ _ _ ((rd_T47 t339 x17_1).f2) from ge21_2); have HP21 := Kd.R_putg ge21_2 (t338 : Int) true) | ((with_reducible refine gate_store (t := 4) (p := 41) rfl ?_); (try (rw [drewN_self w19]; generalize hq_ : World.drewN w19 _ = w19; have n0_ := Aside0.mk (Kd.S_at hq_ HO341.out); have n1_ := Aside0.mk (Kd.R_at hq_ HL346.out); have n2_ := Aside0.mk (blk_at hq_ BK337.out); have n3_ := Aside0.mk (below_at hq_ HB.out); clear hq_ HO341 HL346 BK337 HB; have HO341 := n0_; have HL346 := n1_; have BK337 := n2_; have HB := n3_; clear n0_ n1_ n2_ n3_; (try (have n_ := Aside0.mk (Kd.S_mono (ok' := (fun k_ => k_ ≠ gb337)) HO341.out (fun k_ hk => hk.2)); clear HO341; have HO341 := n_; clear n_)); (try (have hq21 : (x17_1 : Int) < (t339.length : Int) := (by have h_ : (x17_1 : Int) < ((t339.length : Int) : Int) := of_decide_eq_true (by first | (with_reducible assumption) | assumption); first | exact h_ | (have e_ := (Kd.S_reads' HO341.out).1; omega) | simpa only [List.length_set, List.length_set] using h_))); (try (obtain ⟨oki21, ce21, hcl21, hM21, hcc21, hok21, hbk21⟩ := Kd.S_borrow HO341.out z47 (x17_1 : Int) (of_decide_eq_true (by first | (with_reducible assumption) | assumption)) hq21)); (try (obtain ⟨ve21_2, rfl, ge21_2⟩ := k47_openM hM21)); (try (have hv21 := hcc21 2 _ rfl)); (try (rw [add_field _ _ 2 (by omega)] at hv21)); (try (replace hv21 := Option.some.inj (hv21.symm.trans HX342_2.out))); (try (subst hv21)); (try ((try clear hcc21); (try clear hcl21))); (try (replace ge21_2 := (show Kd.R Kd.bool 4 _ _ _ _ ((rd_T47 t339 x17_1).f2) from ge21_2))); (try (have HP21 := Kd.R_putg ge21_2 (t338 : Int) true)))); refine store_event (t := 4) (p := 41) (v := ?vo_w22) (w1 := (w19.setCell ⟨go16, (t338 : Int).toNat, none⟩ (.bool true))) ?hg ?ho ?hn ?hr ?_; (case ho => rfl); (case hg => rfl); (case hn => rfl); (case hr => first | (go_simp; done) | (go_simp; rfl) | (obtain ⟨A_, c_, e_⟩ := Kd.R_slice HO341.out; rw [e_]; first | (go_simp; done) | (go_simp; rfl)) | (obtain ⟨A_, c_, e_⟩ := Kd.S_slice HO341.out; rw [e_]; first | (go_simp; done) | (go_simp; rfl))); intro w22 hw; have hg : w19.grownBy w22 (some go16) := (by rw [hw]; exact HP21.2); have hz_ : Kd.R Kd.bool 4 w22 w.heap.size oki21 (.slice (some ⟨go16, 0, none⟩) ((rd_T47 t339 x17_1).f2).length c342_2) y343 := (by rw [hw, Ny343.out]; exact HP21.1); have hp_ : Kd.S k47 47 w22 w.heap.size (fun k_ => k_ ≠ gb337) (.slice (some ad342) t339.length co20) y345 := (by rw [Ny345.out]; exact hbk21 hg (fun k_ e_ => by injection e_ with e_; subst e_; exact ge21_2.1 _ rfl) (k47_mkM _ _ _ (⟨(rd_T47 t339 x17_1).f0, (rd_T47 t339 x17_1).f1, y343⟩ : S47) hz_)); have hm_ := Kd.R_mono hz_ hok21; clear HP21 hbk21; have n0_ := Aside0.mk (blk_grown (g := gb337) (o := .cells #[.int .i64 ((rd_T47 l0 x17_1).f0), .int .i64 ((rd_T47 l0 x17_1).f1), .slice A336_2 ((rd_T47 l0 x17_1).f2).length c336_2] 47 (0, 0)) (by (with_reducible repeat (first | refine blk_drewN ?_ _ | refine blk_drew ?_ | refine blk_alloc ?_ _)); exact BK337.out) hg (Kd.R_ne HL342_2.out BK337.out (by decide))); have n1_ := Aside0.mk (hp_); have n2_ := Aside0.mk ((by rw [hw]; exact below_set (HB.out) GB16.out : Below w.heap.size w w22)); have n3_ := Aside0.mk (hm_); have n4_ := Aside0.mk ((Kd.R_reads' hm_).2.1); clear BK337; clear HO341; clear HB; clear HL342_2; have BK337 := n0_; have HO341 := n1_; have HB := n2_; have HL346 := n3_; have HC344 := n4_; clear n0_ n1_ n2_ n3_ n4_; clear hg hw hp_ hz_ hm_ hok21; have hcz23_0 : w22.cell? ⟨gb337, 0, none⟩ = some (.int .i64 ((rd_T47 l0 x17_1).f0)) := (blk_cell BK337.out 0).trans rfl; have hcz23_1 : w22.cell? ⟨gb337, 1, none⟩ = some (.int .i64 ((rd_T47 l0 x17_1).f1)) := (blk_cell BK337.out 1).trans rfl; have hcz23_2 : w22.cell? ⟨gb337, 2, none⟩ = some (.slice A336_2 ((rd_T47 l0 x17_1).f2).length c336_2) := (blk_cell BK337.out 2).trans rfl; have hfz23_0 := blk_frozen BK337.out 0; have hfz23_1 := blk_frozen BK337.out 1; have hfz23_2 := blk_frozen BK337.out 2))
                        repeat (go_quiet (first | ((with_reducible refine gate_dst (N := 9) rfl ?_); refine box_event ?hg (N := 9) ?hd (cs := #[.int .i64 0, .int .i64 0, .slice none 0 0]) (t := 47) ?hr ?_; (case hd => rfl); (case hg => rfl); (case hr => first | (go_simp; done) | (go_simp; rfl) | (obtain ⟨A_, c_, e_⟩ := Kd.R_slice HO341.out; rw [e_]; first | (go_simp; done) | (go_simp; rfl)) | (obtain ⟨A_, c_, e_⟩ := Kd.S_slice HO341.out; rw [e_]; first | (go_simp; done) | (go_simp; rfl))); intro gb337 hg w17 hbox hb; have n0_ := Aside0.mk (below_step (by repeat (first | (with_reducible first | exact HB.out | apply below_alloc | apply pw_below_drewN | apply below_drew1) | exact HB.out)) hb); have n1_ := Aside0.mk (hbox); have n2_ := Aside0.mk ((by rw [hg]; exact (below_size (by repeat (first | (with_reducible first | exact HB.out | apply below_alloc | apply pw_below_drewN | apply below_drew1) | exact HB.out))) : w.heap.size ≤ gb337)); have n3_ := Aside0.mk ((by rw [hg]; exact (below_size (by repeat (first | (with_reducible first | exact HB.out | apply below_alloc | apply pw_below_drewN | apply below_drew1) | exact HB.out))) : w.heap.size ≤ gb337)); clear HB; have HB := n0_; have BK337 := n1_; have GW337 := n2_; have GE337 := n3_; clear n0_ n1_ n2_ n3_; clear hb hbox hg; have hcz18_0 : w17.cell? ⟨gb337, 0, none⟩ = some (.int .i64 0) := (blk_cell BK337.out 0).trans rfl; have hcz18_1 : w17.cell? ⟨gb337, 1, none⟩ = some (.int .i64 0) := (blk_cell BK337.out 1).trans rfl; have hcz18_2 : w17.cell? ⟨gb337, 2, none⟩ = some (.slice none 0 0) := (blk_cell BK337.out 2).trans rfl; have hfz18_0 := blk_frozen BK337.out 0; have hfz18_1 := blk_frozen BK337.out 1; have hfz18_2 := blk_frozen BK337.out 2) | (go_at_call 39; (with_reducible refine (slices_Index_bool_bool.calls k1 _ _ ((rd_T47 l0 x17_1).f2) false t338 _ ?side1 ?side2 A9.out).mono ?_); (case side1 => exact Kd.C_below HR336_2.out (by repeat (first | (with_reducible first | exact HB.out | apply below_alloc | apply pw_below_drewN | apply below_drew1 | refine below_set ?_ GE337.out) | exact HB.out))); (case side2 => exact HC336_2.out); rintro e w' ⟨rfl, ⟨nd, rfl⟩⟩; (try first | exact ⟨rfl, _, World.drewN_drewN _ _ _⟩ | exact ⟨rfl, _, Eq.trans (World.drewN_drewN _ _ _) (congrArg (World.drewN _) (Nat.add_assoc _ _ _))⟩)) | (go_at_call 28; (with_reducible refine (impl_copySlabs.calls k1 _ _ l0 t339 _ ?side1 ?side2 A12.out).mono ?_); (case side1 => exact Kd.C_below HR0.out (by repeat (first | (with_reducible first | exact HB.out | apply below_alloc | apply pw_below_drewN | apply below_drew1 | refine below_set ?_ GE337.out) | exact HB.out))); (case side2 => exact HC0.out); rintro e w19 ⟨v340, rfl, ho0, hb⟩; have n0_ := Aside0.mk (Kd.S_lower (Kd.S_newB ho0 (g := gb337) (o := .cells #[.int .i64 ((rd_T47 l0 x17_1).f0), .int .i64 ((rd_T47 l0 x17_1).f1), .slice A336_2 ((rd_T47 l0 x17_1).f2).length c336_2] 47 (0, 0)) (by (with_reducible repeat (first | refine blk_drewN ?_ _ | refine blk_drew ?_ | refine blk_alloc ?_ _)); refine blk_put (cs := #[.int .i64 ((rd_T47 l0 x17_1).f0), .int .i64 ((rd_T47 l0 x17_1).f1), .slice none 0 0]) ?_ 2 _ rfl; (with_reducible repeat (first | refine blk_drewN ?_ _ | refine blk_drew ?_ | refine blk_alloc ?_ _)); refine blk_put (cs := #[.int .i64 ((rd_T47 l0 x17_1).f0), .int .i64 0, .slice none 0 0]) ?_ 1 _ rfl; (with_reducible repeat (first | refine blk_drewN ?_ _ | refine blk_drew ?_ | refine blk_alloc ?_ _)); refine blk_put (cs := #[.int .i64 0, .int .i64 0, .slice none 0 0]) ?_ 0 _ rfl; (with_reducible repeat (first | refine blk_drewN ?_ _ | refine blk_drew ?_ | refine blk_alloc ?_ _)); exact BK337.out)) (below_size (by repeat (first | (with_reducible first | exact HB.out | apply below_alloc | apply pw_below_drewN | apply below_drew1 | refine below_set ?_ GE337.out) | exact HB.out)))); have n1_ := Aside0.mk (blk_below (g := gb337) (o := .cells #[.int .i64 ((rd_T47 l0 x17_1).f0), .int .i64 ((rd_T47 l0 x17_1).f1), .slice A336_2 ((rd_T47 l0 x17_1).f2).length c336_2] 47 (0, 0)) (by (with_reducible repeat (first | refine blk_drewN ?_ _ | refine blk_drew ?_ | refine blk_alloc ?_ _)); refine blk_put (cs := #[.int .i64 ((rd_T47 l0 x17_1).f0), .int .i64 ((rd_T47 l0 x17_1).f1), .slice none 0 0]) ?_ 2 _ rfl; (with_reducible repeat (first | refine blk_drewN ?_ _ | refine blk_drew ?_ | refine blk_alloc ?_ _)); refine blk_put (cs := #[.int .i64 ((rd_T47 l0 x17_1).f0), .int .i64 0, .slice none 0 0]) ?_ 1 _ rfl; (with_reducible repeat (first | refine blk_drewN ?_ _ | refine blk_drew ?_ | refine blk_alloc ?_ _)); refine blk_put (cs := #[.int .i64 0, .int .i64 0, .slice none 0 0]) ?_ 0 _ rfl; (with_reducible repeat (first | refine blk_drewN ?_ _ | refine blk_drew ?_ | refine blk_alloc ?_ _)); exact BK337.out) hb); have n2_ := Aside0.mk (below_step (by repeat (first | (with_reducible first | exact HB.out | apply below_alloc | apply pw_below_drewN | apply below_drew1 | refine below_set ?_ GE337.out) | exact HB.out)) hb); clear BK337; clear HB; have HO341 := n0_; have BK337 := n1_; have HB := n2_; clear n0_ n1_ n2_; (try clear hb); (try clear hb2); (try clear hk); (try clear hi); (try clear ho0); obtain ⟨Ao20, co20, eo20⟩ := Kd.S_slice HO341.out; subst eo20; have p342 : 0 ≤ (x17_1 : Int) := of_decide_eq_true (by first | (with_reducible assumption) | assumption); have q342 : x17_1 < (t339.length : Int) := of_decide_eq_true (by first | (with_reducible assumption) | assumption); obtain ⟨ad342, A342_2, c342_2, e342, hx342_0, hx342_1, hx342_2, hl342_2, hi342_2⟩ := at_T47 (Kd.S_reads' HO341.out).2.2 x17_1 p342 q342; cases e342; obtain ⟨ce342, hce342, hMe342, hcc342⟩ := Kd.S_get HO341.out z47 x17_1 p342 (by first | exact q342 | exact of_decide_eq_true (by first | (with_reducible assumption) | assumption) | (have e_ := (Kd.S_reads' HO341.out).1; omega)); obtain ⟨ve342_2, rfl, ge342_2⟩ := k47_openM hMe342; have hv342_2 := hcc342 2 _ rfl; rw [add_field _ _ 2 (by omega)] at hv342_2; replace hv342_2 := Option.some.inj (hv342_2.symm.trans hx342_2); rw [hv342_2] at ge342_2; have HL342_2 := Aside0.mk (show Kd.R Kd.bool 4 _ _ _ _ ((rd_T47 t339 x17_1).f2) from ge342_2); clear hv342_2 ge342_2; have HX342_2 := Aside0.mk hx342_2; clear hcc342 hce342; have HR342_2 := Aside0.mk hi342_2; have HC342_2 := Aside0.mk hl342_2; clear hi342_2 hl342_2; replace p342 := eq_true p342; replace q342 := eq_true q342; have p16 : 0 ≤ (t338 : Int) := of_decide_eq_true (by first | (with_reducible assumption) | assumption); have q16 : (t338 : Int) < ((((rd_T47 t339 x17_1).f2).length : Int) : Int) := of_decide_eq_true (by first | (with_reducible assumption) | assumption); obtain ⟨go16, co16, eo16, gb16, gl16, cl16, HG16⟩ := Kd.R_form HL342_2.out (by omega); (first | cases eo16 | (injection eo16 with ea_ en_ ec_; (first | subst ea_ | (injection ea_ with ea_; subst ea_)); subst ec_; clear en_)); have GB16 := Aside0.mk gb16; have GG16 := Aside0.mk HG16; clear gb16 gl16 HG16; obtain ⟨hx16_0, hf16_0⟩ := Kd.R_celln false HL342_2.out (t338 : Int) p16 q16; replace p16 := eq_true p16; replace q16 := eq_true q16; have n_ := Aside0.mk (Kd.S_mono (ok' := (fun k_ => k_ ≠ gb337)) HO341.out (fun k_ hk => hk.2)); clear HO341; have HO341 := n_; clear n_; have hq21 : (x17_1 : Int) < (t339.length : Int) := (by have h_ : (x17_1 : Int) < ((t339.length : Int) : Int) := of_decide_eq_true (by first | (with_reducible assumption) | assumption); first | exact h_ | (have e_ := (Kd.S_reads' HO341.out).1; omega) | simpa only [List.length_set, List.length_set] using h_); obtain ⟨oki21, ce21, hcl21, hM21, hcc21, hok21, hbk21⟩ := Kd.S_borrow HO341.out z47 (x17_1 : Int) (of_decide_eq_true (by first | (with_reducible assumption) | assumption)) hq21; obtain ⟨ve21_2, rfl, ge21_2⟩ := k47_openM hM21; have hv21 := hcc21 2 _ rfl; rw [add_field _ _ 2 (by omega)] at hv21; replace hv21 := Option.some.inj (hv21.symm.trans HX342_2.out); subst hv21; (try clear hcc21); (try clear hcl21); replace ge21_2 := (show Kd.R Kd.bool 4 _ _ _ _ ((rd_T47 t339 x17_1).f2) from ge21_2); have HP21 := Kd.R_putg ge21_2 (t338 : Int) true) | ((with_reducible refine gate_store (t := 4) (p := 41) rfl ?_); (try (rw [drewN_self w19]; generalize hq_ : World.drewN w19 _ = w19; have n0_ := Aside0.mk (Kd.S_at hq_ HO341.out); have n1_ := Aside0.mk (Kd.R_at hq_ HL346.out); have n2_ := Aside0.mk (blk_at hq_ BK337.out); have n3_ := Aside0.mk (below_at hq_ HB.out); clear hq_ HO341 HL346 BK337 HB; have HO341 := n0_; have HL346 := n1_; have BK337 := n2_; have HB := n3_; clear n0_ n1_ n2_ n3_; (try (have n_ := Aside0.mk (Kd.S_mono (ok' := (fun k_ => k_ ≠ gb337)) HO341.out (fun k_ hk => hk.2)); clear HO341; have HO341 := n_; clear n_)); (try (have hq21 : (x17_1 : Int) < (t339.length : Int) := (by have h_ : (x17_1 : Int) < ((t339.length : Int) : Int) := of_decide_eq_true (by first | (with_reducible assumption) | assumption); first | exact h_ | (have e_ := (Kd.S_reads' HO341.out).1; omega) | simpa only [List.length_set, List.length_set] using h_))); (try (obtain ⟨oki21, ce21, hcl21, hM21, hcc21, hok21, hbk21⟩ := Kd.S_borrow HO341.out z47 (x17_1 : Int) (of_decide_eq_true (by first | (with_reducible assumption) | assumption)) hq21)); (try (obtain ⟨ve21_2, rfl, ge21_2⟩ := k47_openM hM21)); (try (have hv21 := hcc21 2 _ rfl)); (try (rw [add_field _ _ 2 (by omega)] at hv21)); (try (replace hv21 := Option.some.inj (hv21.symm.trans HX342_2.out))); (try (subst hv21)); (try ((try clear hcc21); (try clear hcl21))); (try (replace ge21_2 := (show Kd.R Kd.bool 4 _ _ _ _ ((rd_T47 t339 x17_1).f2) from ge21_2))); (try (have HP21 := Kd.R_putg ge21_2 (t338 : Int) true)))); refine store_event (t := 4) (p := 41) (v := ?vo_w22) (w1 := (w19.setCell ⟨go16, (t338 : Int).toNat, none⟩ (.bool true))) ?hg ?ho ?hn ?hr ?_; (case ho => rfl); (case hg => rfl); (case hn => rfl); (case hr => first | (go_simp; done) | (go_simp; rfl) | (obtain ⟨A_, c_, e_⟩ := Kd.R_slice HO341.out; rw [e_]; first | (go_simp; done) | (go_simp; rfl)) | (obtain ⟨A_, c_, e_⟩ := Kd.S_slice HO341.out; rw [e_]; first | (go_simp; done) | (go_simp; rfl))); intro w22 hw; have hg : w19.grownBy w22 (some go16) := (by rw [hw]; exact HP21.2); have hz_ : Kd.R Kd.bool 4 w22 w.heap.size oki21 (.slice (some ⟨go16, 0, none⟩) ((rd_T47 t339 x17_1).f2).length c342_2) y343 := (by rw [hw, Ny343.out]; exact HP21.1); have hp_ : Kd.S k47 47 w22 w.heap.size (fun k_ => k_ ≠ gb337) (.slice (some ad342) t339.length co20) y345 := (by rw [Ny345.out]; exact hbk21 hg (fun k_ e_ => by injection e_ with e_; subst e_; exact ge21_2.1 _ rfl) (k47_mkM _ _ _ (⟨(rd_T47 t339 x17_1).f0, (rd_T47 t339 x17_1).f1, y343⟩ : S47) hz_)); have hm_ := Kd.R_mono hz_ hok21; clear HP21 hbk21; have n0_ := Aside0.mk (blk_grown (g := gb337) (o := .cells #[.int .i64 ((rd_T47 l0 x17_1).f0), .int .i64 ((rd_T47 l0 x17_1).f1), .slice A336_2 ((rd_T47 l0 x17_1).f2).length c336_2] 47 (0, 0)) (by (with_reducible repeat (first | refine blk_drewN ?_ _ | refine blk_drew ?_ | refine blk_alloc ?_ _)); exact BK337.out) hg (Kd.R_ne HL342_2.out BK337.out (by decide))); have n1_ := Aside0.mk (hp_); have n2_ := Aside0.mk ((by rw [hw]; exact below_set (HB.out) GB16.out : Below w.heap.size w w22)); have n3_ := Aside0.mk (hm_); have n4_ := Aside0.mk ((Kd.R_reads' hm_).2.1); clear BK337; clear HO341; clear HB; clear HL342_2; have BK337 := n0_; have HO341 := n1_; have HB := n2_; have HL346 := n3_; have HC344 := n4_; clear n0_ n1_ n2_ n3_ n4_; clear hg hw hp_ hz_ hm_ hok21; have hcz23_0 : w22.cell? ⟨gb337, 0, none⟩ = some (.int .i64 ((rd_T47 l0 x17_1).f0)) := (blk_cell BK337.out 0).trans rfl; have hcz23_1 : w22.cell? ⟨gb337, 1, none⟩ = some (.int .i64 ((rd_T47 l0 x17_1).f1)) := (blk_cell BK337.out 1).trans rfl; have hcz23_2 : w22.cell? ⟨gb337, 2, none⟩ = some (.slice A336_2 ((rd_T47 l0 x17_1).f2).length c336_2) := (blk_cell BK337.out 2).trans rfl; have hfz23_0 := blk_frozen BK337.out 0; have hfz23_1 := blk_frozen BK337.out 1; have hfz23_2 := blk_frozen BK337.out 2)); try go_wp2_with (first | ((with_reducible refine gate_dst (N := 9) rfl ?_); refine box_event ?hg (N := 9) ?hd (cs := #[.int .i64 0, .int .i64 0, .slice none 0 0]) (t := 47) ?hr ?_; (case hd => rfl); (case hg => rfl); (case hr => first | (go_simp; done) | (go_simp; rfl) | (obtain ⟨A_, c_, e_⟩ := Kd.R_slice HO341.out; rw [e_]; first | (go_simp; done) | (go_simp; rfl)) | (obtain ⟨A_, c_, e_⟩ := Kd.S_slice HO341.out; rw [e_]; first | (go_simp; done) | (go_simp; rfl))); intro gb337 hg w17 hbox hb; have n0_ := Aside0.mk (below_step (by repeat (first | (with_reducible first | exact HB.out | apply below_alloc | apply pw_below_drewN | apply below_drew1) | exact HB.out)) hb); have n1_ := Aside0.mk (hbox); have n2_ := Aside0.mk ((by rw [hg]; exact (below_size (by repeat (first | (with_reducible first | exact HB.out | apply below_alloc | apply pw_below_drewN | apply below_drew1) | exact HB.out))) : w.heap.size ≤ gb337)); have n3_ := Aside0.mk ((by rw [hg]; exact (below_size (by repeat (first | (with_reducible first | exact HB.out | apply below_alloc | apply pw_below_drewN | apply below_drew1) | exact HB.out))) : w.heap.size ≤ gb337)); clear HB; have HB := n0_; have BK337 := n1_; have GW337 := n2_; have GE337 := n3_; clear n0_ n1_ n2_ n3_; clear hb hbox hg; have hcz18_0 : w17.cell? ⟨gb337, 0, none⟩ = some (.int .i64 0) := (blk_cell BK337.out 0).trans rfl; have hcz18_1 : w17.cell? ⟨gb337, 1, none⟩ = some (.int .i64 0) := (blk_cell BK337.out 1).trans rfl; have hcz18_2 : w17.cell? ⟨gb337, 2, none⟩ = some (.slice none 0 0) := (blk_cell BK337.out 2).trans rfl; have hfz18_0 := blk_frozen BK337.out 0; have hfz18_1 := blk_frozen BK337.out 1; have hfz18_2 := blk_frozen BK337.out 2) | (go_at_call 39; (with_reducible refine (slices_Index_bool_bool.calls k1 _ _ ((rd_T47 l0 x17_1).f2) false t338 _ ?side1 ?side2 A9.out).mono ?_); (case side1 => exact Kd.C_below HR336_2.out (by repeat (first | (with_reducible first | exact HB.out | apply below_alloc | apply pw_below_drewN | apply below_drew1 | refine below_set ?_ GE337.out) | exact HB.out))); (case side2 => exact HC336_2.out); rintro e w' ⟨rfl, ⟨nd, rfl⟩⟩; (try first | exact ⟨rfl, _, World.drewN_drewN _ _ _⟩ | exact ⟨rfl, _, Eq.trans (World.drewN_drewN _ _ _) (congrArg (World.drewN _) (Nat.add_assoc _ _ _))⟩)) | (go_at_call 28; (with_reducible refine (impl_copySlabs.calls k1 _ _ l0 t339 _ ?side1 ?side2 A12.out).mono ?_); (case side1 => exact Kd.C_below HR0.out (by repeat (first | (with_reducible first | exact HB.out | apply below_alloc | apply pw_below_drewN | apply below_drew1 | refine below_set ?_ GE337.out) | exact HB.out))); (case side2 => exact HC0.out); rintro e w19 ⟨v340, rfl, ho0, hb⟩; have n0_ := Aside0.mk (Kd.S_lower (Kd.S_newB ho0 (g := gb337) (o := .cells #[.int .i64 ((rd_T47 l0 x17_1).f0), .int .i64 ((rd_T47 l0 x17_1).f1), .slice A336_2 ((rd_T47 l0 x17_1).f2).length c336_2] 47 (0, 0)) (by (with_reducible repeat (first | refine blk_drewN ?_ _ | refine blk_drew ?_ | refine blk_alloc ?_ _)); refine blk_put (cs := #[.int .i64 ((rd_T47 l0 x17_1).f0), .int .i64 ((rd_T47 l0 x17_1).f1), .slice none 0 0]) ?_ 2 _ rfl; (with_reducible repeat (first | refine blk_drewN ?_ _ | refine blk_drew ?_ | refine blk_alloc ?_ _)); refine blk_put (cs := #[.int .i64 ((rd_T47 l0 x17_1).f0), .int .i64 0, .slice none 0 0]) ?_ 1 _ rfl; (with_reducible repeat (first | refine blk_drewN ?_ _ | refine blk_drew ?_ | refine blk_alloc ?_ _)); refine blk_put (cs := #[.int .i64 0, .int .i64 0, .slice none 0 0]) ?_ 0 _ rfl; (with_reducible repeat (first | refine blk_drewN ?_ _ | refine blk_drew ?_ | refine blk_alloc ?_ _)); exact BK337.out)) (below_size (by repeat (first | (with_reducible first | exact HB.out | apply below_alloc | apply pw_below_drewN | apply below_drew1 | refine below_set ?_ GE337.out) | exact HB.out)))); have n1_ := Aside0.mk (blk_below (g := gb337) (o := .cells #[.int .i64 ((rd_T47 l0 x17_1).f0), .int .i64 ((rd_T47 l0 x17_1).f1), .slice A336_2 ((rd_T47 l0 x17_1).f2).length c336_2] 47 (0, 0)) (by (with_reducible repeat (first | refine blk_drewN ?_ _ | refine blk_drew ?_ | refine blk_alloc ?_ _)); refine blk_put (cs := #[.int .i64 ((rd_T47 l0 x17_1).f0), .int .i64 ((rd_T47 l0 x17_1).f1), .slice none 0 0]) ?_ 2 _ rfl; (with_reducible repeat (first | refine blk_drewN ?_ _ | refine blk_drew ?_ | refine blk_alloc ?_ _)); refine blk_put (cs := #[.int .i64 ((rd_T47 l0 x17_1).f0), .int .i64 0, .slice none 0 0]) ?_ 1 _ rfl; (with_reducible repeat (first | refine blk_drewN ?_ _ | refine blk_drew ?_ | refine blk_alloc ?_ _)); refine blk_put (cs := #[.int .i64 0, .int .i64 0, .slice none 0 0]) ?_ 0 _ rfl; (with_reducible repeat (first | refine blk_drewN ?_ _ | refine blk_drew ?_ | refine blk_alloc ?_ _)); exact BK337.out) hb); have n2_ := Aside0.mk (below_step (by repeat (first | (with_reducible first | exact HB.out | apply below_alloc | apply pw_below_drewN | apply below_drew1 | refine below_set ?_ GE337.out) | exact HB.out)) hb); clear BK337; clear HB; have HO341 := n0_; have BK337 := n1_; have HB := n2_; clear n0_ n1_ n2_; (try clear hb); (try clear hb2); (try clear hk); (try clear hi); (try clear ho0); obtain ⟨Ao20, co20, eo20⟩ := Kd.S_slice HO341.out; subst eo20; have p342 : 0 ≤ (x17_1 : Int) := of_decide_eq_true (by first | (with_reducible assumption) | assumption); have q342 : x17_1 < (t339.length : Int) := of_decide_eq_true (by first | (with_reducible assumption) | assumption); obtain ⟨ad342, A342_2, c342_2, e342, hx342_0, hx342_1, hx342_2, hl342_2, hi342_2⟩ := at_T47 (Kd.S_reads' HO341.out).2.2 x17_1 p342 q342; cases e342; obtain ⟨ce342, hce342, hMe342, hcc342⟩ := Kd.S_get HO341.out z47 x17_1 p342 (by first | exact q342 | exact of_decide_eq_true (by first | (with_reducible assumption) | assumption) | (have e_ := (Kd.S_reads' HO341.out).1; omega)); obtain ⟨ve342_2, rfl, ge342_2⟩ := k47_openM hMe342; have hv342_2 := hcc342 2 _ rfl; rw [add_field _ _ 2 (by omega)] at hv342_2; replace hv342_2 := Option.some.inj (hv342_2.symm.trans hx342_2); rw [hv342_2] at ge342_2; have HL342_2 := Aside0.mk (show Kd.R Kd.bool 4 _ _ _ _ ((rd_T47 t339 x17_1).f2) from ge342_2); clear hv342_2 ge342_2; have HX342_2 := Aside0.mk hx342_2; clear hcc342 hce342; have HR342_2 := Aside0.mk hi342_2; have HC342_2 := Aside0.mk hl342_2; clear hi342_2 hl342_2; replace p342 := eq_true p342; replace q342 := eq_true q342; have p16 : 0 ≤ (t338 : Int) := of_decide_eq_true (by first | (with_reducible assumption) | assumption); have q16 : (t338 : Int) < ((((rd_T47 t339 x17_1).f2).length : Int) : Int) := of_decide_eq_true (by first | (with_reducible assumption) | assumption); obtain ⟨go16, co16, eo16, gb16, gl16, cl16, HG16⟩ := Kd.R_form HL342_2.out (by omega); (first | cases eo16 | (injection eo16 with ea_ en_ ec_; (first | subst ea_ | (injection ea_ with ea_; subst ea_)); subst ec_; clear en_)); have GB16 := Aside0.mk gb16; have GG16 := Aside0.mk HG16; clear gb16 gl16 HG16; obtain ⟨hx16_0, hf16_0⟩ := Kd.R_celln false HL342_2.out (t338 : Int) p16 q16; replace p16 := eq_true p16; replace q16 := eq_true q16; have n_ := Aside0.mk (Kd.S_mono (ok' := (fun k_ => k_ ≠ gb337)) HO341.out (fun k_ hk => hk.2)); clear HO341; have HO341 := n_; clear n_; have hq21 : (x17_1 : Int) < (t339.length : Int) := (by have h_ : (x17_1 : Int) < ((t339.length : Int) : Int) := of_decide_eq_true (by first | (with_reducible assumption) | assumption); first | exact h_ | (have e_ := (Kd.S_reads' HO341.out).1; omega) | simpa only [List.length_set, List.length_set] using h_); obtain ⟨oki21, ce21, hcl21, hM21, hcc21, hok21, hbk21⟩ := Kd.S_borrow HO341.out z47 (x17_1 : Int) (of_decide_eq_true (by first | (with_reducible assumption) | assumption)) hq21; obtain ⟨ve21_2, rfl, ge21_2⟩ := k47_openM hM21; have hv21 := hcc21 2 _ rfl; rw [add_field _ _ 2 (by omega)] at hv21; replace hv21 := Option.some.inj (hv21.symm.trans HX342_2.out); subst hv21; (try clear hcc21); (try clear hcl21); replace ge21_2 := (show Kd.R Kd.bool 4 _ _ _ _ ((rd_T47 t339 x17_1).f2) from ge21_2); have HP21 := Kd.R_putg ge21_2 (t338 : Int) true) | ((with_reducible refine gate_store (t := 4) (p := 41) rfl ?_); (try (rw [drewN_self w19]; generalize hq_ : World.drewN w19 _ = w19; have n0_ := Aside0.mk (Kd.S_at hq_ HO341.out); have n1_ := Aside0.mk (Kd.R_at hq_ HL346.out); have n2_ := Aside0.mk (blk_at hq_ BK337.out); have n3_ := Aside0.mk (below_at hq_ HB.out); clear hq_ HO341 HL346 BK337 HB; have HO341 := n0_; have HL346 := n1_; have BK337 := n2_; have HB := n3_; clear n0_ n1_ n2_ n3_; (try (have n_ := Aside0.mk (Kd.S_mono (ok' := (fun k_ => k_ ≠ gb337)) HO341.out (fun k_ hk => hk.2)); clear HO341; have HO341 := n_; clear n_)); (try (have hq21 : (x17_1 : Int) < (t339.length : Int) := (by have h_ : (x17_1 : Int) < ((t339.length : Int) : Int) := of_decide_eq_true (by first | (with_reducible assumption) | assumption); first | exact h_ | (have e_ := (Kd.S_reads' HO341.out).1; omega) | simpa only [List.length_set, List.length_set] using h_))); (try (obtain ⟨oki21, ce21, hcl21, hM21, hcc21, hok21, hbk21⟩ := Kd.S_borrow HO341.out z47 (x17_1 : Int) (of_decide_eq_true (by first | (with_reducible assumption) | assumption)) hq21)); (try (obtain ⟨ve21_2, rfl, ge21_2⟩ := k47_openM hM21)); (try (have hv21 := hcc21 2 _ rfl)); (try (rw [add_field _ _ 2 (by omega)] at hv21)); (try (replace hv21 := Option.some.inj (hv21.symm.trans HX342_2.out))); (try (subst hv21)); (try ((try clear hcc21); (try clear hcl21))); (try (replace ge21_2 := (show Kd.R Kd.bool 4 _ _ _ _ ((rd_T47 t339 x17_1).f2) from ge21_2))); (try (have HP21 := Kd.R_putg ge21_2 (t338 : Int) true)))); refine store_event (t := 4) (p := 41) (v := ?vo_w22) (w1 := (w19.setCell ⟨go16, (t338 : Int).toNat, none⟩ (.bool true))) ?hg ?ho ?hn ?hr ?_; (case ho => rfl); (case hg => rfl); (case hn => rfl); (case hr => first | (go_simp; done) | (go_simp; rfl) | (obtain ⟨A_, c_, e_⟩ := Kd.R_slice HO341.out; rw [e_]; first | (go_simp; done) | (go_simp; rfl)) | (obtain ⟨A_, c_, e_⟩ := Kd.S_slice HO341.out; rw [e_]; first | (go_simp; done) | (go_simp; rfl))); intro w22 hw; have hg : w19.grownBy w22 (some go16) := (by rw [hw]; exact HP21.2); have hz_ : Kd.R Kd.bool 4 w22 w.heap.size oki21 (.slice (some ⟨go16, 0, none⟩) ((rd_T47 t339 x17_1).f2).length c342_2) y343 := (by rw [hw, Ny343.out]; exact HP21.1); have hp_ : Kd.S k47 47 w22 w.heap.size (fun k_ => k_ ≠ gb337) (.slice (some ad342) t339.length co20) y345 := (by rw [Ny345.out]; exact hbk21 hg (fun k_ e_ => by injection e_ with e_; subst e_; exact ge21_2.1 _ rfl) (k47_mkM _ _ _ (⟨(rd_T47 t339 x17_1).f0, (rd_T47 t339 x17_1).f1, y343⟩ : S47) hz_)); have hm_ := Kd.R_mono hz_ hok21; clear HP21 hbk21; have n0_ := Aside0.mk (blk_grown (g := gb337) (o := .cells #[.int .i64 ((rd_T47 l0 x17_1).f0), .int .i64 ((rd_T47 l0 x17_1).f1), .slice A336_2 ((rd_T47 l0 x17_1).f2).length c336_2] 47 (0, 0)) (by (with_reducible repeat (first | refine blk_drewN ?_ _ | refine blk_drew ?_ | refine blk_alloc ?_ _)); exact BK337.out) hg (Kd.R_ne HL342_2.out BK337.out (by decide))); have n1_ := Aside0.mk (hp_); have n2_ := Aside0.mk ((by rw [hw]; exact below_set (HB.out) GB16.out : Below w.heap.size w w22)); have n3_ := Aside0.mk (hm_); have n4_ := Aside0.mk ((Kd.R_reads' hm_).2.1); clear BK337; clear HO341; clear HB; clear HL342_2; have BK337 := n0_; have HO341 := n1_; have HB := n2_; have HL346 := n3_; have HC344 := n4_; clear n0_ n1_ n2_ n3_ n4_; clear hg hw hp_ hz_ hm_ hok21; have hcz23_0 : w22.cell? ⟨gb337, 0, none⟩ = some (.int .i64 ((rd_T47 l0 x17_1).f0)) := (blk_cell BK337.out 0).trans rfl; have hcz23_1 : w22.cell? ⟨gb337, 1, none⟩ = some (.int .i64 ((rd_T47 l0 x17_1).f1)) := (blk_cell BK337.out 1).trans rfl; have hcz23_2 : w22.cell? ⟨gb337, 2, none⟩ = some (.slice A336_2 ((rd_T47 l0 x17_1).f2).length c336_2) := (blk_cell BK337.out 2).trans rfl; have hfz23_0 := blk_frozen BK337.out 0; have hfz23_1 := blk_frozen BK337.out 1; have hfz23_2 := blk_frozen BK337.out 2)))
                        refine bodyPost_ret (results_list (rs := [.tmp 4, .tmp 5, .tmp 6, .tmp 7]) rfl (by simp) (.tmp (.tmp (.tmp (.tmp .nil))))) rfl ?_
                        exact ⟨_, by first | rfl | (simp [errW_none, errW_some] <;> rfl) | (simp [*, errW_none, errW_some] <;> rfl), by (with_reducible repeat (first | apply Kd.S_alloc | apply Kd.S_drewN | apply Kd.S_drew)); exact Kd.S_mono HO341.out (fun _ hk => trivial), by repeat (first | (with_reducible first | exact HB.out | apply below_alloc | apply pw_below_drewN | apply below_drew1 | refine below_set ?_ GE337.out) | exact HB.out)⟩
                      · rw [if_neg c15] at H
                        exact absurd H (by simp)
                    · rw [if_neg c14] at H
                      exact absurd H (by simp)
                  · rw [if_neg c13] at H
                    exact absurd H (by simp)
                · rw [if_neg c11] at H
                  have c11b0 : decide (0 ≤ t338) = false := decide_eq_false c11
                  clear c11
                  have H' := Aside0.mk H
                  clear H
                  have p336 : 0 ≤ (x17_1 : Int) := of_decide_eq_true (by first | (with_reducible assumption) | assumption)
                  have q336 : x17_1 < (l0.length : Int) := of_decide_eq_true (by first | (with_reducible assumption) | assumption)
                  obtain ⟨ad336, A336_2, c336_2, e336, hx336_0, hx336_1, hx336_2, hl336_2, hi336_2⟩ := at_T47 HR0.out x17_1 p336 q336
                  cases e336
                  replace hx336_0 := (HB.out.cell (World.block_lt_of_cell? w _ hx336_0)).trans hx336_0
                  replace hx336_1 := (HB.out.cell (World.block_lt_of_cell? w _ hx336_1)).trans hx336_1
                  replace hx336_2 := (HB.out.cell (World.block_lt_of_cell? w _ hx336_2)).trans hx336_2
                  have HR336_2 := Aside0.mk hi336_2
                  have HC336_2 := Aside0.mk hl336_2
                  clear hi336_2 hl336_2
                  replace p336 := eq_true p336
                  replace q336 := eq_true q336
                  go_wp2_with (first | ((with_reducible refine gate_dst (N := 9) rfl ?_); refine box_event ?hg (N := 9) ?hd (cs := #[.int .i64 0, .int .i64 0, .slice none 0 0]) (t := 47) ?hr ?_; (case hd => rfl); (case hg => rfl); (case hr => first | (go_simp; done) | (go_simp; rfl)); intro gb337 hg w24 hbox hb; have n0_ := Aside0.mk (below_step (by repeat (first | (with_reducible first | exact HB.out | apply below_alloc | apply pw_below_drewN | apply below_drew1) | exact HB.out)) hb); have n1_ := Aside0.mk (hbox); have n2_ := Aside0.mk ((by rw [hg]; exact (below_size (by repeat (first | (with_reducible first | exact HB.out | apply below_alloc | apply pw_below_drewN | apply below_drew1) | exact HB.out))) : w.heap.size ≤ gb337)); have n3_ := Aside0.mk ((by rw [hg]; exact (below_size (by repeat (first | (with_reducible first | exact HB.out | apply below_alloc | apply pw_below_drewN | apply below_drew1) | exact HB.out))) : w.heap.size ≤ gb337)); clear HB; have HB := n0_; have BK337 := n1_; have GW337 := n2_; have GE337 := n3_; clear n0_ n1_ n2_ n3_; clear hb hbox hg; have hcz25_0 : w24.cell? ⟨gb337, 0, none⟩ = some (.int .i64 0) := (blk_cell BK337.out 0).trans rfl; have hcz25_1 : w24.cell? ⟨gb337, 1, none⟩ = some (.int .i64 0) := (blk_cell BK337.out 1).trans rfl; have hcz25_2 : w24.cell? ⟨gb337, 2, none⟩ = some (.slice none 0 0) := (blk_cell BK337.out 2).trans rfl; have hfz25_0 := blk_frozen BK337.out 0; have hfz25_1 := blk_frozen BK337.out 1; have hfz25_2 := blk_frozen BK337.out 2) | (go_at_call 39; (with_reducible refine (slices_Index_bool_bool.calls k1 _ _ ((rd_T47 l0 x17_1).f2) false t338 _ ?side1 ?side2 A9.out).mono ?_); (case side1 => exact Kd.C_below HR336_2.out (by repeat (first | (with_reducible first | exact HB.out | apply below_alloc | apply pw_below_drewN | apply below_drew1 | refine below_set ?_ GE337.out) | exact HB.out))); (case side2 => exact HC336_2.out); rintro e w' ⟨rfl, ⟨nd, rfl⟩⟩; (try first | exact ⟨rfl, _, World.drewN_drewN _ _ _⟩ | exact ⟨rfl, _, Eq.trans (World.drewN_drewN _ _ _) (congrArg (World.drewN _) (Nat.add_assoc _ _ _))⟩)))
                  repeat (go_quiet (first | ((with_reducible refine gate_dst (N := 9) rfl ?_); refine box_event ?hg (N := 9) ?hd (cs := #[.int .i64 0, .int .i64 0, .slice none 0 0]) (t := 47) ?hr ?_; (case hd => rfl); (case hg => rfl); (case hr => first | (go_simp; done) | (go_simp; rfl)); intro gb337 hg w24 hbox hb; have n0_ := Aside0.mk (below_step (by repeat (first | (with_reducible first | exact HB.out | apply below_alloc | apply pw_below_drewN | apply below_drew1) | exact HB.out)) hb); have n1_ := Aside0.mk (hbox); have n2_ := Aside0.mk ((by rw [hg]; exact (below_size (by repeat (first | (with_reducible first | exact HB.out | apply below_alloc | apply pw_below_drewN | apply below_drew1) | exact HB.out))) : w.heap.size ≤ gb337)); have n3_ := Aside0.mk ((by rw [hg]; exact (below_size (by repeat (first | (with_reducible first | exact HB.out | apply below_alloc | apply pw_below_drewN | apply below_drew1) | exact HB.out))) : w.heap.size ≤ gb337)); clear HB; have HB := n0_; have BK337 := n1_; have GW337 := n2_; have GE337 := n3_; clear n0_ n1_ n2_ n3_; clear hb hbox hg; have hcz25_0 : w24.cell? ⟨gb337, 0, none⟩ = some (.int .i64 0) := (blk_cell BK337.out 0).trans rfl; have hcz25_1 : w24.cell? ⟨gb337, 1, none⟩ = some (.int .i64 0) := (blk_cell BK337.out 1).trans rfl; have hcz25_2 : w24.cell? ⟨gb337, 2, none⟩ = some (.slice none 0 0) := (blk_cell BK337.out 2).trans rfl; have hfz25_0 := blk_frozen BK337.out 0; have hfz25_1 := blk_frozen BK337.out 1; have hfz25_2 := blk_frozen BK337.out 2) | (go_at_call 39; (with_reducible refine (slices_Index_bool_bool.calls k1 _ _ ((rd_T47 l0 x17_1).f2) false t338 _ ?side1 ?side2 A9.out).mono ?_); (case side1 => exact Kd.C_below HR336_2.out (by repeat (first | (with_reducible first | exact HB.out | apply below_alloc | apply pw_below_drewN | apply below_drew1 | refine below_set ?_ GE337.out) | exact HB.out))); (case side2 => exact HC336_2.out); rintro e w' ⟨rfl, ⟨nd, rfl⟩⟩; (try first | exact ⟨rfl, _, World.drewN_drewN _ _ _⟩ | exact ⟨rfl, _, Eq.trans (World.drewN_drewN _ _ _) (congrArg (World.drewN _) (Nat.add_assoc _ _ _))⟩))); try go_wp2_with (first | ((with_reducible refine gate_dst (N := 9) rfl ?_); refine box_event ?hg (N := 9) ?hd (cs := #[.int .i64 0, .int .i64 0, .slice none 0 0]) (t := 47) ?hr ?_; (case hd => rfl); (case hg => rfl); (case hr => first | (go_simp; done) | (go_simp; rfl)); intro gb337 hg w24 hbox hb; have n0_ := Aside0.mk (below_step (by repeat (first | (with_reducible first | exact HB.out | apply below_alloc | apply pw_below_drewN | apply below_drew1) | exact HB.out)) hb); have n1_ := Aside0.mk (hbox); have n2_ := Aside0.mk ((by rw [hg]; exact (below_size (by repeat (first | (with_reducible first | exact HB.out | apply below_alloc | apply pw_below_drewN | apply below_drew1) | exact HB.out))) : w.heap.size ≤ gb337)); have n3_ := Aside0.mk ((by rw [hg]; exact (below_size (by repeat (first | (with_reducible first | exact HB.out | apply below_alloc | apply pw_below_drewN | apply below_drew1) | exact HB.out))) : w.heap.size ≤ gb337)); clear HB; have HB := n0_; have BK337 := n1_; have GW337 := n2_; have GE337 := n3_; clear n0_ n1_ n2_ n3_; clear hb hbox hg; have hcz25_0 : w24.cell? ⟨gb337, 0, none⟩ = some (.int .i64 0) := (blk_cell BK337.out 0).trans rfl; have hcz25_1 : w24.cell? ⟨gb337, 1, none⟩ = some (.int .i64 0) := (blk_cell BK337.out 1).trans rfl; have hcz25_2 : w24.cell? ⟨gb337, 2, none⟩ = some (.slice none 0 0) := (blk_cell BK337.out 2).trans rfl; have hfz25_0 := blk_frozen BK337.out 0; have hfz25_1 := blk_frozen BK337.out 1; have hfz25_2 := blk_frozen BK337.out 2) | (go_at_call 39; (with_reducible refine (slices_Index_bool_bool.calls k1 _ _ ((rd_T47 l0 x17_1).f2) false t338 _ ?side1 ?side2 A9.out).mono ?_); (case side1 => exact Kd.C_below HR336_2.out (by repeat (first | (with_reducible first | exact HB.out | apply below_alloc | apply pw_below_drewN | apply below_drew1 | refine below_set ?_ GE337.out) | exact HB.out))); (case side2 => exact HC336_2.out); rintro e w' ⟨rfl, ⟨nd, rfl⟩⟩; (try first | exact ⟨rfl, _, World.drewN_drewN _ _ _⟩ | exact ⟨rfl, _, Eq.trans (World.drewN_drewN _ _ _) (congrArg (World.drewN _) (Nat.add_assoc _ _ _))⟩))))
                  go_roundg k1
                  case measure => have := HK1.out; omega
                  case rel => exact ⟨(wrap64 (x17_1 + 1)), (by first | rfl | (simp; done) | (simp [*]; done)), H', ⟨by have := HK1.out; omega⟩, ⟨by repeat (first | (with_reducible first | exact HB.out | apply below_alloc | apply pw_below_drewN | apply below_drew1 | refine below_set ?_ GE337.out) | exact HB.out)⟩⟩
              · rw [if_neg c10] at H
                have c10b0 : (((rd_T47 l0 x17_1).f1) == a1) = false := beq_eq_false_iff_ne.mpr c10
                have c10b1 : (((rd_T47 l0 x17_1).f1) != a1) = true := bne_iff_ne.mpr c10
                have H' := Aside0.mk H
                clear H
                have p336 : 0 ≤ (x17_1 : Int) := of_decide_eq_true (by first | (with_reducible assumption) | assumption)
                have q336 : x17_1 < (l0.length : Int) := of_decide_eq_true (by first | (with_reducible assumption) | assumption)
                obtain ⟨ad336, A336_2, c336_2, e336, hx336_0, hx336_1, hx336_2, hl336_2, hi336_2⟩ := at_T47 HR0.out x17_1 p336 q336
                cases e336
                replace hx336_0 := (HB.out.cell (World.block_lt_of_cell? w _ hx336_0)).trans hx336_0
                replace hx336_1 := (HB.out.cell (World.block_lt_of_cell? w _ hx336_1)).trans hx336_1
                replace hx336_2 := (HB.out.cell (World.block_lt_of_cell? w _ hx336_2)).trans hx336_2
                have HR336_2 := Aside0.mk hi336_2
                have HC336_2 := Aside0.mk hl336_2
                clear hi336_2 hl336_2
                replace p336 := eq_true p336
                replace q336 := eq_true q336
                go_wp2_with (first | ((with_reducible refine gate_dst (N := 9) rfl ?_); refine box_event ?hg (N := 9) ?hd (cs := #[.int .i64 0, .int .i64 0, .slice none 0 0]) (t := 47) ?hr ?_; (case hd => rfl); (case hg => rfl); (case hr => first | (go_simp; done) | (go_simp; rfl)); intro gb337 hg w26 hbox hb; have n0_ := Aside0.mk (below_step (by repeat (first | (with_reducible first | exact HB.out | apply below_alloc | apply pw_below_drewN | apply below_drew1) | exact HB.out)) hb); have n1_ := Aside0.mk (hbox); have n2_ := Aside0.mk ((by rw [hg]; exact (below_size (by repeat (first | (with_reducible first | exact HB.out | apply below_alloc | apply pw_below_drewN | apply below_drew1) | exact HB.out))) : w.heap.size ≤ gb337)); have n3_ := Aside0.mk ((by rw [hg]; exact (below_size (by repeat (first | (with_reducible first | exact HB.out | apply below_alloc | apply pw_below_drewN | apply below_drew1) | exact HB.out))) : w.heap.size ≤ gb337)); clear HB; have HB := n0_; have BK337 := n1_; have GW337 := n2_; have GE337 := n3_; clear n0_ n1_ n2_ n3_; clear hb hbox hg; have hcz27_0 : w26.cell? ⟨gb337, 0, none⟩ = some (.int .i64 0) := (blk_cell BK337.out 0).trans rfl; have hcz27_1 : w26.cell? ⟨gb337, 1, none⟩ = some (.int .i64 0) := (blk_cell BK337.out 1).trans rfl; have hcz27_2 : w26.cell? ⟨gb337, 2, none⟩ = some (.slice none 0 0) := (blk_cell BK337.out 2).trans rfl; have hfz27_0 := blk_frozen BK337.out 0; have hfz27_1 := blk_frozen BK337.out 1; have hfz27_2 := blk_frozen BK337.out 2) | (go_at_call 39; (with_reducible refine (slices_Index_bool_bool.calls k1 _ _ ((rd_T47 l0 x17_1).f2) false t338 _ ?side1 ?side2 A9.out).mono ?_); (case side1 => exact Kd.C_below HR336_2.out (by repeat (first | (with_reducible first | exact HB.out | apply below_alloc | apply pw_below_drewN | apply below_drew1 | refine below_set ?_ GE337.out) | exact HB.out))); (case side2 => exact HC336_2.out); rintro e w' ⟨rfl, ⟨nd, rfl⟩⟩; (try first | exact ⟨rfl, _, World.drewN_drewN _ _ _⟩ | exact ⟨rfl, _, Eq.trans (World.drewN_drewN _ _ _) (congrArg (World.drewN _) (Nat.add_assoc _ _ _))⟩)))
                repeat (go_quiet (first | ((with_reducible refine gate_dst (N := 9) rfl ?_); refine box_event ?hg (N := 9) ?hd (cs := #[.int .i64 0, .int .i64 0, .slice none 0 0]) (t := 47) ?hr ?_; (case hd => rfl); (case hg => rfl); (case hr => first | (go_simp; done) | (go_simp; rfl)); intro gb337 hg w26 hbox hb; have n0_ := Aside0.mk (below_step (by repeat (first | (with_reducible first | exact HB.out | apply below_alloc | apply pw_below_drewN | apply below_drew1) | exact HB.out)) hb); have n1_ := Aside0.mk (hbox); have n2_ := Aside0.mk ((by rw [hg]; exact (below_size (by repeat (first | (with_reducible first | exact HB.out | apply below_alloc | apply pw_below_drewN | apply below_drew1) | exact HB.out))) : w.heap.size ≤ gb337)); have n3_ := Aside0.mk ((by rw [hg]; exact (below_size (by repeat (first | (with_reducible first | exact HB.out | apply below_alloc | apply pw_below_drewN | apply below_drew1) | exact HB.out))) : w.heap.size ≤ gb337)); clear HB; have HB := n0_; have BK337 := n1_; have GW337 := n2_; have GE337 := n3_; clear n0_ n1_ n2_ n3_; clear hb hbox hg; have hcz27_0 : w26.cell? ⟨gb337, 0, none⟩ = some (.int .i64 0) := (blk_cell BK337.out 0).trans rfl; have hcz27_1 : w26.cell? ⟨gb337, 1, none⟩ = some (.int .i64 0) := (blk_cell BK337.out 1).trans rfl; have hcz27_2 : w26.cell? ⟨gb337, 2, none⟩ = some (.slice none 0 0) := (blk_cell BK337.out 2).trans rfl; have hfz27_0 := blk_frozen BK337.out 0; have hfz27_1 := blk_frozen BK337.out 1; have hfz27_2 := blk_frozen BK337.out 2) | (go_at_call 39; (with_reducible refine (slices_Index_bool_bool.calls k1 _ _ ((rd_T47 l0 x17_1).f2) false t338 _ ?side1 ?side2 A9.out).mono ?_); (case side1 => exact Kd.C_below HR336_2.out (by repeat (first | (with_reducible first | exact HB.out | apply below_alloc | apply pw_below_drewN | apply below_drew1 | refine below_set ?_ GE337.out) | exact HB.out))); (case side2 => exact HC336_2.out); rintro e w' ⟨rfl, ⟨nd, rfl⟩⟩; (try first | exact ⟨rfl, _, World.drewN_drewN _ _ _⟩ | exact ⟨rfl, _, Eq.trans (World.drewN_drewN _ _ _) (congrArg (World.drewN _) (Nat.add_assoc _ _ _))⟩))); try go_wp2_with (first | ((with_reducible refine gate_dst (N := 9) rfl ?_); refine box_event ?hg (N := 9) ?hd (cs := #[.int .i64 0, .int .i64 0, .slice none 0 0]) (t := 47) ?hr ?_; (case hd => rfl); (case hg => rfl); (case hr => first | (go_simp; done) | (go_simp; rfl)); intro gb337 hg w26 hbox hb; have n0_ := Aside0.mk (below_step (by repeat (first | (with_reducible first | exact HB.out | apply below_alloc | apply pw_below_drewN | apply below_drew1) | exact HB.out)) hb); have n1_ := Aside0.mk (hbox); have n2_ := Aside0.mk ((by rw [hg]; exact (below_size (by repeat (first | (with_reducible first | exact HB.out | apply below_alloc | apply pw_below_drewN | apply below_drew1) | exact HB.out))) : w.heap.size ≤ gb337)); have n3_ := Aside0.mk ((by rw [hg]; exact (below_size (by repeat (first | (with_reducible first | exact HB.out | apply below_alloc | apply pw_below_drewN | apply below_drew1) | exact HB.out))) : w.heap.size ≤ gb337)); clear HB; have HB := n0_; have BK337 := n1_; have GW337 := n2_; have GE337 := n3_; clear n0_ n1_ n2_ n3_; clear hb hbox hg; have hcz27_0 : w26.cell? ⟨gb337, 0, none⟩ = some (.int .i64 0) := (blk_cell BK337.out 0).trans rfl; have hcz27_1 : w26.cell? ⟨gb337, 1, none⟩ = some (.int .i64 0) := (blk_cell BK337.out 1).trans rfl; have hcz27_2 : w26.cell? ⟨gb337, 2, none⟩ = some (.slice none 0 0) := (blk_cell BK337.out 2).trans rfl; have hfz27_0 := blk_frozen BK337.out 0; have hfz27_1 := blk_frozen BK337.out 1; have hfz27_2 := blk_frozen BK337.out 2) | (go_at_call 39; (with_reducible refine (slices_Index_bool_bool.calls k1 _ _ ((rd_T47 l0 x17_1).f2) false t338 _ ?side1 ?side2 A9.out).mono ?_); (case side1 => exact Kd.C_below HR336_2.out (by repeat (first | (with_reducible first | exact HB.out | apply below_alloc | apply pw_below_drewN | apply below_drew1 | refine below_set ?_ GE337.out) | exact HB.out))); (case side2 => exact HC336_2.out); rintro e w' ⟨rfl, ⟨nd, rfl⟩⟩; (try first | exact ⟨rfl, _, World.drewN_drewN _ _ _⟩ | exact ⟨rfl, _, Eq.trans (World.drewN_drewN _ _ _) (congrArg (World.drewN _) (Nat.add_assoc _ _ _))⟩))))
                go_roundg k1
                case measure => have := HK1.out; omega
                case rel => exact ⟨(wrap64 (x17_1 + 1)), (by first | rfl | (simp; done) | (simp [*]; done)), H', ⟨by have := HK1.out; omega⟩, ⟨by repeat (first | (with_reducible first | exact HB.out | apply below_alloc | apply pw_below_drewN | apply below_drew1 | refine below_set ?_ GE337.out) | exact HB.out)⟩⟩
            · rw [if_neg c8] at H
              exact absurd H (by simp)
          · rw [if_neg c7] at H
            exact absurd H (by simp)
        · rw [if_neg c6] at H
          have c6b0 : decide (x17_1 < (l0.length : Int)) = false := decide_eq_false c6
          clear c6
          simp only [Option.some.injEq, Prod.mk.injEq] at H
          obtain ⟨rfl, rfl, rfl, rfl⟩ := H
          go_wp2
          repeat (go_quiet (fail); try go_wp2)
          refine bodyPost_ret (results_list (rs := [.tmp 4, .tmp 5, .tmp 6, .tmp 7]) rfl (by simp) (.tmp (.tmp (.tmp (.tmp .nil))))) rfl ?_
          exact ⟨_, by first | rfl | (simp [errW_none, errW_some] <;> rfl) | (simp [*, errW_none, errW_some] <;> rfl), by first | exact Kd.S_nil _ _ _ _ _ | exact Kd.N_nil _ _ _ _ _ | exact Kd.V_nil _ _ _ _ _ | exact Kd.Q_nil _ _ _ _ _ | exact Kd.R_nil _ _ _ _ _, by repeat (first | (with_reducible first | exact HB.out | apply below_alloc | apply pw_below_drewN | apply below_drew1) | exact HB.out)⟩
  · replace c4 := Bool.eq_false_iff.mpr c4
    subst c4
    have H1 : (some (([] : List (S47)), 0, 0, false)) = some (r1, r2, r3, r4) := by rw [if_neg (show ¬ (false = true) by decide)] at H; exact H
    clear H
    have H := H1
    clear H1
    simp only [Option.some.injEq, Prod.mk.injEq] at H
    obtain ⟨rfl, rfl, rfl, rfl⟩ := H
    go_enter Try.func17, Try.ntmps17
    go_wp2_with (first | (go_at_call 19; (with_reducible refine (impl_SlabsOk.calls k _ _ l0 false _ ?side1 ?side2 A3.out).mono ?_); (case side1 => repeat (first | exact HR0.out | (with_reducible refine Kd.C_alloc ?_ _) | (with_reducible refine Kd.C_drewN ?_ _) | (with_reducible refine Kd.C_drew ?_))); (case side2 => exact HC0.out); rintro e w28 ⟨rfl, hb⟩; have n0_ := Aside0.mk (below_step (by repeat (first | (with_reducible first | exact HB.out | apply below_alloc | apply pw_below_drewN | apply below_drew1) | exact HB.out)) hb); clear HB; have HB := n0_; clear n0_; (try clear hb); (try clear hb2); (try clear hk); (try clear hi)))
    repeat (go_quiet (first | (go_at_call 19; (with_reducible refine (impl_SlabsOk.calls k _ _ l0 false _ ?side1 ?side2 A3.out).mono ?_); (case side1 => repeat (first | exact HR0.out | (with_reducible refine Kd.C_alloc ?_ _) | (with_reducible refine Kd.C_drewN ?_ _) | (with_reducible refine Kd.C_drew ?_))); (case side2 => exact HC0.out); rintro e w28 ⟨rfl, hb⟩; have n0_ := Aside0.mk (below_step (by repeat (first | (with_reducible first | exact HB.out | apply below_alloc | apply pw_below_drewN | apply below_drew1) | exact HB.out)) hb); clear HB; have HB := n0_; clear n0_; (try clear hb); (try clear hb2); (try clear hk); (try clear hi))); try go_wp2_with (first | (go_at_call 19; (with_reducible refine (impl_SlabsOk.calls k _ _ l0 false _ ?side1 ?side2 A3.out).mono ?_); (case side1 => repeat (first | exact HR0.out | (with_reducible refine Kd.C_alloc ?_ _) | (with_reducible refine Kd.C_drewN ?_ _) | (with_reducible refine Kd.C_drew ?_))); (case side2 => exact HC0.out); rintro e w28 ⟨rfl, hb⟩; have n0_ := Aside0.mk (below_step (by repeat (first | (with_reducible first | exact HB.out | apply below_alloc | apply pw_below_drewN | apply below_drew1) | exact HB.out)) hb); clear HB; have HB := n0_; clear n0_; (try clear hb); (try clear hb2); (try clear hk); (try clear hi))))
    refine bodyPost_ret (results_list (rs := [.tmp 4, .tmp 5, .tmp 6, .tmp 7]) rfl (by simp) (.tmp (.tmp (.tmp (.tmp .nil))))) rfl ?_
    exact ⟨_, by first | rfl | (simp [errW_none, errW_some] <;> rfl) | (simp [*, errW_none, errW_some] <;> rfl), by first | exact Kd.S_nil _ _ _ _ _ | exact Kd.N_nil _ _ _ _ _ | exact Kd.V_nil _ _ _ _ _ | exact Kd.Q_nil _ _ _ _ _ | exact Kd.R_nil _ _ _ _ _, by repeat (first | (with_reducible first | exact HB.out | apply below_alloc | apply pw_below_drewN | apply below_drew1) | exact HB.out)⟩

end Go.Proofs.Ytpkdfdkicblheaa.P
end
section
namespace Go.Proofs.Ytpkdfdkicblheaa.P
open Go.RowKit Go.Proofs.YtpkdfdkicblheaaW.PrintWords Go.Proofs.YtpkdfdkicblheaaW.PrintLast Go.Proofs.YtpkdfdkicblheaaW.PrintMore
attribute [local go_sem] max2_int min2_int max_two min_two max_three min_three max_four min_four   -- for this text's walks alone
set_option linter.unusedVariables false
set_option linter.unusedSimpArgs false

/-! ### laws_within: function 18 -/
def laws_within.l0 : Nat → List Int → Int → Int → Option (Bool)
  | 0, _, _, _ => none
  | k + 1, x0, x1, x5 => if x5 < (x0.length : Int) then (if 0 ≤ x5 then (if (rd x0 x5) = x1 then (some true) else (laws_within.l0 k x0 x1 (wrap64 (x5 + 1)))) else (none)) else (some false)
def laws_within.f (k : Nat) (l0 : List Int) (a1 : Int) : Option (Bool) := laws_within.l0 k l0 a1 0
theorem laws_within.mono_l : ∀ k, (∀ y0 y1 y2, LeO (laws_within.l0 k y0 y1 y2) (laws_within.l0 (k + 1) y0 y1 y2))
  | 0 => fun _ _ _ r h => by simp [laws_within.l0] at h
  | k + 1 => by
    have ih0 := laws_within.mono_l k
    · intro y0 y1 y2
      unfold laws_within.l0
      repeat' first
      | (with_reducible exact ih0 _ _ _)
      | (with_reducible exact LeO.refl _)
      | (with_reducible exact LeO.none _)
      | (with_reducible refine LeO.ite ?_ ?_)
      | (with_reducible refine LeO.bind ?_ (fun _ => ?_))
      | exact ih0 _ _ _
      | exact LeO.none _
      | refine LeO.ite ?_ ?_
      | refine LeO.bind ?_ (fun _ => ?_)
theorem laws_within.mono : ∀ a0 a1 k, LeO (laws_within.f k a0 a1) (laws_within.f (k + 1) a0 a1) := by
  intro a0 a1 k
  have ih0 := laws_within.mono_l k
  unfold laws_within.f
  repeat' first
      | (with_reducible exact ih0 _ _ _)
      | (with_reducible exact LeO.refl _)
      | (with_reducible exact LeO.none _)
      | (with_reducible refine LeO.ite ?_ ?_)
      | (with_reducible refine LeO.bind ?_ (fun _ => ?_))
      | exact ih0 _ _ _
      | exact LeO.none _
      | refine LeO.ite ?_ ?_
      | refine LeO.bind ?_ (fun _ => ?_)
set_option maxHeartbeats 8000000 in
set_option maxRecDepth 100000 in
theorem laws_within.calls (k : Nat) (A0 : Option Addr) (c0 : Nat) (l0 : List Int) (a1 : Int) (r : Bool) (w : World) (hr0 : Kd.C (Kd.int .i64) w A0 l0.length l0) (hc0 : l0.length ≤ c0) (h : laws_within.f k l0 a1 = some r) :
    Calls Try.prog 18 #[.slice A0 l0.length c0, .int .i64 a1] w fun e w' => e = .returned (.bool r) ∧ Drawn0 w w' := by
  have HR0 := Aside0.mk hr0
  have HC0 := Aside0.mk hc0
  clear hr0 hc0
  have H : (laws_within.l0 k l0 a1 0) = some r := h
  clear h
  have H' := Aside0.mk H
  clear H
  go_enter Try.func18, Try.ntmps18
  go_wp2
  go_loopg [5] k (fun kq v5 w' => ∃ (x5_1 : Int), v5 = .int .i64 x5_1 ∧ Aside0 (laws_within.l0 kq l0 a1 x5_1 = some r) ∧ Aside0 (kq ≤ k) ∧ Drawn0 w w')
  case atStart => exact ⟨(0), (by first | rfl | (simp; done) | (simp [*]; done)), H', ⟨Nat.le_refl _⟩, by repeat (first | exact Drawn0.refl _ | apply Drawn0.step)⟩
  case round =>
    clear H'
    try clear c1
    try clear p2
    obtain ⟨x5_1, rfl, HA, HK1, ⟨m1, rfl⟩⟩ := hrel
    cases gk with
    | zero => exact absurd HA.out (by simp [laws_within.l0])
    | succ k1 =>
      have H := HA.out
      clear HA
      simp only [laws_within.l0] at H
      by_cases c3 : x5_1 < (l0.length : Int)
      · rw [if_pos c3] at H
        have c3b0 : decide (x5_1 < (l0.length : Int)) = true := decide_eq_true c3
        clear c3
        by_cases c4 : 0 ≤ x5_1
        · rw [if_pos c4] at H
          have c4b0 : decide (0 ≤ x5_1) = true := decide_eq_true c4
          clear c4
          by_cases c5 : (rd l0 x5_1) = a1
          · rw [if_pos c5] at H
            have c5b0 : ((rd l0 x5_1) == a1) = true := beq_iff_eq.mpr c5
            have c5b1 : ((rd l0 x5_1) != a1) = false := bne_eq_false_iff_eq.mpr c5
            clear c5
            obtain rfl := Option.some.inj H
            have p347 : 0 ≤ (x5_1 : Int) := of_decide_eq_true (by first | (with_reducible assumption) | assumption)
            have q347 : x5_1 < (l0.length : Int) := of_decide_eq_true (by first | (with_reducible assumption) | assumption)
            obtain ⟨ad347, e347, hx347_0⟩ := Kd.at_int HR0.out x5_1 p347 q347
            cases e347
            replace p347 := eq_true p347
            replace q347 := eq_true q347
            go_wp2
            go_ret
            exact ⟨by first | rfl | (simp; done) | (simp [*]; done), by repeat (first | exact Drawn0.refl _ | apply Drawn0.step)⟩
          · rw [if_neg c5] at H
            have c5b0 : ((rd l0 x5_1) == a1) = false := beq_eq_false_iff_ne.mpr c5
            have c5b1 : ((rd l0 x5_1) != a1) = true := bne_iff_ne.mpr c5
            have H' := Aside0.mk H
            clear H
            have p347 : 0 ≤ (x5_1 : Int) := of_decide_eq_true (by first | (with_reducible assumption) | assumption)
            have q347 : x5_1 < (l0.length : Int) := of_decide_eq_true (by first | (with_reducible assumption) | assumption)
            obtain ⟨ad347, e347, hx347_0⟩ := Kd.at_int HR0.out x5_1 p347 q347
            cases e347
            replace p347 := eq_true p347
            replace q347 := eq_true q347
            go_wp2
            go_roundg k1
            case measure => have := HK1.out; omega
            case rel => exact ⟨(wrap64 (x5_1 + 1)), (by first | rfl | (simp; done) | (simp [*]; done)), H', ⟨by have := HK1.out; omega⟩, by repeat (first | exact Drawn0.refl _ | apply Drawn0.step)⟩
        · rw [if_neg c4] at H
          exact absurd H (by simp)
      · rw [if_neg c3] at H
        have c3b0 : decide (x5_1 < (l0.length : Int)) = false := decide_eq_false c3
        clear c3
        obtain rfl := Option.some.inj H
        go_wp2
        go_ret
        exact ⟨by first | rfl | (simp; done) | (simp [*]; done), by repeat (first | exact Drawn0.refl _ | apply Drawn0.step)⟩

end Go.Proofs.Ytpkdfdkicblheaa.P
end
section
namespace Go.Proofs.Ytpkdfdkicblheaa.P
open Go.RowKit Go.Proofs.YtpkdfdkicblheaaW.PrintWords Go.Proofs.YtpkdfdkicblheaaW.PrintLast Go.Proofs.YtpkdfdkicblheaaW.PrintMore
attribute [local go_sem] max2_int min2_int max_two min_two max_three min_three max_four min_four   -- for this text's walks alone
set_option linter.unusedVariables false
set_option linter.unusedSimpArgs false

/-! ### laws_FnParts: function 4 -/
mutual
def laws_FnParts.j0 : Nat → List (S47) → Int → Bool → Option (Bool)
  | 0, _, _, _ => none
  | k + 1, x3, x4, x42 => if x42 = true then (laws_FnParts.j1 k (([] : List (S47))) 2) else (laws_FnParts.j1 k x3 x4)
def laws_FnParts.j1 : Nat → List (S47) → Int → Option (Bool)
  | 0, _, _ => none
  | k + 1, x3, x4 => (impl_AddSlab.f k x3 20 x4).bind fun bt357 => (if bt357.2 = true then (laws_FnParts.l0 k x4 (([] : List Int)) bt357.1 0) else (some (decide ((bt357.1.length : Int) > 0))))
def laws_FnParts.j3 : Nat → Int → List Int → List (S47) → Option (Bool)
  | 0, _, _, _ => none
  | k + 1, x4, x6, x7 => if x4 = 0 then (none) else (if (x6.length : Int) < (wrap64 ((wrap64 ((4 : Int) / x4)) - 1)) then (some false) else (laws_FnParts.l1 k x4 x7 0))
def laws_FnParts.l1 : Nat → Int → List (S47) → Int → Option (Bool)
  | 0, _, _, _ => none
  | k + 1, x4, x7, x14 => if x4 = 0 then (none) else (if x14 < (wrap64 ((4 : Int) / x4)) then ((impl_GivePart.f k x7 20 x14).bind fun bt375 => ((impl_GivePart.f k bt375.1 20 x14).bind fun bt380 => (if bt375.2.2 = true then (if bt380.2.2 = true then (some false) else (if (bt375.2.1 != (x14 == (wrap64 ((wrap64 ((4 : Int) / x4)) - 1)))) = true then (some false) else (laws_FnParts.l1 k x4 bt375.1 (wrap64 (x14 + 1))))) else (some false)))) else (some true))
def laws_FnParts.l0 : Nat → Int → List Int → List (S47) → Int → Option (Bool)
  | 0, _, _, _, _ => none
  | k + 1, x4, x6, x7, x8 => if x8 < 200 then ((impl_TakePart.f k x7 x4).bind fun bt364 => (if bt364.2.2.2 = true then ((laws_within.f k x6 (wrap64 ((wrap64 (10 * bt364.2.1)) + bt364.2.2.1))).bind fun t370 => (if t370 = true then (some false) else ((impl_SlabsOk.f k bt364.1).bind fun t371 => (if t371 = true then (if x6.length < 17592186044416 then (laws_FnParts.l0 k x4 (x6 ++ [wrap64 ((wrap64 (10 * bt364.2.1)) + bt364.2.2.1)]) bt364.1 (wrap64 (x8 + 1))) else (none)) else (some false))))) else (laws_FnParts.j3 k x4 x6 x7))) else (laws_FnParts.j3 k x4 x6 x7)
end
def laws_FnParts.f (k : Nat) (l0 : List Int) : Option (Bool) := (laws_big.f l0).bind fun t348 => (if t348 = true then (some true) else ((spec_DrawTakePart.f k l0).bind fun bt349 => ((spec_SlabsOk.f k bt349.1).bind fun t353 => (if t353 = true then (if bt349.2 = 1 then (laws_FnParts.j0 k bt349.1 bt349.2 false) else (if bt349.2 = 2 then (laws_FnParts.j0 k bt349.1 bt349.2 false) else (laws_FnParts.j0 k bt349.1 bt349.2 (bt349.2 != 4)))) else (laws_FnParts.j0 k bt349.1 bt349.2 true)))))
theorem laws_FnParts.mono_l : ∀ k, (∀ y0 y1 y2, LeO (laws_FnParts.j0 k y0 y1 y2) (laws_FnParts.j0 (k + 1) y0 y1 y2)) ∧ (∀ y0 y1, LeO (laws_FnParts.j1 k y0 y1) (laws_FnParts.j1 (k + 1) y0 y1)) ∧ (∀ y0 y1 y2, LeO (laws_FnParts.j3 k y0 y1 y2) (laws_FnParts.j3 (k + 1) y0 y1 y2)) ∧ (∀ y0 y1 y2, LeO (laws_FnParts.l1 k y0 y1 y2) (laws_FnParts.l1 (k + 1) y0 y1 y2)) ∧ (∀ y0 y1 y2 y3, LeO (laws_FnParts.l0 k y0 y1 y2 y3) (laws_FnParts.l0 (k + 1) y0 y1 y2 y3))
  | 0 => ⟨fun _ _ _ r h => by simp [laws_FnParts.j0] at h, fun _ _ r h => by simp [laws_FnParts.j1] at h, fun _ _ _ r h => by simp [laws_FnParts.j3] at h, fun _ _ _ r h => by simp [laws_FnParts.l1] at h, fun _ _ _ _ r h => by simp [laws_FnParts.l0] at h⟩
  | k + 1 => by
    obtain ⟨ih0, ih1, ih2, ih3, ih4⟩ := laws_FnParts.mono_l k
    refine ⟨?_, ?_, ?_, ?_, ?_⟩
    · intro y0 y1 y2
      unfold laws_FnParts.j0
      repeat' first
      | (with_reducible exact ih0 _ _ _)
      | (with_reducible exact ih1 _ _)
      | (with_reducible exact ih2 _ _ _)
      | (with_reducible exact ih3 _ _ _)
      | (with_reducible exact ih4 _ _ _ _)
      | (with_reducible exact impl_AddSlab.mono _ _ _ _)
      | (with_reducible exact impl_GivePart.mono _ _ _ _)
      | (with_reducible exact impl_SlabsOk.mono _ _)
      | (with_reducible exact impl_TakePart.mono _ _ _)
      | (with_reducible exact laws_within.mono _ _ _)
      | (with_reducible exact spec_DrawTakePart.mono _ _)
      | (with_reducible exact spec_SlabsOk.mono _ _)
      | (with_reducible exact LeO.refl _)
      | (with_reducible exact LeO.none _)
      | (with_reducible refine LeO.ite ?_ ?_)
      | (with_reducible refine LeO.bind ?_ (fun _ => ?_))
      | exact ih0 _ _ _
      | exact ih1 _ _
      | exact ih2 _ _ _
      | exact ih3 _ _ _
      | exact ih4 _ _ _ _
      | exact impl_AddSlab.mono _ _ _ _
      | exact impl_GivePart.mono _ _ _ _
      | exact impl_SlabsOk.mono _ _
      | exact impl_TakePart.mono _ _ _
      | exact laws_within.mono _ _ _
      | exact spec_DrawTakePart.mono _ _
      | exact spec_SlabsOk.mono _ _
      | exact LeO.none _
      | refine LeO.ite ?_ ?_
      | refine LeO.bind ?_ (fun _ => ?_)
    · intro y0 y1
      unfold laws_FnParts.j1
      repeat' first
      | (with_reducible exact ih0 _ _ _)
      | (with_reducible exact ih1 _ _)
      | (with_reducible exact ih2 _ _ _)
      | (with_reducible exact ih3 _ _ _)
      | (with_reducible exact ih4 _ _ _ _)
      | (with_reducible exact impl_AddSlab.mono _ _ _ _)
      | (with_reducible exact impl_GivePart.mono _ _ _ _)
      | (with_reducible exact impl_SlabsOk.mono _ _)
      | (with_reducible exact impl_TakePart.mono _ _ _)
      | (with_reducible exact laws_within.mono _ _ _)
      | (with_reducible exact spec_DrawTakePart.mono _ _)
      | (with_reducible exact spec_SlabsOk.mono _ _)
      | (with_reducible exact LeO.refl _)
      | (with_reducible exact LeO.none _)
      | (with_reducible refine LeO.ite ?_ ?_)
      | (with_reducible refine LeO.bind ?_ (fun _ => ?_))
      | exact ih0 _ _ _
      | exact ih1 _ _
      | exact ih2 _ _ _
      | exact ih3 _ _ _
      | exact ih4 _ _ _ _
      | exact impl_AddSlab.mono _ _ _ _
      | exact impl_GivePart.mono _ _ _ _
      | exact impl_SlabsOk.mono _ _
      | exact impl_TakePart.mono _ _ _
      | exact laws_within.mono _ _ _
      | exact spec_DrawTakePart.mono _ _
      | exact spec_SlabsOk.mono _ _
      | exact LeO.none _
      | refine LeO.ite ?_ ?_
      | refine LeO.bind ?_ (fun _ => ?_)
    · intro y0 y1 y2
      unfold laws_FnParts.j3
      repeat' first
      | (with_reducible exact ih0 _ _ _)
      | (with_reducible exact ih1 _ _)
      | (with_reducible exact ih2 _ _ _)
      | (with_reducible exact ih3 _ _ _)
      | (with_reducible exact ih4 _ _ _ _)
      | (with_reducible exact impl_AddSlab.mono _ _ _ _)
      | (with_reducible exact impl_GivePart.mono _ _ _ _)
      | (with_reducible exact impl_SlabsOk.mono _ _)
      | (with_reducible exact impl_TakePart.mono _ _ _)
      | (with_reducible exact laws_within.mono _ _ _)
      | (with_reducible exact spec_DrawTakePart.mono _ _)
      | (with_reducible exact spec_SlabsOk.mono _ _)
      | (with_reducible exact LeO.refl _)
      | (with_reducible exact LeO.none _)
      | (with_reducible refine LeO.ite ?_ ?_)
      | (with_reducible refine LeO.bind ?_ (fun _ => ?_))
      | exact ih0 _ _ _
      | exact ih1 _ _
      | exact ih2 _ _ _
      | exact ih3 _ _ _
      | exact ih4 _ _ _ _
      | exact impl_AddSlab.mono _ _ _ _
      | exact impl_GivePart.mono _ _ _ _
      | exact impl_SlabsOk.mono _ _
      | exact impl_TakePart.mono _ _ _
      | exact laws_within.mono _ _ _
      | exact spec_DrawTakePart.mono _ _
      | exact spec_SlabsOk.mono _ _
      | exact LeO.none _
      | refine LeO.ite ?_ ?_
      | refine LeO.bind ?_ (fun _ => ?_)
    · intro y0 y1 y2
      unfold laws_FnParts.l1
      repeat' first
      | (with_reducible exact ih0 _ _ _)
      | (with_reducible exact ih1 _ _)
      | (with_reducible exact ih2 _ _ _)
      | (with_reducible exact ih3 _ _ _)
      | (with_reducible exact ih4 _ _ _ _)
      | (with_reducible exact impl_AddSlab.mono _ _ _ _)
      | (with_reducible exact impl_GivePart.mono _ _ _ _)
      | (with_reducible exact impl_SlabsOk.mono _ _)
      | (with_reducible exact impl_TakePart.mono _ _ _)
      | (with_reducible exact laws_within.mono _ _ _)
      | (with_reducible exact spec_DrawTakePart.mono _ _)
      | (with_reducible exact spec_SlabsOk.mono _ _)
      | (with_reducible exact LeO.refl _)
      | (with_reducible exact LeO.none _)
      | (with_reducible refine LeO.ite ?_ ?_)
      | (with_reducible refine LeO.bind ?_ (fun _ => ?_))
      | exact ih0 _ _ _
      | exact ih1 _ _
      | exact ih2 _ _ _
      | exact ih3 _ _ _
      | exact ih4 _ _ _ _
      | exact impl_AddSlab.mono _ _ _ _
      | exact impl_GivePart.mono _ _ _ _
      | exact impl_SlabsOk.mono _ _
      | exact impl_TakePart.mono _ _ _
      | exact laws_within.mono _ _ _
      | exact spec_DrawTakePart.mono _ _
      | exact spec_SlabsOk.mono _ _
      | exact LeO.none _
      | refine LeO.ite ?_ ?_
      | refine LeO.bind ?_ (fun _ => ?_)
    · intro y0 y1 y2 y3
      unfold laws_FnParts.l0
      repeat' first
      | (with_reducible exact ih0 _ _ _)
      | (with_reducible exact ih1 _ _)
      | (with_reducible exact ih2 _ _ _)
      | (with_reducible exact ih3 _ _ _)
      | (with_reducible exact ih4 _ _ _ _)
      | (with_reducible exact impl_AddSlab.mono _ _ _ _)
      | (with_reducible exact impl_GivePart.mono _ _ _ _)
      | (with_reducible exact impl_SlabsOk.mono _ _)
      | (with_reducible exact impl_TakePart.mono _ _ _)
      | (with_reducible exact laws_within.mono _ _ _)
      | (with_reducible exact spec_DrawTakePart.mono _ _)
      | (with_reducible exact spec_SlabsOk.mono _ _)
      | (with_reducible exact LeO.refl _)
      | (with_reducible exact LeO.none _)
      | (with_reducible refine LeO.ite ?_ ?_)
      | (with_reducible refine LeO.bind ?_ (fun _ => ?_))
      | exact ih0 _ _ _
      | exact ih1 _ _
      | exact ih2 _ _ _
      | exact ih3 _ _ _
      | exact ih4 _ _ _ _
      | exact impl_AddSlab.mono _ _ _ _
      | exact impl_GivePart.mono _ _ _ _
      | exact impl_SlabsOk.mono _ _
      | exact impl_TakePart.mono _ _ _
      | exact laws_within.mono _ _ _
      | exact spec_DrawTakePart.mono _ _
      | exact spec_SlabsOk.mono _ _
      | exact LeO.none _
      | refine LeO.ite ?_ ?_
      | refine LeO.bind ?_ (fun _ => ?_)
theorem laws_FnParts.mono : ∀ a0 k, LeO (laws_FnParts.f k a0) (laws_FnParts.f (k + 1) a0) := by
  intro a0 k
  obtain ⟨ih0, ih1, ih2, ih3, ih4⟩ := laws_FnParts.mono_l k
  unfold laws_FnParts.f
  repeat' first
      | (with_reducible exact ih0 _ _ _)
      | (with_reducible exact ih1 _ _)
      | (with_reducible exact ih2 _ _ _)
      | (with_reducible exact ih3 _ _ _)
      | (with_reducible exact ih4 _ _ _ _)
      | (with_reducible exact impl_AddSlab.mono _ _ _ _)
      | (with_reducible exact impl_GivePart.mono _ _ _ _)
      | (with_reducible exact impl_SlabsOk.mono _ _)
      | (with_reducible exact impl_TakePart.mono _ _ _)
      | (with_reducible exact laws_within.mono _ _ _)
      | (with_reducible exact spec_DrawTakePart.mono _ _)
      | (with_reducible exact spec_SlabsOk.mono _ _)
      | (with_reducible exact LeO.refl _)
      | (with_reducible exact LeO.none _)
      | (with_reducible refine LeO.ite ?_ ?_)
      | (with_reducible refine LeO.bind ?_ (fun _ => ?_))
      | exact ih0 _ _ _
      | exact ih1 _ _
      | exact ih2 _ _ _
      | exact ih3 _ _ _
      | exact ih4 _ _ _ _
      | exact impl_AddSlab.mono _ _ _ _
      | exact impl_GivePart.mono _ _ _ _
      | exact impl_SlabsOk.mono _ _
      | exact impl_TakePart.mono _ _ _
      | exact laws_within.mono _ _ _
      | exact spec_DrawTakePart.mono _ _
      | exact spec_SlabsOk.mono _ _
      | exact LeO.none _
      | refine LeO.ite ?_ ?_
      | refine LeO.bind ?_ (fun _ => ?_)
set_option maxHeartbeats 8000000 in
set_option maxRecDepth 100000 in
theorem laws_FnParts.calls (k : Nat) (A0 : Option Addr) (c0 : Nat) (l0 : List Int) (r : Bool) (w : World) (hr0 : Kd.C (Kd.int .u8) w A0 l0.length l0) (hc0 : l0.length ≤ c0) (h : laws_FnParts.f k l0 = some r) :
    Calls Try.prog 4 #[.slice A0 l0.length c0] w fun e w' => e = .returned (.bool r) ∧ Below w.heap.size w w' := by
  have HR0 := Aside0.mk hr0
  have HC0 := Aside0.mk hc0
  clear hr0 hc0
  have HB := Aside0.mk (Below.refl w.heap.size w)
  have H : ((laws_big.f l0).bind fun t348 => (if t348 = true then (some true) else ((spec_DrawTakePart.f k l0).bind fun bt349 => ((spec_SlabsOk.f k bt349.1).bind fun t353 => (if t353 = true then (if bt349.2 = 1 then (laws_FnParts.j0 k bt349.1 bt349.2 false) else (if bt349.2 = 2 then (laws_FnParts.j0 k bt349.1 bt349.2 false) else (laws_FnParts.j0 k bt349.1 bt349.2 (bt349.2 != 4)))) else (laws_FnParts.j0 k bt349.1 bt349.2 true)))))) = some r := h
  clear h
  replace H := Option.bind_eq_some_iff.mp H
  obtain ⟨t348, A20, H⟩ := H
  replace H : (if t348 = true then (some true) else ((spec_DrawTakePart.f k l0).bind fun bt349 => ((spec_SlabsOk.f k bt349.1).bind fun t353 => (if t353 = true then (if bt349.2 = 1 then (laws_FnParts.j0 k bt349.1 bt349.2 false) else (if bt349.2 = 2 then (laws_FnParts.j0 k bt349.1 bt349.2 false) else (laws_FnParts.j0 k bt349.1 bt349.2 (bt349.2 != 4)))) else (laws_FnParts.j0 k bt349.1 bt349.2 true))))) = some r := H
  have A2 := Aside0.mk A20
  clear A20
  by_cases c3 : t348 = true
  · subst c3
    have H1 : (some true) = some r := by rw [if_pos rfl] at H; exact H
    clear H
    have H := H1
    clear H1
    obtain rfl := Option.some.inj H
    go_enter Try.func4, Try.ntmps4
    go_wp2_with (first | ((with_reducible refine gate_callee (f := 13) rfl ?_); refine goesL_ (some 22) rfl rfl Try.func13 (by kernel_rfl) rfl #[.slice A0 l0.length c0] rfl (by (try simp only [List.map_toArray, List.map_cons, List.map_nil]); first | done | rfl | (simp only [List.length_drop, List.length_take]; rfl)) ?_; (with_reducible refine (laws_big.calls _ _ l0 true _ ?side1 ?side2 A2.out).mono ?_); (case side1 => repeat (first | exact HR0.out | (with_reducible refine Kd.C_alloc ?_ _) | (with_reducible refine Kd.C_drewN ?_ _) | (with_reducible refine Kd.C_drew ?_))); (case side2 => exact HC0.out); rintro e w' ⟨rfl, ⟨nd, rfl⟩⟩; refine ⟨_, rfl, ?_⟩))
    go_ret
    exact ⟨by first | rfl | (simp [errW_none, errW_some] <;> rfl) | (simp [*, errW_none, errW_some] <;> rfl), by repeat (first | (with_reducible first | exact HB.out | apply below_alloc | apply pw_below_drewN | apply below_drew1) | exact HB.out)⟩
  · replace c3 := Bool.eq_false_iff.mpr c3
    subst c3
    have H1 : ((spec_DrawTakePart.f k l0).bind fun bt349 => ((spec_SlabsOk.f k bt349.1).bind fun t353 => (if t353 = true then (if bt349.2 = 1 then (laws_FnParts.j0 k bt349.1 bt349.2 false) else (if bt349.2 = 2 then (laws_FnParts.j0 k bt349.1 bt349.2 false) else (laws_FnParts.j0 k bt349.1 bt349.2 (bt349.2 != 4)))) else (laws_FnParts.j0 k bt349.1 bt349.2 true)))) = some r := by rw [if_neg (show ¬ (false = true) by decide)] at H; exact H
    clear H
    have H := H1
    clear H1
    replace H := Option.bind_eq_some_iff.mp H
    obtain ⟨⟨t349, t352⟩, A40, H⟩ := H
    replace H : ((spec_SlabsOk.f k t349).bind fun t353 => (if t353 = true then (if t352 = 1 then (laws_FnParts.j0 k t349 t352 false) else (if t352 = 2 then (laws_FnParts.j0 k t349 t352 false) else (laws_FnParts.j0 k t349 t352 (t352 != 4)))) else (laws_FnParts.j0 k t349 t352 true))) = some r := H
    have A4 := Aside0.mk A40
    clear A40
    have HC5 := Aside0.mk H
    clear H
    go_enter Try.func4, Try.ntmps4
    go_upto_region 4 with (first | ((with_reducible refine gate_callee (f := 13) rfl ?_); refine goesL_ (some 22) rfl rfl Try.func13 (by kernel_rfl) rfl #[.slice A0 l0.length c0] rfl (by (try simp only [List.map_toArray, List.map_cons, List.map_nil]); first | done | rfl | (simp only [List.length_drop, List.length_take]; rfl)) ?_; (with_reducible refine (laws_big.calls _ _ l0 false _ ?side1 ?side2 A2.out).mono ?_); (case side1 => repeat (first | exact HR0.out | (with_reducible refine Kd.C_alloc ?_ _) | (with_reducible refine Kd.C_drewN ?_ _) | (with_reducible refine Kd.C_drew ?_))); (case side2 => exact HC0.out); rintro e w' ⟨rfl, ⟨nd, rfl⟩⟩; refine ⟨_, rfl, ?_⟩) | ((with_reducible refine gate_callee (f := 14) rfl ?_); refine goesL_ (some 25) rfl rfl Try.func14 (by kernel_rfl) rfl #[.slice A0 l0.length c0] rfl (by (try simp only [List.map_toArray, List.map_cons, List.map_nil]); first | done | rfl | (simp only [List.length_drop, List.length_take]; rfl)) ?_; (with_reducible refine (spec_DrawTakePart.calls k _ _ l0 t349 t352 _ ?side1 ?side2 A4.out).mono ?_); (case side1 => repeat (first | exact HR0.out | (with_reducible refine Kd.C_alloc ?_ _) | (with_reducible refine Kd.C_drewN ?_ _) | (with_reducible refine Kd.C_drew ?_))); (case side2 => exact HC0.out); rintro e w6 ⟨v350, rfl, ho0, hb⟩; refine ⟨_, rfl, ?_⟩; have n0_ := Aside0.mk (Kd.N_lower (Kd.N_mono (ok' := fun k_ => True) ho0 (fun k_ hk_ => trivial)) (below_size (by repeat (first | (with_reducible first | exact HB.out | apply below_alloc | apply pw_below_drewN | apply below_drew1) | exact HB.out)))); have n1_ := Aside0.mk (below_step (by repeat (first | (with_reducible first | exact HB.out | apply below_alloc | apply pw_below_drewN | apply below_drew1) | exact HB.out)) hb); clear HB; have HO351 := n0_; have HB := n1_; clear n0_ n1_; (try clear hb); (try clear hb2); (try clear hk); (try clear hi); (try clear ho0)))
    (try simp only [Act.put, List.setIfInBounds_toArray, List.set_cons_zero, List.set_cons_succ])
    go_cut [42] (fun v42 wc => ∃ (kq : Nat) (x42_4 : Bool), v42 = .bool x42_4 ∧ Aside0 (laws_FnParts.j0 kq t349 t352 x42_4 = some r) ∧ Aside0 (kq ≤ k) ∧ Aside0 (Kd.N k47 47 wc w.heap.size (fun _ => True) v350 t349) ∧ Aside0 (Below w.heap.size w wc))
    case first =>
      have H := HC5.out
      clear HC5
      replace H := Option.bind_eq_some_iff.mp H
      obtain ⟨t353, A70, H⟩ := H
      replace H : (if t353 = true then (if t352 = 1 then (laws_FnParts.j0 k t349 t352 false) else (if t352 = 2 then (laws_FnParts.j0 k t349 t352 false) else (laws_FnParts.j0 k t349 t352 (t352 != 4)))) else (laws_FnParts.j0 k t349 t352 true)) = some r := H
      have A7 := Aside0.mk A70
      clear A70
      by_cases c8 : t353 = true
      · subst c8
        have H1 : (if t352 = 1 then (laws_FnParts.j0 k t349 t352 false) else (if t352 = 2 then (laws_FnParts.j0 k t349 t352 false) else (laws_FnParts.j0 k t349 t352 (t352 != 4)))) = some r := by rw [if_pos rfl] at H; exact H
        clear H
        have H := H1
        clear H1
        by_cases c9 : t352 = 1
        · rw [if_pos c9] at H
          have c9b0 : (t352 == 1) = true := beq_iff_eq.mpr c9
          have c9b1 : (t352 != 1) = false := bne_eq_false_iff_eq.mpr c9
          clear c9
          (first | rw [c9b0] | (simp only [i64_w, i32_w]; rw [c9b0]) | skip)
          have H' := Aside0.mk H
          clear H
          obtain ⟨Ao10, co10, eo10⟩ := Kd.N_slice HO351.out
          subst eo10
          go_wp2_with (first | ((with_reducible refine gate_callee (f := 15) rfl ?_); refine goesL_ (some 29) rfl rfl Try.func15 (by kernel_rfl) rfl #[.slice Ao10 t349.length co10] rfl (by (try simp only [List.map_toArray, List.map_cons, List.map_nil]); first | done | rfl | (simp only [List.length_drop, List.length_take]; rfl)) ?_; (with_reducible refine (spec_SlabsOk.calls k _ _ t349 true _ ?side1 ?side2 A7.out).mono ?_); (case side1 => repeat (first | exact (Kd.N_reads' HO351.out).2.2 | (with_reducible refine Kd.C_alloc ?_ _) | (with_reducible refine Kd.C_drewN ?_ _) | (with_reducible refine Kd.C_drew ?_))); (case side2 => exact (Kd.N_reads' HO351.out).2.1); rintro e w11 ⟨rfl, hb⟩; refine ⟨_, rfl, ?_⟩; have n0_ := Aside0.mk (Kd.N_below (by (with_reducible repeat (first | apply Kd.N_alloc | apply Kd.N_drewN | apply Kd.N_drew)); exact HO351.out) hb); have n1_ := Aside0.mk (below_step (by repeat (first | (with_reducible first | exact HB.out | apply below_alloc | apply pw_below_drewN | apply below_drew1) | exact HB.out)) hb); clear HO351; clear HB; have HO351 := n0_; have HB := n1_; clear n0_ n1_; (try clear hb); (try clear hb2); (try clear hk); (try clear hi)))
          go_meet
          case rel => exact ⟨_, (false), (by first | rfl | (simp; done) | (simp [*]; done)), H', ⟨by first | omega | exact Nat.le_refl _⟩, ⟨by (with_reducible repeat (first | apply Kd.N_alloc | apply Kd.N_drewN | apply Kd.N_drew)); exact HO351.out⟩, ⟨by repeat (first | (with_reducible first | exact HB.out | apply below_alloc | apply pw_below_drewN | apply below_drew1) | exact HB.out)⟩⟩
        · rw [if_neg c9] at H
          have c9b0 : (t352 == 1) = false := beq_eq_false_iff_ne.mpr c9
          have c9b1 : (t352 != 1) = true := bne_iff_ne.mpr c9
          (first | rw [c9b0] | (simp only [i64_w, i32_w]; rw [c9b0]) | skip)
          by_cases c12 : t352 = 2
          · rw [if_pos c12] at H
            have c12b0 : (t352 == 2) = true := beq_iff_eq.mpr c12
            have c12b1 : (t352 != 2) = false := bne_eq_false_iff_eq.mpr c12
            clear c12
            have H' := Aside0.mk H
            clear H
            obtain ⟨Ao13, co13, eo13⟩ := Kd.N_slice HO351.out
            subst eo13
            go_wp2_with (first | ((with_reducible refine gate_callee (f := 15) rfl ?_); refine goesL_ (some 29) rfl rfl Try.func15 (by kernel_rfl) rfl #[.slice Ao13 t349.length co13] rfl (by (try simp only [List.map_toArray, List.map_cons, List.map_nil]); first | done | rfl | (simp only [List.length_drop, List.length_take]; rfl)) ?_; (with_reducible refine (spec_SlabsOk.calls k _ _ t349 true _ ?side1 ?side2 A7.out).mono ?_); (case side1 => repeat (first | exact (Kd.N_reads' HO351.out).2.2 | (with_reducible refine Kd.C_alloc ?_ _) | (with_reducible refine Kd.C_drewN ?_ _) | (with_reducible refine Kd.C_drew ?_))); (case side2 => exact (Kd.N_reads' HO351.out).2.1); rintro e w14 ⟨rfl, hb⟩; refine ⟨_, rfl, ?_⟩; have n0_ := Aside0.mk (Kd.N_below (by (with_reducible repeat (first | apply Kd.N_alloc | apply Kd.N_drewN | apply Kd.N_drew)); exact HO351.out) hb); have n1_ := Aside0.mk (below_step (by repeat (first | (with_reducible first | exact HB.out | apply below_alloc | apply pw_below_drewN | apply below_drew1) | exact HB.out)) hb); clear HO351; clear HB; have HO351 := n0_; have HB := n1_; clear n0_ n1_; (try clear hb); (try clear hb2); (try clear hk); (try clear hi)))
            go_meet
            case rel => exact ⟨_, (false), (by first | rfl | (simp; done) | (simp [*]; done)), H', ⟨by first | omega | exact Nat.le_refl _⟩, ⟨by (with_reducible repeat (first | apply Kd.N_alloc | apply Kd.N_drewN | apply Kd.N_drew)); exact HO351.out⟩, ⟨by repeat (first | (with_reducible first | exact HB.out | apply below_alloc | apply pw_below_drewN | apply below_drew1) | exact HB.out)⟩⟩
          · rw [if_neg c12] at H
            have c12b0 : (t352 == 2) = false := beq_eq_false_iff_ne.mpr c12
            have c12b1 : (t352 != 2) = true := bne_iff_ne.mpr c12
            have H' := Aside0.mk H
            clear H
            obtain ⟨Ao15, co15, eo15⟩ := Kd.N_slice HO351.out
            subst eo15
            go_wp2_with (first | ((with_reducible refine gate_callee (f := 15) rfl ?_); refine goesL_ (some 29) rfl rfl Try.func15 (by kernel_rfl) rfl #[.slice Ao15 t349.length co15] rfl (by (try simp only [List.map_toArray, List.map_cons, List.map_nil]); first | done | rfl | (simp only [List.length_drop, List.length_take]; rfl)) ?_; (with_reducible refine (spec_SlabsOk.calls k _ _ t349 true _ ?side1 ?side2 A7.out).mono ?_); (case side1 => repeat (first | exact (Kd.N_reads' HO351.out).2.2 | (with_reducible refine Kd.C_alloc ?_ _) | (with_reducible refine Kd.C_drewN ?_ _) | (with_reducible refine Kd.C_drew ?_))); (case side2 => exact (Kd.N_reads' HO351.out).2.1); rintro e w16 ⟨rfl, hb⟩; refine ⟨_, rfl, ?_⟩; have n0_ := Aside0.mk (Kd.N_below (by (with_reducible repeat (first | apply Kd.N_alloc | apply Kd.N_drewN | apply Kd.N_drew)); exact HO351.out) hb); have n1_ := Aside0.mk (below_step (by repeat (first | (with_reducible first | exact HB.out | apply below_alloc | apply pw_below_drewN | apply below_drew1) | exact HB.out)) hb); clear HO351; clear HB; have HO351 := n0_; have HB := n1_; clear n0_ n1_; (try clear hb); (try clear hb2); (try clear hk); (try clear hi)))
            go_meet
            case rel => exact ⟨_, ((t352 != 4)), (by first | rfl | (simp; done) | (simp [*]; done)), H', ⟨by first | omega | exact Nat.le_refl _⟩, ⟨by (with_reducible repeat (first | apply Kd.N_alloc | apply Kd.N_drewN | apply Kd.N_drew)); exact HO351.out⟩, ⟨by repeat (first | (with_reducible first | exact HB.out | apply below_alloc | apply pw_below_drewN | apply below_drew1) | exact HB.out)⟩⟩
      · replace c8 := Bool.eq_false_iff.mpr c8
        subst c8
        have H1 : (laws_FnParts.j0 k t349 t352 true) = some r := by rw [if_neg (show ¬ (false = true) by decide)] at H; exact H
        clear H
        have H := H1
        clear H1
        have H' := Aside0.mk H
        clear H
        obtain ⟨Ao17, co17, eo17⟩ := Kd.N_slice HO351.out
        subst eo17
        go_wp2_with (first | ((with_reducible refine gate_callee (f := 15) rfl ?_); refine goesL_ (some 29) rfl rfl Try.func15 (by kernel_rfl) rfl #[.slice Ao17 t349.length co17] rfl (by (try simp only [List.map_toArray, List.map_cons, List.map_nil]); first | done | rfl | (simp only [List.length_drop, List.length_take]; rfl)) ?_; (with_reducible refine (spec_SlabsOk.calls k _ _ t349 false _ ?side1 ?side2 A7.out).mono ?_); (case side1 => repeat (first | exact (Kd.N_reads' HO351.out).2.2 | (with_reducible refine Kd.C_alloc ?_ _) | (with_reducible refine Kd.C_drewN ?_ _) | (with_reducible refine Kd.C_drew ?_))); (case side2 => exact (Kd.N_reads' HO351.out).2.1); rintro e w18 ⟨rfl, hb⟩; refine ⟨_, rfl, ?_⟩; have n0_ := Aside0.mk (Kd.N_below (by (with_reducible repeat (first | apply Kd.N_alloc | apply Kd.N_drewN | apply Kd.N_drew)); exact HO351.out) hb); have n1_ := Aside0.mk (below_step (by repeat (first | (with_reducible first | exact HB.out | apply below_alloc | apply pw_below_drewN | apply below_drew1) | exact HB.out)) hb); clear HO351; clear HB; have HO351 := n0_; have HB := n1_; clear n0_ n1_; (try clear hb); (try clear hb2); (try clear hk); (try clear hi)))
        go_meet
        case rel => exact ⟨_, (true), (by first | rfl | (simp; done) | (simp [*]; done)), H', ⟨by first | omega | exact Nat.le_refl _⟩, ⟨by (with_reducible repeat (first | apply Kd.N_alloc | apply Kd.N_drewN | apply Kd.N_drew)); exact HO351.out⟩, ⟨by repeat (first | (with_reducible first | exact HB.out | apply below_alloc | apply pw_below_drewN | apply below_drew1) | exact HB.out)⟩⟩
    case rest =>
      clear HC5
      try clear c1
      try clear p2
      try clear c3
      try clear c4
      try clear c8
      try clear c9
      try clear c9b0
      try clear c9b1
      try clear c12
      try clear c12b0
      try clear c12b1
      try clear c13
      try clear c14
      try clear c15
      obtain ⟨kq, x42_4, rfl, HA, HJ4, HO_3, HB⟩ := hcut
      cases kq with
      | zero => exact absurd HA.out (by simp [laws_FnParts.j0])
      | succ kj4 =>
        have H := HA.out
        clear HA
        simp only [laws_FnParts.j0] at H
        have HC19 := Aside0.mk H
        clear H
        go_upto_if 42 with (fail)
        go_cut [3, 4] (fun v3 v4 wc => ∃ (kq : Nat) (x3_18 : List (S47)) (x4_18 : Int), v4 = .int .i64 x4_18 ∧ Aside0 (laws_FnParts.j1 kq x3_18 x4_18 = some r) ∧ Aside0 (kq ≤ kj4) ∧ Aside0 (Kd.N k47 47 wc w.heap.size (fun _ => True) v3 x3_18) ∧ Aside0 (Below w.heap.size w wc))
        case first =>
          have H := HC19.out
          clear HC19
          by_cases c20 : x42_4 = true
          · subst c20
            have H1 : (laws_FnParts.j1 kj4 (([] : List (S47))) 2) = some r := by rw [if_pos rfl] at H; exact H
            clear H
            have H := H1
            clear H1
            obtain ⟨y354, hy354⟩ : ∃ y_ : List (S47), y_ = (([] : List (S47))) := ⟨_, rfl⟩
            replace H : (laws_FnParts.j1 kj4 y354 2) = some r := by first | (rw [hy354]; with_reducible exact H) | (have H2_ := (Option.bind_some _ _).symm.trans H; rw [hy354]; with_reducible exact H2_) | (have H2_ := (Option.bind_some _ _).symm.trans H; with_reducible exact H2_) | with_reducible exact H | (rw [hy354]; exact H) | exact H
            have Ny354 := Aside0.mk hy354
            clear hy354
            have H' := Aside0.mk H
            clear H
            go_wp2_with (first | ((with_reducible refine gate_dst (N := 43) rfl ?_); refine Kd.N_lit k47 _ 47 ?hg (N' := 43) ?hd (xs := ([] : List (S47))) (inner := []) (ok := (fun k_ => some k_ ≠ (v350 : Value).ownBlock)) (okp := (fun k_ => some k_ ≠ (v350 : Value).ownBlock)) ?hr ?hp (fun _ hk => hk) ((show ∀ k_, wc.heap.size ≤ k_ → (fun k_ => some k_ ≠ (v350 : Value).ownBlock) k_ from fun k_ hk => Kd.fresh' (Kd.N_lt (by (with_reducible repeat (first | apply Kd.N_alloc | apply Kd.N_drewN | apply Kd.N_drew)); exact HO_3.out)) k_ hk) _ (Nat.le_refl _)) (Below.refl _ _) (Nat.le_refl _) (by simp) ?_; (case hd => rfl); (case hg => rfl); (case hr => first | (go_simp; done) | (go_simp; rfl)); (case hp => exact (Reps.none _ _)); intro v355 w21 ho22 hb hg_ hnew_; clear hg_ hnew_; (first | rw [← Ny354.out] at ho22 | (simp only [Int.reduceToNat] at ho22; rw [← Ny354.out] at ho22)); have n0_ := Aside0.mk (Kd.N_elder' (by (with_reducible repeat (first | apply Kd.N_alloc | apply Kd.N_drewN | apply Kd.N_drew)); exact HO_3.out) (Kd.N_base ho22) hb); have n1_ := Aside0.mk (Kd.N_lower ho22 (below_size (by repeat (first | (with_reducible first | exact HB.out | apply below_alloc | apply pw_below_drewN | apply below_drew1) | exact HB.out)))); have n2_ := Aside0.mk (below_step (by repeat (first | (with_reducible first | exact HB.out | apply below_alloc | apply pw_below_drewN | apply below_drew1) | exact HB.out)) hb); clear HO_3; clear HB; have HO_3 := n0_; have HO356 := n1_; have HB := n2_; clear n0_ n1_ n2_; clear hb ho22))
            go_meet
            case rel => exact ⟨_, (y354), (2), (by first | rfl | (simp; done) | (simp [*]; done)), H', ⟨by have := HJ4.out; first | omega | exact Nat.le_refl _⟩, ⟨by (with_reducible repeat (first | apply Kd.N_alloc | apply Kd.N_drewN | apply Kd.N_drew)); exact Kd.N_mono HO356.out (fun _ hk => trivial)⟩, ⟨by repeat (first | (with_reducible first | exact HB.out | apply below_alloc | apply pw_below_drewN | apply below_drew1) | exact HB.out)⟩⟩
          · replace c20 := Bool.eq_false_iff.mpr c20
            subst c20
            have H1 : (laws_FnParts.j1 kj4 t349 t352) = some r := by rw [if_neg (show ¬ (false = true) by decide)] at H; exact H
            clear H
            have H := H1
            clear H1
            have H' := Aside0.mk H
            clear H
            go_wp2
            go_meet
            case rel => exact ⟨_, (t349), (t352), (by first | rfl | (simp; done) | (simp [*]; done)), H', ⟨by have := HJ4.out; first | omega | exact Nat.le_refl _⟩, ⟨by (with_reducible repeat (first | apply Kd.N_alloc | apply Kd.N_drewN | apply Kd.N_drew)); exact HO_3.out⟩, ⟨by repeat (first | (with_reducible first | exact HB.out | apply below_alloc | apply pw_below_drewN | apply below_drew1) | exact HB.out)⟩⟩
        case rest =>
          clear HC19
          try clear c1
          try clear c2
          try clear p2
          try clear c3
          try clear c4
          try clear c8
          try clear c9
          try clear c9b0
          try clear c9b1
          try clear c12
          try clear c12b0
          try clear c12b1
          try clear c13
          try clear c14
          try clear c15
          try clear c20
          try clear p2
          obtain ⟨kq, x3_18, x4_18, rfl, HA, HJ18, HO_3, HB⟩ := hcut
          cases kq with
          | zero => exact absurd HA.out (by simp [laws_FnParts.j1])
          | succ kj18 =>
            have H := HA.out
            clear HA
            simp only [laws_FnParts.j1] at H
            replace H := Option.bind_eq_some_iff.mp H
            obtain ⟨⟨t357, t358⟩, A230, H⟩ := H
            replace H : (if t358 = true then (laws_FnParts.l0 kj18 x4_18 (([] : List Int)) t357 0) else (some (decide ((t357.length : Int) > 0)))) = some r := H
            have A23 := Aside0.mk A230
            clear A230
            by_cases c24 : t358 = true
            · subst c24
              have H1 : (laws_FnParts.l0 kj18 x4_18 (([] : List Int)) t357 0) = some r := by rw [if_pos rfl] at H; exact H
              clear H
              have H := H1
              clear H1
              obtain ⟨y361, hy361⟩ : ∃ y_ : List Int, y_ = (([] : List Int)) := ⟨_, rfl⟩
              replace H : (laws_FnParts.l0 kj18 x4_18 y361 t357 0) = some r := by first | (rw [hy361]; with_reducible exact H) | (have H2_ := (Option.bind_some _ _).symm.trans H; rw [hy361]; with_reducible exact H2_) | (have H2_ := (Option.bind_some _ _).symm.trans H; with_reducible exact H2_) | with_reducible exact H | (rw [hy361]; exact H) | exact H
              have Ny361 := Aside0.mk hy361
              clear hy361
              have HC25 := Aside0.mk H
              clear H
              obtain ⟨Ao26, co26, eo26⟩ := Kd.N_slice HO_3.out
              subst eo26
              go_upto_block 0 with (first | ((with_reducible refine gate_callee (f := 16) rfl ?_); refine goesL_ (some 47) rfl rfl Try.func16 (by kernel_rfl) rfl #[.slice Ao26 x3_18.length co26, .int .i64 20, .int .i64 x4_18] rfl (by (try simp only [List.map_toArray, List.map_cons, List.map_nil]); first | done | rfl | (simp only [List.length_drop, List.length_take]; rfl)) ?_; (with_reducible refine (impl_AddSlab.calls kj18 _ _ x3_18 20 x4_18 t357 true _ ?side1 ?side2 A23.out).mono ?_); (case side1 => repeat (first | exact (Kd.N_reads' HO_3.out).2.2 | (with_reducible refine Kd.C_alloc ?_ _) | (with_reducible refine Kd.C_drewN ?_ _) | (with_reducible refine Kd.C_drew ?_))); (case side2 => exact (Kd.N_reads' HO_3.out).2.1); rintro e w27 ⟨v359, rfl, ho0, hb⟩; refine ⟨_, rfl, ?_⟩; have n0_ := Aside0.mk (Kd.N_elder' (by (with_reducible repeat (first | apply Kd.N_alloc | apply Kd.N_drewN | apply Kd.N_drew)); exact HO_3.out) (Kd.S_base ho0) hb); have n1_ := Aside0.mk (Kd.N_lower (Kd.N_mono (ok' := fun k_ => some k_ ≠ (.slice Ao26 x3_18.length co26 : Value).ownBlock) (Kd.S_N (Kd.S_bound ho0)) (fun k_ hk_ => (Kd.fresh' (Kd.N_lt (by (with_reducible repeat (first | apply Kd.N_alloc | apply Kd.N_drewN | apply Kd.N_drew)); exact HO_3.out)) k_ hk_.2.1))) (below_size (by repeat (first | (with_reducible first | exact HB.out | apply below_alloc | apply pw_below_drewN | apply below_drew1) | exact HB.out)))); have n2_ := Aside0.mk (below_step (by repeat (first | (with_reducible first | exact HB.out | apply below_alloc | apply pw_below_drewN | apply below_drew1) | exact HB.out)) hb); clear HO_3; clear HB; have HO_3 := n0_; have HO360 := n1_; have HB := n2_; clear n0_ n1_ n2_; (try clear hb); (try clear hb2); (try clear hk); (try clear hi); (try clear ho0)) | ((with_reducible refine gate_dst (N := 55) rfl ?_); refine Kd.R_lit (Kd.int .i64) _ 3 ?hg (N := 55) ?hd (xs := ([] : List Int)) (inner := []) (ok := fun _ => True) (okp := fun _ => True) ?hr ?hp (fun _ hk => hk) trivial (Below.refl _ _) (Nat.le_refl _) (by simp) ?_; (case hd => rfl); (case hg => rfl); (case hr => first | (go_simp; done) | (go_simp; rfl)); (case hp => exact (Reps.none _ _)); intro v362 w28 ho29 hb hg_ hnew_; clear hg_ hnew_; (first | rw [← Ny361.out] at ho29 | (simp only [Int.reduceToNat] at ho29; rw [← Ny361.out] at ho29)); have n0_ := Aside0.mk (Kd.N_elder' (by (with_reducible repeat (first | apply Kd.N_alloc | apply Kd.N_drewN | apply Kd.N_drew)); exact HO_3.out) (Kd.R_base ho29) hb); have n1_ := Aside0.mk (Kd.N_elder' (by (with_reducible repeat (first | apply Kd.N_alloc | apply Kd.N_drewN | apply Kd.N_drew)); exact HO360.out) (Kd.R_base ho29) hb); have n2_ := Aside0.mk (Kd.R_lower ho29 (below_size (by repeat (first | (with_reducible first | exact HB.out | apply below_alloc | apply pw_below_drewN | apply below_drew1) | exact HB.out)))); have n3_ := Aside0.mk (below_step (by repeat (first | (with_reducible first | exact HB.out | apply below_alloc | apply pw_below_drewN | apply below_drew1) | exact HB.out)) hb); clear HO_3; clear HO360; clear HB; have HO_3 := n0_; have HO360 := n1_; have HO363 := n2_; have HB := n3_; clear n0_ n1_ n2_ n3_; clear hb ho29))
              (try simp only [Act.put, List.setIfInBounds_toArray, List.set_cons_zero, List.set_cons_succ])
              go_cut [6, 7] (fun v6 v7 wc => ∃ (kq : Nat) (x6_24 : List Int) (x7_24 : List (S47)), Aside0 (laws_FnParts.j3 kq x4_18 x6_24 x7_24 = some r) ∧ Aside0 (kq ≤ kj18) ∧ Aside0 (Kd.R (Kd.int .i64) 3 wc w.heap.size (fun _ => True) v6 x6_24) ∧ Aside0 (Kd.N k47 47 wc w.heap.size (fun k_ => some k_ ≠ (v6 : Value).ownBlock) v7 x7_24) ∧ Aside0 (Below w.heap.size w wc))
              case first =>
                have H := HC25.out
                clear HC25
                have H' := Aside0.mk H
                clear H
                go_wp2
                go_loopg [6, 7, 8] kj18 (fun kq v6 v7 v8 w' => ∃ (x6_3 : List Int) (x7_3 : List (S47)) (x8_3 : Int), v8 = .int .i64 x8_3 ∧ Aside0 (laws_FnParts.l0 kq x4_18 x6_3 x7_3 x8_3 = some r) ∧ Aside0 (kq ≤ kj18) ∧ Aside0 (Kd.R (Kd.int .i64) 3 w' w.heap.size (fun _ => True) v6 x6_3) ∧ Aside0 (Kd.N k47 47 w' w.heap.size (fun k_ => some k_ ≠ (v6 : Value).ownBlock) v7 x7_3) ∧ Aside0 (Below w.heap.size w w'))
                case atStart => exact ⟨(y361), (t357), (0), (by first | rfl | (simp; done) | (simp [*]; done)), H', ⟨Nat.le_refl _⟩, ⟨by (with_reducible repeat (first | apply Kd.R_alloc | apply Kd.R_drewN | apply Kd.R_drew)); exact HO363.out⟩, ⟨by (with_reducible repeat (first | apply Kd.N_alloc | apply Kd.N_drewN | apply Kd.N_drew)); exact Kd.N_mono HO360.out (fun _ hk => hk.2)⟩, ⟨by repeat (first | (with_reducible first | exact HB.out | apply below_alloc | apply pw_below_drewN | apply below_drew1) | exact HB.out)⟩⟩
                case round =>
                  clear H'
                  try clear c1
                  try clear c2
                  try clear p2
                  try clear c3
                  try clear c4
                  try clear c8
                  try clear c9
                  try clear c9b0
                  try clear c9b1
                  try clear c12
                  try clear c12b0
                  try clear c12b1
                  try clear c13
                  try clear c14
                  try clear c15
                  try clear c16
                  try clear c20
                  try clear c24
                  try clear p2
                  obtain ⟨x6_3, x7_3, x8_3, rfl, HA, HK3, HO_6, HO_7, HB⟩ := hrel
                  cases gk with
                  | zero => exact absurd HA.out (by simp [laws_FnParts.l0])
                  | succ k3 =>
                    have H := HA.out
                    clear HA
                    simp only [laws_FnParts.l0] at H
                    by_cases c30 : x8_3 < 200
                    · rw [if_pos c30] at H
                      have c30b0 : decide (x8_3 < 200) = true := decide_eq_true c30
                      clear c30
                      (first | rw [c30b0] | (simp only [i64_w, i32_w]; rw [c30b0]) | skip)
                      replace H := Option.bind_eq_some_iff.mp H
                      obtain ⟨⟨t364, t365, t366, t367⟩, A310, H⟩ := H
                      replace H : (if t367 = true then ((laws_within.f k3 x6_3 (wrap64 ((wrap64 (10 * t365)) + t366))).bind fun t370 => (if t370 = true then (some false) else ((impl_SlabsOk.f k3 t364).bind fun t371 => (if t371 = true then (if x6_3.length < 17592186044416 then (laws_FnParts.l0 k3 x4_18 (x6_3 ++ [wrap64 ((wrap64 (10 * t365)) + t366)]) t364 (wrap64 (x8_3 + 1))) else (none)) else (some false))))) else (laws_FnParts.j3 k3 x4_18 x6_3 x7_3)) = some r := H
                      have A31 := Aside0.mk A310
                      clear A310
                      by_cases c32 : t367 = true
                      · subst c32
                        have H1 : ((laws_within.f k3 x6_3 (wrap64 ((wrap64 (10 * t365)) + t366))).bind fun t370 => (if t370 = true then (some false) else ((impl_SlabsOk.f k3 t364).bind fun t371 => (if t371 = true then (if x6_3.length < 17592186044416 then (laws_FnParts.l0 k3 x4_18 (x6_3 ++ [wrap64 ((wrap64 (10 * t365)) + t366)]) t364 (wrap64 (x8_3 + 1))) else (none)) else (some false))))) = some r := by rw [if_pos rfl] at H; exact H
                        clear H
                        have H := H1
                        clear H1
                        replace H := Option.bind_eq_some_iff.mp H
                        obtain ⟨t370, A330, H⟩ := H
                        replace H : (if t370 = true then (some false) else ((impl_SlabsOk.f k3 t364).bind fun t371 => (if t371 = true then (if x6_3.length < 17592186044416 then (laws_FnParts.l0 k3 x4_18 (x6_3 ++ [wrap64 ((wrap64 (10 * t365)) + t366)]) t364 (wrap64 (x8_3 + 1))) else (none)) else (some false)))) = some r := H
                        have A33 := Aside0.mk A330
                        clear A330
                        by_cases c34 : t370 = true
                        · subst c34
                          have H1 : (some false) = some r := by rw [if_pos rfl] at H; exact H
                          clear H
                          have H := H1
                          clear H1
                          obtain rfl := Option.some.inj H
                          obtain ⟨Ao35, co35, eo35⟩ := Kd.N_slice HO_7.out
                          subst eo35
                          go_wp2_with (first | ((with_reducible refine gate_callee (f := 17) rfl ?_); refine goesL_ (some 64) rfl rfl Try.func17 (by kernel_rfl) rfl #[.slice Ao35 x7_3.length co35, .int .i64 x4_18] rfl (by (try simp only [List.map_toArray, List.map_cons, List.map_nil]); first | done | rfl | (simp only [List.length_drop, List.length_take]; rfl)) ?_; (with_reducible refine (impl_TakePart.calls k3 _ _ x7_3 x4_18 t364 t365 t366 true _ ?side1 ?side2 A31.out).mono ?_); (case side1 => repeat (first | exact (Kd.N_reads' HO_7.out).2.2 | (with_reducible refine Kd.C_alloc ?_ _) | (with_reducible refine Kd.C_drewN ?_ _) | (with_reducible refine Kd.C_drew ?_))); (case side2 => exact (Kd.N_reads' HO_7.out).2.1); rintro e w36 ⟨v368, rfl, ho0, hb⟩; refine ⟨_, rfl, ?_⟩; have n0_ := Aside0.mk (Kd.R_below (by (with_reducible repeat (first | apply Kd.R_alloc | apply Kd.R_drewN | apply Kd.R_drew)); exact HO_6.out) hb); have n1_ := Aside0.mk (Kd.N_elder' (by (with_reducible repeat (first | apply Kd.N_alloc | apply Kd.N_drewN | apply Kd.N_drew)); exact HO_7.out) (Kd.S_base ho0) hb); have n2_ := Aside0.mk (Kd.N_lower (Kd.N_mono (ok' := fun k_ => some k_ ≠ (u6 : Value).ownBlock ∧ some k_ ≠ (.slice Ao35 x7_3.length co35 : Value).ownBlock) (Kd.S_N (Kd.S_bound ho0)) (fun k_ hk_ => ⟨(Kd.fresh' (Kd.R_lt (by (with_reducible repeat (first | apply Kd.R_alloc | apply Kd.R_drewN | apply Kd.R_drew)); exact HO_6.out)) k_ hk_.2.1), (Kd.fresh' (Kd.N_lt (by (with_reducible repeat (first | apply Kd.N_alloc | apply Kd.N_drewN | apply Kd.N_drew)); exact HO_7.out)) k_ hk_.2.1)⟩)) (below_size (by repeat (first | (with_reducible first | exact HB.out | apply below_alloc | apply pw_below_drewN | apply below_drew1) | exact HB.out)))); have n3_ := Aside0.mk (below_step (by repeat (first | (with_reducible first | exact HB.out | apply below_alloc | apply pw_below_drewN | apply below_drew1) | exact HB.out)) hb); clear HO_6; clear HO_7; clear HB; have HO_6 := n0_; have HO_7 := n1_; have HO369 := n2_; have HB := n3_; clear n0_ n1_ n2_ n3_; (try clear hb); (try clear hb2); (try clear hk); (try clear hi); (try clear ho0); obtain ⟨Ao37, co37, eo37⟩ := Kd.R_slice HO_6.out; subst eo37) | ((with_reducible refine gate_callee (f := 18) rfl ?_); refine goesL_ (some 77) rfl rfl Try.func18 (by kernel_rfl) rfl #[.slice Ao37 x6_3.length co37, .int .i64 (wrap64 ((wrap64 (10 * t365)) + t366))] rfl (by (try simp only [List.map_toArray, List.map_cons, List.map_nil]); first | done | rfl | (simp only [List.length_drop, List.length_take]; rfl)) ?_; (with_reducible refine (laws_within.calls k3 _ _ x6_3 (wrap64 ((wrap64 (10 * t365)) + t366)) true _ ?side1 ?side2 A33.out).mono ?_); (case side1 => repeat (first | exact (Kd.R_reads' HO_6.out).2.2 | (with_reducible refine Kd.C_alloc ?_ _) | (with_reducible refine Kd.C_drewN ?_ _) | (with_reducible refine Kd.C_drew ?_))); (case side2 => exact (Kd.R_reads' HO_6.out).2.1); rintro e w' ⟨rfl, ⟨nd, rfl⟩⟩; refine ⟨_, rfl, ?_⟩))
                          go_ret
                          exact ⟨by first | rfl | (simp [errW_none, errW_some] <;> rfl) | (simp [*, errW_none, errW_some] <;> rfl), by repeat (first | (with_reducible first | exact HB.out | apply below_alloc | apply pw_below_drewN | apply below_drew1) | exact HB.out)⟩
                        · replace c34 := Bool.eq_false_iff.mpr c34
                          subst c34
                          have H1 : ((impl_SlabsOk.f k3 t364).bind fun t371 => (if t371 = true then (if x6_3.length < 17592186044416 then (laws_FnParts.l0 k3 x4_18 (x6_3 ++ [wrap64 ((wrap64 (10 * t365)) + t366)]) t364 (wrap64 (x8_3 + 1))) else (none)) else (some false))) = some r := by rw [if_neg (show ¬ (false = true) by decide)] at H; exact H
                          clear H
                          have H := H1
                          clear H1
                          replace H := Option.bind_eq_some_iff.mp H
                          obtain ⟨t371, A380, H⟩ := H
                          replace H : (if t371 = true then (if x6_3.length < 17592186044416 then (laws_FnParts.l0 k3 x4_18 (x6_3 ++ [wrap64 ((wrap64 (10 * t365)) + t366)]) t364 (wrap64 (x8_3 + 1))) else (none)) else (some false)) = some r := H
                          have A38 := Aside0.mk A380
                          clear A380
                          by_cases c39 : t371 = true
                          · subst c39
                            have H1 : (if x6_3.length < 17592186044416 then (laws_FnParts.l0 k3 x4_18 (x6_3 ++ [wrap64 ((wrap64 (10 * t365)) + t366)]) t364 (wrap64 (x8_3 + 1))) else (none)) = some r := by rw [if_pos rfl] at H; exact H
                            clear H
                            have H := H1
                            clear H1
                            by_cases c40 : x6_3.length < 17592186044416
                            · rw [if_pos c40] at H
                              have LMc40 := Aside0.mk c40
                              clear c40
                              obtain ⟨y372, hy372⟩ : ∃ y_ : List Int, y_ = (x6_3 ++ [wrap64 ((wrap64 (10 * t365)) + t366)]) := ⟨_, rfl⟩
                              replace H : (laws_FnParts.l0 k3 x4_18 y372 t364 (wrap64 (x8_3 + 1))) = some r := by first | (rw [hy372]; with_reducible exact H) | (have H2_ := (Option.bind_some _ _).symm.trans H; rw [hy372]; with_reducible exact H2_) | (have H2_ := (Option.bind_some _ _).symm.trans H; with_reducible exact H2_) | with_reducible exact H | (rw [hy372]; exact H) | exact H
                              have Ny372 := Aside0.mk hy372
                              clear hy372
                              have H' := Aside0.mk H
                              clear H
                              obtain ⟨Ao41, co41, eo41⟩ := Kd.N_slice HO_7.out
                              subst eo41
                              go_wp2_with (first | ((with_reducible refine gate_callee (f := 17) rfl ?_); refine goesL_ (some 64) rfl rfl Try.func17 (by kernel_rfl) rfl #[.slice Ao41 x7_3.length co41, .int .i64 x4_18] rfl (by (try simp only [List.map_toArray, List.map_cons, List.map_nil]); first | done | rfl | (simp only [List.length_drop, List.length_take]; rfl)) ?_; (with_reducible refine (impl_TakePart.calls k3 _ _ x7_3 x4_18 t364 t365 t366 true _ ?side1 ?side2 A31.out).mono ?_); (case side1 => repeat (first | exact (Kd.N_reads' HO_7.out).2.2 | (with_reducible refine Kd.C_alloc ?_ _) | (with_reducible refine Kd.C_drewN ?_ _) | (with_reducible refine Kd.C_drew ?_))); (case side2 => exact (Kd.N_reads' HO_7.out).2.1); rintro e w42 ⟨v368, rfl, ho0, hb⟩; refine ⟨_, rfl, ?_⟩; have n0_ := Aside0.mk (Kd.R_below (by (with_reducible repeat (first | apply Kd.R_alloc | apply Kd.R_drewN | apply Kd.R_drew)); exact HO_6.out) hb); have n1_ := Aside0.mk (Kd.N_elder' (by (with_reducible repeat (first | apply Kd.N_alloc | apply Kd.N_drewN | apply Kd.N_drew)); exact HO_7.out) (Kd.S_base ho0) hb); have n2_ := Aside0.mk (Kd.N_lower (Kd.N_mono (ok' := fun k_ => some k_ ≠ (u6 : Value).ownBlock ∧ some k_ ≠ (.slice Ao41 x7_3.length co41 : Value).ownBlock) (Kd.S_N (Kd.S_bound ho0)) (fun k_ hk_ => ⟨(Kd.fresh' (Kd.R_lt (by (with_reducible repeat (first | apply Kd.R_alloc | apply Kd.R_drewN | apply Kd.R_drew)); exact HO_6.out)) k_ hk_.2.1), (Kd.fresh' (Kd.N_lt (by (with_reducible repeat (first | apply Kd.N_alloc | apply Kd.N_drewN | apply Kd.N_drew)); exact HO_7.out)) k_ hk_.2.1)⟩)) (below_size (by repeat (first | (with_reducible first | exact HB.out | apply below_alloc | apply pw_below_drewN | apply below_drew1) | exact HB.out)))); have n3_ := Aside0.mk (below_step (by repeat (first | (with_reducible first | exact HB.out | apply below_alloc | apply pw_below_drewN | apply below_drew1) | exact HB.out)) hb); clear HO_6; clear HO_7; clear HB; have HO_6 := n0_; have HO_7 := n1_; have HO369 := n2_; have HB := n3_; clear n0_ n1_ n2_ n3_; (try clear hb); (try clear hb2); (try clear hk); (try clear hi); (try clear ho0); obtain ⟨Ao43, co43, eo43⟩ := Kd.R_slice HO_6.out; subst eo43) | ((with_reducible refine gate_callee (f := 18) rfl ?_); refine goesL_ (some 77) rfl rfl Try.func18 (by kernel_rfl) rfl #[.slice Ao43 x6_3.length co43, .int .i64 (wrap64 ((wrap64 (10 * t365)) + t366))] rfl (by (try simp only [List.map_toArray, List.map_cons, List.map_nil]); first | done | rfl | (simp only [List.length_drop, List.length_take]; rfl)) ?_; (with_reducible refine (laws_within.calls k3 _ _ x6_3 (wrap64 ((wrap64 (10 * t365)) + t366)) false _ ?side1 ?side2 A33.out).mono ?_); (case side1 => repeat (first | exact (Kd.R_reads' HO_6.out).2.2 | (with_reducible refine Kd.C_alloc ?_ _) | (with_reducible refine Kd.C_drewN ?_ _) | (with_reducible refine Kd.C_drew ?_))); (case side2 => exact (Kd.R_reads' HO_6.out).2.1); rintro e w' ⟨rfl, ⟨nd, rfl⟩⟩; refine ⟨_, rfl, ?_⟩; obtain ⟨Ao44, co44, eo44⟩ := Kd.N_slice HO369.out; subst eo44) | (go_at_call 19; (with_reducible refine (impl_SlabsOk.calls k3 _ _ t364 true _ ?side1 ?side2 A38.out).mono ?_); (case side1 => repeat (first | exact (Kd.N_reads' HO369.out).2.2 | (with_reducible refine Kd.C_alloc ?_ _) | (with_reducible refine Kd.C_drewN ?_ _) | (with_reducible refine Kd.C_drew ?_))); (case side2 => exact (Kd.N_reads' HO369.out).2.1); rintro e w45 ⟨rfl, hb⟩; have n0_ := Aside0.mk (Kd.R_below (by (with_reducible repeat (first | apply Kd.R_alloc | apply Kd.R_drewN | apply Kd.R_drew)); exact HO_6.out) hb); have n1_ := Aside0.mk (Kd.N_below (by (with_reducible repeat (first | apply Kd.N_alloc | apply Kd.N_drewN | apply Kd.N_drew)); exact HO_7.out) hb); have n2_ := Aside0.mk (Kd.N_below (by (with_reducible repeat (first | apply Kd.N_alloc | apply Kd.N_drewN | apply Kd.N_drew)); exact HO369.out) hb); have n3_ := Aside0.mk (below_step (by repeat (first | (with_reducible first | exact HB.out | apply below_alloc | apply pw_below_drewN | apply below_drew1) | exact HB.out)) hb); clear HO_6; clear HO_7; clear HO369; clear HB; have HO_6 := n0_; have HO_7 := n1_; have HO369 := n2_; have HB := n3_; clear n0_ n1_ n2_ n3_; (try clear hb); (try clear hb2); (try clear hk); (try clear hi)) | ((with_reducible refine gate_builtin (b := .append) (xs := #[.tmp 83, .tmp 85]) rfl ?_); at_builtin; refine Kd.R_append (Kd.int .i64) (w0 := w) w.heap.size rfl (.tmp 83) (.tmp 85) 38 3 (.int .i64 0) 8 rfl Try.underlying38 info3 rfl (by decide) (by omega) (.slice Ao43 x6_3.length co43) x6_3 (wrap64 ((wrap64 (10 * t365)) + t366)) [.int .i64 (wrap64 ((wrap64 (10 * t365)) + t366))] (fun _ => True) (fun _ => False) rfl rfl ?aP (fun _ hk => hk.elim) ?aF ?aO ?aB ?aS ?aL ?_; (case aP => exact rfl); (case aB => exact (by repeat (first | (with_reducible first | exact HB.out | apply below_alloc | apply pw_below_drewN | apply below_drew1) | exact HB.out))); (case aF => exact (fun _ _ => trivial)); (case aO => exact (by (with_reducible repeat (first | apply Kd.R_alloc | apply Kd.R_drewN | apply Kd.R_drew)); exact HO_6.out)); (case aS => exact (below_size (by repeat (first | (with_reducible first | exact HB.out | apply below_alloc | apply pw_below_drewN | apply below_drew1) | exact HB.out)))); (case aL => have := LMc40.out; omega); intro v373 w46 ho hb hg hat; rw [← Ny372.out] at ho; have n0_ := Aside0.mk (Kd.N_afterv (ok := (fun k_ => some k_ ≠ (.slice Ao44 t364.length co44 : Value).ownBlock)) (by (with_reducible repeat (first | apply Kd.N_alloc | apply Kd.N_drewN | apply Kd.N_drew)); exact Kd.N_mono HO_7.out (fun _ hk => ⟨hk.2, hk.1⟩)) hg hat); have n1_ := Aside0.mk (Kd.N_afterv (ok := (fun k_ => some k_ ≠ (.slice Ao41 x7_3.length co41 : Value).ownBlock)) (by (with_reducible repeat (first | apply Kd.N_alloc | apply Kd.N_drewN | apply Kd.N_drew)); exact Kd.N_mono HO369.out (fun _ hk => ⟨hk.2, hk.1⟩)) hg hat); have n2_ := Aside0.mk (hb); have n3_ := Aside0.mk (ho); clear HO_7; clear HO369; clear HB; clear HO_6; have HO_7 := n0_; have HO369 := n1_; have HB := n2_; have HO374 := n3_; clear n0_ n1_ n2_ n3_; clear ho hb hg hat))
                              go_roundg k3
                              case measure => have := HJ4.out; have := HJ18.out; have := HK3.out; omega
                              case rel => exact ⟨(y372), (t364), (wrap64 (x8_3 + 1)), (by first | rfl | (simp; done) | (simp [*]; done)), H', ⟨by have := HJ4.out; have := HJ18.out; have := HK3.out; omega⟩, ⟨by (with_reducible repeat (first | apply Kd.R_alloc | apply Kd.R_drewN | apply Kd.R_drew)); exact HO374.out⟩, ⟨by (with_reducible repeat (first | apply Kd.N_alloc | apply Kd.N_drewN | apply Kd.N_drew)); exact Kd.N_mono HO369.out (fun _ hk => hk.2)⟩, ⟨by repeat (first | (with_reducible first | exact HB.out | apply below_alloc | apply pw_below_drewN | apply below_drew1) | exact HB.out)⟩⟩
                            · rw [if_neg c40] at H
                              exact absurd H (by simp)
                          · replace c39 := Bool.eq_false_iff.mpr c39
                            subst c39
                            have H1 : (some false) = some r := by rw [if_neg (show ¬ (false = true) by decide)] at H; exact H
                            clear H
                            have H := H1
                            clear H1
                            obtain rfl := Option.some.inj H
                            obtain ⟨Ao47, co47, eo47⟩ := Kd.N_slice HO_7.out
                            subst eo47
                            go_wp2_with (first | ((with_reducible refine gate_callee (f := 17) rfl ?_); refine goesL_ (some 64) rfl rfl Try.func17 (by kernel_rfl) rfl #[.slice Ao47 x7_3.length co47, .int .i64 x4_18] rfl (by (try simp only [List.map_toArray, List.map_cons, List.map_nil]); first | done | rfl | (simp only [List.length_drop, List.length_take]; rfl)) ?_; (with_reducible refine (impl_TakePart.calls k3 _ _ x7_3 x4_18 t364 t365 t366 true _ ?side1 ?side2 A31.out).mono ?_); (case side1 => repeat (first | exact (Kd.N_reads' HO_7.out).2.2 | (with_reducible refine Kd.C_alloc ?_ _) | (with_reducible refine Kd.C_drewN ?_ _) | (with_reducible refine Kd.C_drew ?_))); (case side2 => exact (Kd.N_reads' HO_7.out).2.1); rintro e w48 ⟨v368, rfl, ho0, hb⟩; refine ⟨_, rfl, ?_⟩; have n0_ := Aside0.mk (Kd.R_below (by (with_reducible repeat (first | apply Kd.R_alloc | apply Kd.R_drewN | apply Kd.R_drew)); exact HO_6.out) hb); have n1_ := Aside0.mk (Kd.N_elder' (by (with_reducible repeat (first | apply Kd.N_alloc | apply Kd.N_drewN | apply Kd.N_drew)); exact HO_7.out) (Kd.S_base ho0) hb); have n2_ := Aside0.mk (Kd.N_lower (Kd.N_mono (ok' := fun k_ => some k_ ≠ (u6 : Value).ownBlock ∧ some k_ ≠ (.slice Ao47 x7_3.length co47 : Value).ownBlock) (Kd.S_N (Kd.S_bound ho0)) (fun k_ hk_ => ⟨(Kd.fresh' (Kd.R_lt (by (with_reducible repeat (first | apply Kd.R_alloc | apply Kd.R_drewN | apply Kd.R_drew)); exact HO_6.out)) k_ hk_.2.1), (Kd.fresh' (Kd.N_lt (by (with_reducible repeat (first | apply Kd.N_alloc | apply Kd.N_drewN | apply Kd.N_drew)); exact HO_7.out)) k_ hk_.2.1)⟩)) (below_size (by repeat (first | (with_reducible first | exact HB.out | apply below_alloc | apply pw_below_drewN | apply below_drew1) | exact HB.out)))); have n3_ := Aside0.mk (below_step (by repeat (first | (with_reducible first | exact HB.out | apply below_alloc | apply pw_below_drewN | apply below_drew1) | exact HB.out)) hb); clear HO_6; clear HO_7; clear HB; have HO_6 := n0_; have HO_7 := n1_; have HO369 := n2_; have HB := n3_; clear n0_ n1_ n2_ n3_; (try clear hb); (try clear hb2); (try clear hk); (try clear hi); (try clear ho0); obtain ⟨Ao49, co49, eo49⟩ := Kd.R_slice HO_6.out; subst eo49) | ((with_reducible refine gate_callee (f := 18) rfl ?_); refine goesL_ (some 77) rfl rfl Try.func18 (by kernel_rfl) rfl #[.slice Ao49 x6_3.length co49, .int .i64 (wrap64 ((wrap64 (10 * t365)) + t366))] rfl (by (try simp only [List.map_toArray, List.map_cons, List.map_nil]); first | done | rfl | (simp only [List.length_drop, List.length_take]; rfl)) ?_; (with_reducible refine (laws_within.calls k3 _ _ x6_3 (wrap64 ((wrap64 (10 * t365)) + t366)) false _ ?side1 ?side2 A33.out).mono ?_); (case side1 => repeat (first | exact (Kd.R_reads' HO_6.out).2.2 | (with_reducible refine Kd.C_alloc ?_ _) | (with_reducible refine Kd.C_drewN ?_ _) | (with_reducible refine Kd.C_drew ?_))); (case side2 => exact (Kd.R_reads' HO_6.out).2.1); rintro e w' ⟨rfl, ⟨nd, rfl⟩⟩; refine ⟨_, rfl, ?_⟩; obtain ⟨Ao50, co50, eo50⟩ := Kd.N_slice HO369.out; subst eo50) | (go_at_call 19; (with_reducible refine (impl_SlabsOk.calls k3 _ _ t364 false _ ?side1 ?side2 A38.out).mono ?_); (case side1 => repeat (first | exact (Kd.N_reads' HO369.out).2.2 | (with_reducible refine Kd.C_alloc ?_ _) | (with_reducible refine Kd.C_drewN ?_ _) | (with_reducible refine Kd.C_drew ?_))); (case side2 => exact (Kd.N_reads' HO369.out).2.1); rintro e w51 ⟨rfl, hb⟩; have n0_ := Aside0.mk (Kd.R_below (by (with_reducible repeat (first | apply Kd.R_alloc | apply Kd.R_drewN | apply Kd.R_drew)); exact HO_6.out) hb); have n1_ := Aside0.mk (Kd.N_below (by (with_reducible repeat (first | apply Kd.N_alloc | apply Kd.N_drewN | apply Kd.N_drew)); exact HO_7.out) hb); have n2_ := Aside0.mk (Kd.N_below (by (with_reducible repeat (first | apply Kd.N_alloc | apply Kd.N_drewN | apply Kd.N_drew)); exact HO369.out) hb); have n3_ := Aside0.mk (below_step (by repeat (first | (with_reducible first | exact HB.out | apply below_alloc | apply pw_below_drewN | apply below_drew1) | exact HB.out)) hb); clear HO_6; clear HO_7; clear HO369; clear HB; have HO_6 := n0_; have HO_7 := n1_; have HO369 := n2_; have HB := n3_; clear n0_ n1_ n2_ n3_; (try clear hb); (try clear hb2); (try clear hk); (try clear hi)))
                            go_ret
                            exact ⟨by first | rfl | (simp [errW_none, errW_some] <;> rfl) | (simp [*, errW_none, errW_some] <;> rfl), by repeat (first | (with_reducible first | exact HB.out | apply below_alloc | apply pw_below_drewN | apply below_drew1) | exact HB.out)⟩
                      · replace c32 := Bool.eq_false_iff.mpr c32
                        subst c32
                        have H1 : (laws_FnParts.j3 k3 x4_18 x6_3 x7_3) = some r := by rw [if_neg (show ¬ (false = true) by decide)] at H; exact H
                        clear H
                        have H := H1
                        clear H1
                        have H' := Aside0.mk H
                        clear H
                        obtain ⟨Ao52, co52, eo52⟩ := Kd.N_slice HO_7.out
                        subst eo52
                        go_wp2_with (first | ((with_reducible refine gate_callee (f := 17) rfl ?_); refine goesL_ (some 64) rfl rfl Try.func17 (by kernel_rfl) rfl #[.slice Ao52 x7_3.length co52, .int .i64 x4_18] rfl (by (try simp only [List.map_toArray, List.map_cons, List.map_nil]); first | done | rfl | (simp only [List.length_drop, List.length_take]; rfl)) ?_; (with_reducible refine (impl_TakePart.calls k3 _ _ x7_3 x4_18 t364 t365 t366 false _ ?side1 ?side2 A31.out).mono ?_); (case side1 => repeat (first | exact (Kd.N_reads' HO_7.out).2.2 | (with_reducible refine Kd.C_alloc ?_ _) | (with_reducible refine Kd.C_drewN ?_ _) | (with_reducible refine Kd.C_drew ?_))); (case side2 => exact (Kd.N_reads' HO_7.out).2.1); rintro e w53 ⟨v368, rfl, ho0, hb⟩; refine ⟨_, rfl, ?_⟩; have n0_ := Aside0.mk (Kd.R_below (by (with_reducible repeat (first | apply Kd.R_alloc | apply Kd.R_drewN | apply Kd.R_drew)); exact HO_6.out) hb); have n1_ := Aside0.mk (Kd.N_elder' (by (with_reducible repeat (first | apply Kd.N_alloc | apply Kd.N_drewN | apply Kd.N_drew)); exact HO_7.out) (Kd.S_base ho0) hb); have n2_ := Aside0.mk (Kd.N_lower (Kd.N_mono (ok' := fun k_ => some k_ ≠ (u6 : Value).ownBlock ∧ some k_ ≠ (.slice Ao52 x7_3.length co52 : Value).ownBlock) (Kd.S_N (Kd.S_bound ho0)) (fun k_ hk_ => ⟨(Kd.fresh' (Kd.R_lt (by (with_reducible repeat (first | apply Kd.R_alloc | apply Kd.R_drewN | apply Kd.R_drew)); exact HO_6.out)) k_ hk_.2.1), (Kd.fresh' (Kd.N_lt (by (with_reducible repeat (first | apply Kd.N_alloc | apply Kd.N_drewN | apply Kd.N_drew)); exact HO_7.out)) k_ hk_.2.1)⟩)) (below_size (by repeat (first | (with_reducible first | exact HB.out | apply below_alloc | apply pw_below_drewN | apply below_drew1) | exact HB.out)))); have n3_ := Aside0.mk (below_step (by repeat (first | (with_reducible first | exact HB.out | apply below_alloc | apply pw_below_drewN | apply below_drew1) | exact HB.out)) hb); clear HO_6; clear HO_7; clear HB; have HO_6 := n0_; have HO_7 := n1_; have HO369 := n2_; have HB := n3_; clear n0_ n1_ n2_ n3_; (try clear hb); (try clear hb2); (try clear hk); (try clear hi); (try clear ho0)))
                        go_meet
                        case rel => exact ⟨_, (x6_3), (x7_3), H', ⟨by have := HJ4.out; have := HJ18.out; have := HK3.out; first | omega | exact Nat.le_refl _⟩, ⟨by (with_reducible repeat (first | apply Kd.R_alloc | apply Kd.R_drewN | apply Kd.R_drew)); exact HO_6.out⟩, ⟨by (with_reducible repeat (first | apply Kd.N_alloc | apply Kd.N_drewN | apply Kd.N_drew)); exact Kd.N_mono HO_7.out (fun _ hk => hk.1)⟩, ⟨by repeat (first | (with_reducible first | exact HB.out | apply below_alloc | apply pw_below_drewN | apply below_drew1) | exact HB.out)⟩⟩
                    · rw [if_neg c30] at H
                      have c30b0 : decide (x8_3 < 200) = false := decide_eq_false c30
                      clear c30
                      (first | rw [c30b0] | (simp only [i64_w, i32_w]; rw [c30b0]) | skip)
                      have H' := Aside0.mk H
                      clear H
                      go_wp2
                      go_meet
                      case rel => exact ⟨_, (x6_3), (x7_3), H', ⟨by have := HJ4.out; have := HJ18.out; have := HK3.out; first | omega | exact Nat.le_refl _⟩, ⟨by (with_reducible repeat (first | apply Kd.R_alloc | apply Kd.R_drewN | apply Kd.R_drew)); exact HO_6.out⟩, ⟨by (with_reducible repeat (first | apply Kd.N_alloc | apply Kd.N_drewN | apply Kd.N_drew)); exact HO_7.out⟩, ⟨by repeat (first | (with_reducible first | exact HB.out | apply below_alloc | apply pw_below_drewN | apply below_drew1) | exact HB.out)⟩⟩
              case rest =>
                clear HC25
                try clear c1
                try clear c2
                try clear p2
                try clear c3
                try clear c4
                try clear p6
                try clear c8
                try clear c9
                try clear c9b0
                try clear c9b1
                try clear c12
                try clear c12b0
                try clear c12b1
                try clear c13
                try clear c14
                try clear c15
                try clear c16
                try clear c17
                try clear c18
                try clear c20
                try clear c24
                try clear c30
                try clear c30b0
                try clear c32
                try clear c34
                try clear c39
                try clear c40
                try clear p2
                obtain ⟨kq, x6_24, x7_24, HA, HJ24, HO_6, HO_7, HB⟩ := hcut
                cases kq with
                | zero => exact absurd HA.out (by simp [laws_FnParts.j3])
                | succ kj24 =>
                  have H := HA.out
                  clear HA
                  simp only [laws_FnParts.j3] at H
                  by_cases c54 : x4_18 = 0
                  · rw [if_pos c54] at H
                    exact absurd H (by simp)
                  · rw [if_neg c54] at H
                    have c54b0 : (x4_18 == 0) = false := beq_eq_false_iff_ne.mpr c54
                    have c54b1 : (x4_18 != 0) = true := bne_iff_ne.mpr c54
                    by_cases c55 : (x6_24.length : Int) < (wrap64 ((wrap64 ((4 : Int) / x4_18)) - 1))
                    · rw [if_pos c55] at H
                      have c55b0 : decide ((x6_24.length : Int) < (wrap64 ((wrap64 ((4 : Int) / x4_18)) - 1))) = true := decide_eq_true c55
                      have c55b7 : decide ((x6_24.length : Int) < (wrap64 ((wrap64 (Int.tdiv 4 x4_18)) - 1))) = true := by rw [Int.tdiv_eq_ediv_of_nonneg (by decide)]; exact c55b0
                      clear c55
                      obtain rfl := Option.some.inj H
                      obtain ⟨Ao56, co56, eo56⟩ := Kd.R_slice HO_6.out
                      subst eo56
                      go_wp2
                      go_ret
                      exact ⟨by first | rfl | (simp [errW_none, errW_some] <;> rfl) | (simp [*, errW_none, errW_some] <;> rfl), by repeat (first | (with_reducible first | exact HB.out | apply below_alloc | apply pw_below_drewN | apply below_drew1) | exact HB.out)⟩
                    · rw [if_neg c55] at H
                      have c55b0 : decide ((x6_24.length : Int) < (wrap64 ((wrap64 ((4 : Int) / x4_18)) - 1))) = false := decide_eq_false c55
                      have c55b7 : decide ((x6_24.length : Int) < (wrap64 ((wrap64 (Int.tdiv 4 x4_18)) - 1))) = false := by rw [Int.tdiv_eq_ediv_of_nonneg (by decide)]; exact c55b0
                      clear c55
                      have H' := Aside0.mk H
                      clear H
                      obtain ⟨Ao57, co57, eo57⟩ := Kd.R_slice HO_6.out
                      subst eo57
                      go_wp2
                      go_loopg [7, 14] kj24 (fun kq v7 v14 w' => ∃ (x7_4 : List (S47)) (x14_4 : Int), v14 = .int .i64 x14_4 ∧ Aside0 (laws_FnParts.l1 kq x4_18 x7_4 x14_4 = some r) ∧ Aside0 (kq ≤ kj24) ∧ Aside0 (Kd.N k47 47 w' w.heap.size (fun _ => True) v7 x7_4) ∧ Aside0 (Below w.heap.size w w'))
                      case atStart => exact ⟨(x7_24), (0), (by first | rfl | (simp; done) | (simp [*]; done)), H', ⟨Nat.le_refl _⟩, ⟨by (with_reducible repeat (first | apply Kd.N_alloc | apply Kd.N_drewN | apply Kd.N_drew)); exact Kd.N_mono HO_7.out (fun _ hk => trivial)⟩, ⟨by repeat (first | (with_reducible first | exact HB.out | apply below_alloc | apply pw_below_drewN | apply below_drew1) | exact HB.out)⟩⟩
                      case round =>
                        clear H'
                        try clear c1
                        try clear c2
                        try clear p2
                        try clear c3
                        try clear c4
                        try clear c5
                        try clear p6
                        try clear c8
                        try clear c9
                        try clear c9b0
                        try clear c9b1
                        try clear c12
                        try clear c12b0
                        try clear c12b1
                        try clear c13
                        try clear c14
                        try clear c15
                        try clear c16
                        try clear c17
                        try clear c18
                        try clear c20
                        try clear c24
                        try clear c30
                        try clear c30b0
                        try clear c32
                        try clear c34
                        try clear c39
                        try clear c40
                        try clear c54
                        try clear c54b0
                        try clear c54b1
                        try clear c55
                        try clear c55b0
                        try clear p2
                        try clear p6
                        obtain ⟨x7_4, x14_4, rfl, HA, HK4, HO_7, HB⟩ := hrel
                        cases gk with
                        | zero => exact absurd HA.out (by simp [laws_FnParts.l1])
                        | succ k4 =>
                          have H := HA.out
                          clear HA
                          simp only [laws_FnParts.l1] at H
                          by_cases c58 : x4_18 = 0
                          · rw [if_pos c58] at H
                            exact absurd H (by simp)
                          · rw [if_neg c58] at H
                            have c58b0 : (x4_18 == 0) = false := beq_eq_false_iff_ne.mpr c58
                            have c58b1 : (x4_18 != 0) = true := bne_iff_ne.mpr c58
                            by_cases c59 : x14_4 < (wrap64 ((4 : Int) / x4_18))
                            · rw [if_pos c59] at H
                              have c59b0 : decide (x14_4 < (wrap64 ((4 : Int) / x4_18))) = true := decide_eq_true c59
                              have c59b7 : decide (x14_4 < (wrap64 (Int.tdiv 4 x4_18))) = true := by rw [Int.tdiv_eq_ediv_of_nonneg (by decide)]; exact c59b0
                              clear c59
                              replace H := Option.bind_eq_some_iff.mp H
                              obtain ⟨⟨t375, t376, t377⟩, A600, H⟩ := H
                              replace H : ((impl_GivePart.f k4 t375 20 x14_4).bind fun bt380 => (if t377 = true then (if bt380.2.2 = true then (some false) else (if (t376 != (x14_4 == (wrap64 ((wrap64 ((4 : Int) / x4_18)) - 1)))) = true then (some false) else (laws_FnParts.l1 k4 x4_18 t375 (wrap64 (x14_4 + 1))))) else (some false))) = some r := H
                              have A60 := Aside0.mk A600
                              clear A600
                              replace H := Option.bind_eq_some_iff.mp H
                              obtain ⟨⟨t380, t381, t382⟩, A610, H⟩ := H
                              replace H : (if t377 = true then (if t382 = true then (some false) else (if (t376 != (x14_4 == (wrap64 ((wrap64 ((4 : Int) / x4_18)) - 1)))) = true then (some false) else (laws_FnParts.l1 k4 x4_18 t375 (wrap64 (x14_4 + 1))))) else (some false)) = some r := H
                              have A61 := Aside0.mk A610
                              clear A610
                              by_cases c62 : t377 = true
                              · subst c62
                                have H1 : (if t382 = true then (some false) else (if (t376 != (x14_4 == (wrap64 ((wrap64 ((4 : Int) / x4_18)) - 1)))) = true then (some false) else (laws_FnParts.l1 k4 x4_18 t375 (wrap64 (x14_4 + 1))))) = some r := by rw [if_pos rfl] at H; exact H
                                clear H
                                have H := H1
                                clear H1
                                by_cases c63 : t382 = true
                                · subst c63
                                  have H1 : (some false) = some r := by rw [if_pos rfl] at H; exact H
                                  clear H
                                  have H := H1
                                  clear H1
                                  obtain rfl := Option.some.inj H
                                  obtain ⟨Ao64, co64, eo64⟩ := Kd.N_slice HO_7.out
                                  subst eo64
                                  go_wp2_with (first | ((with_reducible refine gate_callee (f := 9) rfl ?_); refine goesL_ (some 103) rfl rfl Try.func9 (by kernel_rfl) rfl #[.slice Ao64 x7_4.length co64, .int .i64 20, .int .i64 x14_4] rfl (by (try simp only [List.map_toArray, List.map_cons, List.map_nil]); first | done | rfl | (simp only [List.length_drop, List.length_take]; rfl)) ?_; (with_reducible refine (impl_GivePart.calls k4 _ _ x7_4 20 x14_4 t375 t376 true _ ?side1 ?side2 A60.out).mono ?_); (case side1 => repeat (first | exact (Kd.N_reads' HO_7.out).2.2 | (with_reducible refine Kd.C_alloc ?_ _) | (with_reducible refine Kd.C_drewN ?_ _) | (with_reducible refine Kd.C_drew ?_))); (case side2 => exact (Kd.N_reads' HO_7.out).2.1); rintro e w65 ⟨v378, rfl, ho0, hb⟩; refine ⟨_, rfl, ?_⟩; have n0_ := Aside0.mk (Kd.N_elder' (by (with_reducible repeat (first | apply Kd.N_alloc | apply Kd.N_drewN | apply Kd.N_drew)); exact HO_7.out) (Kd.S_base ho0) hb); have n1_ := Aside0.mk (Kd.N_lower (Kd.N_mono (ok' := fun k_ => some k_ ≠ (.slice Ao64 x7_4.length co64 : Value).ownBlock) (Kd.S_N (Kd.S_bound ho0)) (fun k_ hk_ => (Kd.fresh' (Kd.N_lt (by (with_reducible repeat (first | apply Kd.N_alloc | apply Kd.N_drewN | apply Kd.N_drew)); exact HO_7.out)) k_ hk_.2.1))) (below_size (by repeat (first | (with_reducible first | exact HB.out | apply below_alloc | apply pw_below_drewN | apply below_drew1) | exact HB.out)))); have n2_ := Aside0.mk (below_step (by repeat (first | (with_reducible first | exact HB.out | apply below_alloc | apply pw_below_drewN | apply below_drew1) | exact HB.out)) hb); clear HO_7; clear HB; have HO_7 := n0_; have HO379 := n1_; have HB := n2_; clear n0_ n1_ n2_; (try clear hb); (try clear hb2); (try clear hk); (try clear hi); (try clear ho0); obtain ⟨Ao66, co66, eo66⟩ := Kd.N_slice HO379.out; subst eo66) | ((with_reducible refine gate_callee (f := 9) rfl ?_); refine goesL_ (some 110) rfl rfl Try.func9 (by kernel_rfl) rfl #[.slice Ao66 t375.length co66, .int .i64 20, .int .i64 x14_4] rfl (by (try simp only [List.map_toArray, List.map_cons, List.map_nil]); first | done | rfl | (simp only [List.length_drop, List.length_take]; rfl)) ?_; (with_reducible refine (impl_GivePart.calls k4 _ _ t375 20 x14_4 t380 t381 true _ ?side1 ?side2 A61.out).mono ?_); (case side1 => repeat (first | exact (Kd.N_reads' HO379.out).2.2 | (with_reducible refine Kd.C_alloc ?_ _) | (with_reducible refine Kd.C_drewN ?_ _) | (with_reducible refine Kd.C_drew ?_))); (case side2 => exact (Kd.N_reads' HO379.out).2.1); rintro e w67 ⟨v383, rfl, ho0, hb⟩; refine ⟨_, rfl, ?_⟩; have n0_ := Aside0.mk (Kd.N_elder' (by (with_reducible repeat (first | apply Kd.N_alloc | apply Kd.N_drewN | apply Kd.N_drew)); exact HO_7.out) (Kd.S_base ho0) hb); have n1_ := Aside0.mk (Kd.N_elder' (by (with_reducible repeat (first | apply Kd.N_alloc | apply Kd.N_drewN | apply Kd.N_drew)); exact HO379.out) (Kd.S_base ho0) hb); have n2_ := Aside0.mk (Kd.N_lower (Kd.N_mono (ok' := fun k_ => some k_ ≠ (.slice Ao64 x7_4.length co64 : Value).ownBlock ∧ some k_ ≠ (.slice Ao66 t375.length co66 : Value).ownBlock) (Kd.S_N (Kd.S_bound ho0)) (fun k_ hk_ => ⟨(Kd.fresh' (Kd.N_lt (by (with_reducible repeat (first | apply Kd.N_alloc | apply Kd.N_drewN | apply Kd.N_drew)); exact HO_7.out)) k_ hk_.2.1), (Kd.fresh' (Kd.N_lt (by (with_reducible repeat (first | apply Kd.N_alloc | apply Kd.N_drewN | apply Kd.N_drew)); exact HO379.out)) k_ hk_.2.1)⟩)) (below_size (by repeat (first | (with_reducible first | exact HB.out | apply below_alloc | apply pw_below_drewN | apply below_drew1) | exact HB.out)))); have n3_ := Aside0.mk (below_step (by repeat (first | (with_reducible first | exact HB.out | apply below_alloc | apply pw_below_drewN | apply below_drew1) | exact HB.out)) hb); clear HO_7; clear HO379; clear HB; have HO_7 := n0_; have HO379 := n1_; have HO384 := n2_; have HB := n3_; clear n0_ n1_ n2_ n3_; (try clear hb); (try clear hb2); (try clear hk); (try clear hi); (try clear ho0)))
                                  go_ret
                                  exact ⟨by first | rfl | (simp [errW_none, errW_some] <;> rfl) | (simp [*, errW_none, errW_some] <;> rfl), by repeat (first | (with_reducible first | exact HB.out | apply below_alloc | apply pw_below_drewN | apply below_drew1) | exact HB.out)⟩
                                · replace c63 := Bool.eq_false_iff.mpr c63
                                  subst c63
                                  have H1 : (if (t376 != (x14_4 == (wrap64 ((wrap64 ((4 : Int) / x4_18)) - 1)))) = true then (some false) else (laws_FnParts.l1 k4 x4_18 t375 (wrap64 (x14_4 + 1)))) = some r := by rw [if_neg (show ¬ (false = true) by decide)] at H; exact H
                                  clear H
                                  have H := H1
                                  clear H1
                                  by_cases c68 : (t376 != (x14_4 == (wrap64 ((wrap64 ((4 : Int) / x4_18)) - 1)))) = true
                                  · rw [if_pos c68] at H
                                    have c68b0 : (t376 != (x14_4 == (wrap64 ((wrap64 ((4 : Int) / x4_18)) - 1)))) = true := c68
                                    have c68b7 : (t376 != (x14_4 == (wrap64 ((wrap64 (Int.tdiv 4 x4_18)) - 1)))) = true := by rw [Int.tdiv_eq_ediv_of_nonneg (by decide)]; exact c68b0
                                    have c68b9 : (!(t376 == (x14_4 == (wrap64 ((wrap64 (Int.tdiv 4 x4_18)) - 1))))) = true := c68b7
                                    (try (have c68b1 : decide (t376 = (x14_4 == (wrap64 ((wrap64 ((4 : Int) / x4_18)) - 1)))) = false := by simpa using c68))
                                    (try (have c68b2 : (t376 == (x14_4 == (wrap64 ((wrap64 ((4 : Int) / x4_18)) - 1)))) = false := by simpa using c68))
                                    (try (have c68b3 : ¬ (t376 = (x14_4 == (wrap64 ((wrap64 ((4 : Int) / x4_18)) - 1)))) := by simpa using c68))
                                    clear c68
                                    obtain rfl := Option.some.inj H
                                    obtain ⟨Ao69, co69, eo69⟩ := Kd.N_slice HO_7.out
                                    subst eo69
                                    go_wp2_with (first | ((with_reducible refine gate_callee (f := 9) rfl ?_); refine goesL_ (some 103) rfl rfl Try.func9 (by kernel_rfl) rfl #[.slice Ao69 x7_4.length co69, .int .i64 20, .int .i64 x14_4] rfl (by (try simp only [List.map_toArray, List.map_cons, List.map_nil]); first | done | rfl | (simp only [List.length_drop, List.length_take]; rfl)) ?_; (with_reducible refine (impl_GivePart.calls k4 _ _ x7_4 20 x14_4 t375 t376 true _ ?side1 ?side2 A60.out).mono ?_); (case side1 => repeat (first | exact (Kd.N_reads' HO_7.out).2.2 | (with_reducible refine Kd.C_alloc ?_ _) | (with_reducible refine Kd.C_drewN ?_ _) | (with_reducible refine Kd.C_drew ?_))); (case side2 => exact (Kd.N_reads' HO_7.out).2.1); rintro e w70 ⟨v378, rfl, ho0, hb⟩; refine ⟨_, rfl, ?_⟩; have n0_ := Aside0.mk (Kd.N_elder' (by (with_reducible repeat (first | apply Kd.N_alloc | apply Kd.N_drewN | apply Kd.N_drew)); exact HO_7.out) (Kd.S_base ho0) hb); have n1_ := Aside0.mk (Kd.N_lower (Kd.N_mono (ok' := fun k_ => some k_ ≠ (.slice Ao69 x7_4.length co69 : Value).ownBlock) (Kd.S_N (Kd.S_bound ho0)) (fun k_ hk_ => (Kd.fresh' (Kd.N_lt (by (with_reducible repeat (first | apply Kd.N_alloc | apply Kd.N_drewN | apply Kd.N_drew)); exact HO_7.out)) k_ hk_.2.1))) (below_size (by repeat (first | (with_reducible first | exact HB.out | apply below_alloc | apply pw_below_drewN | apply below_drew1) | exact HB.out)))); have n2_ := Aside0.mk (below_step (by repeat (first | (with_reducible first | exact HB.out | apply below_alloc | apply pw_below_drewN | apply below_drew1) | exact HB.out)) hb); clear HO_7; clear HB; have HO_7 := n0_; have HO379 := n1_; have HB := n2_; clear n0_ n1_ n2_; (try clear hb); (try clear hb2); (try clear hk); (try clear hi); (try clear ho0); obtain ⟨Ao71, co71, eo71⟩ := Kd.N_slice HO379.out; subst eo71) | ((with_reducible refine gate_callee (f := 9) rfl ?_); refine goesL_ (some 110) rfl rfl Try.func9 (by kernel_rfl) rfl #[.slice Ao71 t375.length co71, .int .i64 20, .int .i64 x14_4] rfl (by (try simp only [List.map_toArray, List.map_cons, List.map_nil]); first | done | rfl | (simp only [List.length_drop, List.length_take]; rfl)) ?_; (with_reducible refine (impl_GivePart.calls k4 _ _ t375 20 x14_4 t380 t381 false _ ?side1 ?side2 A61.out).mono ?_); (case side1 => repeat (first | exact (Kd.N_reads' HO379.out).2.2 | (with_reducible refine Kd.C_alloc ?_ _) | (with_reducible refine Kd.C_drewN ?_ _) | (with_reducible refine Kd.C_drew ?_))); (case side2 => exact (Kd.N_reads' HO379.out).2.1); rintro e w72 ⟨v383, rfl, ho0, hb⟩; refine ⟨_, rfl, ?_⟩; have n0_ := Aside0.mk (Kd.N_elder' (by (with_reducible repeat (first | apply Kd.N_alloc | apply Kd.N_drewN | apply Kd.N_drew)); exact HO_7.out) (Kd.S_base ho0) hb); have n1_ := Aside0.mk (Kd.N_elder' (by (with_reducible repeat (first | apply Kd.N_alloc | apply Kd.N_drewN | apply Kd.N_drew)); exact HO379.out) (Kd.S_base ho0) hb); have n2_ := Aside0.mk (Kd.N_lower (Kd.N_mono (ok' := fun k_ => some k_ ≠ (.slice Ao69 x7_4.length co69 : Value).ownBlock ∧ some k_ ≠ (.slice Ao71 t375.length co71 : Value).ownBlock) (Kd.S_N (Kd.S_bound ho0)) (fun k_ hk_ => ⟨(Kd.fresh' (Kd.N_lt (by (with_reducible repeat (first | apply Kd.N_alloc | apply Kd.N_drewN | apply Kd.N_drew)); exact HO_7.out)) k_ hk_.2.1), (Kd.fresh' (Kd.N_lt (by (with_reducible repeat (first | apply Kd.N_alloc | apply Kd.N_drewN | apply Kd.N_drew)); exact HO379.out)) k_ hk_.2.1)⟩)) (below_size (by repeat (first | (with_reducible first | exact HB.out | apply below_alloc | apply pw_below_drewN | apply below_drew1) | exact HB.out)))); have n3_ := Aside0.mk (below_step (by repeat (first | (with_reducible first | exact HB.out | apply below_alloc | apply pw_below_drewN | apply below_drew1) | exact HB.out)) hb); clear HO_7; clear HO379; clear HB; have HO_7 := n0_; have HO379 := n1_; have HO384 := n2_; have HB := n3_; clear n0_ n1_ n2_ n3_; (try clear hb); (try clear hb2); (try clear hk); (try clear hi); (try clear ho0)))
                                    go_ret
                                    exact ⟨by first | rfl | (simp [errW_none, errW_some] <;> rfl) | (simp [*, errW_none, errW_some] <;> rfl), by repeat (first | (with_reducible first | exact HB.out | apply below_alloc | apply pw_below_drewN | apply below_drew1) | exact HB.out)⟩
                                  · rw [if_neg c68] at H
                                    have c68b0 : (t376 != (x14_4 == (wrap64 ((wrap64 ((4 : Int) / x4_18)) - 1)))) = false := by simpa using c68
                                    have c68b7 : (t376 != (x14_4 == (wrap64 ((wrap64 (Int.tdiv 4 x4_18)) - 1)))) = false := by rw [Int.tdiv_eq_ediv_of_nonneg (by decide)]; exact c68b0
                                    have c68b9 : (!(t376 == (x14_4 == (wrap64 ((wrap64 (Int.tdiv 4 x4_18)) - 1))))) = false := c68b7
                                    (try (have c68b1 : decide (t376 = (x14_4 == (wrap64 ((wrap64 ((4 : Int) / x4_18)) - 1)))) = true := by simpa using c68))
                                    (try (have c68b2 : (t376 == (x14_4 == (wrap64 ((wrap64 ((4 : Int) / x4_18)) - 1)))) = true := by simpa using c68))
                                    clear c68
                                    have H' := Aside0.mk H
                                    clear H
                                    obtain ⟨Ao73, co73, eo73⟩ := Kd.N_slice HO_7.out
                                    subst eo73
                                    go_wp2_with (first | ((with_reducible refine gate_callee (f := 9) rfl ?_); refine goesL_ (some 103) rfl rfl Try.func9 (by kernel_rfl) rfl #[.slice Ao73 x7_4.length co73, .int .i64 20, .int .i64 x14_4] rfl (by (try simp only [List.map_toArray, List.map_cons, List.map_nil]); first | done | rfl | (simp only [List.length_drop, List.length_take]; rfl)) ?_; (with_reducible refine (impl_GivePart.calls k4 _ _ x7_4 20 x14_4 t375 t376 true _ ?side1 ?side2 A60.out).mono ?_); (case side1 => repeat (first | exact (Kd.N_reads' HO_7.out).2.2 | (with_reducible refine Kd.C_alloc ?_ _) | (with_reducible refine Kd.C_drewN ?_ _) | (with_reducible refine Kd.C_drew ?_))); (case side2 => exact (Kd.N_reads' HO_7.out).2.1); rintro e w74 ⟨v378, rfl, ho0, hb⟩; refine ⟨_, rfl, ?_⟩; have n0_ := Aside0.mk (Kd.N_elder' (by (with_reducible repeat (first | apply Kd.N_alloc | apply Kd.N_drewN | apply Kd.N_drew)); exact HO_7.out) (Kd.S_base ho0) hb); have n1_ := Aside0.mk (Kd.N_lower (Kd.N_mono (ok' := fun k_ => some k_ ≠ (.slice Ao73 x7_4.length co73 : Value).ownBlock) (Kd.S_N (Kd.S_bound ho0)) (fun k_ hk_ => (Kd.fresh' (Kd.N_lt (by (with_reducible repeat (first | apply Kd.N_alloc | apply Kd.N_drewN | apply Kd.N_drew)); exact HO_7.out)) k_ hk_.2.1))) (below_size (by repeat (first | (with_reducible first | exact HB.out | apply below_alloc | apply pw_below_drewN | apply below_drew1) | exact HB.out)))); have n2_ := Aside0.mk (below_step (by repeat (first | (with_reducible first | exact HB.out | apply below_alloc | apply pw_below_drewN | apply below_drew1) | exact HB.out)) hb); clear HO_7; clear HB; have HO_7 := n0_; have HO379 := n1_; have HB := n2_; clear n0_ n1_ n2_; (try clear hb); (try clear hb2); (try clear hk); (try clear hi); (try clear ho0); obtain ⟨Ao75, co75, eo75⟩ := Kd.N_slice HO379.out; subst eo75) | ((with_reducible refine gate_callee (f := 9) rfl ?_); refine goesL_ (some 110) rfl rfl Try.func9 (by kernel_rfl) rfl #[.slice Ao75 t375.length co75, .int .i64 20, .int .i64 x14_4] rfl (by (try simp only [List.map_toArray, List.map_cons, List.map_nil]); first | done | rfl | (simp only [List.length_drop, List.length_take]; rfl)) ?_; (with_reducible refine (impl_GivePart.calls k4 _ _ t375 20 x14_4 t380 t381 false _ ?side1 ?side2 A61.out).mono ?_); (case side1 => repeat (first | exact (Kd.N_reads' HO379.out).2.2 | (with_reducible refine Kd.C_alloc ?_ _) | (with_reducible refine Kd.C_drewN ?_ _) | (with_reducible refine Kd.C_drew ?_))); (case side2 => exact (Kd.N_reads' HO379.out).2.1); rintro e w76 ⟨v383, rfl, ho0, hb⟩; refine ⟨_, rfl, ?_⟩; have n0_ := Aside0.mk (Kd.N_elder' (by (with_reducible repeat (first | apply Kd.N_alloc | apply Kd.N_drewN | apply Kd.N_drew)); exact HO_7.out) (Kd.S_base ho0) hb); have n1_ := Aside0.mk (Kd.N_elder' (by (with_reducible repeat (first | apply Kd.N_alloc | apply Kd.N_drewN | apply Kd.N_drew)); exact HO379.out) (Kd.S_base ho0) hb); have n2_ := Aside0.mk (Kd.N_lower (Kd.N_mono (ok' := fun k_ => some k_ ≠ (.slice Ao73 x7_4.length co73 : Value).ownBlock ∧ some k_ ≠ (.slice Ao75 t375.length co75 : Value).ownBlock) (Kd.S_N (Kd.S_bound ho0)) (fun k_ hk_ => ⟨(Kd.fresh' (Kd.N_lt (by (with_reducible repeat (first | apply Kd.N_alloc | apply Kd.N_drewN | apply Kd.N_drew)); exact HO_7.out)) k_ hk_.2.1), (Kd.fresh' (Kd.N_lt (by (with_reducible repeat (first | apply Kd.N_alloc | apply Kd.N_drewN | apply Kd.N_drew)); exact HO379.out)) k_ hk_.2.1)⟩)) (below_size (by repeat (first | (with_reducible first | exact HB.out | apply below_alloc | apply pw_below_drewN | apply below_drew1) | exact HB.out)))); have n3_ := Aside0.mk (below_step (by repeat (first | (with_reducible first | exact HB.out | apply below_alloc | apply pw_below_drewN | apply below_drew1) | exact HB.out)) hb); clear HO_7; clear HO379; clear HB; have HO_7 := n0_; have HO379 := n1_; have HO384 := n2_; have HB := n3_; clear n0_ n1_ n2_ n3_; (try clear hb); (try clear hb2); (try clear hk); (try clear hi); (try clear ho0)))
                                    go_roundg k4
                                    case measure => have := HJ4.out; have := HJ18.out; have := HJ24.out; have := HK4.out; omega
                                    case rel => exact ⟨(t375), (wrap64 (x14_4 + 1)), (by first | rfl | (simp; done) | (simp [*]; done)), H', ⟨by have := HJ4.out; have := HJ18.out; have := HJ24.out; have := HK4.out; omega⟩, ⟨by (with_reducible repeat (first | apply Kd.N_alloc | apply Kd.N_drewN | apply Kd.N_drew)); exact Kd.N_mono HO379.out (fun _ hk => trivial)⟩, ⟨by repeat (first | (with_reducible first | exact HB.out | apply below_alloc | apply pw_below_drewN | apply below_drew1) | exact HB.out)⟩⟩
                              · replace c62 := Bool.eq_false_iff.mpr c62
                                subst c62
                                have H1 : (some false) = some r := by rw [if_neg (show ¬ (false = true) by decide)] at H; exact H
                                clear H
                                have H := H1
                                clear H1
                                obtain rfl := Option.some.inj H
                                obtain ⟨Ao77, co77, eo77⟩ := Kd.N_slice HO_7.out
                                subst eo77
                                go_wp2_with (first | ((with_reducible refine gate_callee (f := 9) rfl ?_); refine goesL_ (some 103) rfl rfl Try.func9 (by kernel_rfl) rfl #[.slice Ao77 x7_4.length co77, .int .i64 20, .int .i64 x14_4] rfl (by (try simp only [List.map_toArray, List.map_cons, List.map_nil]); first | done | rfl | (simp only [List.length_drop, List.length_take]; rfl)) ?_; (with_reducible refine (impl_GivePart.calls k4 _ _ x7_4 20 x14_4 t375 t376 false _ ?side1 ?side2 A60.out).mono ?_); (case side1 => repeat (first | exact (Kd.N_reads' HO_7.out).2.2 | (with_reducible refine Kd.C_alloc ?_ _) | (with_reducible refine Kd.C_drewN ?_ _) | (with_reducible refine Kd.C_drew ?_))); (case side2 => exact (Kd.N_reads' HO_7.out).2.1); rintro e w78 ⟨v378, rfl, ho0, hb⟩; refine ⟨_, rfl, ?_⟩; have n0_ := Aside0.mk (Kd.N_elder' (by (with_reducible repeat (first | apply Kd.N_alloc | apply Kd.N_drewN | apply Kd.N_drew)); exact HO_7.out) (Kd.S_base ho0) hb); have n1_ := Aside0.mk (Kd.N_lower (Kd.N_mono (ok' := fun k_ => some k_ ≠ (.slice Ao77 x7_4.length co77 : Value).ownBlock) (Kd.S_N (Kd.S_bound ho0)) (fun k_ hk_ => (Kd.fresh' (Kd.N_lt (by (with_reducible repeat (first | apply Kd.N_alloc | apply Kd.N_drewN | apply Kd.N_drew)); exact HO_7.out)) k_ hk_.2.1))) (below_size (by repeat (first | (with_reducible first | exact HB.out | apply below_alloc | apply pw_below_drewN | apply below_drew1) | exact HB.out)))); have n2_ := Aside0.mk (below_step (by repeat (first | (with_reducible first | exact HB.out | apply below_alloc | apply pw_below_drewN | apply below_drew1) | exact HB.out)) hb); clear HO_7; clear HB; have HO_7 := n0_; have HO379 := n1_; have HB := n2_; clear n0_ n1_ n2_; (try clear hb); (try clear hb2); (try clear hk); (try clear hi); (try clear ho0); obtain ⟨Ao79, co79, eo79⟩ := Kd.N_slice HO379.out; subst eo79) | ((with_reducible refine gate_callee (f := 9) rfl ?_); refine goesL_ (some 110) rfl rfl Try.func9 (by kernel_rfl) rfl #[.slice Ao79 t375.length co79, .int .i64 20, .int .i64 x14_4] rfl (by (try simp only [List.map_toArray, List.map_cons, List.map_nil]); first | done | rfl | (simp only [List.length_drop, List.length_take]; rfl)) ?_; (with_reducible refine (impl_GivePart.calls k4 _ _ t375 20 x14_4 t380 t381 t382 _ ?side1 ?side2 A61.out).mono ?_); (case side1 => repeat (first | exact (Kd.N_reads' HO379.out).2.2 | (with_reducible refine Kd.C_alloc ?_ _) | (with_reducible refine Kd.C_drewN ?_ _) | (with_reducible refine Kd.C_drew ?_))); (case side2 => exact (Kd.N_reads' HO379.out).2.1); rintro e w80 ⟨v383, rfl, ho0, hb⟩; refine ⟨_, rfl, ?_⟩; have n0_ := Aside0.mk (Kd.N_elder' (by (with_reducible repeat (first | apply Kd.N_alloc | apply Kd.N_drewN | apply Kd.N_drew)); exact HO_7.out) (Kd.S_base ho0) hb); have n1_ := Aside0.mk (Kd.N_elder' (by (with_reducible repeat (first | apply Kd.N_alloc | apply Kd.N_drewN | apply Kd.N_drew)); exact HO379.out) (Kd.S_base ho0) hb); have n2_ := Aside0.mk (Kd.N_lower (Kd.N_mono (ok' := fun k_ => some k_ ≠ (.slice Ao77 x7_4.length co77 : Value).ownBlock ∧ some k_ ≠ (.slice Ao79 t375.length co79 : Value).ownBlock) (Kd.S_N (Kd.S_bound ho0)) (fun k_ hk_ => ⟨(Kd.fresh' (Kd.N_lt (by (with_reducible repeat (first | apply Kd.N_alloc | apply Kd.N_drewN | apply Kd.N_drew)); exact HO_7.out)) k_ hk_.2.1), (Kd.fresh' (Kd.N_lt (by (with_reducible repeat (first | apply Kd.N_alloc | apply Kd.N_drewN | apply Kd.N_drew)); exact HO379.out)) k_ hk_.2.1)⟩)) (below_size (by repeat (first | (with_reducible first | exact HB.out | apply below_alloc | apply pw_below_drewN | apply below_drew1) | exact HB.out)))); have n3_ := Aside0.mk (below_step (by repeat (first | (with_reducible first | exact HB.out | apply below_alloc | apply pw_below_drewN | apply below_drew1) | exact HB.out)) hb); clear HO_7; clear HO379; clear HB; have HO_7 := n0_; have HO379 := n1_; have HO384 := n2_; have HB := n3_; clear n0_ n1_ n2_ n3_; (try clear hb); (try clear hb2); (try clear hk); (try clear hi); (try clear ho0)))
                                go_ret
                                exact ⟨by first | rfl | (simp [errW_none, errW_some] <;> rfl) | (simp [*, errW_none, errW_some] <;> rfl), by repeat (first | (with_reducible first | exact HB.out | apply below_alloc | apply pw_below_drewN | apply below_drew1) | exact HB.out)⟩
                            · rw [if_neg c59] at H
                              have c59b0 : decide (x14_4 < (wrap64 ((4 : Int) / x4_18))) = false := decide_eq_false c59
                              have c59b7 : decide (x14_4 < (wrap64 (Int.tdiv 4 x4_18))) = false := by rw [Int.tdiv_eq_ediv_of_nonneg (by decide)]; exact c59b0
                              clear c59
                              obtain rfl := Option.some.inj H
                              go_wp2
                              go_ret
                              exact ⟨by first | rfl | (simp [errW_none, errW_some] <;> rfl) | (simp [*, errW_none, errW_some] <;> rfl), by repeat (first | (with_reducible first | exact HB.out | apply below_alloc | apply pw_below_drewN | apply below_drew1) | exact HB.out)⟩
            · replace c24 := Bool.eq_false_iff.mpr c24
              subst c24
              have H1 : (some (decide ((t357.length : Int) > 0))) = some r := by rw [if_neg (show ¬ (false = true) by decide)] at H; exact H
              clear H
              have H := H1
              clear H1
              obtain rfl := Option.some.inj H
              obtain ⟨Ao81, co81, eo81⟩ := Kd.N_slice HO_3.out
              subst eo81
              go_wp2_with (first | ((with_reducible refine gate_callee (f := 16) rfl ?_); refine goesL_ (some 47) rfl rfl Try.func16 (by kernel_rfl) rfl #[.slice Ao81 x3_18.length co81, .int .i64 20, .int .i64 x4_18] rfl (by (try simp only [List.map_toArray, List.map_cons, List.map_nil]); first | done | rfl | (simp only [List.length_drop, List.length_take]; rfl)) ?_; (with_reducible refine (impl_AddSlab.calls kj18 _ _ x3_18 20 x4_18 t357 false _ ?side1 ?side2 A23.out).mono ?_); (case side1 => repeat (first | exact (Kd.N_reads' HO_3.out).2.2 | (with_reducible refine Kd.C_alloc ?_ _) | (with_reducible refine Kd.C_drewN ?_ _) | (with_reducible refine Kd.C_drew ?_))); (case side2 => exact (Kd.N_reads' HO_3.out).2.1); rintro e w82 ⟨v359, rfl, ho0, hb⟩; refine ⟨_, rfl, ?_⟩; have n0_ := Aside0.mk (Kd.N_elder' (by (with_reducible repeat (first | apply Kd.N_alloc | apply Kd.N_drewN | apply Kd.N_drew)); exact HO_3.out) (Kd.S_base ho0) hb); have n1_ := Aside0.mk (Kd.N_lower (Kd.N_mono (ok' := fun k_ => some k_ ≠ (.slice Ao81 x3_18.length co81 : Value).ownBlock) (Kd.S_N (Kd.S_bound ho0)) (fun k_ hk_ => (Kd.fresh' (Kd.N_lt (by (with_reducible repeat (first | apply Kd.N_alloc | apply Kd.N_drewN | apply Kd.N_drew)); exact HO_3.out)) k_ hk_.2.1))) (below_size (by repeat (first | (with_reducible first | exact HB.out | apply below_alloc | apply pw_below_drewN | apply below_drew1) | exact HB.out)))); have n2_ := Aside0.mk (below_step (by repeat (first | (with_reducible first | exact HB.out | apply below_alloc | apply pw_below_drewN | apply below_drew1) | exact HB.out)) hb); clear HO_3; clear HB; have HO_3 := n0_; have HO360 := n1_; have HB := n2_; clear n0_ n1_ n2_; (try clear hb); (try clear hb2); (try clear hk); (try clear hi); (try clear ho0); obtain ⟨Ao83, co83, eo83⟩ := Kd.N_slice HO360.out; subst eo83))
              go_ret
              exact ⟨by first | rfl | (simp [errW_none, errW_some] <;> rfl) | (simp [*, errW_none, errW_some] <;> rfl), by repeat (first | (with_reducible first | exact HB.out | apply below_alloc | apply pw_below_drewN | apply below_drew1) | exact HB.out)⟩

/-- THE ONE PURE STATEMENT of laws_FnParts: yours. -/
def laws_FnParts.Pure : Prop := ∀ (l0 : List Int), l0.length ≤ maxLen → l0.length * 1 ≤ 140737488351232 → (∀ x ∈ l0, (Lit.int .u8 x).wf = true) → ∃ k, laws_FnParts.f k l0 = some true
theorem laws_FnParts.walk (P : laws_FnParts.Pure) (a0 : Option Addr) (len0 cap0 : Nat) (z0 : List Int) (w : World) (w0 : (a0 = none ∧ len0 = 0 ∧ cap0 = 0 ∧ z0 = []) ∨ ∃ x, a0 = some x ∧ len0 ≤ cap0 ∧ cap0 ≤ maxLen ∧ z0.length = cap0 ∧ (∀ i, i < z0.length → w.cell? (x.add i) = some (.int .u8 (z0.getD i 0))) ∧ ∀ n ∈ z0, (Lit.int .u8 n).wf = true) (y0 : len0 * 1 ≤ 140737488351232) :
    Calls Try.prog 4 #[.slice a0 len0 cap0] w fun e w' => e = .returned (.bool true) ∧ Below w.heap.size w w' := by
  obtain ⟨l0, rfl, hr0, hm0, hw0, hc0⟩ := ReadsInt.ofRowC w0
  obtain ⟨k, h⟩ := P l0 hm0 y0 hw0
  refine (laws_FnParts.calls k _ _ l0 true w (Kd.C_of_reads (d := (0 : Int)) (h1 := fun _ => rfl) hr0) hc0 h).mono ?_
  rintro e w' ⟨rfl, hd⟩
  exact ⟨rfl, hd⟩

end Go.Proofs.Ytpkdfdkicblheaa.P
end
