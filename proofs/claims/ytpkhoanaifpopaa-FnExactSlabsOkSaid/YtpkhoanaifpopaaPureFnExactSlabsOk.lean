/- SlabsOk answers as the reference at all slabs: the plain half. No condition. -/
import Derived.Test.YtpkhoanaifpopaaP0
import Derived.Test.YtpkhoanaifpopaaP3
import Derived.Test.YtpkhoanaifpopaaP11
import Derived.Test.YtpkhoanaifpopaaP75
import Derived.Test.YtpkhoanaifpopaaP76
import Derived.Test.YtpkhoanaifpopaaP77
import Derived.Test.YtpkhoanaifpopaaP78
import Derived.Test.YtpkhoanaifpopaaP79
import Derived.Test.YtpkhoanaifpopaaP80
import Derived.Test.YtpkhoanaifpopaaP81
import Derived.Test.YtpkhoanaifpopaaP82
import Derived.Test.YtpkhoanaifpopaaP83
import Derived.Test.YtpkhoanaifpopaaP84
import Derived.Test.YtpkhoanaifpopaaP85
import Derived.Test.YtpkhoanaifpopaaP86
import Derived.Test.YtpkhoanaifpopaaP87
import Derived.Test.YtpkhoanaifpopaaP88
import Derived.Test.YtpkhoanaifpopaaP89
import Derived.Test.YtpkhoanaifpopaaP90
import Derived.Test.YtpkhoanaifpopaaAid
namespace Go.Proofs.Ytpkhoanaifpopaa.Pure
open Go.RowKit Go.Proofs.Ytpkhoanaifpopaa.P Go.Proofs.YtpkhoanaifpopaaW.PrintWords Go.Proofs.YtpkhoanaifpopaaW.PrintLast Go.Proofs.YtpkhoanaifpopaaW.PrintMore Go.Proofs.Ytpkhoanaifpopaa.Aid
set_option linter.unusedVariables false
set_option linter.unusedSimpArgs false

theorem l01In_eq (a b c : Int) : spec_l01In.f a b c = some (decide (b ≤ a ∧ a ≤ c)) := in_dec a b c
theorem within_eq (a b c : Int) : impl_within.f a b c = some (decide (b ≤ a ∧ a ≤ c)) := in_dec a b c
theorem szBoolS_eq (l : List Bool) (hl : l.length ≤ maxLen) (a : Int) (h0 : 0 ≤ a) (h1 : a ≤ 1048576) : laws_szBoolS.f l a = some (if (l.length : Int) ≤ a then a - l.length else -1) := by
  unfold maxLen at hl
  unfold laws_szBoolS.f
  have e : wrap64 (a - (l.length : Int)) = a - l.length := by unfold wrap64; omega
  rw [e]
  by_cases h : (l.length : Int) ≤ a
  · rw [if_neg (by omega), if_pos h]
  · rw [if_pos (by omega), if_neg h]
theorem toBoolS_ev (l : List Bool) (hl : l.length ≤ 1048576) : Ev (fun k => laws_toBoolS.f k l) l := by
  have key := ev_copy0 (fun k acc i => laws_toBoolS.l0 k l acc (i : Int)) l.length (fun i => l.getD i false) id (by
    intro i acc hi ha r h
    refine Ev.step (fun k => ?_) h
    simp only [laws_toBoolS.l0]
    rw [if_pos (by omega), if_pos (by omega), if_pos (by omega), wrap_succ (by omega), toNat_cast]
    rfl) (by
    intro acc ha
    refine Ev.of_succ (fun k => ?_)
    simp only [laws_toBoolS.l0]
    rw [if_neg (by omega)]
    rfl) (List.replicate l.length false) (by simp)
  rw [range_map_getD] at key
  refine Ev.congr (fun k => ?_) key
  unfold laws_toBoolS.f
  rw [if_pos (by omega), if_pos (by omega), toNat_cast]
  rfl
theorem eqBoolS_refl (l : List Bool) (hl : l.length ≤ 1048576) : Ev (fun k => laws_eqBoolS.f k l l) true := by
  have key := ev_all0 (fun k i => laws_eqBoolS.l0 k l l (i : Int)) l.length (fun _ => true) false true (by
    intro i hi _ r h
    refine Ev.step (fun k => ?_) h
    simp only [laws_eqBoolS.l0]
    rw [if_pos (by omega), if_pos (by omega), if_pos (by omega), if_neg (by simp), wrap_succ (by omega)]) (by intro i _ h; cases h) (by
    refine Ev.of_succ (fun k => ?_)
    simp only [laws_eqBoolS.l0]
    rw [if_neg (by omega)])
  rw [if_pos (by simp)] at key
  refine Ev.congr (fun k => ?_) key
  unfold laws_eqBoolS.f
  rw [if_pos rfl]
  rfl
theorem map_getD {α β : Type} (f : α → β) (l : List α) (d : α) : (List.range l.length).map (fun i => f (l.getD i d)) = l.map f := by
  rw [show (fun i => f (l.getD i d)) = f ∘ (fun i => l.getD i d) from rfl, ← List.map_map, range_map_getD]
abbrev SlabW := S122
abbrev SlabL := S120
abbrev zbl : SlabL := z120
abbrev zbw : SlabW := z122
def toSlab (r : SlabL) : SlabW := ⟨r.f0, r.f1, r.f2⟩
theorem rdBL (l : List SlabL) (i : Nat) : rd_T120 l (i : Int) = l.getD i zbl := by unfold rd_T120; rw [toNat_cast]
theorem rdBW (l : List SlabW) (i : Nat) : rd_T122 l (i : Int) = l.getD i zbw := by unfold rd_T122; rw [toNat_cast]
theorem szSlab_eq (s : SlabL) (hl : s.f2.length ≤ maxLen) (a : Int) (h0 : 0 ≤ a) (h1 : a ≤ 1048576) : laws_szSlab.f s.f0 s.f1 s.f2 a = some (if (s.f2.length : Int) ≤ a then (a - (s.f2.length : Int) : Int) else (-1 : Int)) := by
  unfold laws_szSlab.f
  rw [szBoolS_eq _ hl a h0 h1]
  simp only [Option.bind_some]
  by_cases h : (s.f2.length : Int) ≤ a
  · rw [if_pos h, if_neg (by omega)]
  · rw [if_neg h, if_pos (by omega)]
theorem mem_getD_b {α : Type} {l : List α} {i : Nat} (h : i < l.length) (d : α) : l.getD i d ∈ l := by
  rw [List.getD_eq_getElem?_getD, List.getElem?_eq_getElem h]; exact List.getElem_mem h
def SmallSl (l : List SlabL) : Prop := l.length ≤ 1048576 ∧ ∀ x ∈ l, x.f2.length ≤ 1048576
theorem szSlabS_ev (l : List SlabL) (hl : l.length ≤ maxLen) (hls : ∀ x ∈ l, x.f2.length ≤ maxLen) :
    ∃ r, Ev (fun k => laws_szSlabS.f k l 1048576) r ∧ (0 ≤ r → SmallSl l ∧ (l.length : Int) + ((l.map (fun s => s.f2.length)).sum : Nat) ≤ 1048576) := by
  by_cases hlen : (l.length : Int) ≤ 1048576
  · obtain ⟨r, hr, hq⟩ := ev_sz (fun k b i => laws_szSlabS.l0 k l b (i : Int)) l.length (fun i => (l.getD i zbl).f2.length) (by
      intro i b hi h0 h1 hs r h
      refine Ev.step (fun k => ?_) h
      simp only [laws_szSlabS.l0]
      rw [if_pos (by omega), if_pos (by omega), rdBL, szSlab_eq _ (hls _ (mem_getD_b hi _)) b h0 h1, if_pos hs]
      simp only [Option.bind_some]
      rw [if_neg (by omega), wrap_succ (by simp only [maxLen] at hl; omega)]) (by
      intro i b hi h0 h1 hs
      refine Ev.of_succ (fun k => ?_)
      simp only [laws_szSlabS.l0]
      rw [if_pos (by omega), if_pos (by omega), rdBL, szSlab_eq _ (hls _ (mem_getD_b hi _)) b h0 h1, if_neg hs]
      simp only [Option.bind_some]
      rw [if_pos (by omega)]) (by
      intro b
      refine Ev.of_succ (fun k => ?_)
      simp only [laws_szSlabS.l0]
      rw [if_neg (by omega)]) (1048576 - (l.length : Int)) (by omega) (by omega)
    refine ⟨r, Ev.congr (fun k => ?_) hr, fun h => ?_⟩
    · unfold laws_szSlabS.f
      rw [sub_len (by omega) (by omega) hl, if_neg (by omega)]
      rfl
    · have := hq h
      refine ⟨⟨by omega, fun x hx => ?_⟩, ?_⟩
      · obtain ⟨i, hi, rfl⟩ := List.getElem_of_mem hx
        have h5 := sum_ge (fun i => (l.getD i zbl).f2.length) hi
        simp only [List.getD_eq_getElem?_getD, List.getElem?_eq_getElem hi, Option.getD_some] at h5
        simp only [List.getD_eq_getElem?_getD] at this
        omega
      · rw [map_getD (fun s : SlabL => s.f2.length) l zbl] at this
        omega
  · refine ⟨-1, Ev.const (fun k => ?_), fun h => by omega⟩
    unfold laws_szSlabS.f
    rw [sub_len (by omega) (by omega) hl, if_pos (by omega)]
theorem SmallSl.at_ {l : List SlabL} (h : SmallSl l) (i : Nat) : (l.getD i zbl).f2.length ≤ 1048576 := by
  by_cases hi : i < l.length
  · exact h.2 _ (mem_getD_b hi _)
  · rw [List.getD_eq_getElem?_getD, List.getElem?_eq_none (by omega)]; decide
theorem toSlabS_ev (l : List SlabL) (hl : SmallSl l) : Ev (fun k => laws_toSlabS.f k l) (l.map toSlab) := by
  have h1 := hl.1
  have key := ev_copy0 (fun k acc i => laws_toSlabS.l0 k l acc (i : Int)) l.length (fun i => toSlab (l.getD i zbl)) id (by
    intro i acc hi ha r h
    refine Ev.step (f := fun k => (laws_toBoolS.f k (l.getD i zbl).f2).bind fun t => laws_toSlabS.l0 k l (acc.set i (⟨(l.getD i zbl).f0, (l.getD i zbl).f1, t⟩ : SlabW)) ((i + 1 : Nat) : Int)) (fun k => ?_) (Ev.bind (toBoolS_ev _ (hl.at_ i)) h)
    simp only [laws_toSlabS.l0]
    rw [if_pos (by omega), if_pos (by omega), rdBL]
    unfold laws_toSlab.f
    rw [Option.bind_assoc]
    congr 1
    funext t
    simp only [Option.bind_some]
    rw [if_pos (by omega), wrap_succ (by omega), toNat_cast]) (by
    intro acc ha
    refine Ev.of_succ (fun k => ?_)
    simp only [laws_toSlabS.l0]
    rw [if_neg (by omega)]
    rfl) (List.replicate l.length zbw) (by simp)
  rw [map_getD toSlab l zbl] at key
  refine Ev.congr (fun k => ?_) key
  unfold laws_toSlabS.f
  rw [if_pos (by omega), if_pos (by omega), toNat_cast]
  rfl
def SmallSw (l : List SlabW) : Prop := l.length ≤ 1048576 ∧ ∀ x ∈ l, x.f2.length ≤ 1048576
theorem SmallSl.toW {l : List SlabL} (h : SmallSl l) : SmallSw (l.map toSlab) := by
  refine ⟨by simpa using h.1, fun x hx => ?_⟩
  obtain ⟨y, hy, rfl⟩ := List.mem_map.1 hx
  exact h.2 y hy
theorem SmallSw.at_ {l : List SlabW} (h : SmallSw l) (i : Nat) : (l.getD i zbw).f2.length ≤ 1048576 := by
  by_cases hi : i < l.length
  · exact h.2 _ (mem_getD_b hi _)
  · rw [List.getD_eq_getElem?_getD, List.getElem?_eq_none (by omega)]; decide
theorem eqSlabS_refl (l : List SlabW) (hl : SmallSw l) : Ev (fun k => laws_eqSlabS.f k l l) true := by
  have h1 := hl.1
  have key := ev_all0 (fun k i => laws_eqSlabS.l0 k l l (i : Int)) l.length (fun _ => true) false true (by
    intro i hi _ r h
    refine Ev.step (f := fun k => (laws_eqBoolS.f k (l.getD i zbw).f2 (l.getD i zbw).f2).bind fun t => (if t = true then (some true) else (some false)).bind fun t => if t = true then laws_eqSlabS.l0 k l l ((i + 1 : Nat) : Int) else some false) (fun k => ?_) (Ev.bind (eqBoolS_refl _ (hl.at_ i)) (by simp only [if_true, Option.bind_some]; exact h))
    simp only [laws_eqSlabS.l0]
    rw [if_pos (by omega), if_pos (by omega), if_pos (by omega), rdBW]
    unfold laws_eqSlab.f
    rw [if_pos rfl, if_pos rfl, Option.bind_assoc, wrap_succ (by omega)]) (by intro i _ h; cases h) (by
    refine Ev.of_succ (fun k => ?_)
    simp only [laws_eqSlabS.l0]
    rw [if_neg (by omega)])
  rw [if_pos (by simp)] at key
  refine Ev.congr (fun k => ?_) key
  unfold laws_eqSlabS.f
  rw [if_pos rfl]
  rfl
theorem index_ev (l : List Bool) (hl : l.length ≤ 1000000) (b : Bool) : ∃ r, Ev (fun k => slices_Index_bool_bool.f k l b) r ∧ decide (r ≥ 0) = l.any (fun y => b == y) := by
  have h0 : ∀ d i, i + d = l.length → ∃ r, Ev (fun k => slices_Index_bool_bool.l0 k l b (l.length : Int) (i : Int)) r ∧ decide (r ≥ 0) = (l.drop i).any (fun y => b == y) := by
    intro d
    induction d with
    | zero =>
      intro i hi
      refine ⟨-1, Ev.of_succ (fun k => ?_), ?_⟩
      · simp only [slices_Index_bool_bool.l0]
        rw [if_neg (by omega)]
      · rw [List.drop_of_length_le (by omega)]; rfl
    | succ d ih =>
      intro i hi
      have hlt : i < l.length := by omega
      have hr : rdOf false l (i : Int) = l[i] := by unfold rdOf; rw [toNat_cast]; simp [List.getD_eq_getElem?_getD, List.getElem?_eq_getElem hlt]
      rw [List.drop_eq_getElem_cons hlt, List.any_cons]
      by_cases hb : (b == l[i]) = true
      · refine ⟨i, Ev.of_succ (fun k => ?_), ?_⟩
        · simp only [slices_Index_bool_bool.l0]
          rw [if_pos (by omega), if_pos (by omega), if_pos (by omega), hr, if_pos hb]
        · rw [hb, Bool.true_or]; simp
      · obtain ⟨r, h1, h2⟩ := ih (i + 1) (by omega)
        refine ⟨r, Ev.step (fun k => ?_) h1, ?_⟩
        · simp only [slices_Index_bool_bool.l0]
          rw [if_pos (by omega), if_pos (by omega), if_pos (by omega), hr, if_neg hb, wrap_succ (by omega)]
        · rw [show (b == l[i]) = false by simpa using hb, Bool.false_or, h2]
  obtain ⟨r, h1, h2⟩ := h0 l.length 0 (by omega)
  exact ⟨r, h1, by simpa using h2⟩
theorem contains_ev (l : List Bool) (hl : l.length ≤ 1000000) (b : Bool) : Ev (fun k => slices_Contains_bool_bool.f k l b) (l.any (fun y => b == y)) := by
  unfold slices_Contains_bool_bool.f
  obtain ⟨r, h1, h2⟩ := index_ev l hl b
  refine Ev.bind h1 ?_
  rw [h2]
  exact Ev.now _
def slabAt (l : List SlabW) (i : Nat) : SlabW := l.getD i zbw
def partB (s : Int) : Bool := decide (s = 1) || decide (s = 2) || decide (s = 4)
def usedB (l : List Bool) : Bool := l.any (fun y => true == y)
def slabB (s : SlabW) : Bool := decide (0 ≤ s.f0 ∧ s.f0 ≤ 31) && partB s.f1 && decide ((s.f2.length : Int) = 4 / s.f1) && usedB s.f2
def okSl (l : List SlabW) (i : Nat) : Bool := slabB (slabAt l i) && (decide (i = 0) || decide ((slabAt l (i - 1)).f0 < (slabAt l i).f0))
def slabsB (l : List SlabW) : Bool := decide (l.length ≤ 32) && (List.range l.length).all (okSl l)
theorem partB_or {s : Int} (h : partB s = true) : s = 1 ∨ s = 2 ∨ s = 4 := by
  unfold partB at h
  simp only [Bool.or_eq_true, decide_eq_true_eq] at h
  omega
theorem part_wrap {s : Int} (h : partB s = true) : wrap64 ((4 : Int) / s) = 4 / s ∧ s ≠ 0 := by
  rcases partB_or h with rfl | rfl | rfl <;> exact ⟨wrap64_id (by omega) (by omega), by decide⟩
theorem isPart_eq (s : Int) : impl_isPartSize.f s = some (partB s) := by
  unfold impl_isPartSize.f partB
  by_cases h1 : s = 1
  · rw [if_pos h1]; simp [h1]
  · rw [if_neg h1]
    by_cases h2 : s = 2
    · rw [if_pos h2]; simp [h2]
    · rw [if_neg h2]
      congr 1
      simp [h1, h2]
      rw [Bool.eq_iff_iff]; simp
theorem used_ev (f0 f1 : Int) (l : List Bool) (hl : l.length ≤ 1048576) : Ev (fun k => spec_l04Slab.l0 k false 0 f0 f1 l) (usedB l) := by
  have key : ∀ (d i : Nat) (b : Bool), i + d = l.length → Ev (fun k => spec_l04Slab.l0 k b (i : Int) f0 f1 l) (b || usedB (l.drop i)) := by
    intro d
    induction d with
    | zero =>
      intro i b hi
      rw [List.drop_of_length_le (by omega)]
      refine Ev.of_succ (fun k => ?_)
      simp only [spec_l04Slab.l0]
      rw [if_neg (by omega)]
      simp [usedB]
    | succ d ih =>
      intro i b hi
      have hlt : i < l.length := by omega
      have hr : rdOf false l (i : Int) = l[i] := by unfold rdOf; rw [toNat_cast]; simp [List.getD_eq_getElem?_getD, List.getElem?_eq_getElem hlt]
      have hd : usedB (l.drop i) = (l[i] || usedB (l.drop (i + 1))) := by rw [List.drop_eq_getElem_cons hlt]; unfold usedB; rw [List.any_cons]; simp
      rw [hd]
      cases b with
      | true =>
        have := ih (i + 1) true (by omega)
        rw [Bool.true_or] at this ⊢
        refine Ev.step (fun k => ?_) this
        simp only [spec_l04Slab.l0]
        rw [if_pos (by omega), if_pos trivial, wrap_succ (by omega)]
      | false =>
        rw [Bool.false_or]
        refine Ev.step (fun k => ?_) (ih (i + 1) l[i] (by omega))
        simp only [spec_l04Slab.l0]
        rw [if_pos (by omega), if_neg (by simp), if_pos (by omega), hr, wrap_succ (by omega)]
  have := key l.length 0 false (by omega)
  rw [Bool.false_or, List.drop_zero] at this
  exact this
theorem l04Slab_ev (s : SlabW) (hl : s.f2.length ≤ 1048576) : Ev (fun k => spec_l04Slab.f k s.f0 s.f1 s.f2) (slabB s) := by
  have bad : Ev (fun k => spec_l04Slab.j0 k true s.f0 s.f1 s.f2) false := Ev.of_succ (fun k => by simp only [spec_l04Slab.j0]; rw [if_pos trivial])
  have good : partB s.f1 = true → Ev (fun k => spec_l04Slab.j0 k ((s.f2.length : Int) != (wrap64 ((4 : Int) / s.f1))) s.f0 s.f1 s.f2) (decide ((s.f2.length : Int) = 4 / s.f1) && usedB s.f2) := by
    intro hp
    rw [(part_wrap hp).1]
    by_cases h : (s.f2.length : Int) = 4 / s.f1
    · rw [show ((s.f2.length : Int) != 4 / s.f1) = false by simpa using h, decide_eq_true h, Bool.true_and]
      refine Ev.step (fun k => ?_) (used_ev s.f0 s.f1 s.f2 hl)
      simp only [spec_l04Slab.j0]
      rw [if_neg (by simp)]
    · rw [show ((s.f2.length : Int) != 4 / s.f1) = true by simpa using h, decide_eq_false h, Bool.false_and]
      exact bad
  unfold spec_l04Slab.f slabB
  rw [l01In_eq]
  simp only [Option.bind_some]
  by_cases hf : 0 ≤ s.f0 ∧ s.f0 ≤ 31
  · simp only [decide_eq_true hf, if_true, Bool.true_and]
    by_cases hp : partB s.f1 = true
    · rw [hp, Bool.true_and]
      have hne := (part_wrap hp).2
      have hg := good hp
      by_cases h1 : s.f1 = 1
      · simp only [if_pos h1, if_neg hne]; exact hg
      · by_cases h2 : s.f1 = 2
        · simp only [if_neg h1, if_pos h2, if_neg hne]; exact hg
        · have h4 : s.f1 = 4 := by rcases partB_or hp with h | h | h <;> omega
          simp only [if_neg h1, if_neg h2, if_pos h4, if_neg hne]; exact hg
    · rw [show partB s.f1 = false by simpa using hp, Bool.false_and, Bool.false_and]
      have hq : ¬ (s.f1 = 1 ∨ s.f1 = 2 ∨ s.f1 = 4) := by
        intro h
        apply hp
        unfold partB
        rcases h with h | h | h <;> simp [h]
      simp only [if_neg (show ¬ s.f1 = 1 by omega), if_neg (show ¬ s.f1 = 2 by omega), if_neg (show ¬ s.f1 = 4 by omega)]
      exact bad
  · simp only [decide_eq_false hf, Bool.false_eq_true, if_false, Bool.false_and]
    exact bad
theorem wrap_pred_s {i : Nat} (h0 : 0 < i) (h : i < 9223372036854775807) : wrap64 ((i : Int) - 1) = ((i - 1 : Nat) : Int) := by unfold wrap64; omega
theorem okSl_cases {l : List SlabW} {i : Nat} (h0 : ¬ i = 0) : okSl l i = (slabB (slabAt l i) && decide ((slabAt l (i - 1)).f0 < (slabAt l i).f0)) := by unfold okSl; rw [decide_eq_false h0, Bool.false_or]
theorem spec_SlabsOk_ev (l : List SlabW) (hl : SmallSw l) : Ev (fun k => spec_SlabsOk.f k l) (slabsB l) := by
  have hll := hl.1
  unfold spec_SlabsOk.f slabsB
  by_cases h12 : (l.length : Int) > 32
  · simp only [if_pos h12, decide_eq_false (show ¬ l.length ≤ 32 by omega), Bool.false_and]; exact Ev.now _
  · simp only [if_neg h12, decide_eq_true (show l.length ≤ 32 by omega), Bool.true_and]
    have step : ∀ (i : Nat), i < l.length → ∀ r, Ev (fun k => (if slabB (slabAt l i) = true then (if (i : Int) > 0 then (if 0 ≤ (wrap64 ((i : Int) - 1)) then (if (wrap64 ((i : Int) - 1)) < (l.length : Int) then (if ((rd_T122 l (wrap64 ((i : Int) - 1))).f0) ≥ ((slabAt l i).f0) then (some false) else (spec_SlabsOk.l0 k l (wrap64 ((i : Int) + 1)))) else (none)) else (none)) else (spec_SlabsOk.l0 k l (wrap64 ((i : Int) + 1)))) else (some false))) r → Ev (fun k => spec_SlabsOk.l0 k l (i : Int)) r := by
      intro i hi r h
      refine Ev.step (f := fun k => (spec_l04Slab.f k (slabAt l i).f0 (slabAt l i).f1 (slabAt l i).f2).bind fun t486 => (if t486 = true then (if (i : Int) > 0 then (if 0 ≤ (wrap64 ((i : Int) - 1)) then (if (wrap64 ((i : Int) - 1)) < (l.length : Int) then (if ((rd_T122 l (wrap64 ((i : Int) - 1))).f0) ≥ ((slabAt l i).f0) then (some false) else (spec_SlabsOk.l0 k l (wrap64 ((i : Int) + 1)))) else (none)) else (none)) else (spec_SlabsOk.l0 k l (wrap64 ((i : Int) + 1)))) else (some false))) (fun k => ?_) (Ev.bind (l04Slab_ev (slabAt l i) (hl.at_ i)) h)
      simp only [spec_SlabsOk.l0]
      rw [if_pos (by omega), if_pos (by omega), rdBW]
      rfl
    have key := ev_all0 (fun k i => spec_SlabsOk.l0 k l (i : Int)) l.length (okSl l) false true (by
      intro i hi hb r h
      refine step i hi r ?_
      by_cases h0 : i = 0
      · subst h0
        unfold okSl at hb
        simp only [decide_true, Bool.true_or, Bool.and_true] at hb
        simp only [hb, if_true, if_neg (show ¬ ((0 : Nat) : Int) > 0 by omega), wrap_succ (show 0 < 9223372036854775807 by omega)]
        exact h
      · rw [okSl_cases h0, Bool.and_eq_true, decide_eq_true_eq] at hb
        obtain ⟨h1, h2⟩ := hb
        have hr : rd_T122 l ((i - 1 : Nat) : Int) = slabAt l (i - 1) := rdBW l (i - 1)
        simp only [h1, if_true, if_pos (show (i : Int) > 0 by omega), wrap_pred_s (show 0 < i by omega) (show i < 9223372036854775807 by omega), if_pos (show (0 : Int) ≤ ((i - 1 : Nat) : Int) by omega), if_pos (show ((i - 1 : Nat) : Int) < (l.length : Int) by omega), hr, if_neg (show ¬ (slabAt l (i - 1)).f0 ≥ (slabAt l i).f0 by omega), wrap_succ (show i < 9223372036854775807 by omega)]
        exact h) (by
      intro i hi hb
      refine step i hi false ?_
      by_cases h1 : slabB (slabAt l i) = true
      · have h0 : ¬ i = 0 := by rintro rfl; unfold okSl at hb; rw [h1] at hb; simp at hb
        rw [okSl_cases h0, h1, Bool.true_and, decide_eq_false_iff_not] at hb
        have hr : rd_T122 l ((i - 1 : Nat) : Int) = slabAt l (i - 1) := rdBW l (i - 1)
        simp only [h1, if_true, if_pos (show (i : Int) > 0 by omega), wrap_pred_s (show 0 < i by omega) (show i < 9223372036854775807 by omega), if_pos (show (0 : Int) ≤ ((i - 1 : Nat) : Int) by omega), if_pos (show ((i - 1 : Nat) : Int) < (l.length : Int) by omega), hr, if_pos (show (slabAt l (i - 1)).f0 ≥ (slabAt l i).f0 by omega)]
        exact Ev.now _
      · simp only [h1]
        exact Ev.now _) (by
      refine Ev.of_succ (fun k => ?_)
      simp only [spec_SlabsOk.l0]
      rw [if_neg (by omega)])
    have e : (if (List.range l.length).all (okSl l) = true then true else false) = (List.range l.length).all (okSl l) := by cases (List.range l.length).all (okSl l) <;> rfl
    rw [e] at key
    exact key
/-- What the program asks of a slab behind its frame. -/
theorem restSl_ev (l : List SlabW) (s : SlabW) (hs : s.f2.length ≤ 1048576) (g : Nat → Option Bool) (r : Bool)
    (h : Ev (fun k => if (partB s.f1 && decide ((s.f2.length : Int) = 4 / s.f1) && usedB s.f2) = true then g k else some false) r) :
    Ev (fun k => (impl_isPartSize.f s.f1).bind fun t516 => (if t516 = true then (if s.f1 = 0 then (none) else (if (s.f2.length : Int) = (wrap64 ((4 : Int) / s.f1)) then ((slices_Contains_bool_bool.f k s.f2 true).bind fun t517 => (if t517 = true then g k else (some false))) else (some false))) else (some false))) r := by
  rw [isPart_eq]
  simp only [Option.bind_some]
  by_cases hp : partB s.f1 = true
  · simp only [hp, if_true, if_neg (part_wrap hp).2, (part_wrap hp).1, Bool.true_and] at h ⊢
    by_cases hlen : (s.f2.length : Int) = 4 / s.f1
    · simp only [if_pos hlen, decide_eq_true hlen, Bool.true_and] at h ⊢
      have h4 : s.f2.length ≤ 4 := by rcases partB_or hp with e | e | e <;> rw [e] at hlen <;> omega
      exact Ev.bind (contains_ev s.f2 (by omega) true) h
    · simp only [if_neg hlen, decide_eq_false hlen, Bool.false_and, Bool.false_eq_true, if_false] at h ⊢
      exact h
  · have hp' : partB s.f1 = false := by simpa using hp
    simp only [hp', Bool.false_and, Bool.false_eq_true, if_false] at h ⊢
    exact h
theorem impl_SlabsOk_ev (l : List SlabW) (hl : SmallSw l) : Ev (fun k => impl_SlabsOk.f k l) (slabsB l) := by
  have hll := hl.1
  unfold impl_SlabsOk.f slabsB
  have tail : ∀ (i : Nat), i < l.length → ∀ r, (i = 0 ∨ (slabAt l (i - 1)).f0 < (slabAt l i).f0) → Ev (fun k => if slabB (slabAt l i) = true then impl_SlabsOk.l0 k l l (l.length : Int) ((i + 1 : Nat) : Int) else some false) r → Ev (fun k => impl_SlabsOk.l0 k l l (l.length : Int) (i : Int)) r := by
    intro i hi r h0 h
    by_cases hf : 0 ≤ (slabAt l i).f0 ∧ (slabAt l i).f0 ≤ 31
    · refine Ev.step (f := fun k => (impl_isPartSize.f (slabAt l i).f1).bind fun t516 => (if t516 = true then (if (slabAt l i).f1 = 0 then (none) else (if ((slabAt l i).f2.length : Int) = (wrap64 ((4 : Int) / (slabAt l i).f1)) then ((slices_Contains_bool_bool.f k (slabAt l i).f2 true).bind fun t517 => (if t517 = true then impl_SlabsOk.l0 k l l (l.length : Int) ((i + 1 : Nat) : Int) else (some false))) else (some false))) else (some false))) (fun k => ?_) (restSl_ev l (slabAt l i) (hl.at_ i) (fun k => impl_SlabsOk.l0 k l l (l.length : Int) ((i + 1 : Nat) : Int)) r ?_)
      · simp only [impl_SlabsOk.l0]
        rw [if_pos (by omega), if_pos (by omega), if_pos (by omega), rdBW, show l.getD i zbw = slabAt l i from rfl, within_eq, decide_eq_true hf]
        simp only [Option.bind_some, if_true]
        rw [wrap_succ (by omega)]
        by_cases hz : i = 0
        · subst hz
          rw [if_neg (by omega)]
        · have h2 : (slabAt l (i - 1)).f0 < (slabAt l i).f0 := by rcases h0 with h | h; exact absurd h hz; exact h
          rw [if_pos (by omega), wrap_pred_s (by omega) (by omega), if_pos (by omega), if_pos (by omega), rdBW, show l.getD (i - 1) zbw = slabAt l (i - 1) from rfl, if_neg (by omega)]
      · unfold slabB at h
        simp only [decide_eq_true hf, Bool.true_and] at h
        exact h
    · have hb : slabB (slabAt l i) = false := by unfold slabB; rw [decide_eq_false hf]; simp
      simp only [hb, Bool.false_eq_true, if_false] at h
      refine Ev.step (fun k => ?_) h
      simp only [impl_SlabsOk.l0]
      rw [if_pos (by omega), if_pos (by omega), if_pos (by omega), rdBW, show l.getD i zbw = slabAt l i from rfl, within_eq, decide_eq_false hf]
      rfl
  have key := ev_all0 (fun k i => impl_SlabsOk.l0 k l l (l.length : Int) (i : Int)) l.length (okSl l) false (decide (l.length ≤ 32)) (by
    intro i hi hb r h
    unfold okSl at hb
    simp only [Bool.and_eq_true, Bool.or_eq_true, decide_eq_true_eq] at hb
    refine tail i hi r hb.2 ?_
    simp only [hb.1, if_true]
    exact h) (by
    intro i hi hb
    by_cases h0 : i = 0 ∨ (slabAt l (i - 1)).f0 < (slabAt l i).f0
    · refine tail i hi false h0 ?_
      have hs : slabB (slabAt l i) = false := by
        unfold okSl at hb
        rw [show (decide (i = 0) || decide ((slabAt l (i - 1)).f0 < (slabAt l i).f0)) = true by simpa using h0, Bool.and_true] at hb
        exact hb
      simp only [hs, Bool.false_eq_true, if_false]
      exact Ev.now _
    · refine Ev.of_succ (fun k => ?_)
      simp only [impl_SlabsOk.l0]
      rw [if_pos (by omega), if_pos (by omega), if_pos (by omega), rdBW, show l.getD i zbw = slabAt l i from rfl, within_eq]
      simp only [Option.bind_some]
      by_cases hf : 0 ≤ (slabAt l i).f0 ∧ (slabAt l i).f0 ≤ 31
      · rw [decide_eq_true hf, if_pos rfl, if_pos (by omega), wrap_pred_s (by omega) (by omega), if_pos (by omega), if_pos (by omega), rdBW, show l.getD (i - 1) zbw = slabAt l (i - 1) from rfl, if_pos (by omega)]
      · rw [decide_eq_false hf]; rfl) (by
    refine Ev.of_succ (fun k => ?_)
    simp only [impl_SlabsOk.l0]
    rw [if_neg (by omega)]
    congr 1
    rw [decide_eq_decide]
    omega)
  have e : (if (List.range l.length).all (okSl l) = true then decide (l.length ≤ 32) else false) = (decide (l.length ≤ 32) && (List.range l.length).all (okSl l)) := by cases (List.range l.length).all (okSl l) <;> simp
  rw [e] at key
  exact key

theorem FnExactSlabsOk (l0 : List S120) (g0 : (l0.length ≤ maxLen ∧ ∀ y0 ∈ l0, ((Lit.int .i64 y0.f0).wf = true ∧ (Lit.int .i64 y0.f1).wf = true ∧ (y0.f2.length ≤ maxLen ∧ ∀ y1 ∈ y0.f2, True)))) : ∃ k, laws_FnExactSlabsOk.f k l0 = some true := by
  obtain ⟨r, hr, hs⟩ := szSlabS_ev l0 g0.1 (fun x hx => (g0.2 x hx).2.2.1)
  refine Ev.rounds (g := fun k => laws_FnExactSlabsOk.f k l0) ?_
  unfold laws_FnExactSlabsOk.f
  refine Ev.bind hr ?_
  by_cases h0 : r < 0
  · simp only [if_pos h0]; exact Ev.now true
  · have hl := (hs (by omega)).1
    have hw := hl.toW
    simp only [if_neg h0]
    refine Ev.bind (toSlabS_ev l0 hl) ?_
    refine Ev.bind (spec_SlabsOk_ev _ hw) ?_
    refine Ev.bind (toSlabS_ev l0 hl) ?_
    refine Ev.bind (impl_SlabsOk_ev _ hw) ?_
    simp only [bne_self_eq_false, Bool.false_eq_true, if_false]
    refine Ev.bind (toSlabS_ev l0 hl) ?_
    refine Ev.bind (eqSlabS_refl _ hw) ?_
    simp only [if_true]
    exact Ev.now true

end Go.Proofs.Ytpkhoanaifpopaa.Pure
