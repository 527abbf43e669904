/- What the proof of FnExactTakePartSaid rests on, part 6: plain lemmas and contracts of the functions that the law reaches (in part written by a printing program over the translation). No condition. -/
import Derived.Test.YtdpejnckojhgjaaBFnExactTakeParte
section
namespace Go.Proofs.Ytdpejnckojhgjaa.Pure
open Go.RowKit Go.Proofs.Ytdpejnckojhgjaa.P Go.Proofs.YtdpejnckojhgjaaW.PrintWords Go.Proofs.YtdpejnckojhgjaaW.PrintLast Go.Proofs.YtdpejnckojhgjaaW.PrintMore Go.Proofs.Ytdpejnckojhgjaa.Aid
set_option linter.unusedVariables false
set_option linter.unusedSimpArgs false

theorem l01In_eq (a b c : Int) : spec_l01In.f a b c = some (decide (b ≤ a ∧ a ≤ c)) := in_dec a b c
theorem within_eq (a b c : Int) : impl_within.f a b c = some (decide (b ≤ a ∧ a ≤ c)) := in_dec a b c
theorem szBoolS_eq (l : List Bool) (hl : l.length ≤ maxLen) (a : Int) (h0 : 0 ≤ a) (h1 : a ≤ 1048576) : laws_szBoolS.f l a = some (if (l.length : Int) ≤ a then a - l.length else -1) := by
  unfold maxLen at hl
  unfold laws_szBoolS.f
  have e : wrap64 (a - (l.length : Int)) = a - l.length := by unfold wrap64; omega
  rw [e]
  by_cases h : (l.length : Int) ≤ a
  · rw [if_neg (by omega), if_pos h]
  · rw [if_pos (by omega), if_neg h]
theorem toBoolS_ev (l : List Bool) (hl : l.length ≤ 1048576) : Ev (fun k => laws_toBoolS.f k l) l := by
  have key := ev_copy0 (fun k acc i => laws_toBoolS.l0 k l acc (i : Int)) l.length (fun i => l.getD i false) id (by
    intro i acc hi ha r h
    refine Ev.step (fun k => ?_) h
    simp only [laws_toBoolS.l0]
    rw [if_pos (by omega), if_pos (by omega), if_pos (by omega), wrap_succ (by omega), toNat_cast]
    rfl) (by
    intro acc ha
    refine Ev.of_succ (fun k => ?_)
    simp only [laws_toBoolS.l0]
    rw [if_neg (by omega)]
    rfl) (List.replicate l.length false) (by simp)
  rw [range_map_getD] at key
  refine Ev.congr (fun k => ?_) key
  unfold laws_toBoolS.f
  rw [if_pos (by omega), if_pos (by omega), toNat_cast]
  rfl
theorem eqBoolS_refl (l : List Bool) (hl : l.length ≤ 1048576) : Ev (fun k => laws_eqBoolS.f k l l) true := by
  have key := ev_all0 (fun k i => laws_eqBoolS.l0 k l l (i : Int)) l.length (fun _ => true) false true (by
    intro i hi _ r h
    refine Ev.step (fun k => ?_) h
    simp only [laws_eqBoolS.l0]
    rw [if_pos (by omega), if_pos (by omega), if_pos (by omega), if_neg (by simp), wrap_succ (by omega)]) (by intro i _ h; cases h) (by
    refine Ev.of_succ (fun k => ?_)
    simp only [laws_eqBoolS.l0]
    rw [if_neg (by omega)])
  rw [if_pos (by simp)] at key
  refine Ev.congr (fun k => ?_) key
  unfold laws_eqBoolS.f
  rw [if_pos rfl]
  rfl
theorem map_getD {α β : Type} (f : α → β) (l : List α) (d : α) : (List.range l.length).map (fun i => f (l.getD i d)) = l.map f := by
  rw [show (fun i => f (l.getD i d)) = f ∘ (fun i => l.getD i d) from rfl, ← List.map_map, range_map_getD]
abbrev SlabW := S135
abbrev SlabL := S132
abbrev zbl : SlabL := z132
abbrev zbw : SlabW := z135
def toSlab (r : SlabL) : SlabW := ⟨r.f0, r.f1, r.f2⟩
theorem rdBL (l : List SlabL) (i : Nat) : rd_T132 l (i : Int) = l.getD i zbl := by unfold rd_T132; rw [toNat_cast]
theorem rdBW (l : List SlabW) (i : Nat) : rd_T135 l (i : Int) = l.getD i zbw := by unfold rd_T135; rw [toNat_cast]
theorem szSlab_eq (s : SlabL) (hl : s.f2.length ≤ maxLen) (a : Int) (h0 : 0 ≤ a) (h1 : a ≤ 1048576) : laws_szSlab.f s.f0 s.f1 s.f2 a = some (if (s.f2.length : Int) ≤ a then (a - (s.f2.length : Int) : Int) else (-1 : Int)) := by
  unfold laws_szSlab.f
  rw [szBoolS_eq _ hl a h0 h1]
  simp only [Option.bind_some]
  by_cases h : (s.f2.length : Int) ≤ a
  · rw [if_pos h, if_neg (by omega)]
  · rw [if_neg h, if_pos (by omega)]
theorem mem_getD_b {α : Type} {l : List α} {i : Nat} (h : i < l.length) (d : α) : l.getD i d ∈ l := by
  rw [List.getD_eq_getElem?_getD, List.getElem?_eq_getElem h]; exact List.getElem_mem h
def SmallSl (l : List SlabL) : Prop := l.length ≤ 1048576 ∧ ∀ x ∈ l, x.f2.length ≤ 1048576
theorem szSlabS_ev (l : List SlabL) (hl : l.length ≤ maxLen) (hls : ∀ x ∈ l, x.f2.length ≤ maxLen) :
    ∃ r, Ev (fun k => laws_szSlabS.f k l 1048576) r ∧ (0 ≤ r → SmallSl l ∧ (l.length : Int) + ((l.map (fun s => s.f2.length)).sum : Nat) ≤ 1048576) := by
  by_cases hlen : (l.length : Int) ≤ 1048576
  · obtain ⟨r, hr, hq⟩ := ev_sz (fun k b i => laws_szSlabS.l0 k l b (i : Int)) l.length (fun i => (l.getD i zbl).f2.length) (by
      intro i b hi h0 h1 hs r h
      refine Ev.step (fun k => ?_) h
      simp only [laws_szSlabS.l0]
      rw [if_pos (by omega), if_pos (by omega), rdBL, szSlab_eq _ (hls _ (mem_getD_b hi _)) b h0 h1, if_pos hs]
      simp only [Option.bind_some]
      rw [if_neg (by omega), wrap_succ (by simp only [maxLen] at hl; omega)]) (by
      intro i b hi h0 h1 hs
      refine Ev.of_succ (fun k => ?_)
      simp only [laws_szSlabS.l0]
      rw [if_pos (by omega), if_pos (by omega), rdBL, szSlab_eq _ (hls _ (mem_getD_b hi _)) b h0 h1, if_neg hs]
      simp only [Option.bind_some]
      rw [if_pos (by omega)]) (by
      intro b
      refine Ev.of_succ (fun k => ?_)
      simp only [laws_szSlabS.l0]
      rw [if_neg (by omega)]) (1048576 - (l.length : Int)) (by omega) (by omega)
    refine ⟨r, Ev.congr (fun k => ?_) hr, fun h => ?_⟩
    · unfold laws_szSlabS.f
      rw [sub_len (by omega) (by omega) hl, if_neg (by omega)]
      rfl
    · have := hq h
      refine ⟨⟨by omega, fun x hx => ?_⟩, ?_⟩
      · obtain ⟨i, hi, rfl⟩ := List.getElem_of_mem hx
        have h5 := sum_ge (fun i => (l.getD i zbl).f2.length) hi
        simp only [List.getD_eq_getElem?_getD, List.getElem?_eq_getElem hi, Option.getD_some] at h5
        simp only [List.getD_eq_getElem?_getD] at this
        omega
      · rw [map_getD (fun s : SlabL => s.f2.length) l zbl] at this
        omega
  · refine ⟨-1, Ev.const (fun k => ?_), fun h => by omega⟩
    unfold laws_szSlabS.f
    rw [sub_len (by omega) (by omega) hl, if_pos (by omega)]
theorem SmallSl.at_ {l : List SlabL} (h : SmallSl l) (i : Nat) : (l.getD i zbl).f2.length ≤ 1048576 := by
  by_cases hi : i < l.length
  · exact h.2 _ (mem_getD_b hi _)
  · rw [List.getD_eq_getElem?_getD, List.getElem?_eq_none (by omega)]; decide
theorem toSlabS_ev (l : List SlabL) (hl : SmallSl l) : Ev (fun k => laws_toSlabS.f k l) (l.map toSlab) := by
  have h1 := hl.1
  have key := ev_copy0 (fun k acc i => laws_toSlabS.l0 k l acc (i : Int)) l.length (fun i => toSlab (l.getD i zbl)) id (by
    intro i acc hi ha r h
    refine Ev.step (f := fun k => (laws_toBoolS.f k (l.getD i zbl).f2).bind fun t => laws_toSlabS.l0 k l (acc.set i (⟨(l.getD i zbl).f0, (l.getD i zbl).f1, t⟩ : SlabW)) ((i + 1 : Nat) : Int)) (fun k => ?_) (Ev.bind (toBoolS_ev _ (hl.at_ i)) h)
    simp only [laws_toSlabS.l0]
    rw [if_pos (by omega), if_pos (by omega), rdBL]
    unfold laws_toSlab.f
    rw [Option.bind_assoc]
    congr 1
    funext t
    simp only [Option.bind_some]
    rw [if_pos (by omega), wrap_succ (by omega), toNat_cast]) (by
    intro acc ha
    refine Ev.of_succ (fun k => ?_)
    simp only [laws_toSlabS.l0]
    rw [if_neg (by omega)]
    rfl) (List.replicate l.length zbw) (by simp)
  rw [map_getD toSlab l zbl] at key
  refine Ev.congr (fun k => ?_) key
  unfold laws_toSlabS.f
  rw [if_pos (by omega), if_pos (by omega), toNat_cast]
  rfl
def SmallSw (l : List SlabW) : Prop := l.length ≤ 1048576 ∧ ∀ x ∈ l, x.f2.length ≤ 1048576
theorem SmallSl.toW {l : List SlabL} (h : SmallSl l) : SmallSw (l.map toSlab) := by
  refine ⟨by simpa using h.1, fun x hx => ?_⟩
  obtain ⟨y, hy, rfl⟩ := List.mem_map.1 hx
  exact h.2 y hy
theorem SmallSw.at_ {l : List SlabW} (h : SmallSw l) (i : Nat) : (l.getD i zbw).f2.length ≤ 1048576 := by
  by_cases hi : i < l.length
  · exact h.2 _ (mem_getD_b hi _)
  · rw [List.getD_eq_getElem?_getD, List.getElem?_eq_none (by omega)]; decide
theorem eqSlabS_refl (l : List SlabW) (hl : SmallSw l) : Ev (fun k => laws_eqSlabS.f k l l) true := by
  have h1 := hl.1
  have key := ev_all0 (fun k i => laws_eqSlabS.l0 k l l (i : Int)) l.length (fun _ => true) false true (by
    intro i hi _ r h
    refine Ev.step (f := fun k => (laws_eqBoolS.f k (l.getD i zbw).f2 (l.getD i zbw).f2).bind fun t => (if t = true then (some true) else (some false)).bind fun t => if t = true then laws_eqSlabS.l0 k l l ((i + 1 : Nat) : Int) else some false) (fun k => ?_) (Ev.bind (eqBoolS_refl _ (hl.at_ i)) (by simp only [if_true, Option.bind_some]; exact h))
    simp only [laws_eqSlabS.l0]
    rw [if_pos (by omega), if_pos (by omega), if_pos (by omega), rdBW]
    unfold laws_eqSlab.f
    rw [if_pos rfl, if_pos rfl, Option.bind_assoc, wrap_succ (by omega)]) (by intro i _ h; cases h) (by
    refine Ev.of_succ (fun k => ?_)
    simp only [laws_eqSlabS.l0]
    rw [if_neg (by omega)])
  rw [if_pos (by simp)] at key
  refine Ev.congr (fun k => ?_) key
  unfold laws_eqSlabS.f
  rw [if_pos rfl]
  rfl
theorem index_ev (l : List Bool) (hl : l.length ≤ 1000000) (b : Bool) : ∃ r, Ev (fun k => slices_Index_bool_bool.f k l b) r ∧ decide (r ≥ 0) = l.any (fun y => b == y) := by
  have h0 : ∀ d i, i + d = l.length → ∃ r, Ev (fun k => slices_Index_bool_bool.l0 k l b (l.length : Int) (i : Int)) r ∧ decide (r ≥ 0) = (l.drop i).any (fun y => b == y) := by
    intro d
    induction d with
    | zero =>
      intro i hi
      refine ⟨-1, Ev.of_succ (fun k => ?_), ?_⟩
      · simp only [slices_Index_bool_bool.l0]
        rw [if_neg (by omega)]
      · rw [List.drop_of_length_le (by omega)]; rfl
    | succ d ih =>
      intro i hi
      have hlt : i < l.length := by omega
      have hr : rdOf false l (i : Int) = l[i] := by unfold rdOf; rw [toNat_cast]; simp [List.getD_eq_getElem?_getD, List.getElem?_eq_getElem hlt]
      rw [List.drop_eq_getElem_cons hlt, List.any_cons]
      by_cases hb : (b == l[i]) = true
      · refine ⟨i, Ev.of_succ (fun k => ?_), ?_⟩
        · simp only [slices_Index_bool_bool.l0]
          rw [if_pos (by omega), if_pos (by omega), if_pos (by omega), hr, if_pos hb]
        · rw [hb, Bool.true_or]; simp
      · obtain ⟨r, h1, h2⟩ := ih (i + 1) (by omega)
        refine ⟨r, Ev.step (fun k => ?_) h1, ?_⟩
        · simp only [slices_Index_bool_bool.l0]
          rw [if_pos (by omega), if_pos (by omega), if_pos (by omega), hr, if_neg hb, wrap_succ (by omega)]
        · rw [show (b == l[i]) = false by simpa using hb, Bool.false_or, h2]
  obtain ⟨r, h1, h2⟩ := h0 l.length 0 (by omega)
  exact ⟨r, h1, by simpa using h2⟩
theorem contains_ev (l : List Bool) (hl : l.length ≤ 1000000) (b : Bool) : Ev (fun k => slices_Contains_bool_bool.f k l b) (l.any (fun y => b == y)) := by
  unfold slices_Contains_bool_bool.f
  obtain ⟨r, h1, h2⟩ := index_ev l hl b
  refine Ev.bind h1 ?_
  rw [h2]
  exact Ev.now _
def slabAt (l : List SlabW) (i : Nat) : SlabW := l.getD i zbw
def partB (s : Int) : Bool := decide (s = 1) || decide (s = 2) || decide (s = 4)
def usedB (l : List Bool) : Bool := l.any (fun y => true == y)
def slabB (s : SlabW) : Bool := decide (0 ≤ s.f0 ∧ s.f0 ≤ 31) && partB s.f1 && decide ((s.f2.length : Int) = 4 / s.f1) && usedB s.f2
def okSl (l : List SlabW) (i : Nat) : Bool := slabB (slabAt l i) && (decide (i = 0) || decide ((slabAt l (i - 1)).f0 < (slabAt l i).f0))
def slabsB (l : List SlabW) : Bool := decide (l.length ≤ 32) && (List.range l.length).all (okSl l)
theorem partB_or {s : Int} (h : partB s = true) : s = 1 ∨ s = 2 ∨ s = 4 := by
  unfold partB at h
  simp only [Bool.or_eq_true, decide_eq_true_eq] at h
  omega
theorem part_wrap {s : Int} (h : partB s = true) : wrap64 ((4 : Int) / s) = 4 / s ∧ s ≠ 0 := by
  rcases partB_or h with rfl | rfl | rfl <;> exact ⟨wrap64_id (by omega) (by omega), by decide⟩
theorem isPart_eq (s : Int) : impl_isPartSize.f s = some (partB s) := by
  unfold impl_isPartSize.f partB
  by_cases h1 : s = 1
  · rw [if_pos h1]; simp [h1]
  · rw [if_neg h1]
    by_cases h2 : s = 2
    · rw [if_pos h2]; simp [h2]
    · rw [if_neg h2]
      congr 1
      simp [h1, h2]
      rw [Bool.eq_iff_iff]; simp
theorem used_ev (f0 f1 : Int) (l : List Bool) (hl : l.length ≤ 1048576) : Ev (fun k => spec_l04Slab.l0 k false 0 f0 f1 l) (usedB l) := by
  have key : ∀ (d i : Nat) (b : Bool), i + d = l.length → Ev (fun k => spec_l04Slab.l0 k b (i : Int) f0 f1 l) (b || usedB (l.drop i)) := by
    intro d
    induction d with
    | zero =>
      intro i b hi
      rw [List.drop_of_length_le (by omega)]
      refine Ev.of_succ (fun k => ?_)
      simp only [spec_l04Slab.l0]
      rw [if_neg (by omega)]
      simp [usedB]
    | succ d ih =>
      intro i b hi
      have hlt : i < l.length := by omega
      have hr : rdOf false l (i : Int) = l[i] := by unfold rdOf; rw [toNat_cast]; simp [List.getD_eq_getElem?_getD, List.getElem?_eq_getElem hlt]
      have hd : usedB (l.drop i) = (l[i] || usedB (l.drop (i + 1))) := by rw [List.drop_eq_getElem_cons hlt]; unfold usedB; rw [List.any_cons]; simp
      rw [hd]
      cases b with
      | true =>
        have := ih (i + 1) true (by omega)
        rw [Bool.true_or] at this ⊢
        refine Ev.step (fun k => ?_) this
        simp only [spec_l04Slab.l0]
        rw [if_pos (by omega), if_pos trivial, wrap_succ (by omega)]
      | false =>
        rw [Bool.false_or]
        refine Ev.step (fun k => ?_) (ih (i + 1) l[i] (by omega))
        simp only [spec_l04Slab.l0]
        rw [if_pos (by omega), if_neg (by simp), if_pos (by omega), hr, wrap_succ (by omega)]
  have := key l.length 0 false (by omega)
  rw [Bool.false_or, List.drop_zero] at this
  exact this
theorem l04Slab_ev (s : SlabW) (hl : s.f2.length ≤ 1048576) : Ev (fun k => spec_l04Slab.f k s.f0 s.f1 s.f2) (slabB s) := by
  have bad : Ev (fun k => spec_l04Slab.j0 k true s.f0 s.f1 s.f2) false := Ev.of_succ (fun k => by simp only [spec_l04Slab.j0]; rw [if_pos trivial])
  have good : partB s.f1 = true → Ev (fun k => spec_l04Slab.j0 k ((s.f2.length : Int) != (wrap64 ((4 : Int) / s.f1))) s.f0 s.f1 s.f2) (decide ((s.f2.length : Int) = 4 / s.f1) && usedB s.f2) := by
    intro hp
    rw [(part_wrap hp).1]
    by_cases h : (s.f2.length : Int) = 4 / s.f1
    · rw [show ((s.f2.length : Int) != 4 / s.f1) = false by simpa using h, decide_eq_true h, Bool.true_and]
      refine Ev.step (fun k => ?_) (used_ev s.f0 s.f1 s.f2 hl)
      simp only [spec_l04Slab.j0]
      rw [if_neg (by simp)]
    · rw [show ((s.f2.length : Int) != 4 / s.f1) = true by simpa using h, decide_eq_false h, Bool.false_and]
      exact bad
  unfold spec_l04Slab.f slabB
  rw [l01In_eq]
  simp only [Option.bind_some]
  by_cases hf : 0 ≤ s.f0 ∧ s.f0 ≤ 31
  · simp only [decide_eq_true hf, if_true, Bool.true_and]
    by_cases hp : partB s.f1 = true
    · rw [hp, Bool.true_and]
      have hne := (part_wrap hp).2
      have hg := good hp
      by_cases h1 : s.f1 = 1
      · simp only [if_pos h1, if_neg hne]; exact hg
      · by_cases h2 : s.f1 = 2
        · simp only [if_neg h1, if_pos h2, if_neg hne]; exact hg
        · have h4 : s.f1 = 4 := by rcases partB_or hp with h | h | h <;> omega
          simp only [if_neg h1, if_neg h2, if_pos h4, if_neg hne]; exact hg
    · rw [show partB s.f1 = false by simpa using hp, Bool.false_and, Bool.false_and]
      have hq : ¬ (s.f1 = 1 ∨ s.f1 = 2 ∨ s.f1 = 4) := by
        intro h
        apply hp
        unfold partB
        rcases h with h | h | h <;> simp [h]
      simp only [if_neg (show ¬ s.f1 = 1 by omega), if_neg (show ¬ s.f1 = 2 by omega), if_neg (show ¬ s.f1 = 4 by omega)]
      exact bad
  · simp only [decide_eq_false hf, Bool.false_eq_true, if_false, Bool.false_and]
    exact bad
theorem wrap_pred_s {i : Nat} (h0 : 0 < i) (h : i < 9223372036854775807) : wrap64 ((i : Int) - 1) = ((i - 1 : Nat) : Int) := by unfold wrap64; omega
theorem okSl_cases {l : List SlabW} {i : Nat} (h0 : ¬ i = 0) : okSl l i = (slabB (slabAt l i) && decide ((slabAt l (i - 1)).f0 < (slabAt l i).f0)) := by unfold okSl; rw [decide_eq_false h0, Bool.false_or]
theorem spec_SlabsOk_ev (l : List SlabW) (hl : SmallSw l) : Ev (fun k => spec_SlabsOk.f k l) (slabsB l) := by
  have hll := hl.1
  unfold spec_SlabsOk.f slabsB
  by_cases h12 : (l.length : Int) > 32
  · simp only [if_pos h12, decide_eq_false (show ¬ l.length ≤ 32 by omega), Bool.false_and]; exact Ev.now _
  · simp only [if_neg h12, decide_eq_true (show l.length ≤ 32 by omega), Bool.true_and]
    have step : ∀ (i : Nat), i < l.length → ∀ r, Ev (fun k => (if slabB (slabAt l i) = true then (if (i : Int) > 0 then (if 0 ≤ (wrap64 ((i : Int) - 1)) then (if (wrap64 ((i : Int) - 1)) < (l.length : Int) then (if ((rd_T135 l (wrap64 ((i : Int) - 1))).f0) ≥ ((slabAt l i).f0) then (some false) else (spec_SlabsOk.l0 k l (wrap64 ((i : Int) + 1)))) else (none)) else (none)) else (spec_SlabsOk.l0 k l (wrap64 ((i : Int) + 1)))) else (some false))) r → Ev (fun k => spec_SlabsOk.l0 k l (i : Int)) r := by
      intro i hi r h
      refine Ev.step (f := fun k => (spec_l04Slab.f k (slabAt l i).f0 (slabAt l i).f1 (slabAt l i).f2).bind fun t486 => (if t486 = true then (if (i : Int) > 0 then (if 0 ≤ (wrap64 ((i : Int) - 1)) then (if (wrap64 ((i : Int) - 1)) < (l.length : Int) then (if ((rd_T135 l (wrap64 ((i : Int) - 1))).f0) ≥ ((slabAt l i).f0) then (some false) else (spec_SlabsOk.l0 k l (wrap64 ((i : Int) + 1)))) else (none)) else (none)) else (spec_SlabsOk.l0 k l (wrap64 ((i : Int) + 1)))) else (some false))) (fun k => ?_) (Ev.bind (l04Slab_ev (slabAt l i) (hl.at_ i)) h)
      simp only [spec_SlabsOk.l0]
      rw [if_pos (by omega), if_pos (by omega), rdBW]
      rfl
    have key := ev_all0 (fun k i => spec_SlabsOk.l0 k l (i : Int)) l.length (okSl l) false true (by
      intro i hi hb r h
      refine step i hi r ?_
      by_cases h0 : i = 0
      · subst h0
        unfold okSl at hb
        simp only [decide_true, Bool.true_or, Bool.and_true] at hb
        simp only [hb, if_true, if_neg (show ¬ ((0 : Nat) : Int) > 0 by omega), wrap_succ (show 0 < 9223372036854775807 by omega)]
        exact h
      · rw [okSl_cases h0, Bool.and_eq_true, decide_eq_true_eq] at hb
        obtain ⟨h1, h2⟩ := hb
        have hr : rd_T135 l ((i - 1 : Nat) : Int) = slabAt l (i - 1) := rdBW l (i - 1)
        simp only [h1, if_true, if_pos (show (i : Int) > 0 by omega), wrap_pred_s (show 0 < i by omega) (show i < 9223372036854775807 by omega), if_pos (show (0 : Int) ≤ ((i - 1 : Nat) : Int) by omega), if_pos (show ((i - 1 : Nat) : Int) < (l.length : Int) by omega), hr, if_neg (show ¬ (slabAt l (i - 1)).f0 ≥ (slabAt l i).f0 by omega), wrap_succ (show i < 9223372036854775807 by omega)]
        exact h) (by
      intro i hi hb
      refine step i hi false ?_
      by_cases h1 : slabB (slabAt l i) = true
      · have h0 : ¬ i = 0 := by rintro rfl; unfold okSl at hb; rw [h1] at hb; simp at hb
        rw [okSl_cases h0, h1, Bool.true_and, decide_eq_false_iff_not] at hb
        have hr : rd_T135 l ((i - 1 : Nat) : Int) = slabAt l (i - 1) := rdBW l (i - 1)
        simp only [h1, if_true, if_pos (show (i : Int) > 0 by omega), wrap_pred_s (show 0 < i by omega) (show i < 9223372036854775807 by omega), if_pos (show (0 : Int) ≤ ((i - 1 : Nat) : Int) by omega), if_pos (show ((i - 1 : Nat) : Int) < (l.length : Int) by omega), hr, if_pos (show (slabAt l (i - 1)).f0 ≥ (slabAt l i).f0 by omega)]
        exact Ev.now _
      · simp only [h1]
        exact Ev.now _) (by
      refine Ev.of_succ (fun k => ?_)
      simp only [spec_SlabsOk.l0]
      rw [if_neg (by omega)])
    have e : (if (List.range l.length).all (okSl l) = true then true else false) = (List.range l.length).all (okSl l) := by cases (List.range l.length).all (okSl l) <;> rfl
    rw [e] at key
    exact key
/-- What the program asks of a slab behind its frame. -/
theorem restSl_ev (l : List SlabW) (s : SlabW) (hs : s.f2.length ≤ 1048576) (g : Nat → Option Bool) (r : Bool)
    (h : Ev (fun k => if (partB s.f1 && decide ((s.f2.length : Int) = 4 / s.f1) && usedB s.f2) = true then g k else some false) r) :
    Ev (fun k => (impl_isPartSize.f s.f1).bind fun t516 => (if t516 = true then (if s.f1 = 0 then (none) else (if (s.f2.length : Int) = (wrap64 ((4 : Int) / s.f1)) then ((slices_Contains_bool_bool.f k s.f2 true).bind fun t517 => (if t517 = true then g k else (some false))) else (some false))) else (some false))) r := by
  rw [isPart_eq]
  simp only [Option.bind_some]
  by_cases hp : partB s.f1 = true
  · simp only [hp, if_true, if_neg (part_wrap hp).2, (part_wrap hp).1, Bool.true_and] at h ⊢
    by_cases hlen : (s.f2.length : Int) = 4 / s.f1
    · simp only [if_pos hlen, decide_eq_true hlen, Bool.true_and] at h ⊢
      have h4 : s.f2.length ≤ 4 := by rcases partB_or hp with e | e | e <;> rw [e] at hlen <;> omega
      exact Ev.bind (contains_ev s.f2 (by omega) true) h
    · simp only [if_neg hlen, decide_eq_false hlen, Bool.false_and, Bool.false_eq_true, if_false] at h ⊢
      exact h
  · have hp' : partB s.f1 = false := by simpa using hp
    simp only [hp', Bool.false_and, Bool.false_eq_true, if_false] at h ⊢
    exact h
theorem impl_SlabsOk_ev (l : List SlabW) (hl : SmallSw l) : Ev (fun k => impl_SlabsOk.f k l) (slabsB l) := by
  have hll := hl.1
  unfold impl_SlabsOk.f slabsB
  have tail : ∀ (i : Nat), i < l.length → ∀ r, (i = 0 ∨ (slabAt l (i - 1)).f0 < (slabAt l i).f0) → Ev (fun k => if slabB (slabAt l i) = true then impl_SlabsOk.l0 k l l (l.length : Int) ((i + 1 : Nat) : Int) else some false) r → Ev (fun k => impl_SlabsOk.l0 k l l (l.length : Int) (i : Int)) r := by
    intro i hi r h0 h
    by_cases hf : 0 ≤ (slabAt l i).f0 ∧ (slabAt l i).f0 ≤ 31
    · refine Ev.step (f := fun k => (impl_isPartSize.f (slabAt l i).f1).bind fun t516 => (if t516 = true then (if (slabAt l i).f1 = 0 then (none) else (if ((slabAt l i).f2.length : Int) = (wrap64 ((4 : Int) / (slabAt l i).f1)) then ((slices_Contains_bool_bool.f k (slabAt l i).f2 true).bind fun t517 => (if t517 = true then impl_SlabsOk.l0 k l l (l.length : Int) ((i + 1 : Nat) : Int) else (some false))) else (some false))) else (some false))) (fun k => ?_) (restSl_ev l (slabAt l i) (hl.at_ i) (fun k => impl_SlabsOk.l0 k l l (l.length : Int) ((i + 1 : Nat) : Int)) r ?_)
      · simp only [impl_SlabsOk.l0]
        rw [if_pos (by omega), if_pos (by omega), if_pos (by omega), rdBW, show l.getD i zbw = slabAt l i from rfl, within_eq, decide_eq_true hf]
        simp only [Option.bind_some, if_true]
        rw [wrap_succ (by omega)]
        by_cases hz : i = 0
        · subst hz
          rw [if_neg (by omega)]
        · have h2 : (slabAt l (i - 1)).f0 < (slabAt l i).f0 := by rcases h0 with h | h; exact absurd h hz; exact h
          rw [if_pos (by omega), wrap_pred_s (by omega) (by omega), if_pos (by omega), if_pos (by omega), rdBW, show l.getD (i - 1) zbw = slabAt l (i - 1) from rfl, if_neg (by omega)]
      · unfold slabB at h
        simp only [decide_eq_true hf, Bool.true_and] at h
        exact h
    · have hb : slabB (slabAt l i) = false := by unfold slabB; rw [decide_eq_false hf]; simp
      simp only [hb, Bool.false_eq_true, if_false] at h
      refine Ev.step (fun k => ?_) h
      simp only [impl_SlabsOk.l0]
      rw [if_pos (by omega), if_pos (by omega), if_pos (by omega), rdBW, show l.getD i zbw = slabAt l i from rfl, within_eq, decide_eq_false hf]
      rfl
  have key := ev_all0 (fun k i => impl_SlabsOk.l0 k l l (l.length : Int) (i : Int)) l.length (okSl l) false (decide (l.length ≤ 32)) (by
    intro i hi hb r h
    unfold okSl at hb
    simp only [Bool.and_eq_true, Bool.or_eq_true, decide_eq_true_eq] at hb
    refine tail i hi r hb.2 ?_
    simp only [hb.1, if_true]
    exact h) (by
    intro i hi hb
    by_cases h0 : i = 0 ∨ (slabAt l (i - 1)).f0 < (slabAt l i).f0
    · refine tail i hi false h0 ?_
      have hs : slabB (slabAt l i) = false := by
        unfold okSl at hb
        rw [show (decide (i = 0) || decide ((slabAt l (i - 1)).f0 < (slabAt l i).f0)) = true by simpa using h0, Bool.and_true] at hb
        exact hb
      simp only [hs, Bool.false_eq_true, if_false]
      exact Ev.now _
    · refine Ev.of_succ (fun k => ?_)
      simp only [impl_SlabsOk.l0]
      rw [if_pos (by omega), if_pos (by omega), if_pos (by omega), rdBW, show l.getD i zbw = slabAt l i from rfl, within_eq]
      simp only [Option.bind_some]
      by_cases hf : 0 ≤ (slabAt l i).f0 ∧ (slabAt l i).f0 ≤ 31
      · rw [decide_eq_true hf, if_pos rfl, if_pos (by omega), wrap_pred_s (by omega) (by omega), if_pos (by omega), if_pos (by omega), rdBW, show l.getD (i - 1) zbw = slabAt l (i - 1) from rfl, if_pos (by omega)]
      · rw [decide_eq_false hf]; rfl) (by
    refine Ev.of_succ (fun k => ?_)
    simp only [impl_SlabsOk.l0]
    rw [if_neg (by omega)]
    congr 1
    rw [decide_eq_decide]
    omega)
  have e : (if (List.range l.length).all (okSl l) = true then decide (l.length ≤ 32) else false) = (decide (l.length ≤ 32) && (List.range l.length).all (okSl l)) := by cases (List.range l.length).all (okSl l) <;> simp
  rw [e] at key
  exact key
theorem getD_mid {α : Type} (pre : List α) (x : α) (rest : List α) (d : α) : (pre ++ x :: rest).getD pre.length d = x := by
  simp [List.getD_eq_getElem?_getD]
theorem set_mid {α : Type} (pre : List α) (x y : α) (rest : List α) : (pre ++ x :: rest).set pre.length y = (pre ++ [y]) ++ rest := by
  rw [List.set_append_right _ _ (Nat.le_refl _)]
  simp
theorem take_getD {α : Type} (l : List α) (d : α) {i : Nat} (h : i < l.length) : l.take i ++ [l.getD i d] = l.take (i + 1) := by
  rw [List.take_succ_eq_append_getElem h]
  simp [List.getD_eq_getElem?_getD, List.getElem?_eq_getElem h]
def upBool (a : Int) (n : Nat) : List Bool := (List.range n).map (fun j : Nat => (Int.tmod (a + (j : Int)) 3 == 0))
theorem upBool_len (a : Int) (n : Nat) : (upBool a n).length = n := by simp [upBool]
theorem upBool_getD (a : Int) (n i : Nat) (h : i < n) : (upBool a n).getD i false = (Int.tmod (a + (i : Int)) 3 == 0) := by simp [upBool, List.getD_eq_getElem?_getD, h]
theorem markBoolS_ev (l : List Bool) (hl : l.length ≤ 1048576) (a : Int) (h0 : 0 ≤ a) (h1 : a ≤ 1000000000) : Ev (fun k => laws_markBoolS.f k l a) (a + l.length, upBool a l.length) := by
  have key := ev_copy0 (fun k acc i => laws_markBoolS.l0 k acc (a + (i : Int)) (i : Int)) l.length (fun i => (Int.tmod (a + (i : Int)) 3 == 0)) (fun acc => (a + (l.length : Int), acc)) (by
    intro i acc hi ha r h
    refine Ev.step (fun k => ?_) h
    simp only [laws_markBoolS.l0]
    rw [if_pos (by omega), if_pos (by omega), wrap_succ (by omega), toNat_cast, wrap64_id (n := a + (i : Int) + 1) (by omega) (by omega), show a + (i : Int) + 1 = a + ((i + 1 : Nat) : Int) by omega]) (by
    intro acc ha
    refine Ev.of_succ (fun k => ?_)
    simp only [laws_markBoolS.l0]
    rw [if_neg (by omega)]) l rfl
  simp only [show ((0 : Nat) : Int) = 0 from rfl, Int.add_zero] at key
  exact key
theorem heldBoolS_ev (n : Nat) (hn : n ≤ 1048576) (a : Int) (h0 : 0 ≤ a) (h1 : a ≤ 1000000000) : Ev (fun k => laws_heldBoolS.f k (upBool a n) a) (a + n) := by
  have key := ev_yes (fun k i => laws_heldBoolS.l0 k (upBool a n) (a + (i : Int)) (i : Int)) n (fun _ => true) (a + (n : Int)) (by
    intro i hi _ r h
    refine Ev.step (fun k => ?_) h
    simp only [laws_heldBoolS.l0]
    rw [upBool_len, if_pos (by omega), if_pos (by omega), if_neg (by unfold rdOf; rw [toNat_cast, upBool_getD _ _ _ hi]; simp), wrap_succ (by omega), wrap64_id (n := a + (i : Int) + 1) (by omega) (by omega), show a + (i : Int) + 1 = a + ((i + 1 : Nat) : Int) by omega]) (by simp) (by
    refine Ev.of_succ (fun k => ?_)
    simp only [laws_heldBoolS.l0]
    rw [upBool_len, if_neg (by omega)])
  simp only [show ((0 : Nat) : Int) = 0 from rfl, Int.add_zero] at key
  exact key
/-- What is marked, slab by slab. -/
def markSb : Int → List SlabW → List SlabW
  | _, [] => []
  | a, x :: xs => ⟨a, a + 1, upBool (a + 2) x.f2.length⟩ :: markSb (a + 2 + x.f2.length) xs
def totSb (l : List SlabW) : Nat := (l.map (fun s : SlabW => s.f2.length + 2)).sum
theorem totSb_cons (x : SlabW) (l : List SlabW) : totSb (x :: l) = x.f2.length + 2 + totSb l := by simp [totSb]
theorem markSb_len (a : Int) (l : List SlabW) : (markSb a l).length = l.length := by
  induction l generalizing a with
  | nil => rfl
  | cons x l ih => simp [markSb, ih]
theorem markSb_loop : ∀ (rest pre : List SlabW) (b : Int), (∀ x ∈ rest, x.f2.length ≤ 1048576) → pre.length + rest.length ≤ 1048576 → 0 ≤ b → b + totSb rest ≤ 1000000000 →
    Ev (fun k => laws_markSlabS.l0 k (pre ++ rest) b (pre.length : Int)) (b + totSb rest, pre ++ markSb b rest) := by
  intro rest
  induction rest with
  | nil =>
    intro pre b _ hl h0 h1
    refine Ev.of_succ (fun k => ?_)
    simp only [laws_markSlabS.l0]
    rw [if_neg (by simp)]
    simp [totSb, markSb]
  | cons x rest ih =>
    intro pre b hx hl h0 h1
    rw [totSb_cons] at h1 ⊢
    simp only [List.length_cons] at hl
    have hxl := hx x List.mem_cons_self
    have hm := markBoolS_ev x.f2 hxl (b + 2) (by omega) (by omega)
    have hi := ih (pre ++ [⟨b, b + 1, upBool (b + 2) x.f2.length⟩]) (b + 2 + x.f2.length) (fun y hy => hx y (List.mem_cons_of_mem _ hy)) (by simp only [List.length_append, List.length_cons, List.length_nil]; omega) (by omega) (by omega)
    rw [show b + 2 + (x.f2.length : Int) + (totSb rest : Nat) = b + ((x.f2.length + 2 + totSb rest : Nat) : Int) by omega] at hi
    rw [show pre ++ markSb b (x :: rest) = (pre ++ [⟨b, b + 1, upBool (b + 2) x.f2.length⟩]) ++ markSb (b + 2 + x.f2.length) rest by simp [markSb]]
    refine Ev.step (f := fun k => (laws_markBoolS.f k x.f2 (b + 2)).bind fun t => laws_markSlabS.l0 k ((pre ++ [(⟨b, b + 1, t.2⟩ : SlabW)]) ++ rest) t.1 ((pre.length + 1 : Nat) : Int)) (fun k => ?_) (Ev.bind hm ?_)
    · simp only [laws_markSlabS.l0]
      rw [if_pos (by simp only [List.length_append, List.length_cons]; omega), if_pos (by omega), toNat_cast, getD_mid, wrap_succ (by omega), wrap64_id (n := b + 1) (by omega) (by omega), wrap64_id (n := b + 1 + 1) (by omega) (by omega), show b + 1 + 1 = b + 2 by omega]
      simp only [set_mid]
    · simp only [List.length_append, List.length_cons, List.length_nil] at hi
      exact hi
theorem markSlabS_ev (l : List SlabW) (hl : SmallSw l) (a : Int) (h0 : 0 ≤ a) (h1 : a + totSb l ≤ 1000000000) : Ev (fun k => laws_markSlabS.f k l a) (a + totSb l, markSb a l) := by
  have := markSb_loop l [] a hl.2 (by simpa using hl.1) h0 h1
  exact this
theorem heldSb_loop : ∀ (rest pre : List SlabW) (b : Int), (∀ x ∈ rest, x.f2.length ≤ 1048576) → pre.length + rest.length ≤ 1048576 → 0 ≤ b → b + totSb rest ≤ 1000000000 →
    Ev (fun k => laws_heldSlabS.l0 k (pre ++ markSb b rest) b (pre.length : Int)) (b + totSb rest) := by
  intro rest
  induction rest with
  | nil =>
    intro pre b _ hl h0 h1
    refine Ev.of_succ (fun k => ?_)
    simp only [laws_heldSlabS.l0]
    rw [if_neg (by simp [markSb])]
    simp [totSb]
  | cons x rest ih =>
    intro pre b hx hl h0 h1
    rw [totSb_cons] at h1 ⊢
    simp only [List.length_cons] at hl
    have hxl := hx x List.mem_cons_self
    have hm := heldBoolS_ev x.f2.length hxl (b + 2) (by omega) (by omega)
    have hi := ih (pre ++ [⟨b, b + 1, upBool (b + 2) x.f2.length⟩]) (b + 2 + x.f2.length) (fun y hy => hx y (List.mem_cons_of_mem _ hy)) (by simp only [List.length_append, List.length_cons, List.length_nil]; omega) (by omega) (by omega)
    rw [show b + 2 + (x.f2.length : Int) + (totSb rest : Nat) = b + ((x.f2.length + 2 + totSb rest : Nat) : Int) by omega] at hi
    have hml := markSb_len (b + 2 + x.f2.length) rest
    refine Ev.step (f := fun k => (laws_heldBoolS.f k (upBool (b + 2) x.f2.length) (b + 2)).bind fun t307 => (if t307 < 0 then (some (-1)) else (laws_heldSlabS.l0 k (pre ++ markSb b (x :: rest)) t307 ((pre.length + 1 : Nat) : Int)))) (fun k => ?_) (Ev.bind hm ?_)
    · simp only [laws_heldSlabS.l0]
      rw [if_pos (by simp only [List.length_append, markSb, List.length_cons]; omega), if_pos (by omega), rdBW, wrap_succ (by omega), wrap64_id (n := b + 1) (by omega) (by omega), wrap64_id (n := b + 1 + 1) (by omega) (by omega), show b + 1 + 1 = b + 2 by omega]
      simp only [markSb, getD_mid, if_true]
    · simp only [if_neg (show ¬ b + 2 + (x.f2.length : Int) < 0 by omega)]
      rw [show pre ++ markSb b (x :: rest) = (pre ++ [⟨b, b + 1, upBool (b + 2) x.f2.length⟩]) ++ markSb (b + 2 + x.f2.length) rest by simp [markSb]]
      simp only [List.length_append, List.length_cons, List.length_nil] at hi
      exact hi
theorem heldSlabS_ev (l : List SlabW) (hl : SmallSw l) (a : Int) (h0 : 0 ≤ a) (h1 : a + totSb l ≤ 1000000000) : Ev (fun k => laws_heldSlabS.f k (markSb a l) a) (a + totSb l) := by
  have := heldSb_loop l [] a hl.2 (by simpa using hl.1) h0 h1
  exact this
theorem totSb_sum (l : List SlabL) (h : l.length ≤ 1048576) (h2 : ((l.map (fun s => s.f2.length)).sum : Nat) ≤ 1048576) : totSb (l.map toSlab) ≤ 4000000 := by
  have key : ∀ l : List SlabL, totSb (l.map toSlab) = 2 * l.length + (l.map (fun s => s.f2.length)).sum := by
    intro l
    induction l with
    | nil => rfl
    | cons x l ih => rw [List.map_cons, totSb_cons, ih]; simp only [toSlab, List.length_cons, List.map_cons, List.sum_cons]; omega
  rw [key]; omega
theorem spec_l04Copy_ev (l : List SlabW) (hl : SmallSw l) : Ev (fun k => spec_l04Copy.f k l) l := by
  have h1 := hl.1
  have key := ev_yes (fun k i => spec_l04Copy.l0 k l (l.take i) (i : Int)) l.length (fun _ => true) l (by
    intro i hi _ r h
    refine Ev.step (fun k => ?_) h
    have hr := hl.at_ i
    simp only [spec_l04Copy.l0]
    rw [if_pos (by omega), if_pos (by omega)]
    simp only [Option.bind_some, List.nil_append]
    rw [rdBW, if_pos (by simp only [List.length_nil]; omega), if_pos (by rw [List.length_take]; omega), take_getD l zbw hi, wrap_succ (by omega)]) (by simp) (by
    refine Ev.of_succ (fun k => ?_)
    simp only [spec_l04Copy.l0]
    rw [if_neg (by omega), List.take_length])
  exact key
theorem impl_copySlabs_ev (l : List SlabW) (hl : SmallSw l) : Ev (fun k => impl_copySlabs.f k l) l := by
  have h1 := hl.1
  have key := ev_yes (fun k i => impl_copySlabs.l0 k (l.take i) l (l.length : Int) (i : Int)) l.length (fun _ => true) l (by
    intro i hi _ r h
    refine Ev.step (fun k => ?_) h
    have hr := hl.at_ i
    simp only [impl_copySlabs.l0]
    rw [if_pos (by omega), if_pos (by omega), if_pos (by omega), rdBW, if_pos (by simp only [List.length_nil]; omega), if_pos (by rw [List.length_take]; omega)]
    simp only [List.nil_append]
    rw [take_getD l zbw hi, wrap_succ (by omega)]) (by simp) (by
    refine Ev.of_succ (fun k => ?_)
    simp only [impl_copySlabs.l0]
    rw [if_neg (by omega), List.take_length])
  exact key
/-- What is as right slabs are. -/
def SlabFours (l : List SlabW) : Prop := l.length ≤ 33 ∧ ∀ x ∈ l, x.f2.length ≤ 4
theorem SlabFours.nil : SlabFours [] := ⟨by decide, fun x hx => by cases hx⟩
theorem slabB_four {s : SlabW} (h : slabB s = true) : s.f2.length ≤ 4 := by
  simp only [slabB, Bool.and_eq_true, decide_eq_true_eq] at h
  obtain ⟨⟨⟨_, h2⟩, h3⟩, _⟩ := h
  rcases partB_or h2 with h4 | h4 | h4 <;> rw [h4] at h3 <;> omega
theorem slabsB_four {l : List SlabW} (h : slabsB l = true) : SlabFours l := by
  simp only [slabsB, Bool.and_eq_true, decide_eq_true_eq] at h
  refine ⟨by omega, fun x hx => ?_⟩
  obtain ⟨i, hi, rfl⟩ := List.getElem_of_mem hx
  have := List.all_eq_true.1 h.2 i (List.mem_range.2 hi)
  simp only [okSl, Bool.and_eq_true] at this
  have h5 := slabB_four this.1
  unfold slabAt at h5
  rwa [List.getD_eq_getElem?_getD, List.getElem?_eq_getElem hi] at h5
theorem totSb_le : ∀ (l : List SlabW), (∀ x ∈ l, x.f2.length ≤ 4) → totSb l ≤ 6 * l.length := by
  intro l
  induction l with
  | nil => intro _; exact Nat.le_refl _
  | cons x l ih =>
    intro h
    have h2 := ih (fun y hy => h y (List.mem_cons_of_mem _ hy))
    have h3 := h x List.mem_cons_self
    rw [totSb_cons, List.length_cons]
    omega
theorem SlabFours.small {l : List SlabW} (h : SlabFours l) : SmallSw l ∧ totSb l ≤ 198 :=
  ⟨⟨by have := h.1; omega, fun x hx => by have := h.2 x hx; omega⟩, by have := totSb_le l h.2; have := h.1; omega⟩
theorem SlabFours.set {l : List SlabW} (h : SlabFours l) (i : Nat) (a : SlabW) (ha : a.f2.length ≤ 4) : SlabFours (l.set i a) := by
  refine ⟨by simpa using h.1, fun x hx => ?_⟩
  rcases List.mem_or_eq_of_mem_set hx with hx | rfl
  · exact h.2 x hx
  · exact ha
def ff : List Bool → Nat → Int
  | [], _ => -1
  | b :: l, i => if b = false then (i : Int) else ff l (i + 1)
theorem ff_bd : ∀ (l : List Bool) (i : Nat), ff l i = -1 ∨ ((i : Int) ≤ ff l i ∧ ff l i < i + l.length) := by
  intro l
  induction l with
  | nil => intro i; exact Or.inl rfl
  | cons s l ih =>
    intro i
    unfold ff
    by_cases h : s = false
    · rw [if_pos h]; right; simp only [List.length_cons]; omega
    · rw [if_neg h]
      rcases ih (i + 1) with h2 | h2
      · exact Or.inl h2
      · right; simp only [List.length_cons]; omega
theorem index_loop : ∀ (rest pre : List Bool), pre.length + rest.length ≤ 1048576 → Ev (fun k => slices_Index_bool_bool.l0 k (pre ++ rest) false ((pre ++ rest).length : Int) (pre.length : Int)) (ff rest pre.length) := by
  intro rest
  induction rest with
  | nil =>
    intro pre _
    refine Ev.of_succ (fun k => ?_)
    simp only [slices_Index_bool_bool.l0, ff]
    rw [if_neg (by simp)]
  | cons s rest ih =>
    intro pre hl
    simp only [List.length_cons] at hl
    unfold ff
    by_cases h : s = false
    · rw [if_pos h]
      refine Ev.of_succ (fun k => ?_)
      simp only [slices_Index_bool_bool.l0]
      rw [if_pos (by simp only [List.length_append, List.length_cons]; omega), if_pos (by omega), if_pos (by simp only [List.length_append, List.length_cons]; omega), if_pos (by unfold rdOf; rw [toNat_cast, getD_mid, h]; rfl)]
    · rw [if_neg h]
      have hi := ih (pre ++ [s]) (by simp only [List.length_append, List.length_cons, List.length_nil]; omega)
      simp only [List.append_assoc, List.singleton_append, List.length_append, List.length_cons, List.length_nil, Nat.zero_add] at hi
      refine Ev.step (fun k => ?_) hi
      simp only [slices_Index_bool_bool.l0]
      rw [if_pos (by simp only [List.length_append, List.length_cons]; omega), if_pos (by omega), if_pos (by simp only [List.length_append, List.length_cons]; omega), if_neg (by unfold rdOf; rw [toNat_cast, getD_mid]; cases s <;> simp_all), wrap_succ (by omega)]
      simp only [List.length_append, List.length_cons]
theorem index_ff (l : List Bool) (hl : l.length ≤ 1048576) : Ev (fun k => slices_Index_bool_bool.f k l false) (ff l 0) := by
  have := index_loop l [] (by simpa using hl)
  exact this
def tkB (l : List SlabW) (sz : Int) : List SlabW → Nat → List SlabW × Int × Int × Bool
  | [], _ => ([], 0, 0, false)
  | s :: rest, i => if s.f1 = sz ∧ 0 ≤ ff s.f2 0 then (l.set i ⟨s.f0, s.f1, s.f2.set (ff s.f2 0).toNat true⟩, s.f0, ff s.f2 0, true) else tkB l sz rest (i + 1)
def takeB (l : List SlabW) (sz : Int) : List SlabW × Int × Int × Bool := if slabsB l = true then tkB l sz l 0 else ([], 0, 0, false)
theorem impl_take_loop (l : List SlabW) (hl : SmallSw l) (sz : Int) : ∀ (rest pre : List SlabW), l = pre ++ rest → Ev (fun k => impl_TakePart.l0 k l sz l (l.length : Int) (pre.length : Int)) (tkB l sz rest pre.length) := by
  intro rest
  have hl1 := hl.1
  induction rest with
  | nil =>
    intro pre e
    have hlen : l.length = pre.length := by rw [e]; simp
    refine Ev.of_succ (fun k => ?_)
    simp only [impl_TakePart.l0, tkB]
    rw [if_neg (by omega)]
  | cons s rest ih =>
    intro pre e
    have hlen : l.length = pre.length + (rest.length + 1) := by rw [e]; simp
    have hget : l.getD pre.length zbw = s := by rw [e, getD_mid]
    have hs2 : s.f2.length ≤ 1048576 := by rw [← hget]; exact hl.at_ _
    have hi := ih (pre ++ [s]) (by rw [e]; simp)
    simp only [List.length_append, List.length_cons, List.length_nil, Nat.zero_add] at hi
    have hb := ff_bd s.f2 0
    unfold tkB
    refine Ev.step (f := fun k => (slices_Index_bool_bool.f k s.f2 false).bind fun t986 => (if s.f1 = sz then (if t986 ≥ 0 then ((impl_copySlabs.f k l).bind fun t987 => (if (pre.length : Int) < (t987.length : Int) then (if 0 ≤ t986 then (if t986 < (((rd_T135 t987 (pre.length : Int)).f2).length : Int) then (some ((t987.set (pre.length : Int).toNat (⟨(rd_T135 t987 (pre.length : Int)).f0, (rd_T135 t987 (pre.length : Int)).f1, (((rd_T135 t987 (pre.length : Int)).f2).set (t986 : Int).toNat true)⟩ : SlabW)), s.f0, t986, true)) else (none)) else (none)) else (none))) else (impl_TakePart.l0 k l sz l (l.length : Int) ((pre.length + 1 : Nat) : Int))) else (impl_TakePart.l0 k l sz l (l.length : Int) ((pre.length + 1 : Nat) : Int)))) (fun k => ?_) (Ev.bind (index_ff s.f2 hs2) ?_)
    · simp only [impl_TakePart.l0]
      rw [if_pos (by omega), if_pos (by omega), if_pos (by omega), wrap_succ (by omega)]
      simp only [rdBW, hget]
    · generalize ff s.f2 0 = e2 at *
      by_cases h1 : s.f1 = sz
      · by_cases h2 : 0 ≤ e2
        · simp only [if_pos h1, if_pos (show e2 ≥ 0 from h2), if_pos (show s.f1 = sz ∧ 0 ≤ e2 from ⟨h1, h2⟩)]
          refine Ev.bind (impl_copySlabs_ev l hl) ?_
          simp only [rdBW, hget, if_pos (show (pre.length : Int) < (l.length : Int) by omega), if_pos h2, if_pos (show e2 < (s.f2.length : Int) by rcases hb with h | h <;> omega), toNat_cast]
          exact Ev.now _
        · simp only [if_pos h1, if_neg (show ¬ e2 ≥ 0 from h2), if_neg (show ¬ (s.f1 = sz ∧ 0 ≤ e2) from fun h => h2 h.2)]
          exact hi
      · simp only [if_neg h1, if_neg (show ¬ (s.f1 = sz ∧ 0 ≤ e2) from fun h => h1 h.1)]
        exact hi
theorem impl_TakePart_ev (l : List SlabW) (hl : SmallSw l) (sz : Int) : Ev (fun k => impl_TakePart.f k l sz) (takeB l sz) := by
  unfold impl_TakePart.f takeB
  refine Ev.bind (impl_SlabsOk_ev l hl) ?_
  by_cases h : slabsB l = true
  · simp only [if_pos h]
    exact impl_take_loop l hl sz l [] rfl
  · simp only [if_neg h]; exact Ev.now _
theorem spec_take_in (l : List SlabW) (hl : SmallSw l) (sz : Int) (i : Nat) (hi : i < l.length) (s : SlabW) (hget : l.getD i zbw = s) (hs : s.f1 = sz) (hs2 : s.f2.length ≤ 1048576) (R : List SlabW × Int × Int × Bool) (hR : Ev (fun k => spec_TakePart.l0 k l sz l ((i + 1 : Nat) : Int)) R) :
    ∀ (rest pre : List Bool), s.f2 = pre ++ rest → Ev (fun k => spec_TakePart.l1 k l sz l (i : Int) (pre.length : Int)) (if 0 ≤ ff rest pre.length then (l.set i ⟨s.f0, s.f1, s.f2.set (ff rest pre.length).toNat true⟩, s.f0, ff rest pre.length, true) else R) := by
  intro rest
  have hl1 := hl.1
  induction rest with
  | nil =>
    intro pre e
    have hlen : s.f2.length = pre.length := by rw [e]; simp
    unfold ff
    rw [if_neg (by omega)]
    refine Ev.step (f := fun k => spec_TakePart.j3 k l sz l (i : Int) (pre.length : Int) false) (fun k => ?_) (Ev.step (fun k => ?_) hR)
    · simp only [spec_TakePart.l1, rdBW, hget]
      rw [if_pos (by omega), if_pos (by omega), if_neg (by omega)]
    · simp only [spec_TakePart.j3, Bool.false_eq_true, if_false]
      rw [wrap_succ (by omega)]
  | cons b rest ih =>
    intro pre e
    have hlen : s.f2.length = pre.length + (rest.length + 1) := by rw [e]; simp
    have hb : rdOf false s.f2 (pre.length : Int) = b := by unfold rdOf; rw [toNat_cast, e, getD_mid]
    refine Ev.step (f := fun k => spec_TakePart.j3 k l sz l (i : Int) (pre.length : Int) true) (fun k => ?_) ?_
    · simp only [spec_TakePart.l1, rdBW, hget, hs, beq_self_eq_true]
      rw [if_pos (by omega), if_pos (by omega), if_pos (by omega)]
    · unfold ff
      cases b with
      | false =>
        simp only [if_true, if_pos (show (0 : Int) ≤ (pre.length : Int) by omega)]
        refine Ev.of_succ (fun k => ?_)
        simp only [spec_TakePart.j3, rdBW, hget, hb, if_true, Bool.false_eq_true, if_false, Option.bind_some, toNat_cast]
        rw [if_pos (by omega), if_pos (by omega), if_pos (by omega), if_pos (by omega)]
        have : (l.set i (⟨s.f0, s.f1, s.f2.set pre.length true⟩ : SlabW)).getD i zbw = ⟨s.f0, s.f1, s.f2.set pre.length true⟩ := by
          rw [List.getD_eq_getElem?_getD, List.getElem?_set_self hi]; rfl
        rw [this]
      | true =>
        simp only [Bool.true_eq_false, if_false]
        have hi2 := ih (pre ++ [true]) (by rw [e]; simp)
        simp only [List.length_append, List.length_cons, List.length_nil, Nat.zero_add] at hi2
        refine Ev.step (fun k => ?_) hi2
        simp only [spec_TakePart.j3, rdBW, hget, hb, if_true]
        rw [if_pos (by omega), if_pos (by omega), if_pos (by omega), if_pos (by omega), wrap_succ (by omega)]
theorem spec_take_loop (l : List SlabW) (hl : SmallSw l) (sz : Int) (hok : slabsB l = true) : ∀ (rest pre : List SlabW), l = pre ++ rest → Ev (fun k => spec_TakePart.l0 k l sz l (pre.length : Int)) (tkB l sz rest pre.length) := by
  intro rest
  have hl1 := hl.1
  induction rest with
  | nil =>
    intro pre e
    have hlen : l.length = pre.length := by rw [e]; simp
    refine Ev.step (f := fun k => spec_TakePart.j1 k l sz l (pre.length : Int) false) (fun k => ?_) (Ev.of_succ (fun k => ?_))
    · simp only [spec_TakePart.l0]
      rw [if_neg (by omega)]
    · simp only [spec_TakePart.j1, tkB, Bool.false_eq_true, if_false]
  | cons s rest ih =>
    intro pre e
    have hlen : l.length = pre.length + (rest.length + 1) := by rw [e]; simp
    have hget : l.getD pre.length zbw = s := by rw [e, getD_mid]
    have hs2 : s.f2.length ≤ 1048576 := by rw [← hget]; exact hl.at_ _
    have hi := ih (pre ++ [s]) (by rw [e]; simp)
    simp only [List.length_append, List.length_cons, List.length_nil, Nat.zero_add] at hi
    refine Ev.step (f := fun k => (spec_SlabsOk.f k l).bind fun t932 => (spec_TakePart.j1 k l sz l (pre.length : Int) t932)) (fun k => ?_) (Ev.bind (spec_SlabsOk_ev l hl) ?_)
    · simp only [spec_TakePart.l0]
      rw [if_pos (by omega)]
    · rw [hok]
      refine Ev.step (f := fun k => spec_TakePart.l1 k l sz l (pre.length : Int) 0) (fun k => ?_) ?_
      · simp only [spec_TakePart.j1, if_true]
      · unfold tkB
        by_cases h1 : s.f1 = sz
        · have hin := spec_take_in l hl sz pre.length (by omega) s hget h1 hs2 _ hi s.f2 [] rfl
          simp only [List.length_nil, show ((0 : Nat) : Int) = 0 from rfl] at hin
          simp only [h1, true_and]
          rw [h1] at hin
          exact hin
        · rw [if_neg (fun h => h1 h.1)]
          refine Ev.step (f := fun k => spec_TakePart.j3 k l sz l (pre.length : Int) 0 false) (fun k => ?_) (Ev.step (fun k => ?_) hi)
          · simp only [spec_TakePart.l1, rdBW, hget, beq_eq_false_iff_ne.mpr h1, ite_self]
            rw [if_pos (by omega), if_pos (by omega)]
          · simp only [spec_TakePart.j3, Bool.false_eq_true, if_false]
            rw [wrap_succ (by omega)]
theorem spec_TakePart_ev (l : List SlabW) (hl : SmallSw l) (sz : Int) : Ev (fun k => spec_TakePart.f k l sz) (takeB l sz) := by
  unfold spec_TakePart.f takeB
  refine Ev.bind (spec_l04Copy_ev l hl) ?_
  by_cases h : slabsB l = true
  · rw [if_pos h]
    exact spec_take_loop l hl sz h l [] rfl
  · rw [if_neg h]
    have hno : Ev (fun k => spec_TakePart.j1 k l sz l 0 false) ([], 0, 0, false) := by
      refine Ev.of_succ (fun k => ?_)
      simp only [spec_TakePart.j1, Bool.false_eq_true, if_false]
    by_cases h0 : (0 : Int) < (l.length : Int)
    · refine Ev.step (f := fun k => (spec_SlabsOk.f k l).bind fun t932 => (spec_TakePart.j1 k l sz l 0 t932)) (fun k => by simp only [spec_TakePart.l0, if_pos h0]) (Ev.bind (spec_SlabsOk_ev l hl) ?_)
      rw [Bool.eq_false_iff.2 h]
      exact hno
    · refine Ev.step (fun k => ?_) hno
      simp only [spec_TakePart.l0, if_neg h0]
theorem tkB_four (l : List SlabW) (h : SlabFours l) (sz : Int) : ∀ (rest : List SlabW) (i : Nat), (∀ x ∈ rest, x.f2.length ≤ 4) → SlabFours (tkB l sz rest i).1 := by
  intro rest
  induction rest with
  | nil => intro i _; exact SlabFours.nil
  | cons s rest ih =>
    intro i hx
    unfold tkB
    by_cases hc : s.f1 = sz ∧ 0 ≤ ff s.f2 0
    · rw [if_pos hc]
      exact h.set _ _ (by show (s.f2.set (ff s.f2 0).toNat true).length ≤ 4; rw [List.length_set]; exact hx s List.mem_cons_self)
    · rw [if_neg hc]
      exact ih (i + 1) (fun y hy => hx y (List.mem_cons_of_mem _ hy))
theorem takeB_four (l : List SlabW) (sz : Int) : SlabFours (takeB l sz).1 := by
  unfold takeB
  by_cases h : slabsB l = true
  · rw [if_pos h]
    have h4 := slabsB_four h
    exact tkB_four l h4 sz l 0 h4.2
  · rw [if_neg h]; exact SlabFours.nil

theorem FnExactTakePart (l0 : List S132) (g0 : (l0.length ≤ maxLen ∧ ∀ y0 ∈ l0, ((Lit.int .i64 y0.f0).wf = true ∧ (Lit.int .i64 y0.f1).wf = true ∧ (y0.f2.length ≤ maxLen ∧ ∀ y1 ∈ y0.f2, True)))) (a1 : Int) (_w1 : (Lit.int .i64 a1).wf = true) : (∃ (k : Nat) (z : Int) (t : List (S135)) (y0 : List (S135)) (y1 : Int) (y2 : Int) (y3 : Bool) (m : Int) (M : List S135) (m1 : Int) (M1 : List S135), (laws_szSlabS.f k l0 1048576 = some z) ∧ (laws_toSlabS.f k l0 = some t) ∧ (spec_TakePart.f k t a1 = some (y0, y1, y2, y3)) ∧ (impl_TakePart.f k t a1 = some (y0, y1, y2, y3)) ∧ (laws_eqSlabS.f k y0 y0 = some true) ∧ (laws_eqSlabS.f k t t = some true) ∧ (laws_markSlabS.f k t 1 = some (m, M)) ∧ (laws_markSlabS.f k y0 1 = some (m1, M1)) ∧ (laws_heldSlabS.f k M1 1 = some m1) ∧ (¬ z < 0) ∧ (¬ m < 0) ∧ (¬ m1 < 0)) ∨ (∃ (k : Nat) (z : Int), (laws_szSlabS.f k l0 1048576 = some z) ∧ (z < 0)) := by
  obtain ⟨z, ⟨n0, e0⟩, hz⟩ := szSlabS_ev l0 g0.1 (fun x hx => (g0.2 x hx).2.2.1)
  by_cases hneg : z < 0
  · exact Or.inr ⟨n0, z, e0 _ (by omega), hneg⟩
  · refine Or.inl ?_
    obtain ⟨hsm, hq⟩ := hz (by omega)
    have ht := totSb_sum l0 hsm.1 (by omega)
    have hw := hsm.toW
    obtain ⟨h4, h5⟩ := (takeB_four (l0.map toSlab) a1).small
    have hs := spec_TakePart_ev (l0.map toSlab) hw a1
    have hi := impl_TakePart_ev (l0.map toSlab) hw a1
    generalize takeB (l0.map toSlab) a1 = y at *
    obtain ⟨n1, e1⟩ := toSlabS_ev l0 hsm
    obtain ⟨n2, e2⟩ := hs
    obtain ⟨n3, e3⟩ := hi
    obtain ⟨n4, e4⟩ := eqSlabS_refl y.1 h4
    obtain ⟨n5, e5⟩ := eqSlabS_refl (l0.map toSlab) hw
    obtain ⟨n6, e6⟩ := markSlabS_ev (l0.map toSlab) hw 1 (by omega) (by omega)
    obtain ⟨n7, e7⟩ := markSlabS_ev y.1 h4 1 (by omega) (by omega)
    obtain ⟨n8, e8⟩ := heldSlabS_ev y.1 h4 1 (by omega) (by omega)
    exact ⟨n0 + n1 + n2 + n3 + n4 + n5 + n6 + n7 + n8, z, l0.map toSlab, y.1, y.2.1, y.2.2.1, y.2.2.2, _, _, _, _, e0 _ (by omega), e1 _ (by omega), e2 _ (by omega), e3 _ (by omega), e4 _ (by omega), e5 _ (by omega), e6 _ (by omega), e7 _ (by omega), e8 _ (by omega), hneg, by omega, by omega⟩

end Go.Proofs.Ytdpejnckojhgjaa.Pure
end
