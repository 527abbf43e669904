/- What the proof of FnExactPutAsideSaid rests on, part 4: plain lemmas and contracts of the functions that the law reaches (in part written by a printing program over the translation). No condition. -/
import Derived.Test.YtdpejnckojhgjaaBFnExactPutAsidec
section
namespace Go.Proofs.Ytdpejnckojhgjaa.Pure
open Go.RowKit Go.Proofs.Ytdpejnckojhgjaa.P Go.Proofs.YtdpejnckojhgjaaW.PrintWords Go.Proofs.YtdpejnckojhgjaaW.PrintLast Go.Proofs.YtdpejnckojhgjaaW.PrintMore Go.Proofs.Ytdpejnckojhgjaa.Aid
set_option linter.unusedVariables false
set_option linter.unusedSimpArgs false

theorem l01In_eq (a b c : Int) : spec_l01In.f a b c = some (decide (b ≤ a ∧ a ≤ c)) := in_dec a b c
theorem within_eq (a b c : Int) : impl_within.f a b c = some (decide (b ≤ a ∧ a ≤ c)) := in_dec a b c
theorem szIntS_eq (l : List Int) (hl : l.length ≤ maxLen) (a : Int) (h0 : 0 ≤ a) (h1 : a ≤ 1048576) : laws_szIntS.f l a = some (if (l.length : Int) ≤ a then a - l.length else -1) := by
  unfold maxLen at hl
  unfold laws_szIntS.f
  have e : wrap64 (a - (l.length : Int)) = a - l.length := by unfold wrap64; omega
  rw [e]
  by_cases h : (l.length : Int) ≤ a
  · rw [if_neg (by omega), if_pos h]
  · rw [if_pos (by omega), if_neg h]
theorem toIntS_ev (l : List Int) (hl : l.length ≤ 1048576) : Ev (fun k => laws_toIntS.f k l) l := by
  have key := ev_copy0 (fun k acc i => laws_toIntS.l0 k l acc (i : Int)) l.length (fun i => l.getD i 0) id (by
    intro i acc hi ha r h
    refine Ev.step (fun k => ?_) h
    simp only [laws_toIntS.l0]
    rw [if_pos (by omega), if_pos (by omega), if_pos (by omega), wrap_succ (by omega), toNat_cast]
    rfl) (by
    intro acc ha
    refine Ev.of_succ (fun k => ?_)
    simp only [laws_toIntS.l0]
    rw [if_neg (by omega)]
    rfl) (List.replicate l.length 0) (by simp)
  rw [range_map_getD] at key
  refine Ev.congr (fun k => ?_) key
  unfold laws_toIntS.f
  rw [if_pos (by omega), if_pos (by omega), toNat_cast]
  rfl
theorem eqIntS_refl (l : List Int) (hl : l.length ≤ 1048576) : Ev (fun k => laws_eqIntS.f k l l) true := by
  have key := ev_all0 (fun k i => laws_eqIntS.l0 k l l (i : Int)) l.length (fun _ => true) false true (by
    intro i hi _ r h
    refine Ev.step (fun k => ?_) h
    simp only [laws_eqIntS.l0]
    rw [if_pos (by omega), if_pos (by omega), if_pos (by omega), if_pos trivial, wrap_succ (by omega)]) (by intro i _ h; cases h) (by
    refine Ev.of_succ (fun k => ?_)
    simp only [laws_eqIntS.l0]
    rw [if_neg (by omega)])
  rw [if_pos (by simp)] at key
  refine Ev.congr (fun k => ?_) key
  unfold laws_eqIntS.f
  rw [if_pos rfl]
  rfl
def upInt (a : Int) (n : Nat) : List Int := (List.range n).map (fun j : Nat => a + (j : Int))
theorem upInt_len (a : Int) (n : Nat) : (upInt a n).length = n := by simp [upInt]
theorem upInt_getD (a : Int) (n i : Nat) (h : i < n) : (upInt a n).getD i 0 = a + i := by simp [upInt, List.getD_eq_getElem?_getD, h]
theorem markIntS_ev (l : List Int) (hl : l.length ≤ 1048576) (a : Int) (h0 : 0 ≤ a) (h1 : a ≤ 1000000000) : Ev (fun k => laws_markIntS.f k l a) (a + l.length, upInt a l.length) := by
  have key := ev_copy0 (fun k acc i => laws_markIntS.l0 k acc (a + (i : Int)) (i : Int)) l.length (fun i => a + (i : Int)) (fun acc => (a + (l.length : Int), acc)) (by
    intro i acc hi ha r h
    refine Ev.step (fun k => ?_) h
    simp only [laws_markIntS.l0]
    rw [if_pos (by omega), if_pos (by omega), wrap_succ (by omega), toNat_cast, wrap64_id (n := a + (i : Int) + 1) (by omega) (by omega), show a + (i : Int) + 1 = a + ((i + 1 : Nat) : Int) by omega]) (by
    intro acc ha
    refine Ev.of_succ (fun k => ?_)
    simp only [laws_markIntS.l0]
    rw [if_neg (by omega)]) l rfl
  simp only [show ((0 : Nat) : Int) = 0 from rfl, Int.add_zero] at key
  exact key
theorem heldIntS_ev (n : Nat) (hn : n ≤ 1048576) (a : Int) (h0 : 0 ≤ a) (h1 : a ≤ 1000000000) : Ev (fun k => laws_heldIntS.f k (upInt a n) a) (a + n) := by
  have key := ev_yes (fun k i => laws_heldIntS.l0 k (upInt a n) (a + (i : Int)) (i : Int)) n (fun _ => true) (a + (n : Int)) (by
    intro i hi _ r h
    refine Ev.step (fun k => ?_) h
    simp only [laws_heldIntS.l0]
    rw [upInt_len, if_pos (by omega), if_pos (by omega), if_pos (by unfold rd; rw [toNat_cast, upInt_getD _ _ _ hi]), wrap_succ (by omega), wrap64_id (n := a + (i : Int) + 1) (by omega) (by omega), show a + (i : Int) + 1 = a + ((i + 1 : Nat) : Int) by omega]) (by simp) (by
    refine Ev.of_succ (fun k => ?_)
    simp only [laws_heldIntS.l0]
    rw [upInt_len, if_neg (by omega)])
  simp only [show ((0 : Nat) : Int) = 0 from rfl, Int.add_zero] at key
  exact key
theorem getD_mid {α : Type} (pre : List α) (x : α) (rest : List α) (d : α) : (pre ++ x :: rest).getD pre.length d = x := by
  simp [List.getD_eq_getElem?_getD]
theorem set_mid {α : Type} (pre : List α) (x y : α) (rest : List α) : (pre ++ x :: rest).set pre.length y = (pre ++ [y]) ++ rest := by
  rw [List.set_append_right _ _ (Nat.le_refl _)]
  simp
theorem take_getD {α : Type} (l : List α) (d : α) {i : Nat} (h : i < l.length) : l.take i ++ [l.getD i d] = l.take (i + 1) := by
  rw [List.take_succ_eq_append_getElem h]
  simp [List.getD_eq_getElem?_getD, List.getElem?_eq_getElem h]
theorem map_getD {α β : Type} (f : α → β) (l : List α) (d : α) : (List.range l.length).map (fun i => f (l.getD i d)) = l.map f := by
  rw [show (fun i => f (l.getD i d)) = f ∘ (fun i => l.getD i d) from rfl, ← List.map_map, range_map_getD]
abbrev SlotW := S62
abbrev SlotL := S113
abbrev zsl : SlotL := z113
abbrev zsw : SlotW := z62
def toSlot (r : SlotL) : SlotW := ⟨r.f0, r.f1⟩
theorem rdSL (l : List SlotL) (i : Nat) : rd_T113 l (i : Int) = l.getD i zsl := by unfold rd_T113; rw [toNat_cast]
theorem rdSW (l : List SlotW) (i : Nat) : rd_T62 l (i : Int) = l.getD i zsw := by unfold rd_T62; rw [toNat_cast]
theorem szSlot_eq (s : SlotL) (hl : s.f1.length ≤ maxLen) (a : Int) (h0 : 0 ≤ a) (h1 : a ≤ 1048576) : laws_szSlot.f s.f0 s.f1 a = some (if (s.f1.length : Int) ≤ a then (a - (s.f1.length : Int) : Int) else (-1 : Int)) := by
  unfold laws_szSlot.f
  rw [szIntS_eq _ hl a h0 h1]
  simp only [Option.bind_some]
  by_cases h : (s.f1.length : Int) ≤ a
  · rw [if_pos h, if_neg (by omega)]
  · rw [if_neg h, if_pos (by omega)]
theorem mem_getD {α : Type} {l : List α} {i : Nat} (h : i < l.length) (d : α) : l.getD i d ∈ l := by
  rw [List.getD_eq_getElem?_getD, List.getElem?_eq_getElem h]; exact List.getElem_mem h
def SmallS (l : List SlotL) : Prop := l.length ≤ 1048576 ∧ ∀ x ∈ l, x.f1.length ≤ 1048576
theorem szSlotS_ev (l : List SlotL) (hl : l.length ≤ maxLen) (hls : ∀ x ∈ l, x.f1.length ≤ maxLen) :
    ∃ r, Ev (fun k => laws_szSlotS.f k l 1048576) r ∧ (0 ≤ r → SmallS l ∧ (l.length : Int) + ((l.map (fun s => s.f1.length)).sum : Nat) ≤ 1048576) := by
  by_cases hlen : (l.length : Int) ≤ 1048576
  · obtain ⟨r, hr, hq⟩ := ev_sz (fun k b i => laws_szSlotS.l0 k l b (i : Int)) l.length (fun i => (l.getD i zsl).f1.length) (by
      intro i b hi h0 h1 hs r h
      refine Ev.step (fun k => ?_) h
      simp only [laws_szSlotS.l0]
      rw [if_pos (by omega), if_pos (by omega), rdSL, szSlot_eq _ (hls _ (mem_getD hi _)) b h0 h1, if_pos hs]
      simp only [Option.bind_some]
      rw [if_neg (by omega), wrap_succ (by simp only [maxLen] at hl; omega)]) (by
      intro i b hi h0 h1 hs
      refine Ev.of_succ (fun k => ?_)
      simp only [laws_szSlotS.l0]
      rw [if_pos (by omega), if_pos (by omega), rdSL, szSlot_eq _ (hls _ (mem_getD hi _)) b h0 h1, if_neg hs]
      simp only [Option.bind_some]
      rw [if_pos (by omega)]) (by
      intro b
      refine Ev.of_succ (fun k => ?_)
      simp only [laws_szSlotS.l0]
      rw [if_neg (by omega)]) (1048576 - (l.length : Int)) (by omega) (by omega)
    refine ⟨r, Ev.congr (fun k => ?_) hr, fun h => ?_⟩
    · unfold laws_szSlotS.f
      rw [sub_len (by omega) (by omega) hl, if_neg (by omega)]
      rfl
    · have := hq h
      refine ⟨⟨by omega, fun x hx => ?_⟩, ?_⟩
      · obtain ⟨i, hi, rfl⟩ := List.getElem_of_mem hx
        have h5 := sum_ge (fun i => (l.getD i zsl).f1.length) hi
        simp only [List.getD_eq_getElem?_getD, List.getElem?_eq_getElem hi, Option.getD_some] at h5
        simp only [List.getD_eq_getElem?_getD] at this
        omega
      · rw [map_getD (fun s : SlotL => s.f1.length) l zsl] at this
        omega
  · refine ⟨-1, Ev.const (fun k => ?_), fun h => by omega⟩
    unfold laws_szSlotS.f
    rw [sub_len (by omega) (by omega) hl, if_pos (by omega)]
theorem SmallS.at_ {l : List SlotL} (h : SmallS l) (i : Nat) : (l.getD i zsl).f1.length ≤ 1048576 := by
  by_cases hi : i < l.length
  · exact h.2 _ (mem_getD hi _)
  · rw [List.getD_eq_getElem?_getD, List.getElem?_eq_none (by omega)]; decide
theorem toSlotS_ev (l : List SlotL) (hl : SmallS l) : Ev (fun k => laws_toSlotS.f k l) (l.map toSlot) := by
  have h1 := hl.1
  have key := ev_copy0 (fun k acc i => laws_toSlotS.l0 k l acc (i : Int)) l.length (fun i => toSlot (l.getD i zsl)) id (by
    intro i acc hi ha r h
    refine Ev.step (f := fun k => (laws_toIntS.f k (l.getD i zsl).f1).bind fun t => laws_toSlotS.l0 k l (acc.set i (⟨(l.getD i zsl).f0, t⟩ : SlotW)) ((i + 1 : Nat) : Int)) (fun k => ?_) (Ev.bind (toIntS_ev _ (hl.at_ i)) h)
    simp only [laws_toSlotS.l0]
    rw [if_pos (by omega), if_pos (by omega), rdSL]
    unfold laws_toSlot.f
    rw [Option.bind_assoc]
    congr 1
    funext t
    simp only [Option.bind_some]
    rw [if_pos (by omega), wrap_succ (by omega), toNat_cast]) (by
    intro acc ha
    refine Ev.of_succ (fun k => ?_)
    simp only [laws_toSlotS.l0]
    rw [if_neg (by omega)]
    rfl) (List.replicate l.length zsw) (by simp)
  rw [map_getD toSlot l zsl] at key
  refine Ev.congr (fun k => ?_) key
  unfold laws_toSlotS.f
  rw [if_pos (by omega), if_pos (by omega), toNat_cast]
  rfl
def SmallW (l : List SlotW) : Prop := l.length ≤ 1048576 ∧ ∀ x ∈ l, x.f1.length ≤ 1048576
theorem SmallS.toW {l : List SlotL} (h : SmallS l) : SmallW (l.map toSlot) := by
  refine ⟨by simpa using h.1, fun x hx => ?_⟩
  obtain ⟨y, hy, rfl⟩ := List.mem_map.1 hx
  exact h.2 y hy
theorem SmallW.at_ {l : List SlotW} (h : SmallW l) (i : Nat) : (l.getD i zsw).f1.length ≤ 1048576 := by
  by_cases hi : i < l.length
  · exact h.2 _ (mem_getD hi _)
  · rw [List.getD_eq_getElem?_getD, List.getElem?_eq_none (by omega)]; decide
theorem eqSlotS_refl (l : List SlotW) (hl : SmallW l) : Ev (fun k => laws_eqSlotS.f k l l) true := by
  have h1 := hl.1
  have key := ev_all0 (fun k i => laws_eqSlotS.l0 k l l (i : Int)) l.length (fun _ => true) false true (by
    intro i hi _ r h
    refine Ev.step (f := fun k => (laws_eqIntS.f k (l.getD i zsw).f1 (l.getD i zsw).f1).bind fun t => (if t = true then (some true) else (some false)).bind fun t => if t = true then laws_eqSlotS.l0 k l l ((i + 1 : Nat) : Int) else some false) (fun k => ?_) (Ev.bind (eqIntS_refl _ (hl.at_ i)) (by simp only [if_true, Option.bind_some]; exact h))
    simp only [laws_eqSlotS.l0]
    rw [if_pos (by omega), if_pos (by omega), if_pos (by omega), rdSW]
    unfold laws_eqSlot.f
    rw [if_pos rfl, Option.bind_assoc, wrap_succ (by omega)]) (by intro i _ h; cases h) (by
    refine Ev.of_succ (fun k => ?_)
    simp only [laws_eqSlotS.l0]
    rw [if_neg (by omega)])
  rw [if_pos (by simp)] at key
  refine Ev.congr (fun k => ?_) key
  unfold laws_eqSlotS.f
  rw [if_pos rfl]
  rfl
def wordB (x : Int) : Bool := decide (0 ≤ x ∧ x ≤ 100000)
def rowB (r : List Int) : Bool := r.all wordB && decide (r.length = 4)
theorem wordsOk_ev (r : List Int) (hr : r.length ≤ 1048576) : Ev (fun k => impl_wordsOk.f k r) (rowB r) := by
  have key := ev_all0 (fun k i => impl_wordsOk.l0 k r r (r.length : Int) (i : Int)) r.length (fun i => wordB (r.getD i 0)) false (decide (r.length = 4)) (by
    intro i hi hb q h
    refine Ev.step (fun k => ?_) h
    simp only [impl_wordsOk.l0]
    rw [if_pos (by omega), if_pos (by omega), if_pos (by omega), within_eq]
    simp only [Option.bind_some]
    rw [if_pos (by unfold rd; rw [toNat_cast]; exact hb), wrap_succ (by omega)]) (by
    intro i hi hb
    refine Ev.of_succ (fun k => ?_)
    simp only [impl_wordsOk.l0]
    rw [if_pos (by omega), if_pos (by omega), if_pos (by omega), within_eq]
    simp only [Option.bind_some]
    rw [if_neg (by unfold rd; rw [toNat_cast]; unfold wordB at hb; rw [hb]; simp)]) (by
    refine Ev.of_succ (fun k => ?_)
    simp only [impl_wordsOk.l0]
    rw [if_neg (by omega)]
    congr 1
    by_cases h : r.length = 4
    · rw [decide_eq_true h, h]; rfl
    · rw [decide_eq_false h]; simp; omega)
  rw [range_all r 0 wordB] at key
  have e : (if r.all wordB = true then decide (r.length = 4) else false) = rowB r := by
    unfold rowB; cases r.all wordB <;> simp
  rw [e] at key
  exact key
theorem l07Words_ev (r : List Int) (hr : r.length ≤ 1048576) : Ev (fun k => spec_l07Words.f k r) (rowB r) := by
  by_cases h4 : r.length = 4
  · have key := ev_all0 (fun k i => spec_l07Words.l0 k r (i : Int)) r.length (fun i => wordB (r.getD i 0)) false true (by
      intro i hi hb q h
      refine Ev.step (fun k => ?_) h
      simp only [spec_l07Words.l0]
      rw [if_pos (by omega), if_pos (by omega), l01In_eq]
      simp only [Option.bind_some]
      rw [if_pos (by unfold rd; rw [toNat_cast]; exact hb), wrap_succ (by omega)]) (by
      intro i hi hb
      refine Ev.of_succ (fun k => ?_)
      simp only [spec_l07Words.l0]
      rw [if_pos (by omega), if_pos (by omega), l01In_eq]
      simp only [Option.bind_some]
      rw [if_neg (by unfold rd; rw [toNat_cast]; unfold wordB at hb; rw [hb]; simp)]) (by
      refine Ev.of_succ (fun k => ?_)
      simp only [spec_l07Words.l0]
      rw [if_neg (by omega)])
    rw [range_all r 0 wordB] at key
    have e : (if r.all wordB = true then true else false) = rowB r := by
      unfold rowB; rw [decide_eq_true h4]; cases r.all wordB <;> simp
    rw [e] at key
    refine Ev.congr (fun k => ?_) key
    unfold spec_l07Words.f
    rw [if_pos (by omega)]
    rfl
  · have e : rowB r = false := by unfold rowB; rw [decide_eq_false h4, Bool.and_false]
    rw [e]
    refine Ev.const (fun k => ?_)
    unfold spec_l07Words.f
    rw [if_neg (by omega)]
def slotB (s : SlotW) : Bool := if s.f0 = 0 then decide (s.f1.length = 0) else decide (1 ≤ s.f0 ∧ s.f0 ≤ 64) && rowB s.f1
def slotsB (l : List SlotW) : Bool := l.all slotB && decide (l.length ≤ 16)
theorem slotOk_ev (c : Int) (r : List Int) (hr : r.length ≤ 1048576) : Ev (fun k => impl_slotOk.f k c r) (slotB ⟨c, r⟩) := by
  unfold impl_slotOk.f slotB
  by_cases hc : c = 0
  · simp only [if_pos hc]
    have e : ((r.length : Int) == 0) = decide (r.length = 0) := by
      rw [Bool.eq_iff_iff]; simp
    rw [e]; exact Ev.now _
  · simp only [if_neg hc, within_eq, Option.bind_some]
    by_cases h : 1 ≤ c ∧ c ≤ 64
    · simp only [decide_eq_true h, if_true, Bool.true_and]
      exact Ev.bind (wordsOk_ev r hr) (Ev.now _)
    · simp only [decide_eq_false h, Bool.false_eq_true, if_false, Bool.false_and]; exact Ev.now _
theorem impl_SlotsOk_ev (l : List SlotW) (hl : SmallW l) : Ev (fun k => impl_SlotsOk.f k l) (slotsB l) := by
  have h1 := hl.1
  have key := ev_all0 (fun k i => impl_SlotsOk.l0 k l l (l.length : Int) (i : Int)) l.length (fun i => slotB (l.getD i zsw)) false (decide (l.length ≤ 16)) (by
    intro i hi hb q h
    refine Ev.step (f := fun k => (impl_slotOk.f k (l.getD i zsw).f0 (l.getD i zsw).f1).bind fun t => if t = true then impl_SlotsOk.l0 k l l (l.length : Int) ((i + 1 : Nat) : Int) else some false) (fun k => ?_) (Ev.bind (slotOk_ev _ _ (hl.at_ i)) (by simp only [show slotB ⟨(l.getD i zsw).f0, (l.getD i zsw).f1⟩ = true from hb, if_true]; exact h))
    simp only [impl_SlotsOk.l0]
    rw [if_pos (by omega), if_pos (by omega), if_pos (by omega), rdSW, wrap_succ (by omega)]) (by
    intro i hi hb
    refine Ev.step (f := fun k => (impl_slotOk.f k (l.getD i zsw).f0 (l.getD i zsw).f1).bind fun t => if t = true then impl_SlotsOk.l0 k l l (l.length : Int) ((i + 1 : Nat) : Int) else some false) (fun k => ?_) (Ev.bind (slotOk_ev _ _ (hl.at_ i)) (by simp only [show slotB ⟨(l.getD i zsw).f0, (l.getD i zsw).f1⟩ = false from hb, Bool.false_eq_true, if_false]; exact Ev.now _))
    simp only [impl_SlotsOk.l0]
    rw [if_pos (by omega), if_pos (by omega), if_pos (by omega), rdSW, wrap_succ (by omega)]) (by
    refine Ev.of_succ (fun k => ?_)
    simp only [impl_SlotsOk.l0]
    rw [if_neg (by omega)]
    congr 1
    by_cases h : l.length ≤ 16
    · rw [decide_eq_true h, decide_eq_true (by omega)]
    · rw [decide_eq_false h, decide_eq_false (by omega)])
  rw [range_all l zsw slotB] at key
  have e : (if l.all slotB = true then decide (l.length ≤ 16) else false) = slotsB l := by
    unfold slotsB; cases l.all slotB <;> simp
  rw [e] at key
  exact key
theorem spec_SlotsOk_ev (l : List SlotW) (hl : SmallW l) : Ev (fun k => spec_SlotsOk.f k l) (slotsB l) := by
  have h1 := hl.1
  by_cases h16 : (l.length : Int) > 16
  · have e : slotsB l = false := by unfold slotsB; rw [decide_eq_false (show ¬ l.length ≤ 16 by omega), Bool.and_false]
    rw [e]
    refine Ev.const (fun k => ?_)
    unfold spec_SlotsOk.f
    rw [if_pos h16]
  · have step : ∀ i, i < l.length → ∀ r, (slotB (l.getD i zsw) = true → Ev (fun k => spec_SlotsOk.l0 k l ((i + 1 : Nat) : Int)) r) → (slotB (l.getD i zsw) = false → r = false) → Ev (fun k => spec_SlotsOk.l0 k l (i : Int)) r := by
      intro i hi r hy hn
      have hw := l07Words_ev (l.getD i zsw).f1 (hl.at_ i)
      generalize hs : l.getD i zsw = s at *
      refine Ev.step (f := fun k => if decide (0 ≤ s.f0 ∧ s.f0 ≤ 64) = true then (if s.f0 = 0 then (if (s.f1.length : Int) > 0 then some false else (if s.f0 > 0 then (spec_l07Words.f k s.f1).bind fun t => if t = true then spec_SlotsOk.l0 k l ((i + 1 : Nat) : Int) else some false else spec_SlotsOk.l0 k l ((i + 1 : Nat) : Int))) else (if s.f0 > 0 then (spec_l07Words.f k s.f1).bind fun t => if t = true then spec_SlotsOk.l0 k l ((i + 1 : Nat) : Int) else some false else spec_SlotsOk.l0 k l ((i + 1 : Nat) : Int))) else some false) (fun k => ?_) ?_
      · simp only [spec_SlotsOk.l0]
        rw [if_pos (by omega), if_pos (by omega), rdSW, hs, l01In_eq, wrap_succ (by omega)]
        rfl
      · unfold slotB at hy hn
        by_cases h64 : 0 ≤ s.f0 ∧ s.f0 ≤ 64
        · simp only [decide_eq_true h64, if_true]
          by_cases h0 : s.f0 = 0
          · simp only [if_pos h0] at hy hn ⊢
            by_cases hl0 : s.f1.length = 0
            · simp only [if_neg (show ¬ (s.f1.length : Int) > 0 by omega), if_neg (show ¬ s.f0 > 0 by omega)]
              exact hy (by simpa using hl0)
            · simp only [if_pos (show (s.f1.length : Int) > 0 by omega)]
              rw [hn (by simpa using hl0)]; exact Ev.now _
          · simp only [if_neg h0] at hy hn ⊢
            simp only [if_pos (show s.f0 > 0 by omega)]
            rw [decide_eq_true (show 1 ≤ s.f0 ∧ s.f0 ≤ 64 by omega), Bool.true_and] at hy hn
            refine Ev.bind hw ?_
            cases hb : rowB s.f1 with
            | true => simp only [if_true]; exact hy hb
            | false => simp only [Bool.false_eq_true, if_false]; rw [hn hb]; exact Ev.now _
        · simp only [decide_eq_false h64, Bool.false_eq_true, if_false]
          have : r = false := hn (by rw [if_neg (by omega), decide_eq_false (by omega), Bool.false_and])
          rw [this]; exact Ev.now _
    have key := ev_all0 (fun k i => spec_SlotsOk.l0 k l (i : Int)) l.length (fun i => slotB (l.getD i zsw)) false true (by
      intro i hi hb q h
      exact step i hi q (fun _ => h) (fun hf => by rw [show slotB (l.getD i zsw) = true from hb] at hf; cases hf)) (by
      intro i hi hb
      exact step i hi false (fun hf => by rw [show slotB (l.getD i zsw) = false from hb] at hf; cases hf) (fun _ => rfl)) (by
      refine Ev.of_succ (fun k => ?_)
      simp only [spec_SlotsOk.l0]
      rw [if_neg (by omega)])
    rw [range_all l zsw slotB] at key
    have e : (if l.all slotB = true then true else false) = slotsB l := by
      unfold slotsB; rw [decide_eq_true (show l.length ≤ 16 by omega)]; cases l.all slotB <;> simp
    rw [e] at key
    refine Ev.congr (fun k => ?_) key
    unfold spec_SlotsOk.f
    rw [if_neg h16]
    rfl
/-- What is marked, slot by slot. -/
def markSl : Int → List SlotW → List SlotW
  | _, [] => []
  | a, x :: xs => ⟨a, upInt (a + 1) x.f1.length⟩ :: markSl (a + 1 + x.f1.length) xs
def totSl (l : List SlotW) : Nat := (l.map (fun s : SlotW => s.f1.length + 1)).sum
theorem totSl_cons (x : SlotW) (l : List SlotW) : totSl (x :: l) = x.f1.length + 1 + totSl l := by simp [totSl]
theorem markSl_len (a : Int) (l : List SlotW) : (markSl a l).length = l.length := by
  induction l generalizing a with
  | nil => rfl
  | cons x l ih => simp [markSl, ih]
theorem markSl_loop : ∀ (rest pre : List SlotW) (b : Int), (∀ x ∈ rest, x.f1.length ≤ 1048576) → pre.length + rest.length ≤ 1048576 → 0 ≤ b → b + totSl rest ≤ 1000000000 →
    Ev (fun k => laws_markSlotS.l0 k (pre ++ rest) b (pre.length : Int)) (b + totSl rest, pre ++ markSl b rest) := by
  intro rest
  induction rest with
  | nil =>
    intro pre b _ hl h0 h1
    refine Ev.of_succ (fun k => ?_)
    simp only [laws_markSlotS.l0]
    rw [if_neg (by simp)]
    simp [totSl, markSl]
  | cons x rest ih =>
    intro pre b hx hl h0 h1
    rw [totSl_cons] at h1 ⊢
    simp only [List.length_cons] at hl
    have hxl := hx x List.mem_cons_self
    have hm := markIntS_ev x.f1 hxl (b + 1) (by omega) (by omega)
    have hi := ih (pre ++ [⟨b, upInt (b + 1) x.f1.length⟩]) (b + 1 + x.f1.length) (fun y hy => hx y (List.mem_cons_of_mem _ hy)) (by simp only [List.length_append, List.length_cons, List.length_nil]; omega) (by omega) (by omega)
    rw [show b + 1 + (x.f1.length : Int) + (totSl rest : Nat) = b + ((x.f1.length + 1 + totSl rest : Nat) : Int) by omega] at hi
    rw [show pre ++ markSl b (x :: rest) = (pre ++ [⟨b, upInt (b + 1) x.f1.length⟩]) ++ markSl (b + 1 + x.f1.length) rest by simp [markSl]]
    refine Ev.step (f := fun k => (laws_markIntS.f k x.f1 (b + 1)).bind fun t => laws_markSlotS.l0 k ((pre ++ [(⟨b, t.2⟩ : SlotW)]) ++ rest) t.1 ((pre.length + 1 : Nat) : Int)) (fun k => ?_) (Ev.bind hm ?_)
    · simp only [laws_markSlotS.l0]
      rw [if_pos (by simp only [List.length_append, List.length_cons]; omega), if_pos (by omega), toNat_cast, getD_mid, wrap_succ (by omega), wrap64_id (n := b + 1) (by omega) (by omega)]
      simp only [set_mid]
    · simp only [List.length_append, List.length_cons, List.length_nil] at hi
      exact hi
theorem markSlotS_ev (l : List SlotW) (hl : SmallW l) (a : Int) (h0 : 0 ≤ a) (h1 : a + totSl l ≤ 1000000000) : Ev (fun k => laws_markSlotS.f k l a) (a + totSl l, markSl a l) := by
  have := markSl_loop l [] a hl.2 (by simpa using hl.1) h0 h1
  exact this
theorem heldSl_loop : ∀ (rest pre : List SlotW) (b : Int), (∀ x ∈ rest, x.f1.length ≤ 1048576) → pre.length + rest.length ≤ 1048576 → 0 ≤ b → b + totSl rest ≤ 1000000000 →
    Ev (fun k => laws_heldSlotS.l0 k (pre ++ markSl b rest) b (pre.length : Int)) (b + totSl rest) := by
  intro rest
  induction rest with
  | nil =>
    intro pre b _ hl h0 h1
    refine Ev.of_succ (fun k => ?_)
    simp only [laws_heldSlotS.l0]
    rw [if_neg (by simp [markSl])]
    simp [totSl]
  | cons x rest ih =>
    intro pre b hx hl h0 h1
    rw [totSl_cons] at h1 ⊢
    simp only [List.length_cons] at hl
    have hxl := hx x List.mem_cons_self
    have hm := heldIntS_ev x.f1.length hxl (b + 1) (by omega) (by omega)
    have hi := ih (pre ++ [⟨b, upInt (b + 1) x.f1.length⟩]) (b + 1 + x.f1.length) (fun y hy => hx y (List.mem_cons_of_mem _ hy)) (by simp only [List.length_append, List.length_cons, List.length_nil]; omega) (by omega) (by omega)
    rw [show b + 1 + (x.f1.length : Int) + (totSl rest : Nat) = b + ((x.f1.length + 1 + totSl rest : Nat) : Int) by omega] at hi
    have hml := markSl_len (b + 1 + x.f1.length) rest
    refine Ev.step (f := fun k => (laws_heldIntS.f k (upInt (b + 1) x.f1.length) (b + 1)).bind fun t307 => (if t307 < 0 then (some (-1)) else (laws_heldSlotS.l0 k (pre ++ markSl b (x :: rest)) t307 ((pre.length + 1 : Nat) : Int)))) (fun k => ?_) (Ev.bind hm ?_)
    · simp only [laws_heldSlotS.l0]
      rw [if_pos (by simp only [List.length_append, markSl, List.length_cons]; omega), if_pos (by omega), rdSW, wrap_succ (by omega), wrap64_id (n := b + 1) (by omega) (by omega)]
      simp only [markSl, getD_mid, if_true]
    · simp only [if_neg (show ¬ b + 1 + (x.f1.length : Int) < 0 by omega)]
      rw [show pre ++ markSl b (x :: rest) = (pre ++ [⟨b, upInt (b + 1) x.f1.length⟩]) ++ markSl (b + 1 + x.f1.length) rest by simp [markSl]]
      simp only [List.length_append, List.length_cons, List.length_nil] at hi
      exact hi
theorem heldSlotS_ev (l : List SlotW) (hl : SmallW l) (a : Int) (h0 : 0 ≤ a) (h1 : a + totSl l ≤ 1000000000) : Ev (fun k => laws_heldSlotS.f k (markSl a l) a) (a + totSl l) := by
  have := heldSl_loop l [] a hl.2 (by simpa using hl.1) h0 h1
  exact this
theorem spec_l07Copy_ev (l : List SlotW) (hl : SmallW l) : Ev (fun k => spec_l07Copy.f k l) l := by
  have h1 := hl.1
  have key := ev_yes (fun k i => spec_l07Copy.l0 k l (l.take i) (i : Int)) l.length (fun _ => true) l (by
    intro i hi _ r h
    refine Ev.step (fun k => ?_) h
    have hr := hl.at_ i
    simp only [spec_l07Copy.l0]
    rw [if_pos (by omega), if_pos (by omega)]
    simp only [Option.bind_some, List.nil_append]
    rw [rdSW, if_pos (by simp only [List.length_nil]; omega), if_pos (by rw [List.length_take]; omega), take_getD l zsw hi, wrap_succ (by omega)]) (by simp) (by
    refine Ev.of_succ (fun k => ?_)
    simp only [spec_l07Copy.l0]
    rw [if_neg (by omega), List.take_length])
  exact key
theorem impl_copySlots_ev (l : List SlotW) (hl : SmallW l) : Ev (fun k => impl_copySlots.f k l) l := by
  have h1 := hl.1
  have key := ev_yes (fun k i => impl_copySlots.l0 k (l.take i) l (l.length : Int) (i : Int)) l.length (fun _ => true) l (by
    intro i hi _ r h
    refine Ev.step (fun k => ?_) h
    have hr := hl.at_ i
    simp only [impl_copySlots.l0]
    rw [if_pos (by omega), if_pos (by omega), if_pos (by omega), rdSW]
    unfold impl_copyInts.f
    rw [if_pos (by simp only [List.length_nil]; omega)]
    simp only [Option.bind_some, List.nil_append]
    rw [if_pos (by rw [List.length_take]; omega), take_getD l zsw hi, wrap_succ (by omega)]) (by simp) (by
    refine Ev.of_succ (fun k => ?_)
    simp only [impl_copySlots.l0]
    rw [if_neg (by omega), List.take_length])
  exact key
theorem all_set {α : Type} (p : α → Bool) (l : List α) (i : Nat) (a : α) (h : l.all p = true) (hi : i < l.length) : (l.set i a).all p = p a := by
  rw [Bool.eq_iff_iff, List.all_eq_true]
  constructor
  · intro hh
    exact hh a (List.mem_of_getElem? (by rw [List.getElem?_set_self hi]))
  · intro ha x hx
    rcases List.mem_or_eq_of_mem_set hx with hx | rfl
    · exact List.all_eq_true.1 h x hx
    · exact ha
theorem slotsB_set (l : List SlotW) (i : Nat) (a : SlotW) (h : slotsB l = true) (hi : i < l.length) : slotsB (l.set i a) = slotB a := by
  simp only [slotsB, Bool.and_eq_true, decide_eq_true_eq] at h
  simp only [slotsB, List.length_set, decide_eq_true h.2, Bool.and_true]
  exact all_set slotB l i a h.1 hi
theorem slotsB_at {l : List SlotW} (h : slotsB l = true) {i : Nat} (hi : i < l.length) : slotB (l.getD i zsw) = true := by
  simp only [slotsB, Bool.and_eq_true] at h
  exact List.all_eq_true.1 h.1 _ (mem_getD hi _)
theorem slotsB_small {l : List SlotW} (h : slotsB l = true) : l.length ≤ 16 ∧ ∀ x ∈ l, x.f1.length ≤ 4 := by
  simp only [slotsB, Bool.and_eq_true, decide_eq_true_eq] at h
  refine ⟨h.2, fun x hx => ?_⟩
  have := List.all_eq_true.1 h.1 x hx
  unfold slotB at this
  by_cases h0 : x.f0 = 0
  · rw [if_pos h0, decide_eq_true_eq] at this; omega
  · rw [if_neg h0] at this
    simp only [rowB, Bool.and_eq_true, decide_eq_true_eq] at this
    omega
/-- What is as right slots are. -/
def SlotFours (l : List SlotW) : Prop := l.length ≤ 16 ∧ ∀ x ∈ l, x.f1.length ≤ 4
theorem SlotFours.nil : SlotFours [] := ⟨by decide, fun x hx => by cases hx⟩
theorem totSl_le : ∀ (l : List SlotW), (∀ x ∈ l, x.f1.length ≤ 4) → totSl l ≤ 5 * l.length := by
  intro l
  induction l with
  | nil => intro _; exact Nat.le_refl _
  | cons x l ih =>
    intro h
    have h2 := ih (fun y hy => h y (List.mem_cons_of_mem _ hy))
    have h3 := h x List.mem_cons_self
    rw [totSl_cons, List.length_cons]
    omega
theorem SlotFours.small {l : List SlotW} (h : SlotFours l) : SmallW l ∧ totSl l ≤ 80 :=
  ⟨⟨by have := h.1; omega, fun x hx => by have := h.2 x hx; omega⟩, by have := totSl_le l h.2; have := h.1; omega⟩
theorem SlotFours.set {l : List SlotW} (h : SlotFours l) (i : Nat) (a : SlotW) (ha : a.f1.length ≤ 4) : SlotFours (l.set i a) := by
  refine ⟨by simpa using h.1, fun x hx => ?_⟩
  rcases List.mem_or_eq_of_mem_set hx with hx | rfl
  · exact h.2 x hx
  · exact ha
theorem totSl_sum (l : List SlotL) (h : (l.length : Int) + ((l.map (fun s => s.f1.length)).sum : Nat) ≤ 1048576) : totSl (l.map toSlot) ≤ 1048576 := by
  have key : ∀ l : List SlotL, totSl (l.map toSlot) = l.length + (l.map (fun s => s.f1.length)).sum := by
    intro l
    induction l with
    | nil => rfl
    | cons x l ih => rw [List.map_cons, totSl_cons, ih]; simp only [toSlot, List.length_cons, List.map_cons, List.sum_cons]; omega
  rw [key]; omega
def emp : List SlotW → Nat → Int
  | [], _ => -1
  | s :: l, i => if s.f0 = 0 then (i : Int) else emp l (i + 1)
theorem emp_bd : ∀ (l : List SlotW) (i : Nat), emp l i = -1 ∨ ((i : Int) ≤ emp l i ∧ emp l i < i + l.length) := by
  intro l
  induction l with
  | nil => intro i; exact Or.inl rfl
  | cons s l ih =>
    intro i
    unfold emp
    by_cases h : s.f0 = 0
    · rw [if_pos h]; right; simp only [List.length_cons]; omega
    · rw [if_neg h]
      rcases ih (i + 1) with h2 | h2
      · exact Or.inl h2
      · right; simp only [List.length_cons]; omega
theorem emp_loop : ∀ (rest pre : List SlotW), pre.length + rest.length ≤ 1048576 → Ev (fun k => impl_emptySlot.l0 k (pre ++ rest) ((pre ++ rest).length : Int) (pre.length : Int)) (emp rest pre.length) := by
  intro rest
  induction rest with
  | nil =>
    intro pre _
    refine Ev.of_succ (fun k => ?_)
    simp only [impl_emptySlot.l0, emp]
    rw [if_neg (by simp)]
  | cons s rest ih =>
    intro pre hl
    simp only [List.length_cons] at hl
    unfold emp
    by_cases h : s.f0 = 0
    · rw [if_pos h]
      refine Ev.of_succ (fun k => ?_)
      simp only [impl_emptySlot.l0]
      rw [if_pos (by simp only [List.length_append, List.length_cons]; omega), if_pos (by omega), if_pos (by simp only [List.length_append, List.length_cons]; omega), rdSW, getD_mid, if_pos h]
    · rw [if_neg h]
      have hi := ih (pre ++ [s]) (by simp only [List.length_append, List.length_cons, List.length_nil]; omega)
      simp only [List.append_assoc, List.singleton_append, List.length_append, List.length_cons, List.length_nil, Nat.zero_add] at hi
      refine Ev.step (fun k => ?_) hi
      simp only [impl_emptySlot.l0]
      rw [if_pos (by simp only [List.length_append, List.length_cons]; omega), if_pos (by omega), if_pos (by simp only [List.length_append, List.length_cons]; omega), rdSW, getD_mid, if_neg h, wrap_succ (by omega)]
      simp only [List.length_append, List.length_cons]
theorem emptySlot_ev (l : List SlotW) (hl : SmallW l) : Ev (fun k => impl_emptySlot.f k l) (emp l 0) := by
  have := emp_loop l [] (by simpa using hl.1)
  exact this
def resB (l : List SlotW) (w : List Int) (c e : Int) : List SlotW × Int × Bool := if 0 ≤ e ∧ slotB ⟨c, w⟩ = true then (l.set e.toNat ⟨c, w⟩, e, true) else ([], 0, false)
def putB (l : List SlotW) (w : List Int) (c : Int) : List SlotW × Int × Bool := if slotsB l = true ∧ 0 < c then resB l w c (emp l 0) else ([], 0, false)
theorem slotB_neg {c : Int} {w : List Int} (h : c < 0) : slotB ⟨c, w⟩ = false := by
  unfold slotB
  rw [if_neg (by show ¬ c = 0; omega), decide_eq_false (by show ¬ (1 ≤ c ∧ c ≤ 64); omega), Bool.false_and]
theorem impl_PutAside_ev (l : List SlotW) (hl : SmallW l) (w : List Int) (hw : w.length ≤ 1048576) (c : Int) : Ev (fun k => impl_PutAside.f k l w c) (putB l w c) := by
  unfold impl_PutAside.f impl_copyInts.f
  simp only [List.length_nil, if_pos (show 0 + w.length < 17592186044416 by omega), Option.bind_some, List.nil_append]
  refine Ev.bind (emptySlot_ev l hl) ?_
  refine Ev.bind (impl_SlotsOk_ev l hl) ?_
  have hb := emp_bd l 0
  unfold putB resB
  generalize emp l 0 = e at *
  by_cases hs : slotsB l = true
  · simp only [if_pos hs]
    by_cases he : e < 0
    · simp only [if_pos he, if_neg (show ¬ (0 ≤ e ∧ slotB ⟨c, w⟩ = true) from fun h => by omega), ite_self]; exact Ev.now _
    · simp only [if_neg he]
      by_cases hc : c = 0
      · simp only [if_pos hc, if_neg (show ¬ (slotsB l = true ∧ 0 < c) from fun h => by omega)]; exact Ev.now _
      · simp only [if_neg hc]
        refine Ev.bind (slotOk_ev c w hw) ?_
        by_cases hk : slotB ⟨c, w⟩ = true
        · have hc0 : 0 < c := by
            by_cases h : 0 < c
            · exact h
            · rw [slotB_neg (by omega)] at hk; cases hk
          simp only [if_pos hk, if_pos (show slotsB l = true ∧ 0 < c from ⟨hs, hc0⟩), if_pos (show 0 ≤ e ∧ slotB ⟨c, w⟩ = true from ⟨by omega, hk⟩)]
          refine Ev.bind (impl_copySlots_ev l hl) ?_
          simp only [if_pos (show 0 ≤ e by omega), if_pos (show e < (l.length : Int) by rcases hb with h | h <;> omega)]
          exact Ev.now _
        · simp only [if_neg hk, if_neg (show ¬ (0 ≤ e ∧ slotB ⟨c, w⟩ = true) from fun h => hk h.2), ite_self]; exact Ev.now _
  · simp only [if_neg hs, if_neg (show ¬ (slotsB l = true ∧ 0 < c) from fun h => hs h.1)]; exact Ev.now _
theorem spec_put_no (l : List SlotW) (hl : SmallW l) (w : List Int) (c : Int) (h : ¬ (slotsB l = true ∧ 0 < c)) : Ev (fun k => spec_PutAside.l0 k l w c l 0) ([], 0, false) := by
  have hno : Ev (fun k => spec_PutAside.j1 k l w c l 0 false) ([], 0, false) := by
    refine Ev.of_succ (fun k => ?_)
    simp only [spec_PutAside.j1, Bool.false_eq_true, if_false]
  by_cases h0 : (0 : Int) < (l.length : Int)
  · refine Ev.step (f := fun k => (spec_SlotsOk.f k l).bind fun t664 => (if t664 = true then (spec_PutAside.j1 k l w c l 0 (decide (c > 0))) else (spec_PutAside.j1 k l w c l 0 false))) (fun k => by simp only [spec_PutAside.l0, if_pos h0]) (Ev.bind (spec_SlotsOk_ev l hl) ?_)
    by_cases hs : slotsB l = true
    · simp only [if_pos hs, decide_eq_false (show ¬ c > 0 from fun hc => h ⟨hs, hc⟩)]; exact hno
    · simp only [if_neg hs]; exact hno
  · refine Ev.step (fun k => ?_) hno
    simp only [spec_PutAside.l0, if_neg h0]
theorem spec_put_loop (l : List SlotW) (hl : SmallW l) (w : List Int) (hw : w.length ≤ 1048576) (c : Int) (hs : slotsB l = true) (hc : 0 < c) : ∀ (rest pre : List SlotW), l = pre ++ rest → Ev (fun k => spec_PutAside.l0 k l w c l (pre.length : Int)) (resB l w c (emp rest pre.length)) := by
  intro rest
  have hl1 := hl.1
  induction rest with
  | nil =>
    intro pre e
    have hlen : l.length = pre.length := by rw [e]; simp
    have hno : Ev (fun k => spec_PutAside.j1 k l w c l (pre.length : Int) false) ([], 0, false) := by
      refine Ev.of_succ (fun k => ?_)
      simp only [spec_PutAside.j1, Bool.false_eq_true, if_false]
    unfold resB emp
    rw [if_neg (fun h => by omega)]
    refine Ev.step (fun k => ?_) hno
    simp only [spec_PutAside.l0, if_neg (show ¬ (pre.length : Int) < (l.length : Int) by omega)]
  | cons s rest ih =>
    intro pre e
    have hlen : l.length = pre.length + (rest.length + 1) := by rw [e]; simp
    have hget : l.getD pre.length zsw = s := by rw [e, getD_mid]
    refine Ev.step (f := fun k => (spec_SlotsOk.f k l).bind fun t664 => (if t664 = true then (spec_PutAside.j1 k l w c l (pre.length : Int) (decide (c > 0))) else (spec_PutAside.j1 k l w c l (pre.length : Int) false))) (fun k => by simp only [spec_PutAside.l0, if_pos (show (pre.length : Int) < (l.length : Int) by omega)]) (Ev.bind (spec_SlotsOk_ev l hl) ?_)
    simp only [if_pos hs, decide_eq_true (show c > 0 from hc)]
    unfold emp
    by_cases h : s.f0 = 0
    · rw [if_pos h]
      have hlt : pre.length < l.length := by omega
      have hsm : SmallW (l.set pre.length ⟨c, w⟩) := ⟨by simpa using hl.1, fun x hx => by
        rcases List.mem_or_eq_of_mem_set hx with hx | rfl
        · exact hl.2 x hx
        · exact hw⟩
      refine Ev.step (f := fun k => (spec_SlotsOk.f k (l.set pre.length ⟨c, w⟩)).bind fun t676 => (if t676 = true then (some (l.set pre.length (⟨c, w⟩ : SlotW), (pre.length : Int), true)) else (some (([] : List SlotW), 0, false)))) (fun k => ?_) (Ev.bind (spec_SlotsOk_ev _ hsm) ?_)
      · simp only [spec_PutAside.j1, if_true, if_pos (show (0 : Int) ≤ (pre.length : Int) by omega), if_pos (show (pre.length : Int) < (l.length : Int) by omega), rdSW, hget, if_pos h, Option.bind_some, List.length_nil, if_pos (show 0 + w.length < 17592186044416 by omega), List.nil_append, toNat_cast]
      · rw [slotsB_set l _ _ hs hlt]
        unfold resB
        by_cases hk : slotB ⟨c, w⟩ = true
        · simp only [if_pos hk, if_pos (show (0 : Int) ≤ (pre.length : Int) ∧ slotB ⟨c, w⟩ = true from ⟨by omega, hk⟩), toNat_cast]; exact Ev.now _
        · simp only [if_neg hk, if_neg (show ¬ ((0 : Int) ≤ (pre.length : Int) ∧ slotB ⟨c, w⟩ = true) from fun h => hk h.2)]; exact Ev.now _
    · rw [if_neg h]
      have hi := ih (pre ++ [s]) (by rw [e]; simp)
      simp only [List.length_append, List.length_cons, List.length_nil, Nat.zero_add] at hi
      refine Ev.step (fun k => ?_) hi
      simp only [spec_PutAside.j1, if_true, if_pos (show (0 : Int) ≤ (pre.length : Int) by omega), if_pos (show (pre.length : Int) < (l.length : Int) by omega), rdSW, hget, if_neg h, wrap_succ (show pre.length < 9223372036854775807 by omega)]
theorem spec_PutAside_ev (l : List SlotW) (hl : SmallW l) (w : List Int) (hw : w.length ≤ 1048576) (c : Int) : Ev (fun k => spec_PutAside.f k l w c) (putB l w c) := by
  unfold spec_PutAside.f
  refine Ev.bind (spec_l07Copy_ev l hl) ?_
  unfold putB
  by_cases h : slotsB l = true ∧ 0 < c
  · rw [if_pos h]
    exact spec_put_loop l hl w hw c h.1 h.2 l [] rfl
  · rw [if_neg h]
    exact spec_put_no l hl w c h
theorem putB_four (l : List SlotW) (w : List Int) (c : Int) : SlotFours (putB l w c).1 := by
  unfold putB resB
  by_cases h : slotsB l = true ∧ 0 < c
  · rw [if_pos h]
    have h4 : SlotFours l := slotsB_small h.1
    by_cases hk : 0 ≤ emp l 0 ∧ slotB ⟨c, w⟩ = true
    · rw [if_pos hk]
      refine h4.set _ _ ?_
      have := hk.2
      unfold slotB at this
      rw [if_neg (show ¬ c = 0 by omega)] at this
      simp only [rowB, Bool.and_eq_true, decide_eq_true_eq] at this
      show w.length ≤ 4
      omega
    · rw [if_neg hk]; exact SlotFours.nil
  · rw [if_neg h]; exact SlotFours.nil

theorem FnExactPutAside (l0 : List S113) (g0 : (l0.length ≤ maxLen ∧ ∀ y0 ∈ l0, ((Lit.int .i64 y0.f0).wf = true ∧ (y0.f1.length ≤ maxLen ∧ ∀ y1 ∈ y0.f1, (Lit.int .i64 y1).wf = true)))) (l1 : List Int) (g1 : (l1.length ≤ maxLen ∧ ∀ y0 ∈ l1, (Lit.int .i64 y0).wf = true)) (a2 : Int) (_w2 : (Lit.int .i64 a2).wf = true) : (∃ (k : Nat) (z : Int) (t : List (S62)) (t1 : List Int) (y0 : List (S62)) (y1 : Int) (y2 : Bool) (m : Int) (M : List S62) (m1 : Int) (M1 : List Int) (m2 : Int) (M2 : List S62), (laws_szSlotS.f k l0 1048576 = some z) ∧ (laws_toSlotS.f k l0 = some t) ∧ (laws_toIntS.f k l1 = some t1) ∧ (spec_PutAside.f k t t1 a2 = some (y0, y1, y2)) ∧ (impl_PutAside.f k t t1 a2 = some (y0, y1, y2)) ∧ (laws_eqSlotS.f k y0 y0 = some true) ∧ (laws_eqSlotS.f k t t = some true) ∧ (laws_eqIntS.f k t1 t1 = some true) ∧ (laws_markSlotS.f k t 1 = some (m, M)) ∧ (laws_markIntS.f k t1 m = some (m1, M1)) ∧ (laws_markSlotS.f k y0 1 = some (m2, M2)) ∧ (laws_heldSlotS.f k M2 1 = some m2) ∧ (¬ z < 0) ∧ (¬ m1 < 0) ∧ (¬ m2 < 0) ∧ (¬ (l1.length : Int) > 1048576)) ∨ (∃ (k : Nat), ((l1.length : Int) > 1048576)) ∨ (∃ (k : Nat) (z : Int), (laws_szSlotS.f k l0 1048576 = some z) ∧ (¬ (l1.length : Int) > 1048576) ∧ (z < 0)) := by
  by_cases hlw : (l1.length : Int) > 1048576
  · exact Or.inr (Or.inl ⟨0, hlw⟩)
  obtain ⟨z, ⟨n0, e0⟩, hz⟩ := szSlotS_ev l0 g0.1 (fun x hx => (g0.2 x hx).2.1)
  by_cases hneg : z < 0
  · exact Or.inr (Or.inr ⟨n0, z, e0 _ (by omega), hlw, hneg⟩)
  · refine Or.inl ?_
    obtain ⟨hsm, hq⟩ := hz (by omega)
    have ht := totSl_sum l0 hq
    have hw := hsm.toW
    have hwl : l1.length ≤ 1048576 := by omega
    obtain ⟨h4, h5⟩ := (putB_four (l0.map toSlot) l1 a2).small
    have hs := spec_PutAside_ev (l0.map toSlot) hw l1 hwl a2
    have hi := impl_PutAside_ev (l0.map toSlot) hw l1 hwl a2
    generalize putB (l0.map toSlot) l1 a2 = y at *
    obtain ⟨n1, e1⟩ := toSlotS_ev l0 hsm
    obtain ⟨n1', e1'⟩ := toIntS_ev l1 hwl
    obtain ⟨n2, e2⟩ := hs
    obtain ⟨n3, e3⟩ := hi
    obtain ⟨n4, e4⟩ := eqSlotS_refl y.1 h4
    obtain ⟨n5, e5⟩ := eqSlotS_refl (l0.map toSlot) hw
    obtain ⟨n5', e5'⟩ := eqIntS_refl l1 hwl
    obtain ⟨n6, e6⟩ := markSlotS_ev (l0.map toSlot) hw 1 (by omega) (by omega)
    obtain ⟨n6', e6'⟩ := markIntS_ev l1 hwl (1 + totSl (l0.map toSlot)) (by omega) (by omega)
    obtain ⟨n7, e7⟩ := markSlotS_ev y.1 h4 1 (by omega) (by omega)
    obtain ⟨n8, e8⟩ := heldSlotS_ev y.1 h4 1 (by omega) (by omega)
    exact ⟨n0 + n1 + n1' + n2 + n3 + n4 + n5 + n5' + n6 + n6' + n7 + n8, z, l0.map toSlot, l1, y.1, y.2.1, y.2.2, _, _, _, _, _, _, e0 _ (by omega), e1 _ (by omega), e1' _ (by omega), e2 _ (by omega), e3 _ (by omega), e4 _ (by omega), e5 _ (by omega), e5' _ (by omega), e6 _ (by omega), e6' _ (by omega), e7 _ (by omega), e8 _ (by omega), hneg, by omega, by omega, hlw⟩

end Go.Proofs.Ytdpejnckojhgjaa.Pure
end
