/- What the proof of FnSlotsSaid rests on, part 7: plain lemmas and contracts of the functions that the law reaches (in part written by a printing program over the translation). No condition. -/
import Derived.Test.YtdpejnckojhgjaaBFnSlotsf
section
namespace Go.Proofs.Ytdpejnckojhgjaa.Pure
open Go.RowKit Go.Proofs.Ytdpejnckojhgjaa.P Go.Proofs.YtdpejnckojhgjaaW.PrintWords Go.Proofs.YtdpejnckojhgjaaW.PrintLast Go.Proofs.YtdpejnckojhgjaaW.PrintMore Go.Proofs.Ytdpejnckojhgjaa.Aid
set_option linter.unusedVariables false
set_option linter.unusedSimpArgs false

theorem l01In_eq (a b c : Int) : spec_l01In.f a b c = some (decide (b ≤ a ∧ a ≤ c)) := in_dec a b c
theorem within_eq (a b c : Int) : impl_within.f a b c = some (decide (b ≤ a ∧ a ≤ c)) := in_dec a b c
theorem szIntS_eq (l : List Int) (hl : l.length ≤ maxLen) (a : Int) (h0 : 0 ≤ a) (h1 : a ≤ 1048576) : laws_szIntS.f l a = some (if (l.length : Int) ≤ a then a - l.length else -1) := by
  unfold maxLen at hl
  unfold laws_szIntS.f
  have e : wrap64 (a - (l.length : Int)) = a - l.length := by unfold wrap64; omega
  rw [e]
  by_cases h : (l.length : Int) ≤ a
  · rw [if_neg (by omega), if_pos h]
  · rw [if_pos (by omega), if_neg h]
theorem toIntS_ev (l : List Int) (hl : l.length ≤ 1048576) : Ev (fun k => laws_toIntS.f k l) l := by
  have key := ev_copy0 (fun k acc i => laws_toIntS.l0 k l acc (i : Int)) l.length (fun i => l.getD i 0) id (by
    intro i acc hi ha r h
    refine Ev.step (fun k => ?_) h
    simp only [laws_toIntS.l0]
    rw [if_pos (by omega), if_pos (by omega), if_pos (by omega), wrap_succ (by omega), toNat_cast]
    rfl) (by
    intro acc ha
    refine Ev.of_succ (fun k => ?_)
    simp only [laws_toIntS.l0]
    rw [if_neg (by omega)]
    rfl) (List.replicate l.length 0) (by simp)
  rw [range_map_getD] at key
  refine Ev.congr (fun k => ?_) key
  unfold laws_toIntS.f
  rw [if_pos (by omega), if_pos (by omega), toNat_cast]
  rfl
theorem eqIntS_refl (l : List Int) (hl : l.length ≤ 1048576) : Ev (fun k => laws_eqIntS.f k l l) true := by
  have key := ev_all0 (fun k i => laws_eqIntS.l0 k l l (i : Int)) l.length (fun _ => true) false true (by
    intro i hi _ r h
    refine Ev.step (fun k => ?_) h
    simp only [laws_eqIntS.l0]
    rw [if_pos (by omega), if_pos (by omega), if_pos (by omega), if_pos trivial, wrap_succ (by omega)]) (by intro i _ h; cases h) (by
    refine Ev.of_succ (fun k => ?_)
    simp only [laws_eqIntS.l0]
    rw [if_neg (by omega)])
  rw [if_pos (by simp)] at key
  refine Ev.congr (fun k => ?_) key
  unfold laws_eqIntS.f
  rw [if_pos rfl]
  rfl
def upInt (a : Int) (n : Nat) : List Int := (List.range n).map (fun j : Nat => a + (j : Int))
theorem upInt_len (a : Int) (n : Nat) : (upInt a n).length = n := by simp [upInt]
theorem upInt_getD (a : Int) (n i : Nat) (h : i < n) : (upInt a n).getD i 0 = a + i := by simp [upInt, List.getD_eq_getElem?_getD, h]
theorem markIntS_ev (l : List Int) (hl : l.length ≤ 1048576) (a : Int) (h0 : 0 ≤ a) (h1 : a ≤ 1000000000) : Ev (fun k => laws_markIntS.f k l a) (a + l.length, upInt a l.length) := by
  have key := ev_copy0 (fun k acc i => laws_markIntS.l0 k acc (a + (i : Int)) (i : Int)) l.length (fun i => a + (i : Int)) (fun acc => (a + (l.length : Int), acc)) (by
    intro i acc hi ha r h
    refine Ev.step (fun k => ?_) h
    simp only [laws_markIntS.l0]
    rw [if_pos (by omega), if_pos (by omega), wrap_succ (by omega), toNat_cast, wrap64_id (n := a + (i : Int) + 1) (by omega) (by omega), show a + (i : Int) + 1 = a + ((i + 1 : Nat) : Int) by omega]) (by
    intro acc ha
    refine Ev.of_succ (fun k => ?_)
    simp only [laws_markIntS.l0]
    rw [if_neg (by omega)]) l rfl
  simp only [show ((0 : Nat) : Int) = 0 from rfl, Int.add_zero] at key
  exact key
theorem heldIntS_ev (n : Nat) (hn : n ≤ 1048576) (a : Int) (h0 : 0 ≤ a) (h1 : a ≤ 1000000000) : Ev (fun k => laws_heldIntS.f k (upInt a n) a) (a + n) := by
  have key := ev_yes (fun k i => laws_heldIntS.l0 k (upInt a n) (a + (i : Int)) (i : Int)) n (fun _ => true) (a + (n : Int)) (by
    intro i hi _ r h
    refine Ev.step (fun k => ?_) h
    simp only [laws_heldIntS.l0]
    rw [upInt_len, if_pos (by omega), if_pos (by omega), if_pos (by unfold rd; rw [toNat_cast, upInt_getD _ _ _ hi]), wrap_succ (by omega), wrap64_id (n := a + (i : Int) + 1) (by omega) (by omega), show a + (i : Int) + 1 = a + ((i + 1 : Nat) : Int) by omega]) (by simp) (by
    refine Ev.of_succ (fun k => ?_)
    simp only [laws_heldIntS.l0]
    rw [upInt_len, if_neg (by omega)])
  simp only [show ((0 : Nat) : Int) = 0 from rfl, Int.add_zero] at key
  exact key
theorem getD_mid {α : Type} (pre : List α) (x : α) (rest : List α) (d : α) : (pre ++ x :: rest).getD pre.length d = x := by
  simp [List.getD_eq_getElem?_getD]
theorem set_mid {α : Type} (pre : List α) (x y : α) (rest : List α) : (pre ++ x :: rest).set pre.length y = (pre ++ [y]) ++ rest := by
  rw [List.set_append_right _ _ (Nat.le_refl _)]
  simp
theorem take_getD {α : Type} (l : List α) (d : α) {i : Nat} (h : i < l.length) : l.take i ++ [l.getD i d] = l.take (i + 1) := by
  rw [List.take_succ_eq_append_getElem h]
  simp [List.getD_eq_getElem?_getD, List.getElem?_eq_getElem h]
theorem map_getD {α β : Type} (f : α → β) (l : List α) (d : α) : (List.range l.length).map (fun i => f (l.getD i d)) = l.map f := by
  rw [show (fun i => f (l.getD i d)) = f ∘ (fun i => l.getD i d) from rfl, ← List.map_map, range_map_getD]
abbrev SlotW := S62
abbrev SlotL := S113
abbrev zsl : SlotL := z113
abbrev zsw : SlotW := z62
def toSlot (r : SlotL) : SlotW := ⟨r.f0, r.f1⟩
theorem rdSL (l : List SlotL) (i : Nat) : rd_T113 l (i : Int) = l.getD i zsl := by unfold rd_T113; rw [toNat_cast]
theorem rdSW (l : List SlotW) (i : Nat) : rd_T62 l (i : Int) = l.getD i zsw := by unfold rd_T62; rw [toNat_cast]
theorem szSlot_eq (s : SlotL) (hl : s.f1.length ≤ maxLen) (a : Int) (h0 : 0 ≤ a) (h1 : a ≤ 1048576) : laws_szSlot.f s.f0 s.f1 a = some (if (s.f1.length : Int) ≤ a then (a - (s.f1.length : Int) : Int) else (-1 : Int)) := by
  unfold laws_szSlot.f
  rw [szIntS_eq _ hl a h0 h1]
  simp only [Option.bind_some]
  by_cases h : (s.f1.length : Int) ≤ a
  · rw [if_pos h, if_neg (by omega)]
  · rw [if_neg h, if_pos (by omega)]
theorem mem_getD {α : Type} {l : List α} {i : Nat} (h : i < l.length) (d : α) : l.getD i d ∈ l := by
  rw [List.getD_eq_getElem?_getD, List.getElem?_eq_getElem h]; exact List.getElem_mem h
def SmallS (l : List SlotL) : Prop := l.length ≤ 1048576 ∧ ∀ x ∈ l, x.f1.length ≤ 1048576
theorem szSlotS_ev (l : List SlotL) (hl : l.length ≤ maxLen) (hls : ∀ x ∈ l, x.f1.length ≤ maxLen) :
    ∃ r, Ev (fun k => laws_szSlotS.f k l 1048576) r ∧ (0 ≤ r → SmallS l ∧ (l.length : Int) + ((l.map (fun s => s.f1.length)).sum : Nat) ≤ 1048576) := by
  by_cases hlen : (l.length : Int) ≤ 1048576
  · obtain ⟨r, hr, hq⟩ := ev_sz (fun k b i => laws_szSlotS.l0 k l b (i : Int)) l.length (fun i => (l.getD i zsl).f1.length) (by
      intro i b hi h0 h1 hs r h
      refine Ev.step (fun k => ?_) h
      simp only [laws_szSlotS.l0]
      rw [if_pos (by omega), if_pos (by omega), rdSL, szSlot_eq _ (hls _ (mem_getD hi _)) b h0 h1, if_pos hs]
      simp only [Option.bind_some]
      rw [if_neg (by omega), wrap_succ (by simp only [maxLen] at hl; omega)]) (by
      intro i b hi h0 h1 hs
      refine Ev.of_succ (fun k => ?_)
      simp only [laws_szSlotS.l0]
      rw [if_pos (by omega), if_pos (by omega), rdSL, szSlot_eq _ (hls _ (mem_getD hi _)) b h0 h1, if_neg hs]
      simp only [Option.bind_some]
      rw [if_pos (by omega)]) (by
      intro b
      refine Ev.of_succ (fun k => ?_)
      simp only [laws_szSlotS.l0]
      rw [if_neg (by omega)]) (1048576 - (l.length : Int)) (by omega) (by omega)
    refine ⟨r, Ev.congr (fun k => ?_) hr, fun h => ?_⟩
    · unfold laws_szSlotS.f
      rw [sub_len (by omega) (by omega) hl, if_neg (by omega)]
      rfl
    · have := hq h
      refine ⟨⟨by omega, fun x hx => ?_⟩, ?_⟩
      · obtain ⟨i, hi, rfl⟩ := List.getElem_of_mem hx
        have h5 := sum_ge (fun i => (l.getD i zsl).f1.length) hi
        simp only [List.getD_eq_getElem?_getD, List.getElem?_eq_getElem hi, Option.getD_some] at h5
        simp only [List.getD_eq_getElem?_getD] at this
        omega
      · rw [map_getD (fun s : SlotL => s.f1.length) l zsl] at this
        omega
  · refine ⟨-1, Ev.const (fun k => ?_), fun h => by omega⟩
    unfold laws_szSlotS.f
    rw [sub_len (by omega) (by omega) hl, if_pos (by omega)]
theorem SmallS.at_ {l : List SlotL} (h : SmallS l) (i : Nat) : (l.getD i zsl).f1.length ≤ 1048576 := by
  by_cases hi : i < l.length
  · exact h.2 _ (mem_getD hi _)
  · rw [List.getD_eq_getElem?_getD, List.getElem?_eq_none (by omega)]; decide
theorem toSlotS_ev (l : List SlotL) (hl : SmallS l) : Ev (fun k => laws_toSlotS.f k l) (l.map toSlot) := by
  have h1 := hl.1
  have key := ev_copy0 (fun k acc i => laws_toSlotS.l0 k l acc (i : Int)) l.length (fun i => toSlot (l.getD i zsl)) id (by
    intro i acc hi ha r h
    refine Ev.step (f := fun k => (laws_toIntS.f k (l.getD i zsl).f1).bind fun t => laws_toSlotS.l0 k l (acc.set i (⟨(l.getD i zsl).f0, t⟩ : SlotW)) ((i + 1 : Nat) : Int)) (fun k => ?_) (Ev.bind (toIntS_ev _ (hl.at_ i)) h)
    simp only [laws_toSlotS.l0]
    rw [if_pos (by omega), if_pos (by omega), rdSL]
    unfold laws_toSlot.f
    rw [Option.bind_assoc]
    congr 1
    funext t
    simp only [Option.bind_some]
    rw [if_pos (by omega), wrap_succ (by omega), toNat_cast]) (by
    intro acc ha
    refine Ev.of_succ (fun k => ?_)
    simp only [laws_toSlotS.l0]
    rw [if_neg (by omega)]
    rfl) (List.replicate l.length zsw) (by simp)
  rw [map_getD toSlot l zsl] at key
  refine Ev.congr (fun k => ?_) key
  unfold laws_toSlotS.f
  rw [if_pos (by omega), if_pos (by omega), toNat_cast]
  rfl
def SmallW (l : List SlotW) : Prop := l.length ≤ 1048576 ∧ ∀ x ∈ l, x.f1.length ≤ 1048576
theorem SmallS.toW {l : List SlotL} (h : SmallS l) : SmallW (l.map toSlot) := by
  refine ⟨by simpa using h.1, fun x hx => ?_⟩
  obtain ⟨y, hy, rfl⟩ := List.mem_map.1 hx
  exact h.2 y hy
theorem SmallW.at_ {l : List SlotW} (h : SmallW l) (i : Nat) : (l.getD i zsw).f1.length ≤ 1048576 := by
  by_cases hi : i < l.length
  · exact h.2 _ (mem_getD hi _)
  · rw [List.getD_eq_getElem?_getD, List.getElem?_eq_none (by omega)]; decide
theorem eqSlotS_refl (l : List SlotW) (hl : SmallW l) : Ev (fun k => laws_eqSlotS.f k l l) true := by
  have h1 := hl.1
  have key := ev_all0 (fun k i => laws_eqSlotS.l0 k l l (i : Int)) l.length (fun _ => true) false true (by
    intro i hi _ r h
    refine Ev.step (f := fun k => (laws_eqIntS.f k (l.getD i zsw).f1 (l.getD i zsw).f1).bind fun t => (if t = true then (some true) else (some false)).bind fun t => if t = true then laws_eqSlotS.l0 k l l ((i + 1 : Nat) : Int) else some false) (fun k => ?_) (Ev.bind (eqIntS_refl _ (hl.at_ i)) (by simp only [if_true, Option.bind_some]; exact h))
    simp only [laws_eqSlotS.l0]
    rw [if_pos (by omega), if_pos (by omega), if_pos (by omega), rdSW]
    unfold laws_eqSlot.f
    rw [if_pos rfl, Option.bind_assoc, wrap_succ (by omega)]) (by intro i _ h; cases h) (by
    refine Ev.of_succ (fun k => ?_)
    simp only [laws_eqSlotS.l0]
    rw [if_neg (by omega)])
  rw [if_pos (by simp)] at key
  refine Ev.congr (fun k => ?_) key
  unfold laws_eqSlotS.f
  rw [if_pos rfl]
  rfl
def wordB (x : Int) : Bool := decide (0 ≤ x ∧ x ≤ 100000)
def rowB (r : List Int) : Bool := r.all wordB && decide (r.length = 4)
theorem wordsOk_ev (r : List Int) (hr : r.length ≤ 1048576) : Ev (fun k => impl_wordsOk.f k r) (rowB r) := by
  have key := ev_all0 (fun k i => impl_wordsOk.l0 k r r (r.length : Int) (i : Int)) r.length (fun i => wordB (r.getD i 0)) false (decide (r.length = 4)) (by
    intro i hi hb q h
    refine Ev.step (fun k => ?_) h
    simp only [impl_wordsOk.l0]
    rw [if_pos (by omega), if_pos (by omega), if_pos (by omega), within_eq]
    simp only [Option.bind_some]
    rw [if_pos (by unfold rd; rw [toNat_cast]; exact hb), wrap_succ (by omega)]) (by
    intro i hi hb
    refine Ev.of_succ (fun k => ?_)
    simp only [impl_wordsOk.l0]
    rw [if_pos (by omega), if_pos (by omega), if_pos (by omega), within_eq]
    simp only [Option.bind_some]
    rw [if_neg (by unfold rd; rw [toNat_cast]; unfold wordB at hb; rw [hb]; simp)]) (by
    refine Ev.of_succ (fun k => ?_)
    simp only [impl_wordsOk.l0]
    rw [if_neg (by omega)]
    congr 1
    by_cases h : r.length = 4
    · rw [decide_eq_true h, h]; rfl
    · rw [decide_eq_false h]; simp; omega)
  rw [range_all r 0 wordB] at key
  have e : (if r.all wordB = true then decide (r.length = 4) else false) = rowB r := by
    unfold rowB; cases r.all wordB <;> simp
  rw [e] at key
  exact key
theorem l07Words_ev (r : List Int) (hr : r.length ≤ 1048576) : Ev (fun k => spec_l07Words.f k r) (rowB r) := by
  by_cases h4 : r.length = 4
  · have key := ev_all0 (fun k i => spec_l07Words.l0 k r (i : Int)) r.length (fun i => wordB (r.getD i 0)) false true (by
      intro i hi hb q h
      refine Ev.step (fun k => ?_) h
      simp only [spec_l07Words.l0]
      rw [if_pos (by omega), if_pos (by omega), l01In_eq]
      simp only [Option.bind_some]
      rw [if_pos (by unfold rd; rw [toNat_cast]; exact hb), wrap_succ (by omega)]) (by
      intro i hi hb
      refine Ev.of_succ (fun k => ?_)
      simp only [spec_l07Words.l0]
      rw [if_pos (by omega), if_pos (by omega), l01In_eq]
      simp only [Option.bind_some]
      rw [if_neg (by unfold rd; rw [toNat_cast]; unfold wordB at hb; rw [hb]; simp)]) (by
      refine Ev.of_succ (fun k => ?_)
      simp only [spec_l07Words.l0]
      rw [if_neg (by omega)])
    rw [range_all r 0 wordB] at key
    have e : (if r.all wordB = true then true else false) = rowB r := by
      unfold rowB; rw [decide_eq_true h4]; cases r.all wordB <;> simp
    rw [e] at key
    refine Ev.congr (fun k => ?_) key
    unfold spec_l07Words.f
    rw [if_pos (by omega)]
    rfl
  · have e : rowB r = false := by unfold rowB; rw [decide_eq_false h4, Bool.and_false]
    rw [e]
    refine Ev.const (fun k => ?_)
    unfold spec_l07Words.f
    rw [if_neg (by omega)]
def slotB (s : SlotW) : Bool := if s.f0 = 0 then decide (s.f1.length = 0) else decide (1 ≤ s.f0 ∧ s.f0 ≤ 64) && rowB s.f1
def slotsB (l : List SlotW) : Bool := l.all slotB && decide (l.length ≤ 16)
theorem slotOk_ev (c : Int) (r : List Int) (hr : r.length ≤ 1048576) : Ev (fun k => impl_slotOk.f k c r) (slotB ⟨c, r⟩) := by
  unfold impl_slotOk.f slotB
  by_cases hc : c = 0
  · simp only [if_pos hc]
    have e : ((r.length : Int) == 0) = decide (r.length = 0) := by
      rw [Bool.eq_iff_iff]; simp
    rw [e]; exact Ev.now _
  · simp only [if_neg hc, within_eq, Option.bind_some]
    by_cases h : 1 ≤ c ∧ c ≤ 64
    · simp only [decide_eq_true h, if_true, Bool.true_and]
      exact Ev.bind (wordsOk_ev r hr) (Ev.now _)
    · simp only [decide_eq_false h, Bool.false_eq_true, if_false, Bool.false_and]; exact Ev.now _
theorem impl_SlotsOk_ev (l : List SlotW) (hl : SmallW l) : Ev (fun k => impl_SlotsOk.f k l) (slotsB l) := by
  have h1 := hl.1
  have key := ev_all0 (fun k i => impl_SlotsOk.l0 k l l (l.length : Int) (i : Int)) l.length (fun i => slotB (l.getD i zsw)) false (decide (l.length ≤ 16)) (by
    intro i hi hb q h
    refine Ev.step (f := fun k => (impl_slotOk.f k (l.getD i zsw).f0 (l.getD i zsw).f1).bind fun t => if t = true then impl_SlotsOk.l0 k l l (l.length : Int) ((i + 1 : Nat) : Int) else some false) (fun k => ?_) (Ev.bind (slotOk_ev _ _ (hl.at_ i)) (by simp only [show slotB ⟨(l.getD i zsw).f0, (l.getD i zsw).f1⟩ = true from hb, if_true]; exact h))
    simp only [impl_SlotsOk.l0]
    rw [if_pos (by omega), if_pos (by omega), if_pos (by omega), rdSW, wrap_succ (by omega)]) (by
    intro i hi hb
    refine Ev.step (f := fun k => (impl_slotOk.f k (l.getD i zsw).f0 (l.getD i zsw).f1).bind fun t => if t = true then impl_SlotsOk.l0 k l l (l.length : Int) ((i + 1 : Nat) : Int) else some false) (fun k => ?_) (Ev.bind (slotOk_ev _ _ (hl.at_ i)) (by simp only [show slotB ⟨(l.getD i zsw).f0, (l.getD i zsw).f1⟩ = false from hb, Bool.false_eq_true, if_false]; exact Ev.now _))
    simp only [impl_SlotsOk.l0]
    rw [if_pos (by omega), if_pos (by omega), if_pos (by omega), rdSW, wrap_succ (by omega)]) (by
    refine Ev.of_succ (fun k => ?_)
    simp only [impl_SlotsOk.l0]
    rw [if_neg (by omega)]
    congr 1
    by_cases h : l.length ≤ 16
    · rw [decide_eq_true h, decide_eq_true (by omega)]
    · rw [decide_eq_false h, decide_eq_false (by omega)])
  rw [range_all l zsw slotB] at key
  have e : (if l.all slotB = true then decide (l.length ≤ 16) else false) = slotsB l := by
    unfold slotsB; cases l.all slotB <;> simp
  rw [e] at key
  exact key
theorem spec_SlotsOk_ev (l : List SlotW) (hl : SmallW l) : Ev (fun k => spec_SlotsOk.f k l) (slotsB l) := by
  have h1 := hl.1
  by_cases h16 : (l.length : Int) > 16
  · have e : slotsB l = false := by unfold slotsB; rw [decide_eq_false (show ¬ l.length ≤ 16 by omega), Bool.and_false]
    rw [e]
    refine Ev.const (fun k => ?_)
    unfold spec_SlotsOk.f
    rw [if_pos h16]
  · have step : ∀ i, i < l.length → ∀ r, (slotB (l.getD i zsw) = true → Ev (fun k => spec_SlotsOk.l0 k l ((i + 1 : Nat) : Int)) r) → (slotB (l.getD i zsw) = false → r = false) → Ev (fun k => spec_SlotsOk.l0 k l (i : Int)) r := by
      intro i hi r hy hn
      have hw := l07Words_ev (l.getD i zsw).f1 (hl.at_ i)
      generalize hs : l.getD i zsw = s at *
      refine Ev.step (f := fun k => if decide (0 ≤ s.f0 ∧ s.f0 ≤ 64) = true then (if s.f0 = 0 then (if (s.f1.length : Int) > 0 then some false else (if s.f0 > 0 then (spec_l07Words.f k s.f1).bind fun t => if t = true then spec_SlotsOk.l0 k l ((i + 1 : Nat) : Int) else some false else spec_SlotsOk.l0 k l ((i + 1 : Nat) : Int))) else (if s.f0 > 0 then (spec_l07Words.f k s.f1).bind fun t => if t = true then spec_SlotsOk.l0 k l ((i + 1 : Nat) : Int) else some false else spec_SlotsOk.l0 k l ((i + 1 : Nat) : Int))) else some false) (fun k => ?_) ?_
      · simp only [spec_SlotsOk.l0]
        rw [if_pos (by omega), if_pos (by omega), rdSW, hs, l01In_eq, wrap_succ (by omega)]
        rfl
      · unfold slotB at hy hn
        by_cases h64 : 0 ≤ s.f0 ∧ s.f0 ≤ 64
        · simp only [decide_eq_true h64, if_true]
          by_cases h0 : s.f0 = 0
          · simp only [if_pos h0] at hy hn ⊢
            by_cases hl0 : s.f1.length = 0
            · simp only [if_neg (show ¬ (s.f1.length : Int) > 0 by omega), if_neg (show ¬ s.f0 > 0 by omega)]
              exact hy (by simpa using hl0)
            · simp only [if_pos (show (s.f1.length : Int) > 0 by omega)]
              rw [hn (by simpa using hl0)]; exact Ev.now _
          · simp only [if_neg h0] at hy hn ⊢
            simp only [if_pos (show s.f0 > 0 by omega)]
            rw [decide_eq_true (show 1 ≤ s.f0 ∧ s.f0 ≤ 64 by omega), Bool.true_and] at hy hn
            refine Ev.bind hw ?_
            cases hb : rowB s.f1 with
            | true => simp only [if_true]; exact hy hb
            | false => simp only [Bool.false_eq_true, if_false]; rw [hn hb]; exact Ev.now _
        · simp only [decide_eq_false h64, Bool.false_eq_true, if_false]
          have : r = false := hn (by rw [if_neg (by omega), decide_eq_false (by omega), Bool.false_and])
          rw [this]; exact Ev.now _
    have key := ev_all0 (fun k i => spec_SlotsOk.l0 k l (i : Int)) l.length (fun i => slotB (l.getD i zsw)) false true (by
      intro i hi hb q h
      exact step i hi q (fun _ => h) (fun hf => by rw [show slotB (l.getD i zsw) = true from hb] at hf; cases hf)) (by
      intro i hi hb
      exact step i hi false (fun hf => by rw [show slotB (l.getD i zsw) = false from hb] at hf; cases hf) (fun _ => rfl)) (by
      refine Ev.of_succ (fun k => ?_)
      simp only [spec_SlotsOk.l0]
      rw [if_neg (by omega)])
    rw [range_all l zsw slotB] at key
    have e : (if l.all slotB = true then true else false) = slotsB l := by
      unfold slotsB; rw [decide_eq_true (show l.length ≤ 16 by omega)]; cases l.all slotB <;> simp
    rw [e] at key
    refine Ev.congr (fun k => ?_) key
    unfold spec_SlotsOk.f
    rw [if_neg h16]
    rfl
/-- What is marked, slot by slot. -/
def markSl : Int → List SlotW → List SlotW
  | _, [] => []
  | a, x :: xs => ⟨a, upInt (a + 1) x.f1.length⟩ :: markSl (a + 1 + x.f1.length) xs
def totSl (l : List SlotW) : Nat := (l.map (fun s : SlotW => s.f1.length + 1)).sum
theorem totSl_cons (x : SlotW) (l : List SlotW) : totSl (x :: l) = x.f1.length + 1 + totSl l := by simp [totSl]
theorem markSl_len (a : Int) (l : List SlotW) : (markSl a l).length = l.length := by
  induction l generalizing a with
  | nil => rfl
  | cons x l ih => simp [markSl, ih]
theorem markSl_loop : ∀ (rest pre : List SlotW) (b : Int), (∀ x ∈ rest, x.f1.length ≤ 1048576) → pre.length + rest.length ≤ 1048576 → 0 ≤ b → b + totSl rest ≤ 1000000000 →
    Ev (fun k => laws_markSlotS.l0 k (pre ++ rest) b (pre.length : Int)) (b + totSl rest, pre ++ markSl b rest) := by
  intro rest
  induction rest with
  | nil =>
    intro pre b _ hl h0 h1
    refine Ev.of_succ (fun k => ?_)
    simp only [laws_markSlotS.l0]
    rw [if_neg (by simp)]
    simp [totSl, markSl]
  | cons x rest ih =>
    intro pre b hx hl h0 h1
    rw [totSl_cons] at h1 ⊢
    simp only [List.length_cons] at hl
    have hxl := hx x List.mem_cons_self
    have hm := markIntS_ev x.f1 hxl (b + 1) (by omega) (by omega)
    have hi := ih (pre ++ [⟨b, upInt (b + 1) x.f1.length⟩]) (b + 1 + x.f1.length) (fun y hy => hx y (List.mem_cons_of_mem _ hy)) (by simp only [List.length_append, List.length_cons, List.length_nil]; omega) (by omega) (by omega)
    rw [show b + 1 + (x.f1.length : Int) + (totSl rest : Nat) = b + ((x.f1.length + 1 + totSl rest : Nat) : Int) by omega] at hi
    rw [show pre ++ markSl b (x :: rest) = (pre ++ [⟨b, upInt (b + 1) x.f1.length⟩]) ++ markSl (b + 1 + x.f1.length) rest by simp [markSl]]
    refine Ev.step (f := fun k => (laws_markIntS.f k x.f1 (b + 1)).bind fun t => laws_markSlotS.l0 k ((pre ++ [(⟨b, t.2⟩ : SlotW)]) ++ rest) t.1 ((pre.length + 1 : Nat) : Int)) (fun k => ?_) (Ev.bind hm ?_)
    · simp only [laws_markSlotS.l0]
      rw [if_pos (by simp only [List.length_append, List.length_cons]; omega), if_pos (by omega), toNat_cast, getD_mid, wrap_succ (by omega), wrap64_id (n := b + 1) (by omega) (by omega)]
      simp only [set_mid]
    · simp only [List.length_append, List.length_cons, List.length_nil] at hi
      exact hi
theorem markSlotS_ev (l : List SlotW) (hl : SmallW l) (a : Int) (h0 : 0 ≤ a) (h1 : a + totSl l ≤ 1000000000) : Ev (fun k => laws_markSlotS.f k l a) (a + totSl l, markSl a l) := by
  have := markSl_loop l [] a hl.2 (by simpa using hl.1) h0 h1
  exact this
theorem heldSl_loop : ∀ (rest pre : List SlotW) (b : Int), (∀ x ∈ rest, x.f1.length ≤ 1048576) → pre.length + rest.length ≤ 1048576 → 0 ≤ b → b + totSl rest ≤ 1000000000 →
    Ev (fun k => laws_heldSlotS.l0 k (pre ++ markSl b rest) b (pre.length : Int)) (b + totSl rest) := by
  intro rest
  induction rest with
  | nil =>
    intro pre b _ hl h0 h1
    refine Ev.of_succ (fun k => ?_)
    simp only [laws_heldSlotS.l0]
    rw [if_neg (by simp [markSl])]
    simp [totSl]
  | cons x rest ih =>
    intro pre b hx hl h0 h1
    rw [totSl_cons] at h1 ⊢
    simp only [List.length_cons] at hl
    have hxl := hx x List.mem_cons_self
    have hm := heldIntS_ev x.f1.length hxl (b + 1) (by omega) (by omega)
    have hi := ih (pre ++ [⟨b, upInt (b + 1) x.f1.length⟩]) (b + 1 + x.f1.length) (fun y hy => hx y (List.mem_cons_of_mem _ hy)) (by simp only [List.length_append, List.length_cons, List.length_nil]; omega) (by omega) (by omega)
    rw [show b + 1 + (x.f1.length : Int) + (totSl rest : Nat) = b + ((x.f1.length + 1 + totSl rest : Nat) : Int) by omega] at hi
    have hml := markSl_len (b + 1 + x.f1.length) rest
    refine Ev.step (f := fun k => (laws_heldIntS.f k (upInt (b + 1) x.f1.length) (b + 1)).bind fun t307 => (if t307 < 0 then (some (-1)) else (laws_heldSlotS.l0 k (pre ++ markSl b (x :: rest)) t307 ((pre.length + 1 : Nat) : Int)))) (fun k => ?_) (Ev.bind hm ?_)
    · simp only [laws_heldSlotS.l0]
      rw [if_pos (by simp only [List.length_append, markSl, List.length_cons]; omega), if_pos (by omega), rdSW, wrap_succ (by omega), wrap64_id (n := b + 1) (by omega) (by omega)]
      simp only [markSl, getD_mid, if_true]
    · simp only [if_neg (show ¬ b + 1 + (x.f1.length : Int) < 0 by omega)]
      rw [show pre ++ markSl b (x :: rest) = (pre ++ [⟨b, upInt (b + 1) x.f1.length⟩]) ++ markSl (b + 1 + x.f1.length) rest by simp [markSl]]
      simp only [List.length_append, List.length_cons, List.length_nil] at hi
      exact hi
theorem heldSlotS_ev (l : List SlotW) (hl : SmallW l) (a : Int) (h0 : 0 ≤ a) (h1 : a + totSl l ≤ 1000000000) : Ev (fun k => laws_heldSlotS.f k (markSl a l) a) (a + totSl l) := by
  have := heldSl_loop l [] a hl.2 (by simpa using hl.1) h0 h1
  exact this
theorem spec_l07Copy_ev (l : List SlotW) (hl : SmallW l) : Ev (fun k => spec_l07Copy.f k l) l := by
  have h1 := hl.1
  have key := ev_yes (fun k i => spec_l07Copy.l0 k l (l.take i) (i : Int)) l.length (fun _ => true) l (by
    intro i hi _ r h
    refine Ev.step (fun k => ?_) h
    have hr := hl.at_ i
    simp only [spec_l07Copy.l0]
    rw [if_pos (by omega), if_pos (by omega)]
    simp only [Option.bind_some, List.nil_append]
    rw [rdSW, if_pos (by simp only [List.length_nil]; omega), if_pos (by rw [List.length_take]; omega), take_getD l zsw hi, wrap_succ (by omega)]) (by simp) (by
    refine Ev.of_succ (fun k => ?_)
    simp only [spec_l07Copy.l0]
    rw [if_neg (by omega), List.take_length])
  exact key
theorem impl_copySlots_ev (l : List SlotW) (hl : SmallW l) : Ev (fun k => impl_copySlots.f k l) l := by
  have h1 := hl.1
  have key := ev_yes (fun k i => impl_copySlots.l0 k (l.take i) l (l.length : Int) (i : Int)) l.length (fun _ => true) l (by
    intro i hi _ r h
    refine Ev.step (fun k => ?_) h
    have hr := hl.at_ i
    simp only [impl_copySlots.l0]
    rw [if_pos (by omega), if_pos (by omega), if_pos (by omega), rdSW]
    unfold impl_copyInts.f
    rw [if_pos (by simp only [List.length_nil]; omega)]
    simp only [Option.bind_some, List.nil_append]
    rw [if_pos (by rw [List.length_take]; omega), take_getD l zsw hi, wrap_succ (by omega)]) (by simp) (by
    refine Ev.of_succ (fun k => ?_)
    simp only [impl_copySlots.l0]
    rw [if_neg (by omega), List.take_length])
  exact key
theorem all_set {α : Type} (p : α → Bool) (l : List α) (i : Nat) (a : α) (h : l.all p = true) (hi : i < l.length) : (l.set i a).all p = p a := by
  rw [Bool.eq_iff_iff, List.all_eq_true]
  constructor
  · intro hh
    exact hh a (List.mem_of_getElem? (by rw [List.getElem?_set_self hi]))
  · intro ha x hx
    rcases List.mem_or_eq_of_mem_set hx with hx | rfl
    · exact List.all_eq_true.1 h x hx
    · exact ha
theorem slotsB_set (l : List SlotW) (i : Nat) (a : SlotW) (h : slotsB l = true) (hi : i < l.length) : slotsB (l.set i a) = slotB a := by
  simp only [slotsB, Bool.and_eq_true, decide_eq_true_eq] at h
  simp only [slotsB, List.length_set, decide_eq_true h.2, Bool.and_true]
  exact all_set slotB l i a h.1 hi
theorem slotsB_at {l : List SlotW} (h : slotsB l = true) {i : Nat} (hi : i < l.length) : slotB (l.getD i zsw) = true := by
  simp only [slotsB, Bool.and_eq_true] at h
  exact List.all_eq_true.1 h.1 _ (mem_getD hi _)
theorem slotsB_small {l : List SlotW} (h : slotsB l = true) : l.length ≤ 16 ∧ ∀ x ∈ l, x.f1.length ≤ 4 := by
  simp only [slotsB, Bool.and_eq_true, decide_eq_true_eq] at h
  refine ⟨h.2, fun x hx => ?_⟩
  have := List.all_eq_true.1 h.1 x hx
  unfold slotB at this
  by_cases h0 : x.f0 = 0
  · rw [if_pos h0, decide_eq_true_eq] at this; omega
  · rw [if_neg h0] at this
    simp only [rowB, Bool.and_eq_true, decide_eq_true_eq] at this
    omega
/-- What is as right slots are. -/
def SlotFours (l : List SlotW) : Prop := l.length ≤ 16 ∧ ∀ x ∈ l, x.f1.length ≤ 4
theorem SlotFours.nil : SlotFours [] := ⟨by decide, fun x hx => by cases hx⟩
theorem totSl_le : ∀ (l : List SlotW), (∀ x ∈ l, x.f1.length ≤ 4) → totSl l ≤ 5 * l.length := by
  intro l
  induction l with
  | nil => intro _; exact Nat.le_refl _
  | cons x l ih =>
    intro h
    have h2 := ih (fun y hy => h y (List.mem_cons_of_mem _ hy))
    have h3 := h x List.mem_cons_self
    rw [totSl_cons, List.length_cons]
    omega
theorem SlotFours.small {l : List SlotW} (h : SlotFours l) : SmallW l ∧ totSl l ≤ 80 :=
  ⟨⟨by have := h.1; omega, fun x hx => by have := h.2 x hx; omega⟩, by have := totSl_le l h.2; have := h.1; omega⟩
theorem SlotFours.set {l : List SlotW} (h : SlotFours l) (i : Nat) (a : SlotW) (ha : a.f1.length ≤ 4) : SlotFours (l.set i a) := by
  refine ⟨by simpa using h.1, fun x hx => ?_⟩
  rcases List.mem_or_eq_of_mem_set hx with hx | rfl
  · exact h.2 x hx
  · exact ha
theorem totSl_sum (l : List SlotL) (h : (l.length : Int) + ((l.map (fun s => s.f1.length)).sum : Nat) ≤ 1048576) : totSl (l.map toSlot) ≤ 1048576 := by
  have key : ∀ l : List SlotL, totSl (l.map toSlot) = l.length + (l.map (fun s => s.f1.length)).sum := by
    intro l
    induction l with
    | nil => rfl
    | cons x l ih => rw [List.map_cons, totSl_cons, ih]; simp only [toSlot, List.length_cons, List.map_cons, List.sum_cons]; omega
  rw [key]; omega
def emp : List SlotW → Nat → Int
  | [], _ => -1
  | s :: l, i => if s.f0 = 0 then (i : Int) else emp l (i + 1)
theorem emp_bd : ∀ (l : List SlotW) (i : Nat), emp l i = -1 ∨ ((i : Int) ≤ emp l i ∧ emp l i < i + l.length) := by
  intro l
  induction l with
  | nil => intro i; exact Or.inl rfl
  | cons s l ih =>
    intro i
    unfold emp
    by_cases h : s.f0 = 0
    · rw [if_pos h]; right; simp only [List.length_cons]; omega
    · rw [if_neg h]
      rcases ih (i + 1) with h2 | h2
      · exact Or.inl h2
      · right; simp only [List.length_cons]; omega
theorem emp_loop : ∀ (rest pre : List SlotW), pre.length + rest.length ≤ 1048576 → Ev (fun k => impl_emptySlot.l0 k (pre ++ rest) ((pre ++ rest).length : Int) (pre.length : Int)) (emp rest pre.length) := by
  intro rest
  induction rest with
  | nil =>
    intro pre _
    refine Ev.of_succ (fun k => ?_)
    simp only [impl_emptySlot.l0, emp]
    rw [if_neg (by simp)]
  | cons s rest ih =>
    intro pre hl
    simp only [List.length_cons] at hl
    unfold emp
    by_cases h : s.f0 = 0
    · rw [if_pos h]
      refine Ev.of_succ (fun k => ?_)
      simp only [impl_emptySlot.l0]
      rw [if_pos (by simp only [List.length_append, List.length_cons]; omega), if_pos (by omega), if_pos (by simp only [List.length_append, List.length_cons]; omega), rdSW, getD_mid, if_pos h]
    · rw [if_neg h]
      have hi := ih (pre ++ [s]) (by simp only [List.length_append, List.length_cons, List.length_nil]; omega)
      simp only [List.append_assoc, List.singleton_append, List.length_append, List.length_cons, List.length_nil, Nat.zero_add] at hi
      refine Ev.step (fun k => ?_) hi
      simp only [impl_emptySlot.l0]
      rw [if_pos (by simp only [List.length_append, List.length_cons]; omega), if_pos (by omega), if_pos (by simp only [List.length_append, List.length_cons]; omega), rdSW, getD_mid, if_neg h, wrap_succ (by omega)]
      simp only [List.length_append, List.length_cons]
theorem emptySlot_ev (l : List SlotW) (hl : SmallW l) : Ev (fun k => impl_emptySlot.f k l) (emp l 0) := by
  have := emp_loop l [] (by simpa using hl.1)
  exact this
def resB (l : List SlotW) (w : List Int) (c e : Int) : List SlotW × Int × Bool := if 0 ≤ e ∧ slotB ⟨c, w⟩ = true then (l.set e.toNat ⟨c, w⟩, e, true) else ([], 0, false)
def putB (l : List SlotW) (w : List Int) (c : Int) : List SlotW × Int × Bool := if slotsB l = true ∧ 0 < c then resB l w c (emp l 0) else ([], 0, false)
theorem slotB_neg {c : Int} {w : List Int} (h : c < 0) : slotB ⟨c, w⟩ = false := by
  unfold slotB
  rw [if_neg (by show ¬ c = 0; omega), decide_eq_false (by show ¬ (1 ≤ c ∧ c ≤ 64); omega), Bool.false_and]
theorem impl_PutAside_ev (l : List SlotW) (hl : SmallW l) (w : List Int) (hw : w.length ≤ 1048576) (c : Int) : Ev (fun k => impl_PutAside.f k l w c) (putB l w c) := by
  unfold impl_PutAside.f impl_copyInts.f
  simp only [List.length_nil, if_pos (show 0 + w.length < 17592186044416 by omega), Option.bind_some, List.nil_append]
  refine Ev.bind (emptySlot_ev l hl) ?_
  refine Ev.bind (impl_SlotsOk_ev l hl) ?_
  have hb := emp_bd l 0
  unfold putB resB
  generalize emp l 0 = e at *
  by_cases hs : slotsB l = true
  · simp only [if_pos hs]
    by_cases he : e < 0
    · simp only [if_pos he, if_neg (show ¬ (0 ≤ e ∧ slotB ⟨c, w⟩ = true) from fun h => by omega), ite_self]; exact Ev.now _
    · simp only [if_neg he]
      by_cases hc : c = 0
      · simp only [if_pos hc, if_neg (show ¬ (slotsB l = true ∧ 0 < c) from fun h => by omega)]; exact Ev.now _
      · simp only [if_neg hc]
        refine Ev.bind (slotOk_ev c w hw) ?_
        by_cases hk : slotB ⟨c, w⟩ = true
        · have hc0 : 0 < c := by
            by_cases h : 0 < c
            · exact h
            · rw [slotB_neg (by omega)] at hk; cases hk
          simp only [if_pos hk, if_pos (show slotsB l = true ∧ 0 < c from ⟨hs, hc0⟩), if_pos (show 0 ≤ e ∧ slotB ⟨c, w⟩ = true from ⟨by omega, hk⟩)]
          refine Ev.bind (impl_copySlots_ev l hl) ?_
          simp only [if_pos (show 0 ≤ e by omega), if_pos (show e < (l.length : Int) by rcases hb with h | h <;> omega)]
          exact Ev.now _
        · simp only [if_neg hk, if_neg (show ¬ (0 ≤ e ∧ slotB ⟨c, w⟩ = true) from fun h => hk h.2), ite_self]; exact Ev.now _
  · simp only [if_neg hs, if_neg (show ¬ (slotsB l = true ∧ 0 < c) from fun h => hs h.1)]; exact Ev.now _
theorem spec_put_no (l : List SlotW) (hl : SmallW l) (w : List Int) (c : Int) (h : ¬ (slotsB l = true ∧ 0 < c)) : Ev (fun k => spec_PutAside.l0 k l w c l 0) ([], 0, false) := by
  have hno : Ev (fun k => spec_PutAside.j1 k l w c l 0 false) ([], 0, false) := by
    refine Ev.of_succ (fun k => ?_)
    simp only [spec_PutAside.j1, Bool.false_eq_true, if_false]
  by_cases h0 : (0 : Int) < (l.length : Int)
  · refine Ev.step (f := fun k => (spec_SlotsOk.f k l).bind fun t664 => (if t664 = true then (spec_PutAside.j1 k l w c l 0 (decide (c > 0))) else (spec_PutAside.j1 k l w c l 0 false))) (fun k => by simp only [spec_PutAside.l0, if_pos h0]) (Ev.bind (spec_SlotsOk_ev l hl) ?_)
    by_cases hs : slotsB l = true
    · simp only [if_pos hs, decide_eq_false (show ¬ c > 0 from fun hc => h ⟨hs, hc⟩)]; exact hno
    · simp only [if_neg hs]; exact hno
  · refine Ev.step (fun k => ?_) hno
    simp only [spec_PutAside.l0, if_neg h0]
theorem spec_put_loop (l : List SlotW) (hl : SmallW l) (w : List Int) (hw : w.length ≤ 1048576) (c : Int) (hs : slotsB l = true) (hc : 0 < c) : ∀ (rest pre : List SlotW), l = pre ++ rest → Ev (fun k => spec_PutAside.l0 k l w c l (pre.length : Int)) (resB l w c (emp rest pre.length)) := by
  intro rest
  have hl1 := hl.1
  induction rest with
  | nil =>
    intro pre e
    have hlen : l.length = pre.length := by rw [e]; simp
    have hno : Ev (fun k => spec_PutAside.j1 k l w c l (pre.length : Int) false) ([], 0, false) := by
      refine Ev.of_succ (fun k => ?_)
      simp only [spec_PutAside.j1, Bool.false_eq_true, if_false]
    unfold resB emp
    rw [if_neg (fun h => by omega)]
    refine Ev.step (fun k => ?_) hno
    simp only [spec_PutAside.l0, if_neg (show ¬ (pre.length : Int) < (l.length : Int) by omega)]
  | cons s rest ih =>
    intro pre e
    have hlen : l.length = pre.length + (rest.length + 1) := by rw [e]; simp
    have hget : l.getD pre.length zsw = s := by rw [e, getD_mid]
    refine Ev.step (f := fun k => (spec_SlotsOk.f k l).bind fun t664 => (if t664 = true then (spec_PutAside.j1 k l w c l (pre.length : Int) (decide (c > 0))) else (spec_PutAside.j1 k l w c l (pre.length : Int) false))) (fun k => by simp only [spec_PutAside.l0, if_pos (show (pre.length : Int) < (l.length : Int) by omega)]) (Ev.bind (spec_SlotsOk_ev l hl) ?_)
    simp only [if_pos hs, decide_eq_true (show c > 0 from hc)]
    unfold emp
    by_cases h : s.f0 = 0
    · rw [if_pos h]
      have hlt : pre.length < l.length := by omega
      have hsm : SmallW (l.set pre.length ⟨c, w⟩) := ⟨by simpa using hl.1, fun x hx => by
        rcases List.mem_or_eq_of_mem_set hx with hx | rfl
        · exact hl.2 x hx
        · exact hw⟩
      refine Ev.step (f := fun k => (spec_SlotsOk.f k (l.set pre.length ⟨c, w⟩)).bind fun t676 => (if t676 = true then (some (l.set pre.length (⟨c, w⟩ : SlotW), (pre.length : Int), true)) else (some (([] : List SlotW), 0, false)))) (fun k => ?_) (Ev.bind (spec_SlotsOk_ev _ hsm) ?_)
      · simp only [spec_PutAside.j1, if_true, if_pos (show (0 : Int) ≤ (pre.length : Int) by omega), if_pos (show (pre.length : Int) < (l.length : Int) by omega), rdSW, hget, if_pos h, Option.bind_some, List.length_nil, if_pos (show 0 + w.length < 17592186044416 by omega), List.nil_append, toNat_cast]
      · rw [slotsB_set l _ _ hs hlt]
        unfold resB
        by_cases hk : slotB ⟨c, w⟩ = true
        · simp only [if_pos hk, if_pos (show (0 : Int) ≤ (pre.length : Int) ∧ slotB ⟨c, w⟩ = true from ⟨by omega, hk⟩), toNat_cast]; exact Ev.now _
        · simp only [if_neg hk, if_neg (show ¬ ((0 : Int) ≤ (pre.length : Int) ∧ slotB ⟨c, w⟩ = true) from fun h => hk h.2)]; exact Ev.now _
    · rw [if_neg h]
      have hi := ih (pre ++ [s]) (by rw [e]; simp)
      simp only [List.length_append, List.length_cons, List.length_nil, Nat.zero_add] at hi
      refine Ev.step (fun k => ?_) hi
      simp only [spec_PutAside.j1, if_true, if_pos (show (0 : Int) ≤ (pre.length : Int) by omega), if_pos (show (pre.length : Int) < (l.length : Int) by omega), rdSW, hget, if_neg h, wrap_succ (show pre.length < 9223372036854775807 by omega)]
theorem spec_PutAside_ev (l : List SlotW) (hl : SmallW l) (w : List Int) (hw : w.length ≤ 1048576) (c : Int) : Ev (fun k => spec_PutAside.f k l w c) (putB l w c) := by
  unfold spec_PutAside.f
  refine Ev.bind (spec_l07Copy_ev l hl) ?_
  unfold putB
  by_cases h : slotsB l = true ∧ 0 < c
  · rw [if_pos h]
    exact spec_put_loop l hl w hw c h.1 h.2 l [] rfl
  · rw [if_neg h]
    exact spec_put_no l hl w c h
theorem putB_four (l : List SlotW) (w : List Int) (c : Int) : SlotFours (putB l w c).1 := by
  unfold putB resB
  by_cases h : slotsB l = true ∧ 0 < c
  · rw [if_pos h]
    have h4 : SlotFours l := slotsB_small h.1
    by_cases hk : 0 ≤ emp l 0 ∧ slotB ⟨c, w⟩ = true
    · rw [if_pos hk]
      refine h4.set _ _ ?_
      have := hk.2
      unfold slotB at this
      rw [if_neg (show ¬ c = 0 by omega)] at this
      simp only [rowB, Bool.and_eq_true, decide_eq_true_eq] at this
      show w.length ≤ 4
      omega
    · rw [if_neg hk]; exact SlotFours.nil
  · rw [if_neg h]; exact SlotFours.nil
def heldB (l : List SlotW) (i : Int) : Bool := slotsB l && decide (0 ≤ i ∧ i ≤ l.length - 1) && decide (0 < (l.getD i.toNat zsw).f0)
theorem heldB_bd {l : List SlotW} {i : Int} (h : heldB l i = true) : slotsB l = true ∧ 0 ≤ i ∧ i < l.length ∧ 1 ≤ (l.getD i.toNat zsw).f0 ∧ (l.getD i.toNat zsw).f0 ≤ 64 ∧ rowB (l.getD i.toNat zsw).f1 = true := by
  simp only [heldB, Bool.and_eq_true, decide_eq_true_eq] at h
  obtain ⟨⟨h1, h2⟩, h3⟩ := h
  have h4 := slotsB_at h1 (show i.toNat < l.length by omega)
  unfold slotB at h4
  rw [if_neg (by omega)] at h4
  simp only [Bool.and_eq_true, decide_eq_true_eq] at h4
  exact ⟨h1, h2.1, by omega, h4.1.1, h4.1.2, h4.2⟩
theorem len_predS (l : List SlotW) (hl : SmallW l) : wrap64 ((l.length : Int) - 1) = l.length - 1 := by have := hl.1; unfold wrap64; omega
theorem isHeld_eq (l : List SlotW) (hl : SmallW l) (i : Int) (hs : slotsB l = true) : impl_isHeld.f l i = some (heldB l i) := by
  unfold impl_isHeld.f heldB
  rw [within_eq, len_predS l hl, hs]
  simp only [Option.bind_some, Bool.true_and]
  by_cases h : 0 ≤ i ∧ i ≤ (l.length : Int) - 1
  · rw [if_pos (decide_eq_true h), if_pos h.1, if_pos (by omega), decide_eq_true h]
    rfl
  · rw [if_neg (by rw [decide_eq_true_eq]; exact h), decide_eq_false h, Bool.false_and]
def changedB (l : List SlotW) (i : Int) (by_ : Int) : List SlotW × Bool :=
  if heldB l i = true then (if (l.getD i.toNat zsw).f0 + by_ = 0 then (l.set i.toNat ⟨0, []⟩, true) else if (l.getD i.toNat zsw).f0 + by_ ≤ 64 then (l.set i.toNat ⟨(l.getD i.toNat zsw).f0 + by_, (l.getD i.toNat zsw).f1⟩, true) else ([], false)) else ([], false)
theorem rdI (l : List SlotW) (i : Int) : rd_T62 l i = l.getD i.toNat zsw := rfl
theorem get_setS {xs : List SlotW} {a z : SlotW} {i : Nat} (h1 : i < xs.length) : (xs.set i a).getD i z = a := by
  rw [List.getD_eq_getElem?_getD, List.getElem?_set_self h1]
  rfl
theorem l07Change_ev (l : List SlotW) (hl : SmallW l) (i : Int) (b : Int) (hb : b = 1 ∨ b = -1) : Ev (fun k => spec_l07Change.f k l i b) (changedB l i b) := by
  have hno : Ev (fun k => spec_l07Change.j0 k l i b true) ([], false) := by
    refine Ev.of_succ (fun k => ?_)
    simp only [spec_l07Change.j0, if_true]
  unfold spec_l07Change.f
  refine Ev.bind (spec_SlotsOk_ev l hl) ?_
  by_cases hs : slotsB l = true
  · simp only [if_pos hs, l01In_eq, Option.bind_some, len_predS l hl]
    by_cases h : 0 ≤ i ∧ i ≤ (l.length : Int) - 1
    · simp only [decide_eq_true h, if_true, if_pos h.1, if_pos (show i < (l.length : Int) by omega), rdI]
      have h4 := slotsB_at hs (show i.toNat < l.length by omega)
      by_cases h0 : (l.getD i.toNat zsw).f0 = 0
      · simp only [h0, beq_self_eq_true]
        have hh : heldB l i = false := by simp only [heldB, h0]; simp
        unfold changedB
        rw [if_neg (by rw [hh]; decide)]
        exact hno
      · have hh : heldB l i = true := by
          unfold slotB at h4
          rw [if_neg h0] at h4
          simp only [Bool.and_eq_true, decide_eq_true_eq] at h4
          simp only [heldB, hs, decide_eq_true h, Bool.true_and, decide_eq_true_eq]
          omega
        obtain ⟨_, _, hi2, h5, h6, h7⟩ := heldB_bd hh
        have hlt : i.toNat < l.length := by omega
        unfold changedB
        rw [if_pos hh]
        have hw : wrap64 ((l.getD i.toNat zsw).f0 + b) = (l.getD i.toNat zsw).f0 + b := wrap64_id (by omega) (by omega)
        simp only [beq_eq_false_iff_ne.mpr h0]
        generalize hy : l.getD i.toNat zsw = y at *
        refine Ev.step (f := fun k => (spec_l07Copy.f k l).bind fun t => (if 0 ≤ i then (if i < (t.length : Int) then ((some (t.set (i : Int).toNat (⟨wrap64 (((rd_T62 t i).f0) + b), (rd_T62 t i).f1⟩ : SlotW) : List SlotW)).bind fun y439 => (if ((rd_T62 y439 i).f0) = 0 then ((some (y439.set (i : Int).toNat (⟨(rd_T62 y439 i).f0, (([] : List Int))⟩ : SlotW) : List SlotW)).bind fun y444 => ((spec_SlotsOk.f k y444).bind fun t445 => (if t445 = true then (some (y444, true)) else (some ((([] : List SlotW)), false))))) else ((spec_SlotsOk.f k y439).bind fun t449 => (if t449 = true then (some (y439, true)) else (some ((([] : List SlotW)), false)))))) else (none)) else (none))) (fun k => by simp only [spec_l07Change.j0, Bool.false_eq_true, if_false]) (Ev.bind (spec_l07Copy_ev l hl) ?_)
        simp only [if_pos h.1, if_pos (show i < (l.length : Int) by omega), Option.bind_some, rdI, hy, hw, get_setS hlt, List.set_set]
        have hsm : ∀ a : SlotW, a.f1.length ≤ 1048576 → SmallW (l.set i.toNat a) := fun a ha => ⟨by simpa using hl.1, fun x hx => by
          rcases List.mem_or_eq_of_mem_set hx with hx | rfl
          · exact hl.2 x hx
          · exact ha⟩
        by_cases hz : y.f0 + b = 0
        · simp only [if_pos hz, hz]
          refine Ev.bind (spec_SlotsOk_ev _ (hsm ⟨0, []⟩ (by simp))) ?_
          simp only [slotsB_set l _ _ hs hlt, slotB, if_true, List.length_nil, decide_true]
          exact Ev.now _
        · simp only [if_neg hz]
          refine Ev.bind (spec_SlotsOk_ev _ (hsm ⟨y.f0 + b, y.f1⟩ (by simp only [rowB, Bool.and_eq_true, decide_eq_true_eq] at h7; show y.f1.length ≤ 1048576; omega))) ?_
          simp only [slotsB_set l _ _ hs hlt, slotB, if_neg hz, h7, Bool.and_true]
          by_cases h64 : y.f0 + b ≤ 64
          · simp only [if_pos h64, decide_eq_true (show 1 ≤ y.f0 + b ∧ y.f0 + b ≤ 64 by omega), if_true]
            exact Ev.now _
          · simp only [if_neg h64, decide_eq_false (show ¬ (1 ≤ y.f0 + b ∧ y.f0 + b ≤ 64) by omega), Bool.false_eq_true, if_false]
            exact Ev.now _
    · have hh : heldB l i = false := by simp only [heldB, decide_eq_false h, Bool.and_false, Bool.false_and]
      simp only [decide_eq_false h, Bool.false_eq_true, if_false]
      unfold changedB
      rw [if_neg (by rw [hh]; decide)]
      exact hno
  · have hh : heldB l i = false := by simp only [heldB, Bool.eq_false_iff.2 hs, Bool.false_and]
    simp only [if_neg hs]
    unfold changedB
    rw [if_neg (by rw [hh]; decide)]
    exact hno
theorem changedB_four (l : List SlotW) (i b : Int) : SlotFours (changedB l i b).1 := by
  unfold changedB
  by_cases hh : heldB l i = true
  · rw [if_pos hh]
    obtain ⟨h1, _, _, _, _, h7⟩ := heldB_bd hh
    have h4 : SlotFours l := slotsB_small h1
    simp only [rowB, Bool.and_eq_true, decide_eq_true_eq] at h7
    by_cases hz : (l.getD i.toNat zsw).f0 + b = 0
    · rw [if_pos hz]; exact h4.set _ _ (by simp)
    · rw [if_neg hz]
      by_cases h64 : (l.getD i.toNat zsw).f0 + b ≤ 64
      · rw [if_pos h64]; exact h4.set _ _ (by show (l.getD i.toNat zsw).f1.length ≤ 4; omega)
      · rw [if_neg h64]; exact SlotFours.nil
  · rw [if_neg hh]; exact SlotFours.nil
theorem impl_MoreOf_ev (l : List SlotW) (hl : SmallW l) (i : Int) : Ev (fun k => impl_MoreOf.f k l i) (changedB l i 1) := by
  unfold impl_MoreOf.f
  refine Ev.bind (impl_SlotsOk_ev l hl) ?_
  by_cases hs : slotsB l = true
  · simp only [if_pos hs, isHeld_eq l hl i hs, Option.bind_some]
    unfold changedB
    by_cases hh : heldB l i = true
    · obtain ⟨_, hi, hi2, h5, h6, h7⟩ := heldB_bd hh
      simp only [if_pos hh, if_pos hi, if_pos hi2]
      rw [rdI]
      obtain ⟨y, hy⟩ : ∃ y, l.getD i.toNat zsw = y := ⟨_, rfl⟩
      rw [hy] at h5 h6 h7 ⊢
      by_cases h64 : y.f0 = 64
      · simp only [if_pos h64, if_neg (show ¬ y.f0 + 1 = 0 by omega), if_neg (show ¬ y.f0 + 1 ≤ 64 by omega)]
        exact Ev.now _
      · simp only [if_neg h64, if_neg (show ¬ y.f0 + 1 = 0 by omega), if_pos (show y.f0 + 1 ≤ 64 by omega)]
        refine Ev.bind (impl_copySlots_ev l hl) ?_
        simp only [if_pos hi2, rdI, hy, wrap64_id (n := y.f0 + 1) (by omega) (by omega)]
        exact Ev.now _
    · simp only [if_neg hh]; exact Ev.now _
  · have hh : heldB l i = false := by simp only [heldB, Bool.eq_false_iff.2 hs, Bool.false_and]
    simp only [if_neg hs]
    unfold changedB
    rw [if_neg (by rw [hh]; decide)]
    exact Ev.now _
theorem spec_MoreOf_ev (l : List SlotW) (hl : SmallW l) (i : Int) : Ev (fun k => spec_MoreOf.f k l i) (changedB l i 1) := by
  unfold spec_MoreOf.f
  exact Ev.bind (l07Change_ev l hl i 1 (.inl rfl)) (Ev.now _)
theorem impl_LessOf_ev (l : List SlotW) (hl : SmallW l) (i : Int) : Ev (fun k => impl_LessOf.f k l i) (changedB l i (-1)) := by
  unfold impl_LessOf.f
  refine Ev.bind (impl_SlotsOk_ev l hl) ?_
  by_cases hs : slotsB l = true
  · simp only [if_pos hs, isHeld_eq l hl i hs, Option.bind_some]
    unfold changedB
    by_cases hh : heldB l i = true
    · obtain ⟨_, hi, hi2, h5, h6, h7⟩ := heldB_bd hh
      simp only [if_pos hh]
      refine Ev.bind (impl_copySlots_ev l hl) ?_
      unfold impl_less.f
      simp only [if_pos hi, if_pos hi2]
      generalize hy : l.getD i.toNat zsw = y at *
      rw [show wrap64 (y.f0 - 1) = y.f0 + -1 from (wrap64_id (by omega) (by omega)).trans (by omega)]
      by_cases hz : y.f0 + -1 = 0
      · simp only [if_pos hz, Option.bind_some, hz]
        exact Ev.now _
      · simp only [if_neg hz, Option.bind_some, if_pos (show y.f0 + -1 ≤ 64 by omega)]
        exact Ev.now _
    · simp only [if_neg hh]; exact Ev.now _
  · have hh : heldB l i = false := by simp only [heldB, Bool.eq_false_iff.2 hs, Bool.false_and]
    simp only [if_neg hs]
    unfold changedB
    rw [if_neg (by rw [hh]; decide)]
    exact Ev.now _
theorem spec_LessOf_ev (l : List SlotW) (hl : SmallW l) (i : Int) : Ev (fun k => spec_LessOf.f k l i) (changedB l i (-1)) := by
  unfold spec_LessOf.f
  exact Ev.bind (l07Change_ev l hl i (-1) (.inr rfl)) (Ev.now _)
theorem l01Byte_ends (l : List Int) (hl : l.length ≤ 9223372036854775806) (i h : Int) (h0 : 0 ≤ i) (h1 : i ≤ l.length) :
    ∃ x i' h', spec_l01Byte.f l i h = some (x, i', h') ∧ 0 ≤ x ∧ x < 256 ∧ 0 ≤ i' ∧ i' ≤ l.length := by
  unfold spec_l01Byte.f
  by_cases hi : i < (l.length : Int)
  · rw [if_pos hi, if_pos h0]
    refine ⟨_, _, _, rfl, ?_, ?_, ?_, ?_⟩
    · rw [and255]; omega
    · rw [and255]; omega
    · rw [wrap64_id (by omega) (by omega)]; omega
    · rw [wrap64_id (by omega) (by omega)]; omega
  · rw [if_neg hi]
    refine ⟨_, _, _, rfl, ?_, ?_, h0, h1⟩
    · rw [and255]; omega
    · rw [and255]; omega
theorem l01Below_ends (l : List Int) (hl : l.length ≤ 9223372036854775806) (i h n : Int) (h0 : 0 ≤ i) (h1 : i ≤ l.length) :
    ∃ x i' h', spec_l01Below.f l i h n = some (x, i', h') ∧ 0 ≤ x ∧ (0 < n → x < n) ∧ (n ≤ 0 → x = 0) ∧ 0 ≤ i' ∧ i' ≤ l.length := by
  unfold spec_l01Below.f
  by_cases hn : n ≤ 0
  · rw [if_pos hn]
    exact ⟨_, _, _, rfl, by omega, by omega, fun _ => rfl, h0, h1⟩
  · rw [if_neg hn]
    obtain ⟨x, i1, g1, e1, a1, b1, c1, d1⟩ := l01Byte_ends l hl i h h0 h1
    by_cases h256 : n ≤ 256
    · rw [if_pos h256, e1]
      simp only [Option.bind_some]
      rw [if_neg (by omega)]
      refine ⟨_, _, _, rfl, ?_, ?_, by omega, c1, d1⟩
      · rw [tmod_nonneg a1 (by omega)]; exact Int.emod_nonneg _ (by omega)
      · intro hp; rw [tmod_nonneg a1 (by omega)]; exact Int.emod_lt_of_pos _ hp
    · rw [if_neg h256, e1]
      simp only [Option.bind_some]
      obtain ⟨y, i2, g2, e2, a2, b2, c2, d2⟩ := l01Byte_ends l hl i1 g1 c1 d1
      rw [e2]; simp only [Option.bind_some]
      obtain ⟨z, i3, g3, e3, a3, b3, c3, d3⟩ := l01Byte_ends l hl i2 g2 c2 d2
      rw [e3]; simp only [Option.bind_some]
      obtain ⟨t, i4, g4, e4, a4, b4, c4, d4⟩ := l01Byte_ends l hl i3 g3 c3 d3
      rw [e4]; simp only [Option.bind_some]
      rw [if_neg (by omega)]
      have hnn : 0 ≤ wrap64 ((wrap64 ((wrap64 ((wrap64 (x * 16777216)) + (wrap64 (y * 65536)))) + (wrap64 (z * 256)))) + t) := by unfold wrap64; omega
      refine ⟨_, _, _, rfl, ?_, ?_, by omega, c4, d4⟩
      · rw [tmod_nonneg hnn (by omega)]; exact Int.emod_nonneg _ (by omega)
      · intro hp; rw [tmod_nonneg hnn (by omega)]; exact Int.emod_lt_of_pos _ hp
theorem l01New_ends (l : List Int) (hl : l.length ≤ 9223372036854775806) : ∃ h, Ev (fun k => spec_l01New.f k l) (l, 0, h) := by
  have key : ∀ (d i : Nat) (h : Int), i + d = l.length → ∃ h', Ev (fun k => spec_l01New.l0 k l h (i : Int)) (l, 0, h') := by
    intro d
    induction d with
    | zero =>
      intro i h hi
      refine ⟨h, 1, fun n hn => ?_⟩
      obtain ⟨m, rfl⟩ : ∃ m, n = m + 1 := ⟨n - 1, by omega⟩
      show spec_l01New.l0 (m + 1) _ _ _ = _
      simp only [spec_l01New.l0]
      rw [if_neg (by omega)]
    | succ d ih =>
      intro i h hi
      by_cases h4 : (i : Int) < 4000
      · obtain ⟨h', he⟩ := ih (i + 1) (Go.bits .and .i64 (wrap64 ((wrap64 ((wrap64 (h * 131)) + (wrap64 (rd l (i : Int))))) + 7)) 1073741823) (by omega)
        refine ⟨h', Ev.step (fun k => ?_) he⟩
        show spec_l01New.l0 (k + 1) _ _ _ = _
        simp only [spec_l01New.l0]
        rw [if_pos (by omega), if_pos h4, if_pos (by omega), show wrap64 ((i : Int) + 1) = ((i + 1 : Nat) : Int) from by unfold wrap64; omega]
      · refine ⟨h, 1, fun n hn => ?_⟩
        obtain ⟨m, rfl⟩ : ∃ m, n = m + 1 := ⟨n - 1, by omega⟩
        show spec_l01New.l0 (m + 1) _ _ _ = _
        simp only [spec_l01New.l0]
        rw [if_pos (by omega), if_neg h4]
  obtain ⟨h', he⟩ := key l.length 0 (wrap64 (10901 + (l.length : Int))) (by omega)
  exact ⟨h', he⟩
theorem l01PickInt_ends (l : List Int) (hl : l.length ≤ 9223372036854775806) (i h : Int) (l1 : List Int) (h0 : 0 ≤ i) (h1 : i ≤ l.length) (hp : 0 < l1.length) :
    ∃ j i' h', spec_l01PickInt.f l i h l1 = some (rd l1 j, i', h') ∧ 0 ≤ j ∧ j < l1.length ∧ 0 ≤ i' ∧ i' ≤ l.length := by
  unfold spec_l01PickInt.f
  obtain ⟨x, i1, g1, e1, a1, b1, _, c1, d1⟩ := l01Below_ends l hl i h (l1.length : Int) h0 h1
  rw [e1]; simp only [Option.bind_some]
  rw [if_pos a1, if_pos (b1 (by omega))]
  exact ⟨x, _, _, rfl, a1, b1 (by omega), c1, d1⟩
theorem once_ends (l : List Int) (hl : l.length ≤ 9223372036854775806) (i h n : Int) (h0 : 0 ≤ i) (h1 : i ≤ l.length) :
    ∃ b i' h', spec_l01Once.f l i h n = some (b, i', h') ∧ 0 ≤ i' ∧ i' ≤ l.length := by
  obtain ⟨x, i1, g1, e1, a1, b1, _, c1, d1⟩ := l01Below_ends l hl i h n h0 h1
  unfold spec_l01Once.f
  rw [e1]
  exact ⟨_, _, _, rfl, c1, d1⟩
theorem place_ends (l : List Int) (hl : l.length ≤ 9223372036854775806) (i h n : Int) (h0 : 0 ≤ i) (h1 : i ≤ l.length) :
    ∃ x i' h', spec_l01Place.f l i h n = some (x, i', h') ∧ 0 ≤ i' ∧ i' ≤ l.length := by
  obtain ⟨b, i1, g1, e1, c1, d1⟩ := once_ends l hl i h 15 h0 h1
  unfold spec_l01Place.f
  rw [e1]
  simp only [Option.bind_some]
  cases b with
  | true =>
    rw [if_pos rfl]
    obtain ⟨j, i2, g2, e2, _, _, c2, d2⟩ := l01PickInt_ends l hl i1 g1 [(-1), n, wrap64 (n + 1), 9223372036854775807, (-9223372036854775808)] c1 d1 (by simp)
    rw [e2]
    exact ⟨_, _, _, rfl, c2, d2⟩
  | false =>
    rw [if_neg (by decide)]
    obtain ⟨x, i2, g2, e2, _, _, _, c2, d2⟩ := l01Below_ends l hl i1 g1 n c1 d1
    rw [e2]
    exact ⟨_, _, _, rfl, c2, d2⟩
def FewS (n : Nat) (l : List SlotW) : Prop := l.length ≤ n ∧ ∀ x ∈ l, x.f1.length ≤ 5
theorem FewS.snoc {n : Nat} {l : List SlotW} (h : FewS n l) (x : SlotW) (hx : x.f1.length ≤ 5) : FewS (n + 1) (l ++ [x]) := by
  refine ⟨by have := h.1; simp only [List.length_append, List.length_cons, List.length_nil]; omega, fun y hy => ?_⟩
  rcases List.mem_append.1 hy with hy | hy
  · exact h.2 y hy
  · rw [List.mem_singleton] at hy; subst hy; exact hx
theorem FewS.set {n : Nat} {l : List SlotW} (h : FewS n l) (i : Nat) (x : SlotW) (hx : x.f1.length ≤ 5) : FewS n (l.set i x) := by
  refine ⟨by rw [List.length_set]; exact h.1, fun y hy => ?_⟩
  rcases List.mem_or_eq_of_mem_set hy with hy | rfl
  · exact h.2 y hy
  · exact hx
theorem FewS.small {n : Nat} {l : List SlotW} (h : FewS n l) (hn : n ≤ 1048576) : SmallW l := ⟨by have := h.1; omega, fun x hx => by have := h.2 x hx; omega⟩
theorem FewS.le {n m : Nat} {l : List SlotW} (h : FewS n l) (hn : n ≤ m) : FewS m l := ⟨by have := h.1; omega, h.2⟩
theorem fill_ends (l : List Int) (hl : l.length ≤ 9223372036854775806) : ∀ (d : Nat) (out : List SlotW) (j h : Int), out.length + d = 17 → FewS 17 out → 0 ≤ j → j ≤ l.length →
    ∃ out' j' h', Ev (fun k => spec_l07Slots.l1 k out l j h) (out', j', h') ∧ FewS 17 out' ∧ 0 ≤ j' ∧ j' ≤ l.length := by
  intro d
  induction d with
  | zero =>
    intro out j h hd hs h0 h1
    obtain ⟨x, i1, g1, e1, a1, b1, _, c1, d1⟩ := l01Below_ends l hl j h 2 h0 h1
    have hx := b1 (by omega)
    refine ⟨out, i1, g1, Ev.of_succ (fun k => ?_), hs, c1, d1⟩
    simp only [spec_l07Slots.l1]
    rw [e1]
    simp only [Option.bind_some]
    rw [wrap64_id (n := 16 + x) (by omega) (by omega), if_neg (by omega)]
  | succ d ih =>
    intro out j h hd hs h0 h1
    obtain ⟨x, i1, g1, e1, a1, b1, _, c1, d1⟩ := l01Below_ends l hl j h 2 h0 h1
    have hx := b1 (by omega)
    by_cases hlt : (out.length : Int) < 16 + x
    · obtain ⟨out', j', h', he, hr⟩ := ih (out ++ [⟨0, []⟩]) i1 g1 (by simp only [List.length_append, List.length_cons, List.length_nil]; omega) ⟨by simp only [List.length_append, List.length_cons, List.length_nil]; omega, (hs.snoc ⟨0, []⟩ (by decide)).2⟩ c1 d1
      refine ⟨out', j', h', Ev.step (fun k => ?_) he, hr⟩
      simp only [spec_l07Slots.l1]
      rw [e1]
      simp only [Option.bind_some]
      rw [wrap64_id (n := 16 + x) (by omega) (by omega), if_pos hlt, if_pos (by omega)]
    · refine ⟨out, i1, g1, Ev.of_succ (fun k => ?_), hs, c1, d1⟩
      simp only [spec_l07Slots.l1]
      rw [e1]
      simp only [Option.bind_some]
      rw [wrap64_id (n := 16 + x) (by omega) (by omega), if_neg hlt]
def slotTail (k : Nat) (x3 : List SlotW) (l : List Int) (j h : Int) : Option (List SlotW × Int × Int) := (if (x3.length : Int) = 0 then (some (x3, j, h)) else ((spec_l01Below.f l j h (x3.length : Int)).bind fun bt597 => ((spec_l01Below.f l bt597.2.1 bt597.2.2 24).bind fun bt600 => (if bt600.1 = 0 then ((spec_l01PickInt.f l bt600.2.1 bt600.2.2 (([(-1), 0, 64, 65] : List Int))).bind fun bt606 => (if 0 ≤ bt597.1 then (if bt597.1 < (x3.length : Int) then (some ((x3.set (bt597.1 : Int).toNat (⟨bt606.1, (rd_T62 x3 bt597.1).f1⟩ : SlotW)), bt606.2.1, bt606.2.2)) else (none)) else (none))) else (if bt600.1 = 1 then (if 0 ≤ bt597.1 then (if bt597.1 < (x3.length : Int) then (if ((rd_T62 x3 bt597.1).f1).length < 17592186044416 then (some ((x3.set (bt597.1 : Int).toNat (⟨(rd_T62 x3 bt597.1).f0, (((rd_T62 x3 bt597.1).f1) ++ [1])⟩ : SlotW)), bt600.2.1, bt600.2.2)) else (none)) else (none)) else (none)) else (if bt600.1 = 2 then (spec_l07Slots.l1 k x3 l bt600.2.1 bt600.2.2) else (if bt600.1 = 3 then (if 0 ≤ bt597.1 then (if bt597.1 < (x3.length : Int) then (some ((x3.set (bt597.1 : Int).toNat (⟨64, (([1, 2, 3, 4] : List Int))⟩ : SlotW)), bt600.2.1, bt600.2.2)) else (none)) else (none)) else (some (x3, bt600.2.1, bt600.2.2)))))))))
theorem tail_ends (l : List Int) (hl : l.length ≤ 9223372036854775806) (x3 : List SlotW) (hs : x3.length ≤ 5 ∧ ∀ x ∈ x3, x.f1.length ≤ 4) (j h : Int) (h0 : 0 ≤ j) (h1 : j ≤ l.length) :
    ∃ out' j' h', Ev (fun k => slotTail k x3 l j h) (out', j', h') ∧ FewS 17 out' ∧ 0 ≤ j' ∧ j' ≤ l.length := by
  have hF : FewS 17 x3 := ⟨by omega, fun x hx => by have := hs.2 x hx; omega⟩
  unfold slotTail
  by_cases hz : (x3.length : Int) = 0
  · simp only [if_pos hz]
    exact ⟨x3, j, h, Ev.now _, hF, h0, h1⟩
  · simp only [if_neg hz]
    obtain ⟨x, i1, g1, e1, a1, b1, _, c1, d1⟩ := l01Below_ends l hl j h (x3.length : Int) h0 h1
    have hx := b1 (by omega)
    obtain ⟨y, i2, g2, e2, a2, b2, _, c2, d2⟩ := l01Below_ends l hl i1 g1 24 c1 d1
    have hr : (rd_T62 x3 x).f1.length ≤ 4 := by
      have : rd_T62 x3 x = x3.getD x.toNat zsw := rfl
      rw [this]
      exact hs.2 _ (mem_getD (by omega) _)
    simp only [e1, e2, Option.bind_some]
    by_cases h2 : y = 0
    · simp only [if_pos h2]
      obtain ⟨q, i3, g3, e3, _, _, c3, d3⟩ := l01PickInt_ends l hl i2 g2 [(-1), 0, 64, 65] c2 d2 (by decide)
      simp only [e3, Option.bind_some, if_pos a1, if_pos hx]
      exact ⟨_, _, _, Ev.now _, hF.set _ _ (by show (rd_T62 x3 x).f1.length ≤ 5; omega), c3, d3⟩
    simp only [if_neg h2]
    by_cases h3 : y = 1
    · simp only [if_pos h3, if_pos a1, if_pos hx, if_pos (show (rd_T62 x3 x).f1.length < 17592186044416 by omega)]
      exact ⟨_, _, _, Ev.now _, hF.set _ _ (by simp only [List.length_append, List.length_cons, List.length_nil]; omega), c2, d2⟩
    simp only [if_neg h3]
    by_cases h4 : y = 2
    · simp only [if_pos h4]
      exact fill_ends l hl (17 - x3.length) x3 i2 g2 (by omega) hF c2 d2
    simp only [if_neg h4]
    by_cases h5 : y = 3
    · simp only [if_pos h5, if_pos a1, if_pos hx]
      exact ⟨_, _, _, Ev.now _, hF.set _ _ (by decide), c2, d2⟩
    · simp only [if_neg h5]
      exact ⟨_, _, _, Ev.now _, hF, c2, d2⟩
theorem l07Slots_ends (l : List Int) (hl : l.length ≤ 9223372036854775806) : ∀ (d : Nat) (i : Int) (x3 : List SlotW) (j h : Int), i + d = 5 → 0 ≤ i → (x3.length : Int) = i → (∀ x ∈ x3, x.f1.length ≤ 4) → 0 ≤ j → j ≤ l.length →
    ∃ out' j' h', Ev (fun k => spec_l07Slots.l0 k x3 i l j h) (out', j', h') ∧ FewS 17 out' ∧ 0 ≤ j' ∧ j' ≤ l.length := by
  intro d
  induction d with
  | zero =>
    intro i x3 j h hd hi hlen hw h0 h1
    obtain ⟨x, i1, g1, e1, a1, b1, _, c1, d1⟩ := l01Below_ends l hl j h 6 h0 h1
    have hx := b1 (by omega)
    obtain ⟨o, j', h', he, hr⟩ := tail_ends l hl x3 ⟨by omega, hw⟩ i1 g1 c1 d1
    refine ⟨o, j', h', Ev.step (fun k => ?_) he, hr⟩
    simp only [spec_l07Slots.l0]
    rw [e1]
    simp only [Option.bind_some]
    rw [if_neg (by omega)]
    rfl
  | succ d ih =>
    intro i x3 j h hd hi hlen hw h0 h1
    obtain ⟨x, i1, g1, e1, a1, b1, _, c1, d1⟩ := l01Below_ends l hl j h 6 h0 h1
    have hx := b1 (by omega)
    by_cases hlt : i < x
    · obtain ⟨y, i2, g2, e2, a2, b2, _, c2, d2⟩ := l01Below_ends l hl i1 g1 3 c1 d1
      have hsn : ∀ z : SlotW, z.f1.length ≤ 4 → ∀ x ∈ x3 ++ [z], x.f1.length ≤ 4 := fun z hz x hx => by
        rcases List.mem_append.1 hx with hx | hx
        · exact hw x hx
        · rw [List.mem_singleton] at hx; subst hx; exact hz
      by_cases hy : y > 0
      · obtain ⟨u, i3, g3, e3, a3, b3, _, c3, d3⟩ := l01Below_ends l hl i2 g2 9 c2 d2
        obtain ⟨v, i4, g4, e4, a4, b4, _, c4, d4⟩ := l01Below_ends l hl i3 g3 9 c3 d3
        obtain ⟨o, j', h', he, hr⟩ := ih (i + 1) (x3 ++ [⟨y, [u, v, 0, 1]⟩]) i4 g4 (by omega) (by omega) (by simp only [List.length_append, List.length_cons, List.length_nil]; omega) (hsn ⟨y, [u, v, 0, 1]⟩ (Nat.le_refl 4)) c4 d4
        refine ⟨o, j', h', Ev.step (fun k => ?_) he, hr⟩
        simp only [spec_l07Slots.l0]
        rw [e1]
        simp only [Option.bind_some]
        rw [if_pos hlt, e2]
        simp only [Option.bind_some]
        rw [if_pos hy, e3]
        simp only [Option.bind_some]
        rw [e4]
        simp only [Option.bind_some]
        rw [if_pos (by omega), wrap64_id (n := i + 1) (by omega) (by omega)]
      · obtain ⟨o, j', h', he, hr⟩ := ih (i + 1) (x3 ++ [⟨y, []⟩]) i2 g2 (by omega) (by omega) (by simp only [List.length_append, List.length_cons, List.length_nil]; omega) (hsn ⟨y, []⟩ (Nat.zero_le 4)) c2 d2
        refine ⟨o, j', h', Ev.step (fun k => ?_) he, hr⟩
        simp only [spec_l07Slots.l0]
        rw [e1]
        simp only [Option.bind_some]
        rw [if_pos hlt, e2]
        simp only [Option.bind_some]
        rw [if_neg hy, if_pos (by omega), wrap64_id (n := i + 1) (by omega) (by omega)]
    · obtain ⟨o, j', h', he, hr⟩ := tail_ends l hl x3 ⟨by omega, hw⟩ i1 g1 c1 d1
      refine ⟨o, j', h', Ev.step (fun k => ?_) he, hr⟩
      simp only [spec_l07Slots.l0]
      rw [e1]
      simp only [Option.bind_some]
      rw [if_neg hlt]
      rfl
theorem drawPut_ends (l : List Int) (hl : l.length ≤ 9223372036854775806) : ∃ L W n, Ev (fun k => spec_DrawPutAside.f k l) (L, W, n) ∧ SmallW L ∧ (W.length = 4 → ∃ x, W = [1, 2, 3, x]) := by
  obtain ⟨g0, e0⟩ := l01New_ends l hl
  obtain ⟨L, i1, g1, he, hs, c1, d1⟩ := l07Slots_ends l hl 5 0 [] 0 g0 (by omega) (by omega) rfl (fun x hx => by cases hx) (by omega) (by omega)
  obtain ⟨x, i2, g2, e2, c2, d2⟩ := place_ends l hl i1 g1 100001 c1 d1
  obtain ⟨b, i3, g3, e3, c3, d3⟩ := once_ends l hl i2 g2 20 c2 d2
  obtain ⟨q, i4, g4, e4, _, _, c4, d4⟩ := l01PickInt_ends l hl i3 g3 [1, 2, 3, 64, 65, 0, (-1)] c3 d3 (by decide)
  cases b with
  | true =>
    refine ⟨L, [2, 3, x], rd [1, 2, 3, 64, 65, 0, (-1)] q, ?_, hs.small (by omega), fun h => by simp at h⟩
    unfold spec_DrawPutAside.f
    refine Ev.bind e0 ?_
    unfold spec_l07Slots.f
    refine Ev.bind he ?_
    simp only [e2, e3, e4, Option.bind_some, if_true, if_pos (show (1 : Int) ≤ (([1, 2, 3, x] : List Int).length : Int) by simp)]
    exact Ev.now _
  | false =>
    refine ⟨L, [1, 2, 3, x], rd [1, 2, 3, 64, 65, 0, (-1)] q, ?_, hs.small (by omega), fun _ => ⟨x, rfl⟩⟩
    unfold spec_DrawPutAside.f
    refine Ev.bind e0 ?_
    unfold spec_l07Slots.f
    refine Ev.bind he ?_
    simp only [e2, e3, e4, Option.bind_some, Bool.false_eq_true, if_false]
    exact Ev.now _

theorem sameInts_refl (l : List Int) (hl : l.length ≤ 1048576) : Ev (fun k => laws_sameInts.f k l l) true := by
  have key := ev_all0 (fun k i => laws_sameInts.l0 k l l (i : Int)) l.length (fun _ => true) false true (by
    intro i hi _ r h
    refine Ev.step (fun k => ?_) h
    simp only [laws_sameInts.l0]
    rw [if_pos (by omega), if_pos (by omega), if_pos (by omega), if_pos trivial, wrap_succ (by omega)]) (by intro i _ h; cases h) (by
    refine Ev.of_succ (fun k => ?_)
    simp only [laws_sameInts.l0]
    rw [if_neg (by omega)])
  rw [if_pos (by simp)] at key
  refine Ev.congr (fun k => ?_) key
  unfold laws_sameInts.f
  rw [if_pos rfl]
  rfl
theorem emp_at : ∀ (l : List SlotW) (i : Nat), 0 ≤ emp l i → (l.getD (emp l i - i).toNat zsw).f0 = 0 := by
  intro l
  induction l with
  | nil => intro i h; simp [emp] at h
  | cons s l ih =>
    intro i h
    unfold emp at h ⊢
    by_cases h0 : s.f0 = 0
    · rw [if_pos h0, show ((i : Int) - i).toNat = 0 by omega]; exact h0
    · rw [if_neg h0] at h ⊢
      have hb := emp_bd l (i + 1)
      have := ih (i + 1) h
      obtain ⟨m, hm⟩ : ∃ m : Nat, emp l (i + 1) - (i : Int) = (m : Int) + 1 := ⟨(emp l (i + 1) - (i : Int) - 1).toNat, by omega⟩
      rw [show (emp l (i + 1) - (i : Int)).toNat = (emp l (i + 1) - ((i + 1 : Nat) : Int)).toNat + 1 by omega, List.getD_cons_succ]
      exact this
theorem slotB_of (c : Int) (W : List Int) (hc : 1 ≤ c ∧ c ≤ 64) (hw : rowB W = true) : slotB ⟨c, W⟩ = true := by
  unfold slotB
  rw [if_neg (show ¬ c = 0 by omega), decide_eq_true hc, hw]
  rfl
theorem small_of {l : List SlotW} (h : slotsB l = true) : SmallW l := by
  have h2 := slotsB_small h
  exact ⟨by omega, fun x hx => by have := h2.2 x hx; omega⟩
theorem set_back (L : List SlotW) (n : Nat) (h : n < L.length) (x : SlotW) (hx : L.getD n zsw = x) : L.set n x = L := by
  refine List.ext_getElem (by rw [List.length_set]) (fun i h1 h2 => ?_)
  rw [List.getElem_set]
  split
  · rename_i e; subst e; rw [← hx, List.getD_eq_getElem?_getD, List.getElem?_eq_getElem h]; rfl
  · rfl
theorem changed_at (L : List SlotW) (W : List Int) (hL : slotsB L = true) (hw : rowB W = true) (n : Nat) (h : n < L.length) (c b : Int) (hc : 1 ≤ c ∧ c ≤ 64) :
    changedB (L.set n ⟨c, W⟩) (n : Int) b = if c + b = 0 then (L.set n ⟨0, []⟩, true) else if c + b ≤ 64 then (L.set n ⟨c + b, W⟩, true) else ([], false) := by
  have hg : (L.set n ⟨c, W⟩).getD n zsw = ⟨c, W⟩ := get_setS h
  unfold changedB heldB
  rw [slotsB_set L n _ hL h, slotB_of c W hc hw]
  simp only [toNat_cast, List.length_set, hg, List.set_set]
  rw [decide_eq_true (show 0 ≤ (n : Int) ∧ (n : Int) ≤ (L.length : Int) - 1 by omega), decide_eq_true (show 0 < c by omega)]
  rfl
theorem core (L : List SlotW) (W : List Int) (hL : slotsB L = true) (hw : rowB W = true) (hWl : W.length ≤ 4) : Ev (fun k => laws_FnSlots.j1 k L W) true := by
  have hsm := small_of hL
  have e1 := impl_PutAside_ev L hsm W (by omega) 2
  have e2 := spec_PutAside_ev L hsm W (by omega) 2
  have e3 := impl_SlotsOk_ev L hsm
  have hb := emp_bd L 0
  have hput : ∀ c : Int, 1 ≤ c ∧ c ≤ 64 → putB L W c = if 0 ≤ emp L 0 then (L.set (emp L 0).toNat ⟨c, W⟩, emp L 0, true) else ([], 0, false) := fun c hc => by
    unfold putB resB
    rw [if_pos ⟨hL, by omega⟩, slotB_of c W hc hw]
    by_cases h : 0 ≤ emp L 0
    · rw [if_pos ⟨h, rfl⟩, if_pos h]
    · rw [if_neg (fun x => h x.1), if_neg h]
  rw [hput 2 (by omega)] at e1 e2
  by_cases h : 0 ≤ emp L 0
  · have hat := emp_at L 0 h
    have he1 := hput 1 (by omega)
    rw [if_pos h] at e1 e2 he1
    obtain ⟨n, hn⟩ : ∃ n : Nat, emp L 0 = (n : Int) := ⟨(emp L 0).toNat, by omega⟩
    rw [hn] at e1 e2 he1 hat
    rw [hn] at hb
    simp only [toNat_cast] at e1 e2 he1
    rw [show ((n : Int) - ((0 : Nat) : Int)).toNat = n by omega] at hat
    have hlt : n < L.length := by omega
    have hz : L.getD n zsw = ⟨0, []⟩ := by
      have h1 := slotsB_at hL hlt
      unfold slotB at h1
      rw [if_pos hat] at h1
      have h2 := List.length_eq_zero_iff.1 (of_decide_eq_true h1)
      generalize L.getD n zsw = x at *
      cases x
      simp only at hat h2
      rw [hat, h2]
    have hback : L.set n ⟨0, []⟩ = L := set_back L n hlt _ hz
    have hsl : ∀ c : Int, 1 ≤ c ∧ c ≤ 64 → SmallW (L.set n ⟨c, W⟩) := fun c hc => small_of (by rw [slotsB_set L n _ hL hlt]; exact slotB_of c W hc hw)
    have m1 := impl_MoreOf_ev (L.set n ⟨2, W⟩) (hsl 2 (by omega)) (n : Int)
    have m2 := impl_LessOf_ev (L.set n ⟨3, W⟩) (hsl 3 (by omega)) (n : Int)
    have m3 := impl_LessOf_ev (L.set n ⟨2, W⟩) (hsl 2 (by omega)) (n : Int)
    have m4 := impl_LessOf_ev (L.set n ⟨1, W⟩) (hsl 1 (by omega)) (n : Int)
    have m5 := impl_LessOf_ev L hsm (n : Int)
    have m6 := impl_PutAside_ev L hsm W (by omega) 1
    rw [changed_at L W hL hw n hlt 2 1 (by omega), if_neg (by omega), if_pos (by omega)] at m1
    rw [changed_at L W hL hw n hlt 3 (-1) (by omega), if_neg (by omega), if_pos (by omega)] at m2
    rw [changed_at L W hL hw n hlt 2 (-1) (by omega), if_neg (by omega), if_pos (by omega)] at m3
    rw [changed_at L W hL hw n hlt 1 (-1) (by omega), if_pos (by omega), hback] at m4
    rw [he1] at m6
    have hno : changedB L (n : Int) (-1) = ([], false) := by
      unfold changedB heldB
      rw [toNat_cast, hz]
      simp
    rw [hno] at m5
    have hg : ∀ c : Int, (L.set n ⟨c, W⟩).getD n zsw = ⟨c, W⟩ := fun c => get_setS hlt
    refine Ev.step (fun k => by rw [laws_FnSlots.j1]) (Ev.bind e1 (Ev.bind e2 ?_))
    simp only [bne_self_eq_false, Bool.false_eq_true, if_false]
    refine Ev.bind e3 ?_
    rw [hL]
    refine Ev.step (fun k => by rw [laws_FnSlots.j2]) ?_
    simp only [Bool.not_true, Bool.false_eq_true, if_false, if_true]
    refine Ev.bind m1 (Ev.bind m2 (Ev.bind m3 (Ev.bind m4 (Ev.bind m5 (Ev.bind m6 ?_)))))
    simp only [Bool.false_eq_true, if_false, if_true, List.length_set, if_pos (show (0 : Int) ≤ (n : Int) by omega), if_pos (show (n : Int) < (L.length : Int) by omega), rdSW, hg, hz]
    simp only [show (2 : Int) + 1 = 3 from rfl, show (3 : Int) + -1 = 2 from rfl, show (2 : Int) + -1 = 1 from rfl, if_true, hg]
    refine Ev.bind (sameInts_refl W (by omega)) ?_
    simp only [if_true, List.length_nil]
    exact Ev.now true
  · rw [if_neg h] at e1 e2
    refine Ev.step (fun k => by rw [laws_FnSlots.j1]) (Ev.bind e1 (Ev.bind e2 ?_))
    simp only [bne_self_eq_false, Bool.false_eq_true, if_false]
    refine Ev.bind e3 ?_
    rw [hL]
    refine Ev.step (fun k => by rw [laws_FnSlots.j2]) ?_
    simp only [Bool.not_true, Bool.false_eq_true, if_false]
    exact Ev.now true
theorem FnSlots (l0 : List Int) (g0 : (l0.length ≤ maxLen ∧ ∀ y0 ∈ l0, (Lit.int .u8 y0).wf = true)) : ∃ k, laws_FnSlots.f k l0 = some true := by
  by_cases hbig : (l0.length : Int) > 1048576
  · refine ⟨0, ?_⟩
    unfold laws_FnSlots.f laws_big.f
    simp [hbig]
  · have hl : l0.length ≤ 9223372036854775806 := by omega
    obtain ⟨L, W, q, hd, hsm, hW⟩ := drawPut_ends l0 hl
    refine Ev.rounds (g := fun k => laws_FnSlots.f k l0) ?_
    have other : Ev (fun k => laws_FnSlots.j0 k L W true) true := by
      refine Ev.step (fun k => ?_) (core [⟨0, []⟩] [1, 2, 3, 4] (by decide) (by decide) (by decide))
      simp only [laws_FnSlots.j0, if_true]
    unfold laws_FnSlots.f laws_big.f
    simp only [Option.bind_some, decide_eq_true_eq, if_neg hbig]
    refine Ev.bind hd ?_
    refine Ev.bind (spec_SlotsOk_ev L hsm) ?_
    by_cases h1 : slotsB L = true
    · simp only [if_pos h1]
      by_cases h2 : (W.length : Int) = 4
      · obtain ⟨x, rfl⟩ := hW (by omega)
        simp only [if_pos h2, if_pos (show (3 : Int) < (([1, 2, 3, x] : List Int).length : Int) by simp), show rd [1, 2, 3, x] 3 = x from rfl]
        by_cases h3 : x < 0
        · simp only [if_pos h3]; exact other
        · simp only [if_neg h3]
          by_cases h4 : x > 100000
          · simp only [decide_eq_true h4]; exact other
          · simp only [decide_eq_false h4]
            refine Ev.step (fun k => ?_) (core L [1, 2, 3, x] h1 ?_ (by simp))
            · simp only [laws_FnSlots.j0, Bool.false_eq_true, if_false]
            · unfold rowB wordB
              simp
              omega
      · simp only [if_neg h2]; exact other
    · simp only [if_neg h1]; exact other

end Go.Proofs.Ytdpejnckojhgjaa.Pure
end
