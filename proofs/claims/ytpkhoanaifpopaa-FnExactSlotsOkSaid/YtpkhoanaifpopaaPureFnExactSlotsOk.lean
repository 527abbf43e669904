/- SlotsOk answers as the reference at all slots: the plain half. No condition. -/
import Derived.Test.YtpkhoanaifpopaaP0
import Derived.Test.YtpkhoanaifpopaaP3
import Derived.Test.YtpkhoanaifpopaaP11
import Derived.Test.YtpkhoanaifpopaaP32
import Derived.Test.YtpkhoanaifpopaaP37
import Derived.Test.YtpkhoanaifpopaaP39
import Derived.Test.YtpkhoanaifpopaaP43
import Derived.Test.YtpkhoanaifpopaaP64
import Derived.Test.YtpkhoanaifpopaaP65
import Derived.Test.YtpkhoanaifpopaaP66
import Derived.Test.YtpkhoanaifpopaaP67
import Derived.Test.YtpkhoanaifpopaaP68
import Derived.Test.YtpkhoanaifpopaaP69
import Derived.Test.YtpkhoanaifpopaaP70
import Derived.Test.YtpkhoanaifpopaaP71
import Derived.Test.YtpkhoanaifpopaaP72
import Derived.Test.YtpkhoanaifpopaaP73
import Derived.Test.YtpkhoanaifpopaaP74
import Derived.Test.YtpkhoanaifpopaaAid
namespace Go.Proofs.Ytpkhoanaifpopaa.Pure
open Go.RowKit Go.Proofs.Ytpkhoanaifpopaa.P Go.Proofs.YtpkhoanaifpopaaW.PrintWords Go.Proofs.YtpkhoanaifpopaaW.PrintLast Go.Proofs.YtpkhoanaifpopaaW.PrintMore Go.Proofs.Ytpkhoanaifpopaa.Aid
set_option linter.unusedVariables false
set_option linter.unusedSimpArgs false

theorem l01In_eq (a b c : Int) : spec_l01In.f a b c = some (decide (b ≤ a ∧ a ≤ c)) := in_dec a b c
theorem within_eq (a b c : Int) : impl_within.f a b c = some (decide (b ≤ a ∧ a ≤ c)) := in_dec a b c
theorem szIntS_eq (l : List Int) (hl : l.length ≤ maxLen) (a : Int) (h0 : 0 ≤ a) (h1 : a ≤ 1048576) : laws_szIntS.f l a = some (if (l.length : Int) ≤ a then a - l.length else -1) := by
  unfold maxLen at hl
  unfold laws_szIntS.f
  have e : wrap64 (a - (l.length : Int)) = a - l.length := by unfold wrap64; omega
  rw [e]
  by_cases h : (l.length : Int) ≤ a
  · rw [if_neg (by omega), if_pos h]
  · rw [if_pos (by omega), if_neg h]
theorem toIntS_ev (l : List Int) (hl : l.length ≤ 1048576) : Ev (fun k => laws_toIntS.f k l) l := by
  have key := ev_copy0 (fun k acc i => laws_toIntS.l0 k l acc (i : Int)) l.length (fun i => l.getD i 0) id (by
    intro i acc hi ha r h
    refine Ev.step (fun k => ?_) h
    simp only [laws_toIntS.l0]
    rw [if_pos (by omega), if_pos (by omega), if_pos (by omega), wrap_succ (by omega), toNat_cast]
    rfl) (by
    intro acc ha
    refine Ev.of_succ (fun k => ?_)
    simp only [laws_toIntS.l0]
    rw [if_neg (by omega)]
    rfl) (List.replicate l.length 0) (by simp)
  rw [range_map_getD] at key
  refine Ev.congr (fun k => ?_) key
  unfold laws_toIntS.f
  rw [if_pos (by omega), if_pos (by omega), toNat_cast]
  rfl
theorem eqIntS_refl (l : List Int) (hl : l.length ≤ 1048576) : Ev (fun k => laws_eqIntS.f k l l) true := by
  have key := ev_all0 (fun k i => laws_eqIntS.l0 k l l (i : Int)) l.length (fun _ => true) false true (by
    intro i hi _ r h
    refine Ev.step (fun k => ?_) h
    simp only [laws_eqIntS.l0]
    rw [if_pos (by omega), if_pos (by omega), if_pos (by omega), if_pos trivial, wrap_succ (by omega)]) (by intro i _ h; cases h) (by
    refine Ev.of_succ (fun k => ?_)
    simp only [laws_eqIntS.l0]
    rw [if_neg (by omega)])
  rw [if_pos (by simp)] at key
  refine Ev.congr (fun k => ?_) key
  unfold laws_eqIntS.f
  rw [if_pos rfl]
  rfl
theorem map_getD {α β : Type} (f : α → β) (l : List α) (d : α) : (List.range l.length).map (fun i => f (l.getD i d)) = l.map f := by
  rw [show (fun i => f (l.getD i d)) = f ∘ (fun i => l.getD i d) from rfl, ← List.map_map, range_map_getD]
abbrev SlotW := S113
abbrev SlotL := S112
abbrev zsl : SlotL := z112
abbrev zsw : SlotW := z113
def toSlot (r : SlotL) : SlotW := ⟨r.f0, r.f1⟩
theorem rdSL (l : List SlotL) (i : Nat) : rd_T112 l (i : Int) = l.getD i zsl := by unfold rd_T112; rw [toNat_cast]
theorem rdSW (l : List SlotW) (i : Nat) : rd_T113 l (i : Int) = l.getD i zsw := by unfold rd_T113; rw [toNat_cast]
theorem szSlot_eq (s : SlotL) (hl : s.f1.length ≤ maxLen) (a : Int) (h0 : 0 ≤ a) (h1 : a ≤ 1048576) : laws_szSlot.f s.f0 s.f1 a = some (if (s.f1.length : Int) ≤ a then (a - (s.f1.length : Int) : Int) else (-1 : Int)) := by
  unfold laws_szSlot.f
  rw [szIntS_eq _ hl a h0 h1]
  simp only [Option.bind_some]
  by_cases h : (s.f1.length : Int) ≤ a
  · rw [if_pos h, if_neg (by omega)]
  · rw [if_neg h, if_pos (by omega)]
theorem mem_getD {α : Type} {l : List α} {i : Nat} (h : i < l.length) (d : α) : l.getD i d ∈ l := by
  rw [List.getD_eq_getElem?_getD, List.getElem?_eq_getElem h]; exact List.getElem_mem h
def SmallS (l : List SlotL) : Prop := l.length ≤ 1048576 ∧ ∀ x ∈ l, x.f1.length ≤ 1048576
theorem szSlotS_ev (l : List SlotL) (hl : l.length ≤ maxLen) (hls : ∀ x ∈ l, x.f1.length ≤ maxLen) :
    ∃ r, Ev (fun k => laws_szSlotS.f k l 1048576) r ∧ (0 ≤ r → SmallS l ∧ (l.length : Int) + ((l.map (fun s => s.f1.length)).sum : Nat) ≤ 1048576) := by
  by_cases hlen : (l.length : Int) ≤ 1048576
  · obtain ⟨r, hr, hq⟩ := ev_sz (fun k b i => laws_szSlotS.l0 k l b (i : Int)) l.length (fun i => (l.getD i zsl).f1.length) (by
      intro i b hi h0 h1 hs r h
      refine Ev.step (fun k => ?_) h
      simp only [laws_szSlotS.l0]
      rw [if_pos (by omega), if_pos (by omega), rdSL, szSlot_eq _ (hls _ (mem_getD hi _)) b h0 h1, if_pos hs]
      simp only [Option.bind_some]
      rw [if_neg (by omega), wrap_succ (by simp only [maxLen] at hl; omega)]) (by
      intro i b hi h0 h1 hs
      refine Ev.of_succ (fun k => ?_)
      simp only [laws_szSlotS.l0]
      rw [if_pos (by omega), if_pos (by omega), rdSL, szSlot_eq _ (hls _ (mem_getD hi _)) b h0 h1, if_neg hs]
      simp only [Option.bind_some]
      rw [if_pos (by omega)]) (by
      intro b
      refine Ev.of_succ (fun k => ?_)
      simp only [laws_szSlotS.l0]
      rw [if_neg (by omega)]) (1048576 - (l.length : Int)) (by omega) (by omega)
    refine ⟨r, Ev.congr (fun k => ?_) hr, fun h => ?_⟩
    · unfold laws_szSlotS.f
      rw [sub_len (by omega) (by omega) hl, if_neg (by omega)]
      rfl
    · have := hq h
      refine ⟨⟨by omega, fun x hx => ?_⟩, ?_⟩
      · obtain ⟨i, hi, rfl⟩ := List.getElem_of_mem hx
        have h5 := sum_ge (fun i => (l.getD i zsl).f1.length) hi
        simp only [List.getD_eq_getElem?_getD, List.getElem?_eq_getElem hi, Option.getD_some] at h5
        simp only [List.getD_eq_getElem?_getD] at this
        omega
      · rw [map_getD (fun s : SlotL => s.f1.length) l zsl] at this
        omega
  · refine ⟨-1, Ev.const (fun k => ?_), fun h => by omega⟩
    unfold laws_szSlotS.f
    rw [sub_len (by omega) (by omega) hl, if_pos (by omega)]
theorem SmallS.at_ {l : List SlotL} (h : SmallS l) (i : Nat) : (l.getD i zsl).f1.length ≤ 1048576 := by
  by_cases hi : i < l.length
  · exact h.2 _ (mem_getD hi _)
  · rw [List.getD_eq_getElem?_getD, List.getElem?_eq_none (by omega)]; decide
theorem toSlotS_ev (l : List SlotL) (hl : SmallS l) : Ev (fun k => laws_toSlotS.f k l) (l.map toSlot) := by
  have h1 := hl.1
  have key := ev_copy0 (fun k acc i => laws_toSlotS.l0 k l acc (i : Int)) l.length (fun i => toSlot (l.getD i zsl)) id (by
    intro i acc hi ha r h
    refine Ev.step (f := fun k => (laws_toIntS.f k (l.getD i zsl).f1).bind fun t => laws_toSlotS.l0 k l (acc.set i (⟨(l.getD i zsl).f0, t⟩ : SlotW)) ((i + 1 : Nat) : Int)) (fun k => ?_) (Ev.bind (toIntS_ev _ (hl.at_ i)) h)
    simp only [laws_toSlotS.l0]
    rw [if_pos (by omega), if_pos (by omega), rdSL]
    unfold laws_toSlot.f
    rw [Option.bind_assoc]
    congr 1
    funext t
    simp only [Option.bind_some]
    rw [if_pos (by omega), wrap_succ (by omega), toNat_cast]) (by
    intro acc ha
    refine Ev.of_succ (fun k => ?_)
    simp only [laws_toSlotS.l0]
    rw [if_neg (by omega)]
    rfl) (List.replicate l.length zsw) (by simp)
  rw [map_getD toSlot l zsl] at key
  refine Ev.congr (fun k => ?_) key
  unfold laws_toSlotS.f
  rw [if_pos (by omega), if_pos (by omega), toNat_cast]
  rfl
def SmallW (l : List SlotW) : Prop := l.length ≤ 1048576 ∧ ∀ x ∈ l, x.f1.length ≤ 1048576
theorem SmallS.toW {l : List SlotL} (h : SmallS l) : SmallW (l.map toSlot) := by
  refine ⟨by simpa using h.1, fun x hx => ?_⟩
  obtain ⟨y, hy, rfl⟩ := List.mem_map.1 hx
  exact h.2 y hy
theorem SmallW.at_ {l : List SlotW} (h : SmallW l) (i : Nat) : (l.getD i zsw).f1.length ≤ 1048576 := by
  by_cases hi : i < l.length
  · exact h.2 _ (mem_getD hi _)
  · rw [List.getD_eq_getElem?_getD, List.getElem?_eq_none (by omega)]; decide
theorem eqSlotS_refl (l : List SlotW) (hl : SmallW l) : Ev (fun k => laws_eqSlotS.f k l l) true := by
  have h1 := hl.1
  have key := ev_all0 (fun k i => laws_eqSlotS.l0 k l l (i : Int)) l.length (fun _ => true) false true (by
    intro i hi _ r h
    refine Ev.step (f := fun k => (laws_eqIntS.f k (l.getD i zsw).f1 (l.getD i zsw).f1).bind fun t => (if t = true then (some true) else (some false)).bind fun t => if t = true then laws_eqSlotS.l0 k l l ((i + 1 : Nat) : Int) else some false) (fun k => ?_) (Ev.bind (eqIntS_refl _ (hl.at_ i)) (by simp only [if_true, Option.bind_some]; exact h))
    simp only [laws_eqSlotS.l0]
    rw [if_pos (by omega), if_pos (by omega), if_pos (by omega), rdSW]
    unfold laws_eqSlot.f
    rw [if_pos rfl, Option.bind_assoc, wrap_succ (by omega)]) (by intro i _ h; cases h) (by
    refine Ev.of_succ (fun k => ?_)
    simp only [laws_eqSlotS.l0]
    rw [if_neg (by omega)])
  rw [if_pos (by simp)] at key
  refine Ev.congr (fun k => ?_) key
  unfold laws_eqSlotS.f
  rw [if_pos rfl]
  rfl
def wordB (x : Int) : Bool := decide (0 ≤ x ∧ x ≤ 100000)
def rowB (r : List Int) : Bool := r.all wordB && decide (r.length = 4)
theorem wordsOk_ev (r : List Int) (hr : r.length ≤ 1048576) : Ev (fun k => impl_wordsOk.f k r) (rowB r) := by
  have key := ev_all0 (fun k i => impl_wordsOk.l0 k r r (r.length : Int) (i : Int)) r.length (fun i => wordB (r.getD i 0)) false (decide (r.length = 4)) (by
    intro i hi hb q h
    refine Ev.step (fun k => ?_) h
    simp only [impl_wordsOk.l0]
    rw [if_pos (by omega), if_pos (by omega), if_pos (by omega), within_eq]
    simp only [Option.bind_some]
    rw [if_pos (by unfold rd; rw [toNat_cast]; exact hb), wrap_succ (by omega)]) (by
    intro i hi hb
    refine Ev.of_succ (fun k => ?_)
    simp only [impl_wordsOk.l0]
    rw [if_pos (by omega), if_pos (by omega), if_pos (by omega), within_eq]
    simp only [Option.bind_some]
    rw [if_neg (by unfold rd; rw [toNat_cast]; unfold wordB at hb; rw [hb]; simp)]) (by
    refine Ev.of_succ (fun k => ?_)
    simp only [impl_wordsOk.l0]
    rw [if_neg (by omega)]
    congr 1
    by_cases h : r.length = 4
    · rw [decide_eq_true h, h]; rfl
    · rw [decide_eq_false h]; simp; omega)
  rw [range_all r 0 wordB] at key
  have e : (if r.all wordB = true then decide (r.length = 4) else false) = rowB r := by
    unfold rowB; cases r.all wordB <;> simp
  rw [e] at key
  exact key
theorem l07Words_ev (r : List Int) (hr : r.length ≤ 1048576) : Ev (fun k => spec_l07Words.f k r) (rowB r) := by
  by_cases h4 : r.length = 4
  · have key := ev_all0 (fun k i => spec_l07Words.l0 k r (i : Int)) r.length (fun i => wordB (r.getD i 0)) false true (by
      intro i hi hb q h
      refine Ev.step (fun k => ?_) h
      simp only [spec_l07Words.l0]
      rw [if_pos (by omega), if_pos (by omega), l01In_eq]
      simp only [Option.bind_some]
      rw [if_pos (by unfold rd; rw [toNat_cast]; exact hb), wrap_succ (by omega)]) (by
      intro i hi hb
      refine Ev.of_succ (fun k => ?_)
      simp only [spec_l07Words.l0]
      rw [if_pos (by omega), if_pos (by omega), l01In_eq]
      simp only [Option.bind_some]
      rw [if_neg (by unfold rd; rw [toNat_cast]; unfold wordB at hb; rw [hb]; simp)]) (by
      refine Ev.of_succ (fun k => ?_)
      simp only [spec_l07Words.l0]
      rw [if_neg (by omega)])
    rw [range_all r 0 wordB] at key
    have e : (if r.all wordB = true then true else false) = rowB r := by
      unfold rowB; rw [decide_eq_true h4]; cases r.all wordB <;> simp
    rw [e] at key
    refine Ev.congr (fun k => ?_) key
    unfold spec_l07Words.f
    rw [if_pos (by omega)]
    rfl
  · have e : rowB r = false := by unfold rowB; rw [decide_eq_false h4, Bool.and_false]
    rw [e]
    refine Ev.const (fun k => ?_)
    unfold spec_l07Words.f
    rw [if_neg (by omega)]
def slotB (s : SlotW) : Bool := if s.f0 = 0 then decide (s.f1.length = 0) else decide (1 ≤ s.f0 ∧ s.f0 ≤ 64) && rowB s.f1
def slotsB (l : List SlotW) : Bool := l.all slotB && decide (l.length ≤ 16)
theorem slotOk_ev (c : Int) (r : List Int) (hr : r.length ≤ 1048576) : Ev (fun k => impl_slotOk.f k c r) (slotB ⟨c, r⟩) := by
  unfold impl_slotOk.f slotB
  by_cases hc : c = 0
  · simp only [if_pos hc]
    have e : ((r.length : Int) == 0) = decide (r.length = 0) := by
      rw [Bool.eq_iff_iff]; simp
    rw [e]; exact Ev.now _
  · simp only [if_neg hc, within_eq, Option.bind_some]
    by_cases h : 1 ≤ c ∧ c ≤ 64
    · simp only [decide_eq_true h, if_true, Bool.true_and]
      exact Ev.bind (wordsOk_ev r hr) (Ev.now _)
    · simp only [decide_eq_false h, Bool.false_eq_true, if_false, Bool.false_and]; exact Ev.now _
theorem impl_SlotsOk_ev (l : List SlotW) (hl : SmallW l) : Ev (fun k => impl_SlotsOk.f k l) (slotsB l) := by
  have h1 := hl.1
  have key := ev_all0 (fun k i => impl_SlotsOk.l0 k l l (l.length : Int) (i : Int)) l.length (fun i => slotB (l.getD i zsw)) false (decide (l.length ≤ 16)) (by
    intro i hi hb q h
    refine Ev.step (f := fun k => (impl_slotOk.f k (l.getD i zsw).f0 (l.getD i zsw).f1).bind fun t => if t = true then impl_SlotsOk.l0 k l l (l.length : Int) ((i + 1 : Nat) : Int) else some false) (fun k => ?_) (Ev.bind (slotOk_ev _ _ (hl.at_ i)) (by simp only [show slotB ⟨(l.getD i zsw).f0, (l.getD i zsw).f1⟩ = true from hb, if_true]; exact h))
    simp only [impl_SlotsOk.l0]
    rw [if_pos (by omega), if_pos (by omega), if_pos (by omega), rdSW, wrap_succ (by omega)]) (by
    intro i hi hb
    refine Ev.step (f := fun k => (impl_slotOk.f k (l.getD i zsw).f0 (l.getD i zsw).f1).bind fun t => if t = true then impl_SlotsOk.l0 k l l (l.length : Int) ((i + 1 : Nat) : Int) else some false) (fun k => ?_) (Ev.bind (slotOk_ev _ _ (hl.at_ i)) (by simp only [show slotB ⟨(l.getD i zsw).f0, (l.getD i zsw).f1⟩ = false from hb, Bool.false_eq_true, if_false]; exact Ev.now _))
    simp only [impl_SlotsOk.l0]
    rw [if_pos (by omega), if_pos (by omega), if_pos (by omega), rdSW, wrap_succ (by omega)]) (by
    refine Ev.of_succ (fun k => ?_)
    simp only [impl_SlotsOk.l0]
    rw [if_neg (by omega)]
    congr 1
    by_cases h : l.length ≤ 16
    · rw [decide_eq_true h, decide_eq_true (by omega)]
    · rw [decide_eq_false h, decide_eq_false (by omega)])
  rw [range_all l zsw slotB] at key
  have e : (if l.all slotB = true then decide (l.length ≤ 16) else false) = slotsB l := by
    unfold slotsB; cases l.all slotB <;> simp
  rw [e] at key
  exact key
theorem spec_SlotsOk_ev (l : List SlotW) (hl : SmallW l) : Ev (fun k => spec_SlotsOk.f k l) (slotsB l) := by
  have h1 := hl.1
  by_cases h16 : (l.length : Int) > 16
  · have e : slotsB l = false := by unfold slotsB; rw [decide_eq_false (show ¬ l.length ≤ 16 by omega), Bool.and_false]
    rw [e]
    refine Ev.const (fun k => ?_)
    unfold spec_SlotsOk.f
    rw [if_pos h16]
  · have step : ∀ i, i < l.length → ∀ r, (slotB (l.getD i zsw) = true → Ev (fun k => spec_SlotsOk.l0 k l ((i + 1 : Nat) : Int)) r) → (slotB (l.getD i zsw) = false → r = false) → Ev (fun k => spec_SlotsOk.l0 k l (i : Int)) r := by
      intro i hi r hy hn
      have hw := l07Words_ev (l.getD i zsw).f1 (hl.at_ i)
      generalize hs : l.getD i zsw = s at *
      refine Ev.step (f := fun k => if decide (0 ≤ s.f0 ∧ s.f0 ≤ 64) = true then (if s.f0 = 0 then (if (s.f1.length : Int) > 0 then some false else (if s.f0 > 0 then (spec_l07Words.f k s.f1).bind fun t => if t = true then spec_SlotsOk.l0 k l ((i + 1 : Nat) : Int) else some false else spec_SlotsOk.l0 k l ((i + 1 : Nat) : Int))) else (if s.f0 > 0 then (spec_l07Words.f k s.f1).bind fun t => if t = true then spec_SlotsOk.l0 k l ((i + 1 : Nat) : Int) else some false else spec_SlotsOk.l0 k l ((i + 1 : Nat) : Int))) else some false) (fun k => ?_) ?_
      · simp only [spec_SlotsOk.l0]
        rw [if_pos (by omega), if_pos (by omega), rdSW, hs, l01In_eq, wrap_succ (by omega)]
        rfl
      · unfold slotB at hy hn
        by_cases h64 : 0 ≤ s.f0 ∧ s.f0 ≤ 64
        · simp only [decide_eq_true h64, if_true]
          by_cases h0 : s.f0 = 0
          · simp only [if_pos h0] at hy hn ⊢
            by_cases hl0 : s.f1.length = 0
            · simp only [if_neg (show ¬ (s.f1.length : Int) > 0 by omega), if_neg (show ¬ s.f0 > 0 by omega)]
              exact hy (by simpa using hl0)
            · simp only [if_pos (show (s.f1.length : Int) > 0 by omega)]
              rw [hn (by simpa using hl0)]; exact Ev.now _
          · simp only [if_neg h0] at hy hn ⊢
            simp only [if_pos (show s.f0 > 0 by omega)]
            rw [decide_eq_true (show 1 ≤ s.f0 ∧ s.f0 ≤ 64 by omega), Bool.true_and] at hy hn
            refine Ev.bind hw ?_
            cases hb : rowB s.f1 with
            | true => simp only [if_true]; exact hy hb
            | false => simp only [Bool.false_eq_true, if_false]; rw [hn hb]; exact Ev.now _
        · simp only [decide_eq_false h64, Bool.false_eq_true, if_false]
          have : r = false := hn (by rw [if_neg (by omega), decide_eq_false (by omega), Bool.false_and])
          rw [this]; exact Ev.now _
    have key := ev_all0 (fun k i => spec_SlotsOk.l0 k l (i : Int)) l.length (fun i => slotB (l.getD i zsw)) false true (by
      intro i hi hb q h
      exact step i hi q (fun _ => h) (fun hf => by rw [show slotB (l.getD i zsw) = true from hb] at hf; cases hf)) (by
      intro i hi hb
      exact step i hi false (fun hf => by rw [show slotB (l.getD i zsw) = false from hb] at hf; cases hf) (fun _ => rfl)) (by
      refine Ev.of_succ (fun k => ?_)
      simp only [spec_SlotsOk.l0]
      rw [if_neg (by omega)])
    rw [range_all l zsw slotB] at key
    have e : (if l.all slotB = true then true else false) = slotsB l := by
      unfold slotsB; rw [decide_eq_true (show l.length ≤ 16 by omega)]; cases l.all slotB <;> simp
    rw [e] at key
    refine Ev.congr (fun k => ?_) key
    unfold spec_SlotsOk.f
    rw [if_neg h16]
    rfl

theorem FnExactSlotsOk (l0 : List S112) (g0 : (l0.length ≤ maxLen ∧ ∀ y0 ∈ l0, ((Lit.int .i64 y0.f0).wf = true ∧ (y0.f1.length ≤ maxLen ∧ ∀ y1 ∈ y0.f1, (Lit.int .i64 y1).wf = true)))) : ∃ k, laws_FnExactSlotsOk.f k l0 = some true := by
  obtain ⟨r, hr, hs⟩ := szSlotS_ev l0 g0.1 (fun x hx => (g0.2 x hx).2.1)
  refine Ev.rounds (g := fun k => laws_FnExactSlotsOk.f k l0) ?_
  unfold laws_FnExactSlotsOk.f
  refine Ev.bind hr ?_
  by_cases h0 : r < 0
  · simp only [if_pos h0]; exact Ev.now true
  · have hl := (hs (by omega)).1
    have hw := hl.toW
    simp only [if_neg h0]
    refine Ev.bind (toSlotS_ev l0 hl) ?_
    refine Ev.bind (spec_SlotsOk_ev _ hw) ?_
    refine Ev.bind (toSlotS_ev l0 hl) ?_
    refine Ev.bind (impl_SlotsOk_ev _ hw) ?_
    simp only [bne_self_eq_false, Bool.false_eq_true, if_false]
    refine Ev.bind (toSlotS_ev l0 hl) ?_
    refine Ev.bind (eqSlotS_refl _ hw) ?_
    simp only [if_true]
    exact Ev.now true

end Go.Proofs.Ytpkhoanaifpopaa.Pure
