/- MemoryOk answers as the reference at every memory: the plain half. No condition. -/
import Derived.Test.YtjankmemilanhaaP0
import Derived.Test.YtjankmemilanhaaP3
import Derived.Test.YtjankmemilanhaaP5
import Derived.Test.YtjankmemilanhaaP42
import Derived.Test.YtjankmemilanhaaP44
import Derived.Test.YtjankmemilanhaaP46
import Derived.Test.YtjankmemilanhaaP47
import Derived.Test.YtjankmemilanhaaP53
import Derived.Test.YtjankmemilanhaaP54
import Derived.Test.YtjankmemilanhaaP55
import Derived.Test.YtjankmemilanhaaP56
import Derived.Test.YtjankmemilanhaaP57
import Derived.Test.YtjankmemilanhaaP58
import Derived.Test.YtjankmemilanhaaP59
import Derived.Test.YtjankmemilanhaaP60
import Derived.Test.YtjankmemilanhaaAid
namespace Go.Proofs.Ytjankmemilanhaa.Pure
open Go.RowKit Go.Proofs.Ytjankmemilanhaa.P Go.Proofs.YtjankmemilanhaaW.PrintWords Go.Proofs.YtjankmemilanhaaW.PrintLast Go.Proofs.YtjankmemilanhaaW.PrintMore Go.Proofs.Ytjankmemilanhaa.Aid
set_option linter.unusedVariables false
set_option linter.unusedSimpArgs false

theorem szIntS_eq (l : List Int) (hl : l.length ≤ maxLen) (a : Int) (h0 : 0 ≤ a) (h1 : a ≤ 1048576) : laws_szIntS.f l a = some (if (l.length : Int) ≤ a then a - l.length else -1) := by
  unfold maxLen at hl
  unfold laws_szIntS.f
  have e : wrap64 (a - (l.length : Int)) = a - l.length := by unfold wrap64; omega
  rw [e]
  by_cases h : (l.length : Int) ≤ a
  · rw [if_neg (by omega), if_pos h]
  · rw [if_pos (by omega), if_neg h]
theorem toIntS_ev (l : List Int) (hl : l.length ≤ 1048576) : Ev (fun k => laws_toIntS.f k l) l := by
  have key := ev_copy0 (fun k acc i => laws_toIntS.l0 k l acc (i : Int)) l.length (fun i => l.getD i 0) id (by
    intro i acc hi ha r h
    refine Ev.step (fun k => ?_) h
    simp only [laws_toIntS.l0]
    rw [if_pos (by omega), if_pos (by omega), if_pos (by omega), wrap_succ (by omega), toNat_cast]
    rfl) (by
    intro acc ha
    refine Ev.of_succ (fun k => ?_)
    simp only [laws_toIntS.l0]
    rw [if_neg (by omega)]
    rfl) (List.replicate l.length 0) (by simp)
  rw [range_map_getD] at key
  refine Ev.congr (fun k => ?_) key
  unfold laws_toIntS.f
  rw [if_pos (by omega), if_pos (by omega), toNat_cast]
  rfl
theorem eqIntS_refl (l : List Int) (hl : l.length ≤ 1048576) : Ev (fun k => laws_eqIntS.f k l l) true := by
  have key := ev_all0 (fun k i => laws_eqIntS.l0 k l l (i : Int)) l.length (fun _ => true) false true (by
    intro i hi _ r h
    refine Ev.step (fun k => ?_) h
    simp only [laws_eqIntS.l0]
    rw [if_pos (by omega), if_pos (by omega), if_pos (by omega), if_pos trivial, wrap_succ (by omega)]) (by intro i _ h; cases h) (by
    refine Ev.of_succ (fun k => ?_)
    simp only [laws_eqIntS.l0]
    rw [if_neg (by omega)])
  rw [if_pos (by simp)] at key
  refine Ev.congr (fun k => ?_) key
  unfold laws_eqIntS.f
  rw [if_pos rfl]
  rfl
theorem rdL (l : List (List Int)) (i : Nat) : rd_L5 l (i : Int) = l.getD i [] := by unfold rd_L5; rw [toNat_cast]
/-- What the count of a list of lists tells, where it does not refuse. -/
theorem szIntSS_ev (l : List (List Int)) (hl : l.length ≤ maxLen) (hls : ∀ x ∈ l, x.length ≤ maxLen) (a : Int) (h0 : 0 ≤ a) (h1 : a ≤ 1048576) :
    ∃ r, Ev (fun k => laws_szIntSS.f k l a) r ∧ (0 ≤ r → (l.length : Int) + ((l.map List.length).sum : Nat) + r ≤ a) := by
  by_cases hlen : (l.length : Int) ≤ a
  · have key : ∀ (d i : Nat) (b : Int), i + d = l.length → 0 ≤ b → b ≤ 1048576 → ∃ r, Ev (fun k => laws_szIntSS.l0 k l b (i : Int)) r ∧ (0 ≤ r → (((l.drop i).map List.length).sum : Nat) + r ≤ b) := by
      intro d
      induction d with
      | zero =>
        intro i b hi hb hb1
        refine ⟨b, Ev.of_succ (fun k => ?_), fun _ => ?_⟩
        · simp only [laws_szIntSS.l0]
          rw [if_neg (by omega)]
        · rw [List.drop_of_length_le (by omega)]; simp
      | succ d ih =>
        intro i b hi hb hb1
        have hi' : i < l.length := by omega
        have hmem := List.getElem_mem hi'
        have hx : l.getD i [] = l[i] := by simp [List.getD_eq_getElem?_getD, List.getElem?_eq_getElem hi']
        have hd : l.drop i = l[i] :: l.drop (i + 1) := List.drop_eq_getElem_cons hi'
        have hs := szIntS_eq l[i] (hls _ hmem) b hb hb1
        by_cases hle : (l[i].length : Int) ≤ b
        · obtain ⟨r, hr, hr2⟩ := ih (i + 1) (b - l[i].length) (by omega) (by omega) (by omega)
          refine ⟨r, Ev.step (fun k => ?_) hr, fun h => ?_⟩
          · simp only [laws_szIntSS.l0]
            rw [if_pos (by omega), if_pos (by omega), rdL, hx, hs, if_pos hle]
            simp only [Option.bind_some]
            rw [if_neg (by omega), wrap_succ (by simp only [maxLen] at hl; omega)]
          · have := hr2 h
            rw [hd]; simp only [List.map_cons, List.sum_cons]; omega
        · refine ⟨-1, Ev.of_succ (fun k => ?_), fun h => by omega⟩
          simp only [laws_szIntSS.l0]
          rw [if_pos (by omega), if_pos (by omega), rdL, hx, hs, if_neg hle]
          simp only [Option.bind_some]
          rw [if_pos (by omega)]
    obtain ⟨r, hr, hr2⟩ := key l.length 0 (a - l.length) (by omega) (by omega) (by omega)
    refine ⟨r, Ev.congr (fun k => ?_) hr, fun h => by have := hr2 h; simp only [List.drop_zero] at this; omega⟩
    unfold laws_szIntSS.f
    have e : wrap64 (a - (l.length : Int)) = a - l.length := by unfold wrap64; omega
    rw [e, if_neg (by omega)]
    rfl
  · refine ⟨-1, Ev.const (fun k => ?_), fun h => by omega⟩
    unfold maxLen at hl
    unfold laws_szIntSS.f
    have e : wrap64 (a - (l.length : Int)) = a - l.length := by unfold wrap64; omega
    rw [e, if_pos (by omega)]
theorem le_sum {l : List Nat} {x : Nat} (h : x ∈ l) : x ≤ l.sum := by
  induction l with
  | nil => cases h
  | cons y l ih =>
    rcases List.mem_cons.1 h with rfl | h
    · simp
    · have := ih h; simp; omega
def Small (l : List (List Int)) : Prop := l.length ≤ 1048576 ∧ ∀ x ∈ l, x.length ≤ 1048576
theorem Small.of_sum {l : List (List Int)} (h : (l.length : Int) + ((l.map List.length).sum : Nat) ≤ 1048576) : Small l :=
  ⟨by omega, fun x hx => by have := le_sum (List.mem_map_of_mem (f := List.length) hx); omega⟩
theorem Small.at_ {l : List (List Int)} (h : Small l) (i : Nat) : (l.getD i []).length ≤ 1048576 := by
  by_cases hi : i < l.length
  · rw [List.getD_eq_getElem?_getD, List.getElem?_eq_getElem hi]; exact h.2 _ (List.getElem_mem hi)
  · rw [List.getD_eq_getElem?_getD, List.getElem?_eq_none (by omega)]; simp
theorem toIntSS_ev (l : List (List Int)) (hl : Small l) : Ev (fun k => laws_toIntSS.f k l) l := by
  have h1 := hl.1
  have key := ev_copy0 (fun k acc i => laws_toIntSS.l0 k l acc (i : Int)) l.length (fun i => l.getD i []) id (by
    intro i acc hi ha r h
    refine Ev.step (f := fun k => (laws_toIntS.f k (l.getD i [])).bind fun t => laws_toIntSS.l0 k l (acc.set i t) ((i + 1 : Nat) : Int)) (fun k => ?_) (Ev.bind (toIntS_ev _ (hl.at_ i)) h)
    simp only [laws_toIntSS.l0]
    rw [if_pos (by omega), if_pos (by omega), rdL, wrap_succ (by omega), toNat_cast]
    congr 1
    funext t
    rw [if_pos (by omega)]) (by
    intro acc ha
    refine Ev.of_succ (fun k => ?_)
    simp only [laws_toIntSS.l0]
    rw [if_neg (by omega)]
    rfl) (List.replicate l.length []) (by simp)
  rw [range_map_getD] at key
  refine Ev.congr (fun k => ?_) key
  unfold laws_toIntSS.f
  rw [if_pos (by omega), if_pos (by omega), toNat_cast]
  rfl
theorem eqIntSS_refl (l : List (List Int)) (hl : Small l) : Ev (fun k => laws_eqIntSS.f k l l) true := by
  have h1 := hl.1
  have key := ev_all0 (fun k i => laws_eqIntSS.l0 k l l (i : Int)) l.length (fun _ => true) false true (by
    intro i hi _ r h
    refine Ev.step (f := fun k => (laws_eqIntS.f k (l.getD i []) (l.getD i [])).bind fun t => if t = true then laws_eqIntSS.l0 k l l ((i + 1 : Nat) : Int) else some false) (fun k => ?_) (Ev.bind (eqIntS_refl _ (hl.at_ i)) (by simpa using h))
    simp only [laws_eqIntSS.l0]
    rw [if_pos (by omega), if_pos (by omega), if_pos (by omega), rdL, wrap_succ (by omega)]) (by intro i _ h; cases h) (by
    refine Ev.of_succ (fun k => ?_)
    simp only [laws_eqIntSS.l0]
    rw [if_neg (by omega)])
  rw [if_pos (by simp)] at key
  refine Ev.congr (fun k => ?_) key
  unfold laws_eqIntSS.f
  rw [if_pos rfl]
  rfl
theorem l01In_eq (a b c : Int) : spec_l01In.f a b c = some (decide (b ≤ a ∧ a ≤ c)) := in_dec a b c
theorem within_eq (a b c : Int) : impl_within.f a b c = some (decide (b ≤ a ∧ a ≤ c)) := in_dec a b c
def sizeB (n : Int) : Bool := decide (8 ≤ n ∧ n ≤ 32) && decide (n % 8 = 0)
theorem l02Frames_eq (n : Int) : spec_l02Frames.f n = some (sizeB n) := by
  unfold spec_l02Frames.f sizeB
  rw [l01In_eq]
  simp only [Option.bind_some]
  by_cases h : 8 ≤ n ∧ n ≤ 32
  · rw [if_pos (by simpa using h), tmod_nonneg (by omega) (by omega), decide_eq_true h]; rfl
  · rw [if_neg (by simpa using h), decide_eq_false h]; rfl
theorem isSize_eq (n : Int) : impl_isSize.f n = some (sizeB n) := by
  unfold impl_isSize.f sizeB
  rw [within_eq]
  simp only [Option.bind_some]
  by_cases h : 8 ≤ n ∧ n ≤ 32
  · rw [if_pos (by simpa using h), tmod_nonneg (by omega) (by omega), decide_eq_true h]; rfl
  · rw [if_neg (by simpa using h), decide_eq_false h]; rfl
def wordB (x : Int) : Bool := decide (0 ≤ x ∧ x ≤ 100000)
def rowB (r : List Int) : Bool := r.all wordB && decide (r.length = 4)
def memB (l : List (List Int)) : Bool := l.all rowB && sizeB l.length
theorem wordsOk_ev (r : List Int) (hr : r.length ≤ 1048576) : Ev (fun k => impl_wordsOk.f k r) (rowB r) := by
  have key := ev_all0 (fun k i => impl_wordsOk.l0 k r r (r.length : Int) (i : Int)) r.length (fun i => wordB (r.getD i 0)) false (decide (r.length = 4)) (by
    intro i hi hb q h
    refine Ev.step (fun k => ?_) h
    simp only [impl_wordsOk.l0]
    rw [if_pos (by omega), if_pos (by omega), if_pos (by omega), within_eq]
    simp only [Option.bind_some]
    rw [if_pos (by unfold rd; rw [toNat_cast]; exact hb), wrap_succ (by omega)]) (by
    intro i hi hb
    refine Ev.of_succ (fun k => ?_)
    simp only [impl_wordsOk.l0]
    rw [if_pos (by omega), if_pos (by omega), if_pos (by omega), within_eq]
    simp only [Option.bind_some]
    rw [if_neg (by unfold rd; rw [toNat_cast]; unfold wordB at hb; rw [hb]; simp)]) (by
    refine Ev.of_succ (fun k => ?_)
    simp only [impl_wordsOk.l0]
    rw [if_neg (by omega)]
    congr 1
    by_cases h : r.length = 4
    · rw [decide_eq_true h, h]; rfl
    · rw [decide_eq_false h]; simp; omega)
  rw [range_all r 0 wordB] at key
  have e : (if r.all wordB = true then decide (r.length = 4) else false) = rowB r := by
    unfold rowB; cases r.all wordB <;> simp
  rw [e] at key
  exact key
theorem impl_MemoryOk_ev (l : List (List Int)) (hl : Small l) : Ev (fun k => impl_MemoryOk.f k l) (memB l) := by
  have h1 := hl.1
  have key := ev_all0 (fun k i => impl_MemoryOk.l0 k l l (l.length : Int) (i : Int)) l.length (fun i => rowB (l.getD i [])) false (sizeB l.length) (by
    intro i hi hb q h
    refine Ev.step (f := fun k => (impl_wordsOk.f k (l.getD i [])).bind fun t => if t = true then impl_MemoryOk.l0 k l l (l.length : Int) ((i + 1 : Nat) : Int) else some false) (fun k => ?_) (Ev.bind (wordsOk_ev _ (hl.at_ i)) (by simp only [show rowB (l.getD i []) = true from hb, if_true]; exact h))
    simp only [impl_MemoryOk.l0]
    rw [if_pos (by omega), if_pos (by omega), if_pos (by omega), rdL, wrap_succ (by omega)]) (by
    intro i hi hb
    refine Ev.step (f := fun k => (impl_wordsOk.f k (l.getD i [])).bind fun t => if t = true then impl_MemoryOk.l0 k l l (l.length : Int) ((i + 1 : Nat) : Int) else some false) (fun k => ?_) (Ev.bind (wordsOk_ev _ (hl.at_ i)) (by simp only [show rowB (l.getD i []) = false from hb, Bool.false_eq_true, if_false]; exact Ev.now false))
    simp only [impl_MemoryOk.l0]
    rw [if_pos (by omega), if_pos (by omega), if_pos (by omega), rdL, wrap_succ (by omega)]) (by
    refine Ev.of_succ (fun k => ?_)
    simp only [impl_MemoryOk.l0]
    rw [if_neg (by omega), isSize_eq]
    rfl)
  rw [range_all l [] rowB] at key
  have e : (if l.all rowB = true then sizeB l.length else false) = memB l := by
    unfold memB; cases l.all rowB <;> simp
  rw [e] at key
  exact key
theorem spec_MemoryOk_ev (l : List (List Int)) (hl : Small l) : Ev (fun k => spec_MemoryOk.f k l) (memB l) := by
  have h1 := hl.1
  have step1 : ∀ i, i < l.length → ∀ j, j < (l.getD i []).length → wordB ((l.getD i []).getD j 0) = true → ∀ q, Ev (fun k => spec_MemoryOk.l1 k l (i : Int) ((j + 1 : Nat) : Int)) q → Ev (fun k => spec_MemoryOk.l1 k l (i : Int) (j : Int)) q := by
    intro i hi j hj hb q h
    have hlen := hl.at_ i
    refine Ev.step (fun k => ?_) h
    simp only [spec_MemoryOk.l1]
    rw [if_pos (by omega), if_pos (by omega), rdL, if_pos (by omega), if_pos (by omega), l01In_eq]
    simp only [Option.bind_some]
    rw [if_pos (by unfold rd; rw [toNat_cast]; exact hb), wrap_succ (by omega)]
  have step2 : ∀ i, i < l.length → ∀ j, j < (l.getD i []).length → wordB ((l.getD i []).getD j 0) = false → Ev (fun k => spec_MemoryOk.l1 k l (i : Int) (j : Int)) false := by
    intro i hi j hj hb
    refine Ev.of_succ (fun k => ?_)
    simp only [spec_MemoryOk.l1]
    rw [if_pos (by omega), if_pos (by omega), rdL, if_pos (by omega), if_pos (by omega), l01In_eq]
    simp only [Option.bind_some]
    rw [if_neg (by unfold rd; rw [toNat_cast]; unfold wordB at hb; rw [hb]; simp)]
  have key := ev_all0 (fun k i => spec_MemoryOk.l0 k l (i : Int)) l.length (fun i => rowB (l.getD i [])) false true (by
    intro i hi hb q h
    have hb' : (l.getD i []).all wordB = true ∧ (l.getD i []).length = 4 := by simpa [rowB] using hb
    refine Ev.step (f := fun k => spec_MemoryOk.l1 k l (i : Int) ((0 : Nat) : Int)) (fun k => ?_) (ev_yes (fun k j => spec_MemoryOk.l1 k l (i : Int) (j : Int)) (l.getD i []).length (fun j => wordB ((l.getD i []).getD j 0)) q (step1 i hi) (by rw [range_all _ 0 wordB]; exact hb'.1) ?_)
    · simp only [spec_MemoryOk.l0]
      rw [if_pos (by omega), if_pos (by omega), rdL, if_pos (by omega)]
      rfl
    · refine Ev.step (fun k => ?_) h
      simp only [spec_MemoryOk.l1]
      rw [if_pos (by omega), if_pos (by omega), rdL, if_neg (by omega), wrap_succ (by omega)]) (by
    intro i hi hb
    by_cases h4 : (l.getD i []).length = 4
    · have hb' : (l.getD i []).all wordB = false := by
        unfold rowB at hb; rw [decide_eq_true h4] at hb; simpa using hb
      refine Ev.step (f := fun k => spec_MemoryOk.l1 k l (i : Int) ((0 : Nat) : Int)) (fun k => ?_) (ev_no (fun k j => spec_MemoryOk.l1 k l (i : Int) (j : Int)) (l.getD i []).length (fun j => wordB ((l.getD i []).getD j 0)) false (step1 i hi) (step2 i hi) (by rw [range_all _ 0 wordB]; exact hb'))
      simp only [spec_MemoryOk.l0]
      rw [if_pos (by omega), if_pos (by omega), rdL, if_pos (by omega)]
      rfl
    · refine Ev.of_succ (fun k => ?_)
      simp only [spec_MemoryOk.l0]
      rw [if_pos (by omega), if_pos (by omega), rdL, if_neg (by omega)]) (by
    refine Ev.of_succ (fun k => ?_)
    simp only [spec_MemoryOk.l0]
    rw [if_neg (by omega)])
  rw [range_all l [] rowB] at key
  by_cases hs : sizeB l.length = true
  · have e : (if l.all rowB = true then true else false) = memB l := by
      unfold memB; rw [hs]; cases l.all rowB <;> simp
    rw [e] at key
    refine Ev.congr (fun k => ?_) key
    unfold spec_MemoryOk.f
    rw [l02Frames_eq]
    simp only [Option.bind_some]
    rw [if_pos hs]; rfl
  · have e : memB l = false := by unfold memB; rw [Bool.eq_false_iff.2 hs, Bool.and_false]
    rw [e]
    refine Ev.const (fun k => ?_)
    unfold spec_MemoryOk.f
    rw [l02Frames_eq]
    simp only [Option.bind_some]
    rw [if_neg hs]

theorem FnExactMemoryOk (l0 : List (List Int)) (g0 : (l0.length ≤ maxLen ∧ ∀ y0 ∈ l0, (y0.length ≤ maxLen ∧ ∀ y1 ∈ y0, (Lit.int .i64 y1).wf = true))) : ∃ k, laws_FnExactMemoryOk.f k l0 = some true := by
  obtain ⟨r, hr, hs⟩ := szIntSS_ev l0 g0.1 (fun x hx => (g0.2 x hx).1) 1048576 (by omega) (by omega)
  refine Ev.rounds (g := fun k => laws_FnExactMemoryOk.f k l0) ?_
  unfold laws_FnExactMemoryOk.f
  refine Ev.bind hr ?_
  by_cases h0 : r < 0
  · simp only [if_pos h0]; exact Ev.now true
  · have hl : Small l0 := Small.of_sum (by have := hs (by omega); omega)
    simp only [if_neg h0]
    refine Ev.bind (toIntSS_ev l0 hl) ?_
    refine Ev.bind (spec_MemoryOk_ev l0 hl) ?_
    refine Ev.bind (toIntSS_ev l0 hl) ?_
    refine Ev.bind (impl_MemoryOk_ev l0 hl) ?_
    simp only [bne_self_eq_false, Bool.false_eq_true, if_false]
    refine Ev.bind (toIntSS_ev l0 hl) ?_
    refine Ev.bind (eqIntSS_refl l0 hl) ?_
    simp only [if_true]
    exact Ev.now true

end Go.Proofs.Ytjankmemilanhaa.Pure
