/- CopyFrame answers as the reference at all memories, writes into none, and its answer owns its memory: the plain half. No condition. -/
import Derived.Test.YtpkhoanaifpopaaP0
import Derived.Test.YtpkhoanaifpopaaP3
import Derived.Test.YtpkhoanaifpopaaP4
import Derived.Test.YtpkhoanaifpopaaP11
import Derived.Test.YtpkhoanaifpopaaP12
import Derived.Test.YtpkhoanaifpopaaP32
import Derived.Test.YtpkhoanaifpopaaP33
import Derived.Test.YtpkhoanaifpopaaP34
import Derived.Test.YtpkhoanaifpopaaP35
import Derived.Test.YtpkhoanaifpopaaP37
import Derived.Test.YtpkhoanaifpopaaP38
import Derived.Test.YtpkhoanaifpopaaP39
import Derived.Test.YtpkhoanaifpopaaP40
import Derived.Test.YtpkhoanaifpopaaP41
import Derived.Test.YtpkhoanaifpopaaP43
import Derived.Test.YtpkhoanaifpopaaP44
import Derived.Test.YtpkhoanaifpopaaP58
import Derived.Test.YtpkhoanaifpopaaP59
import Derived.Test.YtpkhoanaifpopaaP61
import Derived.Test.YtpkhoanaifpopaaP108
import Derived.Test.YtpkhoanaifpopaaP109
import Derived.Test.YtpkhoanaifpopaaP111
import Derived.Test.YtpkhoanaifpopaaP113
import Derived.Test.YtpkhoanaifpopaaP114
import Derived.Test.YtpkhoanaifpopaaP116
import Derived.Test.YtpkhoanaifpopaaAid
namespace Go.Proofs.Ytpkhoanaifpopaa.Pure
open Go.RowKit Go.Proofs.Ytpkhoanaifpopaa.P Go.Proofs.YtpkhoanaifpopaaW.PrintWords Go.Proofs.YtpkhoanaifpopaaW.PrintLast Go.Proofs.YtpkhoanaifpopaaW.PrintMore Go.Proofs.Ytpkhoanaifpopaa.Aid
set_option linter.unusedVariables false
set_option linter.unusedSimpArgs false

theorem l01In_eq (a b c : Int) : spec_l01In.f a b c = some (decide (b ≤ a ∧ a ≤ c)) := in_dec a b c
theorem within_eq (a b c : Int) : impl_within.f a b c = some (decide (b ≤ a ∧ a ≤ c)) := in_dec a b c
def sizeB (n : Int) : Bool := decide (8 ≤ n ∧ n ≤ 32) && decide (n % 8 = 0)
theorem sizeB_bd {n : Int} (h : sizeB n = true) : 8 ≤ n ∧ n ≤ 32 ∧ n % 8 = 0 := by
  simp only [sizeB, Bool.and_eq_true, decide_eq_true_eq] at h
  exact ⟨h.1.1, h.1.2, h.2⟩
theorem l02Frames_eq (n : Int) : spec_l02Frames.f n = some (sizeB n) := by
  unfold spec_l02Frames.f sizeB
  rw [l01In_eq]
  simp only [Option.bind_some]
  by_cases h : 8 ≤ n ∧ n ≤ 32
  · rw [if_pos (by simpa using h), tmod_nonneg (by omega) (by omega), decide_eq_true h]; rfl
  · rw [if_neg (by simpa using h), decide_eq_false h]; rfl
theorem isSize_eq (n : Int) : impl_isSize.f n = some (sizeB n) := by
  unfold impl_isSize.f sizeB
  rw [within_eq]
  simp only [Option.bind_some]
  by_cases h : 8 ≤ n ∧ n ≤ 32
  · rw [if_pos (by simpa using h), tmod_nonneg (by omega) (by omega), decide_eq_true h]; rfl
  · rw [if_neg (by simpa using h), decide_eq_false h]; rfl
theorem szIntS_eq (l : List Int) (hl : l.length ≤ maxLen) (a : Int) (h0 : 0 ≤ a) (h1 : a ≤ 1048576) : laws_szIntS.f l a = some (if (l.length : Int) ≤ a then a - l.length else -1) := by
  unfold maxLen at hl
  unfold laws_szIntS.f
  have e : wrap64 (a - (l.length : Int)) = a - l.length := by unfold wrap64; omega
  rw [e]
  by_cases h : (l.length : Int) ≤ a
  · rw [if_neg (by omega), if_pos h]
  · rw [if_pos (by omega), if_neg h]
theorem toIntS_ev (l : List Int) (hl : l.length ≤ 1048576) : Ev (fun k => laws_toIntS.f k l) l := by
  have key := ev_copy0 (fun k acc i => laws_toIntS.l0 k l acc (i : Int)) l.length (fun i => l.getD i 0) id (by
    intro i acc hi ha r h
    refine Ev.step (fun k => ?_) h
    simp only [laws_toIntS.l0]
    rw [if_pos (by omega), if_pos (by omega), if_pos (by omega), wrap_succ (by omega), toNat_cast]
    rfl) (by
    intro acc ha
    refine Ev.of_succ (fun k => ?_)
    simp only [laws_toIntS.l0]
    rw [if_neg (by omega)]
    rfl) (List.replicate l.length 0) (by simp)
  rw [range_map_getD] at key
  refine Ev.congr (fun k => ?_) key
  unfold laws_toIntS.f
  rw [if_pos (by omega), if_pos (by omega), toNat_cast]
  rfl
theorem eqIntS_refl (l : List Int) (hl : l.length ≤ 1048576) : Ev (fun k => laws_eqIntS.f k l l) true := by
  have key := ev_all0 (fun k i => laws_eqIntS.l0 k l l (i : Int)) l.length (fun _ => true) false true (by
    intro i hi _ r h
    refine Ev.step (fun k => ?_) h
    simp only [laws_eqIntS.l0]
    rw [if_pos (by omega), if_pos (by omega), if_pos (by omega), if_pos trivial, wrap_succ (by omega)]) (by intro i _ h; cases h) (by
    refine Ev.of_succ (fun k => ?_)
    simp only [laws_eqIntS.l0]
    rw [if_neg (by omega)])
  rw [if_pos (by simp)] at key
  refine Ev.congr (fun k => ?_) key
  unfold laws_eqIntS.f
  rw [if_pos rfl]
  rfl
def upInt (a : Int) (n : Nat) : List Int := (List.range n).map (fun j : Nat => a + (j : Int))
theorem upInt_len (a : Int) (n : Nat) : (upInt a n).length = n := by simp [upInt]
theorem upInt_getD (a : Int) (n i : Nat) (h : i < n) : (upInt a n).getD i 0 = a + i := by simp [upInt, List.getD_eq_getElem?_getD, h]
theorem markIntS_ev (l : List Int) (hl : l.length ≤ 1048576) (a : Int) (h0 : 0 ≤ a) (h1 : a ≤ 1000000000) : Ev (fun k => laws_markIntS.f k l a) (a + l.length, upInt a l.length) := by
  have key := ev_copy0 (fun k acc i => laws_markIntS.l0 k acc (a + (i : Int)) (i : Int)) l.length (fun i => a + (i : Int)) (fun acc => (a + (l.length : Int), acc)) (by
    intro i acc hi ha r h
    refine Ev.step (fun k => ?_) h
    simp only [laws_markIntS.l0]
    rw [if_pos (by omega), if_pos (by omega), wrap_succ (by omega), toNat_cast, wrap64_id (n := a + (i : Int) + 1) (by omega) (by omega), show a + (i : Int) + 1 = a + ((i + 1 : Nat) : Int) by omega]) (by
    intro acc ha
    refine Ev.of_succ (fun k => ?_)
    simp only [laws_markIntS.l0]
    rw [if_neg (by omega)]) l rfl
  simp only [show ((0 : Nat) : Int) = 0 from rfl, Int.add_zero] at key
  exact key
theorem heldIntS_ev (n : Nat) (hn : n ≤ 1048576) (a : Int) (h0 : 0 ≤ a) (h1 : a ≤ 1000000000) : Ev (fun k => laws_heldIntS.f k (upInt a n) a) (a + n) := by
  have key := ev_yes (fun k i => laws_heldIntS.l0 k (upInt a n) (a + (i : Int)) (i : Int)) n (fun _ => true) (a + (n : Int)) (by
    intro i hi _ r h
    refine Ev.step (fun k => ?_) h
    simp only [laws_heldIntS.l0]
    rw [upInt_len, if_pos (by omega), if_pos (by omega), if_pos (by unfold rd; rw [toNat_cast, upInt_getD _ _ _ hi]), wrap_succ (by omega), wrap64_id (n := a + (i : Int) + 1) (by omega) (by omega), show a + (i : Int) + 1 = a + ((i + 1 : Nat) : Int) by omega]) (by simp) (by
    refine Ev.of_succ (fun k => ?_)
    simp only [laws_heldIntS.l0]
    rw [upInt_len, if_neg (by omega)])
  simp only [show ((0 : Nat) : Int) = 0 from rfl, Int.add_zero] at key
  exact key
theorem rdL (l : List (List Int)) (i : Nat) : rd_L6 l (i : Int) = l.getD i [] := by unfold rd_L6; rw [toNat_cast]
/-- What the count of a list of lists tells, where it does not refuse. -/
theorem szIntSS_ev (l : List (List Int)) (hl : l.length ≤ maxLen) (hls : ∀ x ∈ l, x.length ≤ maxLen) (a : Int) (h0 : 0 ≤ a) (h1 : a ≤ 1048576) :
    ∃ r, Ev (fun k => laws_szIntSS.f k l a) r ∧ (0 ≤ r → (l.length : Int) + ((l.map List.length).sum : Nat) + r ≤ a) := by
  by_cases hlen : (l.length : Int) ≤ a
  · have key : ∀ (d i : Nat) (b : Int), i + d = l.length → 0 ≤ b → b ≤ 1048576 → ∃ r, Ev (fun k => laws_szIntSS.l0 k l b (i : Int)) r ∧ (0 ≤ r → (((l.drop i).map List.length).sum : Nat) + r ≤ b) := by
      intro d
      induction d with
      | zero =>
        intro i b hi hb hb1
        refine ⟨b, Ev.of_succ (fun k => ?_), fun _ => ?_⟩
        · simp only [laws_szIntSS.l0]
          rw [if_neg (by omega)]
        · rw [List.drop_of_length_le (by omega)]; simp
      | succ d ih =>
        intro i b hi hb hb1
        have hi' : i < l.length := by omega
        have hmem := List.getElem_mem hi'
        have hx : l.getD i [] = l[i] := by simp [List.getD_eq_getElem?_getD, List.getElem?_eq_getElem hi']
        have hd : l.drop i = l[i] :: l.drop (i + 1) := List.drop_eq_getElem_cons hi'
        have hs := szIntS_eq l[i] (hls _ hmem) b hb hb1
        by_cases hle : (l[i].length : Int) ≤ b
        · obtain ⟨r, hr, hr2⟩ := ih (i + 1) (b - l[i].length) (by omega) (by omega) (by omega)
          refine ⟨r, Ev.step (fun k => ?_) hr, fun h => ?_⟩
          · simp only [laws_szIntSS.l0]
            rw [if_pos (by omega), if_pos (by omega), rdL, hx, hs, if_pos hle]
            simp only [Option.bind_some]
            rw [if_neg (by omega), wrap_succ (by simp only [maxLen] at hl; omega)]
          · have := hr2 h
            rw [hd]; simp only [List.map_cons, List.sum_cons]; omega
        · refine ⟨-1, Ev.of_succ (fun k => ?_), fun h => by omega⟩
          simp only [laws_szIntSS.l0]
          rw [if_pos (by omega), if_pos (by omega), rdL, hx, hs, if_neg hle]
          simp only [Option.bind_some]
          rw [if_pos (by omega)]
    obtain ⟨r, hr, hr2⟩ := key l.length 0 (a - l.length) (by omega) (by omega) (by omega)
    refine ⟨r, Ev.congr (fun k => ?_) hr, fun h => by have := hr2 h; simp only [List.drop_zero] at this; omega⟩
    unfold laws_szIntSS.f
    have e : wrap64 (a - (l.length : Int)) = a - l.length := by unfold wrap64; omega
    rw [e, if_neg (by omega)]
    rfl
  · refine ⟨-1, Ev.const (fun k => ?_), fun h => by omega⟩
    unfold maxLen at hl
    unfold laws_szIntSS.f
    have e : wrap64 (a - (l.length : Int)) = a - l.length := by unfold wrap64; omega
    rw [e, if_pos (by omega)]
theorem le_sum {l : List Nat} {x : Nat} (h : x ∈ l) : x ≤ l.sum := by
  induction l with
  | nil => cases h
  | cons y l ih =>
    rcases List.mem_cons.1 h with rfl | h
    · simp
    · have := ih h; simp; omega
def Small (l : List (List Int)) : Prop := l.length ≤ 1048576 ∧ ∀ x ∈ l, x.length ≤ 1048576
theorem Small.of_sum {l : List (List Int)} (h : (l.length : Int) + ((l.map List.length).sum : Nat) ≤ 1048576) : Small l :=
  ⟨by omega, fun x hx => by have := le_sum (List.mem_map_of_mem (f := List.length) hx); omega⟩
theorem Small.at_ {l : List (List Int)} (h : Small l) (i : Nat) : (l.getD i []).length ≤ 1048576 := by
  by_cases hi : i < l.length
  · rw [List.getD_eq_getElem?_getD, List.getElem?_eq_getElem hi]; exact h.2 _ (List.getElem_mem hi)
  · rw [List.getD_eq_getElem?_getD, List.getElem?_eq_none (by omega)]; simp
theorem toIntSS_ev (l : List (List Int)) (hl : Small l) : Ev (fun k => laws_toIntSS.f k l) l := by
  have h1 := hl.1
  have key := ev_copy0 (fun k acc i => laws_toIntSS.l0 k l acc (i : Int)) l.length (fun i => l.getD i []) id (by
    intro i acc hi ha r h
    refine Ev.step (f := fun k => (laws_toIntS.f k (l.getD i [])).bind fun t => laws_toIntSS.l0 k l (acc.set i t) ((i + 1 : Nat) : Int)) (fun k => ?_) (Ev.bind (toIntS_ev _ (hl.at_ i)) h)
    simp only [laws_toIntSS.l0]
    rw [if_pos (by omega), if_pos (by omega), rdL, wrap_succ (by omega), toNat_cast]
    congr 1
    funext t
    rw [if_pos (by omega)]) (by
    intro acc ha
    refine Ev.of_succ (fun k => ?_)
    simp only [laws_toIntSS.l0]
    rw [if_neg (by omega)]
    rfl) (List.replicate l.length []) (by simp)
  rw [range_map_getD] at key
  refine Ev.congr (fun k => ?_) key
  unfold laws_toIntSS.f
  rw [if_pos (by omega), if_pos (by omega), toNat_cast]
  rfl
theorem eqIntSS_refl (l : List (List Int)) (hl : Small l) : Ev (fun k => laws_eqIntSS.f k l l) true := by
  have h1 := hl.1
  have key := ev_all0 (fun k i => laws_eqIntSS.l0 k l l (i : Int)) l.length (fun _ => true) false true (by
    intro i hi _ r h
    refine Ev.step (f := fun k => (laws_eqIntS.f k (l.getD i []) (l.getD i [])).bind fun t => if t = true then laws_eqIntSS.l0 k l l ((i + 1 : Nat) : Int) else some false) (fun k => ?_) (Ev.bind (eqIntS_refl _ (hl.at_ i)) (by simpa using h))
    simp only [laws_eqIntSS.l0]
    rw [if_pos (by omega), if_pos (by omega), if_pos (by omega), rdL, wrap_succ (by omega)]) (by intro i _ h; cases h) (by
    refine Ev.of_succ (fun k => ?_)
    simp only [laws_eqIntSS.l0]
    rw [if_neg (by omega)])
  rw [if_pos (by simp)] at key
  refine Ev.congr (fun k => ?_) key
  unfold laws_eqIntSS.f
  rw [if_pos rfl]
  rfl
/-- What is marked, row by row. -/
def markSS : Int → List (List Int) → List (List Int)
  | _, [] => []
  | a, x :: xs => upInt a x.length :: markSS (a + x.length) xs
def totSS (l : List (List Int)) : Nat := (l.map List.length).sum
theorem totSS_cons (x : List Int) (l : List (List Int)) : totSS (x :: l) = x.length + totSS l := by simp [totSS]
theorem markSS_len (a : Int) (l : List (List Int)) : (markSS a l).length = l.length := by
  induction l generalizing a with
  | nil => rfl
  | cons x l ih => simp [markSS, ih]
theorem getD_mid {α : Type} (pre : List α) (x : α) (rest : List α) (d : α) : (pre ++ x :: rest).getD pre.length d = x := by
  simp [List.getD_eq_getElem?_getD]
theorem set_mid {α : Type} (pre : List α) (x y : α) (rest : List α) : (pre ++ x :: rest).set pre.length y = (pre ++ [y]) ++ rest := by
  rw [List.set_append_right _ _ (Nat.le_refl _)]
  simp
theorem markSS_loop : ∀ (rest pre : List (List Int)) (b : Int), (∀ x ∈ rest, x.length ≤ 1048576) → pre.length + rest.length ≤ 1048576 → 0 ≤ b → b + totSS rest ≤ 1000000000 →
    Ev (fun k => laws_markIntSS.l0 k (pre ++ rest) b (pre.length : Int)) (b + totSS rest, pre ++ markSS b rest) := by
  intro rest
  induction rest with
  | nil =>
    intro pre b _ hl h0 h1
    refine Ev.of_succ (fun k => ?_)
    simp only [laws_markIntSS.l0]
    rw [if_neg (by simp)]
    simp [totSS, markSS]
  | cons x rest ih =>
    intro pre b hx hl h0 h1
    rw [totSS_cons] at h1 ⊢
    simp only [List.length_cons] at hl
    have hxl := hx x List.mem_cons_self
    have hm := markIntS_ev x hxl b h0 (by omega)
    have hi := ih (pre ++ [upInt b x.length]) (b + x.length) (fun y hy => hx y (List.mem_cons_of_mem _ hy)) (by simp only [List.length_append, List.length_cons, List.length_nil]; omega) (by omega) (by omega)
    rw [show b + (x.length : Int) + (totSS rest : Nat) = b + ((x.length + totSS rest : Nat) : Int) by omega] at hi
    rw [show pre ++ markSS b (x :: rest) = (pre ++ [upInt b x.length]) ++ markSS (b + x.length) rest by simp [markSS]]
    refine Ev.step (f := fun k => (laws_markIntS.f k x b).bind fun t => laws_markIntSS.l0 k ((pre ++ [t.2]) ++ rest) t.1 ((pre.length + 1 : Nat) : Int)) (fun k => ?_) (Ev.bind hm ?_)
    · simp only [laws_markIntSS.l0]
      rw [if_pos (by simp only [List.length_append, List.length_cons]; omega), if_pos (by omega), toNat_cast, getD_mid, wrap_succ (by omega)]
      simp only [set_mid]
    · simp only [List.length_append, List.length_cons, List.length_nil] at hi
      exact hi
theorem markIntSS_ev (l : List (List Int)) (hl : Small l) (a : Int) (h0 : 0 ≤ a) (h1 : a + totSS l ≤ 1000000000) : Ev (fun k => laws_markIntSS.f k l a) (a + totSS l, markSS a l) := by
  have := markSS_loop l [] a hl.2 (by simpa using hl.1) h0 h1
  exact this
theorem heldSS_loop : ∀ (rest pre : List (List Int)) (b : Int), (∀ x ∈ rest, x.length ≤ 1048576) → pre.length + rest.length ≤ 1048576 → 0 ≤ b → b + totSS rest ≤ 1000000000 →
    Ev (fun k => laws_heldIntSS.l0 k (pre ++ markSS b rest) b (pre.length : Int)) (b + totSS rest) := by
  intro rest
  induction rest with
  | nil =>
    intro pre b _ hl h0 h1
    refine Ev.of_succ (fun k => ?_)
    simp only [laws_heldIntSS.l0]
    rw [if_neg (by simp [markSS])]
    simp [totSS]
  | cons x rest ih =>
    intro pre b hx hl h0 h1
    rw [totSS_cons] at h1 ⊢
    simp only [List.length_cons] at hl
    have hxl := hx x List.mem_cons_self
    have hm := heldIntS_ev x.length hxl b h0 (by omega)
    have hi := ih (pre ++ [upInt b x.length]) (b + x.length) (fun y hy => hx y (List.mem_cons_of_mem _ hy)) (by simp only [List.length_append, List.length_cons, List.length_nil]; omega) (by omega) (by omega)
    rw [show b + (x.length : Int) + (totSS rest : Nat) = b + ((x.length + totSS rest : Nat) : Int) by omega] at hi
    have hml := markSS_len (b + x.length) rest
    refine Ev.step (f := fun k => (laws_heldIntS.f k (upInt b x.length) b).bind fun t307 => (if t307 < 0 then (some (-1)) else (laws_heldIntSS.l0 k (pre ++ markSS b (x :: rest)) t307 ((pre.length + 1 : Nat) : Int)))) (fun k => ?_) (Ev.bind hm ?_)
    · simp only [laws_heldIntSS.l0]
      rw [if_pos (by simp only [List.length_append, markSS, List.length_cons]; omega), if_pos (by omega), rdL, wrap_succ (by omega)]
      simp only [markSS, getD_mid]
    · simp only [if_neg (show ¬ b + (x.length : Int) < 0 by omega)]
      rw [show pre ++ markSS b (x :: rest) = (pre ++ [upInt b x.length]) ++ markSS (b + x.length) rest by simp [markSS]]
      simp only [List.length_append, List.length_cons, List.length_nil] at hi
      exact hi
theorem heldIntSS_ev (l : List (List Int)) (hl : Small l) (a : Int) (h0 : 0 ≤ a) (h1 : a + totSS l ≤ 1000000000) : Ev (fun k => laws_heldIntSS.f k (markSS a l) a) (a + totSS l) := by
  have := heldSS_loop l [] a hl.2 (by simpa using hl.1) h0 h1
  exact this
def wordB (x : Int) : Bool := decide (0 ≤ x ∧ x ≤ 100000)
def rowB (r : List Int) : Bool := r.all wordB && decide (r.length = 4)
theorem wordsOk_ev (r : List Int) (hr : r.length ≤ 1048576) : Ev (fun k => impl_wordsOk.f k r) (rowB r) := by
  have key := ev_all0 (fun k i => impl_wordsOk.l0 k r r (r.length : Int) (i : Int)) r.length (fun i => wordB (r.getD i 0)) false (decide (r.length = 4)) (by
    intro i hi hb q h
    refine Ev.step (fun k => ?_) h
    simp only [impl_wordsOk.l0]
    rw [if_pos (by omega), if_pos (by omega), if_pos (by omega), within_eq]
    simp only [Option.bind_some]
    rw [if_pos (by unfold rd; rw [toNat_cast]; exact hb), wrap_succ (by omega)]) (by
    intro i hi hb
    refine Ev.of_succ (fun k => ?_)
    simp only [impl_wordsOk.l0]
    rw [if_pos (by omega), if_pos (by omega), if_pos (by omega), within_eq]
    simp only [Option.bind_some]
    rw [if_neg (by unfold rd; rw [toNat_cast]; unfold wordB at hb; rw [hb]; simp)]) (by
    refine Ev.of_succ (fun k => ?_)
    simp only [impl_wordsOk.l0]
    rw [if_neg (by omega)]
    congr 1
    by_cases h : r.length = 4
    · rw [decide_eq_true h, h]; rfl
    · rw [decide_eq_false h]; simp; omega)
  rw [range_all r 0 wordB] at key
  have e : (if r.all wordB = true then decide (r.length = 4) else false) = rowB r := by
    unfold rowB; cases r.all wordB <;> simp
  rw [e] at key
  exact key
def memB (l : List (List Int)) : Bool := l.all rowB && sizeB l.length
theorem impl_MemoryOk_ev (l : List (List Int)) (hl : Small l) : Ev (fun k => impl_MemoryOk.f k l) (memB l) := by
  have h1 := hl.1
  have key := ev_all0 (fun k i => impl_MemoryOk.l0 k l l (l.length : Int) (i : Int)) l.length (fun i => rowB (l.getD i [])) false (sizeB l.length) (by
    intro i hi hb q h
    refine Ev.step (f := fun k => (impl_wordsOk.f k (l.getD i [])).bind fun t => if t = true then impl_MemoryOk.l0 k l l (l.length : Int) ((i + 1 : Nat) : Int) else some false) (fun k => ?_) (Ev.bind (wordsOk_ev _ (hl.at_ i)) (by simp only [show rowB (l.getD i []) = true from hb, if_true]; exact h))
    simp only [impl_MemoryOk.l0]
    rw [if_pos (by omega), if_pos (by omega), if_pos (by omega), rdL, wrap_succ (by omega)]) (by
    intro i hi hb
    refine Ev.step (f := fun k => (impl_wordsOk.f k (l.getD i [])).bind fun t => if t = true then impl_MemoryOk.l0 k l l (l.length : Int) ((i + 1 : Nat) : Int) else some false) (fun k => ?_) (Ev.bind (wordsOk_ev _ (hl.at_ i)) (by simp only [show rowB (l.getD i []) = false from hb, Bool.false_eq_true, if_false]; exact Ev.now false))
    simp only [impl_MemoryOk.l0]
    rw [if_pos (by omega), if_pos (by omega), if_pos (by omega), rdL, wrap_succ (by omega)]) (by
    refine Ev.of_succ (fun k => ?_)
    simp only [impl_MemoryOk.l0]
    rw [if_neg (by omega), isSize_eq]
    rfl)
  rw [range_all l [] rowB] at key
  have e : (if l.all rowB = true then sizeB l.length else false) = memB l := by
    unfold memB; cases l.all rowB <;> simp
  rw [e] at key
  exact key
theorem spec_MemoryOk_ev (l : List (List Int)) (hl : Small l) : Ev (fun k => spec_MemoryOk.f k l) (memB l) := by
  have h1 := hl.1
  have step1 : ∀ i, i < l.length → ∀ j, j < (l.getD i []).length → wordB ((l.getD i []).getD j 0) = true → ∀ q, Ev (fun k => spec_MemoryOk.l1 k l (i : Int) ((j + 1 : Nat) : Int)) q → Ev (fun k => spec_MemoryOk.l1 k l (i : Int) (j : Int)) q := by
    intro i hi j hj hb q h
    have hlen := hl.at_ i
    refine Ev.step (fun k => ?_) h
    simp only [spec_MemoryOk.l1]
    rw [if_pos (by omega), if_pos (by omega), rdL, if_pos (by omega), if_pos (by omega), l01In_eq]
    simp only [Option.bind_some]
    rw [if_pos (by unfold rd; rw [toNat_cast]; exact hb), wrap_succ (by omega)]
  have step2 : ∀ i, i < l.length → ∀ j, j < (l.getD i []).length → wordB ((l.getD i []).getD j 0) = false → Ev (fun k => spec_MemoryOk.l1 k l (i : Int) (j : Int)) false := by
    intro i hi j hj hb
    refine Ev.of_succ (fun k => ?_)
    simp only [spec_MemoryOk.l1]
    rw [if_pos (by omega), if_pos (by omega), rdL, if_pos (by omega), if_pos (by omega), l01In_eq]
    simp only [Option.bind_some]
    rw [if_neg (by unfold rd; rw [toNat_cast]; unfold wordB at hb; rw [hb]; simp)]
  have key := ev_all0 (fun k i => spec_MemoryOk.l0 k l (i : Int)) l.length (fun i => rowB (l.getD i [])) false true (by
    intro i hi hb q h
    have hb' : (l.getD i []).all wordB = true ∧ (l.getD i []).length = 4 := by simpa [rowB] using hb
    refine Ev.step (f := fun k => spec_MemoryOk.l1 k l (i : Int) ((0 : Nat) : Int)) (fun k => ?_) (ev_yes (fun k j => spec_MemoryOk.l1 k l (i : Int) (j : Int)) (l.getD i []).length (fun j => wordB ((l.getD i []).getD j 0)) q (step1 i hi) (by rw [range_all _ 0 wordB]; exact hb'.1) ?_)
    · simp only [spec_MemoryOk.l0]
      rw [if_pos (by omega), if_pos (by omega), rdL, if_pos (by omega)]
      rfl
    · refine Ev.step (fun k => ?_) h
      simp only [spec_MemoryOk.l1]
      rw [if_pos (by omega), if_pos (by omega), rdL, if_neg (by omega), wrap_succ (by omega)]) (by
    intro i hi hb
    by_cases h4 : (l.getD i []).length = 4
    · have hb' : (l.getD i []).all wordB = false := by
        unfold rowB at hb; rw [decide_eq_true h4] at hb; simpa using hb
      refine Ev.step (f := fun k => spec_MemoryOk.l1 k l (i : Int) ((0 : Nat) : Int)) (fun k => ?_) (ev_no (fun k j => spec_MemoryOk.l1 k l (i : Int) (j : Int)) (l.getD i []).length (fun j => wordB ((l.getD i []).getD j 0)) false (step1 i hi) (step2 i hi) (by rw [range_all _ 0 wordB]; exact hb'))
      simp only [spec_MemoryOk.l0]
      rw [if_pos (by omega), if_pos (by omega), rdL, if_pos (by omega)]
      rfl
    · refine Ev.of_succ (fun k => ?_)
      simp only [spec_MemoryOk.l0]
      rw [if_pos (by omega), if_pos (by omega), rdL, if_neg (by omega)]) (by
    refine Ev.of_succ (fun k => ?_)
    simp only [spec_MemoryOk.l0]
    rw [if_neg (by omega)])
  rw [range_all l [] rowB] at key
  by_cases hs : sizeB l.length = true
  · have e : (if l.all rowB = true then true else false) = memB l := by
      unfold memB; rw [hs]; cases l.all rowB <;> simp
    rw [e] at key
    refine Ev.congr (fun k => ?_) key
    unfold spec_MemoryOk.f
    rw [l02Frames_eq]
    simp only [Option.bind_some]
    rw [if_pos hs]; rfl
  · have e : memB l = false := by unfold memB; rw [Bool.eq_false_iff.2 hs, Bool.and_false]
    rw [e]
    refine Ev.const (fun k => ?_)
    unfold spec_MemoryOk.f
    rw [l02Frames_eq]
    simp only [Option.bind_some]
    rw [if_neg hs]
theorem take_getD {α : Type} (l : List α) (d : α) {i : Nat} (h : i < l.length) : l.take i ++ [l.getD i d] = l.take (i + 1) := by
  rw [List.take_succ_eq_append_getElem h]
  simp [List.getD_eq_getElem?_getD, List.getElem?_eq_getElem h]
theorem spec_l02Copy_ev (l : List (List Int)) (hl : Small l) : Ev (fun k => spec_l02Copy.f k l) l := by
  have h1 := hl.1
  have key := ev_yes (fun k i => spec_l02Copy.l0 k l (l.take i) (i : Int)) l.length (fun _ => true) l (by
    intro i hi _ r h
    refine Ev.step (fun k => ?_) h
    have hr := hl.at_ i
    simp only [spec_l02Copy.l0]
    rw [if_pos (by omega)]
    simp only [Option.bind_some, List.nil_append]
    rw [if_pos (by omega), rdL, if_pos (by simp only [List.length_nil]; omega), if_pos (by rw [List.length_take]; omega), take_getD l [] hi, wrap_succ (by omega)]) (by simp) (by
    refine Ev.of_succ (fun k => ?_)
    simp only [spec_l02Copy.l0]
    rw [if_neg (by omega), List.take_length])
  exact key
theorem impl_copyMem_ev (l : List (List Int)) (hl : Small l) : Ev (fun k => impl_copyMem.f k l) l := by
  have h1 := hl.1
  have key := ev_yes (fun k i => impl_copyMem.l0 k (l.take i) l (l.length : Int) (i : Int)) l.length (fun _ => true) l (by
    intro i hi _ r h
    refine Ev.step (fun k => ?_) h
    have hr := hl.at_ i
    simp only [impl_copyMem.l0]
    rw [if_pos (by omega), if_pos (by omega), if_pos (by omega), rdL]
    unfold impl_copyInts.f
    rw [if_pos (by simp only [List.length_nil]; omega)]
    simp only [Option.bind_some, List.nil_append]
    rw [if_pos (by rw [List.length_take]; omega), take_getD l [] hi, wrap_succ (by omega)]) (by simp) (by
    refine Ev.of_succ (fun k => ?_)
    simp only [impl_copyMem.l0]
    rw [if_neg (by omega), List.take_length])
  exact key
theorem len_pred (l : List (List Int)) (hl : Small l) : wrap64 ((l.length : Int) - 1) = l.length - 1 := by have := hl.1; unfold wrap64; omega
theorem memB_row {l : List (List Int)} (h : memB l = true) {i : Nat} (hi : i < l.length) : (l.getD i []).length = 4 := by
  unfold memB at h
  have h := (Bool.and_eq_true _ _ ▸ h : _ ∧ _).1
  have := List.all_eq_true.1 h l[i] (List.getElem_mem hi)
  simp only [rowB, Bool.and_eq_true, decide_eq_true_eq] at this
  rw [List.getD_eq_getElem?_getD, List.getElem?_eq_getElem hi]
  exact this.2
theorem l02Has_ev (l : List (List Int)) (hl : Small l) (f : Int) : Ev (fun k => spec_l02Has.f k l f) (memB l && decide (0 ≤ f ∧ f ≤ l.length - 1)) := by
  unfold spec_l02Has.f
  refine Ev.bind (spec_MemoryOk_ev l hl) ?_
  rw [l01In_eq, len_pred l hl]
  by_cases h : memB l = true
  · simp only [if_pos h, Option.bind_some, h, Bool.true_and]; exact Ev.now _
  · simp only [if_neg h, Bool.eq_false_iff.2 h, Bool.false_and]; exact Ev.now _
theorem isFrame_ev (l : List (List Int)) (hl : Small l) (f : Int) : Ev (fun k => impl_isFrame.f k l f) (memB l && decide (0 ≤ f ∧ f ≤ l.length - 1)) := by
  unfold impl_isFrame.f
  refine Ev.bind (impl_MemoryOk_ev l hl) ?_
  rw [within_eq, len_pred l hl]
  by_cases h : memB l = true
  · simp only [if_pos h, Option.bind_some, h, Bool.true_and]; exact Ev.now _
  · simp only [if_neg h, Bool.eq_false_iff.2 h, Bool.false_and]; exact Ev.now _
theorem memB_small {l : List (List Int)} (h : memB l = true) : l.length ≤ 32 ∧ ∀ x ∈ l, x.length = 4 := by
  unfold memB at h
  rw [Bool.and_eq_true] at h
  have hs := sizeB_bd h.2
  refine ⟨by omega, fun x hx => ?_⟩
  have := List.all_eq_true.1 h.1 x hx
  simp only [rowB, Bool.and_eq_true, decide_eq_true_eq] at this
  exact this.2
theorem totSS_four : ∀ (l : List (List Int)), (∀ x ∈ l, x.length = 4) → totSS l = 4 * l.length := by
  intro l
  induction l with
  | nil => intro _; rfl
  | cons x l ih =>
    intro h
    rw [totSS_cons, ih (fun y hy => h y (List.mem_cons_of_mem _ hy)), h x List.mem_cons_self, List.length_cons]
    omega
/-- What is as right memory is. -/
def Fours (l : List (List Int)) : Prop := l.length ≤ 32 ∧ ∀ x ∈ l, x.length = 4
theorem Fours.small {l : List (List Int)} (h : Fours l) : Small l ∧ totSS l ≤ 128 :=
  ⟨⟨by have := h.1; omega, fun x hx => by have := h.2 x hx; omega⟩, by rw [totSS_four l h.2]; have := h.1; omega⟩
def cpB (l : List (List Int)) (f g : Int) : List (List Int) × Bool := if (memB l && decide (0 ≤ f ∧ f ≤ l.length - 1)) = true then (if (memB l && decide (0 ≤ g ∧ g ≤ l.length - 1)) = true then (l.set g.toNat (l.getD f.toNat []), true) else ([], false)) else ([], false)
theorem spec_Copy_ev (l : List (List Int)) (hl : Small l) (f g : Int) : Ev (fun k => spec_CopyFrame.f k l f g) (cpB l f g) := by
  unfold spec_CopyFrame.f cpB
  refine Ev.bind (l02Has_ev l hl f) ?_
  by_cases hh : (memB l && decide (0 ≤ f ∧ f ≤ l.length - 1)) = true
  · simp only [if_pos hh]
    refine Ev.bind (l02Has_ev l hl g) ?_
    by_cases hg : (memB l && decide (0 ≤ g ∧ g ≤ l.length - 1)) = true
    · simp only [if_pos hg]
      refine Ev.bind (spec_l02Copy_ev l hl) ?_
      simp only [Bool.and_eq_true, decide_eq_true_eq] at hh hg
      have h4 : (rd_L6 l f).length = 4 := memB_row hh.1 (by omega)
      simp only [Option.bind_some, List.length_nil, List.nil_append, if_pos hh.2.1, if_pos (show f < (l.length : Int) by omega), h4, if_pos (show 0 + 4 < 17592186044416 by omega), if_pos hg.2.1, if_pos (show g < (l.length : Int) by omega)]
      exact Ev.now _
    · simp only [if_neg hg]; exact Ev.now _
  · simp only [if_neg hh]; exact Ev.now _
theorem impl_Copy_ev (l : List (List Int)) (hl : Small l) (f g : Int) : Ev (fun k => impl_CopyFrame.f k l f g) (cpB l f g) := by
  unfold impl_CopyFrame.f cpB
  refine Ev.bind (isFrame_ev l hl f) ?_
  by_cases hh : (memB l && decide (0 ≤ f ∧ f ≤ l.length - 1)) = true
  · simp only [if_pos hh]
    refine Ev.bind (isFrame_ev l hl g) ?_
    by_cases hg : (memB l && decide (0 ≤ g ∧ g ≤ l.length - 1)) = true
    · simp only [if_pos hg]
      refine Ev.bind (impl_copyMem_ev l hl) ?_
      simp only [Bool.and_eq_true, decide_eq_true_eq] at hh hg
      have h4 : (rd_L6 l f).length = 4 := memB_row hh.1 (by omega)
      have h5 : (rd_L6 l g).length = 4 := memB_row hg.1 (by omega)
      simp only [if_pos hh.2.1, if_pos (show f < (l.length : Int) by omega), h4, h5, if_pos hg.2.1, if_pos (show g < (l.length : Int) by omega), Nat.min_self, List.take_of_length_le (show (rd_L6 l f).length ≤ 4 by omega), List.drop_of_length_le (show (rd_L6 l g).length ≤ 4 by omega), List.append_nil]
      exact Ev.now _
    · simp only [if_neg hg]; exact Ev.now _
  · simp only [if_neg hh]; exact Ev.now _
theorem cpB_four (l : List (List Int)) (f g : Int) : Fours (cpB l f g).1 := by
  have hn : Fours [] := ⟨by decide, fun x hx => by cases hx⟩
  unfold cpB
  by_cases hh : (memB l && decide (0 ≤ f ∧ f ≤ l.length - 1)) = true
  · rw [if_pos hh]
    by_cases hg : (memB l && decide (0 ≤ g ∧ g ≤ l.length - 1)) = true
    · rw [if_pos hg]
      simp only [Bool.and_eq_true, decide_eq_true_eq] at hh
      obtain ⟨h1, h2⟩ := memB_small hh.1
      refine ⟨by simpa using h1, fun x hx => ?_⟩
      rcases List.mem_or_eq_of_mem_set hx with hx | hx
      · exact h2 x hx
      · rw [hx]; exact memB_row hh.1 (by omega)
    · rw [if_neg hg]; exact hn
  · rw [if_neg hh]; exact hn

theorem FnExactCopyFrame (l0 : List (List Int)) (g0 : (l0.length ≤ maxLen ∧ ∀ y0 ∈ l0, (y0.length ≤ maxLen ∧ ∀ y1 ∈ y0, (Lit.int .i64 y1).wf = true))) (a1 : Int) (_w1 : (Lit.int .i64 a1).wf = true) (a2 : Int) (_w2 : (Lit.int .i64 a2).wf = true) : (∃ (k : Nat) (z : Int) (t : List (List Int)) (y0 : List (List Int)) (y1 : Bool) (m : Int) (M : List (List Int)) (m1 : Int) (M1 : List (List Int)), (laws_szIntSS.f k l0 1048576 = some z) ∧ (laws_toIntSS.f k l0 = some t) ∧ (spec_CopyFrame.f k t a1 a2 = some (y0, y1)) ∧ (impl_CopyFrame.f k t a1 a2 = some (y0, y1)) ∧ (laws_eqIntSS.f k y0 y0 = some true) ∧ (laws_eqIntSS.f k t t = some true) ∧ (laws_markIntSS.f k t 1 = some (m, M)) ∧ (laws_markIntSS.f k y0 1 = some (m1, M1)) ∧ (laws_heldIntSS.f k M1 1 = some m1) ∧ (¬ z < 0) ∧ (¬ m < 0) ∧ (¬ m1 < 0)) ∨ (∃ (k : Nat) (z : Int), (laws_szIntSS.f k l0 1048576 = some z) ∧ (z < 0)) := by
  obtain ⟨z, ⟨n0, e0⟩, hz⟩ := szIntSS_ev l0 g0.1 (fun x hx => (g0.2 x hx).1) 1048576 (by omega) (by omega)
  by_cases hneg : z < 0
  · exact Or.inr ⟨n0, z, e0 _ (by omega), hneg⟩
  · refine Or.inl ?_
    have hq := hz (by omega)
    have hsm : Small l0 := Small.of_sum (by omega)
    have ht : totSS l0 ≤ 1048576 := by unfold totSS; omega
    obtain ⟨h4, h5⟩ := (cpB_four l0 a1 a2).small
    have hs := spec_Copy_ev l0 hsm a1 a2
    have hi := impl_Copy_ev l0 hsm a1 a2
    generalize cpB l0 a1 a2 = y at *
    obtain ⟨n1, e1⟩ := toIntSS_ev l0 hsm
    obtain ⟨n2, e2⟩ := hs
    obtain ⟨n3, e3⟩ := hi
    obtain ⟨n4, e4⟩ := eqIntSS_refl y.1 h4
    obtain ⟨n5, e5⟩ := eqIntSS_refl l0 hsm
    obtain ⟨n6, e6⟩ := markIntSS_ev l0 hsm 1 (by omega) (by omega)
    obtain ⟨n7, e7⟩ := markIntSS_ev y.1 h4 1 (by omega) (by omega)
    obtain ⟨n8, e8⟩ := heldIntSS_ev y.1 h4 1 (by omega) (by omega)
    exact ⟨n0 + n1 + n2 + n3 + n4 + n5 + n6 + n7 + n8, z, l0, y.1, y.2, _, _, _, _, e0 _ (by omega), e1 _ (by omega), e2 _ (by omega), e3 _ (by omega), e4 _ (by omega), e5 _ (by omega), e6 _ (by omega), e7 _ (by omega), e8 _ (by omega), hneg, by omega, by omega⟩

end Go.Proofs.Ytpkhoanaifpopaa.Pure
