/- MemoryNew answers as the reference at every int, and its answer owns its memory: the plain half. No condition. -/
import Derived.Test.YtjankmemilanhaaP0
import Derived.Test.YtjankmemilanhaaP3
import Derived.Test.YtjankmemilanhaaP5
import Derived.Test.YtjankmemilanhaaP42
import Derived.Test.YtjankmemilanhaaP43
import Derived.Test.YtjankmemilanhaaP44
import Derived.Test.YtjankmemilanhaaP45
import Derived.Test.YtjankmemilanhaaP46
import Derived.Test.YtjankmemilanhaaP47
import Derived.Test.YtjankmemilanhaaP48
import Derived.Test.YtjankmemilanhaaP49
import Derived.Test.YtjankmemilanhaaP50
import Derived.Test.YtjankmemilanhaaP51
import Derived.Test.YtjankmemilanhaaP53
import Derived.Test.YtjankmemilanhaaP54
import Derived.Test.YtjankmemilanhaaP56
import Derived.Test.YtjankmemilanhaaP57
import Derived.Test.YtjankmemilanhaaAid
namespace Go.Proofs.Ytjankmemilanhaa.Pure
open Go.RowKit Go.Proofs.Ytjankmemilanhaa.P Go.Proofs.YtjankmemilanhaaW.PrintWords Go.Proofs.YtjankmemilanhaaW.PrintLast Go.Proofs.YtjankmemilanhaaW.PrintMore Go.Proofs.Ytjankmemilanhaa.Aid
set_option linter.unusedVariables false
set_option linter.unusedSimpArgs false

theorem l01In_eq (a b c : Int) : spec_l01In.f a b c = some (decide (b ≤ a ∧ a ≤ c)) := in_dec a b c
theorem within_eq (a b c : Int) : impl_within.f a b c = some (decide (b ≤ a ∧ a ≤ c)) := in_dec a b c
def sizeB (n : Int) : Bool := decide (8 ≤ n ∧ n ≤ 32) && decide (n % 8 = 0)
theorem sizeB_bd {n : Int} (h : sizeB n = true) : 8 ≤ n ∧ n ≤ 32 ∧ n % 8 = 0 := by
  simp only [sizeB, Bool.and_eq_true, decide_eq_true_eq] at h
  exact ⟨h.1.1, h.1.2, h.2⟩
theorem l02Frames_eq (n : Int) : spec_l02Frames.f n = some (sizeB n) := by
  unfold spec_l02Frames.f sizeB
  rw [l01In_eq]
  simp only [Option.bind_some]
  by_cases h : 8 ≤ n ∧ n ≤ 32
  · rw [if_pos (by simpa using h), tmod_nonneg (by omega) (by omega), decide_eq_true h]; rfl
  · rw [if_neg (by simpa using h), decide_eq_false h]; rfl
theorem isSize_eq (n : Int) : impl_isSize.f n = some (sizeB n) := by
  unfold impl_isSize.f sizeB
  rw [within_eq]
  simp only [Option.bind_some]
  by_cases h : 8 ≤ n ∧ n ≤ 32
  · rw [if_pos (by simpa using h), tmod_nonneg (by omega) (by omega), decide_eq_true h]; rfl
  · rw [if_neg (by simpa using h), decide_eq_false h]; rfl
theorem szIntS_eq (l : List Int) (hl : l.length ≤ maxLen) (a : Int) (h0 : 0 ≤ a) (h1 : a ≤ 1048576) : laws_szIntS.f l a = some (if (l.length : Int) ≤ a then a - l.length else -1) := by
  unfold maxLen at hl
  unfold laws_szIntS.f
  have e : wrap64 (a - (l.length : Int)) = a - l.length := by unfold wrap64; omega
  rw [e]
  by_cases h : (l.length : Int) ≤ a
  · rw [if_neg (by omega), if_pos h]
  · rw [if_pos (by omega), if_neg h]
theorem toIntS_ev (l : List Int) (hl : l.length ≤ 1048576) : Ev (fun k => laws_toIntS.f k l) l := by
  have key := ev_copy0 (fun k acc i => laws_toIntS.l0 k l acc (i : Int)) l.length (fun i => l.getD i 0) id (by
    intro i acc hi ha r h
    refine Ev.step (fun k => ?_) h
    simp only [laws_toIntS.l0]
    rw [if_pos (by omega), if_pos (by omega), if_pos (by omega), wrap_succ (by omega), toNat_cast]
    rfl) (by
    intro acc ha
    refine Ev.of_succ (fun k => ?_)
    simp only [laws_toIntS.l0]
    rw [if_neg (by omega)]
    rfl) (List.replicate l.length 0) (by simp)
  rw [range_map_getD] at key
  refine Ev.congr (fun k => ?_) key
  unfold laws_toIntS.f
  rw [if_pos (by omega), if_pos (by omega), toNat_cast]
  rfl
theorem eqIntS_refl (l : List Int) (hl : l.length ≤ 1048576) : Ev (fun k => laws_eqIntS.f k l l) true := by
  have key := ev_all0 (fun k i => laws_eqIntS.l0 k l l (i : Int)) l.length (fun _ => true) false true (by
    intro i hi _ r h
    refine Ev.step (fun k => ?_) h
    simp only [laws_eqIntS.l0]
    rw [if_pos (by omega), if_pos (by omega), if_pos (by omega), if_pos trivial, wrap_succ (by omega)]) (by intro i _ h; cases h) (by
    refine Ev.of_succ (fun k => ?_)
    simp only [laws_eqIntS.l0]
    rw [if_neg (by omega)])
  rw [if_pos (by simp)] at key
  refine Ev.congr (fun k => ?_) key
  unfold laws_eqIntS.f
  rw [if_pos rfl]
  rfl
def upInt (a : Int) (n : Nat) : List Int := (List.range n).map (fun j : Nat => a + (j : Int))
theorem upInt_len (a : Int) (n : Nat) : (upInt a n).length = n := by simp [upInt]
theorem upInt_getD (a : Int) (n i : Nat) (h : i < n) : (upInt a n).getD i 0 = a + i := by simp [upInt, List.getD_eq_getElem?_getD, h]
theorem markIntS_ev (l : List Int) (hl : l.length ≤ 1048576) (a : Int) (h0 : 0 ≤ a) (h1 : a ≤ 1000000000) : Ev (fun k => laws_markIntS.f k l a) (a + l.length, upInt a l.length) := by
  have key := ev_copy0 (fun k acc i => laws_markIntS.l0 k acc (a + (i : Int)) (i : Int)) l.length (fun i => a + (i : Int)) (fun acc => (a + (l.length : Int), acc)) (by
    intro i acc hi ha r h
    refine Ev.step (fun k => ?_) h
    simp only [laws_markIntS.l0]
    rw [if_pos (by omega), if_pos (by omega), wrap_succ (by omega), toNat_cast, wrap64_id (n := a + (i : Int) + 1) (by omega) (by omega), show a + (i : Int) + 1 = a + ((i + 1 : Nat) : Int) by omega]) (by
    intro acc ha
    refine Ev.of_succ (fun k => ?_)
    simp only [laws_markIntS.l0]
    rw [if_neg (by omega)]) l rfl
  simp only [show ((0 : Nat) : Int) = 0 from rfl, Int.add_zero] at key
  exact key
theorem heldIntS_ev (n : Nat) (hn : n ≤ 1048576) (a : Int) (h0 : 0 ≤ a) (h1 : a ≤ 1000000000) : Ev (fun k => laws_heldIntS.f k (upInt a n) a) (a + n) := by
  have key := ev_yes (fun k i => laws_heldIntS.l0 k (upInt a n) (a + (i : Int)) (i : Int)) n (fun _ => true) (a + (n : Int)) (by
    intro i hi _ r h
    refine Ev.step (fun k => ?_) h
    simp only [laws_heldIntS.l0]
    rw [upInt_len, if_pos (by omega), if_pos (by omega), if_pos (by unfold rd; rw [toNat_cast, upInt_getD _ _ _ hi]), wrap_succ (by omega), wrap64_id (n := a + (i : Int) + 1) (by omega) (by omega), show a + (i : Int) + 1 = a + ((i + 1 : Nat) : Int) by omega]) (by simp) (by
    refine Ev.of_succ (fun k => ?_)
    simp only [laws_heldIntS.l0]
    rw [upInt_len, if_neg (by omega)])
  simp only [show ((0 : Nat) : Int) = 0 from rfl, Int.add_zero] at key
  exact key
theorem rdL (l : List (List Int)) (i : Nat) : rd_L5 l (i : Int) = l.getD i [] := by unfold rd_L5; rw [toNat_cast]
/-- What the count of a list of lists tells, where it does not refuse. -/
theorem szIntSS_ev (l : List (List Int)) (hl : l.length ≤ maxLen) (hls : ∀ x ∈ l, x.length ≤ maxLen) (a : Int) (h0 : 0 ≤ a) (h1 : a ≤ 1048576) :
    ∃ r, Ev (fun k => laws_szIntSS.f k l a) r ∧ (0 ≤ r → (l.length : Int) + ((l.map List.length).sum : Nat) + r ≤ a) := by
  by_cases hlen : (l.length : Int) ≤ a
  · have key : ∀ (d i : Nat) (b : Int), i + d = l.length → 0 ≤ b → b ≤ 1048576 → ∃ r, Ev (fun k => laws_szIntSS.l0 k l b (i : Int)) r ∧ (0 ≤ r → (((l.drop i).map List.length).sum : Nat) + r ≤ b) := by
      intro d
      induction d with
      | zero =>
        intro i b hi hb hb1
        refine ⟨b, Ev.of_succ (fun k => ?_), fun _ => ?_⟩
        · simp only [laws_szIntSS.l0]
          rw [if_neg (by omega)]
        · rw [List.drop_of_length_le (by omega)]; simp
      | succ d ih =>
        intro i b hi hb hb1
        have hi' : i < l.length := by omega
        have hmem := List.getElem_mem hi'
        have hx : l.getD i [] = l[i] := by simp [List.getD_eq_getElem?_getD, List.getElem?_eq_getElem hi']
        have hd : l.drop i = l[i] :: l.drop (i + 1) := List.drop_eq_getElem_cons hi'
        have hs := szIntS_eq l[i] (hls _ hmem) b hb hb1
        by_cases hle : (l[i].length : Int) ≤ b
        · obtain ⟨r, hr, hr2⟩ := ih (i + 1) (b - l[i].length) (by omega) (by omega) (by omega)
          refine ⟨r, Ev.step (fun k => ?_) hr, fun h => ?_⟩
          · simp only [laws_szIntSS.l0]
            rw [if_pos (by omega), if_pos (by omega), rdL, hx, hs, if_pos hle]
            simp only [Option.bind_some]
            rw [if_neg (by omega), wrap_succ (by simp only [maxLen] at hl; omega)]
          · have := hr2 h
            rw [hd]; simp only [List.map_cons, List.sum_cons]; omega
        · refine ⟨-1, Ev.of_succ (fun k => ?_), fun h => by omega⟩
          simp only [laws_szIntSS.l0]
          rw [if_pos (by omega), if_pos (by omega), rdL, hx, hs, if_neg hle]
          simp only [Option.bind_some]
          rw [if_pos (by omega)]
    obtain ⟨r, hr, hr2⟩ := key l.length 0 (a - l.length) (by omega) (by omega) (by omega)
    refine ⟨r, Ev.congr (fun k => ?_) hr, fun h => by have := hr2 h; simp only [List.drop_zero] at this; omega⟩
    unfold laws_szIntSS.f
    have e : wrap64 (a - (l.length : Int)) = a - l.length := by unfold wrap64; omega
    rw [e, if_neg (by omega)]
    rfl
  · refine ⟨-1, Ev.const (fun k => ?_), fun h => by omega⟩
    unfold maxLen at hl
    unfold laws_szIntSS.f
    have e : wrap64 (a - (l.length : Int)) = a - l.length := by unfold wrap64; omega
    rw [e, if_pos (by omega)]
theorem le_sum {l : List Nat} {x : Nat} (h : x ∈ l) : x ≤ l.sum := by
  induction l with
  | nil => cases h
  | cons y l ih =>
    rcases List.mem_cons.1 h with rfl | h
    · simp
    · have := ih h; simp; omega
def Small (l : List (List Int)) : Prop := l.length ≤ 1048576 ∧ ∀ x ∈ l, x.length ≤ 1048576
theorem Small.of_sum {l : List (List Int)} (h : (l.length : Int) + ((l.map List.length).sum : Nat) ≤ 1048576) : Small l :=
  ⟨by omega, fun x hx => by have := le_sum (List.mem_map_of_mem (f := List.length) hx); omega⟩
theorem Small.at_ {l : List (List Int)} (h : Small l) (i : Nat) : (l.getD i []).length ≤ 1048576 := by
  by_cases hi : i < l.length
  · rw [List.getD_eq_getElem?_getD, List.getElem?_eq_getElem hi]; exact h.2 _ (List.getElem_mem hi)
  · rw [List.getD_eq_getElem?_getD, List.getElem?_eq_none (by omega)]; simp
theorem toIntSS_ev (l : List (List Int)) (hl : Small l) : Ev (fun k => laws_toIntSS.f k l) l := by
  have h1 := hl.1
  have key := ev_copy0 (fun k acc i => laws_toIntSS.l0 k l acc (i : Int)) l.length (fun i => l.getD i []) id (by
    intro i acc hi ha r h
    refine Ev.step (f := fun k => (laws_toIntS.f k (l.getD i [])).bind fun t => laws_toIntSS.l0 k l (acc.set i t) ((i + 1 : Nat) : Int)) (fun k => ?_) (Ev.bind (toIntS_ev _ (hl.at_ i)) h)
    simp only [laws_toIntSS.l0]
    rw [if_pos (by omega), if_pos (by omega), rdL, wrap_succ (by omega), toNat_cast]
    congr 1
    funext t
    rw [if_pos (by omega)]) (by
    intro acc ha
    refine Ev.of_succ (fun k => ?_)
    simp only [laws_toIntSS.l0]
    rw [if_neg (by omega)]
    rfl) (List.replicate l.length []) (by simp)
  rw [range_map_getD] at key
  refine Ev.congr (fun k => ?_) key
  unfold laws_toIntSS.f
  rw [if_pos (by omega), if_pos (by omega), toNat_cast]
  rfl
theorem eqIntSS_refl (l : List (List Int)) (hl : Small l) : Ev (fun k => laws_eqIntSS.f k l l) true := by
  have h1 := hl.1
  have key := ev_all0 (fun k i => laws_eqIntSS.l0 k l l (i : Int)) l.length (fun _ => true) false true (by
    intro i hi _ r h
    refine Ev.step (f := fun k => (laws_eqIntS.f k (l.getD i []) (l.getD i [])).bind fun t => if t = true then laws_eqIntSS.l0 k l l ((i + 1 : Nat) : Int) else some false) (fun k => ?_) (Ev.bind (eqIntS_refl _ (hl.at_ i)) (by simpa using h))
    simp only [laws_eqIntSS.l0]
    rw [if_pos (by omega), if_pos (by omega), if_pos (by omega), rdL, wrap_succ (by omega)]) (by intro i _ h; cases h) (by
    refine Ev.of_succ (fun k => ?_)
    simp only [laws_eqIntSS.l0]
    rw [if_neg (by omega)])
  rw [if_pos (by simp)] at key
  refine Ev.congr (fun k => ?_) key
  unfold laws_eqIntSS.f
  rw [if_pos rfl]
  rfl
/-- What is marked, row by row. -/
def markSS : Int → List (List Int) → List (List Int)
  | _, [] => []
  | a, x :: xs => upInt a x.length :: markSS (a + x.length) xs
def totSS (l : List (List Int)) : Nat := (l.map List.length).sum
theorem totSS_cons (x : List Int) (l : List (List Int)) : totSS (x :: l) = x.length + totSS l := by simp [totSS]
theorem markSS_len (a : Int) (l : List (List Int)) : (markSS a l).length = l.length := by
  induction l generalizing a with
  | nil => rfl
  | cons x l ih => simp [markSS, ih]
theorem getD_mid {α : Type} (pre : List α) (x : α) (rest : List α) (d : α) : (pre ++ x :: rest).getD pre.length d = x := by
  simp [List.getD_eq_getElem?_getD]
theorem set_mid {α : Type} (pre : List α) (x y : α) (rest : List α) : (pre ++ x :: rest).set pre.length y = (pre ++ [y]) ++ rest := by
  rw [List.set_append_right _ _ (Nat.le_refl _)]
  simp
theorem markSS_loop : ∀ (rest pre : List (List Int)) (b : Int), (∀ x ∈ rest, x.length ≤ 1048576) → pre.length + rest.length ≤ 1048576 → 0 ≤ b → b + totSS rest ≤ 1000000000 →
    Ev (fun k => laws_markIntSS.l0 k (pre ++ rest) b (pre.length : Int)) (b + totSS rest, pre ++ markSS b rest) := by
  intro rest
  induction rest with
  | nil =>
    intro pre b _ hl h0 h1
    refine Ev.of_succ (fun k => ?_)
    simp only [laws_markIntSS.l0]
    rw [if_neg (by simp)]
    simp [totSS, markSS]
  | cons x rest ih =>
    intro pre b hx hl h0 h1
    rw [totSS_cons] at h1 ⊢
    simp only [List.length_cons] at hl
    have hxl := hx x List.mem_cons_self
    have hm := markIntS_ev x hxl b h0 (by omega)
    have hi := ih (pre ++ [upInt b x.length]) (b + x.length) (fun y hy => hx y (List.mem_cons_of_mem _ hy)) (by simp only [List.length_append, List.length_cons, List.length_nil]; omega) (by omega) (by omega)
    rw [show b + (x.length : Int) + (totSS rest : Nat) = b + ((x.length + totSS rest : Nat) : Int) by omega] at hi
    rw [show pre ++ markSS b (x :: rest) = (pre ++ [upInt b x.length]) ++ markSS (b + x.length) rest by simp [markSS]]
    refine Ev.step (f := fun k => (laws_markIntS.f k x b).bind fun t => laws_markIntSS.l0 k ((pre ++ [t.2]) ++ rest) t.1 ((pre.length + 1 : Nat) : Int)) (fun k => ?_) (Ev.bind hm ?_)
    · simp only [laws_markIntSS.l0]
      rw [if_pos (by simp only [List.length_append, List.length_cons]; omega), if_pos (by omega), toNat_cast, getD_mid, wrap_succ (by omega)]
      simp only [set_mid]
    · simp only [List.length_append, List.length_cons, List.length_nil] at hi
      exact hi
theorem markIntSS_ev (l : List (List Int)) (hl : Small l) (a : Int) (h0 : 0 ≤ a) (h1 : a + totSS l ≤ 1000000000) : Ev (fun k => laws_markIntSS.f k l a) (a + totSS l, markSS a l) := by
  have := markSS_loop l [] a hl.2 (by simpa using hl.1) h0 h1
  exact this
theorem heldSS_loop : ∀ (rest pre : List (List Int)) (b : Int), (∀ x ∈ rest, x.length ≤ 1048576) → pre.length + rest.length ≤ 1048576 → 0 ≤ b → b + totSS rest ≤ 1000000000 →
    Ev (fun k => laws_heldIntSS.l0 k (pre ++ markSS b rest) b (pre.length : Int)) (b + totSS rest) := by
  intro rest
  induction rest with
  | nil =>
    intro pre b _ hl h0 h1
    refine Ev.of_succ (fun k => ?_)
    simp only [laws_heldIntSS.l0]
    rw [if_neg (by simp [markSS])]
    simp [totSS]
  | cons x rest ih =>
    intro pre b hx hl h0 h1
    rw [totSS_cons] at h1 ⊢
    simp only [List.length_cons] at hl
    have hxl := hx x List.mem_cons_self
    have hm := heldIntS_ev x.length hxl b h0 (by omega)
    have hi := ih (pre ++ [upInt b x.length]) (b + x.length) (fun y hy => hx y (List.mem_cons_of_mem _ hy)) (by simp only [List.length_append, List.length_cons, List.length_nil]; omega) (by omega) (by omega)
    rw [show b + (x.length : Int) + (totSS rest : Nat) = b + ((x.length + totSS rest : Nat) : Int) by omega] at hi
    have hml := markSS_len (b + x.length) rest
    refine Ev.step (f := fun k => (laws_heldIntS.f k (upInt b x.length) b).bind fun t307 => (if t307 < 0 then (some (-1)) else (laws_heldIntSS.l0 k (pre ++ markSS b (x :: rest)) t307 ((pre.length + 1 : Nat) : Int)))) (fun k => ?_) (Ev.bind hm ?_)
    · simp only [laws_heldIntSS.l0]
      rw [if_pos (by simp only [List.length_append, markSS, List.length_cons]; omega), if_pos (by omega), rdL, wrap_succ (by omega)]
      simp only [markSS, getD_mid]
    · simp only [if_neg (show ¬ b + (x.length : Int) < 0 by omega)]
      rw [show pre ++ markSS b (x :: rest) = (pre ++ [upInt b x.length]) ++ markSS (b + x.length) rest by simp [markSS]]
      simp only [List.length_append, List.length_cons, List.length_nil] at hi
      exact hi
theorem heldIntSS_ev (l : List (List Int)) (hl : Small l) (a : Int) (h0 : 0 ≤ a) (h1 : a + totSS l ≤ 1000000000) : Ev (fun k => laws_heldIntSS.f k (markSS a l) a) (a + totSS l) := by
  have := heldSS_loop l [] a hl.2 (by simpa using hl.1) h0 h1
  exact this

def newMem (n : Nat) : List (List Int) := List.replicate n (List.replicate 4 0)
theorem newMem_succ (n : Nat) : newMem n ++ [List.replicate 4 0] = newMem (n + 1) := by unfold newMem; exact List.replicate_succ'.symm
theorem spec_new (n : Int) (hn : n ≤ 32) : ∀ (d i : Nat), (n ≤ (i : Int) + d) → (i : Int) ≤ n → Ev (fun k => spec_MemoryNew.l0 k n (newMem i) (i : Int)) (newMem n.toNat, true) := by
  intro d
  induction d with
  | zero =>
    intro i h1 h2
    refine Ev.of_succ (fun k => ?_)
    simp only [spec_MemoryNew.l0]
    rw [if_neg (by omega), show n.toNat = i by omega]
  | succ d ih =>
    intro i h1 h2
    by_cases h : (i : Int) < n
    · refine Ev.step (fun k => ?_) (ih (i + 1) (by omega) (by omega))
      simp only [spec_MemoryNew.l0]
      rw [if_pos h, if_pos (by omega), if_pos (by unfold newMem; rw [List.length_replicate]; omega), newMem_succ, wrap_succ (by omega)]
    · refine Ev.of_succ (fun k => ?_)
      simp only [spec_MemoryNew.l0]
      rw [if_neg h, show n.toNat = i by omega]
theorem impl_new (n : Int) (hn : n ≤ 32) : ∀ (d i : Nat), (n ≤ (i : Int) + d) → (i : Int) ≤ n → Ev (fun k => impl_MemoryNew.l0 k (newMem i) n (i : Int)) (newMem n.toNat, true) := by
  intro d
  induction d with
  | zero =>
    intro i h1 h2
    refine Ev.of_succ (fun k => ?_)
    simp only [impl_MemoryNew.l0]
    rw [if_neg (by omega), show n.toNat = i by omega]
  | succ d ih =>
    intro i h1 h2
    by_cases h : (i : Int) < n
    · refine Ev.step (fun k => ?_) (ih (i + 1) (by omega) (by omega))
      simp only [impl_MemoryNew.l0]
      rw [if_pos h, if_pos (by omega), if_pos (by unfold newMem; rw [List.length_replicate]; omega), newMem_succ, wrap_succ (by omega)]
    · refine Ev.of_succ (fun k => ?_)
      simp only [impl_MemoryNew.l0]
      rw [if_neg h, show n.toNat = i by omega]
def newB (n : Int) : List (List Int) × Bool := if sizeB n = true then (newMem n.toNat, true) else ([], false)
theorem spec_New_ev (n : Int) : Ev (fun k => spec_MemoryNew.f k n) (newB n) := by
  unfold spec_MemoryNew.f newB
  rw [l02Frames_eq]
  simp only [Option.bind_some]
  by_cases hs : sizeB n = true
  · obtain ⟨h1, h2, h3⟩ := sizeB_bd hs
    simp only [if_pos hs]
    exact spec_new n h2 n.toNat 0 (by omega) (by omega)
  · simp only [if_neg hs]; exact Ev.now _
theorem impl_New_ev (n : Int) : Ev (fun k => impl_MemoryNew.f k n) (newB n) := by
  unfold impl_MemoryNew.f newB
  rw [isSize_eq]
  simp only [Option.bind_some]
  by_cases hs : sizeB n = true
  · obtain ⟨h1, h2, h3⟩ := sizeB_bd hs
    simp only [if_pos hs]
    exact impl_new n h2 n.toNat 0 (by omega) (by omega)
  · simp only [if_neg hs]; exact Ev.now _
theorem newB_small (n : Int) : Small (newB n).1 ∧ totSS (newB n).1 ≤ 128 := by
  unfold newB
  by_cases hs : sizeB n = true
  · obtain ⟨h1, h2, h3⟩ := sizeB_bd hs
    rw [if_pos hs]
    refine ⟨⟨by unfold newMem; rw [List.length_replicate]; omega, fun x hx => ?_⟩, ?_⟩
    · rw [List.eq_of_mem_replicate hx]; decide
    · show totSS (newMem n.toNat) ≤ 128
      unfold totSS newMem
      rw [List.map_replicate, List.sum_replicate_nat, List.length_replicate]
      omega
  · rw [if_neg hs]
    exact ⟨⟨by decide, fun x hx => by cases hx⟩, by decide⟩

theorem FnExactMemoryNew (a0 : Int) (_w0 : (Lit.int .i64 a0).wf = true) : (∃ (k : Nat) (x0 : List (List Int)) (x1 : Bool) (m : Int) (M : List (List Int)), (spec_MemoryNew.f k a0 = some (x0, x1)) ∧ (impl_MemoryNew.f k a0 = some (x0, x1)) ∧ (laws_eqIntSS.f k x0 x0 = some true) ∧ (laws_markIntSS.f k x0 1 = some (m, M)) ∧ (laws_heldIntSS.f k M 1 = some m) ∧ (¬ m < 0)) := by
  obtain ⟨hsm, htot⟩ := newB_small a0
  have h1 := spec_New_ev a0
  have h2 := impl_New_ev a0
  generalize newB a0 = x at *
  obtain ⟨n1, e1⟩ := h1
  obtain ⟨n2, e2⟩ := h2
  obtain ⟨n3, e3⟩ := eqIntSS_refl x.1 hsm
  obtain ⟨n4, e4⟩ := markIntSS_ev x.1 hsm 1 (by omega) (by omega)
  obtain ⟨n5, e5⟩ := heldIntSS_ev x.1 hsm 1 (by omega) (by omega)
  exact ⟨n1 + n2 + n3 + n4 + n5, x.1, x.2, _, _, e1 _ (by omega), e2 _ (by omega), e3 _ (by omega), e4 _ (by omega), e5 _ (by omega), by omega⟩

end Go.Proofs.Ytjankmemilanhaa.Pure
