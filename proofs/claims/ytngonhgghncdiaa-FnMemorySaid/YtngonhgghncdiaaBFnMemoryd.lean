/- What the proof of FnMemorySaid rests on, part 4: plain lemmas and contracts of the functions that the law reaches (in part written by a printing program over the translation). No condition. -/
import Derived.Test.YtngonhgghncdiaaBFnMemoryc
section
namespace Go.Proofs.Ytngonhgghncdiaa.Pure
open Go.RowKit Go.Proofs.Ytngonhgghncdiaa.P Go.Proofs.YtngonhgghncdiaaW.PrintWords Go.Proofs.YtngonhgghncdiaaW.PrintLast Go.Proofs.YtngonhgghncdiaaW.PrintMore Go.Proofs.Ytngonhgghncdiaa.Aid
set_option linter.unusedVariables false
set_option linter.unusedSimpArgs false
theorem l01In_eq (a b c : Int) : spec_l01In.f a b c = some (decide (b ≤ a ∧ a ≤ c)) := in_dec a b c
theorem within_eq (a b c : Int) : impl_within.f a b c = some (decide (b ≤ a ∧ a ≤ c)) := in_dec a b c
def sizeB (n : Int) : Bool := decide (8 ≤ n ∧ n ≤ 32) && decide (n % 8 = 0)
theorem sizeB_bd {n : Int} (h : sizeB n = true) : 8 ≤ n ∧ n ≤ 32 ∧ n % 8 = 0 := by
  simp only [sizeB, Bool.and_eq_true, decide_eq_true_eq] at h
  exact ⟨h.1.1, h.1.2, h.2⟩
theorem l02Frames_eq (n : Int) : spec_l02Frames.f n = some (sizeB n) := by
  unfold spec_l02Frames.f sizeB
  rw [l01In_eq]
  simp only [Option.bind_some]
  by_cases h : 8 ≤ n ∧ n ≤ 32
  · rw [if_pos (by simpa using h), tmod_nonneg (by omega) (by omega), decide_eq_true h]; rfl
  · rw [if_neg (by simpa using h), decide_eq_false h]; rfl
theorem isSize_eq (n : Int) : impl_isSize.f n = some (sizeB n) := by
  unfold impl_isSize.f sizeB
  rw [within_eq]
  simp only [Option.bind_some]
  by_cases h : 8 ≤ n ∧ n ≤ 32
  · rw [if_pos (by simpa using h), tmod_nonneg (by omega) (by omega), decide_eq_true h]; rfl
  · rw [if_neg (by simpa using h), decide_eq_false h]; rfl
theorem szIntS_eq (l : List Int) (hl : l.length ≤ maxLen) (a : Int) (h0 : 0 ≤ a) (h1 : a ≤ 1048576) : laws_szIntS.f l a = some (if (l.length : Int) ≤ a then a - l.length else -1) := by
  unfold maxLen at hl
  unfold laws_szIntS.f
  have e : wrap64 (a - (l.length : Int)) = a - l.length := by unfold wrap64; omega
  rw [e]
  by_cases h : (l.length : Int) ≤ a
  · rw [if_neg (by omega), if_pos h]
  · rw [if_pos (by omega), if_neg h]
theorem toIntS_ev (l : List Int) (hl : l.length ≤ 1048576) : Ev (fun k => laws_toIntS.f k l) l := by
  have key := ev_copy0 (fun k acc i => laws_toIntS.l0 k l acc (i : Int)) l.length (fun i => l.getD i 0) id (by
    intro i acc hi ha r h
    refine Ev.step (fun k => ?_) h
    simp only [laws_toIntS.l0]
    rw [if_pos (by omega), if_pos (by omega), if_pos (by omega), wrap_succ (by omega), toNat_cast]
    rfl) (by
    intro acc ha
    refine Ev.of_succ (fun k => ?_)
    simp only [laws_toIntS.l0]
    rw [if_neg (by omega)]
    rfl) (List.replicate l.length 0) (by simp)
  rw [range_map_getD] at key
  refine Ev.congr (fun k => ?_) key
  unfold laws_toIntS.f
  rw [if_pos (by omega), if_pos (by omega), toNat_cast]
  rfl
theorem eqIntS_refl (l : List Int) (hl : l.length ≤ 1048576) : Ev (fun k => laws_eqIntS.f k l l) true := by
  have key := ev_all0 (fun k i => laws_eqIntS.l0 k l l (i : Int)) l.length (fun _ => true) false true (by
    intro i hi _ r h
    refine Ev.step (fun k => ?_) h
    simp only [laws_eqIntS.l0]
    rw [if_pos (by omega), if_pos (by omega), if_pos (by omega), if_pos trivial, wrap_succ (by omega)]) (by intro i _ h; cases h) (by
    refine Ev.of_succ (fun k => ?_)
    simp only [laws_eqIntS.l0]
    rw [if_neg (by omega)])
  rw [if_pos (by simp)] at key
  refine Ev.congr (fun k => ?_) key
  unfold laws_eqIntS.f
  rw [if_pos rfl]
  rfl
def upInt (a : Int) (n : Nat) : List Int := (List.range n).map (fun j : Nat => a + (j : Int))
theorem upInt_len (a : Int) (n : Nat) : (upInt a n).length = n := by simp [upInt]
theorem upInt_getD (a : Int) (n i : Nat) (h : i < n) : (upInt a n).getD i 0 = a + i := by simp [upInt, List.getD_eq_getElem?_getD, h]
theorem markIntS_ev (l : List Int) (hl : l.length ≤ 1048576) (a : Int) (h0 : 0 ≤ a) (h1 : a ≤ 1000000000) : Ev (fun k => laws_markIntS.f k l a) (a + l.length, upInt a l.length) := by
  have key := ev_copy0 (fun k acc i => laws_markIntS.l0 k acc (a + (i : Int)) (i : Int)) l.length (fun i => a + (i : Int)) (fun acc => (a + (l.length : Int), acc)) (by
    intro i acc hi ha r h
    refine Ev.step (fun k => ?_) h
    simp only [laws_markIntS.l0]
    rw [if_pos (by omega), if_pos (by omega), wrap_succ (by omega), toNat_cast, wrap64_id (n := a + (i : Int) + 1) (by omega) (by omega), show a + (i : Int) + 1 = a + ((i + 1 : Nat) : Int) by omega]) (by
    intro acc ha
    refine Ev.of_succ (fun k => ?_)
    simp only [laws_markIntS.l0]
    rw [if_neg (by omega)]) l rfl
  simp only [show ((0 : Nat) : Int) = 0 from rfl, Int.add_zero] at key
  exact key
theorem heldIntS_ev (n : Nat) (hn : n ≤ 1048576) (a : Int) (h0 : 0 ≤ a) (h1 : a ≤ 1000000000) : Ev (fun k => laws_heldIntS.f k (upInt a n) a) (a + n) := by
  have key := ev_yes (fun k i => laws_heldIntS.l0 k (upInt a n) (a + (i : Int)) (i : Int)) n (fun _ => true) (a + (n : Int)) (by
    intro i hi _ r h
    refine Ev.step (fun k => ?_) h
    simp only [laws_heldIntS.l0]
    rw [upInt_len, if_pos (by omega), if_pos (by omega), if_pos (by unfold rd; rw [toNat_cast, upInt_getD _ _ _ hi]), wrap_succ (by omega), wrap64_id (n := a + (i : Int) + 1) (by omega) (by omega), show a + (i : Int) + 1 = a + ((i + 1 : Nat) : Int) by omega]) (by simp) (by
    refine Ev.of_succ (fun k => ?_)
    simp only [laws_heldIntS.l0]
    rw [upInt_len, if_neg (by omega)])
  simp only [show ((0 : Nat) : Int) = 0 from rfl, Int.add_zero] at key
  exact key
theorem rdL (l : List (List Int)) (i : Nat) : rd_L2 l (i : Int) = l.getD i [] := by unfold rd_L2; rw [toNat_cast]
theorem szIntSS_ev (l : List (List Int)) (hl : l.length ≤ maxLen) (hls : ∀ x ∈ l, x.length ≤ maxLen) (a : Int) (h0 : 0 ≤ a) (h1 : a ≤ 1048576) :
    ∃ r, Ev (fun k => laws_szIntSS.f k l a) r ∧ (0 ≤ r → (l.length : Int) + ((l.map List.length).sum : Nat) + r ≤ a) := by
  by_cases hlen : (l.length : Int) ≤ a
  · have key : ∀ (d i : Nat) (b : Int), i + d = l.length → 0 ≤ b → b ≤ 1048576 → ∃ r, Ev (fun k => laws_szIntSS.l0 k l b (i : Int)) r ∧ (0 ≤ r → (((l.drop i).map List.length).sum : Nat) + r ≤ b) := by
      intro d
      induction d with
      | zero =>
        intro i b hi hb hb1
        refine ⟨b, Ev.of_succ (fun k => ?_), fun _ => ?_⟩
        · simp only [laws_szIntSS.l0]
          rw [if_neg (by omega)]
        · rw [List.drop_of_length_le (by omega)]; simp
      | succ d ih =>
        intro i b hi hb hb1
        have hi' : i < l.length := by omega
        have hmem := List.getElem_mem hi'
        have hx : l.getD i [] = l[i] := by simp [List.getD_eq_getElem?_getD, List.getElem?_eq_getElem hi']
        have hd : l.drop i = l[i] :: l.drop (i + 1) := List.drop_eq_getElem_cons hi'
        have hs := szIntS_eq l[i] (hls _ hmem) b hb hb1
        by_cases hle : (l[i].length : Int) ≤ b
        · obtain ⟨r, hr, hr2⟩ := ih (i + 1) (b - l[i].length) (by omega) (by omega) (by omega)
          refine ⟨r, Ev.step (fun k => ?_) hr, fun h => ?_⟩
          · simp only [laws_szIntSS.l0]
            rw [if_pos (by omega), if_pos (by omega), rdL, hx, hs, if_pos hle]
            simp only [Option.bind_some]
            rw [if_neg (by omega), wrap_succ (by simp only [maxLen] at hl; omega)]
          · have := hr2 h
            rw [hd]; simp only [List.map_cons, List.sum_cons]; omega
        · refine ⟨-1, Ev.of_succ (fun k => ?_), fun h => by omega⟩
          simp only [laws_szIntSS.l0]
          rw [if_pos (by omega), if_pos (by omega), rdL, hx, hs, if_neg hle]
          simp only [Option.bind_some]
          rw [if_pos (by omega)]
    obtain ⟨r, hr, hr2⟩ := key l.length 0 (a - l.length) (by omega) (by omega) (by omega)
    refine ⟨r, Ev.congr (fun k => ?_) hr, fun h => by have := hr2 h; simp only [List.drop_zero] at this; omega⟩
    unfold laws_szIntSS.f
    have e : wrap64 (a - (l.length : Int)) = a - l.length := by unfold wrap64; omega
    rw [e, if_neg (by omega)]
    rfl
  · refine ⟨-1, Ev.const (fun k => ?_), fun h => by omega⟩
    unfold maxLen at hl
    unfold laws_szIntSS.f
    have e : wrap64 (a - (l.length : Int)) = a - l.length := by unfold wrap64; omega
    rw [e, if_pos (by omega)]
theorem le_sum {l : List Nat} {x : Nat} (h : x ∈ l) : x ≤ l.sum := by
  induction l with
  | nil => cases h
  | cons y l ih =>
    rcases List.mem_cons.1 h with rfl | h
    · simp
    · have := ih h; simp; omega
def Small (l : List (List Int)) : Prop := l.length ≤ 1048576 ∧ ∀ x ∈ l, x.length ≤ 1048576
theorem Small.of_sum {l : List (List Int)} (h : (l.length : Int) + ((l.map List.length).sum : Nat) ≤ 1048576) : Small l :=
  ⟨by omega, fun x hx => by have := le_sum (List.mem_map_of_mem (f := List.length) hx); omega⟩
theorem Small.at_ {l : List (List Int)} (h : Small l) (i : Nat) : (l.getD i []).length ≤ 1048576 := by
  by_cases hi : i < l.length
  · rw [List.getD_eq_getElem?_getD, List.getElem?_eq_getElem hi]; exact h.2 _ (List.getElem_mem hi)
  · rw [List.getD_eq_getElem?_getD, List.getElem?_eq_none (by omega)]; simp
theorem toIntSS_ev (l : List (List Int)) (hl : Small l) : Ev (fun k => laws_toIntSS.f k l) l := by
  have h1 := hl.1
  have key := ev_copy0 (fun k acc i => laws_toIntSS.l0 k l acc (i : Int)) l.length (fun i => l.getD i []) id (by
    intro i acc hi ha r h
    refine Ev.step (f := fun k => (laws_toIntS.f k (l.getD i [])).bind fun t => laws_toIntSS.l0 k l (acc.set i t) ((i + 1 : Nat) : Int)) (fun k => ?_) (Ev.bind (toIntS_ev _ (hl.at_ i)) h)
    simp only [laws_toIntSS.l0]
    rw [if_pos (by omega), if_pos (by omega), rdL, wrap_succ (by omega), toNat_cast]
    congr 1
    funext t
    rw [if_pos (by omega)]) (by
    intro acc ha
    refine Ev.of_succ (fun k => ?_)
    simp only [laws_toIntSS.l0]
    rw [if_neg (by omega)]
    rfl) (List.replicate l.length []) (by simp)
  rw [range_map_getD] at key
  refine Ev.congr (fun k => ?_) key
  unfold laws_toIntSS.f
  rw [if_pos (by omega), if_pos (by omega), toNat_cast]
  rfl
theorem eqIntSS_refl (l : List (List Int)) (hl : Small l) : Ev (fun k => laws_eqIntSS.f k l l) true := by
  have h1 := hl.1
  have key := ev_all0 (fun k i => laws_eqIntSS.l0 k l l (i : Int)) l.length (fun _ => true) false true (by
    intro i hi _ r h
    refine Ev.step (f := fun k => (laws_eqIntS.f k (l.getD i []) (l.getD i [])).bind fun t => if t = true then laws_eqIntSS.l0 k l l ((i + 1 : Nat) : Int) else some false) (fun k => ?_) (Ev.bind (eqIntS_refl _ (hl.at_ i)) (by simpa using h))
    simp only [laws_eqIntSS.l0]
    rw [if_pos (by omega), if_pos (by omega), if_pos (by omega), rdL, wrap_succ (by omega)]) (by intro i _ h; cases h) (by
    refine Ev.of_succ (fun k => ?_)
    simp only [laws_eqIntSS.l0]
    rw [if_neg (by omega)])
  rw [if_pos (by simp)] at key
  refine Ev.congr (fun k => ?_) key
  unfold laws_eqIntSS.f
  rw [if_pos rfl]
  rfl
def markSS : Int → List (List Int) → List (List Int)
  | _, [] => []
  | a, x :: xs => upInt a x.length :: markSS (a + x.length) xs
def totSS (l : List (List Int)) : Nat := (l.map List.length).sum
theorem totSS_cons (x : List Int) (l : List (List Int)) : totSS (x :: l) = x.length + totSS l := by simp [totSS]
theorem markSS_len (a : Int) (l : List (List Int)) : (markSS a l).length = l.length := by
  induction l generalizing a with
  | nil => rfl
  | cons x l ih => simp [markSS, ih]
theorem getD_mid {α : Type} (pre : List α) (x : α) (rest : List α) (d : α) : (pre ++ x :: rest).getD pre.length d = x := by
  simp [List.getD_eq_getElem?_getD]
theorem set_mid {α : Type} (pre : List α) (x y : α) (rest : List α) : (pre ++ x :: rest).set pre.length y = (pre ++ [y]) ++ rest := by
  rw [List.set_append_right _ _ (Nat.le_refl _)]
  simp
theorem markSS_loop : ∀ (rest pre : List (List Int)) (b : Int), (∀ x ∈ rest, x.length ≤ 1048576) → pre.length + rest.length ≤ 1048576 → 0 ≤ b → b + totSS rest ≤ 1000000000 →
    Ev (fun k => laws_markIntSS.l0 k (pre ++ rest) b (pre.length : Int)) (b + totSS rest, pre ++ markSS b rest) := by
  intro rest
  induction rest with
  | nil =>
    intro pre b _ hl h0 h1
    refine Ev.of_succ (fun k => ?_)
    simp only [laws_markIntSS.l0]
    rw [if_neg (by simp)]
    simp [totSS, markSS]
  | cons x rest ih =>
    intro pre b hx hl h0 h1
    rw [totSS_cons] at h1 ⊢
    simp only [List.length_cons] at hl
    have hxl := hx x List.mem_cons_self
    have hm := markIntS_ev x hxl b h0 (by omega)
    have hi := ih (pre ++ [upInt b x.length]) (b + x.length) (fun y hy => hx y (List.mem_cons_of_mem _ hy)) (by simp only [List.length_append, List.length_cons, List.length_nil]; omega) (by omega) (by omega)
    rw [show b + (x.length : Int) + (totSS rest : Nat) = b + ((x.length + totSS rest : Nat) : Int) by omega] at hi
    rw [show pre ++ markSS b (x :: rest) = (pre ++ [upInt b x.length]) ++ markSS (b + x.length) rest by simp [markSS]]
    refine Ev.step (f := fun k => (laws_markIntS.f k x b).bind fun t => laws_markIntSS.l0 k ((pre ++ [t.2]) ++ rest) t.1 ((pre.length + 1 : Nat) : Int)) (fun k => ?_) (Ev.bind hm ?_)
    · simp only [laws_markIntSS.l0]
      rw [if_pos (by simp only [List.length_append, List.length_cons]; omega), if_pos (by omega), toNat_cast, getD_mid, wrap_succ (by omega)]
      simp only [set_mid]
    · simp only [List.length_append, List.length_cons, List.length_nil] at hi
      exact hi
theorem markIntSS_ev (l : List (List Int)) (hl : Small l) (a : Int) (h0 : 0 ≤ a) (h1 : a + totSS l ≤ 1000000000) : Ev (fun k => laws_markIntSS.f k l a) (a + totSS l, markSS a l) := by
  have := markSS_loop l [] a hl.2 (by simpa using hl.1) h0 h1
  exact this
theorem heldSS_loop : ∀ (rest pre : List (List Int)) (b : Int), (∀ x ∈ rest, x.length ≤ 1048576) → pre.length + rest.length ≤ 1048576 → 0 ≤ b → b + totSS rest ≤ 1000000000 →
    Ev (fun k => laws_heldIntSS.l0 k (pre ++ markSS b rest) b (pre.length : Int)) (b + totSS rest) := by
  intro rest
  induction rest with
  | nil =>
    intro pre b _ hl h0 h1
    refine Ev.of_succ (fun k => ?_)
    simp only [laws_heldIntSS.l0]
    rw [if_neg (by simp [markSS])]
    simp [totSS]
  | cons x rest ih =>
    intro pre b hx hl h0 h1
    rw [totSS_cons] at h1 ⊢
    simp only [List.length_cons] at hl
    have hxl := hx x List.mem_cons_self
    have hm := heldIntS_ev x.length hxl b h0 (by omega)
    have hi := ih (pre ++ [upInt b x.length]) (b + x.length) (fun y hy => hx y (List.mem_cons_of_mem _ hy)) (by simp only [List.length_append, List.length_cons, List.length_nil]; omega) (by omega) (by omega)
    rw [show b + (x.length : Int) + (totSS rest : Nat) = b + ((x.length + totSS rest : Nat) : Int) by omega] at hi
    have hml := markSS_len (b + x.length) rest
    refine Ev.step (f := fun k => (laws_heldIntS.f k (upInt b x.length) b).bind fun t307 => (if t307 < 0 then (some (-1)) else (laws_heldIntSS.l0 k (pre ++ markSS b (x :: rest)) t307 ((pre.length + 1 : Nat) : Int)))) (fun k => ?_) (Ev.bind hm ?_)
    · simp only [laws_heldIntSS.l0]
      rw [if_pos (by simp only [List.length_append, markSS, List.length_cons]; omega), if_pos (by omega), rdL, wrap_succ (by omega)]
      simp only [markSS, getD_mid]
    · simp only [if_neg (show ¬ b + (x.length : Int) < 0 by omega)]
      rw [show pre ++ markSS b (x :: rest) = (pre ++ [upInt b x.length]) ++ markSS (b + x.length) rest by simp [markSS]]
      simp only [List.length_append, List.length_cons, List.length_nil] at hi
      exact hi
theorem heldIntSS_ev (l : List (List Int)) (hl : Small l) (a : Int) (h0 : 0 ≤ a) (h1 : a + totSS l ≤ 1000000000) : Ev (fun k => laws_heldIntSS.f k (markSS a l) a) (a + totSS l) := by
  have := heldSS_loop l [] a hl.2 (by simpa using hl.1) h0 h1
  exact this
def wordB (x : Int) : Bool := decide (0 ≤ x ∧ x ≤ 100000)
def rowB (r : List Int) : Bool := r.all wordB && decide (r.length = 4)
theorem wordsOk_ev (r : List Int) (hr : r.length ≤ 1048576) : Ev (fun k => impl_wordsOk.f k r) (rowB r) := by
  have key := ev_all0 (fun k i => impl_wordsOk.l0 k r r (r.length : Int) (i : Int)) r.length (fun i => wordB (r.getD i 0)) false (decide (r.length = 4)) (by
    intro i hi hb q h
    refine Ev.step (fun k => ?_) h
    simp only [impl_wordsOk.l0]
    rw [if_pos (by omega), if_pos (by omega), if_pos (by omega), within_eq]
    simp only [Option.bind_some]
    rw [if_pos (by unfold rd; rw [toNat_cast]; exact hb), wrap_succ (by omega)]) (by
    intro i hi hb
    refine Ev.of_succ (fun k => ?_)
    simp only [impl_wordsOk.l0]
    rw [if_pos (by omega), if_pos (by omega), if_pos (by omega), within_eq]
    simp only [Option.bind_some]
    rw [if_neg (by unfold rd; rw [toNat_cast]; unfold wordB at hb; rw [hb]; simp)]) (by
    refine Ev.of_succ (fun k => ?_)
    simp only [impl_wordsOk.l0]
    rw [if_neg (by omega)]
    congr 1
    by_cases h : r.length = 4
    · rw [decide_eq_true h, h]; rfl
    · rw [decide_eq_false h]; simp; omega)
  rw [range_all r 0 wordB] at key
  have e : (if r.all wordB = true then decide (r.length = 4) else false) = rowB r := by
    unfold rowB; cases r.all wordB <;> simp
  rw [e] at key
  exact key
def memB (l : List (List Int)) : Bool := l.all rowB && sizeB l.length
theorem impl_MemoryOk_ev (l : List (List Int)) (hl : Small l) : Ev (fun k => impl_MemoryOk.f k l) (memB l) := by
  have h1 := hl.1
  have key := ev_all0 (fun k i => impl_MemoryOk.l0 k l l (l.length : Int) (i : Int)) l.length (fun i => rowB (l.getD i [])) false (sizeB l.length) (by
    intro i hi hb q h
    refine Ev.step (f := fun k => (impl_wordsOk.f k (l.getD i [])).bind fun t => if t = true then impl_MemoryOk.l0 k l l (l.length : Int) ((i + 1 : Nat) : Int) else some false) (fun k => ?_) (Ev.bind (wordsOk_ev _ (hl.at_ i)) (by simp only [show rowB (l.getD i []) = true from hb, if_true]; exact h))
    simp only [impl_MemoryOk.l0]
    rw [if_pos (by omega), if_pos (by omega), if_pos (by omega), rdL, wrap_succ (by omega)]) (by
    intro i hi hb
    refine Ev.step (f := fun k => (impl_wordsOk.f k (l.getD i [])).bind fun t => if t = true then impl_MemoryOk.l0 k l l (l.length : Int) ((i + 1 : Nat) : Int) else some false) (fun k => ?_) (Ev.bind (wordsOk_ev _ (hl.at_ i)) (by simp only [show rowB (l.getD i []) = false from hb, Bool.false_eq_true, if_false]; exact Ev.now false))
    simp only [impl_MemoryOk.l0]
    rw [if_pos (by omega), if_pos (by omega), if_pos (by omega), rdL, wrap_succ (by omega)]) (by
    refine Ev.of_succ (fun k => ?_)
    simp only [impl_MemoryOk.l0]
    rw [if_neg (by omega), isSize_eq]
    rfl)
  rw [range_all l [] rowB] at key
  have e : (if l.all rowB = true then sizeB l.length else false) = memB l := by
    unfold memB; cases l.all rowB <;> simp
  rw [e] at key
  exact key
theorem take_getD {α : Type} (l : List α) (d : α) {i : Nat} (h : i < l.length) : l.take i ++ [l.getD i d] = l.take (i + 1) := by
  rw [List.take_succ_eq_append_getElem h]
  simp [List.getD_eq_getElem?_getD, List.getElem?_eq_getElem h]
theorem impl_copyMem_ev (l : List (List Int)) (hl : Small l) : Ev (fun k => impl_copyMem.f k l) l := by
  have h1 := hl.1
  have key := ev_yes (fun k i => impl_copyMem.l0 k (l.take i) l (l.length : Int) (i : Int)) l.length (fun _ => true) l (by
    intro i hi _ r h
    refine Ev.step (fun k => ?_) h
    have hr := hl.at_ i
    simp only [impl_copyMem.l0]
    rw [if_pos (by omega), if_pos (by omega), if_pos (by omega), rdL]
    unfold impl_copyInts.f
    rw [if_pos (by simp only [List.length_nil]; omega)]
    simp only [Option.bind_some, List.nil_append]
    rw [if_pos (by rw [List.length_take]; omega), take_getD l [] hi, wrap_succ (by omega)]) (by simp) (by
    refine Ev.of_succ (fun k => ?_)
    simp only [impl_copyMem.l0]
    rw [if_neg (by omega), List.take_length])
  exact key
theorem len_pred (l : List (List Int)) (hl : Small l) : wrap64 ((l.length : Int) - 1) = l.length - 1 := by have := hl.1; unfold wrap64; omega
theorem memB_row {l : List (List Int)} (h : memB l = true) {i : Nat} (hi : i < l.length) : (l.getD i []).length = 4 := by
  unfold memB at h
  have h := (Bool.and_eq_true _ _ ▸ h : _ ∧ _).1
  have := List.all_eq_true.1 h l[i] (List.getElem_mem hi)
  simp only [rowB, Bool.and_eq_true, decide_eq_true_eq] at this
  rw [List.getD_eq_getElem?_getD, List.getElem?_eq_getElem hi]
  exact this.2
theorem isFrame_ev (l : List (List Int)) (hl : Small l) (f : Int) : Ev (fun k => impl_isFrame.f k l f) (memB l && decide (0 ≤ f ∧ f ≤ l.length - 1)) := by
  unfold impl_isFrame.f
  refine Ev.bind (impl_MemoryOk_ev l hl) ?_
  rw [within_eq, len_pred l hl]
  by_cases h : memB l = true
  · simp only [if_pos h, Option.bind_some, h, Bool.true_and]; exact Ev.now _
  · simp only [if_neg h, Bool.eq_false_iff.2 h, Bool.false_and]; exact Ev.now _
theorem memB_small {l : List (List Int)} (h : memB l = true) : l.length ≤ 32 ∧ ∀ x ∈ l, x.length = 4 := by
  unfold memB at h
  rw [Bool.and_eq_true] at h
  have hs := sizeB_bd h.2
  refine ⟨by omega, fun x hx => ?_⟩
  have := List.all_eq_true.1 h.1 x hx
  simp only [rowB, Bool.and_eq_true, decide_eq_true_eq] at this
  exact this.2
theorem totSS_four : ∀ (l : List (List Int)), (∀ x ∈ l, x.length = 4) → totSS l = 4 * l.length := by
  intro l
  induction l with
  | nil => intro _; rfl
  | cons x l ih =>
    intro h
    rw [totSS_cons, ih (fun y hy => h y (List.mem_cons_of_mem _ hy)), h x List.mem_cons_self, List.length_cons]
    omega
def Fours (l : List (List Int)) : Prop := l.length ≤ 32 ∧ ∀ x ∈ l, x.length = 4
theorem Fours.small {l : List (List Int)} (h : Fours l) : Small l ∧ totSS l ≤ 128 :=
  ⟨⟨by have := h.1; omega, fun x hx => by have := h.2 x hx; omega⟩, by rw [totSS_four l h.2]; have := h.1; omega⟩
def pokeB (l : List (List Int)) (f w v : Int) : List (List Int) × Bool := if (memB l && decide (0 ≤ f ∧ f ≤ l.length - 1)) = true then (if 0 ≤ w ∧ w ≤ 3 then (if 0 ≤ v ∧ v ≤ 100000 then (l.set f.toNat ((l.getD f.toNat []).set w.toNat v), true) else ([], false)) else ([], false)) else ([], false)
theorem poke_last (l : List (List Int)) (f w v : Int) (hh : (memB l && decide (0 ≤ f ∧ f ≤ l.length - 1)) = true) (hw : 0 ≤ w ∧ w ≤ 3) :
    (if 0 ≤ f then (if f < (l.length : Int) then (if 0 ≤ w then (if w < ((rd_L2 l f).length : Int) then (some ((l.set (f : Int).toNat ((rd_L2 l f).set (w : Int).toNat v)), true)) else (none)) else (none)) else (none)) else (none)) = some (l.set f.toNat ((l.getD f.toNat []).set w.toNat v), true) := by
  simp only [Bool.and_eq_true, decide_eq_true_eq] at hh
  have h4 : (rd_L2 l f).length = 4 := memB_row hh.1 (by omega)
  rw [if_pos hh.2.1, if_pos (by omega), if_pos hw.1, if_pos (by omega)]
  rfl
theorem impl_Poke_ev (l : List (List Int)) (hl : Small l) (f w v : Int) : Ev (fun k => impl_Poke.f k l f w v) (pokeB l f w v) := by
  unfold impl_Poke.f pokeB
  refine Ev.bind (isFrame_ev l hl f) ?_
  by_cases hh : (memB l && decide (0 ≤ f ∧ f ≤ l.length - 1)) = true
  · simp only [if_pos hh, within_eq, Option.bind_some]
    by_cases hw : 0 ≤ w ∧ w ≤ 3
    · simp only [decide_eq_true hw, if_true, if_pos hw]
      by_cases hv : 0 ≤ v ∧ v ≤ 100000
      · simp only [decide_eq_true hv, if_true, if_pos hv]
        refine Ev.bind (impl_copyMem_ev l hl) ?_
        rw [poke_last l f w v hh hw]; exact Ev.now _
      · simp only [decide_eq_false hv, Bool.false_eq_true, if_false, if_neg hv]; exact Ev.now _
    · simp only [decide_eq_false hw, Bool.false_eq_true, if_false, if_neg hw]; exact Ev.now _
  · simp only [if_neg hh]; exact Ev.now _
theorem pokeB_four (l : List (List Int)) (f w v : Int) : Fours (pokeB l f w v).1 := by
  have hn : Fours [] := ⟨by decide, fun x hx => by cases hx⟩
  unfold pokeB
  by_cases hh : (memB l && decide (0 ≤ f ∧ f ≤ l.length - 1)) = true
  · rw [if_pos hh]
    by_cases hw : 0 ≤ w ∧ w ≤ 3
    · rw [if_pos hw]
      by_cases hv : 0 ≤ v ∧ v ≤ 100000
      · rw [if_pos hv]
        simp only [Bool.and_eq_true, decide_eq_true_eq] at hh
        obtain ⟨h1, h2⟩ := memB_small hh.1
        refine ⟨by simpa using h1, fun x hx => ?_⟩
        rcases List.mem_or_eq_of_mem_set hx with hx | hx
        · exact h2 x hx
        · rw [hx, List.length_set]
          exact memB_row hh.1 (by omega)
      · rw [if_neg hv]; exact hn
    · rw [if_neg hw]; exact hn
  · rw [if_neg hh]; exact hn
def cpB (l : List (List Int)) (f g : Int) : List (List Int) × Bool := if (memB l && decide (0 ≤ f ∧ f ≤ l.length - 1)) = true then (if (memB l && decide (0 ≤ g ∧ g ≤ l.length - 1)) = true then (l.set g.toNat (l.getD f.toNat []), true) else ([], false)) else ([], false)
theorem impl_Copy_ev (l : List (List Int)) (hl : Small l) (f g : Int) : Ev (fun k => impl_CopyFrame.f k l f g) (cpB l f g) := by
  unfold impl_CopyFrame.f cpB
  refine Ev.bind (isFrame_ev l hl f) ?_
  by_cases hh : (memB l && decide (0 ≤ f ∧ f ≤ l.length - 1)) = true
  · simp only [if_pos hh]
    refine Ev.bind (isFrame_ev l hl g) ?_
    by_cases hg : (memB l && decide (0 ≤ g ∧ g ≤ l.length - 1)) = true
    · simp only [if_pos hg]
      refine Ev.bind (impl_copyMem_ev l hl) ?_
      simp only [Bool.and_eq_true, decide_eq_true_eq] at hh hg
      have h4 : (rd_L2 l f).length = 4 := memB_row hh.1 (by omega)
      have h5 : (rd_L2 l g).length = 4 := memB_row hg.1 (by omega)
      simp only [if_pos hh.2.1, if_pos (show f < (l.length : Int) by omega), h4, h5, if_pos hg.2.1, if_pos (show g < (l.length : Int) by omega), Nat.min_self, List.take_of_length_le (show (rd_L2 l f).length ≤ 4 by omega), List.drop_of_length_le (show (rd_L2 l g).length ≤ 4 by omega), List.append_nil]
      exact Ev.now _
    · simp only [if_neg hg]; exact Ev.now _
  · simp only [if_neg hh]; exact Ev.now _
theorem cpB_four (l : List (List Int)) (f g : Int) : Fours (cpB l f g).1 := by
  have hn : Fours [] := ⟨by decide, fun x hx => by cases hx⟩
  unfold cpB
  by_cases hh : (memB l && decide (0 ≤ f ∧ f ≤ l.length - 1)) = true
  · rw [if_pos hh]
    by_cases hg : (memB l && decide (0 ≤ g ∧ g ≤ l.length - 1)) = true
    · rw [if_pos hg]
      simp only [Bool.and_eq_true, decide_eq_true_eq] at hh
      obtain ⟨h1, h2⟩ := memB_small hh.1
      refine ⟨by simpa using h1, fun x hx => ?_⟩
      rcases List.mem_or_eq_of_mem_set hx with hx | hx
      · exact h2 x hx
      · rw [hx]; exact memB_row hh.1 (by omega)
    · rw [if_neg hg]; exact hn
  · rw [if_neg hh]; exact hn
def clrB (l : List (List Int)) (f : Int) : List (List Int) × Bool := if (memB l && decide (0 ≤ f ∧ f ≤ l.length - 1)) = true then (l.set f.toNat (List.replicate 4 0), true) else ([], false)
theorem impl_Clear_ev (l : List (List Int)) (hl : Small l) (f : Int) : Ev (fun k => impl_ClearFrame.f k l f) (clrB l f) := by
  unfold impl_ClearFrame.f clrB
  refine Ev.bind (isFrame_ev l hl f) ?_
  by_cases hh : (memB l && decide (0 ≤ f ∧ f ≤ l.length - 1)) = true
  · simp only [if_pos hh]
    refine Ev.bind (impl_copyMem_ev l hl) ?_
    simp only [Bool.and_eq_true, decide_eq_true_eq] at hh
    have h4 : (l.getD f.toNat []).length = 4 := memB_row hh.1 (by omega)
    simp only [if_pos hh.2.1, if_pos (show f < (l.length : Int) by omega), h4]
    exact Ev.now _
  · simp only [if_neg hh]; exact Ev.now _
theorem clrB_four (l : List (List Int)) (f : Int) : Fours (clrB l f).1 := by
  unfold clrB
  by_cases hh : (memB l && decide (0 ≤ f ∧ f ≤ l.length - 1)) = true
  · rw [if_pos hh]
    simp only [Bool.and_eq_true, decide_eq_true_eq] at hh
    obtain ⟨h1, h2⟩ := memB_small hh.1
    refine ⟨by simpa using h1, fun x hx => ?_⟩
    rcases List.mem_or_eq_of_mem_set hx with hx | hx
    · exact h2 x hx
    · rw [hx, List.length_replicate]
  · rw [if_neg hh]
    exact ⟨by decide, fun x hx => by cases hx⟩
def newMem (n : Nat) : List (List Int) := List.replicate n (List.replicate 4 0)
theorem newMem_succ (n : Nat) : newMem n ++ [List.replicate 4 0] = newMem (n + 1) := by unfold newMem; exact List.replicate_succ'.symm
theorem spec_new (n : Int) (hn : n ≤ 32) : ∀ (d i : Nat), (n ≤ (i : Int) + d) → (i : Int) ≤ n → Ev (fun k => spec_MemoryNew.l0 k n (newMem i) (i : Int)) (newMem n.toNat, true) := by
  intro d
  induction d with
  | zero =>
    intro i h1 h2
    refine Ev.of_succ (fun k => ?_)
    simp only [spec_MemoryNew.l0]
    rw [if_neg (by omega), show n.toNat = i by omega]
  | succ d ih =>
    intro i h1 h2
    by_cases h : (i : Int) < n
    · refine Ev.step (fun k => ?_) (ih (i + 1) (by omega) (by omega))
      simp only [spec_MemoryNew.l0]
      rw [if_pos h, if_pos (by omega), if_pos (by unfold newMem; rw [List.length_replicate]; omega), newMem_succ, wrap_succ (by omega)]
    · refine Ev.of_succ (fun k => ?_)
      simp only [spec_MemoryNew.l0]
      rw [if_neg h, show n.toNat = i by omega]
def newB (n : Int) : List (List Int) × Bool := if sizeB n = true then (newMem n.toNat, true) else ([], false)
theorem spec_New_ev (n : Int) : Ev (fun k => spec_MemoryNew.f k n) (newB n) := by
  unfold spec_MemoryNew.f newB
  rw [l02Frames_eq]
  simp only [Option.bind_some]
  by_cases hs : sizeB n = true
  · obtain ⟨h1, h2, h3⟩ := sizeB_bd hs
    simp only [if_pos hs]
    exact spec_new n h2 n.toNat 0 (by omega) (by omega)
  · simp only [if_neg hs]; exact Ev.now _
def ansP (l : List (List Int)) (f w : Int) : Int × Bool := if memB l = true ∧ (0 ≤ f ∧ f ≤ l.length - 1) ∧ (0 ≤ w ∧ w ≤ 3) then ((l.getD f.toNat []).getD w.toNat 0, true) else (0, false)
theorem last_part (l : List (List Int)) (f w : Int) (hm : memB l = true) (hf : 0 ≤ f ∧ f ≤ l.length - 1) (hw : 0 ≤ w ∧ w ≤ 3) :
    (if 0 ≤ f then (if f < (l.length : Int) then (if 0 ≤ w then (if w < ((rd_L2 l f).length : Int) then (some (rd (rd_L2 l f) w, true)) else (none)) else (none)) else (none)) else (none)) = some (ansP l f w) := by
  have h4 : (rd_L2 l f).length = 4 := memB_row hm (by omega)
  rw [if_pos hf.1, if_pos (by omega), if_pos hw.1, if_pos (by omega)]
  unfold ansP
  rw [if_pos ⟨hm, hf, hw⟩]
  rfl
theorem impl_Peek_ev (l : List (List Int)) (hl : Small l) (f w : Int) : Ev (fun k => impl_Peek.f k l f w) (ansP l f w) := by
  have hh : Ev (fun k => impl_isFrame.f k l f) (memB l && decide (0 ≤ f ∧ f ≤ l.length - 1)) := by
    unfold impl_isFrame.f
    refine Ev.bind (impl_MemoryOk_ev l hl) ?_
    rw [within_eq, len_pred l hl]
    by_cases h : memB l = true
    · simp only [if_pos h, Option.bind_some, h, Bool.true_and]; exact Ev.now _
    · simp only [if_neg h, Bool.eq_false_iff.2 h, Bool.false_and]; exact Ev.now _
  unfold impl_Peek.f
  refine Ev.bind hh ?_
  by_cases hm : memB l = true
  · by_cases hf : 0 ≤ f ∧ f ≤ l.length - 1
    · rw [hm, decide_eq_true hf, within_eq]
      simp only [Bool.and_self, if_true, Option.bind_some]
      by_cases hw : 0 ≤ w ∧ w ≤ 3
      · rw [decide_eq_true hw]; simp only [if_true]; rw [last_part l f w hm hf hw]; exact Ev.now _
      · rw [decide_eq_false hw]; simp only [Bool.false_eq_true, if_false]; unfold ansP; rw [if_neg (fun h => hw h.2.2)]; exact Ev.now _
    · rw [decide_eq_false hf, Bool.and_false]; simp only [Bool.false_eq_true, if_false]; unfold ansP; rw [if_neg (fun h => hf h.2.1)]; exact Ev.now _
  · rw [Bool.eq_false_iff.2 hm, Bool.false_and]; simp only [Bool.false_eq_true, if_false]; unfold ansP; rw [if_neg (fun h => hm h.1)]; exact Ev.now _
theorem l01Byte_ends (l : List Int) (hl : l.length ≤ 9223372036854775806) (i h : Int) (h0 : 0 ≤ i) (h1 : i ≤ l.length) :
    ∃ x i' h', spec_l01Byte.f l i h = some (x, i', h') ∧ 0 ≤ x ∧ x < 256 ∧ 0 ≤ i' ∧ i' ≤ l.length := by
  unfold spec_l01Byte.f
  by_cases hi : i < (l.length : Int)
  · rw [if_pos hi, if_pos h0]
    refine ⟨_, _, _, rfl, ?_, ?_, ?_, ?_⟩
    · rw [and255]; omega
    · rw [and255]; omega
    · rw [wrap64_id (by omega) (by omega)]; omega
    · rw [wrap64_id (by omega) (by omega)]; omega
  · rw [if_neg hi]
    refine ⟨_, _, _, rfl, ?_, ?_, h0, h1⟩
    · rw [and255]; omega
    · rw [and255]; omega
theorem l01Below_ends (l : List Int) (hl : l.length ≤ 9223372036854775806) (i h n : Int) (h0 : 0 ≤ i) (h1 : i ≤ l.length) :
    ∃ x i' h', spec_l01Below.f l i h n = some (x, i', h') ∧ 0 ≤ x ∧ (0 < n → x < n) ∧ (n ≤ 0 → x = 0) ∧ 0 ≤ i' ∧ i' ≤ l.length := by
  unfold spec_l01Below.f
  by_cases hn : n ≤ 0
  · rw [if_pos hn]
    exact ⟨_, _, _, rfl, by omega, by omega, fun _ => rfl, h0, h1⟩
  · rw [if_neg hn]
    obtain ⟨x, i1, g1, e1, a1, b1, c1, d1⟩ := l01Byte_ends l hl i h h0 h1
    by_cases h256 : n ≤ 256
    · rw [if_pos h256, e1]
      simp only [Option.bind_some]
      rw [if_neg (by omega)]
      refine ⟨_, _, _, rfl, ?_, ?_, by omega, c1, d1⟩
      · rw [tmod_nonneg a1 (by omega)]; exact Int.emod_nonneg _ (by omega)
      · intro hp; rw [tmod_nonneg a1 (by omega)]; exact Int.emod_lt_of_pos _ hp
    · rw [if_neg h256, e1]
      simp only [Option.bind_some]
      obtain ⟨y, i2, g2, e2, a2, b2, c2, d2⟩ := l01Byte_ends l hl i1 g1 c1 d1
      rw [e2]; simp only [Option.bind_some]
      obtain ⟨z, i3, g3, e3, a3, b3, c3, d3⟩ := l01Byte_ends l hl i2 g2 c2 d2
      rw [e3]; simp only [Option.bind_some]
      obtain ⟨t, i4, g4, e4, a4, b4, c4, d4⟩ := l01Byte_ends l hl i3 g3 c3 d3
      rw [e4]; simp only [Option.bind_some]
      rw [if_neg (by omega)]
      have hnn : 0 ≤ wrap64 ((wrap64 ((wrap64 ((wrap64 (x * 16777216)) + (wrap64 (y * 65536)))) + (wrap64 (z * 256)))) + t) := by unfold wrap64; omega
      refine ⟨_, _, _, rfl, ?_, ?_, by omega, c4, d4⟩
      · rw [tmod_nonneg hnn (by omega)]; exact Int.emod_nonneg _ (by omega)
      · intro hp; rw [tmod_nonneg hnn (by omega)]; exact Int.emod_lt_of_pos _ hp
theorem l01New_ends (l : List Int) (hl : l.length ≤ 9223372036854775806) : ∃ h, Ev (fun k => spec_l01New.f k l) (l, 0, h) := by
  have key : ∀ (d i : Nat) (h : Int), i + d = l.length → ∃ h', Ev (fun k => spec_l01New.l0 k l h (i : Int)) (l, 0, h') := by
    intro d
    induction d with
    | zero =>
      intro i h hi
      refine ⟨h, 1, fun n hn => ?_⟩
      obtain ⟨m, rfl⟩ : ∃ m, n = m + 1 := ⟨n - 1, by omega⟩
      show spec_l01New.l0 (m + 1) _ _ _ = _
      simp only [spec_l01New.l0]
      rw [if_neg (by omega)]
    | succ d ih =>
      intro i h hi
      by_cases h4 : (i : Int) < 4000
      · obtain ⟨h', he⟩ := ih (i + 1) (Go.bits .and .i64 (wrap64 ((wrap64 ((wrap64 (h * 131)) + (wrap64 (rd l (i : Int))))) + 7)) 1073741823) (by omega)
        refine ⟨h', Ev.step (fun k => ?_) he⟩
        show spec_l01New.l0 (k + 1) _ _ _ = _
        simp only [spec_l01New.l0]
        rw [if_pos (by omega), if_pos h4, if_pos (by omega), show wrap64 ((i : Int) + 1) = ((i + 1 : Nat) : Int) from by unfold wrap64; omega]
      · refine ⟨h, 1, fun n hn => ?_⟩
        obtain ⟨m, rfl⟩ : ∃ m, n = m + 1 := ⟨n - 1, by omega⟩
        show spec_l01New.l0 (m + 1) _ _ _ = _
        simp only [spec_l01New.l0]
        rw [if_pos (by omega), if_neg h4]
  obtain ⟨h', he⟩ := key l.length 0 (wrap64 (10901 + (l.length : Int))) (by omega)
  exact ⟨h', he⟩
theorem l01PickInt_ends (l : List Int) (hl : l.length ≤ 9223372036854775806) (i h : Int) (l1 : List Int) (h0 : 0 ≤ i) (h1 : i ≤ l.length) (hp : 0 < l1.length) :
    ∃ j i' h', spec_l01PickInt.f l i h l1 = some (rd l1 j, i', h') ∧ 0 ≤ j ∧ j < l1.length ∧ 0 ≤ i' ∧ i' ≤ l.length := by
  unfold spec_l01PickInt.f
  obtain ⟨x, i1, g1, e1, a1, b1, _, c1, d1⟩ := l01Below_ends l hl i h (l1.length : Int) h0 h1
  rw [e1]; simp only [Option.bind_some]
  rw [if_pos a1, if_pos (b1 (by omega))]
  exact ⟨x, _, _, rfl, a1, b1 (by omega), c1, d1⟩
theorem places_ends (l : List Int) (hl : l.length ≤ 9223372036854775806) : ∃ out, Ev (fun k => spec_DrawPlaces.f k l) out ∧ out.length = 12 ∧ ∀ y ∈ out, 0 ≤ y ∧ y < 10000 := by
  have key : ∀ (d i : Nat) (acc : List Int) (j h : Int), i + d = 12 → acc.length = i → (∀ y ∈ acc, 0 ≤ y ∧ y < 10000) → 0 ≤ j → j ≤ l.length →
      ∃ out, Ev (fun k => spec_DrawPlaces.l0 k acc (i : Int) l j h) out ∧ out.length = 12 ∧ ∀ y ∈ out, 0 ≤ y ∧ y < 10000 := by
    intro d
    induction d with
    | zero =>
      intro i acc j h hi ha hy _ _
      refine ⟨acc, Ev.of_succ (fun k => ?_), by omega, hy⟩
      simp only [spec_DrawPlaces.l0]
      rw [if_neg (by omega)]
    | succ d ih =>
      intro i acc j h hi ha hy h0 h1
      obtain ⟨x, i1, g1, e1, a1, b1, _, c1, d1⟩ := l01Below_ends l hl j h 10000 h0 h1
      obtain ⟨out, h2, h3, h4⟩ := ih (i + 1) (acc ++ [x]) i1 g1 (by omega) (by simp [ha]) (by
        intro y hm
        rcases List.mem_append.1 hm with hm | hm
        · exact hy y hm
        · rw [List.mem_singleton] at hm
          subst hm
          exact ⟨a1, b1 (by omega)⟩) c1 d1
      refine ⟨out, Ev.step (fun k => ?_) h2, h3, h4⟩
      simp only [spec_DrawPlaces.l0]
      rw [if_pos (by omega), e1]
      simp only [Option.bind_some]
      rw [if_pos (by omega), wrap_succ (by omega)]
  obtain ⟨g0, e0⟩ := l01New_ends l hl
  obtain ⟨x, i1, g1, e1, a1, b1, c1, d1⟩ := l01Byte_ends l hl 0 g0 (by omega) (by omega)
  obtain ⟨out, h2, h3⟩ := key 12 0 [] i1 g1 rfl rfl (by intro y hy; cases hy) c1 d1
  refine ⟨out, ?_, h3⟩
  unfold spec_DrawPlaces.f
  refine Ev.bind e0 ?_
  rw [e1]
  exact h2
theorem rowB_set {r : List Int} (h : rowB r = true) (j : Nat) (x : Int) (hx : 0 ≤ x ∧ x ≤ 100000) : rowB (r.set j x) = true := by
  simp only [rowB, Bool.and_eq_true, decide_eq_true_eq, List.all_eq_true] at h ⊢
  refine ⟨fun y hy => ?_, by rw [List.length_set]; exact h.2⟩
  rcases List.mem_or_eq_of_mem_set hy with hy | rfl
  · exact h.1 y hy
  · simp only [wordB, decide_eq_true_eq]; omega
theorem memB_at {M : List (List Int)} (h : memB M = true) {i : Nat} (hi : i < M.length) : rowB (M.getD i []) = true := by
  unfold memB at h
  have h := (Bool.and_eq_true _ _ ▸ h : _ ∧ _).1
  rw [List.getD_eq_getElem?_getD, List.getElem?_eq_getElem hi]
  exact List.all_eq_true.1 h _ (List.getElem_mem hi)
theorem memB_set {M : List (List Int)} (h : memB M = true) (i : Nat) (r : List Int) (hr : rowB r = true) : memB (M.set i r) = true := by
  unfold memB at h ⊢
  rw [Bool.and_eq_true] at h ⊢
  refine ⟨List.all_eq_true.2 (fun y hy => ?_), by rw [List.length_set]; exact h.2⟩
  rcases List.mem_or_eq_of_mem_set hy with hy | rfl
  · exact List.all_eq_true.1 h.1 y hy
  · exact hr
theorem memdraw_in (l : List Int) (hl : l.length ≤ 9223372036854775806) (n i : Nat) (hin : i < n) (R : List (List Int) → Prop)
    (next : ∀ (M : List (List Int)) (j h : Int), memB M = true → M.length = n → 0 ≤ j → j ≤ l.length → ∃ M', Ev (fun k => spec_DrawRightMemory.l0 k M ((i + 1 : Nat) : Int) l j h) M' ∧ R M') :
    ∀ (d c : Nat) (M : List (List Int)) (j h : Int), c + d = 4 → memB M = true → M.length = n → 0 ≤ j → j ≤ l.length → ∃ M', Ev (fun k => spec_DrawRightMemory.l1 k M (i : Int) (c : Int) l j h) M' ∧ R M' := by
  intro d
  induction d with
  | zero =>
    intro c M j h hc hM hi h0 h1
    have hb := memB_small hM
    obtain ⟨M', he, hR⟩ := next M j h hM hi h0 h1
    refine ⟨M', Ev.step (fun k => ?_) he, hR⟩
    simp only [spec_DrawRightMemory.l1]
    rw [if_neg (by omega), wrap_succ (by omega)]
  | succ d ih =>
    intro c M j h hc hM hi h0 h1
    obtain ⟨x, i1, g1, e1, a1, b1, _, c1, d1⟩ := l01Below_ends l hl j h 90 h0 h1
    have hx := b1 (by omega)
    have hrow := memB_at hM (show i < M.length by omega)
    have h4 : (M.getD i []).length = 4 := memB_row hM (show i < M.length by omega)
    obtain ⟨M', he, hR⟩ := ih (c + 1) (M.set i ((M.getD i []).set c x)) i1 g1 (by omega) (memB_set hM i _ (rowB_set hrow c x (by omega))) (by rw [List.length_set]; exact hi) c1 d1
    refine ⟨M', Ev.step (fun k => ?_) he, hR⟩
    simp only [spec_DrawRightMemory.l1]
    rw [if_pos (by omega), if_pos (by omega), if_pos (by omega), e1]
    simp only [Option.bind_some, rdL, h4, toNat_cast]
    rw [if_pos (by omega), if_pos (by omega), wrap_succ (by omega)]
theorem memdraw_rows (l : List Int) (hl : l.length ≤ 9223372036854775806) (n : Nat) (hn : n ≤ 32) : ∀ (d i : Nat) (M : List (List Int)) (j h : Int), i + d = n → M.length = n → memB M = true → 0 ≤ j → j ≤ l.length → ∃ M', Ev (fun k => spec_DrawRightMemory.l0 k M (i : Int) l j h) M' ∧ (memB M' = true) := by
  intro d
  induction d with
  | zero =>
    intro i M j h hi hM hm h0 h1
    refine ⟨M, Ev.of_succ (fun k => ?_), hm⟩
    simp only [spec_DrawRightMemory.l0]
    rw [if_neg (by omega)]
  | succ d ih =>
    intro i M j h hi hM hm h0 h1
    obtain ⟨M', he, hR⟩ := memdraw_in l hl n i (by omega) (fun M' => memB M' = true) (fun M2 j2 h2 hm2 hi2 h02 h12 => ih (i + 1) M2 j2 h2 (by omega) hi2 hm2 h02 h12) 4 0 M j h (by omega) hm hM h0 h1
    refine ⟨M', Ev.step (fun k => ?_) he, hR⟩
    simp only [spec_DrawRightMemory.l0]
    rw [if_pos (by omega)]
    rfl
theorem rightMemory_ends (l : List Int) (hl : l.length ≤ 9223372036854775806) : ∃ M, Ev (fun k => spec_DrawRightMemory.f k l) M ∧ memB M = true := by
  obtain ⟨g0, e0⟩ := l01New_ends l hl
  obtain ⟨q, i1, g1, e1, hq0, hq1, c1, d1⟩ := l01PickInt_ends l hl 0 g0 [8, 16, 16, 24, 32] (by omega) (by omega) (by simp)
  have hn : ∃ n : Nat, rd [8, 16, 16, 24, 32] q = (n : Int) ∧ n ≤ 32 ∧ sizeB (n : Int) = true := by
    simp only [List.length_cons, List.length_nil] at hq1
    rcases (show q = 0 ∨ q = 1 ∨ q = 2 ∨ q = 3 ∨ q = 4 by omega) with rfl | rfl | rfl | rfl | rfl
    · exact ⟨8, rfl, by omega, by decide⟩
    · exact ⟨16, rfl, by omega, by decide⟩
    · exact ⟨16, rfl, by omega, by decide⟩
    · exact ⟨24, rfl, by omega, by decide⟩
    · exact ⟨32, rfl, by omega, by decide⟩
  obtain ⟨n, hn, hn32, hs⟩ := hn
  have hnew := spec_New_ev (n : Int)
  have hnb : newB (n : Int) = (newMem n, true) := by
    unfold newB
    rw [hs]
    rfl
  rw [hnb] at hnew
  have hlen : (newMem n).length = n := by simp [newMem]
  have hmem : memB (newMem n) = true := by
    unfold memB
    rw [hlen, hs, Bool.and_true]
    refine List.all_eq_true.2 (fun y hy => ?_)
    have := List.eq_of_mem_replicate hy
    subst this
    decide
  obtain ⟨M, he, hM⟩ := memdraw_rows l hl n hn32 n 0 (newMem n) i1 g1 (by omega) hlen hmem c1 d1
  refine ⟨M, ?_, hM⟩
  unfold spec_DrawRightMemory.f
  refine Ev.bind e0 ?_
  unfold spec_l15Frames.f
  simp only [e1, Option.bind_some, hn]
  refine Ev.bind hnew ?_
  exact he
theorem rdN (r : List Int) (i : Nat) : rd r (i : Int) = r.getD i 0 := by unfold rd; rw [toNat_cast]
theorem getD_setM {α : Type} (M : List α) (j i : Nat) (x d : α) (h : j < M.length) : (M.set j x).getD i d = if i = j then x else M.getD i d := by
  rw [List.getD_eq_getElem?_getD, List.getD_eq_getElem?_getD]
  by_cases e : i = j
  · subst e; rw [if_pos rfl, List.getElem?_set_self h]; rfl
  · rw [if_neg e, List.getElem?_set_ne (by omega)]
theorem l1_ev (M A B C : List (List Int)) (n f g w : Nat) (v : Int) (hf : f < n) (lM : M.length = n) (lA : A.length = n) (lB : B.length = n) (lC : C.length = n)
    (rM : ∀ i, i < n → (M.getD i []).length = 4) (rA : ∀ i, i < n → (A.getD i []).length = 4) (rB : ∀ i, i < n → (B.getD i []).length = 4) (rC : ∀ i, i < n → (C.getD i []).length = 4)
    (hA : ∀ i k, i < n → k < 4 → ¬ (i = f ∧ k = w) → (A.getD i []).getD k 0 = (M.getD i []).getD k 0)
    (hB : ∀ i, i < n → ¬ i = g → B.getD i [] = A.getD i []) (hBg : B.getD g [] = A.getD f [])
    (hC : ∀ i, i < n → ¬ i = f → C.getD i [] = B.getD i []) (hCf : C.getD f [] = [0, 0, 0, 0])
    (i k : Nat) (hi : i < n) (hk : k < 4) (r : Bool) (h : Ev (fun q => laws_FnMemory.l1 q M (f : Int) (g : Int) (w : Int) A B C (i : Int) ((k + 1 : Nat) : Int)) r) :
    Ev (fun q => laws_FnMemory.l1 q M (f : Int) (g : Int) (w : Int) A B C (i : Int) (k : Int)) r := by
  refine Ev.step (fun q => ?_) h
  have z : ∀ k, k < 4 → ([0, 0, 0, 0] : List Int).getD k 0 = 0 := by decide
  simp only [laws_FnMemory.l1, rdL, rdN, lM, lA, lB, lC, rM i hi, rA i hi, rA f hf, rB i hi, rC i hi]
  simp only [if_pos (show (k : Int) < 4 by omega), if_pos (show (0 : Int) ≤ (i : Int) by omega), if_pos (show (0 : Int) ≤ (k : Int) by omega), if_pos (show (0 : Int) ≤ (f : Int) by omega), if_pos (show (i : Int) < (n : Int) by omega), if_pos (show (f : Int) < (n : Int) by omega), if_pos (show (k : Int) < ((4 : Nat) : Int) by omega), wrap_succ (show k < 9223372036854775807 by omega)]
  by_cases c1 : i = f
  · subst c1
    simp only [if_true, hCf, z k hk]
    by_cases c2 : k = w
    · subst c2
      simp only [if_true]
      by_cases c3 : i = g
      · subst c3; simp only [if_true, hBg]
      · simp only [if_neg (show ¬ (i : Int) = (g : Int) by omega), hB i hi c3, if_true]
    · simp only [if_neg (show ¬ (k : Int) = (w : Int) by omega), hA i k hi hk (fun x => c2 x.2), if_true]
      by_cases c3 : i = g
      · subst c3; simp only [if_true, hBg, hA i k hi hk (fun x => c2 x.2)]
      · simp only [if_neg (show ¬ (i : Int) = (g : Int) by omega), hB i hi c3, hA i k hi hk (fun x => c2 x.2), if_true]
  · simp only [if_neg (show ¬ (i : Int) = (f : Int) by omega), hA i k hi hk (fun x => c1 x.1), hC i hi c1, if_true]
    by_cases c3 : i = g
    · subst c3; simp only [if_true, hBg]
    · simp only [if_neg (show ¬ (i : Int) = (g : Int) by omega), hB i hi c3, hA i k hi hk (fun x => c1 x.1), if_true]
theorem FnMemory (l0 : List Int) (g0 : (l0.length ≤ maxLen ∧ ∀ y0 ∈ l0, (Lit.int .u8 y0).wf = true)) : ∃ k, laws_FnMemory.f k l0 = some true := by
  by_cases hbig : (l0.length : Int) > 1048576
  · refine ⟨0, ?_⟩
    unfold laws_FnMemory.f laws_big.f
    simp [hbig]
  · have hl : l0.length ≤ 9223372036854775806 := by omega
    obtain ⟨M, hd, hM⟩ := rightMemory_ends l0 hl
    obtain ⟨p, hp, p1, p2⟩ := places_ends l0 hl
    refine Ev.rounds (g := fun k => laws_FnMemory.f k l0) ?_
    have hin : ∀ i : Nat, i < 12 → 0 ≤ rd p (i : Int) ∧ rd p (i : Int) < 10000 := fun i hi => by
      refine p2 _ ?_
      unfold rd
      rw [toNat_cast, List.getD_eq_getElem?_getD, List.getElem?_eq_getElem (by omega)]
      exact List.getElem_mem (by omega)
    have h0 := hin 0 (by omega)
    have h1 := hin 1 (by omega)
    have h2 := hin 2 (by omega)
    have h3 := hin 3 (by omega)
    change 0 ≤ rd p 0 ∧ rd p 0 < 10000 at h0
    change 0 ≤ rd p 1 ∧ rd p 1 < 10000 at h1
    change 0 ≤ rd p 2 ∧ rd p 2 < 10000 at h2
    change 0 ≤ rd p 3 ∧ rd p 3 < 10000 at h3
    have hMs := memB_small hM
    have hsz : 8 ≤ M.length := by
      have h := hM
      unfold memB at h
      have := (Bool.and_eq_true _ _ ▸ h : _ ∧ _).2
      have := sizeB_bd this
      omega
    have hsm : ∀ X : List (List Int), memB X = true → Small X := fun X hX => by
      have := memB_small hX
      exact ⟨by omega, fun x hx => by have := this.2 x hx; omega⟩
    unfold laws_FnMemory.f laws_big.f
    simp only [Option.bind_some, decide_eq_true_eq, if_neg hbig]
    refine Ev.bind hd (Ev.bind hp ?_)
    simp only [p1, if_pos (show (0 : Int) < ((12 : Nat) : Int) by omega), if_pos (show (1 : Int) < ((12 : Nat) : Int) by omega), if_pos (show (2 : Int) < ((12 : Nat) : Int) by omega), if_pos (show (3 : Int) < ((12 : Nat) : Int) by omega), if_neg (show ¬ (M.length : Int) = 0 by omega)]
    rw [tmod_nonneg h0.1 (by omega), tmod_nonneg h1.1 (by omega), tmod_nonneg h2.1 (by omega)]
    obtain ⟨f, hfe, hf⟩ : ∃ f : Nat, rd p 0 % (M.length : Int) = (f : Int) ∧ f < M.length := ⟨(rd p 0 % (M.length : Int)).toNat, by have := Int.emod_nonneg (rd p 0) (show (M.length : Int) ≠ 0 by omega); omega, by have := Int.emod_lt_of_pos (rd p 0) (show 0 < (M.length : Int) by omega); have := Int.emod_nonneg (rd p 0) (show (M.length : Int) ≠ 0 by omega); omega⟩
    obtain ⟨g, hge, hg⟩ : ∃ f : Nat, rd p 1 % (M.length : Int) = (f : Int) ∧ f < M.length := ⟨(rd p 1 % (M.length : Int)).toNat, by have := Int.emod_nonneg (rd p 1) (show (M.length : Int) ≠ 0 by omega); omega, by have := Int.emod_lt_of_pos (rd p 1) (show 0 < (M.length : Int) by omega); have := Int.emod_nonneg (rd p 1) (show (M.length : Int) ≠ 0 by omega); omega⟩
    obtain ⟨w, hwe, hw⟩ : ∃ f : Nat, rd p 2 % 4 = (f : Int) ∧ f < 4 := ⟨(rd p 2 % 4).toNat, by omega, by omega⟩
    rw [hfe, hge, hwe]
    generalize rd p 3 = v at *
    obtain ⟨A, hAe⟩ : ∃ A, A = M.set f ((M.getD f []).set w v) := ⟨_, rfl⟩
    have hAm : memB A = true := by rw [hAe]; exact memB_set hM f _ (rowB_set (memB_at hM hf) w v (by omega))
    have lA : A.length = M.length := by rw [hAe, List.length_set]
    obtain ⟨B, hBe⟩ : ∃ B, B = A.set g (A.getD f []) := ⟨_, rfl⟩
    have hBm : memB B = true := by rw [hBe]; exact memB_set hAm g _ (memB_at hAm (by omega))
    have lB : B.length = M.length := by rw [hBe, List.length_set]; exact lA
    obtain ⟨C, hCe⟩ : ∃ C, C = B.set f (List.replicate 4 0) := ⟨_, rfl⟩
    have hCm : memB C = true := by rw [hCe]; exact memB_set hBm f _ (by decide)
    have lC : C.length = M.length := by rw [hCe, List.length_set]; exact lB
    have hAf : A.getD f [] = (M.getD f []).set w v := by rw [hAe, getD_setM _ _ _ _ _ hf, if_pos rfl]
    have q1 := impl_Poke_ev M (hsm M hM) (f : Int) (w : Int) v
    have q2 := impl_Peek_ev A (hsm A hAm) (f : Int) (w : Int)
    have q3 := impl_Copy_ev A (hsm A hAm) (f : Int) (g : Int)
    have q4 := impl_Clear_ev B (hsm B hBm) (f : Int)
    have q5 := impl_MemoryOk_ev C (hsm C hCm)
    have t1 : pokeB M (f : Int) (w : Int) v = (A, true) := by
      unfold pokeB
      rw [hM, decide_eq_true (show 0 ≤ (f : Int) ∧ (f : Int) ≤ (M.length : Int) - 1 by omega), Bool.and_self, if_pos rfl, if_pos (by omega), if_pos (by omega), hAe]
      simp only [toNat_cast]
    have t2 : ansP A (f : Int) (w : Int) = (v, true) := by
      unfold ansP
      rw [if_pos ⟨hAm, by omega, by omega⟩]
      simp only [toNat_cast]
      rw [hAf, getD_setM _ _ _ _ _ (by rw [memB_row hM hf]; exact hw), if_pos rfl]
    have t3 : cpB A (f : Int) (g : Int) = (B, true) := by
      unfold cpB
      rw [hAm, decide_eq_true (show 0 ≤ (f : Int) ∧ (f : Int) ≤ (A.length : Int) - 1 by omega), decide_eq_true (show 0 ≤ (g : Int) ∧ (g : Int) ≤ (A.length : Int) - 1 by omega), Bool.and_self, if_pos rfl, if_pos rfl, hBe]
      simp only [toNat_cast]
    have t4 : clrB B (f : Int) = (C, true) := by
      unfold clrB
      rw [hBm, decide_eq_true (show 0 ≤ (f : Int) ∧ (f : Int) ≤ (B.length : Int) - 1 by omega), Bool.and_self, if_pos rfl, hCe]
      simp only [toNat_cast]
    rw [t1] at q1; rw [t2] at q2; rw [t3] at q3; rw [t4] at q4; rw [hCm] at q5
    refine Ev.bind q1 (Ev.bind q2 (Ev.bind q3 (Ev.bind q4 ?_)))
    simp only [if_true]
    refine Ev.bind q5 ?_
    have step := l1_ev M A B C M.length f g w v hf rfl lA lB lC (fun i hi => memB_row hM hi) (fun i hi => memB_row hAm (by omega)) (fun i hi => memB_row hBm (by omega)) (fun i hi => memB_row hCm (by omega))
      (fun i k hi hk hn => by
        rw [hAe, getD_setM _ _ _ _ _ hf]
        by_cases e : i = f
        · subst e
          rw [if_pos rfl, getD_setM _ _ _ _ _ (by rw [memB_row hM hf]; exact hw), if_neg (fun x => hn ⟨rfl, x⟩)]
        · rw [if_neg e])
      (fun i hi hn => by rw [hBe, getD_setM _ _ _ _ _ (by omega), if_neg hn])
      (by rw [hBe, getD_setM _ _ _ _ _ (by omega), if_pos rfl])
      (fun i hi hn => by rw [hCe, getD_setM _ _ _ _ _ (by omega), if_neg hn])
      (by rw [hCe, getD_setM _ _ _ _ _ (by omega), if_pos rfl]; rfl)
    have rows : Ev (fun q => laws_FnMemory.l0 q M (f : Int) (g : Int) (w : Int) A B C ((0 : Nat) : Int)) true := by
      refine ev_yes (fun q i => laws_FnMemory.l0 q M (f : Int) (g : Int) (w : Int) A B C (i : Int)) M.length (fun _ => true) true ?_ (by simp) ?_
      · intro i hi _ r h
        have inner : Ev (fun q => laws_FnMemory.l1 q M (f : Int) (g : Int) (w : Int) A B C (i : Int) ((0 : Nat) : Int)) r := by
          refine ev_yes (fun q k => laws_FnMemory.l1 q M (f : Int) (g : Int) (w : Int) A B C (i : Int) (k : Int)) 4 (fun _ => true) r ?_ (by simp) ?_
          · intro k hk _ r2 h2
            exact step i k hi hk r2 h2
          · refine Ev.step (fun q => ?_) h
            simp only [laws_FnMemory.l1]
            rw [if_neg (by omega), wrap_succ (by omega)]
        refine Ev.step (fun q => ?_) inner
        simp only [laws_FnMemory.l0]
        rw [if_pos (by omega)]
        rfl
      · refine Ev.of_succ (fun q => ?_)
        simp only [laws_FnMemory.l0]
        rw [if_neg (by omega)]
    refine Ev.step (fun q => ?_) rows
    simp only [laws_FnMemory.j0, Bool.not_true, Bool.false_eq_true, if_false]
    rfl
end Go.Proofs.Ytngonhgghncdiaa.Pure
end
