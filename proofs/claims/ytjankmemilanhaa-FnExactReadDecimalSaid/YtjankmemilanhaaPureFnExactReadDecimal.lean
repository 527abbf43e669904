/- ReadDecimal answers as the reference at every text: the plain half. No condition. -/
import Derived.Test.YtjankmemilanhaaP5
import Derived.Test.YtjankmemilanhaaP16
import Derived.Test.YtjankmemilanhaaP17
import Derived.Test.YtjankmemilanhaaP32
import Derived.Test.YtjankmemilanhaaP33
import Derived.Test.YtjankmemilanhaaP34
import Derived.Test.YtjankmemilanhaaAid
namespace Go.Proofs.Ytjankmemilanhaa.Pure
open Go.RowKit Go.Proofs.Ytjankmemilanhaa.P Go.Proofs.YtjankmemilanhaaW.PrintWords Go.Proofs.YtjankmemilanhaaW.PrintLast Go.Proofs.YtjankmemilanhaaW.PrintMore Go.Proofs.Ytjankmemilanhaa.Aid
set_option linter.unusedVariables false
set_option linter.unusedSimpArgs false

/-- The figures of n ahead of l. -/
def decL (n : Nat) (l : List UInt8) : List UInt8 :=
  if n < 10 then UInt8.ofNat (48 + n) :: l else decL (n / 10) (UInt8.ofNat (48 + n % 10) :: l)
termination_by n
decreasing_by omega

theorem decL_lt {n : Nat} (h : n < 10) (l : List UInt8) : decL n l = UInt8.ofNat (48 + n) :: l := by rw [decL, if_pos h]
theorem decL_ge {n : Nat} (h : ¬ n < 10) (l : List UInt8) : decL n l = decL (n / 10) (UInt8.ofNat (48 + n % 10) :: l) := by rw [decL, if_neg h]

def ba (l : List UInt8) : ByteArray := ⟨l.toArray⟩
theorem ba_size (l : List UInt8) : (ba l).size = l.length := by simp [ba, ByteArray.size]
theorem ba_one (d : Nat) (l : List UInt8) : strOfNums [((48 + d : Nat) : Int)] ++ ba l = ba (UInt8.ofNat (48 + d) :: l) := by
  have e : (((48 + d : Nat) : Int)).toNat = 48 + d := by omega
  apply ByteArray.ext
  simp only [strOfNums, List.map_cons, List.map_nil, e]
  simp [ba]
theorem ba_sign (l : List UInt8) : (⟨#[45]⟩ : ByteArray) ++ ba l = ba (45 :: l) := by
  apply ByteArray.ext
  simp [ba]
theorem ba_num_size (d : Int) : (strOfNums [d]).size = 1 := by simp [strOfNums, ByteArray.size]

theorem tmod10 (x : Int) : Int.tmod x 10 = if 0 ≤ x then ((x.natAbs % 10 : Nat) : Int) else -((x.natAbs % 10 : Nat) : Int) := by
  by_cases h : 0 ≤ x
  · rw [if_pos h]
    obtain ⟨n, rfl⟩ := Int.eq_ofNat_of_zero_le h
    rw [Int.tmod_eq_emod_of_nonneg h]; omega
  · rw [if_neg h]
    obtain ⟨n, hn⟩ := Int.eq_ofNat_of_zero_le (show 0 ≤ -x by omega)
    have hx : x = -(n : Int) := by omega
    subst hx
    rw [Int.neg_tmod, Int.tmod_eq_emod_of_nonneg (by omega)]; omega
theorem tdiv10 (x : Int) : (Int.tdiv x 10).natAbs = x.natAbs / 10 := by rw [Int.natAbs_tdiv]; rfl
theorem dig_neg {x : Int} (h : Int.tmod x 10 < 0) : (wrap64 (48 + (wrap64 (-(Int.tmod x 10))))) % 256 = ((48 + x.natAbs % 10 : Nat) : Int) := by
  rw [tmod10] at h ⊢
  unfold wrap64
  split at h <;> omega
theorem dig_pos {x : Int} (h : ¬ Int.tmod x 10 < 0) : (wrap64 (48 + (Int.tmod x 10))) % 256 = ((48 + x.natAbs % 10 : Nat) : Int) := by
  rw [tmod10] at h ⊢
  unfold wrap64
  split <;> split at h <;> omega
theorem wrap_tdiv10 {x : Int} (h1 : -9223372036854775808 ≤ x) (h2 : x ≤ 9223372036854775807) : wrap64 (Int.tdiv x 10) = Int.tdiv x 10 := by
  have := tdiv10 x
  exact wrap64_id (by omega) (by omega)
theorem tdiv10_bd {x : Int} (h1 : -9223372036854775808 ≤ x) (h2 : x ≤ 9223372036854775807) : -9223372036854775808 ≤ Int.tdiv x 10 ∧ Int.tdiv x 10 ≤ 9223372036854775807 := by
  have := tdiv10 x
  omega
def decOf (n : Int) : List UInt8 := if n < 0 then 45 :: decL n.natAbs [] else decL n.natAbs []
theorem impl_round {a0 x : Int} {l : List UInt8} (hl : l.length + 2 ≤ 1000000) (hx1 : -9223372036854775808 ≤ x) (hx2 : x ≤ 9223372036854775807) (k : Nat) :
    impl_Decimal.l0 (k + 1) a0 (ba l) x = if x.natAbs < 10 then some (ba (if a0 < 0 then 45 :: decL x.natAbs l else decL x.natAbs l)) else impl_Decimal.l0 k a0 (ba (UInt8.ofNat (48 + x.natAbs % 10) :: l)) (Int.tdiv x 10) := by
  have hw : impl_within.f x (-9) 9 = some (decide (x.natAbs < 10)) := by
    unfold impl_within.f
    by_cases h : x ≥ -9
    · rw [if_pos h]; congr 1; by_cases h9 : x ≤ 9
      · rw [decide_eq_true h9, decide_eq_true (by omega)]
      · rw [decide_eq_false h9, decide_eq_false (by omega)]
    · rw [if_neg h]; congr 1; rw [decide_eq_false (by omega)]
  have hlast : x.natAbs < 10 → UInt8.ofNat (48 + x.natAbs % 10) :: l = decL x.natAbs l := by
    intro h
    rw [decL_lt h, Nat.mod_eq_of_lt h]
  simp only [impl_Decimal.l0]
  have key : ∀ y : Int, y = ((48 + x.natAbs % 10 : Nat) : Int) →
      ((some ([y] : List Int)).bind fun y101 => (if (strOfNums y101).size + (ba l).size ≤ 9223372036854775807 then ((impl_within.f x (-9) 9).bind fun t104 => (if t104 = true then (if a0 < 0 then (if 1 + ((strOfNums y101) ++ ba l).size ≤ 9223372036854775807 then (some ((⟨#[45]⟩ : ByteArray) ++ ((strOfNums y101) ++ ba l))) else (none)) else (some ((strOfNums y101) ++ ba l))) else (impl_Decimal.l0 k a0 ((strOfNums y101) ++ ba l) (wrap64 (Int.tdiv x 10))))) else (none)))
      = if x.natAbs < 10 then some (ba (if a0 < 0 then 45 :: decL x.natAbs l else decL x.natAbs l)) else impl_Decimal.l0 k a0 (ba (UInt8.ofNat (48 + x.natAbs % 10) :: l)) (Int.tdiv x 10) := by
    rintro y rfl
    simp only [Option.bind_some]
    rw [ba_num_size, ba_size, if_pos (by omega), hw, ba_one, ba_size, wrap_tdiv10 hx1 hx2]
    simp only [Option.bind_some, decide_eq_true_eq]
    by_cases h : x.natAbs < 10
    · rw [if_pos h, if_pos h, ← hlast h, ba_sign]
      simp only [List.length_cons]
      by_cases ha : a0 < 0
      · rw [if_pos ha, if_pos ha, if_pos (by omega)]
      · rw [if_neg ha, if_neg ha]
    · rw [if_neg h, if_neg h]
  by_cases h : Int.tmod x 10 < 0
  · rw [if_pos h]; exact key _ (dig_neg h)
  · rw [if_neg h]; exact key _ (dig_pos h)

theorem impl_dec (a0 : Int) : ∀ (j : Nat) (x : Int) (l : List UInt8), x.natAbs < 10 ^ (j + 1) → -9223372036854775808 ≤ x → x ≤ 9223372036854775807 → l.length + j + 2 ≤ 1000000 →
    Ev (fun k => impl_Decimal.l0 k a0 (ba l) x) (ba (if a0 < 0 then 45 :: decL x.natAbs l else decL x.natAbs l)) := by
  intro j
  induction j with
  | zero =>
    intro x l hx h1 h2 hl
    refine ⟨1, fun n hn => ?_⟩
    obtain ⟨m, rfl⟩ : ∃ m, n = m + 1 := ⟨n - 1, by omega⟩
    show impl_Decimal.l0 (m + 1) a0 (ba l) x = _
    rw [impl_round (by omega) h1 h2, if_pos (by omega)]
  | succ j ih =>
    intro x l hx h1 h2 hl
    refine Ev.step (fun k => impl_round (by omega) h1 h2 k) ?_
    by_cases h : x.natAbs < 10
    · simp only [if_pos h]; exact Ev.now _
    · simp only [if_neg h]
      have hb := tdiv10_bd h1 h2
      have hi := ih (Int.tdiv x 10) (UInt8.ofNat (48 + x.natAbs % 10) :: l) (by rw [tdiv10]; rw [Nat.pow_succ] at hx; omega) hb.1 hb.2 (by simp only [List.length_cons]; omega)
      rw [tdiv10, ← decL_ge h] at hi
      exact hi
theorem impl_Decimal_ev (n : Int) (h1 : -9223372036854775808 ≤ n) (h2 : n ≤ 9223372036854775807) : Ev (fun k => impl_Decimal.f k n) (ba (decOf n)) :=
  impl_dec n 18 n [] (by omega) h1 h2 (by simp)
theorem spec_round {x : Int} {neg : Bool} {l : List UInt8} (hx : x ≠ 0) (hl : l.length + 2 ≤ 1000000) (hx1 : -9223372036854775808 ≤ x) (hx2 : x ≤ 9223372036854775807) (k : Nat) :
    spec_Decimal.l0 (k + 1) x neg (ba l) = spec_Decimal.l0 k (Int.tdiv x 10) neg (ba (UInt8.ofNat (48 + x.natAbs % 10) :: l)) := by
  simp only [spec_Decimal.l0]
  rw [if_neg hx]
  by_cases h : Int.tmod x 10 < 0
  · rw [if_pos h]; simp only [Option.bind_some]
    rw [dig_neg h, ba_num_size, ba_size, if_pos (by omega), ba_one, wrap_tdiv10 hx1 hx2]
  · rw [if_neg h]; simp only [Option.bind_some]
    rw [dig_pos h, ba_num_size, ba_size, if_pos (by omega), ba_one, wrap_tdiv10 hx1 hx2]
theorem spec_dec (neg : Bool) : ∀ (j : Nat) (x : Int) (l : List UInt8), x ≠ 0 → x.natAbs < 10 ^ j → -9223372036854775808 ≤ x → x ≤ 9223372036854775807 → l.length + j + 2 ≤ 1000000 →
    Ev (fun k => spec_Decimal.l0 k x neg (ba l)) (ba (if neg = true then 45 :: decL x.natAbs l else decL x.natAbs l)) := by
  intro j
  induction j with
  | zero => intro x l hx hj; simp only [Nat.pow_zero] at hj; omega
  | succ j ih =>
    intro x l hx hj h1 h2 hl
    refine Ev.step (fun k => spec_round hx (by omega) h1 h2 k) ?_
    by_cases h : x.natAbs < 10
    · have h0 : Int.tdiv x 10 = 0 := by have := tdiv10 x; omega
      rw [h0, decL_lt h, Nat.mod_eq_of_lt h]
      refine ⟨1, fun n hn => ?_⟩
      obtain ⟨m, rfl⟩ : ∃ m, n = m + 1 := ⟨n - 1, by omega⟩
      show spec_Decimal.l0 (m + 1) 0 neg _ = _
      simp only [spec_Decimal.l0, if_true]
      rw [ba_size, ba_sign]
      simp only [List.length_cons]
      rw [if_pos (show 1 + (l.length + 1) ≤ 9223372036854775807 by omega)]
      split <;> rfl
    · have hb := tdiv10_bd h1 h2
      have hi := ih (Int.tdiv x 10) (UInt8.ofNat (48 + x.natAbs % 10) :: l) (by have := tdiv10 x; omega) (by rw [tdiv10]; rw [Nat.pow_succ] at hj; omega) hb.1 hb.2 (by simp only [List.length_cons]; omega)
      rw [tdiv10, ← decL_ge h] at hi
      exact hi
theorem spec_Decimal_ev (n : Int) (h1 : -9223372036854775808 ≤ n) (h2 : n ≤ 9223372036854775807) : Ev (fun k => spec_Decimal.f k n) (ba (decOf n)) := by
  by_cases h0 : n = 0
  · subst h0
    refine ⟨0, fun k _ => ?_⟩
    show spec_Decimal.f k 0 = _
    unfold spec_Decimal.f
    rw [if_pos rfl, show decOf 0 = [48] from by unfold decOf; rw [if_neg (by omega), decL_lt (by decide)]; rfl]
    rfl
  · refine Ev.congr (f := fun k => spec_Decimal.l0 k n (decide (n < 0)) (ba [])) (fun k => ?_) ?_
    · show spec_Decimal.f k n = _
      unfold spec_Decimal.f
      rw [if_neg h0]; rfl
    · have := spec_dec (decide (n < 0)) 19 n [] h0 (by omega) h1 h2 (by simp)
      unfold decOf
      simpa only [decide_eq_true_eq] using this

theorem within7 (n : Int) : impl_within.f n 1 7 = some (decide (1 ≤ n ∧ n ≤ 7)) := by
  unfold impl_within.f
  by_cases h : n ≥ 1 <;> simp [h]
def endOf (s : ByteArray) (n : Int) : Int × Bool := if n > 1000000 then (0, false) else (if (ba (decOf n)).toList = s.toList then (n, true) else (0, false))
theorem both (s : ByteArray) (hs : s.size ≤ 7) : ∀ (d i : Nat) (n : Int), i + d = s.size → 0 ≤ n → n < 10 ^ i →
    ∃ r, Ev (fun k => spec_ReadDecimal.l0 k s n (i : Int)) r ∧ Ev (fun k => impl_ReadDecimal.l0 k s n (s.size : Int) (i : Int)) r := by
  intro d
  induction d with
  | zero =>
    intro i n hi h0 h1
    have hi : i = s.size := by omega
    have hp : (10 : Int) ^ i ≤ 10 ^ 7 := by exact_mod_cast Nat.pow_le_pow_right (n := 10) (by omega) (show i ≤ 7 by omega)
    have hn : n < 10000000 := by omega
    clear h1 hp
    refine ⟨endOf s n, ?_, ?_⟩
    · refine Ev.step (f := fun k => if n > 1000000 then (some (0, false)) else ((spec_Decimal.f k n).bind fun t => (if t.toList = s.toList then (some (n, true)) else (some (0, false))))) (fun k => ?_) ?_
      · show spec_ReadDecimal.l0 (k + 1) _ _ _ = _
        simp only [spec_ReadDecimal.l0]
        rw [if_neg (by omega)]
      · unfold endOf
        by_cases hN : n > 1000000
        · simp only [if_pos hN]
          exact Ev.now _
        · simp only [if_neg hN]
          refine Ev.bind (spec_Decimal_ev n (by omega) (by omega)) ?_
          refine Ev.congr (f := fun _ => some _) (fun k => ?_) (Ev.now _)
          split <;> rfl
    · refine Ev.step (f := fun k => if n > 1000000 then (some (0, false)) else ((impl_Decimal.f k n).bind fun t => (if t.toList = s.toList then (some (n, true)) else (some (0, false))))) (fun k => ?_) ?_
      · show impl_ReadDecimal.l0 (k + 1) _ _ _ _ = _
        simp only [impl_ReadDecimal.l0]
        rw [if_neg (by omega)]
      · unfold endOf
        by_cases hN : n > 1000000
        · simp only [if_pos hN]
          exact Ev.now _
        · simp only [if_neg hN]
          refine Ev.bind (impl_Decimal_ev n (by omega) (by omega)) ?_
          refine Ev.congr (f := fun _ => some _) (fun k => ?_) (Ev.now _)
          split <;> rfl
  | succ d ih =>
    intro i n hi h0 h1
    have hb := bt_range s (i : Int)
    have hp : (10 : Int) ^ i ≤ 10 ^ 7 := by exact_mod_cast Nat.pow_le_pow_right (n := 10) (by omega) (show i ≤ 7 by omega)
    have hn : n < 10000000 := by omega
    by_cases hd : 48 ≤ bt s (i : Int) ∧ bt s (i : Int) ≤ 57
    · obtain ⟨r, hr1, hr2⟩ := ih (i + 1) (10 * n + (bt s (i : Int) - 48)) (by omega) (by omega) (by rw [Int.pow_succ]; omega)
      refine ⟨r, ?_, ?_⟩
      · refine Ev.step (fun k => ?_) hr1
        show spec_ReadDecimal.l0 (k + 1) _ _ _ = _
        simp only [spec_ReadDecimal.l0]
        rw [if_pos (by omega), if_pos (by omega), if_neg (by omega), if_neg (by omega)]
        congr 1 <;> (unfold wrap64; omega)
      · refine Ev.step (fun k => ?_) hr2
        show impl_ReadDecimal.l0 (k + 1) _ _ _ _ = _
        simp only [impl_ReadDecimal.l0]
        rw [if_pos (by omega), if_pos (by omega), if_pos (by omega), if_neg (by omega), if_neg (by omega)]
        congr 1 <;> (unfold wrap64; omega)
    · refine ⟨(0, false), ⟨1, fun m hm => ?_⟩, ⟨1, fun m hm => ?_⟩⟩
      · obtain ⟨k, rfl⟩ : ∃ k, m = k + 1 := ⟨m - 1, by omega⟩
        show spec_ReadDecimal.l0 (k + 1) _ _ _ = _
        simp only [spec_ReadDecimal.l0]
        rw [if_pos (by omega), if_pos (by omega)]
        by_cases h48 : bt s (i : Int) < 48
        · rw [if_pos h48]
        · rw [if_neg h48, if_pos (by omega)]
      · obtain ⟨k, rfl⟩ : ∃ k, m = k + 1 := ⟨m - 1, by omega⟩
        show impl_ReadDecimal.l0 (k + 1) _ _ _ _ = _
        simp only [impl_ReadDecimal.l0]
        rw [if_pos (by omega), if_pos (by omega), if_pos (by omega)]
        by_cases h48 : bt s (i : Int) < 48
        · rw [if_pos h48]
        · rw [if_neg h48, if_pos (by omega)]
theorem spec_empty (s : ByteArray) (hs : s.size = 0) : Ev (fun k => spec_ReadDecimal.f k s) (0, false) := by
  obtain rfl : s = ba [] := by
    apply ByteArray.ext
    exact Array.eq_empty_of_size_eq_zero hs
  refine Ev.step (f := fun k => (spec_Decimal.f k 0).bind fun t => (if t.toList = (ba []).toList then (some ((0 : Int), true)) else (some (0, false)))) (fun k => ?_) ?_
  · show spec_ReadDecimal.f (k + 1) _ = _
    unfold spec_ReadDecimal.f
    rw [hs, if_neg (by omega)]
    simp only [spec_ReadDecimal.l0]
    rw [hs, if_neg (by omega), if_neg (by omega)]
  · refine Ev.bind (spec_Decimal_ev 0 (by omega) (by omega)) ?_
    have h0 : decOf 0 = [48] := by unfold decOf; rw [if_neg (by omega), decL_lt (by decide)]; rfl
    rw [h0]
    refine Ev.congr (f := fun _ => some _) (fun k => ?_) (Ev.now _)
    rw [if_neg (by decide +kernel)]

theorem FnExactReadDecimal (s : ByteArray) (_w0 : s.size ≤ maxLen) : ∃ k, laws_FnExactReadDecimal.f k s = some true := by
  by_cases hbig : (s.size : Int) > 1048576
  · exact ⟨0, by unfold laws_FnExactReadDecimal.f; rw [if_pos hbig]⟩
  have key : ∃ r, Ev (fun k => spec_ReadDecimal.f k s) r ∧ Ev (fun k => impl_ReadDecimal.f k s) r := by
    by_cases h0 : s.size = 0
    · refine ⟨(0, false), spec_empty s h0, Ev.congr (f := fun _ => some _) (fun k => ?_) (Ev.now _)⟩
      show impl_ReadDecimal.f k s = _
      unfold impl_ReadDecimal.f
      rw [within7, decide_eq_false (by omega)]
      rfl
    · by_cases h7 : s.size ≤ 7
      · obtain ⟨r, h1, h2⟩ := both s h7 s.size 0 0 (by omega) (by omega) (by omega)
        refine ⟨r, Ev.congr (fun k => ?_) h1, Ev.congr (fun k => ?_) h2⟩
        · show spec_ReadDecimal.f k s = _
          unfold spec_ReadDecimal.f
          rw [if_neg (by omega)]; rfl
        · show impl_ReadDecimal.f k s = _
          unfold impl_ReadDecimal.f
          rw [within7, decide_eq_true (by omega)]
          rfl
      · refine ⟨(0, false), Ev.congr (f := fun _ => some _) (fun k => ?_) (Ev.now _), Ev.congr (f := fun _ => some _) (fun k => ?_) (Ev.now _)⟩
        · show spec_ReadDecimal.f k s = _
          unfold spec_ReadDecimal.f
          rw [if_pos (by omega)]
        · show impl_ReadDecimal.f k s = _
          unfold impl_ReadDecimal.f
          rw [within7, decide_eq_false (by omega)]
          rfl
  obtain ⟨r, h1, h2⟩ := key
  refine Ev.rounds (g := fun k => laws_FnExactReadDecimal.f k s) ?_
  unfold laws_FnExactReadDecimal.f
  simp only [if_neg hbig]
  refine Ev.bind h1 ?_
  refine Ev.bind h2 ?_
  simp only [if_true, bne_self_eq_false, Bool.false_eq_true, if_false]
  exact Ev.now true

end Go.Proofs.Ytjankmemilanhaa.Pure
