/- Whatever is drawn: a number in 0 .. MaxNumber comes back from its figures, and any other one is refused: the plain half. No condition. -/
import Derived.Test.YtjankmemilanhaaP5
import Derived.Test.YtjankmemilanhaaP17
import Derived.Test.YtjankmemilanhaaP33
import Derived.Test.YtjankmemilanhaaP35
import Derived.Test.YtjankmemilanhaaP36
import Derived.Test.YtjankmemilanhaaP37
import Derived.Test.YtjankmemilanhaaP38
import Derived.Test.YtjankmemilanhaaP39
import Derived.Test.YtjankmemilanhaaP40
import Derived.Test.YtjankmemilanhaaP41
import Derived.Test.YtjankmemilanhaaAid
namespace Go.Proofs.Ytjankmemilanhaa.Pure
open Go.RowKit Go.Proofs.Ytjankmemilanhaa.P Go.Proofs.YtjankmemilanhaaW.PrintWords Go.Proofs.YtjankmemilanhaaW.PrintLast Go.Proofs.YtjankmemilanhaaW.PrintMore Go.Proofs.Ytjankmemilanhaa.Aid
set_option linter.unusedVariables false
set_option linter.unusedSimpArgs false

/-- The figures of n ahead of l. -/
def decL (n : Nat) (l : List UInt8) : List UInt8 :=
  if n < 10 then UInt8.ofNat (48 + n) :: l else decL (n / 10) (UInt8.ofNat (48 + n % 10) :: l)
termination_by n
decreasing_by omega

theorem decL_lt {n : Nat} (h : n < 10) (l : List UInt8) : decL n l = UInt8.ofNat (48 + n) :: l := by rw [decL, if_pos h]
theorem decL_ge {n : Nat} (h : ¬ n < 10) (l : List UInt8) : decL n l = decL (n / 10) (UInt8.ofNat (48 + n % 10) :: l) := by rw [decL, if_neg h]

def ba (l : List UInt8) : ByteArray := ⟨l.toArray⟩
theorem ba_size (l : List UInt8) : (ba l).size = l.length := by simp [ba, ByteArray.size]
theorem ba_one (d : Nat) (l : List UInt8) : strOfNums [((48 + d : Nat) : Int)] ++ ba l = ba (UInt8.ofNat (48 + d) :: l) := by
  have e : (((48 + d : Nat) : Int)).toNat = 48 + d := by omega
  apply ByteArray.ext
  simp only [strOfNums, List.map_cons, List.map_nil, e]
  simp [ba]
theorem ba_sign (l : List UInt8) : (⟨#[45]⟩ : ByteArray) ++ ba l = ba (45 :: l) := by
  apply ByteArray.ext
  simp [ba]
theorem ba_num_size (d : Int) : (strOfNums [d]).size = 1 := by simp [strOfNums, ByteArray.size]

theorem tmod10 (x : Int) : Int.tmod x 10 = if 0 ≤ x then ((x.natAbs % 10 : Nat) : Int) else -((x.natAbs % 10 : Nat) : Int) := by
  by_cases h : 0 ≤ x
  · rw [if_pos h]
    obtain ⟨n, rfl⟩ := Int.eq_ofNat_of_zero_le h
    rw [Int.tmod_eq_emod_of_nonneg h]; omega
  · rw [if_neg h]
    obtain ⟨n, hn⟩ := Int.eq_ofNat_of_zero_le (show 0 ≤ -x by omega)
    have hx : x = -(n : Int) := by omega
    subst hx
    rw [Int.neg_tmod, Int.tmod_eq_emod_of_nonneg (by omega)]; omega
theorem tdiv10 (x : Int) : (Int.tdiv x 10).natAbs = x.natAbs / 10 := by rw [Int.natAbs_tdiv]; rfl
theorem dig_neg {x : Int} (h : Int.tmod x 10 < 0) : (wrap64 (48 + (wrap64 (-(Int.tmod x 10))))) % 256 = ((48 + x.natAbs % 10 : Nat) : Int) := by
  rw [tmod10] at h ⊢
  unfold wrap64
  split at h <;> omega
theorem dig_pos {x : Int} (h : ¬ Int.tmod x 10 < 0) : (wrap64 (48 + (Int.tmod x 10))) % 256 = ((48 + x.natAbs % 10 : Nat) : Int) := by
  rw [tmod10] at h ⊢
  unfold wrap64
  split <;> split at h <;> omega
theorem wrap_tdiv10 {x : Int} (h1 : -9223372036854775808 ≤ x) (h2 : x ≤ 9223372036854775807) : wrap64 (Int.tdiv x 10) = Int.tdiv x 10 := by
  have := tdiv10 x
  exact wrap64_id (by omega) (by omega)
theorem tdiv10_bd {x : Int} (h1 : -9223372036854775808 ≤ x) (h2 : x ≤ 9223372036854775807) : -9223372036854775808 ≤ Int.tdiv x 10 ∧ Int.tdiv x 10 ≤ 9223372036854775807 := by
  have := tdiv10 x
  omega
def decOf (n : Int) : List UInt8 := if n < 0 then 45 :: decL n.natAbs [] else decL n.natAbs []
theorem impl_round {a0 x : Int} {l : List UInt8} (hl : l.length + 2 ≤ 1000000) (hx1 : -9223372036854775808 ≤ x) (hx2 : x ≤ 9223372036854775807) (k : Nat) :
    impl_Decimal.l0 (k + 1) a0 (ba l) x = if x.natAbs < 10 then some (ba (if a0 < 0 then 45 :: decL x.natAbs l else decL x.natAbs l)) else impl_Decimal.l0 k a0 (ba (UInt8.ofNat (48 + x.natAbs % 10) :: l)) (Int.tdiv x 10) := by
  have hw : impl_within.f x (-9) 9 = some (decide (x.natAbs < 10)) := by
    unfold impl_within.f
    by_cases h : x ≥ -9
    · rw [if_pos h]; congr 1; by_cases h9 : x ≤ 9
      · rw [decide_eq_true h9, decide_eq_true (by omega)]
      · rw [decide_eq_false h9, decide_eq_false (by omega)]
    · rw [if_neg h]; congr 1; rw [decide_eq_false (by omega)]
  have hlast : x.natAbs < 10 → UInt8.ofNat (48 + x.natAbs % 10) :: l = decL x.natAbs l := by
    intro h
    rw [decL_lt h, Nat.mod_eq_of_lt h]
  simp only [impl_Decimal.l0]
  have key : ∀ y : Int, y = ((48 + x.natAbs % 10 : Nat) : Int) →
      ((some ([y] : List Int)).bind fun y101 => (if (strOfNums y101).size + (ba l).size ≤ 9223372036854775807 then ((impl_within.f x (-9) 9).bind fun t104 => (if t104 = true then (if a0 < 0 then (if 1 + ((strOfNums y101) ++ ba l).size ≤ 9223372036854775807 then (some ((⟨#[45]⟩ : ByteArray) ++ ((strOfNums y101) ++ ba l))) else (none)) else (some ((strOfNums y101) ++ ba l))) else (impl_Decimal.l0 k a0 ((strOfNums y101) ++ ba l) (wrap64 (Int.tdiv x 10))))) else (none)))
      = if x.natAbs < 10 then some (ba (if a0 < 0 then 45 :: decL x.natAbs l else decL x.natAbs l)) else impl_Decimal.l0 k a0 (ba (UInt8.ofNat (48 + x.natAbs % 10) :: l)) (Int.tdiv x 10) := by
    rintro y rfl
    simp only [Option.bind_some]
    rw [ba_num_size, ba_size, if_pos (by omega), hw, ba_one, ba_size, wrap_tdiv10 hx1 hx2]
    simp only [Option.bind_some, decide_eq_true_eq]
    by_cases h : x.natAbs < 10
    · rw [if_pos h, if_pos h, ← hlast h, ba_sign]
      simp only [List.length_cons]
      by_cases ha : a0 < 0
      · rw [if_pos ha, if_pos ha, if_pos (by omega)]
      · rw [if_neg ha, if_neg ha]
    · rw [if_neg h, if_neg h]
  by_cases h : Int.tmod x 10 < 0
  · rw [if_pos h]; exact key _ (dig_neg h)
  · rw [if_neg h]; exact key _ (dig_pos h)

theorem impl_dec (a0 : Int) : ∀ (j : Nat) (x : Int) (l : List UInt8), x.natAbs < 10 ^ (j + 1) → -9223372036854775808 ≤ x → x ≤ 9223372036854775807 → l.length + j + 2 ≤ 1000000 →
    Ev (fun k => impl_Decimal.l0 k a0 (ba l) x) (ba (if a0 < 0 then 45 :: decL x.natAbs l else decL x.natAbs l)) := by
  intro j
  induction j with
  | zero =>
    intro x l hx h1 h2 hl
    refine ⟨1, fun n hn => ?_⟩
    obtain ⟨m, rfl⟩ : ∃ m, n = m + 1 := ⟨n - 1, by omega⟩
    show impl_Decimal.l0 (m + 1) a0 (ba l) x = _
    rw [impl_round (by omega) h1 h2, if_pos (by omega)]
  | succ j ih =>
    intro x l hx h1 h2 hl
    refine Ev.step (fun k => impl_round (by omega) h1 h2 k) ?_
    by_cases h : x.natAbs < 10
    · simp only [if_pos h]; exact Ev.now _
    · simp only [if_neg h]
      have hb := tdiv10_bd h1 h2
      have hi := ih (Int.tdiv x 10) (UInt8.ofNat (48 + x.natAbs % 10) :: l) (by rw [tdiv10]; rw [Nat.pow_succ] at hx; omega) hb.1 hb.2 (by simp only [List.length_cons]; omega)
      rw [tdiv10, ← decL_ge h] at hi
      exact hi
theorem impl_Decimal_ev (n : Int) (h1 : -9223372036854775808 ≤ n) (h2 : n ≤ 9223372036854775807) : Ev (fun k => impl_Decimal.f k n) (ba (decOf n)) :=
  impl_dec n 18 n [] (by omega) h1 h2 (by simp)
/-- The number that figures tell, begun at a. -/
def val (a : Nat) (l : List UInt8) : Nat := l.foldl (fun a c => 10 * a + (c.toNat - 48)) a
theorem ofNat_toNat8 {d : Nat} (h : d < 10) : (UInt8.ofNat (48 + d)).toNat = 48 + d := by
  rw [UInt8.toNat_ofNat']; omega
theorem val_decL (n : Nat) (l : List UInt8) : val 0 (decL n l) = val n l := by
  induction n using Nat.strongRecOn generalizing l with
  | _ n ih =>
    by_cases h : n < 10
    · rw [decL_lt h]
      simp only [val, List.foldl_cons]
      rw [ofNat_toNat8 h]
      congr 1; omega
    · rw [decL_ge h, ih (n / 10) (by omega)]
      simp only [val, List.foldl_cons]
      rw [ofNat_toNat8 (by omega)]
      congr 1; omega
def Figs (l : List UInt8) : Prop := ∀ c ∈ l, 48 ≤ c.toNat ∧ c.toNat ≤ 57
theorem figs_decL (n : Nat) (l : List UInt8) (hl : Figs l) : Figs (decL n l) := by
  induction n using Nat.strongRecOn generalizing l with
  | _ n ih =>
    by_cases h : n < 10
    · rw [decL_lt h]
      intro c hc
      rcases List.mem_cons.1 hc with rfl | hc
      · rw [ofNat_toNat8 h]; omega
      · exact hl c hc
    · rw [decL_ge h]
      refine ih (n / 10) (by omega) _ ?_
      intro c hc
      rcases List.mem_cons.1 hc with rfl | hc
      · rw [ofNat_toNat8 (by omega)]; omega
      · exact hl c hc
theorem decL_ne (n : Nat) (l : List UInt8) : decL n l ≠ [] := by
  induction n using Nat.strongRecOn generalizing l with
  | _ n ih =>
    by_cases h : n < 10
    · rw [decL_lt h]; simp
    · rw [decL_ge h]; exact ih _ (by omega) _
theorem decL_len (j n : Nat) (l : List UInt8) (h : n < 10 ^ (j + 1)) : (decL n l).length ≤ l.length + j + 1 := by
  induction j generalizing n l with
  | zero =>
    have h1 : n < 10 := h
    rw [decL_lt h1, List.length_cons]
    exact Nat.le_refl _
  | succ j ih =>
    by_cases h9 : n < 10
    · rw [decL_lt h9, List.length_cons]; omega
    · rw [decL_ge h9]
      have := ih (n / 10) (UInt8.ofNat (48 + n % 10) :: l) (by rw [Nat.pow_succ] at h; omega)
      simp only [List.length_cons] at this
      omega
theorem val_lt (l : List UInt8) (hl : Figs l) (a : Nat) : val a l < (a + 1) * 10 ^ l.length := by
  induction l generalizing a with
  | nil => simp [val]
  | cons c l ih =>
    have hc := hl c List.mem_cons_self
    have := ih (fun x hx => hl x (List.mem_cons_of_mem _ hx)) (10 * a + (c.toNat - 48))
    simp only [val, List.foldl_cons, List.length_cons] at this ⊢
    refine Nat.lt_of_lt_of_le this ?_
    rw [Nat.pow_succ, Nat.mul_comm (10 ^ l.length) 10, ← Nat.mul_assoc]
    exact Nat.mul_le_mul_right _ (by omega)
theorem bt_ba (l : List UInt8) (i : Nat) (c : UInt8) (h : l[i]? = some c) : bt (ba l) (i : Int) = (c.toNat : Int) := by
  obtain ⟨hi, he⟩ := List.getElem?_eq_some_iff.1 h
  have hs : (i : Int).toNat < (ba l).size := by rw [ba_size]; simpa using hi
  unfold bt
  rw [dif_pos hs]
  subst he
  simp [ba, ByteArray.getElem_eq_getElem_data]
def ansOf (l : List UInt8) (N : Nat) : Int × Bool := if 1000000 < N then (0, false) else (if (ba (decOf N)).toList = (ba l).toList then ((N : Int), true) else (0, false))
theorem impl_read (l : List UInt8) (hl : Figs l) (hlen : l.length ≤ 7) : ∀ (d i : Nat), i + d = l.length →
    Ev (fun k => impl_ReadDecimal.l0 k (ba l) (val 0 (l.take i) : Nat) ((ba l).size : Int) (i : Int)) (ansOf l (val 0 l)) := by
  intro d
  induction d with
  | zero =>
    intro i hi
    have hi : i = l.length := by omega
    subst hi
    rw [List.take_length]
    have hv := val_lt l hl 0
    have hp : 10 ^ l.length ≤ 10 ^ 7 := Nat.pow_le_pow_right (by omega) hlen
    have hb : val 0 l < 10000000 := by omega
    generalize val 0 l = N at *
    refine Ev.step (f := fun k => if (N : Int) > 1000000 then (some (0, false)) else ((impl_Decimal.f k (N : Int)).bind fun t117 => (if t117.toList = (ba l).toList then (some ((N : Int), true)) else (some (0, false))))) (fun k => ?_) ?_
    · show impl_ReadDecimal.l0 (k + 1) _ _ _ _ = _
      simp only [impl_ReadDecimal.l0]
      rw [ba_size, if_neg (by omega)]
    · unfold ansOf
      by_cases hN : 1000000 < N
      · simp only [if_pos hN, if_pos (show (N : Int) > 1000000 by omega)]
        exact Ev.now _
      · simp only [if_neg hN, if_neg (show ¬ (N : Int) > 1000000 by omega)]
        refine Ev.bind (impl_Decimal_ev (N : Int) (by omega) (by omega)) ?_
        refine Ev.congr (f := fun _ => some _) (fun k => ?_) (Ev.now _)
        split <;> rfl
  | succ d ih =>
    intro i hi
    have hlt : i < l.length := by omega
    have hc : l[i]? = some l[i] := List.getElem?_eq_getElem hlt
    have hf := hl l[i] (List.getElem_mem hlt)
    have hb := bt_ba l i _ hc
    have hv := val_lt (l.take i) (fun c hc => hl c (List.mem_of_mem_take hc)) 0
    have hp : 10 ^ (l.take i).length ≤ 10 ^ 7 := Nat.pow_le_pow_right (by omega) (by rw [List.length_take]; omega)
    have hb7 : val 0 (l.take i) < 10000000 := by omega
    clear hv hp
    have hs : val 0 (l.take (i + 1)) = 10 * val 0 (l.take i) + (l[i].toNat - 48) := by
      rw [List.take_succ_eq_append_getElem hlt]
      unfold val
      rw [List.foldl_append]
      rfl
    refine Ev.step (f := fun k => impl_ReadDecimal.l0 k (ba l) (val 0 (l.take (i + 1)) : Nat) ((ba l).size : Int) ((i + 1 : Nat) : Int)) (fun k => ?_) (ih (i + 1) (by omega))
    show impl_ReadDecimal.l0 (k + 1) _ _ _ _ = _
    rw [hs]
    generalize val 0 (l.take i) = a at *
    generalize l[i].toNat = c at *
    simp only [impl_ReadDecimal.l0]
    rw [hb, if_pos (by rw [ba_size]; omega), if_pos (by omega), if_pos (by rw [ba_size]; omega), if_neg (by omega), if_neg (by omega)]
    have e1 : ((c : Int) - 48) % 256 = ((c - 48 : Nat) : Int) := by omega
    have e2 : wrap64 (10 * (a : Int)) = 10 * a := wrap64_id (by omega) (by omega)
    have e3 : wrap64 (10 * (a : Int) + ((c - 48 : Nat) : Int)) = ((10 * a + (c - 48) : Nat) : Int) := by rw [wrap64_id (by omega) (by omega)]; omega
    have e4 : wrap64 ((i : Int) + 1) = ((i + 1 : Nat) : Int) := wrap64_id (by omega) (by omega)
    rw [e1, e2, e3, e4]
theorem impl_ReadDecimal_figs (l : List UInt8) (hl : Figs l) (hlen : l.length ≤ 7) (h0 : l ≠ []) : Ev (fun k => impl_ReadDecimal.f k (ba l)) (ansOf l (val 0 l)) := by
  have hpos : 0 < l.length := List.length_pos_iff.2 h0
  refine Ev.congr (f := fun k => impl_ReadDecimal.l0 k (ba l) (val 0 (l.take 0) : Nat) ((ba l).size : Int) ((0 : Nat) : Int)) (fun k => ?_) (impl_read l hl hlen l.length 0 (by omega))
  show impl_ReadDecimal.f k (ba l) = _
  have hw : impl_within.f ((ba l).size : Int) 1 7 = some true := by
    unfold impl_within.f
    rw [ba_size, if_pos (by omega), decide_eq_true (by omega)]
  unfold impl_ReadDecimal.f
  rw [hw]
  simp [val]
theorem l01New_ends (l : List Int) (hl : l.length ≤ 9223372036854775806) : ∃ h, Ev (fun k => spec_l01New.f k l) (l, 0, h) := by
  have key : ∀ (d i : Nat) (h : Int), i + d = l.length → ∃ h', Ev (fun k => spec_l01New.l0 k l h (i : Int)) (l, 0, h') := by
    intro d
    induction d with
    | zero =>
      intro i h hi
      refine ⟨h, 1, fun n hn => ?_⟩
      obtain ⟨m, rfl⟩ : ∃ m, n = m + 1 := ⟨n - 1, by omega⟩
      show spec_l01New.l0 (m + 1) _ _ _ = _
      simp only [spec_l01New.l0]
      rw [if_neg (by omega)]
    | succ d ih =>
      intro i h hi
      by_cases h4 : (i : Int) < 4000
      · obtain ⟨h', he⟩ := ih (i + 1) (Go.bits .and .i64 (wrap64 ((wrap64 ((wrap64 (h * 131)) + (wrap64 (rd l (i : Int))))) + 7)) 1073741823) (by omega)
        refine ⟨h', Ev.step (fun k => ?_) he⟩
        show spec_l01New.l0 (k + 1) _ _ _ = _
        simp only [spec_l01New.l0]
        rw [if_pos (by omega), if_pos h4, if_pos (by omega), show wrap64 ((i : Int) + 1) = ((i + 1 : Nat) : Int) from by unfold wrap64; omega]
      · refine ⟨h, 1, fun n hn => ?_⟩
        obtain ⟨m, rfl⟩ : ∃ m, n = m + 1 := ⟨n - 1, by omega⟩
        show spec_l01New.l0 (m + 1) _ _ _ = _
        simp only [spec_l01New.l0]
        rw [if_pos (by omega), if_neg h4]
  obtain ⟨h', he⟩ := key l.length 0 (wrap64 (10901 + (l.length : Int))) (by omega)
  exact ⟨h', he⟩
theorem l01Byte_ends (l : List Int) (hl : l.length ≤ 9223372036854775806) (i h : Int) (h0 : 0 ≤ i) (h1 : i ≤ l.length) :
    ∃ x i' h', spec_l01Byte.f l i h = some (x, i', h') ∧ 0 ≤ x ∧ x < 256 ∧ 0 ≤ i' ∧ i' ≤ l.length := by
  unfold spec_l01Byte.f
  by_cases hi : i < (l.length : Int)
  · rw [if_pos hi, if_pos h0]
    refine ⟨_, _, _, rfl, ?_, ?_, ?_, ?_⟩
    · rw [and255]; omega
    · rw [and255]; omega
    · rw [wrap64_id (by omega) (by omega)]; omega
    · rw [wrap64_id (by omega) (by omega)]; omega
  · rw [if_neg hi]
    refine ⟨_, _, _, rfl, ?_, ?_, h0, h1⟩
    · rw [and255]; omega
    · rw [and255]; omega
theorem l01Below_ends (l : List Int) (hl : l.length ≤ 9223372036854775806) (i h n : Int) (h0 : 0 ≤ i) (h1 : i ≤ l.length) :
    ∃ x i' h', spec_l01Below.f l i h n = some (x, i', h') ∧ 0 ≤ x ∧ (0 < n → x < n) ∧ (n ≤ 0 → x = 0) ∧ 0 ≤ i' ∧ i' ≤ l.length := by
  unfold spec_l01Below.f
  by_cases hn : n ≤ 0
  · rw [if_pos hn]
    exact ⟨_, _, _, rfl, by omega, by omega, fun _ => rfl, h0, h1⟩
  · rw [if_neg hn]
    obtain ⟨x, i1, g1, e1, a1, b1, c1, d1⟩ := l01Byte_ends l hl i h h0 h1
    by_cases h256 : n ≤ 256
    · rw [if_pos h256, e1]
      simp only [Option.bind_some]
      rw [if_neg (by omega)]
      refine ⟨_, _, _, rfl, ?_, ?_, by omega, c1, d1⟩
      · rw [tmod_nonneg a1 (by omega)]; exact Int.emod_nonneg _ (by omega)
      · intro hp; rw [tmod_nonneg a1 (by omega)]; exact Int.emod_lt_of_pos _ hp
    · rw [if_neg h256, e1]
      simp only [Option.bind_some]
      obtain ⟨y, i2, g2, e2, a2, b2, c2, d2⟩ := l01Byte_ends l hl i1 g1 c1 d1
      rw [e2]; simp only [Option.bind_some]
      obtain ⟨z, i3, g3, e3, a3, b3, c3, d3⟩ := l01Byte_ends l hl i2 g2 c2 d2
      rw [e3]; simp only [Option.bind_some]
      obtain ⟨t, i4, g4, e4, a4, b4, c4, d4⟩ := l01Byte_ends l hl i3 g3 c3 d3
      rw [e4]; simp only [Option.bind_some]
      rw [if_neg (by omega)]
      have hnn : 0 ≤ wrap64 ((wrap64 ((wrap64 ((wrap64 (x * 16777216)) + (wrap64 (y * 65536)))) + (wrap64 (z * 256)))) + t) := by unfold wrap64; omega
      refine ⟨_, _, _, rfl, ?_, ?_, by omega, c4, d4⟩
      · rw [tmod_nonneg hnn (by omega)]; exact Int.emod_nonneg _ (by omega)
      · intro hp; rw [tmod_nonneg hnn (by omega)]; exact Int.emod_lt_of_pos _ hp
theorem l01PickInt_ends (l : List Int) (hl : l.length ≤ 9223372036854775806) (i h : Int) (l1 : List Int) (h0 : 0 ≤ i) (h1 : i ≤ l.length) (hp : 0 < l1.length) :
    ∃ j i' h', spec_l01PickInt.f l i h l1 = some (rd l1 j, i', h') ∧ 0 ≤ j ∧ j < l1.length ∧ 0 ≤ i' ∧ i' ≤ l.length := by
  unfold spec_l01PickInt.f
  obtain ⟨x, i1, g1, e1, a1, b1, _, c1, d1⟩ := l01Below_ends l hl i h (l1.length : Int) h0 h1
  rw [e1]; simp only [Option.bind_some]
  rw [if_pos a1, if_pos (b1 (by omega))]
  exact ⟨x, _, _, rfl, a1, b1 (by omega), c1, d1⟩

theorem within7 (n : Int) : impl_within.f n 1 7 = some (decide (1 ≤ n ∧ n ≤ 7)) := by
  unfold impl_within.f
  by_cases h : n ≥ 1 <;> simp [h]
/-- What is longer than seven, or begins with the sign, is refused. -/
theorem impl_read_long (l : List UInt8) (h : 7 < l.length) : Ev (fun k => impl_ReadDecimal.f k (ba l)) (0, false) := by
  refine Ev.congr (f := fun _ => some (0, false)) (fun k => ?_) (Ev.now _)
  show impl_ReadDecimal.f k (ba l) = _
  unfold impl_ReadDecimal.f
  rw [within7, ba_size, decide_eq_false (by omega)]
  rfl
theorem impl_read_sign (l : List UInt8) (h : (45 :: l).length ≤ 7) : Ev (fun k => impl_ReadDecimal.f k (ba (45 :: l))) (0, false) := by
  refine Ev.congr (f := fun k => impl_ReadDecimal.l0 k (ba (45 :: l)) 0 ((ba (45 :: l)).size : Int) 0) (fun k => ?_) ?_
  · show impl_ReadDecimal.f k _ = _
    unfold impl_ReadDecimal.f
    rw [within7, ba_size, decide_eq_true (by simp only [List.length_cons] at h ⊢; omega)]
    rfl
  · refine ⟨1, fun n hn => ?_⟩
    obtain ⟨m, rfl⟩ : ∃ m, n = m + 1 := ⟨n - 1, by omega⟩
    show impl_ReadDecimal.l0 (m + 1) _ _ _ _ = _
    have hb := bt_ba (45 :: l) 0 45 rfl
    simp only [impl_ReadDecimal.l0]
    rw [show ((0 : Nat) : Int) = 0 from rfl] at hb
    rw [hb, ba_size, if_pos (by simp only [List.length_cons]; omega), if_pos (by omega), if_pos (by simp only [List.length_cons]; omega), if_pos (by decide)]
theorem val_decL0 (n : Nat) : val 0 (decL n []) = n := by rw [val_decL]; rfl
/-- A number's own figures, read. -/
theorem impl_read_back (n : Int) (h1 : -9223372036854775808 ≤ n) (h2 : n ≤ 9223372036854775807) :
    Ev (fun k => impl_ReadDecimal.f k (ba (decOf n))) (if 0 ≤ n ∧ n ≤ 1000000 then (n, true) else (0, false)) := by
  by_cases hneg : n < 0
  · rw [if_neg (by omega)]
    unfold decOf
    rw [if_pos hneg]
    by_cases hl : (45 :: decL n.natAbs []).length ≤ 7
    · exact impl_read_sign _ hl
    · exact impl_read_long _ (by omega)
  · have hd : decOf n = decL n.natAbs [] := by unfold decOf; rw [if_neg hneg]
    by_cases hl : (decL n.natAbs []).length ≤ 7
    · have := impl_ReadDecimal_figs (decL n.natAbs []) (figs_decL _ _ (by intro c hc; cases hc)) hl (decL_ne _ _)
      rw [val_decL0] at this
      rw [hd]
      unfold ansOf at this
      rw [show ((n.natAbs : Nat) : Int) = n from by omega, hd] at this
      by_cases hb : n ≤ 1000000
      · rw [if_neg (by omega), if_pos rfl] at this
        rw [if_pos (by omega)]
        exact this
      · rw [if_pos (by omega)] at this
        rw [if_neg (by omega)]
        exact this
    · rw [hd, if_neg ?_]
      · exact impl_read_long _ (by omega)
      · rintro ⟨_, hb⟩
        have := decL_len 6 n.natAbs [] (by omega)
        simp only [List.length_nil] at this
        omega
theorem draw_ends (l : List Int) (hl : l.length ≤ 9223372036854775806) : ∃ n, Ev (fun k => spec_DrawDecimal.f k l) n ∧ -9223372036854775808 ≤ n ∧ n ≤ 9223372036854775807 := by
  obtain ⟨g0, e0⟩ := l01New_ends l hl
  obtain ⟨x, i1, g1, e1, a1, b1, _, c1, d1⟩ := l01Below_ends l hl 0 g0 3 (by omega) (by omega)
  by_cases hx0 : x = 0
  · obtain ⟨j, i2, g2, e2, a2, b2, _⟩ := l01PickInt_ends l hl i1 g1 (([(-1), 0, 10, 1000000, 1000001, 9223372036854775807, (-9223372036854775808)] : List Int)) c1 d1 (by decide)
    refine ⟨rd [(-1), 0, 10, 1000000, 1000001, 9223372036854775807, (-9223372036854775808)] j, ?_, ?_⟩
    · unfold spec_DrawDecimal.f
      refine Ev.bind e0 ?_
      rw [e1]; simp only [Option.bind_some]
      rw [if_pos hx0, e2]
      exact Ev.now _
    · simp only [List.length_cons, List.length_nil] at b2
      have hj : j = 0 ∨ j = 1 ∨ j = 2 ∨ j = 3 ∨ j = 4 ∨ j = 5 ∨ j = 6 := by omega
      rcases hj with rfl | rfl | rfl | rfl | rfl | rfl | rfl <;> simp [rd]
  · by_cases hx1 : x = 1
    · obtain ⟨y, i2, g2, e2, a2, b2, _, c2, d2⟩ := l01Below_ends l hl i1 g1 1000000 c1 d1
      obtain ⟨z, i3, g3, e3, a3, b3, _, c3, d3⟩ := l01Below_ends l hl i2 g2 2000000 c2 d2
      refine ⟨wrap64 (y * (wrap64 (z - 1000000))), ?_, ?_⟩
      · unfold spec_DrawDecimal.f
        refine Ev.bind e0 ?_
        rw [e1]; simp only [Option.bind_some]
        rw [if_neg hx0, if_pos hx1, e2]
        simp only [Option.bind_some]
        rw [e3]
        exact Ev.now _
      · unfold wrap64; omega
    · obtain ⟨y, i2, g2, e2, a2, b2, _, c2, d2⟩ := l01Below_ends l hl i1 g1 3000 c1 d1
      refine ⟨y, ?_, by omega, by have := b2 (by omega); omega⟩
      unfold spec_DrawDecimal.f
      refine Ev.bind e0 ?_
      rw [e1]; simp only [Option.bind_some]
      rw [if_neg hx0, if_neg hx1, e2]
      exact Ev.now _

theorem FnNumbers (l : List Int) (g0 : (l.length ≤ maxLen ∧ ∀ y0 ∈ l, (Lit.int .u8 y0).wf = true)) : ∃ k, laws_FnNumbers.f k l = some true := by
  by_cases hbig : (l.length : Int) > 1048576
  · refine ⟨0, ?_⟩
    unfold laws_FnNumbers.f laws_big.f
    simp [hbig]
  · obtain ⟨n, en, h1, h2⟩ := draw_ends l (by omega)
    refine Ev.rounds (g := fun k => laws_FnNumbers.f k l) ?_
    unfold laws_FnNumbers.f laws_big.f
    simp only [Option.bind_some, decide_eq_true_eq, if_neg hbig]
    refine Ev.bind en ?_
    refine Ev.bind (impl_Decimal_ev n h1 h2) ?_
    refine Ev.bind (impl_read_back n h1 h2) ?_
    have hs : ¬ ((ba (decOf n)).size : Int) = 0 := by
      rw [ba_size]
      have : decOf n ≠ [] := by
        unfold decOf
        split
        · simp
        · exact decL_ne _ _
      have := List.length_pos_iff.2 this
      omega
    by_cases hn : n < 0
    · simp only [if_neg hs, if_pos hn, if_neg (show ¬ (0 ≤ n ∧ n ≤ 1000000) by omega)]
      exact Ev.now true
    · by_cases hn2 : n > 1000000
      · simp only [if_neg hs, if_neg hn, if_pos hn2, if_neg (show ¬ (0 ≤ n ∧ n ≤ 1000000) by omega)]
        exact Ev.now true
      · simp only [if_neg hs, if_neg hn, if_neg hn2, if_pos (show (0 ≤ n ∧ n ≤ 1000000) by omega), if_true, beq_self_eq_true]
        exact Ev.now true

end Go.Proofs.Ytjankmemilanhaa.Pure
