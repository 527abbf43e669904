/- ReadEntry answers as the reference at every int: the plain half. No condition. -/
import Derived.Test.YtjankmemilanhaaP3
import Derived.Test.YtjankmemilanhaaP5
import Derived.Test.YtjankmemilanhaaP11
import Derived.Test.YtjankmemilanhaaP13
import Derived.Test.YtjankmemilanhaaP14
import Derived.Test.YtjankmemilanhaaP19
import Derived.Test.YtjankmemilanhaaP20
import Derived.Test.YtjankmemilanhaaP21
import Derived.Test.YtjankmemilanhaaP61
import Derived.Test.YtjankmemilanhaaP62
import Derived.Test.YtjankmemilanhaaP63
import Derived.Test.YtjankmemilanhaaP64
import Derived.Test.YtjankmemilanhaaP65
import Derived.Test.YtjankmemilanhaaAid
namespace Go.Proofs.Ytjankmemilanhaa.Pure
open Go.RowKit Go.Proofs.Ytjankmemilanhaa.P Go.Proofs.YtjankmemilanhaaW.PrintWords Go.Proofs.YtjankmemilanhaaW.PrintLast Go.Proofs.YtjankmemilanhaaW.PrintMore Go.Proofs.Ytjankmemilanhaa.Aid
set_option linter.unusedVariables false
set_option linter.unusedSimpArgs false

theorem in_eq (a b c : Int) : spec_l01In.f a b c = some (decide (b ≤ a ∧ a ≤ c)) := by
  unfold spec_l01In.f
  by_cases h : a ≥ b
  · rw [if_pos h]; congr 1; by_cases h2 : a ≤ c
    · rw [decide_eq_true h2, decide_eq_true ⟨h, h2⟩]
    · rw [decide_eq_false h2, decide_eq_false (fun x => h2 x.2)]
  · rw [if_neg h, decide_eq_false (fun x => h x.1)]
theorem within_eq' (a b c : Int) : impl_within.f a b c = some (decide (b ≤ a ∧ a ≤ c)) := in_eq a b c
def okB (f s : Int) (w r : Bool) : Bool := if f = -1 then !w && !r && decide (-1 ≤ s ∧ s ≤ 15) else decide (0 ≤ f ∧ f ≤ 31) && decide (s = -1)
theorem spec_ok (f s : Int) (w r : Bool) : spec_EntryOk.f f s w r = some (okB f s w r) := by
  unfold spec_EntryOk.f okB
  simp only [in_eq, Option.bind_some]
  by_cases hf : f = -1
  · rw [if_pos hf, if_pos hf]; cases w <;> cases r <;> simp
  · rw [if_neg hf, if_neg hf]
    by_cases h : 0 ≤ f ∧ f ≤ 31
    · rw [if_pos (by simpa using h)]; simp [h]; rfl
    · rw [if_neg (by simpa using h)]; simp [h]
theorem impl_ok (f s : Int) (w r : Bool) : impl_EntryOk.f f s w r = some (okB f s w r) := by
  unfold impl_EntryOk.f okB impl_noEntry.f
  simp only [within_eq', Option.bind_some]
  by_cases hf : f = -1
  · by_cases hs : s = -1
    · subst hf hs; cases w <;> cases r <;> simp
    · have hb : (f == -1 && (s == -1 && (w == false && (r == false)))) = false := by simp [hs]
      rw [if_neg (by rw [hb]; simp), if_neg hs, if_pos hf, if_pos hf]
      by_cases h : 0 ≤ s ∧ s ≤ 15
      · rw [if_pos (by simpa using h), decide_eq_true (show -1 ≤ s ∧ s ≤ 15 by omega)]; cases w <;> simp
      · rw [if_neg (by simpa using h), decide_eq_false (show ¬ (-1 ≤ s ∧ s ≤ 15) by omega)]; simp
  · have hb : (f == -1 && (s == -1 && (w == false && (r == false)))) = false := by simp [hf]
    rw [if_neg (by rw [hb]; simp), if_neg hf, if_neg hf]
    by_cases hs : s = -1
    · rw [if_pos hs]; simp [hs]
    · rw [if_neg hs]; simp [hs]
def entB (f s : Int) (w r : Bool) : Int := if s ≥ 0 then 2 + 4 * s else if f < 0 then 0 else 1 + 8 * f + (if w then 2 else 0) + (if r then 4 else 0)
theorem okB_bd {f s : Int} {w r : Bool} (h : okB f s w r = true) : (f = -1 ∧ w = false ∧ r = false ∧ -1 ≤ s ∧ s ≤ 15) ∨ (0 ≤ f ∧ f ≤ 31 ∧ s = -1) := by
  unfold okB at h
  by_cases hf : f = -1
  · rw [if_pos hf] at h; simp at h; exact .inl ⟨hf, h.1.1, h.1.2, h.2⟩
  · rw [if_neg hf] at h; simp at h; exact .inr ⟨h.1.1, h.1.2, h.2⟩
theorem spec_word (f s : Int) (w r : Bool) : spec_EntryWord.f f s w r = some (if okB f s w r = true then (entB f s w r, true) else (0, false)) := by
  unfold spec_EntryWord.f
  rw [spec_ok]
  simp only [Option.bind_some]
  by_cases h : okB f s w r = true
  · rw [if_pos h, if_pos h]
    have hb := okB_bd h
    unfold entB
    by_cases hs : s ≥ 0
    · rw [if_pos hs, if_pos hs, wrap64_id (n := 4 * s) (by omega) (by omega), wrap64_id (by omega) (by omega)]
    · rw [if_neg hs, if_neg hs]
      by_cases hf : f < 0
      · rw [if_pos hf, if_pos hf]
      · rw [if_neg hf, if_neg hf]
        cases w <;> cases r <;> simp [wrap64] <;> omega
  · rw [if_neg h, if_neg h]
theorem impl_word (f s : Int) (w r : Bool) : impl_EntryWord.f f s w r = some (if okB f s w r = true then (entB f s w r, true) else (0, false)) := by
  unfold impl_EntryWord.f
  rw [impl_ok]
  simp only [Option.bind_some]
  by_cases h : okB f s w r = true
  · rw [if_pos h, if_pos h]
    have hb := okB_bd h
    unfold impl_entryWord.f entB
    by_cases hs : s ≥ 0
    · rw [if_pos hs, if_pos hs, wrap64_id (n := 4 * s) (by omega) (by omega), wrap64_id (by omega) (by omega)]; rfl
    · rw [if_neg hs, if_neg hs]
      by_cases hf : f < 0
      · rw [if_pos hf, if_pos hf]; rfl
      · rw [if_neg hf, if_neg hf]
        cases w <;> cases r <;> simp [wrap64] <;> omega
  · rw [if_neg h, if_neg h]

def ansE (f s : Int) (w r : Bool) (x : Int) : Int × Int × Bool × Bool × Bool := if okB f s w r = true ∧ entB f s w r = x then (f, s, w, r, true) else (0, 0, false, false, false)
theorem ansE_of (f s : Int) (w r : Bool) (x : Int) :
    (if (if okB f s w r = true then (entB f s w r, true) else (0, false)).2 = true then (if (if okB f s w r = true then (entB f s w r, true) else (0, false)).1 = x then (some (f, s, w, r, true)) else (some (0, 0, false, false, false))) else (some (0, 0, false, false, false))) = some (ansE f s w r x) := by
  unfold ansE
  by_cases h : okB f s w r = true
  · simp only [if_pos h, if_true]
    by_cases h2 : entB f s w r = x
    · rw [if_pos h2, if_pos ⟨h, h2⟩]
    · rw [if_neg h2, if_neg (fun h => h2 h.2)]
  · rw [if_neg h, if_neg (by simp), if_neg (fun h' => h h'.1)]
theorem word_nonneg {f s : Int} {w r : Bool} (h : okB f s w r = true) : 0 ≤ entB f s w r := by
  have := okB_bd h
  unfold entB
  cases w <;> cases r <;> simp <;> split <;> (try split) <;> omega
def readB (x : Int) : Int × Int × Bool × Bool × Bool :=
  if x < 0 then (0, 0, false, false, false) else if x % 2 = 1 then ansE (x / 8) (-1) (decide (x / 2 % 2 = 1)) (decide (x / 4 % 2 = 1)) x else if x % 4 = 2 then ansE (-1) (x / 4) false false x else ansE (-1) (-1) false false x
theorem ansE_neg {f s : Int} {w r : Bool} {x : Int} (h : x < 0) : ansE f s w r x = (0, 0, false, false, false) := by
  unfold ansE
  rw [if_neg]
  rintro ⟨a, b⟩
  have := word_nonneg a
  omega
theorem spec_read (x : Int) (h1 : -9223372036854775808 ≤ x) (h2 : x ≤ 9223372036854775807) : spec_ReadEntry.f x = some (readB x) := by
  unfold spec_ReadEntry.f spec_l05None.f
  simp only [Option.bind_some, spec_word]
  rw [ansE_of, ansE_of, ansE_of]
  have hc : (if Int.tmod x 2 = 0 then (if x = 0 then some (ansE (-1) (-1) false false x) else some (ansE (-1) (wrap64 (Int.tdiv (wrap64 (x - 2)) 4)) false false x)) else some (ansE (wrap64 (Int.tdiv x 8)) (-1) ((Int.tmod (wrap64 (Int.tdiv x 2)) 2) == 1) ((Int.tmod (wrap64 (Int.tdiv x 4)) 2) == 1) x)) = some (readB x) := by
    unfold readB
    by_cases hx : x < 0
    · rw [if_pos hx]
      rw [ansE_neg hx, ansE_neg hx, ansE_neg hx]
      split <;> (try split) <;> rfl
    · rw [if_neg hx, tmod_nonneg (a := x) (b := 2) (by omega) (by omega), tdiv_nonneg (a := x) (b := 8) (by omega), tdiv_nonneg (a := x) (b := 2) (by omega), tdiv_nonneg (a := x) (b := 4) (by omega)]
      rw [wrap64_id (n := x / 8) (by omega) (by omega), wrap64_id (n := x / 2) (by omega) (by omega), wrap64_id (n := x / 4) (by omega) (by omega), tmod_nonneg (by omega) (by omega), tmod_nonneg (by omega) (by omega)]
      by_cases ho : x % 2 = 1
      · rw [if_neg (by omega), if_pos ho]; rfl
      · rw [if_pos (by omega), if_neg ho]
        by_cases h0 : x = 0
        · rw [if_pos h0, if_neg (by omega)]
        · rw [if_neg h0, wrap64_id (n := x - 2) (by omega) (by omega), tdiv_nonneg (by omega), wrap64_id (by omega) (by omega)]
          by_cases h4 : x % 4 = 2
          · rw [if_pos h4, show (x - 2) / 4 = x / 4 from by omega]
          · rw [if_neg h4]
            unfold ansE
            rw [if_neg, if_neg]
            · rintro ⟨_, b⟩
              unfold entB at b
              rw [if_neg (by omega), if_pos (by omega)] at b
              omega
            · rintro ⟨_, b⟩
              unfold entB at b
              rw [if_pos (by omega)] at b
              omega
  exact hc
theorem and_pow (n i : Nat) : n &&& 2 ^ i = if n.testBit i = true then 2 ^ i else 0 := by
  apply Nat.eq_of_testBit_eq
  intro j
  rw [Nat.testBit_and, Nat.testBit_two_pow]
  by_cases h : i = j
  · subst h
    cases hb : n.testBit i <;> simp
  · cases hb : n.testBit i <;> simp [h]
theorem and_bit (x : Int) (h0 : 0 ≤ x) (h2 : x ≤ 9223372036854775807) (i : Nat) (hi : i < 8) : ((Go.bits .and .i64 x ((2 ^ i : Nat) : Int)) != 0) = decide (x / ((2 ^ i : Nat) : Int) % 2 = 1) := by
  obtain ⟨n, rfl⟩ := Int.eq_ofNat_of_zero_le h0
  have hw : ∀ m : Int, 0 ≤ m → m < 2 ^ 63 → IntKind.i64.wrap m = m := by intro m _ _; rw [IntKind.wrap_i64]; omega
  have hp : 2 ^ i ≤ 2 ^ 7 := Nat.pow_le_pow_right (by decide) (by omega)
  rw [(bits_nat .i64 63 (by decide) hw n (2 ^ i) (by omega) (by omega)).1, and_pow]
  have ht := Nat.testBit_eq_decide_div_mod_eq (x := n) (i := i)
  have hpos : 0 < 2 ^ i := Nat.two_pow_pos i
  have hd : ((n : Int) / ((2 ^ i : Nat) : Int) % 2 = 1) ↔ (n / 2 ^ i % 2 = 1) := by
    rw [← Int.natCast_ediv]; omega
  by_cases hb : n / 2 ^ i % 2 = 1
  · rw [decide_eq_true (hd.2 hb)]
    rw [decide_eq_true hb] at ht
    rw [if_pos ht]
    simp only [bne_iff_ne, ne_eq]
    omega
  · rw [decide_eq_false (fun h => hb (hd.1 h))]
    rw [decide_eq_false hb] at ht
    rw [if_neg (by rw [ht]; simp)]
    rfl
theorem impl_read (x : Int) (h1 : -9223372036854775808 ≤ x) (h2 : x ≤ 9223372036854775807) : impl_ReadEntry.f x = some (readB x) := by
  unfold impl_ReadEntry.f impl_noEntry.f
  simp only [Option.bind_some, impl_word]
  rw [ansE_of, ansE_of, ansE_of]
  unfold readB
  by_cases hx : x < 0
  · rw [if_pos hx, if_pos hx]
  · rw [if_neg hx, if_neg hx, tmod_nonneg (by omega) (by omega), tmod_nonneg (by omega) (by omega)]
    have e1 := and_bit x (by omega) h2 1 (by omega)
    have e2 := and_bit x (by omega) h2 2 (by omega)
    simp only [show ((2 ^ 1 : Nat) : Int) = 2 from rfl, show ((2 ^ 2 : Nat) : Int) = 4 from rfl] at e1 e2
    rw [e1, e2]
    split
    · rfl
    · split <;> rfl

theorem FnExactReadEntry (a0 : Int) (_w0 : (Lit.int .i64 a0).wf = true) : laws_FnExactReadEntry.f a0 = some true := by
  obtain ⟨h1, h2⟩ := wf_i64 _w0
  unfold laws_FnExactReadEntry.f
  rw [spec_read a0 h1 h2, impl_read a0 h1 h2]
  simp only [Option.bind_some]
  unfold laws_eqEntry.f
  simp

end Go.Proofs.Ytjankmemilanhaa.Pure
