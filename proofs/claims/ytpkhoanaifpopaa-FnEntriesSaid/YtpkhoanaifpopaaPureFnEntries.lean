/- A drawn right entry comes back from its word, and each page has a way of its own: the plain half. No condition. -/
import Derived.Test.YtpkhoanaifpopaaP3
import Derived.Test.YtpkhoanaifpopaaP11
import Derived.Test.YtpkhoanaifpopaaP49
import Derived.Test.YtpkhoanaifpopaaP50
import Derived.Test.YtpkhoanaifpopaaP52
import Derived.Test.YtpkhoanaifpopaaP53
import Derived.Test.YtpkhoanaifpopaaP54
import Derived.Test.YtpkhoanaifpopaaP57
import Derived.Test.YtpkhoanaifpopaaP91
import Derived.Test.YtpkhoanaifpopaaP92
import Derived.Test.YtpkhoanaifpopaaP93
import Derived.Test.YtpkhoanaifpopaaP94
import Derived.Test.YtpkhoanaifpopaaP95
import Derived.Test.YtpkhoanaifpopaaP96
import Derived.Test.YtpkhoanaifpopaaP97
import Derived.Test.YtpkhoanaifpopaaP98
import Derived.Test.YtpkhoanaifpopaaP99
import Derived.Test.YtpkhoanaifpopaaP100
import Derived.Test.YtpkhoanaifpopaaP101
import Derived.Test.YtpkhoanaifpopaaP102
import Derived.Test.YtpkhoanaifpopaaP103
import Derived.Test.YtpkhoanaifpopaaAid
namespace Go.Proofs.Ytpkhoanaifpopaa.Pure
open Go.RowKit Go.Proofs.Ytpkhoanaifpopaa.P Go.Proofs.YtpkhoanaifpopaaW.PrintWords Go.Proofs.YtpkhoanaifpopaaW.PrintLast Go.Proofs.YtpkhoanaifpopaaW.PrintMore Go.Proofs.Ytpkhoanaifpopaa.Aid
set_option linter.unusedVariables false
set_option linter.unusedSimpArgs false

theorem in_eq (a b c : Int) : spec_l01In.f a b c = some (decide (b ≤ a ∧ a ≤ c)) := by
  unfold spec_l01In.f
  by_cases h : a ≥ b
  · rw [if_pos h]; congr 1; by_cases h2 : a ≤ c
    · rw [decide_eq_true h2, decide_eq_true ⟨h, h2⟩]
    · rw [decide_eq_false h2, decide_eq_false (fun x => h2 x.2)]
  · rw [if_neg h, decide_eq_false (fun x => h x.1)]
theorem within_eq' (a b c : Int) : impl_within.f a b c = some (decide (b ≤ a ∧ a ≤ c)) := in_eq a b c
def okB (f s : Int) (w r : Bool) : Bool := if f = -1 then !w && !r && decide (-1 ≤ s ∧ s ≤ 15) else decide (0 ≤ f ∧ f ≤ 31) && decide (s = -1)
theorem spec_ok (f s : Int) (w r : Bool) : spec_EntryOk.f f s w r = some (okB f s w r) := by
  unfold spec_EntryOk.f okB
  simp only [in_eq, Option.bind_some]
  by_cases hf : f = -1
  · rw [if_pos hf, if_pos hf]; cases w <;> cases r <;> simp
  · rw [if_neg hf, if_neg hf]
    by_cases h : 0 ≤ f ∧ f ≤ 31
    · rw [if_pos (by simpa using h)]; simp [h]; rfl
    · rw [if_neg (by simpa using h)]; simp [h]
theorem impl_ok (f s : Int) (w r : Bool) : impl_EntryOk.f f s w r = some (okB f s w r) := by
  unfold impl_EntryOk.f okB impl_noEntry.f
  simp only [within_eq', Option.bind_some]
  by_cases hf : f = -1
  · by_cases hs : s = -1
    · subst hf hs; cases w <;> cases r <;> simp
    · have hb : (f == -1 && (s == -1 && (w == false && (r == false)))) = false := by simp [hs]
      rw [if_neg (by rw [hb]; simp), if_neg hs, if_pos hf, if_pos hf]
      by_cases h : 0 ≤ s ∧ s ≤ 15
      · rw [if_pos (by simpa using h), decide_eq_true (show -1 ≤ s ∧ s ≤ 15 by omega)]; cases w <;> simp
      · rw [if_neg (by simpa using h), decide_eq_false (show ¬ (-1 ≤ s ∧ s ≤ 15) by omega)]; simp
  · have hb : (f == -1 && (s == -1 && (w == false && (r == false)))) = false := by simp [hf]
    rw [if_neg (by rw [hb]; simp), if_neg hf, if_neg hf]
    by_cases hs : s = -1
    · rw [if_pos hs]; simp [hs]
    · rw [if_neg hs]; simp [hs]
def entB (f s : Int) (w r : Bool) : Int := if s ≥ 0 then 2 + 4 * s else if f < 0 then 0 else 1 + 8 * f + (if w then 2 else 0) + (if r then 4 else 0)
theorem okB_bd {f s : Int} {w r : Bool} (h : okB f s w r = true) : (f = -1 ∧ w = false ∧ r = false ∧ -1 ≤ s ∧ s ≤ 15) ∨ (0 ≤ f ∧ f ≤ 31 ∧ s = -1) := by
  unfold okB at h
  by_cases hf : f = -1
  · rw [if_pos hf] at h; simp at h; exact .inl ⟨hf, h.1.1, h.1.2, h.2⟩
  · rw [if_neg hf] at h; simp at h; exact .inr ⟨h.1.1, h.1.2, h.2⟩
theorem impl_word (f s : Int) (w r : Bool) : impl_EntryWord.f f s w r = some (if okB f s w r = true then (entB f s w r, true) else (0, false)) := by
  unfold impl_EntryWord.f
  rw [impl_ok]
  simp only [Option.bind_some]
  by_cases h : okB f s w r = true
  · rw [if_pos h, if_pos h]
    have hb := okB_bd h
    unfold impl_entryWord.f entB
    by_cases hs : s ≥ 0
    · rw [if_pos hs, if_pos hs, wrap64_id (n := 4 * s) (by omega) (by omega), wrap64_id (by omega) (by omega)]; rfl
    · rw [if_neg hs, if_neg hs]
      by_cases hf : f < 0
      · rw [if_pos hf, if_pos hf]; rfl
      · rw [if_neg hf, if_neg hf]
        cases w <;> cases r <;> simp [wrap64] <;> omega
  · rw [if_neg h, if_neg h]

def ansE (f s : Int) (w r : Bool) (x : Int) : Int × Int × Bool × Bool × Bool := if okB f s w r = true ∧ entB f s w r = x then (f, s, w, r, true) else (0, 0, false, false, false)
theorem ansE_of (f s : Int) (w r : Bool) (x : Int) :
    (if (if okB f s w r = true then (entB f s w r, true) else (0, false)).2 = true then (if (if okB f s w r = true then (entB f s w r, true) else (0, false)).1 = x then (some (f, s, w, r, true)) else (some (0, 0, false, false, false))) else (some (0, 0, false, false, false))) = some (ansE f s w r x) := by
  unfold ansE
  by_cases h : okB f s w r = true
  · simp only [if_pos h, if_true]
    by_cases h2 : entB f s w r = x
    · rw [if_pos h2, if_pos ⟨h, h2⟩]
    · rw [if_neg h2, if_neg (fun h => h2 h.2)]
  · rw [if_neg h, if_neg (by simp), if_neg (fun h' => h h'.1)]
theorem word_nonneg {f s : Int} {w r : Bool} (h : okB f s w r = true) : 0 ≤ entB f s w r := by
  have := okB_bd h
  unfold entB
  cases w <;> cases r <;> simp <;> split <;> (try split) <;> omega
def readB (x : Int) : Int × Int × Bool × Bool × Bool :=
  if x < 0 then (0, 0, false, false, false) else if x % 2 = 1 then ansE (x / 8) (-1) (decide (x / 2 % 2 = 1)) (decide (x / 4 % 2 = 1)) x else if x % 4 = 2 then ansE (-1) (x / 4) false false x else ansE (-1) (-1) false false x
theorem ansE_neg {f s : Int} {w r : Bool} {x : Int} (h : x < 0) : ansE f s w r x = (0, 0, false, false, false) := by
  unfold ansE
  rw [if_neg]
  rintro ⟨a, b⟩
  have := word_nonneg a
  omega
theorem and_pow (n i : Nat) : n &&& 2 ^ i = if n.testBit i = true then 2 ^ i else 0 := by
  apply Nat.eq_of_testBit_eq
  intro j
  rw [Nat.testBit_and, Nat.testBit_two_pow]
  by_cases h : i = j
  · subst h
    cases hb : n.testBit i <;> simp
  · cases hb : n.testBit i <;> simp [h]
theorem and_bit (x : Int) (h0 : 0 ≤ x) (h2 : x ≤ 9223372036854775807) (i : Nat) (hi : i < 8) : ((Go.bits .and .i64 x ((2 ^ i : Nat) : Int)) != 0) = decide (x / ((2 ^ i : Nat) : Int) % 2 = 1) := by
  obtain ⟨n, rfl⟩ := Int.eq_ofNat_of_zero_le h0
  have hw : ∀ m : Int, 0 ≤ m → m < 2 ^ 63 → IntKind.i64.wrap m = m := by intro m _ _; rw [IntKind.wrap_i64]; omega
  have hp : 2 ^ i ≤ 2 ^ 7 := Nat.pow_le_pow_right (by decide) (by omega)
  rw [(bits_nat .i64 63 (by decide) hw n (2 ^ i) (by omega) (by omega)).1, and_pow]
  have ht := Nat.testBit_eq_decide_div_mod_eq (x := n) (i := i)
  have hpos : 0 < 2 ^ i := Nat.two_pow_pos i
  have hd : ((n : Int) / ((2 ^ i : Nat) : Int) % 2 = 1) ↔ (n / 2 ^ i % 2 = 1) := by
    rw [← Int.natCast_ediv]; omega
  by_cases hb : n / 2 ^ i % 2 = 1
  · rw [decide_eq_true (hd.2 hb)]
    rw [decide_eq_true hb] at ht
    rw [if_pos ht]
    simp only [bne_iff_ne, ne_eq]
    omega
  · rw [decide_eq_false (fun h => hb (hd.1 h))]
    rw [decide_eq_false hb] at ht
    rw [if_neg (by rw [ht]; simp)]
    rfl
theorem impl_read (x : Int) (h1 : -9223372036854775808 ≤ x) (h2 : x ≤ 9223372036854775807) : impl_ReadEntry.f x = some (readB x) := by
  unfold impl_ReadEntry.f impl_noEntry.f
  simp only [Option.bind_some, impl_word]
  rw [ansE_of, ansE_of, ansE_of]
  unfold readB
  by_cases hx : x < 0
  · rw [if_pos hx, if_pos hx]
  · rw [if_neg hx, if_neg hx, tmod_nonneg (by omega) (by omega), tmod_nonneg (by omega) (by omega)]
    have e1 := and_bit x (by omega) h2 1 (by omega)
    have e2 := and_bit x (by omega) h2 2 (by omega)
    simp only [show ((2 ^ 1 : Nat) : Int) = 2 from rfl, show ((2 ^ 2 : Nat) : Int) = 4 from rfl] at e1 e2
    rw [e1, e2]
    split
    · rfl
    · split <;> rfl
theorem l01New_ends (l : List Int) (hl : l.length ≤ 9223372036854775806) : ∃ h, Ev (fun k => spec_l01New.f k l) (l, 0, h) := by
  have key : ∀ (d i : Nat) (h : Int), i + d = l.length → ∃ h', Ev (fun k => spec_l01New.l0 k l h (i : Int)) (l, 0, h') := by
    intro d
    induction d with
    | zero =>
      intro i h hi
      refine ⟨h, 1, fun n hn => ?_⟩
      obtain ⟨m, rfl⟩ : ∃ m, n = m + 1 := ⟨n - 1, by omega⟩
      show spec_l01New.l0 (m + 1) _ _ _ = _
      simp only [spec_l01New.l0]
      rw [if_neg (by omega)]
    | succ d ih =>
      intro i h hi
      by_cases h4 : (i : Int) < 4000
      · obtain ⟨h', he⟩ := ih (i + 1) (Go.bits .and .i64 (wrap64 ((wrap64 ((wrap64 (h * 131)) + (wrap64 (rd l (i : Int))))) + 7)) 1073741823) (by omega)
        refine ⟨h', Ev.step (fun k => ?_) he⟩
        show spec_l01New.l0 (k + 1) _ _ _ = _
        simp only [spec_l01New.l0]
        rw [if_pos (by omega), if_pos h4, if_pos (by omega), show wrap64 ((i : Int) + 1) = ((i + 1 : Nat) : Int) from by unfold wrap64; omega]
      · refine ⟨h, 1, fun n hn => ?_⟩
        obtain ⟨m, rfl⟩ : ∃ m, n = m + 1 := ⟨n - 1, by omega⟩
        show spec_l01New.l0 (m + 1) _ _ _ = _
        simp only [spec_l01New.l0]
        rw [if_pos (by omega), if_neg h4]
  obtain ⟨h', he⟩ := key l.length 0 (wrap64 (10901 + (l.length : Int))) (by omega)
  exact ⟨h', he⟩
theorem l01Byte_ends (l : List Int) (hl : l.length ≤ 9223372036854775806) (i h : Int) (h0 : 0 ≤ i) (h1 : i ≤ l.length) :
    ∃ x i' h', spec_l01Byte.f l i h = some (x, i', h') ∧ 0 ≤ x ∧ x < 256 ∧ 0 ≤ i' ∧ i' ≤ l.length := by
  unfold spec_l01Byte.f
  by_cases hi : i < (l.length : Int)
  · rw [if_pos hi, if_pos h0]
    refine ⟨_, _, _, rfl, ?_, ?_, ?_, ?_⟩
    · rw [and255]; omega
    · rw [and255]; omega
    · rw [wrap64_id (by omega) (by omega)]; omega
    · rw [wrap64_id (by omega) (by omega)]; omega
  · rw [if_neg hi]
    refine ⟨_, _, _, rfl, ?_, ?_, h0, h1⟩
    · rw [and255]; omega
    · rw [and255]; omega
theorem l01Below_ends (l : List Int) (hl : l.length ≤ 9223372036854775806) (i h n : Int) (h0 : 0 ≤ i) (h1 : i ≤ l.length) :
    ∃ x i' h', spec_l01Below.f l i h n = some (x, i', h') ∧ 0 ≤ x ∧ (0 < n → x < n) ∧ (n ≤ 0 → x = 0) ∧ 0 ≤ i' ∧ i' ≤ l.length := by
  unfold spec_l01Below.f
  by_cases hn : n ≤ 0
  · rw [if_pos hn]
    exact ⟨_, _, _, rfl, by omega, by omega, fun _ => rfl, h0, h1⟩
  · rw [if_neg hn]
    obtain ⟨x, i1, g1, e1, a1, b1, c1, d1⟩ := l01Byte_ends l hl i h h0 h1
    by_cases h256 : n ≤ 256
    · rw [if_pos h256, e1]
      simp only [Option.bind_some]
      rw [if_neg (by omega)]
      refine ⟨_, _, _, rfl, ?_, ?_, by omega, c1, d1⟩
      · rw [tmod_nonneg a1 (by omega)]; exact Int.emod_nonneg _ (by omega)
      · intro hp; rw [tmod_nonneg a1 (by omega)]; exact Int.emod_lt_of_pos _ hp
    · rw [if_neg h256, e1]
      simp only [Option.bind_some]
      obtain ⟨y, i2, g2, e2, a2, b2, c2, d2⟩ := l01Byte_ends l hl i1 g1 c1 d1
      rw [e2]; simp only [Option.bind_some]
      obtain ⟨z, i3, g3, e3, a3, b3, c3, d3⟩ := l01Byte_ends l hl i2 g2 c2 d2
      rw [e3]; simp only [Option.bind_some]
      obtain ⟨t, i4, g4, e4, a4, b4, c4, d4⟩ := l01Byte_ends l hl i3 g3 c3 d3
      rw [e4]; simp only [Option.bind_some]
      rw [if_neg (by omega)]
      have hnn : 0 ≤ wrap64 ((wrap64 ((wrap64 ((wrap64 (x * 16777216)) + (wrap64 (y * 65536)))) + (wrap64 (z * 256)))) + t) := by unfold wrap64; omega
      refine ⟨_, _, _, rfl, ?_, ?_, by omega, c4, d4⟩
      · rw [tmod_nonneg hnn (by omega)]; exact Int.emod_nonneg _ (by omega)
      · intro hp; rw [tmod_nonneg hnn (by omega)]; exact Int.emod_lt_of_pos _ hp
theorem l01PickInt_ends (l : List Int) (hl : l.length ≤ 9223372036854775806) (i h : Int) (l1 : List Int) (h0 : 0 ≤ i) (h1 : i ≤ l.length) (hp : 0 < l1.length) :
    ∃ j i' h', spec_l01PickInt.f l i h l1 = some (rd l1 j, i', h') ∧ 0 ≤ j ∧ j < l1.length ∧ 0 ≤ i' ∧ i' ≤ l.length := by
  unfold spec_l01PickInt.f
  obtain ⟨x, i1, g1, e1, a1, b1, _, c1, d1⟩ := l01Below_ends l hl i h (l1.length : Int) h0 h1
  rw [e1]; simp only [Option.bind_some]
  rw [if_pos a1, if_pos (b1 (by omega))]
  exact ⟨x, _, _, rfl, a1, b1 (by omega), c1, d1⟩
theorem places_ends (l : List Int) (hl : l.length ≤ 9223372036854775806) : ∃ out, Ev (fun k => spec_DrawPlaces.f k l) out ∧ out.length = 12 ∧ ∀ y ∈ out, 0 ≤ y ∧ y < 10000 := by
  have key : ∀ (d i : Nat) (acc : List Int) (j h : Int), i + d = 12 → acc.length = i → (∀ y ∈ acc, 0 ≤ y ∧ y < 10000) → 0 ≤ j → j ≤ l.length →
      ∃ out, Ev (fun k => spec_DrawPlaces.l0 k acc (i : Int) l j h) out ∧ out.length = 12 ∧ ∀ y ∈ out, 0 ≤ y ∧ y < 10000 := by
    intro d
    induction d with
    | zero =>
      intro i acc j h hi ha hy _ _
      refine ⟨acc, Ev.of_succ (fun k => ?_), by omega, hy⟩
      simp only [spec_DrawPlaces.l0]
      rw [if_neg (by omega)]
    | succ d ih =>
      intro i acc j h hi ha hy h0 h1
      obtain ⟨x, i1, g1, e1, a1, b1, _, c1, d1⟩ := l01Below_ends l hl j h 10000 h0 h1
      obtain ⟨out, h2, h3, h4⟩ := ih (i + 1) (acc ++ [x]) i1 g1 (by omega) (by simp [ha]) (by
        intro y hm
        rcases List.mem_append.1 hm with hm | hm
        · exact hy y hm
        · rw [List.mem_singleton] at hm
          subst hm
          exact ⟨a1, b1 (by omega)⟩) c1 d1
      refine ⟨out, Ev.step (fun k => ?_) h2, h3, h4⟩
      simp only [spec_DrawPlaces.l0]
      rw [if_pos (by omega), e1]
      simp only [Option.bind_some]
      rw [if_pos (by omega), wrap_succ (by omega)]
  obtain ⟨g0, e0⟩ := l01New_ends l hl
  obtain ⟨x, i1, g1, e1, a1, b1, c1, d1⟩ := l01Byte_ends l hl 0 g0 (by omega) (by omega)
  obtain ⟨out, h2, h3⟩ := key 12 0 [] i1 g1 rfl rfl (by intro y hy; cases hy) c1 d1
  refine ⟨out, ?_, h3⟩
  unfold spec_DrawPlaces.f
  refine Ev.bind e0 ?_
  rw [e1]
  exact h2

theorem read_word {f s : Int} {w r : Bool} (h : okB f s w r = true) : readB (entB f s w r) = (f, s, w, r, true) ∧ 0 ≤ entB f s w r ∧ entB f s w r ≤ 100000 := by
  have hb := okB_bd h
  have hans : ∀ x, entB f s w r = x → ansE f s w r x = (f, s, w, r, true) := fun x hx => by unfold ansE; rw [if_pos ⟨h, hx⟩]
  refine ⟨?_, word_nonneg h, ?_⟩
  · unfold readB
    rw [if_neg (by have := word_nonneg h; omega)]
    rcases hb with ⟨rfl, rfl, rfl, h1, h2⟩ | ⟨h1, h2, rfl⟩
    · by_cases hs : s = -1
      · subst hs
        rw [show entB (-1) (-1) false false = 0 from rfl] at hans ⊢
        rw [if_neg (by omega), if_neg (by omega)]
        exact hans 0 rfl
      · have e : entB (-1) s false false = 2 + 4 * s := by unfold entB; rw [if_pos (by omega)]
        rw [e] at hans ⊢
        rw [if_neg (by omega), if_pos (by omega), show (2 + 4 * s) / 4 = s by omega]
        exact hans _ rfl
    · have e : entB f (-1) w r = 1 + 8 * f + (if w then 2 else 0) + (if r then 4 else 0) := by unfold entB; rw [if_neg (by omega), if_neg (by omega)]
      rw [e] at hans ⊢
      cases w <;> cases r <;> simp only [if_true, Bool.false_eq_true, if_false] at hans ⊢
      · rw [if_pos (by omega), show (1 + 8 * f + 0 + 0) / 8 = f by omega, decide_eq_false (by omega), decide_eq_false (by omega)]
        exact hans _ rfl
      · rw [if_pos (by omega), show (1 + 8 * f + 0 + 4) / 8 = f by omega, decide_eq_false (by omega), decide_eq_true (by omega)]
        exact hans _ rfl
      · rw [if_pos (by omega), show (1 + 8 * f + 2 + 0) / 8 = f by omega, decide_eq_true (by omega), decide_eq_false (by omega)]
        exact hans _ rfl
      · rw [if_pos (by omega), show (1 + 8 * f + 2 + 4) / 8 = f by omega, decide_eq_true (by omega), decide_eq_true (by omega)]
        exact hans _ rfl
  · unfold entB
    rcases hb with ⟨rfl, rfl, rfl, h1, h2⟩ | ⟨h1, h2, rfl⟩
    · simp only [Bool.false_eq_true, if_false]; split <;> (try split) <;> omega
    · cases w <;> cases r <;> simp only [if_true, Bool.false_eq_true, if_false] <;> split <;> (try split) <;> omega
theorem ansE_back {f s : Int} {w r : Bool} {x : Int} (h : (ansE f s w r x).2.2.2.2 = true) : okB f s w r = true ∧ entB f s w r = x ∧ ansE f s w r x = (f, s, w, r, true) := by
  unfold ansE at h ⊢
  by_cases hc : okB f s w r = true ∧ entB f s w r = x
  · rw [if_pos hc]; exact ⟨hc.1, hc.2, rfl⟩
  · rw [if_neg hc] at h; cases h
theorem word_read {x : Int} (h : (readB x).2.2.2.2 = true) : okB (readB x).1 (readB x).2.1 (readB x).2.2.1 (readB x).2.2.2.1 = true ∧ entB (readB x).1 (readB x).2.1 (readB x).2.2.1 (readB x).2.2.2.1 = x := by
  unfold readB at h ⊢
  split at h
  · cases h
  · rename_i h0
    rw [if_neg h0]
    split at h
    · rename_i h1
      rw [if_pos h1]
      obtain ⟨a, b, c⟩ := ansE_back h
      rw [c]; exact ⟨a, b⟩
    · rename_i h1
      rw [if_neg h1]
      split at h
      · rename_i h2
        rw [if_pos h2]
        obtain ⟨a, b, c⟩ := ansE_back h
        rw [c]; exact ⟨a, b⟩
      · rename_i h2
        rw [if_neg h2]
        obtain ⟨a, b, c⟩ := ansE_back h
        rw [c]; exact ⟨a, b⟩
theorem once_ends (l : List Int) (hl : l.length ≤ 9223372036854775806) (i h n : Int) (h0 : 0 ≤ i) (h1 : i ≤ l.length) :
    ∃ b i' h', spec_l01Once.f l i h n = some (b, i', h') ∧ 0 ≤ i' ∧ i' ≤ l.length := by
  obtain ⟨x, i1, g1, e1, a1, b1, _, c1, d1⟩ := l01Below_ends l hl i h n h0 h1
  unfold spec_l01Once.f
  rw [e1]
  exact ⟨_, _, _, rfl, c1, d1⟩
theorem entry_ends (l : List Int) (hl : l.length ≤ 9223372036854775806) (i h : Int) (h0 : 0 ≤ i) (h1 : i ≤ l.length) : ∃ r, Ev (fun k => spec_l05Entry.f k l i h) r := by
  have tail : ∀ (j g a b : Int) (c d : Bool), 0 ≤ j → j ≤ l.length → ∃ r, Ev (fun k => spec_l05Entry.j0 k l j g a b c d) r := by
    intro j g a b c d hj0 hj1
    obtain ⟨x, i1, g1, e1, a1, b1, _, c1, d1⟩ := l01Below_ends l hl j g 16 hj0 hj1
    obtain ⟨y, i2, g2, e2, _⟩ := l01PickInt_ends l hl i1 g1 ([(-2), (-1), 31, 32] : List Int) c1 d1 (by decide)
    obtain ⟨z, i3, g3, e3, _⟩ := l01PickInt_ends l hl i1 g1 ([(-2), (-1), 15, 16] : List Int) c1 d1 (by decide)
    by_cases hx0 : x = 0
    · refine ⟨(rd [(-2), (-1), 31, 32] y, b, c, d, i2, g2), Ev.of_succ (fun k => ?_)⟩
      · simp only [spec_l05Entry.j0]
        rw [e1]; simp only [Option.bind_some]
        rw [if_pos hx0, e2]; rfl
    · by_cases hx1 : x = 1
      · refine ⟨(a, rd [(-2), (-1), 15, 16] z, c, d, i3, g3), Ev.of_succ (fun k => ?_)⟩
        · simp only [spec_l05Entry.j0]
          rw [e1]; simp only [Option.bind_some]
          rw [if_neg hx0, if_pos hx1, e3]; rfl
      · by_cases hx2 : x = 2
        · refine ⟨(a, b, true, d, i1, g1), Ev.of_succ (fun k => ?_)⟩
          · simp only [spec_l05Entry.j0]
            rw [e1]; simp only [Option.bind_some]
            rw [if_neg hx0, if_neg hx1, if_pos hx2]
        · refine ⟨(a, b, c, d, i1, g1), Ev.of_succ (fun k => ?_)⟩
          · simp only [spec_l05Entry.j0]
            rw [e1]; simp only [Option.bind_some]
            rw [if_neg hx0, if_neg hx1, if_neg hx2]
  unfold spec_l05Entry.f spec_l05None.f
  simp only [Option.bind_some]
  obtain ⟨x, i1, g1, e1, a1, b1, _, c1, d1⟩ := l01Below_ends l hl i h 3 h0 h1
  rw [e1]; simp only [Option.bind_some]
  by_cases hx0 : x = 0
  · simp only [if_pos hx0]
    obtain ⟨y, i2, g2, e2, _, _, _, c2, d2⟩ := l01Below_ends l hl i1 g1 32 c1 d1
    obtain ⟨z, i3, g3, e3, c3, d3⟩ := once_ends l hl i2 g2 2 c2 d2
    obtain ⟨t, i4, g4, e4, c4, d4⟩ := once_ends l hl i3 g3 2 c3 d3
    rw [e2]; simp only [Option.bind_some]
    rw [e3]; simp only [Option.bind_some]
    rw [e4]; simp only [Option.bind_some]
    exact tail _ _ _ _ _ _ c4 d4
  · by_cases hx1 : x = 1
    · simp only [if_neg hx0, if_pos hx1]
      obtain ⟨y, i2, g2, e2, _, _, _, c2, d2⟩ := l01Below_ends l hl i1 g1 16 c1 d1
      rw [e2]; simp only [Option.bind_some]
      exact tail _ _ _ _ _ _ c2 d2
    · simp only [if_neg hx0, if_neg hx1]
      exact tail _ _ _ _ _ _ c1 d1
theorem word_ends (l : List Int) (hl : l.length ≤ 9223372036854775806) : ∃ r, Ev (fun k => spec_DrawEntryWord.f k l) r := by
  obtain ⟨g0, e0⟩ := l01New_ends l hl
  obtain ⟨r, hr⟩ := entry_ends l hl 0 g0 (by omega) (by omega)
  refine ⟨(r.1, r.2.1, r.2.2.1, r.2.2.2.1), ?_⟩
  · unfold spec_DrawEntryWord.f
    refine Ev.bind e0 ?_
    exact Ev.bind hr (Ev.now _)
theorem readd_ends (l : List Int) (hl : l.length ≤ 9223372036854775806) : ∃ n, Ev (fun k => spec_DrawReadEntry.f k l) n ∧ -9223372036854775808 ≤ n ∧ n ≤ 9223372036854775807 := by
  obtain ⟨g0, e0⟩ := l01New_ends l hl
  obtain ⟨b, i1, g1, e1, c1, d1⟩ := once_ends l hl 0 g0 4 (by omega) (by omega)
  cases b with
  | true =>
    obtain ⟨j, i2, g2, e2, a2, b2, _⟩ := l01PickInt_ends l hl i1 g1 (([(-1), 0, 2, 4, 62, 66, 255, 256, 257, 9223372036854775807, (-9223372036854775808)] : List Int)) c1 d1 (by decide)
    refine ⟨rd [(-1), 0, 2, 4, 62, 66, 255, 256, 257, 9223372036854775807, (-9223372036854775808)] j, ?_, ?_⟩
    · unfold spec_DrawReadEntry.f
      refine Ev.bind e0 ?_
      rw [e1]; simp only [Option.bind_some, if_true]
      rw [e2]
      exact Ev.now _
    · simp only [List.length_cons, List.length_nil] at b2
      have hj : j = 0 ∨ j = 1 ∨ j = 2 ∨ j = 3 ∨ j = 4 ∨ j = 5 ∨ j = 6 ∨ j = 7 ∨ j = 8 ∨ j = 9 ∨ j = 10 := by omega
      rcases hj with rfl | rfl | rfl | rfl | rfl | rfl | rfl | rfl | rfl | rfl | rfl <;> simp [rd]
  | false =>
    obtain ⟨y, i2, g2, e2, a2, b2, _, c2, d2⟩ := l01Below_ends l hl i1 g1 260 c1 d1
    refine ⟨y, ?_, by omega, by have := b2 (by omega); omega⟩
    unfold spec_DrawReadEntry.f
    refine Ev.bind e0 ?_
    rw [e1]; simp only [Option.bind_some, Bool.false_eq_true, if_false]
    rw [e2]
    exact Ev.now _
theorem path_eq (a : Int) (h0 : 0 ≤ a) (h1 : a < 64) : impl_TablePath.f a = some (a / 16, a / 4 % 4, a % 4) := by
  unfold impl_TablePath.f
  rw [within_eq', decide_eq_true (by omega)]
  simp only [Option.bind_some, if_true]
  rw [tdiv_nonneg (a := a) (b := 16) h0, tdiv_nonneg (a := a) (b := 4) h0, tmod_nonneg (a := a) (b := 4) h0 (by omega), wrap64_id (n := a / 16) (by omega) (by omega), wrap64_id (n := a / 4) (by omega) (by omega), tmod_nonneg (a := a / 4) (by omega) (by omega)]

theorem FnEntries (l0 : List Int) (g0 : (l0.length ≤ maxLen ∧ ∀ y0 ∈ l0, (Lit.int .u8 y0).wf = true)) : ∃ k, laws_FnEntries.f k l0 = some true := by
  by_cases hbig : (l0.length : Int) > 1048576
  · refine ⟨0, ?_⟩
    unfold laws_FnEntries.f laws_big.f
    simp [hbig]
  · have hl : l0.length ≤ 9223372036854775806 := by omega
    obtain ⟨⟨f, s, w, r⟩, he⟩ := word_ends l0 hl
    obtain ⟨n, hn, n1, n2⟩ := readd_ends l0 hl
    obtain ⟨p, hp, p1, p2⟩ := places_ends l0 hl
    refine Ev.rounds (g := fun k => laws_FnEntries.f k l0) ?_
    have fin : Ev (fun k => laws_FnEntries.j0 k l0 false) true := by
      refine Ev.step (f := fun k => (spec_DrawReadEntry.f k l0).bind fun t652 => ((impl_ReadEntry.f t652).bind fun bt653 => ((impl_EntryWord.f bt653.1 bt653.2.1 bt653.2.2.1 bt653.2.2.2.1).bind fun bt659 => ((spec_DrawPlaces.f k l0).bind fun t661 => (if 0 < (t661.length : Int) then ((impl_TablePath.f (Int.tmod (rd t661 0) 64)).bind fun bt665 => (if bt653.2.2.2.2 = true then (if bt659.1 = t652 then (if (wrap64 ((wrap64 ((wrap64 (16 * bt665.1)) + (wrap64 (4 * bt665.2.1)))) + bt665.2.2)) = (Int.tmod (rd t661 0) 64) then (if bt665.1 < 4 then (if bt665.2.1 < 4 then (some (decide (bt665.2.2 < 4))) else (some false)) else (some false)) else (some false)) else (some false)) else (if (wrap64 ((wrap64 ((wrap64 (16 * bt665.1)) + (wrap64 (4 * bt665.2.1)))) + bt665.2.2)) = (Int.tmod (rd t661 0) 64) then (if bt665.1 < 4 then (if bt665.2.1 < 4 then (some (decide (bt665.2.2 < 4))) else (some false)) else (some false)) else (some false)))) else (none)))))) (fun k => ?_) ?_
      · simp only [laws_FnEntries.j0]
        rw [if_neg (by simp)]
      refine Ev.bind hn ?_
      rw [impl_read n n1 n2]
      simp only [Option.bind_some]
      rw [impl_word]
      simp only [Option.bind_some]
      refine Ev.bind hp ?_
      have hp0 : 0 ≤ rd p 0 ∧ rd p 0 < 10000 := by
        refine p2 _ ?_
        unfold rd
        have : (0 : Int).toNat < p.length := by rw [p1]; decide
        rw [List.getD_eq_getElem?_getD, List.getElem?_eq_getElem this]
        exact List.getElem_mem this
      have ha : 0 ≤ rd p 0 % 64 ∧ rd p 0 % 64 < 64 := by omega
      rw [p1, tmod_nonneg hp0.1 (by omega), path_eq _ ha.1 ha.2]
      simp only [Option.bind_some]
      generalize rd p 0 % 64 = a at *
      rw [wrap64_id (n := 16 * (a / 16)) (by omega) (by omega), wrap64_id (n := 4 * (a / 4 % 4)) (by omega) (by omega), wrap64_id (n := 16 * (a / 16) + 4 * (a / 4 % 4)) (by omega) (by omega), wrap64_id (by omega) (by omega)]
      simp only [if_pos (show (0 : Int) < ((12 : Nat) : Int) by omega), if_pos (show 16 * (a / 16) + 4 * (a / 4 % 4) + a % 4 = a by omega), if_pos (show a / 16 < 4 by omega), if_pos (show a / 4 % 4 < 4 by omega), decide_eq_true (show a % 4 < 4 by omega)]
      by_cases hr : (readB n).2.2.2.2 = true
      · obtain ⟨h1, h2⟩ := word_read hr
        rw [if_pos hr, if_pos h1, if_pos h2]
        exact Ev.now _
      · rw [if_neg hr]
        exact Ev.now _
    unfold laws_FnEntries.f laws_big.f
    simp only [Option.bind_some, decide_eq_true_eq, if_neg hbig]
    refine Ev.bind he ?_
    simp only
    rw [impl_word]
    simp only [Option.bind_some]
    rw [impl_ok, spec_ok]
    simp only [Option.bind_some]
    by_cases hok : okB f s w r = true
    · obtain ⟨h1, h2, h3⟩ := read_word hok
      simp only [if_pos hok]
      rw [impl_read _ (by omega) (by omega), h1]
      simp only [Option.bind_some, hok, bne_self_eq_false, Bool.false_eq_true, if_false, if_true, beq_self_eq_true, Bool.not_true, Bool.or_self, if_neg (show ¬ entB f s w r < 0 by omega), decide_eq_false (show ¬ entB f s w r > 100000 by omega)]
      exact fin
    · have hok' : okB f s w r = false := by simpa using hok
      simp only [hok', Bool.false_eq_true, if_false]
      rw [impl_read 0 (by omega) (by omega)]
      simp only [Option.bind_some, bne_self_eq_false, Bool.false_eq_true, if_false]
      exact fin

end Go.Proofs.Ytpkhoanaifpopaa.Pure
