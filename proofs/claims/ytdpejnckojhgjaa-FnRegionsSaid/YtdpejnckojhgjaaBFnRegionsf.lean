/- What the proof of FnRegionsSaid rests on, part 6: plain lemmas and contracts of the functions that the law reaches (in part written by a printing program over the translation). No condition. -/
import Derived.Test.YtdpejnckojhgjaaBFnRegionse
import Derived.RowKit
import Derived.Laws.BitsLemmas
section
namespace Go.Proofs.Ytdpejnckojhgjaa.Aid
open Go.RowKit Go.Proofs.YtdpejnckojhgjaaW.PrintWords

theorem wrap64_id {n : Int} (h : -9223372036854775808 ≤ n) (h2 : n ≤ 9223372036854775807) : wrap64 n = n := by unfold wrap64; omega
theorem wf_i64 {n : Int} (h : (Lit.int .i64 n).wf = true) : -9223372036854775808 ≤ n ∧ n ≤ 9223372036854775807 := by
  simpa [Lit.wf, IntKind.min, IntKind.max, IntKind.bits, IntKind.signed] using h

theorem and255 (n : Int) : bits .and .i64 n 255 = n % 256 := by
  have h127 : (BitVec.ofInt 64 255).toNat = 2 ^ 8 - 1 := by decide
  have key : (BitVec.ofInt 64 n &&& BitVec.ofInt 64 255).toNat = (n % ((2 ^ 64 : Nat) : Int)).toNat % 2 ^ 8 := by
    rw [BitVec.toNat_and, BitVec.toNat_ofInt, h127, Nat.and_two_pow_sub_one_eq_mod]
  show IntKind.i64.wrap ((BitVec.ofInt 64 n &&& BitVec.ofInt 64 255).toNat : Nat) = n % 256
  rw [key, IntKind.wrap_i64]
  omega

theorem tmod_nonneg {a b : Int} (ha : 0 ≤ a) (_hb : 0 < b) : Int.tmod a b = a % b := Int.tmod_eq_emod_of_nonneg ha
theorem tdiv_nonneg {a b : Int} (ha : 0 ≤ a) : Int.tdiv a b = a / b := Int.tdiv_eq_ediv_of_nonneg ha

/-! Loops over an index -/
theorem Ev.of_succ {α : Type} {g : Nat → Option α} {r : α} (h : ∀ k, g (k + 1) = some r) : Ev g r :=
  ⟨1, fun n hn => by obtain ⟨m, rfl⟩ : ∃ m, n = m + 1 := ⟨n - 1, by omega⟩; exact h m⟩
theorem Ev.const {α : Type} {g : Nat → Option α} {r : α} (h : ∀ k, g k = some r) : Ev g r := ⟨0, fun n _ => h n⟩
/-- A loop that asks one thing of each index. -/
theorem ev_all {ρ : Type} (g : Nat → Nat → Option ρ) (n : Nat) (B : Nat → Bool) (no yes : ρ)
    (h1 : ∀ i, i < n → B i = true → ∀ r, Ev (fun k => g k (i + 1)) r → Ev (fun k => g k i) r)
    (h2 : ∀ i, i < n → B i = false → Ev (fun k => g k i) no)
    (h3 : Ev (fun k => g k n) yes) : ∀ d i, i + d = n → Ev (fun k => g k i) (if (List.range' i d).all B = true then yes else no) := by
  intro d
  induction d with
  | zero =>
    intro i hi
    obtain rfl : i = n := by omega
    simpa using h3
  | succ d ih =>
    intro i hi
    rw [List.range'_succ, List.all_cons]
    cases hb : B i with
    | true => simp only [Bool.true_and]; exact h1 i (by omega) hb _ (ih (i + 1) (by omega))
    | false => simp only [Bool.false_and, Bool.false_eq_true, if_false]; exact h2 i (by omega) hb
theorem ev_yes {ρ : Type} (g : Nat → Nat → Option ρ) (n : Nat) (B : Nat → Bool) (r : ρ)
    (h1 : ∀ i, i < n → B i = true → ∀ r, Ev (fun k => g k (i + 1)) r → Ev (fun k => g k i) r)
    (hall : (List.range n).all B = true) (h3 : Ev (fun k => g k n) r) : Ev (fun k => g k 0) r := by
  have key : ∀ d i, i + d = n → Ev (fun k => g k i) r := by
    intro d
    induction d with
    | zero =>
      intro i hi
      obtain rfl : i = n := by omega
      exact h3
    | succ d ih =>
      intro i hi
      exact h1 i (by omega) (List.all_eq_true.1 hall i (List.mem_range.2 (by omega))) _ (ih (i + 1) (by omega))
  exact key n 0 (by omega)
theorem ev_no {ρ : Type} (g : Nat → Nat → Option ρ) (n : Nat) (B : Nat → Bool) (no : ρ)
    (h1 : ∀ i, i < n → B i = true → ∀ r, Ev (fun k => g k (i + 1)) r → Ev (fun k => g k i) r)
    (h2 : ∀ i, i < n → B i = false → Ev (fun k => g k i) no)
    (hall : (List.range n).all B = false) : Ev (fun k => g k 0) no := by
  have key : ∀ d i, i + d = n → (List.range' i d).all B = false → Ev (fun k => g k i) no := by
    intro d
    induction d with
    | zero => intro i _ h; simp at h
    | succ d ih =>
      intro i hi h
      rw [List.range'_succ, List.all_cons] at h
      cases hb : B i with
      | true => exact h1 i (by omega) hb _ (ih (i + 1) (by omega) (by simpa [hb] using h))
      | false => exact h2 i (by omega) hb
  exact key n 0 (by omega) (by rw [← List.range_eq_range']; exact hall)
theorem ev_all0 {ρ : Type} (g : Nat → Nat → Option ρ) (n : Nat) (B : Nat → Bool) (no yes : ρ)
    (h1 : ∀ i, i < n → B i = true → ∀ r, Ev (fun k => g k (i + 1)) r → Ev (fun k => g k i) r)
    (h2 : ∀ i, i < n → B i = false → Ev (fun k => g k i) no)
    (h3 : Ev (fun k => g k n) yes) : Ev (fun k => g k 0) (if (List.range n).all B = true then yes else no) := by
  rw [List.range_eq_range']
  exact ev_all g n B no yes h1 h2 h3 n 0 (by omega)
/-- The same, where what was asked before is known. -/
theorem ev_yesp {ρ : Type} (g : Nat → Nat → Option ρ) (n : Nat) (B : Nat → Bool) (r : ρ)
    (h1 : ∀ i, i < n → (∀ j, j < i → B j = true) → B i = true → ∀ r, Ev (fun k => g k (i + 1)) r → Ev (fun k => g k i) r)
    (hall : (List.range n).all B = true) (h3 : Ev (fun k => g k n) r) : Ev (fun k => g k 0) r := by
  have ha : ∀ i, i < n → B i = true := fun i hi => List.all_eq_true.1 hall i (List.mem_range.2 hi)
  have key : ∀ d i, i + d = n → Ev (fun k => g k i) r := by
    intro d
    induction d with
    | zero =>
      intro i hi
      obtain rfl : i = n := by omega
      exact h3
    | succ d ih =>
      intro i hi
      exact h1 i (by omega) (fun j hj => ha j (by omega)) (ha i (by omega)) _ (ih (i + 1) (by omega))
  exact key n 0 (by omega)
theorem ev_nop {ρ : Type} (g : Nat → Nat → Option ρ) (n : Nat) (B : Nat → Bool) (no : ρ)
    (h1 : ∀ i, i < n → (∀ j, j < i → B j = true) → B i = true → ∀ r, Ev (fun k => g k (i + 1)) r → Ev (fun k => g k i) r)
    (h2 : ∀ i, i < n → (∀ j, j < i → B j = true) → B i = false → Ev (fun k => g k i) no)
    (hall : (List.range n).all B = false) : Ev (fun k => g k 0) no := by
  have key : ∀ d i, i + d = n → (∀ j, j < i → B j = true) → Ev (fun k => g k i) no := by
    intro d
    induction d with
    | zero =>
      intro i hi h
      obtain rfl : i = n := by omega
      have : (List.range i).all B = true := List.all_eq_true.2 (fun j hj => h j (List.mem_range.1 hj))
      rw [this] at hall; cases hall
    | succ d ih =>
      intro i hi h
      cases hb : B i with
      | true => exact h1 i (by omega) h hb _ (ih (i + 1) (by omega) (fun j hj => by
          by_cases e : j = i
          · rw [e]; exact hb
          · exact h j (by omega)))
      | false => exact h2 i (by omega) h hb
  exact key n 0 (by omega) (fun j hj => by omega)
theorem ev_allp {ρ : Type} (g : Nat → Nat → Option ρ) (n : Nat) (B : Nat → Bool) (no yes : ρ)
    (h1 : ∀ i, i < n → (∀ j, j < i → B j = true) → B i = true → ∀ r, Ev (fun k => g k (i + 1)) r → Ev (fun k => g k i) r)
    (h2 : ∀ i, i < n → (∀ j, j < i → B j = true) → B i = false → Ev (fun k => g k i) no)
    (h3 : (∀ j, j < n → B j = true) → Ev (fun k => g k n) yes) : Ev (fun k => g k 0) (if (List.range n).all B = true then yes else no) := by
  cases hall : (List.range n).all B with
  | true =>
    rw [if_pos rfl]
    exact ev_yesp g n B yes h1 hall (h3 (fun j hj => List.all_eq_true.1 hall j (List.mem_range.2 hj)))
  | false =>
    rw [if_neg (by simp)]
    exact ev_nop g n B no h1 h2 hall
theorem range_all {α : Type} (xs : List α) (d : α) (P : α → Bool) : (List.range xs.length).all (fun i => P (xs.getD i d)) = xs.all P := by
  rw [Bool.eq_iff_iff, List.all_eq_true, List.all_eq_true]
  constructor
  · intro h x hx
    obtain ⟨i, hi, rfl⟩ := List.getElem_of_mem hx
    have := h i (List.mem_range.2 hi)
    simpa [List.getD_eq_getElem?_getD, List.getElem?_eq_getElem hi] using this
  · intro h i hi
    have hi := List.mem_range.1 hi
    have := h _ (List.getElem_mem hi)
    simpa [List.getD_eq_getElem?_getD, List.getElem?_eq_getElem hi] using this
/-- A loop that stores at each index. -/
theorem ev_copy {α ρ : Type} (g : Nat → List α → Nat → Option ρ) (n : Nat) (f : Nat → α) (fin : List α → ρ)
    (h1 : ∀ i acc, i < n → acc.length = n → ∀ r, Ev (fun k => g k (acc.set i (f i)) (i + 1)) r → Ev (fun k => g k acc i) r)
    (h3 : ∀ acc, acc.length = n → Ev (fun k => g k acc n) (fin acc)) : ∀ d i acc, i + d = n → acc.length = n → Ev (fun k => g k acc i) (fin (acc.take i ++ (List.range' i d).map f)) := by
  intro d
  induction d with
  | zero =>
    intro i acc hi hl
    obtain rfl : i = n := by omega
    simpa [← hl] using h3 acc hl
  | succ d ih =>
    intro i acc hi hl
    have h := ih (i + 1) (acc.set i (f i)) (by omega) (by simpa using hl)
    have e : (acc.set i (f i)).take (i + 1) ++ (List.range' (i + 1) d).map f = acc.take i ++ (List.range' i (d + 1)).map f := by
      rw [List.range'_succ, List.map_cons, List.take_succ_eq_append_getElem (by simp; omega), List.getElem_set_self, List.append_assoc]
      congr 1
      exact List.take_set_of_le (Nat.le_refl _)
    rw [e] at h
    exact h1 i acc (by omega) hl _ h
theorem ev_copy0 {α ρ : Type} (g : Nat → List α → Nat → Option ρ) (n : Nat) (f : Nat → α) (fin : List α → ρ)
    (h1 : ∀ i acc, i < n → acc.length = n → ∀ r, Ev (fun k => g k (acc.set i (f i)) (i + 1)) r → Ev (fun k => g k acc i) r)
    (h3 : ∀ acc, acc.length = n → Ev (fun k => g k acc n) (fin acc)) (acc : List α) (hl : acc.length = n) : Ev (fun k => g k acc 0) (fin ((List.range n).map f)) := by
  rw [List.range_eq_range']
  simpa using ev_copy g n f fin h1 h3 n 0 acc (by omega) hl
/-- A loop that carries a state. -/
theorem ev_fold {σ ρ : Type} (g : Nat → σ → Nat → Option ρ) (n : Nat) (f : σ → Nat → σ) (fin : σ → ρ) (Inv : Nat → σ → Prop)
    (h1 : ∀ i s, i < n → Inv i s → Inv (i + 1) (f s i) ∧ ∀ r, Ev (fun k => g k (f s i) (i + 1)) r → Ev (fun k => g k s i) r)
    (h3 : ∀ s, Inv n s → Ev (fun k => g k s n) (fin s)) (s : σ) (h0 : Inv 0 s) : Ev (fun k => g k s 0) (fin ((List.range n).foldl f s)) ∧ Inv n ((List.range n).foldl f s) := by
  have key : ∀ d i s, i + d = n → Inv i s → Ev (fun k => g k s i) (fin ((List.range' i d).foldl f s)) ∧ Inv n ((List.range' i d).foldl f s) := by
    intro d
    induction d with
    | zero =>
      intro i s hi hs
      obtain rfl : i = n := by omega
      simpa using ⟨h3 s hs, hs⟩
    | succ d ih =>
      intro i s hi hs
      obtain ⟨h4, h5⟩ := h1 i s (by omega) hs
      obtain ⟨h6, h7⟩ := ih (i + 1) (f s i) (by omega) h4
      rw [List.range'_succ, List.foldl_cons]
      exact ⟨h5 _ h6, h7⟩
  rw [List.range_eq_range']
  exact key n 0 s (by omega) h0
theorem range_map_getD {α : Type} (xs : List α) (d : α) : (List.range xs.length).map (fun i => xs.getD i d) = xs := by
  apply List.ext_getElem
  · simp
  · intro i h1 h2
    simp at h1
    simp [List.getD_eq_getElem?_getD, List.getElem?_eq_getElem h1]
theorem foldl_getD {α σ : Type} (f : σ → α → σ) (l : List α) (d : α) (s : σ) : (List.range l.length).foldl (fun s i => f s (l.getD i d)) s = l.foldl f s := by
  have := range_map_getD l d
  conv => rhs; rw [← this]
  rw [List.foldl_map]
theorem toNat_cast (i : Nat) : (i : Int).toNat = i := by omega
theorem wrap_succ {i : Nat} (h : i < 9223372036854775807) : wrap64 ((i : Int) + 1) = ((i + 1 : Nat) : Int) := by unfold wrap64; omega
theorem in_dec (a b c : Int) : (if a ≥ b then (some (decide (a ≤ c))) else (some false)) = some (decide (b ≤ a ∧ a ≤ c)) := by
  by_cases h : a ≥ b
  · rw [if_pos h]; congr 1; by_cases h2 : a ≤ c
    · rw [decide_eq_true h2, decide_eq_true ⟨h, h2⟩]
    · rw [decide_eq_false h2, decide_eq_false (fun x => h2 x.2)]
  · rw [if_neg h, decide_eq_false (fun x => h x.1)]
/-- What a count tells, where it does not refuse. -/
theorem ev_sz (g : Nat → Int → Nat → Option Int) (n : Nat) (sz : Nat → Nat)
    (h1 : ∀ i b, i < n → 0 ≤ b → b ≤ 1048576 → (sz i : Int) ≤ b → ∀ r, Ev (fun k => g k (b - sz i) (i + 1)) r → Ev (fun k => g k b i) r)
    (h2 : ∀ i b, i < n → 0 ≤ b → b ≤ 1048576 → ¬ (sz i : Int) ≤ b → Ev (fun k => g k b i) (-1)) (h3 : ∀ b, Ev (fun k => g k b n) b) (b : Int) (hb0 : 0 ≤ b) (hb1 : b ≤ 1048576) :
    ∃ r, Ev (fun k => g k b 0) r ∧ (0 ≤ r → (((List.range n).map sz).sum : Nat) + r ≤ b) := by
  have key : ∀ d i b, i + d = n → 0 ≤ b → b ≤ 1048576 → ∃ r, Ev (fun k => g k b i) r ∧ (0 ≤ r → (((List.range' i d).map sz).sum : Nat) + r ≤ b) := by
    intro d
    induction d with
    | zero =>
      intro i b hi _ _
      obtain rfl : i = n := by omega
      exact ⟨b, h3 b, fun _ => by simp⟩
    | succ d ih =>
      intro i b hi h0 hb
      by_cases hs : (sz i : Int) ≤ b
      · obtain ⟨r, hr, hq⟩ := ih (i + 1) (b - sz i) (by omega) (by omega) (by omega)
        refine ⟨r, h1 i b (by omega) h0 hb hs r hr, fun h => ?_⟩
        have := hq h
        rw [List.range'_succ, List.map_cons, List.sum_cons]
        omega
      · exact ⟨-1, h2 i b (by omega) h0 hb hs, fun h => by omega⟩
  rw [List.range_eq_range']
  exact key n 0 b (by omega) hb0 hb1
theorem sum_ge {n : Nat} (sz : Nat → Nat) {i : Nat} (h : i < n) : sz i ≤ ((List.range n).map sz).sum := by
  have : ∀ (l : List Nat) (x : Nat), x ∈ l → x ≤ l.sum := by
    intro l
    induction l with
    | nil => intro x hx; cases hx
    | cons y l ih =>
      intro x hx
      rcases List.mem_cons.1 hx with rfl | hx
      · simp
      · have := ih x hx; simp; omega
  exact this _ _ (List.mem_map_of_mem (List.mem_range.2 h))
theorem sub_len {a : Int} {n : Nat} (ha : 0 ≤ a) (ha1 : a ≤ 1048576) (hn : n ≤ maxLen) : wrap64 (a - (n : Int)) = a - n := by unfold maxLen at hn; unfold wrap64; omega
end Go.Proofs.Ytdpejnckojhgjaa.Aid
end
section
namespace Go.Proofs.Ytdpejnckojhgjaa.Pure
open Go.RowKit Go.Proofs.Ytdpejnckojhgjaa.P Go.Proofs.YtdpejnckojhgjaaW.PrintWords Go.Proofs.YtdpejnckojhgjaaW.PrintLast Go.Proofs.YtdpejnckojhgjaaW.PrintMore Go.Proofs.Ytdpejnckojhgjaa.Aid
set_option linter.unusedVariables false
set_option linter.unusedSimpArgs false

theorem l01In_eq (a b c : Int) : spec_l01In.f a b c = some (decide (b ≤ a ∧ a ≤ c)) := in_dec a b c
theorem within_eq (a b c : Int) : impl_within.f a b c = some (decide (b ≤ a ∧ a ≤ c)) := in_dec a b c
theorem map_getD {α β : Type} (f : α → β) (l : List α) (d : α) : (List.range l.length).map (fun i => f (l.getD i d)) = l.map f := by
  rw [show (fun i => f (l.getD i d)) = f ∘ (fun i => l.getD i d) from rfl, ← List.map_map, range_map_getD]
abbrev RegW := S70
abbrev RegL := S68
def toReg_ (r : RegL) : RegW := ⟨r.f0, r.f1, r.f2⟩
theorem rdGL (l : List RegL) (i : Nat) : rd_T68 l (i : Int) = l.getD i z68 := by unfold rd_T68; rw [toNat_cast]
theorem rdGW (l : List RegW) (i : Nat) : rd_T70 l (i : Int) = l.getD i z70 := by unfold rd_T70; rw [toNat_cast]
theorem szRegionS_eq (l : List RegL) (hl : l.length ≤ maxLen) : laws_szRegionS.f l 1048576 = some (if (l.length : Int) ≤ 1048576 then (1048576 - (l.length : Int) : Int) else (-1 : Int)) := by
  unfold maxLen at hl
  unfold laws_szRegionS.f
  have e : wrap64 (1048576 - (l.length : Int)) = 1048576 - l.length := by unfold wrap64; omega
  rw [e]
  by_cases h : (l.length : Int) ≤ 1048576
  · rw [if_neg (by omega), if_pos h]
  · rw [if_pos (by omega), if_neg h]
theorem toRegionS_ev (l : List RegL) (hl : l.length ≤ 1048576) : Ev (fun k => laws_toRegionS.f k l) (l.map toReg_) := by
  have key := ev_copy0 (fun k acc i => laws_toRegionS.l0 k l acc (i : Int)) l.length (fun i => toReg_ (l.getD i z68)) id (by
    intro i acc hi ha r h
    refine Ev.step (fun k => ?_) h
    simp only [laws_toRegionS.l0]
    rw [if_pos (by omega), if_pos (by omega), rdGL]
    unfold laws_toRegion.f
    simp only [Option.bind_some]
    rw [if_pos (by omega), wrap_succ (by omega), toNat_cast]
    rfl) (by
    intro acc ha
    refine Ev.of_succ (fun k => ?_)
    simp only [laws_toRegionS.l0]
    rw [if_neg (by omega)]
    rfl) (List.replicate l.length z70) (by simp)
  rw [map_getD toReg_ l z68] at key
  refine Ev.congr (fun k => ?_) key
  unfold laws_toRegionS.f
  rw [if_pos (by omega), if_pos (by omega), toNat_cast]
  rfl
theorem eqRegionS_refl (l : List RegW) (hl : l.length ≤ 1048576) : Ev (fun k => laws_eqRegionS.f k l l) true := by
  have key := ev_all0 (fun k i => laws_eqRegionS.l0 k l l (i : Int)) l.length (fun _ => true) false true (by
    intro i hi _ r h
    refine Ev.step (fun k => ?_) h
    simp only [laws_eqRegionS.l0]
    rw [if_pos (by omega), if_pos (by omega), if_pos (by omega)]
    unfold laws_eqRegion.f
    simp only [if_true, Option.bind_some, bne_self_eq_false, Bool.false_eq_true, if_false]
    rw [wrap_succ (by omega)]) (by intro i _ h; cases h) (by
    refine Ev.of_succ (fun k => ?_)
    simp only [laws_eqRegionS.l0]
    rw [if_neg (by omega)])
  rw [if_pos (by simp)] at key
  refine Ev.congr (fun k => ?_) key
  unfold laws_eqRegionS.f
  rw [if_pos rfl]
  rfl
abbrev zg : RegW := z70
def regAt (l : List RegW) (i : Nat) : RegW := l.getD i zg
def oneR (r : RegW) : Bool := decide (0 ≤ r.f0 ∧ r.f0 < r.f1 ∧ r.f1 ≤ 64)
/-- Does b follow a? -/
def nextR (a b : RegW) : Bool := !decide (a.f1 > b.f0) && (!decide (a.f1 = b.f0) || !(a.f2 == b.f2))
def okR (l : List RegW) (i : Nat) : Bool := oneR (regAt l i) && (decide (i = 0) || nextR (regAt l (i - 1)) (regAt l i))
def regsB (l : List RegW) : Bool := decide (l.length ≤ 12) && (List.range l.length).all (okR l)
theorem l06One_eq (a b : Int) (c : Bool) : spec_l06One.f a b c = some (oneR ⟨a, b, c⟩) := by
  unfold spec_l06One.f oneR
  by_cases h1 : a ≥ 0
  · rw [if_pos h1]
    by_cases h2 : a < b
    · rw [if_pos h2]; congr 1; simp [h2]; omega
    · rw [if_neg h2]; congr 1; simp [h2]
  · rw [if_neg h1]; congr 1; simp; omega
theorem wrap_pred_r {i : Nat} (h0 : 0 < i) (h : i < 9223372036854775807) : wrap64 ((i : Int) - 1) = ((i - 1 : Nat) : Int) := by unfold wrap64; omega
theorem okR_cases {l : List RegW} {i : Nat} (h0 : ¬ i = 0) : okR l i = (oneR (regAt l i) && nextR (regAt l (i - 1)) (regAt l i)) := by unfold okR; rw [decide_eq_false h0, Bool.false_or]
theorem spec_RegionsOk_ev (l : List RegW) (hl : l.length ≤ 1048576) : Ev (fun k => spec_RegionsOk.f k l) (regsB l) := by
  unfold spec_RegionsOk.f regsB
  by_cases h12 : (l.length : Int) > 12
  · simp only [if_pos h12, decide_eq_false (show ¬ l.length ≤ 12 by omega), Bool.false_and]; exact Ev.now _
  · simp only [if_neg h12, decide_eq_true (show l.length ≤ 12 by omega), Bool.true_and]
    have key := ev_all0 (fun k i => spec_RegionsOk.l0 k l (i : Int)) l.length (okR l) false true (by
      intro i hi hb r h
      refine Ev.step (fun k => ?_) h
      have hq : spec_l06One.f (l.getD i zg).f0 (l.getD i zg).f1 (l.getD i zg).f2 = some (oneR (regAt l i)) := l06One_eq _ _ _
      simp only [spec_RegionsOk.l0]
      rw [if_pos (by omega), if_pos (by omega), rdGW, hq]
      simp only [Option.bind_some]
      by_cases h0 : i = 0
      · subst h0
        unfold okR at hb
        simp only [decide_true, Bool.true_or, Bool.and_true] at hb
        rw [if_pos hb, if_neg (by omega), wrap_succ (by omega)]
      · rw [okR_cases h0, Bool.and_eq_true] at hb
        obtain ⟨h1, h2⟩ := hb
        rw [if_pos h1, if_pos (by omega), wrap_pred_r (by omega) (by omega), if_pos (by omega), if_pos (by omega), rdGW, wrap_succ (by omega)]
        unfold nextR regAt at h2
        simp only [Bool.and_eq_true, Bool.or_eq_true, Bool.not_eq_true', decide_eq_false_iff_not, beq_eq_false_iff_ne, ne_eq] at h2
        rw [if_neg h2.1]
        by_cases he : (l.getD (i - 1) zg).f1 = (l.getD i zg).f0
        · rw [if_pos he, if_neg]
          rcases h2.2 with h3 | h3
          · exact absurd he h3
          · simpa using h3
        · rw [if_neg he]) (by
      intro i hi hb
      refine Ev.of_succ (fun k => ?_)
      have hq : spec_l06One.f (l.getD i zg).f0 (l.getD i zg).f1 (l.getD i zg).f2 = some (oneR (regAt l i)) := l06One_eq _ _ _
      simp only [spec_RegionsOk.l0]
      rw [if_pos (by omega), if_pos (by omega), rdGW, hq]
      simp only [Option.bind_some]
      by_cases h1 : oneR (regAt l i) = true
      · have h0 : ¬ i = 0 := by rintro rfl; unfold okR at hb; rw [h1] at hb; simp at hb
        rw [okR_cases h0, h1, Bool.true_and] at hb
        rw [if_pos h1, if_pos (by omega), wrap_pred_r (by omega) (by omega), if_pos (by omega), if_pos (by omega), rdGW]
        unfold nextR regAt at hb
        by_cases h3 : (l.getD (i - 1) zg).f1 > (l.getD i zg).f0
        · rw [if_pos h3]
        · rw [if_neg h3]
          rw [decide_eq_false h3, Bool.not_false, Bool.true_and] at hb
          by_cases he : (l.getD (i - 1) zg).f1 = (l.getD i zg).f0
          · rw [if_pos he]
            rw [decide_eq_true he, Bool.not_true, Bool.false_or, Bool.not_eq_false'] at hb
            rw [if_pos hb]
          · rw [decide_eq_false he] at hb; simp at hb
      · rw [if_neg h1]) (by
      refine Ev.of_succ (fun k => ?_)
      simp only [spec_RegionsOk.l0]
      rw [if_neg (by omega)])
    have e : (if (List.range l.length).all (okR l) = true then true else false) = (List.range l.length).all (okR l) := by cases (List.range l.length).all (okR l) <;> rfl
    rw [e] at key
    exact key
theorem impl_one (a b : Int) (c : Bool) : ((impl_within.f a 0 (wrap64 (b - 1))) = some (decide (0 ≤ a ∧ a ≤ wrap64 (b - 1)))) ∧ (impl_within.f b 1 64 = some (decide (1 ≤ b ∧ b ≤ 64))) ∧ oneR ⟨a, b, c⟩ = (decide (0 ≤ a ∧ a ≤ wrap64 (b - 1)) && decide (1 ≤ b ∧ b ≤ 64)) := by
  refine ⟨within_eq _ _ _, within_eq _ _ _, ?_⟩
  unfold oneR
  by_cases hb : 1 ≤ b ∧ b ≤ 64
  · rw [wrap64_id (by omega) (by omega), decide_eq_true hb, Bool.and_true]
    congr 1
    rw [eq_iff_iff]
    show (0 ≤ a ∧ a < b ∧ b ≤ 64) ↔ _
    omega
  · rw [decide_eq_false hb, Bool.and_false, decide_eq_false_iff_not]
    show ¬ (0 ≤ a ∧ a < b ∧ b ≤ 64)
    omega
theorem impl_RegionsOk_ev (l : List RegW) (hl : l.length ≤ 1048576) : Ev (fun k => impl_RegionsOk.f k l) (regsB l) := by
  unfold impl_RegionsOk.f regsB
  have hj : ∀ (i : Nat), i < l.length → ∀ r, Ev (fun k => impl_RegionsOk.j1 k l (i : Int) l (l.length : Int) (i : Int) (!oneR (regAt l i)) (regAt l i).f0 (regAt l i).f1 (regAt l i).f2) r → Ev (fun k => impl_RegionsOk.l0 k l l (l.length : Int) (i : Int)) r := by
    intro i hi r h
    obtain ⟨h1, h2, h3⟩ := impl_one (regAt l i).f0 (regAt l i).f1 (regAt l i).f2
    refine Ev.step (fun k => ?_) h
    simp only [impl_RegionsOk.l0]
    rw [if_pos (by omega), if_pos (by omega), if_pos (by omega), rdGW, show l.getD i z70 = regAt l i from rfl, h1]
    simp only [Option.bind_some]
    rw [show oneR (regAt l i) = _ from h3]
    by_cases h4 : 0 ≤ (regAt l i).f0 ∧ (regAt l i).f0 ≤ wrap64 ((regAt l i).f1 - 1)
    · rw [decide_eq_true h4, if_pos rfl, h2]; rfl
    · rw [decide_eq_false h4, if_neg (by simp)]; rfl
  have key := ev_all0 (fun k i => impl_RegionsOk.l0 k l l (l.length : Int) (i : Int)) l.length (okR l) false (decide (l.length ≤ 12)) (by
    intro i hi hb r h
    refine hj i hi r (Ev.step (fun k => ?_) h)
    have h1 : oneR (regAt l i) = true := by unfold okR at hb; exact (Bool.and_eq_true _ _ ▸ hb).1
    simp only [impl_RegionsOk.j1]
    rw [h1, if_neg (by simp)]
    by_cases h0 : i = 0
    · subst h0
      rw [if_neg (by omega), wrap_succ (by omega)]
    · rw [okR_cases h0, h1, Bool.true_and] at hb
      rw [if_pos (by omega), wrap_pred_r (by omega) (by omega), if_pos (by omega), if_pos (by omega), rdGW, wrap_succ (by omega), show l.getD (i - 1) z70 = regAt l (i - 1) from rfl]
      unfold nextR at hb
      simp only [Bool.and_eq_true, Bool.or_eq_true, Bool.not_eq_true', decide_eq_false_iff_not, beq_eq_false_iff_ne, ne_eq] at hb
      rw [if_neg hb.1]
      by_cases he : (regAt l (i - 1)).f1 = (regAt l i).f0
      · rw [if_pos he, if_neg]
        rcases hb.2 with h3 | h3
        · exact absurd he h3
        · simpa using h3
      · rw [if_neg he]) (by
    intro i hi hb
    refine hj i hi false (Ev.of_succ (fun k => ?_))
    simp only [impl_RegionsOk.j1]
    by_cases h1 : oneR (regAt l i) = true
    · have h0 : ¬ i = 0 := by rintro rfl; unfold okR at hb; rw [h1] at hb; simp at hb
      rw [okR_cases h0, h1, Bool.true_and] at hb
      rw [h1, if_neg (by simp), if_pos (by omega), wrap_pred_r (by omega) (by omega), if_pos (by omega), if_pos (by omega), rdGW, show l.getD (i - 1) z70 = regAt l (i - 1) from rfl]
      unfold nextR at hb
      by_cases h3 : (regAt l (i - 1)).f1 > (regAt l i).f0
      · rw [if_pos h3]
      · rw [if_neg h3]
        rw [decide_eq_false h3, Bool.not_false, Bool.true_and] at hb
        by_cases he : (regAt l (i - 1)).f1 = (regAt l i).f0
        · rw [if_pos he]
          rw [decide_eq_true he, Bool.not_true, Bool.false_or, Bool.not_eq_false'] at hb
          rw [if_pos hb]
        · rw [decide_eq_false he] at hb; simp at hb
    · rw [show oneR (regAt l i) = false by simpa using h1, if_pos (by rfl)]) (by
    refine Ev.of_succ (fun k => ?_)
    simp only [impl_RegionsOk.l0]
    rw [if_neg (by omega)]
    congr 1
    rw [decide_eq_decide]
    omega)
  have e : (if (List.range l.length).all (okR l) = true then decide (l.length ≤ 12) else false) = (decide (l.length ≤ 12) && (List.range l.length).all (okR l)) := by cases (List.range l.length).all (okR l) <;> simp
  rw [e] at key
  exact key
def mkR (r : RegW) : Int := if r.f2 = true then 2 else 1
def pnt (v : Int) : Nat → Int → List Int → List Int
  | 0, _, m => m
  | n + 1, p, m => pnt v n (p + 1) (m.set p.toNat v)
theorem pnt_len (v : Int) : ∀ n p m, (pnt v n p m).length = m.length := by
  intro n
  induction n with
  | zero => intro p m; rfl
  | succ n ih => intro p m; rw [pnt, ih, List.length_set]
def Tri (m : List Int) : Prop := m.length = 64 ∧ ∀ x ∈ m, x = 0 ∨ x = 1 ∨ x = 2
theorem Tri.set {m : List Int} (h : Tri m) (i : Nat) {v : Int} (hv : v = 0 ∨ v = 1 ∨ v = 2) : Tri (m.set i v) := by
  refine ⟨by rw [List.length_set]; exact h.1, fun x hx => ?_⟩
  rcases List.mem_or_eq_of_mem_set hx with hx | rfl
  · exact h.2 x hx
  · exact hv
theorem pnt_tri {v : Int} (hv : v = 0 ∨ v = 1 ∨ v = 2) : ∀ n p m, Tri m → Tri (pnt v n p m) := by
  intro n
  induction n with
  | zero => intro p m h; exact h
  | succ n ih => intro p m h; exact ih _ _ (h.set _ hv)
theorem mkR_tri (r : RegW) : mkR r = 0 ∨ mkR r = 1 ∨ mkR r = 2 := by unfold mkR; split <;> simp
def zer : List Int := List.replicate 64 0
theorem zer_tri : Tri zer := ⟨by simp [zer], fun x hx => Or.inl (List.eq_of_mem_replicate hx)⟩
def marksB : List RegW → List Int → List Int
  | [], m => m
  | r :: rest, m => marksB rest (pnt (mkR r) (r.f1 - r.f0).toNat r.f0 m)
theorem marksB_tri : ∀ l m, Tri m → Tri (marksB l m) := by
  intro l
  induction l with
  | nil => intro m h; exact h
  | cons r l ih => intro m h; exact ih _ (pnt_tri (mkR_tri r) _ _ _ h)
theorem Tri.at_ {m : List Int} (h : Tri m) (p : Nat) : m.getD p 0 = 0 ∨ m.getD p 0 = 1 ∨ m.getD p 0 = 2 := by
  by_cases hp : p < m.length
  · rw [List.getD_eq_getElem?_getD, List.getElem?_eq_getElem hp]; exact h.2 _ (List.getElem_mem hp)
  · rw [List.getD_eq_getElem?_getD, List.getElem?_eq_none (by omega)]; exact Or.inl rfl
theorem oneR_bd {r : RegW} (h : oneR r = true) : 0 ≤ r.f0 ∧ r.f0 < r.f1 ∧ r.f1 ≤ 64 := by simpa [oneR] using h
theorem regsB_one {l : List RegW} (h : regsB l = true) : ∀ r ∈ l, oneR r = true := by
  intro r hr
  simp only [regsB, Bool.and_eq_true, decide_eq_true_eq] at h
  obtain ⟨i, hi, rfl⟩ := List.getElem_of_mem hr
  have := List.all_eq_true.1 h.2 i (List.mem_range.2 hi)
  simp only [okR, Bool.and_eq_true] at this
  have h5 := this.1
  unfold regAt at h5
  rwa [List.getD_eq_getElem?_getD, List.getElem?_eq_getElem hi] at h5
theorem regsB_len {l : List RegW} (h : regsB l = true) : l.length ≤ 12 := by
  simp only [regsB, Bool.and_eq_true, decide_eq_true_eq] at h
  exact h.1
theorem getD_midr (pre : List RegW) (x : RegW) (rest : List RegW) : (pre ++ x :: rest).getD pre.length zg = x := by
  simp [List.getD_eq_getElem?_getD]
theorem spec_marks_in (l : List RegW) (hl : l.length ≤ 1048576) (i : Nat) (hi : i < l.length) (r : RegW) (hr : l.getD i zg = r) (h1 : oneR r = true) (R : List Int) :
    ∀ (d : Nat) (p : Int) (m : List Int), p + d = r.f1 → 0 ≤ p → m.length = 64 → Ev (fun k => spec_l06Marks.l0 k l (pnt (mkR r) d p m) ((i + 1 : Nat) : Int)) R → Ev (fun k => spec_l06Marks.l1 k l m (i : Int) p) R := by
  have hb := oneR_bd h1
  intro d
  induction d with
  | zero =>
    intro p m hp h0 hm h
    refine Ev.step (fun k => ?_) h
    simp only [spec_l06Marks.l1, rdGW, hr]
    rw [if_pos (by omega), if_pos (by omega), if_neg (by omega), wrap_succ (by omega)]
    rfl
  | succ d ih =>
    intro p m hp h0 hm h
    refine Ev.step (fun k => ?_) (ih (p + 1) (m.set p.toNat (mkR r)) (by omega) (by omega) (by rw [List.length_set]; exact hm) h)
    simp only [spec_l06Marks.l1, rdGW, hr]
    rw [if_pos (by omega), if_pos (by omega), if_pos (by omega), if_pos (by omega), if_pos (by omega), wrap64_id (n := p + 1) (by omega) (by omega)]
    simp only [Option.bind_some, List.set_set]
    unfold mkR
    split <;> rfl
theorem spec_marks_ev (l : List RegW) (hl : l.length ≤ 1048576) (h1 : ∀ r ∈ l, oneR r = true) : Ev (fun k => spec_l06Marks.f k l) (marksB l zer) := by
  have key : ∀ (rest pre : List RegW) (m : List Int), l = pre ++ rest → m.length = 64 → Ev (fun k => spec_l06Marks.l0 k l m (pre.length : Int)) (marksB rest m) := by
    intro rest
    induction rest with
    | nil =>
      intro pre m e hm
      have hlen : l.length = pre.length := by rw [e]; simp
      refine Ev.of_succ (fun k => ?_)
      simp only [spec_l06Marks.l0, marksB]
      rw [if_neg (by omega)]
    | cons r rest ih =>
      intro pre m e hm
      have hlen : l.length = pre.length + (rest.length + 1) := by rw [e]; simp
      have hr : l.getD pre.length zg = r := by rw [e, getD_midr]
      have ho := h1 r (by rw [e]; simp)
      have hb := oneR_bd ho
      have hi := ih (pre ++ [r]) (pnt (mkR r) (r.f1 - r.f0).toNat r.f0 m) (by rw [e]; simp) (by rw [pnt_len]; exact hm)
      simp only [List.length_append, List.length_cons, List.length_nil, Nat.zero_add] at hi
      refine Ev.step (fun k => ?_) (spec_marks_in l hl pre.length (by omega) r hr ho _ (r.f1 - r.f0).toNat r.f0 m (by omega) hb.1 hm hi)
      simp only [spec_l06Marks.l0, rdGW, hr]
      rw [if_pos (by omega), if_pos (by omega)]
  refine Ev.congr (fun k => ?_) (key l [] zer rfl (by simp [zer]))
  unfold spec_l06Marks.f
  rw [if_pos (by omega)]
  rfl
theorem impl_pages_in (l : List RegW) (hl : l.length ≤ 1048576) (i : Nat) (hi : i < l.length) (r : RegW) (hr : l.getD i zg = r) (h1 : oneR r = true) (R : List Int) :
    ∀ (d : Nat) (p : Int) (m : List Int), p + d = r.f1 → 0 ≤ p → Ev (fun k => impl_pagesOf.l0 k l (pnt (mkR r) d p m) ((i + 1 : Nat) : Int)) R → Ev (fun k => impl_pagesOf.l1 k l m (i : Int) p) R := by
  have hb := oneR_bd h1
  intro d
  induction d with
  | zero =>
    intro p m hp h0 h
    refine Ev.step (fun k => ?_) h
    simp only [impl_pagesOf.l1, toNat_cast, hr]
    rw [if_neg (by omega), wrap_succ (by omega)]
    rfl
  | succ d ih =>
    intro p m hp h0 h
    refine Ev.step (fun k => ?_) (ih (p + 1) (m.set p.toNat (mkR r)) (by omega) (by omega) h)
    simp only [impl_pagesOf.l1, toNat_cast, hr]
    rw [if_pos (by omega), if_pos (by omega), if_pos (by omega), wrap64_id (n := p + 1) (by omega) (by omega)]
    rfl
theorem impl_pages_ev (l : List RegW) (hl : l.length ≤ 1048576) (h1 : ∀ r ∈ l, oneR r = true) : Ev (fun k => impl_pagesOf.f k l) (marksB l zer) := by
  have key : ∀ (rest pre : List RegW) (m : List Int), l = pre ++ rest → Ev (fun k => impl_pagesOf.l0 k l m (pre.length : Int)) (marksB rest m) := by
    intro rest
    induction rest with
    | nil =>
      intro pre m e
      have hlen : l.length = pre.length := by rw [e]; simp
      refine Ev.of_succ (fun k => ?_)
      simp only [impl_pagesOf.l0, marksB]
      rw [if_neg (by omega)]
    | cons r rest ih =>
      intro pre m e
      have hlen : l.length = pre.length + (rest.length + 1) := by rw [e]; simp
      have hr : l.getD pre.length zg = r := by rw [e, getD_midr]
      have ho := h1 r (by rw [e]; simp)
      have hb := oneR_bd ho
      have hi := ih (pre ++ [r]) (pnt (mkR r) (r.f1 - r.f0).toNat r.f0 m) (by rw [e]; simp)
      simp only [List.length_append, List.length_cons, List.length_nil, Nat.zero_add] at hi
      refine Ev.step (fun k => ?_) (impl_pages_in l hl pre.length (by omega) r hr ho _ (r.f1 - r.f0).toNat r.f0 m (by omega) hb.1 hi)
      simp only [impl_pagesOf.l0, toNat_cast, hr]
      rw [if_pos (by omega), if_pos (by omega)]
  exact key l [] zer rfl
def stepB (m : List Int) (out : List RegW) (p : Nat) : List RegW :=
  if m.getD p 0 = 0 then out
  else if 0 < p ∧ m.getD (p - 1) 0 = m.getD p 0 then out.set (out.length - 1) ⟨(out.getD (out.length - 1) zg).f0, (p : Int) + 1, (out.getD (out.length - 1) zg).f2⟩
  else out ++ [⟨(p : Int), (p : Int) + 1, (m.getD p 0 == 2)⟩]
def fromB (m : List Int) : List RegW := (List.range 64).foldl (stepB m) []
structure InvF (m : List Int) (p : Nat) (out : List RegW) : Prop where
  len : out.length ≤ p
  ok : ∀ i, i < out.length → okR out i = true
  last : 0 < out.length → (regAt out (out.length - 1)).f1 ≤ p
  on : 0 < p → m.getD (p - 1) 0 ≠ 0 → 0 < out.length ∧ (regAt out (out.length - 1)).f1 = p ∧ (regAt out (out.length - 1)).f2 = (m.getD (p - 1) 0 == 2)
  off : 0 < out.length → (regAt out (out.length - 1)).f1 = p → 0 < p ∧ m.getD (p - 1) 0 ≠ 0
theorem regAt_lt {out : List RegW} {y : RegW} {i : Nat} (h : i < out.length) : regAt (out ++ [y]) i = regAt out i := by
  unfold regAt
  rw [List.getD_eq_getElem?_getD, List.getD_eq_getElem?_getD, List.getElem?_append_left h]
theorem regAt_eq {out : List RegW} {y : RegW} : regAt (out ++ [y]) out.length = y := by
  unfold regAt
  simp [List.getD_eq_getElem?_getD]
theorem regAt_set {out : List RegW} {y : RegW} {n i : Nat} (h : i < out.length) : regAt (out.set n y) i = if i = n then y else regAt out i := by
  unfold regAt
  by_cases e : i = n
  · subst e
    rw [if_pos rfl, List.getD_eq_getElem?_getD, List.getElem?_set_self h]
    rfl
  · rw [if_neg e, List.getD_eq_getElem?_getD, List.getD_eq_getElem?_getD, List.getElem?_set_ne (by omega)]
theorem okR_one {out : List RegW} {i : Nat} (h : okR out i = true) : oneR (regAt out i) = true := by
  simp only [okR, Bool.and_eq_true] at h
  exact h.1
theorem okR_next {out : List RegW} {i : Nat} (h : okR out i = true) (h0 : ¬ i = 0) : nextR (regAt out (i - 1)) (regAt out i) = true := by
  rw [okR_cases h0, Bool.and_eq_true] at h
  exact h.2
theorem okR_mk {out : List RegW} {i : Nat} (h1 : oneR (regAt out i) = true) (h2 : ¬ i = 0 → nextR (regAt out (i - 1)) (regAt out i) = true) : okR out i = true := by
  by_cases h0 : i = 0
  · unfold okR; rw [h1, decide_eq_true h0]; rfl
  · rw [okR_cases h0, h1, h2 h0]; rfl
theorem nextR_iff {a b : RegW} : nextR a b = true ↔ a.f1 ≤ b.f0 ∧ (a.f1 = b.f0 → a.f2 ≠ b.f2) := by
  simp only [nextR, Bool.and_eq_true, Bool.or_eq_true, Bool.not_eq_true', decide_eq_false_iff_not, beq_eq_false_iff_ne]
  constructor
  · rintro ⟨h1, h2⟩
    exact ⟨by omega, fun h3 => h2.elim (fun h4 => absurd h3 h4) id⟩
  · rintro ⟨h1, h2⟩
    refine ⟨by omega, ?_⟩
    by_cases h3 : a.f1 = b.f0
    · exact Or.inr (h2 h3)
    · exact Or.inl h3
theorem stepB_inv (m : List Int) (hm : Tri m) (p : Nat) (hp : p < 64) (out : List RegW) (h : InvF m p out) : InvF m (p + 1) (stepB m out p) := by
  unfold stepB
  by_cases h0 : m.getD p 0 = 0
  · rw [if_pos h0]
    refine ⟨by have := h.len; omega, h.ok, fun x => by have := h.last x; omega, fun _ hn => absurd h0 (by simpa using hn), fun x e => ?_⟩
    have := h.last x
    omega
  · rw [if_neg h0]
    by_cases h1 : 0 < p ∧ m.getD (p - 1) 0 = m.getD p 0
    · rw [if_pos h1]
      obtain ⟨hl, hf, hw⟩ := h.on h1.1 (by rw [h1.2]; exact h0)
      have hlast := h.ok (out.length - 1) (by omega)
      have hone := oneR_bd (okR_one hlast)
      change (regAt out (out.length - 1)).f1 = p at hf
      have hL : (out.set (out.length - 1) (⟨(out.getD (out.length - 1) zg).f0, (p : Int) + 1, (out.getD (out.length - 1) zg).f2⟩ : RegW)).length = out.length := List.length_set ..
      have hA : regAt (out.set (out.length - 1) (⟨(out.getD (out.length - 1) zg).f0, (p : Int) + 1, (out.getD (out.length - 1) zg).f2⟩ : RegW)) (out.length - 1) = ⟨(regAt out (out.length - 1)).f0, (p : Int) + 1, (regAt out (out.length - 1)).f2⟩ := by
        rw [regAt_set (by omega), if_pos rfl]; rfl
      refine ⟨by rw [hL]; have := h.len; omega, fun i hi => ?_, fun _ => by rw [hL, hA]; show (p : Int) + 1 ≤ _; omega, fun _ _ => ?_, fun _ _ => ⟨by omega, by simpa using h0⟩⟩
      · rw [hL] at hi
        by_cases e : i = out.length - 1
        · subst e
          refine okR_mk ?_ (fun hn => ?_)
          · rw [hA]
            have h6 : (regAt out (out.length - 1)).f0 < (p : Int) + 1 := by omega
            simp only [oneR, decide_eq_true_eq]
            exact ⟨hone.1, h6, by omega⟩
          · rw [hA, regAt_set (by omega), if_neg (by omega)]
            have := nextR_iff.1 (okR_next hlast hn)
            exact nextR_iff.2 this
        · have hk := h.ok i hi
          refine okR_mk ?_ (fun hn => ?_)
          · rw [regAt_set hi, if_neg e]; exact okR_one hk
          · rw [regAt_set hi, if_neg e, regAt_set (by omega), if_neg (by omega)]; exact okR_next hk hn
      · rw [hL, hA]
        refine ⟨hl, by show (p : Int) + 1 = _; omega, ?_⟩
        show (regAt out (out.length - 1)).f2 = _
        rw [hw, h1.2]
        simp
    · rw [if_neg h1]
      have hL : (out ++ [(⟨(p : Int), (p : Int) + 1, (m.getD p 0 == 2)⟩ : RegW)]).length = out.length + 1 := by simp
      refine ⟨by rw [hL]; have := h.len; omega, fun i hi => ?_, fun _ => ?_, fun _ _ => ?_, fun _ _ => ⟨by omega, by simpa using h0⟩⟩
      · rw [hL] at hi
        by_cases e : i = out.length
        · subst e
          refine okR_mk ?_ (fun hn => ?_)
          · rw [regAt_eq]
            simp only [oneR, decide_eq_true_eq]
            refine ⟨?_, ?_, ?_⟩ <;> omega
          · rw [regAt_eq, regAt_lt (by omega)]
            refine nextR_iff.2 ⟨h.last (by omega), fun hf => ?_⟩
            show (regAt out (out.length - 1)).f2 ≠ (m.getD p 0 == 2)
            have hf' : (regAt out (out.length - 1)).f1 = p := hf
            obtain ⟨hp0, hne⟩ := h.off (by omega) hf'
            obtain ⟨_, _, hw⟩ := h.on hp0 hne
            rw [hw]
            have t1 := hm.at_ p
            have t2 := hm.at_ (p - 1)
            have hd : m.getD (p - 1) 0 ≠ m.getD p 0 := fun x => h1 ⟨hp0, x⟩
            generalize m.getD (p - 1) 0 = u at *
            generalize m.getD p 0 = v at *
            rcases t1 with rfl | rfl | rfl <;> rcases t2 with rfl | rfl | rfl <;> simp_all
        · have hi2 : i < out.length := by omega
          have hk := h.ok i hi2
          refine okR_mk ?_ (fun hn => ?_)
          · rw [regAt_lt hi2]; exact okR_one hk
          · rw [regAt_lt hi2, regAt_lt (by omega)]; exact okR_next hk hn
      · rw [hL, Nat.add_sub_cancel, regAt_eq]
        show (p : Int) + 1 ≤ _
        omega
      · rw [hL, Nat.add_sub_cancel, regAt_eq]
        refine ⟨by omega, by show (p : Int) + 1 = _; omega, ?_⟩
        simp
theorem InvF.zero (m : List Int) : InvF m 0 [] := ⟨by simp, fun i hi => by simp at hi, fun h => by simp at h, fun h => by omega, fun h => by simp at h⟩
theorem rdM (m : List Int) (i : Nat) : rd m (i : Int) = m.getD i 0 := by unfold rd; rw [toNat_cast]
theorem wrap_predI {i : Nat} (h0 : 0 < i) (h : i < 9223372036854775807) : wrap64 ((i : Int) - 1) = ((i - 1 : Nat) : Int) := by unfold wrap64; omega
theorem spec_from_ev (m : List Int) (hm : Tri m) : Ev (fun k => spec_l06From.f k m) (fromB m) ∧ InvF m 64 (fromB m) := by
  have hml := hm.1
  refine ev_fold (fun k out i => spec_l06From.l0 k m out (i : Int)) 64 (stepB m) id (InvF m) (fun i out hi hinv => ⟨stepB_inv m hm i hi out hinv, fun r h => ?_⟩) (fun out _ => ?_) [] (InvF.zero m)
  · have hlen := hinv.len
    refine Ev.step (fun k => ?_) h
    simp only [spec_l06From.l0, rdM]
    rw [if_pos (by omega), if_pos (by omega)]
    unfold stepB
    by_cases h0 : m.getD i 0 = 0
    · rw [if_pos h0, if_pos h0, wrap_succ (by omega)]
    · rw [if_neg h0, if_neg h0]
      by_cases hp : 0 < i
      · rw [if_pos (show (i : Int) > 0 by omega), wrap_predI hp (by omega), rdM]
        simp only [if_pos (show (0 : Int) ≤ ((i - 1 : Nat) : Int) by omega), if_pos (show ((i - 1 : Nat) : Int) < (m.length : Int) by omega)]
        by_cases h1 : m.getD (i - 1) 0 = m.getD i 0
        · obtain ⟨hl, _, _⟩ := hinv.on hp (by rw [h1]; exact h0)
          rw [if_pos h1, if_pos (show 0 < i ∧ m.getD (i - 1) 0 = m.getD i 0 from ⟨hp, h1⟩), wrap_predI hl (by omega), rdGW]
          simp only [if_pos (show (0 : Int) ≤ ((out.length - 1 : Nat) : Int) by omega), if_pos (show ((out.length - 1 : Nat) : Int) < (out.length : Int) by omega), toNat_cast, wrap_succ (show i < 9223372036854775807 by omega)]
          rfl
        · rw [if_neg h1, if_neg (show ¬ (0 < i ∧ m.getD (i - 1) 0 = m.getD i 0) from fun x => h1 x.2), if_pos (by omega)]
          simp only [wrap_succ (show i < 9223372036854775807 by omega)]
          rfl
      · rw [if_neg (show ¬ (i : Int) > 0 by omega), if_neg (show ¬ (0 < i ∧ m.getD (i - 1) 0 = m.getD i 0) from fun x => hp x.1), if_pos (by omega)]
        simp only [wrap_succ (show i < 9223372036854775807 by omega)]
        rfl
  · refine Ev.of_succ (fun k => ?_)
    simp only [spec_l06From.l0]
    rw [if_neg (by omega)]
    rfl
def setB (m : List Int) : List RegW × Bool := if (fromB m).length ≤ 12 then (fromB m, true) else ([], false)
theorem impl_from_ev (m : List Int) (hm : Tri m) : Ev (fun k => impl_regionsOf.f k m) (setB m) := by
  have hml := hm.1
  refine (ev_fold (fun k out i => impl_regionsOf.l0 k m out (i : Int)) 64 (stepB m) (fun out => if out.length ≤ 12 then (out, true) else ([], false)) (InvF m) (fun i out hi hinv => ⟨stepB_inv m hm i hi out hinv, fun r h => ?_⟩) (fun out _ => ?_) [] (InvF.zero m)).1
  · have hlen := hinv.len
    refine Ev.step (fun k => ?_) h
    simp only [impl_regionsOf.l0, toNat_cast]
    rw [if_pos (by omega), if_pos (by omega), wrap_succ (by omega)]
    unfold stepB
    by_cases h0 : m.getD i 0 = 0
    · rw [if_pos h0, if_pos h0]
    · rw [if_neg h0, if_neg h0]
      by_cases h1 : 0 < i ∧ m.getD (i - 1) 0 = m.getD i 0
      · obtain ⟨hl, hf, hw⟩ := hinv.on h1.1 (by rw [h1.2]; exact h0)
        rw [if_pos h1, if_pos (show 0 < out.length ∧ (out.getD (out.length - 1) zg).f1 = (i : Int) ∧ (out.getD (out.length - 1) zg).f2 = (m.getD i 0 == 2) from ⟨hl, hf, by rw [← h1.2]; exact hw⟩)]
        rfl
      · rw [if_neg h1, if_neg (fun x => ?_), if_pos (by omega)]
        · rfl
        · obtain ⟨x1, x2, x3⟩ := x
          obtain ⟨hp, hne⟩ := hinv.off x1 x2
          obtain ⟨_, _, hw⟩ := hinv.on hp hne
          have hw' : (out.getD (out.length - 1) zg).f2 = (m.getD (i - 1) 0 == 2) := hw
          change (out.getD (out.length - 1) zg).f2 = (m.getD i 0 == 2) at x3
          rw [hw'] at x3
          refine h1 ⟨hp, ?_⟩
          have t1 := hm.at_ i
          have t2 := hm.at_ (i - 1)
          generalize m.getD (i - 1) 0 = u at *
          generalize m.getD i 0 = v at *
          rcases t1 with rfl | rfl | rfl <;> rcases t2 with rfl | rfl | rfl <;> simp_all
  · refine Ev.of_succ (fun k => ?_)
    simp only [impl_regionsOf.l0]
    rw [if_neg (by omega)]
    by_cases h : out.length ≤ 12
    · rw [if_neg (by omega), if_pos h]
    · rw [if_pos (by omega), if_neg h]
theorem fromB_ok (m : List Int) (hm : Tri m) : regsB (fromB m) = decide ((fromB m).length ≤ 12) := by
  have h := (spec_from_ev m hm).2
  unfold regsB
  rw [List.all_eq_true.2 (fun i hi => h.ok i (List.mem_range.1 hi)), Bool.and_true]
theorem setB_small (m : List Int) : (setB m).1.length ≤ 12 := by
  unfold setB
  by_cases h : (fromB m).length ≤ 12
  · rw [if_pos h]; exact h
  · rw [if_neg h]; simp
theorem spec_set_ev (v : Int) (hv : v = 0 ∨ v = 1 ∨ v = 2) (b : Int) (hb : b ≤ 64) : ∀ (d : Nat) (p : Int) (m : List Int), p + d = b → 0 ≤ p → Tri m →
    Ev (fun k => spec_l06Set.l0 k m b v p) (if (fromB (pnt v d p m)).length ≤ 12 then (fromB (pnt v d p m), true, pnt v d p m) else ([], false, pnt v d p m)) := by
  intro d
  induction d with
  | zero =>
    intro p m hp h0 hm
    have hf := spec_from_ev m hm
    refine Ev.step (f := fun k => (spec_l06From.f k m).bind fun t221 => ((spec_RegionsOk.f k t221).bind fun t224 => (if t224 = true then (some (t221, true, m)) else (some ((([] : List RegW)), false, m))))) (fun k => ?_) (Ev.bind hf.1 (Ev.bind (spec_RegionsOk_ev _ (by have := hf.2.len; omega)) ?_))
    · simp only [spec_l06Set.l0]
      rw [if_neg (by omega)]
    · rw [fromB_ok m hm]
      show Ev _ (if (fromB m).length ≤ 12 then _ else _)
      by_cases h : (fromB m).length ≤ 12
      · simp only [decide_eq_true h, if_true, if_pos h]; exact Ev.now _
      · simp only [decide_eq_false h, Bool.false_eq_true, if_false, if_neg h]; exact Ev.now _
  | succ d ih =>
    intro p m hp h0 hm
    refine Ev.step (fun k => ?_) (ih (p + 1) (m.set p.toNat v) (by omega) (by omega) (hm.set _ hv))
    have := hm.1
    simp only [spec_l06Set.l0]
    rw [if_pos (by omega), if_pos (by omega), if_pos (by omega), wrap64_id (n := p + 1) (by omega) (by omega)]
theorem impl_paint_ev (v : Int) (hv : v = 0 ∨ v = 1 ∨ v = 2) (b : Int) (hb : b ≤ 64) : ∀ (d : Nat) (p : Int) (m : List Int), p + d = b → 0 ≤ p → Tri m → Ev (fun k => impl_painted.l0 k m b v p) (setB (pnt v d p m)) := by
  intro d
  induction d with
  | zero =>
    intro p m hp h0 hm
    refine Ev.step (fun k => ?_) (impl_from_ev m hm)
    simp only [impl_painted.l0]
    rw [if_neg (by omega)]
  | succ d ih =>
    intro p m hp h0 hm
    refine Ev.step (fun k => ?_) (ih (p + 1) (m.set p.toNat v) (by omega) (by omega) (hm.set _ hv))
    simp only [impl_painted.l0]
    rw [if_pos (by omega), if_pos (by omega), if_pos (by omega), wrap64_id (n := p + 1) (by omega) (by omega)]
def paintB (l : List RegW) (a b v : Int) : List RegW × Bool := setB (pnt v (b - a).toNat a (marksB l zer))
theorem painted_ev (l : List RegW) (hl : l.length ≤ 1048576) (h1 : ∀ r ∈ l, oneR r = true) (a b v : Int) (hab : 0 ≤ a ∧ a < b ∧ b ≤ 64) (hv : v = 0 ∨ v = 1 ∨ v = 2) : Ev (fun k => impl_painted.f k l a b v) (paintB l a b v) := by
  unfold impl_painted.f
  exact Ev.bind (impl_pages_ev l hl h1) (impl_paint_ev v hv b hab.2.2 (b - a).toNat a _ (by omega) hab.1 (marksB_tri l zer zer_tri))
theorem l06Set_ev (m : List Int) (hm : Tri m) (a b v : Int) (hab : 0 ≤ a ∧ a < b ∧ b ≤ 64) (hv : v = 0 ∨ v = 1 ∨ v = 2) : ∃ q, Ev (fun k => spec_l06Set.f k m a b v) q ∧ (q.1, q.2.1) = setB (pnt v (b - a).toNat a m) := by
  refine ⟨_, spec_set_ev v hv b hab.2.2 (b - a).toNat a m (by omega) hab.1 hm, ?_⟩
  unfold setB
  split <;> rfl
theorem isSpan_eq (a b : Int) (w : Bool) (hb : (Lit.int .i64 b).wf = true) : impl_isSpan.f a b = some (oneR ⟨a, b, w⟩) := by
  have hb2 := wf_i64 hb
  show _ = some (decide (0 ≤ a ∧ a < b ∧ b ≤ 64))
  unfold impl_isSpan.f
  rw [within_eq]
  by_cases h1 : b ≥ 1
  · rw [if_pos h1, wrap64_id (n := b - 1) (by omega) (by omega)]
    by_cases h2 : b ≤ 64
    · rw [if_pos h2]
      simp only [Option.bind_some]
      congr 1
      exact decide_eq_decide.2 (by constructor <;> intro h <;> omega)
    · rw [if_neg h2, decide_eq_false (show ¬ (0 ≤ a ∧ a < b ∧ b ≤ 64) by omega)]
  · rw [if_neg h1, decide_eq_false (show ¬ (0 ≤ a ∧ a < b ∧ b ≤ 64) by omega)]
def cutB (l : List RegW) (a b : Int) : List RegW × Bool := if regsB l = true ∧ oneR ⟨a, b, false⟩ = true then paintB l a b 0 else ([], false)
theorem paintB_small (l : List RegW) (a b v : Int) : (paintB l a b v).1.length ≤ 12 := setB_small _
theorem spec_Cut_ev (l : List RegW) (hl : l.length ≤ 1048576) (a b : Int) : Ev (fun k => spec_CutRegions.f k l a b) (cutB l a b) := by
  have hno : Ev (fun k => spec_CutRegions.j0 k l a b true) ([], false) := Ev.of_succ (fun k => by simp only [spec_CutRegions.j0, if_true])
  unfold spec_CutRegions.f cutB
  refine Ev.bind (spec_RegionsOk_ev l hl) ?_
  by_cases h : regsB l = true
  · simp only [if_pos h, l06One_eq, Option.bind_some]
    by_cases ho : oneR ⟨a, b, false⟩ = true
    · rw [if_pos ⟨h, ho⟩, ho]
      have hm := marksB_tri l zer zer_tri
      obtain ⟨q, hq, hs⟩ := l06Set_ev (marksB l zer) hm a b 0 (oneR_bd ho) (Or.inl rfl)
      unfold paintB
      rw [← hs]
      refine Ev.step (f := fun k => (spec_l06Marks.f k l).bind fun t241 => ((spec_l06Set.f k t241 a b 0).bind fun bt244 => (some (bt244.1, bt244.2.1)))) (fun k => ?_) (Ev.bind (spec_marks_ev l hl (regsB_one h)) (Ev.bind hq (Ev.now _)))
      simp only [spec_CutRegions.j0, Bool.not_true, Bool.false_eq_true, if_false]
    · rw [if_neg (fun x => ho x.2), Bool.eq_false_iff.2 ho]
      exact hno
  · simp only [if_neg h]
    rw [if_neg (fun x => h x.1)]
    exact hno
theorem impl_Cut_ev (l : List RegW) (hl : l.length ≤ 1048576) (a b : Int) (hb : (Lit.int .i64 b).wf = true) : Ev (fun k => impl_CutRegions.f k l a b) (cutB l a b) := by
  unfold impl_CutRegions.f cutB
  refine Ev.bind (impl_RegionsOk_ev l hl) ?_
  by_cases h : regsB l = true
  · simp only [if_pos h, isSpan_eq a b false hb, Option.bind_some]
    by_cases ho : oneR ⟨a, b, false⟩ = true
    · simp only [if_pos ho]
      rw [if_pos ⟨h, ho⟩]
      exact painted_ev l hl (regsB_one h) a b 0 (oneR_bd ho) (Or.inl rfl)
    · simp only [if_neg ho]
      rw [if_neg (fun x => ho x.2)]
      exact Ev.now _
  · simp only [if_neg h]
    rw [if_neg (fun x => h x.1)]
    exact Ev.now _
theorem cutB_small (l : List RegW) (a b : Int) : (cutB l a b).1.length ≤ 12 := by
  unfold cutB
  split
  · exact paintB_small _ _ _ _
  · simp
def allQ (q : Int → Bool) : Nat → Int → Bool
  | 0, _ => true
  | n + 1, p => q p && allQ q n (p + 1)
def wv (w : Bool) : Int := if w = true then 2 else 1
theorem wv_tri (w : Bool) : wv w = 0 ∨ wv w = 1 ∨ wv w = 2 := by unfold wv; split <;> simp
theorem writeOf_eq (w : Bool) : impl_writeOf.f w = some (wv w) := by unfold impl_writeOf.f wv; split <;> rfl
theorem l06Mark_eq (w : Bool) : spec_l06Mark.f w = some (wv w) := by unfold spec_l06Mark.f wv; split <;> rfl
def chB (l : List RegW) (a b : Int) (w : Bool) (q : Int → Bool) : List RegW × Bool := if regsB l = true ∧ oneR ⟨a, b, false⟩ = true then (if allQ q (b - a).toNat a = true then paintB l a b (wv w) else ([], false)) else ([], false)
theorem chB_small (l : List RegW) (a b : Int) (w : Bool) (q : Int → Bool) : (chB l a b w q).1.length ≤ 12 := by
  unfold chB
  repeat' split
  · exact paintB_small _ _ _ _
  · simp
  · simp
theorem oneR_w (a b : Int) (w w' : Bool) : oneR ⟨a, b, w⟩ = oneR ⟨a, b, w'⟩ := rfl
def nz (m : List Int) (p : Int) : Bool := !decide (rd m p = 0)
theorem spec_change_loop (a b : Int) (w : Bool) (hab : 0 ≤ a ∧ a < b ∧ b ≤ 64) (m : List Int) (hm : Tri m) : ∀ (d : Nat) (p : Int), p + d = b → 0 ≤ p → Ev (fun k => spec_ChangeRegions.l0 k a b w m p) (if allQ (nz m) d p = true then setB (pnt (wv w) (b - a).toNat a m) else ([], false)) := by
  have hml := hm.1
  intro d
  induction d with
  | zero =>
    intro p hp h0
    obtain ⟨q, hq, hs⟩ := l06Set_ev m hm a b (wv w) hab (wv_tri w)
    rw [if_pos (show allQ (nz m) 0 p = true from rfl), ← hs]
    refine Ev.step (f := fun k => (spec_l06Set.f k m a b (wv w)).bind fun bt776 => (some (bt776.1, bt776.2.1))) (fun k => ?_) (Ev.bind hq (Ev.now _))
    simp only [spec_ChangeRegions.l0, l06Mark_eq, Option.bind_some]
    rw [if_neg (by omega)]
  | succ d ih =>
    intro p hp h0
    unfold allQ
    by_cases h : rd m p = 0
    · have : nz m p = false := by simp [nz, h]
      rw [this, Bool.false_and, if_neg (by decide)]
      refine Ev.of_succ (fun k => ?_)
      simp only [spec_ChangeRegions.l0]
      rw [if_pos (by omega), if_pos (by omega), if_pos (by omega), if_pos h]
    · have : nz m p = true := by simp [nz, h]
      rw [this, Bool.true_and]
      refine Ev.step (fun k => ?_) (ih (p + 1) (by omega) (by omega))
      simp only [spec_ChangeRegions.l0]
      rw [if_pos (by omega), if_pos (by omega), if_pos (by omega), if_neg h, wrap64_id (n := p + 1) (by omega) (by omega)]
theorem impl_change_loop (l : List RegW) (hl : l.length ≤ 1048576) (h1 : ∀ r ∈ l, oneR r = true) (a b : Int) (w : Bool) (hab : 0 ≤ a ∧ a < b ∧ b ≤ 64) : ∀ (d : Nat) (p : Int), p + d = b → 0 ≤ p → Ev (fun k => impl_ChangeRegions.l0 k l (marksB l zer) a b (wv w) p) (if allQ (nz (marksB l zer)) d p = true then paintB l a b (wv w) else ([], false)) := by
  intro d
  induction d with
  | zero =>
    intro p hp h0
    rw [if_pos (show allQ (nz (marksB l zer)) 0 p = true from rfl)]
    refine Ev.step (fun k => ?_) (painted_ev l hl h1 a b (wv w) hab (wv_tri w))
    simp only [impl_ChangeRegions.l0]
    rw [if_neg (by omega)]
  | succ d ih =>
    intro p hp h0
    unfold allQ
    by_cases h : rd (marksB l zer) p = 0
    · have : nz (marksB l zer) p = false := by simp [nz, h]
      rw [this, Bool.false_and, if_neg (by decide)]
      refine Ev.of_succ (fun k => ?_)
      simp only [impl_ChangeRegions.l0]
      rw [if_pos (by omega), if_pos (by omega), if_pos (by omega), if_pos (show (marksB l zer).getD p.toNat 0 = 0 from h)]
    · have : nz (marksB l zer) p = true := by simp [nz, h]
      rw [this, Bool.true_and]
      refine Ev.step (fun k => ?_) (ih (p + 1) (by omega) (by omega))
      simp only [impl_ChangeRegions.l0]
      rw [if_pos (by omega), if_pos (by omega), if_pos (by omega), if_neg (show ¬ (marksB l zer).getD p.toNat 0 = 0 from h), wrap64_id (n := p + 1) (by omega) (by omega)]
def changeB (l : List RegW) (a b : Int) (w : Bool) : List RegW × Bool := chB l a b w (nz (marksB l zer))
theorem spec_Change_ev (l : List RegW) (hl : l.length ≤ 1048576) (a b : Int) (w : Bool) : Ev (fun k => spec_ChangeRegions.f k l a b w) (changeB l a b w) := by
  have hno : Ev (fun k => spec_ChangeRegions.j0 k l a b w true) ([], false) := Ev.of_succ (fun k => by simp only [spec_ChangeRegions.j0, if_true])
  unfold spec_ChangeRegions.f changeB chB
  refine Ev.bind (spec_RegionsOk_ev l hl) ?_
  by_cases h : regsB l = true
  · simp only [if_pos h, l06One_eq, Option.bind_some]
    by_cases ho : oneR ⟨a, b, false⟩ = true
    · rw [if_pos ⟨h, ho⟩, ho]
      have hb := oneR_bd ho
      refine Ev.step (f := fun k => (spec_l06Marks.f k l).bind fun t768 => (spec_ChangeRegions.l0 k a b w t768 a)) (fun k => ?_) (Ev.bind (spec_marks_ev l hl (regsB_one h)) (spec_change_loop a b w hb _ (marksB_tri l zer zer_tri) (b - a).toNat a (by have := hb.2.1; change a < b at this; omega) hb.1))
      simp only [spec_ChangeRegions.j0, Bool.not_true, Bool.false_eq_true, if_false]
    · rw [if_neg (fun x => ho x.2), Bool.eq_false_iff.2 ho]
      exact hno
  · simp only [if_neg h]
    rw [if_neg (fun x => h x.1)]
    exact hno
theorem impl_Change_ev (l : List RegW) (hl : l.length ≤ 1048576) (a b : Int) (w : Bool) (hb : (Lit.int .i64 b).wf = true) : Ev (fun k => impl_ChangeRegions.f k l a b w) (changeB l a b w) := by
  unfold impl_ChangeRegions.f changeB chB
  refine Ev.bind (impl_RegionsOk_ev l hl) ?_
  by_cases h : regsB l = true
  · simp only [if_pos h, isSpan_eq a b false hb, Option.bind_some]
    by_cases ho : oneR ⟨a, b, false⟩ = true
    · simp only [if_pos ho]
      rw [if_pos ⟨h, ho⟩]
      have hb := oneR_bd ho
      refine Ev.bind (impl_pages_ev l hl (regsB_one h)) ?_
      simp only [writeOf_eq, Option.bind_some]
      exact impl_change_loop l hl (regsB_one h) a b w hb (b - a).toNat a (by have := hb.2.1; change a < b at this; omega) hb.1
    · simp only [if_neg ho]
      rw [if_neg (fun x => ho x.2)]
      exact Ev.now _
  · simp only [if_neg h]
    rw [if_neg (fun x => h x.1)]
    exact Ev.now _
def zz (m : List Int) (p : Int) : Bool := decide (rd m p = 0)
theorem spec_put_loop (a b : Int) (w : Bool) (hab : 0 ≤ a ∧ a < b ∧ b ≤ 64) (m : List Int) (hm : Tri m) : ∀ (d : Nat) (p : Int), p + d = b → 0 ≤ p → Ev (fun k => spec_PutRegion.l0 k m p a b w) (if allQ (zz m) d p = true then setB (pnt (wv w) (b - a).toNat a m) else ([], false)) := by
  have hml := hm.1
  intro d
  induction d with
  | zero =>
    intro p hp h0
    obtain ⟨q, hq, hs⟩ := l06Set_ev m hm a b (wv w) hab (wv_tri w)
    rw [if_pos (show allQ (zz m) 0 p = true from rfl), ← hs]
    refine Ev.step (f := fun k => (spec_l06Set.f k m a b (wv w)).bind fun bt776 => (some (bt776.1, bt776.2.1))) (fun k => ?_) (Ev.bind hq (Ev.now _))
    simp only [spec_PutRegion.l0, l06Mark_eq, Option.bind_some]
    rw [if_neg (by omega)]
  | succ d ih =>
    intro p hp h0
    unfold allQ
    by_cases h : rd m p = 0
    · have : zz m p = true := by simp [zz, h]
      rw [this, Bool.true_and]
      refine Ev.step (fun k => ?_) (ih (p + 1) (by omega) (by omega))
      simp only [spec_PutRegion.l0]
      rw [if_pos (by omega), if_pos (by omega), if_pos (by omega), if_pos h, wrap64_id (n := p + 1) (by omega) (by omega)]
    · have : zz m p = false := by simp [zz, h]
      rw [this, Bool.false_and, if_neg (by decide)]
      refine Ev.of_succ (fun k => ?_)
      simp only [spec_PutRegion.l0]
      rw [if_pos (by omega), if_pos (by omega), if_pos (by omega), if_neg h]
theorem impl_put_loop (l : List RegW) (hl : l.length ≤ 1048576) (h1 : ∀ r ∈ l, oneR r = true) (a b : Int) (w : Bool) (hab : 0 ≤ a ∧ a < b ∧ b ≤ 64) : ∀ (d : Nat) (p : Int), p + d = b → 0 ≤ p → Ev (fun k => impl_PutRegion.l0 k l (marksB l zer) a b (wv w) p) (if allQ (zz (marksB l zer)) d p = true then paintB l a b (wv w) else ([], false)) := by
  intro d
  induction d with
  | zero =>
    intro p hp h0
    rw [if_pos (show allQ (zz (marksB l zer)) 0 p = true from rfl)]
    refine Ev.step (fun k => ?_) (painted_ev l hl h1 a b (wv w) hab (wv_tri w))
    simp only [impl_PutRegion.l0]
    rw [if_neg (by omega)]
  | succ d ih =>
    intro p hp h0
    unfold allQ
    by_cases h : rd (marksB l zer) p = 0
    · have : zz (marksB l zer) p = true := by simp [zz, h]
      rw [this, Bool.true_and]
      refine Ev.step (fun k => ?_) (ih (p + 1) (by omega) (by omega))
      simp only [impl_PutRegion.l0]
      rw [if_pos (by omega), if_pos (by omega), if_pos (by omega), if_pos (show (marksB l zer).getD p.toNat 0 = 0 from h), wrap64_id (n := p + 1) (by omega) (by omega)]
    · have : zz (marksB l zer) p = false := by simp [zz, h]
      rw [this, Bool.false_and, if_neg (by decide)]
      refine Ev.of_succ (fun k => ?_)
      simp only [impl_PutRegion.l0]
      rw [if_pos (by omega), if_pos (by omega), if_pos (by omega), if_neg (show ¬ (marksB l zer).getD p.toNat 0 = 0 from h)]
def putB (l : List RegW) (a b : Int) (w : Bool) : List RegW × Bool := chB l a b w (zz (marksB l zer))
theorem spec_Put_ev (l : List RegW) (hl : l.length ≤ 1048576) (a b : Int) (w : Bool) : Ev (fun k => spec_PutRegion.f k l a b w) (putB l a b w) := by
  have hno : Ev (fun k => spec_PutRegion.j0 k l true a b w) ([], false) := Ev.of_succ (fun k => by simp only [spec_PutRegion.j0, if_true])
  unfold spec_PutRegion.f putB chB
  refine Ev.bind (spec_RegionsOk_ev l hl) ?_
  by_cases h : regsB l = true
  · simp only [if_pos h, l06One_eq, Option.bind_some]
    rw [oneR_w a b w false]
    by_cases ho : oneR ⟨a, b, false⟩ = true
    · rw [if_pos ⟨h, ho⟩, ho]
      have hb := oneR_bd ho
      refine Ev.step (f := fun k => (spec_l06Marks.f k l).bind fun t768 => (spec_PutRegion.l0 k t768 a a b w)) (fun k => ?_) (Ev.bind (spec_marks_ev l hl (regsB_one h)) (spec_put_loop a b w hb _ (marksB_tri l zer zer_tri) (b - a).toNat a (by have := hb.2.1; change a < b at this; omega) hb.1))
      simp only [spec_PutRegion.j0, Bool.not_true, Bool.false_eq_true, if_false]
    · rw [if_neg (fun x => ho x.2), Bool.eq_false_iff.2 ho]
      exact hno
  · simp only [if_neg h]
    rw [if_neg (fun x => h x.1)]
    exact hno
theorem impl_Put_ev (l : List RegW) (hl : l.length ≤ 1048576) (a b : Int) (w : Bool) (hb : (Lit.int .i64 b).wf = true) : Ev (fun k => impl_PutRegion.f k l a b w) (putB l a b w) := by
  unfold impl_PutRegion.f putB chB
  refine Ev.bind (impl_RegionsOk_ev l hl) ?_
  by_cases h : regsB l = true
  · simp only [if_pos h, isSpan_eq a b false hb, Option.bind_some]
    by_cases ho : oneR ⟨a, b, false⟩ = true
    · simp only [if_pos ho]
      rw [if_pos ⟨h, ho⟩]
      have hb := oneR_bd ho
      refine Ev.bind (impl_pages_ev l hl (regsB_one h)) ?_
      simp only [writeOf_eq, Option.bind_some]
      exact impl_put_loop l hl (regsB_one h) a b w hb (b - a).toNat a (by have := hb.2.1; change a < b at this; omega) hb.1
    · simp only [if_neg ho]
      rw [if_neg (fun x => ho x.2)]
      exact Ev.now _
  · simp only [if_neg h]
    rw [if_neg (fun x => h x.1)]
    exact Ev.now _
def allowB (l : List RegW) (p : Int) : Bool × Bool := if regsB l = true ∧ 0 ≤ p ∧ p ≤ 63 then (decide ((marksB l zer).getD p.toNat 0 > 0), ((marksB l zer).getD p.toNat 0 == 2)) else (false, false)
theorem spec_Allowed_ev (l : List RegW) (hl : l.length ≤ 1048576) (p : Int) : Ev (fun k => spec_Allowed.f k l p) (allowB l p) := by
  unfold spec_Allowed.f allowB
  refine Ev.bind (spec_RegionsOk_ev l hl) ?_
  by_cases h : regsB l = true
  · simp only [if_pos h, l01In_eq, Option.bind_some]
    by_cases hp : 0 ≤ p ∧ p ≤ 63
    · simp only [decide_eq_true hp, if_true, if_pos (show regsB l = true ∧ 0 ≤ p ∧ p ≤ 63 from ⟨h, hp⟩)]
      refine Ev.bind (spec_marks_ev l hl (regsB_one h)) ?_
      have ht := (marksB_tri l zer zer_tri).1
      simp only [if_pos hp.1, if_pos (show p < ((marksB l zer).length : Int) by omega)]
      exact Ev.now _
    · simp only [decide_eq_false hp, Bool.false_eq_true, if_false, if_neg (show ¬ (regsB l = true ∧ 0 ≤ p ∧ p ≤ 63) from fun x => hp x.2)]; exact Ev.now _
  · simp only [if_neg h, if_neg (show ¬ (regsB l = true ∧ 0 ≤ p ∧ p ≤ 63) from fun x => h x.1)]; exact Ev.now _
theorem impl_Allowed_ev (l : List RegW) (hl : l.length ≤ 1048576) (p : Int) : Ev (fun k => impl_Allowed.f k l p) (allowB l p) := by
  unfold impl_Allowed.f allowB
  refine Ev.bind (impl_RegionsOk_ev l hl) ?_
  by_cases h : regsB l = true
  · simp only [if_pos h, within_eq, Option.bind_some]
    by_cases hp : 0 ≤ p ∧ p ≤ 63
    · simp only [decide_eq_true hp, if_true, if_pos (show regsB l = true ∧ 0 ≤ p ∧ p ≤ 63 from ⟨h, hp⟩)]
      refine Ev.bind (impl_pages_ev l hl (regsB_one h)) ?_
      simp only [if_pos hp.1, if_pos (show p < 64 by omega)]
      exact Ev.now _
    · simp only [decide_eq_false hp, Bool.false_eq_true, if_false, if_neg (show ¬ (regsB l = true ∧ 0 ≤ p ∧ p ≤ 63) from fun x => hp x.2)]; exact Ev.now _
  · simp only [if_neg h, if_neg (show ¬ (regsB l = true ∧ 0 ≤ p ∧ p ≤ 63) from fun x => h x.1)]; exact Ev.now _
theorem getD_set_ (m : List Int) (j i : Nat) (v : Int) (h : j < m.length) : (m.set j v).getD i 0 = if i = j then v else m.getD i 0 := by
  rw [List.getD_eq_getElem?_getD, List.getD_eq_getElem?_getD]
  by_cases e : i = j
  · subst e; rw [if_pos rfl, List.getElem?_set_self h]; rfl
  · rw [if_neg e, List.getElem?_set_ne (by omega)]
theorem pnt_snoc (v : Int) : ∀ (n : Nat) (p : Int) (m : List Int), pnt v (n + 1) p m = (pnt v n p m).set (p + (n : Int)).toNat v := by
  intro n
  induction n with
  | zero => intro p m; simp only [pnt]; rw [show p + ((0 : Nat) : Int) = p by omega]
  | succ n ih =>
    intro p m
    rw [pnt, ih, pnt, show p + 1 + (n : Int) = p + ((n + 1 : Nat) : Int) by omega]
theorem pnt_getD (v : Int) : ∀ (n : Nat) (p : Int) (m : List Int) (i : Nat), 0 ≤ p → p + n ≤ m.length → (pnt v n p m).getD i 0 = if p ≤ i ∧ (i : Int) < p + n then v else m.getD i 0 := by
  intro n
  induction n with
  | zero => intro p m i h0 h1; rw [if_neg (by omega)]; rfl
  | succ n ih =>
    intro p m i h0 h1
    rw [pnt, ih _ _ _ (by omega) (by rw [List.length_set]; omega), getD_set_ _ _ _ _ (by omega)]
    by_cases h2 : p + 1 ≤ (i : Int) ∧ (i : Int) < p + 1 + n
    · rw [if_pos h2, if_pos (by omega)]
    · rw [if_neg h2]
      by_cases h3 : i = p.toNat
      · rw [if_pos h3, if_pos (by omega)]
      · rw [if_neg h3, if_neg (by omega)]
theorem marksB_snoc (r : RegW) : ∀ (l : List RegW) (m : List Int), marksB (l ++ [r]) m = pnt (mkR r) (r.f1 - r.f0).toNat r.f0 (marksB l m) := by
  intro l
  induction l with
  | nil => intro m; rfl
  | cons x l ih => intro m; exact ih _
theorem zer_getD (i : Nat) : zer.getD i 0 = 0 := by
  unfold zer
  rw [List.getD_eq_getElem?_getD, List.getElem?_replicate]
  split <;> rfl
def InvB (m : List Int) (p : Nat) (out : List RegW) : Prop := ∀ i, i < 64 → (marksB out zer).getD i 0 = if i < p then m.getD i 0 else 0
theorem mkR_of {v : Int} (h : v = 0 ∨ v = 1 ∨ v = 2) (h0 : ¬ v = 0) (a b : Int) : mkR ⟨a, b, (v == 2)⟩ = v := by
  rcases h with rfl | rfl | rfl
  · exact absurd rfl h0
  · rfl
  · rfl
theorem stepB_back (m : List Int) (hm : Tri m) (p : Nat) (hp : p < 64) (out : List RegW) (h : InvF m p out) (g : InvB m p out) : InvB m (p + 1) (stepB m out p) := by
  intro i hi
  have hM : (marksB out zer).length = 64 := (marksB_tri out zer zer_tri).1
  unfold stepB
  by_cases h0 : m.getD p 0 = 0
  · rw [if_pos h0, g i hi]
    by_cases e : i = p
    · subst e; rw [if_neg (by omega), if_pos (by omega), h0]
    · by_cases e2 : i < p
      · rw [if_pos e2, if_pos (by omega)]
      · rw [if_neg e2, if_neg (by omega)]
  · rw [if_neg h0]
    by_cases h1 : 0 < p ∧ m.getD (p - 1) 0 = m.getD p 0
    · rw [if_pos h1]
      obtain ⟨hl, hf, hw⟩ := h.on h1.1 (by rw [h1.2]; exact h0)
      have hone := oneR_bd (okR_one (h.ok (out.length - 1) (by omega)))
      obtain ⟨pre, z, rfl⟩ : ∃ pre z, out = pre ++ [z] := ⟨out.dropLast, out.getLast (by intro e; rw [e] at hl; simp at hl), (List.dropLast_concat_getLast _).symm⟩
      have hr : (pre ++ [z]).length - 1 = pre.length := by simp
      rw [hr] at hf hw hone ⊢
      rw [regAt_eq] at hf hw hone
      have hz : (pre ++ [z]).getD pre.length zg = z := regAt_eq
      rw [hz]
      have hset : ∀ y : RegW, (pre ++ [z]).set pre.length y = pre ++ [y] := fun y => by simp [List.set_append]
      rw [hset, marksB_snoc]
      show (pnt (mkR ⟨z.f0, (p : Int) + 1, z.f2⟩) ((p : Int) + 1 - z.f0).toNat z.f0 (marksB pre zer)).getD i 0 = _
      have hmk : mkR ⟨z.f0, (p : Int) + 1, z.f2⟩ = mkR z := rfl
      rw [hmk, show ((p : Int) + 1 - z.f0).toNat = ((p : Int) - z.f0).toNat + 1 by omega, pnt_snoc, show (z.f0 + ((((p : Int) - z.f0).toNat : Nat) : Int)).toNat = p by omega]
      have hb : pnt (mkR z) ((p : Int) - z.f0).toNat z.f0 (marksB pre zer) = marksB (pre ++ [z]) zer := by rw [marksB_snoc, hf]
      rw [hb, getD_set_ _ _ _ _ (by omega)]
      by_cases e : i = p
      · subst e
        rw [if_pos rfl, if_pos (by omega)]
        have hv : mkR z = mkR ⟨z.f0, z.f1, (m.getD i 0 == 2)⟩ := by unfold mkR; rw [hw, h1.2]
        rw [hv]
        exact mkR_of (hm.at_ i) h0 _ _
      · rw [if_neg e, g i hi]
        by_cases e2 : i < p
        · rw [if_pos e2, if_pos (by omega)]
        · rw [if_neg e2, if_neg (by omega)]
    · rw [if_neg h1, marksB_snoc]
      show (pnt (mkR ⟨(p : Int), (p : Int) + 1, (m.getD p 0 == 2)⟩) ((p : Int) + 1 - (p : Int)).toNat (p : Int) (marksB out zer)).getD i 0 = _
      rw [mkR_of (hm.at_ p) h0, show ((p : Int) + 1 - (p : Int)).toNat = 1 by omega, pnt_getD _ _ _ _ _ (by omega) (by omega)]
      by_cases e : i = p
      · subst e; rw [if_pos (by omega), if_pos (by omega)]
      · rw [if_neg (by omega), g i hi]
        by_cases e2 : i < p
        · rw [if_pos e2, if_pos (by omega)]
        · rw [if_neg e2, if_neg (by omega)]
def cnt (f : Nat → Bool) : Nat → Nat
  | 0 => 0
  | n + 1 => cnt f n + (if f n = true then 1 else 0)
def stt_ (m : List Int) (p : Nat) : Bool := decide (¬ m.getD p 0 = 0 ∧ ¬ (0 < p ∧ m.getD (p - 1) 0 = m.getD p 0))
theorem fromB_all (m : List Int) (hm : Tri m) : ∀ n, n ≤ 64 → InvF m n ((List.range n).foldl (stepB m) []) ∧ InvB m n ((List.range n).foldl (stepB m) []) ∧ ((List.range n).foldl (stepB m) []).length ≤ cnt (stt_ m) n := by
  intro n
  induction n with
  | zero =>
    intro _
    refine ⟨InvF.zero m, fun i hi => ?_, Nat.le_refl _⟩
    rw [if_neg (by omega)]
    exact zer_getD i
  | succ n ih =>
    intro hn
    obtain ⟨h1, h2, h3⟩ := ih (by omega)
    rw [List.range_succ, List.foldl_append, List.foldl_cons, List.foldl_nil]
    generalize (List.range n).foldl (stepB m) [] = out at *
    refine ⟨stepB_inv m hm n (by omega) out h1, stepB_back m hm n (by omega) out h1 h2, ?_⟩
    show _ ≤ cnt (stt_ m) n + (if stt_ m n = true then 1 else 0)
    have hs : stt_ m n = decide (¬ m.getD n 0 = 0 ∧ ¬ (0 < n ∧ m.getD (n - 1) 0 = m.getD n 0)) := rfl
    unfold stepB
    by_cases e0 : m.getD n 0 = 0
    · rw [if_pos e0]; omega
    · rw [if_neg e0]
      by_cases e1 : 0 < n ∧ m.getD (n - 1) 0 = m.getD n 0
      · rw [if_pos e1, List.length_set]; omega
      · rw [if_neg e1, hs, decide_eq_true (show ¬ m.getD n 0 = 0 ∧ ¬ (0 < n ∧ m.getD (n - 1) 0 = m.getD n 0) from ⟨e0, e1⟩), if_pos rfl]
        simp only [List.length_append, List.length_cons, List.length_nil]
        omega
theorem back (m : List Int) (hm : Tri m) : marksB (fromB m) zer = m := by
  have hM : (marksB (fromB m) zer).length = 64 := (marksB_tri (fromB m) zer zer_tri).1
  have h := (fromB_all m hm 64 (Nat.le_refl _)).2.1
  refine List.ext_getElem (by rw [hM, hm.1]) (fun i h1 h2 => ?_)
  have hi := h i (by omega)
  change (marksB (fromB m) zer).getD i 0 = _ at hi
  rw [if_pos (by omega), List.getD_eq_getElem?_getD, List.getD_eq_getElem?_getD, List.getElem?_eq_getElem h1, List.getElem?_eq_getElem h2] at hi
  exact hi
theorem cnt_le {f g : Nat → Bool} (a b : Nat) : ∀ n, (∀ i, i < n → f i = true → g i = true ∨ i = a ∨ i = b) → cnt f n ≤ cnt g n + (if a < n then 1 else 0) + (if b < n then 1 else 0) := by
  intro n
  induction n with
  | zero => intro _; simp [cnt]
  | succ n ih =>
    intro h
    have hh := ih (fun i hi => h i (by omega))
    have hn := h n (by omega)
    simp only [cnt]
    by_cases hf : f n = true
    · rw [if_pos hf]
      rcases hn hf with hg | e | e
      · rw [if_pos hg]; split at hh <;> split at hh <;> split <;> split <;> omega
      · subst e
        rw [if_neg (show ¬ n < n by omega)] at hh
        rw [if_pos (show n < n + 1 by omega)]
        split at hh <;> split <;> split <;> omega
      · subst e
        rw [if_neg (show ¬ n < n by omega)] at hh
        rw [if_pos (show n < n + 1 by omega)]
        split at hh <;> split <;> split <;> omega
    · rw [if_neg hf]
      split at hh <;> split at hh <;> split <;> split <;> split <;> omega
theorem cnt_pnt (v : Int) (n : Nat) (a : Nat) (m : List Int) (hm : m.length = 64) (ha : a + n ≤ 64) : cnt (stt_ (pnt v n (a : Int) m)) 64 ≤ cnt (stt_ m) 64 + 2 := by
  have h := cnt_le (f := stt_ (pnt v n (a : Int) m)) (g := stt_ m) a (a + n) 64 (fun i hi hf => ?_)
  · split at h <;> split at h <;> omega
  · unfold stt_ at hf ⊢
    have hf := of_decide_eq_true hf
    rw [pnt_getD _ _ _ _ i (by omega) (by omega), pnt_getD _ _ _ _ (i - 1) (by omega) (by omega)] at hf
    by_cases e1 : i = a
    · exact Or.inr (Or.inl e1)
    by_cases e2 : i = a + n
    · exact Or.inr (Or.inr e2)
    refine Or.inl (decide_eq_true ?_)
    by_cases e3 : a < i ∧ i < a + n
    · rw [if_pos (by omega), if_pos (by omega)] at hf
      exact absurd ⟨by omega, rfl⟩ hf.2
    · rw [if_neg (by omega)] at hf
      by_cases e4 : 0 < i
      · rw [if_neg (by omega)] at hf
        exact hf
      · exact ⟨hf.1, fun x => e4 x.1⟩
theorem fromB_short {m : List Int} (hm : Tri m) (h : cnt (stt_ m) 64 ≤ 8) : regsB (fromB m) = true := by
  have := (fromB_all m hm 64 (Nat.le_refl _)).2.2
  rw [fromB_ok m hm]
  exact decide_eq_true (by change (fromB m).length ≤ _ at this; omega)
theorem l01Byte_ends (l : List Int) (hl : l.length ≤ 9223372036854775806) (i h : Int) (h0 : 0 ≤ i) (h1 : i ≤ l.length) :
    ∃ x i' h', spec_l01Byte.f l i h = some (x, i', h') ∧ 0 ≤ x ∧ x < 256 ∧ 0 ≤ i' ∧ i' ≤ l.length := by
  unfold spec_l01Byte.f
  by_cases hi : i < (l.length : Int)
  · rw [if_pos hi, if_pos h0]
    refine ⟨_, _, _, rfl, ?_, ?_, ?_, ?_⟩
    · rw [and255]; omega
    · rw [and255]; omega
    · rw [wrap64_id (by omega) (by omega)]; omega
    · rw [wrap64_id (by omega) (by omega)]; omega
  · rw [if_neg hi]
    refine ⟨_, _, _, rfl, ?_, ?_, h0, h1⟩
    · rw [and255]; omega
    · rw [and255]; omega
theorem l01Below_ends (l : List Int) (hl : l.length ≤ 9223372036854775806) (i h n : Int) (h0 : 0 ≤ i) (h1 : i ≤ l.length) :
    ∃ x i' h', spec_l01Below.f l i h n = some (x, i', h') ∧ 0 ≤ x ∧ (0 < n → x < n) ∧ (n ≤ 0 → x = 0) ∧ 0 ≤ i' ∧ i' ≤ l.length := by
  unfold spec_l01Below.f
  by_cases hn : n ≤ 0
  · rw [if_pos hn]
    exact ⟨_, _, _, rfl, by omega, by omega, fun _ => rfl, h0, h1⟩
  · rw [if_neg hn]
    obtain ⟨x, i1, g1, e1, a1, b1, c1, d1⟩ := l01Byte_ends l hl i h h0 h1
    by_cases h256 : n ≤ 256
    · rw [if_pos h256, e1]
      simp only [Option.bind_some]
      rw [if_neg (by omega)]
      refine ⟨_, _, _, rfl, ?_, ?_, by omega, c1, d1⟩
      · rw [tmod_nonneg a1 (by omega)]; exact Int.emod_nonneg _ (by omega)
      · intro hp; rw [tmod_nonneg a1 (by omega)]; exact Int.emod_lt_of_pos _ hp
    · rw [if_neg h256, e1]
      simp only [Option.bind_some]
      obtain ⟨y, i2, g2, e2, a2, b2, c2, d2⟩ := l01Byte_ends l hl i1 g1 c1 d1
      rw [e2]; simp only [Option.bind_some]
      obtain ⟨z, i3, g3, e3, a3, b3, c3, d3⟩ := l01Byte_ends l hl i2 g2 c2 d2
      rw [e3]; simp only [Option.bind_some]
      obtain ⟨t, i4, g4, e4, a4, b4, c4, d4⟩ := l01Byte_ends l hl i3 g3 c3 d3
      rw [e4]; simp only [Option.bind_some]
      rw [if_neg (by omega)]
      have hnn : 0 ≤ wrap64 ((wrap64 ((wrap64 ((wrap64 (x * 16777216)) + (wrap64 (y * 65536)))) + (wrap64 (z * 256)))) + t) := by unfold wrap64; omega
      refine ⟨_, _, _, rfl, ?_, ?_, by omega, c4, d4⟩
      · rw [tmod_nonneg hnn (by omega)]; exact Int.emod_nonneg _ (by omega)
      · intro hp; rw [tmod_nonneg hnn (by omega)]; exact Int.emod_lt_of_pos _ hp
theorem l01New_ends (l : List Int) (hl : l.length ≤ 9223372036854775806) : ∃ h, Ev (fun k => spec_l01New.f k l) (l, 0, h) := by
  have key : ∀ (d i : Nat) (h : Int), i + d = l.length → ∃ h', Ev (fun k => spec_l01New.l0 k l h (i : Int)) (l, 0, h') := by
    intro d
    induction d with
    | zero =>
      intro i h hi
      refine ⟨h, 1, fun n hn => ?_⟩
      obtain ⟨m, rfl⟩ : ∃ m, n = m + 1 := ⟨n - 1, by omega⟩
      show spec_l01New.l0 (m + 1) _ _ _ = _
      simp only [spec_l01New.l0]
      rw [if_neg (by omega)]
    | succ d ih =>
      intro i h hi
      by_cases h4 : (i : Int) < 4000
      · obtain ⟨h', he⟩ := ih (i + 1) (Go.bits .and .i64 (wrap64 ((wrap64 ((wrap64 (h * 131)) + (wrap64 (rd l (i : Int))))) + 7)) 1073741823) (by omega)
        refine ⟨h', Ev.step (fun k => ?_) he⟩
        show spec_l01New.l0 (k + 1) _ _ _ = _
        simp only [spec_l01New.l0]
        rw [if_pos (by omega), if_pos h4, if_pos (by omega), show wrap64 ((i : Int) + 1) = ((i + 1 : Nat) : Int) from by unfold wrap64; omega]
      · refine ⟨h, 1, fun n hn => ?_⟩
        obtain ⟨m, rfl⟩ : ∃ m, n = m + 1 := ⟨n - 1, by omega⟩
        show spec_l01New.l0 (m + 1) _ _ _ = _
        simp only [spec_l01New.l0]
        rw [if_pos (by omega), if_neg h4]
  obtain ⟨h', he⟩ := key l.length 0 (wrap64 (10901 + (l.length : Int))) (by omega)
  exact ⟨h', he⟩
theorem places_ends (l : List Int) (hl : l.length ≤ 9223372036854775806) : ∃ out, Ev (fun k => spec_DrawPlaces.f k l) out ∧ out.length = 12 ∧ ∀ y ∈ out, 0 ≤ y ∧ y < 10000 := by
  have key : ∀ (d i : Nat) (acc : List Int) (j h : Int), i + d = 12 → acc.length = i → (∀ y ∈ acc, 0 ≤ y ∧ y < 10000) → 0 ≤ j → j ≤ l.length →
      ∃ out, Ev (fun k => spec_DrawPlaces.l0 k acc (i : Int) l j h) out ∧ out.length = 12 ∧ ∀ y ∈ out, 0 ≤ y ∧ y < 10000 := by
    intro d
    induction d with
    | zero =>
      intro i acc j h hi ha hy _ _
      refine ⟨acc, Ev.of_succ (fun k => ?_), by omega, hy⟩
      simp only [spec_DrawPlaces.l0]
      rw [if_neg (by omega)]
    | succ d ih =>
      intro i acc j h hi ha hy h0 h1
      obtain ⟨x, i1, g1, e1, a1, b1, _, c1, d1⟩ := l01Below_ends l hl j h 10000 h0 h1
      obtain ⟨out, h2, h3, h4⟩ := ih (i + 1) (acc ++ [x]) i1 g1 (by omega) (by simp [ha]) (by
        intro y hm
        rcases List.mem_append.1 hm with hm | hm
        · exact hy y hm
        · rw [List.mem_singleton] at hm
          subst hm
          exact ⟨a1, b1 (by omega)⟩) c1 d1
      refine ⟨out, Ev.step (fun k => ?_) h2, h3, h4⟩
      simp only [spec_DrawPlaces.l0]
      rw [if_pos (by omega), e1]
      simp only [Option.bind_some]
      rw [if_pos (by omega), wrap_succ (by omega)]
  obtain ⟨g0, e0⟩ := l01New_ends l hl
  obtain ⟨x, i1, g1, e1, a1, b1, c1, d1⟩ := l01Byte_ends l hl 0 g0 (by omega) (by omega)
  obtain ⟨out, h2, h3⟩ := key 12 0 [] i1 g1 rfl rfl (by intro y hy; cases hy) c1 d1
  refine ⟨out, ?_, h3⟩
  unfold spec_DrawPlaces.f
  refine Ev.bind e0 ?_
  rw [e1]
  exact h2
theorem draw_paint (l : List Int) (v : Int) (hv : v = 0 ∨ v = 1 ∨ v = 2) (a : Int) (ha : 0 ≤ a ∧ a < 60) (i j h : Int) (r : List RegW) : ∀ (d : Nat) (p : Int) (m : List Int), Tri m → 0 ≤ p → (p + d = a + 6 ∧ a + 6 ≤ 64 ∨ p + d = 64 ∧ 64 ≤ a + 6) →
    Ev (fun k => spec_DrawRightRegions.l0 k (pnt v d p m) (wrap64 (i + 1)) l j h) r → Ev (fun k => spec_DrawRightRegions.l1 k m i a v p l j h) r := by
  intro d
  induction d with
  | zero =>
    intro p m hm hp hd he
    refine Ev.step (fun k => ?_) he
    simp only [spec_DrawRightRegions.l1]
    rw [wrap64_id (n := a + 6) (by omega) (by omega)]
    rcases hd with ⟨h1, h2⟩ | ⟨h1, h2⟩
    · rw [if_neg (by omega)]; rfl
    · by_cases h3 : p < a + 6
      · rw [if_pos h3, if_neg (by omega)]; rfl
      · rw [if_neg h3]; rfl
  | succ d ih =>
    intro p m hm hp hd he
    have hml := hm.1
    refine Ev.step (fun k => ?_) (ih (p + 1) (m.set p.toNat v) (hm.set _ hv) (by omega) (by omega) he)
    simp only [spec_DrawRightRegions.l1]
    rw [wrap64_id (n := a + 6) (by omega) (by omega), if_pos (by omega), if_pos (by omega), if_pos (by omega), if_pos (by omega), wrap64_id (n := p + 1) (by omega) (by omega)]
theorem draw_rounds (l : List Int) (hl : l.length ≤ 9223372036854775806) : ∀ (d : Nat) (i : Int) (m : List Int) (j h : Int), i + d = 4 → 0 ≤ i → Tri m → (cnt (stt_ m) 64 : Int) ≤ 2 * i → 0 ≤ j → j ≤ l.length →
    ∃ M, Ev (fun k => spec_DrawRightRegions.l0 k m i l j h) (fromB M) ∧ Tri M ∧ cnt (stt_ M) 64 ≤ 8 := by
  intro d
  induction d with
  | zero =>
    intro i m j h hd h0 hm hc hj0 hj1
    obtain ⟨x, i1, g1, e1, a1, b1, _, c1, d1⟩ := l01Below_ends l hl j h 5 hj0 hj1
    refine ⟨m, ?_, hm, by omega⟩
    refine Ev.step (fun k => ?_) (Ev.bind (spec_from_ev m hm).1 (Ev.now _))
    simp only [spec_DrawRightRegions.l0]
    rw [e1]
    simp only [Option.bind_some]
    rw [if_neg (by have := b1 (by omega); omega)]
  | succ d ih =>
    intro i m j h hd h0 hm hc hj0 hj1
    obtain ⟨x, i1, g1, e1, a1, b1, _, c1, d1⟩ := l01Below_ends l hl j h 5 hj0 hj1
    by_cases hx : i < x
    · obtain ⟨y, i2, g2, e2, a2, b2, _, c2, d2⟩ := l01Below_ends l hl i1 g1 60 c1 d1
      obtain ⟨z, i3, g3, e3, a3, b3, _, c3, d3⟩ := l01Below_ends l hl i2 g2 2 c2 d2
      have hb2 := b2 (by omega)
      have hb3 := b3 (by omega)
      have hw : wrap64 (1 + z) = 1 + z := wrap64_id (by omega) (by omega)
      have hv : (1 + z = 0 ∨ 1 + z = 1 ∨ 1 + z = 2) := by omega
      obtain ⟨n, hn⟩ : ∃ n : Nat, (y + n = y + 6 ∧ y + 6 ≤ 64 ∨ y + n = 64 ∧ 64 ≤ y + 6) := by
        by_cases h6 : y + 6 ≤ 64
        · exact ⟨6, Or.inl ⟨by omega, h6⟩⟩
        · exact ⟨(64 - y).toNat, Or.inr ⟨by omega, by omega⟩⟩
      have hcn := cnt_pnt (1 + z) n y.toNat m hm.1 (by omega)
      rw [show ((y.toNat : Nat) : Int) = y by omega] at hcn
      obtain ⟨M, hM, ht, hC⟩ := ih (i + 1) (pnt (1 + z) n y m) i3 g3 (by omega) (by omega) (pnt_tri hv _ _ _ hm) (by omega) c3 d3
      refine ⟨M, ?_, ht, hC⟩
      refine Ev.step (fun k => ?_) (draw_paint l (1 + z) hv y ⟨a2, hb2⟩ i i3 g3 (fromB M) n y m hm a2 hn (by rw [wrap64_id (n := i + 1) (by omega) (by omega)]; exact hM))
      simp only [spec_DrawRightRegions.l0]
      rw [e1]
      simp only [Option.bind_some]
      rw [if_pos hx, e2]
      simp only [Option.bind_some]
      rw [e3]
      simp only [Option.bind_some]
      rw [hw]
    · refine ⟨m, ?_, hm, by omega⟩
      refine Ev.step (fun k => ?_) (Ev.bind (spec_from_ev m hm).1 (Ev.now _))
      simp only [spec_DrawRightRegions.l0]
      rw [e1]
      simp only [Option.bind_some]
      rw [if_neg hx]
theorem cnt_zer : ∀ n, cnt (stt_ zer) n = 0 := by
  intro n
  induction n with
  | zero => rfl
  | succ n ih =>
    simp only [cnt, ih]
    have : zer.getD n 0 = 0 := zer_getD n
    unfold stt_
    rw [decide_eq_false (fun x => x.1 this)]
    rfl
theorem rightRegions_ends (l : List Int) (hl : l.length ≤ 9223372036854775806) : ∃ M, Ev (fun k => spec_DrawRightRegions.f k l) (fromB M) ∧ Tri M ∧ regsB (fromB M) = true := by
  obtain ⟨g0, e0⟩ := l01New_ends l hl
  obtain ⟨M, hM, ht, hC⟩ := draw_rounds l hl 4 0 zer 0 g0 (by omega) (by omega) zer_tri (by rw [cnt_zer]; omega) (by omega) (by omega)
  refine ⟨M, ?_, ht, fromB_short ht hC⟩
  unfold spec_DrawRightRegions.f
  refine Ev.bind e0 ?_
  simp only [if_pos (show (64 : Nat) ≤ 35184372088832 by omega)]
  exact hM

theorem painted_good (M : List Int) (hM : Tri M) (hr : regsB (fromB M) = true) (a b v : Int) (hab : 0 ≤ a ∧ a < b ∧ b ≤ 64) (hv : v = 0 ∨ v = 1 ∨ v = 2) (p : Nat) (hp : p < 64) (h : (paintB (fromB M) a b v).2 = true) :
    regsB (paintB (fromB M) a b v).1 = true ∧ allowB (paintB (fromB M) a b v).1 p = (decide ((if a ≤ p ∧ (p : Int) < b then v else M.getD p 0) > 0), ((if a ≤ p ∧ (p : Int) < b then v else M.getD p 0) == 2)) := by
  have hP : Tri (pnt v (b - a).toNat a M) := pnt_tri hv _ _ _ hM
  have hg := pnt_getD v (b - a).toNat a M p hab.1 (by have := hM.1; omega)
  rw [show a + (((b - a).toNat : Nat) : Int) = b by omega] at hg
  unfold paintB at h ⊢
  rw [back M hM] at h ⊢
  generalize pnt v (b - a).toNat a M = P at *
  unfold setB at h ⊢
  by_cases h1 : (fromB P).length ≤ 12
  · rw [if_pos h1] at h ⊢
    have h2 : regsB (fromB P) = true := by rw [fromB_ok P hP]; exact decide_eq_true h1
    refine ⟨h2, ?_⟩
    unfold allowB
    rw [if_pos ⟨h2, by omega, by omega⟩, back P hP]
    simp only [toNat_cast]
    rw [hg]
  · rw [if_neg h1] at h; cases h
theorem allQ_at (q : Int → Bool) : ∀ (n : Nat) (a p : Int), allQ q n a = true → a ≤ p → p < a + n → q p = true := by
  intro n
  induction n with
  | zero => intro a p _ h1 h2; omega
  | succ n ih =>
    intro a p h h1 h2
    unfold allQ at h
    rw [Bool.and_eq_true] at h
    by_cases e : p = a
    · rw [e]; exact h.1
    · exact ih (a + 1) p h.2 (by omega) (by omega)
def insB (a b : Int) (p : Nat) : Bool := decide (a ≤ p ∧ (p : Int) < b)
theorem put_good (M : List Int) (hM : Tri M) (hr : regsB (fromB M) = true) (a b : Int) (w : Bool) (hab : 0 ≤ a ∧ a < b ∧ b ≤ 64) (p : Nat) (hp : p < 64) (h : (putB (fromB M) a b w).2 = true) :
    regsB (putB (fromB M) a b w).1 = true ∧ allowB (putB (fromB M) a b w).1 p = ((decide (M.getD p 0 > 0) || insB a b p), ((M.getD p 0 == 2) || (insB a b p && w))) := by
  unfold putB chB at h ⊢
  rw [if_pos (show regsB (fromB M) = true ∧ oneR ⟨a, b, false⟩ = true from ⟨hr, decide_eq_true hab⟩), back M hM] at h ⊢
  by_cases hq : allQ (zz M) (b - a).toNat a = true
  · rw [if_pos hq] at h ⊢
    obtain ⟨h1, h2⟩ := painted_good M hM hr a b (wv w) hab (wv_tri w) p hp h
    refine ⟨h1, ?_⟩
    rw [h2]
    unfold insB
    by_cases hi : a ≤ p ∧ (p : Int) < b
    · have := of_decide_eq_true (allQ_at _ _ _ (p : Int) hq hi.1 (by omega))
      unfold rd at this
      rw [toNat_cast] at this
      rw [if_pos hi, decide_eq_true hi, this]
      cases w <;> rfl
    · rw [if_neg hi, decide_eq_false hi]
      simp
  · rw [if_neg hq] at h; cases h
theorem cut_good (M : List Int) (hM : Tri M) (hr : regsB (fromB M) = true) (a b : Int) (hab : 0 ≤ a ∧ a < b ∧ b ≤ 64) (p : Nat) (hp : p < 64) (h : (cutB (fromB M) a b).2 = true) :
    regsB (cutB (fromB M) a b).1 = true ∧ allowB (cutB (fromB M) a b).1 p = ((decide (M.getD p 0 > 0) && !insB a b p), ((M.getD p 0 == 2) && !insB a b p)) := by
  unfold cutB at h ⊢
  rw [if_pos (show regsB (fromB M) = true ∧ oneR ⟨a, b, false⟩ = true from ⟨hr, decide_eq_true hab⟩)] at h ⊢
  obtain ⟨h1, h2⟩ := painted_good M hM hr a b 0 hab (Or.inl rfl) p hp h
  refine ⟨h1, ?_⟩
  rw [h2]
  unfold insB
  by_cases hi : a ≤ p ∧ (p : Int) < b
  · rw [if_pos hi, decide_eq_true hi]
    simp
  · rw [if_neg hi, decide_eq_false hi]
    simp
theorem change_good (M : List Int) (hM : Tri M) (hr : regsB (fromB M) = true) (a b : Int) (w : Bool) (hab : 0 ≤ a ∧ a < b ∧ b ≤ 64) (p : Nat) (hp : p < 64) (h : (changeB (fromB M) a b w).2 = true) :
    regsB (changeB (fromB M) a b w).1 = true ∧ allowB (changeB (fromB M) a b w).1 p = ((decide (M.getD p 0 > 0)), (((M.getD p 0 == 2) && !insB a b p) || (insB a b p && w))) := by
  unfold changeB chB at h ⊢
  rw [if_pos (show regsB (fromB M) = true ∧ oneR ⟨a, b, false⟩ = true from ⟨hr, decide_eq_true hab⟩), back M hM] at h ⊢
  by_cases hq : allQ (nz M) (b - a).toNat a = true
  · rw [if_pos hq] at h ⊢
    obtain ⟨h1, h2⟩ := painted_good M hM hr a b (wv w) hab (wv_tri w) p hp h
    refine ⟨h1, ?_⟩
    rw [h2]
    unfold insB
    by_cases hi : a ≤ p ∧ (p : Int) < b
    · have h3 := allQ_at _ _ _ (p : Int) hq hi.1 (by omega)
      unfold nz rd at h3
      rw [toNat_cast] at h3
      have h4 := hM.at_ p
      rw [if_pos hi, decide_eq_true hi]
      generalize M.getD p 0 = x at *
      rcases h4 with rfl | rfl | rfl
      · cases h3
      · cases w <;> rfl
      · cases w <;> rfl
    · rw [if_neg hi, decide_eq_false hi]
      simp
  · rw [if_neg hq] at h; cases h
section rounds
variable (t : List RegW) (a b : Int) (w : Bool) (A : List RegW) (ok : Bool) (B : List RegW) (right : Bool) (C : List RegW) (good : Bool) (p : Int) (x21 x22 x23 : Bool) (x24 : Int) (r_ : Bool)
theorem j7_ev (X : List RegW) (D IN W : Bool) (hx : X.length ≤ 1048576) (hg : D = true → regsB X = true ∧ allowB X p = (IN, W)) (h : Ev (fun k => laws_FnRegions.l1 k t a b w A ok B right C good p x21 x22 x23 (wrap64 (x24 + 1))) r_) :
    Ev (fun k => laws_FnRegions.j7 k t a b w A ok B right C good p x21 x22 x23 x24 X D IN W) r_ := by
  refine Ev.step (f := fun k => (impl_Allowed.f k X p).bind fun bt1197 => (if D = true then (if (bt1197.1 != IN) = true then (some false) else (if (bt1197.2 != W) = true then (some false) else ((impl_RegionsOk.f k X).bind fun t1199 => (if t1199 = true then (laws_FnRegions.l1 k t a b w A ok B right C good p x21 x22 x23 (wrap64 (x24 + 1))) else (some false))))) else (laws_FnRegions.l1 k t a b w A ok B right C good p x21 x22 x23 (wrap64 (x24 + 1))))) (fun k => by simp only [laws_FnRegions.j7]) (Ev.bind (impl_Allowed_ev X hx p) ?_)
  cases D with
  | false => simpa using h
  | true =>
    obtain ⟨h1, h2⟩ := hg rfl
    simp only [h2, if_true, bne_self_eq_false, Bool.false_eq_true, if_false]
    refine Ev.bind (impl_RegionsOk_ev X hx) ?_
    simp only [h1, if_true]
    exact h
theorem j6_ev (X : List RegW) (D IN W : Bool) (h : Ev (fun k => laws_FnRegions.j7 k t a b w A ok B right C good p x21 x22 x23 x24 (if x24 = 2 then C else X) (if x24 = 2 then good else D) (if x24 = 2 then x21 else IN) (if x24 = 2 then ((x22 && !x23) || (x23 && w)) else W)) r_) :
    Ev (fun k => laws_FnRegions.j6 k t a b w A ok B right C good p x21 x22 x23 x24 X D IN W) r_ := by
  refine Ev.step (fun k => ?_) h
  simp only [laws_FnRegions.j6]
  by_cases e : x24 = 2
  · simp only [if_pos e]; cases x22 <;> cases x23 <;> simp
  · simp only [if_neg e]
theorem j5_ev (X : List RegW) (D IN W : Bool) (h : Ev (fun k => laws_FnRegions.j6 k t a b w A ok B right C good p x21 x22 x23 x24 (if x24 = 1 then B else X) (if x24 = 1 then right else D) (if x24 = 1 then (x21 && !x23) else IN) (if x24 = 1 then (x22 && !x23) else W)) r_) :
    Ev (fun k => laws_FnRegions.j5 k t a b w A ok B right C good p x21 x22 x23 x24 X D IN W) r_ := by
  refine Ev.step (fun k => ?_) h
  simp only [laws_FnRegions.j5]
  by_cases e : x24 = 1
  · simp only [if_pos e]; cases x21 <;> cases x22 <;> cases x23 <;> simp
  · simp only [if_neg e]
theorem j4_ev (X : List RegW) (D IN : Bool) (h : Ev (fun k => laws_FnRegions.j5 k t a b w A ok B right C good p x21 x22 x23 x24 X D IN (x22 || (x23 && w))) r_) :
    Ev (fun k => laws_FnRegions.j4 k t a b w A ok B right C good p x21 x22 x23 x24 X D IN) r_ := by
  refine Ev.step (fun k => ?_) h
  simp only [laws_FnRegions.j4]
  cases x22 <;> cases x23 <;> simp
theorem l1_ev (h3 : x24 < 3) (h : Ev (fun k => laws_FnRegions.j4 k t a b w A ok B right C good p x21 x22 x23 x24 A ok (x21 || x23)) r_) :
    Ev (fun k => laws_FnRegions.l1 k t a b w A ok B right C good p x21 x22 x23 x24) r_ := by
  refine Ev.step (fun k => ?_) h
  simp only [laws_FnRegions.l1]
  rw [if_pos h3]
  cases x21 <;> cases x23 <;> simp
theorem three (hAl : A.length ≤ 1048576) (hBl : B.length ≤ 1048576) (hCl : C.length ≤ 1048576)
    (hA : ok = true → regsB A = true ∧ allowB A p = ((x21 || x23), (x22 || (x23 && w))))
    (hB : right = true → regsB B = true ∧ allowB B p = ((x21 && !x23), (x22 && !x23)))
    (hC : good = true → regsB C = true ∧ allowB C p = (x21, ((x22 && !x23) || (x23 && w))))
    (h : Ev (fun k => laws_FnRegions.l0 k t a b w A ok B right C good (wrap64 (p + 1))) r_) :
    Ev (fun k => laws_FnRegions.l1 k t a b w A ok B right C good p x21 x22 x23 0) r_ := by
  refine l1_ev t a b w A ok B right C good p x21 x22 x23 0 r_ (by omega) (j4_ev _ _ _ _ _ _ _ _ _ _ _ _ _ _ _ _ _ _ _ (j5_ev _ _ _ _ _ _ _ _ _ _ _ _ _ _ _ _ _ _ _ _ (j6_ev _ _ _ _ _ _ _ _ _ _ _ _ _ _ _ _ _ _ _ _ (j7_ev _ _ _ _ _ _ _ _ _ _ _ _ _ _ _ _ _ _ _ _ ?_ ?_ ?_))))
  · exact hAl
  · exact hA
  rw [show wrap64 ((0 : Int) + 1) = 1 from by unfold wrap64; omega]
  refine l1_ev t a b w A ok B right C good p x21 x22 x23 1 r_ (by omega) (j4_ev _ _ _ _ _ _ _ _ _ _ _ _ _ _ _ _ _ _ _ (j5_ev _ _ _ _ _ _ _ _ _ _ _ _ _ _ _ _ _ _ _ _ (j6_ev _ _ _ _ _ _ _ _ _ _ _ _ _ _ _ _ _ _ _ _ (j7_ev _ _ _ _ _ _ _ _ _ _ _ _ _ _ _ _ _ _ _ _ ?_ ?_ ?_))))
  · exact hBl
  · exact hB
  rw [show wrap64 ((1 : Int) + 1) = 2 from by unfold wrap64; omega]
  refine l1_ev t a b w A ok B right C good p x21 x22 x23 2 r_ (by omega) (j4_ev _ _ _ _ _ _ _ _ _ _ _ _ _ _ _ _ _ _ _ (j5_ev _ _ _ _ _ _ _ _ _ _ _ _ _ _ _ _ _ _ _ _ (j6_ev _ _ _ _ _ _ _ _ _ _ _ _ _ _ _ _ _ _ _ _ (j7_ev _ _ _ _ _ _ _ _ _ _ _ _ _ _ _ _ _ _ _ _ ?_ ?_ ?_))))
  · exact hCl
  · exact hC
  rw [show wrap64 ((2 : Int) + 1) = 3 from by unfold wrap64; omega]
  refine Ev.step (fun k => ?_) h
  simp only [laws_FnRegions.l1]
  rw [if_neg (by omega)]
end rounds
theorem pages_ok (M : List Int) (hM : Tri M) (hr : regsB (fromB M) = true) (a b : Int) (w : Bool) (hab : 0 ≤ a ∧ a < b ∧ b ≤ 64) :
    Ev (fun k => laws_FnRegions.l0 k (fromB M) a b w (putB (fromB M) a b w).1 (putB (fromB M) a b w).2 (cutB (fromB M) a b).1 (cutB (fromB M) a b).2 (changeB (fromB M) a b w).1 (changeB (fromB M) a b w).2 0) true := by
  refine ev_yes (fun k i => laws_FnRegions.l0 k (fromB M) a b w (putB (fromB M) a b w).1 (putB (fromB M) a b w).2 (cutB (fromB M) a b).1 (cutB (fromB M) a b).2 (changeB (fromB M) a b w).1 (changeB (fromB M) a b w).2 (i : Int)) 64 (fun _ => true) true ?_ (by simp) ?_
  · intro i hi _ r h
    have hcp : (putB (fromB M) a b w).1.length ≤ 12 := chB_small _ _ _ _ _
    have hcc : (cutB (fromB M) a b).1.length ≤ 12 := cutB_small _ _ _
    have hch : (changeB (fromB M) a b w).1.length ≤ 12 := chB_small _ _ _ _ _
    have hpg := put_good M hM hr a b w hab i hi
    have hcg := cut_good M hM hr a b hab i hi
    have hhg := change_good M hM hr a b w hab i hi
    generalize putB (fromB M) a b w = y1 at *
    generalize cutB (fromB M) a b = y2 at *
    generalize changeB (fromB M) a b w = y3 at *
    have hal : allowB (fromB M) (i : Int) = (decide (M.getD i 0 > 0), (M.getD i 0 == 2)) := by
      unfold allowB
      rw [if_pos ⟨hr, by omega, by omega⟩, back M hM]
      simp only [toNat_cast]
    have hlen : (fromB M).length ≤ 1048576 := by have := regsB_len hr; omega
    have hw : wrap64 ((i : Int) + 1) = ((i + 1 : Nat) : Int) := wrap_succ (by omega)
    have h3 := three (fromB M) a b w y1.1 y1.2 y2.1 y2.2 y3.1 y3.2 (i : Int) (decide (M.getD i 0 > 0)) (M.getD i 0 == 2) (insB a b i) r (by omega) (by omega) (by omega) hpg hcg hhg (by rw [hw]; exact h)
    refine Ev.step (f := fun k => (spec_Allowed.f k (fromB M) (i : Int)).bind fun bt1195 => laws_FnRegions.j2 k (fromB M) a b w y1.1 y1.2 y2.1 y2.2 y3.1 y3.2 (i : Int) bt1195.1 bt1195.2 (insB a b i)) (fun k => ?_) (Ev.bind (spec_Allowed_ev (fromB M) hlen (i : Int)) ?_)
    · simp only [laws_FnRegions.l0]
      rw [if_pos (by omega)]
      congr 1
      funext bt
      unfold insB
      by_cases e : (i : Int) ≥ a
      · rw [if_pos e]
        congr 1
        exact decide_eq_decide.2 ⟨fun x => ⟨e, x⟩, fun x => x.2⟩
      · rw [if_neg e, decide_eq_false (fun x => e x.1)]
    · rw [hal]
      refine Ev.step (fun k => ?_) h3
      simp only [laws_FnRegions.j2]
  · refine Ev.of_succ (fun k => ?_)
    simp only [laws_FnRegions.l0]
    rw [if_neg (by omega)]
theorem FnRegions (l0 : List Int) (g0 : (l0.length ≤ maxLen ∧ ∀ y0 ∈ l0, (Lit.int .u8 y0).wf = true)) : ∃ k, laws_FnRegions.f k l0 = some true := by
  by_cases hbig : (l0.length : Int) > 1048576
  · refine ⟨0, ?_⟩
    unfold laws_FnRegions.f laws_big.f
    simp [hbig]
  · have hl : l0.length ≤ 9223372036854775806 := by omega
    obtain ⟨M, hd, hM, hr⟩ := rightRegions_ends l0 hl
    obtain ⟨p, hp, p1, p2⟩ := places_ends l0 hl
    refine Ev.rounds (g := fun k => laws_FnRegions.f k l0) ?_
    have hin : ∀ i : Nat, i < 12 → 0 ≤ rd p (i : Int) ∧ rd p (i : Int) < 10000 := fun i hi => by
      refine p2 _ ?_
      unfold rd
      rw [toNat_cast, List.getD_eq_getElem?_getD, List.getElem?_eq_getElem (by omega)]
      exact List.getElem_mem (by omega)
    have h0 := hin 0 (by omega)
    have h1 := hin 1 (by omega)
    change 0 ≤ rd p 0 ∧ rd p 0 < 10000 at h0
    change 0 ≤ rd p 1 ∧ rd p 1 < 10000 at h1
    have hlen : (fromB M).length ≤ 1048576 := by have := regsB_len hr; omega
    unfold laws_FnRegions.f laws_big.f
    simp only [Option.bind_some, decide_eq_true_eq, if_neg hbig]
    refine Ev.bind hd (Ev.bind hp ?_)
    simp only [p1, if_pos (show (0 : Int) < ((12 : Nat) : Int) by omega), if_pos (show (1 : Int) < ((12 : Nat) : Int) by omega), if_pos (show (2 : Int) < ((12 : Nat) : Int) by omega)]
    rw [tmod_nonneg h0.1 (by omega), tmod_nonneg h1.1 (by omega)]
    have ha : 0 ≤ rd p 0 % 60 ∧ rd p 0 % 60 < 60 := by omega
    have hq : 0 ≤ rd p 1 % 4 ∧ rd p 1 % 4 < 4 := by omega
    generalize rd p 0 % 60 = a at *
    generalize rd p 1 % 4 = q at *
    generalize (Int.tmod (rd p 2) 2 == 0) = w at *
    rw [wrap64_id (n := a + 1) (by omega) (by omega), wrap64_id (n := a + 1 + q) (by omega) (by omega)]
    have hab : 0 ≤ a ∧ a < a + 1 + q ∧ a + 1 + q ≤ 64 := by omega
    have hwf : (Lit.int .i64 (a + 1 + q)).wf = true := by
      simp only [Lit.wf, IntKind.min, IntKind.max, IntKind.bits, IntKind.signed]
      simp
      omega
    generalize a + 1 + q = b at *
    have hfin := pages_ok M hM hr a b w hab
    refine Ev.bind (impl_Put_ev (fromB M) hlen a b w hwf) ?_
    refine Ev.bind (impl_Cut_ev (fromB M) hlen a b hwf) ?_
    refine Ev.bind (impl_Change_ev (fromB M) hlen a b w hwf) ?_
    refine Ev.bind (spec_Put_ev (fromB M) hlen a b w) ?_
    refine Ev.bind (spec_Cut_ev (fromB M) hlen a b) ?_
    refine Ev.bind (spec_Change_ev (fromB M) hlen a b w) ?_
    simp only [bne_self_eq_false, Bool.false_eq_true, if_false]
    refine Ev.bind (impl_RegionsOk_ev (fromB M) hlen) ?_
    rw [hr]
    refine Ev.step (fun k => ?_) hfin
    simp only [laws_FnRegions.j0]
    simp

end Go.Proofs.Ytdpejnckojhgjaa.Pure
end
