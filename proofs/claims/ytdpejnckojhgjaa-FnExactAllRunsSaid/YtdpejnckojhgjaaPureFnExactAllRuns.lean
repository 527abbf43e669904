/- AllRuns answers as the reference at all arguments, and its answer owns its memory: the plain half. No condition. -/
import Derived.Test.YtdpejnckojhgjaaP0
import Derived.Test.YtdpejnckojhgjaaP2
import Derived.Test.YtdpejnckojhgjaaP3
import Derived.Test.YtdpejnckojhgjaaP4
import Derived.Test.YtdpejnckojhgjaaP5
import Derived.Test.YtdpejnckojhgjaaP6
import Derived.Test.YtdpejnckojhgjaaP7
import Derived.Test.YtdpejnckojhgjaaP8
import Derived.Test.YtdpejnckojhgjaaP9
import Derived.Test.YtdpejnckojhgjaaP10
import Derived.Test.YtdpejnckojhgjaaP11
import Derived.Test.YtdpejnckojhgjaaP12
import Derived.Test.YtdpejnckojhgjaaP13
import Derived.Test.YtdpejnckojhgjaaP14
import Derived.Test.YtdpejnckojhgjaaP15
import Derived.Test.YtdpejnckojhgjaaP16
import Derived.Test.YtdpejnckojhgjaaP17
import Derived.Test.YtdpejnckojhgjaaP18
import Derived.Test.YtdpejnckojhgjaaP19
import Derived.Test.YtdpejnckojhgjaaP20
import Derived.Test.YtdpejnckojhgjaaP21
import Derived.Test.YtdpejnckojhgjaaP57
import Derived.Test.YtdpejnckojhgjaaP77
import Derived.Test.YtdpejnckojhgjaaP129
import Derived.Test.YtdpejnckojhgjaaP132
import Derived.Test.YtdpejnckojhgjaaP133
import Derived.Test.YtdpejnckojhgjaaAid
namespace Go.Proofs.Ytdpejnckojhgjaa.Pure
open Go.RowKit Go.Proofs.Ytdpejnckojhgjaa.P Go.Proofs.YtdpejnckojhgjaaW.PrintWords Go.Proofs.YtdpejnckojhgjaaW.PrintLast Go.Proofs.YtdpejnckojhgjaaW.PrintMore Go.Proofs.Ytdpejnckojhgjaa.Aid
set_option linter.unusedVariables false
set_option linter.unusedSimpArgs false

theorem l01In_eq (a b c : Int) : spec_l01In.f a b c = some (decide (b ≤ a ∧ a ≤ c)) := in_dec a b c
theorem within_eq (a b c : Int) : impl_within.f a b c = some (decide (b ≤ a ∧ a ≤ c)) := in_dec a b c
def sizeB (n : Int) : Bool := decide (8 ≤ n ∧ n ≤ 32) && decide (n % 8 = 0)
theorem sizeB_bd {n : Int} (h : sizeB n = true) : 8 ≤ n ∧ n ≤ 32 ∧ n % 8 = 0 := by
  simp only [sizeB, Bool.and_eq_true, decide_eq_true_eq] at h
  exact ⟨h.1.1, h.1.2, h.2⟩
theorem l02Frames_eq (n : Int) : spec_l02Frames.f n = some (sizeB n) := by
  unfold spec_l02Frames.f sizeB
  rw [l01In_eq]
  simp only [Option.bind_some]
  by_cases h : 8 ≤ n ∧ n ≤ 32
  · rw [if_pos (by simpa using h), tmod_nonneg (by omega) (by omega), decide_eq_true h]; rfl
  · rw [if_neg (by simpa using h), decide_eq_false h]; rfl
theorem isSize_eq (n : Int) : impl_isSize.f n = some (sizeB n) := by
  unfold impl_isSize.f sizeB
  rw [within_eq]
  simp only [Option.bind_some]
  by_cases h : 8 ≤ n ∧ n ≤ 32
  · rw [if_pos (by simpa using h), tmod_nonneg (by omega) (by omega), decide_eq_true h]; rfl
  · rw [if_neg (by simpa using h), decide_eq_false h]; rfl
theorem szIntS_eq (l : List Int) (hl : l.length ≤ maxLen) (a : Int) (h0 : 0 ≤ a) (h1 : a ≤ 1048576) : laws_szIntS.f l a = some (if (l.length : Int) ≤ a then a - l.length else -1) := by
  unfold maxLen at hl
  unfold laws_szIntS.f
  have e : wrap64 (a - (l.length : Int)) = a - l.length := by unfold wrap64; omega
  rw [e]
  by_cases h : (l.length : Int) ≤ a
  · rw [if_neg (by omega), if_pos h]
  · rw [if_pos (by omega), if_neg h]
theorem toIntS_ev (l : List Int) (hl : l.length ≤ 1048576) : Ev (fun k => laws_toIntS.f k l) l := by
  have key := ev_copy0 (fun k acc i => laws_toIntS.l0 k l acc (i : Int)) l.length (fun i => l.getD i 0) id (by
    intro i acc hi ha r h
    refine Ev.step (fun k => ?_) h
    simp only [laws_toIntS.l0]
    rw [if_pos (by omega), if_pos (by omega), if_pos (by omega), wrap_succ (by omega), toNat_cast]
    rfl) (by
    intro acc ha
    refine Ev.of_succ (fun k => ?_)
    simp only [laws_toIntS.l0]
    rw [if_neg (by omega)]
    rfl) (List.replicate l.length 0) (by simp)
  rw [range_map_getD] at key
  refine Ev.congr (fun k => ?_) key
  unfold laws_toIntS.f
  rw [if_pos (by omega), if_pos (by omega), toNat_cast]
  rfl
theorem eqIntS_refl (l : List Int) (hl : l.length ≤ 1048576) : Ev (fun k => laws_eqIntS.f k l l) true := by
  have key := ev_all0 (fun k i => laws_eqIntS.l0 k l l (i : Int)) l.length (fun _ => true) false true (by
    intro i hi _ r h
    refine Ev.step (fun k => ?_) h
    simp only [laws_eqIntS.l0]
    rw [if_pos (by omega), if_pos (by omega), if_pos (by omega), if_pos trivial, wrap_succ (by omega)]) (by intro i _ h; cases h) (by
    refine Ev.of_succ (fun k => ?_)
    simp only [laws_eqIntS.l0]
    rw [if_neg (by omega)])
  rw [if_pos (by simp)] at key
  refine Ev.congr (fun k => ?_) key
  unfold laws_eqIntS.f
  rw [if_pos rfl]
  rfl
def upInt (a : Int) (n : Nat) : List Int := (List.range n).map (fun j : Nat => a + (j : Int))
theorem upInt_len (a : Int) (n : Nat) : (upInt a n).length = n := by simp [upInt]
theorem upInt_getD (a : Int) (n i : Nat) (h : i < n) : (upInt a n).getD i 0 = a + i := by simp [upInt, List.getD_eq_getElem?_getD, h]
theorem markIntS_ev (l : List Int) (hl : l.length ≤ 1048576) (a : Int) (h0 : 0 ≤ a) (h1 : a ≤ 1000000000) : Ev (fun k => laws_markIntS.f k l a) (a + l.length, upInt a l.length) := by
  have key := ev_copy0 (fun k acc i => laws_markIntS.l0 k acc (a + (i : Int)) (i : Int)) l.length (fun i => a + (i : Int)) (fun acc => (a + (l.length : Int), acc)) (by
    intro i acc hi ha r h
    refine Ev.step (fun k => ?_) h
    simp only [laws_markIntS.l0]
    rw [if_pos (by omega), if_pos (by omega), wrap_succ (by omega), toNat_cast, wrap64_id (n := a + (i : Int) + 1) (by omega) (by omega), show a + (i : Int) + 1 = a + ((i + 1 : Nat) : Int) by omega]) (by
    intro acc ha
    refine Ev.of_succ (fun k => ?_)
    simp only [laws_markIntS.l0]
    rw [if_neg (by omega)]) l rfl
  simp only [show ((0 : Nat) : Int) = 0 from rfl, Int.add_zero] at key
  exact key
theorem heldIntS_ev (n : Nat) (hn : n ≤ 1048576) (a : Int) (h0 : 0 ≤ a) (h1 : a ≤ 1000000000) : Ev (fun k => laws_heldIntS.f k (upInt a n) a) (a + n) := by
  have key := ev_yes (fun k i => laws_heldIntS.l0 k (upInt a n) (a + (i : Int)) (i : Int)) n (fun _ => true) (a + (n : Int)) (by
    intro i hi _ r h
    refine Ev.step (fun k => ?_) h
    simp only [laws_heldIntS.l0]
    rw [upInt_len, if_pos (by omega), if_pos (by omega), if_pos (by unfold rd; rw [toNat_cast, upInt_getD _ _ _ hi]), wrap_succ (by omega), wrap64_id (n := a + (i : Int) + 1) (by omega) (by omega), show a + (i : Int) + 1 = a + ((i + 1 : Nat) : Int) by omega]) (by simp) (by
    refine Ev.of_succ (fun k => ?_)
    simp only [laws_heldIntS.l0]
    rw [upInt_len, if_neg (by omega)])
  simp only [show ((0 : Nat) : Int) = 0 from rfl, Int.add_zero] at key
  exact key
theorem map_getD {α β : Type} (f : α → β) (l : List α) (d : α) : (List.range l.length).map (fun i => f (l.getD i d)) = l.map f := by
  rw [show (fun i => f (l.getD i d)) = f ∘ (fun i => l.getD i d) from rfl, ← List.map_map, range_map_getD]
abbrev RunW := S48
abbrev RunL := S143
def toRun (r : RunL) : RunW := ⟨r.f0, r.f1⟩
theorem rdRL (l : List RunL) (i : Nat) : rd_T143 l (i : Int) = l.getD i z143 := by unfold rd_T143; rw [toNat_cast]
theorem rdRW (l : List RunW) (i : Nat) : rd_T48 l (i : Int) = l.getD i z48 := by unfold rd_T48; rw [toNat_cast]
theorem szRunS_eq (l : List RunL) (hl : l.length ≤ maxLen) : laws_szRunS.f l 1048576 = some (if (l.length : Int) ≤ 1048576 then (1048576 - (l.length : Int) : Int) else (-1 : Int)) := by
  unfold maxLen at hl
  unfold laws_szRunS.f
  have e : wrap64 (1048576 - (l.length : Int)) = 1048576 - l.length := by unfold wrap64; omega
  rw [e]
  by_cases h : (l.length : Int) ≤ 1048576
  · rw [if_neg (by omega), if_pos h]
  · rw [if_pos (by omega), if_neg h]
theorem toRunS_ev (l : List RunL) (hl : l.length ≤ 1048576) : Ev (fun k => laws_toRunS.f k l) (l.map toRun) := by
  have key := ev_copy0 (fun k acc i => laws_toRunS.l0 k l acc (i : Int)) l.length (fun i => toRun (l.getD i z143)) id (by
    intro i acc hi ha r h
    refine Ev.step (fun k => ?_) h
    simp only [laws_toRunS.l0]
    rw [if_pos (by omega), if_pos (by omega), rdRL]
    unfold laws_toRun.f
    simp only [Option.bind_some]
    rw [if_pos (by omega), wrap_succ (by omega), toNat_cast]
    rfl) (by
    intro acc ha
    refine Ev.of_succ (fun k => ?_)
    simp only [laws_toRunS.l0]
    rw [if_neg (by omega)]
    rfl) (List.replicate l.length z48) (by simp)
  rw [map_getD toRun l z143] at key
  refine Ev.congr (fun k => ?_) key
  unfold laws_toRunS.f
  rw [if_pos (by omega), if_pos (by omega), toNat_cast]
  rfl
theorem eqRunS_refl (l : List RunW) (hl : l.length ≤ 1048576) : Ev (fun k => laws_eqRunS.f k l l) true := by
  have key := ev_all0 (fun k i => laws_eqRunS.l0 k l l (i : Int)) l.length (fun _ => true) false true (by
    intro i hi _ r h
    refine Ev.step (fun k => ?_) h
    simp only [laws_eqRunS.l0]
    rw [if_pos (by omega), if_pos (by omega), if_pos (by omega)]
    unfold laws_eqRun.f
    simp only [if_true, Option.bind_some]
    rw [wrap_succ (by omega)]) (by intro i _ h; cases h) (by
    refine Ev.of_succ (fun k => ?_)
    simp only [laws_eqRunS.l0]
    rw [if_neg (by omega)])
  rw [if_pos (by simp)] at key
  refine Ev.congr (fun k => ?_) key
  unfold laws_eqRunS.f
  rw [if_pos rfl]
  rfl
theorem markRunS_ev (l : List RunW) (hl : l.length ≤ 1048576) (a : Int) (h0 : 0 ≤ a) (h1 : a ≤ 1000000000) : Ev (fun k => laws_markRunS.f k l a) (a + 2 * l.length, (List.range l.length).map (fun j : Nat => (⟨a + 2 * (j : Int), a + 2 * (j : Int) + 1⟩ : RunW))) := by
  have key := ev_copy0 (fun k acc i => laws_markRunS.l0 k acc (a + 2 * (i : Int)) (i : Int)) l.length (fun i => (⟨a + 2 * (i : Int), a + 2 * (i : Int) + 1⟩ : RunW)) (fun acc => (a + 2 * (l.length : Int), acc)) (by
    intro i acc hi ha r h
    refine Ev.step (fun k => ?_) h
    simp only [laws_markRunS.l0]
    rw [if_pos (by omega), if_pos (by omega)]
    simp only [Option.bind_some]
    rw [wrap_succ (by omega), toNat_cast, wrap64_id (n := a + 2 * (i : Int) + 1) (by omega) (by omega), wrap64_id (n := a + 2 * (i : Int) + 1 + 1) (by omega) (by omega), show a + 2 * (i : Int) + 1 + 1 = a + 2 * ((i + 1 : Nat) : Int) by omega, List.set_set]
    rw [rdRW]
    rw [show ((acc.set i (⟨a + 2 * (i : Int), (rd_T48 acc (i : Int)).f1⟩ : RunW)).getD i z48).f0 = a + 2 * (i : Int) by simp [List.getD_eq_getElem?_getD, show i < acc.length by omega]]) (by
    intro acc ha
    refine Ev.of_succ (fun k => ?_)
    simp only [laws_markRunS.l0]
    rw [if_neg (by omega)]) l rfl
  simp only [show ((0 : Nat) : Int) = 0 from rfl, Int.mul_zero, Int.add_zero] at key
  exact key
def upRun (a : Int) (n : Nat) : List RunW := (List.range n).map (fun j : Nat => (⟨a + 2 * (j : Int), a + 2 * (j : Int) + 1⟩ : RunW))
theorem upRun_len (a : Int) (n : Nat) : (upRun a n).length = n := by simp [upRun]
theorem upRun_getD (a : Int) (n i : Nat) (d : RunW) (h : i < n) : (upRun a n).getD i d = ⟨a + 2 * (i : Int), a + 2 * (i : Int) + 1⟩ := by simp [upRun, List.getD_eq_getElem?_getD, h]
theorem heldRunS_ev (n : Nat) (hn : n ≤ 1048576) (a : Int) (h0 : 0 ≤ a) (h1 : a ≤ 1000000000) : Ev (fun k => laws_heldRunS.f k (upRun a n) a) (a + 2 * n) := by
  have key := ev_yes (fun k i => laws_heldRunS.l0 k (upRun a n) (a + 2 * (i : Int)) (i : Int)) n (fun _ => true) (a + 2 * (n : Int)) (by
    intro i hi _ r h
    refine Ev.step (fun k => ?_) h
    simp only [laws_heldRunS.l0]
    rw [upRun_len, if_pos (by omega), if_pos (by omega), rdRW, upRun_getD _ _ _ _ hi, if_pos rfl, wrap_succ (by omega), wrap64_id (n := a + 2 * (i : Int) + 1) (by omega) (by omega), if_pos rfl, wrap64_id (n := a + 2 * (i : Int) + 1 + 1) (by omega) (by omega), show a + 2 * (i : Int) + 1 + 1 = a + 2 * ((i + 1 : Nat) : Int) by omega]) (by simp) (by
    refine Ev.of_succ (fun k => ?_)
    simp only [laws_heldRunS.l0]
    rw [upRun_len, if_neg (by omega)])
  simp only [show ((0 : Nat) : Int) = 0 from rfl, Int.mul_zero, Int.add_zero] at key
  exact key
/-- 2 to the power of an order. -/
def pw (o : Int) : Int := if o = 0 then 1 else if o = 1 then 2 else if o = 2 then 4 else 8
theorem pw_pos (o : Int) : 0 < pw o := by unfold pw; repeat' split <;> omega
theorem pw_le (o : Int) : pw o ≤ 8 := by unfold pw; repeat' split <;> omega
theorem l03Pow_ev (o : Int) (h : 0 ≤ o ∧ o ≤ 3) : Ev (fun k => spec_l03Pow.f k o) (pw o) := by
  have hc : o = 0 ∨ o = 1 ∨ o = 2 ∨ o = 3 := by omega
  rcases hc with rfl | rfl | rfl | rfl <;> exact Ev.of (fun k => spec_l03Pow.mono _ k) (k := 9) (by decide +kernel)
theorem shl_eq (o : Int) (h : 0 ≤ o ∧ o ≤ 3) : shl .i64 1 o = pw o := by
  have hc : o = 0 ∨ o = 1 ∨ o = 2 ∨ o = 3 := by omega
  rcases hc with rfl | rfl | rfl | rfl <;> decide +kernel
def inB (l : List Int) (x : Int) : Bool := l.any (fun y => decide (y = x))
theorem inB_all (l : List Int) (x : Int) : (List.range l.length).all (fun i => !decide (l.getD i 0 = x)) = !inB l x := by
  rw [range_all l 0 (fun y => !decide (y = x))]
  unfold inB
  rw [List.all_eq_not_any_not]
  simp
theorem l03In_ev (l : List Int) (hl : l.length ≤ 1048576) (x : Int) : Ev (fun k => spec_l03In.f k l x) (inB l x) := by
  have key := ev_all0 (fun k i => spec_l03In.l0 k l x (i : Int)) l.length (fun i => !decide (l.getD i 0 = x)) true false (by
    intro i hi hb r h
    refine Ev.step (fun k => ?_) h
    simp only [Bool.not_eq_true', decide_eq_false_iff_not] at hb
    simp only [spec_l03In.l0]
    rw [if_pos (by omega), if_pos (by omega), if_neg (by unfold rd; rw [toNat_cast]; exact hb), wrap_succ (by omega)]) (by
    intro i hi hb
    refine Ev.of_succ (fun k => ?_)
    simp only [Bool.not_eq_false', decide_eq_true_eq] at hb
    simp only [spec_l03In.l0]
    rw [if_pos (by omega), if_pos (by omega), if_pos (by unfold rd; rw [toNat_cast]; exact hb)]) (by
    refine Ev.of_succ (fun k => ?_)
    simp only [spec_l03In.l0]
    rw [if_neg (by omega)])
  rw [inB_all] at key
  have e : (if (!inB l x) = true then false else true) = inB l x := by cases inB l x <;> rfl
  rw [e] at key
  exact key
/-- May a run of this order begin here? -/
def clearB (l : List Int) (a o : Int) : Bool := (List.range (pw o).toNat).all (fun j => !inB l (a + (j : Int))) && decide (a % pw o = 0)
theorem l03Clear_ev (l : List Int) (hl : l.length ≤ 1048576) (a o : Int) (ha : 0 ≤ a ∧ a ≤ 1000) (ho : 0 ≤ o ∧ o ≤ 3) : Ev (fun k => spec_l03Clear.f k l a o) (clearB l a o) := by
  unfold spec_l03Clear.f
  refine Ev.bind (l03Pow_ev o ho) ?_
  have hp := pw_pos o
  have hp8 := pw_le o
  have hw : wrap64 (a + pw o) = a + pw o := wrap64_id (by omega) (by omega)
  have key := ev_all0 (fun k j => spec_l03Clear.l0 k l a (pw o) (a + (j : Int))) (pw o).toNat (fun j => !inB l (a + (j : Int))) false (decide (a % pw o = 0)) (by
    intro j hj hb r h
    simp only [Bool.not_eq_true'] at hb
    refine Ev.step (f := fun k => (spec_l03In.f k l (a + (j : Int))).bind fun t104 => (if t104 = true then (some false) else (spec_l03Clear.l0 k l a (pw o) (wrap64 ((a + (j : Int)) + 1))))) (fun k => ?_) ?_
    · simp only [spec_l03Clear.l0]
      rw [hw, if_pos (by omega)]
    · refine Ev.bind (l03In_ev l hl _) ?_
      simp only [hb, Bool.false_eq_true, if_false]
      rw [wrap64_id (n := a + (j : Int) + 1) (by omega) (by omega), show a + (j : Int) + 1 = a + ((j + 1 : Nat) : Int) by omega]
      exact h) (by
    intro j hj hb
    simp only [Bool.not_eq_false'] at hb
    refine Ev.step (f := fun k => (spec_l03In.f k l (a + (j : Int))).bind fun t104 => (if t104 = true then (some false) else (spec_l03Clear.l0 k l a (pw o) (wrap64 ((a + (j : Int)) + 1))))) (fun k => ?_) ?_
    · simp only [spec_l03Clear.l0]
      rw [hw, if_pos (by omega)]
    · refine Ev.bind (l03In_ev l hl _) ?_
      simp only [hb, if_true]
      exact Ev.now _) (by
    refine Ev.of_succ (fun k => ?_)
    simp only [spec_l03Clear.l0]
    rw [hw, if_neg (by omega), if_neg (by omega), tmod_nonneg ha.1 hp]
    rfl)
  simp only [show ((0 : Nat) : Int) = 0 from rfl, Int.add_zero] at key
  have e : (if ((List.range (pw o).toNat).all (fun j => !inB l (a + (j : Int)))) = true then decide (a % pw o = 0) else false) = clearB l a o := by
    unfold clearB
    cases (List.range (pw o).toNat).all (fun j => !inB l (a + (j : Int))) <;> simp
  rw [e] at key
  exact key
def ordC (C : Int → Bool) : Int := if C 3 = true then 3 else if C 2 = true then 2 else if C 1 = true then 1 else if C 0 = true then 0 else -1
theorem ordC_bd (C : Int → Bool) : -1 ≤ ordC C ∧ ordC C ≤ 3 := by unfold ordC; repeat' split <;> omega
/-- The runs from a place on. -/
def jn (N : Int → Int) (n : Int) : Nat → Int → List RunW → List RunW
  | 0, _, out => out
  | f + 1, a, out => if a < n then (if N a < 0 then jn N n f (a + 1) out else jn N n f (a + pw (N a)) (out ++ [⟨a, N a⟩])) else out
theorem jn_congr (N N' : Int → Int) (n : Int) (h : ∀ a, 0 ≤ a → a < n → N a = N' a) : ∀ f a out, 0 ≤ a → jn N n f a out = jn N' n f a out := by
  intro f
  induction f with
  | zero => intro a out _; rfl
  | succ f ih =>
    intro a out ha
    unfold jn
    by_cases h1 : a < n
    · rw [if_pos h1, if_pos h1, h a ha h1]
      have := pw_pos (N' a)
      split
      · exact ih _ _ (by omega)
      · exact ih _ _ (by omega)
    · rw [if_neg h1, if_neg h1]
theorem ev_jn {ρ : Type} (g : Nat → List RunW → Int → Option ρ) (N : Int → Int) (n : Int) (hn : n ≤ 1000) (hN : ∀ a, -1 ≤ N a ∧ N a ≤ 3) (fin : List RunW → ρ)
    (h1 : ∀ a out, 0 ≤ a → a < n → (out.length : Int) ≤ a → N a < 0 → ∀ r, Ev (fun k => g k out (a + 1)) r → Ev (fun k => g k out a) r)
    (h2 : ∀ a out, 0 ≤ a → a < n → (out.length : Int) ≤ a → 0 ≤ N a → ∀ r, Ev (fun k => g k (out ++ [⟨a, N a⟩]) (a + pw (N a))) r → Ev (fun k => g k out a) r)
    (h3 : ∀ a out, n ≤ a → Ev (fun k => g k out a) (fin out)) : ∀ (f : Nat) a out, 0 ≤ a → n ≤ a + f → (out.length : Int) ≤ a → Ev (fun k => g k out a) (fin (jn N n f a out)) := by
  intro f
  induction f with
  | zero => intro a out _ h _; exact h3 a out (by omega)
  | succ f ih =>
    intro a out ha hf hl
    unfold jn
    by_cases hlt : a < n
    · rw [if_pos hlt]
      by_cases hneg : N a < 0
      · rw [if_pos hneg]
        exact h1 a out ha hlt hl hneg _ (ih _ _ (by omega) (by omega) (by omega))
      · rw [if_neg hneg]
        have := pw_pos (N a)
        exact h2 a out ha hlt hl (by omega) _ (ih _ _ (by omega) (by omega) (by simp only [List.length_append, List.length_cons, List.length_nil]; omega))
    · rw [if_neg hlt]
      exact h3 a out (by omega)
/-- The reference's descent. -/
theorem spec_down (n : Int) (l : List Int) (hl : l.length ≤ 1048576) (a : Int) (ha : 0 ≤ a ∧ a ≤ 1000) (out : List RunW) (ho : out.length ≤ 1000) (r : List RunW × Bool)
    (h1 : ordC (clearB l a) < 0 → Ev (fun k => spec_AllRuns.l1 k n l out (a + 1)) r)
    (h2 : 0 ≤ ordC (clearB l a) → Ev (fun k => spec_AllRuns.l1 k n l (out ++ [⟨a, ordC (clearB l a)⟩]) (a + pw (ordC (clearB l a)))) r) : Ev (fun k => spec_AllRuns.l2 k n l out a 3) r := by
  have yes : ∀ o : Int, 0 ≤ o ∧ o ≤ 3 → clearB l a o = true → Ev (fun k => spec_AllRuns.l1 k n l (out ++ [⟨a, o⟩]) (a + pw o)) r → Ev (fun k => spec_AllRuns.l2 k n l out a o) r := by
    intro o ho3 hc h
    have hp := pw_pos o
    have hp8 := pw_le o
    refine Ev.step (f := fun k => (spec_l03Clear.f k l a o).bind fun t114 => (if t114 = true then (if o < 0 then (spec_AllRuns.l1 k n l out (wrap64 (a + 1))) else (if out.length < 8796093022208 then ((spec_l03Pow.f k o).bind fun t118 => (spec_AllRuns.l1 k n l (out ++ [(⟨a, o⟩ : RunW)]) (wrap64 (a + t118)))) else (none))) else (spec_AllRuns.l2 k n l out a (wrap64 (o - 1))))) (fun k => ?_) ?_
    · simp only [spec_AllRuns.l2]
      rw [if_pos (show o ≥ 0 from ho3.1)]
    · refine Ev.bind (l03Clear_ev l hl a o ha ho3) ?_
      simp only [hc, if_true, if_neg (show ¬ o < 0 by omega), if_pos (show out.length < 8796093022208 by omega)]
      refine Ev.bind (l03Pow_ev o ho3) ?_
      rw [wrap64_id (n := a + pw o) (by omega) (by omega)]
      exact h
  have no : ∀ o : Int, 0 ≤ o ∧ o ≤ 3 → clearB l a o = false → Ev (fun k => spec_AllRuns.l2 k n l out a (o - 1)) r → Ev (fun k => spec_AllRuns.l2 k n l out a o) r := by
    intro o ho3 hc h
    refine Ev.step (f := fun k => (spec_l03Clear.f k l a o).bind fun t114 => (if t114 = true then (if o < 0 then (spec_AllRuns.l1 k n l out (wrap64 (a + 1))) else (if out.length < 8796093022208 then ((spec_l03Pow.f k o).bind fun t118 => (spec_AllRuns.l1 k n l (out ++ [(⟨a, o⟩ : RunW)]) (wrap64 (a + t118)))) else (none))) else (spec_AllRuns.l2 k n l out a (wrap64 (o - 1))))) (fun k => ?_) ?_
    · simp only [spec_AllRuns.l2]
      rw [if_pos (show o ≥ 0 from ho3.1)]
    · refine Ev.bind (l03Clear_ev l hl a o ha ho3) ?_
      simp only [hc, Bool.false_eq_true, if_false]
      rw [wrap64_id (n := o - 1) (by omega) (by omega)]
      exact h
  unfold ordC at h1 h2
  by_cases c3 : clearB l a 3 = true
  · rw [if_pos c3] at h2
    exact yes 3 (by omega) c3 (h2 (by omega))
  · rw [if_neg c3] at h1 h2
    refine no 3 (by omega) (by simpa using c3) ?_
    show Ev (fun k => spec_AllRuns.l2 k n l out a 2) r
    by_cases c2 : clearB l a 2 = true
    · rw [if_pos c2] at h2
      exact yes 2 (by omega) c2 (h2 (by omega))
    · rw [if_neg c2] at h1 h2
      refine no 2 (by omega) (by simpa using c2) ?_
      show Ev (fun k => spec_AllRuns.l2 k n l out a 1) r
      by_cases c1 : clearB l a 1 = true
      · rw [if_pos c1] at h2
        exact yes 1 (by omega) c1 (h2 (by omega))
      · rw [if_neg c1] at h1 h2
        refine no 1 (by omega) (by simpa using c1) ?_
        show Ev (fun k => spec_AllRuns.l2 k n l out a 0) r
        by_cases c0 : clearB l a 0 = true
        · rw [if_pos c0] at h2
          exact yes 0 (by omega) c0 (h2 (by omega))
        · rw [if_neg c0] at h1
          refine no 0 (by omega) (by simpa using c0) ?_
          show Ev (fun k => spec_AllRuns.l2 k n l out a (-1)) r
          refine Ev.step (fun k => ?_) (h1 (by omega))
          simp only [spec_AllRuns.l2]
          rw [if_neg (by omega), if_pos (by omega), wrap64_id (n := a + 1) (by omega) (by omega)]
/-- The runs of what is not taken. -/
def runsOf (n : Int) (l : List Int) : List RunW := jn (fun a => ordC (clearB l a)) n n.toNat 0 []
def takenB (n : Int) (l : List Int) : Bool := l.all (fun x => decide (0 ≤ x ∧ x ≤ n - 1))
theorem takenB_all (n : Int) (l : List Int) : (List.range l.length).all (fun i => decide (0 ≤ l.getD i 0 ∧ l.getD i 0 ≤ n - 1)) = takenB n l := range_all l 0 (fun x => decide (0 ≤ x ∧ x ≤ n - 1))
theorem spec_AllRuns_ev (n : Int) (l : List Int) (hl : l.length ≤ 1048576) : Ev (fun k => spec_AllRuns.f k n l) (if sizeB n = true ∧ takenB n l = true then (runsOf n l, true) else ([], false)) := by
  unfold spec_AllRuns.f
  rw [l02Frames_eq]
  simp only [Option.bind_some]
  have bad : ∀ i : Nat, Ev (fun k => spec_AllRuns.l0 k n l false (i : Int)) ([], false) := by
    intro i
    refine Ev.step (f := fun k => spec_AllRuns.j1 k n l false) (fun k => ?_) (Ev.of_succ (fun k => ?_))
    · simp only [spec_AllRuns.l0]
      by_cases h : (i : Int) < (l.length : Int)
      · rw [if_pos h, if_neg (by simp)]
      · rw [if_neg h]
    · simp only [spec_AllRuns.j1]
      rfl
  by_cases hs : sizeB n = true
  · obtain ⟨hn1, hn2, hn3⟩ := sizeB_bd hs
    rw [hs]
    have hw : wrap64 (n - 1) = n - 1 := wrap64_id (by omega) (by omega)
    have key := ev_all0 (fun k i => spec_AllRuns.l0 k n l true (i : Int)) l.length (fun i => decide (0 ≤ l.getD i 0 ∧ l.getD i 0 ≤ n - 1)) ([], false) (runsOf n l, true) (by
      intro i hi hb r h
      refine Ev.step (fun k => ?_) h
      simp only [spec_AllRuns.l0]
      rw [if_pos (by omega), if_pos trivial, if_pos (by omega), l01In_eq, hw]
      unfold rd
      rw [toNat_cast, hb, wrap_succ (by omega)]
      rfl) (by
      intro i hi hb
      refine Ev.step (fun k => ?_) (bad (i + 1))
      simp only [spec_AllRuns.l0]
      rw [if_pos (by omega), if_pos trivial, if_pos (by omega), l01In_eq, hw]
      unfold rd
      rw [toNat_cast, hb, wrap_succ (by omega)]
      rfl) (by
      refine Ev.step (f := fun k => spec_AllRuns.j1 k n l true) (fun k => ?_) (Ev.step (f := fun k => spec_AllRuns.l1 k n l [] 0) (fun k => ?_) ?_)
      · simp only [spec_AllRuns.l0]
        rw [if_neg (by omega)]
      · simp only [spec_AllRuns.j1]
        rw [if_pos trivial]
      · refine ev_jn (fun k out a => spec_AllRuns.l1 k n l out a) (fun a => ordC (clearB l a)) n (by omega) (fun a => ordC_bd _) (fun out => (out, true)) ?_ ?_ ?_ n.toNat 0 [] (by omega) (by omega) (by simp)
        · intro a out ha hlt hlo hneg r h
          refine Ev.step (f := fun k => spec_AllRuns.l2 k n l out a 3) (fun k => ?_) (spec_down n l hl a (by omega) out (by omega) r (fun _ => h) (fun hp => by omega))
          simp only [spec_AllRuns.l1]
          rw [if_pos hlt]
        · intro a out ha hlt hlo hpos r h
          refine Ev.step (f := fun k => spec_AllRuns.l2 k n l out a 3) (fun k => ?_) (spec_down n l hl a (by omega) out (by omega) r (fun hp => by omega) (fun _ => h))
          simp only [spec_AllRuns.l1]
          rw [if_pos hlt]
        · intro a out ha
          refine Ev.of_succ (fun k => ?_)
          simp only [spec_AllRuns.l1]
          rw [if_neg (by omega)])
    rw [takenB_all] at key
    simp only [true_and]
    exact key
  · rw [if_neg (fun h => hs h.1), show sizeB n = false by simpa using hs]
    exact bad 0
/-! The program -/
theorem index_ev (l : List Bool) (hl : l.length ≤ 1000000) (b : Bool) : ∃ r, Ev (fun k => slices_Index_bool_bool.f k l b) r ∧ decide (r ≥ 0) = l.any (fun y => b == y) := by
  have h0 : ∀ d i, i + d = l.length → ∃ r, Ev (fun k => slices_Index_bool_bool.l0 k l b (l.length : Int) (i : Int)) r ∧ decide (r ≥ 0) = (l.drop i).any (fun y => b == y) := by
    intro d
    induction d with
    | zero =>
      intro i hi
      refine ⟨-1, Ev.of_succ (fun k => ?_), ?_⟩
      · simp only [slices_Index_bool_bool.l0]
        rw [if_neg (by omega)]
      · rw [List.drop_of_length_le (by omega)]; rfl
    | succ d ih =>
      intro i hi
      have hlt : i < l.length := by omega
      have hr : rdOf false l (i : Int) = l[i] := by unfold rdOf; rw [toNat_cast]; simp [List.getD_eq_getElem?_getD, List.getElem?_eq_getElem hlt]
      rw [List.drop_eq_getElem_cons hlt, List.any_cons]
      by_cases hb : (b == l[i]) = true
      · refine ⟨i, Ev.of_succ (fun k => ?_), ?_⟩
        · simp only [slices_Index_bool_bool.l0]
          rw [if_pos (by omega), if_pos (by omega), if_pos (by omega), hr, if_pos hb]
        · rw [hb, Bool.true_or]; simp
      · obtain ⟨r, h1, h2⟩ := ih (i + 1) (by omega)
        refine ⟨r, Ev.step (fun k => ?_) h1, ?_⟩
        · simp only [slices_Index_bool_bool.l0]
          rw [if_pos (by omega), if_pos (by omega), if_pos (by omega), hr, if_neg hb, wrap_succ (by omega)]
        · rw [show (b == l[i]) = false by simpa using hb, Bool.false_or, h2]
  obtain ⟨r, h1, h2⟩ := h0 l.length 0 (by omega)
  exact ⟨r, h1, by simpa using h2⟩
theorem contains_ev (l : List Bool) (hl : l.length ≤ 1000000) (b : Bool) : Ev (fun k => slices_Contains_bool_bool.f k l b) (l.any (fun y => b == y)) := by
  unfold slices_Contains_bool_bool.f
  obtain ⟨r, h1, h2⟩ := index_ev l hl b
  refine Ev.bind h1 ?_
  rw [h2]
  exact Ev.now _
def fitB (fr : List Bool) (a o : Int) : Bool := decide (a % pw o = 0) && decide (a + pw o ≤ (fr.length : Int)) && !((fr.take (a + pw o).toNat).drop a.toNat).any (fun y => false == y)
theorem impl_fit (fr : List Bool) (hl : fr.length ≤ 1000) (a : Int) (ha : 0 ≤ a ∧ a ≤ 1000) (out : List RunW) (b o : Int) (ho : 0 ≤ o ∧ o ≤ 3) (r : List RunW)
    (h : Ev (fun k => impl_joined.l1 k fr out a (if fitB fr a o = true then o else b) (o + 1)) r) : Ev (fun k => impl_joined.l1 k fr out a b o) r := by
  have hp := pw_pos o
  have hp8 := pw_le o
  have hw : wrap64 (a + pw o) = a + pw o := wrap64_id (by omega) (by omega)
  have hw2 : wrap64 (o + 1) = o + 1 := wrap64_id (by omega) (by omega)
  unfold fitB at h
  by_cases hm : a % pw o = 0
  · by_cases hlen : a + pw o ≤ (fr.length : Int)
    · refine Ev.step (f := fun k => (slices_Contains_bool_bool.f k ((fr.take ((a + pw o) : Int).toNat).drop (a : Int).toNat) false).bind fun t135 => (if t135 = true then (impl_joined.l1 k fr out a b (o + 1)) else (impl_joined.l1 k fr out a o (o + 1)))) (fun k => ?_) ?_
      · simp only [impl_joined.l1]
        rw [shl_eq o ho, hw, hw2, if_pos ho.2, if_pos ho.1, if_neg (by omega), tmod_nonneg ha.1 hp, if_pos hm, if_pos hlen, if_pos ha.1, if_pos (by omega)]
      · refine Ev.bind (contains_ev _ (by rw [List.length_drop, List.length_take]; omega) false) ?_
        rw [decide_eq_true hm, decide_eq_true hlen] at h
        simp only [Bool.true_and] at h
        cases hc : ((fr.take ((a + pw o) : Int).toNat).drop (a : Int).toNat).any (fun y => false == y) with
        | true => simp only [hc, Bool.not_true, Bool.false_eq_true, if_false] at h; simp only [if_true]; exact h
        | false => simp only [hc, Bool.not_false, if_true] at h; simp only [Bool.false_eq_true, if_false]; exact h
    · rw [decide_eq_true hm, decide_eq_false hlen] at h
      simp only [Bool.and_false, Bool.false_and, Bool.false_eq_true, if_false] at h
      refine Ev.step (fun k => ?_) h
      simp only [impl_joined.l1]
      rw [shl_eq o ho, hw, hw2, if_pos ho.2, if_pos ho.1, if_neg (by omega), tmod_nonneg ha.1 hp, if_pos hm, if_neg hlen]
  · rw [decide_eq_false hm] at h
    simp only [Bool.false_and, Bool.false_eq_true, if_false] at h
    refine Ev.step (fun k => ?_) h
    simp only [impl_joined.l1]
    rw [shl_eq o ho, hw2, if_pos ho.2, if_pos ho.1, if_neg (by omega), tmod_nonneg ha.1 hp, if_neg hm]
theorem ordC_up (C : Int → Bool) : (if C 3 = true then (3 : Int) else (if C 2 = true then 2 else (if C 1 = true then 1 else (if C 0 = true then 0 else -1)))) = ordC C := rfl
def joinB (fr : List Bool) : List RunW := jn (fun a => ordC (fitB fr a)) (fr.length : Int) fr.length 0 []
theorem joined_ev (fr : List Bool) (hl : fr.length ≤ 100) : Ev (fun k => impl_joined.f k fr) (joinB fr) := by
  unfold impl_joined.f
  refine ev_jn (fun k out a => impl_joined.l0 k fr out a) (fun a => ordC (fitB fr a)) (fr.length : Int) (by omega) (fun a => ordC_bd _) id ?_ ?_ ?_ fr.length 0 [] (by omega) (by omega) (by simp)
  · intro a out ha hlt hlo hneg r h
    refine Ev.step (f := fun k => impl_joined.l1 k fr out a (-1) 0) (fun k => ?_) ?_
    · simp only [impl_joined.l0]
      rw [if_pos hlt]
    refine impl_fit fr (by omega) a (by omega) out _ 0 (by omega) r (impl_fit fr (by omega) a (by omega) out _ 1 (by omega) r (impl_fit fr (by omega) a (by omega) out _ 2 (by omega) r (impl_fit fr (by omega) a (by omega) out _ 3 (by omega) r ?_)))
    rw [ordC_up]
    refine Ev.step (fun k => ?_) h
    simp only [impl_joined.l1]
    rw [if_neg (by omega), if_pos hneg, wrap64_id (n := a + 1) (by omega) (by omega)]
  · intro a out ha hlt hlo hpos r h
    have hb := ordC_bd (fitB fr a)
    have hp := pw_pos (ordC (fitB fr a))
    have hp8 := pw_le (ordC (fitB fr a))
    refine Ev.step (f := fun k => impl_joined.l1 k fr out a (-1) 0) (fun k => ?_) ?_
    · simp only [impl_joined.l0]
      rw [if_pos hlt]
    refine impl_fit fr (by omega) a (by omega) out _ 0 (by omega) r (impl_fit fr (by omega) a (by omega) out _ 1 (by omega) r (impl_fit fr (by omega) a (by omega) out _ 2 (by omega) r (impl_fit fr (by omega) a (by omega) out _ 3 (by omega) r ?_)))
    rw [ordC_up]
    refine Ev.step (fun k => ?_) h
    simp only [impl_joined.l1]
    rw [if_neg (by omega), if_neg (by omega), if_pos (by omega), if_pos hpos, shl_eq _ ⟨hpos, hb.2⟩, wrap64_id (n := a + pw (ordC (fitB fr a))) (by omega) (by omega)]
  · intro a out ha
    refine Ev.of_succ (fun k => ?_)
    simp only [impl_joined.l0]
    rw [if_neg (by omega)]
    rfl
/-- Who is free, as a row. -/
def freeR (n : Nat) (l : List Int) : List Bool := (List.range n).map (fun j : Nat => !inB l (j : Int))
theorem freeR_len (n : Nat) (l : List Int) : (freeR n l).length = n := by simp [freeR]
theorem freeR_at (n : Nat) (l : List Int) (j : Nat) (h : j < n) : (freeR n l)[j]? = some (!inB l (j : Int)) := by simp [freeR, h]
theorem freeR_set (n : Nat) (l : List Int) (x : Int) (hx : 0 ≤ x) : (freeR n l).set x.toNat false = freeR n (l ++ [x]) := by
  apply List.ext_getElem?
  intro j
  by_cases hj : j < n
  · rw [List.getElem?_set, freeR_at n l j hj, freeR_at n (l ++ [x]) j hj, freeR_len]
    unfold inB
    rw [List.any_append]
    by_cases e : x.toNat = j
    · rw [if_pos e, if_pos (by omega)]
      have : x = (j : Int) := by omega
      simp [this]
    · rw [if_neg e]
      have : ¬ x = (j : Int) := by omega
      simp [this]
  · rw [List.getElem?_eq_none (by rw [List.length_set, freeR_len]; omega), List.getElem?_eq_none (by rw [freeR_len]; omega)]
theorem fit_clear (n : Int) (hn : n ≤ 32) (hn8 : n % 8 = 0) (l : List Int) (a : Int) (ha : 0 ≤ a) (han : a < n) (o : Int) : fitB (freeR n.toNat l) a o = clearB l a o := by
  unfold fitB clearB
  have hp := pw_pos o
  rw [freeR_len]
  by_cases hm : a % pw o = 0
  · have hle : a + pw o ≤ n := by
      have : pw o = 1 ∨ pw o = 2 ∨ pw o = 4 ∨ pw o = 8 := by unfold pw; repeat' split <;> omega
      rcases this with e | e | e | e <;> rw [e] at hm ⊢ <;> omega
    rw [decide_eq_true hm, decide_eq_true (show a + pw o ≤ (n.toNat : Int) by omega), Bool.true_and, Bool.true_and, Bool.and_true]
    have e : ((freeR n.toNat l).take (a + pw o).toNat).drop a.toNat = (List.range (pw o).toNat).map (fun j : Nat => !inB l (a + (j : Int))) := by
      apply List.ext_getElem?
      intro j
      by_cases hj : j < (pw o).toNat
      · rw [List.getElem?_drop, List.getElem?_take_of_lt (by omega), freeR_at _ _ _ (by omega)]
        simp only [List.getElem?_map, List.getElem?_range hj, Option.map_some]
        rw [show ((a.toNat + j : Nat) : Int) = a + (j : Int) by omega]
      · rw [List.getElem?_eq_none (by rw [List.length_drop, List.length_take, freeR_len]; omega), List.getElem?_eq_none (by simp; omega)]
    rw [e, List.any_map, List.all_eq_not_any_not]
    congr 1
    apply List.any_congr rfl
    intro x
    simp
  · rw [decide_eq_false hm]; simp
theorem joinB_free (n : Int) (h : sizeB n = true) (l : List Int) : joinB (freeR n.toNat l) = runsOf n l := by
  obtain ⟨h1, h2, h3⟩ := sizeB_bd h
  unfold joinB runsOf
  rw [freeR_len, show ((n.toNat : Nat) : Int) = n by omega]
  refine jn_congr _ _ n (fun a ha han => ?_) _ _ _ (by omega)
  unfold ordC
  rw [fit_clear n h2 h3 l a ha han, fit_clear n h2 h3 l a ha han, fit_clear n h2 h3 l a ha han, fit_clear n h2 h3 l a ha han]
def setAll (l : List Int) (acc : List Bool) : List Bool := l.foldl (fun s x => s.set x.toNat false) acc
theorem setAll_len (l : List Int) (acc : List Bool) : (setAll l acc).length = acc.length := by
  unfold setAll
  induction l generalizing acc with
  | nil => rfl
  | cons x l ih => rw [List.foldl_cons, ih, List.length_set]
theorem setAll_succ (l : List Int) (acc : List Bool) (i : Nat) (h : i < l.length) : setAll (l.take (i + 1)) acc = (setAll (l.take i) acc).set (l.getD i 0).toNat false := by
  unfold setAll
  rw [List.take_succ_eq_append_getElem h, List.foldl_append]
  simp [List.getD_eq_getElem?_getD, List.getElem?_eq_getElem h]
theorem setAll_free (n : Nat) (l l' : List Int) (h : ∀ x ∈ l, 0 ≤ x) : setAll l (freeR n l') = freeR n (l' ++ l) := by
  induction l generalizing l' with
  | nil => rw [List.append_nil]; rfl
  | cons x l ih =>
    have := ih (l' ++ [x]) (fun y hy => h y (List.mem_cons_of_mem _ hy))
    rw [List.append_assoc] at this
    rw [show l' ++ x :: l = l' ++ ([x] ++ l) from rfl, ← this, ← freeR_set n l' x (h x List.mem_cons_self)]
    rfl
theorem impl_AllRuns_ev (n : Int) (l : List Int) (hl : l.length ≤ 1048576) : Ev (fun k => impl_AllRuns.f k n l) (if sizeB n = true ∧ takenB n l = true then (runsOf n l, true) else ([], false)) := by
  unfold impl_AllRuns.f
  rw [isSize_eq]
  simp only [Option.bind_some]
  by_cases hs : sizeB n = true
  · obtain ⟨hn1, hn2, hn3⟩ := sizeB_bd hs
    simp only [hs, if_true, if_pos (show 0 ≤ n by omega), if_pos (show n.toNat ≤ 281474976710656 by omega), Option.bind_some, true_and, List.length_replicate]
    have hw : wrap64 (n - 1) = n - 1 := wrap64_id (by omega) (by omega)
    have key := ev_copy0 (fun k acc i => impl_AllRuns.l0 k n l acc (n.toNat : Int) (i : Int)) n.toNat (fun _ => true) (fun acc => if takenB n l = true then (joinB (setAll l acc), true) else ([], false)) (by
      intro i acc hi ha r h
      refine Ev.step (fun k => ?_) h
      simp only [impl_AllRuns.l0]
      rw [if_pos (by omega), if_pos (by omega), if_pos (by omega), wrap_succ (by omega), toNat_cast]) (by
      intro acc hacc
      refine Ev.step (f := fun k => impl_AllRuns.l1 k n acc l (l.length : Int) 0) (fun k => ?_) ?_
      · simp only [impl_AllRuns.l0]
        rw [if_neg (by omega)]
      · have key := ev_all0 (fun k i => impl_AllRuns.l1 k n (setAll (l.take i) acc) l (l.length : Int) (i : Int)) l.length (fun i => decide (0 ≤ l.getD i 0 ∧ l.getD i 0 ≤ n - 1)) ([], false) (joinB (setAll l acc), true) (by
          intro i hi hb r h
          rw [setAll_succ l acc i hi] at h
          refine Ev.step (fun k => ?_) h
          simp only [decide_eq_true_eq] at hb
          simp only [impl_AllRuns.l1]
          rw [if_pos (by omega), if_pos (by omega), if_pos (by omega), within_eq, hw]
          unfold rd
          rw [toNat_cast]
          simp only [Option.bind_some]
          rw [if_pos (by simpa using hb), if_pos hb.1, if_pos (by rw [setAll_len]; omega), wrap_succ (by omega)]) (by
          intro i hi hb
          refine Ev.of_succ (fun k => ?_)
          simp only [impl_AllRuns.l1]
          rw [if_pos (by omega), if_pos (by omega), if_pos (by omega), within_eq, hw]
          unfold rd
          rw [toNat_cast, hb]
          rfl) (by
          refine Ev.step (f := fun k => (impl_joined.f k (setAll l acc)).bind fun t147 => (some (t147, true))) (fun k => ?_) ?_
          · simp only [impl_AllRuns.l1]
            rw [if_neg (by omega), List.take_length]
          · exact Ev.bind (joined_ev _ (by rw [setAll_len]; omega)) (Ev.now _))
        rw [takenB_all] at key
        exact key) (List.replicate n.toNat false) (by simp)
    have e0 : (List.range n.toNat).map (fun _ : Nat => true) = freeR n.toNat [] := by
      unfold freeR inB
      simp
    rw [e0] at key
    by_cases ht : takenB n l = true
    · simp only [ht, if_true] at key ⊢
      rw [setAll_free n.toNat l [] (fun x hx => by unfold takenB at ht; have := List.all_eq_true.1 ht x hx; simp only [decide_eq_true_eq] at this; exact this.1), List.nil_append, joinB_free n hs] at key
      exact key
    · simp only [ht] at key ⊢
      exact key
  · rw [if_neg (fun h => hs h.1), show sizeB n = false by simpa using hs]
    exact Ev.now _

theorem jn_len (N : Int → Int) (n : Int) : ∀ f a out, (jn N n f a out).length ≤ out.length + f := by
  intro f
  induction f with
  | zero => intro a out; simp [jn]
  | succ f ih =>
    intro a out
    unfold jn
    split
    · split
      · have := ih (a + 1) out; omega
      · have := ih (a + pw (N a)) (out ++ [⟨a, N a⟩]); simp only [List.length_append, List.length_cons, List.length_nil] at this; omega
    · omega
theorem FnExactAllRuns (a0 : Int) (_w0 : (Lit.int .i64 a0).wf = true) (l1 : List Int) (g1 : (l1.length ≤ maxLen ∧ ∀ y0 ∈ l1, (Lit.int .i64 y0).wf = true)) : ∃ k, laws_FnExactAllRuns.f k a0 l1 = some true := by
  refine Ev.rounds (g := fun k => laws_FnExactAllRuns.f k a0 l1) ?_
  unfold laws_FnExactAllRuns.f
  by_cases h : (l1.length : Int) > 1048576
  · simp only [if_pos h]; exact Ev.now true
  · simp only [if_neg h]
    have hl : l1.length ≤ 1048576 := by omega
    have hi := impl_AllRuns_ev a0 l1 hl
    have hs := spec_AllRuns_ev a0 l1 hl
    have hx : (if sizeB a0 = true ∧ takenB a0 l1 = true then (runsOf a0 l1, true) else ([], false)).1.length ≤ 256 := by
      by_cases hb : sizeB a0 = true ∧ takenB a0 l1 = true
      · rw [if_pos hb]
        have := jn_len (fun a => ordC (clearB l1 a)) a0 a0.toNat 0 []
        have h3 := sizeB_bd hb.1
        simp only [List.length_nil] at this
        show (runsOf a0 l1).length ≤ 256
        unfold runsOf
        omega
      · rw [if_neg hb]; simp
    generalize (if sizeB a0 = true ∧ takenB a0 l1 = true then (runsOf a0 l1, true) else ([], false)) = x at hi hs hx
    refine Ev.bind (toIntS_ev l1 hl) ?_
    refine Ev.bind hs ?_
    refine Ev.bind (toIntS_ev l1 hl) ?_
    refine Ev.bind hi ?_
    refine Ev.bind (eqRunS_refl x.1 (by omega)) ?_
    simp only [if_true]
    refine Ev.step (f := fun k => (laws_toIntS.f k l1).bind fun t177 => ((laws_eqIntS.f k l1 t177).bind fun t180 => (if t180 = true then ((laws_markIntS.f k l1 1).bind fun bt181 => (if bt181.1 < 0 then (laws_FnExactAllRuns.j1 k a0 l1 x.1 x.2 x.1 true) else ((laws_eqRunS.f k x.1 x.1).bind fun t183 => (if t183 = true then (laws_FnExactAllRuns.j1 k a0 l1 x.1 x.2 x.1 (x.2 != x.2)) else (laws_FnExactAllRuns.j1 k a0 l1 x.1 x.2 x.1 true))))) else (some false)))) (fun k => ?_) ?_
    · simp only [laws_FnExactAllRuns.j0]
      rw [if_neg (by simp)]
    refine Ev.bind (toIntS_ev l1 hl) ?_
    refine Ev.bind (eqIntS_refl l1 hl) ?_
    simp only [if_true]
    refine Ev.bind (markIntS_ev l1 hl 1 (by omega) (by omega)) ?_
    simp only [if_neg (show ¬ (1 + (l1.length : Int)) < 0 by omega)]
    refine Ev.bind (eqRunS_refl x.1 (by omega)) ?_
    simp only [if_true]
    refine Ev.step (f := fun k => (laws_markRunS.f k x.1 1).bind fun bt184 => ((laws_heldRunS.f k bt184.2 1).bind fun t186 => (if t186 < 0 then (some false) else (if t186 = bt184.1 then ((laws_toIntS.f k l1).bind fun t187 => ((impl_AllRuns.f k a0 t187).bind fun bt190 => ((laws_eqRunS.f k bt190.1 x.1).bind fun t194 => (if t194 = true then (laws_FnExactAllRuns.j2 k bt184.2 bt184.1 (bt190.2 != x.2)) else (laws_FnExactAllRuns.j2 k bt184.2 bt184.1 true))))) else (some false))))) (fun k => ?_) ?_
    · simp only [laws_FnExactAllRuns.j1]
      rw [if_neg (by simp)]
    refine Ev.bind (markRunS_ev x.1 (by omega) 1 (by omega) (by omega)) ?_
    have hh := heldRunS_ev x.1.length (by omega) 1 (by omega) (by omega)
    refine Ev.bind hh ?_
    simp only [if_neg (show ¬ (1 + 2 * (x.1.length : Int)) < 0 by omega), if_true]
    refine Ev.bind (toIntS_ev l1 hl) ?_
    refine Ev.bind hi ?_
    refine Ev.bind (eqRunS_refl x.1 (by omega)) ?_
    simp only [if_true]
    refine Ev.step (f := fun k => (laws_heldRunS.f k (upRun 1 x.1.length) 1).bind fun t195 => (if t195 < 0 then (some false) else (if t195 = (1 + 2 * (x.1.length : Int)) then (some true) else (some false)))) (fun k => ?_) ?_
    · simp only [laws_FnExactAllRuns.j2]
      rw [if_neg (by simp)]
      rfl
    refine Ev.bind hh ?_
    simp only [if_neg (show ¬ (1 + 2 * (x.1.length : Int)) < 0 by omega), if_true]
    exact Ev.now true

end Go.Proofs.Ytdpejnckojhgjaa.Pure
