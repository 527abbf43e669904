/- BestRun answers as the reference at all arguments: the plain half. No condition. -/
import Derived.Test.YtpkhoanaifpopaaP0
import Derived.Test.YtpkhoanaifpopaaP2
import Derived.Test.YtpkhoanaifpopaaP3
import Derived.Test.YtpkhoanaifpopaaP4
import Derived.Test.YtpkhoanaifpopaaP5
import Derived.Test.YtpkhoanaifpopaaP6
import Derived.Test.YtpkhoanaifpopaaP7
import Derived.Test.YtpkhoanaifpopaaP8
import Derived.Test.YtpkhoanaifpopaaP9
import Derived.Test.YtpkhoanaifpopaaP10
import Derived.Test.YtpkhoanaifpopaaP11
import Derived.Test.YtpkhoanaifpopaaP12
import Derived.Test.YtpkhoanaifpopaaP13
import Derived.Test.YtpkhoanaifpopaaP14
import Derived.Test.YtpkhoanaifpopaaP15
import Derived.Test.YtpkhoanaifpopaaP16
import Derived.Test.YtpkhoanaifpopaaP17
import Derived.Test.YtpkhoanaifpopaaP46
import Derived.Test.YtpkhoanaifpopaaP47
import Derived.Test.YtpkhoanaifpopaaP48
import Derived.Test.YtpkhoanaifpopaaAid
namespace Go.Proofs.Ytpkhoanaifpopaa.Pure
open Go.RowKit Go.Proofs.Ytpkhoanaifpopaa.P Go.Proofs.YtpkhoanaifpopaaW.PrintWords Go.Proofs.YtpkhoanaifpopaaW.PrintLast Go.Proofs.YtpkhoanaifpopaaW.PrintMore Go.Proofs.Ytpkhoanaifpopaa.Aid
set_option linter.unusedVariables false
set_option linter.unusedSimpArgs false

theorem l01In_eq (a b c : Int) : spec_l01In.f a b c = some (decide (b ≤ a ∧ a ≤ c)) := in_dec a b c
theorem within_eq (a b c : Int) : impl_within.f a b c = some (decide (b ≤ a ∧ a ≤ c)) := in_dec a b c
def sizeB (n : Int) : Bool := decide (8 ≤ n ∧ n ≤ 32) && decide (n % 8 = 0)
theorem sizeB_bd {n : Int} (h : sizeB n = true) : 8 ≤ n ∧ n ≤ 32 ∧ n % 8 = 0 := by
  simp only [sizeB, Bool.and_eq_true, decide_eq_true_eq] at h
  exact ⟨h.1.1, h.1.2, h.2⟩
theorem l02Frames_eq (n : Int) : spec_l02Frames.f n = some (sizeB n) := by
  unfold spec_l02Frames.f sizeB
  rw [l01In_eq]
  simp only [Option.bind_some]
  by_cases h : 8 ≤ n ∧ n ≤ 32
  · rw [if_pos (by simpa using h), tmod_nonneg (by omega) (by omega), decide_eq_true h]; rfl
  · rw [if_neg (by simpa using h), decide_eq_false h]; rfl
theorem isSize_eq (n : Int) : impl_isSize.f n = some (sizeB n) := by
  unfold impl_isSize.f sizeB
  rw [within_eq]
  simp only [Option.bind_some]
  by_cases h : 8 ≤ n ∧ n ≤ 32
  · rw [if_pos (by simpa using h), tmod_nonneg (by omega) (by omega), decide_eq_true h]; rfl
  · rw [if_neg (by simpa using h), decide_eq_false h]; rfl
abbrev RunW := S88
abbrev RunL := S92
def toRun (r : RunL) : RunW := ⟨r.f0, r.f1⟩
theorem rdRL (l : List RunL) (i : Nat) : rd_T92 l (i : Int) = l.getD i z92 := by unfold rd_T92; rw [toNat_cast]
theorem rdRW (l : List RunW) (i : Nat) : rd_T88 l (i : Int) = l.getD i z88 := by unfold rd_T88; rw [toNat_cast]
theorem szRunS_eq (l : List RunL) (hl : l.length ≤ maxLen) : laws_szRunS.f l 1048576 = some (if (l.length : Int) ≤ 1048576 then (1048576 - (l.length : Int) : Int) else (-1 : Int)) := by
  unfold maxLen at hl
  unfold laws_szRunS.f
  have e : wrap64 (1048576 - (l.length : Int)) = 1048576 - l.length := by unfold wrap64; omega
  rw [e]
  by_cases h : (l.length : Int) ≤ 1048576
  · rw [if_neg (by omega), if_pos h]
  · rw [if_pos (by omega), if_neg h]
theorem map_getD {α β : Type} (f : α → β) (l : List α) (d : α) : (List.range l.length).map (fun i => f (l.getD i d)) = l.map f := by
  rw [show (fun i => f (l.getD i d)) = f ∘ (fun i => l.getD i d) from rfl, ← List.map_map, range_map_getD]
theorem toRunS_ev (l : List RunL) (hl : l.length ≤ 1048576) : Ev (fun k => laws_toRunS.f k l) (l.map toRun) := by
  have key := ev_copy0 (fun k acc i => laws_toRunS.l0 k l acc (i : Int)) l.length (fun i => toRun (l.getD i z92)) id (by
    intro i acc hi ha r h
    refine Ev.step (fun k => ?_) h
    simp only [laws_toRunS.l0]
    rw [if_pos (by omega), if_pos (by omega), rdRL]
    unfold laws_toRun.f
    simp only [Option.bind_some]
    rw [if_pos (by omega), wrap_succ (by omega), toNat_cast]
    rfl) (by
    intro acc ha
    refine Ev.of_succ (fun k => ?_)
    simp only [laws_toRunS.l0]
    rw [if_neg (by omega)]
    rfl) (List.replicate l.length z88) (by simp)
  rw [map_getD toRun l z92] at key
  refine Ev.congr (fun k => ?_) key
  unfold laws_toRunS.f
  rw [if_pos (by omega), if_pos (by omega), toNat_cast]
  rfl
theorem eqRunS_refl (l : List RunW) (hl : l.length ≤ 1048576) : Ev (fun k => laws_eqRunS.f k l l) true := by
  have key := ev_all0 (fun k i => laws_eqRunS.l0 k l l (i : Int)) l.length (fun _ => true) false true (by
    intro i hi _ r h
    refine Ev.step (fun k => ?_) h
    simp only [laws_eqRunS.l0]
    rw [if_pos (by omega), if_pos (by omega), if_pos (by omega)]
    unfold laws_eqRun.f
    simp only [if_true, Option.bind_some]
    rw [wrap_succ (by omega)]) (by intro i _ h; cases h) (by
    refine Ev.of_succ (fun k => ?_)
    simp only [laws_eqRunS.l0]
    rw [if_neg (by omega)])
  rw [if_pos (by simp)] at key
  refine Ev.congr (fun k => ?_) key
  unfold laws_eqRunS.f
  rw [if_pos rfl]
  rfl
/-- 2 to the power of an order. -/
def pw (o : Int) : Int := if o = 0 then 1 else if o = 1 then 2 else if o = 2 then 4 else 8
theorem pw_pos (o : Int) : 0 < pw o := by unfold pw; repeat' split <;> omega
theorem pw_le (o : Int) : pw o ≤ 8 := by unfold pw; repeat' split <;> omega
theorem l03Pow_ev (o : Int) (h : 0 ≤ o ∧ o ≤ 3) : Ev (fun k => spec_l03Pow.f k o) (pw o) := by
  have hc : o = 0 ∨ o = 1 ∨ o = 2 ∨ o = 3 := by omega
  rcases hc with rfl | rfl | rfl | rfl <;> exact Ev.of (fun k => spec_l03Pow.mono _ k) (k := 9) (by decide +kernel)
theorem shl_eq (o : Int) (h : 0 ≤ o ∧ o ≤ 3) : shl .i64 1 o = pw o := by
  have hc : o = 0 ∨ o = 1 ∨ o = 2 ∨ o = 3 := by omega
  rcases hc with rfl | rfl | rfl | rfl <;> decide +kernel
def oneB (n : Int) (r : RunW) : Bool := decide (0 ≤ r.f1 ∧ r.f1 ≤ 3) && decide (0 ≤ r.f0 ∧ r.f0 ≤ wrap64 (n - pw r.f1)) && decide (r.f0 % pw r.f1 = 0)
theorem oneB_bd {n : Int} {r : RunW} (h : oneB n r = true) : (0 ≤ r.f1 ∧ r.f1 ≤ 3) ∧ (0 ≤ r.f0 ∧ r.f0 ≤ wrap64 (n - pw r.f1)) ∧ r.f0 % pw r.f1 = 0 := by
  simp only [oneB, Bool.and_eq_true, decide_eq_true_eq] at h
  exact ⟨h.1.1, h.1.2, h.2⟩
theorem wrap_size {n : Int} (hn : 8 ≤ n ∧ n ≤ 32) (o : Int) : wrap64 (n - pw o) = n - pw o := by have := pw_pos o; have := pw_le o; unfold wrap64; omega
theorem l03One_ev (n : Int) (hn : 8 ≤ n ∧ n ≤ 32) (a o : Int) : Ev (fun k => spec_l03One.f k n a o) (oneB n ⟨a, o⟩) := by
  unfold spec_l03One.f oneB
  rw [l01In_eq]
  simp only [Option.bind_some]
  by_cases ho : 0 ≤ o ∧ o ≤ 3
  · rw [decide_eq_true ho]
    simp only [if_true, Bool.true_and]
    have hp := pw_pos o
    by_cases ha : 0 ≤ a
    · simp only [if_pos (show a ≥ 0 from ha)]
      refine Ev.bind (l03Pow_ev o ho) ?_
      simp only [if_neg (show ¬ pw o = 0 by omega), tmod_nonneg ha hp]
      by_cases hm : a % pw o = 0
      · simp only [if_pos hm, decide_eq_true hm, Bool.and_true]
        refine Ev.bind (l03Pow_ev o ho) ?_
        have e : decide (0 ≤ a ∧ a ≤ wrap64 (n - pw o)) = decide (a ≤ wrap64 (n - pw o)) := by simp [ha]
        rw [e]; exact Ev.now _
      · simp only [if_neg hm, decide_eq_false hm, Bool.and_false]; exact Ev.now _
    · simp only [if_neg (show ¬ a ≥ 0 from ha), show ¬ (0 ≤ a ∧ a ≤ wrap64 (n - pw o)) from fun h => ha h.1, decide_false, Bool.false_and]; exact Ev.now _
  · rw [decide_eq_false ho]
    simp only [Bool.false_eq_true, if_false, Bool.false_and]; exact Ev.now _
theorem runOk_eq (n a o : Int) : impl_runOk.f n a o = some (oneB n ⟨a, o⟩) := by
  unfold impl_runOk.f oneB
  rw [within_eq]
  simp only [Option.bind_some]
  by_cases ho : 0 ≤ o ∧ o ≤ 3
  · rw [if_pos (by simpa using ho), if_pos ho.1, shl_eq o ho, within_eq, decide_eq_true ho]
    simp only [Option.bind_some, Bool.true_and]
    have hp := pw_pos o
    by_cases ha : 0 ≤ a ∧ a ≤ wrap64 (n - pw o)
    · rw [if_pos (by simpa using ha), if_neg (by omega), tmod_nonneg ha.1 hp, decide_eq_true ha, Bool.true_and]; rfl
    · rw [if_neg (by simpa using ha), decide_eq_false ha, Bool.false_and]
  · rw [if_neg (by simpa using ho), decide_eq_false ho]; simp
def broB (a b : RunW) : Bool := decide (a.f1 = b.f1) && decide (a.f1 < 3) && decide (a.f0 % (2 * pw a.f1) = 0) && decide (b.f0 = a.f0 + pw a.f1)
abbrev zr : RunW := z88
def runAt (l : List RunW) (i : Nat) : RunW := l.getD i zr
def apB (n : Int) (l : List RunW) (i : Nat) : Bool := oneB n (runAt l i) && (decide (i = 0) || decide (wrap64 ((runAt l (i - 1)).f0 + pw (runAt l (i - 1)).f1) ≤ (runAt l i).f0))
def okAt (n : Int) (l : List RunW) (i : Nat) : Bool := apB n l i && (decide (i = 0) || !broB (runAt l (i - 1)) (runAt l i))
def runsB (n : Int) (l : List RunW) : Bool := sizeB n && (List.range l.length).all (okAt n l)
theorem wrap_pred {i : Nat} (h0 : 0 < i) (h : i < 9223372036854775807) : wrap64 ((i : Int) - 1) = ((i - 1 : Nat) : Int) := by unfold wrap64; omega
theorem apart_ev (n : Int) (l : List RunW) (hl : l.length ≤ 1048576) : Ev (fun k => impl_apart.f k n l) (sizeB n && (List.range l.length).all (apB n l)) := by
  have key := ev_allp (fun k i => impl_apart.l0 k n l l (l.length : Int) (i : Int)) l.length (apB n l) false (sizeB n) (by
    intro i hi hprev hb r h
    refine Ev.step (fun k => ?_) h
    simp only [apB, Bool.and_eq_true, Bool.or_eq_true, decide_eq_true_eq] at hb
    simp only [impl_apart.l0]
    rw [if_pos (by omega), if_pos (by omega), if_pos (by omega), rdRW, runOk_eq, show (l.getD i zr) = runAt l i from rfl]
    simp only [Option.bind_some]
    rw [if_pos hb.1]
    by_cases h0 : i = 0
    · subst h0; rw [if_neg (by omega), wrap_succ (by omega)]
    · have hp := hprev (i - 1) (by omega)
      simp only [apB, Bool.and_eq_true] at hp
      have hq := oneB_bd hp.1
      rw [if_pos (by omega), wrap_pred (by omega) (by omega), if_pos (by omega), if_pos (by omega), rdRW, show (l.getD (i - 1) zr) = runAt l (i - 1) from rfl, if_pos hq.1.1, shl_eq _ hq.1, if_neg (by rcases hb.2 with h | h <;> omega), wrap_succ (by omega)]) (by
    intro i hi hprev hb
    refine Ev.of_succ (fun k => ?_)
    simp only [impl_apart.l0]
    rw [if_pos (by omega), if_pos (by omega), if_pos (by omega), rdRW, runOk_eq, show (l.getD i zr) = runAt l i from rfl]
    simp only [Option.bind_some]
    by_cases h1 : oneB n (runAt l i) = true
    · rw [if_pos h1]
      simp only [apB, h1, Bool.true_and, Bool.or_eq_false_iff, decide_eq_false_iff_not] at hb
      have hp := hprev (i - 1) (by omega)
      simp only [apB, Bool.and_eq_true] at hp
      have hq := oneB_bd hp.1
      rw [if_pos (by omega), wrap_pred (by omega) (by omega), if_pos (by omega), if_pos (by omega), rdRW, show (l.getD (i - 1) zr) = runAt l (i - 1) from rfl, if_pos hq.1.1, shl_eq _ hq.1, if_pos (by omega)]
    · rw [if_neg h1]) (by
    intro _
    refine Ev.of_succ (fun k => ?_)
    simp only [impl_apart.l0]
    rw [if_neg (by omega), isSize_eq]
    rfl)
  have e : (if (List.range l.length).all (apB n l) = true then sizeB n else false) = (sizeB n && (List.range l.length).all (apB n l)) := by
    cases (List.range l.length).all (apB n l) <;> simp
  rw [e] at key
  exact key
/-- What stands at one another's place: the brother above. -/
theorem xor_bro : ∀ a : Fin 32, ∀ o : Fin 3, a.val % 2 ^ o.val = 0 → Go.bits .xor .i64 (a.val : Int) (pw (o.val : Int)) = (if a.val % (2 * 2 ^ o.val) = 0 then (a.val : Int) + pw (o.val : Int) else (a.val : Int) - pw (o.val : Int)) := by decide +kernel
theorem xor_bro' (a o : Int) (ha : 0 ≤ a ∧ a < 32) (ho : 0 ≤ o ∧ o < 3) (hm : a % pw o = 0) : Go.bits .xor .i64 a (pw o) = (if a % (2 * pw o) = 0 then a + pw o else a - pw o) := by
  obtain ⟨n, rfl⟩ := Int.eq_ofNat_of_zero_le ha.1
  obtain ⟨m, rfl⟩ := Int.eq_ofNat_of_zero_le ho.1
  have hc : m = 0 ∨ m = 1 ∨ m = 2 := by omega
  rcases hc with rfl | rfl | rfl
  · have hp : pw ((0 : Nat) : Int) = 1 := by decide
    have h := xor_bro ⟨n, by omega⟩ ⟨0, by omega⟩ (by show n % 2 ^ 0 = 0; omega)
    simp only [hp, Nat.pow_zero, Nat.mul_one] at h hm ⊢
    rw [h]
    split <;> split <;> omega
  · have hp : pw ((1 : Nat) : Int) = 2 := by decide
    have h := xor_bro ⟨n, by omega⟩ ⟨1, by omega⟩ (by show n % 2 ^ 1 = 0; rw [hp] at hm; omega)
    simp only [hp, Nat.pow_one, show 2 * 2 = 4 from rfl] at h hm ⊢
    rw [h]
    split <;> split <;> omega
  · have hp : pw ((2 : Nat) : Int) = 4 := by decide
    have h := xor_bro ⟨n, by omega⟩ ⟨2, by omega⟩ (by show n % 2 ^ 2 = 0; rw [hp] at hm; omega)
    simp only [hp, show 2 * 2 ^ 2 = 8 from rfl] at h hm ⊢
    rw [h]
    split <;> split <;> omega
theorem broB_iff {n : Int} (hn : 8 ≤ n ∧ n ≤ 32) {a b : RunW} (ha : oneB n a = true) (hab : a.f0 + pw a.f1 ≤ b.f0) (h3 : a.f1 < 3) :
    (Go.bits .xor .i64 a.f0 (pw a.f1) = b.f0) ↔ (a.f0 % (2 * pw a.f1) = 0 ∧ b.f0 = a.f0 + pw a.f1) := by
  have hq := oneB_bd ha
  rw [wrap_size hn] at hq
  have hp := pw_pos a.f1
  rw [xor_bro' a.f0 a.f1 (by omega) (by omega) hq.2.2]
  split <;> constructor <;> intro h <;> omega
theorem impl_RunsOk_ev (n : Int) (l : List RunW) (hl : l.length ≤ 1048576) : Ev (fun k => impl_RunsOk.f k n l) (runsB n l) := by
  unfold impl_RunsOk.f
  refine Ev.bind (apart_ev n l hl) ?_
  cases hs : sizeB n with
  | false =>
    simp only [Bool.false_and, Bool.false_eq_true, if_false]
    have : runsB n l = false := by unfold runsB; rw [hs, Bool.false_and]
    rw [this]; exact Ev.now _
  | true =>
    have hn := sizeB_bd hs
    simp only [Bool.true_and]
    cases ha : (List.range l.length).all (apB n l) with
    | false =>
      simp only [Bool.false_eq_true, if_false]
      have : runsB n l = false := by
        unfold runsB
        rw [hs, Bool.true_and]
        rw [List.all_eq_false] at ha ⊢
        obtain ⟨x, hx, hb⟩ := ha
        exact ⟨x, hx, by unfold okAt; rw [Bool.eq_false_iff.2 hb, Bool.false_and]; simp⟩
      rw [this]; exact Ev.now _
    | true =>
      simp only [if_true]
      have hap : ∀ i, i < l.length → apB n l i = true := fun i hi => List.all_eq_true.1 ha i (List.mem_range.2 hi)
      have hone : ∀ i, i < l.length → oneB n (runAt l i) = true := fun i hi => by have := hap i hi; simp only [apB, Bool.and_eq_true] at this; exact this.1
      have hle : ∀ i, i + 1 < l.length → (runAt l i).f0 + pw (runAt l i).f1 ≤ (runAt l (i + 1)).f0 := by
        intro i hi
        have := hap (i + 1) hi
        have h1 := oneB_bd (hone i (by omega))
        rw [wrap_size ⟨hn.1, hn.2.1⟩] at h1
        have hp := pw_pos (runAt l i).f1
        simp only [apB, Bool.and_eq_true, Bool.or_eq_true, decide_eq_true_eq, Nat.add_sub_cancel] at this
        rcases this.2 with h | h
        · omega
        · rwa [wrap64_id (by omega) (by omega)] at h
      have key := ev_all0 (fun k i => impl_RunsOk.l0 k l ((i + 1 : Nat) : Int)) (l.length - 1) (fun i => !broB (runAt l i) (runAt l (i + 1))) false true (by
        intro i hi hb r h
        refine Ev.step (fun k => ?_) h
        have hb : broB (runAt l i) (runAt l (i + 1)) = false := by simpa using hb
        have h1 := oneB_bd (hone i (by omega))
        have hxor := @broB_iff n ⟨hn.1, hn.2.1⟩ _ _ (hone i (by omega)) (hle i (by omega))
        simp only [impl_RunsOk.l0]
        rw [if_pos (by omega), wrap_pred (by omega) (by omega), if_pos (by omega), if_pos (by omega), if_pos (by omega), rdRW, rdRW, show (l.getD (i + 1 - 1) zr) = runAt l i from rfl, show (l.getD (i + 1) zr) = runAt l (i + 1) from rfl, wrap_succ (by omega)]
        by_cases e1 : (runAt l i).f1 = (runAt l (i + 1)).f1
        · rw [if_pos e1]
          by_cases e2 : (runAt l i).f1 < 3
          · rw [if_pos e2, if_pos h1.1.1, shl_eq _ h1.1, if_neg]
            intro he
            have := (hxor e2).1 he
            simp only [broB, decide_eq_true e1, decide_eq_true e2, decide_eq_true this.1, decide_eq_true this.2] at hb
            cases hb
          · rw [if_neg e2]
        · rw [if_neg e1]) (by
        intro i hi hb
        refine Ev.of_succ (fun k => ?_)
        have hb : broB (runAt l i) (runAt l (i + 1)) = true := by simpa using hb
        simp only [broB, Bool.and_eq_true, decide_eq_true_eq] at hb
        have h1 := oneB_bd (hone i (by omega))
        have hxor := @broB_iff n ⟨hn.1, hn.2.1⟩ _ _ (hone i (by omega)) (hle i (by omega)) hb.1.1.2
        simp only [impl_RunsOk.l0]
        rw [if_pos (by omega), wrap_pred (by omega) (by omega), if_pos (by omega), if_pos (by omega), if_pos (by omega), rdRW, rdRW, show (l.getD (i + 1 - 1) zr) = runAt l i from rfl, show (l.getD (i + 1) zr) = runAt l (i + 1) from rfl]
        rw [if_pos hb.1.1.1, if_pos hb.1.1.2, if_pos h1.1.1, shl_eq _ h1.1, if_pos (hxor.2 ⟨hb.1.2, hb.2⟩)]) (by
        refine Ev.of_succ (fun k => ?_)
        simp only [impl_RunsOk.l0]
        rw [if_neg (by omega)])
      have e : (if (List.range (l.length - 1)).all (fun i => !broB (runAt l i) (runAt l (i + 1))) = true then true else false) = runsB n l := by
        unfold runsB
        rw [hs, Bool.true_and, Bool.eq_iff_iff]
        have hx : ((if (List.range (l.length - 1)).all (fun i => !broB (runAt l i) (runAt l (i + 1))) = true then true else false) = true) ↔ (List.range (l.length - 1)).all (fun i => !broB (runAt l i) (runAt l (i + 1))) = true := by
          cases (List.range (l.length - 1)).all (fun i => !broB (runAt l i) (runAt l (i + 1))) <;> simp
        rw [hx, List.all_eq_true, List.all_eq_true]
        constructor
        · intro h i hi
          have hi := List.mem_range.1 hi
          unfold okAt
          rw [hap i hi, Bool.true_and]
          by_cases h0 : i = 0
          · simp [h0]
          · have := h (i - 1) (List.mem_range.2 (by omega))
            rw [show i - 1 + 1 = i by omega] at this
            rw [this]; simp
        · intro h i hi
          have hi := List.mem_range.1 hi
          have := h (i + 1) (List.mem_range.2 (by omega))
          simpa [okAt, hap (i + 1) (by omega)] using this
      rw [e] at key
      exact key
theorem l03Brothers_ev (n : Int) (hn : 8 ≤ n ∧ n ≤ 32) (a b : RunW) (ha : oneB n a = true) : Ev (fun k => spec_l03Brothers.f k a.f0 a.f1 b.f0 b.f1) (broB a b) := by
  have hq := oneB_bd ha
  rw [wrap_size hn] at hq
  have hp := pw_pos a.f1
  have hp8 := pw_le a.f1
  unfold spec_l03Brothers.f broB
  refine Ev.bind (l03Pow_ev a.f1 hq.1) ?_
  by_cases e1 : a.f1 = b.f1
  · by_cases e2 : a.f1 < 3
    · simp only [if_pos e1, if_pos e2, decide_eq_true e1, decide_eq_true e2, Bool.and_true, Bool.true_and]
      have hw : wrap64 (2 * pw a.f1) = 2 * pw a.f1 := wrap64_id (by omega) (by omega)
      have hw2 : wrap64 (a.f0 + pw a.f1) = a.f0 + pw a.f1 := wrap64_id (by omega) (by omega)
      rw [hw, hw2, tmod_nonneg hq.2.1.1 (by omega)]
      simp only [if_neg (show ¬ 2 * pw a.f1 = 0 by omega)]
      by_cases e3 : a.f0 % (2 * pw a.f1) = 0
      · simp only [if_pos e3, decide_eq_true e3, Bool.true_and]; exact Ev.now _
      · simp only [if_neg e3, decide_eq_false e3, Bool.false_and]; exact Ev.now _
    · simp only [if_pos e1, if_neg e2, decide_eq_false e2, Bool.and_false, Bool.false_and]; exact Ev.now _
  · simp only [if_neg e1, decide_eq_false e1, Bool.false_and]; exact Ev.now _
theorem runsB_len (n : Int) (l : List RunW) (hs : sizeB n = true) (h : (List.range l.length).all (okAt n l) = true) : (l.length : Int) ≤ n := by
  have hn := sizeB_bd hs
  have hap : ∀ i, i < l.length → apB n l i = true := fun i hi => by
    have := List.all_eq_true.1 h i (List.mem_range.2 hi)
    simp only [okAt, Bool.and_eq_true] at this; exact this.1
  have hone : ∀ i, i < l.length → oneB n (runAt l i) = true := fun i hi => by have := hap i hi; simp only [apB, Bool.and_eq_true] at this; exact this.1
  have hge : ∀ i, i < l.length → (i : Int) ≤ (runAt l i).f0 := by
    intro i
    induction i with
    | zero => intro hi; have := oneB_bd (hone 0 hi); omega
    | succ i ih =>
      intro hi
      have h0 := ih (by omega)
      have := hap (i + 1) hi
      have h1 := oneB_bd (hone i (by omega))
      rw [wrap_size ⟨hn.1, hn.2.1⟩] at h1
      have hp := pw_pos (runAt l i).f1
      simp only [apB, Bool.and_eq_true, Bool.or_eq_true, decide_eq_true_eq, Nat.add_sub_cancel] at this
      rcases this.2 with h | h
      · omega
      · rw [wrap64_id (by omega) (by omega)] at h; omega
  rcases Nat.eq_zero_or_pos l.length with h0 | h0
  · omega
  · have h1 := hge (l.length - 1) (by omega)
    have h2 := oneB_bd (hone (l.length - 1) (by omega))
    rw [wrap_size ⟨hn.1, hn.2.1⟩] at h2
    have hp := pw_pos (runAt l (l.length - 1)).f1
    omega
theorem spec_RunsOk_ev (n : Int) (l : List RunW) (hl : l.length ≤ 1048576) : Ev (fun k => spec_RunsOk.f k n l) (runsB n l) := by
  unfold spec_RunsOk.f
  rw [l02Frames_eq]
  simp only [Option.bind_some]
  cases hs : sizeB n with
  | false =>
    simp only [Bool.false_eq_true, if_false]
    have : runsB n l = false := by unfold runsB; rw [hs, Bool.false_and]
    rw [this]
    refine Ev.of_succ (fun k => ?_)
    simp only [spec_RunsOk.j0]; rfl
  | true =>
    have hn := sizeB_bd hs
    simp only [if_true]
    by_cases hlen : (l.length : Int) > n
    · have : runsB n l = false := by
        rw [Bool.eq_false_iff]
        intro h
        unfold runsB at h
        rw [hs, Bool.true_and] at h
        have := runsB_len n l hs h
        omega
      rw [this, decide_eq_true hlen]
      refine Ev.of_succ (fun k => ?_)
      simp only [spec_RunsOk.j0]; rfl
    · rw [decide_eq_false hlen]
      have key := ev_allp (fun k i => spec_RunsOk.l0 k n l (i : Int)) l.length (okAt n l) false true (by
        intro i hi hprev hb r h
        simp only [okAt, apB, Bool.and_eq_true, Bool.or_eq_true, decide_eq_true_eq] at hb
        obtain ⟨⟨hb1, hb2⟩, hb3⟩ := hb
        by_cases h0 : i = 0
        · subst h0
          refine Ev.step (f := fun k => (spec_l03One.f k n (runAt l 0).f0 (runAt l 0).f1).bind fun t => if t = true then spec_RunsOk.l0 k n l ((0 + 1 : Nat) : Int) else some false) (fun k => ?_) (Ev.bind (l03One_ev n ⟨hn.1, hn.2.1⟩ _ _) (by simp only [show oneB n ⟨(runAt l 0).f0, (runAt l 0).f1⟩ = true from hb1, if_true]; exact h))
          simp only [spec_RunsOk.l0]
          rw [if_pos (by omega), if_pos (by omega), rdRW, if_neg (show ¬ (((0 : Nat) : Int) > 0) by omega), wrap_succ (by omega)]
          rfl
        · have hp := hprev (i - 1) (by omega)
          simp only [okAt, apB, Bool.and_eq_true] at hp
          have hq := oneB_bd hp.1.1
          rw [wrap_size ⟨hn.1, hn.2.1⟩] at hq
          have hpp := pw_pos (runAt l (i - 1)).f1
          refine Ev.step (f := fun k => (spec_l03One.f k n (runAt l i).f0 (runAt l i).f1).bind fun t => if t = true then (spec_l03Pow.f k (runAt l (i - 1)).f1).bind fun p => if (runAt l i).f0 < wrap64 ((runAt l (i - 1)).f0 + p) then some false else (spec_l03Brothers.f k (runAt l (i - 1)).f0 (runAt l (i - 1)).f1 (runAt l i).f0 (runAt l i).f1).bind fun q => if q = true then some false else spec_RunsOk.l0 k n l ((i + 1 : Nat) : Int) else some false) (fun k => ?_) ?_
          · simp only [spec_RunsOk.l0]
            rw [if_pos (by omega), if_pos (by omega), if_pos (show (i : Int) > 0 by omega), wrap_pred (by omega) (by omega), if_pos (by omega), if_pos (by omega), rdRW, rdRW, wrap_succ (by omega)]
            rfl
          · refine Ev.bind (l03One_ev n ⟨hn.1, hn.2.1⟩ _ _) ?_
            simp only [show oneB n ⟨(runAt l i).f0, (runAt l i).f1⟩ = true from hb1, if_true]
            refine Ev.bind (l03Pow_ev _ hq.1) ?_
            have hnl : ¬ (runAt l i).f0 < wrap64 ((runAt l (i - 1)).f0 + pw (runAt l (i - 1)).f1) := by rcases hb2 with h | h <;> omega
            simp only [if_neg hnl]
            refine Ev.bind (l03Brothers_ev n ⟨hn.1, hn.2.1⟩ (runAt l (i - 1)) (runAt l i) hp.1.1) ?_
            have hbr : broB (runAt l (i - 1)) (runAt l i) = false := by rcases hb3 with h | h; · omega
                                                                        · simpa using h
            simp only [hbr, Bool.false_eq_true, if_false]
            exact h) (by
        intro i hi hprev hb
        by_cases hb1 : oneB n (runAt l i) = true
        · have hi0 : i ≠ 0 := by
            intro h0
            simp [okAt, apB, hb1, h0] at hb
            subst h0
            simp [hb1] at hb
          have hp := hprev (i - 1) (by omega)
          simp only [okAt, apB, Bool.and_eq_true] at hp
          have hq := oneB_bd hp.1.1
          rw [wrap_size ⟨hn.1, hn.2.1⟩] at hq
          refine Ev.step (f := fun k => (spec_l03One.f k n (runAt l i).f0 (runAt l i).f1).bind fun t => if t = true then (spec_l03Pow.f k (runAt l (i - 1)).f1).bind fun p => if (runAt l i).f0 < wrap64 ((runAt l (i - 1)).f0 + p) then some false else (spec_l03Brothers.f k (runAt l (i - 1)).f0 (runAt l (i - 1)).f1 (runAt l i).f0 (runAt l i).f1).bind fun q => if q = true then some false else spec_RunsOk.l0 k n l ((i + 1 : Nat) : Int) else some false) (fun k => ?_) ?_
          · simp only [spec_RunsOk.l0]
            rw [if_pos (by omega), if_pos (by omega), if_pos (show (i : Int) > 0 by omega), wrap_pred (by omega) (by omega), if_pos (by omega), if_pos (by omega), rdRW, rdRW, wrap_succ (by omega)]
            rfl
          · refine Ev.bind (l03One_ev n ⟨hn.1, hn.2.1⟩ _ _) ?_
            simp only [show oneB n ⟨(runAt l i).f0, (runAt l i).f1⟩ = true from hb1, if_true]
            refine Ev.bind (l03Pow_ev _ hq.1) ?_
            by_cases hnl : (runAt l i).f0 < wrap64 ((runAt l (i - 1)).f0 + pw (runAt l (i - 1)).f1)
            · simp only [if_pos hnl]; exact Ev.now _
            · simp only [if_neg hnl]
              refine Ev.bind (l03Brothers_ev n ⟨hn.1, hn.2.1⟩ (runAt l (i - 1)) (runAt l i) hp.1.1) ?_
              have hbr : broB (runAt l (i - 1)) (runAt l i) = true := by
                simp only [okAt, apB, hb1, Bool.true_and, decide_eq_false hi0, Bool.false_or, decide_eq_true (show wrap64 ((runAt l (i - 1)).f0 + pw (runAt l (i - 1)).f1) ≤ (runAt l i).f0 by omega)] at hb
                simpa using hb
              simp only [hbr, if_true]
              exact Ev.now _
        · refine Ev.step (f := fun k => (spec_l03One.f k n (runAt l i).f0 (runAt l i).f1).bind fun t => if t = true then (if (i : Int) > 0 then (if 0 ≤ (wrap64 ((i : Int) - 1)) then (if (wrap64 ((i : Int) - 1)) < (l.length : Int) then ((spec_l03Pow.f k ((rd_T88 l (wrap64 ((i : Int) - 1))).f1)).bind fun t115 => (if ((rd_T88 l (i : Int)).f0) < (wrap64 (((rd_T88 l (wrap64 ((i : Int) - 1))).f0) + t115)) then (some false) else ((spec_l03Brothers.f k ((rd_T88 l (wrap64 ((i : Int) - 1))).f0) ((rd_T88 l (wrap64 ((i : Int) - 1))).f1) ((rd_T88 l (i : Int)).f0) ((rd_T88 l (i : Int)).f1)).bind fun t118 => (if t118 = true then (some false) else (spec_RunsOk.l0 k n l (wrap64 ((i : Int) + 1))))))) else (none)) else (none)) else (spec_RunsOk.l0 k n l (wrap64 ((i : Int) + 1)))) else some false) (fun k => ?_) (Ev.bind (l03One_ev n ⟨hn.1, hn.2.1⟩ _ _) (by simp only [show oneB n ⟨(runAt l i).f0, (runAt l i).f1⟩ = false from Bool.eq_false_iff.2 hb1, Bool.false_eq_true, if_false]; exact Ev.now _))
          simp only [spec_RunsOk.l0]
          rw [if_pos (by omega), if_pos (by omega)]
          have e1 : (rd_T88 l (i : Int)) = runAt l i := rdRW l i
          rw [e1]) (by
        intro _
        refine Ev.of_succ (fun k => ?_)
        simp only [spec_RunsOk.l0]
        rw [if_neg (by omega)])
      have e : (if (List.range l.length).all (okAt n l) = true then true else false) = runsB n l := by
        unfold runsB; rw [hs, Bool.true_and]; cases (List.range l.length).all (okAt n l) <;> simp
      rw [e] at key
      refine Ev.step (fun k => ?_) key
      simp only [spec_RunsOk.j0]; rfl
def bestB (l : List RunW) : Int := l.foldl (fun b r => if b < r.f1 then r.f1 else b) (-1)
theorem spec_BestRun_ev (n : Int) (l : List RunW) (hl : l.length ≤ 1048576) : Ev (fun k => spec_BestRun.f k n l) (if runsB n l = true then bestB l else -1) := by
  have hro := spec_RunsOk_ev n l hl
  by_cases hb : runsB n l = true
  · rw [if_pos hb]
    rw [hb] at hro
    have key := (ev_fold (fun k s i => spec_BestRun.l0 k n l s (i : Int)) l.length (fun b i => if b < (l.getD i zr).f1 then (l.getD i zr).f1 else b) id (fun _ _ => True) (by
      intro i s hi _
      refine ⟨trivial, fun r h => ?_⟩
      refine Ev.step (f := fun k => (spec_RunsOk.f k n l).bind fun t => spec_BestRun.j1 k n l s (i : Int) t) (fun k => ?_) (Ev.bind hro ?_)
      · simp only [spec_BestRun.l0]
        rw [if_pos (by omega)]
      · refine Ev.step (fun k => ?_) h
        simp only [spec_BestRun.j1, if_true]
        rw [if_pos (by omega), if_pos (by omega), rdRW, wrap_succ (by omega)]
        by_cases hc : s < (l.getD i zr).f1
        · rw [if_pos hc, if_pos hc]
        · rw [if_neg hc, if_neg hc]) (by
      intro s _
      refine Ev.step (f := fun k => spec_BestRun.j1 k n l s (l.length : Int) false) (fun k => ?_) (Ev.of_succ (fun k => ?_))
      · simp only [spec_BestRun.l0]
        rw [if_neg (by omega)]
      · simp only [spec_BestRun.j1]; rfl) (-1) trivial).1
    rw [foldl_getD (fun (b : Int) (r : RunW) => if b < r.f1 then r.f1 else b) l zr] at key
    exact key
  · rw [if_neg hb]
    rw [Bool.eq_false_iff.2 hb] at hro
    show Ev (fun k => spec_BestRun.l0 k n l (-1) ((0 : Nat) : Int)) (-1)
    by_cases h0 : 0 < l.length
    · refine Ev.step (f := fun k => (spec_RunsOk.f k n l).bind fun t => spec_BestRun.j1 k n l (-1) ((0 : Nat) : Int) t) (fun k => ?_) (Ev.bind hro (Ev.of_succ (fun k => ?_)))
      · simp only [spec_BestRun.l0]
        rw [if_pos (by omega)]
      · simp only [spec_BestRun.j1]; rfl
    · refine Ev.step (f := fun k => spec_BestRun.j1 k n l (-1) ((0 : Nat) : Int) false) (fun k => ?_) (Ev.of_succ (fun k => ?_))
      · simp only [spec_BestRun.l0]
        rw [if_neg (by omega)]
      · simp only [spec_BestRun.j1]; rfl
theorem impl_BestRun_ev (n : Int) (l : List RunW) (hl : l.length ≤ 1048576) : Ev (fun k => impl_BestRun.f k n l) (if runsB n l = true then bestB l else -1) := by
  unfold impl_BestRun.f
  refine Ev.bind (impl_RunsOk_ev n l hl) ?_
  by_cases hb : runsB n l = true
  · simp only [if_pos hb]
    have key := (ev_fold (fun k s i => impl_BestRun.l0 k s l (l.length : Int) (i : Int)) l.length (fun b i => if b < (l.getD i zr).f1 then (l.getD i zr).f1 else b) id (fun _ _ => True) (by
      intro i s hi _
      refine ⟨trivial, fun r h => ?_⟩
      refine Ev.step (fun k => ?_) h
      simp only [impl_BestRun.l0]
      rw [if_pos (by omega), if_pos (by omega), if_pos (by omega), rdRW, wrap_succ (by omega)]
      rfl) (by
      intro s _
      refine Ev.of_succ (fun k => ?_)
      simp only [impl_BestRun.l0]
      rw [if_neg (by omega)]
      rfl) (-1) trivial).1
    rw [foldl_getD (fun (b : Int) (r : RunW) => if b < r.f1 then r.f1 else b) l zr] at key
    exact key
  · simp only [if_neg hb]; exact Ev.now _

theorem FnExactBestRun (a0 : Int) (_w0 : (Lit.int .i64 a0).wf = true) (l1 : List S92) (g1 : (l1.length ≤ maxLen ∧ ∀ y0 ∈ l1, ((Lit.int .i64 y0.f0).wf = true ∧ (Lit.int .i64 y0.f1).wf = true))) : ∃ k, laws_FnExactBestRun.f k a0 l1 = some true := by
  refine Ev.rounds (g := fun k => laws_FnExactBestRun.f k a0 l1) ?_
  unfold laws_FnExactBestRun.f
  rw [szRunS_eq l1 g1.1]
  simp only [Option.bind_some]
  by_cases h : (l1.length : Int) ≤ 1048576
  · simp only [if_pos h, if_neg (show ¬ (1048576 - (l1.length : Int)) < 0 by omega)]
    have hl : (l1.map toRun).length ≤ 1048576 := by simp; omega
    refine Ev.bind (toRunS_ev l1 (by omega)) ?_
    refine Ev.bind (spec_BestRun_ev a0 _ hl) ?_
    refine Ev.bind (toRunS_ev l1 (by omega)) ?_
    refine Ev.bind (impl_BestRun_ev a0 _ hl) ?_
    simp only [if_true]
    refine Ev.bind (toRunS_ev l1 (by omega)) ?_
    refine Ev.bind (eqRunS_refl _ hl) ?_
    simp only [if_true]
    exact Ev.now true
  · simp only [if_neg h]; exact Ev.now true

end Go.Proofs.Ytpkhoanaifpopaa.Pure
