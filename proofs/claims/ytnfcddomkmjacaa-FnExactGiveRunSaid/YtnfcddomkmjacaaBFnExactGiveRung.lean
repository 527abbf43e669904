/- What the proof of FnExactGiveRunSaid rests on, part 7: plain lemmas and contracts of the functions that the law reaches (in part written by a printing program over the translation). No condition. -/
import Derived.Test.YtnfcddomkmjacaaBFnExactGiveRunf
section
namespace Go.Proofs.Ytnfcddomkmjacaa.Pure
open Go.RowKit Go.Proofs.Ytnfcddomkmjacaa.P Go.Proofs.YtnfcddomkmjacaaW.PrintWords Go.Proofs.YtnfcddomkmjacaaW.PrintLast Go.Proofs.YtnfcddomkmjacaaW.PrintMore Go.Proofs.Ytnfcddomkmjacaa.Aid
set_option linter.unusedVariables false
set_option linter.unusedSimpArgs false

theorem l01In_eq (a b c : Int) : spec_l01In.f a b c = some (decide (b ≤ a ∧ a ≤ c)) := in_dec a b c
theorem within_eq (a b c : Int) : impl_within.f a b c = some (decide (b ≤ a ∧ a ≤ c)) := in_dec a b c
def sizeB (n : Int) : Bool := decide (8 ≤ n ∧ n ≤ 32) && decide (n % 8 = 0)
theorem sizeB_bd {n : Int} (h : sizeB n = true) : 8 ≤ n ∧ n ≤ 32 ∧ n % 8 = 0 := by
  simp only [sizeB, Bool.and_eq_true, decide_eq_true_eq] at h
  exact ⟨h.1.1, h.1.2, h.2⟩
theorem l02Frames_eq (n : Int) : spec_l02Frames.f n = some (sizeB n) := by
  unfold spec_l02Frames.f sizeB
  rw [l01In_eq]
  simp only [Option.bind_some]
  by_cases h : 8 ≤ n ∧ n ≤ 32
  · rw [if_pos (by simpa using h), tmod_nonneg (by omega) (by omega), decide_eq_true h]; rfl
  · rw [if_neg (by simpa using h), decide_eq_false h]; rfl
theorem isSize_eq (n : Int) : impl_isSize.f n = some (sizeB n) := by
  unfold impl_isSize.f sizeB
  rw [within_eq]
  simp only [Option.bind_some]
  by_cases h : 8 ≤ n ∧ n ≤ 32
  · rw [if_pos (by simpa using h), tmod_nonneg (by omega) (by omega), decide_eq_true h]; rfl
  · rw [if_neg (by simpa using h), decide_eq_false h]; rfl
theorem map_getD {α β : Type} (f : α → β) (l : List α) (d : α) : (List.range l.length).map (fun i => f (l.getD i d)) = l.map f := by
  rw [show (fun i => f (l.getD i d)) = f ∘ (fun i => l.getD i d) from rfl, ← List.map_map, range_map_getD]
abbrev RunW := S35
abbrev RunL := S32
def toRun (r : RunL) : RunW := ⟨r.f0, r.f1⟩
theorem rdRL (l : List RunL) (i : Nat) : rd_T32 l (i : Int) = l.getD i z32 := by unfold rd_T32; rw [toNat_cast]
theorem rdRW (l : List RunW) (i : Nat) : rd_T35 l (i : Int) = l.getD i z35 := by unfold rd_T35; rw [toNat_cast]
theorem szRunS_eq (l : List RunL) (hl : l.length ≤ maxLen) : laws_szRunS.f l 1048576 = some (if (l.length : Int) ≤ 1048576 then (1048576 - (l.length : Int) : Int) else (-1 : Int)) := by
  unfold maxLen at hl
  unfold laws_szRunS.f
  have e : wrap64 (1048576 - (l.length : Int)) = 1048576 - l.length := by unfold wrap64; omega
  rw [e]
  by_cases h : (l.length : Int) ≤ 1048576
  · rw [if_neg (by omega), if_pos h]
  · rw [if_pos (by omega), if_neg h]
theorem toRunS_ev (l : List RunL) (hl : l.length ≤ 1048576) : Ev (fun k => laws_toRunS.f k l) (l.map toRun) := by
  have key := ev_copy0 (fun k acc i => laws_toRunS.l0 k l acc (i : Int)) l.length (fun i => toRun (l.getD i z32)) id (by
    intro i acc hi ha r h
    refine Ev.step (fun k => ?_) h
    simp only [laws_toRunS.l0]
    rw [if_pos (by omega), if_pos (by omega), rdRL]
    unfold laws_toRun.f
    simp only [Option.bind_some]
    rw [if_pos (by omega), wrap_succ (by omega), toNat_cast]
    rfl) (by
    intro acc ha
    refine Ev.of_succ (fun k => ?_)
    simp only [laws_toRunS.l0]
    rw [if_neg (by omega)]
    rfl) (List.replicate l.length z35) (by simp)
  rw [map_getD toRun l z32] at key
  refine Ev.congr (fun k => ?_) key
  unfold laws_toRunS.f
  rw [if_pos (by omega), if_pos (by omega), toNat_cast]
  rfl
theorem eqRunS_refl (l : List RunW) (hl : l.length ≤ 1048576) : Ev (fun k => laws_eqRunS.f k l l) true := by
  have key := ev_all0 (fun k i => laws_eqRunS.l0 k l l (i : Int)) l.length (fun _ => true) false true (by
    intro i hi _ r h
    refine Ev.step (fun k => ?_) h
    simp only [laws_eqRunS.l0]
    rw [if_pos (by omega), if_pos (by omega), if_pos (by omega)]
    unfold laws_eqRun.f
    simp only [if_true, Option.bind_some]
    rw [wrap_succ (by omega)]) (by intro i _ h; cases h) (by
    refine Ev.of_succ (fun k => ?_)
    simp only [laws_eqRunS.l0]
    rw [if_neg (by omega)])
  rw [if_pos (by simp)] at key
  refine Ev.congr (fun k => ?_) key
  unfold laws_eqRunS.f
  rw [if_pos rfl]
  rfl
/-- 2 to the power of an order. -/
def pw (o : Int) : Int := if o = 0 then 1 else if o = 1 then 2 else if o = 2 then 4 else 8
theorem pw_pos (o : Int) : 0 < pw o := by unfold pw; repeat' split <;> omega
theorem pw_le (o : Int) : pw o ≤ 8 := by unfold pw; repeat' split <;> omega
theorem l03Pow_ev (o : Int) (h : 0 ≤ o ∧ o ≤ 3) : Ev (fun k => spec_l03Pow.f k o) (pw o) := by
  have hc : o = 0 ∨ o = 1 ∨ o = 2 ∨ o = 3 := by omega
  rcases hc with rfl | rfl | rfl | rfl <;> exact Ev.of (fun k => spec_l03Pow.mono _ k) (k := 9) (by decide +kernel)
theorem shl_eq (o : Int) (h : 0 ≤ o ∧ o ≤ 3) : shl .i64 1 o = pw o := by
  have hc : o = 0 ∨ o = 1 ∨ o = 2 ∨ o = 3 := by omega
  rcases hc with rfl | rfl | rfl | rfl <;> decide +kernel
def oneB (n : Int) (r : RunW) : Bool := decide (0 ≤ r.f1 ∧ r.f1 ≤ 3) && decide (0 ≤ r.f0 ∧ r.f0 ≤ wrap64 (n - pw r.f1)) && decide (r.f0 % pw r.f1 = 0)
theorem oneB_bd {n : Int} {r : RunW} (h : oneB n r = true) : (0 ≤ r.f1 ∧ r.f1 ≤ 3) ∧ (0 ≤ r.f0 ∧ r.f0 ≤ wrap64 (n - pw r.f1)) ∧ r.f0 % pw r.f1 = 0 := by
  simp only [oneB, Bool.and_eq_true, decide_eq_true_eq] at h
  exact ⟨h.1.1, h.1.2, h.2⟩
theorem wrap_size {n : Int} (hn : 8 ≤ n ∧ n ≤ 32) (o : Int) : wrap64 (n - pw o) = n - pw o := by have := pw_pos o; have := pw_le o; unfold wrap64; omega
theorem runOk_eq (n a o : Int) : impl_runOk.f n a o = some (oneB n ⟨a, o⟩) := by
  unfold impl_runOk.f oneB
  rw [within_eq]
  simp only [Option.bind_some]
  by_cases ho : 0 ≤ o ∧ o ≤ 3
  · rw [if_pos (by simpa using ho), if_pos ho.1, shl_eq o ho, within_eq, decide_eq_true ho]
    simp only [Option.bind_some, Bool.true_and]
    have hp := pw_pos o
    by_cases ha : 0 ≤ a ∧ a ≤ wrap64 (n - pw o)
    · rw [if_pos (by simpa using ha), if_neg (by omega), tmod_nonneg ha.1 hp, decide_eq_true ha, Bool.true_and]; rfl
    · rw [if_neg (by simpa using ha), decide_eq_false ha, Bool.false_and]
  · rw [if_neg (by simpa using ho), decide_eq_false ho]; simp
def broB (a b : RunW) : Bool := decide (a.f1 = b.f1) && decide (a.f1 < 3) && decide (a.f0 % (2 * pw a.f1) = 0) && decide (b.f0 = a.f0 + pw a.f1)
abbrev zr : RunW := z35
def runAt (l : List RunW) (i : Nat) : RunW := l.getD i zr
def apB (n : Int) (l : List RunW) (i : Nat) : Bool := oneB n (runAt l i) && (decide (i = 0) || decide (wrap64 ((runAt l (i - 1)).f0 + pw (runAt l (i - 1)).f1) ≤ (runAt l i).f0))
def okAt (n : Int) (l : List RunW) (i : Nat) : Bool := apB n l i && (decide (i = 0) || !broB (runAt l (i - 1)) (runAt l i))
def runsB (n : Int) (l : List RunW) : Bool := sizeB n && (List.range l.length).all (okAt n l)
theorem wrap_pred {i : Nat} (h0 : 0 < i) (h : i < 9223372036854775807) : wrap64 ((i : Int) - 1) = ((i - 1 : Nat) : Int) := by unfold wrap64; omega
theorem apart_ev (n : Int) (l : List RunW) (hl : l.length ≤ 1048576) : Ev (fun k => impl_apart.f k n l) (sizeB n && (List.range l.length).all (apB n l)) := by
  have key := ev_allp (fun k i => impl_apart.l0 k n l l (l.length : Int) (i : Int)) l.length (apB n l) false (sizeB n) (by
    intro i hi hprev hb r h
    refine Ev.step (fun k => ?_) h
    simp only [apB, Bool.and_eq_true, Bool.or_eq_true, decide_eq_true_eq] at hb
    simp only [impl_apart.l0]
    rw [if_pos (by omega), if_pos (by omega), if_pos (by omega), rdRW, runOk_eq, show (l.getD i zr) = runAt l i from rfl]
    simp only [Option.bind_some]
    rw [if_pos hb.1]
    by_cases h0 : i = 0
    · subst h0; rw [if_neg (by omega), wrap_succ (by omega)]
    · have hp := hprev (i - 1) (by omega)
      simp only [apB, Bool.and_eq_true] at hp
      have hq := oneB_bd hp.1
      rw [if_pos (by omega), wrap_pred (by omega) (by omega), if_pos (by omega), if_pos (by omega), rdRW, show (l.getD (i - 1) zr) = runAt l (i - 1) from rfl, if_pos hq.1.1, shl_eq _ hq.1, if_neg (by rcases hb.2 with h | h <;> omega), wrap_succ (by omega)]) (by
    intro i hi hprev hb
    refine Ev.of_succ (fun k => ?_)
    simp only [impl_apart.l0]
    rw [if_pos (by omega), if_pos (by omega), if_pos (by omega), rdRW, runOk_eq, show (l.getD i zr) = runAt l i from rfl]
    simp only [Option.bind_some]
    by_cases h1 : oneB n (runAt l i) = true
    · rw [if_pos h1]
      simp only [apB, h1, Bool.true_and, Bool.or_eq_false_iff, decide_eq_false_iff_not] at hb
      have hp := hprev (i - 1) (by omega)
      simp only [apB, Bool.and_eq_true] at hp
      have hq := oneB_bd hp.1
      rw [if_pos (by omega), wrap_pred (by omega) (by omega), if_pos (by omega), if_pos (by omega), rdRW, show (l.getD (i - 1) zr) = runAt l (i - 1) from rfl, if_pos hq.1.1, shl_eq _ hq.1, if_pos (by omega)]
    · rw [if_neg h1]) (by
    intro _
    refine Ev.of_succ (fun k => ?_)
    simp only [impl_apart.l0]
    rw [if_neg (by omega), isSize_eq]
    rfl)
  have e : (if (List.range l.length).all (apB n l) = true then sizeB n else false) = (sizeB n && (List.range l.length).all (apB n l)) := by
    cases (List.range l.length).all (apB n l) <;> simp
  rw [e] at key
  exact key
/-- What stands at one another's place: the brother above. -/
theorem xor_bro : ∀ a : Fin 32, ∀ o : Fin 3, a.val % 2 ^ o.val = 0 → Go.bits .xor .i64 (a.val : Int) (pw (o.val : Int)) = (if a.val % (2 * 2 ^ o.val) = 0 then (a.val : Int) + pw (o.val : Int) else (a.val : Int) - pw (o.val : Int)) := by decide +kernel
theorem xor_bro' (a o : Int) (ha : 0 ≤ a ∧ a < 32) (ho : 0 ≤ o ∧ o < 3) (hm : a % pw o = 0) : Go.bits .xor .i64 a (pw o) = (if a % (2 * pw o) = 0 then a + pw o else a - pw o) := by
  obtain ⟨n, rfl⟩ := Int.eq_ofNat_of_zero_le ha.1
  obtain ⟨m, rfl⟩ := Int.eq_ofNat_of_zero_le ho.1
  have hc : m = 0 ∨ m = 1 ∨ m = 2 := by omega
  rcases hc with rfl | rfl | rfl
  · have hp : pw ((0 : Nat) : Int) = 1 := by decide
    have h := xor_bro ⟨n, by omega⟩ ⟨0, by omega⟩ (by show n % 2 ^ 0 = 0; omega)
    simp only [hp, Nat.pow_zero, Nat.mul_one] at h hm ⊢
    rw [h]
    split <;> split <;> omega
  · have hp : pw ((1 : Nat) : Int) = 2 := by decide
    have h := xor_bro ⟨n, by omega⟩ ⟨1, by omega⟩ (by show n % 2 ^ 1 = 0; rw [hp] at hm; omega)
    simp only [hp, Nat.pow_one, show 2 * 2 = 4 from rfl] at h hm ⊢
    rw [h]
    split <;> split <;> omega
  · have hp : pw ((2 : Nat) : Int) = 4 := by decide
    have h := xor_bro ⟨n, by omega⟩ ⟨2, by omega⟩ (by show n % 2 ^ 2 = 0; rw [hp] at hm; omega)
    simp only [hp, show 2 * 2 ^ 2 = 8 from rfl] at h hm ⊢
    rw [h]
    split <;> split <;> omega
theorem broB_iff {n : Int} (hn : 8 ≤ n ∧ n ≤ 32) {a b : RunW} (ha : oneB n a = true) (hab : a.f0 + pw a.f1 ≤ b.f0) (h3 : a.f1 < 3) :
    (Go.bits .xor .i64 a.f0 (pw a.f1) = b.f0) ↔ (a.f0 % (2 * pw a.f1) = 0 ∧ b.f0 = a.f0 + pw a.f1) := by
  have hq := oneB_bd ha
  rw [wrap_size hn] at hq
  have hp := pw_pos a.f1
  rw [xor_bro' a.f0 a.f1 (by omega) (by omega) hq.2.2]
  split <;> constructor <;> intro h <;> omega
theorem impl_RunsOk_ev (n : Int) (l : List RunW) (hl : l.length ≤ 1048576) : Ev (fun k => impl_RunsOk.f k n l) (runsB n l) := by
  unfold impl_RunsOk.f
  refine Ev.bind (apart_ev n l hl) ?_
  cases hs : sizeB n with
  | false =>
    simp only [Bool.false_and, Bool.false_eq_true, if_false]
    have : runsB n l = false := by unfold runsB; rw [hs, Bool.false_and]
    rw [this]; exact Ev.now _
  | true =>
    have hn := sizeB_bd hs
    simp only [Bool.true_and]
    cases ha : (List.range l.length).all (apB n l) with
    | false =>
      simp only [Bool.false_eq_true, if_false]
      have : runsB n l = false := by
        unfold runsB
        rw [hs, Bool.true_and]
        rw [List.all_eq_false] at ha ⊢
        obtain ⟨x, hx, hb⟩ := ha
        exact ⟨x, hx, by unfold okAt; rw [Bool.eq_false_iff.2 hb, Bool.false_and]; simp⟩
      rw [this]; exact Ev.now _
    | true =>
      simp only [if_true]
      have hap : ∀ i, i < l.length → apB n l i = true := fun i hi => List.all_eq_true.1 ha i (List.mem_range.2 hi)
      have hone : ∀ i, i < l.length → oneB n (runAt l i) = true := fun i hi => by have := hap i hi; simp only [apB, Bool.and_eq_true] at this; exact this.1
      have hle : ∀ i, i + 1 < l.length → (runAt l i).f0 + pw (runAt l i).f1 ≤ (runAt l (i + 1)).f0 := by
        intro i hi
        have := hap (i + 1) hi
        have h1 := oneB_bd (hone i (by omega))
        rw [wrap_size ⟨hn.1, hn.2.1⟩] at h1
        have hp := pw_pos (runAt l i).f1
        simp only [apB, Bool.and_eq_true, Bool.or_eq_true, decide_eq_true_eq, Nat.add_sub_cancel] at this
        rcases this.2 with h | h
        · omega
        · rwa [wrap64_id (by omega) (by omega)] at h
      have key := ev_all0 (fun k i => impl_RunsOk.l0 k l ((i + 1 : Nat) : Int)) (l.length - 1) (fun i => !broB (runAt l i) (runAt l (i + 1))) false true (by
        intro i hi hb r h
        refine Ev.step (fun k => ?_) h
        have hb : broB (runAt l i) (runAt l (i + 1)) = false := by simpa using hb
        have h1 := oneB_bd (hone i (by omega))
        have hxor := @broB_iff n ⟨hn.1, hn.2.1⟩ _ _ (hone i (by omega)) (hle i (by omega))
        simp only [impl_RunsOk.l0]
        rw [if_pos (by omega), wrap_pred (by omega) (by omega), if_pos (by omega), if_pos (by omega), if_pos (by omega), rdRW, rdRW, show (l.getD (i + 1 - 1) zr) = runAt l i from rfl, show (l.getD (i + 1) zr) = runAt l (i + 1) from rfl, wrap_succ (by omega)]
        by_cases e1 : (runAt l i).f1 = (runAt l (i + 1)).f1
        · rw [if_pos e1]
          by_cases e2 : (runAt l i).f1 < 3
          · rw [if_pos e2, if_pos h1.1.1, shl_eq _ h1.1, if_neg]
            intro he
            have := (hxor e2).1 he
            simp only [broB, decide_eq_true e1, decide_eq_true e2, decide_eq_true this.1, decide_eq_true this.2] at hb
            cases hb
          · rw [if_neg e2]
        · rw [if_neg e1]) (by
        intro i hi hb
        refine Ev.of_succ (fun k => ?_)
        have hb : broB (runAt l i) (runAt l (i + 1)) = true := by simpa using hb
        simp only [broB, Bool.and_eq_true, decide_eq_true_eq] at hb
        have h1 := oneB_bd (hone i (by omega))
        have hxor := @broB_iff n ⟨hn.1, hn.2.1⟩ _ _ (hone i (by omega)) (hle i (by omega)) hb.1.1.2
        simp only [impl_RunsOk.l0]
        rw [if_pos (by omega), wrap_pred (by omega) (by omega), if_pos (by omega), if_pos (by omega), if_pos (by omega), rdRW, rdRW, show (l.getD (i + 1 - 1) zr) = runAt l i from rfl, show (l.getD (i + 1) zr) = runAt l (i + 1) from rfl]
        rw [if_pos hb.1.1.1, if_pos hb.1.1.2, if_pos h1.1.1, shl_eq _ h1.1, if_pos (hxor.2 ⟨hb.1.2, hb.2⟩)]) (by
        refine Ev.of_succ (fun k => ?_)
        simp only [impl_RunsOk.l0]
        rw [if_neg (by omega)])
      have e : (if (List.range (l.length - 1)).all (fun i => !broB (runAt l i) (runAt l (i + 1))) = true then true else false) = runsB n l := by
        unfold runsB
        rw [hs, Bool.true_and, Bool.eq_iff_iff]
        have hx : ((if (List.range (l.length - 1)).all (fun i => !broB (runAt l i) (runAt l (i + 1))) = true then true else false) = true) ↔ (List.range (l.length - 1)).all (fun i => !broB (runAt l i) (runAt l (i + 1))) = true := by
          cases (List.range (l.length - 1)).all (fun i => !broB (runAt l i) (runAt l (i + 1))) <;> simp
        rw [hx, List.all_eq_true, List.all_eq_true]
        constructor
        · intro h i hi
          have hi := List.mem_range.1 hi
          unfold okAt
          rw [hap i hi, Bool.true_and]
          by_cases h0 : i = 0
          · simp [h0]
          · have := h (i - 1) (List.mem_range.2 (by omega))
            rw [show i - 1 + 1 = i by omega] at this
            rw [this]; simp
        · intro h i hi
          have hi := List.mem_range.1 hi
          have := h (i + 1) (List.mem_range.2 (by omega))
          simpa [okAt, hap (i + 1) (by omega)] using this
      rw [e] at key
      exact key
theorem runsB_len (n : Int) (l : List RunW) (hs : sizeB n = true) (h : (List.range l.length).all (okAt n l) = true) : (l.length : Int) ≤ n := by
  have hn := sizeB_bd hs
  have hap : ∀ i, i < l.length → apB n l i = true := fun i hi => by
    have := List.all_eq_true.1 h i (List.mem_range.2 hi)
    simp only [okAt, Bool.and_eq_true] at this; exact this.1
  have hone : ∀ i, i < l.length → oneB n (runAt l i) = true := fun i hi => by have := hap i hi; simp only [apB, Bool.and_eq_true] at this; exact this.1
  have hge : ∀ i, i < l.length → (i : Int) ≤ (runAt l i).f0 := by
    intro i
    induction i with
    | zero => intro hi; have := oneB_bd (hone 0 hi); omega
    | succ i ih =>
      intro hi
      have h0 := ih (by omega)
      have := hap (i + 1) hi
      have h1 := oneB_bd (hone i (by omega))
      rw [wrap_size ⟨hn.1, hn.2.1⟩] at h1
      have hp := pw_pos (runAt l i).f1
      simp only [apB, Bool.and_eq_true, Bool.or_eq_true, decide_eq_true_eq, Nat.add_sub_cancel] at this
      rcases this.2 with h | h
      · omega
      · rw [wrap64_id (by omega) (by omega)] at h; omega
  rcases Nat.eq_zero_or_pos l.length with h0 | h0
  · omega
  · have h1 := hge (l.length - 1) (by omega)
    have h2 := oneB_bd (hone (l.length - 1) (by omega))
    rw [wrap_size ⟨hn.1, hn.2.1⟩] at h2
    have hp := pw_pos (runAt l (l.length - 1)).f1
    omega
theorem l03One_ev (n : Int) (hn : 8 ≤ n ∧ n ≤ 32) (a o : Int) : Ev (fun k => spec_l03One.f k n a o) (oneB n ⟨a, o⟩) := by
  unfold spec_l03One.f oneB
  rw [l01In_eq]
  simp only [Option.bind_some]
  by_cases ho : 0 ≤ o ∧ o ≤ 3
  · rw [decide_eq_true ho]
    simp only [if_true, Bool.true_and]
    have hp := pw_pos o
    by_cases ha : 0 ≤ a
    · simp only [if_pos (show a ≥ 0 from ha)]
      refine Ev.bind (l03Pow_ev o ho) ?_
      simp only [if_neg (show ¬ pw o = 0 by omega), tmod_nonneg ha hp]
      by_cases hm : a % pw o = 0
      · simp only [if_pos hm, decide_eq_true hm, Bool.and_true]
        refine Ev.bind (l03Pow_ev o ho) ?_
        have e : decide (0 ≤ a ∧ a ≤ wrap64 (n - pw o)) = decide (a ≤ wrap64 (n - pw o)) := by simp [ha]
        rw [e]; exact Ev.now _
      · simp only [if_neg hm, decide_eq_false hm, Bool.and_false]; exact Ev.now _
    · simp only [if_neg (show ¬ a ≥ 0 from ha), show ¬ (0 ≤ a ∧ a ≤ wrap64 (n - pw o)) from fun h => ha h.1, decide_false, Bool.false_and]; exact Ev.now _
  · rw [decide_eq_false ho]
    simp only [Bool.false_eq_true, if_false, Bool.false_and]; exact Ev.now _
theorem l03Brothers_ev (n : Int) (hn : 8 ≤ n ∧ n ≤ 32) (a b : RunW) (ha : oneB n a = true) : Ev (fun k => spec_l03Brothers.f k a.f0 a.f1 b.f0 b.f1) (broB a b) := by
  have hq := oneB_bd ha
  rw [wrap_size hn] at hq
  have hp := pw_pos a.f1
  have hp8 := pw_le a.f1
  unfold spec_l03Brothers.f broB
  refine Ev.bind (l03Pow_ev a.f1 hq.1) ?_
  by_cases e1 : a.f1 = b.f1
  · by_cases e2 : a.f1 < 3
    · simp only [if_pos e1, if_pos e2, decide_eq_true e1, decide_eq_true e2, Bool.and_true, Bool.true_and]
      have hw : wrap64 (2 * pw a.f1) = 2 * pw a.f1 := wrap64_id (by omega) (by omega)
      have hw2 : wrap64 (a.f0 + pw a.f1) = a.f0 + pw a.f1 := wrap64_id (by omega) (by omega)
      rw [hw, hw2, tmod_nonneg hq.2.1.1 (by omega)]
      simp only [if_neg (show ¬ 2 * pw a.f1 = 0 by omega)]
      by_cases e3 : a.f0 % (2 * pw a.f1) = 0
      · simp only [if_pos e3, decide_eq_true e3, Bool.true_and]; exact Ev.now _
      · simp only [if_neg e3, decide_eq_false e3, Bool.false_and]; exact Ev.now _
    · simp only [if_pos e1, if_neg e2, decide_eq_false e2, Bool.and_false, Bool.false_and]; exact Ev.now _
  · simp only [if_neg e1, decide_eq_false e1, Bool.false_and]; exact Ev.now _
theorem spec_RunsOk_ev (n : Int) (l : List RunW) (hl : l.length ≤ 1048576) : Ev (fun k => spec_RunsOk.f k n l) (runsB n l) := by
  unfold spec_RunsOk.f
  rw [l02Frames_eq]
  simp only [Option.bind_some]
  cases hs : sizeB n with
  | false =>
    simp only [Bool.false_eq_true, if_false]
    have : runsB n l = false := by unfold runsB; rw [hs, Bool.false_and]
    rw [this]
    refine Ev.of_succ (fun k => ?_)
    simp only [spec_RunsOk.j0]; rfl
  | true =>
    have hn := sizeB_bd hs
    simp only [if_true]
    by_cases hlen : (l.length : Int) > n
    · have : runsB n l = false := by
        rw [Bool.eq_false_iff]
        intro h
        unfold runsB at h
        rw [hs, Bool.true_and] at h
        have := runsB_len n l hs h
        omega
      rw [this, decide_eq_true hlen]
      refine Ev.of_succ (fun k => ?_)
      simp only [spec_RunsOk.j0]; rfl
    · rw [decide_eq_false hlen]
      have key := ev_allp (fun k i => spec_RunsOk.l0 k n l (i : Int)) l.length (okAt n l) false true (by
        intro i hi hprev hb r h
        simp only [okAt, apB, Bool.and_eq_true, Bool.or_eq_true, decide_eq_true_eq] at hb
        obtain ⟨⟨hb1, hb2⟩, hb3⟩ := hb
        by_cases h0 : i = 0
        · subst h0
          refine Ev.step (f := fun k => (spec_l03One.f k n (runAt l 0).f0 (runAt l 0).f1).bind fun t => if t = true then spec_RunsOk.l0 k n l ((0 + 1 : Nat) : Int) else some false) (fun k => ?_) (Ev.bind (l03One_ev n ⟨hn.1, hn.2.1⟩ _ _) (by simp only [show oneB n ⟨(runAt l 0).f0, (runAt l 0).f1⟩ = true from hb1, if_true]; exact h))
          simp only [spec_RunsOk.l0]
          rw [if_pos (by omega), if_pos (by omega), rdRW, if_neg (show ¬ (((0 : Nat) : Int) > 0) by omega), wrap_succ (by omega)]
          rfl
        · have hp := hprev (i - 1) (by omega)
          simp only [okAt, apB, Bool.and_eq_true] at hp
          have hq := oneB_bd hp.1.1
          rw [wrap_size ⟨hn.1, hn.2.1⟩] at hq
          have hpp := pw_pos (runAt l (i - 1)).f1
          refine Ev.step (f := fun k => (spec_l03One.f k n (runAt l i).f0 (runAt l i).f1).bind fun t => if t = true then (spec_l03Pow.f k (runAt l (i - 1)).f1).bind fun p => if (runAt l i).f0 < wrap64 ((runAt l (i - 1)).f0 + p) then some false else (spec_l03Brothers.f k (runAt l (i - 1)).f0 (runAt l (i - 1)).f1 (runAt l i).f0 (runAt l i).f1).bind fun q => if q = true then some false else spec_RunsOk.l0 k n l ((i + 1 : Nat) : Int) else some false) (fun k => ?_) ?_
          · simp only [spec_RunsOk.l0]
            rw [if_pos (by omega), if_pos (by omega), if_pos (show (i : Int) > 0 by omega), wrap_pred (by omega) (by omega), if_pos (by omega), if_pos (by omega), rdRW, rdRW, wrap_succ (by omega)]
            rfl
          · refine Ev.bind (l03One_ev n ⟨hn.1, hn.2.1⟩ _ _) ?_
            simp only [show oneB n ⟨(runAt l i).f0, (runAt l i).f1⟩ = true from hb1, if_true]
            refine Ev.bind (l03Pow_ev _ hq.1) ?_
            have hnl : ¬ (runAt l i).f0 < wrap64 ((runAt l (i - 1)).f0 + pw (runAt l (i - 1)).f1) := by rcases hb2 with h | h <;> omega
            simp only [if_neg hnl]
            refine Ev.bind (l03Brothers_ev n ⟨hn.1, hn.2.1⟩ (runAt l (i - 1)) (runAt l i) hp.1.1) ?_
            have hbr : broB (runAt l (i - 1)) (runAt l i) = false := by rcases hb3 with h | h; · omega
                                                                        · simpa using h
            simp only [hbr, Bool.false_eq_true, if_false]
            exact h) (by
        intro i hi hprev hb
        by_cases hb1 : oneB n (runAt l i) = true
        · have hi0 : i ≠ 0 := by
            intro h0
            simp [okAt, apB, hb1, h0] at hb
            subst h0
            simp [hb1] at hb
          have hp := hprev (i - 1) (by omega)
          simp only [okAt, apB, Bool.and_eq_true] at hp
          have hq := oneB_bd hp.1.1
          rw [wrap_size ⟨hn.1, hn.2.1⟩] at hq
          refine Ev.step (f := fun k => (spec_l03One.f k n (runAt l i).f0 (runAt l i).f1).bind fun t => if t = true then (spec_l03Pow.f k (runAt l (i - 1)).f1).bind fun p => if (runAt l i).f0 < wrap64 ((runAt l (i - 1)).f0 + p) then some false else (spec_l03Brothers.f k (runAt l (i - 1)).f0 (runAt l (i - 1)).f1 (runAt l i).f0 (runAt l i).f1).bind fun q => if q = true then some false else spec_RunsOk.l0 k n l ((i + 1 : Nat) : Int) else some false) (fun k => ?_) ?_
          · simp only [spec_RunsOk.l0]
            rw [if_pos (by omega), if_pos (by omega), if_pos (show (i : Int) > 0 by omega), wrap_pred (by omega) (by omega), if_pos (by omega), if_pos (by omega), rdRW, rdRW, wrap_succ (by omega)]
            rfl
          · refine Ev.bind (l03One_ev n ⟨hn.1, hn.2.1⟩ _ _) ?_
            simp only [show oneB n ⟨(runAt l i).f0, (runAt l i).f1⟩ = true from hb1, if_true]
            refine Ev.bind (l03Pow_ev _ hq.1) ?_
            by_cases hnl : (runAt l i).f0 < wrap64 ((runAt l (i - 1)).f0 + pw (runAt l (i - 1)).f1)
            · simp only [if_pos hnl]; exact Ev.now _
            · simp only [if_neg hnl]
              refine Ev.bind (l03Brothers_ev n ⟨hn.1, hn.2.1⟩ (runAt l (i - 1)) (runAt l i) hp.1.1) ?_
              have hbr : broB (runAt l (i - 1)) (runAt l i) = true := by
                simp only [okAt, apB, hb1, Bool.true_and, decide_eq_false hi0, Bool.false_or, decide_eq_true (show wrap64 ((runAt l (i - 1)).f0 + pw (runAt l (i - 1)).f1) ≤ (runAt l i).f0 by omega)] at hb
                simpa using hb
              simp only [hbr, if_true]
              exact Ev.now _
        · refine Ev.step (f := fun k => (spec_l03One.f k n (runAt l i).f0 (runAt l i).f1).bind fun t => if t = true then (if (i : Int) > 0 then (if 0 ≤ (wrap64 ((i : Int) - 1)) then (if (wrap64 ((i : Int) - 1)) < (l.length : Int) then ((spec_l03Pow.f k ((rd_T35 l (wrap64 ((i : Int) - 1))).f1)).bind fun t115 => (if ((rd_T35 l (i : Int)).f0) < (wrap64 (((rd_T35 l (wrap64 ((i : Int) - 1))).f0) + t115)) then (some false) else ((spec_l03Brothers.f k ((rd_T35 l (wrap64 ((i : Int) - 1))).f0) ((rd_T35 l (wrap64 ((i : Int) - 1))).f1) ((rd_T35 l (i : Int)).f0) ((rd_T35 l (i : Int)).f1)).bind fun t118 => (if t118 = true then (some false) else (spec_RunsOk.l0 k n l (wrap64 ((i : Int) + 1))))))) else (none)) else (none)) else (spec_RunsOk.l0 k n l (wrap64 ((i : Int) + 1)))) else some false) (fun k => ?_) (Ev.bind (l03One_ev n ⟨hn.1, hn.2.1⟩ _ _) (by simp only [show oneB n ⟨(runAt l i).f0, (runAt l i).f1⟩ = false from Bool.eq_false_iff.2 hb1, Bool.false_eq_true, if_false]; exact Ev.now _))
          simp only [spec_RunsOk.l0]
          rw [if_pos (by omega), if_pos (by omega)]
          have e1 : (rd_T35 l (i : Int)) = runAt l i := rdRW l i
          rw [e1]) (by
        intro _
        refine Ev.of_succ (fun k => ?_)
        simp only [spec_RunsOk.l0]
        rw [if_neg (by omega)])
      have e : (if (List.range l.length).all (okAt n l) = true then true else false) = runsB n l := by
        unfold runsB; rw [hs, Bool.true_and]; cases (List.range l.length).all (okAt n l) <;> simp
      rw [e] at key
      refine Ev.step (fun k => ?_) key
      simp only [spec_RunsOk.j0]; rfl
def runF (r : RunW) : List Int := (List.range (pw r.f1).toNat).map (fun j : Nat => r.f0 + (j : Int))
def framesB (l : List RunW) : List Int := l.foldl (fun s r => s ++ runF r) []
theorem runF_len (r : RunW) : (runF r).length ≤ 8 := by have := pw_le r.f1; simp [runF]; omega
theorem runF_take (r : RunW) (j : Nat) (h : j < (pw r.f1).toNat) : (runF r).take (j + 1) = (runF r).take j ++ [r.f0 + (j : Int)] := by
  rw [List.take_succ_eq_append_getElem (by simpa [runF] using h)]
  simp [runF]
theorem runOne {n : Int} {l : List RunW} (hb : runsB n l = true) {i : Nat} (hi : i < l.length) : (0 ≤ (l.getD i zr).f1 ∧ (l.getD i zr).f1 ≤ 3) ∧ 0 ≤ (l.getD i zr).f0 ∧ (l.getD i zr).f0 ≤ 32 := by
  unfold runsB at hb
  simp only [Bool.and_eq_true] at hb
  have hn := sizeB_bd hb.1
  have := List.all_eq_true.1 hb.2 i (List.mem_range.2 hi)
  simp only [okAt, apB, Bool.and_eq_true] at this
  have := oneB_bd this.1.1
  rw [wrap_size ⟨hn.1, hn.2.1⟩] at this
  have hp := pw_pos (runAt l i).f1
  exact ⟨this.1, this.2.1.1, by unfold runAt at *; omega⟩
theorem framesB_len (l : List RunW) : (framesB l).length ≤ 8 * l.length := by
  have : ∀ (l : List RunW) (s : List Int), (l.foldl (fun s r => s ++ runF r) s).length ≤ s.length + 8 * l.length := by
    intro l
    induction l with
    | nil => intro s; simp
    | cons r l ih => intro s; have := ih (s ++ runF r); have h8 := runF_len r; simp only [List.foldl_cons, List.length_cons, List.length_append] at this ⊢; omega
  have := this l []
  simpa [framesB] using this
theorem spec_FreeFrames_ev (n : Int) (l : List RunW) (hl : l.length ≤ 1048576) : Ev (fun k => spec_FreeFrames.f k n l) (if runsB n l = true then framesB l else []) := by
  have hro := spec_RunsOk_ev n l hl
  by_cases hb : runsB n l = true
  · rw [if_pos hb]
    rw [hb] at hro
    have key := (ev_fold (fun k s i => spec_FreeFrames.l0 k n l s (i : Int)) l.length (fun s i => s ++ runF (l.getD i zr)) id (fun i s => s.length ≤ 8 * i) (by
      intro i s hi hs
      have hone := runOne hb hi
      have hlen := runF_len (l.getD i zr)
      refine ⟨by simp only [List.length_append]; omega, fun r h => ?_⟩
      have hin := ev_yes (fun k j => spec_FreeFrames.l1 k n l (s ++ (runF (l.getD i zr)).take j) (i : Int) (j : Int)) (pw (l.getD i zr).f1).toNat (fun _ => true) r (by
        intro j hj _ r h
        have hp := pw_le (l.getD i zr).f1
        have hp0 := pw_pos (l.getD i zr).f1
        have hz : 0 ≤ (l.getD i z35).f0 ∧ (l.getD i z35).f0 ≤ 32 := hone.2
        have hj8 : j < 8 := by omega
        refine Ev.step (f := fun k => (spec_l03Pow.f k (l.getD i zr).f1).bind fun t => if (j : Int) < t then spec_FreeFrames.l1 k n l (s ++ (runF (l.getD i zr)).take (j + 1)) (i : Int) ((j + 1 : Nat) : Int) else spec_FreeFrames.l0 k n l (s ++ (runF (l.getD i zr)).take j) ((i + 1 : Nat) : Int)) (fun k => ?_) (Ev.bind (l03Pow_ev _ hone.1) (by simp only [if_pos (show (j : Int) < pw (l.getD i zr).f1 by omega)]; exact h))
        simp only [spec_FreeFrames.l1]
        rw [if_pos (by omega), if_pos (by omega), rdRW]
        congr 1
        funext t
        rw [if_pos (show (s ++ List.take j (runF (l.getD i z35))).length < 17592186044416 by simp only [List.length_append, List.length_take]; omega), runF_take _ _ hj, wrap_succ (by omega), wrap_succ (by omega), wrap64_id (n := (l.getD i z35).f0 + (j : Int)) (by omega) (by omega), List.append_assoc]) (by simp) (by
        have hp0 := pw_pos (l.getD i zr).f1
        rw [List.take_of_length_le (by simp [runF])]
        refine Ev.step (f := fun k => (spec_l03Pow.f k (l.getD i zr).f1).bind fun t => if (((pw (l.getD i zr).f1).toNat : Nat) : Int) < t then (if (s ++ runF (l.getD i zr)).length < 17592186044416 then spec_FreeFrames.l1 k n l ((s ++ runF (l.getD i zr)) ++ [wrap64 ((l.getD i zr).f0 + (((pw (l.getD i zr).f1).toNat : Nat) : Int))]) (i : Int) (wrap64 ((((pw (l.getD i zr).f1).toNat : Nat) : Int) + 1)) else none) else spec_FreeFrames.l0 k n l (s ++ runF (l.getD i zr)) ((i + 1 : Nat) : Int)) (fun k => ?_) (Ev.bind (l03Pow_ev _ hone.1) (by simp only [if_neg (show ¬ (((pw (l.getD i zr).f1).toNat : Nat) : Int) < pw (l.getD i zr).f1 by omega)]; exact h))
        simp only [spec_FreeFrames.l1]
        rw [if_pos (by omega), if_pos (by omega), rdRW, wrap_succ (i := i) (by omega)])
      refine Ev.step (f := fun k => (spec_RunsOk.f k n l).bind fun t => spec_FreeFrames.j1 k n l s (i : Int) t) (fun k => ?_) (Ev.bind hro ?_)
      · simp only [spec_FreeFrames.l0]
        rw [if_pos (by omega)]
      · refine Ev.step (fun k => ?_) hin
        simp only [spec_FreeFrames.j1, if_true]
        simp) (by
      intro s _
      refine Ev.step (f := fun k => spec_FreeFrames.j1 k n l s (l.length : Int) false) (fun k => ?_) (Ev.of_succ (fun k => ?_))
      · simp only [spec_FreeFrames.l0]
        rw [if_neg (by omega)]
      · simp only [spec_FreeFrames.j1]; rfl) [] (by simp)).1
    rw [foldl_getD (fun (s : List Int) (r : RunW) => s ++ runF r) l zr] at key
    exact key
  · rw [if_neg hb]
    rw [Bool.eq_false_iff.2 hb] at hro
    show Ev (fun k => spec_FreeFrames.l0 k n l [] ((0 : Nat) : Int)) []
    by_cases h0 : 0 < l.length
    · refine Ev.step (f := fun k => (spec_RunsOk.f k n l).bind fun t => spec_FreeFrames.j1 k n l [] ((0 : Nat) : Int) t) (fun k => ?_) (Ev.bind hro (Ev.of_succ (fun k => ?_)))
      · simp only [spec_FreeFrames.l0]
        rw [if_pos (by omega)]
      · simp only [spec_FreeFrames.j1]; rfl
    · refine Ev.step (f := fun k => spec_FreeFrames.j1 k n l [] ((0 : Nat) : Int) false) (fun k => ?_) (Ev.of_succ (fun k => ?_))
      · simp only [spec_FreeFrames.l0]
        rw [if_neg (by omega)]
      · simp only [spec_FreeFrames.j1]; rfl
def inB (l : List Int) (x : Int) : Bool := l.any (fun y => decide (y = x))
theorem inB_all (l : List Int) (x : Int) : (List.range l.length).all (fun i => !decide (l.getD i 0 = x)) = !inB l x := by
  rw [range_all l 0 (fun y => !decide (y = x))]
  unfold inB
  rw [List.all_eq_not_any_not]
  simp
theorem l03In_ev (l : List Int) (hl : l.length ≤ 1048576) (x : Int) : Ev (fun k => spec_l03In.f k l x) (inB l x) := by
  have key := ev_all0 (fun k i => spec_l03In.l0 k l x (i : Int)) l.length (fun i => !decide (l.getD i 0 = x)) true false (by
    intro i hi hb r h
    refine Ev.step (fun k => ?_) h
    simp only [Bool.not_eq_true', decide_eq_false_iff_not] at hb
    simp only [spec_l03In.l0]
    rw [if_pos (by omega), if_pos (by omega), if_neg (by unfold rd; rw [toNat_cast]; exact hb), wrap_succ (by omega)]) (by
    intro i hi hb
    refine Ev.of_succ (fun k => ?_)
    simp only [Bool.not_eq_false', decide_eq_true_eq] at hb
    simp only [spec_l03In.l0]
    rw [if_pos (by omega), if_pos (by omega), if_pos (by unfold rd; rw [toNat_cast]; exact hb)]) (by
    refine Ev.of_succ (fun k => ?_)
    simp only [spec_l03In.l0]
    rw [if_neg (by omega)])
  rw [inB_all] at key
  have e : (if (!inB l x) = true then false else true) = inB l x := by cases inB l x <;> rfl
  rw [e] at key
  exact key
/-- May a run of this order begin here? -/
def clearB (l : List Int) (a o : Int) : Bool := (List.range (pw o).toNat).all (fun j => !inB l (a + (j : Int))) && decide (a % pw o = 0)
theorem l03Clear_ev (l : List Int) (hl : l.length ≤ 1048576) (a o : Int) (ha : 0 ≤ a ∧ a ≤ 1000) (ho : 0 ≤ o ∧ o ≤ 3) : Ev (fun k => spec_l03Clear.f k l a o) (clearB l a o) := by
  unfold spec_l03Clear.f
  refine Ev.bind (l03Pow_ev o ho) ?_
  have hp := pw_pos o
  have hp8 := pw_le o
  have hw : wrap64 (a + pw o) = a + pw o := wrap64_id (by omega) (by omega)
  have key := ev_all0 (fun k j => spec_l03Clear.l0 k l a (pw o) (a + (j : Int))) (pw o).toNat (fun j => !inB l (a + (j : Int))) false (decide (a % pw o = 0)) (by
    intro j hj hb r h
    simp only [Bool.not_eq_true'] at hb
    refine Ev.step (f := fun k => (spec_l03In.f k l (a + (j : Int))).bind fun t104 => (if t104 = true then (some false) else (spec_l03Clear.l0 k l a (pw o) (wrap64 ((a + (j : Int)) + 1))))) (fun k => ?_) ?_
    · simp only [spec_l03Clear.l0]
      rw [hw, if_pos (by omega)]
    · refine Ev.bind (l03In_ev l hl _) ?_
      simp only [hb, Bool.false_eq_true, if_false]
      rw [wrap64_id (n := a + (j : Int) + 1) (by omega) (by omega), show a + (j : Int) + 1 = a + ((j + 1 : Nat) : Int) by omega]
      exact h) (by
    intro j hj hb
    simp only [Bool.not_eq_false'] at hb
    refine Ev.step (f := fun k => (spec_l03In.f k l (a + (j : Int))).bind fun t104 => (if t104 = true then (some false) else (spec_l03Clear.l0 k l a (pw o) (wrap64 ((a + (j : Int)) + 1))))) (fun k => ?_) ?_
    · simp only [spec_l03Clear.l0]
      rw [hw, if_pos (by omega)]
    · refine Ev.bind (l03In_ev l hl _) ?_
      simp only [hb, if_true]
      exact Ev.now _) (by
    refine Ev.of_succ (fun k => ?_)
    simp only [spec_l03Clear.l0]
    rw [hw, if_neg (by omega), if_neg (by omega), tmod_nonneg ha.1 hp]
    rfl)
  simp only [show ((0 : Nat) : Int) = 0 from rfl, Int.add_zero] at key
  have e : (if ((List.range (pw o).toNat).all (fun j => !inB l (a + (j : Int)))) = true then decide (a % pw o = 0) else false) = clearB l a o := by
    unfold clearB
    cases (List.range (pw o).toNat).all (fun j => !inB l (a + (j : Int))) <;> simp
  rw [e] at key
  exact key
def ordC (C : Int → Bool) : Int := if C 3 = true then 3 else if C 2 = true then 2 else if C 1 = true then 1 else if C 0 = true then 0 else -1
theorem ordC_bd (C : Int → Bool) : -1 ≤ ordC C ∧ ordC C ≤ 3 := by unfold ordC; repeat' split <;> omega
/-- The runs from a place on. -/
def jn (N : Int → Int) (n : Int) : Nat → Int → List RunW → List RunW
  | 0, _, out => out
  | f + 1, a, out => if a < n then (if N a < 0 then jn N n f (a + 1) out else jn N n f (a + pw (N a)) (out ++ [⟨a, N a⟩])) else out
theorem jn_congr (N N' : Int → Int) (n : Int) (h : ∀ a, 0 ≤ a → a < n → N a = N' a) : ∀ f a out, 0 ≤ a → jn N n f a out = jn N' n f a out := by
  intro f
  induction f with
  | zero => intro a out _; rfl
  | succ f ih =>
    intro a out ha
    unfold jn
    by_cases h1 : a < n
    · rw [if_pos h1, if_pos h1, h a ha h1]
      have := pw_pos (N' a)
      split
      · exact ih _ _ (by omega)
      · exact ih _ _ (by omega)
    · rw [if_neg h1, if_neg h1]
theorem ev_jn {ρ : Type} (g : Nat → List RunW → Int → Option ρ) (N : Int → Int) (n : Int) (hn : n ≤ 1000) (hN : ∀ a, -1 ≤ N a ∧ N a ≤ 3) (fin : List RunW → ρ)
    (h1 : ∀ a out, 0 ≤ a → a < n → (out.length : Int) ≤ a → N a < 0 → ∀ r, Ev (fun k => g k out (a + 1)) r → Ev (fun k => g k out a) r)
    (h2 : ∀ a out, 0 ≤ a → a < n → (out.length : Int) ≤ a → 0 ≤ N a → ∀ r, Ev (fun k => g k (out ++ [⟨a, N a⟩]) (a + pw (N a))) r → Ev (fun k => g k out a) r)
    (h3 : ∀ a out, n ≤ a → Ev (fun k => g k out a) (fin out)) : ∀ (f : Nat) a out, 0 ≤ a → n ≤ a + f → (out.length : Int) ≤ a → Ev (fun k => g k out a) (fin (jn N n f a out)) := by
  intro f
  induction f with
  | zero => intro a out _ h _; exact h3 a out (by omega)
  | succ f ih =>
    intro a out ha hf hl
    unfold jn
    by_cases hlt : a < n
    · rw [if_pos hlt]
      by_cases hneg : N a < 0
      · rw [if_pos hneg]
        exact h1 a out ha hlt hl hneg _ (ih _ _ (by omega) (by omega) (by omega))
      · rw [if_neg hneg]
        have := pw_pos (N a)
        exact h2 a out ha hlt hl (by omega) _ (ih _ _ (by omega) (by omega) (by simp only [List.length_append, List.length_cons, List.length_nil]; omega))
    · rw [if_neg hlt]
      exact h3 a out (by omega)
/-- The reference's descent. -/
theorem spec_down (n : Int) (l : List Int) (hl : l.length ≤ 1048576) (a : Int) (ha : 0 ≤ a ∧ a ≤ 1000) (out : List RunW) (ho : out.length ≤ 1000) (r : List RunW × Bool)
    (h1 : ordC (clearB l a) < 0 → Ev (fun k => spec_AllRuns.l1 k n l out (a + 1)) r)
    (h2 : 0 ≤ ordC (clearB l a) → Ev (fun k => spec_AllRuns.l1 k n l (out ++ [⟨a, ordC (clearB l a)⟩]) (a + pw (ordC (clearB l a)))) r) : Ev (fun k => spec_AllRuns.l2 k n l out a 3) r := by
  have yes : ∀ o : Int, 0 ≤ o ∧ o ≤ 3 → clearB l a o = true → Ev (fun k => spec_AllRuns.l1 k n l (out ++ [⟨a, o⟩]) (a + pw o)) r → Ev (fun k => spec_AllRuns.l2 k n l out a o) r := by
    intro o ho3 hc h
    have hp := pw_pos o
    have hp8 := pw_le o
    refine Ev.step (f := fun k => (spec_l03Clear.f k l a o).bind fun t114 => (if t114 = true then (if o < 0 then (spec_AllRuns.l1 k n l out (wrap64 (a + 1))) else (if out.length < 8796093022208 then ((spec_l03Pow.f k o).bind fun t118 => (spec_AllRuns.l1 k n l (out ++ [(⟨a, o⟩ : RunW)]) (wrap64 (a + t118)))) else (none))) else (spec_AllRuns.l2 k n l out a (wrap64 (o - 1))))) (fun k => ?_) ?_
    · simp only [spec_AllRuns.l2]
      rw [if_pos (show o ≥ 0 from ho3.1)]
    · refine Ev.bind (l03Clear_ev l hl a o ha ho3) ?_
      simp only [hc, if_true, if_neg (show ¬ o < 0 by omega), if_pos (show out.length < 8796093022208 by omega)]
      refine Ev.bind (l03Pow_ev o ho3) ?_
      rw [wrap64_id (n := a + pw o) (by omega) (by omega)]
      exact h
  have no : ∀ o : Int, 0 ≤ o ∧ o ≤ 3 → clearB l a o = false → Ev (fun k => spec_AllRuns.l2 k n l out a (o - 1)) r → Ev (fun k => spec_AllRuns.l2 k n l out a o) r := by
    intro o ho3 hc h
    refine Ev.step (f := fun k => (spec_l03Clear.f k l a o).bind fun t114 => (if t114 = true then (if o < 0 then (spec_AllRuns.l1 k n l out (wrap64 (a + 1))) else (if out.length < 8796093022208 then ((spec_l03Pow.f k o).bind fun t118 => (spec_AllRuns.l1 k n l (out ++ [(⟨a, o⟩ : RunW)]) (wrap64 (a + t118)))) else (none))) else (spec_AllRuns.l2 k n l out a (wrap64 (o - 1))))) (fun k => ?_) ?_
    · simp only [spec_AllRuns.l2]
      rw [if_pos (show o ≥ 0 from ho3.1)]
    · refine Ev.bind (l03Clear_ev l hl a o ha ho3) ?_
      simp only [hc, Bool.false_eq_true, if_false]
      rw [wrap64_id (n := o - 1) (by omega) (by omega)]
      exact h
  unfold ordC at h1 h2
  by_cases c3 : clearB l a 3 = true
  · rw [if_pos c3] at h2
    exact yes 3 (by omega) c3 (h2 (by omega))
  · rw [if_neg c3] at h1 h2
    refine no 3 (by omega) (by simpa using c3) ?_
    show Ev (fun k => spec_AllRuns.l2 k n l out a 2) r
    by_cases c2 : clearB l a 2 = true
    · rw [if_pos c2] at h2
      exact yes 2 (by omega) c2 (h2 (by omega))
    · rw [if_neg c2] at h1 h2
      refine no 2 (by omega) (by simpa using c2) ?_
      show Ev (fun k => spec_AllRuns.l2 k n l out a 1) r
      by_cases c1 : clearB l a 1 = true
      · rw [if_pos c1] at h2
        exact yes 1 (by omega) c1 (h2 (by omega))
      · rw [if_neg c1] at h1 h2
        refine no 1 (by omega) (by simpa using c1) ?_
        show Ev (fun k => spec_AllRuns.l2 k n l out a 0) r
        by_cases c0 : clearB l a 0 = true
        · rw [if_pos c0] at h2
          exact yes 0 (by omega) c0 (h2 (by omega))
        · rw [if_neg c0] at h1
          refine no 0 (by omega) (by simpa using c0) ?_
          show Ev (fun k => spec_AllRuns.l2 k n l out a (-1)) r
          refine Ev.step (fun k => ?_) (h1 (by omega))
          simp only [spec_AllRuns.l2]
          rw [if_neg (by omega), if_pos (by omega), wrap64_id (n := a + 1) (by omega) (by omega)]
/-- The runs of what is not taken. -/
def runsOf (n : Int) (l : List Int) : List RunW := jn (fun a => ordC (clearB l a)) n n.toNat 0 []
def takenB (n : Int) (l : List Int) : Bool := l.all (fun x => decide (0 ≤ x ∧ x ≤ n - 1))
theorem takenB_all (n : Int) (l : List Int) : (List.range l.length).all (fun i => decide (0 ≤ l.getD i 0 ∧ l.getD i 0 ≤ n - 1)) = takenB n l := range_all l 0 (fun x => decide (0 ≤ x ∧ x ≤ n - 1))
theorem spec_AllRuns_ev (n : Int) (l : List Int) (hl : l.length ≤ 1048576) : Ev (fun k => spec_AllRuns.f k n l) (if sizeB n = true ∧ takenB n l = true then (runsOf n l, true) else ([], false)) := by
  unfold spec_AllRuns.f
  rw [l02Frames_eq]
  simp only [Option.bind_some]
  have bad : ∀ i : Nat, Ev (fun k => spec_AllRuns.l0 k n l false (i : Int)) ([], false) := by
    intro i
    refine Ev.step (f := fun k => spec_AllRuns.j1 k n l false) (fun k => ?_) (Ev.of_succ (fun k => ?_))
    · simp only [spec_AllRuns.l0]
      by_cases h : (i : Int) < (l.length : Int)
      · rw [if_pos h, if_neg (by simp)]
      · rw [if_neg h]
    · simp only [spec_AllRuns.j1]
      rfl
  by_cases hs : sizeB n = true
  · obtain ⟨hn1, hn2, hn3⟩ := sizeB_bd hs
    rw [hs]
    have hw : wrap64 (n - 1) = n - 1 := wrap64_id (by omega) (by omega)
    have key := ev_all0 (fun k i => spec_AllRuns.l0 k n l true (i : Int)) l.length (fun i => decide (0 ≤ l.getD i 0 ∧ l.getD i 0 ≤ n - 1)) ([], false) (runsOf n l, true) (by
      intro i hi hb r h
      refine Ev.step (fun k => ?_) h
      simp only [spec_AllRuns.l0]
      rw [if_pos (by omega), if_pos trivial, if_pos (by omega), l01In_eq, hw]
      unfold rd
      rw [toNat_cast, hb, wrap_succ (by omega)]
      rfl) (by
      intro i hi hb
      refine Ev.step (fun k => ?_) (bad (i + 1))
      simp only [spec_AllRuns.l0]
      rw [if_pos (by omega), if_pos trivial, if_pos (by omega), l01In_eq, hw]
      unfold rd
      rw [toNat_cast, hb, wrap_succ (by omega)]
      rfl) (by
      refine Ev.step (f := fun k => spec_AllRuns.j1 k n l true) (fun k => ?_) (Ev.step (f := fun k => spec_AllRuns.l1 k n l [] 0) (fun k => ?_) ?_)
      · simp only [spec_AllRuns.l0]
        rw [if_neg (by omega)]
      · simp only [spec_AllRuns.j1]
        rw [if_pos trivial]
      · refine ev_jn (fun k out a => spec_AllRuns.l1 k n l out a) (fun a => ordC (clearB l a)) n (by omega) (fun a => ordC_bd _) (fun out => (out, true)) ?_ ?_ ?_ n.toNat 0 [] (by omega) (by omega) (by simp)
        · intro a out ha hlt hlo hneg r h
          refine Ev.step (f := fun k => spec_AllRuns.l2 k n l out a 3) (fun k => ?_) (spec_down n l hl a (by omega) out (by omega) r (fun _ => h) (fun hp => by omega))
          simp only [spec_AllRuns.l1]
          rw [if_pos hlt]
        · intro a out ha hlt hlo hpos r h
          refine Ev.step (f := fun k => spec_AllRuns.l2 k n l out a 3) (fun k => ?_) (spec_down n l hl a (by omega) out (by omega) r (fun hp => by omega) (fun _ => h))
          simp only [spec_AllRuns.l1]
          rw [if_pos hlt]
        · intro a out ha
          refine Ev.of_succ (fun k => ?_)
          simp only [spec_AllRuns.l1]
          rw [if_neg (by omega)])
    rw [takenB_all] at key
    simp only [true_and]
    exact key
  · rw [if_neg (fun h => hs h.1), show sizeB n = false by simpa using hs]
    exact bad 0
/-! The program -/
theorem index_ev (l : List Bool) (hl : l.length ≤ 1000000) (b : Bool) : ∃ r, Ev (fun k => slices_Index_bool_bool.f k l b) r ∧ decide (r ≥ 0) = l.any (fun y => b == y) := by
  have h0 : ∀ d i, i + d = l.length → ∃ r, Ev (fun k => slices_Index_bool_bool.l0 k l b (l.length : Int) (i : Int)) r ∧ decide (r ≥ 0) = (l.drop i).any (fun y => b == y) := by
    intro d
    induction d with
    | zero =>
      intro i hi
      refine ⟨-1, Ev.of_succ (fun k => ?_), ?_⟩
      · simp only [slices_Index_bool_bool.l0]
        rw [if_neg (by omega)]
      · rw [List.drop_of_length_le (by omega)]; rfl
    | succ d ih =>
      intro i hi
      have hlt : i < l.length := by omega
      have hr : rdOf false l (i : Int) = l[i] := by unfold rdOf; rw [toNat_cast]; simp [List.getD_eq_getElem?_getD, List.getElem?_eq_getElem hlt]
      rw [List.drop_eq_getElem_cons hlt, List.any_cons]
      by_cases hb : (b == l[i]) = true
      · refine ⟨i, Ev.of_succ (fun k => ?_), ?_⟩
        · simp only [slices_Index_bool_bool.l0]
          rw [if_pos (by omega), if_pos (by omega), if_pos (by omega), hr, if_pos hb]
        · rw [hb, Bool.true_or]; simp
      · obtain ⟨r, h1, h2⟩ := ih (i + 1) (by omega)
        refine ⟨r, Ev.step (fun k => ?_) h1, ?_⟩
        · simp only [slices_Index_bool_bool.l0]
          rw [if_pos (by omega), if_pos (by omega), if_pos (by omega), hr, if_neg hb, wrap_succ (by omega)]
        · rw [show (b == l[i]) = false by simpa using hb, Bool.false_or, h2]
  obtain ⟨r, h1, h2⟩ := h0 l.length 0 (by omega)
  exact ⟨r, h1, by simpa using h2⟩
theorem contains_ev (l : List Bool) (hl : l.length ≤ 1000000) (b : Bool) : Ev (fun k => slices_Contains_bool_bool.f k l b) (l.any (fun y => b == y)) := by
  unfold slices_Contains_bool_bool.f
  obtain ⟨r, h1, h2⟩ := index_ev l hl b
  refine Ev.bind h1 ?_
  rw [h2]
  exact Ev.now _
def fitB (fr : List Bool) (a o : Int) : Bool := decide (a % pw o = 0) && decide (a + pw o ≤ (fr.length : Int)) && !((fr.take (a + pw o).toNat).drop a.toNat).any (fun y => false == y)
theorem impl_fit (fr : List Bool) (hl : fr.length ≤ 1000) (a : Int) (ha : 0 ≤ a ∧ a ≤ 1000) (out : List RunW) (b o : Int) (ho : 0 ≤ o ∧ o ≤ 3) (r : List RunW)
    (h : Ev (fun k => impl_joined.l1 k fr out a (if fitB fr a o = true then o else b) (o + 1)) r) : Ev (fun k => impl_joined.l1 k fr out a b o) r := by
  have hp := pw_pos o
  have hp8 := pw_le o
  have hw : wrap64 (a + pw o) = a + pw o := wrap64_id (by omega) (by omega)
  have hw2 : wrap64 (o + 1) = o + 1 := wrap64_id (by omega) (by omega)
  unfold fitB at h
  by_cases hm : a % pw o = 0
  · by_cases hlen : a + pw o ≤ (fr.length : Int)
    · refine Ev.step (f := fun k => (slices_Contains_bool_bool.f k ((fr.take ((a + pw o) : Int).toNat).drop (a : Int).toNat) false).bind fun t135 => (if t135 = true then (impl_joined.l1 k fr out a b (o + 1)) else (impl_joined.l1 k fr out a o (o + 1)))) (fun k => ?_) ?_
      · simp only [impl_joined.l1]
        rw [shl_eq o ho, hw, hw2, if_pos ho.2, if_pos ho.1, if_neg (by omega), tmod_nonneg ha.1 hp, if_pos hm, if_pos hlen, if_pos ha.1, if_pos (by omega)]
      · refine Ev.bind (contains_ev _ (by rw [List.length_drop, List.length_take]; omega) false) ?_
        rw [decide_eq_true hm, decide_eq_true hlen] at h
        simp only [Bool.true_and] at h
        cases hc : ((fr.take ((a + pw o) : Int).toNat).drop (a : Int).toNat).any (fun y => false == y) with
        | true => simp only [hc, Bool.not_true, Bool.false_eq_true, if_false] at h; simp only [if_true]; exact h
        | false => simp only [hc, Bool.not_false, if_true] at h; simp only [Bool.false_eq_true, if_false]; exact h
    · rw [decide_eq_true hm, decide_eq_false hlen] at h
      simp only [Bool.and_false, Bool.false_and, Bool.false_eq_true, if_false] at h
      refine Ev.step (fun k => ?_) h
      simp only [impl_joined.l1]
      rw [shl_eq o ho, hw, hw2, if_pos ho.2, if_pos ho.1, if_neg (by omega), tmod_nonneg ha.1 hp, if_pos hm, if_neg hlen]
  · rw [decide_eq_false hm] at h
    simp only [Bool.false_and, Bool.false_eq_true, if_false] at h
    refine Ev.step (fun k => ?_) h
    simp only [impl_joined.l1]
    rw [shl_eq o ho, hw2, if_pos ho.2, if_pos ho.1, if_neg (by omega), tmod_nonneg ha.1 hp, if_neg hm]
theorem ordC_up (C : Int → Bool) : (if C 3 = true then (3 : Int) else (if C 2 = true then 2 else (if C 1 = true then 1 else (if C 0 = true then 0 else -1)))) = ordC C := rfl
def joinB (fr : List Bool) : List RunW := jn (fun a => ordC (fitB fr a)) (fr.length : Int) fr.length 0 []
theorem joined_ev (fr : List Bool) (hl : fr.length ≤ 100) : Ev (fun k => impl_joined.f k fr) (joinB fr) := by
  unfold impl_joined.f
  refine ev_jn (fun k out a => impl_joined.l0 k fr out a) (fun a => ordC (fitB fr a)) (fr.length : Int) (by omega) (fun a => ordC_bd _) id ?_ ?_ ?_ fr.length 0 [] (by omega) (by omega) (by simp)
  · intro a out ha hlt hlo hneg r h
    refine Ev.step (f := fun k => impl_joined.l1 k fr out a (-1) 0) (fun k => ?_) ?_
    · simp only [impl_joined.l0]
      rw [if_pos hlt]
    refine impl_fit fr (by omega) a (by omega) out _ 0 (by omega) r (impl_fit fr (by omega) a (by omega) out _ 1 (by omega) r (impl_fit fr (by omega) a (by omega) out _ 2 (by omega) r (impl_fit fr (by omega) a (by omega) out _ 3 (by omega) r ?_)))
    rw [ordC_up]
    refine Ev.step (fun k => ?_) h
    simp only [impl_joined.l1]
    rw [if_neg (by omega), if_pos hneg, wrap64_id (n := a + 1) (by omega) (by omega)]
  · intro a out ha hlt hlo hpos r h
    have hb := ordC_bd (fitB fr a)
    have hp := pw_pos (ordC (fitB fr a))
    have hp8 := pw_le (ordC (fitB fr a))
    refine Ev.step (f := fun k => impl_joined.l1 k fr out a (-1) 0) (fun k => ?_) ?_
    · simp only [impl_joined.l0]
      rw [if_pos hlt]
    refine impl_fit fr (by omega) a (by omega) out _ 0 (by omega) r (impl_fit fr (by omega) a (by omega) out _ 1 (by omega) r (impl_fit fr (by omega) a (by omega) out _ 2 (by omega) r (impl_fit fr (by omega) a (by omega) out _ 3 (by omega) r ?_)))
    rw [ordC_up]
    refine Ev.step (fun k => ?_) h
    simp only [impl_joined.l1]
    rw [if_neg (by omega), if_neg (by omega), if_pos (by omega), if_pos hpos, shl_eq _ ⟨hpos, hb.2⟩, wrap64_id (n := a + pw (ordC (fitB fr a))) (by omega) (by omega)]
  · intro a out ha
    refine Ev.of_succ (fun k => ?_)
    simp only [impl_joined.l0]
    rw [if_neg (by omega)]
    rfl
/-- Who is free, as a row. -/
def freeR (n : Nat) (l : List Int) : List Bool := (List.range n).map (fun j : Nat => !inB l (j : Int))
theorem freeR_len (n : Nat) (l : List Int) : (freeR n l).length = n := by simp [freeR]
theorem freeR_at (n : Nat) (l : List Int) (j : Nat) (h : j < n) : (freeR n l)[j]? = some (!inB l (j : Int)) := by simp [freeR, h]
theorem freeR_set (n : Nat) (l : List Int) (x : Int) (hx : 0 ≤ x) : (freeR n l).set x.toNat false = freeR n (l ++ [x]) := by
  apply List.ext_getElem?
  intro j
  by_cases hj : j < n
  · rw [List.getElem?_set, freeR_at n l j hj, freeR_at n (l ++ [x]) j hj, freeR_len]
    unfold inB
    rw [List.any_append]
    by_cases e : x.toNat = j
    · rw [if_pos e, if_pos (by omega)]
      have : x = (j : Int) := by omega
      simp [this]
    · rw [if_neg e]
      have : ¬ x = (j : Int) := by omega
      simp [this]
  · rw [List.getElem?_eq_none (by rw [List.length_set, freeR_len]; omega), List.getElem?_eq_none (by rw [freeR_len]; omega)]
theorem fit_clear (n : Int) (hn : n ≤ 32) (hn8 : n % 8 = 0) (l : List Int) (a : Int) (ha : 0 ≤ a) (han : a < n) (o : Int) : fitB (freeR n.toNat l) a o = clearB l a o := by
  unfold fitB clearB
  have hp := pw_pos o
  rw [freeR_len]
  by_cases hm : a % pw o = 0
  · have hle : a + pw o ≤ n := by
      have : pw o = 1 ∨ pw o = 2 ∨ pw o = 4 ∨ pw o = 8 := by unfold pw; repeat' split <;> omega
      rcases this with e | e | e | e <;> rw [e] at hm ⊢ <;> omega
    rw [decide_eq_true hm, decide_eq_true (show a + pw o ≤ (n.toNat : Int) by omega), Bool.true_and, Bool.true_and, Bool.and_true]
    have e : ((freeR n.toNat l).take (a + pw o).toNat).drop a.toNat = (List.range (pw o).toNat).map (fun j : Nat => !inB l (a + (j : Int))) := by
      apply List.ext_getElem?
      intro j
      by_cases hj : j < (pw o).toNat
      · rw [List.getElem?_drop, List.getElem?_take_of_lt (by omega), freeR_at _ _ _ (by omega)]
        simp only [List.getElem?_map, List.getElem?_range hj, Option.map_some]
        rw [show ((a.toNat + j : Nat) : Int) = a + (j : Int) by omega]
      · rw [List.getElem?_eq_none (by rw [List.length_drop, List.length_take, freeR_len]; omega), List.getElem?_eq_none (by simp; omega)]
    rw [e, List.any_map, List.all_eq_not_any_not]
    congr 1
    apply List.any_congr rfl
    intro x
    simp
  · rw [decide_eq_false hm]; simp
theorem joinB_free (n : Int) (h : sizeB n = true) (l : List Int) : joinB (freeR n.toNat l) = runsOf n l := by
  obtain ⟨h1, h2, h3⟩ := sizeB_bd h
  unfold joinB runsOf
  rw [freeR_len, show ((n.toNat : Nat) : Int) = n by omega]
  refine jn_congr _ _ n (fun a ha han => ?_) _ _ _ (by omega)
  unfold ordC
  rw [fit_clear n h2 h3 l a ha han, fit_clear n h2 h3 l a ha han, fit_clear n h2 h3 l a ha han, fit_clear n h2 h3 l a ha han]
def setAll (l : List Int) (acc : List Bool) : List Bool := l.foldl (fun s x => s.set x.toNat false) acc
theorem setAll_len (l : List Int) (acc : List Bool) : (setAll l acc).length = acc.length := by
  unfold setAll
  induction l generalizing acc with
  | nil => rfl
  | cons x l ih => rw [List.foldl_cons, ih, List.length_set]
theorem setAll_succ (l : List Int) (acc : List Bool) (i : Nat) (h : i < l.length) : setAll (l.take (i + 1)) acc = (setAll (l.take i) acc).set (l.getD i 0).toNat false := by
  unfold setAll
  rw [List.take_succ_eq_append_getElem h, List.foldl_append]
  simp [List.getD_eq_getElem?_getD, List.getElem?_eq_getElem h]
theorem setAll_free (n : Nat) (l l' : List Int) (h : ∀ x ∈ l, 0 ≤ x) : setAll l (freeR n l') = freeR n (l' ++ l) := by
  induction l generalizing l' with
  | nil => rw [List.append_nil]; rfl
  | cons x l ih =>
    have := ih (l' ++ [x]) (fun y hy => h y (List.mem_cons_of_mem _ hy))
    rw [List.append_assoc] at this
    rw [show l' ++ x :: l = l' ++ ([x] ++ l) from rfl, ← this, ← freeR_set n l' x (h x List.mem_cons_self)]
    rfl
theorem jn_len (N : Int → Int) (n : Int) : ∀ f a out, (jn N n f a out).length ≤ out.length + f := by
  intro f
  induction f with
  | zero => intro a out; simp [jn]
  | succ f ih =>
    intro a out
    unfold jn
    split
    · split
      · have := ih (a + 1) out; omega
      · have := ih (a + pw (N a)) (out ++ [⟨a, N a⟩]); simp only [List.length_append, List.length_cons, List.length_nil] at this; omega
    · omega
/-! The runs of what is not taken are right, cover what is not taken, and are as great as can be. -/
theorem clearB_iff (l : List Int) (a o : Int) : clearB l a o = true ↔ (∀ x, a ≤ x → x < a + pw o → inB l x = false) ∧ a % pw o = 0 := by
  unfold clearB
  rw [Bool.and_eq_true, List.all_eq_true, decide_eq_true_eq]
  have hp := pw_pos o
  constructor
  · rintro ⟨h1, h2⟩
    refine ⟨fun x hx hx2 => ?_, h2⟩
    have := h1 (x - a).toNat (List.mem_range.2 (by omega))
    rw [show a + ((x - a).toNat : Int) = x by omega] at this
    simpa using this
  · rintro ⟨h1, h2⟩
    refine ⟨fun j hj => ?_, h2⟩
    have hj := List.mem_range.1 hj
    rw [h1 (a + (j : Int)) (by omega) (by omega)]; rfl
theorem ordC_max (C : Int → Bool) (o : Int) (ho : 0 ≤ o ∧ o ≤ 3) (h : C o = true) : o ≤ ordC C := by
  unfold ordC
  have hc : o = 0 ∨ o = 1 ∨ o = 2 ∨ o = 3 := by omega
  rcases hc with rfl | rfl | rfl | rfl
  · rw [if_pos h]; repeat' split <;> omega
  · rw [if_pos h]; repeat' split <;> omega
  · rw [if_pos h]; repeat' split <;> omega
  · rw [if_pos h]; omega
theorem ordC_is (C : Int → Bool) (h : 0 ≤ ordC C) : C (ordC C) = true := by
  unfold ordC at h ⊢
  split
  · assumption
  · rename_i h3
    rw [if_neg h3] at h
    split
    · assumption
    · rename_i h2
      rw [if_neg h2] at h
      split
      · assumption
      · rename_i h1
        rw [if_neg h1] at h
        split
        · assumption
        · rename_i h0
          rw [if_neg h0] at h
          omega
theorem pw_cases {o : Int} (ho : 0 ≤ o ∧ o ≤ 3) : (o = 0 ∧ pw o = 1) ∨ (o = 1 ∧ pw o = 2) ∨ (o = 2 ∧ pw o = 4) ∨ (o = 3 ∧ pw o = 8) := by
  have hc : o = 0 ∨ o = 1 ∨ o = 2 ∨ o = 3 := by omega
  rcases hc with rfl | rfl | rfl | rfl
  · exact Or.inl ⟨rfl, rfl⟩
  · exact Or.inr (Or.inl ⟨rfl, rfl⟩)
  · exact Or.inr (Or.inr (Or.inl ⟨rfl, rfl⟩))
  · exact Or.inr (Or.inr (Or.inr ⟨rfl, rfl⟩))
theorem jn_out (N : Int → Int) (n : Int) : ∀ f a out, jn N n f a out = out ++ jn N n f a [] := by
  intro f
  induction f with
  | zero => intro a out; simp [jn]
  | succ f ih =>
    intro a out
    unfold jn
    split
    · split
      · exact ih _ _
      · have e1 := ih (a + pw (N a)) (out ++ [(⟨a, N a⟩ : RunW)])
        have e2 := ih (a + pw (N a)) ([] ++ [(⟨a, N a⟩ : RunW)])
        rw [List.append_assoc] at e1
        rw [List.nil_append] at e2
        exact e1.trans (congrArg (out ++ ·) e2.symm)
    · simp
/-- No whole block that begins before a reaches over a. -/
def NoOver (l : List Int) (a : Int) : Prop := ∀ c p : Int, 0 ≤ p ∧ p ≤ 3 → c < a → a < c + pw p → clearB l c p = false
theorem noOver_skip {l : List Int} {a : Int} (h : NoOver l a) (hN : ordC (clearB l a) < 0) : NoOver l (a + 1) ∧ inB l a = true := by
  have ht : inB l a = true := by
    by_cases hf : inB l a = true
    · exact hf
    · exfalso
      have := ordC_max (clearB l a) 0 (by omega) ((clearB_iff l a 0).2 ⟨fun x h1 h2 => by
        have : pw 0 = 1 := rfl
        obtain rfl : x = a := by omega
        simpa using hf, by show a % 1 = 0; omega⟩)
      omega
  refine ⟨fun c p hp hc ha => ?_, ht⟩
  by_cases hca : c < a
  · exact h c p hp hca (by omega)
  · obtain rfl : c = a := by omega
    by_cases hcl : clearB l c p = true
    · have := ((clearB_iff l c p).1 hcl).1 c (by omega) (by have := pw_pos p; omega)
      rw [this] at ht; cases ht
    · simpa using hcl
theorem noOver_take {l : List Int} {a : Int} (h : NoOver l a) (hN : 0 ≤ ordC (clearB l a)) : NoOver l (a + pw (ordC (clearB l a))) := by
  intro c p hp hc ha
  have hb := ordC_bd (clearB l a)
  have hcl := (clearB_iff l a _).1 (ordC_is _ hN)
  by_cases hx : clearB l c p = true
  · exfalso
    have hcp := ((clearB_iff l c p).1 hx).2
    have hpp := pw_pos p
    by_cases hca : c < a
    · have := h c p hp hca (by have := pw_pos (ordC (clearB l a)); omega)
      rw [this] at hx; cases hx
    · by_cases hce : c = a
      · subst hce
        have hm := ordC_max _ p hp hx
        generalize ordC (clearB l c) = o at *
        rcases pw_cases (o := o) (by omega) with ⟨e1, e2⟩ | ⟨e1, e2⟩ | ⟨e1, e2⟩ | ⟨e1, e2⟩ <;> rcases pw_cases hp with ⟨e3, e4⟩ | ⟨e3, e4⟩ | ⟨e3, e4⟩ | ⟨e3, e4⟩ <;> omega
      · have h2 := hcl.2
        generalize ordC (clearB l a) = o at *
        rcases pw_cases (o := o) (by omega) with ⟨e1, e2⟩ | ⟨e1, e2⟩ | ⟨e1, e2⟩ | ⟨e1, e2⟩ <;> rcases pw_cases hp with ⟨e3, e4⟩ | ⟨e3, e4⟩ | ⟨e3, e4⟩ | ⟨e3, e4⟩ <;> rw [e2] at h2 ha hc <;> rw [e4] at hcp ha <;> omega
  · simpa using hx
theorem take_end {n : Int} (hn8 : n % 8 = 0) {l : List Int} {a : Int} (ha : a < n) (hN : 0 ≤ ordC (clearB l a)) : a + pw (ordC (clearB l a)) ≤ n := by
  have hb := ordC_bd (clearB l a)
  have h2 := ((clearB_iff l a _).1 (ordC_is _ hN)).2
  generalize ordC (clearB l a) = o at *
  rcases pw_cases (o := o) (by omega) with ⟨e1, e2⟩ | ⟨e1, e2⟩ | ⟨e1, e2⟩ | ⟨e1, e2⟩ <;> rw [e2] at h2 ⊢ <;> omega
/-- A row of right runs behind p. -/
def RightFrom (n : Int) : Option RunW → List RunW → Prop
  | _, [] => True
  | p, r :: l => oneB n r = true ∧ (∀ q, p = some q → q.f0 + pw q.f1 ≤ r.f0 ∧ broB q r = false) ∧ RightFrom n (some r) l
theorem rightFrom_at {n : Int} : ∀ (l : List RunW) (p : Option RunW), RightFrom n p l → ∀ i, i < l.length → oneB n (runAt l i) = true ∧ (0 < i → (runAt l (i - 1)).f0 + pw (runAt l (i - 1)).f1 ≤ (runAt l i).f0 ∧ broB (runAt l (i - 1)) (runAt l i) = false) := by
  intro l
  induction l with
  | nil => intro p _ i hi; simp at hi
  | cons r l ih =>
    intro p h i hi
    obtain ⟨h1, h2, h3⟩ := h
    cases i with
    | zero => exact ⟨h1, fun h => by omega⟩
    | succ i =>
      simp only [List.length_cons] at hi
      have hr : runAt (r :: l) (i + 1) = runAt l i := rfl
      obtain ⟨h4, h5⟩ := ih (some r) h3 i (by omega)
      refine ⟨by rw [hr]; exact h4, fun _ => ?_⟩
      rw [hr, show i + 1 - 1 = i from rfl]
      cases i with
      | zero =>
        cases l with
        | nil => simp at hi
        | cons s l =>
          obtain ⟨_, h6, _⟩ := h3
          exact h6 r rfl
      | succ i => exact h5 (by omega)
theorem runsB_of {n : Int} (hs : sizeB n = true) {l : List RunW} (h : RightFrom n none l) : runsB n l = true := by
  obtain ⟨hn1, hn2, hn3⟩ := sizeB_bd hs
  unfold runsB
  rw [hs, Bool.true_and, List.all_eq_true]
  intro i hi
  obtain ⟨h1, h2⟩ := rightFrom_at l none h i (List.mem_range.1 hi)
  unfold okAt apB
  by_cases h0 : i = 0
  · subst h0; simp [h1]
  · obtain ⟨h3, h4⟩ := h2 (by omega)
    obtain ⟨_, hq, _⟩ := oneB_bd (rightFrom_at l none h (i - 1) (by have := List.mem_range.1 hi; omega)).1
    rw [wrap_size ⟨hn1, hn2⟩] at hq
    have hp := pw_pos (runAt l (i - 1)).f1
    have hp8 := pw_le (runAt l (i - 1)).f1
    rw [h1, h4, wrap64_id (by omega) (by omega), decide_eq_true h3]
    simp
theorem jn_right {n : Int} (hs : sizeB n = true) (l : List Int) : ∀ (f : Nat) (a : Int) (p : Option RunW), 0 ≤ a → NoOver l a →
    (∀ q, p = some q → q.f0 + pw q.f1 ≤ a ∧ 0 ≤ q.f1 ∧ q.f1 ≤ 3 ∧ (∀ x, q.f0 ≤ x → x < q.f0 + pw q.f1 → inB l x = false) ∧ (q.f1 < 3 → q.f0 % (2 * pw q.f1) = 0 → clearB l q.f0 (q.f1 + 1) = false)) →
    RightFrom n p (jn (fun a => ordC (clearB l a)) n f a []) := by
  obtain ⟨hn1, hn2, hn3⟩ := sizeB_bd hs
  intro f
  induction f with
  | zero => intro a p _ _ _; simp [jn, RightFrom]
  | succ f ih =>
    intro a p ha hno hp
    unfold jn
    by_cases hlt : a < n
    · rw [if_pos hlt]
      by_cases hneg : ordC (clearB l a) < 0
      · rw [if_pos hneg]
        refine ih (a + 1) p (by omega) (noOver_skip hno hneg).1 (fun q hq => ?_)
        obtain ⟨h1, h2⟩ := hp q hq
        exact ⟨by omega, h2⟩
      · rw [if_neg hneg, jn_out]
        have hpos : 0 ≤ ordC (clearB l a) := by omega
        have hb := ordC_bd (clearB l a)
        have hend := take_end hn3 hlt hpos
        have hcl := (clearB_iff l a _).1 (ordC_is _ hpos)
        have hpw := pw_pos (ordC (clearB l a))
        refine ⟨?_, fun q hq => ?_, ?_⟩
        · unfold oneB
          rw [wrap_size ⟨hn1, hn2⟩, decide_eq_true (show 0 ≤ ordC (clearB l a) ∧ ordC (clearB l a) ≤ 3 from ⟨hpos, hb.2⟩), decide_eq_true (show 0 ≤ a ∧ a ≤ n - pw (ordC (clearB l a)) by omega), decide_eq_true hcl.2]
          rfl
        · obtain ⟨h1, h2, h3, h4, h5⟩ := hp q hq
          refine ⟨h1, ?_⟩
          by_cases hbro : broB q ⟨a, ordC (clearB l a)⟩ = true
          · exfalso
            unfold broB at hbro
            simp only [Bool.and_eq_true, decide_eq_true_eq] at hbro
            obtain ⟨⟨⟨b1, b2⟩, b3⟩, b4⟩ := hbro
            have hx := h5 b2 b3
            have hy : clearB l q.f0 (q.f1 + 1) = true := by
              rw [clearB_iff]
              have hpp : pw (q.f1 + 1) = 2 * pw q.f1 := by
                have hc : q.f1 = 0 ∨ q.f1 = 1 ∨ q.f1 = 2 := by omega
                rcases hc with e | e | e <;> rw [e] <;> rfl
              rw [hpp]
              refine ⟨fun x hx1 hx2 => ?_, b3⟩
              by_cases hxa : x < q.f0 + pw q.f1
              · exact h4 x hx1 hxa
              · refine hcl.1 x (by omega) ?_
                rw [← b1]; omega
            rw [hx] at hy; cases hy
          · simpa using hbro
        · refine ih (a + pw (ordC (clearB l a))) (some ⟨a, ordC (clearB l a)⟩) (by omega) (noOver_take hno hpos) (fun q hq => ?_)
          injection hq with hq
          subst hq
          refine ⟨Int.le_refl _, hpos, hb.2, hcl.1, fun h3 hm => ?_⟩
          show clearB l a (ordC (clearB l a) + 1) = false
          by_cases hx : clearB l a (ordC (clearB l a) + 1) = true
          · exfalso
            have := ordC_max (clearB l a) (ordC (clearB l a) + 1) ⟨by omega, by have h3' : ordC (clearB l a) < 3 := h3; omega⟩ hx
            omega
          · simpa using hx
    · rw [if_neg hlt]
      trivial
theorem noOver_zero (l : List Int) : NoOver l 0 := by
  intro c p hp h1 h2
  by_cases hx : clearB l c p = true
  · exfalso
    have hm := ((clearB_iff l c p).1 hx).2
    rcases pw_cases hp with ⟨e3, e4⟩ | ⟨e3, e4⟩ | ⟨e3, e4⟩ | ⟨e3, e4⟩ <;> rw [e4] at hm h2 <;> omega
  · simpa using hx
theorem runsOf_right {n : Int} (hs : sizeB n = true) (l : List Int) : runsB n (runsOf n l) = true :=
  runsB_of hs (jn_right hs l n.toNat 0 none (by omega) (noOver_zero l) (fun q hq => by cases hq))
theorem runsOf_len {n : Int} (hs : sizeB n = true) (l : List Int) : (runsOf n l).length ≤ 32 := by
  have := jn_len (fun a => ordC (clearB l a)) n n.toNat 0 []
  have h3 := sizeB_bd hs
  simp only [List.length_nil] at this
  unfold runsOf
  omega
/-- Who lies in a run. -/
def covB (R : List RunW) (x : Int) : Bool := R.any (fun r => decide (r.f0 ≤ x) && decide (x < r.f0 + pw r.f1))
theorem jn_cov {n : Int} (hn8 : n % 8 = 0) (l : List Int) : ∀ (f : Nat) (a : Int), 0 ≤ a → n ≤ a + f →
    (∀ x, a ≤ x → x < n → covB (jn (fun a => ordC (clearB l a)) n f a []) x = !inB l x) ∧ (∀ r ∈ jn (fun a => ordC (clearB l a)) n f a [], a ≤ r.f0 ∧ r.f0 + pw r.f1 ≤ n ∧ 0 ≤ r.f1 ∧ r.f1 ≤ 3) := by
  intro f
  induction f with
  | zero => intro a ha hf; exact ⟨fun x h1 h2 => by omega, fun r hr => by cases hr⟩
  | succ f ih =>
    intro a ha hf
    unfold jn
    by_cases hlt : a < n
    · rw [if_pos hlt]
      by_cases hneg : ordC (clearB l a) < 0
      · rw [if_pos hneg]
        obtain ⟨h1, h2⟩ := ih (a + 1) (by omega) (by omega)
        refine ⟨fun x hx1 hx2 => ?_, fun r hr => ?_⟩
        · by_cases hxa : x = a
          · subst hxa
            have ht : inB l x = true := by
              by_cases hf : inB l x = true
              · exact hf
              · exfalso
                have := ordC_max (clearB l x) 0 (by omega) ((clearB_iff l x 0).2 ⟨fun y h1 h2 => by
                  have : pw 0 = 1 := rfl
                  obtain rfl : y = x := by omega
                  simpa using hf, by show x % 1 = 0; omega⟩)
                omega
            rw [ht]
            unfold covB
            rw [Bool.not_true, List.any_eq_false]
            intro r hr
            have := (h2 r hr).1
            simp only [Bool.and_eq_true, decide_eq_true_eq, not_and]
            intro _; omega
          · exact h1 x (by omega) hx2
        · have := h2 r hr; exact ⟨by omega, this.2⟩
      · rw [if_neg hneg, jn_out]
        have hpos : 0 ≤ ordC (clearB l a) := by omega
        have hb := ordC_bd (clearB l a)
        have hend := take_end hn8 hlt hpos
        have hcl := (clearB_iff l a _).1 (ordC_is _ hpos)
        have hpw := pw_pos (ordC (clearB l a))
        obtain ⟨h1, h2⟩ := ih (a + pw (ordC (clearB l a))) (by omega) (by omega)
        refine ⟨fun x hx1 hx2 => ?_, fun r hr => ?_⟩
        · have e : covB (([] ++ [(⟨a, ordC (clearB l a)⟩ : RunW)]) ++ jn (fun a => ordC (clearB l a)) n f (a + pw (ordC (clearB l a))) []) x = ((decide (a ≤ x) && decide (x < a + pw (ordC (clearB l a)))) || covB (jn (fun a => ordC (clearB l a)) n f (a + pw (ordC (clearB l a))) []) x) := rfl
          rw [e]
          by_cases hxa : x < a + pw (ordC (clearB l a))
          · rw [decide_eq_true hx1, decide_eq_true hxa, hcl.1 x hx1 hxa]; rfl
          · rw [decide_eq_false hxa, Bool.and_false, Bool.false_or]
            exact h1 x (by omega) hx2
        · rcases List.mem_append.1 hr with hr | hr
          · simp only [List.nil_append, List.mem_singleton] at hr
            subst hr
            exact ⟨Int.le_refl _, hend, hpos, hb.2⟩
          · have := h2 r hr; exact ⟨by omega, this.2⟩
    · rw [if_neg hlt]
      exact ⟨fun x h1 h2 => by omega, fun r hr => by cases hr⟩
theorem runsOf_cov {n : Int} (hs : sizeB n = true) (l : List Int) : (∀ x, 0 ≤ x → x < n → covB (runsOf n l) x = !inB l x) ∧ (∀ r ∈ runsOf n l, 0 ≤ r.f0 ∧ r.f0 + pw r.f1 ≤ n ∧ 0 ≤ r.f1 ∧ r.f1 ≤ 3) :=
  jn_cov (sizeB_bd hs).2.2 l n.toNat 0 (by omega) (by omega)
theorem jn_great {n : Int} (l : List Int) : ∀ (f : Nat) (a : Int), n ≤ a + f → NoOver l a → ∀ c p : Int, 0 ≤ p ∧ p ≤ 3 → a ≤ c → c < n → clearB l c p = true →
    ∃ r ∈ jn (fun a => ordC (clearB l a)) n f a [], r.f0 ≤ c ∧ c + pw p ≤ r.f0 + pw r.f1 := by
  intro f
  induction f with
  | zero => intro a hf _ c p _ h1 h2; omega
  | succ f ih =>
    intro a hf hno c p hp hac hcn hcl
    unfold jn
    rw [if_pos (show a < n by omega)]
    have hpp := pw_pos p
    by_cases hneg : ordC (clearB l a) < 0
    · rw [if_pos hneg]
      obtain ⟨h1, h2⟩ := noOver_skip hno hneg
      refine ih (a + 1) (by omega) h1 c p hp ?_ hcn hcl
      by_cases hca : c = a
      · subst hca
        rw [((clearB_iff l c p).1 hcl).1 c (by omega) (by omega)] at h2; cases h2
      · omega
    · rw [if_neg hneg, jn_out]
      have hpos : 0 ≤ ordC (clearB l a) := by omega
      have hb := ordC_bd (clearB l a)
      have hpw := pw_pos (ordC (clearB l a))
      by_cases hfar : a + pw (ordC (clearB l a)) ≤ c
      · obtain ⟨r, hr, h1⟩ := ih (a + pw (ordC (clearB l a))) (by omega) (noOver_take hno hpos) c p hp hfar hcn hcl
        exact ⟨r, List.mem_append_right _ hr, h1⟩
      · refine ⟨⟨a, ordC (clearB l a)⟩, List.mem_append_left _ (by simp), hac, ?_⟩
        show c + pw p ≤ a + pw (ordC (clearB l a))
        have h2 := ((clearB_iff l a _).1 (ordC_is _ hpos)).2
        have hcp := ((clearB_iff l c p).1 hcl).2
        have hm : c = a → p ≤ ordC (clearB l a) := fun e => by subst e; exact ordC_max _ p hp hcl
        generalize ordC (clearB l a) = o at *
        rcases pw_cases (o := o) (by omega) with ⟨e1, e2⟩ | ⟨e1, e2⟩ | ⟨e1, e2⟩ | ⟨e1, e2⟩ <;> rcases pw_cases hp with ⟨e3, e4⟩ | ⟨e3, e4⟩ | ⟨e3, e4⟩ | ⟨e3, e4⟩ <;> rw [e2] at h2 hfar ⊢ <;> rw [e4] at hcp ⊢ <;> omega
theorem runsOf_great {n : Int} (l : List Int) (c p : Int) (hp : 0 ≤ p ∧ p ≤ 3) (h0 : 0 ≤ c) (hcn : c < n) (hcl : clearB l c p = true) : ∃ r ∈ runsOf n l, r.f0 ≤ c ∧ c + pw p ≤ r.f0 + pw r.f1 :=
  jn_great l n.toNat 0 (by omega) (noOver_zero l) c p hp h0 hcn hcl
theorem runF_in (r : RunW) (x : Int) : inB (runF r) x = (decide (r.f0 ≤ x) && decide (x < r.f0 + pw r.f1)) := by
  have hp := pw_pos r.f1
  rw [Bool.eq_iff_iff]
  unfold inB runF
  rw [List.any_eq_true]
  simp only [List.mem_map, List.mem_range, decide_eq_true_eq, Bool.and_eq_true]
  constructor
  · rintro ⟨y, ⟨j, hj, rfl⟩, rfl⟩; omega
  · rintro ⟨h1, h2⟩
    exact ⟨x, ⟨(x - r.f0).toNat, by omega, by omega⟩, rfl⟩
theorem framesB_in (R : List RunW) (x : Int) : inB (framesB R) x = covB R x := by
  have : ∀ (R : List RunW) (s : List Int), inB (R.foldl (fun s r => s ++ runF r) s) x = (inB s x || covB R x) := by
    intro R
    induction R with
    | nil => intro s; simp [covB]
    | cons r R ih =>
      intro s
      rw [List.foldl_cons, ih]
      have e1 : inB (s ++ runF r) x = (inB s x || inB (runF r) x) := by unfold inB; rw [List.any_append]
      have e2 : covB (r :: R) x = ((decide (r.f0 ≤ x) && decide (x < r.f0 + pw r.f1)) || covB R x) := rfl
      rw [e1, e2, runF_in, Bool.or_assoc]
  have h := this R []
  unfold framesB
  rw [h]; rfl
theorem clearB_congr {n : Int} (hn8 : n % 8 = 0) (l l' : List Int) (h : ∀ x, 0 ≤ x → x < n → inB l x = inB l' x) (a o : Int) (ha : 0 ≤ a) (han : a < n) (ho : 0 ≤ o ∧ o ≤ 3) : clearB l a o = clearB l' a o := by
  have hp := pw_pos o
  have key : ∀ l l' : List Int, (∀ x, 0 ≤ x → x < n → inB l x = inB l' x) → clearB l a o = true → clearB l' a o = true := by
    intro l l' h hc
    obtain ⟨h1, h2⟩ := (clearB_iff l a o).1 hc
    refine (clearB_iff l' a o).2 ⟨fun x hx1 hx2 => ?_, h2⟩
    have hx3 : x < n := by
      rcases pw_cases ho with ⟨e3, e4⟩ | ⟨e3, e4⟩ | ⟨e3, e4⟩ | ⟨e3, e4⟩ <;> rw [e4] at h2 hx2 <;> omega
    rw [← h x (by omega) hx3]
    exact h1 x hx1 hx2
  rw [Bool.eq_iff_iff]
  exact ⟨key l l' h, key l' l (fun x a b => (h x a b).symm)⟩
theorem runsOf_congr {n : Int} (hs : sizeB n = true) (l l' : List Int) (h : ∀ x, 0 ≤ x → x < n → inB l x = inB l' x) : runsOf n l = runsOf n l' := by
  obtain ⟨hn1, hn2, hn3⟩ := sizeB_bd hs
  unfold runsOf
  refine jn_congr _ _ n (fun a ha han => ?_) _ _ _ (by omega)
  unfold ordC
  rw [clearB_congr hn3 l l' h a 3 ha han (by omega), clearB_congr hn3 l l' h a 2 ha han (by omega), clearB_congr hn3 l l' h a 1 ha han (by omega), clearB_congr hn3 l l' h a 0 ha han (by omega)]
theorem covB_cons (r : RunW) (R : List RunW) (x : Int) : covB (r :: R) x = (decide (r.f0 ≤ x) && decide (x < r.f0 + pw r.f1) || covB R x) := rfl
theorem covB_iff (R : List RunW) (x : Int) : covB R x = true ↔ ∃ r ∈ R, r.f0 ≤ x ∧ x < r.f0 + pw r.f1 := by
  unfold covB
  rw [List.any_eq_true]
  constructor
  · rintro ⟨r, hr, h⟩
    rw [Bool.and_eq_true, decide_eq_true_eq, decide_eq_true_eq] at h
    exact ⟨r, hr, h⟩
  · rintro ⟨r, hr, h⟩
    exact ⟨r, hr, by rw [decide_eq_true h.1, decide_eq_true h.2]; rfl⟩
theorem right_sorted {n : Int} : ∀ (R : List RunW) (p : Option RunW) (r : RunW), RightFrom n p (r :: R) → ∀ t ∈ R, r.f0 + pw r.f1 ≤ t.f0 := by
  intro R
  induction R with
  | nil => intro p r _ t ht; cases ht
  | cons s R ih =>
    intro p r h t ht
    obtain ⟨_, _, h3⟩ := h
    have h4 := (h3.2.1 r rfl).1
    rcases List.mem_cons.1 ht with rfl | ht
    · exact h4
    · have := ih (some r) s h3 t ht
      have := pw_pos s.f1
      omega
theorem right_one {n : Int} : ∀ (R : List RunW) (p : Option RunW), RightFrom n p R → ∀ t ∈ R, oneB n t = true := by
  intro R
  induction R with
  | nil => intro p _ t ht; cases ht
  | cons s R ih =>
    intro p h t ht
    rcases List.mem_cons.1 ht with rfl | ht
    · exact h.1
    · exact ih _ h.2.2 t ht
theorem no_great {n : Int} (hn : 8 ≤ n ∧ n ≤ 32) : ∀ (R : List RunW) (p : Option RunW) (r : RunW), RightFrom n p (r :: R) → r.f1 < 3 → r.f0 % (2 * pw r.f1) = 0 → (∀ x, r.f0 ≤ x → x < r.f0 + 2 * pw r.f1 → covB (r :: R) x = true) → False := by
  intro R
  induction R with
  | nil =>
    intro p r h h3 hm hc
    have hp := pw_pos r.f1
    have := hc (r.f0 + pw r.f1) (by omega) (by omega)
    obtain ⟨t, ht, h1, h2⟩ := (covB_iff _ _).1 this
    rw [List.mem_singleton] at ht
    subst ht
    omega
  | cons s R ih =>
    intro p r h h3 hm hc
    have hp := pw_pos r.f1
    have hx := hc (r.f0 + pw r.f1) (by omega) (by omega)
    have hsort := right_sorted (s :: R) p r h
    have hsort2 := right_sorted R (some r) s h.2.2
    have hs0 : s.f0 = r.f0 + pw r.f1 := by
      obtain ⟨t, ht, h1, h2⟩ := (covB_iff _ _).1 hx
      rcases List.mem_cons.1 ht with rfl | ht
      · omega
      · have h4 := hsort t ht
        have h5 := hsort s List.mem_cons_self
        rcases List.mem_cons.1 ht with rfl | ht
        · omega
        · have := hsort2 t ht
          have := pw_pos s.f1
          omega
    obtain ⟨hr1, hr2, hr3⟩ := oneB_bd h.1
    obtain ⟨hs1, hs2, hs3⟩ := oneB_bd h.2.2.1
    have hbro := (h.2.2.2.1 r rfl).2
    by_cases he : s.f1 = r.f1
    · have : broB r s = true := by
        unfold broB
        rw [decide_eq_true he.symm, decide_eq_true h3, decide_eq_true hm, decide_eq_true hs0]
        rfl
      rw [this] at hbro
      cases hbro
    · by_cases hlt : s.f1 < r.f1
      · refine ih (some r) s h.2.2 (by omega) ?_ (fun x h1 h2 => ?_)
        · rcases pw_cases hr1 with ⟨e1, e2⟩ | ⟨e1, e2⟩ | ⟨e1, e2⟩ | ⟨e1, e2⟩ <;> rcases pw_cases hs1 with ⟨e3, e4⟩ | ⟨e3, e4⟩ | ⟨e3, e4⟩ | ⟨e3, e4⟩ <;> rw [e2] at hm hs0 hr3 <;> rw [e4] at hs3 ⊢ <;> omega
        · have hle : 2 * pw s.f1 ≤ pw r.f1 := by
            rcases pw_cases hr1 with ⟨e1, e2⟩ | ⟨e1, e2⟩ | ⟨e1, e2⟩ | ⟨e1, e2⟩ <;> rcases pw_cases hs1 with ⟨e3, e4⟩ | ⟨e3, e4⟩ | ⟨e3, e4⟩ | ⟨e3, e4⟩ <;> rw [e2, e4] <;> omega
          have := hc x (by omega) (by omega)
          rw [covB_cons, decide_eq_false (show ¬ x < r.f0 + pw r.f1 by omega), Bool.and_false, Bool.false_or] at this
          exact this
      · rcases pw_cases hr1 with ⟨e1, e2⟩ | ⟨e1, e2⟩ | ⟨e1, e2⟩ | ⟨e1, e2⟩ <;> rcases pw_cases hs1 with ⟨e3, e4⟩ | ⟨e3, e4⟩ | ⟨e3, e4⟩ | ⟨e3, e4⟩ <;> rw [e2] at hm hs0 hr3 <;> rw [e4] at hs3 <;> omega
theorem head_ord {n : Int} (hn : 8 ≤ n ∧ n ≤ 32) (hn8 : n % 8 = 0) (l : List Int) (R : List RunW) (p : Option RunW) (r : RunW) (h : RightFrom n p (r :: R)) (hc : ∀ x, r.f0 ≤ x → x < n → covB (r :: R) x = !inB l x) : ordC (clearB l r.f0) = r.f1 := by
  obtain ⟨hr1, hr2, hr3⟩ := oneB_bd h.1
  rw [wrap_size hn] at hr2
  have hp := pw_pos r.f1
  have h1 : clearB l r.f0 r.f1 = true := (clearB_iff _ _ _).2 ⟨fun x h1 h2 => by
    have := hc x h1 (by omega)
    rw [covB_cons, decide_eq_true h1, decide_eq_true h2] at this
    simpa using this.symm, hr3⟩
  have h2 := ordC_max (clearB l r.f0) r.f1 hr1 h1
  by_cases h3 : ordC (clearB l r.f0) = r.f1
  · exact h3
  · exfalso
    have hb := ordC_bd (clearB l r.f0)
    have hi := (clearB_iff _ _ _).1 (ordC_is (clearB l r.f0) (by omega))
    have hend := take_end hn8 (l := l) (a := r.f0) (by omega) (by omega)
    generalize ordC (clearB l r.f0) = o at *
    have hle : 2 * pw r.f1 ≤ pw o := by
      rcases pw_cases hr1 with ⟨e1, e2⟩ | ⟨e1, e2⟩ | ⟨e1, e2⟩ | ⟨e1, e2⟩ <;> rcases pw_cases (o := o) (by omega) with ⟨e3, e4⟩ | ⟨e3, e4⟩ | ⟨e3, e4⟩ | ⟨e3, e4⟩ <;> rw [e2, e4] <;> omega
    refine no_great hn R p r h (by omega) ?_ (fun x h4 h5 => ?_)
    · have h6 := hi.2
      rcases pw_cases hr1 with ⟨e1, e2⟩ | ⟨e1, e2⟩ | ⟨e1, e2⟩ | ⟨e1, e2⟩ <;> rcases pw_cases (o := o) (by omega) with ⟨e3, e4⟩ | ⟨e3, e4⟩ | ⟨e3, e4⟩ | ⟨e3, e4⟩ <;> rw [e4] at h6 <;> rw [e2] <;> omega
    · rw [hc x h4 (by omega), hi.1 x h4 (by omega)]; rfl
theorem uniq_from {n : Int} (hn : 8 ≤ n ∧ n ≤ 32) (hn8 : n % 8 = 0) (l : List Int) : ∀ (f : Nat) (a : Int) (R : List RunW) (p : Option RunW), 0 ≤ a → n ≤ a + f → RightFrom n p R → (∀ r ∈ R, a ≤ r.f0) → (∀ x, a ≤ x → x < n → covB R x = !inB l x) →
    jn (fun a => ordC (clearB l a)) n f a [] = R := by
  have hend : ∀ (a : Int) (R : List RunW) (p : Option RunW), n ≤ a → RightFrom n p R → (∀ r ∈ R, a ≤ r.f0) → R = [] := by
    intro a R p ha h hge
    cases R with
    | nil => rfl
    | cons r R =>
      obtain ⟨hr1, hr2, hr3⟩ := oneB_bd h.1
      rw [wrap_size hn] at hr2
      have := hge r List.mem_cons_self
      have := pw_pos r.f1
      omega
  intro f
  induction f with
  | zero =>
    intro a R p h0 hf h hge hc
    rw [hend a R p (by omega) h hge]
    rfl
  | succ f ih =>
    intro a R p h0 hf h hge hc
    unfold jn
    by_cases han : a < n
    · rw [if_pos han]
      cases hcov : covB R a with
      | false =>
        have hin : inB l a = true := by have := hc a (by omega) han; rw [hcov] at this; simpa using this.symm
        have hneg : ordC (clearB l a) < 0 := by
          by_cases hq : ordC (clearB l a) < 0
          · exact hq
          · exfalso
            have := ((clearB_iff _ _ _).1 (ordC_is (clearB l a) (by omega))).1 a (by omega) (by have := pw_pos (ordC (clearB l a)); omega)
            rw [hin] at this
            cases this
        rw [if_pos hneg]
        refine ih (a + 1) R p (by omega) (by omega) h (fun r hr => ?_) (fun x h1 h2 => hc x (by omega) h2)
        have h3 := hge r hr
        have h4 := pw_pos r.f1
        by_cases h5 : r.f0 = a
        · have : covB R a = true := (covB_iff _ _).2 ⟨r, hr, by omega, by omega⟩
          rw [hcov] at this; cases this
        · omega
      | true =>
        obtain ⟨t, ht, h1, h2⟩ := (covB_iff _ _).1 hcov
        cases R with
        | nil => cases ht
        | cons r R =>
          have hsort := right_sorted R p r h
          have hr0 : r.f0 = a := by
            have := hge r List.mem_cons_self
            rcases List.mem_cons.1 ht with rfl | ht
            · omega
            · have := hsort t ht
              have := pw_pos r.f1
              omega
          subst hr0
          have ho := head_ord hn hn8 l R p r h hc
          have hr1 := (oneB_bd h.1).1
          have hp := pw_pos r.f1
          simp only [ho, if_neg (show ¬ r.f1 < 0 by omega), List.nil_append]
          rw [jn_out, ih (r.f0 + pw r.f1) R (some r) (by omega) (by omega) h.2.2 (fun t ht => hsort t ht) (fun x h3 h4 => by
            have := hc x (by omega) h4
            rw [covB_cons, decide_eq_false (show ¬ x < r.f0 + pw r.f1 by omega), Bool.and_false, Bool.false_or] at this
            exact this)]
          rfl
    · rw [if_neg han, hend a R p (by omega) h hge]
theorem right_of_at {n : Int} : ∀ (R : List RunW) (p : Option RunW), (∀ q r R2, p = some q → R = r :: R2 → q.f0 + pw q.f1 ≤ r.f0 ∧ broB q r = false) → (∀ i, i < R.length → oneB n (runAt R i) = true ∧ (0 < i → (runAt R (i - 1)).f0 + pw (runAt R (i - 1)).f1 ≤ (runAt R i).f0 ∧ broB (runAt R (i - 1)) (runAt R i) = false)) → RightFrom n p R := by
  intro R
  induction R with
  | nil => intro p _ _; trivial
  | cons r R ih =>
    intro p hp h
    refine ⟨(h 0 (by simp)).1, fun q hq => hp q r R hq rfl, ih (some r) (fun q s R2 hq hR => ?_) (fun i hi => ?_)⟩
    · cases hq
      subst hR
      exact (h 1 (by simp)).2 (by omega)
    · have h1 := h (i + 1) (by simp only [List.length_cons]; omega)
      refine ⟨h1.1, fun h0 => ?_⟩
      have h2 := h1.2 (by omega)
      obtain ⟨j, rfl⟩ : ∃ j, i = j + 1 := ⟨i - 1, by omega⟩
      exact h2
theorem right_of {n : Int} {R : List RunW} (h : runsB n R = true) : RightFrom n none R := by
  unfold runsB at h
  rw [Bool.and_eq_true] at h
  have hs := sizeB_bd h.1
  have ha := List.all_eq_true.1 h.2
  refine right_of_at R none (fun q r R2 hq => by cases hq) (fun i hi => ?_)
  have h1 := ha i (List.mem_range.2 hi)
  unfold okAt apB at h1
  simp only [Bool.and_eq_true] at h1
  refine ⟨h1.1.1, fun h0 => ?_⟩
  have h2 := h1.1.2
  have h3 := h1.2
  rw [decide_eq_false (show ¬ i = 0 by omega), Bool.false_or] at h2 h3
  have h4 := of_decide_eq_true h2
  have h5 := ha (i - 1) (List.mem_range.2 (by omega))
  unfold okAt apB at h5
  simp only [Bool.and_eq_true] at h5
  obtain ⟨q1, q2, q3⟩ := oneB_bd h5.1.1
  rw [wrap_size ⟨hs.1, hs.2.1⟩] at q2
  have := pw_pos (runAt R (i - 1)).f1
  have := pw_le (runAt R (i - 1)).f1
  rw [wrap64_id (by omega) (by omega)] at h4
  exact ⟨h4, by simpa using h3⟩
theorem runsOf_uniq {n : Int} {R : List RunW} (h : runsB n R = true) (l : List Int) (hc : ∀ x, 0 ≤ x → x < n → covB R x = !inB l x) : runsOf n l = R := by
  have hs := sizeB_bd (by unfold runsB at h; rw [Bool.and_eq_true] at h; exact h.1)
  have hr := right_of h
  refine uniq_from ⟨hs.1, hs.2.1⟩ hs.2.2 l n.toNat 0 R none (by omega) (by omega) hr (fun r hm => ?_) hc
  have := right_one R none hr r hm
  have := (oneB_bd this).2.1
  omega
theorem impl_framesOf_ev (l : List RunW) (hl : l.length ≤ 1048576) (ho : ∀ i, i < l.length → (0 ≤ (l.getD i zr).f1 ∧ (l.getD i zr).f1 ≤ 3) ∧ 0 ≤ (l.getD i zr).f0 ∧ (l.getD i zr).f0 ≤ 32) : Ev (fun k => impl_framesOf.f k l) (framesB l) := by
  have key := (ev_fold (fun k s i => impl_framesOf.l0 k s l (l.length : Int) (i : Int)) l.length (fun s i => s ++ runF (l.getD i zr)) id (fun i s => s.length ≤ 8 * i) (by
    intro i s hi hs
    have hone := ho i hi
    have hlen := runF_len (l.getD i zr)
    refine ⟨by simp only [List.length_append]; omega, fun r h => ?_⟩
    have hin := ev_yes (fun k j => impl_framesOf.l1 k (s ++ (runF (l.getD i zr)).take j) l (l.length : Int) (i : Int) (pw (l.getD i zr).f1) (j : Int) (l.getD i zr).f0 (l.getD i zr).f1) (pw (l.getD i zr).f1).toNat (fun _ => true) r (by
      intro j hj _ r h
      have hp := pw_le (l.getD i zr).f1
      have hp0 := pw_pos (l.getD i zr).f1
      refine Ev.step (fun k => ?_) h
      simp only [impl_framesOf.l1]
      rw [if_pos (by omega), if_pos (by simp only [List.length_append, List.length_take]; omega), runF_take _ _ hj, wrap_succ (by omega), wrap64_id (by omega) (by omega), List.append_assoc]) (by simp) (by
      have hp0 := pw_pos (l.getD i zr).f1
      rw [List.take_of_length_le (by simp [runF])]
      refine Ev.step (fun k => ?_) h
      simp only [impl_framesOf.l1]
      rw [if_neg (by omega), wrap_succ (by omega)])
    refine Ev.step (fun k => ?_) hin
    simp only [impl_framesOf.l0]
    rw [if_pos (by omega), if_pos (by omega), if_pos (by omega), rdRW, if_pos hone.1.1, shl_eq _ hone.1]
    simp) (by
    intro s _
    refine Ev.of_succ (fun k => ?_)
    simp only [impl_framesOf.l0]
    rw [if_neg (by omega)]
    rfl) [] (by simp)).1
  rw [foldl_getD (fun (s : List Int) (r : RunW) => s ++ runF r) l zr] at key
  exact key
theorem impl_FreeFrames_ev (n : Int) (l : List RunW) (hl : l.length ≤ 1048576) : Ev (fun k => impl_FreeFrames.f k n l) (if runsB n l = true then framesB l else []) := by
  unfold impl_FreeFrames.f
  refine Ev.bind (impl_RunsOk_ev n l hl) ?_
  by_cases hb : runsB n l = true
  · simp only [if_pos hb]
    refine Ev.bind (impl_framesOf_ev l hl (fun i hi => runOne hb hi)) (Ev.now _)
  · simp only [if_neg hb]; exact Ev.now _
def notB (n : Int) (l : List Int) : List Int := (List.range n.toNat).foldl (fun s (i : Nat) => if inB l (i : Int) = true then s else s ++ [(i : Int)]) []
theorem notB_in (n : Int) (l : List Int) (x : Int) : inB (notB n l) x = (decide (0 ≤ x ∧ x < n) && !inB l x) := by
  have key : ∀ m : Nat, inB ((List.range m).foldl (fun s (i : Nat) => if inB l (i : Int) = true then s else s ++ [(i : Int)]) []) x = (decide (0 ≤ x ∧ x < (m : Int)) && !inB l x) := by
    intro m
    induction m with
    | zero => rw [decide_eq_false (by omega)]; rfl
    | succ m ih =>
      rw [List.range_succ, List.foldl_append, List.foldl_cons, List.foldl_nil]
      by_cases h : inB l (m : Int) = true
      · rw [if_pos h, ih]
        by_cases e : x = (m : Int)
        · subst e; rw [h]; simp
        · by_cases h2 : 0 ≤ x ∧ x < (m : Int)
          · rw [decide_eq_true h2, decide_eq_true (show 0 ≤ x ∧ x < ((m + 1 : Nat) : Int) by omega)]
          · rw [decide_eq_false h2, decide_eq_false (show ¬ (0 ≤ x ∧ x < ((m + 1 : Nat) : Int)) by omega)]
      · rw [if_neg h]
        have h' : inB l (m : Int) = false := by simpa using h
        have happ : ∀ (s : List Int) (y : Int), inB (s ++ [y]) x = (inB s x || decide (y = x)) := fun s y => by simp [inB]
        rw [happ, ih]
        by_cases e : (m : Int) = x
        · subst e; rw [h', decide_eq_true (rfl : (m : Int) = (m : Int)), decide_eq_true (show 0 ≤ (m : Int) ∧ (m : Int) < ((m + 1 : Nat) : Int) by omega)]; simp
        · rw [decide_eq_false e, Bool.or_false]
          by_cases h2 : 0 ≤ x ∧ x < (m : Int)
          · rw [decide_eq_true h2, decide_eq_true (show 0 ≤ x ∧ x < ((m + 1 : Nat) : Int) by omega)]
          · rw [decide_eq_false h2, decide_eq_false (show ¬ (0 ≤ x ∧ x < ((m + 1 : Nat) : Int)) by omega)]
  have := key n.toNat
  unfold notB
  rw [this]
  by_cases h : 0 ≤ x ∧ x < n
  · rw [decide_eq_true h, decide_eq_true (show 0 ≤ x ∧ x < ((n.toNat : Nat) : Int) by omega)]
  · rw [decide_eq_false h, decide_eq_false (show ¬ (0 ≤ x ∧ x < ((n.toNat : Nat) : Int)) by omega)]
theorem notB_len (n : Int) (l : List Int) (hn : n ≤ 32) : (notB n l).length ≤ 32 := by
  have key : ∀ m : Nat, ((List.range m).foldl (fun s (i : Nat) => if inB l (i : Int) = true then s else s ++ [(i : Int)]) ([] : List Int)).length ≤ m := by
    intro m
    induction m with
    | zero => exact Nat.le_refl _
    | succ m ih =>
      rw [List.range_succ, List.foldl_append, List.foldl_cons, List.foldl_nil]
      split
      · omega
      · simp only [List.length_append, List.length_cons, List.length_nil]; omega
  have := key n.toNat
  unfold notB
  omega
def Le2 (a b : RunW) : Prop := a.f0 + pw a.f1 ≤ b.f0
def Dis (a b : RunW) : Prop := Le2 a b ∨ Le2 b a
def freeOf (R : List RunW) (r : RunW) : Bool := (runF r).all (fun x => !covB R x)
def giveT (n : Int) (R : List RunW) (r : RunW) : List Int := notB n (framesB R ++ runF r)
def giveB (n : Int) (R : List RunW) (r : RunW) : List RunW × Bool := if runsB n R = true ∧ oneB n r = true ∧ freeOf R r = true then (runsOf n (giveT n R r), true) else ([], false)
theorem inB_app (l l' : List Int) (x : Int) : inB (l ++ l') x = (inB l x || inB l' x) := by unfold inB; rw [List.any_append]
theorem apart_pair {n : Int} (hs : sizeB n = true) (L : List RunW) : (List.range L.length).all (apB n L) = true ↔ (∀ t ∈ L, oneB n t = true) ∧ L.Pairwise Le2 := by
  have hsz := sizeB_bd hs
  have hn : 8 ≤ n ∧ n ≤ 32 := ⟨hsz.1, hsz.2.1⟩
  have hwr : ∀ t : RunW, oneB n t = true → wrap64 (t.f0 + pw t.f1) = t.f0 + pw t.f1 := by
    intro t ht
    obtain ⟨h1, h2, h3⟩ := oneB_bd ht
    rw [wrap_size hn] at h2
    have := pw_pos t.f1
    exact wrap64_id (by omega) (by omega)
  have hat : ∀ i (h : i < L.length), runAt L i = L[i] := fun i h => by unfold runAt; rw [List.getD_eq_getElem?_getD, List.getElem?_eq_getElem h]; rfl
  constructor
  · intro h
    have h1 : ∀ i, i < L.length → oneB n (runAt L i) = true ∧ (i = 0 ∨ (runAt L (i - 1)).f0 + pw (runAt L (i - 1)).f1 ≤ (runAt L i).f0) := by
      intro i hi
      have h2 := List.all_eq_true.1 h i (List.mem_range.2 hi)
      unfold apB at h2
      rw [Bool.and_eq_true, Bool.or_eq_true, decide_eq_true_eq, decide_eq_true_eq] at h2
      refine ⟨h2.1, ?_⟩
      rcases h2.2 with h3 | h3
      · exact Or.inl h3
      · have h4 := List.all_eq_true.1 h (i - 1) (List.mem_range.2 (by omega))
        unfold apB at h4
        rw [Bool.and_eq_true] at h4
        rw [hwr _ h4.1] at h3
        exact Or.inr h3
    refine ⟨fun t ht => ?_, ?_⟩
    · obtain ⟨i, hi, rfl⟩ := List.getElem_of_mem ht
      rw [← hat i hi]; exact (h1 i hi).1
    · rw [List.pairwise_iff_getElem]
      intro i j hi hj hij
      have key : ∀ d, i + 1 + d < L.length → Le2 (runAt L i) (runAt L (i + 1 + d)) := by
        intro d
        induction d with
        | zero =>
          intro hd
          rcases (h1 (i + 1) (by omega)).2 with h2 | h2
          · omega
          · exact h2
        | succ d ih =>
          intro hd
          have h2 := ih (by omega)
          have h3 : (runAt L (i + 1 + d)).f0 + pw (runAt L (i + 1 + d)).f1 ≤ (runAt L (i + 1 + (d + 1))).f0 := by
            rcases (h1 (i + 1 + (d + 1)) hd).2 with h3 | h3
            · omega
            · exact h3
          have h4 := pw_pos (runAt L (i + 1 + d)).f1
          unfold Le2 at h2 ⊢
          omega
      have h2 := key (j - i - 1) (by omega)
      rw [show i + 1 + (j - i - 1) = j by omega, hat i hi, hat j hj] at h2
      exact h2
  · rintro ⟨h1, h2⟩
    rw [List.pairwise_iff_getElem] at h2
    rw [List.all_eq_true]
    intro i hi
    have hi := List.mem_range.1 hi
    unfold apB
    rw [Bool.and_eq_true, Bool.or_eq_true, decide_eq_true_eq, decide_eq_true_eq]
    refine ⟨by rw [hat i hi]; exact h1 _ (List.getElem_mem hi), ?_⟩
    by_cases h0 : i = 0
    · exact Or.inl h0
    · refine Or.inr ?_
      have h3 := h2 (i - 1) i (by omega) hi (by omega)
      rw [hat i hi, hat (i - 1) (by omega), hwr _ (h1 _ (List.getElem_mem _))]
      exact h3
theorem sorted_facts (l : List RunW) : (Go.Sort.pdq (ltOf impl_Run_35.cf) l.toArray 0 l.length (Go.Lib.bitLen l.length) true true).toList.Perm l ∧
    (Go.Sort.pdq (ltOf impl_Run_35.cf) l.toArray 0 l.length (Go.Lib.bitLen l.length) true true).toList.Pairwise (fun a b => a.f0 ≤ b.f0) := by
  have h := Go.Sort.pdq_sorts (ltOf impl_Run_35.cf) impl_Run_35.swo l.toArray 0 l.toArray.size (Go.Lib.bitLen l.length) true true (Nat.zero_le _) (Nat.le_refl _) (Or.inl rfl)
  rw [List.size_toArray] at h
  generalize Go.Sort.pdq (ltOf impl_Run_35.cf) l.toArray 0 l.length (Go.Lib.bitLen l.length) true true = d at h ⊢
  obtain ⟨⟨h1, _, h2⟩, h3⟩ := h
  replace h1 : d.size = l.length := h1.trans (by simp)
  refine ⟨?_, ?_⟩
  · have e1 : (d.extract 0 l.length).toList = d.toList := by rw [← h1]; simp
    have e2 : (l.toArray.extract 0 l.length).toList = l := by simp
    rw [e1, e2] at h2
    exact h2
  · rw [List.pairwise_iff_getElem]
    intro i j hi hj hij
    rw [Array.length_toList] at hi hj
    have h4 := h3 i j (Nat.zero_le _) hij (by omega)
    rw [impl_Run_35.lt, getElem!_pos d i hi, getElem!_pos d j hj] at h4
    have h5 := of_decide_eq_false h4
    rw [Array.getElem_toList, Array.getElem_toList]
    omega
theorem dis_free {R : List RunW} {r : RunW} : freeOf R r = true ↔ ∀ t ∈ R, Dis t r := by
  have hrp := pw_pos r.f1
  unfold freeOf
  rw [List.all_eq_true]
  constructor
  · intro h t ht
    have htp := pw_pos t.f1
    by_cases h1 : t.f0 + pw t.f1 ≤ r.f0
    · exact Or.inl h1
    · by_cases h2 : r.f0 + pw r.f1 ≤ t.f0
      · exact Or.inr h2
      · exfalso
        obtain ⟨x, hx1, hx2, hx3, hx4⟩ : ∃ x, r.f0 ≤ x ∧ x < r.f0 + pw r.f1 ∧ t.f0 ≤ x ∧ x < t.f0 + pw t.f1 := by
          by_cases h3 : t.f0 ≤ r.f0
          · exact ⟨r.f0, by omega, by omega, by omega, by omega⟩
          · exact ⟨t.f0, by omega, by omega, by omega, by omega⟩
        have hm : x ∈ runF r := by
          have h4 : inB (runF r) x = true := by rw [runF_in, decide_eq_true hx1, decide_eq_true hx2]; rfl
          unfold inB at h4
          rw [List.any_eq_true] at h4
          obtain ⟨y, hy, e⟩ := h4
          rw [← of_decide_eq_true e]; exact hy
        have h5 := h x hm
        rw [(covB_iff R x).2 ⟨t, ht, hx3, hx4⟩] at h5
        cases h5
  · intro h x hx
    have h4 : inB (runF r) x = true := by unfold inB; rw [List.any_eq_true]; exact ⟨x, hx, decide_eq_true rfl⟩
    rw [runF_in, Bool.and_eq_true, decide_eq_true_eq, decide_eq_true_eq] at h4
    cases hc : covB R x with
    | false => rfl
    | true =>
      obtain ⟨t, ht, h1, h2⟩ := (covB_iff R x).1 hc
      have h3 : t.f0 + pw t.f1 ≤ r.f0 ∨ r.f0 + pw r.f1 ≤ t.f0 := h t ht
      omega
theorem apart_sorted {n : Int} {R : List RunW} (h : runsB n R = true) (r : RunW) (L : List RunW) (hp : L.Perm (R ++ [r])) (hso : L.Pairwise (fun a b => a.f0 ≤ b.f0)) :
    (List.range L.length).all (apB n L) = (oneB n r && freeOf R r) := by
  have h' := h
  unfold runsB at h'
  rw [Bool.and_eq_true] at h'
  obtain ⟨hs, hok⟩ := h'
  have hR := (apart_pair hs R).1 (by
    rw [List.all_eq_true] at hok ⊢
    intro i hi
    have h1 := hok i hi
    unfold okAt at h1
    rw [Bool.and_eq_true] at h1
    exact h1.1)
  have hsym : ∀ {x y : RunW}, Dis x y → Dis y x := fun h => Or.symm h
  rw [Bool.eq_iff_iff, apart_pair hs, Bool.and_eq_true, dis_free]
  constructor
  · rintro ⟨h1, h2⟩
    refine ⟨h1 r (hp.mem_iff.2 (List.mem_append_right _ List.mem_cons_self)), fun t ht => ?_⟩
    have h3 : L.Pairwise Dis := h2.imp (fun h => Or.inl h)
    have h4 := (hp.pairwise_iff hsym).1 h3
    exact (List.pairwise_append.1 h4).2.2 t ht r List.mem_cons_self
  · rintro ⟨h1, h2⟩
    have h3 : (R ++ [r]).Pairwise Dis := List.pairwise_append.2 ⟨hR.2.imp (fun h => Or.inl h), List.pairwise_singleton _ _, fun t ht y hy => by rw [List.mem_singleton.1 hy]; exact h2 t ht⟩
    have h4 := (hp.pairwise_iff hsym).2 h3
    refine ⟨fun t ht => ?_, (List.pairwise_and_iff.2 ⟨h4, hso⟩).imp (fun {a b} hab => ?_)⟩
    · rcases List.mem_append.1 (hp.mem_iff.1 ht) with h5 | h5
      · exact hR.1 t h5
      · rw [List.mem_singleton.1 h5]; exact h1
    · obtain ⟨h5, h6⟩ := hab
      have h7 := pw_pos b.f1
      rcases h5 with h5 | h5
      · exact h5
      · unfold Le2 at h5; exact absurd h5 (by omega)
def setTrue (l : List Int) (acc : List Bool) : List Bool := l.foldl (fun s x => s.set x.toNat true) acc
theorem setTrue_len (l : List Int) (acc : List Bool) : (setTrue l acc).length = acc.length := by
  unfold setTrue
  induction l generalizing acc with
  | nil => rfl
  | cons x l ih => rw [List.foldl_cons, ih, List.length_set]
theorem setTrue_succ (l : List Int) (acc : List Bool) (i : Nat) (h : i < l.length) : setTrue (l.take (i + 1)) acc = (setTrue (l.take i) acc).set (l.getD i 0).toNat true := by
  unfold setTrue
  rw [List.take_succ_eq_append_getElem h, List.foldl_append]
  simp [List.getD_eq_getElem?_getD, List.getElem?_eq_getElem h]
theorem setTrue_at (l : List Int) (hl : ∀ x ∈ l, 0 ≤ x) : ∀ (acc : List Bool) (j : Nat), j < acc.length → (setTrue l acc)[j]? = some (inB l (j : Int) || acc.getD j false) := by
  induction l with
  | nil => intro acc j hj; show acc[j]? = _; rw [List.getD_eq_getElem?_getD, List.getElem?_eq_getElem hj]; rfl
  | cons x l ih =>
    intro acc j hj
    have hx := hl x List.mem_cons_self
    have h1 := ih (fun y hy => hl y (List.mem_cons_of_mem _ hy)) (acc.set x.toNat true) j (by rw [List.length_set]; exact hj)
    show (setTrue l (acc.set x.toNat true))[j]? = _
    rw [h1]
    have e : inB (x :: l) (j : Int) = (decide (x = (j : Int)) || inB l (j : Int)) := rfl
    rw [e]
    by_cases hxj : x = (j : Int)
    · subst hxj
      rw [toNat_cast, decide_eq_true rfl, List.getD_eq_getElem?_getD, List.getElem?_set_self hj]
      simp
    · rw [decide_eq_false hxj, Bool.false_or, List.getD_eq_getElem?_getD, List.getElem?_set_ne (by omega), ← List.getD_eq_getElem?_getD]
theorem perm_inB {L R : List RunW} (hp : L.Perm R) (x : Int) : covB L x = covB R x := by
  rw [Bool.eq_iff_iff, covB_iff, covB_iff]
  exact ⟨fun ⟨t, ht, h⟩ => ⟨t, hp.mem_iff.1 ht, h⟩, fun ⟨t, ht, h⟩ => ⟨t, hp.mem_iff.2 ht, h⟩⟩
theorem impl_Give_ev (n : Int) (R : List RunW) (hl : R.length ≤ 1048576) (r : RunW) : Ev (fun k => impl_GiveRun.f k n R r.f0 r.f1) (giveB n R r) := by
  unfold impl_GiveRun.f giveB
  refine Ev.bind (impl_RunsOk_ev n R hl) ?_
  by_cases h : runsB n R = true
  · have h' := h
    unfold runsB at h'
    rw [Bool.and_eq_true] at h'
    obtain ⟨hs, hok⟩ := h'
    have hsz := sizeB_bd hs
    have hn : 8 ≤ n ∧ n ≤ 32 := ⟨hsz.1, hsz.2.1⟩
    have hRl := runsB_len n R hs hok
    simp only [if_pos h, Option.bind_some, List.nil_append, List.length_nil, List.length_append, List.length_cons]
    simp only [if_pos (show 0 + R.length < 8796093022208 by omega), if_pos (show 0 + R.length + (0 + 1) < 8796093022208 by omega)]
    unfold impl_Run_35.f
    simp only [if_pos (show (R ++ [(⟨r.f0, r.f1⟩ : RunW)]).length ≤ 1000000 by simp only [List.length_append, List.length_cons, List.length_nil]; omega), Option.bind_some]
    obtain ⟨hp, hso⟩ := sorted_facts (R ++ [(⟨r.f0, r.f1⟩ : RunW)])
    generalize (Go.Sort.pdq (ltOf impl_Run_35.cf) (R ++ [(⟨r.f0, r.f1⟩ : RunW)]).toArray 0 (R ++ [(⟨r.f0, r.f1⟩ : RunW)]).length (Go.Lib.bitLen (R ++ [(⟨r.f0, r.f1⟩ : RunW)]).length) true true).toList = L at hp hso ⊢
    have hLl : L.length = R.length + 1 := by rw [hp.length_eq]; simp
    refine Ev.bind (apart_ev n L (by omega)) ?_
    rw [apart_sorted h r L hp hso, hs, Bool.true_and]
    by_cases hf : oneB n r = true ∧ freeOf R r = true
    · rw [if_pos ⟨h, hf⟩]
      have hap := apart_sorted h r L hp hso
      rw [hf.1, hf.2, Bool.and_self] at hap
      have hone := ((apart_pair hs L).1 hap).1
      simp only [hf.1, hf.2, Bool.and_self, if_true]
      simp only [if_pos (show 0 ≤ n by omega), if_pos (show n.toNat ≤ 281474976710656 by omega)]
      have hbd : ∀ t ∈ L, (0 ≤ t.f1 ∧ t.f1 ≤ 3) ∧ 0 ≤ t.f0 ∧ t.f0 + pw t.f1 ≤ n := by
        intro t ht
        obtain ⟨h1, h2, h3⟩ := oneB_bd (hone t ht)
        rw [wrap_size hn] at h2
        exact ⟨h1, h2.1, by omega⟩
      have hfr := impl_framesOf_ev L (by omega) (fun i hi => by
        rw [List.getD_eq_getElem?_getD, List.getElem?_eq_getElem hi]
        have h1 := hbd _ (List.getElem_mem hi)
        have h2 := pw_pos (L[i]).f1
        exact ⟨h1.1, h1.2.1, by show (L[i]).f0 ≤ 32; omega⟩)
      refine Ev.bind hfr ?_
      have hfl := framesB_len L
      have hin : ∀ x ∈ framesB L, 0 ≤ x ∧ x < n := by
        intro x hx
        have h1 : inB (framesB L) x = true := by unfold inB; rw [List.any_eq_true]; exact ⟨x, hx, decide_eq_true rfl⟩
        rw [framesB_in, covB_iff] at h1
        obtain ⟨t, ht, h2, h3⟩ := h1
        have := hbd t ht
        omega
      have hfin : setTrue (framesB L) (List.replicate n.toNat false) = freeR n.toNat (giveT n R r) := by
        apply List.ext_getElem?
        intro j
        by_cases hj : j < n.toNat
        · rw [setTrue_at _ (fun x hx => (hin x hx).1) _ j (by rw [List.length_replicate]; exact hj), freeR_at _ _ _ hj]
          unfold giveT
          rw [notB_in, decide_eq_true (show 0 ≤ (j : Int) ∧ (j : Int) < n by omega), Bool.true_and, Bool.not_not, framesB_in, perm_inB hp, inB_app, framesB_in, runF_in]
          have e1 : (List.replicate n.toNat false).getD j false = false := by rw [List.getD_eq_getElem?_getD, List.getElem?_replicate, if_pos hj]; rfl
          rw [e1, Bool.or_false]
          have e2 : covB (R ++ [(⟨r.f0, r.f1⟩ : RunW)]) (j : Int) = (covB R (j : Int) || covB [(⟨r.f0, r.f1⟩ : RunW)] (j : Int)) := by unfold covB; rw [List.any_append]
          rw [e2, covB_cons]
          show some (_ || (_ || false)) = _
          rw [Bool.or_false]
        · rw [List.getElem?_eq_none (by rw [setTrue_len, List.length_replicate]; omega), List.getElem?_eq_none (by rw [freeR_len]; omega)]
      have hend : Ev (fun k => (impl_joined.f k (setTrue (framesB L) (List.replicate n.toNat false))).bind fun t359 => (some (t359, true))) (runsOf n (giveT n R r), true) := by
        rw [hfin]
        have := joined_ev (freeR n.toNat (giveT n R r)) (by rw [freeR_len]; omega)
        rw [joinB_free n hs] at this
        exact Ev.bind this (Ev.now _)
      have key : ∀ (d i : Nat), i + d = (framesB L).length → Ev (fun k => impl_GiveRun.l0 k (setTrue ((framesB L).take i) (List.replicate n.toNat false)) (framesB L) ((framesB L).length : Int) (i : Int)) (runsOf n (giveT n R r), true) := by
        intro d
        induction d with
        | zero =>
          intro i hi
          refine Ev.step (fun k => ?_) hend
          simp only [impl_GiveRun.l0]
          rw [if_neg (by omega), List.take_of_length_le (by omega)]
        | succ d ih =>
          intro i hi
          have hi2 : i < (framesB L).length := by omega
          have hrd : rd (framesB L) (i : Int) = (framesB L).getD i 0 := by unfold rd; rw [toNat_cast]
          have hx : (framesB L).getD i 0 ∈ framesB L := by rw [List.getD_eq_getElem?_getD, List.getElem?_eq_getElem hi2]; exact List.getElem_mem hi2
          have hx2 := hin _ hx
          refine Ev.step (fun k => ?_) (ih (i + 1) (by omega))
          simp only [impl_GiveRun.l0]
          rw [if_pos (by omega), if_pos (by omega), if_pos (by omega), hrd, if_pos hx2.1, if_pos (by rw [setTrue_len, List.length_replicate]; omega), wrap_succ (by omega), setTrue_succ _ _ _ hi2]
      have := key (framesB L).length 0 (by omega)
      exact this
    · rw [if_neg (fun x => hf x.2)]
      have e : (oneB n r && freeOf R r) = false := by
        cases h1 : oneB n r <;> cases h2 : freeOf R r <;> simp_all
      simp only [e, Bool.false_eq_true, if_false]
      exact Ev.now _
  · simp only [if_neg h, if_neg (show ¬ (runsB n R = true ∧ oneB n r = true ∧ freeOf R r = true) from fun x => h x.1)]
    exact Ev.now _
theorem giveT_len (n : Int) (hn : n ≤ 32) (R : List RunW) (r : RunW) : (giveT n R r).length ≤ 32 := notB_len n _ hn
theorem giveB_small (n : Int) (R : List RunW) (r : RunW) : (giveB n R r).1.length ≤ 32 := by
  unfold giveB
  by_cases h : runsB n R = true ∧ oneB n r = true ∧ freeOf R r = true
  · rw [if_pos h]
    have h1 := h.1
    unfold runsB at h1
    rw [Bool.and_eq_true] at h1
    exact runsOf_len h1.1 _
  · rw [if_neg h]; exact Nat.zero_le _
theorem l03Not_ev (n : Int) (hn : n ≤ 32) (l : List Int) (hl : l.length ≤ 1048576) : Ev (fun k => spec_l03Not.f k n l) (notB n l) := by
  have key := (ev_fold (fun k s i => spec_l03Not.l0 k n l s (i : Int)) n.toNat (fun s (i : Nat) => if inB l (i : Int) = true then s else s ++ [(i : Int)]) id (fun i s => s.length ≤ i) (fun i s hi hinv => ⟨by
      show (if inB l (i : Int) = true then s else s ++ [(i : Int)]).length ≤ i + 1
      split
      · omega
      · simp only [List.length_append, List.length_cons, List.length_nil]; omega, fun r h => by
      refine Ev.step (f := fun k => (spec_l03In.f k l (i : Int)).bind fun t1203 => (if t1203 = true then (spec_l03Not.l0 k n l s ((i + 1 : Nat) : Int)) else (if s.length < 17592186044416 then (spec_l03Not.l0 k n l (s ++ [(i : Int)]) ((i + 1 : Nat) : Int)) else (none)))) (fun k => ?_) (Ev.bind (l03In_ev l hl (i : Int)) ?_)
      · simp only [spec_l03Not.l0]
        rw [if_pos (by omega), wrap_succ (by omega)]
      · have hlt : s.length < 17592186044416 := by omega
        by_cases hb : inB l (i : Int) = true
        · simp only [if_pos hb] at h ⊢; exact h
        · simp only [if_neg hb, if_pos hlt] at h ⊢; exact h⟩) (fun s hinv => by
      refine Ev.of_succ (fun k => ?_)
      simp only [spec_l03Not.l0]
      rw [if_neg (by omega)]
      rfl) [] (by simp)).1
  exact key
theorem spec_Give_ev (n : Int) (R : List RunW) (hl : R.length ≤ 1048576) (r : RunW) : Ev (fun k => spec_GiveRun.f k n R r.f0 r.f1) (giveB n R r) := by
  have no : Ev (fun k => spec_GiveRun.j0 k n R true r.f0 r.f1) ([], false) := by
    refine Ev.of_succ (fun k => ?_)
    simp only [spec_GiveRun.j0, if_true]
  unfold spec_GiveRun.f giveB
  refine Ev.bind (spec_RunsOk_ev n R hl) ?_
  by_cases h : runsB n R = true
  · have h' := h
    unfold runsB at h'
    rw [Bool.and_eq_true] at h'
    obtain ⟨hs, hok⟩ := h'
    have hsz := sizeB_bd hs
    have hn : 8 ≤ n ∧ n ≤ 32 := ⟨hsz.1, hsz.2.1⟩
    have hRl := runsB_len n R hs hok
    simp only [if_pos h]
    refine Ev.bind (l03One_ev n hn r.f0 r.f1) ?_
    by_cases h1 : oneB n r = true
    · have h1' : oneB n (⟨r.f0, r.f1⟩ : RunW) = true := h1
      simp only [h1', Bool.not_true]
      obtain ⟨hr1, hr2, hr3⟩ := oneB_bd h1
      rw [wrap_size hn] at hr2
      have hp0 := pw_pos r.f1
      have hp8 := pw_le r.f1
      have hpow := l03Pow_ev r.f1 hr1
      have hfr := spec_FreeFrames_ev n R hl
      rw [if_pos h] at hfr
      have hfl := framesB_len R
      refine Ev.step (f := fun k => (spec_FreeFrames.f k n R).bind fun t298 => (spec_GiveRun.l0 k n t298 0 r.f0 r.f1)) (fun k => by simp only [spec_GiveRun.j0, Bool.false_eq_true, if_false]) (Ev.bind hfr ?_)
      -- the frames are added
      have fin : ∀ (d : Nat) (j : Nat), j + d = (pw r.f1).toNat → Ev (fun k => spec_GiveRun.l1 k n (framesB R ++ (runF r).take j) (j : Int) r.f0 r.f1) (runsOf n (giveT n R r), true) := by
        intro d
        induction d with
        | zero =>
          intro j hj
          have hT : (framesB R ++ (runF r).take j) = framesB R ++ runF r := by rw [List.take_of_length_le (by unfold runF; simp; omega)]
          rw [hT]
          have hrl := runF_len r
          have hnot := l03Not_ev n hn.2 (framesB R ++ runF r) (by rw [List.length_append]; omega)
          have htk : takenB n (giveT n R r) = true := by
            unfold takenB
            rw [List.all_eq_true]
            intro y hy
            have h2 : inB (giveT n R r) y = true := by unfold inB; rw [List.any_eq_true]; exact ⟨y, hy, decide_eq_true rfl⟩
            unfold giveT at h2
            rw [notB_in, Bool.and_eq_true, decide_eq_true_eq] at h2
            exact decide_eq_true (by omega)
          have hTl := giveT_len n hn.2 R r
          have hall := spec_AllRuns_ev n (giveT n R r) (by omega)
          rw [if_pos ⟨hs, htk⟩] at hall
          refine Ev.step (f := fun k => (spec_l03Pow.f k r.f1).bind fun t306 => (if (j : Int) < t306 then (if (framesB R ++ runF r).length < 17592186044416 then (spec_GiveRun.l1 k n ((framesB R ++ runF r) ++ [wrap64 (r.f0 + (j : Int))]) (wrap64 ((j : Int) + 1)) r.f0 r.f1) else (none)) else ((spec_l03Not.f k n (framesB R ++ runF r)).bind fun t310 => ((spec_AllRuns.f k n t310).bind fun bt313 => (some (bt313.1, true)))))) (fun k => by simp only [spec_GiveRun.l1]) (Ev.bind hpow ?_)
          simp only [if_neg (show ¬ (j : Int) < pw r.f1 by omega)]
          exact Ev.bind hnot (Ev.bind hall (Ev.now _))
        | succ d ih =>
          intro j hj
          have hlt : (j : Int) < pw r.f1 := by omega
          have hlen : (framesB R ++ (runF r).take j).length < 17592186044416 := by rw [List.length_append, List.length_take]; omega
          refine Ev.step (f := fun k => (spec_l03Pow.f k r.f1).bind fun t306 => (if (j : Int) < t306 then (if (framesB R ++ (runF r).take j).length < 17592186044416 then (spec_GiveRun.l1 k n ((framesB R ++ (runF r).take j) ++ [wrap64 (r.f0 + (j : Int))]) (wrap64 ((j : Int) + 1)) r.f0 r.f1) else (none)) else ((spec_l03Not.f k n (framesB R ++ (runF r).take j)).bind fun t310 => ((spec_AllRuns.f k n t310).bind fun bt313 => (some (bt313.1, true)))))) (fun k => by simp only [spec_GiveRun.l1]) (Ev.bind hpow ?_)
          simp only [if_pos hlt, if_pos hlen]
          rw [wrap64_id (n := r.f0 + (j : Int)) (by omega) (by omega), wrap_succ (by omega), List.append_assoc, ← runF_take r j (by omega)]
          exact ih (j + 1) (by omega)
      have hend := fin (pw r.f1).toNat 0 (by omega)
      rw [List.take_zero, List.append_nil] at hend
      -- the looks
      have look : ∀ (d : Nat) (j : Nat), j + d = (pw r.f1).toNat → ((runF r).take j).all (fun x => !covB R x) = true → Ev (fun k => spec_GiveRun.l0 k n (framesB R) (j : Int) r.f0 r.f1) (if freeOf R r = true then (runsOf n (giveT n R r), true) else ([], false)) := by
        intro d
        induction d with
        | zero =>
          intro j hj hall
          have hT : (runF r).take j = runF r := List.take_of_length_le (by unfold runF; simp; omega)
          rw [hT] at hall
          rw [if_pos (show freeOf R r = true from hall)]
          refine Ev.step (f := fun k => (spec_l03Pow.f k r.f1).bind fun t301 => (if (j : Int) < t301 then ((spec_l03In.f k (framesB R) (wrap64 (r.f0 + (j : Int)))).bind fun t302 => (if t302 = true then (some ((([] : List RunW)), false)) else (spec_GiveRun.l0 k n (framesB R) (wrap64 ((j : Int) + 1)) r.f0 r.f1))) else (spec_GiveRun.l1 k n (framesB R) 0 r.f0 r.f1))) (fun k => by simp only [spec_GiveRun.l0]) (Ev.bind hpow ?_)
          simp only [if_neg (show ¬ (j : Int) < pw r.f1 by omega)]
          exact hend
        | succ d ih =>
          intro j hj hall
          have hlt : (j : Int) < pw r.f1 := by omega
          refine Ev.step (f := fun k => (spec_l03Pow.f k r.f1).bind fun t301 => (if (j : Int) < t301 then ((spec_l03In.f k (framesB R) (wrap64 (r.f0 + (j : Int)))).bind fun t302 => (if t302 = true then (some ((([] : List RunW)), false)) else (spec_GiveRun.l0 k n (framesB R) (wrap64 ((j : Int) + 1)) r.f0 r.f1))) else (spec_GiveRun.l1 k n (framesB R) 0 r.f0 r.f1))) (fun k => by simp only [spec_GiveRun.l0]) (Ev.bind hpow ?_)
          simp only [if_pos hlt]
          rw [wrap64_id (n := r.f0 + (j : Int)) (by omega) (by omega), wrap_succ (by omega)]
          have hin := l03In_ev (framesB R) (by omega) (r.f0 + (j : Int))
          rw [framesB_in] at hin
          refine Ev.bind hin ?_
          cases hc : covB R (r.f0 + (j : Int)) with
          | true =>
            have hno : ¬ freeOf R r = true := by
              intro hf
              unfold freeOf at hf
              rw [List.all_eq_true] at hf
              have hm : r.f0 + (j : Int) ∈ runF r := by unfold runF; rw [List.mem_map]; exact ⟨j, List.mem_range.2 (by omega), rfl⟩
              have := hf _ hm
              rw [hc] at this
              cases this
            rw [if_neg hno]
            simp only [if_true]
            exact Ev.now _
          | false =>
            simp only [Bool.false_eq_true, if_false]
            refine ih (j + 1) (by omega) ?_
            rw [runF_take r j (by omega), List.all_append, hall]
            simp [hc]
      have := look (pw r.f1).toNat 0 (by omega) (by rw [List.take_zero]; rfl)
      by_cases hf : freeOf R r = true
      · rw [if_pos ⟨h, trivial, hf⟩]
        rw [if_pos hf] at this
        exact this
      · rw [if_neg (fun x => hf x.2.2)]
        rw [if_neg hf] at this
        exact this
    · have h1' : oneB n (⟨r.f0, r.f1⟩ : RunW) = false := by
        cases h2 : oneB n (⟨r.f0, r.f1⟩ : RunW) with
        | false => rfl
        | true => exact absurd h2 h1
      simp only [h1', Bool.not_false]
      rw [if_neg (fun x => Bool.noConfusion x.2.1)]
      exact no
  · simp only [if_neg h, if_neg (show ¬ (runsB n R = true ∧ oneB n r = true ∧ freeOf R r = true) from fun x => h x.1)]
    exact no
theorem markRunS_ev (l : List RunW) (hl : l.length ≤ 1048576) (a : Int) (h0 : 0 ≤ a) (h1 : a ≤ 1000000000) : Ev (fun k => laws_markRunS.f k l a) (a + 2 * l.length, (List.range l.length).map (fun j : Nat => (⟨a + 2 * (j : Int), a + 2 * (j : Int) + 1⟩ : RunW))) := by
  have key := ev_copy0 (fun k acc i => laws_markRunS.l0 k acc (a + 2 * (i : Int)) (i : Int)) l.length (fun i => (⟨a + 2 * (i : Int), a + 2 * (i : Int) + 1⟩ : RunW)) (fun acc => (a + 2 * (l.length : Int), acc)) (by
    intro i acc hi ha r h
    refine Ev.step (fun k => ?_) h
    simp only [laws_markRunS.l0]
    rw [if_pos (by omega), if_pos (by omega)]
    simp only [Option.bind_some]
    rw [wrap_succ (by omega), toNat_cast, wrap64_id (n := a + 2 * (i : Int) + 1) (by omega) (by omega), wrap64_id (n := a + 2 * (i : Int) + 1 + 1) (by omega) (by omega), show a + 2 * (i : Int) + 1 + 1 = a + 2 * ((i + 1 : Nat) : Int) by omega, List.set_set]
    rw [rdRW]
    rw [show ((acc.set i (⟨a + 2 * (i : Int), (rd_T35 acc (i : Int)).f1⟩ : RunW)).getD i z35).f0 = a + 2 * (i : Int) by simp [List.getD_eq_getElem?_getD, show i < acc.length by omega]]) (by
    intro acc ha
    refine Ev.of_succ (fun k => ?_)
    simp only [laws_markRunS.l0]
    rw [if_neg (by omega)]) l rfl
  simp only [show ((0 : Nat) : Int) = 0 from rfl, Int.mul_zero, Int.add_zero] at key
  exact key
def upRun (a : Int) (n : Nat) : List RunW := (List.range n).map (fun j : Nat => (⟨a + 2 * (j : Int), a + 2 * (j : Int) + 1⟩ : RunW))
theorem upRun_len (a : Int) (n : Nat) : (upRun a n).length = n := by simp [upRun]
theorem upRun_getD (a : Int) (n i : Nat) (d : RunW) (h : i < n) : (upRun a n).getD i d = ⟨a + 2 * (i : Int), a + 2 * (i : Int) + 1⟩ := by simp [upRun, List.getD_eq_getElem?_getD, h]
theorem heldRunS_ev (n : Nat) (hn : n ≤ 1048576) (a : Int) (h0 : 0 ≤ a) (h1 : a ≤ 1000000000) : Ev (fun k => laws_heldRunS.f k (upRun a n) a) (a + 2 * n) := by
  have key := ev_yes (fun k i => laws_heldRunS.l0 k (upRun a n) (a + 2 * (i : Int)) (i : Int)) n (fun _ => true) (a + 2 * (n : Int)) (by
    intro i hi _ r h
    refine Ev.step (fun k => ?_) h
    simp only [laws_heldRunS.l0]
    rw [upRun_len, if_pos (by omega), if_pos (by omega), rdRW, upRun_getD _ _ _ _ hi, if_pos rfl, wrap_succ (by omega), wrap64_id (n := a + 2 * (i : Int) + 1) (by omega) (by omega), if_pos rfl, wrap64_id (n := a + 2 * (i : Int) + 1 + 1) (by omega) (by omega), show a + 2 * (i : Int) + 1 + 1 = a + 2 * ((i + 1 : Nat) : Int) by omega]) (by simp) (by
    refine Ev.of_succ (fun k => ?_)
    simp only [laws_heldRunS.l0]
    rw [upRun_len, if_neg (by omega)])
  simp only [show ((0 : Nat) : Int) = 0 from rfl, Int.mul_zero, Int.add_zero] at key
  exact key

theorem FnExactGiveRun (a0 : Int) (_w0 : (Lit.int .i64 a0).wf = true) (l1 : List S32) (g1 : (l1.length ≤ maxLen ∧ ∀ y0 ∈ l1, ((Lit.int .i64 y0.f0).wf = true ∧ (Lit.int .i64 y0.f1).wf = true))) (x2 : Int × Int) (g2 : (Lit.int .i64 x2.1).wf = true ∧ (Lit.int .i64 x2.2).wf = true) : ∃ k, laws_FnExactGiveRun.f k a0 l1 (x2.1) (x2.2) = some true := by
  suffices h : Ev (fun k => laws_FnExactGiveRun.f k a0 l1 (x2.1) (x2.2)) true by
    obtain ⟨n, hn⟩ := h; exact ⟨n, hn n (Nat.le_refl n)⟩
  unfold laws_FnExactGiveRun.f
  simp only [szRunS_eq l1 g1.1, Option.bind_some]
  by_cases hlen : (l1.length : Int) ≤ 1048576
  · simp only [if_pos hlen, if_neg (show ¬ (1048576 - (l1.length : Int)) < 0 by omega)]
    have hl : (l1.map toRun).length ≤ 1048576 := by rw [List.length_map]; omega
    have hy := giveB_small a0 (l1.map toRun) ⟨x2.1, x2.2⟩
    have e1 := toRunS_ev l1 (by omega)
    have e2 := spec_Give_ev a0 (l1.map toRun) hl ⟨x2.1, x2.2⟩
    have e3 := impl_Give_ev a0 (l1.map toRun) hl ⟨x2.1, x2.2⟩
    have e0 : laws_toRun.f x2.1 x2.2 = some (x2.1, x2.2) := rfl
    generalize giveB a0 (l1.map toRun) ⟨x2.1, x2.2⟩ = y at *
    generalize l1.map toRun = t at *
    have e4 := eqRunS_refl t hl
    have e5 := eqRunS_refl y.1 (by omega)
    have e6 := markRunS_ev t hl 1 (by omega) (by omega)
    have e7 := markRunS_ev y.1 (by omega) 1 (by omega) (by omega)
    have e8 := heldRunS_ev y.1.length (by omega) 1 (by omega) (by omega)
    refine Ev.bind e1 ?_
    simp only [e0, Option.bind_some]
    refine Ev.bind e2 ?_
    refine Ev.bind e1 ?_
    refine Ev.bind e3 ?_
    refine Ev.bind e5 ?_
    simp only [if_true]
    refine Ev.step (f := fun k => (laws_toRunS.f k l1).bind fun t383 => ((laws_eqRunS.f k t t383).bind fun t386 => (if t386 = true then ((laws_markRunS.f k t 1).bind fun bt387 => (if bt387.1 < 0 then (laws_FnExactGiveRun.j1 k a0 l1 y.1 y.2 y.1 true x2.1 x2.2) else ((laws_eqRunS.f k y.1 y.1).bind fun t389 => (if t389 = true then (laws_FnExactGiveRun.j1 k a0 l1 y.1 y.2 y.1 (y.2 != y.2) x2.1 x2.2) else (laws_FnExactGiveRun.j1 k a0 l1 y.1 y.2 y.1 true x2.1 x2.2))))) else (some false)))) (fun k => ?_) ?_
    · simp only [laws_FnExactGiveRun.j0]
      rw [if_neg (by simp)]
    refine Ev.bind e1 ?_
    refine Ev.bind e4 ?_
    simp only [if_true]
    refine Ev.bind e6 ?_
    simp only [if_neg (show ¬ (1 + 2 * (t.length : Int)) < 0 by omega)]
    refine Ev.bind e5 ?_
    simp only [if_true]
    refine Ev.step (f := fun k => (laws_markRunS.f k y.1 1).bind fun bt390 => ((laws_heldRunS.f k bt390.2 1).bind fun t392 => (if t392 < 0 then (some false) else (if t392 = bt390.1 then ((laws_toRunS.f k l1).bind fun t393 => ((laws_toRun.f x2.1 x2.2).bind fun bt396 => ((impl_GiveRun.f k a0 t393 bt396.1 bt396.2).bind fun bt398 => ((laws_eqRunS.f k bt398.1 y.1).bind fun t402 => (if t402 = true then (laws_FnExactGiveRun.j2 k bt390.2 bt390.1 (bt398.2 != y.2)) else (laws_FnExactGiveRun.j2 k bt390.2 bt390.1 true)))))) else (some false))))) (fun k => ?_) ?_
    · simp only [laws_FnExactGiveRun.j1]
      rw [if_neg (by simp)]
    refine Ev.bind e7 ?_
    refine Ev.bind e8 ?_
    simp only [if_neg (show ¬ (1 + 2 * (y.1.length : Int)) < 0 by omega), if_true]
    refine Ev.bind e1 ?_
    simp only [e0, Option.bind_some]
    refine Ev.bind e3 ?_
    refine Ev.bind e5 ?_
    simp only [if_true]
    refine Ev.step (f := fun k => (laws_heldRunS.f k (upRun 1 y.1.length) 1).bind fun t403 => (if t403 < 0 then (some false) else (if t403 = (1 + 2 * (y.1.length : Int)) then (some true) else (some false)))) (fun k => ?_) ?_
    · simp only [laws_FnExactGiveRun.j2]
      rw [if_neg (by simp)]
      rfl
    refine Ev.bind e8 ?_
    simp only [if_neg (show ¬ (1 + 2 * (y.1.length : Int)) < 0 by omega), if_true]
    exact Ev.now true
  · simp only [if_neg hlen, if_pos (show (-1 : Int) < 0 by omega)]
    exact Ev.now true

end Go.Proofs.Ytnfcddomkmjacaa.Pure
end
