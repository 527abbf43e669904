/- What the proof of FnGreatSaid rests on, part 7: plain lemmas and contracts of the functions that the law reaches (in part written by a printing program over the translation). No condition. -/
import Derived.Test.YtdpejnckojhgjaaBFnGreatf
section
namespace Go.Proofs.Ytdpejnckojhgjaa.Pure
open Go.RowKit Go.Proofs.Ytdpejnckojhgjaa.P Go.Proofs.YtdpejnckojhgjaaW.PrintWords Go.Proofs.YtdpejnckojhgjaaW.PrintLast Go.Proofs.YtdpejnckojhgjaaW.PrintMore Go.Proofs.Ytdpejnckojhgjaa.Aid
set_option linter.unusedVariables false
set_option linter.unusedSimpArgs false

theorem l01In_eq (a b c : Int) : spec_l01In.f a b c = some (decide (b ≤ a ∧ a ≤ c)) := in_dec a b c
theorem within_eq (a b c : Int) : impl_within.f a b c = some (decide (b ≤ a ∧ a ≤ c)) := in_dec a b c
def sizeB (n : Int) : Bool := decide (8 ≤ n ∧ n ≤ 32) && decide (n % 8 = 0)
theorem sizeB_bd {n : Int} (h : sizeB n = true) : 8 ≤ n ∧ n ≤ 32 ∧ n % 8 = 0 := by
  simp only [sizeB, Bool.and_eq_true, decide_eq_true_eq] at h
  exact ⟨h.1.1, h.1.2, h.2⟩
theorem l02Frames_eq (n : Int) : spec_l02Frames.f n = some (sizeB n) := by
  unfold spec_l02Frames.f sizeB
  rw [l01In_eq]
  simp only [Option.bind_some]
  by_cases h : 8 ≤ n ∧ n ≤ 32
  · rw [if_pos (by simpa using h), tmod_nonneg (by omega) (by omega), decide_eq_true h]; rfl
  · rw [if_neg (by simpa using h), decide_eq_false h]; rfl
theorem isSize_eq (n : Int) : impl_isSize.f n = some (sizeB n) := by
  unfold impl_isSize.f sizeB
  rw [within_eq]
  simp only [Option.bind_some]
  by_cases h : 8 ≤ n ∧ n ≤ 32
  · rw [if_pos (by simpa using h), tmod_nonneg (by omega) (by omega), decide_eq_true h]; rfl
  · rw [if_neg (by simpa using h), decide_eq_false h]; rfl
theorem map_getD {α β : Type} (f : α → β) (l : List α) (d : α) : (List.range l.length).map (fun i => f (l.getD i d)) = l.map f := by
  rw [show (fun i => f (l.getD i d)) = f ∘ (fun i => l.getD i d) from rfl, ← List.map_map, range_map_getD]
abbrev RunW := S48
abbrev RunL := S143
def toRun (r : RunL) : RunW := ⟨r.f0, r.f1⟩
theorem rdRL (l : List RunL) (i : Nat) : rd_T143 l (i : Int) = l.getD i z143 := by unfold rd_T143; rw [toNat_cast]
theorem rdRW (l : List RunW) (i : Nat) : rd_T48 l (i : Int) = l.getD i z48 := by unfold rd_T48; rw [toNat_cast]
theorem szRunS_eq (l : List RunL) (hl : l.length ≤ maxLen) : laws_szRunS.f l 1048576 = some (if (l.length : Int) ≤ 1048576 then (1048576 - (l.length : Int) : Int) else (-1 : Int)) := by
  unfold maxLen at hl
  unfold laws_szRunS.f
  have e : wrap64 (1048576 - (l.length : Int)) = 1048576 - l.length := by unfold wrap64; omega
  rw [e]
  by_cases h : (l.length : Int) ≤ 1048576
  · rw [if_neg (by omega), if_pos h]
  · rw [if_pos (by omega), if_neg h]
theorem toRunS_ev (l : List RunL) (hl : l.length ≤ 1048576) : Ev (fun k => laws_toRunS.f k l) (l.map toRun) := by
  have key := ev_copy0 (fun k acc i => laws_toRunS.l0 k l acc (i : Int)) l.length (fun i => toRun (l.getD i z143)) id (by
    intro i acc hi ha r h
    refine Ev.step (fun k => ?_) h
    simp only [laws_toRunS.l0]
    rw [if_pos (by omega), if_pos (by omega), rdRL]
    unfold laws_toRun.f
    simp only [Option.bind_some]
    rw [if_pos (by omega), wrap_succ (by omega), toNat_cast]
    rfl) (by
    intro acc ha
    refine Ev.of_succ (fun k => ?_)
    simp only [laws_toRunS.l0]
    rw [if_neg (by omega)]
    rfl) (List.replicate l.length z48) (by simp)
  rw [map_getD toRun l z143] at key
  refine Ev.congr (fun k => ?_) key
  unfold laws_toRunS.f
  rw [if_pos (by omega), if_pos (by omega), toNat_cast]
  rfl
theorem eqRunS_refl (l : List RunW) (hl : l.length ≤ 1048576) : Ev (fun k => laws_eqRunS.f k l l) true := by
  have key := ev_all0 (fun k i => laws_eqRunS.l0 k l l (i : Int)) l.length (fun _ => true) false true (by
    intro i hi _ r h
    refine Ev.step (fun k => ?_) h
    simp only [laws_eqRunS.l0]
    rw [if_pos (by omega), if_pos (by omega), if_pos (by omega)]
    unfold laws_eqRun.f
    simp only [if_true, Option.bind_some]
    rw [wrap_succ (by omega)]) (by intro i _ h; cases h) (by
    refine Ev.of_succ (fun k => ?_)
    simp only [laws_eqRunS.l0]
    rw [if_neg (by omega)])
  rw [if_pos (by simp)] at key
  refine Ev.congr (fun k => ?_) key
  unfold laws_eqRunS.f
  rw [if_pos rfl]
  rfl
/-- 2 to the power of an order. -/
def pw (o : Int) : Int := if o = 0 then 1 else if o = 1 then 2 else if o = 2 then 4 else 8
theorem pw_pos (o : Int) : 0 < pw o := by unfold pw; repeat' split <;> omega
theorem pw_le (o : Int) : pw o ≤ 8 := by unfold pw; repeat' split <;> omega
theorem l03Pow_ev (o : Int) (h : 0 ≤ o ∧ o ≤ 3) : Ev (fun k => spec_l03Pow.f k o) (pw o) := by
  have hc : o = 0 ∨ o = 1 ∨ o = 2 ∨ o = 3 := by omega
  rcases hc with rfl | rfl | rfl | rfl <;> exact Ev.of (fun k => spec_l03Pow.mono _ k) (k := 9) (by decide +kernel)
theorem shl_eq (o : Int) (h : 0 ≤ o ∧ o ≤ 3) : shl .i64 1 o = pw o := by
  have hc : o = 0 ∨ o = 1 ∨ o = 2 ∨ o = 3 := by omega
  rcases hc with rfl | rfl | rfl | rfl <;> decide +kernel
def oneB (n : Int) (r : RunW) : Bool := decide (0 ≤ r.f1 ∧ r.f1 ≤ 3) && decide (0 ≤ r.f0 ∧ r.f0 ≤ wrap64 (n - pw r.f1)) && decide (r.f0 % pw r.f1 = 0)
theorem oneB_bd {n : Int} {r : RunW} (h : oneB n r = true) : (0 ≤ r.f1 ∧ r.f1 ≤ 3) ∧ (0 ≤ r.f0 ∧ r.f0 ≤ wrap64 (n - pw r.f1)) ∧ r.f0 % pw r.f1 = 0 := by
  simp only [oneB, Bool.and_eq_true, decide_eq_true_eq] at h
  exact ⟨h.1.1, h.1.2, h.2⟩
theorem wrap_size {n : Int} (hn : 8 ≤ n ∧ n ≤ 32) (o : Int) : wrap64 (n - pw o) = n - pw o := by have := pw_pos o; have := pw_le o; unfold wrap64; omega
theorem l03One_ev (n : Int) (hn : 8 ≤ n ∧ n ≤ 32) (a o : Int) : Ev (fun k => spec_l03One.f k n a o) (oneB n ⟨a, o⟩) := by
  unfold spec_l03One.f oneB
  rw [l01In_eq]
  simp only [Option.bind_some]
  by_cases ho : 0 ≤ o ∧ o ≤ 3
  · rw [decide_eq_true ho]
    simp only [if_true, Bool.true_and]
    have hp := pw_pos o
    by_cases ha : 0 ≤ a
    · simp only [if_pos (show a ≥ 0 from ha)]
      refine Ev.bind (l03Pow_ev o ho) ?_
      simp only [if_neg (show ¬ pw o = 0 by omega), tmod_nonneg ha hp]
      by_cases hm : a % pw o = 0
      · simp only [if_pos hm, decide_eq_true hm, Bool.and_true]
        refine Ev.bind (l03Pow_ev o ho) ?_
        have e : decide (0 ≤ a ∧ a ≤ wrap64 (n - pw o)) = decide (a ≤ wrap64 (n - pw o)) := by simp [ha]
        rw [e]; exact Ev.now _
      · simp only [if_neg hm, decide_eq_false hm, Bool.and_false]; exact Ev.now _
    · simp only [if_neg (show ¬ a ≥ 0 from ha), show ¬ (0 ≤ a ∧ a ≤ wrap64 (n - pw o)) from fun h => ha h.1, decide_false, Bool.false_and]; exact Ev.now _
  · rw [decide_eq_false ho]
    simp only [Bool.false_eq_true, if_false, Bool.false_and]; exact Ev.now _
theorem runOk_eq (n a o : Int) : impl_runOk.f n a o = some (oneB n ⟨a, o⟩) := by
  unfold impl_runOk.f oneB
  rw [within_eq]
  simp only [Option.bind_some]
  by_cases ho : 0 ≤ o ∧ o ≤ 3
  · rw [if_pos (by simpa using ho), if_pos ho.1, shl_eq o ho, within_eq, decide_eq_true ho]
    simp only [Option.bind_some, Bool.true_and]
    have hp := pw_pos o
    by_cases ha : 0 ≤ a ∧ a ≤ wrap64 (n - pw o)
    · rw [if_pos (by simpa using ha), if_neg (by omega), tmod_nonneg ha.1 hp, decide_eq_true ha, Bool.true_and]; rfl
    · rw [if_neg (by simpa using ha), decide_eq_false ha, Bool.false_and]
  · rw [if_neg (by simpa using ho), decide_eq_false ho]; simp
def broB (a b : RunW) : Bool := decide (a.f1 = b.f1) && decide (a.f1 < 3) && decide (a.f0 % (2 * pw a.f1) = 0) && decide (b.f0 = a.f0 + pw a.f1)
abbrev zr : RunW := z48
def runAt (l : List RunW) (i : Nat) : RunW := l.getD i zr
def apB (n : Int) (l : List RunW) (i : Nat) : Bool := oneB n (runAt l i) && (decide (i = 0) || decide (wrap64 ((runAt l (i - 1)).f0 + pw (runAt l (i - 1)).f1) ≤ (runAt l i).f0))
def okAt (n : Int) (l : List RunW) (i : Nat) : Bool := apB n l i && (decide (i = 0) || !broB (runAt l (i - 1)) (runAt l i))
def runsB (n : Int) (l : List RunW) : Bool := sizeB n && (List.range l.length).all (okAt n l)
theorem wrap_pred {i : Nat} (h0 : 0 < i) (h : i < 9223372036854775807) : wrap64 ((i : Int) - 1) = ((i - 1 : Nat) : Int) := by unfold wrap64; omega
theorem apart_ev (n : Int) (l : List RunW) (hl : l.length ≤ 1048576) : Ev (fun k => impl_apart.f k n l) (sizeB n && (List.range l.length).all (apB n l)) := by
  have key := ev_allp (fun k i => impl_apart.l0 k n l l (l.length : Int) (i : Int)) l.length (apB n l) false (sizeB n) (by
    intro i hi hprev hb r h
    refine Ev.step (fun k => ?_) h
    simp only [apB, Bool.and_eq_true, Bool.or_eq_true, decide_eq_true_eq] at hb
    simp only [impl_apart.l0]
    rw [if_pos (by omega), if_pos (by omega), if_pos (by omega), rdRW, runOk_eq, show (l.getD i zr) = runAt l i from rfl]
    simp only [Option.bind_some]
    rw [if_pos hb.1]
    by_cases h0 : i = 0
    · subst h0; rw [if_neg (by omega), wrap_succ (by omega)]
    · have hp := hprev (i - 1) (by omega)
      simp only [apB, Bool.and_eq_true] at hp
      have hq := oneB_bd hp.1
      rw [if_pos (by omega), wrap_pred (by omega) (by omega), if_pos (by omega), if_pos (by omega), rdRW, show (l.getD (i - 1) zr) = runAt l (i - 1) from rfl, if_pos hq.1.1, shl_eq _ hq.1, if_neg (by rcases hb.2 with h | h <;> omega), wrap_succ (by omega)]) (by
    intro i hi hprev hb
    refine Ev.of_succ (fun k => ?_)
    simp only [impl_apart.l0]
    rw [if_pos (by omega), if_pos (by omega), if_pos (by omega), rdRW, runOk_eq, show (l.getD i zr) = runAt l i from rfl]
    simp only [Option.bind_some]
    by_cases h1 : oneB n (runAt l i) = true
    · rw [if_pos h1]
      simp only [apB, h1, Bool.true_and, Bool.or_eq_false_iff, decide_eq_false_iff_not] at hb
      have hp := hprev (i - 1) (by omega)
      simp only [apB, Bool.and_eq_true] at hp
      have hq := oneB_bd hp.1
      rw [if_pos (by omega), wrap_pred (by omega) (by omega), if_pos (by omega), if_pos (by omega), rdRW, show (l.getD (i - 1) zr) = runAt l (i - 1) from rfl, if_pos hq.1.1, shl_eq _ hq.1, if_pos (by omega)]
    · rw [if_neg h1]) (by
    intro _
    refine Ev.of_succ (fun k => ?_)
    simp only [impl_apart.l0]
    rw [if_neg (by omega), isSize_eq]
    rfl)
  have e : (if (List.range l.length).all (apB n l) = true then sizeB n else false) = (sizeB n && (List.range l.length).all (apB n l)) := by
    cases (List.range l.length).all (apB n l) <;> simp
  rw [e] at key
  exact key
/-- What stands at one another's place: the brother above. -/
theorem xor_bro : ∀ a : Fin 32, ∀ o : Fin 3, a.val % 2 ^ o.val = 0 → Go.bits .xor .i64 (a.val : Int) (pw (o.val : Int)) = (if a.val % (2 * 2 ^ o.val) = 0 then (a.val : Int) + pw (o.val : Int) else (a.val : Int) - pw (o.val : Int)) := by decide +kernel
theorem xor_bro' (a o : Int) (ha : 0 ≤ a ∧ a < 32) (ho : 0 ≤ o ∧ o < 3) (hm : a % pw o = 0) : Go.bits .xor .i64 a (pw o) = (if a % (2 * pw o) = 0 then a + pw o else a - pw o) := by
  obtain ⟨n, rfl⟩ := Int.eq_ofNat_of_zero_le ha.1
  obtain ⟨m, rfl⟩ := Int.eq_ofNat_of_zero_le ho.1
  have hc : m = 0 ∨ m = 1 ∨ m = 2 := by omega
  rcases hc with rfl | rfl | rfl
  · have hp : pw ((0 : Nat) : Int) = 1 := by decide
    have h := xor_bro ⟨n, by omega⟩ ⟨0, by omega⟩ (by show n % 2 ^ 0 = 0; omega)
    simp only [hp, Nat.pow_zero, Nat.mul_one] at h hm ⊢
    rw [h]
    split <;> split <;> omega
  · have hp : pw ((1 : Nat) : Int) = 2 := by decide
    have h := xor_bro ⟨n, by omega⟩ ⟨1, by omega⟩ (by show n % 2 ^ 1 = 0; rw [hp] at hm; omega)
    simp only [hp, Nat.pow_one, show 2 * 2 = 4 from rfl] at h hm ⊢
    rw [h]
    split <;> split <;> omega
  · have hp : pw ((2 : Nat) : Int) = 4 := by decide
    have h := xor_bro ⟨n, by omega⟩ ⟨2, by omega⟩ (by show n % 2 ^ 2 = 0; rw [hp] at hm; omega)
    simp only [hp, show 2 * 2 ^ 2 = 8 from rfl] at h hm ⊢
    rw [h]
    split <;> split <;> omega
theorem broB_iff {n : Int} (hn : 8 ≤ n ∧ n ≤ 32) {a b : RunW} (ha : oneB n a = true) (hab : a.f0 + pw a.f1 ≤ b.f0) (h3 : a.f1 < 3) :
    (Go.bits .xor .i64 a.f0 (pw a.f1) = b.f0) ↔ (a.f0 % (2 * pw a.f1) = 0 ∧ b.f0 = a.f0 + pw a.f1) := by
  have hq := oneB_bd ha
  rw [wrap_size hn] at hq
  have hp := pw_pos a.f1
  rw [xor_bro' a.f0 a.f1 (by omega) (by omega) hq.2.2]
  split <;> constructor <;> intro h <;> omega
theorem impl_RunsOk_ev (n : Int) (l : List RunW) (hl : l.length ≤ 1048576) : Ev (fun k => impl_RunsOk.f k n l) (runsB n l) := by
  unfold impl_RunsOk.f
  refine Ev.bind (apart_ev n l hl) ?_
  cases hs : sizeB n with
  | false =>
    simp only [Bool.false_and, Bool.false_eq_true, if_false]
    have : runsB n l = false := by unfold runsB; rw [hs, Bool.false_and]
    rw [this]; exact Ev.now _
  | true =>
    have hn := sizeB_bd hs
    simp only [Bool.true_and]
    cases ha : (List.range l.length).all (apB n l) with
    | false =>
      simp only [Bool.false_eq_true, if_false]
      have : runsB n l = false := by
        unfold runsB
        rw [hs, Bool.true_and]
        rw [List.all_eq_false] at ha ⊢
        obtain ⟨x, hx, hb⟩ := ha
        exact ⟨x, hx, by unfold okAt; rw [Bool.eq_false_iff.2 hb, Bool.false_and]; simp⟩
      rw [this]; exact Ev.now _
    | true =>
      simp only [if_true]
      have hap : ∀ i, i < l.length → apB n l i = true := fun i hi => List.all_eq_true.1 ha i (List.mem_range.2 hi)
      have hone : ∀ i, i < l.length → oneB n (runAt l i) = true := fun i hi => by have := hap i hi; simp only [apB, Bool.and_eq_true] at this; exact this.1
      have hle : ∀ i, i + 1 < l.length → (runAt l i).f0 + pw (runAt l i).f1 ≤ (runAt l (i + 1)).f0 := by
        intro i hi
        have := hap (i + 1) hi
        have h1 := oneB_bd (hone i (by omega))
        rw [wrap_size ⟨hn.1, hn.2.1⟩] at h1
        have hp := pw_pos (runAt l i).f1
        simp only [apB, Bool.and_eq_true, Bool.or_eq_true, decide_eq_true_eq, Nat.add_sub_cancel] at this
        rcases this.2 with h | h
        · omega
        · rwa [wrap64_id (by omega) (by omega)] at h
      have key := ev_all0 (fun k i => impl_RunsOk.l0 k l ((i + 1 : Nat) : Int)) (l.length - 1) (fun i => !broB (runAt l i) (runAt l (i + 1))) false true (by
        intro i hi hb r h
        refine Ev.step (fun k => ?_) h
        have hb : broB (runAt l i) (runAt l (i + 1)) = false := by simpa using hb
        have h1 := oneB_bd (hone i (by omega))
        have hxor := @broB_iff n ⟨hn.1, hn.2.1⟩ _ _ (hone i (by omega)) (hle i (by omega))
        simp only [impl_RunsOk.l0]
        rw [if_pos (by omega), wrap_pred (by omega) (by omega), if_pos (by omega), if_pos (by omega), if_pos (by omega), rdRW, rdRW, show (l.getD (i + 1 - 1) zr) = runAt l i from rfl, show (l.getD (i + 1) zr) = runAt l (i + 1) from rfl, wrap_succ (by omega)]
        by_cases e1 : (runAt l i).f1 = (runAt l (i + 1)).f1
        · rw [if_pos e1]
          by_cases e2 : (runAt l i).f1 < 3
          · rw [if_pos e2, if_pos h1.1.1, shl_eq _ h1.1, if_neg]
            intro he
            have := (hxor e2).1 he
            simp only [broB, decide_eq_true e1, decide_eq_true e2, decide_eq_true this.1, decide_eq_true this.2] at hb
            cases hb
          · rw [if_neg e2]
        · rw [if_neg e1]) (by
        intro i hi hb
        refine Ev.of_succ (fun k => ?_)
        have hb : broB (runAt l i) (runAt l (i + 1)) = true := by simpa using hb
        simp only [broB, Bool.and_eq_true, decide_eq_true_eq] at hb
        have h1 := oneB_bd (hone i (by omega))
        have hxor := @broB_iff n ⟨hn.1, hn.2.1⟩ _ _ (hone i (by omega)) (hle i (by omega)) hb.1.1.2
        simp only [impl_RunsOk.l0]
        rw [if_pos (by omega), wrap_pred (by omega) (by omega), if_pos (by omega), if_pos (by omega), if_pos (by omega), rdRW, rdRW, show (l.getD (i + 1 - 1) zr) = runAt l i from rfl, show (l.getD (i + 1) zr) = runAt l (i + 1) from rfl]
        rw [if_pos hb.1.1.1, if_pos hb.1.1.2, if_pos h1.1.1, shl_eq _ h1.1, if_pos (hxor.2 ⟨hb.1.2, hb.2⟩)]) (by
        refine Ev.of_succ (fun k => ?_)
        simp only [impl_RunsOk.l0]
        rw [if_neg (by omega)])
      have e : (if (List.range (l.length - 1)).all (fun i => !broB (runAt l i) (runAt l (i + 1))) = true then true else false) = runsB n l := by
        unfold runsB
        rw [hs, Bool.true_and, Bool.eq_iff_iff]
        have hx : ((if (List.range (l.length - 1)).all (fun i => !broB (runAt l i) (runAt l (i + 1))) = true then true else false) = true) ↔ (List.range (l.length - 1)).all (fun i => !broB (runAt l i) (runAt l (i + 1))) = true := by
          cases (List.range (l.length - 1)).all (fun i => !broB (runAt l i) (runAt l (i + 1))) <;> simp
        rw [hx, List.all_eq_true, List.all_eq_true]
        constructor
        · intro h i hi
          have hi := List.mem_range.1 hi
          unfold okAt
          rw [hap i hi, Bool.true_and]
          by_cases h0 : i = 0
          · simp [h0]
          · have := h (i - 1) (List.mem_range.2 (by omega))
            rw [show i - 1 + 1 = i by omega] at this
            rw [this]; simp
        · intro h i hi
          have hi := List.mem_range.1 hi
          have := h (i + 1) (List.mem_range.2 (by omega))
          simpa [okAt, hap (i + 1) (by omega)] using this
      rw [e] at key
      exact key
theorem l03Brothers_ev (n : Int) (hn : 8 ≤ n ∧ n ≤ 32) (a b : RunW) (ha : oneB n a = true) : Ev (fun k => spec_l03Brothers.f k a.f0 a.f1 b.f0 b.f1) (broB a b) := by
  have hq := oneB_bd ha
  rw [wrap_size hn] at hq
  have hp := pw_pos a.f1
  have hp8 := pw_le a.f1
  unfold spec_l03Brothers.f broB
  refine Ev.bind (l03Pow_ev a.f1 hq.1) ?_
  by_cases e1 : a.f1 = b.f1
  · by_cases e2 : a.f1 < 3
    · simp only [if_pos e1, if_pos e2, decide_eq_true e1, decide_eq_true e2, Bool.and_true, Bool.true_and]
      have hw : wrap64 (2 * pw a.f1) = 2 * pw a.f1 := wrap64_id (by omega) (by omega)
      have hw2 : wrap64 (a.f0 + pw a.f1) = a.f0 + pw a.f1 := wrap64_id (by omega) (by omega)
      rw [hw, hw2, tmod_nonneg hq.2.1.1 (by omega)]
      simp only [if_neg (show ¬ 2 * pw a.f1 = 0 by omega)]
      by_cases e3 : a.f0 % (2 * pw a.f1) = 0
      · simp only [if_pos e3, decide_eq_true e3, Bool.true_and]; exact Ev.now _
      · simp only [if_neg e3, decide_eq_false e3, Bool.false_and]; exact Ev.now _
    · simp only [if_pos e1, if_neg e2, decide_eq_false e2, Bool.and_false, Bool.false_and]; exact Ev.now _
  · simp only [if_neg e1, decide_eq_false e1, Bool.false_and]; exact Ev.now _
theorem runsB_len (n : Int) (l : List RunW) (hs : sizeB n = true) (h : (List.range l.length).all (okAt n l) = true) : (l.length : Int) ≤ n := by
  have hn := sizeB_bd hs
  have hap : ∀ i, i < l.length → apB n l i = true := fun i hi => by
    have := List.all_eq_true.1 h i (List.mem_range.2 hi)
    simp only [okAt, Bool.and_eq_true] at this; exact this.1
  have hone : ∀ i, i < l.length → oneB n (runAt l i) = true := fun i hi => by have := hap i hi; simp only [apB, Bool.and_eq_true] at this; exact this.1
  have hge : ∀ i, i < l.length → (i : Int) ≤ (runAt l i).f0 := by
    intro i
    induction i with
    | zero => intro hi; have := oneB_bd (hone 0 hi); omega
    | succ i ih =>
      intro hi
      have h0 := ih (by omega)
      have := hap (i + 1) hi
      have h1 := oneB_bd (hone i (by omega))
      rw [wrap_size ⟨hn.1, hn.2.1⟩] at h1
      have hp := pw_pos (runAt l i).f1
      simp only [apB, Bool.and_eq_true, Bool.or_eq_true, decide_eq_true_eq, Nat.add_sub_cancel] at this
      rcases this.2 with h | h
      · omega
      · rw [wrap64_id (by omega) (by omega)] at h; omega
  rcases Nat.eq_zero_or_pos l.length with h0 | h0
  · omega
  · have h1 := hge (l.length - 1) (by omega)
    have h2 := oneB_bd (hone (l.length - 1) (by omega))
    rw [wrap_size ⟨hn.1, hn.2.1⟩] at h2
    have hp := pw_pos (runAt l (l.length - 1)).f1
    omega
theorem spec_RunsOk_ev (n : Int) (l : List RunW) (hl : l.length ≤ 1048576) : Ev (fun k => spec_RunsOk.f k n l) (runsB n l) := by
  unfold spec_RunsOk.f
  rw [l02Frames_eq]
  simp only [Option.bind_some]
  cases hs : sizeB n with
  | false =>
    simp only [Bool.false_eq_true, if_false]
    have : runsB n l = false := by unfold runsB; rw [hs, Bool.false_and]
    rw [this]
    refine Ev.of_succ (fun k => ?_)
    simp only [spec_RunsOk.j0]; rfl
  | true =>
    have hn := sizeB_bd hs
    simp only [if_true]
    by_cases hlen : (l.length : Int) > n
    · have : runsB n l = false := by
        rw [Bool.eq_false_iff]
        intro h
        unfold runsB at h
        rw [hs, Bool.true_and] at h
        have := runsB_len n l hs h
        omega
      rw [this, decide_eq_true hlen]
      refine Ev.of_succ (fun k => ?_)
      simp only [spec_RunsOk.j0]; rfl
    · rw [decide_eq_false hlen]
      have key := ev_allp (fun k i => spec_RunsOk.l0 k n l (i : Int)) l.length (okAt n l) false true (by
        intro i hi hprev hb r h
        simp only [okAt, apB, Bool.and_eq_true, Bool.or_eq_true, decide_eq_true_eq] at hb
        obtain ⟨⟨hb1, hb2⟩, hb3⟩ := hb
        by_cases h0 : i = 0
        · subst h0
          refine Ev.step (f := fun k => (spec_l03One.f k n (runAt l 0).f0 (runAt l 0).f1).bind fun t => if t = true then spec_RunsOk.l0 k n l ((0 + 1 : Nat) : Int) else some false) (fun k => ?_) (Ev.bind (l03One_ev n ⟨hn.1, hn.2.1⟩ _ _) (by simp only [show oneB n ⟨(runAt l 0).f0, (runAt l 0).f1⟩ = true from hb1, if_true]; exact h))
          simp only [spec_RunsOk.l0]
          rw [if_pos (by omega), if_pos (by omega), rdRW, if_neg (show ¬ (((0 : Nat) : Int) > 0) by omega), wrap_succ (by omega)]
          rfl
        · have hp := hprev (i - 1) (by omega)
          simp only [okAt, apB, Bool.and_eq_true] at hp
          have hq := oneB_bd hp.1.1
          rw [wrap_size ⟨hn.1, hn.2.1⟩] at hq
          have hpp := pw_pos (runAt l (i - 1)).f1
          refine Ev.step (f := fun k => (spec_l03One.f k n (runAt l i).f0 (runAt l i).f1).bind fun t => if t = true then (spec_l03Pow.f k (runAt l (i - 1)).f1).bind fun p => if (runAt l i).f0 < wrap64 ((runAt l (i - 1)).f0 + p) then some false else (spec_l03Brothers.f k (runAt l (i - 1)).f0 (runAt l (i - 1)).f1 (runAt l i).f0 (runAt l i).f1).bind fun q => if q = true then some false else spec_RunsOk.l0 k n l ((i + 1 : Nat) : Int) else some false) (fun k => ?_) ?_
          · simp only [spec_RunsOk.l0]
            rw [if_pos (by omega), if_pos (by omega), if_pos (show (i : Int) > 0 by omega), wrap_pred (by omega) (by omega), if_pos (by omega), if_pos (by omega), rdRW, rdRW, wrap_succ (by omega)]
            rfl
          · refine Ev.bind (l03One_ev n ⟨hn.1, hn.2.1⟩ _ _) ?_
            simp only [show oneB n ⟨(runAt l i).f0, (runAt l i).f1⟩ = true from hb1, if_true]
            refine Ev.bind (l03Pow_ev _ hq.1) ?_
            have hnl : ¬ (runAt l i).f0 < wrap64 ((runAt l (i - 1)).f0 + pw (runAt l (i - 1)).f1) := by rcases hb2 with h | h <;> omega
            simp only [if_neg hnl]
            refine Ev.bind (l03Brothers_ev n ⟨hn.1, hn.2.1⟩ (runAt l (i - 1)) (runAt l i) hp.1.1) ?_
            have hbr : broB (runAt l (i - 1)) (runAt l i) = false := by rcases hb3 with h | h; · omega
                                                                        · simpa using h
            simp only [hbr, Bool.false_eq_true, if_false]
            exact h) (by
        intro i hi hprev hb
        by_cases hb1 : oneB n (runAt l i) = true
        · have hi0 : i ≠ 0 := by
            intro h0
            simp [okAt, apB, hb1, h0] at hb
            subst h0
            simp [hb1] at hb
          have hp := hprev (i - 1) (by omega)
          simp only [okAt, apB, Bool.and_eq_true] at hp
          have hq := oneB_bd hp.1.1
          rw [wrap_size ⟨hn.1, hn.2.1⟩] at hq
          refine Ev.step (f := fun k => (spec_l03One.f k n (runAt l i).f0 (runAt l i).f1).bind fun t => if t = true then (spec_l03Pow.f k (runAt l (i - 1)).f1).bind fun p => if (runAt l i).f0 < wrap64 ((runAt l (i - 1)).f0 + p) then some false else (spec_l03Brothers.f k (runAt l (i - 1)).f0 (runAt l (i - 1)).f1 (runAt l i).f0 (runAt l i).f1).bind fun q => if q = true then some false else spec_RunsOk.l0 k n l ((i + 1 : Nat) : Int) else some false) (fun k => ?_) ?_
          · simp only [spec_RunsOk.l0]
            rw [if_pos (by omega), if_pos (by omega), if_pos (show (i : Int) > 0 by omega), wrap_pred (by omega) (by omega), if_pos (by omega), if_pos (by omega), rdRW, rdRW, wrap_succ (by omega)]
            rfl
          · refine Ev.bind (l03One_ev n ⟨hn.1, hn.2.1⟩ _ _) ?_
            simp only [show oneB n ⟨(runAt l i).f0, (runAt l i).f1⟩ = true from hb1, if_true]
            refine Ev.bind (l03Pow_ev _ hq.1) ?_
            by_cases hnl : (runAt l i).f0 < wrap64 ((runAt l (i - 1)).f0 + pw (runAt l (i - 1)).f1)
            · simp only [if_pos hnl]; exact Ev.now _
            · simp only [if_neg hnl]
              refine Ev.bind (l03Brothers_ev n ⟨hn.1, hn.2.1⟩ (runAt l (i - 1)) (runAt l i) hp.1.1) ?_
              have hbr : broB (runAt l (i - 1)) (runAt l i) = true := by
                simp only [okAt, apB, hb1, Bool.true_and, decide_eq_false hi0, Bool.false_or, decide_eq_true (show wrap64 ((runAt l (i - 1)).f0 + pw (runAt l (i - 1)).f1) ≤ (runAt l i).f0 by omega)] at hb
                simpa using hb
              simp only [hbr, if_true]
              exact Ev.now _
        · refine Ev.step (f := fun k => (spec_l03One.f k n (runAt l i).f0 (runAt l i).f1).bind fun t => if t = true then (if (i : Int) > 0 then (if 0 ≤ (wrap64 ((i : Int) - 1)) then (if (wrap64 ((i : Int) - 1)) < (l.length : Int) then ((spec_l03Pow.f k ((rd_T48 l (wrap64 ((i : Int) - 1))).f1)).bind fun t115 => (if ((rd_T48 l (i : Int)).f0) < (wrap64 (((rd_T48 l (wrap64 ((i : Int) - 1))).f0) + t115)) then (some false) else ((spec_l03Brothers.f k ((rd_T48 l (wrap64 ((i : Int) - 1))).f0) ((rd_T48 l (wrap64 ((i : Int) - 1))).f1) ((rd_T48 l (i : Int)).f0) ((rd_T48 l (i : Int)).f1)).bind fun t118 => (if t118 = true then (some false) else (spec_RunsOk.l0 k n l (wrap64 ((i : Int) + 1))))))) else (none)) else (none)) else (spec_RunsOk.l0 k n l (wrap64 ((i : Int) + 1)))) else some false) (fun k => ?_) (Ev.bind (l03One_ev n ⟨hn.1, hn.2.1⟩ _ _) (by simp only [show oneB n ⟨(runAt l i).f0, (runAt l i).f1⟩ = false from Bool.eq_false_iff.2 hb1, Bool.false_eq_true, if_false]; exact Ev.now _))
          simp only [spec_RunsOk.l0]
          rw [if_pos (by omega), if_pos (by omega)]
          have e1 : (rd_T48 l (i : Int)) = runAt l i := rdRW l i
          rw [e1]) (by
        intro _
        refine Ev.of_succ (fun k => ?_)
        simp only [spec_RunsOk.l0]
        rw [if_neg (by omega)])
      have e : (if (List.range l.length).all (okAt n l) = true then true else false) = runsB n l := by
        unfold runsB; rw [hs, Bool.true_and]; cases (List.range l.length).all (okAt n l) <;> simp
      rw [e] at key
      refine Ev.step (fun k => ?_) key
      simp only [spec_RunsOk.j0]; rfl
def runF (r : RunW) : List Int := (List.range (pw r.f1).toNat).map (fun j : Nat => r.f0 + (j : Int))
def framesB (l : List RunW) : List Int := l.foldl (fun s r => s ++ runF r) []
theorem runF_len (r : RunW) : (runF r).length ≤ 8 := by have := pw_le r.f1; simp [runF]; omega
theorem runF_take (r : RunW) (j : Nat) (h : j < (pw r.f1).toNat) : (runF r).take (j + 1) = (runF r).take j ++ [r.f0 + (j : Int)] := by
  rw [List.take_succ_eq_append_getElem (by simpa [runF] using h)]
  simp [runF]
theorem runOne {n : Int} {l : List RunW} (hb : runsB n l = true) {i : Nat} (hi : i < l.length) : (0 ≤ (l.getD i zr).f1 ∧ (l.getD i zr).f1 ≤ 3) ∧ 0 ≤ (l.getD i zr).f0 ∧ (l.getD i zr).f0 ≤ 32 := by
  unfold runsB at hb
  simp only [Bool.and_eq_true] at hb
  have hn := sizeB_bd hb.1
  have := List.all_eq_true.1 hb.2 i (List.mem_range.2 hi)
  simp only [okAt, apB, Bool.and_eq_true] at this
  have := oneB_bd this.1.1
  rw [wrap_size ⟨hn.1, hn.2.1⟩] at this
  have hp := pw_pos (runAt l i).f1
  exact ⟨this.1, this.2.1.1, by unfold runAt at *; omega⟩
theorem framesB_len (l : List RunW) : (framesB l).length ≤ 8 * l.length := by
  have : ∀ (l : List RunW) (s : List Int), (l.foldl (fun s r => s ++ runF r) s).length ≤ s.length + 8 * l.length := by
    intro l
    induction l with
    | nil => intro s; simp
    | cons r l ih => intro s; have := ih (s ++ runF r); have h8 := runF_len r; simp only [List.foldl_cons, List.length_cons, List.length_append] at this ⊢; omega
  have := this l []
  simpa [framesB] using this
theorem spec_FreeFrames_ev (n : Int) (l : List RunW) (hl : l.length ≤ 1048576) : Ev (fun k => spec_FreeFrames.f k n l) (if runsB n l = true then framesB l else []) := by
  have hro := spec_RunsOk_ev n l hl
  by_cases hb : runsB n l = true
  · rw [if_pos hb]
    rw [hb] at hro
    have key := (ev_fold (fun k s i => spec_FreeFrames.l0 k n l s (i : Int)) l.length (fun s i => s ++ runF (l.getD i zr)) id (fun i s => s.length ≤ 8 * i) (by
      intro i s hi hs
      have hone := runOne hb hi
      have hlen := runF_len (l.getD i zr)
      refine ⟨by simp only [List.length_append]; omega, fun r h => ?_⟩
      have hin := ev_yes (fun k j => spec_FreeFrames.l1 k n l (s ++ (runF (l.getD i zr)).take j) (i : Int) (j : Int)) (pw (l.getD i zr).f1).toNat (fun _ => true) r (by
        intro j hj _ r h
        have hp := pw_le (l.getD i zr).f1
        have hp0 := pw_pos (l.getD i zr).f1
        have hz : 0 ≤ (l.getD i z48).f0 ∧ (l.getD i z48).f0 ≤ 32 := hone.2
        have hj8 : j < 8 := by omega
        refine Ev.step (f := fun k => (spec_l03Pow.f k (l.getD i zr).f1).bind fun t => if (j : Int) < t then spec_FreeFrames.l1 k n l (s ++ (runF (l.getD i zr)).take (j + 1)) (i : Int) ((j + 1 : Nat) : Int) else spec_FreeFrames.l0 k n l (s ++ (runF (l.getD i zr)).take j) ((i + 1 : Nat) : Int)) (fun k => ?_) (Ev.bind (l03Pow_ev _ hone.1) (by simp only [if_pos (show (j : Int) < pw (l.getD i zr).f1 by omega)]; exact h))
        simp only [spec_FreeFrames.l1]
        rw [if_pos (by omega), if_pos (by omega), rdRW]
        congr 1
        funext t
        rw [if_pos (show (s ++ List.take j (runF (l.getD i z48))).length < 17592186044416 by simp only [List.length_append, List.length_take]; omega), runF_take _ _ hj, wrap_succ (by omega), wrap_succ (by omega), wrap64_id (n := (l.getD i z48).f0 + (j : Int)) (by omega) (by omega), List.append_assoc]) (by simp) (by
        have hp0 := pw_pos (l.getD i zr).f1
        rw [List.take_of_length_le (by simp [runF])]
        refine Ev.step (f := fun k => (spec_l03Pow.f k (l.getD i zr).f1).bind fun t => if (((pw (l.getD i zr).f1).toNat : Nat) : Int) < t then (if (s ++ runF (l.getD i zr)).length < 17592186044416 then spec_FreeFrames.l1 k n l ((s ++ runF (l.getD i zr)) ++ [wrap64 ((l.getD i zr).f0 + (((pw (l.getD i zr).f1).toNat : Nat) : Int))]) (i : Int) (wrap64 ((((pw (l.getD i zr).f1).toNat : Nat) : Int) + 1)) else none) else spec_FreeFrames.l0 k n l (s ++ runF (l.getD i zr)) ((i + 1 : Nat) : Int)) (fun k => ?_) (Ev.bind (l03Pow_ev _ hone.1) (by simp only [if_neg (show ¬ (((pw (l.getD i zr).f1).toNat : Nat) : Int) < pw (l.getD i zr).f1 by omega)]; exact h))
        simp only [spec_FreeFrames.l1]
        rw [if_pos (by omega), if_pos (by omega), rdRW, wrap_succ (i := i) (by omega)])
      refine Ev.step (f := fun k => (spec_RunsOk.f k n l).bind fun t => spec_FreeFrames.j1 k n l s (i : Int) t) (fun k => ?_) (Ev.bind hro ?_)
      · simp only [spec_FreeFrames.l0]
        rw [if_pos (by omega)]
      · refine Ev.step (fun k => ?_) hin
        simp only [spec_FreeFrames.j1, if_true]
        simp) (by
      intro s _
      refine Ev.step (f := fun k => spec_FreeFrames.j1 k n l s (l.length : Int) false) (fun k => ?_) (Ev.of_succ (fun k => ?_))
      · simp only [spec_FreeFrames.l0]
        rw [if_neg (by omega)]
      · simp only [spec_FreeFrames.j1]; rfl) [] (by simp)).1
    rw [foldl_getD (fun (s : List Int) (r : RunW) => s ++ runF r) l zr] at key
    exact key
  · rw [if_neg hb]
    rw [Bool.eq_false_iff.2 hb] at hro
    show Ev (fun k => spec_FreeFrames.l0 k n l [] ((0 : Nat) : Int)) []
    by_cases h0 : 0 < l.length
    · refine Ev.step (f := fun k => (spec_RunsOk.f k n l).bind fun t => spec_FreeFrames.j1 k n l [] ((0 : Nat) : Int) t) (fun k => ?_) (Ev.bind hro (Ev.of_succ (fun k => ?_)))
      · simp only [spec_FreeFrames.l0]
        rw [if_pos (by omega)]
      · simp only [spec_FreeFrames.j1]; rfl
    · refine Ev.step (f := fun k => spec_FreeFrames.j1 k n l [] ((0 : Nat) : Int) false) (fun k => ?_) (Ev.of_succ (fun k => ?_))
      · simp only [spec_FreeFrames.l0]
        rw [if_neg (by omega)]
      · simp only [spec_FreeFrames.j1]; rfl
def inB (l : List Int) (x : Int) : Bool := l.any (fun y => decide (y = x))
theorem inB_all (l : List Int) (x : Int) : (List.range l.length).all (fun i => !decide (l.getD i 0 = x)) = !inB l x := by
  rw [range_all l 0 (fun y => !decide (y = x))]
  unfold inB
  rw [List.all_eq_not_any_not]
  simp
theorem l03In_ev (l : List Int) (hl : l.length ≤ 1048576) (x : Int) : Ev (fun k => spec_l03In.f k l x) (inB l x) := by
  have key := ev_all0 (fun k i => spec_l03In.l0 k l x (i : Int)) l.length (fun i => !decide (l.getD i 0 = x)) true false (by
    intro i hi hb r h
    refine Ev.step (fun k => ?_) h
    simp only [Bool.not_eq_true', decide_eq_false_iff_not] at hb
    simp only [spec_l03In.l0]
    rw [if_pos (by omega), if_pos (by omega), if_neg (by unfold rd; rw [toNat_cast]; exact hb), wrap_succ (by omega)]) (by
    intro i hi hb
    refine Ev.of_succ (fun k => ?_)
    simp only [Bool.not_eq_false', decide_eq_true_eq] at hb
    simp only [spec_l03In.l0]
    rw [if_pos (by omega), if_pos (by omega), if_pos (by unfold rd; rw [toNat_cast]; exact hb)]) (by
    refine Ev.of_succ (fun k => ?_)
    simp only [spec_l03In.l0]
    rw [if_neg (by omega)])
  rw [inB_all] at key
  have e : (if (!inB l x) = true then false else true) = inB l x := by cases inB l x <;> rfl
  rw [e] at key
  exact key
/-- May a run of this order begin here? -/
def clearB (l : List Int) (a o : Int) : Bool := (List.range (pw o).toNat).all (fun j => !inB l (a + (j : Int))) && decide (a % pw o = 0)
theorem l03Clear_ev (l : List Int) (hl : l.length ≤ 1048576) (a o : Int) (ha : 0 ≤ a ∧ a ≤ 1000) (ho : 0 ≤ o ∧ o ≤ 3) : Ev (fun k => spec_l03Clear.f k l a o) (clearB l a o) := by
  unfold spec_l03Clear.f
  refine Ev.bind (l03Pow_ev o ho) ?_
  have hp := pw_pos o
  have hp8 := pw_le o
  have hw : wrap64 (a + pw o) = a + pw o := wrap64_id (by omega) (by omega)
  have key := ev_all0 (fun k j => spec_l03Clear.l0 k l a (pw o) (a + (j : Int))) (pw o).toNat (fun j => !inB l (a + (j : Int))) false (decide (a % pw o = 0)) (by
    intro j hj hb r h
    simp only [Bool.not_eq_true'] at hb
    refine Ev.step (f := fun k => (spec_l03In.f k l (a + (j : Int))).bind fun t104 => (if t104 = true then (some false) else (spec_l03Clear.l0 k l a (pw o) (wrap64 ((a + (j : Int)) + 1))))) (fun k => ?_) ?_
    · simp only [spec_l03Clear.l0]
      rw [hw, if_pos (by omega)]
    · refine Ev.bind (l03In_ev l hl _) ?_
      simp only [hb, Bool.false_eq_true, if_false]
      rw [wrap64_id (n := a + (j : Int) + 1) (by omega) (by omega), show a + (j : Int) + 1 = a + ((j + 1 : Nat) : Int) by omega]
      exact h) (by
    intro j hj hb
    simp only [Bool.not_eq_false'] at hb
    refine Ev.step (f := fun k => (spec_l03In.f k l (a + (j : Int))).bind fun t104 => (if t104 = true then (some false) else (spec_l03Clear.l0 k l a (pw o) (wrap64 ((a + (j : Int)) + 1))))) (fun k => ?_) ?_
    · simp only [spec_l03Clear.l0]
      rw [hw, if_pos (by omega)]
    · refine Ev.bind (l03In_ev l hl _) ?_
      simp only [hb, if_true]
      exact Ev.now _) (by
    refine Ev.of_succ (fun k => ?_)
    simp only [spec_l03Clear.l0]
    rw [hw, if_neg (by omega), if_neg (by omega), tmod_nonneg ha.1 hp]
    rfl)
  simp only [show ((0 : Nat) : Int) = 0 from rfl, Int.add_zero] at key
  have e : (if ((List.range (pw o).toNat).all (fun j => !inB l (a + (j : Int)))) = true then decide (a % pw o = 0) else false) = clearB l a o := by
    unfold clearB
    cases (List.range (pw o).toNat).all (fun j => !inB l (a + (j : Int))) <;> simp
  rw [e] at key
  exact key
def ordC (C : Int → Bool) : Int := if C 3 = true then 3 else if C 2 = true then 2 else if C 1 = true then 1 else if C 0 = true then 0 else -1
theorem ordC_bd (C : Int → Bool) : -1 ≤ ordC C ∧ ordC C ≤ 3 := by unfold ordC; repeat' split <;> omega
/-- The runs from a place on. -/
def jn (N : Int → Int) (n : Int) : Nat → Int → List RunW → List RunW
  | 0, _, out => out
  | f + 1, a, out => if a < n then (if N a < 0 then jn N n f (a + 1) out else jn N n f (a + pw (N a)) (out ++ [⟨a, N a⟩])) else out
theorem jn_congr (N N' : Int → Int) (n : Int) (h : ∀ a, 0 ≤ a → a < n → N a = N' a) : ∀ f a out, 0 ≤ a → jn N n f a out = jn N' n f a out := by
  intro f
  induction f with
  | zero => intro a out _; rfl
  | succ f ih =>
    intro a out ha
    unfold jn
    by_cases h1 : a < n
    · rw [if_pos h1, if_pos h1, h a ha h1]
      have := pw_pos (N' a)
      split
      · exact ih _ _ (by omega)
      · exact ih _ _ (by omega)
    · rw [if_neg h1, if_neg h1]
theorem ev_jn {ρ : Type} (g : Nat → List RunW → Int → Option ρ) (N : Int → Int) (n : Int) (hn : n ≤ 1000) (hN : ∀ a, -1 ≤ N a ∧ N a ≤ 3) (fin : List RunW → ρ)
    (h1 : ∀ a out, 0 ≤ a → a < n → (out.length : Int) ≤ a → N a < 0 → ∀ r, Ev (fun k => g k out (a + 1)) r → Ev (fun k => g k out a) r)
    (h2 : ∀ a out, 0 ≤ a → a < n → (out.length : Int) ≤ a → 0 ≤ N a → ∀ r, Ev (fun k => g k (out ++ [⟨a, N a⟩]) (a + pw (N a))) r → Ev (fun k => g k out a) r)
    (h3 : ∀ a out, n ≤ a → Ev (fun k => g k out a) (fin out)) : ∀ (f : Nat) a out, 0 ≤ a → n ≤ a + f → (out.length : Int) ≤ a → Ev (fun k => g k out a) (fin (jn N n f a out)) := by
  intro f
  induction f with
  | zero => intro a out _ h _; exact h3 a out (by omega)
  | succ f ih =>
    intro a out ha hf hl
    unfold jn
    by_cases hlt : a < n
    · rw [if_pos hlt]
      by_cases hneg : N a < 0
      · rw [if_pos hneg]
        exact h1 a out ha hlt hl hneg _ (ih _ _ (by omega) (by omega) (by omega))
      · rw [if_neg hneg]
        have := pw_pos (N a)
        exact h2 a out ha hlt hl (by omega) _ (ih _ _ (by omega) (by omega) (by simp only [List.length_append, List.length_cons, List.length_nil]; omega))
    · rw [if_neg hlt]
      exact h3 a out (by omega)
/-- The reference's descent. -/
theorem spec_down (n : Int) (l : List Int) (hl : l.length ≤ 1048576) (a : Int) (ha : 0 ≤ a ∧ a ≤ 1000) (out : List RunW) (ho : out.length ≤ 1000) (r : List RunW × Bool)
    (h1 : ordC (clearB l a) < 0 → Ev (fun k => spec_AllRuns.l1 k n l out (a + 1)) r)
    (h2 : 0 ≤ ordC (clearB l a) → Ev (fun k => spec_AllRuns.l1 k n l (out ++ [⟨a, ordC (clearB l a)⟩]) (a + pw (ordC (clearB l a)))) r) : Ev (fun k => spec_AllRuns.l2 k n l out a 3) r := by
  have yes : ∀ o : Int, 0 ≤ o ∧ o ≤ 3 → clearB l a o = true → Ev (fun k => spec_AllRuns.l1 k n l (out ++ [⟨a, o⟩]) (a + pw o)) r → Ev (fun k => spec_AllRuns.l2 k n l out a o) r := by
    intro o ho3 hc h
    have hp := pw_pos o
    have hp8 := pw_le o
    refine Ev.step (f := fun k => (spec_l03Clear.f k l a o).bind fun t114 => (if t114 = true then (if o < 0 then (spec_AllRuns.l1 k n l out (wrap64 (a + 1))) else (if out.length < 8796093022208 then ((spec_l03Pow.f k o).bind fun t118 => (spec_AllRuns.l1 k n l (out ++ [(⟨a, o⟩ : RunW)]) (wrap64 (a + t118)))) else (none))) else (spec_AllRuns.l2 k n l out a (wrap64 (o - 1))))) (fun k => ?_) ?_
    · simp only [spec_AllRuns.l2]
      rw [if_pos (show o ≥ 0 from ho3.1)]
    · refine Ev.bind (l03Clear_ev l hl a o ha ho3) ?_
      simp only [hc, if_true, if_neg (show ¬ o < 0 by omega), if_pos (show out.length < 8796093022208 by omega)]
      refine Ev.bind (l03Pow_ev o ho3) ?_
      rw [wrap64_id (n := a + pw o) (by omega) (by omega)]
      exact h
  have no : ∀ o : Int, 0 ≤ o ∧ o ≤ 3 → clearB l a o = false → Ev (fun k => spec_AllRuns.l2 k n l out a (o - 1)) r → Ev (fun k => spec_AllRuns.l2 k n l out a o) r := by
    intro o ho3 hc h
    refine Ev.step (f := fun k => (spec_l03Clear.f k l a o).bind fun t114 => (if t114 = true then (if o < 0 then (spec_AllRuns.l1 k n l out (wrap64 (a + 1))) else (if out.length < 8796093022208 then ((spec_l03Pow.f k o).bind fun t118 => (spec_AllRuns.l1 k n l (out ++ [(⟨a, o⟩ : RunW)]) (wrap64 (a + t118)))) else (none))) else (spec_AllRuns.l2 k n l out a (wrap64 (o - 1))))) (fun k => ?_) ?_
    · simp only [spec_AllRuns.l2]
      rw [if_pos (show o ≥ 0 from ho3.1)]
    · refine Ev.bind (l03Clear_ev l hl a o ha ho3) ?_
      simp only [hc, Bool.false_eq_true, if_false]
      rw [wrap64_id (n := o - 1) (by omega) (by omega)]
      exact h
  unfold ordC at h1 h2
  by_cases c3 : clearB l a 3 = true
  · rw [if_pos c3] at h2
    exact yes 3 (by omega) c3 (h2 (by omega))
  · rw [if_neg c3] at h1 h2
    refine no 3 (by omega) (by simpa using c3) ?_
    show Ev (fun k => spec_AllRuns.l2 k n l out a 2) r
    by_cases c2 : clearB l a 2 = true
    · rw [if_pos c2] at h2
      exact yes 2 (by omega) c2 (h2 (by omega))
    · rw [if_neg c2] at h1 h2
      refine no 2 (by omega) (by simpa using c2) ?_
      show Ev (fun k => spec_AllRuns.l2 k n l out a 1) r
      by_cases c1 : clearB l a 1 = true
      · rw [if_pos c1] at h2
        exact yes 1 (by omega) c1 (h2 (by omega))
      · rw [if_neg c1] at h1 h2
        refine no 1 (by omega) (by simpa using c1) ?_
        show Ev (fun k => spec_AllRuns.l2 k n l out a 0) r
        by_cases c0 : clearB l a 0 = true
        · rw [if_pos c0] at h2
          exact yes 0 (by omega) c0 (h2 (by omega))
        · rw [if_neg c0] at h1
          refine no 0 (by omega) (by simpa using c0) ?_
          show Ev (fun k => spec_AllRuns.l2 k n l out a (-1)) r
          refine Ev.step (fun k => ?_) (h1 (by omega))
          simp only [spec_AllRuns.l2]
          rw [if_neg (by omega), if_pos (by omega), wrap64_id (n := a + 1) (by omega) (by omega)]
/-- The runs of what is not taken. -/
def runsOf (n : Int) (l : List Int) : List RunW := jn (fun a => ordC (clearB l a)) n n.toNat 0 []
def takenB (n : Int) (l : List Int) : Bool := l.all (fun x => decide (0 ≤ x ∧ x ≤ n - 1))
theorem takenB_all (n : Int) (l : List Int) : (List.range l.length).all (fun i => decide (0 ≤ l.getD i 0 ∧ l.getD i 0 ≤ n - 1)) = takenB n l := range_all l 0 (fun x => decide (0 ≤ x ∧ x ≤ n - 1))
theorem spec_AllRuns_ev (n : Int) (l : List Int) (hl : l.length ≤ 1048576) : Ev (fun k => spec_AllRuns.f k n l) (if sizeB n = true ∧ takenB n l = true then (runsOf n l, true) else ([], false)) := by
  unfold spec_AllRuns.f
  rw [l02Frames_eq]
  simp only [Option.bind_some]
  have bad : ∀ i : Nat, Ev (fun k => spec_AllRuns.l0 k n l false (i : Int)) ([], false) := by
    intro i
    refine Ev.step (f := fun k => spec_AllRuns.j1 k n l false) (fun k => ?_) (Ev.of_succ (fun k => ?_))
    · simp only [spec_AllRuns.l0]
      by_cases h : (i : Int) < (l.length : Int)
      · rw [if_pos h, if_neg (by simp)]
      · rw [if_neg h]
    · simp only [spec_AllRuns.j1]
      rfl
  by_cases hs : sizeB n = true
  · obtain ⟨hn1, hn2, hn3⟩ := sizeB_bd hs
    rw [hs]
    have hw : wrap64 (n - 1) = n - 1 := wrap64_id (by omega) (by omega)
    have key := ev_all0 (fun k i => spec_AllRuns.l0 k n l true (i : Int)) l.length (fun i => decide (0 ≤ l.getD i 0 ∧ l.getD i 0 ≤ n - 1)) ([], false) (runsOf n l, true) (by
      intro i hi hb r h
      refine Ev.step (fun k => ?_) h
      simp only [spec_AllRuns.l0]
      rw [if_pos (by omega), if_pos trivial, if_pos (by omega), l01In_eq, hw]
      unfold rd
      rw [toNat_cast, hb, wrap_succ (by omega)]
      rfl) (by
      intro i hi hb
      refine Ev.step (fun k => ?_) (bad (i + 1))
      simp only [spec_AllRuns.l0]
      rw [if_pos (by omega), if_pos trivial, if_pos (by omega), l01In_eq, hw]
      unfold rd
      rw [toNat_cast, hb, wrap_succ (by omega)]
      rfl) (by
      refine Ev.step (f := fun k => spec_AllRuns.j1 k n l true) (fun k => ?_) (Ev.step (f := fun k => spec_AllRuns.l1 k n l [] 0) (fun k => ?_) ?_)
      · simp only [spec_AllRuns.l0]
        rw [if_neg (by omega)]
      · simp only [spec_AllRuns.j1]
        rw [if_pos trivial]
      · refine ev_jn (fun k out a => spec_AllRuns.l1 k n l out a) (fun a => ordC (clearB l a)) n (by omega) (fun a => ordC_bd _) (fun out => (out, true)) ?_ ?_ ?_ n.toNat 0 [] (by omega) (by omega) (by simp)
        · intro a out ha hlt hlo hneg r h
          refine Ev.step (f := fun k => spec_AllRuns.l2 k n l out a 3) (fun k => ?_) (spec_down n l hl a (by omega) out (by omega) r (fun _ => h) (fun hp => by omega))
          simp only [spec_AllRuns.l1]
          rw [if_pos hlt]
        · intro a out ha hlt hlo hpos r h
          refine Ev.step (f := fun k => spec_AllRuns.l2 k n l out a 3) (fun k => ?_) (spec_down n l hl a (by omega) out (by omega) r (fun hp => by omega) (fun _ => h))
          simp only [spec_AllRuns.l1]
          rw [if_pos hlt]
        · intro a out ha
          refine Ev.of_succ (fun k => ?_)
          simp only [spec_AllRuns.l1]
          rw [if_neg (by omega)])
    rw [takenB_all] at key
    simp only [true_and]
    exact key
  · rw [if_neg (fun h => hs h.1), show sizeB n = false by simpa using hs]
    exact bad 0
/-! The program -/
theorem index_ev (l : List Bool) (hl : l.length ≤ 1000000) (b : Bool) : ∃ r, Ev (fun k => slices_Index_bool_bool.f k l b) r ∧ decide (r ≥ 0) = l.any (fun y => b == y) := by
  have h0 : ∀ d i, i + d = l.length → ∃ r, Ev (fun k => slices_Index_bool_bool.l0 k l b (l.length : Int) (i : Int)) r ∧ decide (r ≥ 0) = (l.drop i).any (fun y => b == y) := by
    intro d
    induction d with
    | zero =>
      intro i hi
      refine ⟨-1, Ev.of_succ (fun k => ?_), ?_⟩
      · simp only [slices_Index_bool_bool.l0]
        rw [if_neg (by omega)]
      · rw [List.drop_of_length_le (by omega)]; rfl
    | succ d ih =>
      intro i hi
      have hlt : i < l.length := by omega
      have hr : rdOf false l (i : Int) = l[i] := by unfold rdOf; rw [toNat_cast]; simp [List.getD_eq_getElem?_getD, List.getElem?_eq_getElem hlt]
      rw [List.drop_eq_getElem_cons hlt, List.any_cons]
      by_cases hb : (b == l[i]) = true
      · refine ⟨i, Ev.of_succ (fun k => ?_), ?_⟩
        · simp only [slices_Index_bool_bool.l0]
          rw [if_pos (by omega), if_pos (by omega), if_pos (by omega), hr, if_pos hb]
        · rw [hb, Bool.true_or]; simp
      · obtain ⟨r, h1, h2⟩ := ih (i + 1) (by omega)
        refine ⟨r, Ev.step (fun k => ?_) h1, ?_⟩
        · simp only [slices_Index_bool_bool.l0]
          rw [if_pos (by omega), if_pos (by omega), if_pos (by omega), hr, if_neg hb, wrap_succ (by omega)]
        · rw [show (b == l[i]) = false by simpa using hb, Bool.false_or, h2]
  obtain ⟨r, h1, h2⟩ := h0 l.length 0 (by omega)
  exact ⟨r, h1, by simpa using h2⟩
theorem contains_ev (l : List Bool) (hl : l.length ≤ 1000000) (b : Bool) : Ev (fun k => slices_Contains_bool_bool.f k l b) (l.any (fun y => b == y)) := by
  unfold slices_Contains_bool_bool.f
  obtain ⟨r, h1, h2⟩ := index_ev l hl b
  refine Ev.bind h1 ?_
  rw [h2]
  exact Ev.now _
def fitB (fr : List Bool) (a o : Int) : Bool := decide (a % pw o = 0) && decide (a + pw o ≤ (fr.length : Int)) && !((fr.take (a + pw o).toNat).drop a.toNat).any (fun y => false == y)
theorem impl_fit (fr : List Bool) (hl : fr.length ≤ 1000) (a : Int) (ha : 0 ≤ a ∧ a ≤ 1000) (out : List RunW) (b o : Int) (ho : 0 ≤ o ∧ o ≤ 3) (r : List RunW)
    (h : Ev (fun k => impl_joined.l1 k fr out a (if fitB fr a o = true then o else b) (o + 1)) r) : Ev (fun k => impl_joined.l1 k fr out a b o) r := by
  have hp := pw_pos o
  have hp8 := pw_le o
  have hw : wrap64 (a + pw o) = a + pw o := wrap64_id (by omega) (by omega)
  have hw2 : wrap64 (o + 1) = o + 1 := wrap64_id (by omega) (by omega)
  unfold fitB at h
  by_cases hm : a % pw o = 0
  · by_cases hlen : a + pw o ≤ (fr.length : Int)
    · refine Ev.step (f := fun k => (slices_Contains_bool_bool.f k ((fr.take ((a + pw o) : Int).toNat).drop (a : Int).toNat) false).bind fun t135 => (if t135 = true then (impl_joined.l1 k fr out a b (o + 1)) else (impl_joined.l1 k fr out a o (o + 1)))) (fun k => ?_) ?_
      · simp only [impl_joined.l1]
        rw [shl_eq o ho, hw, hw2, if_pos ho.2, if_pos ho.1, if_neg (by omega), tmod_nonneg ha.1 hp, if_pos hm, if_pos hlen, if_pos ha.1, if_pos (by omega)]
      · refine Ev.bind (contains_ev _ (by rw [List.length_drop, List.length_take]; omega) false) ?_
        rw [decide_eq_true hm, decide_eq_true hlen] at h
        simp only [Bool.true_and] at h
        cases hc : ((fr.take ((a + pw o) : Int).toNat).drop (a : Int).toNat).any (fun y => false == y) with
        | true => simp only [hc, Bool.not_true, Bool.false_eq_true, if_false] at h; simp only [if_true]; exact h
        | false => simp only [hc, Bool.not_false, if_true] at h; simp only [Bool.false_eq_true, if_false]; exact h
    · rw [decide_eq_true hm, decide_eq_false hlen] at h
      simp only [Bool.and_false, Bool.false_and, Bool.false_eq_true, if_false] at h
      refine Ev.step (fun k => ?_) h
      simp only [impl_joined.l1]
      rw [shl_eq o ho, hw, hw2, if_pos ho.2, if_pos ho.1, if_neg (by omega), tmod_nonneg ha.1 hp, if_pos hm, if_neg hlen]
  · rw [decide_eq_false hm] at h
    simp only [Bool.false_and, Bool.false_eq_true, if_false] at h
    refine Ev.step (fun k => ?_) h
    simp only [impl_joined.l1]
    rw [shl_eq o ho, hw2, if_pos ho.2, if_pos ho.1, if_neg (by omega), tmod_nonneg ha.1 hp, if_neg hm]
theorem ordC_up (C : Int → Bool) : (if C 3 = true then (3 : Int) else (if C 2 = true then 2 else (if C 1 = true then 1 else (if C 0 = true then 0 else -1)))) = ordC C := rfl
def joinB (fr : List Bool) : List RunW := jn (fun a => ordC (fitB fr a)) (fr.length : Int) fr.length 0 []
theorem joined_ev (fr : List Bool) (hl : fr.length ≤ 100) : Ev (fun k => impl_joined.f k fr) (joinB fr) := by
  unfold impl_joined.f
  refine ev_jn (fun k out a => impl_joined.l0 k fr out a) (fun a => ordC (fitB fr a)) (fr.length : Int) (by omega) (fun a => ordC_bd _) id ?_ ?_ ?_ fr.length 0 [] (by omega) (by omega) (by simp)
  · intro a out ha hlt hlo hneg r h
    refine Ev.step (f := fun k => impl_joined.l1 k fr out a (-1) 0) (fun k => ?_) ?_
    · simp only [impl_joined.l0]
      rw [if_pos hlt]
    refine impl_fit fr (by omega) a (by omega) out _ 0 (by omega) r (impl_fit fr (by omega) a (by omega) out _ 1 (by omega) r (impl_fit fr (by omega) a (by omega) out _ 2 (by omega) r (impl_fit fr (by omega) a (by omega) out _ 3 (by omega) r ?_)))
    rw [ordC_up]
    refine Ev.step (fun k => ?_) h
    simp only [impl_joined.l1]
    rw [if_neg (by omega), if_pos hneg, wrap64_id (n := a + 1) (by omega) (by omega)]
  · intro a out ha hlt hlo hpos r h
    have hb := ordC_bd (fitB fr a)
    have hp := pw_pos (ordC (fitB fr a))
    have hp8 := pw_le (ordC (fitB fr a))
    refine Ev.step (f := fun k => impl_joined.l1 k fr out a (-1) 0) (fun k => ?_) ?_
    · simp only [impl_joined.l0]
      rw [if_pos hlt]
    refine impl_fit fr (by omega) a (by omega) out _ 0 (by omega) r (impl_fit fr (by omega) a (by omega) out _ 1 (by omega) r (impl_fit fr (by omega) a (by omega) out _ 2 (by omega) r (impl_fit fr (by omega) a (by omega) out _ 3 (by omega) r ?_)))
    rw [ordC_up]
    refine Ev.step (fun k => ?_) h
    simp only [impl_joined.l1]
    rw [if_neg (by omega), if_neg (by omega), if_pos (by omega), if_pos hpos, shl_eq _ ⟨hpos, hb.2⟩, wrap64_id (n := a + pw (ordC (fitB fr a))) (by omega) (by omega)]
  · intro a out ha
    refine Ev.of_succ (fun k => ?_)
    simp only [impl_joined.l0]
    rw [if_neg (by omega)]
    rfl
/-- Who is free, as a row. -/
def freeR (n : Nat) (l : List Int) : List Bool := (List.range n).map (fun j : Nat => !inB l (j : Int))
theorem freeR_len (n : Nat) (l : List Int) : (freeR n l).length = n := by simp [freeR]
theorem freeR_at (n : Nat) (l : List Int) (j : Nat) (h : j < n) : (freeR n l)[j]? = some (!inB l (j : Int)) := by simp [freeR, h]
theorem freeR_set (n : Nat) (l : List Int) (x : Int) (hx : 0 ≤ x) : (freeR n l).set x.toNat false = freeR n (l ++ [x]) := by
  apply List.ext_getElem?
  intro j
  by_cases hj : j < n
  · rw [List.getElem?_set, freeR_at n l j hj, freeR_at n (l ++ [x]) j hj, freeR_len]
    unfold inB
    rw [List.any_append]
    by_cases e : x.toNat = j
    · rw [if_pos e, if_pos (by omega)]
      have : x = (j : Int) := by omega
      simp [this]
    · rw [if_neg e]
      have : ¬ x = (j : Int) := by omega
      simp [this]
  · rw [List.getElem?_eq_none (by rw [List.length_set, freeR_len]; omega), List.getElem?_eq_none (by rw [freeR_len]; omega)]
theorem fit_clear (n : Int) (hn : n ≤ 32) (hn8 : n % 8 = 0) (l : List Int) (a : Int) (ha : 0 ≤ a) (han : a < n) (o : Int) : fitB (freeR n.toNat l) a o = clearB l a o := by
  unfold fitB clearB
  have hp := pw_pos o
  rw [freeR_len]
  by_cases hm : a % pw o = 0
  · have hle : a + pw o ≤ n := by
      have : pw o = 1 ∨ pw o = 2 ∨ pw o = 4 ∨ pw o = 8 := by unfold pw; repeat' split <;> omega
      rcases this with e | e | e | e <;> rw [e] at hm ⊢ <;> omega
    rw [decide_eq_true hm, decide_eq_true (show a + pw o ≤ (n.toNat : Int) by omega), Bool.true_and, Bool.true_and, Bool.and_true]
    have e : ((freeR n.toNat l).take (a + pw o).toNat).drop a.toNat = (List.range (pw o).toNat).map (fun j : Nat => !inB l (a + (j : Int))) := by
      apply List.ext_getElem?
      intro j
      by_cases hj : j < (pw o).toNat
      · rw [List.getElem?_drop, List.getElem?_take_of_lt (by omega), freeR_at _ _ _ (by omega)]
        simp only [List.getElem?_map, List.getElem?_range hj, Option.map_some]
        rw [show ((a.toNat + j : Nat) : Int) = a + (j : Int) by omega]
      · rw [List.getElem?_eq_none (by rw [List.length_drop, List.length_take, freeR_len]; omega), List.getElem?_eq_none (by simp; omega)]
    rw [e, List.any_map, List.all_eq_not_any_not]
    congr 1
    apply List.any_congr rfl
    intro x
    simp
  · rw [decide_eq_false hm]; simp
theorem joinB_free (n : Int) (h : sizeB n = true) (l : List Int) : joinB (freeR n.toNat l) = runsOf n l := by
  obtain ⟨h1, h2, h3⟩ := sizeB_bd h
  unfold joinB runsOf
  rw [freeR_len, show ((n.toNat : Nat) : Int) = n by omega]
  refine jn_congr _ _ n (fun a ha han => ?_) _ _ _ (by omega)
  unfold ordC
  rw [fit_clear n h2 h3 l a ha han, fit_clear n h2 h3 l a ha han, fit_clear n h2 h3 l a ha han, fit_clear n h2 h3 l a ha han]
def setAll (l : List Int) (acc : List Bool) : List Bool := l.foldl (fun s x => s.set x.toNat false) acc
theorem setAll_len (l : List Int) (acc : List Bool) : (setAll l acc).length = acc.length := by
  unfold setAll
  induction l generalizing acc with
  | nil => rfl
  | cons x l ih => rw [List.foldl_cons, ih, List.length_set]
theorem setAll_succ (l : List Int) (acc : List Bool) (i : Nat) (h : i < l.length) : setAll (l.take (i + 1)) acc = (setAll (l.take i) acc).set (l.getD i 0).toNat false := by
  unfold setAll
  rw [List.take_succ_eq_append_getElem h, List.foldl_append]
  simp [List.getD_eq_getElem?_getD, List.getElem?_eq_getElem h]
theorem setAll_free (n : Nat) (l l' : List Int) (h : ∀ x ∈ l, 0 ≤ x) : setAll l (freeR n l') = freeR n (l' ++ l) := by
  induction l generalizing l' with
  | nil => rw [List.append_nil]; rfl
  | cons x l ih =>
    have := ih (l' ++ [x]) (fun y hy => h y (List.mem_cons_of_mem _ hy))
    rw [List.append_assoc] at this
    rw [show l' ++ x :: l = l' ++ ([x] ++ l) from rfl, ← this, ← freeR_set n l' x (h x List.mem_cons_self)]
    rfl
theorem impl_AllRuns_ev (n : Int) (l : List Int) (hl : l.length ≤ 1048576) : Ev (fun k => impl_AllRuns.f k n l) (if sizeB n = true ∧ takenB n l = true then (runsOf n l, true) else ([], false)) := by
  unfold impl_AllRuns.f
  rw [isSize_eq]
  simp only [Option.bind_some]
  by_cases hs : sizeB n = true
  · obtain ⟨hn1, hn2, hn3⟩ := sizeB_bd hs
    simp only [hs, if_true, if_pos (show 0 ≤ n by omega), if_pos (show n.toNat ≤ 281474976710656 by omega), Option.bind_some, true_and, List.length_replicate]
    have hw : wrap64 (n - 1) = n - 1 := wrap64_id (by omega) (by omega)
    have key := ev_copy0 (fun k acc i => impl_AllRuns.l0 k n l acc (n.toNat : Int) (i : Int)) n.toNat (fun _ => true) (fun acc => if takenB n l = true then (joinB (setAll l acc), true) else ([], false)) (by
      intro i acc hi ha r h
      refine Ev.step (fun k => ?_) h
      simp only [impl_AllRuns.l0]
      rw [if_pos (by omega), if_pos (by omega), if_pos (by omega), wrap_succ (by omega), toNat_cast]) (by
      intro acc hacc
      refine Ev.step (f := fun k => impl_AllRuns.l1 k n acc l (l.length : Int) 0) (fun k => ?_) ?_
      · simp only [impl_AllRuns.l0]
        rw [if_neg (by omega)]
      · have key := ev_all0 (fun k i => impl_AllRuns.l1 k n (setAll (l.take i) acc) l (l.length : Int) (i : Int)) l.length (fun i => decide (0 ≤ l.getD i 0 ∧ l.getD i 0 ≤ n - 1)) ([], false) (joinB (setAll l acc), true) (by
          intro i hi hb r h
          rw [setAll_succ l acc i hi] at h
          refine Ev.step (fun k => ?_) h
          simp only [decide_eq_true_eq] at hb
          simp only [impl_AllRuns.l1]
          rw [if_pos (by omega), if_pos (by omega), if_pos (by omega), within_eq, hw]
          unfold rd
          rw [toNat_cast]
          simp only [Option.bind_some]
          rw [if_pos (by simpa using hb), if_pos hb.1, if_pos (by rw [setAll_len]; omega), wrap_succ (by omega)]) (by
          intro i hi hb
          refine Ev.of_succ (fun k => ?_)
          simp only [impl_AllRuns.l1]
          rw [if_pos (by omega), if_pos (by omega), if_pos (by omega), within_eq, hw]
          unfold rd
          rw [toNat_cast, hb]
          rfl) (by
          refine Ev.step (f := fun k => (impl_joined.f k (setAll l acc)).bind fun t147 => (some (t147, true))) (fun k => ?_) ?_
          · simp only [impl_AllRuns.l1]
            rw [if_neg (by omega), List.take_length]
          · exact Ev.bind (joined_ev _ (by rw [setAll_len]; omega)) (Ev.now _))
        rw [takenB_all] at key
        exact key) (List.replicate n.toNat false) (by simp)
    have e0 : (List.range n.toNat).map (fun _ : Nat => true) = freeR n.toNat [] := by
      unfold freeR inB
      simp
    rw [e0] at key
    by_cases ht : takenB n l = true
    · simp only [ht, if_true] at key ⊢
      rw [setAll_free n.toNat l [] (fun x hx => by unfold takenB at ht; have := List.all_eq_true.1 ht x hx; simp only [decide_eq_true_eq] at this; exact this.1), List.nil_append, joinB_free n hs] at key
      exact key
    · simp only [ht] at key ⊢
      exact key
  · rw [if_neg (fun h => hs h.1), show sizeB n = false by simpa using hs]
    exact Ev.now _
theorem jn_len (N : Int → Int) (n : Int) : ∀ f a out, (jn N n f a out).length ≤ out.length + f := by
  intro f
  induction f with
  | zero => intro a out; simp [jn]
  | succ f ih =>
    intro a out
    unfold jn
    split
    · split
      · have := ih (a + 1) out; omega
      · have := ih (a + pw (N a)) (out ++ [⟨a, N a⟩]); simp only [List.length_append, List.length_cons, List.length_nil] at this; omega
    · omega
/-! The runs of what is not taken are right, cover what is not taken, and are as great as can be. -/
theorem clearB_iff (l : List Int) (a o : Int) : clearB l a o = true ↔ (∀ x, a ≤ x → x < a + pw o → inB l x = false) ∧ a % pw o = 0 := by
  unfold clearB
  rw [Bool.and_eq_true, List.all_eq_true, decide_eq_true_eq]
  have hp := pw_pos o
  constructor
  · rintro ⟨h1, h2⟩
    refine ⟨fun x hx hx2 => ?_, h2⟩
    have := h1 (x - a).toNat (List.mem_range.2 (by omega))
    rw [show a + ((x - a).toNat : Int) = x by omega] at this
    simpa using this
  · rintro ⟨h1, h2⟩
    refine ⟨fun j hj => ?_, h2⟩
    have hj := List.mem_range.1 hj
    rw [h1 (a + (j : Int)) (by omega) (by omega)]; rfl
theorem ordC_max (C : Int → Bool) (o : Int) (ho : 0 ≤ o ∧ o ≤ 3) (h : C o = true) : o ≤ ordC C := by
  unfold ordC
  have hc : o = 0 ∨ o = 1 ∨ o = 2 ∨ o = 3 := by omega
  rcases hc with rfl | rfl | rfl | rfl
  · rw [if_pos h]; repeat' split <;> omega
  · rw [if_pos h]; repeat' split <;> omega
  · rw [if_pos h]; repeat' split <;> omega
  · rw [if_pos h]; omega
theorem ordC_is (C : Int → Bool) (h : 0 ≤ ordC C) : C (ordC C) = true := by
  unfold ordC at h ⊢
  split
  · assumption
  · rename_i h3
    rw [if_neg h3] at h
    split
    · assumption
    · rename_i h2
      rw [if_neg h2] at h
      split
      · assumption
      · rename_i h1
        rw [if_neg h1] at h
        split
        · assumption
        · rename_i h0
          rw [if_neg h0] at h
          omega
theorem pw_cases {o : Int} (ho : 0 ≤ o ∧ o ≤ 3) : (o = 0 ∧ pw o = 1) ∨ (o = 1 ∧ pw o = 2) ∨ (o = 2 ∧ pw o = 4) ∨ (o = 3 ∧ pw o = 8) := by
  have hc : o = 0 ∨ o = 1 ∨ o = 2 ∨ o = 3 := by omega
  rcases hc with rfl | rfl | rfl | rfl
  · exact Or.inl ⟨rfl, rfl⟩
  · exact Or.inr (Or.inl ⟨rfl, rfl⟩)
  · exact Or.inr (Or.inr (Or.inl ⟨rfl, rfl⟩))
  · exact Or.inr (Or.inr (Or.inr ⟨rfl, rfl⟩))
theorem jn_out (N : Int → Int) (n : Int) : ∀ f a out, jn N n f a out = out ++ jn N n f a [] := by
  intro f
  induction f with
  | zero => intro a out; simp [jn]
  | succ f ih =>
    intro a out
    unfold jn
    split
    · split
      · exact ih _ _
      · have e1 := ih (a + pw (N a)) (out ++ [(⟨a, N a⟩ : RunW)])
        have e2 := ih (a + pw (N a)) ([] ++ [(⟨a, N a⟩ : RunW)])
        rw [List.append_assoc] at e1
        rw [List.nil_append] at e2
        exact e1.trans (congrArg (out ++ ·) e2.symm)
    · simp
/-- No whole block that begins before a reaches over a. -/
def NoOver (l : List Int) (a : Int) : Prop := ∀ c p : Int, 0 ≤ p ∧ p ≤ 3 → c < a → a < c + pw p → clearB l c p = false
theorem noOver_skip {l : List Int} {a : Int} (h : NoOver l a) (hN : ordC (clearB l a) < 0) : NoOver l (a + 1) ∧ inB l a = true := by
  have ht : inB l a = true := by
    by_cases hf : inB l a = true
    · exact hf
    · exfalso
      have := ordC_max (clearB l a) 0 (by omega) ((clearB_iff l a 0).2 ⟨fun x h1 h2 => by
        have : pw 0 = 1 := rfl
        obtain rfl : x = a := by omega
        simpa using hf, by show a % 1 = 0; omega⟩)
      omega
  refine ⟨fun c p hp hc ha => ?_, ht⟩
  by_cases hca : c < a
  · exact h c p hp hca (by omega)
  · obtain rfl : c = a := by omega
    by_cases hcl : clearB l c p = true
    · have := ((clearB_iff l c p).1 hcl).1 c (by omega) (by have := pw_pos p; omega)
      rw [this] at ht; cases ht
    · simpa using hcl
theorem noOver_take {l : List Int} {a : Int} (h : NoOver l a) (hN : 0 ≤ ordC (clearB l a)) : NoOver l (a + pw (ordC (clearB l a))) := by
  intro c p hp hc ha
  have hb := ordC_bd (clearB l a)
  have hcl := (clearB_iff l a _).1 (ordC_is _ hN)
  by_cases hx : clearB l c p = true
  · exfalso
    have hcp := ((clearB_iff l c p).1 hx).2
    have hpp := pw_pos p
    by_cases hca : c < a
    · have := h c p hp hca (by have := pw_pos (ordC (clearB l a)); omega)
      rw [this] at hx; cases hx
    · by_cases hce : c = a
      · subst hce
        have hm := ordC_max _ p hp hx
        generalize ordC (clearB l c) = o at *
        rcases pw_cases (o := o) (by omega) with ⟨e1, e2⟩ | ⟨e1, e2⟩ | ⟨e1, e2⟩ | ⟨e1, e2⟩ <;> rcases pw_cases hp with ⟨e3, e4⟩ | ⟨e3, e4⟩ | ⟨e3, e4⟩ | ⟨e3, e4⟩ <;> omega
      · have h2 := hcl.2
        generalize ordC (clearB l a) = o at *
        rcases pw_cases (o := o) (by omega) with ⟨e1, e2⟩ | ⟨e1, e2⟩ | ⟨e1, e2⟩ | ⟨e1, e2⟩ <;> rcases pw_cases hp with ⟨e3, e4⟩ | ⟨e3, e4⟩ | ⟨e3, e4⟩ | ⟨e3, e4⟩ <;> rw [e2] at h2 ha hc <;> rw [e4] at hcp ha <;> omega
  · simpa using hx
theorem take_end {n : Int} (hn8 : n % 8 = 0) {l : List Int} {a : Int} (ha : a < n) (hN : 0 ≤ ordC (clearB l a)) : a + pw (ordC (clearB l a)) ≤ n := by
  have hb := ordC_bd (clearB l a)
  have h2 := ((clearB_iff l a _).1 (ordC_is _ hN)).2
  generalize ordC (clearB l a) = o at *
  rcases pw_cases (o := o) (by omega) with ⟨e1, e2⟩ | ⟨e1, e2⟩ | ⟨e1, e2⟩ | ⟨e1, e2⟩ <;> rw [e2] at h2 ⊢ <;> omega
/-- A row of right runs behind p. -/
def RightFrom (n : Int) : Option RunW → List RunW → Prop
  | _, [] => True
  | p, r :: l => oneB n r = true ∧ (∀ q, p = some q → q.f0 + pw q.f1 ≤ r.f0 ∧ broB q r = false) ∧ RightFrom n (some r) l
theorem rightFrom_at {n : Int} : ∀ (l : List RunW) (p : Option RunW), RightFrom n p l → ∀ i, i < l.length → oneB n (runAt l i) = true ∧ (0 < i → (runAt l (i - 1)).f0 + pw (runAt l (i - 1)).f1 ≤ (runAt l i).f0 ∧ broB (runAt l (i - 1)) (runAt l i) = false) := by
  intro l
  induction l with
  | nil => intro p _ i hi; simp at hi
  | cons r l ih =>
    intro p h i hi
    obtain ⟨h1, h2, h3⟩ := h
    cases i with
    | zero => exact ⟨h1, fun h => by omega⟩
    | succ i =>
      simp only [List.length_cons] at hi
      have hr : runAt (r :: l) (i + 1) = runAt l i := rfl
      obtain ⟨h4, h5⟩ := ih (some r) h3 i (by omega)
      refine ⟨by rw [hr]; exact h4, fun _ => ?_⟩
      rw [hr, show i + 1 - 1 = i from rfl]
      cases i with
      | zero =>
        cases l with
        | nil => simp at hi
        | cons s l =>
          obtain ⟨_, h6, _⟩ := h3
          exact h6 r rfl
      | succ i => exact h5 (by omega)
theorem runsB_of {n : Int} (hs : sizeB n = true) {l : List RunW} (h : RightFrom n none l) : runsB n l = true := by
  obtain ⟨hn1, hn2, hn3⟩ := sizeB_bd hs
  unfold runsB
  rw [hs, Bool.true_and, List.all_eq_true]
  intro i hi
  obtain ⟨h1, h2⟩ := rightFrom_at l none h i (List.mem_range.1 hi)
  unfold okAt apB
  by_cases h0 : i = 0
  · subst h0; simp [h1]
  · obtain ⟨h3, h4⟩ := h2 (by omega)
    obtain ⟨_, hq, _⟩ := oneB_bd (rightFrom_at l none h (i - 1) (by have := List.mem_range.1 hi; omega)).1
    rw [wrap_size ⟨hn1, hn2⟩] at hq
    have hp := pw_pos (runAt l (i - 1)).f1
    have hp8 := pw_le (runAt l (i - 1)).f1
    rw [h1, h4, wrap64_id (by omega) (by omega), decide_eq_true h3]
    simp
theorem jn_right {n : Int} (hs : sizeB n = true) (l : List Int) : ∀ (f : Nat) (a : Int) (p : Option RunW), 0 ≤ a → NoOver l a →
    (∀ q, p = some q → q.f0 + pw q.f1 ≤ a ∧ 0 ≤ q.f1 ∧ q.f1 ≤ 3 ∧ (∀ x, q.f0 ≤ x → x < q.f0 + pw q.f1 → inB l x = false) ∧ (q.f1 < 3 → q.f0 % (2 * pw q.f1) = 0 → clearB l q.f0 (q.f1 + 1) = false)) →
    RightFrom n p (jn (fun a => ordC (clearB l a)) n f a []) := by
  obtain ⟨hn1, hn2, hn3⟩ := sizeB_bd hs
  intro f
  induction f with
  | zero => intro a p _ _ _; simp [jn, RightFrom]
  | succ f ih =>
    intro a p ha hno hp
    unfold jn
    by_cases hlt : a < n
    · rw [if_pos hlt]
      by_cases hneg : ordC (clearB l a) < 0
      · rw [if_pos hneg]
        refine ih (a + 1) p (by omega) (noOver_skip hno hneg).1 (fun q hq => ?_)
        obtain ⟨h1, h2⟩ := hp q hq
        exact ⟨by omega, h2⟩
      · rw [if_neg hneg, jn_out]
        have hpos : 0 ≤ ordC (clearB l a) := by omega
        have hb := ordC_bd (clearB l a)
        have hend := take_end hn3 hlt hpos
        have hcl := (clearB_iff l a _).1 (ordC_is _ hpos)
        have hpw := pw_pos (ordC (clearB l a))
        refine ⟨?_, fun q hq => ?_, ?_⟩
        · unfold oneB
          rw [wrap_size ⟨hn1, hn2⟩, decide_eq_true (show 0 ≤ ordC (clearB l a) ∧ ordC (clearB l a) ≤ 3 from ⟨hpos, hb.2⟩), decide_eq_true (show 0 ≤ a ∧ a ≤ n - pw (ordC (clearB l a)) by omega), decide_eq_true hcl.2]
          rfl
        · obtain ⟨h1, h2, h3, h4, h5⟩ := hp q hq
          refine ⟨h1, ?_⟩
          by_cases hbro : broB q ⟨a, ordC (clearB l a)⟩ = true
          · exfalso
            unfold broB at hbro
            simp only [Bool.and_eq_true, decide_eq_true_eq] at hbro
            obtain ⟨⟨⟨b1, b2⟩, b3⟩, b4⟩ := hbro
            have hx := h5 b2 b3
            have hy : clearB l q.f0 (q.f1 + 1) = true := by
              rw [clearB_iff]
              have hpp : pw (q.f1 + 1) = 2 * pw q.f1 := by
                have hc : q.f1 = 0 ∨ q.f1 = 1 ∨ q.f1 = 2 := by omega
                rcases hc with e | e | e <;> rw [e] <;> rfl
              rw [hpp]
              refine ⟨fun x hx1 hx2 => ?_, b3⟩
              by_cases hxa : x < q.f0 + pw q.f1
              · exact h4 x hx1 hxa
              · refine hcl.1 x (by omega) ?_
                rw [← b1]; omega
            rw [hx] at hy; cases hy
          · simpa using hbro
        · refine ih (a + pw (ordC (clearB l a))) (some ⟨a, ordC (clearB l a)⟩) (by omega) (noOver_take hno hpos) (fun q hq => ?_)
          injection hq with hq
          subst hq
          refine ⟨Int.le_refl _, hpos, hb.2, hcl.1, fun h3 hm => ?_⟩
          show clearB l a (ordC (clearB l a) + 1) = false
          by_cases hx : clearB l a (ordC (clearB l a) + 1) = true
          · exfalso
            have := ordC_max (clearB l a) (ordC (clearB l a) + 1) ⟨by omega, by have h3' : ordC (clearB l a) < 3 := h3; omega⟩ hx
            omega
          · simpa using hx
    · rw [if_neg hlt]
      trivial
theorem noOver_zero (l : List Int) : NoOver l 0 := by
  intro c p hp h1 h2
  by_cases hx : clearB l c p = true
  · exfalso
    have hm := ((clearB_iff l c p).1 hx).2
    rcases pw_cases hp with ⟨e3, e4⟩ | ⟨e3, e4⟩ | ⟨e3, e4⟩ | ⟨e3, e4⟩ <;> rw [e4] at hm h2 <;> omega
  · simpa using hx
theorem runsOf_right {n : Int} (hs : sizeB n = true) (l : List Int) : runsB n (runsOf n l) = true :=
  runsB_of hs (jn_right hs l n.toNat 0 none (by omega) (noOver_zero l) (fun q hq => by cases hq))
theorem runsOf_len {n : Int} (hs : sizeB n = true) (l : List Int) : (runsOf n l).length ≤ 32 := by
  have := jn_len (fun a => ordC (clearB l a)) n n.toNat 0 []
  have h3 := sizeB_bd hs
  simp only [List.length_nil] at this
  unfold runsOf
  omega
/-- Who lies in a run. -/
def covB (R : List RunW) (x : Int) : Bool := R.any (fun r => decide (r.f0 ≤ x) && decide (x < r.f0 + pw r.f1))
theorem jn_cov {n : Int} (hn8 : n % 8 = 0) (l : List Int) : ∀ (f : Nat) (a : Int), 0 ≤ a → n ≤ a + f →
    (∀ x, a ≤ x → x < n → covB (jn (fun a => ordC (clearB l a)) n f a []) x = !inB l x) ∧ (∀ r ∈ jn (fun a => ordC (clearB l a)) n f a [], a ≤ r.f0 ∧ r.f0 + pw r.f1 ≤ n ∧ 0 ≤ r.f1 ∧ r.f1 ≤ 3) := by
  intro f
  induction f with
  | zero => intro a ha hf; exact ⟨fun x h1 h2 => by omega, fun r hr => by cases hr⟩
  | succ f ih =>
    intro a ha hf
    unfold jn
    by_cases hlt : a < n
    · rw [if_pos hlt]
      by_cases hneg : ordC (clearB l a) < 0
      · rw [if_pos hneg]
        obtain ⟨h1, h2⟩ := ih (a + 1) (by omega) (by omega)
        refine ⟨fun x hx1 hx2 => ?_, fun r hr => ?_⟩
        · by_cases hxa : x = a
          · subst hxa
            have ht : inB l x = true := by
              by_cases hf : inB l x = true
              · exact hf
              · exfalso
                have := ordC_max (clearB l x) 0 (by omega) ((clearB_iff l x 0).2 ⟨fun y h1 h2 => by
                  have : pw 0 = 1 := rfl
                  obtain rfl : y = x := by omega
                  simpa using hf, by show x % 1 = 0; omega⟩)
                omega
            rw [ht]
            unfold covB
            rw [Bool.not_true, List.any_eq_false]
            intro r hr
            have := (h2 r hr).1
            simp only [Bool.and_eq_true, decide_eq_true_eq, not_and]
            intro _; omega
          · exact h1 x (by omega) hx2
        · have := h2 r hr; exact ⟨by omega, this.2⟩
      · rw [if_neg hneg, jn_out]
        have hpos : 0 ≤ ordC (clearB l a) := by omega
        have hb := ordC_bd (clearB l a)
        have hend := take_end hn8 hlt hpos
        have hcl := (clearB_iff l a _).1 (ordC_is _ hpos)
        have hpw := pw_pos (ordC (clearB l a))
        obtain ⟨h1, h2⟩ := ih (a + pw (ordC (clearB l a))) (by omega) (by omega)
        refine ⟨fun x hx1 hx2 => ?_, fun r hr => ?_⟩
        · have e : covB (([] ++ [(⟨a, ordC (clearB l a)⟩ : RunW)]) ++ jn (fun a => ordC (clearB l a)) n f (a + pw (ordC (clearB l a))) []) x = ((decide (a ≤ x) && decide (x < a + pw (ordC (clearB l a)))) || covB (jn (fun a => ordC (clearB l a)) n f (a + pw (ordC (clearB l a))) []) x) := rfl
          rw [e]
          by_cases hxa : x < a + pw (ordC (clearB l a))
          · rw [decide_eq_true hx1, decide_eq_true hxa, hcl.1 x hx1 hxa]; rfl
          · rw [decide_eq_false hxa, Bool.and_false, Bool.false_or]
            exact h1 x (by omega) hx2
        · rcases List.mem_append.1 hr with hr | hr
          · simp only [List.nil_append, List.mem_singleton] at hr
            subst hr
            exact ⟨Int.le_refl _, hend, hpos, hb.2⟩
          · have := h2 r hr; exact ⟨by omega, this.2⟩
    · rw [if_neg hlt]
      exact ⟨fun x h1 h2 => by omega, fun r hr => by cases hr⟩
theorem runsOf_cov {n : Int} (hs : sizeB n = true) (l : List Int) : (∀ x, 0 ≤ x → x < n → covB (runsOf n l) x = !inB l x) ∧ (∀ r ∈ runsOf n l, 0 ≤ r.f0 ∧ r.f0 + pw r.f1 ≤ n ∧ 0 ≤ r.f1 ∧ r.f1 ≤ 3) :=
  jn_cov (sizeB_bd hs).2.2 l n.toNat 0 (by omega) (by omega)
theorem jn_great {n : Int} (l : List Int) : ∀ (f : Nat) (a : Int), n ≤ a + f → NoOver l a → ∀ c p : Int, 0 ≤ p ∧ p ≤ 3 → a ≤ c → c < n → clearB l c p = true →
    ∃ r ∈ jn (fun a => ordC (clearB l a)) n f a [], r.f0 ≤ c ∧ c + pw p ≤ r.f0 + pw r.f1 := by
  intro f
  induction f with
  | zero => intro a hf _ c p _ h1 h2; omega
  | succ f ih =>
    intro a hf hno c p hp hac hcn hcl
    unfold jn
    rw [if_pos (show a < n by omega)]
    have hpp := pw_pos p
    by_cases hneg : ordC (clearB l a) < 0
    · rw [if_pos hneg]
      obtain ⟨h1, h2⟩ := noOver_skip hno hneg
      refine ih (a + 1) (by omega) h1 c p hp ?_ hcn hcl
      by_cases hca : c = a
      · subst hca
        rw [((clearB_iff l c p).1 hcl).1 c (by omega) (by omega)] at h2; cases h2
      · omega
    · rw [if_neg hneg, jn_out]
      have hpos : 0 ≤ ordC (clearB l a) := by omega
      have hb := ordC_bd (clearB l a)
      have hpw := pw_pos (ordC (clearB l a))
      by_cases hfar : a + pw (ordC (clearB l a)) ≤ c
      · obtain ⟨r, hr, h1⟩ := ih (a + pw (ordC (clearB l a))) (by omega) (noOver_take hno hpos) c p hp hfar hcn hcl
        exact ⟨r, List.mem_append_right _ hr, h1⟩
      · refine ⟨⟨a, ordC (clearB l a)⟩, List.mem_append_left _ (by simp), hac, ?_⟩
        show c + pw p ≤ a + pw (ordC (clearB l a))
        have h2 := ((clearB_iff l a _).1 (ordC_is _ hpos)).2
        have hcp := ((clearB_iff l c p).1 hcl).2
        have hm : c = a → p ≤ ordC (clearB l a) := fun e => by subst e; exact ordC_max _ p hp hcl
        generalize ordC (clearB l a) = o at *
        rcases pw_cases (o := o) (by omega) with ⟨e1, e2⟩ | ⟨e1, e2⟩ | ⟨e1, e2⟩ | ⟨e1, e2⟩ <;> rcases pw_cases hp with ⟨e3, e4⟩ | ⟨e3, e4⟩ | ⟨e3, e4⟩ | ⟨e3, e4⟩ <;> rw [e2] at h2 hfar ⊢ <;> rw [e4] at hcp ⊢ <;> omega
theorem runsOf_great {n : Int} (l : List Int) (c p : Int) (hp : 0 ≤ p ∧ p ≤ 3) (h0 : 0 ≤ c) (hcn : c < n) (hcl : clearB l c p = true) : ∃ r ∈ runsOf n l, r.f0 ≤ c ∧ c + pw p ≤ r.f0 + pw r.f1 :=
  jn_great l n.toNat 0 (by omega) (noOver_zero l) c p hp h0 hcn hcl
theorem runF_in (r : RunW) (x : Int) : inB (runF r) x = (decide (r.f0 ≤ x) && decide (x < r.f0 + pw r.f1)) := by
  have hp := pw_pos r.f1
  rw [Bool.eq_iff_iff]
  unfold inB runF
  rw [List.any_eq_true]
  simp only [List.mem_map, List.mem_range, decide_eq_true_eq, Bool.and_eq_true]
  constructor
  · rintro ⟨y, ⟨j, hj, rfl⟩, rfl⟩; omega
  · rintro ⟨h1, h2⟩
    exact ⟨x, ⟨(x - r.f0).toNat, by omega, by omega⟩, rfl⟩
theorem framesB_in (R : List RunW) (x : Int) : inB (framesB R) x = covB R x := by
  have : ∀ (R : List RunW) (s : List Int), inB (R.foldl (fun s r => s ++ runF r) s) x = (inB s x || covB R x) := by
    intro R
    induction R with
    | nil => intro s; simp [covB]
    | cons r R ih =>
      intro s
      rw [List.foldl_cons, ih]
      have e1 : inB (s ++ runF r) x = (inB s x || inB (runF r) x) := by unfold inB; rw [List.any_append]
      have e2 : covB (r :: R) x = ((decide (r.f0 ≤ x) && decide (x < r.f0 + pw r.f1)) || covB R x) := rfl
      rw [e1, e2, runF_in, Bool.or_assoc]
  have h := this R []
  unfold framesB
  rw [h]; rfl
theorem clearB_congr {n : Int} (hn8 : n % 8 = 0) (l l' : List Int) (h : ∀ x, 0 ≤ x → x < n → inB l x = inB l' x) (a o : Int) (ha : 0 ≤ a) (han : a < n) (ho : 0 ≤ o ∧ o ≤ 3) : clearB l a o = clearB l' a o := by
  have hp := pw_pos o
  have key : ∀ l l' : List Int, (∀ x, 0 ≤ x → x < n → inB l x = inB l' x) → clearB l a o = true → clearB l' a o = true := by
    intro l l' h hc
    obtain ⟨h1, h2⟩ := (clearB_iff l a o).1 hc
    refine (clearB_iff l' a o).2 ⟨fun x hx1 hx2 => ?_, h2⟩
    have hx3 : x < n := by
      rcases pw_cases ho with ⟨e3, e4⟩ | ⟨e3, e4⟩ | ⟨e3, e4⟩ | ⟨e3, e4⟩ <;> rw [e4] at h2 hx2 <;> omega
    rw [← h x (by omega) hx3]
    exact h1 x hx1 hx2
  rw [Bool.eq_iff_iff]
  exact ⟨key l l' h, key l' l (fun x a b => (h x a b).symm)⟩
theorem runsOf_congr {n : Int} (hs : sizeB n = true) (l l' : List Int) (h : ∀ x, 0 ≤ x → x < n → inB l x = inB l' x) : runsOf n l = runsOf n l' := by
  obtain ⟨hn1, hn2, hn3⟩ := sizeB_bd hs
  unfold runsOf
  refine jn_congr _ _ n (fun a ha han => ?_) _ _ _ (by omega)
  unfold ordC
  rw [clearB_congr hn3 l l' h a 3 ha han (by omega), clearB_congr hn3 l l' h a 2 ha han (by omega), clearB_congr hn3 l l' h a 1 ha han (by omega), clearB_congr hn3 l l' h a 0 ha han (by omega)]
theorem l01New_ends (l : List Int) (hl : l.length ≤ 9223372036854775806) : ∃ h, Ev (fun k => spec_l01New.f k l) (l, 0, h) := by
  have key : ∀ (d i : Nat) (h : Int), i + d = l.length → ∃ h', Ev (fun k => spec_l01New.l0 k l h (i : Int)) (l, 0, h') := by
    intro d
    induction d with
    | zero =>
      intro i h hi
      refine ⟨h, 1, fun n hn => ?_⟩
      obtain ⟨m, rfl⟩ : ∃ m, n = m + 1 := ⟨n - 1, by omega⟩
      show spec_l01New.l0 (m + 1) _ _ _ = _
      simp only [spec_l01New.l0]
      rw [if_neg (by omega)]
    | succ d ih =>
      intro i h hi
      by_cases h4 : (i : Int) < 4000
      · obtain ⟨h', he⟩ := ih (i + 1) (Go.bits .and .i64 (wrap64 ((wrap64 ((wrap64 (h * 131)) + (wrap64 (rd l (i : Int))))) + 7)) 1073741823) (by omega)
        refine ⟨h', Ev.step (fun k => ?_) he⟩
        show spec_l01New.l0 (k + 1) _ _ _ = _
        simp only [spec_l01New.l0]
        rw [if_pos (by omega), if_pos h4, if_pos (by omega), show wrap64 ((i : Int) + 1) = ((i + 1 : Nat) : Int) from by unfold wrap64; omega]
      · refine ⟨h, 1, fun n hn => ?_⟩
        obtain ⟨m, rfl⟩ : ∃ m, n = m + 1 := ⟨n - 1, by omega⟩
        show spec_l01New.l0 (m + 1) _ _ _ = _
        simp only [spec_l01New.l0]
        rw [if_pos (by omega), if_neg h4]
  obtain ⟨h', he⟩ := key l.length 0 (wrap64 (10901 + (l.length : Int))) (by omega)
  exact ⟨h', he⟩
theorem l01Byte_ends (l : List Int) (hl : l.length ≤ 9223372036854775806) (i h : Int) (h0 : 0 ≤ i) (h1 : i ≤ l.length) :
    ∃ x i' h', spec_l01Byte.f l i h = some (x, i', h') ∧ 0 ≤ x ∧ x < 256 ∧ 0 ≤ i' ∧ i' ≤ l.length := by
  unfold spec_l01Byte.f
  by_cases hi : i < (l.length : Int)
  · rw [if_pos hi, if_pos h0]
    refine ⟨_, _, _, rfl, ?_, ?_, ?_, ?_⟩
    · rw [and255]; omega
    · rw [and255]; omega
    · rw [wrap64_id (by omega) (by omega)]; omega
    · rw [wrap64_id (by omega) (by omega)]; omega
  · rw [if_neg hi]
    refine ⟨_, _, _, rfl, ?_, ?_, h0, h1⟩
    · rw [and255]; omega
    · rw [and255]; omega
theorem l01Below_ends (l : List Int) (hl : l.length ≤ 9223372036854775806) (i h n : Int) (h0 : 0 ≤ i) (h1 : i ≤ l.length) :
    ∃ x i' h', spec_l01Below.f l i h n = some (x, i', h') ∧ 0 ≤ x ∧ (0 < n → x < n) ∧ (n ≤ 0 → x = 0) ∧ 0 ≤ i' ∧ i' ≤ l.length := by
  unfold spec_l01Below.f
  by_cases hn : n ≤ 0
  · rw [if_pos hn]
    exact ⟨_, _, _, rfl, by omega, by omega, fun _ => rfl, h0, h1⟩
  · rw [if_neg hn]
    obtain ⟨x, i1, g1, e1, a1, b1, c1, d1⟩ := l01Byte_ends l hl i h h0 h1
    by_cases h256 : n ≤ 256
    · rw [if_pos h256, e1]
      simp only [Option.bind_some]
      rw [if_neg (by omega)]
      refine ⟨_, _, _, rfl, ?_, ?_, by omega, c1, d1⟩
      · rw [tmod_nonneg a1 (by omega)]; exact Int.emod_nonneg _ (by omega)
      · intro hp; rw [tmod_nonneg a1 (by omega)]; exact Int.emod_lt_of_pos _ hp
    · rw [if_neg h256, e1]
      simp only [Option.bind_some]
      obtain ⟨y, i2, g2, e2, a2, b2, c2, d2⟩ := l01Byte_ends l hl i1 g1 c1 d1
      rw [e2]; simp only [Option.bind_some]
      obtain ⟨z, i3, g3, e3, a3, b3, c3, d3⟩ := l01Byte_ends l hl i2 g2 c2 d2
      rw [e3]; simp only [Option.bind_some]
      obtain ⟨t, i4, g4, e4, a4, b4, c4, d4⟩ := l01Byte_ends l hl i3 g3 c3 d3
      rw [e4]; simp only [Option.bind_some]
      rw [if_neg (by omega)]
      have hnn : 0 ≤ wrap64 ((wrap64 ((wrap64 ((wrap64 (x * 16777216)) + (wrap64 (y * 65536)))) + (wrap64 (z * 256)))) + t) := by unfold wrap64; omega
      refine ⟨_, _, _, rfl, ?_, ?_, by omega, c4, d4⟩
      · rw [tmod_nonneg hnn (by omega)]; exact Int.emod_nonneg _ (by omega)
      · intro hp; rw [tmod_nonneg hnn (by omega)]; exact Int.emod_lt_of_pos _ hp
theorem rr_once_ends (l : List Int) (hl : l.length ≤ 9223372036854775806) (i h n : Int) (h0 : 0 ≤ i) (h1 : i ≤ l.length) :
    ∃ b i' h', spec_l01Once.f l i h n = some (b, i', h') ∧ 0 ≤ i' ∧ i' ≤ l.length := by
  obtain ⟨x, i1, g1, e1, a1, b1, _, c1, d1⟩ := l01Below_ends l hl i h n h0 h1
  unfold spec_l01Once.f
  rw [e1]
  exact ⟨_, _, _, rfl, c1, d1⟩
theorem taken_ends (l : List Int) (hl : l.length ≤ 9223372036854775806) (n : Int) (hn : n ≤ 32) (i h : Int) (h0 : 0 ≤ i) (h1 : i ≤ l.length) :
    ∃ T i' h', Ev (fun k => spec_l03Taken.f k l i h n) (T, i', h') ∧ T.length ≤ 32 ∧ takenB n T = true := by
  obtain ⟨x, i1, g1, e1, a1, b1, _, c1, d1⟩ := l01Below_ends l hl i h 5 h0 h1
  have key : ∀ (d : Nat) (a : Int) (m : Int) (acc : List Int) (j g : Int), n ≤ a + d → 0 ≤ a → a ≤ 100 → (acc.length : Int) ≤ a → (∀ y ∈ acc, 0 ≤ y ∧ y ≤ n - 1) → (acc.length ≤ 32) → 0 ≤ j → j ≤ l.length →
      ∃ T i' h', Ev (fun k => spec_l03Taken.l0 k n acc m a l j g) (T, i', h') ∧ T.length ≤ 32 ∧ ∀ y ∈ T, 0 ≤ y ∧ y ≤ n - 1 := by
    intro d
    induction d with
    | zero =>
      intro a m acc j g hd ha _ _ hy hl32 _ _
      refine ⟨acc, j, g, Ev.of_succ (fun k => ?_), hl32, hy⟩
      simp only [spec_l03Taken.l0]
      rw [if_neg (by omega)]
    | succ d ih =>
      intro a m acc j g hd ha ha2 hlen hy hl32 hj0 hj1
      by_cases hlt : a < n
      · obtain ⟨b, i2, g2, e2, c2, d2⟩ := rr_once_ends l hl j g m hj0 hj1
        have hw : wrap64 (a + 1) = a + 1 := wrap64_id (by omega) (by omega)
        cases b with
        | true =>
          obtain ⟨T, i', h', hT, hx⟩ := ih (a + 1) m (acc ++ [a]) i2 g2 (by omega) (by omega) (by omega) (by simp only [List.length_append, List.length_cons, List.length_nil]; omega) (by
            intro y hm
            rcases List.mem_append.1 hm with hm | hm
            · exact hy y hm
            · rw [List.mem_singleton] at hm
              subst hm
              omega) (by simp only [List.length_append, List.length_cons, List.length_nil]; omega) c2 d2
          refine ⟨T, i', h', Ev.step (fun k => ?_) hT, hx⟩
          simp only [spec_l03Taken.l0]
          rw [if_pos hlt, e2]
          simp only [Option.bind_some, if_true]
          rw [if_pos (by omega), hw]
        | false =>
          obtain ⟨T, i', h', hT, hx⟩ := ih (a + 1) m acc i2 g2 (by omega) (by omega) (by omega) (by omega) hy hl32 c2 d2
          refine ⟨T, i', h', Ev.step (fun k => ?_) hT, hx⟩
          simp only [spec_l03Taken.l0]
          rw [if_pos hlt, e2]
          simp only [Option.bind_some, Bool.false_eq_true, if_false]
          rw [hw]
      · refine ⟨acc, j, g, Ev.of_succ (fun k => ?_), hl32, hy⟩
        simp only [spec_l03Taken.l0]
        rw [if_neg hlt]
  obtain ⟨T, i', h', hT, h32, hx⟩ := key n.toNat 0 (wrap64 (1 + x)) [] i1 g1 (by omega) (by omega) (by omega) (by simp) (by intro y hy; cases hy) (by simp) c1 d1
  refine ⟨T, i', h', ?_, h32, ?_⟩
  · unfold spec_l03Taken.f
    rw [e1]
    exact hT
  · unfold takenB
    rw [List.all_eq_true]
    intro y hy
    exact decide_eq_true (hx y hy)
theorem rightRuns_ends (l : List Int) (hl : l.length ≤ 9223372036854775806) : ∃ n T, sizeB n = true ∧ T.length ≤ 32 ∧ takenB n T = true ∧ Ev (fun k => spec_DrawRightRuns.f k l) (n, runsOf n T) := by
  obtain ⟨g0, e0⟩ := l01New_ends l hl
  obtain ⟨x, i1, g1, e1, a1, b1, _, c1, d1⟩ := l01Below_ends l hl 0 g0 4 (by omega) (by omega)
  have hb := b1 (by omega)
  have hw : wrap64 (8 * (wrap64 (1 + x))) = 8 * (1 + x) := by rw [wrap64_id (n := 1 + x) (by omega) (by omega), wrap64_id (by omega) (by omega)]
  have hs : sizeB (8 * (1 + x)) = true := by unfold sizeB; rw [decide_eq_true (by omega), decide_eq_true (by omega)]; rfl
  obtain ⟨T, i2, g2, hT, h32, ht⟩ := taken_ends l hl (8 * (1 + x)) (by omega) i1 g1 c1 d1
  refine ⟨8 * (1 + x), T, hs, h32, ht, ?_⟩
  unfold spec_DrawRightRuns.f
  refine Ev.bind e0 ?_
  unfold spec_l03Size.f
  rw [e1]
  simp only [Option.bind_some]
  rw [hw]
  refine Ev.bind hT ?_
  have := spec_AllRuns_ev (8 * (1 + x)) T (by omega)
  rw [if_pos ⟨hs, ht⟩] at this
  exact Ev.bind this (Ev.now _)

theorem within_ev (l : List Int) (hl : l.length ≤ 1048576) (x : Int) : Ev (fun k => laws_within.f k l x) (inB l x) := by
  have key := ev_all0 (fun k i => laws_within.l0 k l x (i : Int)) l.length (fun i => !decide (l.getD i 0 = x)) true false (by
    intro i hi hb r h
    refine Ev.step (fun k => ?_) h
    simp only [Bool.not_eq_true', decide_eq_false_iff_not] at hb
    simp only [laws_within.l0]
    rw [if_pos (by omega), if_pos (by omega), if_neg (by unfold rd; rw [toNat_cast]; exact hb), wrap_succ (by omega)]) (by
    intro i hi hb
    refine Ev.of_succ (fun k => ?_)
    simp only [Bool.not_eq_false', decide_eq_true_eq] at hb
    simp only [laws_within.l0]
    rw [if_pos (by omega), if_pos (by omega), if_pos (by unfold rd; rw [toNat_cast]; exact hb)]) (by
    refine Ev.of_succ (fun k => ?_)
    simp only [laws_within.l0]
    rw [if_neg (by omega)])
  rw [inB_all] at key
  have e : (if (!inB l x) = true then false else true) = inB l x := by cases inB l x <;> rfl
  rw [e] at key
  exact key
theorem sameRuns_refl (l : List RunW) (hl : l.length ≤ 1048576) : Ev (fun k => laws_sameRuns.f k l l) true := by
  have key := ev_yes (fun k i => laws_sameRuns.l0 k l l (i : Int)) l.length (fun _ => true) true (by
    intro i hi _ r h
    refine Ev.step (fun k => ?_) h
    simp only [laws_sameRuns.l0]
    rw [if_pos (by omega), if_pos (by omega), if_pos (by omega), if_neg (by simp), wrap_succ (by omega)]) (by simp) (by
    refine Ev.of_succ (fun k => ?_)
    simp only [laws_sameRuns.l0]
    rw [if_neg (by omega)])
  unfold laws_sameRuns.f
  simp only [if_true]
  exact key
/-- Who is not in the list, from a place on. -/
theorem notIn_ev (n : Int) (hn : n ≤ 32) (R : List RunW) (L : List Int) (hL : L.length ≤ 1048576) (r : Bool)
    (h : ∀ T, T.length ≤ 32 → takenB n T = true → (∀ x, 0 ≤ x → x < n → inB T x = !inB L x) → Ev (fun k => (impl_AllRuns.f k n T).bind fun bt390 => (if bt390.2 = true then ((laws_sameRuns.f k bt390.1 R).bind fun t394 => (laws_FnGreat.j1 k n L bt390.1 (!t394))) else (laws_FnGreat.j1 k n L bt390.1 true))) r) :
    ∀ (d : Nat) (a : Int) (acc : List Int), n ≤ a + d → 0 ≤ a → a ≤ 100 → (acc.length : Int) ≤ a → acc.length ≤ 32 → takenB n acc = true → (∀ x, 0 ≤ x → x < a → x < n → inB acc x = !inB L x) → (∀ x, a ≤ x → inB acc x = false) → Ev (fun k => laws_FnGreat.l0 k n R L acc a) r := by
  have last : ∀ (a : Int) (acc : List Int), ¬ a < n → acc.length ≤ 32 → takenB n acc = true → (∀ x, 0 ≤ x → x < a → x < n → inB acc x = !inB L x) → Ev (fun k => laws_FnGreat.l0 k n R L acc a) r := by
    intro a acc hlt h32 ht hx
    refine Ev.step (fun k => ?_) (h acc h32 ht (fun x h1 h2 => hx x h1 (by omega) h2))
    simp only [laws_FnGreat.l0]
    rw [if_neg hlt]
  intro d
  induction d with
  | zero => intro a acc hd ha _ _ h32 ht hx _; exact last a acc (by omega) h32 ht hx
  | succ d ih =>
    intro a acc hd ha ha2 hlen h32 ht hx hfar
    by_cases hlt : a < n
    · have hw : wrap64 (a + 1) = a + 1 := wrap64_id (by omega) (by omega)
      refine Ev.step (f := fun k => (laws_within.f k L a).bind fun t386 => (if t386 = true then (laws_FnGreat.l0 k n R L acc (a + 1)) else (if acc.length < 17592186044416 then (laws_FnGreat.l0 k n R L (acc ++ [a]) (a + 1)) else (none)))) (fun k => ?_) ?_
      · simp only [laws_FnGreat.l0]
        rw [if_pos hlt, hw]
      refine Ev.bind (within_ev L hL a) ?_
      by_cases hin : inB L a = true
      · simp only [hin, if_true]
        refine ih (a + 1) acc (by omega) (by omega) (by omega) (by omega) h32 ht (fun x h1 h2 h3 => ?_) (fun x h1 => hfar x (by omega))
        by_cases hxa : x < a
        · exact hx x h1 hxa h3
        · obtain rfl : x = a := by omega
          rw [hin, hfar x (by omega)]; rfl
      · have hin' : inB L a = false := by simpa using hin
        simp only [hin', Bool.false_eq_true, if_false, if_pos (show acc.length < 17592186044416 by omega)]
        have eapp : ∀ x, inB (acc ++ [a]) x = (inB acc x || decide (a = x)) := by intro x; unfold inB; rw [List.any_append]; simp
        refine ih (a + 1) (acc ++ [a]) (by omega) (by omega) (by omega) (by simp only [List.length_append, List.length_cons, List.length_nil]; omega) (by simp only [List.length_append, List.length_cons, List.length_nil]; omega) ?_ (fun x h1 h2 h3 => ?_) (fun x h1 => ?_)
        · unfold takenB at ht ⊢
          rw [List.all_append, ht]
          simp; omega
        · rw [eapp]
          by_cases hxa : x < a
          · rw [hx x h1 hxa h3, decide_eq_false (by omega), Bool.or_false]
          · obtain rfl : x = a := by omega
            rw [hin']; simp
        · rw [eapp, hfar x (by omega), decide_eq_false (by omega)]; rfl
    · exact last a acc hlt h32 ht hx
/-- Is a block inside one of the runs? -/
def insB (r : RunW) (c s : Int) : Bool := decide (r.f0 ≤ c) && decide (r.f0 + pw r.f1 ≥ c + s)
theorem l4_ev (n : Int) (L : List Int) (R : List RunW) (hR : R.length ≤ 32) (hRr : ∀ r ∈ R, 0 ≤ r.f0 ∧ r.f0 ≤ 100 ∧ 0 ≤ r.f1 ∧ r.f1 ≤ 3) (o c s : Int) (hc : 0 ≤ c ∧ c ≤ 100) (hs : 0 ≤ s ∧ s ≤ 8) (wh : Bool) (r : Bool)
    (h : Ev (fun k => laws_FnGreat.l2 k n L R o s (c + s)) r) : ∀ (d i : Nat) (b : Bool), i + d = R.length → (wh = true → b = true ∨ ∃ j, i ≤ j ∧ j < R.length ∧ insB (R.getD j zr) c s = true) → Ev (fun k => laws_FnGreat.l4 k n L R o s c wh b (i : Int)) r := by
  have hw : wrap64 (c + s) = c + s := wrap64_id (by omega) (by omega)
  intro d
  induction d with
  | zero =>
    intro i b hi hx
    refine Ev.step (fun k => ?_) h
    simp only [laws_FnGreat.l4]
    rw [if_neg (by omega), hw]
    cases wh with
    | true =>
      rcases hx rfl with hb | ⟨j, h1, h2, _⟩
      · rw [if_pos rfl, if_pos hb]
      · omega
    | false => rw [if_neg (by simp)]
  | succ d ih =>
    intro i b hi hx
    cases b with
    | true =>
      refine Ev.step (fun k => ?_) (ih (i + 1) true (by omega) (fun _ => Or.inl rfl))
      simp only [laws_FnGreat.l4]
      rw [if_pos (by omega), if_pos trivial, wrap_succ (by omega)]
    | false =>
      have hm : R.getD i zr ∈ R := by
        rw [List.getD_eq_getElem?_getD, List.getElem?_eq_getElem (by omega)]
        exact List.getElem_mem (by omega)
      obtain ⟨q1, q2, q3, q4⟩ := hRr _ hm
      have hpw := pw_pos (R.getD i zr).f1
      have hp8 := pw_le (R.getD i zr).f1
      have hstep : Ev (fun k => laws_FnGreat.l4 k n L R o s c wh (insB (R.getD i zr) c s) ((i + 1 : Nat) : Int)) r := by
        refine ih (i + 1) _ (by omega) (fun hwh => ?_)
        rcases hx hwh with hb | ⟨j, h1, h2, h3⟩
        · cases hb
        · by_cases hji : j = i
          · subst hji; exact Or.inl h3
          · exact Or.inr ⟨j, by omega, h2, h3⟩
      refine Ev.step (fun k => ?_) hstep
      simp only [laws_FnGreat.l4]
      rw [if_pos (by omega), if_neg (by simp), if_pos (by omega), rdRW]
      show (if (R.getD i zr).f0 ≤ c then _ else _) = _
      unfold insB
      by_cases h1 : (R.getD i zr).f0 ≤ c
      · rw [if_pos h1, if_pos q3, shl_eq _ ⟨q3, q4⟩, hw, wrap64_id (n := (R.getD i zr).f0 + pw (R.getD i zr).f1) (by omega) (by omega), decide_eq_true h1, Bool.true_and, wrap_succ (by omega)]
      · rw [if_neg h1, decide_eq_false h1, Bool.false_and, wrap_succ (by omega)]
theorem l3_ev (n : Int) (L : List Int) (hL : L.length ≤ 1048576) (R : List RunW) (hR : R.length ≤ 32) (hRr : ∀ r ∈ R, 0 ≤ r.f0 ∧ r.f0 ≤ 100 ∧ 0 ≤ r.f1 ∧ r.f1 ≤ 3) (o c s : Int) (hc : 0 ≤ c ∧ c ≤ 100) (hs : 0 ≤ s ∧ s ≤ 8) (r : Bool)
    (hin : (∀ x, c ≤ x → x < c + s → inB L x = true) → ∃ j, j < R.length ∧ insB (R.getD j zr) c s = true)
    (h : Ev (fun k => laws_FnGreat.l2 k n L R o s (c + s)) r) : ∀ (d : Nat) (i : Int) (b : Bool), i + d = s → 0 ≤ i → (b = true → ∀ x, c ≤ x → x < c + i → inB L x = true) → Ev (fun k => laws_FnGreat.l3 k n L R o s c b i) r := by
  intro d
  induction d with
  | zero =>
    intro i b hi h0 hx
    refine Ev.step (fun k => ?_) (l4_ev n L R hR hRr o c s hc hs b r h R.length 0 false (by omega) (fun hb => Or.inr ?_))
    · simp only [laws_FnGreat.l3]
      rw [if_neg (by omega)]
      rfl
    · obtain ⟨j, h1, h2⟩ := hin (fun x hx1 hx2 => hx hb x hx1 (by omega))
      exact ⟨j, by omega, h1, h2⟩
  | succ d ih =>
    intro i b hi h0 hx
    have hw : wrap64 (i + 1) = i + 1 := wrap64_id (by omega) (by omega)
    cases b with
    | true =>
      refine Ev.step (f := fun k => (laws_within.f k L (c + i)).bind fun t395 => (laws_FnGreat.l3 k n L R o s c t395 (i + 1))) (fun k => ?_) ?_
      · simp only [laws_FnGreat.l3]
        rw [if_pos (by omega), if_pos trivial, hw, wrap64_id (n := c + i) (by omega) (by omega)]
      · refine Ev.bind (within_ev L hL _) (ih (i + 1) _ (by omega) (by omega) (fun hb x hx1 hx2 => ?_))
        by_cases hxi : x < c + i
        · exact hx rfl x hx1 hxi
        · obtain rfl : x = c + i := by omega
          exact hb
    | false =>
      refine Ev.step (fun k => ?_) (ih (i + 1) false (by omega) (by omega) (fun hb => by cases hb))
      simp only [laws_FnGreat.l3]
      rw [if_pos (by omega), if_neg (by simp), hw]
theorem l2_ev (n : Int) (hn : 8 ≤ n ∧ n ≤ 32) (L : List Int) (hL : L.length ≤ 1048576) (R : List RunW) (hR : R.length ≤ 32) (hRr : ∀ r ∈ R, 0 ≤ r.f0 ∧ r.f0 ≤ 100 ∧ 0 ≤ r.f1 ∧ r.f1 ≤ 3) (o : Int) (ho : 0 ≤ o ∧ o ≤ 3) (r : Bool)
    (hin : ∀ c, 0 ≤ c → c < n → c % pw o = 0 → (∀ x, c ≤ x → x < c + pw o → inB L x = true) → ∃ j, j < R.length ∧ insB (R.getD j zr) c (pw o) = true)
    (h : Ev (fun k => laws_FnGreat.l1 k n L R (o + 1)) r) : ∀ (d : Nat) (c : Int), n ≤ c + d → 0 ≤ c → c ≤ 100 → c % pw o = 0 → Ev (fun k => laws_FnGreat.l2 k n L R o (pw o) c) r := by
  have hp := pw_pos o
  have hp8 := pw_le o
  intro d
  induction d with
  | zero =>
    intro c hd h0 _ hm
    refine Ev.step (fun k => ?_) h
    simp only [laws_FnGreat.l2]
    rw [if_neg (by omega), wrap64_id (n := o + 1) (by omega) (by omega)]
  | succ d ih =>
    intro c hd h0 h100 hm
    by_cases hlt : c < n
    · refine Ev.step (fun k => ?_) (l3_ev n L hL R hR hRr o c (pw o) ⟨h0, by omega⟩ ⟨by omega, hp8⟩ r (hin c h0 hlt hm) (ih (c + pw o) (by omega) (by omega) (by omega) ?_) (pw o).toNat 0 true (by omega) (by omega) (fun _ x h1 h2 => by omega))
      · simp only [laws_FnGreat.l2]
        rw [if_pos hlt]
      · rcases pw_cases ho with ⟨e3, e4⟩ | ⟨e3, e4⟩ | ⟨e3, e4⟩ | ⟨e3, e4⟩ <;> rw [e4] at hm ⊢ <;> omega
    · refine Ev.step (fun k => ?_) h
      simp only [laws_FnGreat.l2]
      rw [if_neg hlt, wrap64_id (n := o + 1) (by omega) (by omega)]
theorem l1_ev (n : Int) (hn : 8 ≤ n ∧ n ≤ 32) (L : List Int) (hL : L.length ≤ 1048576) (R : List RunW) (hR : R.length ≤ 32) (hRr : ∀ r ∈ R, 0 ≤ r.f0 ∧ r.f0 ≤ 100 ∧ 0 ≤ r.f1 ∧ r.f1 ≤ 3)
    (hin : ∀ o c, 0 ≤ o ∧ o ≤ 3 → 0 ≤ c → c < n → c % pw o = 0 → (∀ x, c ≤ x → x < c + pw o → inB L x = true) → ∃ j, j < R.length ∧ insB (R.getD j zr) c (pw o) = true) :
    ∀ (d : Nat) (o : Int), o + d = 4 → 0 ≤ o → Ev (fun k => laws_FnGreat.l1 k n L R o) true := by
  intro d
  induction d with
  | zero =>
    intro o ho _
    refine Ev.of_succ (fun k => ?_)
    simp only [laws_FnGreat.l1]
    rw [if_neg (by omega)]
  | succ d ih =>
    intro o ho h0
    refine Ev.step (fun k => ?_) (l2_ev n hn L hL R hR hRr o ⟨h0, by omega⟩ true (fun c => hin o c ⟨h0, by omega⟩) (ih (o + 1) (by omega) (by omega)) n.toNat 0 (by omega) (by omega) (by omega) (by simp))
    simp only [laws_FnGreat.l1]
    rw [if_pos (by omega), if_pos h0, shl_eq o ⟨h0, by omega⟩]

theorem FnGreat (l0 : List Int) (g0 : (l0.length ≤ maxLen ∧ ∀ y0 ∈ l0, (Lit.int .u8 y0).wf = true)) : ∃ k, laws_FnGreat.f k l0 = some true := by
  by_cases hbig : (l0.length : Int) > 1048576
  · refine ⟨0, ?_⟩
    unfold laws_FnGreat.f laws_big.f
    simp [hbig]
  · obtain ⟨n, T, hs, h32, ht, hd⟩ := rightRuns_ends l0 (by omega)
    obtain ⟨hn1, hn2, hn3⟩ := sizeB_bd hs
    refine Ev.rounds (g := fun k => laws_FnGreat.f k l0) ?_
    unfold laws_FnGreat.f laws_big.f
    simp only [Option.bind_some, decide_eq_true_eq, if_neg hbig]
    refine Ev.bind hd ?_
    have hRl := runsOf_len hs T
    have hfr := spec_FreeFrames_ev n (runsOf n T) (by omega)
    rw [if_pos (runsOf_right hs T)] at hfr
    refine Ev.bind hfr ?_
    obtain ⟨hcov, hrs⟩ := runsOf_cov hs T
    have hfl := framesB_len (runsOf n T)
    have hL : (framesB (runsOf n T)).length ≤ 1048576 := by omega
    refine notIn_ev n hn2 (runsOf n T) _ hL true (fun T' h32' ht' hx => ?_) n.toNat 0 [] (by omega) (by omega) (by omega) (by simp) (by simp) rfl (fun x h1 h2 => by omega) (fun x _ => rfl)
    have he : runsOf n T' = runsOf n T := by
      refine runsOf_congr hs _ _ (fun x h1 h2 => ?_)
      rw [hx x h1 h2, framesB_in, hcov x h1 h2, Bool.not_not]
    have ha := impl_AllRuns_ev n T' (by omega)
    rw [if_pos ⟨hs, ht'⟩, he] at ha
    refine Ev.bind ha ?_
    simp only [if_true]
    refine Ev.bind (sameRuns_refl _ (by omega)) ?_
    refine Ev.step (fun k => ?_) (l1_ev n ⟨hn1, hn2⟩ (framesB (runsOf n T)) hL (runsOf n T) hRl (fun r hr => ?_) ?_ 4 0 (by omega) (by omega))
    · simp only [laws_FnGreat.j1]
      rfl
    · obtain ⟨a, b, c, d⟩ := hrs r hr
      have := pw_pos r.f1
      exact ⟨a, by omega, c, d⟩
    · intro o c ho h0 hc hm hall
      have hp := pw_pos o
      have hcl : clearB T c o = true := by
        rw [clearB_iff]
        refine ⟨fun x h1 h2 => ?_, hm⟩
        have hxn : x < n := by
          rcases pw_cases ho with ⟨e3, e4⟩ | ⟨e3, e4⟩ | ⟨e3, e4⟩ | ⟨e3, e4⟩ <;> rw [e4] at hm h2 <;> omega
        have := hall x h1 h2
        rw [framesB_in, hcov x (by omega) hxn] at this
        simpa using this
      obtain ⟨r, hr, h1, h2⟩ := runsOf_great T c o ho h0 hc hcl
      obtain ⟨j, hj, he2⟩ := List.getElem_of_mem hr
      refine ⟨j, hj, ?_⟩
      rw [List.getD_eq_getElem?_getD, List.getElem?_eq_getElem hj]
      show insB (runsOf n T)[j] c (pw o) = true
      rw [he2]
      unfold insB
      rw [decide_eq_true h1, decide_eq_true (show r.f0 + pw r.f1 ≥ c + pw o from h2)]
      rfl

end Go.Proofs.Ytdpejnckojhgjaa.Pure
end
