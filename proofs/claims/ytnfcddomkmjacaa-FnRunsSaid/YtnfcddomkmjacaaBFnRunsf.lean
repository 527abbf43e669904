/- What the proof of FnRunsSaid rests on, part 6: plain lemmas and contracts of the functions that the law reaches (in part written by a printing program over the translation). No condition. -/
import Derived.Test.YtnfcddomkmjacaaBFnRunse
section
namespace Go.Proofs.Ytnfcddomkmjacaa.Pure
open Go.RowKit Go.Proofs.Ytnfcddomkmjacaa.P Go.Proofs.YtnfcddomkmjacaaW.PrintWords Go.Proofs.YtnfcddomkmjacaaW.PrintLast Go.Proofs.YtnfcddomkmjacaaW.PrintMore Go.Proofs.Ytnfcddomkmjacaa.Aid
set_option linter.unusedVariables false
set_option linter.unusedSimpArgs false

theorem l01In_eq (a b c : Int) : spec_l01In.f a b c = some (decide (b ≤ a ∧ a ≤ c)) := in_dec a b c
theorem within_eq (a b c : Int) : impl_within.f a b c = some (decide (b ≤ a ∧ a ≤ c)) := in_dec a b c
def sizeB (n : Int) : Bool := decide (8 ≤ n ∧ n ≤ 32) && decide (n % 8 = 0)
theorem sizeB_bd {n : Int} (h : sizeB n = true) : 8 ≤ n ∧ n ≤ 32 ∧ n % 8 = 0 := by
  simp only [sizeB, Bool.and_eq_true, decide_eq_true_eq] at h
  exact ⟨h.1.1, h.1.2, h.2⟩
theorem l02Frames_eq (n : Int) : spec_l02Frames.f n = some (sizeB n) := by
  unfold spec_l02Frames.f sizeB
  rw [l01In_eq]
  simp only [Option.bind_some]
  by_cases h : 8 ≤ n ∧ n ≤ 32
  · rw [if_pos (by simpa using h), tmod_nonneg (by omega) (by omega), decide_eq_true h]; rfl
  · rw [if_neg (by simpa using h), decide_eq_false h]; rfl
theorem isSize_eq (n : Int) : impl_isSize.f n = some (sizeB n) := by
  unfold impl_isSize.f sizeB
  rw [within_eq]
  simp only [Option.bind_some]
  by_cases h : 8 ≤ n ∧ n ≤ 32
  · rw [if_pos (by simpa using h), tmod_nonneg (by omega) (by omega), decide_eq_true h]; rfl
  · rw [if_neg (by simpa using h), decide_eq_false h]; rfl
theorem map_getD {α β : Type} (f : α → β) (l : List α) (d : α) : (List.range l.length).map (fun i => f (l.getD i d)) = l.map f := by
  rw [show (fun i => f (l.getD i d)) = f ∘ (fun i => l.getD i d) from rfl, ← List.map_map, range_map_getD]
abbrev RunW := S35
abbrev RunL := S32
def toRun (r : RunL) : RunW := ⟨r.f0, r.f1⟩
theorem rdRL (l : List RunL) (i : Nat) : rd_T32 l (i : Int) = l.getD i z32 := by unfold rd_T32; rw [toNat_cast]
theorem rdRW (l : List RunW) (i : Nat) : rd_T35 l (i : Int) = l.getD i z35 := by unfold rd_T35; rw [toNat_cast]
/-- 2 to the power of an order. -/
def pw (o : Int) : Int := if o = 0 then 1 else if o = 1 then 2 else if o = 2 then 4 else 8
theorem pw_pos (o : Int) : 0 < pw o := by unfold pw; repeat' split <;> omega
theorem pw_le (o : Int) : pw o ≤ 8 := by unfold pw; repeat' split <;> omega
theorem l03Pow_ev (o : Int) (h : 0 ≤ o ∧ o ≤ 3) : Ev (fun k => spec_l03Pow.f k o) (pw o) := by
  have hc : o = 0 ∨ o = 1 ∨ o = 2 ∨ o = 3 := by omega
  rcases hc with rfl | rfl | rfl | rfl <;> exact Ev.of (fun k => spec_l03Pow.mono _ k) (k := 9) (by decide +kernel)
theorem shl_eq (o : Int) (h : 0 ≤ o ∧ o ≤ 3) : shl .i64 1 o = pw o := by
  have hc : o = 0 ∨ o = 1 ∨ o = 2 ∨ o = 3 := by omega
  rcases hc with rfl | rfl | rfl | rfl <;> decide +kernel
def oneB (n : Int) (r : RunW) : Bool := decide (0 ≤ r.f1 ∧ r.f1 ≤ 3) && decide (0 ≤ r.f0 ∧ r.f0 ≤ wrap64 (n - pw r.f1)) && decide (r.f0 % pw r.f1 = 0)
theorem oneB_bd {n : Int} {r : RunW} (h : oneB n r = true) : (0 ≤ r.f1 ∧ r.f1 ≤ 3) ∧ (0 ≤ r.f0 ∧ r.f0 ≤ wrap64 (n - pw r.f1)) ∧ r.f0 % pw r.f1 = 0 := by
  simp only [oneB, Bool.and_eq_true, decide_eq_true_eq] at h
  exact ⟨h.1.1, h.1.2, h.2⟩
theorem wrap_size {n : Int} (hn : 8 ≤ n ∧ n ≤ 32) (o : Int) : wrap64 (n - pw o) = n - pw o := by have := pw_pos o; have := pw_le o; unfold wrap64; omega
theorem runOk_eq (n a o : Int) : impl_runOk.f n a o = some (oneB n ⟨a, o⟩) := by
  unfold impl_runOk.f oneB
  rw [within_eq]
  simp only [Option.bind_some]
  by_cases ho : 0 ≤ o ∧ o ≤ 3
  · rw [if_pos (by simpa using ho), if_pos ho.1, shl_eq o ho, within_eq, decide_eq_true ho]
    simp only [Option.bind_some, Bool.true_and]
    have hp := pw_pos o
    by_cases ha : 0 ≤ a ∧ a ≤ wrap64 (n - pw o)
    · rw [if_pos (by simpa using ha), if_neg (by omega), tmod_nonneg ha.1 hp, decide_eq_true ha, Bool.true_and]; rfl
    · rw [if_neg (by simpa using ha), decide_eq_false ha, Bool.false_and]
  · rw [if_neg (by simpa using ho), decide_eq_false ho]; simp
def broB (a b : RunW) : Bool := decide (a.f1 = b.f1) && decide (a.f1 < 3) && decide (a.f0 % (2 * pw a.f1) = 0) && decide (b.f0 = a.f0 + pw a.f1)
abbrev zr : RunW := z35
def runAt (l : List RunW) (i : Nat) : RunW := l.getD i zr
def apB (n : Int) (l : List RunW) (i : Nat) : Bool := oneB n (runAt l i) && (decide (i = 0) || decide (wrap64 ((runAt l (i - 1)).f0 + pw (runAt l (i - 1)).f1) ≤ (runAt l i).f0))
def okAt (n : Int) (l : List RunW) (i : Nat) : Bool := apB n l i && (decide (i = 0) || !broB (runAt l (i - 1)) (runAt l i))
def runsB (n : Int) (l : List RunW) : Bool := sizeB n && (List.range l.length).all (okAt n l)
theorem wrap_pred {i : Nat} (h0 : 0 < i) (h : i < 9223372036854775807) : wrap64 ((i : Int) - 1) = ((i - 1 : Nat) : Int) := by unfold wrap64; omega
theorem apart_ev (n : Int) (l : List RunW) (hl : l.length ≤ 1048576) : Ev (fun k => impl_apart.f k n l) (sizeB n && (List.range l.length).all (apB n l)) := by
  have key := ev_allp (fun k i => impl_apart.l0 k n l l (l.length : Int) (i : Int)) l.length (apB n l) false (sizeB n) (by
    intro i hi hprev hb r h
    refine Ev.step (fun k => ?_) h
    simp only [apB, Bool.and_eq_true, Bool.or_eq_true, decide_eq_true_eq] at hb
    simp only [impl_apart.l0]
    rw [if_pos (by omega), if_pos (by omega), if_pos (by omega), rdRW, runOk_eq, show (l.getD i zr) = runAt l i from rfl]
    simp only [Option.bind_some]
    rw [if_pos hb.1]
    by_cases h0 : i = 0
    · subst h0; rw [if_neg (by omega), wrap_succ (by omega)]
    · have hp := hprev (i - 1) (by omega)
      simp only [apB, Bool.and_eq_true] at hp
      have hq := oneB_bd hp.1
      rw [if_pos (by omega), wrap_pred (by omega) (by omega), if_pos (by omega), if_pos (by omega), rdRW, show (l.getD (i - 1) zr) = runAt l (i - 1) from rfl, if_pos hq.1.1, shl_eq _ hq.1, if_neg (by rcases hb.2 with h | h <;> omega), wrap_succ (by omega)]) (by
    intro i hi hprev hb
    refine Ev.of_succ (fun k => ?_)
    simp only [impl_apart.l0]
    rw [if_pos (by omega), if_pos (by omega), if_pos (by omega), rdRW, runOk_eq, show (l.getD i zr) = runAt l i from rfl]
    simp only [Option.bind_some]
    by_cases h1 : oneB n (runAt l i) = true
    · rw [if_pos h1]
      simp only [apB, h1, Bool.true_and, Bool.or_eq_false_iff, decide_eq_false_iff_not] at hb
      have hp := hprev (i - 1) (by omega)
      simp only [apB, Bool.and_eq_true] at hp
      have hq := oneB_bd hp.1
      rw [if_pos (by omega), wrap_pred (by omega) (by omega), if_pos (by omega), if_pos (by omega), rdRW, show (l.getD (i - 1) zr) = runAt l (i - 1) from rfl, if_pos hq.1.1, shl_eq _ hq.1, if_pos (by omega)]
    · rw [if_neg h1]) (by
    intro _
    refine Ev.of_succ (fun k => ?_)
    simp only [impl_apart.l0]
    rw [if_neg (by omega), isSize_eq]
    rfl)
  have e : (if (List.range l.length).all (apB n l) = true then sizeB n else false) = (sizeB n && (List.range l.length).all (apB n l)) := by
    cases (List.range l.length).all (apB n l) <;> simp
  rw [e] at key
  exact key
/-- What stands at one another's place: the brother above. -/
theorem xor_bro : ∀ a : Fin 32, ∀ o : Fin 3, a.val % 2 ^ o.val = 0 → Go.bits .xor .i64 (a.val : Int) (pw (o.val : Int)) = (if a.val % (2 * 2 ^ o.val) = 0 then (a.val : Int) + pw (o.val : Int) else (a.val : Int) - pw (o.val : Int)) := by decide +kernel
theorem xor_bro' (a o : Int) (ha : 0 ≤ a ∧ a < 32) (ho : 0 ≤ o ∧ o < 3) (hm : a % pw o = 0) : Go.bits .xor .i64 a (pw o) = (if a % (2 * pw o) = 0 then a + pw o else a - pw o) := by
  obtain ⟨n, rfl⟩ := Int.eq_ofNat_of_zero_le ha.1
  obtain ⟨m, rfl⟩ := Int.eq_ofNat_of_zero_le ho.1
  have hc : m = 0 ∨ m = 1 ∨ m = 2 := by omega
  rcases hc with rfl | rfl | rfl
  · have hp : pw ((0 : Nat) : Int) = 1 := by decide
    have h := xor_bro ⟨n, by omega⟩ ⟨0, by omega⟩ (by show n % 2 ^ 0 = 0; omega)
    simp only [hp, Nat.pow_zero, Nat.mul_one] at h hm ⊢
    rw [h]
    split <;> split <;> omega
  · have hp : pw ((1 : Nat) : Int) = 2 := by decide
    have h := xor_bro ⟨n, by omega⟩ ⟨1, by omega⟩ (by show n % 2 ^ 1 = 0; rw [hp] at hm; omega)
    simp only [hp, Nat.pow_one, show 2 * 2 = 4 from rfl] at h hm ⊢
    rw [h]
    split <;> split <;> omega
  · have hp : pw ((2 : Nat) : Int) = 4 := by decide
    have h := xor_bro ⟨n, by omega⟩ ⟨2, by omega⟩ (by show n % 2 ^ 2 = 0; rw [hp] at hm; omega)
    simp only [hp, show 2 * 2 ^ 2 = 8 from rfl] at h hm ⊢
    rw [h]
    split <;> split <;> omega
theorem broB_iff {n : Int} (hn : 8 ≤ n ∧ n ≤ 32) {a b : RunW} (ha : oneB n a = true) (hab : a.f0 + pw a.f1 ≤ b.f0) (h3 : a.f1 < 3) :
    (Go.bits .xor .i64 a.f0 (pw a.f1) = b.f0) ↔ (a.f0 % (2 * pw a.f1) = 0 ∧ b.f0 = a.f0 + pw a.f1) := by
  have hq := oneB_bd ha
  rw [wrap_size hn] at hq
  have hp := pw_pos a.f1
  rw [xor_bro' a.f0 a.f1 (by omega) (by omega) hq.2.2]
  split <;> constructor <;> intro h <;> omega
theorem impl_RunsOk_ev (n : Int) (l : List RunW) (hl : l.length ≤ 1048576) : Ev (fun k => impl_RunsOk.f k n l) (runsB n l) := by
  unfold impl_RunsOk.f
  refine Ev.bind (apart_ev n l hl) ?_
  cases hs : sizeB n with
  | false =>
    simp only [Bool.false_and, Bool.false_eq_true, if_false]
    have : runsB n l = false := by unfold runsB; rw [hs, Bool.false_and]
    rw [this]; exact Ev.now _
  | true =>
    have hn := sizeB_bd hs
    simp only [Bool.true_and]
    cases ha : (List.range l.length).all (apB n l) with
    | false =>
      simp only [Bool.false_eq_true, if_false]
      have : runsB n l = false := by
        unfold runsB
        rw [hs, Bool.true_and]
        rw [List.all_eq_false] at ha ⊢
        obtain ⟨x, hx, hb⟩ := ha
        exact ⟨x, hx, by unfold okAt; rw [Bool.eq_false_iff.2 hb, Bool.false_and]; simp⟩
      rw [this]; exact Ev.now _
    | true =>
      simp only [if_true]
      have hap : ∀ i, i < l.length → apB n l i = true := fun i hi => List.all_eq_true.1 ha i (List.mem_range.2 hi)
      have hone : ∀ i, i < l.length → oneB n (runAt l i) = true := fun i hi => by have := hap i hi; simp only [apB, Bool.and_eq_true] at this; exact this.1
      have hle : ∀ i, i + 1 < l.length → (runAt l i).f0 + pw (runAt l i).f1 ≤ (runAt l (i + 1)).f0 := by
        intro i hi
        have := hap (i + 1) hi
        have h1 := oneB_bd (hone i (by omega))
        rw [wrap_size ⟨hn.1, hn.2.1⟩] at h1
        have hp := pw_pos (runAt l i).f1
        simp only [apB, Bool.and_eq_true, Bool.or_eq_true, decide_eq_true_eq, Nat.add_sub_cancel] at this
        rcases this.2 with h | h
        · omega
        · rwa [wrap64_id (by omega) (by omega)] at h
      have key := ev_all0 (fun k i => impl_RunsOk.l0 k l ((i + 1 : Nat) : Int)) (l.length - 1) (fun i => !broB (runAt l i) (runAt l (i + 1))) false true (by
        intro i hi hb r h
        refine Ev.step (fun k => ?_) h
        have hb : broB (runAt l i) (runAt l (i + 1)) = false := by simpa using hb
        have h1 := oneB_bd (hone i (by omega))
        have hxor := @broB_iff n ⟨hn.1, hn.2.1⟩ _ _ (hone i (by omega)) (hle i (by omega))
        simp only [impl_RunsOk.l0]
        rw [if_pos (by omega), wrap_pred (by omega) (by omega), if_pos (by omega), if_pos (by omega), if_pos (by omega), rdRW, rdRW, show (l.getD (i + 1 - 1) zr) = runAt l i from rfl, show (l.getD (i + 1) zr) = runAt l (i + 1) from rfl, wrap_succ (by omega)]
        by_cases e1 : (runAt l i).f1 = (runAt l (i + 1)).f1
        · rw [if_pos e1]
          by_cases e2 : (runAt l i).f1 < 3
          · rw [if_pos e2, if_pos h1.1.1, shl_eq _ h1.1, if_neg]
            intro he
            have := (hxor e2).1 he
            simp only [broB, decide_eq_true e1, decide_eq_true e2, decide_eq_true this.1, decide_eq_true this.2] at hb
            cases hb
          · rw [if_neg e2]
        · rw [if_neg e1]) (by
        intro i hi hb
        refine Ev.of_succ (fun k => ?_)
        have hb : broB (runAt l i) (runAt l (i + 1)) = true := by simpa using hb
        simp only [broB, Bool.and_eq_true, decide_eq_true_eq] at hb
        have h1 := oneB_bd (hone i (by omega))
        have hxor := @broB_iff n ⟨hn.1, hn.2.1⟩ _ _ (hone i (by omega)) (hle i (by omega)) hb.1.1.2
        simp only [impl_RunsOk.l0]
        rw [if_pos (by omega), wrap_pred (by omega) (by omega), if_pos (by omega), if_pos (by omega), if_pos (by omega), rdRW, rdRW, show (l.getD (i + 1 - 1) zr) = runAt l i from rfl, show (l.getD (i + 1) zr) = runAt l (i + 1) from rfl]
        rw [if_pos hb.1.1.1, if_pos hb.1.1.2, if_pos h1.1.1, shl_eq _ h1.1, if_pos (hxor.2 ⟨hb.1.2, hb.2⟩)]) (by
        refine Ev.of_succ (fun k => ?_)
        simp only [impl_RunsOk.l0]
        rw [if_neg (by omega)])
      have e : (if (List.range (l.length - 1)).all (fun i => !broB (runAt l i) (runAt l (i + 1))) = true then true else false) = runsB n l := by
        unfold runsB
        rw [hs, Bool.true_and, Bool.eq_iff_iff]
        have hx : ((if (List.range (l.length - 1)).all (fun i => !broB (runAt l i) (runAt l (i + 1))) = true then true else false) = true) ↔ (List.range (l.length - 1)).all (fun i => !broB (runAt l i) (runAt l (i + 1))) = true := by
          cases (List.range (l.length - 1)).all (fun i => !broB (runAt l i) (runAt l (i + 1))) <;> simp
        rw [hx, List.all_eq_true, List.all_eq_true]
        constructor
        · intro h i hi
          have hi := List.mem_range.1 hi
          unfold okAt
          rw [hap i hi, Bool.true_and]
          by_cases h0 : i = 0
          · simp [h0]
          · have := h (i - 1) (List.mem_range.2 (by omega))
            rw [show i - 1 + 1 = i by omega] at this
            rw [this]; simp
        · intro h i hi
          have hi := List.mem_range.1 hi
          have := h (i + 1) (List.mem_range.2 (by omega))
          simpa [okAt, hap (i + 1) (by omega)] using this
      rw [e] at key
      exact key
theorem runsB_len (n : Int) (l : List RunW) (hs : sizeB n = true) (h : (List.range l.length).all (okAt n l) = true) : (l.length : Int) ≤ n := by
  have hn := sizeB_bd hs
  have hap : ∀ i, i < l.length → apB n l i = true := fun i hi => by
    have := List.all_eq_true.1 h i (List.mem_range.2 hi)
    simp only [okAt, Bool.and_eq_true] at this; exact this.1
  have hone : ∀ i, i < l.length → oneB n (runAt l i) = true := fun i hi => by have := hap i hi; simp only [apB, Bool.and_eq_true] at this; exact this.1
  have hge : ∀ i, i < l.length → (i : Int) ≤ (runAt l i).f0 := by
    intro i
    induction i with
    | zero => intro hi; have := oneB_bd (hone 0 hi); omega
    | succ i ih =>
      intro hi
      have h0 := ih (by omega)
      have := hap (i + 1) hi
      have h1 := oneB_bd (hone i (by omega))
      rw [wrap_size ⟨hn.1, hn.2.1⟩] at h1
      have hp := pw_pos (runAt l i).f1
      simp only [apB, Bool.and_eq_true, Bool.or_eq_true, decide_eq_true_eq, Nat.add_sub_cancel] at this
      rcases this.2 with h | h
      · omega
      · rw [wrap64_id (by omega) (by omega)] at h; omega
  rcases Nat.eq_zero_or_pos l.length with h0 | h0
  · omega
  · have h1 := hge (l.length - 1) (by omega)
    have h2 := oneB_bd (hone (l.length - 1) (by omega))
    rw [wrap_size ⟨hn.1, hn.2.1⟩] at h2
    have hp := pw_pos (runAt l (l.length - 1)).f1
    omega
def runF (r : RunW) : List Int := (List.range (pw r.f1).toNat).map (fun j : Nat => r.f0 + (j : Int))
def framesB (l : List RunW) : List Int := l.foldl (fun s r => s ++ runF r) []
theorem runF_len (r : RunW) : (runF r).length ≤ 8 := by have := pw_le r.f1; simp [runF]; omega
theorem runF_take (r : RunW) (j : Nat) (h : j < (pw r.f1).toNat) : (runF r).take (j + 1) = (runF r).take j ++ [r.f0 + (j : Int)] := by
  rw [List.take_succ_eq_append_getElem (by simpa [runF] using h)]
  simp [runF]
theorem runOne {n : Int} {l : List RunW} (hb : runsB n l = true) {i : Nat} (hi : i < l.length) : (0 ≤ (l.getD i zr).f1 ∧ (l.getD i zr).f1 ≤ 3) ∧ 0 ≤ (l.getD i zr).f0 ∧ (l.getD i zr).f0 ≤ 32 := by
  unfold runsB at hb
  simp only [Bool.and_eq_true] at hb
  have hn := sizeB_bd hb.1
  have := List.all_eq_true.1 hb.2 i (List.mem_range.2 hi)
  simp only [okAt, apB, Bool.and_eq_true] at this
  have := oneB_bd this.1.1
  rw [wrap_size ⟨hn.1, hn.2.1⟩] at this
  have hp := pw_pos (runAt l i).f1
  exact ⟨this.1, this.2.1.1, by unfold runAt at *; omega⟩
theorem framesB_len (l : List RunW) : (framesB l).length ≤ 8 * l.length := by
  have : ∀ (l : List RunW) (s : List Int), (l.foldl (fun s r => s ++ runF r) s).length ≤ s.length + 8 * l.length := by
    intro l
    induction l with
    | nil => intro s; simp
    | cons r l ih => intro s; have := ih (s ++ runF r); have h8 := runF_len r; simp only [List.foldl_cons, List.length_cons, List.length_append] at this ⊢; omega
  have := this l []
  simpa [framesB] using this
def inB (l : List Int) (x : Int) : Bool := l.any (fun y => decide (y = x))
theorem inB_all (l : List Int) (x : Int) : (List.range l.length).all (fun i => !decide (l.getD i 0 = x)) = !inB l x := by
  rw [range_all l 0 (fun y => !decide (y = x))]
  unfold inB
  rw [List.all_eq_not_any_not]
  simp
theorem l03In_ev (l : List Int) (hl : l.length ≤ 1048576) (x : Int) : Ev (fun k => spec_l03In.f k l x) (inB l x) := by
  have key := ev_all0 (fun k i => spec_l03In.l0 k l x (i : Int)) l.length (fun i => !decide (l.getD i 0 = x)) true false (by
    intro i hi hb r h
    refine Ev.step (fun k => ?_) h
    simp only [Bool.not_eq_true', decide_eq_false_iff_not] at hb
    simp only [spec_l03In.l0]
    rw [if_pos (by omega), if_pos (by omega), if_neg (by unfold rd; rw [toNat_cast]; exact hb), wrap_succ (by omega)]) (by
    intro i hi hb
    refine Ev.of_succ (fun k => ?_)
    simp only [Bool.not_eq_false', decide_eq_true_eq] at hb
    simp only [spec_l03In.l0]
    rw [if_pos (by omega), if_pos (by omega), if_pos (by unfold rd; rw [toNat_cast]; exact hb)]) (by
    refine Ev.of_succ (fun k => ?_)
    simp only [spec_l03In.l0]
    rw [if_neg (by omega)])
  rw [inB_all] at key
  have e : (if (!inB l x) = true then false else true) = inB l x := by cases inB l x <;> rfl
  rw [e] at key
  exact key
/-- May a run of this order begin here? -/
def clearB (l : List Int) (a o : Int) : Bool := (List.range (pw o).toNat).all (fun j => !inB l (a + (j : Int))) && decide (a % pw o = 0)
theorem l03Clear_ev (l : List Int) (hl : l.length ≤ 1048576) (a o : Int) (ha : 0 ≤ a ∧ a ≤ 1000) (ho : 0 ≤ o ∧ o ≤ 3) : Ev (fun k => spec_l03Clear.f k l a o) (clearB l a o) := by
  unfold spec_l03Clear.f
  refine Ev.bind (l03Pow_ev o ho) ?_
  have hp := pw_pos o
  have hp8 := pw_le o
  have hw : wrap64 (a + pw o) = a + pw o := wrap64_id (by omega) (by omega)
  have key := ev_all0 (fun k j => spec_l03Clear.l0 k l a (pw o) (a + (j : Int))) (pw o).toNat (fun j => !inB l (a + (j : Int))) false (decide (a % pw o = 0)) (by
    intro j hj hb r h
    simp only [Bool.not_eq_true'] at hb
    refine Ev.step (f := fun k => (spec_l03In.f k l (a + (j : Int))).bind fun t104 => (if t104 = true then (some false) else (spec_l03Clear.l0 k l a (pw o) (wrap64 ((a + (j : Int)) + 1))))) (fun k => ?_) ?_
    · simp only [spec_l03Clear.l0]
      rw [hw, if_pos (by omega)]
    · refine Ev.bind (l03In_ev l hl _) ?_
      simp only [hb, Bool.false_eq_true, if_false]
      rw [wrap64_id (n := a + (j : Int) + 1) (by omega) (by omega), show a + (j : Int) + 1 = a + ((j + 1 : Nat) : Int) by omega]
      exact h) (by
    intro j hj hb
    simp only [Bool.not_eq_false'] at hb
    refine Ev.step (f := fun k => (spec_l03In.f k l (a + (j : Int))).bind fun t104 => (if t104 = true then (some false) else (spec_l03Clear.l0 k l a (pw o) (wrap64 ((a + (j : Int)) + 1))))) (fun k => ?_) ?_
    · simp only [spec_l03Clear.l0]
      rw [hw, if_pos (by omega)]
    · refine Ev.bind (l03In_ev l hl _) ?_
      simp only [hb, if_true]
      exact Ev.now _) (by
    refine Ev.of_succ (fun k => ?_)
    simp only [spec_l03Clear.l0]
    rw [hw, if_neg (by omega), if_neg (by omega), tmod_nonneg ha.1 hp]
    rfl)
  simp only [show ((0 : Nat) : Int) = 0 from rfl, Int.add_zero] at key
  have e : (if ((List.range (pw o).toNat).all (fun j => !inB l (a + (j : Int)))) = true then decide (a % pw o = 0) else false) = clearB l a o := by
    unfold clearB
    cases (List.range (pw o).toNat).all (fun j => !inB l (a + (j : Int))) <;> simp
  rw [e] at key
  exact key
def ordC (C : Int → Bool) : Int := if C 3 = true then 3 else if C 2 = true then 2 else if C 1 = true then 1 else if C 0 = true then 0 else -1
theorem ordC_bd (C : Int → Bool) : -1 ≤ ordC C ∧ ordC C ≤ 3 := by unfold ordC; repeat' split <;> omega
/-- The runs from a place on. -/
def jn (N : Int → Int) (n : Int) : Nat → Int → List RunW → List RunW
  | 0, _, out => out
  | f + 1, a, out => if a < n then (if N a < 0 then jn N n f (a + 1) out else jn N n f (a + pw (N a)) (out ++ [⟨a, N a⟩])) else out
theorem jn_congr (N N' : Int → Int) (n : Int) (h : ∀ a, 0 ≤ a → a < n → N a = N' a) : ∀ f a out, 0 ≤ a → jn N n f a out = jn N' n f a out := by
  intro f
  induction f with
  | zero => intro a out _; rfl
  | succ f ih =>
    intro a out ha
    unfold jn
    by_cases h1 : a < n
    · rw [if_pos h1, if_pos h1, h a ha h1]
      have := pw_pos (N' a)
      split
      · exact ih _ _ (by omega)
      · exact ih _ _ (by omega)
    · rw [if_neg h1, if_neg h1]
theorem ev_jn {ρ : Type} (g : Nat → List RunW → Int → Option ρ) (N : Int → Int) (n : Int) (hn : n ≤ 1000) (hN : ∀ a, -1 ≤ N a ∧ N a ≤ 3) (fin : List RunW → ρ)
    (h1 : ∀ a out, 0 ≤ a → a < n → (out.length : Int) ≤ a → N a < 0 → ∀ r, Ev (fun k => g k out (a + 1)) r → Ev (fun k => g k out a) r)
    (h2 : ∀ a out, 0 ≤ a → a < n → (out.length : Int) ≤ a → 0 ≤ N a → ∀ r, Ev (fun k => g k (out ++ [⟨a, N a⟩]) (a + pw (N a))) r → Ev (fun k => g k out a) r)
    (h3 : ∀ a out, n ≤ a → Ev (fun k => g k out a) (fin out)) : ∀ (f : Nat) a out, 0 ≤ a → n ≤ a + f → (out.length : Int) ≤ a → Ev (fun k => g k out a) (fin (jn N n f a out)) := by
  intro f
  induction f with
  | zero => intro a out _ h _; exact h3 a out (by omega)
  | succ f ih =>
    intro a out ha hf hl
    unfold jn
    by_cases hlt : a < n
    · rw [if_pos hlt]
      by_cases hneg : N a < 0
      · rw [if_pos hneg]
        exact h1 a out ha hlt hl hneg _ (ih _ _ (by omega) (by omega) (by omega))
      · rw [if_neg hneg]
        have := pw_pos (N a)
        exact h2 a out ha hlt hl (by omega) _ (ih _ _ (by omega) (by omega) (by simp only [List.length_append, List.length_cons, List.length_nil]; omega))
    · rw [if_neg hlt]
      exact h3 a out (by omega)
/-- The reference's descent. -/
theorem spec_down (n : Int) (l : List Int) (hl : l.length ≤ 1048576) (a : Int) (ha : 0 ≤ a ∧ a ≤ 1000) (out : List RunW) (ho : out.length ≤ 1000) (r : List RunW × Bool)
    (h1 : ordC (clearB l a) < 0 → Ev (fun k => spec_AllRuns.l1 k n l out (a + 1)) r)
    (h2 : 0 ≤ ordC (clearB l a) → Ev (fun k => spec_AllRuns.l1 k n l (out ++ [⟨a, ordC (clearB l a)⟩]) (a + pw (ordC (clearB l a)))) r) : Ev (fun k => spec_AllRuns.l2 k n l out a 3) r := by
  have yes : ∀ o : Int, 0 ≤ o ∧ o ≤ 3 → clearB l a o = true → Ev (fun k => spec_AllRuns.l1 k n l (out ++ [⟨a, o⟩]) (a + pw o)) r → Ev (fun k => spec_AllRuns.l2 k n l out a o) r := by
    intro o ho3 hc h
    have hp := pw_pos o
    have hp8 := pw_le o
    refine Ev.step (f := fun k => (spec_l03Clear.f k l a o).bind fun t114 => (if t114 = true then (if o < 0 then (spec_AllRuns.l1 k n l out (wrap64 (a + 1))) else (if out.length < 8796093022208 then ((spec_l03Pow.f k o).bind fun t118 => (spec_AllRuns.l1 k n l (out ++ [(⟨a, o⟩ : RunW)]) (wrap64 (a + t118)))) else (none))) else (spec_AllRuns.l2 k n l out a (wrap64 (o - 1))))) (fun k => ?_) ?_
    · simp only [spec_AllRuns.l2]
      rw [if_pos (show o ≥ 0 from ho3.1)]
    · refine Ev.bind (l03Clear_ev l hl a o ha ho3) ?_
      simp only [hc, if_true, if_neg (show ¬ o < 0 by omega), if_pos (show out.length < 8796093022208 by omega)]
      refine Ev.bind (l03Pow_ev o ho3) ?_
      rw [wrap64_id (n := a + pw o) (by omega) (by omega)]
      exact h
  have no : ∀ o : Int, 0 ≤ o ∧ o ≤ 3 → clearB l a o = false → Ev (fun k => spec_AllRuns.l2 k n l out a (o - 1)) r → Ev (fun k => spec_AllRuns.l2 k n l out a o) r := by
    intro o ho3 hc h
    refine Ev.step (f := fun k => (spec_l03Clear.f k l a o).bind fun t114 => (if t114 = true then (if o < 0 then (spec_AllRuns.l1 k n l out (wrap64 (a + 1))) else (if out.length < 8796093022208 then ((spec_l03Pow.f k o).bind fun t118 => (spec_AllRuns.l1 k n l (out ++ [(⟨a, o⟩ : RunW)]) (wrap64 (a + t118)))) else (none))) else (spec_AllRuns.l2 k n l out a (wrap64 (o - 1))))) (fun k => ?_) ?_
    · simp only [spec_AllRuns.l2]
      rw [if_pos (show o ≥ 0 from ho3.1)]
    · refine Ev.bind (l03Clear_ev l hl a o ha ho3) ?_
      simp only [hc, Bool.false_eq_true, if_false]
      rw [wrap64_id (n := o - 1) (by omega) (by omega)]
      exact h
  unfold ordC at h1 h2
  by_cases c3 : clearB l a 3 = true
  · rw [if_pos c3] at h2
    exact yes 3 (by omega) c3 (h2 (by omega))
  · rw [if_neg c3] at h1 h2
    refine no 3 (by omega) (by simpa using c3) ?_
    show Ev (fun k => spec_AllRuns.l2 k n l out a 2) r
    by_cases c2 : clearB l a 2 = true
    · rw [if_pos c2] at h2
      exact yes 2 (by omega) c2 (h2 (by omega))
    · rw [if_neg c2] at h1 h2
      refine no 2 (by omega) (by simpa using c2) ?_
      show Ev (fun k => spec_AllRuns.l2 k n l out a 1) r
      by_cases c1 : clearB l a 1 = true
      · rw [if_pos c1] at h2
        exact yes 1 (by omega) c1 (h2 (by omega))
      · rw [if_neg c1] at h1 h2
        refine no 1 (by omega) (by simpa using c1) ?_
        show Ev (fun k => spec_AllRuns.l2 k n l out a 0) r
        by_cases c0 : clearB l a 0 = true
        · rw [if_pos c0] at h2
          exact yes 0 (by omega) c0 (h2 (by omega))
        · rw [if_neg c0] at h1
          refine no 0 (by omega) (by simpa using c0) ?_
          show Ev (fun k => spec_AllRuns.l2 k n l out a (-1)) r
          refine Ev.step (fun k => ?_) (h1 (by omega))
          simp only [spec_AllRuns.l2]
          rw [if_neg (by omega), if_pos (by omega), wrap64_id (n := a + 1) (by omega) (by omega)]
/-- The runs of what is not taken. -/
def runsOf (n : Int) (l : List Int) : List RunW := jn (fun a => ordC (clearB l a)) n n.toNat 0 []
def takenB (n : Int) (l : List Int) : Bool := l.all (fun x => decide (0 ≤ x ∧ x ≤ n - 1))
theorem takenB_all (n : Int) (l : List Int) : (List.range l.length).all (fun i => decide (0 ≤ l.getD i 0 ∧ l.getD i 0 ≤ n - 1)) = takenB n l := range_all l 0 (fun x => decide (0 ≤ x ∧ x ≤ n - 1))
theorem spec_AllRuns_ev (n : Int) (l : List Int) (hl : l.length ≤ 1048576) : Ev (fun k => spec_AllRuns.f k n l) (if sizeB n = true ∧ takenB n l = true then (runsOf n l, true) else ([], false)) := by
  unfold spec_AllRuns.f
  rw [l02Frames_eq]
  simp only [Option.bind_some]
  have bad : ∀ i : Nat, Ev (fun k => spec_AllRuns.l0 k n l false (i : Int)) ([], false) := by
    intro i
    refine Ev.step (f := fun k => spec_AllRuns.j1 k n l false) (fun k => ?_) (Ev.of_succ (fun k => ?_))
    · simp only [spec_AllRuns.l0]
      by_cases h : (i : Int) < (l.length : Int)
      · rw [if_pos h, if_neg (by simp)]
      · rw [if_neg h]
    · simp only [spec_AllRuns.j1]
      rfl
  by_cases hs : sizeB n = true
  · obtain ⟨hn1, hn2, hn3⟩ := sizeB_bd hs
    rw [hs]
    have hw : wrap64 (n - 1) = n - 1 := wrap64_id (by omega) (by omega)
    have key := ev_all0 (fun k i => spec_AllRuns.l0 k n l true (i : Int)) l.length (fun i => decide (0 ≤ l.getD i 0 ∧ l.getD i 0 ≤ n - 1)) ([], false) (runsOf n l, true) (by
      intro i hi hb r h
      refine Ev.step (fun k => ?_) h
      simp only [spec_AllRuns.l0]
      rw [if_pos (by omega), if_pos trivial, if_pos (by omega), l01In_eq, hw]
      unfold rd
      rw [toNat_cast, hb, wrap_succ (by omega)]
      rfl) (by
      intro i hi hb
      refine Ev.step (fun k => ?_) (bad (i + 1))
      simp only [spec_AllRuns.l0]
      rw [if_pos (by omega), if_pos trivial, if_pos (by omega), l01In_eq, hw]
      unfold rd
      rw [toNat_cast, hb, wrap_succ (by omega)]
      rfl) (by
      refine Ev.step (f := fun k => spec_AllRuns.j1 k n l true) (fun k => ?_) (Ev.step (f := fun k => spec_AllRuns.l1 k n l [] 0) (fun k => ?_) ?_)
      · simp only [spec_AllRuns.l0]
        rw [if_neg (by omega)]
      · simp only [spec_AllRuns.j1]
        rw [if_pos trivial]
      · refine ev_jn (fun k out a => spec_AllRuns.l1 k n l out a) (fun a => ordC (clearB l a)) n (by omega) (fun a => ordC_bd _) (fun out => (out, true)) ?_ ?_ ?_ n.toNat 0 [] (by omega) (by omega) (by simp)
        · intro a out ha hlt hlo hneg r h
          refine Ev.step (f := fun k => spec_AllRuns.l2 k n l out a 3) (fun k => ?_) (spec_down n l hl a (by omega) out (by omega) r (fun _ => h) (fun hp => by omega))
          simp only [spec_AllRuns.l1]
          rw [if_pos hlt]
        · intro a out ha hlt hlo hpos r h
          refine Ev.step (f := fun k => spec_AllRuns.l2 k n l out a 3) (fun k => ?_) (spec_down n l hl a (by omega) out (by omega) r (fun hp => by omega) (fun _ => h))
          simp only [spec_AllRuns.l1]
          rw [if_pos hlt]
        · intro a out ha
          refine Ev.of_succ (fun k => ?_)
          simp only [spec_AllRuns.l1]
          rw [if_neg (by omega)])
    rw [takenB_all] at key
    simp only [true_and]
    exact key
  · rw [if_neg (fun h => hs h.1), show sizeB n = false by simpa using hs]
    exact bad 0
/-! The program -/
theorem index_ev (l : List Bool) (hl : l.length ≤ 1000000) (b : Bool) : ∃ r, Ev (fun k => slices_Index_bool_bool.f k l b) r ∧ decide (r ≥ 0) = l.any (fun y => b == y) := by
  have h0 : ∀ d i, i + d = l.length → ∃ r, Ev (fun k => slices_Index_bool_bool.l0 k l b (l.length : Int) (i : Int)) r ∧ decide (r ≥ 0) = (l.drop i).any (fun y => b == y) := by
    intro d
    induction d with
    | zero =>
      intro i hi
      refine ⟨-1, Ev.of_succ (fun k => ?_), ?_⟩
      · simp only [slices_Index_bool_bool.l0]
        rw [if_neg (by omega)]
      · rw [List.drop_of_length_le (by omega)]; rfl
    | succ d ih =>
      intro i hi
      have hlt : i < l.length := by omega
      have hr : rdOf false l (i : Int) = l[i] := by unfold rdOf; rw [toNat_cast]; simp [List.getD_eq_getElem?_getD, List.getElem?_eq_getElem hlt]
      rw [List.drop_eq_getElem_cons hlt, List.any_cons]
      by_cases hb : (b == l[i]) = true
      · refine ⟨i, Ev.of_succ (fun k => ?_), ?_⟩
        · simp only [slices_Index_bool_bool.l0]
          rw [if_pos (by omega), if_pos (by omega), if_pos (by omega), hr, if_pos hb]
        · rw [hb, Bool.true_or]; simp
      · obtain ⟨r, h1, h2⟩ := ih (i + 1) (by omega)
        refine ⟨r, Ev.step (fun k => ?_) h1, ?_⟩
        · simp only [slices_Index_bool_bool.l0]
          rw [if_pos (by omega), if_pos (by omega), if_pos (by omega), hr, if_neg hb, wrap_succ (by omega)]
        · rw [show (b == l[i]) = false by simpa using hb, Bool.false_or, h2]
  obtain ⟨r, h1, h2⟩ := h0 l.length 0 (by omega)
  exact ⟨r, h1, by simpa using h2⟩
theorem contains_ev (l : List Bool) (hl : l.length ≤ 1000000) (b : Bool) : Ev (fun k => slices_Contains_bool_bool.f k l b) (l.any (fun y => b == y)) := by
  unfold slices_Contains_bool_bool.f
  obtain ⟨r, h1, h2⟩ := index_ev l hl b
  refine Ev.bind h1 ?_
  rw [h2]
  exact Ev.now _
def fitB (fr : List Bool) (a o : Int) : Bool := decide (a % pw o = 0) && decide (a + pw o ≤ (fr.length : Int)) && !((fr.take (a + pw o).toNat).drop a.toNat).any (fun y => false == y)
theorem impl_fit (fr : List Bool) (hl : fr.length ≤ 1000) (a : Int) (ha : 0 ≤ a ∧ a ≤ 1000) (out : List RunW) (b o : Int) (ho : 0 ≤ o ∧ o ≤ 3) (r : List RunW)
    (h : Ev (fun k => impl_joined.l1 k fr out a (if fitB fr a o = true then o else b) (o + 1)) r) : Ev (fun k => impl_joined.l1 k fr out a b o) r := by
  have hp := pw_pos o
  have hp8 := pw_le o
  have hw : wrap64 (a + pw o) = a + pw o := wrap64_id (by omega) (by omega)
  have hw2 : wrap64 (o + 1) = o + 1 := wrap64_id (by omega) (by omega)
  unfold fitB at h
  by_cases hm : a % pw o = 0
  · by_cases hlen : a + pw o ≤ (fr.length : Int)
    · refine Ev.step (f := fun k => (slices_Contains_bool_bool.f k ((fr.take ((a + pw o) : Int).toNat).drop (a : Int).toNat) false).bind fun t135 => (if t135 = true then (impl_joined.l1 k fr out a b (o + 1)) else (impl_joined.l1 k fr out a o (o + 1)))) (fun k => ?_) ?_
      · simp only [impl_joined.l1]
        rw [shl_eq o ho, hw, hw2, if_pos ho.2, if_pos ho.1, if_neg (by omega), tmod_nonneg ha.1 hp, if_pos hm, if_pos hlen, if_pos ha.1, if_pos (by omega)]
      · refine Ev.bind (contains_ev _ (by rw [List.length_drop, List.length_take]; omega) false) ?_
        rw [decide_eq_true hm, decide_eq_true hlen] at h
        simp only [Bool.true_and] at h
        cases hc : ((fr.take ((a + pw o) : Int).toNat).drop (a : Int).toNat).any (fun y => false == y) with
        | true => simp only [hc, Bool.not_true, Bool.false_eq_true, if_false] at h; simp only [if_true]; exact h
        | false => simp only [hc, Bool.not_false, if_true] at h; simp only [Bool.false_eq_true, if_false]; exact h
    · rw [decide_eq_true hm, decide_eq_false hlen] at h
      simp only [Bool.and_false, Bool.false_and, Bool.false_eq_true, if_false] at h
      refine Ev.step (fun k => ?_) h
      simp only [impl_joined.l1]
      rw [shl_eq o ho, hw, hw2, if_pos ho.2, if_pos ho.1, if_neg (by omega), tmod_nonneg ha.1 hp, if_pos hm, if_neg hlen]
  · rw [decide_eq_false hm] at h
    simp only [Bool.false_and, Bool.false_eq_true, if_false] at h
    refine Ev.step (fun k => ?_) h
    simp only [impl_joined.l1]
    rw [shl_eq o ho, hw2, if_pos ho.2, if_pos ho.1, if_neg (by omega), tmod_nonneg ha.1 hp, if_neg hm]
theorem ordC_up (C : Int → Bool) : (if C 3 = true then (3 : Int) else (if C 2 = true then 2 else (if C 1 = true then 1 else (if C 0 = true then 0 else -1)))) = ordC C := rfl
def joinB (fr : List Bool) : List RunW := jn (fun a => ordC (fitB fr a)) (fr.length : Int) fr.length 0 []
theorem joined_ev (fr : List Bool) (hl : fr.length ≤ 100) : Ev (fun k => impl_joined.f k fr) (joinB fr) := by
  unfold impl_joined.f
  refine ev_jn (fun k out a => impl_joined.l0 k fr out a) (fun a => ordC (fitB fr a)) (fr.length : Int) (by omega) (fun a => ordC_bd _) id ?_ ?_ ?_ fr.length 0 [] (by omega) (by omega) (by simp)
  · intro a out ha hlt hlo hneg r h
    refine Ev.step (f := fun k => impl_joined.l1 k fr out a (-1) 0) (fun k => ?_) ?_
    · simp only [impl_joined.l0]
      rw [if_pos hlt]
    refine impl_fit fr (by omega) a (by omega) out _ 0 (by omega) r (impl_fit fr (by omega) a (by omega) out _ 1 (by omega) r (impl_fit fr (by omega) a (by omega) out _ 2 (by omega) r (impl_fit fr (by omega) a (by omega) out _ 3 (by omega) r ?_)))
    rw [ordC_up]
    refine Ev.step (fun k => ?_) h
    simp only [impl_joined.l1]
    rw [if_neg (by omega), if_pos hneg, wrap64_id (n := a + 1) (by omega) (by omega)]
  · intro a out ha hlt hlo hpos r h
    have hb := ordC_bd (fitB fr a)
    have hp := pw_pos (ordC (fitB fr a))
    have hp8 := pw_le (ordC (fitB fr a))
    refine Ev.step (f := fun k => impl_joined.l1 k fr out a (-1) 0) (fun k => ?_) ?_
    · simp only [impl_joined.l0]
      rw [if_pos hlt]
    refine impl_fit fr (by omega) a (by omega) out _ 0 (by omega) r (impl_fit fr (by omega) a (by omega) out _ 1 (by omega) r (impl_fit fr (by omega) a (by omega) out _ 2 (by omega) r (impl_fit fr (by omega) a (by omega) out _ 3 (by omega) r ?_)))
    rw [ordC_up]
    refine Ev.step (fun k => ?_) h
    simp only [impl_joined.l1]
    rw [if_neg (by omega), if_neg (by omega), if_pos (by omega), if_pos hpos, shl_eq _ ⟨hpos, hb.2⟩, wrap64_id (n := a + pw (ordC (fitB fr a))) (by omega) (by omega)]
  · intro a out ha
    refine Ev.of_succ (fun k => ?_)
    simp only [impl_joined.l0]
    rw [if_neg (by omega)]
    rfl
/-- Who is free, as a row. -/
def freeR (n : Nat) (l : List Int) : List Bool := (List.range n).map (fun j : Nat => !inB l (j : Int))
theorem freeR_len (n : Nat) (l : List Int) : (freeR n l).length = n := by simp [freeR]
theorem freeR_at (n : Nat) (l : List Int) (j : Nat) (h : j < n) : (freeR n l)[j]? = some (!inB l (j : Int)) := by simp [freeR, h]
theorem freeR_set (n : Nat) (l : List Int) (x : Int) (hx : 0 ≤ x) : (freeR n l).set x.toNat false = freeR n (l ++ [x]) := by
  apply List.ext_getElem?
  intro j
  by_cases hj : j < n
  · rw [List.getElem?_set, freeR_at n l j hj, freeR_at n (l ++ [x]) j hj, freeR_len]
    unfold inB
    rw [List.any_append]
    by_cases e : x.toNat = j
    · rw [if_pos e, if_pos (by omega)]
      have : x = (j : Int) := by omega
      simp [this]
    · rw [if_neg e]
      have : ¬ x = (j : Int) := by omega
      simp [this]
  · rw [List.getElem?_eq_none (by rw [List.length_set, freeR_len]; omega), List.getElem?_eq_none (by rw [freeR_len]; omega)]
theorem fit_clear (n : Int) (hn : n ≤ 32) (hn8 : n % 8 = 0) (l : List Int) (a : Int) (ha : 0 ≤ a) (han : a < n) (o : Int) : fitB (freeR n.toNat l) a o = clearB l a o := by
  unfold fitB clearB
  have hp := pw_pos o
  rw [freeR_len]
  by_cases hm : a % pw o = 0
  · have hle : a + pw o ≤ n := by
      have : pw o = 1 ∨ pw o = 2 ∨ pw o = 4 ∨ pw o = 8 := by unfold pw; repeat' split <;> omega
      rcases this with e | e | e | e <;> rw [e] at hm ⊢ <;> omega
    rw [decide_eq_true hm, decide_eq_true (show a + pw o ≤ (n.toNat : Int) by omega), Bool.true_and, Bool.true_and, Bool.and_true]
    have e : ((freeR n.toNat l).take (a + pw o).toNat).drop a.toNat = (List.range (pw o).toNat).map (fun j : Nat => !inB l (a + (j : Int))) := by
      apply List.ext_getElem?
      intro j
      by_cases hj : j < (pw o).toNat
      · rw [List.getElem?_drop, List.getElem?_take_of_lt (by omega), freeR_at _ _ _ (by omega)]
        simp only [List.getElem?_map, List.getElem?_range hj, Option.map_some]
        rw [show ((a.toNat + j : Nat) : Int) = a + (j : Int) by omega]
      · rw [List.getElem?_eq_none (by rw [List.length_drop, List.length_take, freeR_len]; omega), List.getElem?_eq_none (by simp; omega)]
    rw [e, List.any_map, List.all_eq_not_any_not]
    congr 1
    apply List.any_congr rfl
    intro x
    simp
  · rw [decide_eq_false hm]; simp
theorem joinB_free (n : Int) (h : sizeB n = true) (l : List Int) : joinB (freeR n.toNat l) = runsOf n l := by
  obtain ⟨h1, h2, h3⟩ := sizeB_bd h
  unfold joinB runsOf
  rw [freeR_len, show ((n.toNat : Nat) : Int) = n by omega]
  refine jn_congr _ _ n (fun a ha han => ?_) _ _ _ (by omega)
  unfold ordC
  rw [fit_clear n h2 h3 l a ha han, fit_clear n h2 h3 l a ha han, fit_clear n h2 h3 l a ha han, fit_clear n h2 h3 l a ha han]
def setAll (l : List Int) (acc : List Bool) : List Bool := l.foldl (fun s x => s.set x.toNat false) acc
theorem setAll_len (l : List Int) (acc : List Bool) : (setAll l acc).length = acc.length := by
  unfold setAll
  induction l generalizing acc with
  | nil => rfl
  | cons x l ih => rw [List.foldl_cons, ih, List.length_set]
theorem setAll_succ (l : List Int) (acc : List Bool) (i : Nat) (h : i < l.length) : setAll (l.take (i + 1)) acc = (setAll (l.take i) acc).set (l.getD i 0).toNat false := by
  unfold setAll
  rw [List.take_succ_eq_append_getElem h, List.foldl_append]
  simp [List.getD_eq_getElem?_getD, List.getElem?_eq_getElem h]
theorem setAll_free (n : Nat) (l l' : List Int) (h : ∀ x ∈ l, 0 ≤ x) : setAll l (freeR n l') = freeR n (l' ++ l) := by
  induction l generalizing l' with
  | nil => rw [List.append_nil]; rfl
  | cons x l ih =>
    have := ih (l' ++ [x]) (fun y hy => h y (List.mem_cons_of_mem _ hy))
    rw [List.append_assoc] at this
    rw [show l' ++ x :: l = l' ++ ([x] ++ l) from rfl, ← this, ← freeR_set n l' x (h x List.mem_cons_self)]
    rfl
theorem jn_len (N : Int → Int) (n : Int) : ∀ f a out, (jn N n f a out).length ≤ out.length + f := by
  intro f
  induction f with
  | zero => intro a out; simp [jn]
  | succ f ih =>
    intro a out
    unfold jn
    split
    · split
      · have := ih (a + 1) out; omega
      · have := ih (a + pw (N a)) (out ++ [⟨a, N a⟩]); simp only [List.length_append, List.length_cons, List.length_nil] at this; omega
    · omega
/-! The runs of what is not taken are right, cover what is not taken, and are as great as can be. -/
theorem clearB_iff (l : List Int) (a o : Int) : clearB l a o = true ↔ (∀ x, a ≤ x → x < a + pw o → inB l x = false) ∧ a % pw o = 0 := by
  unfold clearB
  rw [Bool.and_eq_true, List.all_eq_true, decide_eq_true_eq]
  have hp := pw_pos o
  constructor
  · rintro ⟨h1, h2⟩
    refine ⟨fun x hx hx2 => ?_, h2⟩
    have := h1 (x - a).toNat (List.mem_range.2 (by omega))
    rw [show a + ((x - a).toNat : Int) = x by omega] at this
    simpa using this
  · rintro ⟨h1, h2⟩
    refine ⟨fun j hj => ?_, h2⟩
    have hj := List.mem_range.1 hj
    rw [h1 (a + (j : Int)) (by omega) (by omega)]; rfl
theorem ordC_max (C : Int → Bool) (o : Int) (ho : 0 ≤ o ∧ o ≤ 3) (h : C o = true) : o ≤ ordC C := by
  unfold ordC
  have hc : o = 0 ∨ o = 1 ∨ o = 2 ∨ o = 3 := by omega
  rcases hc with rfl | rfl | rfl | rfl
  · rw [if_pos h]; repeat' split <;> omega
  · rw [if_pos h]; repeat' split <;> omega
  · rw [if_pos h]; repeat' split <;> omega
  · rw [if_pos h]; omega
theorem ordC_is (C : Int → Bool) (h : 0 ≤ ordC C) : C (ordC C) = true := by
  unfold ordC at h ⊢
  split
  · assumption
  · rename_i h3
    rw [if_neg h3] at h
    split
    · assumption
    · rename_i h2
      rw [if_neg h2] at h
      split
      · assumption
      · rename_i h1
        rw [if_neg h1] at h
        split
        · assumption
        · rename_i h0
          rw [if_neg h0] at h
          omega
theorem pw_cases {o : Int} (ho : 0 ≤ o ∧ o ≤ 3) : (o = 0 ∧ pw o = 1) ∨ (o = 1 ∧ pw o = 2) ∨ (o = 2 ∧ pw o = 4) ∨ (o = 3 ∧ pw o = 8) := by
  have hc : o = 0 ∨ o = 1 ∨ o = 2 ∨ o = 3 := by omega
  rcases hc with rfl | rfl | rfl | rfl
  · exact Or.inl ⟨rfl, rfl⟩
  · exact Or.inr (Or.inl ⟨rfl, rfl⟩)
  · exact Or.inr (Or.inr (Or.inl ⟨rfl, rfl⟩))
  · exact Or.inr (Or.inr (Or.inr ⟨rfl, rfl⟩))
theorem jn_out (N : Int → Int) (n : Int) : ∀ f a out, jn N n f a out = out ++ jn N n f a [] := by
  intro f
  induction f with
  | zero => intro a out; simp [jn]
  | succ f ih =>
    intro a out
    unfold jn
    split
    · split
      · exact ih _ _
      · have e1 := ih (a + pw (N a)) (out ++ [(⟨a, N a⟩ : RunW)])
        have e2 := ih (a + pw (N a)) ([] ++ [(⟨a, N a⟩ : RunW)])
        rw [List.append_assoc] at e1
        rw [List.nil_append] at e2
        exact e1.trans (congrArg (out ++ ·) e2.symm)
    · simp
/-- No whole block that begins before a reaches over a. -/
def NoOver (l : List Int) (a : Int) : Prop := ∀ c p : Int, 0 ≤ p ∧ p ≤ 3 → c < a → a < c + pw p → clearB l c p = false
theorem noOver_skip {l : List Int} {a : Int} (h : NoOver l a) (hN : ordC (clearB l a) < 0) : NoOver l (a + 1) ∧ inB l a = true := by
  have ht : inB l a = true := by
    by_cases hf : inB l a = true
    · exact hf
    · exfalso
      have := ordC_max (clearB l a) 0 (by omega) ((clearB_iff l a 0).2 ⟨fun x h1 h2 => by
        have : pw 0 = 1 := rfl
        obtain rfl : x = a := by omega
        simpa using hf, by show a % 1 = 0; omega⟩)
      omega
  refine ⟨fun c p hp hc ha => ?_, ht⟩
  by_cases hca : c < a
  · exact h c p hp hca (by omega)
  · obtain rfl : c = a := by omega
    by_cases hcl : clearB l c p = true
    · have := ((clearB_iff l c p).1 hcl).1 c (by omega) (by have := pw_pos p; omega)
      rw [this] at ht; cases ht
    · simpa using hcl
theorem noOver_take {l : List Int} {a : Int} (h : NoOver l a) (hN : 0 ≤ ordC (clearB l a)) : NoOver l (a + pw (ordC (clearB l a))) := by
  intro c p hp hc ha
  have hb := ordC_bd (clearB l a)
  have hcl := (clearB_iff l a _).1 (ordC_is _ hN)
  by_cases hx : clearB l c p = true
  · exfalso
    have hcp := ((clearB_iff l c p).1 hx).2
    have hpp := pw_pos p
    by_cases hca : c < a
    · have := h c p hp hca (by have := pw_pos (ordC (clearB l a)); omega)
      rw [this] at hx; cases hx
    · by_cases hce : c = a
      · subst hce
        have hm := ordC_max _ p hp hx
        generalize ordC (clearB l c) = o at *
        rcases pw_cases (o := o) (by omega) with ⟨e1, e2⟩ | ⟨e1, e2⟩ | ⟨e1, e2⟩ | ⟨e1, e2⟩ <;> rcases pw_cases hp with ⟨e3, e4⟩ | ⟨e3, e4⟩ | ⟨e3, e4⟩ | ⟨e3, e4⟩ <;> omega
      · have h2 := hcl.2
        generalize ordC (clearB l a) = o at *
        rcases pw_cases (o := o) (by omega) with ⟨e1, e2⟩ | ⟨e1, e2⟩ | ⟨e1, e2⟩ | ⟨e1, e2⟩ <;> rcases pw_cases hp with ⟨e3, e4⟩ | ⟨e3, e4⟩ | ⟨e3, e4⟩ | ⟨e3, e4⟩ <;> rw [e2] at h2 ha hc <;> rw [e4] at hcp ha <;> omega
  · simpa using hx
theorem take_end {n : Int} (hn8 : n % 8 = 0) {l : List Int} {a : Int} (ha : a < n) (hN : 0 ≤ ordC (clearB l a)) : a + pw (ordC (clearB l a)) ≤ n := by
  have hb := ordC_bd (clearB l a)
  have h2 := ((clearB_iff l a _).1 (ordC_is _ hN)).2
  generalize ordC (clearB l a) = o at *
  rcases pw_cases (o := o) (by omega) with ⟨e1, e2⟩ | ⟨e1, e2⟩ | ⟨e1, e2⟩ | ⟨e1, e2⟩ <;> rw [e2] at h2 ⊢ <;> omega
/-- A row of right runs behind p. -/
def RightFrom (n : Int) : Option RunW → List RunW → Prop
  | _, [] => True
  | p, r :: l => oneB n r = true ∧ (∀ q, p = some q → q.f0 + pw q.f1 ≤ r.f0 ∧ broB q r = false) ∧ RightFrom n (some r) l
theorem rightFrom_at {n : Int} : ∀ (l : List RunW) (p : Option RunW), RightFrom n p l → ∀ i, i < l.length → oneB n (runAt l i) = true ∧ (0 < i → (runAt l (i - 1)).f0 + pw (runAt l (i - 1)).f1 ≤ (runAt l i).f0 ∧ broB (runAt l (i - 1)) (runAt l i) = false) := by
  intro l
  induction l with
  | nil => intro p _ i hi; simp at hi
  | cons r l ih =>
    intro p h i hi
    obtain ⟨h1, h2, h3⟩ := h
    cases i with
    | zero => exact ⟨h1, fun h => by omega⟩
    | succ i =>
      simp only [List.length_cons] at hi
      have hr : runAt (r :: l) (i + 1) = runAt l i := rfl
      obtain ⟨h4, h5⟩ := ih (some r) h3 i (by omega)
      refine ⟨by rw [hr]; exact h4, fun _ => ?_⟩
      rw [hr, show i + 1 - 1 = i from rfl]
      cases i with
      | zero =>
        cases l with
        | nil => simp at hi
        | cons s l =>
          obtain ⟨_, h6, _⟩ := h3
          exact h6 r rfl
      | succ i => exact h5 (by omega)
theorem runsB_of {n : Int} (hs : sizeB n = true) {l : List RunW} (h : RightFrom n none l) : runsB n l = true := by
  obtain ⟨hn1, hn2, hn3⟩ := sizeB_bd hs
  unfold runsB
  rw [hs, Bool.true_and, List.all_eq_true]
  intro i hi
  obtain ⟨h1, h2⟩ := rightFrom_at l none h i (List.mem_range.1 hi)
  unfold okAt apB
  by_cases h0 : i = 0
  · subst h0; simp [h1]
  · obtain ⟨h3, h4⟩ := h2 (by omega)
    obtain ⟨_, hq, _⟩ := oneB_bd (rightFrom_at l none h (i - 1) (by have := List.mem_range.1 hi; omega)).1
    rw [wrap_size ⟨hn1, hn2⟩] at hq
    have hp := pw_pos (runAt l (i - 1)).f1
    have hp8 := pw_le (runAt l (i - 1)).f1
    rw [h1, h4, wrap64_id (by omega) (by omega), decide_eq_true h3]
    simp
theorem jn_right {n : Int} (hs : sizeB n = true) (l : List Int) : ∀ (f : Nat) (a : Int) (p : Option RunW), 0 ≤ a → NoOver l a →
    (∀ q, p = some q → q.f0 + pw q.f1 ≤ a ∧ 0 ≤ q.f1 ∧ q.f1 ≤ 3 ∧ (∀ x, q.f0 ≤ x → x < q.f0 + pw q.f1 → inB l x = false) ∧ (q.f1 < 3 → q.f0 % (2 * pw q.f1) = 0 → clearB l q.f0 (q.f1 + 1) = false)) →
    RightFrom n p (jn (fun a => ordC (clearB l a)) n f a []) := by
  obtain ⟨hn1, hn2, hn3⟩ := sizeB_bd hs
  intro f
  induction f with
  | zero => intro a p _ _ _; simp [jn, RightFrom]
  | succ f ih =>
    intro a p ha hno hp
    unfold jn
    by_cases hlt : a < n
    · rw [if_pos hlt]
      by_cases hneg : ordC (clearB l a) < 0
      · rw [if_pos hneg]
        refine ih (a + 1) p (by omega) (noOver_skip hno hneg).1 (fun q hq => ?_)
        obtain ⟨h1, h2⟩ := hp q hq
        exact ⟨by omega, h2⟩
      · rw [if_neg hneg, jn_out]
        have hpos : 0 ≤ ordC (clearB l a) := by omega
        have hb := ordC_bd (clearB l a)
        have hend := take_end hn3 hlt hpos
        have hcl := (clearB_iff l a _).1 (ordC_is _ hpos)
        have hpw := pw_pos (ordC (clearB l a))
        refine ⟨?_, fun q hq => ?_, ?_⟩
        · unfold oneB
          rw [wrap_size ⟨hn1, hn2⟩, decide_eq_true (show 0 ≤ ordC (clearB l a) ∧ ordC (clearB l a) ≤ 3 from ⟨hpos, hb.2⟩), decide_eq_true (show 0 ≤ a ∧ a ≤ n - pw (ordC (clearB l a)) by omega), decide_eq_true hcl.2]
          rfl
        · obtain ⟨h1, h2, h3, h4, h5⟩ := hp q hq
          refine ⟨h1, ?_⟩
          by_cases hbro : broB q ⟨a, ordC (clearB l a)⟩ = true
          · exfalso
            unfold broB at hbro
            simp only [Bool.and_eq_true, decide_eq_true_eq] at hbro
            obtain ⟨⟨⟨b1, b2⟩, b3⟩, b4⟩ := hbro
            have hx := h5 b2 b3
            have hy : clearB l q.f0 (q.f1 + 1) = true := by
              rw [clearB_iff]
              have hpp : pw (q.f1 + 1) = 2 * pw q.f1 := by
                have hc : q.f1 = 0 ∨ q.f1 = 1 ∨ q.f1 = 2 := by omega
                rcases hc with e | e | e <;> rw [e] <;> rfl
              rw [hpp]
              refine ⟨fun x hx1 hx2 => ?_, b3⟩
              by_cases hxa : x < q.f0 + pw q.f1
              · exact h4 x hx1 hxa
              · refine hcl.1 x (by omega) ?_
                rw [← b1]; omega
            rw [hx] at hy; cases hy
          · simpa using hbro
        · refine ih (a + pw (ordC (clearB l a))) (some ⟨a, ordC (clearB l a)⟩) (by omega) (noOver_take hno hpos) (fun q hq => ?_)
          injection hq with hq
          subst hq
          refine ⟨Int.le_refl _, hpos, hb.2, hcl.1, fun h3 hm => ?_⟩
          show clearB l a (ordC (clearB l a) + 1) = false
          by_cases hx : clearB l a (ordC (clearB l a) + 1) = true
          · exfalso
            have := ordC_max (clearB l a) (ordC (clearB l a) + 1) ⟨by omega, by have h3' : ordC (clearB l a) < 3 := h3; omega⟩ hx
            omega
          · simpa using hx
    · rw [if_neg hlt]
      trivial
theorem noOver_zero (l : List Int) : NoOver l 0 := by
  intro c p hp h1 h2
  by_cases hx : clearB l c p = true
  · exfalso
    have hm := ((clearB_iff l c p).1 hx).2
    rcases pw_cases hp with ⟨e3, e4⟩ | ⟨e3, e4⟩ | ⟨e3, e4⟩ | ⟨e3, e4⟩ <;> rw [e4] at hm h2 <;> omega
  · simpa using hx
theorem runsOf_right {n : Int} (hs : sizeB n = true) (l : List Int) : runsB n (runsOf n l) = true :=
  runsB_of hs (jn_right hs l n.toNat 0 none (by omega) (noOver_zero l) (fun q hq => by cases hq))
theorem runsOf_len {n : Int} (hs : sizeB n = true) (l : List Int) : (runsOf n l).length ≤ 32 := by
  have := jn_len (fun a => ordC (clearB l a)) n n.toNat 0 []
  have h3 := sizeB_bd hs
  simp only [List.length_nil] at this
  unfold runsOf
  omega
/-- Who lies in a run. -/
def covB (R : List RunW) (x : Int) : Bool := R.any (fun r => decide (r.f0 ≤ x) && decide (x < r.f0 + pw r.f1))
theorem jn_cov {n : Int} (hn8 : n % 8 = 0) (l : List Int) : ∀ (f : Nat) (a : Int), 0 ≤ a → n ≤ a + f →
    (∀ x, a ≤ x → x < n → covB (jn (fun a => ordC (clearB l a)) n f a []) x = !inB l x) ∧ (∀ r ∈ jn (fun a => ordC (clearB l a)) n f a [], a ≤ r.f0 ∧ r.f0 + pw r.f1 ≤ n ∧ 0 ≤ r.f1 ∧ r.f1 ≤ 3) := by
  intro f
  induction f with
  | zero => intro a ha hf; exact ⟨fun x h1 h2 => by omega, fun r hr => by cases hr⟩
  | succ f ih =>
    intro a ha hf
    unfold jn
    by_cases hlt : a < n
    · rw [if_pos hlt]
      by_cases hneg : ordC (clearB l a) < 0
      · rw [if_pos hneg]
        obtain ⟨h1, h2⟩ := ih (a + 1) (by omega) (by omega)
        refine ⟨fun x hx1 hx2 => ?_, fun r hr => ?_⟩
        · by_cases hxa : x = a
          · subst hxa
            have ht : inB l x = true := by
              by_cases hf : inB l x = true
              · exact hf
              · exfalso
                have := ordC_max (clearB l x) 0 (by omega) ((clearB_iff l x 0).2 ⟨fun y h1 h2 => by
                  have : pw 0 = 1 := rfl
                  obtain rfl : y = x := by omega
                  simpa using hf, by show x % 1 = 0; omega⟩)
                omega
            rw [ht]
            unfold covB
            rw [Bool.not_true, List.any_eq_false]
            intro r hr
            have := (h2 r hr).1
            simp only [Bool.and_eq_true, decide_eq_true_eq, not_and]
            intro _; omega
          · exact h1 x (by omega) hx2
        · have := h2 r hr; exact ⟨by omega, this.2⟩
      · rw [if_neg hneg, jn_out]
        have hpos : 0 ≤ ordC (clearB l a) := by omega
        have hb := ordC_bd (clearB l a)
        have hend := take_end hn8 hlt hpos
        have hcl := (clearB_iff l a _).1 (ordC_is _ hpos)
        have hpw := pw_pos (ordC (clearB l a))
        obtain ⟨h1, h2⟩ := ih (a + pw (ordC (clearB l a))) (by omega) (by omega)
        refine ⟨fun x hx1 hx2 => ?_, fun r hr => ?_⟩
        · have e : covB (([] ++ [(⟨a, ordC (clearB l a)⟩ : RunW)]) ++ jn (fun a => ordC (clearB l a)) n f (a + pw (ordC (clearB l a))) []) x = ((decide (a ≤ x) && decide (x < a + pw (ordC (clearB l a)))) || covB (jn (fun a => ordC (clearB l a)) n f (a + pw (ordC (clearB l a))) []) x) := rfl
          rw [e]
          by_cases hxa : x < a + pw (ordC (clearB l a))
          · rw [decide_eq_true hx1, decide_eq_true hxa, hcl.1 x hx1 hxa]; rfl
          · rw [decide_eq_false hxa, Bool.and_false, Bool.false_or]
            exact h1 x (by omega) hx2
        · rcases List.mem_append.1 hr with hr | hr
          · simp only [List.nil_append, List.mem_singleton] at hr
            subst hr
            exact ⟨Int.le_refl _, hend, hpos, hb.2⟩
          · have := h2 r hr; exact ⟨by omega, this.2⟩
    · rw [if_neg hlt]
      exact ⟨fun x h1 h2 => by omega, fun r hr => by cases hr⟩
theorem runsOf_cov {n : Int} (hs : sizeB n = true) (l : List Int) : (∀ x, 0 ≤ x → x < n → covB (runsOf n l) x = !inB l x) ∧ (∀ r ∈ runsOf n l, 0 ≤ r.f0 ∧ r.f0 + pw r.f1 ≤ n ∧ 0 ≤ r.f1 ∧ r.f1 ≤ 3) :=
  jn_cov (sizeB_bd hs).2.2 l n.toNat 0 (by omega) (by omega)
theorem jn_great {n : Int} (l : List Int) : ∀ (f : Nat) (a : Int), n ≤ a + f → NoOver l a → ∀ c p : Int, 0 ≤ p ∧ p ≤ 3 → a ≤ c → c < n → clearB l c p = true →
    ∃ r ∈ jn (fun a => ordC (clearB l a)) n f a [], r.f0 ≤ c ∧ c + pw p ≤ r.f0 + pw r.f1 := by
  intro f
  induction f with
  | zero => intro a hf _ c p _ h1 h2; omega
  | succ f ih =>
    intro a hf hno c p hp hac hcn hcl
    unfold jn
    rw [if_pos (show a < n by omega)]
    have hpp := pw_pos p
    by_cases hneg : ordC (clearB l a) < 0
    · rw [if_pos hneg]
      obtain ⟨h1, h2⟩ := noOver_skip hno hneg
      refine ih (a + 1) (by omega) h1 c p hp ?_ hcn hcl
      by_cases hca : c = a
      · subst hca
        rw [((clearB_iff l c p).1 hcl).1 c (by omega) (by omega)] at h2; cases h2
      · omega
    · rw [if_neg hneg, jn_out]
      have hpos : 0 ≤ ordC (clearB l a) := by omega
      have hb := ordC_bd (clearB l a)
      have hpw := pw_pos (ordC (clearB l a))
      by_cases hfar : a + pw (ordC (clearB l a)) ≤ c
      · obtain ⟨r, hr, h1⟩ := ih (a + pw (ordC (clearB l a))) (by omega) (noOver_take hno hpos) c p hp hfar hcn hcl
        exact ⟨r, List.mem_append_right _ hr, h1⟩
      · refine ⟨⟨a, ordC (clearB l a)⟩, List.mem_append_left _ (by simp), hac, ?_⟩
        show c + pw p ≤ a + pw (ordC (clearB l a))
        have h2 := ((clearB_iff l a _).1 (ordC_is _ hpos)).2
        have hcp := ((clearB_iff l c p).1 hcl).2
        have hm : c = a → p ≤ ordC (clearB l a) := fun e => by subst e; exact ordC_max _ p hp hcl
        generalize ordC (clearB l a) = o at *
        rcases pw_cases (o := o) (by omega) with ⟨e1, e2⟩ | ⟨e1, e2⟩ | ⟨e1, e2⟩ | ⟨e1, e2⟩ <;> rcases pw_cases hp with ⟨e3, e4⟩ | ⟨e3, e4⟩ | ⟨e3, e4⟩ | ⟨e3, e4⟩ <;> rw [e2] at h2 hfar ⊢ <;> rw [e4] at hcp ⊢ <;> omega
theorem runsOf_great {n : Int} (l : List Int) (c p : Int) (hp : 0 ≤ p ∧ p ≤ 3) (h0 : 0 ≤ c) (hcn : c < n) (hcl : clearB l c p = true) : ∃ r ∈ runsOf n l, r.f0 ≤ c ∧ c + pw p ≤ r.f0 + pw r.f1 :=
  jn_great l n.toNat 0 (by omega) (noOver_zero l) c p hp h0 hcn hcl
theorem runF_in (r : RunW) (x : Int) : inB (runF r) x = (decide (r.f0 ≤ x) && decide (x < r.f0 + pw r.f1)) := by
  have hp := pw_pos r.f1
  rw [Bool.eq_iff_iff]
  unfold inB runF
  rw [List.any_eq_true]
  simp only [List.mem_map, List.mem_range, decide_eq_true_eq, Bool.and_eq_true]
  constructor
  · rintro ⟨y, ⟨j, hj, rfl⟩, rfl⟩; omega
  · rintro ⟨h1, h2⟩
    exact ⟨x, ⟨(x - r.f0).toNat, by omega, by omega⟩, rfl⟩
theorem framesB_in (R : List RunW) (x : Int) : inB (framesB R) x = covB R x := by
  have : ∀ (R : List RunW) (s : List Int), inB (R.foldl (fun s r => s ++ runF r) s) x = (inB s x || covB R x) := by
    intro R
    induction R with
    | nil => intro s; simp [covB]
    | cons r R ih =>
      intro s
      rw [List.foldl_cons, ih]
      have e1 : inB (s ++ runF r) x = (inB s x || inB (runF r) x) := by unfold inB; rw [List.any_append]
      have e2 : covB (r :: R) x = ((decide (r.f0 ≤ x) && decide (x < r.f0 + pw r.f1)) || covB R x) := rfl
      rw [e1, e2, runF_in, Bool.or_assoc]
  have h := this R []
  unfold framesB
  rw [h]; rfl
theorem clearB_congr {n : Int} (hn8 : n % 8 = 0) (l l' : List Int) (h : ∀ x, 0 ≤ x → x < n → inB l x = inB l' x) (a o : Int) (ha : 0 ≤ a) (han : a < n) (ho : 0 ≤ o ∧ o ≤ 3) : clearB l a o = clearB l' a o := by
  have hp := pw_pos o
  have key : ∀ l l' : List Int, (∀ x, 0 ≤ x → x < n → inB l x = inB l' x) → clearB l a o = true → clearB l' a o = true := by
    intro l l' h hc
    obtain ⟨h1, h2⟩ := (clearB_iff l a o).1 hc
    refine (clearB_iff l' a o).2 ⟨fun x hx1 hx2 => ?_, h2⟩
    have hx3 : x < n := by
      rcases pw_cases ho with ⟨e3, e4⟩ | ⟨e3, e4⟩ | ⟨e3, e4⟩ | ⟨e3, e4⟩ <;> rw [e4] at h2 hx2 <;> omega
    rw [← h x (by omega) hx3]
    exact h1 x hx1 hx2
  rw [Bool.eq_iff_iff]
  exact ⟨key l l' h, key l' l (fun x a b => (h x a b).symm)⟩
theorem runsOf_congr {n : Int} (hs : sizeB n = true) (l l' : List Int) (h : ∀ x, 0 ≤ x → x < n → inB l x = inB l' x) : runsOf n l = runsOf n l' := by
  obtain ⟨hn1, hn2, hn3⟩ := sizeB_bd hs
  unfold runsOf
  refine jn_congr _ _ n (fun a ha han => ?_) _ _ _ (by omega)
  unfold ordC
  rw [clearB_congr hn3 l l' h a 3 ha han (by omega), clearB_congr hn3 l l' h a 2 ha han (by omega), clearB_congr hn3 l l' h a 1 ha han (by omega), clearB_congr hn3 l l' h a 0 ha han (by omega)]
theorem covB_cons (r : RunW) (R : List RunW) (x : Int) : covB (r :: R) x = (decide (r.f0 ≤ x) && decide (x < r.f0 + pw r.f1) || covB R x) := rfl
theorem covB_iff (R : List RunW) (x : Int) : covB R x = true ↔ ∃ r ∈ R, r.f0 ≤ x ∧ x < r.f0 + pw r.f1 := by
  unfold covB
  rw [List.any_eq_true]
  constructor
  · rintro ⟨r, hr, h⟩
    rw [Bool.and_eq_true, decide_eq_true_eq, decide_eq_true_eq] at h
    exact ⟨r, hr, h⟩
  · rintro ⟨r, hr, h⟩
    exact ⟨r, hr, by rw [decide_eq_true h.1, decide_eq_true h.2]; rfl⟩
theorem right_sorted {n : Int} : ∀ (R : List RunW) (p : Option RunW) (r : RunW), RightFrom n p (r :: R) → ∀ t ∈ R, r.f0 + pw r.f1 ≤ t.f0 := by
  intro R
  induction R with
  | nil => intro p r _ t ht; cases ht
  | cons s R ih =>
    intro p r h t ht
    obtain ⟨_, _, h3⟩ := h
    have h4 := (h3.2.1 r rfl).1
    rcases List.mem_cons.1 ht with rfl | ht
    · exact h4
    · have := ih (some r) s h3 t ht
      have := pw_pos s.f1
      omega
theorem right_one {n : Int} : ∀ (R : List RunW) (p : Option RunW), RightFrom n p R → ∀ t ∈ R, oneB n t = true := by
  intro R
  induction R with
  | nil => intro p _ t ht; cases ht
  | cons s R ih =>
    intro p h t ht
    rcases List.mem_cons.1 ht with rfl | ht
    · exact h.1
    · exact ih _ h.2.2 t ht
theorem no_great {n : Int} (hn : 8 ≤ n ∧ n ≤ 32) : ∀ (R : List RunW) (p : Option RunW) (r : RunW), RightFrom n p (r :: R) → r.f1 < 3 → r.f0 % (2 * pw r.f1) = 0 → (∀ x, r.f0 ≤ x → x < r.f0 + 2 * pw r.f1 → covB (r :: R) x = true) → False := by
  intro R
  induction R with
  | nil =>
    intro p r h h3 hm hc
    have hp := pw_pos r.f1
    have := hc (r.f0 + pw r.f1) (by omega) (by omega)
    obtain ⟨t, ht, h1, h2⟩ := (covB_iff _ _).1 this
    rw [List.mem_singleton] at ht
    subst ht
    omega
  | cons s R ih =>
    intro p r h h3 hm hc
    have hp := pw_pos r.f1
    have hx := hc (r.f0 + pw r.f1) (by omega) (by omega)
    have hsort := right_sorted (s :: R) p r h
    have hsort2 := right_sorted R (some r) s h.2.2
    have hs0 : s.f0 = r.f0 + pw r.f1 := by
      obtain ⟨t, ht, h1, h2⟩ := (covB_iff _ _).1 hx
      rcases List.mem_cons.1 ht with rfl | ht
      · omega
      · have h4 := hsort t ht
        have h5 := hsort s List.mem_cons_self
        rcases List.mem_cons.1 ht with rfl | ht
        · omega
        · have := hsort2 t ht
          have := pw_pos s.f1
          omega
    obtain ⟨hr1, hr2, hr3⟩ := oneB_bd h.1
    obtain ⟨hs1, hs2, hs3⟩ := oneB_bd h.2.2.1
    have hbro := (h.2.2.2.1 r rfl).2
    by_cases he : s.f1 = r.f1
    · have : broB r s = true := by
        unfold broB
        rw [decide_eq_true he.symm, decide_eq_true h3, decide_eq_true hm, decide_eq_true hs0]
        rfl
      rw [this] at hbro
      cases hbro
    · by_cases hlt : s.f1 < r.f1
      · refine ih (some r) s h.2.2 (by omega) ?_ (fun x h1 h2 => ?_)
        · rcases pw_cases hr1 with ⟨e1, e2⟩ | ⟨e1, e2⟩ | ⟨e1, e2⟩ | ⟨e1, e2⟩ <;> rcases pw_cases hs1 with ⟨e3, e4⟩ | ⟨e3, e4⟩ | ⟨e3, e4⟩ | ⟨e3, e4⟩ <;> rw [e2] at hm hs0 hr3 <;> rw [e4] at hs3 ⊢ <;> omega
        · have hle : 2 * pw s.f1 ≤ pw r.f1 := by
            rcases pw_cases hr1 with ⟨e1, e2⟩ | ⟨e1, e2⟩ | ⟨e1, e2⟩ | ⟨e1, e2⟩ <;> rcases pw_cases hs1 with ⟨e3, e4⟩ | ⟨e3, e4⟩ | ⟨e3, e4⟩ | ⟨e3, e4⟩ <;> rw [e2, e4] <;> omega
          have := hc x (by omega) (by omega)
          rw [covB_cons, decide_eq_false (show ¬ x < r.f0 + pw r.f1 by omega), Bool.and_false, Bool.false_or] at this
          exact this
      · rcases pw_cases hr1 with ⟨e1, e2⟩ | ⟨e1, e2⟩ | ⟨e1, e2⟩ | ⟨e1, e2⟩ <;> rcases pw_cases hs1 with ⟨e3, e4⟩ | ⟨e3, e4⟩ | ⟨e3, e4⟩ | ⟨e3, e4⟩ <;> rw [e2] at hm hs0 hr3 <;> rw [e4] at hs3 <;> omega
theorem head_ord {n : Int} (hn : 8 ≤ n ∧ n ≤ 32) (hn8 : n % 8 = 0) (l : List Int) (R : List RunW) (p : Option RunW) (r : RunW) (h : RightFrom n p (r :: R)) (hc : ∀ x, r.f0 ≤ x → x < n → covB (r :: R) x = !inB l x) : ordC (clearB l r.f0) = r.f1 := by
  obtain ⟨hr1, hr2, hr3⟩ := oneB_bd h.1
  rw [wrap_size hn] at hr2
  have hp := pw_pos r.f1
  have h1 : clearB l r.f0 r.f1 = true := (clearB_iff _ _ _).2 ⟨fun x h1 h2 => by
    have := hc x h1 (by omega)
    rw [covB_cons, decide_eq_true h1, decide_eq_true h2] at this
    simpa using this.symm, hr3⟩
  have h2 := ordC_max (clearB l r.f0) r.f1 hr1 h1
  by_cases h3 : ordC (clearB l r.f0) = r.f1
  · exact h3
  · exfalso
    have hb := ordC_bd (clearB l r.f0)
    have hi := (clearB_iff _ _ _).1 (ordC_is (clearB l r.f0) (by omega))
    have hend := take_end hn8 (l := l) (a := r.f0) (by omega) (by omega)
    generalize ordC (clearB l r.f0) = o at *
    have hle : 2 * pw r.f1 ≤ pw o := by
      rcases pw_cases hr1 with ⟨e1, e2⟩ | ⟨e1, e2⟩ | ⟨e1, e2⟩ | ⟨e1, e2⟩ <;> rcases pw_cases (o := o) (by omega) with ⟨e3, e4⟩ | ⟨e3, e4⟩ | ⟨e3, e4⟩ | ⟨e3, e4⟩ <;> rw [e2, e4] <;> omega
    refine no_great hn R p r h (by omega) ?_ (fun x h4 h5 => ?_)
    · have h6 := hi.2
      rcases pw_cases hr1 with ⟨e1, e2⟩ | ⟨e1, e2⟩ | ⟨e1, e2⟩ | ⟨e1, e2⟩ <;> rcases pw_cases (o := o) (by omega) with ⟨e3, e4⟩ | ⟨e3, e4⟩ | ⟨e3, e4⟩ | ⟨e3, e4⟩ <;> rw [e4] at h6 <;> rw [e2] <;> omega
    · rw [hc x h4 (by omega), hi.1 x h4 (by omega)]; rfl
theorem uniq_from {n : Int} (hn : 8 ≤ n ∧ n ≤ 32) (hn8 : n % 8 = 0) (l : List Int) : ∀ (f : Nat) (a : Int) (R : List RunW) (p : Option RunW), 0 ≤ a → n ≤ a + f → RightFrom n p R → (∀ r ∈ R, a ≤ r.f0) → (∀ x, a ≤ x → x < n → covB R x = !inB l x) →
    jn (fun a => ordC (clearB l a)) n f a [] = R := by
  have hend : ∀ (a : Int) (R : List RunW) (p : Option RunW), n ≤ a → RightFrom n p R → (∀ r ∈ R, a ≤ r.f0) → R = [] := by
    intro a R p ha h hge
    cases R with
    | nil => rfl
    | cons r R =>
      obtain ⟨hr1, hr2, hr3⟩ := oneB_bd h.1
      rw [wrap_size hn] at hr2
      have := hge r List.mem_cons_self
      have := pw_pos r.f1
      omega
  intro f
  induction f with
  | zero =>
    intro a R p h0 hf h hge hc
    rw [hend a R p (by omega) h hge]
    rfl
  | succ f ih =>
    intro a R p h0 hf h hge hc
    unfold jn
    by_cases han : a < n
    · rw [if_pos han]
      cases hcov : covB R a with
      | false =>
        have hin : inB l a = true := by have := hc a (by omega) han; rw [hcov] at this; simpa using this.symm
        have hneg : ordC (clearB l a) < 0 := by
          by_cases hq : ordC (clearB l a) < 0
          · exact hq
          · exfalso
            have := ((clearB_iff _ _ _).1 (ordC_is (clearB l a) (by omega))).1 a (by omega) (by have := pw_pos (ordC (clearB l a)); omega)
            rw [hin] at this
            cases this
        rw [if_pos hneg]
        refine ih (a + 1) R p (by omega) (by omega) h (fun r hr => ?_) (fun x h1 h2 => hc x (by omega) h2)
        have h3 := hge r hr
        have h4 := pw_pos r.f1
        by_cases h5 : r.f0 = a
        · have : covB R a = true := (covB_iff _ _).2 ⟨r, hr, by omega, by omega⟩
          rw [hcov] at this; cases this
        · omega
      | true =>
        obtain ⟨t, ht, h1, h2⟩ := (covB_iff _ _).1 hcov
        cases R with
        | nil => cases ht
        | cons r R =>
          have hsort := right_sorted R p r h
          have hr0 : r.f0 = a := by
            have := hge r List.mem_cons_self
            rcases List.mem_cons.1 ht with rfl | ht
            · omega
            · have := hsort t ht
              have := pw_pos r.f1
              omega
          subst hr0
          have ho := head_ord hn hn8 l R p r h hc
          have hr1 := (oneB_bd h.1).1
          have hp := pw_pos r.f1
          simp only [ho, if_neg (show ¬ r.f1 < 0 by omega), List.nil_append]
          rw [jn_out, ih (r.f0 + pw r.f1) R (some r) (by omega) (by omega) h.2.2 (fun t ht => hsort t ht) (fun x h3 h4 => by
            have := hc x (by omega) h4
            rw [covB_cons, decide_eq_false (show ¬ x < r.f0 + pw r.f1 by omega), Bool.and_false, Bool.false_or] at this
            exact this)]
          rfl
    · rw [if_neg han, hend a R p (by omega) h hge]
theorem right_of_at {n : Int} : ∀ (R : List RunW) (p : Option RunW), (∀ q r R2, p = some q → R = r :: R2 → q.f0 + pw q.f1 ≤ r.f0 ∧ broB q r = false) → (∀ i, i < R.length → oneB n (runAt R i) = true ∧ (0 < i → (runAt R (i - 1)).f0 + pw (runAt R (i - 1)).f1 ≤ (runAt R i).f0 ∧ broB (runAt R (i - 1)) (runAt R i) = false)) → RightFrom n p R := by
  intro R
  induction R with
  | nil => intro p _ _; trivial
  | cons r R ih =>
    intro p hp h
    refine ⟨(h 0 (by simp)).1, fun q hq => hp q r R hq rfl, ih (some r) (fun q s R2 hq hR => ?_) (fun i hi => ?_)⟩
    · cases hq
      subst hR
      exact (h 1 (by simp)).2 (by omega)
    · have h1 := h (i + 1) (by simp only [List.length_cons]; omega)
      refine ⟨h1.1, fun h0 => ?_⟩
      have h2 := h1.2 (by omega)
      obtain ⟨j, rfl⟩ : ∃ j, i = j + 1 := ⟨i - 1, by omega⟩
      exact h2
theorem right_of {n : Int} {R : List RunW} (h : runsB n R = true) : RightFrom n none R := by
  unfold runsB at h
  rw [Bool.and_eq_true] at h
  have hs := sizeB_bd h.1
  have ha := List.all_eq_true.1 h.2
  refine right_of_at R none (fun q r R2 hq => by cases hq) (fun i hi => ?_)
  have h1 := ha i (List.mem_range.2 hi)
  unfold okAt apB at h1
  simp only [Bool.and_eq_true] at h1
  refine ⟨h1.1.1, fun h0 => ?_⟩
  have h2 := h1.1.2
  have h3 := h1.2
  rw [decide_eq_false (show ¬ i = 0 by omega), Bool.false_or] at h2 h3
  have h4 := of_decide_eq_true h2
  have h5 := ha (i - 1) (List.mem_range.2 (by omega))
  unfold okAt apB at h5
  simp only [Bool.and_eq_true] at h5
  obtain ⟨q1, q2, q3⟩ := oneB_bd h5.1.1
  rw [wrap_size ⟨hs.1, hs.2.1⟩] at q2
  have := pw_pos (runAt R (i - 1)).f1
  have := pw_le (runAt R (i - 1)).f1
  rw [wrap64_id (by omega) (by omega)] at h4
  exact ⟨h4, by simpa using h3⟩
theorem runsOf_uniq {n : Int} {R : List RunW} (h : runsB n R = true) (l : List Int) (hc : ∀ x, 0 ≤ x → x < n → covB R x = !inB l x) : runsOf n l = R := by
  have hs := sizeB_bd (by unfold runsB at h; rw [Bool.and_eq_true] at h; exact h.1)
  have hr := right_of h
  refine uniq_from ⟨hs.1, hs.2.1⟩ hs.2.2 l n.toNat 0 R none (by omega) (by omega) hr (fun r hm => ?_) hc
  have := right_one R none hr r hm
  have := (oneB_bd this).2.1
  omega
theorem l01New_ends (l : List Int) (hl : l.length ≤ 9223372036854775806) : ∃ h, Ev (fun k => spec_l01New.f k l) (l, 0, h) := by
  have key : ∀ (d i : Nat) (h : Int), i + d = l.length → ∃ h', Ev (fun k => spec_l01New.l0 k l h (i : Int)) (l, 0, h') := by
    intro d
    induction d with
    | zero =>
      intro i h hi
      refine ⟨h, 1, fun n hn => ?_⟩
      obtain ⟨m, rfl⟩ : ∃ m, n = m + 1 := ⟨n - 1, by omega⟩
      show spec_l01New.l0 (m + 1) _ _ _ = _
      simp only [spec_l01New.l0]
      rw [if_neg (by omega)]
    | succ d ih =>
      intro i h hi
      by_cases h4 : (i : Int) < 4000
      · obtain ⟨h', he⟩ := ih (i + 1) (Go.bits .and .i64 (wrap64 ((wrap64 ((wrap64 (h * 131)) + (wrap64 (rd l (i : Int))))) + 7)) 1073741823) (by omega)
        refine ⟨h', Ev.step (fun k => ?_) he⟩
        show spec_l01New.l0 (k + 1) _ _ _ = _
        simp only [spec_l01New.l0]
        rw [if_pos (by omega), if_pos h4, if_pos (by omega), show wrap64 ((i : Int) + 1) = ((i + 1 : Nat) : Int) from by unfold wrap64; omega]
      · refine ⟨h, 1, fun n hn => ?_⟩
        obtain ⟨m, rfl⟩ : ∃ m, n = m + 1 := ⟨n - 1, by omega⟩
        show spec_l01New.l0 (m + 1) _ _ _ = _
        simp only [spec_l01New.l0]
        rw [if_pos (by omega), if_neg h4]
  obtain ⟨h', he⟩ := key l.length 0 (wrap64 (10901 + (l.length : Int))) (by omega)
  exact ⟨h', he⟩
theorem l01Byte_ends (l : List Int) (hl : l.length ≤ 9223372036854775806) (i h : Int) (h0 : 0 ≤ i) (h1 : i ≤ l.length) :
    ∃ x i' h', spec_l01Byte.f l i h = some (x, i', h') ∧ 0 ≤ x ∧ x < 256 ∧ 0 ≤ i' ∧ i' ≤ l.length := by
  unfold spec_l01Byte.f
  by_cases hi : i < (l.length : Int)
  · rw [if_pos hi, if_pos h0]
    refine ⟨_, _, _, rfl, ?_, ?_, ?_, ?_⟩
    · rw [and255]; omega
    · rw [and255]; omega
    · rw [wrap64_id (by omega) (by omega)]; omega
    · rw [wrap64_id (by omega) (by omega)]; omega
  · rw [if_neg hi]
    refine ⟨_, _, _, rfl, ?_, ?_, h0, h1⟩
    · rw [and255]; omega
    · rw [and255]; omega
theorem l01Below_ends (l : List Int) (hl : l.length ≤ 9223372036854775806) (i h n : Int) (h0 : 0 ≤ i) (h1 : i ≤ l.length) :
    ∃ x i' h', spec_l01Below.f l i h n = some (x, i', h') ∧ 0 ≤ x ∧ (0 < n → x < n) ∧ (n ≤ 0 → x = 0) ∧ 0 ≤ i' ∧ i' ≤ l.length := by
  unfold spec_l01Below.f
  by_cases hn : n ≤ 0
  · rw [if_pos hn]
    exact ⟨_, _, _, rfl, by omega, by omega, fun _ => rfl, h0, h1⟩
  · rw [if_neg hn]
    obtain ⟨x, i1, g1, e1, a1, b1, c1, d1⟩ := l01Byte_ends l hl i h h0 h1
    by_cases h256 : n ≤ 256
    · rw [if_pos h256, e1]
      simp only [Option.bind_some]
      rw [if_neg (by omega)]
      refine ⟨_, _, _, rfl, ?_, ?_, by omega, c1, d1⟩
      · rw [tmod_nonneg a1 (by omega)]; exact Int.emod_nonneg _ (by omega)
      · intro hp; rw [tmod_nonneg a1 (by omega)]; exact Int.emod_lt_of_pos _ hp
    · rw [if_neg h256, e1]
      simp only [Option.bind_some]
      obtain ⟨y, i2, g2, e2, a2, b2, c2, d2⟩ := l01Byte_ends l hl i1 g1 c1 d1
      rw [e2]; simp only [Option.bind_some]
      obtain ⟨z, i3, g3, e3, a3, b3, c3, d3⟩ := l01Byte_ends l hl i2 g2 c2 d2
      rw [e3]; simp only [Option.bind_some]
      obtain ⟨t, i4, g4, e4, a4, b4, c4, d4⟩ := l01Byte_ends l hl i3 g3 c3 d3
      rw [e4]; simp only [Option.bind_some]
      rw [if_neg (by omega)]
      have hnn : 0 ≤ wrap64 ((wrap64 ((wrap64 ((wrap64 (x * 16777216)) + (wrap64 (y * 65536)))) + (wrap64 (z * 256)))) + t) := by unfold wrap64; omega
      refine ⟨_, _, _, rfl, ?_, ?_, by omega, c4, d4⟩
      · rw [tmod_nonneg hnn (by omega)]; exact Int.emod_nonneg _ (by omega)
      · intro hp; rw [tmod_nonneg hnn (by omega)]; exact Int.emod_lt_of_pos _ hp
theorem rr_once_ends (l : List Int) (hl : l.length ≤ 9223372036854775806) (i h n : Int) (h0 : 0 ≤ i) (h1 : i ≤ l.length) :
    ∃ b i' h', spec_l01Once.f l i h n = some (b, i', h') ∧ 0 ≤ i' ∧ i' ≤ l.length := by
  obtain ⟨x, i1, g1, e1, a1, b1, _, c1, d1⟩ := l01Below_ends l hl i h n h0 h1
  unfold spec_l01Once.f
  rw [e1]
  exact ⟨_, _, _, rfl, c1, d1⟩
theorem taken_ends (l : List Int) (hl : l.length ≤ 9223372036854775806) (n : Int) (hn : n ≤ 32) (i h : Int) (h0 : 0 ≤ i) (h1 : i ≤ l.length) :
    ∃ T i' h', Ev (fun k => spec_l03Taken.f k l i h n) (T, i', h') ∧ T.length ≤ 32 ∧ takenB n T = true := by
  obtain ⟨x, i1, g1, e1, a1, b1, _, c1, d1⟩ := l01Below_ends l hl i h 5 h0 h1
  have key : ∀ (d : Nat) (a : Int) (m : Int) (acc : List Int) (j g : Int), n ≤ a + d → 0 ≤ a → a ≤ 100 → (acc.length : Int) ≤ a → (∀ y ∈ acc, 0 ≤ y ∧ y ≤ n - 1) → (acc.length ≤ 32) → 0 ≤ j → j ≤ l.length →
      ∃ T i' h', Ev (fun k => spec_l03Taken.l0 k n acc m a l j g) (T, i', h') ∧ T.length ≤ 32 ∧ ∀ y ∈ T, 0 ≤ y ∧ y ≤ n - 1 := by
    intro d
    induction d with
    | zero =>
      intro a m acc j g hd ha _ _ hy hl32 _ _
      refine ⟨acc, j, g, Ev.of_succ (fun k => ?_), hl32, hy⟩
      simp only [spec_l03Taken.l0]
      rw [if_neg (by omega)]
    | succ d ih =>
      intro a m acc j g hd ha ha2 hlen hy hl32 hj0 hj1
      by_cases hlt : a < n
      · obtain ⟨b, i2, g2, e2, c2, d2⟩ := rr_once_ends l hl j g m hj0 hj1
        have hw : wrap64 (a + 1) = a + 1 := wrap64_id (by omega) (by omega)
        cases b with
        | true =>
          obtain ⟨T, i', h', hT, hx⟩ := ih (a + 1) m (acc ++ [a]) i2 g2 (by omega) (by omega) (by omega) (by simp only [List.length_append, List.length_cons, List.length_nil]; omega) (by
            intro y hm
            rcases List.mem_append.1 hm with hm | hm
            · exact hy y hm
            · rw [List.mem_singleton] at hm
              subst hm
              omega) (by simp only [List.length_append, List.length_cons, List.length_nil]; omega) c2 d2
          refine ⟨T, i', h', Ev.step (fun k => ?_) hT, hx⟩
          simp only [spec_l03Taken.l0]
          rw [if_pos hlt, e2]
          simp only [Option.bind_some, if_true]
          rw [if_pos (by omega), hw]
        | false =>
          obtain ⟨T, i', h', hT, hx⟩ := ih (a + 1) m acc i2 g2 (by omega) (by omega) (by omega) (by omega) hy hl32 c2 d2
          refine ⟨T, i', h', Ev.step (fun k => ?_) hT, hx⟩
          simp only [spec_l03Taken.l0]
          rw [if_pos hlt, e2]
          simp only [Option.bind_some, Bool.false_eq_true, if_false]
          rw [hw]
      · refine ⟨acc, j, g, Ev.of_succ (fun k => ?_), hl32, hy⟩
        simp only [spec_l03Taken.l0]
        rw [if_neg hlt]
  obtain ⟨T, i', h', hT, h32, hx⟩ := key n.toNat 0 (wrap64 (1 + x)) [] i1 g1 (by omega) (by omega) (by omega) (by simp) (by intro y hy; cases hy) (by simp) c1 d1
  refine ⟨T, i', h', ?_, h32, ?_⟩
  · unfold spec_l03Taken.f
    rw [e1]
    exact hT
  · unfold takenB
    rw [List.all_eq_true]
    intro y hy
    exact decide_eq_true (hx y hy)
theorem rightRuns_ends (l : List Int) (hl : l.length ≤ 9223372036854775806) : ∃ n T, sizeB n = true ∧ T.length ≤ 32 ∧ takenB n T = true ∧ Ev (fun k => spec_DrawRightRuns.f k l) (n, runsOf n T) := by
  obtain ⟨g0, e0⟩ := l01New_ends l hl
  obtain ⟨x, i1, g1, e1, a1, b1, _, c1, d1⟩ := l01Below_ends l hl 0 g0 4 (by omega) (by omega)
  have hb := b1 (by omega)
  have hw : wrap64 (8 * (wrap64 (1 + x))) = 8 * (1 + x) := by rw [wrap64_id (n := 1 + x) (by omega) (by omega), wrap64_id (by omega) (by omega)]
  have hs : sizeB (8 * (1 + x)) = true := by unfold sizeB; rw [decide_eq_true (by omega), decide_eq_true (by omega)]; rfl
  obtain ⟨T, i2, g2, hT, h32, ht⟩ := taken_ends l hl (8 * (1 + x)) (by omega) i1 g1 c1 d1
  refine ⟨8 * (1 + x), T, hs, h32, ht, ?_⟩
  unfold spec_DrawRightRuns.f
  refine Ev.bind e0 ?_
  unfold spec_l03Size.f
  rw [e1]
  simp only [Option.bind_some]
  rw [hw]
  refine Ev.bind hT ?_
  have := spec_AllRuns_ev (8 * (1 + x)) T (by omega)
  rw [if_pos ⟨hs, ht⟩] at this
  exact Ev.bind this (Ev.now _)
theorem places_ends (l : List Int) (hl : l.length ≤ 9223372036854775806) : ∃ out, Ev (fun k => spec_DrawPlaces.f k l) out ∧ out.length = 12 ∧ ∀ y ∈ out, 0 ≤ y ∧ y < 10000 := by
  have key : ∀ (d i : Nat) (acc : List Int) (j h : Int), i + d = 12 → acc.length = i → (∀ y ∈ acc, 0 ≤ y ∧ y < 10000) → 0 ≤ j → j ≤ l.length →
      ∃ out, Ev (fun k => spec_DrawPlaces.l0 k acc (i : Int) l j h) out ∧ out.length = 12 ∧ ∀ y ∈ out, 0 ≤ y ∧ y < 10000 := by
    intro d
    induction d with
    | zero =>
      intro i acc j h hi ha hy _ _
      refine ⟨acc, Ev.of_succ (fun k => ?_), by omega, hy⟩
      simp only [spec_DrawPlaces.l0]
      rw [if_neg (by omega)]
    | succ d ih =>
      intro i acc j h hi ha hy h0 h1
      obtain ⟨x, i1, g1, e1, a1, b1, _, c1, d1⟩ := l01Below_ends l hl j h 10000 h0 h1
      obtain ⟨out, h2, h3, h4⟩ := ih (i + 1) (acc ++ [x]) i1 g1 (by omega) (by simp [ha]) (by
        intro y hm
        rcases List.mem_append.1 hm with hm | hm
        · exact hy y hm
        · rw [List.mem_singleton] at hm
          subst hm
          exact ⟨a1, b1 (by omega)⟩) c1 d1
      refine ⟨out, Ev.step (fun k => ?_) h2, h3, h4⟩
      simp only [spec_DrawPlaces.l0]
      rw [if_pos (by omega), e1]
      simp only [Option.bind_some]
      rw [if_pos (by omega), wrap_succ (by omega)]
  obtain ⟨g0, e0⟩ := l01New_ends l hl
  obtain ⟨x, i1, g1, e1, a1, b1, c1, d1⟩ := l01Byte_ends l hl 0 g0 (by omega) (by omega)
  obtain ⟨out, h2, h3⟩ := key 12 0 [] i1 g1 rfl rfl (by intro y hy; cases hy) c1 d1
  refine ⟨out, ?_, h3⟩
  unfold spec_DrawPlaces.f
  refine Ev.bind e0 ?_
  rw [e1]
  exact h2
theorem impl_framesOf_ev (l : List RunW) (hl : l.length ≤ 1048576) (ho : ∀ i, i < l.length → (0 ≤ (l.getD i zr).f1 ∧ (l.getD i zr).f1 ≤ 3) ∧ 0 ≤ (l.getD i zr).f0 ∧ (l.getD i zr).f0 ≤ 32) : Ev (fun k => impl_framesOf.f k l) (framesB l) := by
  have key := (ev_fold (fun k s i => impl_framesOf.l0 k s l (l.length : Int) (i : Int)) l.length (fun s i => s ++ runF (l.getD i zr)) id (fun i s => s.length ≤ 8 * i) (by
    intro i s hi hs
    have hone := ho i hi
    have hlen := runF_len (l.getD i zr)
    refine ⟨by simp only [List.length_append]; omega, fun r h => ?_⟩
    have hin := ev_yes (fun k j => impl_framesOf.l1 k (s ++ (runF (l.getD i zr)).take j) l (l.length : Int) (i : Int) (pw (l.getD i zr).f1) (j : Int) (l.getD i zr).f0 (l.getD i zr).f1) (pw (l.getD i zr).f1).toNat (fun _ => true) r (by
      intro j hj _ r h
      have hp := pw_le (l.getD i zr).f1
      have hp0 := pw_pos (l.getD i zr).f1
      refine Ev.step (fun k => ?_) h
      simp only [impl_framesOf.l1]
      rw [if_pos (by omega), if_pos (by simp only [List.length_append, List.length_take]; omega), runF_take _ _ hj, wrap_succ (by omega), wrap64_id (by omega) (by omega), List.append_assoc]) (by simp) (by
      have hp0 := pw_pos (l.getD i zr).f1
      rw [List.take_of_length_le (by simp [runF])]
      refine Ev.step (fun k => ?_) h
      simp only [impl_framesOf.l1]
      rw [if_neg (by omega), wrap_succ (by omega)])
    refine Ev.step (fun k => ?_) hin
    simp only [impl_framesOf.l0]
    rw [if_pos (by omega), if_pos (by omega), if_pos (by omega), rdRW, if_pos hone.1.1, shl_eq _ hone.1]
    simp) (by
    intro s _
    refine Ev.of_succ (fun k => ?_)
    simp only [impl_framesOf.l0]
    rw [if_neg (by omega)]
    rfl) [] (by simp)).1
  rw [foldl_getD (fun (s : List Int) (r : RunW) => s ++ runF r) l zr] at key
  exact key
theorem impl_FreeFrames_ev (n : Int) (l : List RunW) (hl : l.length ≤ 1048576) : Ev (fun k => impl_FreeFrames.f k n l) (if runsB n l = true then framesB l else []) := by
  unfold impl_FreeFrames.f
  refine Ev.bind (impl_RunsOk_ev n l hl) ?_
  by_cases hb : runsB n l = true
  · simp only [if_pos hb]
    refine Ev.bind (impl_framesOf_ev l hl (fun i hi => runOne hb hi)) (Ev.now _)
  · simp only [if_neg hb]; exact Ev.now _
/-! What is left when the first frames of a run are taken. -/
def hv (a : Int) : Nat → Int → List RunW
  | 0, _ => []
  | m + 1, k => ⟨a + pw k, k⟩ :: hv a m (k + 1)
def lastOr : Option RunW → List RunW → Option RunW
  | p, [] => p
  | _, x :: A => lastOr (some x) A
theorem right_app {n : Int} (C : List RunW) : ∀ (A : List RunW) (p : Option RunW), RightFrom n p (A ++ C) ↔ RightFrom n p A ∧ RightFrom n (lastOr p A) C := by
  intro A
  induction A with
  | nil => intro p; exact ⟨fun h => ⟨trivial, h⟩, fun h => h.2⟩
  | cons x A ih =>
    intro p
    constructor
    · rintro ⟨h1, h2, h3⟩
      have := (ih (some x)).1 h3
      exact ⟨⟨h1, h2, this.1⟩, this.2⟩
    · rintro ⟨⟨h1, h2, h3⟩, h4⟩
      exact ⟨h1, h2, (ih (some x)).2 ⟨h3, h4⟩⟩
theorem right_before {n : Int} (r : RunW) (B : List RunW) : ∀ (A : List RunW) (p : Option RunW), RightFrom n p (A ++ r :: B) → ∀ t ∈ A, t.f0 + pw t.f1 ≤ r.f0 := by
  intro A
  induction A with
  | nil => intro p _ t ht; cases ht
  | cons x A ih =>
    intro p h t ht
    rcases List.mem_cons.1 ht with rfl | ht
    · exact right_sorted (A ++ r :: B) p t h r (List.mem_append_right _ List.mem_cons_self)
    · exact ih (some x) h.2.2 t ht
theorem bro_far {q r : RunW} (h : q.f0 + pw q.f1 < r.f0) : broB q r = false := by
  unfold broB
  rw [decide_eq_false (show ¬ r.f0 = q.f0 + pw q.f1 by omega), Bool.and_false]
theorem hv_right {n : Int} (hn : 8 ≤ n ∧ n ≤ 32) (r : RunW) (hr : oneB n r = true) (B : List RunW) (hB : RightFrom n (some r) B) : ∀ (m : Nat) (k : Int), 1 ≤ k → k + m = r.f1 → RightFrom n (some ⟨r.f0 + pw (k - 1), k - 1⟩) (hv r.f0 m k ++ B) := by
  obtain ⟨hr1, hr2, hr3⟩ := oneB_bd hr
  rw [wrap_size hn] at hr2
  intro m
  induction m with
  | zero =>
    intro k hk hm
    have hk2 : k = r.f1 := by omega
    cases B with
    | nil => trivial
    | cons s B =>
      obtain ⟨h1, h2, h3⟩ := hB
      refine ⟨h1, fun q hq => ?_, h3⟩
      cases hq
      have h4 := (h2 r rfl).1
      rcases pw_cases hr1 with ⟨e1, e2⟩ | ⟨e1, e2⟩ | ⟨e1, e2⟩ | ⟨e1, e2⟩
      · omega
      · have e3 : k - 1 = 0 := by omega
        rw [e2] at h4 hr3
        refine ⟨by show r.f0 + pw (k - 1) + pw (k - 1) ≤ s.f0; rw [e3, show pw 0 = 1 from rfl]; omega, ?_⟩
        show (decide (k - 1 = s.f1) && decide (k - 1 < 3) && decide ((r.f0 + pw (k - 1)) % (2 * pw (k - 1)) = 0) && _) = false
        rw [e3, show pw 0 = 1 from rfl, decide_eq_false (show ¬ (r.f0 + 1) % (2 * 1) = 0 by omega)]
        simp
      · have e3 : k - 1 = 1 := by omega
        rw [e2] at h4 hr3
        refine ⟨by show r.f0 + pw (k - 1) + pw (k - 1) ≤ s.f0; rw [e3, show pw 1 = 2 from rfl]; omega, ?_⟩
        show (decide (k - 1 = s.f1) && decide (k - 1 < 3) && decide ((r.f0 + pw (k - 1)) % (2 * pw (k - 1)) = 0) && _) = false
        rw [e3, show pw 1 = 2 from rfl, decide_eq_false (show ¬ (r.f0 + 2) % (2 * 2) = 0 by omega)]
        simp
      · have e3 : k - 1 = 2 := by omega
        rw [e2] at h4 hr3
        refine ⟨by show r.f0 + pw (k - 1) + pw (k - 1) ≤ s.f0; rw [e3, show pw 2 = 4 from rfl]; omega, ?_⟩
        show (decide (k - 1 = s.f1) && decide (k - 1 < 3) && decide ((r.f0 + pw (k - 1)) % (2 * pw (k - 1)) = 0) && _) = false
        rw [e3, show pw 2 = 4 from rfl, decide_eq_false (show ¬ (r.f0 + 4) % (2 * 4) = 0 by omega)]
        simp
  | succ m ih =>
    intro k hk hm
    have hkr : k = 1 ∨ k = 2 := by omega
    refine ⟨?_, fun q hq => ?_, ?_⟩
    · unfold oneB
      show (decide (0 ≤ k ∧ k ≤ 3) && decide (0 ≤ r.f0 + pw k ∧ r.f0 + pw k ≤ wrap64 (n - pw k)) && decide ((r.f0 + pw k) % pw k = 0)) = true
      rw [wrap_size hn]
      have hle : pw k + pw k ≤ pw r.f1 ∧ r.f0 % pw k = 0 := by
        rcases hkr with rfl | rfl <;> rcases pw_cases hr1 with ⟨e1, e2⟩ | ⟨e1, e2⟩ | ⟨e1, e2⟩ | ⟨e1, e2⟩ <;> rw [e2] at hr3 ⊢ <;> first | omega | (rw [show pw 1 = 2 from rfl]; omega) | (rw [show pw 2 = 4 from rfl]; omega)
      have hp := pw_pos k
      rw [decide_eq_true (show 0 ≤ k ∧ k ≤ 3 by omega), decide_eq_true (show 0 ≤ r.f0 + pw k ∧ r.f0 + pw k ≤ n - pw k by omega), decide_eq_true (show (r.f0 + pw k) % pw k = 0 by rw [Int.add_emod_right]; exact hle.2)]
      rfl
    · cases hq
      refine ⟨?_, ?_⟩
      · show r.f0 + pw (k - 1) + pw (k - 1) ≤ r.f0 + pw k
        rcases hkr with rfl | rfl
        · rw [show pw (1 - 1) = 1 from rfl, show pw 1 = 2 from rfl]; omega
        · rw [show pw (2 - 1) = 2 from rfl, show pw 2 = 4 from rfl]; omega
      · show (decide (k - 1 = k) && _ && _ && _) = false
        rw [decide_eq_false (show ¬ k - 1 = k by omega)]
        rfl
    · have := ih (k + 1) (by omega) (by omega)
      rw [show k + 1 - 1 = k by omega] at this
      exact this
theorem hv_from {n : Int} (hn : 8 ≤ n ∧ n ≤ 32) (q : Option RunW) (r : RunW) (B : List RunW) (h : RightFrom n q (r :: B)) (o : Int) (ho : 0 ≤ o ∧ o ≤ r.f1) : RightFrom n q (hv r.f0 (r.f1 - o).toNat o ++ B) := by
  obtain ⟨h1, h2, h3⟩ := h
  obtain ⟨hr1, hr2, hr3⟩ := oneB_bd h1
  rw [wrap_size hn] at hr2
  have hp := pw_pos r.f1
  by_cases he : o = r.f1
  · subst he
    rw [show (r.f1 - r.f1).toNat = 0 by omega]
    show RightFrom n q B
    cases B with
    | nil => trivial
    | cons s B =>
      obtain ⟨h4, h5, h6⟩ := h3
      have h7 := (h5 r rfl).1
      refine ⟨h4, fun t ht => ?_, h6⟩
      have h8 := (h2 t ht).1
      exact ⟨by omega, bro_far (by omega)⟩
  · obtain ⟨m, hm⟩ : ∃ m, (r.f1 - o).toNat = m + 1 := ⟨(r.f1 - o).toNat - 1, by omega⟩
    rw [hm]
    have hpo := pw_pos o
    have hle : pw o + pw o ≤ pw r.f1 ∧ r.f0 % pw o = 0 := by
      rcases pw_cases hr1 with ⟨e1, e2⟩ | ⟨e1, e2⟩ | ⟨e1, e2⟩ | ⟨e1, e2⟩ <;> rcases pw_cases (o := o) (by omega) with ⟨e3, e4⟩ | ⟨e3, e4⟩ | ⟨e3, e4⟩ | ⟨e3, e4⟩ <;> rw [e2] at hr3 ⊢ <;> rw [e4] <;> omega
    refine ⟨?_, fun t ht => ?_, ?_⟩
    · unfold oneB
      show (decide (0 ≤ o ∧ o ≤ 3) && decide (0 ≤ r.f0 + pw o ∧ r.f0 + pw o ≤ wrap64 (n - pw o)) && decide ((r.f0 + pw o) % pw o = 0)) = true
      rw [wrap_size hn, decide_eq_true (show 0 ≤ o ∧ o ≤ 3 by omega), decide_eq_true (show 0 ≤ r.f0 + pw o ∧ r.f0 + pw o ≤ n - pw o by omega), decide_eq_true (show (r.f0 + pw o) % pw o = 0 by rw [Int.add_emod_right]; exact hle.2)]
      rfl
    · have h8 := (h2 t ht).1
      exact ⟨by show _ ≤ r.f0 + pw o; omega, bro_far (by show _ < r.f0 + pw o; omega)⟩
    · have := hv_right hn r h1 B h3 m (o + 1) (by omega) (by omega)
      rw [show o + 1 - 1 = o by omega] at this
      exact this
theorem covB_app (A C : List RunW) (x : Int) : covB (A ++ C) x = (covB A x || covB C x) := by
  unfold covB
  rw [List.any_append]
theorem hv_cov (a : Int) : ∀ (m : Nat) (k : Int) (x : Int), 0 ≤ k → k + m ≤ 3 → covB (hv a m k) x = (decide (a + pw k ≤ x) && decide (x < a + pw (k + m))) := by
  intro m
  induction m with
  | zero =>
    intro k x _ _
    show false = _
    rw [show k + ((0 : Nat) : Int) = k by omega]
    by_cases h : a + pw k ≤ x
    · rw [decide_eq_false (show ¬ x < a + pw k by omega), Bool.and_false]
    · rw [decide_eq_false h, Bool.false_and]
  | succ m ih =>
    intro k x hk hm
    show covB (⟨a + pw k, k⟩ :: hv a m (k + 1)) x = _
    rw [covB_cons, ih (k + 1) x (by omega) (by omega), show k + 1 + (m : Int) = k + ((m + 1 : Nat) : Int) by omega]
    show (decide (a + pw k ≤ x) && decide (x < a + pw k + pw k) || _) = _
    have e : pw k + pw k = pw (k + 1) := by
      rcases (show k = 0 ∨ k = 1 ∨ k = 2 by omega) with rfl | rfl | rfl <;> rfl
    have hle : pw (k + 1) ≤ pw (k + ((m + 1 : Nat) : Int)) := by
      rcases pw_cases (o := k + 1) (by omega) with ⟨e1, e2⟩ | ⟨e1, e2⟩ | ⟨e1, e2⟩ | ⟨e1, e2⟩ <;> rcases pw_cases (o := k + ((m + 1 : Nat) : Int)) (by omega) with ⟨e3, e4⟩ | ⟨e3, e4⟩ | ⟨e3, e4⟩ | ⟨e3, e4⟩ <;> rw [e2, e4] <;> omega
    have hp := pw_pos k
    rw [Int.add_assoc, e]
    by_cases h1 : a + pw k ≤ x
    · by_cases h2 : x < a + pw (k + 1)
      · rw [decide_eq_true h1, decide_eq_true h2, decide_eq_true (show x < a + pw (k + ((m + 1 : Nat) : Int)) by omega)]
        rfl
      · rw [decide_eq_true h1, decide_eq_false h2, decide_eq_true (show a + pw (k + 1) ≤ x by omega)]
        simp
    · rw [decide_eq_false h1, decide_eq_false (show ¬ a + pw (k + 1) ≤ x by omega)]
      simp
def takeL (R : List RunW) (b : Nat) (o : Int) : List RunW := R.take b ++ (hv (runAt R b).f0 ((runAt R b).f1 - o).toNat o ++ R.drop (b + 1))
theorem split_at (R : List RunW) (b : Nat) (hb : b < R.length) : R = R.take b ++ runAt R b :: R.drop (b + 1) := by
  have h1 : R.drop b = R[b] :: R.drop (b + 1) := List.drop_eq_getElem_cons hb
  have h2 : runAt R b = R[b] := by unfold runAt; rw [List.getD_eq_getElem?_getD, List.getElem?_eq_getElem hb]; rfl
  rw [h2, ← h1, List.take_append_drop]
theorem takeL_right {n : Int} {R : List RunW} (h : runsB n R = true) (b : Nat) (hb : b < R.length) (o : Int) (ho : 0 ≤ o ∧ o ≤ (runAt R b).f1) : runsB n (takeL R b o) = true ∧ (∀ x, covB (takeL R b o) x = (covB R x && !(decide ((runAt R b).f0 ≤ x) && decide (x < (runAt R b).f0 + pw o)))) := by
  have hs0 : sizeB n = true := by unfold runsB at h; rw [Bool.and_eq_true] at h; exact h.1
  have hs := sizeB_bd hs0
  have hn : 8 ≤ n ∧ n ≤ 32 := ⟨hs.1, hs.2.1⟩
  have hr := right_of h
  have hsp := split_at R b hb
  unfold takeL
  generalize runAt R b = r at *
  generalize R.take b = A at *
  generalize R.drop (b + 1) = B at *
  subst hsp
  have h1 := (right_app (r :: B) A none).1 hr
  have h2 := hv_from hn (lastOr none A) r B h1.2 o ho
  have hbef := right_before r B A none hr
  have haft := right_sorted B (lastOr none A) r h1.2
  have hr1 := (oneB_bd h1.2.1).1
  refine ⟨runsB_of hs0 ((right_app _ A none).2 ⟨h1.1, h2⟩), fun x => ?_⟩
  rw [covB_app, covB_app, covB_app, covB_cons, hv_cov _ _ _ _ ho.1 (by omega), show o + (((r.f1 - o).toNat : Nat) : Int) = r.f1 by omega]
  have hpo := pw_pos o
  have hle : pw o ≤ pw r.f1 := by
    rcases pw_cases hr1 with ⟨e1, e2⟩ | ⟨e1, e2⟩ | ⟨e1, e2⟩ | ⟨e1, e2⟩ <;> rcases pw_cases (o := o) (by omega) with ⟨e3, e4⟩ | ⟨e3, e4⟩ | ⟨e3, e4⟩ | ⟨e3, e4⟩ <;> rw [e2, e4] <;> omega
  by_cases hx : r.f0 ≤ x ∧ x < r.f0 + pw o
  · have hA : covB A x = false := by
      cases hc : covB A x with
      | false => rfl
      | true =>
        obtain ⟨t, ht, h3, h4⟩ := (covB_iff _ _).1 hc
        have := hbef t ht
        omega
    have hB : covB B x = false := by
      cases hc : covB B x with
      | false => rfl
      | true =>
        obtain ⟨t, ht, h3, h4⟩ := (covB_iff _ _).1 hc
        have := haft t ht
        omega
    rw [hA, hB, decide_eq_true hx.1, decide_eq_true hx.2, decide_eq_false (show ¬ r.f0 + pw o ≤ x by omega)]
    simp
  · have e : (decide (r.f0 ≤ x) && decide (x < r.f0 + pw o)) = false := by
      by_cases h3 : r.f0 ≤ x
      · rw [decide_eq_false (show ¬ x < r.f0 + pw o by omega), Bool.and_false]
      · rw [decide_eq_false h3, Bool.false_and]
    rw [e]
    by_cases h3 : r.f0 ≤ x
    · rw [decide_eq_true h3, decide_eq_true (show r.f0 + pw o ≤ x by omega)]
      simp
    · rw [decide_eq_false h3, decide_eq_false (show ¬ r.f0 + pw o ≤ x by omega)]
      simp
/-- The run that is taken: the first of the least that are great enough. -/
def dn (R : List RunW) (o : Int) : Nat → Int → Int
  | 0, b => b
  | i + 1, b => dn R o i (if (runAt R i).f1 ≥ o ∧ (b < 0 ∨ (runAt R i).f1 ≤ (runAt R b.toNat).f1) then (i : Int) else b)
theorem dn_bd (R : List RunW) (o : Int) : ∀ (i : Nat) (b : Int), i ≤ R.length → (b = -1 ∨ 0 ≤ b ∧ b < R.length ∧ o ≤ (runAt R b.toNat).f1) → (dn R o i b = -1 ∨ 0 ≤ dn R o i b ∧ dn R o i b < R.length ∧ o ≤ (runAt R (dn R o i b).toNat).f1) := by
  intro i
  induction i with
  | zero => intro b _ h; exact h
  | succ i ih =>
    intro b hi h
    refine ih _ (by omega) ?_
    by_cases hc : (runAt R i).f1 ≥ o ∧ (b < 0 ∨ (runAt R i).f1 ≤ (runAt R b.toNat).f1)
    · rw [if_pos hc]
      refine Or.inr ⟨by omega, by omega, ?_⟩
      rw [toNat_cast]
      exact hc.1
    · rw [if_neg hc]; exact h
def takeB (n : Int) (R : List RunW) (o : Int) : List RunW × Int × Bool := if runsB n R = true ∧ 0 ≤ o ∧ o ≤ 3 then (if dn R o R.length (-1) < 0 then ([], 0, false) else (takeL R (dn R o R.length (-1)).toNat o, (runAt R (dn R o R.length (-1)).toNat).f0, true)) else ([], 0, false)
def upS (R : List RunW) (o : Int) (b : Int) (i : Nat) : Int := if (runAt R i).f1 ≥ o ∧ (b < 0 ∨ (runAt R i).f1 < (runAt R b.toNat).f1) then (i : Int) else b
def upB (R : List RunW) (o : Int) : Int := (List.range R.length).foldl (upS R o) (-1)
/-- b is the first of the least among those of S that are great enough; -1: there is none. -/
def Best (R : List RunW) (o : Int) (S : Nat → Prop) (b : Int) : Prop := (b = -1 ∧ ∀ i, S i → (runAt R i).f1 < o) ∨ ∃ m : Nat, b = (m : Int) ∧ S m ∧ o ≤ (runAt R m).f1 ∧ ∀ i, S i → o ≤ (runAt R i).f1 → ((runAt R m).f1 < (runAt R i).f1 ∨ ((runAt R m).f1 = (runAt R i).f1 ∧ m ≤ i))
theorem best_uniq {R : List RunW} {o : Int} {S : Nat → Prop} {b c : Int} (h1 : Best R o S b) (h2 : Best R o S c) : b = c := by
  rcases h1 with ⟨e1, n1⟩ | ⟨m, e1, s1, g1, l1⟩ <;> rcases h2 with ⟨e2, n2⟩ | ⟨q, e2, s2, g2, l2⟩
  · omega
  · have := n1 q s2; omega
  · have := n2 m s1; omega
  · have a1 := l1 q s2 g2
    have a2 := l2 m s1 g1
    omega
theorem up_best (R : List RunW) (o : Int) : ∀ n : Nat, Best R o (fun i => i < n) ((List.range n).foldl (upS R o) (-1)) := by
  intro n
  induction n with
  | zero => exact Or.inl ⟨rfl, fun i h => by omega⟩
  | succ n ih =>
    rw [List.range_succ, List.foldl_append, List.foldl_cons, List.foldl_nil]
    generalize (List.range n).foldl (upS R o) (-1) = b at *
    unfold upS
    rcases ih with ⟨e, hn⟩ | ⟨m, e, hs, hg, hl⟩
    · subst e
      by_cases h : (runAt R n).f1 ≥ o
      · rw [if_pos ⟨h, Or.inl (by omega)⟩]
        refine Or.inr ⟨n, rfl, by omega, h, fun i hi ho => ?_⟩
        by_cases e : i = n
        · subst e; exact Or.inr ⟨rfl, Nat.le_refl _⟩
        · have := hn i (by omega); omega
      · rw [if_neg (fun x => h x.1)]
        refine Or.inl ⟨rfl, fun i hi => ?_⟩
        by_cases e : i = n
        · subst e; omega
        · exact hn i (by omega)
    · subst e
      by_cases h : (runAt R n).f1 ≥ o ∧ (runAt R n).f1 < (runAt R m).f1
      · rw [if_pos ⟨h.1, Or.inr (by rw [toNat_cast]; exact h.2)⟩]
        refine Or.inr ⟨n, rfl, by omega, h.1, fun i hi ho => ?_⟩
        by_cases e : i = n
        · subst e; exact Or.inr ⟨rfl, Nat.le_refl _⟩
        · have := hl i (by omega) ho; omega
      · rw [if_neg (fun x => h ⟨x.1, by rcases x.2 with y | y
                                        · omega
                                        · rw [toNat_cast] at y; exact y⟩)]
        refine Or.inr ⟨m, rfl, by omega, hg, fun i hi ho => ?_⟩
        by_cases e : i = n
        · subst e
          by_cases h2 : (runAt R m).f1 < (runAt R i).f1
          · exact Or.inl h2
          · exact Or.inr ⟨by omega, by omega⟩
        · exact hl i (by omega) ho
theorem dn_best (R : List RunW) (o : Int) : ∀ (i : Nat) (b : Int), i ≤ R.length → Best R o (fun j => i ≤ j ∧ j < R.length) b → Best R o (fun j => j < R.length) (dn R o i b) := by
  intro i
  induction i with
  | zero =>
    intro b _ h
    show Best R o _ b
    rcases h with ⟨e, hn⟩ | ⟨m, e, hs, hg, hl⟩
    · exact Or.inl ⟨e, fun j hj => hn j ⟨by omega, hj⟩⟩
    · exact Or.inr ⟨m, e, hs.2, hg, fun j hj ho => hl j ⟨by omega, hj⟩ ho⟩
  | succ i ih =>
    intro b hi h
    show Best R o _ (dn R o i _)
    refine ih _ (by omega) ?_
    rcases h with ⟨e, hn⟩ | ⟨m, e, hs, hg, hl⟩
    · subst e
      by_cases h : (runAt R i).f1 ≥ o
      · rw [if_pos ⟨h, Or.inl (by omega)⟩]
        refine Or.inr ⟨i, rfl, ⟨by omega, by omega⟩, h, fun j hj ho => ?_⟩
        by_cases e : j = i
        · subst e; exact Or.inr ⟨rfl, Nat.le_refl _⟩
        · have := hn j ⟨by omega, hj.2⟩; omega
      · rw [if_neg (fun x => h x.1)]
        refine Or.inl ⟨rfl, fun j hj => ?_⟩
        by_cases e : j = i
        · subst e; omega
        · exact hn j ⟨by omega, hj.2⟩
    · subst e
      by_cases h : (runAt R i).f1 ≥ o ∧ (runAt R i).f1 ≤ (runAt R m).f1
      · rw [if_pos ⟨h.1, Or.inr (by rw [toNat_cast]; exact h.2)⟩]
        refine Or.inr ⟨i, rfl, ⟨by omega, by omega⟩, h.1, fun j hj ho => ?_⟩
        by_cases e : j = i
        · subst e; exact Or.inr ⟨rfl, Nat.le_refl _⟩
        · have := hl j ⟨by omega, hj.2⟩ ho; omega
      · rw [if_neg (fun x => h ⟨x.1, by rcases x.2 with y | y
                                        · omega
                                        · rw [toNat_cast] at y; exact y⟩)]
        refine Or.inr ⟨m, rfl, ⟨by omega, hs.2⟩, hg, fun j hj ho => ?_⟩
        by_cases e : j = i
        · subst e; exact Or.inl (by omega)
        · exact hl j ⟨by omega, hj.2⟩ ho
theorem up_dn (R : List RunW) (o : Int) : upB R o = dn R o R.length (-1) :=
  best_uniq (up_best R o R.length) (dn_best R o R.length (-1) (Nat.le_refl _) (Or.inl ⟨rfl, fun j hj => by omega⟩))
theorem impl_takeRun_ev (n : Int) (R : List RunW) (h : runsB n R = true) (hl : R.length ≤ 1048576) (o : Int) (ho : 0 ≤ o ∧ o ≤ 3) :
    Ev (fun k => impl_takeRun.f k R o) (if upB R o < 0 then ([], 0, false) else (takeL R (upB R o).toNat o, (runAt R (upB R o).toNat).f0, true)) := by
  have hs0 : sizeB n = true := by unfold runsB at h; rw [Bool.and_eq_true] at h; exact h.1
  have hs := sizeB_bd hs0
  have hn : 8 ≤ n ∧ n ≤ 32 := ⟨hs.1, hs.2.1⟩
  have len32 : ∀ L : List RunW, runsB n L = true → L.length ≤ 32 := by
    intro L h2
    unfold runsB at h2; rw [Bool.and_eq_true] at h2
    have := runsB_len n L h2.1 h2.2; omega
  have hRl := len32 R h
  have right_one' : ∀ b : Nat, b < R.length → oneB n (runAt R b) = true := fun b hb => right_one R none (right_of h) (runAt R b) (by unfold runAt; rw [List.getD_eq_getElem?_getD, List.getElem?_eq_getElem hb]; exact List.getElem_mem hb)
  have hrd : ∀ j : Int, rd_T35 R j = runAt R j.toNat := fun j => rfl
  -- the halves
  have fin : ∀ (b : Nat), b < R.length → o ≤ (runAt R b).f1 → ∀ (d : Nat) (K : Int), o + d = K → K ≤ (runAt R b).f1 →
      Ev (fun k => impl_takeRun.l1 k R o (b : Int) (hv (runAt R b).f0 ((runAt R b).f1 - K).toNat K) (K - 1) (runAt R b).f0 (runAt R b).f1) (takeL R b o, (runAt R b).f0, true) := by
    intro b hb hob
    have h3 := (takeL_right h b hb o ⟨ho.1, hob⟩).1
    have h4 := len32 _ h3
    obtain ⟨hr1, hr2, hr3⟩ := oneB_bd (right_one' b hb)
    rw [wrap_size hn] at hr2
    intro d
    induction d with
    | zero =>
      intro K hK hle
      have e : K = o := by omega
      subst e
      refine Ev.of_succ (fun k => ?_)
      simp only [impl_takeRun.l1]
      rw [if_neg (by omega), if_pos (by omega), if_pos (by omega), wrap_succ (by omega), if_pos (by omega), if_pos (by omega), toNat_cast, toNat_cast]
      have e2 : [R.take b, hv (runAt R b).f0 ((runAt R b).f1 - K).toNat K, R.drop (b + 1)].flatten = takeL R b K := by
        unfold takeL
        simp only [List.flatten_cons, List.flatten_nil, List.append_nil]
      unfold impl_Run_48.f
      rw [e2, if_pos ⟨rfl, by omega⟩]
      rfl
    | succ d ih =>
      intro K hK hle
      have hp : 1 ≤ K ∧ K ≤ 3 := by omega
      have hpw := pw_le (K - 1)
      have hpp := pw_pos (K - 1)
      have hpr := pw_pos (runAt R b).f1
      refine Ev.step (fun k => ?_) (ih (K - 1) (by omega) (by omega))
      have hlen : (hv (runAt R b).f0 ((runAt R b).f1 - K).toNat K).length ≤ 3 := by
        have : ∀ (m : Nat) (k : Int), (hv (runAt R b).f0 m k).length = m := by
          intro m
          induction m with
          | zero => intro k; rfl
          | succ m ih2 => intro k; show (hv _ m (k + 1)).length + 1 = m + 1; rw [ih2]
        rw [this]; omega
      simp only [impl_takeRun.l1, Option.bind_some]
      rw [if_pos (by omega), if_pos (by omega), if_pos (by simp only [List.length_cons, List.length_nil]; omega), shl_eq (K - 1) (by omega), wrap64_id (n := (runAt R b).f0 + pw (K - 1)) (by omega) (by omega), wrap64_id (n := K - 1 - 1) (by omega) (by omega)]
      obtain ⟨m, hm⟩ : ∃ m, ((runAt R b).f1 - (K - 1)).toNat = m + 1 := ⟨((runAt R b).f1 - (K - 1)).toNat - 1, by omega⟩
      rw [hm]
      show impl_takeRun.l1 k R o b (_ :: hv _ _ _) _ _ _ = impl_takeRun.l1 k R o b (_ :: hv _ m (K - 1 + 1)) _ _ _
      rw [show K - 1 + 1 = K by omega, show ((runAt R b).f1 - K).toNat = m by omega]
  -- the choice
  have key : ∀ (d i : Nat), i + d = R.length → Ev (fun k => impl_takeRun.l0 k R o ((List.range i).foldl (upS R o) (-1)) R (R.length : Int) (i : Int)) (if upB R o < 0 then ([], 0, false) else (takeL R (upB R o).toNat o, (runAt R (upB R o).toNat).f0, true)) := by
    intro d
    induction d with
    | zero =>
      intro i hi
      have e : i = R.length := by omega
      subst e
      have hbest := up_best R o R.length
      show Ev (fun k => impl_takeRun.l0 k R o (upB R o) R (R.length : Int) (R.length : Int)) _
      change Best R o _ (upB R o) at hbest
      rcases hbest with ⟨e, _⟩ | ⟨m, e, hm, hg, _⟩
      · rw [e, if_pos (by omega)]
        refine Ev.of_succ (fun k => ?_)
        simp only [impl_takeRun.l0]
        rw [if_neg (by omega), if_pos (by omega)]
      · rw [e, if_neg (by omega), toNat_cast]
        refine Ev.step (fun k => ?_) (fin m hm hg ((runAt R m).f1 - o).toNat (runAt R m).f1 (by omega) (Int.le_refl _))
        have hr1 := (oneB_bd (right_one' m hm)).1
        simp only [impl_takeRun.l0]
        rw [if_neg (by omega), if_neg (by omega), if_pos (by omega), if_pos (by omega), hrd, toNat_cast, wrap64_id (n := (runAt R m).f1 - 1) (by omega) (by omega), show ((runAt R m).f1 - (runAt R m).f1).toNat = 0 by omega]
        rfl
    | succ d ih =>
      intro i hi
      refine Ev.step (fun k => ?_) (ih (i + 1) (by omega))
      have hb := up_best R o i
      rw [List.range_succ, List.foldl_append, List.foldl_cons, List.foldl_nil]
      generalize (List.range i).foldl (upS R o) (-1) = b at *
      simp only [impl_takeRun.l0]
      rw [if_pos (by omega), if_pos (by omega), if_pos (by omega), hrd, toNat_cast, wrap_succ (by omega)]
      unfold upS
      by_cases h1 : (runAt R i).f1 ≥ o
      · rw [if_pos h1]
        by_cases h2 : b < 0
        · rw [if_pos h2, if_pos ⟨h1, Or.inl h2⟩]
        · have h5 : 0 ≤ b ∧ b < R.length := by
            rcases hb with ⟨e, _⟩ | ⟨m, e, hm, _⟩ <;> omega
          rw [if_neg h2, if_pos h5.1, if_pos h5.2, hrd]
          by_cases h3 : (runAt R i).f1 < (runAt R b.toNat).f1
          · rw [if_pos h3, if_pos ⟨h1, Or.inr h3⟩]
          · rw [if_neg h3, if_neg (fun x => x.2.elim h2 h3)]
      · rw [if_neg h1, if_neg (fun x => h1 x.1)]
  have := key R.length 0 (by omega)
  exact this
theorem impl_Take_ev (n : Int) (R : List RunW) (hl : R.length ≤ 1048576) (o : Int) : Ev (fun k => impl_TakeRun.f k n R o) (takeB n R o) := by
  unfold impl_TakeRun.f takeB
  refine Ev.bind (impl_RunsOk_ev n R hl) ?_
  by_cases h : runsB n R = true
  · simp only [if_pos h, within_eq, Option.bind_some]
    by_cases ho : 0 ≤ o ∧ o ≤ 3
    · simp only [decide_eq_true ho, if_pos (show runsB n R = true ∧ 0 ≤ o ∧ o ≤ 3 from ⟨h, ho⟩), if_true]
      rw [← up_dn]
      refine Ev.bind (impl_takeRun_ev n R h hl o ho) ?_
      exact Ev.now _
    · simp only [decide_eq_false ho, if_neg (show ¬ (runsB n R = true ∧ 0 ≤ o ∧ o ≤ 3) from fun x => ho x.2), Bool.false_eq_true, if_false]
      exact Ev.now _
  · simp only [if_neg h, if_neg (show ¬ (runsB n R = true ∧ 0 ≤ o ∧ o ≤ 3) from fun x => h x.1)]
    exact Ev.now _
def notB (n : Int) (l : List Int) : List Int := (List.range n.toNat).foldl (fun s (i : Nat) => if inB l (i : Int) = true then s else s ++ [(i : Int)]) []
theorem notB_in (n : Int) (l : List Int) (x : Int) : inB (notB n l) x = (decide (0 ≤ x ∧ x < n) && !inB l x) := by
  have key : ∀ m : Nat, inB ((List.range m).foldl (fun s (i : Nat) => if inB l (i : Int) = true then s else s ++ [(i : Int)]) []) x = (decide (0 ≤ x ∧ x < (m : Int)) && !inB l x) := by
    intro m
    induction m with
    | zero => rw [decide_eq_false (by omega)]; rfl
    | succ m ih =>
      rw [List.range_succ, List.foldl_append, List.foldl_cons, List.foldl_nil]
      by_cases h : inB l (m : Int) = true
      · rw [if_pos h, ih]
        by_cases e : x = (m : Int)
        · subst e; rw [h]; simp
        · by_cases h2 : 0 ≤ x ∧ x < (m : Int)
          · rw [decide_eq_true h2, decide_eq_true (show 0 ≤ x ∧ x < ((m + 1 : Nat) : Int) by omega)]
          · rw [decide_eq_false h2, decide_eq_false (show ¬ (0 ≤ x ∧ x < ((m + 1 : Nat) : Int)) by omega)]
      · rw [if_neg h]
        have h' : inB l (m : Int) = false := by simpa using h
        have happ : ∀ (s : List Int) (y : Int), inB (s ++ [y]) x = (inB s x || decide (y = x)) := fun s y => by simp [inB]
        rw [happ, ih]
        by_cases e : (m : Int) = x
        · subst e; rw [h', decide_eq_true (rfl : (m : Int) = (m : Int)), decide_eq_true (show 0 ≤ (m : Int) ∧ (m : Int) < ((m + 1 : Nat) : Int) by omega)]; simp
        · rw [decide_eq_false e, Bool.or_false]
          by_cases h2 : 0 ≤ x ∧ x < (m : Int)
          · rw [decide_eq_true h2, decide_eq_true (show 0 ≤ x ∧ x < ((m + 1 : Nat) : Int) by omega)]
          · rw [decide_eq_false h2, decide_eq_false (show ¬ (0 ≤ x ∧ x < ((m + 1 : Nat) : Int)) by omega)]
  have := key n.toNat
  unfold notB
  rw [this]
  by_cases h : 0 ≤ x ∧ x < n
  · rw [decide_eq_true h, decide_eq_true (show 0 ≤ x ∧ x < ((n.toNat : Nat) : Int) by omega)]
  · rw [decide_eq_false h, decide_eq_false (show ¬ (0 ≤ x ∧ x < ((n.toNat : Nat) : Int)) by omega)]
theorem notB_len (n : Int) (l : List Int) (hn : n ≤ 32) : (notB n l).length ≤ 32 := by
  have key : ∀ m : Nat, ((List.range m).foldl (fun s (i : Nat) => if inB l (i : Int) = true then s else s ++ [(i : Int)]) ([] : List Int)).length ≤ m := by
    intro m
    induction m with
    | zero => exact Nat.le_refl _
    | succ m ih =>
      rw [List.range_succ, List.foldl_append, List.foldl_cons, List.foldl_nil]
      split
      · omega
      · simp only [List.length_append, List.length_cons, List.length_nil]; omega
  have := key n.toNat
  unfold notB
  omega
def Le2 (a b : RunW) : Prop := a.f0 + pw a.f1 ≤ b.f0
def Dis (a b : RunW) : Prop := Le2 a b ∨ Le2 b a
def freeOf (R : List RunW) (r : RunW) : Bool := (runF r).all (fun x => !covB R x)
def giveT (n : Int) (R : List RunW) (r : RunW) : List Int := notB n (framesB R ++ runF r)
def giveB (n : Int) (R : List RunW) (r : RunW) : List RunW × Bool := if runsB n R = true ∧ oneB n r = true ∧ freeOf R r = true then (runsOf n (giveT n R r), true) else ([], false)
theorem inB_app (l l' : List Int) (x : Int) : inB (l ++ l') x = (inB l x || inB l' x) := by unfold inB; rw [List.any_append]
theorem apart_pair {n : Int} (hs : sizeB n = true) (L : List RunW) : (List.range L.length).all (apB n L) = true ↔ (∀ t ∈ L, oneB n t = true) ∧ L.Pairwise Le2 := by
  have hsz := sizeB_bd hs
  have hn : 8 ≤ n ∧ n ≤ 32 := ⟨hsz.1, hsz.2.1⟩
  have hwr : ∀ t : RunW, oneB n t = true → wrap64 (t.f0 + pw t.f1) = t.f0 + pw t.f1 := by
    intro t ht
    obtain ⟨h1, h2, h3⟩ := oneB_bd ht
    rw [wrap_size hn] at h2
    have := pw_pos t.f1
    exact wrap64_id (by omega) (by omega)
  have hat : ∀ i (h : i < L.length), runAt L i = L[i] := fun i h => by unfold runAt; rw [List.getD_eq_getElem?_getD, List.getElem?_eq_getElem h]; rfl
  constructor
  · intro h
    have h1 : ∀ i, i < L.length → oneB n (runAt L i) = true ∧ (i = 0 ∨ (runAt L (i - 1)).f0 + pw (runAt L (i - 1)).f1 ≤ (runAt L i).f0) := by
      intro i hi
      have h2 := List.all_eq_true.1 h i (List.mem_range.2 hi)
      unfold apB at h2
      rw [Bool.and_eq_true, Bool.or_eq_true, decide_eq_true_eq, decide_eq_true_eq] at h2
      refine ⟨h2.1, ?_⟩
      rcases h2.2 with h3 | h3
      · exact Or.inl h3
      · have h4 := List.all_eq_true.1 h (i - 1) (List.mem_range.2 (by omega))
        unfold apB at h4
        rw [Bool.and_eq_true] at h4
        rw [hwr _ h4.1] at h3
        exact Or.inr h3
    refine ⟨fun t ht => ?_, ?_⟩
    · obtain ⟨i, hi, rfl⟩ := List.getElem_of_mem ht
      rw [← hat i hi]; exact (h1 i hi).1
    · rw [List.pairwise_iff_getElem]
      intro i j hi hj hij
      have key : ∀ d, i + 1 + d < L.length → Le2 (runAt L i) (runAt L (i + 1 + d)) := by
        intro d
        induction d with
        | zero =>
          intro hd
          rcases (h1 (i + 1) (by omega)).2 with h2 | h2
          · omega
          · exact h2
        | succ d ih =>
          intro hd
          have h2 := ih (by omega)
          have h3 : (runAt L (i + 1 + d)).f0 + pw (runAt L (i + 1 + d)).f1 ≤ (runAt L (i + 1 + (d + 1))).f0 := by
            rcases (h1 (i + 1 + (d + 1)) hd).2 with h3 | h3
            · omega
            · exact h3
          have h4 := pw_pos (runAt L (i + 1 + d)).f1
          unfold Le2 at h2 ⊢
          omega
      have h2 := key (j - i - 1) (by omega)
      rw [show i + 1 + (j - i - 1) = j by omega, hat i hi, hat j hj] at h2
      exact h2
  · rintro ⟨h1, h2⟩
    rw [List.pairwise_iff_getElem] at h2
    rw [List.all_eq_true]
    intro i hi
    have hi := List.mem_range.1 hi
    unfold apB
    rw [Bool.and_eq_true, Bool.or_eq_true, decide_eq_true_eq, decide_eq_true_eq]
    refine ⟨by rw [hat i hi]; exact h1 _ (List.getElem_mem hi), ?_⟩
    by_cases h0 : i = 0
    · exact Or.inl h0
    · refine Or.inr ?_
      have h3 := h2 (i - 1) i (by omega) hi (by omega)
      rw [hat i hi, hat (i - 1) (by omega), hwr _ (h1 _ (List.getElem_mem _))]
      exact h3
theorem sorted_facts (l : List RunW) : (Go.Sort.pdq (ltOf impl_Run_35.cf) l.toArray 0 l.length (Go.Lib.bitLen l.length) true true).toList.Perm l ∧
    (Go.Sort.pdq (ltOf impl_Run_35.cf) l.toArray 0 l.length (Go.Lib.bitLen l.length) true true).toList.Pairwise (fun a b => a.f0 ≤ b.f0) := by
  have h := Go.Sort.pdq_sorts (ltOf impl_Run_35.cf) impl_Run_35.swo l.toArray 0 l.toArray.size (Go.Lib.bitLen l.length) true true (Nat.zero_le _) (Nat.le_refl _) (Or.inl rfl)
  rw [List.size_toArray] at h
  generalize Go.Sort.pdq (ltOf impl_Run_35.cf) l.toArray 0 l.length (Go.Lib.bitLen l.length) true true = d at h ⊢
  obtain ⟨⟨h1, _, h2⟩, h3⟩ := h
  replace h1 : d.size = l.length := h1.trans (by simp)
  refine ⟨?_, ?_⟩
  · have e1 : (d.extract 0 l.length).toList = d.toList := by rw [← h1]; simp
    have e2 : (l.toArray.extract 0 l.length).toList = l := by simp
    rw [e1, e2] at h2
    exact h2
  · rw [List.pairwise_iff_getElem]
    intro i j hi hj hij
    rw [Array.length_toList] at hi hj
    have h4 := h3 i j (Nat.zero_le _) hij (by omega)
    rw [impl_Run_35.lt, getElem!_pos d i hi, getElem!_pos d j hj] at h4
    have h5 := of_decide_eq_false h4
    rw [Array.getElem_toList, Array.getElem_toList]
    omega
theorem dis_free {R : List RunW} {r : RunW} : freeOf R r = true ↔ ∀ t ∈ R, Dis t r := by
  have hrp := pw_pos r.f1
  unfold freeOf
  rw [List.all_eq_true]
  constructor
  · intro h t ht
    have htp := pw_pos t.f1
    by_cases h1 : t.f0 + pw t.f1 ≤ r.f0
    · exact Or.inl h1
    · by_cases h2 : r.f0 + pw r.f1 ≤ t.f0
      · exact Or.inr h2
      · exfalso
        obtain ⟨x, hx1, hx2, hx3, hx4⟩ : ∃ x, r.f0 ≤ x ∧ x < r.f0 + pw r.f1 ∧ t.f0 ≤ x ∧ x < t.f0 + pw t.f1 := by
          by_cases h3 : t.f0 ≤ r.f0
          · exact ⟨r.f0, by omega, by omega, by omega, by omega⟩
          · exact ⟨t.f0, by omega, by omega, by omega, by omega⟩
        have hm : x ∈ runF r := by
          have h4 : inB (runF r) x = true := by rw [runF_in, decide_eq_true hx1, decide_eq_true hx2]; rfl
          unfold inB at h4
          rw [List.any_eq_true] at h4
          obtain ⟨y, hy, e⟩ := h4
          rw [← of_decide_eq_true e]; exact hy
        have h5 := h x hm
        rw [(covB_iff R x).2 ⟨t, ht, hx3, hx4⟩] at h5
        cases h5
  · intro h x hx
    have h4 : inB (runF r) x = true := by unfold inB; rw [List.any_eq_true]; exact ⟨x, hx, decide_eq_true rfl⟩
    rw [runF_in, Bool.and_eq_true, decide_eq_true_eq, decide_eq_true_eq] at h4
    cases hc : covB R x with
    | false => rfl
    | true =>
      obtain ⟨t, ht, h1, h2⟩ := (covB_iff R x).1 hc
      have h3 : t.f0 + pw t.f1 ≤ r.f0 ∨ r.f0 + pw r.f1 ≤ t.f0 := h t ht
      omega
theorem apart_sorted {n : Int} {R : List RunW} (h : runsB n R = true) (r : RunW) (L : List RunW) (hp : L.Perm (R ++ [r])) (hso : L.Pairwise (fun a b => a.f0 ≤ b.f0)) :
    (List.range L.length).all (apB n L) = (oneB n r && freeOf R r) := by
  have h' := h
  unfold runsB at h'
  rw [Bool.and_eq_true] at h'
  obtain ⟨hs, hok⟩ := h'
  have hR := (apart_pair hs R).1 (by
    rw [List.all_eq_true] at hok ⊢
    intro i hi
    have h1 := hok i hi
    unfold okAt at h1
    rw [Bool.and_eq_true] at h1
    exact h1.1)
  have hsym : ∀ {x y : RunW}, Dis x y → Dis y x := fun h => Or.symm h
  rw [Bool.eq_iff_iff, apart_pair hs, Bool.and_eq_true, dis_free]
  constructor
  · rintro ⟨h1, h2⟩
    refine ⟨h1 r (hp.mem_iff.2 (List.mem_append_right _ List.mem_cons_self)), fun t ht => ?_⟩
    have h3 : L.Pairwise Dis := h2.imp (fun h => Or.inl h)
    have h4 := (hp.pairwise_iff hsym).1 h3
    exact (List.pairwise_append.1 h4).2.2 t ht r List.mem_cons_self
  · rintro ⟨h1, h2⟩
    have h3 : (R ++ [r]).Pairwise Dis := List.pairwise_append.2 ⟨hR.2.imp (fun h => Or.inl h), List.pairwise_singleton _ _, fun t ht y hy => by rw [List.mem_singleton.1 hy]; exact h2 t ht⟩
    have h4 := (hp.pairwise_iff hsym).2 h3
    refine ⟨fun t ht => ?_, (List.pairwise_and_iff.2 ⟨h4, hso⟩).imp (fun {a b} hab => ?_)⟩
    · rcases List.mem_append.1 (hp.mem_iff.1 ht) with h5 | h5
      · exact hR.1 t h5
      · rw [List.mem_singleton.1 h5]; exact h1
    · obtain ⟨h5, h6⟩ := hab
      have h7 := pw_pos b.f1
      rcases h5 with h5 | h5
      · exact h5
      · unfold Le2 at h5; exact absurd h5 (by omega)
def setTrue (l : List Int) (acc : List Bool) : List Bool := l.foldl (fun s x => s.set x.toNat true) acc
theorem setTrue_len (l : List Int) (acc : List Bool) : (setTrue l acc).length = acc.length := by
  unfold setTrue
  induction l generalizing acc with
  | nil => rfl
  | cons x l ih => rw [List.foldl_cons, ih, List.length_set]
theorem setTrue_succ (l : List Int) (acc : List Bool) (i : Nat) (h : i < l.length) : setTrue (l.take (i + 1)) acc = (setTrue (l.take i) acc).set (l.getD i 0).toNat true := by
  unfold setTrue
  rw [List.take_succ_eq_append_getElem h, List.foldl_append]
  simp [List.getD_eq_getElem?_getD, List.getElem?_eq_getElem h]
theorem setTrue_at (l : List Int) (hl : ∀ x ∈ l, 0 ≤ x) : ∀ (acc : List Bool) (j : Nat), j < acc.length → (setTrue l acc)[j]? = some (inB l (j : Int) || acc.getD j false) := by
  induction l with
  | nil => intro acc j hj; show acc[j]? = _; rw [List.getD_eq_getElem?_getD, List.getElem?_eq_getElem hj]; rfl
  | cons x l ih =>
    intro acc j hj
    have hx := hl x List.mem_cons_self
    have h1 := ih (fun y hy => hl y (List.mem_cons_of_mem _ hy)) (acc.set x.toNat true) j (by rw [List.length_set]; exact hj)
    show (setTrue l (acc.set x.toNat true))[j]? = _
    rw [h1]
    have e : inB (x :: l) (j : Int) = (decide (x = (j : Int)) || inB l (j : Int)) := rfl
    rw [e]
    by_cases hxj : x = (j : Int)
    · subst hxj
      rw [toNat_cast, decide_eq_true rfl, List.getD_eq_getElem?_getD, List.getElem?_set_self hj]
      simp
    · rw [decide_eq_false hxj, Bool.false_or, List.getD_eq_getElem?_getD, List.getElem?_set_ne (by omega), ← List.getD_eq_getElem?_getD]
theorem perm_inB {L R : List RunW} (hp : L.Perm R) (x : Int) : covB L x = covB R x := by
  rw [Bool.eq_iff_iff, covB_iff, covB_iff]
  exact ⟨fun ⟨t, ht, h⟩ => ⟨t, hp.mem_iff.1 ht, h⟩, fun ⟨t, ht, h⟩ => ⟨t, hp.mem_iff.2 ht, h⟩⟩
theorem impl_Give_ev (n : Int) (R : List RunW) (hl : R.length ≤ 1048576) (r : RunW) : Ev (fun k => impl_GiveRun.f k n R r.f0 r.f1) (giveB n R r) := by
  unfold impl_GiveRun.f giveB
  refine Ev.bind (impl_RunsOk_ev n R hl) ?_
  by_cases h : runsB n R = true
  · have h' := h
    unfold runsB at h'
    rw [Bool.and_eq_true] at h'
    obtain ⟨hs, hok⟩ := h'
    have hsz := sizeB_bd hs
    have hn : 8 ≤ n ∧ n ≤ 32 := ⟨hsz.1, hsz.2.1⟩
    have hRl := runsB_len n R hs hok
    simp only [if_pos h, Option.bind_some, List.nil_append, List.length_nil, List.length_append, List.length_cons]
    simp only [if_pos (show 0 + R.length < 8796093022208 by omega), if_pos (show 0 + R.length + (0 + 1) < 8796093022208 by omega)]
    unfold impl_Run_35.f
    simp only [if_pos (show (R ++ [(⟨r.f0, r.f1⟩ : RunW)]).length ≤ 1000000 by simp only [List.length_append, List.length_cons, List.length_nil]; omega), Option.bind_some]
    obtain ⟨hp, hso⟩ := sorted_facts (R ++ [(⟨r.f0, r.f1⟩ : RunW)])
    generalize (Go.Sort.pdq (ltOf impl_Run_35.cf) (R ++ [(⟨r.f0, r.f1⟩ : RunW)]).toArray 0 (R ++ [(⟨r.f0, r.f1⟩ : RunW)]).length (Go.Lib.bitLen (R ++ [(⟨r.f0, r.f1⟩ : RunW)]).length) true true).toList = L at hp hso ⊢
    have hLl : L.length = R.length + 1 := by rw [hp.length_eq]; simp
    refine Ev.bind (apart_ev n L (by omega)) ?_
    rw [apart_sorted h r L hp hso, hs, Bool.true_and]
    by_cases hf : oneB n r = true ∧ freeOf R r = true
    · rw [if_pos ⟨h, hf⟩]
      have hap := apart_sorted h r L hp hso
      rw [hf.1, hf.2, Bool.and_self] at hap
      have hone := ((apart_pair hs L).1 hap).1
      simp only [hf.1, hf.2, Bool.and_self, if_true]
      simp only [if_pos (show 0 ≤ n by omega), if_pos (show n.toNat ≤ 281474976710656 by omega)]
      have hbd : ∀ t ∈ L, (0 ≤ t.f1 ∧ t.f1 ≤ 3) ∧ 0 ≤ t.f0 ∧ t.f0 + pw t.f1 ≤ n := by
        intro t ht
        obtain ⟨h1, h2, h3⟩ := oneB_bd (hone t ht)
        rw [wrap_size hn] at h2
        exact ⟨h1, h2.1, by omega⟩
      have hfr := impl_framesOf_ev L (by omega) (fun i hi => by
        rw [List.getD_eq_getElem?_getD, List.getElem?_eq_getElem hi]
        have h1 := hbd _ (List.getElem_mem hi)
        have h2 := pw_pos (L[i]).f1
        exact ⟨h1.1, h1.2.1, by show (L[i]).f0 ≤ 32; omega⟩)
      refine Ev.bind hfr ?_
      have hfl := framesB_len L
      have hin : ∀ x ∈ framesB L, 0 ≤ x ∧ x < n := by
        intro x hx
        have h1 : inB (framesB L) x = true := by unfold inB; rw [List.any_eq_true]; exact ⟨x, hx, decide_eq_true rfl⟩
        rw [framesB_in, covB_iff] at h1
        obtain ⟨t, ht, h2, h3⟩ := h1
        have := hbd t ht
        omega
      have hfin : setTrue (framesB L) (List.replicate n.toNat false) = freeR n.toNat (giveT n R r) := by
        apply List.ext_getElem?
        intro j
        by_cases hj : j < n.toNat
        · rw [setTrue_at _ (fun x hx => (hin x hx).1) _ j (by rw [List.length_replicate]; exact hj), freeR_at _ _ _ hj]
          unfold giveT
          rw [notB_in, decide_eq_true (show 0 ≤ (j : Int) ∧ (j : Int) < n by omega), Bool.true_and, Bool.not_not, framesB_in, perm_inB hp, inB_app, framesB_in, runF_in]
          have e1 : (List.replicate n.toNat false).getD j false = false := by rw [List.getD_eq_getElem?_getD, List.getElem?_replicate, if_pos hj]; rfl
          rw [e1, Bool.or_false]
          have e2 : covB (R ++ [(⟨r.f0, r.f1⟩ : RunW)]) (j : Int) = (covB R (j : Int) || covB [(⟨r.f0, r.f1⟩ : RunW)] (j : Int)) := by unfold covB; rw [List.any_append]
          rw [e2, covB_cons]
          show some (_ || (_ || false)) = _
          rw [Bool.or_false]
        · rw [List.getElem?_eq_none (by rw [setTrue_len, List.length_replicate]; omega), List.getElem?_eq_none (by rw [freeR_len]; omega)]
      have hend : Ev (fun k => (impl_joined.f k (setTrue (framesB L) (List.replicate n.toNat false))).bind fun t359 => (some (t359, true))) (runsOf n (giveT n R r), true) := by
        rw [hfin]
        have := joined_ev (freeR n.toNat (giveT n R r)) (by rw [freeR_len]; omega)
        rw [joinB_free n hs] at this
        exact Ev.bind this (Ev.now _)
      have key : ∀ (d i : Nat), i + d = (framesB L).length → Ev (fun k => impl_GiveRun.l0 k (setTrue ((framesB L).take i) (List.replicate n.toNat false)) (framesB L) ((framesB L).length : Int) (i : Int)) (runsOf n (giveT n R r), true) := by
        intro d
        induction d with
        | zero =>
          intro i hi
          refine Ev.step (fun k => ?_) hend
          simp only [impl_GiveRun.l0]
          rw [if_neg (by omega), List.take_of_length_le (by omega)]
        | succ d ih =>
          intro i hi
          have hi2 : i < (framesB L).length := by omega
          have hrd : rd (framesB L) (i : Int) = (framesB L).getD i 0 := by unfold rd; rw [toNat_cast]
          have hx : (framesB L).getD i 0 ∈ framesB L := by rw [List.getD_eq_getElem?_getD, List.getElem?_eq_getElem hi2]; exact List.getElem_mem hi2
          have hx2 := hin _ hx
          refine Ev.step (fun k => ?_) (ih (i + 1) (by omega))
          simp only [impl_GiveRun.l0]
          rw [if_pos (by omega), if_pos (by omega), if_pos (by omega), hrd, if_pos hx2.1, if_pos (by rw [setTrue_len, List.length_replicate]; omega), wrap_succ (by omega), setTrue_succ _ _ _ hi2]
      have := key (framesB L).length 0 (by omega)
      exact this
    · rw [if_neg (fun x => hf x.2)]
      have e : (oneB n r && freeOf R r) = false := by
        cases h1 : oneB n r <;> cases h2 : freeOf R r <;> simp_all
      simp only [e, Bool.false_eq_true, if_false]
      exact Ev.now _
  · simp only [if_neg h, if_neg (show ¬ (runsB n R = true ∧ oneB n r = true ∧ freeOf R r = true) from fun x => h x.1)]
    exact Ev.now _
theorem giveT_len (n : Int) (hn : n ≤ 32) (R : List RunW) (r : RunW) : (giveT n R r).length ≤ 32 := notB_len n _ hn
theorem giveB_small (n : Int) (R : List RunW) (r : RunW) : (giveB n R r).1.length ≤ 32 := by
  unfold giveB
  by_cases h : runsB n R = true ∧ oneB n r = true ∧ freeOf R r = true
  · rw [if_pos h]
    have h1 := h.1
    unfold runsB at h1
    rw [Bool.and_eq_true] at h1
    exact runsOf_len h1.1 _
  · rw [if_neg h]; exact Nat.zero_le _
def bestB (l : List RunW) : Int := l.foldl (fun b r => if b < r.f1 then r.f1 else b) (-1)
theorem impl_BestRun_ev (n : Int) (l : List RunW) (hl : l.length ≤ 1048576) : Ev (fun k => impl_BestRun.f k n l) (if runsB n l = true then bestB l else -1) := by
  unfold impl_BestRun.f
  refine Ev.bind (impl_RunsOk_ev n l hl) ?_
  by_cases hb : runsB n l = true
  · simp only [if_pos hb]
    have key := (ev_fold (fun k s i => impl_BestRun.l0 k s l (l.length : Int) (i : Int)) l.length (fun b i => if b < (l.getD i zr).f1 then (l.getD i zr).f1 else b) id (fun _ _ => True) (by
      intro i s hi _
      refine ⟨trivial, fun r h => ?_⟩
      refine Ev.step (fun k => ?_) h
      simp only [impl_BestRun.l0]
      rw [if_pos (by omega), if_pos (by omega), if_pos (by omega), rdRW, wrap_succ (by omega)]
      rfl) (by
      intro s _
      refine Ev.of_succ (fun k => ?_)
      simp only [impl_BestRun.l0]
      rw [if_neg (by omega)]
      rfl) (-1) trivial).1
    rw [foldl_getD (fun (b : Int) (r : RunW) => if b < r.f1 then r.f1 else b) l zr] at key
    exact key
  · simp only [if_neg hb]; exact Ev.now _
theorem within_ev (l : List Int) (hl : l.length ≤ 1048576) (x : Int) : Ev (fun k => laws_within.f k l x) (inB l x) := by
  have key := ev_all0 (fun k i => laws_within.l0 k l x (i : Int)) l.length (fun i => !decide (l.getD i 0 = x)) true false (by
    intro i hi hb r h
    refine Ev.step (fun k => ?_) h
    simp only [Bool.not_eq_true', decide_eq_false_iff_not] at hb
    simp only [laws_within.l0]
    rw [if_pos (by omega), if_pos (by omega), if_neg (by unfold rd; rw [toNat_cast]; exact hb), wrap_succ (by omega)]) (by
    intro i hi hb
    refine Ev.of_succ (fun k => ?_)
    simp only [Bool.not_eq_false', decide_eq_true_eq] at hb
    simp only [laws_within.l0]
    rw [if_pos (by omega), if_pos (by omega), if_pos (by unfold rd; rw [toNat_cast]; exact hb)]) (by
    refine Ev.of_succ (fun k => ?_)
    simp only [laws_within.l0]
    rw [if_neg (by omega)])
  rw [inB_all] at key
  have e : (if (!inB l x) = true then false else true) = inB l x := by cases inB l x <;> rfl
  rw [e] at key
  exact key
theorem sameRuns_refl (l : List RunW) (hl : l.length ≤ 1048576) : Ev (fun k => laws_sameRuns.f k l l) true := by
  have key := ev_yes (fun k i => laws_sameRuns.l0 k l l (i : Int)) l.length (fun _ => true) true (by
    intro i hi _ r h
    refine Ev.step (fun k => ?_) h
    simp only [laws_sameRuns.l0]
    rw [if_pos (by omega), if_pos (by omega), if_pos (by omega), if_neg (by simp), wrap_succ (by omega)]) (by simp) (by
    refine Ev.of_succ (fun k => ?_)
    simp only [laws_sameRuns.l0]
    rw [if_neg (by omega)])
  unfold laws_sameRuns.f
  simp only [if_true]
  exact key

theorem bestB_ge (R : List RunW) : ∀ (s : Int), s ≤ R.foldl (fun b r => if b < r.f1 then r.f1 else b) s ∧ (∀ r ∈ R, r.f1 ≤ R.foldl (fun b r => if b < r.f1 then r.f1 else b) s) ∧ (R.foldl (fun b r => if b < r.f1 then r.f1 else b) s = s ∨ ∃ r ∈ R, R.foldl (fun b r => if b < r.f1 then r.f1 else b) s = r.f1) := by
  induction R with
  | nil => intro s; exact ⟨Int.le_refl _, fun r h => absurd h (by simp), Or.inl rfl⟩
  | cons x R ih =>
    intro s
    rw [List.foldl_cons]
    obtain ⟨h1, h2, h3⟩ := ih (if s < x.f1 then x.f1 else s)
    generalize R.foldl (fun b r => if b < r.f1 then r.f1 else b) (if s < x.f1 then x.f1 else s) = z at *
    by_cases h : s < x.f1
    · rw [if_pos h] at h1 h3
      refine ⟨by omega, fun r hr => ?_, Or.inr ?_⟩
      · rcases List.mem_cons.1 hr with rfl | hr
        · exact h1
        · exact h2 r hr
      · rcases h3 with h3 | ⟨r, hr, h3⟩
        · exact ⟨x, List.mem_cons_self, h3⟩
        · exact ⟨r, List.mem_cons_of_mem _ hr, h3⟩
    · rw [if_neg h] at h1 h3
      refine ⟨h1, fun r hr => ?_, ?_⟩
      · rcases List.mem_cons.1 hr with rfl | hr
        · omega
        · exact h2 r hr
      · rcases h3 with h3 | ⟨r, hr, h3⟩
        · exact Or.inl h3
        · exact Or.inr ⟨r, List.mem_cons_of_mem _ hr, h3⟩
theorem framesB_go (l : List RunW) : ∀ s : List Int, l.foldl (fun s r => s ++ runF r) s = s ++ framesB l := by
  induction l with
  | nil => intro s; show s = s ++ []; rw [List.append_nil]
  | cons x l ih =>
    intro s
    show l.foldl _ (s ++ runF x) = s ++ l.foldl _ ([] ++ runF x)
    rw [ih, ih, List.nil_append, List.append_assoc]
theorem framesB_app (A C : List RunW) : framesB (A ++ C) = framesB A ++ framesB C := by
  show (A ++ C).foldl _ [] = _
  rw [List.foldl_append, framesB_go]
  rfl
theorem framesB_cons (x : RunW) (l : List RunW) : framesB (x :: l) = runF x ++ framesB l := by
  have := framesB_app [x] l
  exact this
theorem hv_len (a : Int) : ∀ (m : Nat) (k : Int), 0 ≤ k → k + m ≤ 3 → ((framesB (hv a m k)).length : Int) + pw k = pw (k + m) := by
  intro m
  induction m with
  | zero => intro k _ _; show ((([] : List Int).length : Nat) : Int) + pw k = _; rw [show k + ((0 : Nat) : Int) = k by omega]; simp
  | succ m ih =>
    intro k h0 h1
    have h2 := ih (k + 1) (by omega) (by omega)
    have hp := pw_pos k
    show ((framesB (⟨a + pw k, k⟩ :: hv a m (k + 1))).length : Int) + pw k = _
    rw [framesB_cons, List.length_append, show k + ((m + 1 : Nat) : Int) = k + 1 + (m : Int) by omega, ← h2]
    have e : pw k + pw k = pw (k + 1) := by
      rcases (show k = 0 ∨ k = 1 ∨ k = 2 by omega) with rfl | rfl | rfl <;> rfl
    have e2 : ((runF (⟨a + pw k, k⟩ : RunW)).length : Int) = pw k := by
      show (((List.range (pw k).toNat).map _).length : Int) = pw k
      rw [List.length_map, List.length_range]; omega
    omega
theorem FnRuns (l0 : List Int) (g0 : (l0.length ≤ maxLen ∧ ∀ y0 ∈ l0, (Lit.int .u8 y0).wf = true)) : ∃ k, laws_FnRuns.f k l0 = some true := by
  by_cases hbig : (l0.length : Int) > 1048576
  · refine ⟨0, ?_⟩
    unfold laws_FnRuns.f laws_big.f
    simp [hbig]
  · obtain ⟨n, T, hs, h32, ht, hd⟩ := rightRuns_ends l0 (by omega)
    obtain ⟨P, hP, hPl, hPb⟩ := places_ends l0 (by omega)
    have hsz := sizeB_bd hs
    have hn : 8 ≤ n ∧ n ≤ 32 := ⟨hsz.1, hsz.2.1⟩
    refine Ev.rounds (g := fun k => laws_FnRuns.f k l0) ?_
    unfold laws_FnRuns.f laws_big.f
    simp only [Option.bind_some, decide_eq_true_eq, if_neg hbig]
    refine Ev.bind hd (Ev.bind hP ?_)
    simp only [if_pos (show (0 : Int) < (P.length : Int) by omega)]
    have hR := runsOf_right hs T
    have hRl := runsOf_len hs T
    generalize runsOf n T = R at hR hRl ⊢
    clear hd ht h32 T hP
    have hp0 : 0 ≤ rd P 0 ∧ rd P 0 < 10000 := by
      have h1 : rd P 0 = P.getD 0 0 := rfl
      rw [h1, List.getD_eq_getElem?_getD, List.getElem?_eq_getElem (show 0 < P.length by omega)]
      exact hPb _ (List.getElem_mem _)
    obtain ⟨o, ho, heo⟩ : ∃ o : Int, (0 ≤ o ∧ o ≤ 3) ∧ Int.tmod (rd P 0) 4 = o := ⟨Int.tmod (rd P 0) 4, by rw [tmod_nonneg hp0.1 (by omega)]; omega, rfl⟩
    simp only [heo]
    have hRl2 : R.length ≤ 1048576 := by omega
    have hfr := impl_FreeFrames_ev n R hRl2
    rw [if_pos hR] at hfr
    refine Ev.bind hfr ?_
    have htk := impl_Take_ev n R hRl2 o
    refine Ev.bind htk ?_
    have hbe := impl_BestRun_ev n R hRl2
    rw [if_pos hR] at hbe
    refine Ev.bind hbe ?_
    have hrd : ∀ i (h : i < R.length), runAt R i = R[i] := fun i h => by unfold runAt; rw [List.getD_eq_getElem?_getD, List.getElem?_eq_getElem h]; rfl
    have hB := dn_best R o R.length (-1) (Nat.le_refl _) (Or.inl ⟨rfl, fun j hj => by omega⟩)
    obtain ⟨hb1, hb2, hb3⟩ := bestB_ge R (-1)
    have hokR := impl_RunsOk_ev n R hRl2
    rw [hR] at hokR
    have hfl := framesB_len R
    rcases hB with ⟨eb, hno⟩ | ⟨b, eb, hbl, hob, hmin⟩
    · -- none is great enough
      have e1 : takeB n R o = ([], 0, false) := by unfold takeB; rw [if_pos ⟨hR, ho⟩, if_pos (by omega)]
      have e2 : decide (bestB R ≥ o) = false := by
        refine decide_eq_false ?_
        intro hc
        have hc' : o ≤ R.foldl (fun b r => if b < r.f1 then r.f1 else b) (-1) := hc
        rcases hb3 with h3 | ⟨r, hr, h3⟩
        · omega
        · obtain ⟨i, hi, rfl⟩ := List.getElem_of_mem hr
          have := hno i hi
          rw [hrd i hi] at this
          omega
      rw [e1]
      simp only [e2, bne_self_eq_false, Bool.false_eq_true, if_false]
      refine Ev.bind hokR ?_
      refine Ev.of_succ (fun k => ?_)
      simp only [laws_FnRuns.j0]
      rfl
    · have e1 : takeB n R o = (takeL R b o, (runAt R b).f0, true) := by unfold takeB; rw [if_pos ⟨hR, ho⟩, eb, if_neg (by omega), toNat_cast]
      have e2 : decide (bestB R ≥ o) = true := by
        refine decide_eq_true ?_
        have h1 := hb2 (R[b]) (List.getElem_mem hbl)
        rw [hrd b hbl] at hob
        show o ≤ R.foldl (fun b r => if b < r.f1 then r.f1 else b) (-1)
        omega
      rw [e1]
      simp only [e2, bne_self_eq_false, Bool.false_eq_true, if_false]
      refine Ev.bind hokR ?_
      obtain ⟨hr1, hr2, hr3⟩ := oneB_bd (right_one R none (right_of hR) (runAt R b) (by rw [hrd b hbl]; exact List.getElem_mem hbl))
      rw [wrap_size hn] at hr2
      obtain ⟨hN1, hN2⟩ := takeL_right hR b hbl o ⟨ho.1, hob⟩
      have hNl : (takeL R b o).length ≤ 32 := by
        have h3 := hN1
        unfold runsB at h3; rw [Bool.and_eq_true] at h3
        have h4 := runsB_len n _ h3.1 h3.2
        omega
      have hlen : ((framesB (takeL R b o)).length : Int) + pw o = ((framesB R).length : Int) := by
        have hsp := split_at R b hbl
        have h1 := hv_len (runAt R b).f0 ((runAt R b).f1 - o).toNat o ho.1 (by omega)
        have e3 : ((runF (runAt R b)).length : Int) = pw (runAt R b).f1 := by
          have := pw_pos (runAt R b).f1
          show (((List.range (pw (runAt R b).f1).toNat).map _).length : Int) = _
          rw [List.length_map, List.length_range]; omega
        have e4 : (framesB R).length = (framesB (R.take b)).length + ((runF (runAt R b)).length + (framesB (R.drop (b + 1))).length) := by
          conv => lhs; rw [hsp]
          rw [framesB_app, framesB_cons, List.length_append, List.length_append]
        unfold takeL
        rw [framesB_app, framesB_app, List.length_append, List.length_append, e4]
        rw [show o + (((runAt R b).f1 - o).toNat : Int) = (runAt R b).f1 by omega] at h1
        omega
      have hpo := pw_pos o
      have hpr := pw_pos (runAt R b).f1
      have hp8 := pw_le o
      have hle : pw o ≤ pw (runAt R b).f1 ∧ (runAt R b).f0 % pw o = 0 := by
        rcases pw_cases hr1 with ⟨e5, e6⟩ | ⟨e5, e6⟩ | ⟨e5, e6⟩ | ⟨e5, e6⟩ <;> rcases pw_cases (o := o) (by omega) with ⟨e3, e4⟩ | ⟨e3, e4⟩ | ⟨e3, e4⟩ | ⟨e3, e4⟩ <;> rw [e6] at hr3 ⊢ <;> rw [e4] <;> omega
      have hcb : ∀ x, (runAt R b).f0 ≤ x → x < (runAt R b).f0 + pw o → covB R x = true := by
        intro x h1 h2
        rw [covB_iff]
        exact ⟨runAt R b, by rw [hrd b hbl]; exact List.getElem_mem hbl, h1, by omega⟩
      generalize (runAt R b).f0 = a at *
      generalize takeL R b o = N at *
      have hfrN := impl_FreeFrames_ev n N (by omega)
      rw [if_pos hN1] at hfrN
      have hokN := impl_RunsOk_ev n N (by omega)
      rw [hN1] at hokN
      have hflN := framesB_len N
      have hshl := shl_eq o ho
      -- the end
      have hend : Ev (fun k => (impl_GiveRun.f k n N a o).bind fun bt512 => ((impl_GiveRun.f k n bt512.1 a o).bind fun bt516 => (if bt512.2 = true then (if bt516.2 = true then (some false) else ((laws_sameRuns.f k bt512.1 R).bind fun t520 => (some t520))) else (some false)))) true := by
        have h1 : giveB n N ⟨a, o⟩ = (R, true) := by
          unfold giveB
          rw [if_pos]
          · have : runsOf n (giveT n N ⟨a, o⟩) = R := runsOf_uniq hR _ (fun x h1 h2 => by
              unfold giveT
              rw [notB_in, decide_eq_true (show 0 ≤ x ∧ x < n from ⟨h1, h2⟩), Bool.true_and, Bool.not_not, inB_app, framesB_in, runF_in, hN2 x]
              by_cases h3 : a ≤ x ∧ x < a + pw o
              · rw [hcb x h3.1 h3.2, decide_eq_true h3.1, decide_eq_true h3.2]; rfl
              · have e : (decide (a ≤ x) && decide (x < a + pw o)) = false := by
                  by_cases h4 : a ≤ x
                  · rw [decide_eq_false (show ¬ x < a + pw o by omega), Bool.and_false]
                  · rw [decide_eq_false h4, Bool.false_and]
                show covB R x = (covB R x && !(decide (a ≤ x) && decide (x < a + pw o)) || (decide (a ≤ x) && decide (x < a + pw o)))
                rw [e]; simp)
            rw [this]
          · refine ⟨hN1, ?_, ?_⟩
            · show (decide (0 ≤ o ∧ o ≤ 3) && decide (0 ≤ a ∧ a ≤ wrap64 (n - pw o)) && decide (a % pw o = 0)) = true
              rw [wrap_size hn, decide_eq_true ho, decide_eq_true (show 0 ≤ a ∧ a ≤ n - pw o by omega), decide_eq_true hle.2]
              rfl
            · unfold freeOf
              rw [List.all_eq_true]
              intro x hx
              have h4 : inB (runF ⟨a, o⟩) x = true := by unfold inB; rw [List.any_eq_true]; exact ⟨x, hx, decide_eq_true rfl⟩
              rw [runF_in] at h4
              have h5 : (decide (a ≤ x) && decide (x < a + pw o)) = true := h4
              rw [hN2 x, h5]
              simp
        have h2 : (giveB n R ⟨a, o⟩).2 = false := by
          unfold giveB
          rw [if_neg]
          rintro ⟨_, _, h3⟩
          unfold freeOf at h3
          rw [List.all_eq_true] at h3
          have hm : a ∈ runF ⟨a, o⟩ := by
            show a ∈ (List.range (pw o).toNat).map (fun j : Nat => a + (j : Int))
            rw [List.mem_map]; exact ⟨0, List.mem_range.2 (by omega), by simp⟩
          have := h3 a hm
          rw [hcb a (by omega) (by omega)] at this
          cases this
        have h3 := impl_Give_ev n N (by omega) ⟨a, o⟩
        rw [h1] at h3
        refine Ev.bind h3 ?_
        refine Ev.bind (impl_Give_ev n R hRl2 ⟨a, o⟩) ?_
        simp only [h2, if_true, Bool.false_eq_true, if_false]
        exact Ev.bind (sameRuns_refl R hRl2) (Ev.now _)
      have loop : ∀ (d i : Nat), i + d = (framesB R).length → Ev (fun k => laws_FnRuns.l0 k n R o (framesB R) N a (pw o) (framesB N) (i : Int)) true := by
        intro d
        induction d with
        | zero =>
          intro i hi
          refine Ev.step (fun k => ?_) hend
          simp only [laws_FnRuns.l0]
          rw [if_neg (by omega)]
        | succ d ih =>
          intro i hi
          have hi2 : i < (framesB R).length := by omega
          have hx : rd (framesB R) (i : Int) ∈ framesB R := by
            show (framesB R).getD (i : Int).toNat 0 ∈ _
            rw [toNat_cast, List.getD_eq_getElem?_getD, List.getElem?_eq_getElem hi2]; exact List.getElem_mem hi2
          have hw := within_ev (framesB N) (by omega) (rd (framesB R) (i : Int))
          have hcx : covB R (rd (framesB R) (i : Int)) = true := by
            rw [← framesB_in]; unfold inB; rw [List.any_eq_true]; exact ⟨_, hx, decide_eq_true rfl⟩
          obtain ⟨x, hxe⟩ : ∃ x, rd (framesB R) (i : Int) = x := ⟨_, rfl⟩
          rw [hxe] at hx hw hcx
          rw [framesB_in, hN2 x, hcx, Bool.true_and] at hw
          by_cases hxa : x ≥ a
          · refine Ev.step (f := fun k => (laws_within.f k (framesB N) x).bind fun t509 => (if ((decide (x < a + pw o)) == t509) = true then (some false) else (laws_FnRuns.l0 k n R o (framesB R) N a (pw o) (framesB N) ((i + 1 : Nat) : Int)))) (fun k => ?_) (Ev.bind hw ?_)
            · simp only [laws_FnRuns.l0]
              rw [hxe, if_pos (by omega), if_pos (by omega), if_pos hxa, wrap64_id (n := a + pw o) (by omega) (by omega), wrap_succ (by omega)]
            · have hle' : a ≤ x := hxa
              rw [decide_eq_true hle', Bool.true_and]
              have e : (decide (x < a + pw o) == !decide (x < a + pw o)) = false := by cases decide (x < a + pw o) <;> rfl
              simp only [e, Bool.false_eq_true, if_false]
              exact ih (i + 1) (by omega)
          · refine Ev.step (f := fun k => (laws_within.f k (framesB N) x).bind fun t511 => (if (false == t511) = true then (some false) else (laws_FnRuns.l0 k n R o (framesB R) N a (pw o) (framesB N) ((i + 1 : Nat) : Int)))) (fun k => ?_) (Ev.bind hw ?_)
            · simp only [laws_FnRuns.l0]
              rw [hxe, if_pos (by omega), if_pos (by omega), if_neg hxa, wrap_succ (by omega)]
            · have hle' : ¬ a ≤ x := hxa
              rw [decide_eq_false hle', Bool.false_and]
              simp only [Bool.not_false, show (false == true) = false from rfl, Bool.false_eq_true, if_false]
              exact ih (i + 1) (by omega)
      refine Ev.step (f := fun k => (impl_FreeFrames.f k n N).bind fun t502 => (if (t502.length : Int) = (wrap64 (((framesB R).length : Int) - pw o)) then ((impl_RunsOk.f k n N).bind fun t505 => (laws_FnRuns.j1 k n R o (framesB R) N a (pw o) t502 (!t505))) else (laws_FnRuns.j1 k n R o (framesB R) N a (pw o) t502 true))) (fun k => ?_) (Ev.bind hfrN ?_)
      · simp only [laws_FnRuns.j0]
        rw [if_neg (by simp), if_pos (by trivial), if_pos ho.1, hshl]
        simp only [if_neg (show ¬ pw o = 0 by omega), tmod_nonneg (show 0 ≤ a by omega) hpo, if_pos hle.2]
      · simp only [if_pos (show ((framesB N).length : Int) = wrap64 (((framesB R).length : Int) - pw o) by rw [wrap64_id (by omega) (by omega)]; omega)]
        refine Ev.bind hokN ?_
        refine Ev.step (fun k => ?_) (loop (framesB R).length 0 (by omega))
        simp only [laws_FnRuns.j1]
        rfl

end Go.Proofs.Ytnfcddomkmjacaa.Pure
end
