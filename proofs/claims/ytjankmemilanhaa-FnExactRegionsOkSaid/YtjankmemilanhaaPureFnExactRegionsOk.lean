/- RegionsOk answers as the reference at all arguments: the plain half. No condition. -/
import Derived.Test.YtjankmemilanhaaP0
import Derived.Test.YtjankmemilanhaaP3
import Derived.Test.YtjankmemilanhaaP5
import Derived.Test.YtjankmemilanhaaP23
import Derived.Test.YtjankmemilanhaaP24
import Derived.Test.YtjankmemilanhaaP25
import Derived.Test.YtjankmemilanhaaP26
import Derived.Test.YtjankmemilanhaaP27
import Derived.Test.YtjankmemilanhaaP28
import Derived.Test.YtjankmemilanhaaP29
import Derived.Test.YtjankmemilanhaaP30
import Derived.Test.YtjankmemilanhaaP31
import Derived.Test.YtjankmemilanhaaAid
namespace Go.Proofs.Ytjankmemilanhaa.Pure
open Go.RowKit Go.Proofs.Ytjankmemilanhaa.P Go.Proofs.YtjankmemilanhaaW.PrintWords Go.Proofs.YtjankmemilanhaaW.PrintLast Go.Proofs.YtjankmemilanhaaW.PrintMore Go.Proofs.Ytjankmemilanhaa.Aid
set_option linter.unusedVariables false
set_option linter.unusedSimpArgs false

theorem l01In_eq (a b c : Int) : spec_l01In.f a b c = some (decide (b ≤ a ∧ a ≤ c)) := in_dec a b c
theorem within_eq (a b c : Int) : impl_within.f a b c = some (decide (b ≤ a ∧ a ≤ c)) := in_dec a b c
theorem map_getD {α β : Type} (f : α → β) (l : List α) (d : α) : (List.range l.length).map (fun i => f (l.getD i d)) = l.map f := by
  rw [show (fun i => f (l.getD i d)) = f ∘ (fun i => l.getD i d) from rfl, ← List.map_map, range_map_getD]
abbrev RegW := S63
abbrev RegL := S65
def toReg_ (r : RegL) : RegW := ⟨r.f0, r.f1, r.f2⟩
theorem rdGL (l : List RegL) (i : Nat) : rd_T65 l (i : Int) = l.getD i z65 := by unfold rd_T65; rw [toNat_cast]
theorem rdGW (l : List RegW) (i : Nat) : rd_T63 l (i : Int) = l.getD i z63 := by unfold rd_T63; rw [toNat_cast]
theorem szRegionS_eq (l : List RegL) (hl : l.length ≤ maxLen) : laws_szRegionS.f l 1048576 = some (if (l.length : Int) ≤ 1048576 then (1048576 - (l.length : Int) : Int) else (-1 : Int)) := by
  unfold maxLen at hl
  unfold laws_szRegionS.f
  have e : wrap64 (1048576 - (l.length : Int)) = 1048576 - l.length := by unfold wrap64; omega
  rw [e]
  by_cases h : (l.length : Int) ≤ 1048576
  · rw [if_neg (by omega), if_pos h]
  · rw [if_pos (by omega), if_neg h]
theorem toRegionS_ev (l : List RegL) (hl : l.length ≤ 1048576) : Ev (fun k => laws_toRegionS.f k l) (l.map toReg_) := by
  have key := ev_copy0 (fun k acc i => laws_toRegionS.l0 k l acc (i : Int)) l.length (fun i => toReg_ (l.getD i z65)) id (by
    intro i acc hi ha r h
    refine Ev.step (fun k => ?_) h
    simp only [laws_toRegionS.l0]
    rw [if_pos (by omega), if_pos (by omega), rdGL]
    unfold laws_toRegion.f
    simp only [Option.bind_some]
    rw [if_pos (by omega), wrap_succ (by omega), toNat_cast]
    rfl) (by
    intro acc ha
    refine Ev.of_succ (fun k => ?_)
    simp only [laws_toRegionS.l0]
    rw [if_neg (by omega)]
    rfl) (List.replicate l.length z63) (by simp)
  rw [map_getD toReg_ l z65] at key
  refine Ev.congr (fun k => ?_) key
  unfold laws_toRegionS.f
  rw [if_pos (by omega), if_pos (by omega), toNat_cast]
  rfl
theorem eqRegionS_refl (l : List RegW) (hl : l.length ≤ 1048576) : Ev (fun k => laws_eqRegionS.f k l l) true := by
  have key := ev_all0 (fun k i => laws_eqRegionS.l0 k l l (i : Int)) l.length (fun _ => true) false true (by
    intro i hi _ r h
    refine Ev.step (fun k => ?_) h
    simp only [laws_eqRegionS.l0]
    rw [if_pos (by omega), if_pos (by omega), if_pos (by omega)]
    unfold laws_eqRegion.f
    simp only [if_true, Option.bind_some, bne_self_eq_false, Bool.false_eq_true, if_false]
    rw [wrap_succ (by omega)]) (by intro i _ h; cases h) (by
    refine Ev.of_succ (fun k => ?_)
    simp only [laws_eqRegionS.l0]
    rw [if_neg (by omega)])
  rw [if_pos (by simp)] at key
  refine Ev.congr (fun k => ?_) key
  unfold laws_eqRegionS.f
  rw [if_pos rfl]
  rfl
abbrev zg : RegW := z63
def regAt (l : List RegW) (i : Nat) : RegW := l.getD i zg
def oneR (r : RegW) : Bool := decide (0 ≤ r.f0 ∧ r.f0 < r.f1 ∧ r.f1 ≤ 64)
/-- Does b follow a? -/
def nextR (a b : RegW) : Bool := !decide (a.f1 > b.f0) && (!decide (a.f1 = b.f0) || !(a.f2 == b.f2))
def okR (l : List RegW) (i : Nat) : Bool := oneR (regAt l i) && (decide (i = 0) || nextR (regAt l (i - 1)) (regAt l i))
def regsB (l : List RegW) : Bool := decide (l.length ≤ 12) && (List.range l.length).all (okR l)
theorem l06One_eq (a b : Int) (c : Bool) : spec_l06One.f a b c = some (oneR ⟨a, b, c⟩) := by
  unfold spec_l06One.f oneR
  by_cases h1 : a ≥ 0
  · rw [if_pos h1]
    by_cases h2 : a < b
    · rw [if_pos h2]; congr 1; simp [h2]; omega
    · rw [if_neg h2]; congr 1; simp [h2]
  · rw [if_neg h1]; congr 1; simp; omega
theorem wrap_pred_r {i : Nat} (h0 : 0 < i) (h : i < 9223372036854775807) : wrap64 ((i : Int) - 1) = ((i - 1 : Nat) : Int) := by unfold wrap64; omega
theorem okR_cases {l : List RegW} {i : Nat} (h0 : ¬ i = 0) : okR l i = (oneR (regAt l i) && nextR (regAt l (i - 1)) (regAt l i)) := by unfold okR; rw [decide_eq_false h0, Bool.false_or]
theorem spec_RegionsOk_ev (l : List RegW) (hl : l.length ≤ 1048576) : Ev (fun k => spec_RegionsOk.f k l) (regsB l) := by
  unfold spec_RegionsOk.f regsB
  by_cases h12 : (l.length : Int) > 12
  · simp only [if_pos h12, decide_eq_false (show ¬ l.length ≤ 12 by omega), Bool.false_and]; exact Ev.now _
  · simp only [if_neg h12, decide_eq_true (show l.length ≤ 12 by omega), Bool.true_and]
    have key := ev_all0 (fun k i => spec_RegionsOk.l0 k l (i : Int)) l.length (okR l) false true (by
      intro i hi hb r h
      refine Ev.step (fun k => ?_) h
      have hq : spec_l06One.f (l.getD i zg).f0 (l.getD i zg).f1 (l.getD i zg).f2 = some (oneR (regAt l i)) := l06One_eq _ _ _
      simp only [spec_RegionsOk.l0]
      rw [if_pos (by omega), if_pos (by omega), rdGW, hq]
      simp only [Option.bind_some]
      by_cases h0 : i = 0
      · subst h0
        unfold okR at hb
        simp only [decide_true, Bool.true_or, Bool.and_true] at hb
        rw [if_pos hb, if_neg (by omega), wrap_succ (by omega)]
      · rw [okR_cases h0, Bool.and_eq_true] at hb
        obtain ⟨h1, h2⟩ := hb
        rw [if_pos h1, if_pos (by omega), wrap_pred_r (by omega) (by omega), if_pos (by omega), if_pos (by omega), rdGW, wrap_succ (by omega)]
        unfold nextR regAt at h2
        simp only [Bool.and_eq_true, Bool.or_eq_true, Bool.not_eq_true', decide_eq_false_iff_not, beq_eq_false_iff_ne, ne_eq] at h2
        rw [if_neg h2.1]
        by_cases he : (l.getD (i - 1) zg).f1 = (l.getD i zg).f0
        · rw [if_pos he, if_neg]
          rcases h2.2 with h3 | h3
          · exact absurd he h3
          · simpa using h3
        · rw [if_neg he]) (by
      intro i hi hb
      refine Ev.of_succ (fun k => ?_)
      have hq : spec_l06One.f (l.getD i zg).f0 (l.getD i zg).f1 (l.getD i zg).f2 = some (oneR (regAt l i)) := l06One_eq _ _ _
      simp only [spec_RegionsOk.l0]
      rw [if_pos (by omega), if_pos (by omega), rdGW, hq]
      simp only [Option.bind_some]
      by_cases h1 : oneR (regAt l i) = true
      · have h0 : ¬ i = 0 := by rintro rfl; unfold okR at hb; rw [h1] at hb; simp at hb
        rw [okR_cases h0, h1, Bool.true_and] at hb
        rw [if_pos h1, if_pos (by omega), wrap_pred_r (by omega) (by omega), if_pos (by omega), if_pos (by omega), rdGW]
        unfold nextR regAt at hb
        by_cases h3 : (l.getD (i - 1) zg).f1 > (l.getD i zg).f0
        · rw [if_pos h3]
        · rw [if_neg h3]
          rw [decide_eq_false h3, Bool.not_false, Bool.true_and] at hb
          by_cases he : (l.getD (i - 1) zg).f1 = (l.getD i zg).f0
          · rw [if_pos he]
            rw [decide_eq_true he, Bool.not_true, Bool.false_or, Bool.not_eq_false'] at hb
            rw [if_pos hb]
          · rw [decide_eq_false he] at hb; simp at hb
      · rw [if_neg h1]) (by
      refine Ev.of_succ (fun k => ?_)
      simp only [spec_RegionsOk.l0]
      rw [if_neg (by omega)])
    have e : (if (List.range l.length).all (okR l) = true then true else false) = (List.range l.length).all (okR l) := by cases (List.range l.length).all (okR l) <;> rfl
    rw [e] at key
    exact key
theorem impl_one (a b : Int) (c : Bool) : ((impl_within.f a 0 (wrap64 (b - 1))) = some (decide (0 ≤ a ∧ a ≤ wrap64 (b - 1)))) ∧ (impl_within.f b 1 64 = some (decide (1 ≤ b ∧ b ≤ 64))) ∧ oneR ⟨a, b, c⟩ = (decide (0 ≤ a ∧ a ≤ wrap64 (b - 1)) && decide (1 ≤ b ∧ b ≤ 64)) := by
  refine ⟨within_eq _ _ _, within_eq _ _ _, ?_⟩
  unfold oneR
  by_cases hb : 1 ≤ b ∧ b ≤ 64
  · rw [wrap64_id (by omega) (by omega), decide_eq_true hb, Bool.and_true]
    congr 1
    rw [eq_iff_iff]
    show (0 ≤ a ∧ a < b ∧ b ≤ 64) ↔ _
    omega
  · rw [decide_eq_false hb, Bool.and_false, decide_eq_false_iff_not]
    show ¬ (0 ≤ a ∧ a < b ∧ b ≤ 64)
    omega
theorem impl_RegionsOk_ev (l : List RegW) (hl : l.length ≤ 1048576) : Ev (fun k => impl_RegionsOk.f k l) (regsB l) := by
  unfold impl_RegionsOk.f regsB
  have hj : ∀ (i : Nat), i < l.length → ∀ r, Ev (fun k => impl_RegionsOk.j1 k l (i : Int) l (l.length : Int) (i : Int) (!oneR (regAt l i)) (regAt l i).f0 (regAt l i).f1 (regAt l i).f2) r → Ev (fun k => impl_RegionsOk.l0 k l l (l.length : Int) (i : Int)) r := by
    intro i hi r h
    obtain ⟨h1, h2, h3⟩ := impl_one (regAt l i).f0 (regAt l i).f1 (regAt l i).f2
    refine Ev.step (fun k => ?_) h
    simp only [impl_RegionsOk.l0]
    rw [if_pos (by omega), if_pos (by omega), if_pos (by omega), rdGW, show l.getD i z63 = regAt l i from rfl, h1]
    simp only [Option.bind_some]
    rw [show oneR (regAt l i) = _ from h3]
    by_cases h4 : 0 ≤ (regAt l i).f0 ∧ (regAt l i).f0 ≤ wrap64 ((regAt l i).f1 - 1)
    · rw [decide_eq_true h4, if_pos rfl, h2]; rfl
    · rw [decide_eq_false h4, if_neg (by simp)]; rfl
  have key := ev_all0 (fun k i => impl_RegionsOk.l0 k l l (l.length : Int) (i : Int)) l.length (okR l) false (decide (l.length ≤ 12)) (by
    intro i hi hb r h
    refine hj i hi r (Ev.step (fun k => ?_) h)
    have h1 : oneR (regAt l i) = true := by unfold okR at hb; exact (Bool.and_eq_true _ _ ▸ hb).1
    simp only [impl_RegionsOk.j1]
    rw [h1, if_neg (by simp)]
    by_cases h0 : i = 0
    · subst h0
      rw [if_neg (by omega), wrap_succ (by omega)]
    · rw [okR_cases h0, h1, Bool.true_and] at hb
      rw [if_pos (by omega), wrap_pred_r (by omega) (by omega), if_pos (by omega), if_pos (by omega), rdGW, wrap_succ (by omega), show l.getD (i - 1) z63 = regAt l (i - 1) from rfl]
      unfold nextR at hb
      simp only [Bool.and_eq_true, Bool.or_eq_true, Bool.not_eq_true', decide_eq_false_iff_not, beq_eq_false_iff_ne, ne_eq] at hb
      rw [if_neg hb.1]
      by_cases he : (regAt l (i - 1)).f1 = (regAt l i).f0
      · rw [if_pos he, if_neg]
        rcases hb.2 with h3 | h3
        · exact absurd he h3
        · simpa using h3
      · rw [if_neg he]) (by
    intro i hi hb
    refine hj i hi false (Ev.of_succ (fun k => ?_))
    simp only [impl_RegionsOk.j1]
    by_cases h1 : oneR (regAt l i) = true
    · have h0 : ¬ i = 0 := by rintro rfl; unfold okR at hb; rw [h1] at hb; simp at hb
      rw [okR_cases h0, h1, Bool.true_and] at hb
      rw [h1, if_neg (by simp), if_pos (by omega), wrap_pred_r (by omega) (by omega), if_pos (by omega), if_pos (by omega), rdGW, show l.getD (i - 1) z63 = regAt l (i - 1) from rfl]
      unfold nextR at hb
      by_cases h3 : (regAt l (i - 1)).f1 > (regAt l i).f0
      · rw [if_pos h3]
      · rw [if_neg h3]
        rw [decide_eq_false h3, Bool.not_false, Bool.true_and] at hb
        by_cases he : (regAt l (i - 1)).f1 = (regAt l i).f0
        · rw [if_pos he]
          rw [decide_eq_true he, Bool.not_true, Bool.false_or, Bool.not_eq_false'] at hb
          rw [if_pos hb]
        · rw [decide_eq_false he] at hb; simp at hb
    · rw [show oneR (regAt l i) = false by simpa using h1, if_pos (by rfl)]) (by
    refine Ev.of_succ (fun k => ?_)
    simp only [impl_RegionsOk.l0]
    rw [if_neg (by omega)]
    congr 1
    rw [decide_eq_decide]
    omega)
  have e : (if (List.range l.length).all (okR l) = true then decide (l.length ≤ 12) else false) = (decide (l.length ≤ 12) && (List.range l.length).all (okR l)) := by cases (List.range l.length).all (okR l) <;> simp
  rw [e] at key
  exact key

theorem FnExactRegionsOk (l0 : List S65) (g0 : (l0.length ≤ maxLen ∧ ∀ y0 ∈ l0, ((Lit.int .i64 y0.f0).wf = true ∧ (Lit.int .i64 y0.f1).wf = true ∧ True))) : ∃ k, laws_FnExactRegionsOk.f k l0 = some true := by
  refine Ev.rounds (g := fun k => laws_FnExactRegionsOk.f k l0) ?_
  unfold laws_FnExactRegionsOk.f
  rw [szRegionS_eq l0 g0.1]
  simp only [Option.bind_some]
  by_cases h : (l0.length : Int) ≤ 1048576
  · simp only [if_pos h, if_neg (show ¬ (1048576 - (l0.length : Int)) < 0 by omega)]
    have hl : (l0.map toReg_).length ≤ 1048576 := by simp; omega
    refine Ev.bind (toRegionS_ev l0 (by omega)) ?_
    refine Ev.bind (spec_RegionsOk_ev _ hl) ?_
    refine Ev.bind (toRegionS_ev l0 (by omega)) ?_
    refine Ev.bind (impl_RegionsOk_ev _ hl) ?_
    simp only [bne_self_eq_false, Bool.false_eq_true, if_false]
    refine Ev.bind (toRegionS_ev l0 (by omega)) ?_
    refine Ev.bind (eqRegionS_refl _ hl) ?_
    simp only [if_true]
    exact Ev.now true
  · simp only [if_neg h]; exact Ev.now true

end Go.Proofs.Ytjankmemilanhaa.Pure
