/- What the proof of FnExactEntryAtSaid rests on, part 6: plain lemmas and contracts of the functions that the law reaches (in part written by a printing program over the translation). No condition. -/
import Derived.Test.YtngonhgghncdiaaBFnExactEntryAte
section
namespace Go.Proofs.Ytngonhgghncdiaa.P
open Go.Proofs.Ytngonhgghncdiaa.Up
open Go.RowKit Go.Proofs.YtngonhgghncdiaaW.PrintWords Go.Proofs.YtngonhgghncdiaaW.PrintLast Go.Proofs.YtngonhgghncdiaaW.PrintMore
attribute [local go_sem] max2_int min2_int max_two min_two max_three min_three max_four min_four
set_option linter.unusedVariables false
set_option linter.unusedSimpArgs false
def laws_FnExactEntryAt.f (k : Nat) (l0_0 : List (List Int)) (l0_1 : List Int) (l0_2 : List (S151)) (l0_3 : List (S142)) (l0_4 : List (S154)) (a0_5 : Int) (l0_6 : List (S146)) (l0_7 : List (S148)) (l0_8 : List Int) (l0_9 : List Int) (a1 : Int) (a2 : Int) : Option (Bool) := (laws_szMachine.f k l0_0 l0_1 l0_2 l0_3 l0_4 a0_5 l0_6 l0_7 l0_8 l0_9 1048576).bind fun t843 => (if t843 < 0 then (some true) else ((laws_toMachine.f k l0_0 l0_1 l0_2 l0_3 l0_4 a0_5 l0_6 l0_7 l0_8 l0_9).bind fun bt844 => ((spec_EntryAt.f k bt844.1 bt844.2.1 bt844.2.2.1 bt844.2.2.2.1 bt844.2.2.2.2.1 bt844.2.2.2.2.2.1 bt844.2.2.2.2.2.2.1 bt844.2.2.2.2.2.2.2.1 bt844.2.2.2.2.2.2.2.2.1 bt844.2.2.2.2.2.2.2.2.2 a1 a2).bind fun bt872 => ((laws_toMachine.f k l0_0 l0_1 l0_2 l0_3 l0_4 a0_5 l0_6 l0_7 l0_8 l0_9).bind fun bt877 => ((impl_EntryAt.f k bt877.1 bt877.2.1 bt877.2.2.1 bt877.2.2.2.1 bt877.2.2.2.2.1 bt877.2.2.2.2.2.1 bt877.2.2.2.2.2.2.1 bt877.2.2.2.2.2.2.2.1 bt877.2.2.2.2.2.2.2.2.1 bt877.2.2.2.2.2.2.2.2.2 a1 a2).bind fun bt906 => ((laws_eqEntry.f bt906.1 bt906.2.1 bt906.2.2.1 bt906.2.2.2 bt872.1 bt872.2.1 bt872.2.2.1 bt872.2.2.2).bind fun t911 => (if t911 = true then ((laws_toMachine.f k l0_0 l0_1 l0_2 l0_3 l0_4 a0_5 l0_6 l0_7 l0_8 l0_9).bind fun bt912 => ((laws_eqMachine.f k bt877.1 bt877.2.1 bt877.2.2.1 bt877.2.2.2.1 bt877.2.2.2.2.1 bt877.2.2.2.2.2.1 bt877.2.2.2.2.2.2.1 bt877.2.2.2.2.2.2.2.1 bt877.2.2.2.2.2.2.2.2.1 bt877.2.2.2.2.2.2.2.2.2 bt912.1 bt912.2.1 bt912.2.2.1 bt912.2.2.2.1 bt912.2.2.2.2.1 bt912.2.2.2.2.2.1 bt912.2.2.2.2.2.2.1 bt912.2.2.2.2.2.2.2.1 bt912.2.2.2.2.2.2.2.2.1 bt912.2.2.2.2.2.2.2.2.2).bind fun t940 => (if t940 = true then (some true) else (some false)))) else (some false))))))))
set_option maxHeartbeats 200000000 in
set_option maxRecDepth 100000 in
theorem laws_FnExactEntryAt.calls (k : Nat) (A0_0 : Option Addr) (c0_0 : Nat) (l0_0 : List (List Int)) (A0_1 : Option Addr) (c0_1 : Nat) (l0_1 : List Int) (A0_2 : Option Addr) (c0_2 : Nat) (l0_2 : List (S151)) (A0_3 : Option Addr) (c0_3 : Nat) (l0_3 : List (S142)) (A0_4 : Option Addr) (c0_4 : Nat) (l0_4 : List (S154)) (a0_5 : Int) (A0_6 : Option Addr) (c0_6 : Nat) (l0_6 : List (S146)) (A0_7 : Option Addr) (c0_7 : Nat) (l0_7 : List (S148)) (A0_8 : Option Addr) (c0_8 : Nat) (l0_8 : List Int) (A0_9 : Option Addr) (c0_9 : Nat) (l0_9 : List Int) (a1 : Int) (a2 : Int) (r : Bool) (w : World) (hr0_0 : Kd.C (Kd.slice 3 (Kd.int .i64)) w A0_0 l0_0.length l0_0) (hc0_0 : l0_0.length ≤ c0_0) (hr0_1 : Kd.C (Kd.int .i64) w A0_1 l0_1.length l0_1) (hc0_1 : l0_1.length ≤ c0_1) (hr0_2 : Kd.C k151 w A0_2 l0_2.length l0_2) (hc0_2 : l0_2.length ≤ c0_2) (hr0_3 : Kd.C k142 w A0_3 l0_3.length l0_3) (hc0_3 : l0_3.length ≤ c0_3) (hr0_4 : Kd.C k154 w A0_4 l0_4.length l0_4) (hc0_4 : l0_4.length ≤ c0_4) (hr0_6 : Kd.C k146 w A0_6 l0_6.length l0_6) (hc0_6 : l0_6.length ≤ c0_6) (hr0_7 : Kd.C k148 w A0_7 l0_7.length l0_7) (hc0_7 : l0_7.length ≤ c0_7) (hr0_8 : Kd.C (Kd.int .i64) w A0_8 l0_8.length l0_8) (hc0_8 : l0_8.length ≤ c0_8) (hr0_9 : Kd.C (Kd.int .i64) w A0_9 l0_9.length l0_9) (hc0_9 : l0_9.length ≤ c0_9) (h : laws_FnExactEntryAt.f k l0_0 l0_1 l0_2 l0_3 l0_4 a0_5 l0_6 l0_7 l0_8 l0_9 a1 a2 = some r) (hr_ : r = true) :
  Calls Try.prog 5 #[.agg #[.slice A0_0 l0_0.length c0_0, .slice A0_1 l0_1.length c0_1, .slice A0_2 l0_2.length c0_2, .slice A0_3 l0_3.length c0_3, .slice A0_4 l0_4.length c0_4, .int .i64 a0_5, .slice A0_6 l0_6.length c0_6, .slice A0_7 l0_7.length c0_7, .slice A0_8 l0_8.length c0_8, .slice A0_9 l0_9.length c0_9], .int .i64 a1, .int .i64 a2] w fun e w' => e = .returned (.bool r) ∧ Below w.heap.size w w' := by
 have hu53 := Try.underlying53; have hu56 := Try.underlying56; have hu41 := Try.underlying41; have HR0_0 := Aside0.mk hr0_0; have HC0_0 := Aside0.mk hc0_0; clear hr0_0 hc0_0; have HR0_1 := Aside0.mk hr0_1; have HC0_1 := Aside0.mk hc0_1; clear hr0_1 hc0_1; have HR0_2 := Aside0.mk hr0_2; have HC0_2 := Aside0.mk hc0_2; clear hr0_2 hc0_2; have HR0_3 := Aside0.mk hr0_3; have HC0_3 := Aside0.mk hc0_3; clear hr0_3 hc0_3; have HR0_4 := Aside0.mk hr0_4; have HC0_4 := Aside0.mk hc0_4; clear hr0_4 hc0_4; have HR0_6 := Aside0.mk hr0_6; have HC0_6 := Aside0.mk hc0_6; clear hr0_6 hc0_6; have HR0_7 := Aside0.mk hr0_7; have HC0_7 := Aside0.mk hc0_7; clear hr0_7 hc0_7; have HR0_8 := Aside0.mk hr0_8; have HC0_8 := Aside0.mk hc0_8; clear hr0_8 hc0_8; have HR0_9 := Aside0.mk hr0_9; have HC0_9 := Aside0.mk hc0_9; clear hr0_9 hc0_9; have HB := Aside0.mk (Below.refl w.heap.size w)
 have H : ((laws_szMachine.f k l0_0 l0_1 l0_2 l0_3 l0_4 a0_5 l0_6 l0_7 l0_8 l0_9 1048576).bind fun t843 => (if t843 < 0 then (some true) else ((laws_toMachine.f k l0_0 l0_1 l0_2 l0_3 l0_4 a0_5 l0_6 l0_7 l0_8 l0_9).bind fun bt844 => ((spec_EntryAt.f k bt844.1 bt844.2.1 bt844.2.2.1 bt844.2.2.2.1 bt844.2.2.2.2.1 bt844.2.2.2.2.2.1 bt844.2.2.2.2.2.2.1 bt844.2.2.2.2.2.2.2.1 bt844.2.2.2.2.2.2.2.2.1 bt844.2.2.2.2.2.2.2.2.2 a1 a2).bind fun bt872 => ((laws_toMachine.f k l0_0 l0_1 l0_2 l0_3 l0_4 a0_5 l0_6 l0_7 l0_8 l0_9).bind fun bt877 => ((impl_EntryAt.f k bt877.1 bt877.2.1 bt877.2.2.1 bt877.2.2.2.1 bt877.2.2.2.2.1 bt877.2.2.2.2.2.1 bt877.2.2.2.2.2.2.1 bt877.2.2.2.2.2.2.2.1 bt877.2.2.2.2.2.2.2.2.1 bt877.2.2.2.2.2.2.2.2.2 a1 a2).bind fun bt906 => ((laws_eqEntry.f bt906.1 bt906.2.1 bt906.2.2.1 bt906.2.2.2 bt872.1 bt872.2.1 bt872.2.2.1 bt872.2.2.2).bind fun t911 => (if t911 = true then ((laws_toMachine.f k l0_0 l0_1 l0_2 l0_3 l0_4 a0_5 l0_6 l0_7 l0_8 l0_9).bind fun bt912 => ((laws_eqMachine.f k bt877.1 bt877.2.1 bt877.2.2.1 bt877.2.2.2.1 bt877.2.2.2.2.1 bt877.2.2.2.2.2.1 bt877.2.2.2.2.2.2.1 bt877.2.2.2.2.2.2.2.1 bt877.2.2.2.2.2.2.2.2.1 bt877.2.2.2.2.2.2.2.2.2 bt912.1 bt912.2.1 bt912.2.2.1 bt912.2.2.2.1 bt912.2.2.2.2.1 bt912.2.2.2.2.2.1 bt912.2.2.2.2.2.2.1 bt912.2.2.2.2.2.2.2.1 bt912.2.2.2.2.2.2.2.2.1 bt912.2.2.2.2.2.2.2.2.2).bind fun t940 => (if t940 = true then (some true) else (some false)))) else (some false))))))))) = some r := h; clear h; replace H := Option.bind_eq_some_iff.mp H; obtain ⟨t843, A40, H⟩ := H
 replace H : (if t843 < 0 then (some true) else ((laws_toMachine.f k l0_0 l0_1 l0_2 l0_3 l0_4 a0_5 l0_6 l0_7 l0_8 l0_9).bind fun bt844 => ((spec_EntryAt.f k bt844.1 bt844.2.1 bt844.2.2.1 bt844.2.2.2.1 bt844.2.2.2.2.1 bt844.2.2.2.2.2.1 bt844.2.2.2.2.2.2.1 bt844.2.2.2.2.2.2.2.1 bt844.2.2.2.2.2.2.2.2.1 bt844.2.2.2.2.2.2.2.2.2 a1 a2).bind fun bt872 => ((laws_toMachine.f k l0_0 l0_1 l0_2 l0_3 l0_4 a0_5 l0_6 l0_7 l0_8 l0_9).bind fun bt877 => ((impl_EntryAt.f k bt877.1 bt877.2.1 bt877.2.2.1 bt877.2.2.2.1 bt877.2.2.2.2.1 bt877.2.2.2.2.2.1 bt877.2.2.2.2.2.2.1 bt877.2.2.2.2.2.2.2.1 bt877.2.2.2.2.2.2.2.2.1 bt877.2.2.2.2.2.2.2.2.2 a1 a2).bind fun bt906 => ((laws_eqEntry.f bt906.1 bt906.2.1 bt906.2.2.1 bt906.2.2.2 bt872.1 bt872.2.1 bt872.2.2.1 bt872.2.2.2).bind fun t911 => (if t911 = true then ((laws_toMachine.f k l0_0 l0_1 l0_2 l0_3 l0_4 a0_5 l0_6 l0_7 l0_8 l0_9).bind fun bt912 => ((laws_eqMachine.f k bt877.1 bt877.2.1 bt877.2.2.1 bt877.2.2.2.1 bt877.2.2.2.2.1 bt877.2.2.2.2.2.1 bt877.2.2.2.2.2.2.1 bt877.2.2.2.2.2.2.2.1 bt877.2.2.2.2.2.2.2.2.1 bt877.2.2.2.2.2.2.2.2.2 bt912.1 bt912.2.1 bt912.2.2.1 bt912.2.2.2.1 bt912.2.2.2.2.1 bt912.2.2.2.2.2.1 bt912.2.2.2.2.2.2.1 bt912.2.2.2.2.2.2.2.1 bt912.2.2.2.2.2.2.2.2.1 bt912.2.2.2.2.2.2.2.2.2).bind fun t940 => (if t940 = true then (some true) else (some false)))) else (some false)))))))) = some r := H; have A4 := Aside0.mk A40; clear A40
 by_cases c5 : t843 < 0
 ·rw [if_pos c5] at H
  have c5b0 : decide (t843 < 0) = true := decide_eq_true c5; clear c5; obtain rfl := Option.some.inj H; first
  | exact absurd hr_ (by decide)
  | (skip
     go_enter Try.func5, Try.ntmps5
     go_wp2_with (first | ((with_reducible refine gate_dst (N := 3) rfl ?_); refine box_event ?hg (N := 3) ?hd (cs := #[.slice A0_0 l0_0.length c0_0, .slice A0_1 l0_1.length c0_1, .slice A0_2 l0_2.length c0_2, .slice A0_3 l0_3.length c0_3, .slice A0_4 l0_4.length c0_4, .int .i64 a0_5, .slice A0_6 l0_6.length c0_6, .slice A0_7 l0_7.length c0_7, .slice A0_8 l0_8.length c0_8, .slice A0_9 l0_9.length c0_9]) (t := 53) ?hr ?_; (case hd => rfl); (case hg => rfl); (case hr => first | (go_simp; done) | (go_simp; rfl)); intro gb842 hg w6 hbox hb; have BK842 := Aside0.mk (hbox); have GW842 := Aside0.mk ((by rw [hg]; exact (below_size (gB HB)) : w.heap.size ≤ gb842)); have GE842 := Aside0.mk ((by rw [hg]; exact (below_size (gB HB)) : w.heap.size ≤ gb842)); replace HB := Aside0.mk (below_step (gB HB) hb); clear hb hbox hg; obtain ⟨hcz7_0, hcz7_1, hcz7_2, hcz7_3, hcz7_4, hcz7_5, hcz7_6, hcz7_7, hcz7_8, hcz7_9⟩ := gk10 BK842; obtain ⟨hfz7_0, hfz7_1, hfz7_2, hfz7_3, hfz7_4, hfz7_5, hfz7_6, hfz7_7, hfz7_8, hfz7_9⟩ := gf10 BK842) | ((with_reducible refine gate_callee (f := 20) rfl ?_); refine goesL_ (some 13) rfl rfl Try.func20 (by kernel_rfl) rfl #[.agg #[.slice A0_0 l0_0.length c0_0, .slice A0_1 l0_1.length c0_1, .slice A0_2 l0_2.length c0_2, .slice A0_3 l0_3.length c0_3, .slice A0_4 l0_4.length c0_4, .int .i64 a0_5, .slice A0_6 l0_6.length c0_6, .slice A0_7 l0_7.length c0_7, .slice A0_8 l0_8.length c0_8, .slice A0_9 l0_9.length c0_9], .int .i64 1048576] rfl (by (try simp only [List.map_toArray, List.map_cons, List.map_nil]); first | done | rfl) ?_; (with_reducible refine (laws_szMachine.calls k _ _ l0_0 _ _ l0_1 _ _ l0_2 _ _ l0_3 _ _ l0_4 a0_5 _ _ l0_6 _ _ l0_7 _ _ l0_8 _ _ l0_9 1048576 t843 _ ?side1 ?side2 ?side3 ?side4 ?side5 ?side6 ?side7 ?side8 ?side9 ?side10 ?side11 ?side12 ?side13 ?side14 ?side15 ?side16 ?side17 ?side18 A4.out).mono ?_); (case side1 => exact gE HR0_0 HB); (case side2 => exact HC0_0.out); (case side3 => exact gE HR0_1 HB); (case side4 => exact HC0_1.out); (case side5 => exact gE HR0_2 HB); (case side6 => exact HC0_2.out); (case side7 => exact gE HR0_3 HB); (case side8 => exact HC0_3.out); (case side9 => exact gE HR0_4 HB); (case side10 => exact HC0_4.out); (case side11 => exact gE HR0_6 HB); (case side12 => exact HC0_6.out); (case side13 => exact gE HR0_7 HB); (case side14 => exact HC0_7.out); (case side15 => exact gE HR0_8 HB); (case side16 => exact HC0_8.out); (case side17 => exact gE HR0_9 HB); (case side18 => exact HC0_9.out); rintro e w8 ⟨rfl, hb⟩; refine ⟨_, rfl, ?_⟩; replace BK842 := Aside0.mk (blk_below (g := gb842) (gK BK842) hb); replace HB := Aside0.mk (below_step (gT1 GE842.out HB) hb); (try clear hb); (try clear hb2); (try clear hk); (try clear hi)))
     go_ret
     exact ⟨by first | rfl | (simp [errW_none, errW_some] <;> rfl) | (simp [*, errW_none, errW_some] <;> rfl), gT1 GE842.out HB⟩)
 ·rw [if_neg c5] at H
  have c5b0 : decide (t843 < 0) = false := decide_eq_false c5; clear c5; replace H := Option.bind_eq_some_iff.mp H; obtain ⟨⟨t844, t847, t850, t853, t856, t859, t860, t863, t866, t869⟩, A90, H⟩ := H; replace H : ((spec_EntryAt.f k t844 t847 t850 t853 t856 t859 t860 t863 t866 t869 a1 a2).bind fun bt872 => ((laws_toMachine.f k l0_0 l0_1 l0_2 l0_3 l0_4 a0_5 l0_6 l0_7 l0_8 l0_9).bind fun bt877 => ((impl_EntryAt.f k bt877.1 bt877.2.1 bt877.2.2.1 bt877.2.2.2.1 bt877.2.2.2.2.1 bt877.2.2.2.2.2.1 bt877.2.2.2.2.2.2.1 bt877.2.2.2.2.2.2.2.1 bt877.2.2.2.2.2.2.2.2.1 bt877.2.2.2.2.2.2.2.2.2 a1 a2).bind fun bt906 => ((laws_eqEntry.f bt906.1 bt906.2.1 bt906.2.2.1 bt906.2.2.2 bt872.1 bt872.2.1 bt872.2.2.1 bt872.2.2.2).bind fun t911 => (if t911 = true then ((laws_toMachine.f k l0_0 l0_1 l0_2 l0_3 l0_4 a0_5 l0_6 l0_7 l0_8 l0_9).bind fun bt912 => ((laws_eqMachine.f k bt877.1 bt877.2.1 bt877.2.2.1 bt877.2.2.2.1 bt877.2.2.2.2.1 bt877.2.2.2.2.2.1 bt877.2.2.2.2.2.2.1 bt877.2.2.2.2.2.2.2.1 bt877.2.2.2.2.2.2.2.2.1 bt877.2.2.2.2.2.2.2.2.2 bt912.1 bt912.2.1 bt912.2.2.1 bt912.2.2.2.1 bt912.2.2.2.2.1 bt912.2.2.2.2.2.1 bt912.2.2.2.2.2.2.1 bt912.2.2.2.2.2.2.2.1 bt912.2.2.2.2.2.2.2.2.1 bt912.2.2.2.2.2.2.2.2.2).bind fun t940 => (if t940 = true then (some true) else (some false)))) else (some false)))))) = some r := H; have A9 := Aside0.mk A90; clear A90; replace H := Option.bind_eq_some_iff.mp H; obtain ⟨⟨t872, t873, t874, t875⟩, A100, H⟩ := H
  replace H : ((laws_toMachine.f k l0_0 l0_1 l0_2 l0_3 l0_4 a0_5 l0_6 l0_7 l0_8 l0_9).bind fun bt877 => ((impl_EntryAt.f k bt877.1 bt877.2.1 bt877.2.2.1 bt877.2.2.2.1 bt877.2.2.2.2.1 bt877.2.2.2.2.2.1 bt877.2.2.2.2.2.2.1 bt877.2.2.2.2.2.2.2.1 bt877.2.2.2.2.2.2.2.2.1 bt877.2.2.2.2.2.2.2.2.2 a1 a2).bind fun bt906 => ((laws_eqEntry.f bt906.1 bt906.2.1 bt906.2.2.1 bt906.2.2.2 t872 t873 t874 t875).bind fun t911 => (if t911 = true then ((laws_toMachine.f k l0_0 l0_1 l0_2 l0_3 l0_4 a0_5 l0_6 l0_7 l0_8 l0_9).bind fun bt912 => ((laws_eqMachine.f k bt877.1 bt877.2.1 bt877.2.2.1 bt877.2.2.2.1 bt877.2.2.2.2.1 bt877.2.2.2.2.2.1 bt877.2.2.2.2.2.2.1 bt877.2.2.2.2.2.2.2.1 bt877.2.2.2.2.2.2.2.2.1 bt877.2.2.2.2.2.2.2.2.2 bt912.1 bt912.2.1 bt912.2.2.1 bt912.2.2.2.1 bt912.2.2.2.2.1 bt912.2.2.2.2.2.1 bt912.2.2.2.2.2.2.1 bt912.2.2.2.2.2.2.2.1 bt912.2.2.2.2.2.2.2.2.1 bt912.2.2.2.2.2.2.2.2.2).bind fun t940 => (if t940 = true then (some true) else (some false)))) else (some false))))) = some r := H; have A10 := Aside0.mk A100; clear A100; replace H := Option.bind_eq_some_iff.mp H; obtain ⟨⟨t877, t880, t883, t886, t889, t892, t893, t896, t899, t902⟩, A110, H⟩ := H
  replace H : ((impl_EntryAt.f k t877 t880 t883 t886 t889 t892 t893 t896 t899 t902 a1 a2).bind fun bt906 => ((laws_eqEntry.f bt906.1 bt906.2.1 bt906.2.2.1 bt906.2.2.2 t872 t873 t874 t875).bind fun t911 => (if t911 = true then ((laws_toMachine.f k l0_0 l0_1 l0_2 l0_3 l0_4 a0_5 l0_6 l0_7 l0_8 l0_9).bind fun bt912 => ((laws_eqMachine.f k t877 t880 t883 t886 t889 t892 t893 t896 t899 t902 bt912.1 bt912.2.1 bt912.2.2.1 bt912.2.2.2.1 bt912.2.2.2.2.1 bt912.2.2.2.2.2.1 bt912.2.2.2.2.2.2.1 bt912.2.2.2.2.2.2.2.1 bt912.2.2.2.2.2.2.2.2.1 bt912.2.2.2.2.2.2.2.2.2).bind fun t940 => (if t940 = true then (some true) else (some false)))) else (some false)))) = some r := H; have A11 := Aside0.mk A110; clear A110; replace H := Option.bind_eq_some_iff.mp H; obtain ⟨⟨t906, t907, t908, t909⟩, A120, H⟩ := H; replace H : ((laws_eqEntry.f t906 t907 t908 t909 t872 t873 t874 t875).bind fun t911 => (if t911 = true then ((laws_toMachine.f k l0_0 l0_1 l0_2 l0_3 l0_4 a0_5 l0_6 l0_7 l0_8 l0_9).bind fun bt912 => ((laws_eqMachine.f k t877 t880 t883 t886 t889 t892 t893 t896 t899 t902 bt912.1 bt912.2.1 bt912.2.2.1 bt912.2.2.2.1 bt912.2.2.2.2.1 bt912.2.2.2.2.2.1 bt912.2.2.2.2.2.2.1 bt912.2.2.2.2.2.2.2.1 bt912.2.2.2.2.2.2.2.2.1 bt912.2.2.2.2.2.2.2.2.2).bind fun t940 => (if t940 = true then (some true) else (some false)))) else (some false))) = some r := H; have A12 := Aside0.mk A120; clear A120; replace H := Option.bind_eq_some_iff.mp H; obtain ⟨t911, A130, H⟩ := H
  replace H : (if t911 = true then ((laws_toMachine.f k l0_0 l0_1 l0_2 l0_3 l0_4 a0_5 l0_6 l0_7 l0_8 l0_9).bind fun bt912 => ((laws_eqMachine.f k t877 t880 t883 t886 t889 t892 t893 t896 t899 t902 bt912.1 bt912.2.1 bt912.2.2.1 bt912.2.2.2.1 bt912.2.2.2.2.1 bt912.2.2.2.2.2.1 bt912.2.2.2.2.2.2.1 bt912.2.2.2.2.2.2.2.1 bt912.2.2.2.2.2.2.2.2.1 bt912.2.2.2.2.2.2.2.2.2).bind fun t940 => (if t940 = true then (some true) else (some false)))) else (some false)) = some r := H; have A13 := Aside0.mk A130; clear A130
  by_cases c14 : t911 = true
  ·subst c14
   have H1 : ((laws_toMachine.f k l0_0 l0_1 l0_2 l0_3 l0_4 a0_5 l0_6 l0_7 l0_8 l0_9).bind fun bt912 => ((laws_eqMachine.f k t877 t880 t883 t886 t889 t892 t893 t896 t899 t902 bt912.1 bt912.2.1 bt912.2.2.1 bt912.2.2.2.1 bt912.2.2.2.2.1 bt912.2.2.2.2.2.1 bt912.2.2.2.2.2.2.1 bt912.2.2.2.2.2.2.2.1 bt912.2.2.2.2.2.2.2.2.1 bt912.2.2.2.2.2.2.2.2.2).bind fun t940 => (if t940 = true then (some true) else (some false)))) = some r := by rw [if_pos rfl] at H; exact H
   clear H; have H := H1; clear H1; replace H := Option.bind_eq_some_iff.mp H; obtain ⟨⟨t912, t915, t918, t921, t924, t927, t928, t931, t934, t937⟩, A150, H⟩ := H; replace H : ((laws_eqMachine.f k t877 t880 t883 t886 t889 t892 t893 t896 t899 t902 t912 t915 t918 t921 t924 t927 t928 t931 t934 t937).bind fun t940 => (if t940 = true then (some true) else (some false))) = some r := H; have A15 := Aside0.mk A150; clear A150; replace H := Option.bind_eq_some_iff.mp H; obtain ⟨t940, A160, H⟩ := H; replace H : (if t940 = true then (some true) else (some false)) = some r := H; have A16 := Aside0.mk A160; clear A160
   by_cases c17 : t940 = true
   ·subst c17
    have H1 : (some true) = some r := by rw [if_pos rfl] at H; exact H
    clear H; have H := H1; clear H1; obtain rfl := Option.some.inj H; first
    | exact absurd hr_ (by decide)
    | (skip
       go_enter Try.func5, Try.ntmps5
       try go_wp2_with (first | ((with_reducible refine gate_dst (N := 3) rfl ?_); refine box_event ?hg (N := 3) ?hd (cs := #[.slice A0_0 l0_0.length c0_0, .slice A0_1 l0_1.length c0_1, .slice A0_2 l0_2.length c0_2, .slice A0_3 l0_3.length c0_3, .slice A0_4 l0_4.length c0_4, .int .i64 a0_5, .slice A0_6 l0_6.length c0_6, .slice A0_7 l0_7.length c0_7, .slice A0_8 l0_8.length c0_8, .slice A0_9 l0_9.length c0_9]) (t := 53) ?hr ?_; (case hd => rfl); (case hg => rfl); (case hr => first | (go_simp; done) | (go_simp; rfl)); intro gb842 hg w18 hbox hb; have BK842 := Aside0.mk (hbox); have GW842 := Aside0.mk ((by rw [hg]; exact (below_size (gB HB)) : w.heap.size ≤ gb842)); have GE842 := Aside0.mk ((by rw [hg]; exact (below_size (gB HB)) : w.heap.size ≤ gb842)); replace HB := Aside0.mk (below_step (gB HB) hb); clear hb hbox hg; obtain ⟨hcz19_0, hcz19_1, hcz19_2, hcz19_3, hcz19_4, hcz19_5, hcz19_6, hcz19_7, hcz19_8, hcz19_9⟩ := gk10 BK842; obtain ⟨hfz19_0, hfz19_1, hfz19_2, hfz19_3, hfz19_4, hfz19_5, hfz19_6, hfz19_7, hfz19_8, hfz19_9⟩ := gf10 BK842) | ((with_reducible refine gate_callee (f := 20) rfl ?_); refine goesL_ (some 13) rfl rfl Try.func20 (by kernel_rfl) rfl #[.agg #[.slice A0_0 l0_0.length c0_0, .slice A0_1 l0_1.length c0_1, .slice A0_2 l0_2.length c0_2, .slice A0_3 l0_3.length c0_3, .slice A0_4 l0_4.length c0_4, .int .i64 a0_5, .slice A0_6 l0_6.length c0_6, .slice A0_7 l0_7.length c0_7, .slice A0_8 l0_8.length c0_8, .slice A0_9 l0_9.length c0_9], .int .i64 1048576] rfl (by (try simp only [List.map_toArray, List.map_cons, List.map_nil]); first | done | rfl) ?_; (with_reducible refine (laws_szMachine.calls k _ _ l0_0 _ _ l0_1 _ _ l0_2 _ _ l0_3 _ _ l0_4 a0_5 _ _ l0_6 _ _ l0_7 _ _ l0_8 _ _ l0_9 1048576 t843 _ ?side1 ?side2 ?side3 ?side4 ?side5 ?side6 ?side7 ?side8 ?side9 ?side10 ?side11 ?side12 ?side13 ?side14 ?side15 ?side16 ?side17 ?side18 A4.out).mono ?_); (case side1 => exact gE HR0_0 HB); (case side2 => exact HC0_0.out); (case side3 => exact gE HR0_1 HB); (case side4 => exact HC0_1.out); (case side5 => exact gE HR0_2 HB); (case side6 => exact HC0_2.out); (case side7 => exact gE HR0_3 HB); (case side8 => exact HC0_3.out); (case side9 => exact gE HR0_4 HB); (case side10 => exact HC0_4.out); (case side11 => exact gE HR0_6 HB); (case side12 => exact HC0_6.out); (case side13 => exact gE HR0_7 HB); (case side14 => exact HC0_7.out); (case side15 => exact gE HR0_8 HB); (case side16 => exact HC0_8.out); (case side17 => exact gE HR0_9 HB); (case side18 => exact HC0_9.out); rintro e w20 ⟨rfl, hb⟩; refine ⟨_, rfl, ?_⟩; replace BK842 := Aside0.mk (blk_below (g := gb842) (gK BK842) hb); replace HB := Aside0.mk (below_step (gT1 GE842.out HB) hb); (try clear hb); (try clear hb2); (try clear hk); (try clear hi); obtain ⟨hcz21_0, hcz21_1, hcz21_2, hcz21_3, hcz21_4, hcz21_5, hcz21_6, hcz21_7, hcz21_8, hcz21_9⟩ := gk10 BK842; obtain ⟨hfz21_0, hfz21_1, hfz21_2, hfz21_3, hfz21_4, hfz21_5, hfz21_6, hfz21_7, hfz21_8, hfz21_9⟩ := gf10 BK842) | ((with_reducible refine gate_callee (f := 22) rfl ?_); refine goesL_ (some 17) rfl rfl Try.func22 (by kernel_rfl) rfl #[.agg #[.slice A0_0 l0_0.length c0_0, .slice A0_1 l0_1.length c0_1, .slice A0_2 l0_2.length c0_2, .slice A0_3 l0_3.length c0_3, .slice A0_4 l0_4.length c0_4, .int .i64 a0_5, .slice A0_6 l0_6.length c0_6, .slice A0_7 l0_7.length c0_7, .slice A0_8 l0_8.length c0_8, .slice A0_9 l0_9.length c0_9]] rfl (by (try simp only [List.map_toArray, List.map_cons, List.map_nil]); first | done | rfl) ?_; (with_reducible refine (laws_toMachine.calls k _ _ l0_0 _ _ l0_1 _ _ l0_2 _ _ l0_3 _ _ l0_4 a0_5 _ _ l0_6 _ _ l0_7 _ _ l0_8 _ _ l0_9 t844 t847 t850 t853 t856 t859 t860 t863 t866 t869 _ ?side1 ?side2 ?side3 ?side4 ?side5 ?side6 ?side7 ?side8 ?side9 ?side10 ?side11 ?side12 ?side13 ?side14 ?side15 ?side16 ?side17 ?side18 A9.out).mono ?_); (case side1 => exact gE HR0_0 HB); (case side2 => exact HC0_0.out); (case side3 => exact gE HR0_1 HB); (case side4 => exact HC0_1.out); (case side5 => exact gE HR0_2 HB); (case side6 => exact HC0_2.out); (case side7 => exact gE HR0_3 HB); (case side8 => exact HC0_3.out); (case side9 => exact gE HR0_4 HB); (case side10 => exact HC0_4.out); (case side11 => exact gE HR0_6 HB); (case side12 => exact HC0_6.out); (case side13 => exact gE HR0_7 HB); (case side14 => exact HC0_7.out); (case side15 => exact gE HR0_8 HB); (case side16 => exact HC0_8.out); (case side17 => exact gE HR0_9 HB); (case side18 => exact HC0_9.out); rintro e w22 ⟨v845, v848, v851, v854, v857, v861, v864, v867, v870, rfl, ho0, ho1, ho2, ho3, ho4, ho5, ho6, ho7, ho8, hb⟩; refine ⟨_, rfl, ?_⟩; have HO846 := Aside0.mk (Kd.S_lower ho0 (below_size (gT1 GE842.out HB))); have HO849 := Aside0.mk (Kd.R_lower ho1 (below_size (gT1 GE842.out HB))); have HO852 := Aside0.mk (Kd.R_lower ho2 (below_size (gT1 GE842.out HB))); have HO855 := Aside0.mk (Kd.S_lower ho3 (below_size (gT1 GE842.out HB))); have HO858 := Aside0.mk (Kd.R_lower ho4 (below_size (gT1 GE842.out HB))); have HO862 := Aside0.mk (Kd.S_lower ho5 (below_size (gT1 GE842.out HB))); have HO865 := Aside0.mk (Kd.S_lower ho6 (below_size (gT1 GE842.out HB))); have HO868 := Aside0.mk (Kd.R_lower ho7 (below_size (gT1 GE842.out HB))); have HO871 := Aside0.mk (Kd.R_lower ho8 (below_size (gT1 GE842.out HB))); replace BK842 := Aside0.mk (blk_below (g := gb842) (gK BK842) hb); replace HB := Aside0.mk (below_step (gT1 GE842.out HB) hb); (try clear hb); (try clear hb2); (try clear hk); (try clear hi); (try clear ho0); (try clear ho1); (try clear ho2); (try clear ho3); (try clear ho4); (try clear ho5); (try clear ho6); (try clear ho7); (try clear ho8); obtain ⟨Ao23, co23, eo23⟩ := Kd.S_slice HO846.out; subst eo23; obtain ⟨Ao24, co24, eo24⟩ := Kd.R_slice HO849.out; subst eo24; obtain ⟨Ao25, co25, eo25⟩ := Kd.R_slice HO852.out; subst eo25; obtain ⟨Ao26, co26, eo26⟩ := Kd.S_slice HO855.out; subst eo26; obtain ⟨Ao27, co27, eo27⟩ := Kd.R_slice HO858.out; subst eo27; obtain ⟨Ao28, co28, eo28⟩ := Kd.S_slice HO862.out; subst eo28; obtain ⟨Ao29, co29, eo29⟩ := Kd.S_slice HO865.out; subst eo29; obtain ⟨Ao30, co30, eo30⟩ := Kd.R_slice HO868.out; subst eo30; obtain ⟨Ao31, co31, eo31⟩ := Kd.R_slice HO871.out; subst eo31) | ((with_reducible refine gate_callee (f := 21) rfl ?_); refine goesL_ (some 20) rfl rfl Try.func21 (by kernel_rfl) rfl #[.agg #[.slice Ao23 t844.length co23, .slice Ao24 t847.length co24, .slice Ao25 t850.length co25, .slice Ao26 t853.length co26, .slice Ao27 t856.length co27, .int .i64 t859, .slice Ao28 t860.length co28, .slice Ao29 t863.length co29, .slice Ao30 t866.length co30, .slice Ao31 t869.length co31], .int .i64 a1, .int .i64 a2] rfl (by (try simp only [List.map_toArray, List.map_cons, List.map_nil]); first | done | rfl) ?_; (with_reducible refine (spec_EntryAt.calls k _ _ t844 _ _ t847 _ _ t850 _ _ t853 _ _ t856 t859 _ _ t860 _ _ t863 _ _ t866 _ _ t869 a1 a2 t872 t873 t874 t875 _ ?side1 ?side2 ?side3 ?side4 ?side5 ?side6 ?side7 ?side8 ?side9 ?side10 ?side11 ?side12 ?side13 ?side14 ?side15 ?side16 ?side17 ?side18 A10.out).mono ?_); (case side1 => repeat (first | exact (Kd.S_reads' HO846.out).2.2 | (with_reducible refine Kd.C_alloc ?_ _) | (with_reducible refine Kd.C_drewN ?_ _) | (with_reducible refine Kd.C_drew ?_))); (case side2 => exact (Kd.S_reads' HO846.out).2.1); (case side3 => repeat (first | exact (Kd.R_reads' HO849.out).2.2 | (with_reducible refine Kd.C_alloc ?_ _) | (with_reducible refine Kd.C_drewN ?_ _) | (with_reducible refine Kd.C_drew ?_))); (case side4 => exact (Kd.R_reads' HO849.out).2.1); (case side5 => repeat (first | exact (Kd.R_reads' HO852.out).2.2 | (with_reducible refine Kd.C_alloc ?_ _) | (with_reducible refine Kd.C_drewN ?_ _) | (with_reducible refine Kd.C_drew ?_))); (case side6 => exact (Kd.R_reads' HO852.out).2.1); (case side7 => repeat (first | exact (Kd.S_reads' HO855.out).2.2 | (with_reducible refine Kd.C_alloc ?_ _) | (with_reducible refine Kd.C_drewN ?_ _) | (with_reducible refine Kd.C_drew ?_))); (case side8 => exact (Kd.S_reads' HO855.out).2.1); (case side9 => repeat (first | exact (Kd.R_reads' HO858.out).2.2 | (with_reducible refine Kd.C_alloc ?_ _) | (with_reducible refine Kd.C_drewN ?_ _) | (with_reducible refine Kd.C_drew ?_))); (case side10 => exact (Kd.R_reads' HO858.out).2.1); (case side11 => repeat (first | exact (Kd.S_reads' HO862.out).2.2 | (with_reducible refine Kd.C_alloc ?_ _) | (with_reducible refine Kd.C_drewN ?_ _) | (with_reducible refine Kd.C_drew ?_))); (case side12 => exact (Kd.S_reads' HO862.out).2.1); (case side13 => repeat (first | exact (Kd.S_reads' HO865.out).2.2 | (with_reducible refine Kd.C_alloc ?_ _) | (with_reducible refine Kd.C_drewN ?_ _) | (with_reducible refine Kd.C_drew ?_))); (case side14 => exact (Kd.S_reads' HO865.out).2.1); (case side15 => repeat (first | exact (Kd.R_reads' HO868.out).2.2 | (with_reducible refine Kd.C_alloc ?_ _) | (with_reducible refine Kd.C_drewN ?_ _) | (with_reducible refine Kd.C_drew ?_))); (case side16 => exact (Kd.R_reads' HO868.out).2.1); (case side17 => repeat (first | exact (Kd.R_reads' HO871.out).2.2 | (with_reducible refine Kd.C_alloc ?_ _) | (with_reducible refine Kd.C_drewN ?_ _) | (with_reducible refine Kd.C_drew ?_))); (case side18 => exact (Kd.R_reads' HO871.out).2.1); rintro e w32 ⟨rfl, hb⟩; refine ⟨_, rfl, ?_⟩; replace HO846 := Aside0.mk (Kd.S_below (gS HO846) hb); replace HO849 := Aside0.mk (Kd.R_below (gR HO849) hb); replace HO852 := Aside0.mk (Kd.R_below (gR HO852) hb); replace HO855 := Aside0.mk (Kd.S_below (gS HO855) hb); replace HO858 := Aside0.mk (Kd.R_below (gR HO858) hb); replace HO862 := Aside0.mk (Kd.S_below (gS HO862) hb); replace HO865 := Aside0.mk (Kd.S_below (gS HO865) hb); replace HO868 := Aside0.mk (Kd.R_below (gR HO868) hb); replace HO871 := Aside0.mk (Kd.R_below (gR HO871) hb); replace BK842 := Aside0.mk (blk_below (g := gb842) (gK BK842) hb); replace HB := Aside0.mk (below_step (gT1 GE842.out HB) hb); (try clear hb); (try clear hb2); (try clear hk); (try clear hi)) | ((with_reducible refine gate_dst (N := 8) rfl ?_); refine box_event ?hg (N := 8) ?hd (cs := #[.int .i64 0, .int .i64 0, .bool false, .bool false]) (t := 56) ?hr ?_; (case hd => rfl); (case hg => rfl); (case hr => first | (go_simp; done) | (go_simp; rfl)); intro gb876 hg w33 hbox hb; replace HO846 := Aside0.mk (Kd.S_below (gS HO846) hb); replace HO849 := Aside0.mk (Kd.R_below (gR HO849) hb); replace HO852 := Aside0.mk (Kd.R_below (gR HO852) hb); replace HO855 := Aside0.mk (Kd.S_below (gS HO855) hb); replace HO858 := Aside0.mk (Kd.R_below (gR HO858) hb); replace HO862 := Aside0.mk (Kd.S_below (gS HO862) hb); replace HO865 := Aside0.mk (Kd.S_below (gS HO865) hb); replace HO868 := Aside0.mk (Kd.R_below (gR HO868) hb); replace HO871 := Aside0.mk (Kd.R_below (gR HO871) hb); have BK876 := Aside0.mk (hbox); have GW876 := Aside0.mk ((by rw [hg]; exact (below_size (gT1 GE842.out HB)) : w.heap.size ≤ gb876)); have GE876 := Aside0.mk ((by rw [hg]; exact (below_size (gT1 GE842.out HB)) : w.heap.size ≤ gb876)); replace HB := Aside0.mk (below_step (gT1 GE842.out HB) hb); have NB842_876 := Aside0.mk ((by rw [hg]; exact Nat.ne_of_lt (blk_lt (g := gb842) (gK BK842)) : gb842 ≠ gb876)); have NB876_842 := Aside0.mk ((by rw [hg]; exact Nat.ne_of_gt (blk_lt (g := gb842) (gK BK842)) : gb876 ≠ gb842)); replace BK842 := Aside0.mk (blk_below (g := gb842) (gK BK842) hb); clear hb hbox hg; have hnb34 := NB876_842.out; have hnc34 := NB842_876.out; obtain ⟨hcz35_0, hcz35_1, hcz35_2, hcz35_3⟩ := gk4 BK876; obtain ⟨hfz35_0, hfz35_1, hfz35_2, hfz35_3⟩ := gf4 BK876; obtain ⟨hcz36_0, hcz36_1, hcz36_2, hcz36_3, hcz36_4, hcz36_5, hcz36_6, hcz36_7, hcz36_8, hcz36_9⟩ := gk10 BK842; obtain ⟨hfz36_0, hfz36_1, hfz36_2, hfz36_3, hfz36_4, hfz36_5, hfz36_6, hfz36_7, hfz36_8, hfz36_9⟩ := gf10 BK842) | ((with_reducible refine gate_callee (f := 22) rfl ?_); refine goesL_ (some 22) rfl rfl Try.func22 (by kernel_rfl) rfl #[.agg #[.slice A0_0 l0_0.length c0_0, .slice A0_1 l0_1.length c0_1, .slice A0_2 l0_2.length c0_2, .slice A0_3 l0_3.length c0_3, .slice A0_4 l0_4.length c0_4, .int .i64 a0_5, .slice A0_6 l0_6.length c0_6, .slice A0_7 l0_7.length c0_7, .slice A0_8 l0_8.length c0_8, .slice A0_9 l0_9.length c0_9]] rfl (by (try simp only [List.map_toArray, List.map_cons, List.map_nil]); first | done | rfl) ?_; (with_reducible refine (laws_toMachine.calls k _ _ l0_0 _ _ l0_1 _ _ l0_2 _ _ l0_3 _ _ l0_4 a0_5 _ _ l0_6 _ _ l0_7 _ _ l0_8 _ _ l0_9 t877 t880 t883 t886 t889 t892 t893 t896 t899 t902 _ ?side1 ?side2 ?side3 ?side4 ?side5 ?side6 ?side7 ?side8 ?side9 ?side10 ?side11 ?side12 ?side13 ?side14 ?side15 ?side16 ?side17 ?side18 A11.out).mono ?_); (case side1 => exact Kd.C_below HR0_0.out (gT2 GE842.out GE876.out HB)); (case side2 => exact HC0_0.out); (case side3 => exact Kd.C_below HR0_1.out (gT2 GE842.out GE876.out HB)); (case side4 => exact HC0_1.out); (case side5 => exact Kd.C_below HR0_2.out (gT2 GE842.out GE876.out HB)); (case side6 => exact HC0_2.out); (case side7 => exact Kd.C_below HR0_3.out (gT2 GE842.out GE876.out HB)); (case side8 => exact HC0_3.out); (case side9 => exact Kd.C_below HR0_4.out (gT2 GE842.out GE876.out HB)); (case side10 => exact HC0_4.out); (case side11 => exact Kd.C_below HR0_6.out (gT2 GE842.out GE876.out HB)); (case side12 => exact HC0_6.out); (case side13 => exact Kd.C_below HR0_7.out (gT2 GE842.out GE876.out HB)); (case side14 => exact HC0_7.out); (case side15 => exact Kd.C_below HR0_8.out (gT2 GE842.out GE876.out HB)); (case side16 => exact HC0_8.out); (case side17 => exact Kd.C_below HR0_9.out (gT2 GE842.out GE876.out HB)); (case side18 => exact HC0_9.out); rintro e w37 ⟨v878, v881, v884, v887, v890, v894, v897, v900, v903, rfl, ho0, ho1, ho2, ho3, ho4, ho5, ho6, ho7, ho8, hb⟩; refine ⟨_, rfl, ?_⟩; have HO879 := Aside0.mk (Kd.S_lower (Kd.S_new' (Kd.S_new' (Kd.S_new' (Kd.S_new' ho0 (Kd.S_lt (fS HO846 BK876 (by decide)))) (Kd.R_lt (fR HO849 BK876 (by decide)))) (Kd.R_lt (fR HO868 BK876 (by decide)))) (Kd.R_lt (fR HO871 BK876 (by decide)))) (below_size (gT2 GE842.out GE876.out HB))); replace HO846 := Aside0.mk (Kd.S_mono (Kd.S_told (Kd.S_told (Kd.S_told (Kd.S_told (Kd.S_old (fS HO846 BK876 (by decide)) hb) (Kd.S_base ho0)) (Kd.R_base ho1)) (Kd.R_base ho7)) (Kd.R_base ho8)) (fun _ h_ => h_.1)); have HO882 := Aside0.mk (Kd.R_lower (Kd.R_new' (Kd.R_new' (Kd.R_new' ho1 (Kd.R_lt (fR HO849 BK876 (by decide)))) (Kd.R_lt (fR HO868 BK876 (by decide)))) (Kd.R_lt (fR HO871 BK876 (by decide)))) (below_size (gT2 GE842.out GE876.out HB))); have HO885 := Aside0.mk (Kd.R_lower (Kd.R_new' ho2 (Kd.R_lt (fR HO852 BK876 (by decide)))) (below_size (gT2 GE842.out GE876.out HB))); replace HO852 := Aside0.mk (Kd.R_elder' (fR HO852 BK876 (by decide)) (Kd.R_base ho2) hb); have HO888 := Aside0.mk (Kd.S_lower (Kd.S_new' ho3 (Kd.S_lt (fS HO855 BK876 (by decide)))) (below_size (gT2 GE842.out GE876.out HB))); replace HO855 := Aside0.mk (Kd.S_elder' (fS HO855 BK876 (by decide)) (Kd.S_base ho3) hb); have HO891 := Aside0.mk (Kd.R_lower (Kd.R_new' ho4 (Kd.R_lt (fR HO858 BK876 (by decide)))) (below_size (gT2 GE842.out GE876.out HB))); replace HO858 := Aside0.mk (Kd.R_elder' (fR HO858 BK876 (by decide)) (Kd.R_base ho4) hb); have HO895 := Aside0.mk (Kd.S_lower (Kd.S_new' ho5 (Kd.S_lt (fS HO862 BK876 (by decide)))) (below_size (gT2 GE842.out GE876.out HB))); replace HO862 := Aside0.mk (Kd.S_elder' (fS HO862 BK876 (by decide)) (Kd.S_base ho5) hb); have HO898 := Aside0.mk (Kd.S_lower (Kd.S_new' (Kd.S_new' (Kd.S_new' (Kd.S_new' ho6 (Kd.R_lt (fR HO849 BK876 (by decide)))) (Kd.S_lt (fS HO865 BK876 (by decide)))) (Kd.R_lt (fR HO868 BK876 (by decide)))) (Kd.R_lt (fR HO871 BK876 (by decide)))) (below_size (gT2 GE842.out GE876.out HB))); replace HO865 := Aside0.mk (Kd.S_mono (Kd.S_told (Kd.S_told (Kd.S_told (Kd.S_told (Kd.S_old (fS HO865 BK876 (by decide)) hb) (Kd.R_base ho1)) (Kd.S_base ho6)) (Kd.R_base ho7)) (Kd.R_base ho8)) (fun _ h_ => h_.1)); have HO901 := Aside0.mk (Kd.R_lower (Kd.R_new' (Kd.R_new' (Kd.R_new' ho7 (Kd.R_lt (fR HO849 BK876 (by decide)))) (Kd.R_lt (fR HO868 BK876 (by decide)))) (Kd.R_lt (fR HO871 BK876 (by decide)))) (below_size (gT2 GE842.out GE876.out HB))); have HO904 := Aside0.mk (Kd.R_lower (Kd.R_new' (Kd.R_new' (Kd.R_new' ho8 (Kd.R_lt (fR HO849 BK876 (by decide)))) (Kd.R_lt (fR HO868 BK876 (by decide)))) (Kd.R_lt (fR HO871 BK876 (by decide)))) (below_size (gT2 GE842.out GE876.out HB))); replace HO849 := Aside0.mk (Kd.R_mono (Kd.R_told (Kd.R_told (Kd.R_told (Kd.R_old (fR HO849 BK876 (by decide)) hb) (Kd.R_base ho1)) (Kd.R_base ho7)) (Kd.R_base ho8)) (fun _ h_ => h_.1)); replace HO868 := Aside0.mk (Kd.R_mono (Kd.R_told (Kd.R_told (Kd.R_told (Kd.R_old (fR HO868 BK876 (by decide)) hb) (Kd.R_base ho1)) (Kd.R_base ho7)) (Kd.R_base ho8)) (fun _ h_ => h_.1)); replace HO871 := Aside0.mk (Kd.R_mono (Kd.R_told (Kd.R_told (Kd.R_told (Kd.R_old (fR HO871 BK876 (by decide)) hb) (Kd.R_base ho1)) (Kd.R_base ho7)) (Kd.R_base ho8)) (fun _ h_ => h_.1)); replace BK842 := Aside0.mk (blk_below (g := gb842) (o := .cells #[.slice A0_0 l0_0.length c0_0, .slice A0_1 l0_1.length c0_1, .slice A0_2 l0_2.length c0_2, .slice A0_3 l0_3.length c0_3, .slice A0_4 l0_4.length c0_4, .int .i64 a0_5, .slice A0_6 l0_6.length c0_6, .slice A0_7 l0_7.length c0_7, .slice A0_8 l0_8.length c0_8, .slice A0_9 l0_9.length c0_9] 53 (0, 0)) (by (with_reducible repeat (first | refine blk_drewN ?_ _ | refine blk_drew ?_ | refine blk_alloc ?_ _)); refine blk_far ?_ NB842_876.out _; (with_reducible repeat (first | refine blk_drewN ?_ _ | refine blk_drew ?_ | refine blk_alloc ?_ _)); refine blk_far ?_ NB842_876.out _; (with_reducible repeat (first | refine blk_drewN ?_ _ | refine blk_drew ?_ | refine blk_alloc ?_ _)); refine blk_far ?_ NB842_876.out _; (with_reducible repeat (first | refine blk_drewN ?_ _ | refine blk_drew ?_ | refine blk_alloc ?_ _)); refine blk_far ?_ NB842_876.out _; (with_reducible repeat (first | refine blk_drewN ?_ _ | refine blk_drew ?_ | refine blk_alloc ?_ _)); exact BK842.out) hb); replace BK876 := Aside0.mk (blk_below (g := gb876) (o := .cells #[.int .i64 t872, .int .i64 t873, .bool t874, .bool t875] 56 (0, 0)) (by (with_reducible repeat (first | refine blk_drewN ?_ _ | refine blk_drew ?_ | refine blk_alloc ?_ _)); refine blk_put (cs := #[.int .i64 t872, .int .i64 t873, .bool t874, .bool false]) ?_ 3 _ rfl; (with_reducible repeat (first | refine blk_drewN ?_ _ | refine blk_drew ?_ | refine blk_alloc ?_ _)); refine blk_put (cs := #[.int .i64 t872, .int .i64 t873, .bool false, .bool false]) ?_ 2 _ rfl; (with_reducible repeat (first | refine blk_drewN ?_ _ | refine blk_drew ?_ | refine blk_alloc ?_ _)); refine blk_put (cs := #[.int .i64 t872, .int .i64 0, .bool false, .bool false]) ?_ 1 _ rfl; (with_reducible repeat (first | refine blk_drewN ?_ _ | refine blk_drew ?_ | refine blk_alloc ?_ _)); refine blk_put (cs := #[.int .i64 0, .int .i64 0, .bool false, .bool false]) ?_ 0 _ rfl; (with_reducible repeat (first | refine blk_drewN ?_ _ | refine blk_drew ?_ | refine blk_alloc ?_ _)); exact BK876.out) hb); replace HB := Aside0.mk (below_step (gT2 GE842.out GE876.out HB) hb); (try clear hb); (try clear hb2); (try clear hk); (try clear hi); (try clear ho0); (try clear ho1); (try clear ho2); (try clear ho3); (try clear ho4); (try clear ho5); (try clear ho6); (try clear ho7); (try clear ho8)) | ((with_reducible refine gate_dst (N := 9) rfl ?_); refine box_event ?hg (N := 9) ?hd (cs := #[.slice none 0 0, .slice none 0 0, .slice none 0 0, .slice none 0 0, .slice none 0 0, .int .i64 0, .slice none 0 0, .slice none 0 0, .slice none 0 0, .slice none 0 0]) (t := 41) ?hr ?_; (case hd => rfl); (case hg => rfl); (case hr => first | (go_simp; done) | (go_simp; rfl)); intro gb905 hg w38 hbox hb; replace HO846 := Aside0.mk (Kd.S_below (gS HO846) hb); replace HO849 := Aside0.mk (Kd.R_below (gR HO849) hb); replace HO852 := Aside0.mk (Kd.R_below (gR HO852) hb); replace HO855 := Aside0.mk (Kd.S_below (gS HO855) hb); replace HO858 := Aside0.mk (Kd.R_below (gR HO858) hb); replace HO862 := Aside0.mk (Kd.S_below (gS HO862) hb); replace HO865 := Aside0.mk (Kd.S_below (gS HO865) hb); replace HO868 := Aside0.mk (Kd.R_below (gR HO868) hb); replace HO871 := Aside0.mk (Kd.R_below (gR HO871) hb); replace HO879 := Aside0.mk (Kd.S_below (gS HO879) hb); replace HO882 := Aside0.mk (Kd.R_below (gR HO882) hb); replace HO885 := Aside0.mk (Kd.R_below (gR HO885) hb); replace HO888 := Aside0.mk (Kd.S_below (gS HO888) hb); replace HO891 := Aside0.mk (Kd.R_below (gR HO891) hb); replace HO895 := Aside0.mk (Kd.S_below (gS HO895) hb); replace HO898 := Aside0.mk (Kd.S_below (gS HO898) hb); replace HO901 := Aside0.mk (Kd.R_below (gR HO901) hb); replace HO904 := Aside0.mk (Kd.R_below (gR HO904) hb); have BK905 := Aside0.mk (hbox); have GW905 := Aside0.mk ((by rw [hg]; exact (below_size (gT2 GE842.out GE876.out HB)) : w.heap.size ≤ gb905)); have GE905 := Aside0.mk ((by rw [hg]; exact (below_size (gT2 GE842.out GE876.out HB)) : w.heap.size ≤ gb905)); replace HB := Aside0.mk (below_step (gT2 GE842.out GE876.out HB) hb); have NB842_905 := Aside0.mk ((by rw [hg]; exact Nat.ne_of_lt (blk_lt (g := gb842) (gK BK842)) : gb842 ≠ gb905)); have NB905_842 := Aside0.mk ((by rw [hg]; exact Nat.ne_of_gt (blk_lt (g := gb842) (gK BK842)) : gb905 ≠ gb842)); replace BK842 := Aside0.mk (blk_below (g := gb842) (gK BK842) hb); have NB876_905 := Aside0.mk ((by rw [hg]; exact Nat.ne_of_lt (blk_lt (g := gb876) (gK BK876)) : gb876 ≠ gb905)); have NB905_876 := Aside0.mk ((by rw [hg]; exact Nat.ne_of_gt (blk_lt (g := gb876) (gK BK876)) : gb905 ≠ gb876)); replace BK876 := Aside0.mk (blk_below (g := gb876) (gK BK876) hb); clear hb hbox hg; obtain ⟨Ao39, co39, eo39⟩ := Kd.S_slice HO879.out; subst eo39; have hnb40 := NB905_842.out; have hnc40 := NB842_905.out; have hnb41 := NB905_876.out; have hnc41 := NB876_905.out; obtain ⟨hcz42_0, hcz42_1, hcz42_2, hcz42_3, hcz42_4, hcz42_5, hcz42_6, hcz42_7, hcz42_8, hcz42_9⟩ := gk10 BK905; obtain ⟨hfz42_0, hfz42_1, hfz42_2, hfz42_3, hfz42_4, hfz42_5, hfz42_6, hfz42_7, hfz42_8, hfz42_9⟩ := gf10 BK905; obtain ⟨Ao43, co43, eo43⟩ := Kd.R_slice HO882.out; subst eo43; obtain ⟨Ao44, co44, eo44⟩ := Kd.R_slice HO885.out; subst eo44; obtain ⟨Ao45, co45, eo45⟩ := Kd.S_slice HO888.out; subst eo45; obtain ⟨Ao46, co46, eo46⟩ := Kd.R_slice HO891.out; subst eo46; obtain ⟨Ao47, co47, eo47⟩ := Kd.S_slice HO895.out; subst eo47; obtain ⟨Ao48, co48, eo48⟩ := Kd.S_slice HO898.out; subst eo48; obtain ⟨Ao49, co49, eo49⟩ := Kd.R_slice HO901.out; subst eo49; obtain ⟨Ao50, co50, eo50⟩ := Kd.R_slice HO904.out; subst eo50) | ((with_reducible refine gate_callee (f := 23) rfl ?_); refine goesL_ (some 26) rfl rfl Try.func23 (by kernel_rfl) rfl #[.agg #[.slice Ao39 t877.length co39, .slice Ao43 t880.length co43, .slice Ao44 t883.length co44, .slice Ao45 t886.length co45, .slice Ao46 t889.length co46, .int .i64 t892, .slice Ao47 t893.length co47, .slice Ao48 t896.length co48, .slice Ao49 t899.length co49, .slice Ao50 t902.length co50], .int .i64 a1, .int .i64 a2] rfl (by (try simp only [List.map_toArray, List.map_cons, List.map_nil]); first | done | rfl) ?_; (with_reducible refine (impl_EntryAt.calls k _ _ t877 _ _ t880 _ _ t883 _ _ t886 _ _ t889 t892 _ _ t893 _ _ t896 _ _ t899 _ _ t902 a1 a2 t906 t907 t908 t909 _ ?side1 ?side2 ?side3 ?side4 ?side5 ?side6 ?side7 ?side8 ?side9 ?side10 ?side11 ?side12 ?side13 ?side14 ?side15 ?side16 ?side17 ?side18 A12.out).mono ?_); (case side1 => refine (Kd.S_reads' (e := 26) (base := w.heap.size) (ok := fun k_ => (((((some k_ ≠ (.slice Ao43 t880.length co43 : Value).ownBlock ∧ (some k_ ≠ (.slice Ao49 t899.length co49 : Value).ownBlock ∧ some k_ ≠ (.slice Ao50 t902.length co50 : Value).ownBlock)) ∧ some k_ ≠ (.slice Ao23 t844.length co23 : Value).ownBlock) ∧ some k_ ≠ (.slice Ao24 t847.length co24 : Value).ownBlock) ∧ some k_ ≠ (.slice Ao30 t866.length co30 : Value).ownBlock) ∧ some k_ ≠ (.slice Ao31 t869.length co31 : Value).ownBlock)) (n := t877.length) (c := co39) ?_).2.2; exact (fS HO879 BK905 (by decide))); (case side2 => exact (Kd.S_reads' HO879.out).2.1); (case side3 => refine (Kd.R_reads' (e := 3) (base := w.heap.size) (ok := fun k_ => ((((some k_ ≠ (.slice Ao49 t899.length co49 : Value).ownBlock ∧ some k_ ≠ (.slice Ao50 t902.length co50 : Value).ownBlock) ∧ some k_ ≠ (.slice Ao24 t847.length co24 : Value).ownBlock) ∧ some k_ ≠ (.slice Ao30 t866.length co30 : Value).ownBlock) ∧ some k_ ≠ (.slice Ao31 t869.length co31 : Value).ownBlock)) (n := t880.length) (c := co43) ?_).2.2; exact (fR HO882 BK905 (by decide))); (case side4 => exact (Kd.R_reads' HO882.out).2.1); (case side5 => refine (Kd.R_reads' (e := 124) (base := w.heap.size) (ok := fun k_ => (True ∧ some k_ ≠ (.slice Ao25 t850.length co25 : Value).ownBlock)) (n := t883.length) (c := co44) ?_).2.2; exact (fR HO885 BK905 (by decide))); (case side6 => exact (Kd.R_reads' HO885.out).2.1); (case side7 => refine (Kd.S_reads' (e := 131) (base := w.heap.size) (ok := fun k_ => (True ∧ some k_ ≠ (.slice Ao26 t853.length co26 : Value).ownBlock)) (n := t886.length) (c := co45) ?_).2.2; exact (fS HO888 BK905 (by decide))); (case side8 => exact (Kd.S_reads' HO888.out).2.1); (case side9 => refine (Kd.R_reads' (e := 134) (base := w.heap.size) (ok := fun k_ => (True ∧ some k_ ≠ (.slice Ao27 t856.length co27 : Value).ownBlock)) (n := t889.length) (c := co46) ?_).2.2; exact (fR HO891 BK905 (by decide))); (case side10 => exact (Kd.R_reads' HO891.out).2.1); (case side11 => refine (Kd.S_reads' (e := 79) (base := w.heap.size) (ok := fun k_ => (True ∧ some k_ ≠ (.slice Ao28 t860.length co28 : Value).ownBlock)) (n := t893.length) (c := co47) ?_).2.2; exact (fS HO895 BK905 (by decide))); (case side12 => exact (Kd.S_reads' HO895.out).2.1); (case side13 => refine (Kd.S_reads' (e := 138) (base := w.heap.size) (ok := fun k_ => (((((some k_ ≠ (.slice Ao43 t880.length co43 : Value).ownBlock ∧ (some k_ ≠ (.slice Ao49 t899.length co49 : Value).ownBlock ∧ some k_ ≠ (.slice Ao50 t902.length co50 : Value).ownBlock)) ∧ some k_ ≠ (.slice Ao24 t847.length co24 : Value).ownBlock) ∧ some k_ ≠ (.slice Ao29 t863.length co29 : Value).ownBlock) ∧ some k_ ≠ (.slice Ao30 t866.length co30 : Value).ownBlock) ∧ some k_ ≠ (.slice Ao31 t869.length co31 : Value).ownBlock)) (n := t896.length) (c := co48) ?_).2.2; exact (fS HO898 BK905 (by decide))); (case side14 => exact (Kd.S_reads' HO898.out).2.1); (case side15 => refine (Kd.R_reads' (e := 3) (base := w.heap.size) (ok := fun k_ => ((((some k_ ≠ (.slice Ao43 t880.length co43 : Value).ownBlock ∧ some k_ ≠ (.slice Ao50 t902.length co50 : Value).ownBlock) ∧ some k_ ≠ (.slice Ao24 t847.length co24 : Value).ownBlock) ∧ some k_ ≠ (.slice Ao30 t866.length co30 : Value).ownBlock) ∧ some k_ ≠ (.slice Ao31 t869.length co31 : Value).ownBlock)) (n := t899.length) (c := co49) ?_).2.2; exact (fR HO901 BK905 (by decide))); (case side16 => exact (Kd.R_reads' HO901.out).2.1); (case side17 => refine (Kd.R_reads' (e := 3) (base := w.heap.size) (ok := fun k_ => ((((some k_ ≠ (.slice Ao43 t880.length co43 : Value).ownBlock ∧ some k_ ≠ (.slice Ao49 t899.length co49 : Value).ownBlock) ∧ some k_ ≠ (.slice Ao24 t847.length co24 : Value).ownBlock) ∧ some k_ ≠ (.slice Ao30 t866.length co30 : Value).ownBlock) ∧ some k_ ≠ (.slice Ao31 t869.length co31 : Value).ownBlock)) (n := t902.length) (c := co50) ?_).2.2; exact (fR HO904 BK905 (by decide))); (case side18 => exact (Kd.R_reads' HO904.out).2.1); rintro e w51 ⟨rfl, hb⟩; refine ⟨_, rfl, ?_⟩; replace HO846 := Aside0.mk (Kd.S_below (fS HO846 BK905 (by decide)) hb); replace HO849 := Aside0.mk (Kd.R_below (fR HO849 BK905 (by decide)) hb); replace HO852 := Aside0.mk (Kd.R_below (fR HO852 BK905 (by decide)) hb); replace HO855 := Aside0.mk (Kd.S_below (fS HO855 BK905 (by decide)) hb); replace HO858 := Aside0.mk (Kd.R_below (fR HO858 BK905 (by decide)) hb); replace HO862 := Aside0.mk (Kd.S_below (fS HO862 BK905 (by decide)) hb); replace HO865 := Aside0.mk (Kd.S_below (fS HO865 BK905 (by decide)) hb); replace HO868 := Aside0.mk (Kd.R_below (fR HO868 BK905 (by decide)) hb); replace HO871 := Aside0.mk (Kd.R_below (fR HO871 BK905 (by decide)) hb); replace HO879 := Aside0.mk (Kd.S_below (fS HO879 BK905 (by decide)) hb); replace HO882 := Aside0.mk (Kd.R_below (fR HO882 BK905 (by decide)) hb); replace HO885 := Aside0.mk (Kd.R_below (fR HO885 BK905 (by decide)) hb); replace HO888 := Aside0.mk (Kd.S_below (fS HO888 BK905 (by decide)) hb); replace HO891 := Aside0.mk (Kd.R_below (fR HO891 BK905 (by decide)) hb); replace HO895 := Aside0.mk (Kd.S_below (fS HO895 BK905 (by decide)) hb); replace HO898 := Aside0.mk (Kd.S_below (fS HO898 BK905 (by decide)) hb); replace HO901 := Aside0.mk (Kd.R_below (fR HO901 BK905 (by decide)) hb); replace HO904 := Aside0.mk (Kd.R_below (fR HO904 BK905 (by decide)) hb); replace BK842 := Aside0.mk (blk_below (g := gb842) (o := .cells #[.slice A0_0 l0_0.length c0_0, .slice A0_1 l0_1.length c0_1, .slice A0_2 l0_2.length c0_2, .slice A0_3 l0_3.length c0_3, .slice A0_4 l0_4.length c0_4, .int .i64 a0_5, .slice A0_6 l0_6.length c0_6, .slice A0_7 l0_7.length c0_7, .slice A0_8 l0_8.length c0_8, .slice A0_9 l0_9.length c0_9] 53 (0, 0)) (by (with_reducible repeat (first | refine blk_drewN ?_ _ | refine blk_drew ?_ | refine blk_alloc ?_ _)); refine blk_far ?_ NB842_905.out _; (with_reducible repeat (first | refine blk_drewN ?_ _ | refine blk_drew ?_ | refine blk_alloc ?_ _)); refine blk_far ?_ NB842_905.out _; (with_reducible repeat (first | refine blk_drewN ?_ _ | refine blk_drew ?_ | refine blk_alloc ?_ _)); refine blk_far ?_ NB842_905.out _; (with_reducible repeat (first | refine blk_drewN ?_ _ | refine blk_drew ?_ | refine blk_alloc ?_ _)); refine blk_far ?_ NB842_905.out _; (with_reducible repeat (first | refine blk_drewN ?_ _ | refine blk_drew ?_ | refine blk_alloc ?_ _)); refine blk_far ?_ NB842_905.out _; (with_reducible repeat (first | refine blk_drewN ?_ _ | refine blk_drew ?_ | refine blk_alloc ?_ _)); refine blk_far ?_ NB842_905.out _; (with_reducible repeat (first | refine blk_drewN ?_ _ | refine blk_drew ?_ | refine blk_alloc ?_ _)); refine blk_far ?_ NB842_905.out _; (with_reducible repeat (first | refine blk_drewN ?_ _ | refine blk_drew ?_ | refine blk_alloc ?_ _)); refine blk_far ?_ NB842_905.out _; (with_reducible repeat (first | refine blk_drewN ?_ _ | refine blk_drew ?_ | refine blk_alloc ?_ _)); refine blk_far ?_ NB842_905.out _; (with_reducible repeat (first | refine blk_drewN ?_ _ | refine blk_drew ?_ | refine blk_alloc ?_ _)); refine blk_far ?_ NB842_905.out _; (with_reducible repeat (first | refine blk_drewN ?_ _ | refine blk_drew ?_ | refine blk_alloc ?_ _)); exact BK842.out) hb); replace BK876 := Aside0.mk (blk_below (g := gb876) (o := .cells #[.int .i64 t872, .int .i64 t873, .bool t874, .bool t875] 56 (0, 0)) (by (with_reducible repeat (first | refine blk_drewN ?_ _ | refine blk_drew ?_ | refine blk_alloc ?_ _)); refine blk_far ?_ NB876_905.out _; (with_reducible repeat (first | refine blk_drewN ?_ _ | refine blk_drew ?_ | refine blk_alloc ?_ _)); refine blk_far ?_ NB876_905.out _; (with_reducible repeat (first | refine blk_drewN ?_ _ | refine blk_drew ?_ | refine blk_alloc ?_ _)); refine blk_far ?_ NB876_905.out _; (with_reducible repeat (first | refine blk_drewN ?_ _ | refine blk_drew ?_ | refine blk_alloc ?_ _)); refine blk_far ?_ NB876_905.out _; (with_reducible repeat (first | refine blk_drewN ?_ _ | refine blk_drew ?_ | refine blk_alloc ?_ _)); refine blk_far ?_ NB876_905.out _; (with_reducible repeat (first | refine blk_drewN ?_ _ | refine blk_drew ?_ | refine blk_alloc ?_ _)); refine blk_far ?_ NB876_905.out _; (with_reducible repeat (first | refine blk_drewN ?_ _ | refine blk_drew ?_ | refine blk_alloc ?_ _)); refine blk_far ?_ NB876_905.out _; (with_reducible repeat (first | refine blk_drewN ?_ _ | refine blk_drew ?_ | refine blk_alloc ?_ _)); refine blk_far ?_ NB876_905.out _; (with_reducible repeat (first | refine blk_drewN ?_ _ | refine blk_drew ?_ | refine blk_alloc ?_ _)); refine blk_far ?_ NB876_905.out _; (with_reducible repeat (first | refine blk_drewN ?_ _ | refine blk_drew ?_ | refine blk_alloc ?_ _)); refine blk_far ?_ NB876_905.out _; (with_reducible repeat (first | refine blk_drewN ?_ _ | refine blk_drew ?_ | refine blk_alloc ?_ _)); exact BK876.out) hb); replace BK905 := Aside0.mk (blk_below (g := gb905) (o := .cells #[.slice Ao39 t877.length co39, .slice Ao43 t880.length co43, .slice Ao44 t883.length co44, .slice Ao45 t886.length co45, .slice Ao46 t889.length co46, .int .i64 t892, .slice Ao47 t893.length co47, .slice Ao48 t896.length co48, .slice Ao49 t899.length co49, .slice Ao50 t902.length co50] 41 (0, 0)) (by (with_reducible repeat (first | refine blk_drewN ?_ _ | refine blk_drew ?_ | refine blk_alloc ?_ _)); refine blk_put (cs := #[.slice Ao39 t877.length co39, .slice Ao43 t880.length co43, .slice Ao44 t883.length co44, .slice Ao45 t886.length co45, .slice Ao46 t889.length co46, .int .i64 t892, .slice Ao47 t893.length co47, .slice Ao48 t896.length co48, .slice Ao49 t899.length co49, .slice none 0 0]) ?_ 9 _ rfl; (with_reducible repeat (first | refine blk_drewN ?_ _ | refine blk_drew ?_ | refine blk_alloc ?_ _)); refine blk_put (cs := #[.slice Ao39 t877.length co39, .slice Ao43 t880.length co43, .slice Ao44 t883.length co44, .slice Ao45 t886.length co45, .slice Ao46 t889.length co46, .int .i64 t892, .slice Ao47 t893.length co47, .slice Ao48 t896.length co48, .slice none 0 0, .slice none 0 0]) ?_ 8 _ rfl; (with_reducible repeat (first | refine blk_drewN ?_ _ | refine blk_drew ?_ | refine blk_alloc ?_ _)); refine blk_put (cs := #[.slice Ao39 t877.length co39, .slice Ao43 t880.length co43, .slice Ao44 t883.length co44, .slice Ao45 t886.length co45, .slice Ao46 t889.length co46, .int .i64 t892, .slice Ao47 t893.length co47, .slice none 0 0, .slice none 0 0, .slice none 0 0]) ?_ 7 _ rfl; (with_reducible repeat (first | refine blk_drewN ?_ _ | refine blk_drew ?_ | refine blk_alloc ?_ _)); refine blk_put (cs := #[.slice Ao39 t877.length co39, .slice Ao43 t880.length co43, .slice Ao44 t883.length co44, .slice Ao45 t886.length co45, .slice Ao46 t889.length co46, .int .i64 t892, .slice none 0 0, .slice none 0 0, .slice none 0 0, .slice none 0 0]) ?_ 6 _ rfl; (with_reducible repeat (first | refine blk_drewN ?_ _ | refine blk_drew ?_ | refine blk_alloc ?_ _)); refine blk_put (cs := #[.slice Ao39 t877.length co39, .slice Ao43 t880.length co43, .slice Ao44 t883.length co44, .slice Ao45 t886.length co45, .slice Ao46 t889.length co46, .int .i64 0, .slice none 0 0, .slice none 0 0, .slice none 0 0, .slice none 0 0]) ?_ 5 _ rfl; (with_reducible repeat (first | refine blk_drewN ?_ _ | refine blk_drew ?_ | refine blk_alloc ?_ _)); refine blk_put (cs := #[.slice Ao39 t877.length co39, .slice Ao43 t880.length co43, .slice Ao44 t883.length co44, .slice Ao45 t886.length co45, .slice none 0 0, .int .i64 0, .slice none 0 0, .slice none 0 0, .slice none 0 0, .slice none 0 0]) ?_ 4 _ rfl; (with_reducible repeat (first | refine blk_drewN ?_ _ | refine blk_drew ?_ | refine blk_alloc ?_ _)); refine blk_put (cs := #[.slice Ao39 t877.length co39, .slice Ao43 t880.length co43, .slice Ao44 t883.length co44, .slice none 0 0, .slice none 0 0, .int .i64 0, .slice none 0 0, .slice none 0 0, .slice none 0 0, .slice none 0 0]) ?_ 3 _ rfl; (with_reducible repeat (first | refine blk_drewN ?_ _ | refine blk_drew ?_ | refine blk_alloc ?_ _)); refine blk_put (cs := #[.slice Ao39 t877.length co39, .slice Ao43 t880.length co43, .slice none 0 0, .slice none 0 0, .slice none 0 0, .int .i64 0, .slice none 0 0, .slice none 0 0, .slice none 0 0, .slice none 0 0]) ?_ 2 _ rfl; (with_reducible repeat (first | refine blk_drewN ?_ _ | refine blk_drew ?_ | refine blk_alloc ?_ _)); refine blk_put (cs := #[.slice Ao39 t877.length co39, .slice none 0 0, .slice none 0 0, .slice none 0 0, .slice none 0 0, .int .i64 0, .slice none 0 0, .slice none 0 0, .slice none 0 0, .slice none 0 0]) ?_ 1 _ rfl; (with_reducible repeat (first | refine blk_drewN ?_ _ | refine blk_drew ?_ | refine blk_alloc ?_ _)); refine blk_put (cs := #[.slice none 0 0, .slice none 0 0, .slice none 0 0, .slice none 0 0, .slice none 0 0, .int .i64 0, .slice none 0 0, .slice none 0 0, .slice none 0 0, .slice none 0 0]) ?_ 0 _ rfl; (with_reducible repeat (first | refine blk_drewN ?_ _ | refine blk_drew ?_ | refine blk_alloc ?_ _)); exact BK905.out) hb); replace HB := Aside0.mk (below_step (gT3 GE842.out GE876.out GE905.out HB) hb); (try clear hb); (try clear hb2); (try clear hk); (try clear hi)) | ((with_reducible refine gate_dst (N := 10) rfl ?_); refine box_event ?hg (N := 10) ?hd (cs := #[.int .i64 0, .int .i64 0, .bool false, .bool false]) (t := 56) ?hr ?_; (case hd => rfl); (case hg => rfl); (case hr => first | (go_simp; done) | (go_simp; rfl)); intro gb910 hg w52 hbox hb; replace HO846 := Aside0.mk (Kd.S_below (gS HO846) hb); replace HO849 := Aside0.mk (Kd.R_below (gR HO849) hb); replace HO852 := Aside0.mk (Kd.R_below (gR HO852) hb); replace HO855 := Aside0.mk (Kd.S_below (gS HO855) hb); replace HO858 := Aside0.mk (Kd.R_below (gR HO858) hb); replace HO862 := Aside0.mk (Kd.S_below (gS HO862) hb); replace HO865 := Aside0.mk (Kd.S_below (gS HO865) hb); replace HO868 := Aside0.mk (Kd.R_below (gR HO868) hb); replace HO871 := Aside0.mk (Kd.R_below (gR HO871) hb); replace HO879 := Aside0.mk (Kd.S_below (gS HO879) hb); replace HO882 := Aside0.mk (Kd.R_below (gR HO882) hb); replace HO885 := Aside0.mk (Kd.R_below (gR HO885) hb); replace HO888 := Aside0.mk (Kd.S_below (gS HO888) hb); replace HO891 := Aside0.mk (Kd.R_below (gR HO891) hb); replace HO895 := Aside0.mk (Kd.S_below (gS HO895) hb); replace HO898 := Aside0.mk (Kd.S_below (gS HO898) hb); replace HO901 := Aside0.mk (Kd.R_below (gR HO901) hb); replace HO904 := Aside0.mk (Kd.R_below (gR HO904) hb); have BK910 := Aside0.mk (hbox); have GW910 := Aside0.mk ((by rw [hg]; exact (below_size (gT3 GE842.out GE876.out GE905.out HB)) : w.heap.size ≤ gb910)); have GE910 := Aside0.mk ((by rw [hg]; exact (below_size (gT3 GE842.out GE876.out GE905.out HB)) : w.heap.size ≤ gb910)); replace HB := Aside0.mk (below_step (gT3 GE842.out GE876.out GE905.out HB) hb); have NB842_910 := Aside0.mk ((by rw [hg]; exact Nat.ne_of_lt (blk_lt (g := gb842) (gK BK842)) : gb842 ≠ gb910)); have NB910_842 := Aside0.mk ((by rw [hg]; exact Nat.ne_of_gt (blk_lt (g := gb842) (gK BK842)) : gb910 ≠ gb842)); replace BK842 := Aside0.mk (blk_below (g := gb842) (gK BK842) hb); have NB876_910 := Aside0.mk ((by rw [hg]; exact Nat.ne_of_lt (blk_lt (g := gb876) (gK BK876)) : gb876 ≠ gb910)); have NB910_876 := Aside0.mk ((by rw [hg]; exact Nat.ne_of_gt (blk_lt (g := gb876) (gK BK876)) : gb910 ≠ gb876)); replace BK876 := Aside0.mk (blk_below (g := gb876) (gK BK876) hb); have NB905_910 := Aside0.mk ((by rw [hg]; exact Nat.ne_of_lt (blk_lt (g := gb905) (gK BK905)) : gb905 ≠ gb910)); have NB910_905 := Aside0.mk ((by rw [hg]; exact Nat.ne_of_gt (blk_lt (g := gb905) (gK BK905)) : gb910 ≠ gb905)); replace BK905 := Aside0.mk (blk_below (g := gb905) (gK BK905) hb); clear hb hbox hg; have hnb53 := NB910_842.out; have hnc53 := NB842_910.out; have hnb54 := NB910_876.out; have hnc54 := NB876_910.out; have hnb55 := NB910_905.out; have hnc55 := NB905_910.out; obtain ⟨hcz56_0, hcz56_1, hcz56_2, hcz56_3⟩ := gk4 BK910; obtain ⟨hfz56_0, hfz56_1, hfz56_2, hfz56_3⟩ := gf4 BK910; obtain ⟨hcz57_0, hcz57_1, hcz57_2, hcz57_3⟩ := gk4 BK876; obtain ⟨hfz57_0, hfz57_1, hfz57_2, hfz57_3⟩ := gf4 BK876) | ((with_reducible refine gate_callee (f := 24) rfl ?_); refine goesL_ (some 29) rfl rfl Try.func24 (by kernel_rfl) rfl #[.agg #[.int .i64 t906, .int .i64 t907, .bool t908, .bool t909], .agg #[.int .i64 t872, .int .i64 t873, .bool t874, .bool t875]] rfl (by (try simp only [List.map_toArray, List.map_cons, List.map_nil]); first | done | rfl) ?_; (with_reducible refine (laws_eqEntry.calls t906 t907 t908 t909 t872 t873 t874 t875 true _ A13.out (by first | rfl | assumption)).mono ?_); rintro e w58 ⟨rfl, hb⟩; refine ⟨_, rfl, ?_⟩; replace HO846 := Aside0.mk (Kd.S_below (fS HO846 BK910 (by decide)) hb); replace HO849 := Aside0.mk (Kd.R_below (fR HO849 BK910 (by decide)) hb); replace HO852 := Aside0.mk (Kd.R_below (fR HO852 BK910 (by decide)) hb); replace HO855 := Aside0.mk (Kd.S_below (fS HO855 BK910 (by decide)) hb); replace HO858 := Aside0.mk (Kd.R_below (fR HO858 BK910 (by decide)) hb); replace HO862 := Aside0.mk (Kd.S_below (fS HO862 BK910 (by decide)) hb); replace HO865 := Aside0.mk (Kd.S_below (fS HO865 BK910 (by decide)) hb); replace HO868 := Aside0.mk (Kd.R_below (fR HO868 BK910 (by decide)) hb); replace HO871 := Aside0.mk (Kd.R_below (fR HO871 BK910 (by decide)) hb); replace HO879 := Aside0.mk (Kd.S_below (fS HO879 BK910 (by decide)) hb); replace HO882 := Aside0.mk (Kd.R_below (fR HO882 BK910 (by decide)) hb); replace HO885 := Aside0.mk (Kd.R_below (fR HO885 BK910 (by decide)) hb); replace HO888 := Aside0.mk (Kd.S_below (fS HO888 BK910 (by decide)) hb); replace HO891 := Aside0.mk (Kd.R_below (fR HO891 BK910 (by decide)) hb); replace HO895 := Aside0.mk (Kd.S_below (fS HO895 BK910 (by decide)) hb); replace HO898 := Aside0.mk (Kd.S_below (fS HO898 BK910 (by decide)) hb); replace HO901 := Aside0.mk (Kd.R_below (fR HO901 BK910 (by decide)) hb); replace HO904 := Aside0.mk (Kd.R_below (fR HO904 BK910 (by decide)) hb); replace BK842 := Aside0.mk (blk_below (g := gb842) (o := .cells #[.slice A0_0 l0_0.length c0_0, .slice A0_1 l0_1.length c0_1, .slice A0_2 l0_2.length c0_2, .slice A0_3 l0_3.length c0_3, .slice A0_4 l0_4.length c0_4, .int .i64 a0_5, .slice A0_6 l0_6.length c0_6, .slice A0_7 l0_7.length c0_7, .slice A0_8 l0_8.length c0_8, .slice A0_9 l0_9.length c0_9] 53 (0, 0)) (by (with_reducible repeat (first | refine blk_drewN ?_ _ | refine blk_drew ?_ | refine blk_alloc ?_ _)); refine blk_far ?_ NB842_910.out _; (with_reducible repeat (first | refine blk_drewN ?_ _ | refine blk_drew ?_ | refine blk_alloc ?_ _)); refine blk_far ?_ NB842_910.out _; (with_reducible repeat (first | refine blk_drewN ?_ _ | refine blk_drew ?_ | refine blk_alloc ?_ _)); refine blk_far ?_ NB842_910.out _; (with_reducible repeat (first | refine blk_drewN ?_ _ | refine blk_drew ?_ | refine blk_alloc ?_ _)); refine blk_far ?_ NB842_910.out _; (with_reducible repeat (first | refine blk_drewN ?_ _ | refine blk_drew ?_ | refine blk_alloc ?_ _)); exact BK842.out) hb); replace BK876 := Aside0.mk (blk_below (g := gb876) (o := .cells #[.int .i64 t872, .int .i64 t873, .bool t874, .bool t875] 56 (0, 0)) (by (with_reducible repeat (first | refine blk_drewN ?_ _ | refine blk_drew ?_ | refine blk_alloc ?_ _)); refine blk_far ?_ NB876_910.out _; (with_reducible repeat (first | refine blk_drewN ?_ _ | refine blk_drew ?_ | refine blk_alloc ?_ _)); refine blk_far ?_ NB876_910.out _; (with_reducible repeat (first | refine blk_drewN ?_ _ | refine blk_drew ?_ | refine blk_alloc ?_ _)); refine blk_far ?_ NB876_910.out _; (with_reducible repeat (first | refine blk_drewN ?_ _ | refine blk_drew ?_ | refine blk_alloc ?_ _)); refine blk_far ?_ NB876_910.out _; (with_reducible repeat (first | refine blk_drewN ?_ _ | refine blk_drew ?_ | refine blk_alloc ?_ _)); exact BK876.out) hb); replace BK905 := Aside0.mk (blk_below (g := gb905) (o := .cells #[.slice Ao39 t877.length co39, .slice Ao43 t880.length co43, .slice Ao44 t883.length co44, .slice Ao45 t886.length co45, .slice Ao46 t889.length co46, .int .i64 t892, .slice Ao47 t893.length co47, .slice Ao48 t896.length co48, .slice Ao49 t899.length co49, .slice Ao50 t902.length co50] 41 (0, 0)) (by (with_reducible repeat (first | refine blk_drewN ?_ _ | refine blk_drew ?_ | refine blk_alloc ?_ _)); refine blk_far ?_ NB905_910.out _; (with_reducible repeat (first | refine blk_drewN ?_ _ | refine blk_drew ?_ | refine blk_alloc ?_ _)); refine blk_far ?_ NB905_910.out _; (with_reducible repeat (first | refine blk_drewN ?_ _ | refine blk_drew ?_ | refine blk_alloc ?_ _)); refine blk_far ?_ NB905_910.out _; (with_reducible repeat (first | refine blk_drewN ?_ _ | refine blk_drew ?_ | refine blk_alloc ?_ _)); refine blk_far ?_ NB905_910.out _; (with_reducible repeat (first | refine blk_drewN ?_ _ | refine blk_drew ?_ | refine blk_alloc ?_ _)); exact BK905.out) hb); replace BK910 := Aside0.mk (blk_below (g := gb910) (o := .cells #[.int .i64 t906, .int .i64 t907, .bool t908, .bool t909] 56 (0, 0)) (by (with_reducible repeat (first | refine blk_drewN ?_ _ | refine blk_drew ?_ | refine blk_alloc ?_ _)); refine blk_put (cs := #[.int .i64 t906, .int .i64 t907, .bool t908, .bool false]) ?_ 3 _ rfl; (with_reducible repeat (first | refine blk_drewN ?_ _ | refine blk_drew ?_ | refine blk_alloc ?_ _)); refine blk_put (cs := #[.int .i64 t906, .int .i64 t907, .bool false, .bool false]) ?_ 2 _ rfl; (with_reducible repeat (first | refine blk_drewN ?_ _ | refine blk_drew ?_ | refine blk_alloc ?_ _)); refine blk_put (cs := #[.int .i64 t906, .int .i64 0, .bool false, .bool false]) ?_ 1 _ rfl; (with_reducible repeat (first | refine blk_drewN ?_ _ | refine blk_drew ?_ | refine blk_alloc ?_ _)); refine blk_put (cs := #[.int .i64 0, .int .i64 0, .bool false, .bool false]) ?_ 0 _ rfl; (with_reducible repeat (first | refine blk_drewN ?_ _ | refine blk_drew ?_ | refine blk_alloc ?_ _)); exact BK910.out) hb); replace HB := Aside0.mk (below_step (gT4 GE842.out GE876.out GE905.out GE910.out HB) hb); (try clear hb); (try clear hb2); (try clear hk); (try clear hi)))
       replace HO846 := Aside0.mk (Kd.S_drew HO846.out); replace HO849 := Aside0.mk (Kd.R_drew HO849.out); replace HO852 := Aside0.mk (Kd.R_drew HO852.out); replace HO855 := Aside0.mk (Kd.S_drew HO855.out); replace HO858 := Aside0.mk (Kd.R_drew HO858.out); replace HO862 := Aside0.mk (Kd.S_drew HO862.out); replace HO865 := Aside0.mk (Kd.S_drew HO865.out); replace HO868 := Aside0.mk (Kd.R_drew HO868.out); replace HO871 := Aside0.mk (Kd.R_drew HO871.out); replace HO879 := Aside0.mk (Kd.S_drew HO879.out); replace HO882 := Aside0.mk (Kd.R_drew HO882.out); replace HO885 := Aside0.mk (Kd.R_drew HO885.out); replace HO888 := Aside0.mk (Kd.S_drew HO888.out); replace HO891 := Aside0.mk (Kd.R_drew HO891.out); replace HO895 := Aside0.mk (Kd.S_drew HO895.out); replace HO898 := Aside0.mk (Kd.S_drew HO898.out); replace HO901 := Aside0.mk (Kd.R_drew HO901.out); replace HO904 := Aside0.mk (Kd.R_drew HO904.out); replace BK842 := Aside0.mk (blk_drew BK842.out); replace BK876 := Aside0.mk (blk_drew BK876.out); replace BK905 := Aside0.mk (blk_drew BK905.out); replace BK910 := Aside0.mk (blk_drew BK910.out); replace HB := Aside0.mk (below_drew1 HB.out)
       refine start_ (n := 5) (S := fun w' => w'.cell? ⟨gb905, 0, none⟩ = some (.slice Ao39 t877.length co39) ∧ w'.cell? ⟨gb905, 1, none⟩ = some (.slice Ao43 t880.length co43) ∧ w'.cell? ⟨gb905, 2, none⟩ = some (.slice Ao44 t883.length co44) ∧ w'.cell? ⟨gb905, 3, none⟩ = some (.slice Ao45 t886.length co45) ∧ w'.cell? ⟨gb905, 4, none⟩ = some (.slice Ao46 t889.length co46) ∧ w'.cell? ⟨gb905, 5, none⟩ = some (.int .i64 t892) ∧ w'.cell? ⟨gb905, 6, none⟩ = some (.slice Ao47 t893.length co47) ∧ w'.cell? ⟨gb905, 7, none⟩ = some (.slice Ao48 t896.length co48) ∧ w'.cell? ⟨gb905, 8, none⟩ = some (.slice Ao49 t899.length co49) ∧ w'.cell? ⟨gb905, 9, none⟩ = some (.slice Ao50 t902.length co50) ∧ w'.cell? ⟨gb842, 0, none⟩ = some (.slice A0_0 l0_0.length c0_0) ∧ w'.cell? ⟨gb842, 1, none⟩ = some (.slice A0_1 l0_1.length c0_1) ∧ w'.cell? ⟨gb842, 2, none⟩ = some (.slice A0_2 l0_2.length c0_2) ∧ w'.cell? ⟨gb842, 3, none⟩ = some (.slice A0_3 l0_3.length c0_3) ∧ w'.cell? ⟨gb842, 4, none⟩ = some (.slice A0_4 l0_4.length c0_4) ∧ w'.cell? ⟨gb842, 5, none⟩ = some (.int .i64 a0_5) ∧ w'.cell? ⟨gb842, 6, none⟩ = some (.slice A0_6 l0_6.length c0_6) ∧ w'.cell? ⟨gb842, 7, none⟩ = some (.slice A0_7 l0_7.length c0_7) ∧ w'.cell? ⟨gb842, 8, none⟩ = some (.slice A0_8 l0_8.length c0_8) ∧ w'.cell? ⟨gb842, 9, none⟩ = some (.slice A0_9 l0_9.length c0_9)) (ds := []) #[false, false, false, false, false] (by kernel_rfl) rfl rfl (gk10r BK905 (gk10 BK842)) (fun hHeld => ?_); generalize w58.drew = w59 at HO846 HO849 HO852 HO855 HO858 HO862 HO865 HO868 HO871 HO879 HO882 HO885 HO888 HO891 HO895 HO898 HO901 HO904 BK842 BK876 BK905 BK910 HB hHeld ⊢; refine take_ (i := 0) (N := some 31) (v := ?_) (a' := ?_) #[true, false, false, false, false] rfl rfl (by kernel_rfl) (fun _ _ _ h => h) (Or.inl ⟨by rfl, ?_⟩) hHeld ?_ ?_
       rotate_left
       ·rintro w' ⟨s0, s1, s2, s3, s4, s5, s6, s7, s8, s9, s10, s11, s12, s13, s14, s15, s16, s17, s18, s19⟩
        go_simp; with_reducible rfl
       rotate_left
       ·simp only [Act.put, pu, i64_w, i32_w]
        rfl
       refine take_ (i := 1) (N := some 32) (v := ?_) (a' := ?_) #[true, true, false, false, false] rfl rfl (by kernel_rfl) (fun _ _ _ h => h) (Or.inl ⟨by rfl, ?_⟩) hHeld ?_ ?_; rotate_left
       ·rintro w' ⟨s0, s1, s2, s3, s4, s5, s6, s7, s8, s9, s10, s11, s12, s13, s14, s15, s16, s17, s18, s19⟩
        go_simp; with_reducible rfl
       rotate_left
       ·simp only [Act.put, pu, i64_w, i32_w]
        rfl
       refine one_ (i := 2) (N := some 33) #[true, true, true, false, false] rfl rfl (by kernel_rfl) (by decide) (fun K hK => ?_); refine goes_ Try.func22 (by kernel_rfl) rfl #[.agg #[.slice A0_0 l0_0.length c0_0, .slice A0_1 l0_1.length c0_1, .slice A0_2 l0_2.length c0_2, .slice A0_3 l0_3.length c0_3, .slice A0_4 l0_4.length c0_4, .int .i64 a0_5, .slice A0_6 l0_6.length c0_6, .slice A0_7 l0_7.length c0_7, .slice A0_8 l0_8.length c0_8, .slice A0_9 l0_9.length c0_9]] (by rfl) rfl rfl (by (try simp only [List.map_toArray, List.map_cons, List.map_nil]); first | done | rfl) ?_; with_reducible refine (laws_toMachine.calls k _ _ l0_0 _ _ l0_1 _ _ l0_2 _ _ l0_3 _ _ l0_4 a0_5 _ _ l0_6 _ _ l0_7 _ _ l0_8 _ _ l0_9 t912 t915 t918 t921 t924 t927 t928 t931 t934 t937 _ ?side1 ?side2 ?side3 ?side4 ?side5 ?side6 ?side7 ?side8 ?side9 ?side10 ?side11 ?side12 ?side13 ?side14 ?side15 ?side16 ?side17 ?side18 A15.out).mono ?_
       (case side1 => exact gE HR0_0 HB); (case side2 => exact HC0_0.out); (case side3 => exact gE HR0_1 HB); (case side4 => exact HC0_1.out); (case side5 => exact gE HR0_2 HB); (case side6 => exact HC0_2.out); (case side7 => exact gE HR0_3 HB); (case side8 => exact HC0_3.out); (case side9 => exact gE HR0_4 HB); (case side10 => exact HC0_4.out); (case side11 => exact gE HR0_6 HB); (case side12 => exact HC0_6.out); (case side13 => exact gE HR0_7 HB); (case side14 => exact HC0_7.out); (case side15 => exact gE HR0_8 HB); (case side16 => exact HC0_8.out); (case side17 => exact gE HR0_9 HB); (case side18 => exact HC0_9.out); rintro e w60 ⟨v913, v916, v919, v922, v925, v929, v932, v935, v938, rfl, ho0, ho1, ho2, ho3, ho4, ho5, ho6, ho7, ho8, hb⟩; refine ⟨_, rfl, ?_⟩; have HO914 := Aside0.mk (Kd.S_lower (Kd.S_new' (Kd.S_new' (Kd.S_new' (Kd.S_new' (Kd.S_new' (Kd.S_new' (Kd.S_new' (Kd.S_new' ho0 (Kd.S_lt (gS HO846))) (Kd.R_lt (gR HO849))) (Kd.R_lt (gR HO868))) (Kd.R_lt (gR HO871))) (Kd.S_lt (gS HO879))) (Kd.R_lt (gR HO882))) (Kd.R_lt (gR HO901))) (Kd.R_lt (gR HO904))) (below_size (gT4 GE842.out GE876.out GE905.out GE910.out HB))); replace HO846 := Aside0.mk (Kd.S_mono (Kd.S_told (Kd.S_told (Kd.S_told (Kd.S_told (Kd.S_old (gS HO846) hb) (Kd.S_base ho0)) (Kd.R_base ho1)) (Kd.R_base ho7)) (Kd.R_base ho8)) (fun _ h_ => h_.1)); replace HO879 := Aside0.mk (Kd.S_mono (Kd.S_told (Kd.S_told (Kd.S_told (Kd.S_told (Kd.S_old (gS HO879) hb) (Kd.S_base ho0)) (Kd.R_base ho1)) (Kd.R_base ho7)) (Kd.R_base ho8)) (fun _ h_ => h_.1))
       have HO917 := Aside0.mk (Kd.R_lower (Kd.R_new' (Kd.R_new' (Kd.R_new' (Kd.R_new' (Kd.R_new' (Kd.R_new' ho1 (Kd.R_lt (gR HO849))) (Kd.R_lt (gR HO868))) (Kd.R_lt (gR HO871))) (Kd.R_lt (gR HO882))) (Kd.R_lt (gR HO901))) (Kd.R_lt (gR HO904))) (below_size (gT4 GE842.out GE876.out GE905.out GE910.out HB))); have HO920 := Aside0.mk (Kd.R_lower (Kd.R_new' (Kd.R_new' ho2 (Kd.R_lt (gR HO852))) (Kd.R_lt (gR HO885))) (below_size (gT4 GE842.out GE876.out GE905.out GE910.out HB))); replace HO852 := Aside0.mk (Kd.R_elder' (gR HO852) (Kd.R_base ho2) hb); replace HO885 := Aside0.mk (Kd.R_elder' (gR HO885) (Kd.R_base ho2) hb); have HO923 := Aside0.mk (Kd.S_lower (Kd.S_new' (Kd.S_new' ho3 (Kd.S_lt (gS HO855))) (Kd.S_lt (gS HO888))) (below_size (gT4 GE842.out GE876.out GE905.out GE910.out HB))); replace HO855 := Aside0.mk (Kd.S_elder' (gS HO855) (Kd.S_base ho3) hb); replace HO888 := Aside0.mk (Kd.S_elder' (gS HO888) (Kd.S_base ho3) hb); have HO926 := Aside0.mk (Kd.R_lower (Kd.R_new' (Kd.R_new' ho4 (Kd.R_lt (gR HO858))) (Kd.R_lt (gR HO891))) (below_size (gT4 GE842.out GE876.out GE905.out GE910.out HB))); replace HO858 := Aside0.mk (Kd.R_elder' (gR HO858) (Kd.R_base ho4) hb); replace HO891 := Aside0.mk (Kd.R_elder' (gR HO891) (Kd.R_base ho4) hb); have HO930 := Aside0.mk (Kd.S_lower (Kd.S_new' (Kd.S_new' ho5 (Kd.S_lt (gS HO862))) (Kd.S_lt (gS HO895))) (below_size (gT4 GE842.out GE876.out GE905.out GE910.out HB))); replace HO862 := Aside0.mk (Kd.S_elder' (gS HO862) (Kd.S_base ho5) hb); replace HO895 := Aside0.mk (Kd.S_elder' (gS HO895) (Kd.S_base ho5) hb)
       have HO933 := Aside0.mk (Kd.S_lower (Kd.S_new' (Kd.S_new' (Kd.S_new' (Kd.S_new' (Kd.S_new' (Kd.S_new' (Kd.S_new' (Kd.S_new' ho6 (Kd.R_lt (gR HO849))) (Kd.S_lt (gS HO865))) (Kd.R_lt (gR HO868))) (Kd.R_lt (gR HO871))) (Kd.R_lt (gR HO882))) (Kd.S_lt (gS HO898))) (Kd.R_lt (gR HO901))) (Kd.R_lt (gR HO904))) (below_size (gT4 GE842.out GE876.out GE905.out GE910.out HB))); replace HO865 := Aside0.mk (Kd.S_mono (Kd.S_told (Kd.S_told (Kd.S_told (Kd.S_told (Kd.S_old (gS HO865) hb) (Kd.R_base ho1)) (Kd.S_base ho6)) (Kd.R_base ho7)) (Kd.R_base ho8)) (fun _ h_ => h_.1)); replace HO898 := Aside0.mk (Kd.S_mono (Kd.S_told (Kd.S_told (Kd.S_told (Kd.S_told (Kd.S_old (gS HO898) hb) (Kd.R_base ho1)) (Kd.S_base ho6)) (Kd.R_base ho7)) (Kd.R_base ho8)) (fun _ h_ => h_.1)); have HO936 := Aside0.mk (Kd.R_lower (Kd.R_new' (Kd.R_new' (Kd.R_new' (Kd.R_new' (Kd.R_new' (Kd.R_new' ho7 (Kd.R_lt (gR HO849))) (Kd.R_lt (gR HO868))) (Kd.R_lt (gR HO871))) (Kd.R_lt (gR HO882))) (Kd.R_lt (gR HO901))) (Kd.R_lt (gR HO904))) (below_size (gT4 GE842.out GE876.out GE905.out GE910.out HB))); have HO939 := Aside0.mk (Kd.R_lower (Kd.R_new' (Kd.R_new' (Kd.R_new' (Kd.R_new' (Kd.R_new' (Kd.R_new' ho8 (Kd.R_lt (gR HO849))) (Kd.R_lt (gR HO868))) (Kd.R_lt (gR HO871))) (Kd.R_lt (gR HO882))) (Kd.R_lt (gR HO901))) (Kd.R_lt (gR HO904))) (below_size (gT4 GE842.out GE876.out GE905.out GE910.out HB))); replace HO849 := Aside0.mk (Kd.R_mono (Kd.R_told (Kd.R_told (Kd.R_told (Kd.R_old (gR HO849) hb) (Kd.R_base ho1)) (Kd.R_base ho7)) (Kd.R_base ho8)) (fun _ h_ => h_.1)); replace HO868 := Aside0.mk (Kd.R_mono (Kd.R_told (Kd.R_told (Kd.R_told (Kd.R_old (gR HO868) hb) (Kd.R_base ho1)) (Kd.R_base ho7)) (Kd.R_base ho8)) (fun _ h_ => h_.1))
       replace HO871 := Aside0.mk (Kd.R_mono (Kd.R_told (Kd.R_told (Kd.R_told (Kd.R_old (gR HO871) hb) (Kd.R_base ho1)) (Kd.R_base ho7)) (Kd.R_base ho8)) (fun _ h_ => h_.1)); replace HO882 := Aside0.mk (Kd.R_mono (Kd.R_told (Kd.R_told (Kd.R_told (Kd.R_old (gR HO882) hb) (Kd.R_base ho1)) (Kd.R_base ho7)) (Kd.R_base ho8)) (fun _ h_ => h_.1)); replace HO901 := Aside0.mk (Kd.R_mono (Kd.R_told (Kd.R_told (Kd.R_told (Kd.R_old (gR HO901) hb) (Kd.R_base ho1)) (Kd.R_base ho7)) (Kd.R_base ho8)) (fun _ h_ => h_.1)); replace HO904 := Aside0.mk (Kd.R_mono (Kd.R_told (Kd.R_told (Kd.R_told (Kd.R_old (gR HO904) hb) (Kd.R_base ho1)) (Kd.R_base ho7)) (Kd.R_base ho8)) (fun _ h_ => h_.1)); replace BK842 := Aside0.mk (blk_below (g := gb842) (gK BK842) hb); replace BK876 := Aside0.mk (blk_below (g := gb876) (gK BK876) hb); replace BK905 := Aside0.mk (blk_below (g := gb905) (gK BK905) hb); replace BK910 := Aside0.mk (blk_below (g := gb910) (gK BK910) hb); replace HB := Aside0.mk (below_step (gT4 GE842.out GE876.out GE905.out GE910.out HB) hb); (try clear hb); (try clear hb2); (try clear hk); (try clear hi); (try clear ho0); (try clear ho1); (try clear ho2); (try clear ho3); (try clear ho4); (try clear ho5); (try clear ho6); (try clear ho7); (try clear ho8); obtain ⟨Ao61, co61, eo61⟩ := Kd.S_slice HO914.out; (first | subst eo61 | (injection eo61 with f1_ f2_ f3_; have f4_ := f1_.symm; have f5_ := f3_.symm; clear f1_ f2_ f3_; subst f4_; subst f5_)); obtain ⟨Ao62, co62, eo62⟩ := Kd.R_slice HO917.out; (first | subst eo62 | (injection eo62 with f1_ f2_ f3_; have f4_ := f1_.symm; have f5_ := f3_.symm; clear f1_ f2_ f3_; subst f4_; subst f5_)); obtain ⟨Ao63, co63, eo63⟩ := Kd.R_slice HO920.out
       (first | subst eo63 | (injection eo63 with f1_ f2_ f3_; have f4_ := f1_.symm; have f5_ := f3_.symm; clear f1_ f2_ f3_; subst f4_; subst f5_)); obtain ⟨Ao64, co64, eo64⟩ := Kd.S_slice HO923.out; (first | subst eo64 | (injection eo64 with f1_ f2_ f3_; have f4_ := f1_.symm; have f5_ := f3_.symm; clear f1_ f2_ f3_; subst f4_; subst f5_)); obtain ⟨Ao65, co65, eo65⟩ := Kd.R_slice HO926.out; (first | subst eo65 | (injection eo65 with f1_ f2_ f3_; have f4_ := f1_.symm; have f5_ := f3_.symm; clear f1_ f2_ f3_; subst f4_; subst f5_)); obtain ⟨Ao66, co66, eo66⟩ := Kd.S_slice HO930.out; (first | subst eo66 | (injection eo66 with f1_ f2_ f3_; have f4_ := f1_.symm; have f5_ := f3_.symm; clear f1_ f2_ f3_; subst f4_; subst f5_)); obtain ⟨Ao67, co67, eo67⟩ := Kd.S_slice HO933.out; (first | subst eo67 | (injection eo67 with f1_ f2_ f3_; have f4_ := f1_.symm; have f5_ := f3_.symm; clear f1_ f2_ f3_; subst f4_; subst f5_)); obtain ⟨Ao68, co68, eo68⟩ := Kd.R_slice HO936.out; (first | subst eo68 | (injection eo68 with f1_ f2_ f3_; have f4_ := f1_.symm; have f5_ := f3_.symm; clear f1_ f2_ f3_; subst f4_; subst f5_)); obtain ⟨Ao69, co69, eo69⟩ := Kd.R_slice HO939.out; (first | subst eo69 | (injection eo69 with f1_ f2_ f3_; have f4_ := f1_.symm; have f5_ := f3_.symm; clear f1_ f2_ f3_; subst f4_; subst f5_)); refine hK.out _ _ (gk10r BK905 (gk10 BK842)) (fun hHeld => ?_); clear hK K; refine norm_ (a' := ?_) ?_ ?_; rotate_left
       ·show Act.put _ (some 33) _ = _
        simp only [Act.put, pu, i64_w, i32_w]; rfl
       refine one_ (i := 3) (N := some 34) #[true, true, true, true, false] rfl rfl (by kernel_rfl) (by decide) (fun K hK => ?_); refine goes_ Try.func17 (by kernel_rfl) rfl #[.agg #[.slice Ao39 t877.length co39, .slice Ao43 t880.length co43, .slice Ao44 t883.length co44, .slice Ao45 t886.length co45, .slice Ao46 t889.length co46, .int .i64 t892, .slice Ao47 t893.length co47, .slice Ao48 t896.length co48, .slice Ao49 t899.length co49, .slice Ao50 t902.length co50], .agg #[.slice Ao61 t912.length co61, .slice Ao62 t915.length co62, .slice Ao63 t918.length co63, .slice Ao64 t921.length co64, .slice Ao65 t924.length co65, .int .i64 t927, .slice Ao66 t928.length co66, .slice Ao67 t931.length co67, .slice Ao68 t934.length co68, .slice Ao69 t937.length co69]] (by rfl) rfl rfl (by (try simp only [List.map_toArray, List.map_cons, List.map_nil]); first | done | rfl) ?_; with_reducible refine (laws_eqMachine.calls k _ _ t877 _ _ t880 _ _ t883 _ _ t886 _ _ t889 t892 _ _ t893 _ _ t896 _ _ t899 _ _ t902 _ _ t912 _ _ t915 _ _ t918 _ _ t921 _ _ t924 t927 _ _ t928 _ _ t931 _ _ t934 _ _ t937 true _ ?side1 ?side2 ?side3 ?side4 ?side5 ?side6 ?side7 ?side8 ?side9 ?side10 ?side11 ?side12 ?side13 ?side14 ?side15 ?side16 ?side17 ?side18 ?side19 ?side20 ?side21 ?side22 ?side23 ?side24 ?side25 ?side26 ?side27 ?side28 ?side29 ?side30 ?side31 ?side32 ?side33 ?side34 ?side35 ?side36 A16.out (by first | rfl | assumption)).mono ?_
       (case side1 => repeat (first | exact (Kd.S_reads' HO879.out).2.2 | (with_reducible refine Kd.C_alloc ?_ _) | (with_reducible refine Kd.C_drewN ?_ _) | (with_reducible refine Kd.C_drew ?_))); (case side2 => exact (Kd.S_reads' HO879.out).2.1); (case side3 => repeat (first | exact (Kd.R_reads' HO882.out).2.2 | (with_reducible refine Kd.C_alloc ?_ _) | (with_reducible refine Kd.C_drewN ?_ _) | (with_reducible refine Kd.C_drew ?_))); (case side4 => exact (Kd.R_reads' HO882.out).2.1); (case side5 => repeat (first | exact (Kd.R_reads' HO885.out).2.2 | (with_reducible refine Kd.C_alloc ?_ _) | (with_reducible refine Kd.C_drewN ?_ _) | (with_reducible refine Kd.C_drew ?_))); (case side6 => exact (Kd.R_reads' HO885.out).2.1); (case side7 => repeat (first | exact (Kd.S_reads' HO888.out).2.2 | (with_reducible refine Kd.C_alloc ?_ _) | (with_reducible refine Kd.C_drewN ?_ _) | (with_reducible refine Kd.C_drew ?_))); (case side8 => exact (Kd.S_reads' HO888.out).2.1); (case side9 => repeat (first | exact (Kd.R_reads' HO891.out).2.2 | (with_reducible refine Kd.C_alloc ?_ _) | (with_reducible refine Kd.C_drewN ?_ _) | (with_reducible refine Kd.C_drew ?_))); (case side10 => exact (Kd.R_reads' HO891.out).2.1); (case side11 => repeat (first | exact (Kd.S_reads' HO895.out).2.2 | (with_reducible refine Kd.C_alloc ?_ _) | (with_reducible refine Kd.C_drewN ?_ _) | (with_reducible refine Kd.C_drew ?_))); (case side12 => exact (Kd.S_reads' HO895.out).2.1); (case side13 => repeat (first | exact (Kd.S_reads' HO898.out).2.2 | (with_reducible refine Kd.C_alloc ?_ _) | (with_reducible refine Kd.C_drewN ?_ _) | (with_reducible refine Kd.C_drew ?_))); (case side14 => exact (Kd.S_reads' HO898.out).2.1)
       (case side15 => repeat (first | exact (Kd.R_reads' HO901.out).2.2 | (with_reducible refine Kd.C_alloc ?_ _) | (with_reducible refine Kd.C_drewN ?_ _) | (with_reducible refine Kd.C_drew ?_))); (case side16 => exact (Kd.R_reads' HO901.out).2.1); (case side17 => repeat (first | exact (Kd.R_reads' HO904.out).2.2 | (with_reducible refine Kd.C_alloc ?_ _) | (with_reducible refine Kd.C_drewN ?_ _) | (with_reducible refine Kd.C_drew ?_))); (case side18 => exact (Kd.R_reads' HO904.out).2.1); (case side19 => repeat (first | exact (Kd.S_reads' HO914.out).2.2 | (with_reducible refine Kd.C_alloc ?_ _) | (with_reducible refine Kd.C_drewN ?_ _) | (with_reducible refine Kd.C_drew ?_))); (case side20 => exact (Kd.S_reads' HO914.out).2.1); (case side21 => repeat (first | exact (Kd.R_reads' HO917.out).2.2 | (with_reducible refine Kd.C_alloc ?_ _) | (with_reducible refine Kd.C_drewN ?_ _) | (with_reducible refine Kd.C_drew ?_))); (case side22 => exact (Kd.R_reads' HO917.out).2.1); (case side23 => repeat (first | exact (Kd.R_reads' HO920.out).2.2 | (with_reducible refine Kd.C_alloc ?_ _) | (with_reducible refine Kd.C_drewN ?_ _) | (with_reducible refine Kd.C_drew ?_))); (case side24 => exact (Kd.R_reads' HO920.out).2.1); (case side25 => repeat (first | exact (Kd.S_reads' HO923.out).2.2 | (with_reducible refine Kd.C_alloc ?_ _) | (with_reducible refine Kd.C_drewN ?_ _) | (with_reducible refine Kd.C_drew ?_))); (case side26 => exact (Kd.S_reads' HO923.out).2.1); (case side27 => repeat (first | exact (Kd.R_reads' HO926.out).2.2 | (with_reducible refine Kd.C_alloc ?_ _) | (with_reducible refine Kd.C_drewN ?_ _) | (with_reducible refine Kd.C_drew ?_))); (case side28 => exact (Kd.R_reads' HO926.out).2.1)
       (case side29 => repeat (first | exact (Kd.S_reads' HO930.out).2.2 | (with_reducible refine Kd.C_alloc ?_ _) | (with_reducible refine Kd.C_drewN ?_ _) | (with_reducible refine Kd.C_drew ?_))); (case side30 => exact (Kd.S_reads' HO930.out).2.1); (case side31 => repeat (first | exact (Kd.S_reads' HO933.out).2.2 | (with_reducible refine Kd.C_alloc ?_ _) | (with_reducible refine Kd.C_drewN ?_ _) | (with_reducible refine Kd.C_drew ?_))); (case side32 => exact (Kd.S_reads' HO933.out).2.1); (case side33 => repeat (first | exact (Kd.R_reads' HO936.out).2.2 | (with_reducible refine Kd.C_alloc ?_ _) | (with_reducible refine Kd.C_drewN ?_ _) | (with_reducible refine Kd.C_drew ?_))); (case side34 => exact (Kd.R_reads' HO936.out).2.1); (case side35 => repeat (first | exact (Kd.R_reads' HO939.out).2.2 | (with_reducible refine Kd.C_alloc ?_ _) | (with_reducible refine Kd.C_drewN ?_ _) | (with_reducible refine Kd.C_drew ?_))); (case side36 => exact (Kd.R_reads' HO939.out).2.1); rintro e w70 ⟨rfl, hb⟩; refine ⟨_, rfl, ?_⟩; replace HO846 := Aside0.mk (Kd.S_below (gS HO846) hb); replace HO849 := Aside0.mk (Kd.R_below (gR HO849) hb); replace HO852 := Aside0.mk (Kd.R_below (gR HO852) hb); replace HO855 := Aside0.mk (Kd.S_below (gS HO855) hb); replace HO858 := Aside0.mk (Kd.R_below (gR HO858) hb); replace HO862 := Aside0.mk (Kd.S_below (gS HO862) hb); replace HO865 := Aside0.mk (Kd.S_below (gS HO865) hb); replace HO868 := Aside0.mk (Kd.R_below (gR HO868) hb); replace HO871 := Aside0.mk (Kd.R_below (gR HO871) hb); replace HO879 := Aside0.mk (Kd.S_below (gS HO879) hb); replace HO882 := Aside0.mk (Kd.R_below (gR HO882) hb); replace HO885 := Aside0.mk (Kd.R_below (gR HO885) hb); replace HO888 := Aside0.mk (Kd.S_below (gS HO888) hb); replace HO891 := Aside0.mk (Kd.R_below (gR HO891) hb)
       replace HO895 := Aside0.mk (Kd.S_below (gS HO895) hb); replace HO898 := Aside0.mk (Kd.S_below (gS HO898) hb); replace HO901 := Aside0.mk (Kd.R_below (gR HO901) hb); replace HO904 := Aside0.mk (Kd.R_below (gR HO904) hb); replace HO914 := Aside0.mk (Kd.S_below (gS HO914) hb); replace HO917 := Aside0.mk (Kd.R_below (gR HO917) hb); replace HO920 := Aside0.mk (Kd.R_below (gR HO920) hb); replace HO923 := Aside0.mk (Kd.S_below (gS HO923) hb); replace HO926 := Aside0.mk (Kd.R_below (gR HO926) hb); replace HO930 := Aside0.mk (Kd.S_below (gS HO930) hb); replace HO933 := Aside0.mk (Kd.S_below (gS HO933) hb); replace HO936 := Aside0.mk (Kd.R_below (gR HO936) hb); replace HO939 := Aside0.mk (Kd.R_below (gR HO939) hb); replace BK842 := Aside0.mk (blk_below (g := gb842) (gK BK842) hb); replace BK876 := Aside0.mk (blk_below (g := gb876) (gK BK876) hb); replace BK905 := Aside0.mk (blk_below (g := gb905) (gK BK905) hb); replace BK910 := Aside0.mk (blk_below (g := gb910) (gK BK910) hb); replace HB := Aside0.mk (below_step (gT4 GE842.out GE876.out GE905.out GE910.out HB) hb); (try clear hb); (try clear hb2); (try clear hk); (try clear hi); refine hK.out _ _ (gk10r BK905 (gk10 BK842)) (fun hHeld => ?_); clear hK K; refine norm_ (a' := ?_) ?_ ?_; rotate_left
       ·show Act.put _ (some 34) _ = _
        simp only [Act.put, pu, i64_w, i32_w]; rfl
       refine pure_ (i := 4) (N := some 35) (v := ?_) (a' := ?_) #[true, true, true, true, true] rfl rfl (by kernel_rfl) (fun _ _ _ h => h) (Or.inl ⟨by rfl, ?_⟩) ?_ ?_; rotate_left
       ·intro w'
        go_simp; with_reducible rfl
       rotate_left
       ·simp only [Act.put, pu, i64_w, i32_w]
        rfl
       refine done_ (by kernel_rfl) ?_; try go_wp2
       go_ret
       exact ⟨by first | rfl | (simp [errW_none, errW_some] <;> rfl) | (simp [*, errW_none, errW_some] <;> rfl), gT4 GE842.out GE876.out GE905.out GE910.out HB⟩)
   ·replace c17 := Bool.eq_false_iff.mpr c17
    subst c17
    have H1 : (some false) = some r := by rw [if_neg (show ¬ (false = true) by decide)] at H; exact H
    clear H; have H := H1; clear H1; obtain rfl := Option.some.inj H; exact absurd hr_ (by decide)
  ·replace c14 := Bool.eq_false_iff.mpr c14
   subst c14
   have H1 : (some false) = some r := by rw [if_neg (show ¬ (false = true) by decide)] at H; exact H
   clear H; have H := H1; clear H1; obtain rfl := Option.some.inj H; exact absurd hr_ (by decide)
end Go.Proofs.Ytngonhgghncdiaa.P
end
section
namespace Go.Proofs.Ytngonhgghncdiaa.Pure
open Go.RowKit Go.Proofs.Ytngonhgghncdiaa.P Go.Proofs.YtngonhgghncdiaaW.PrintWords Go.Proofs.YtngonhgghncdiaaW.PrintLast Go.Proofs.YtngonhgghncdiaaW.PrintMore Go.Proofs.Ytngonhgghncdiaa.Aid
set_option linter.unusedVariables false
set_option linter.unusedSimpArgs false
theorem szIntS_eq (l : List Int) (hl : l.length ≤ maxLen) (a : Int) (h0 : 0 ≤ a) (h1 : a ≤ 1048576) : laws_szIntS.f l a = some (if (l.length : Int) ≤ a then a - l.length else -1) := by
  unfold maxLen at hl
  unfold laws_szIntS.f
  have e : wrap64 (a - (l.length : Int)) = a - l.length := by unfold wrap64; omega
  rw [e]
  by_cases h : (l.length : Int) ≤ a
  · rw [if_neg (by omega), if_pos h]
  · rw [if_pos (by omega), if_neg h]
theorem toIntS_ev (l : List Int) (hl : l.length ≤ 1048576) : Ev (fun k => laws_toIntS.f k l) l := by
  have key := ev_copy0 (fun k acc i => laws_toIntS.l0 k l acc (i : Int)) l.length (fun i => l.getD i 0) id (by
    intro i acc hi ha r h
    refine Ev.step (fun k => ?_) h
    simp only [laws_toIntS.l0]
    rw [if_pos (by omega), if_pos (by omega), if_pos (by omega), wrap_succ (by omega), toNat_cast]
    rfl) (by
    intro acc ha
    refine Ev.of_succ (fun k => ?_)
    simp only [laws_toIntS.l0]
    rw [if_neg (by omega)]
    rfl) (List.replicate l.length 0) (by simp)
  rw [range_map_getD] at key
  refine Ev.congr (fun k => ?_) key
  unfold laws_toIntS.f
  rw [if_pos (by omega), if_pos (by omega), toNat_cast]
  rfl
theorem eqIntS_refl (l : List Int) (hl : l.length ≤ 1048576) : Ev (fun k => laws_eqIntS.f k l l) true := by
  have key := ev_all0 (fun k i => laws_eqIntS.l0 k l l (i : Int)) l.length (fun _ => true) false true (by
    intro i hi _ r h
    refine Ev.step (fun k => ?_) h
    simp only [laws_eqIntS.l0]
    rw [if_pos (by omega), if_pos (by omega), if_pos (by omega), if_pos trivial, wrap_succ (by omega)]) (by intro i _ h; cases h) (by
    refine Ev.of_succ (fun k => ?_)
    simp only [laws_eqIntS.l0]
    rw [if_neg (by omega)])
  rw [if_pos (by simp)] at key
  refine Ev.congr (fun k => ?_) key
  unfold laws_eqIntS.f
  rw [if_pos rfl]
  rfl
theorem rdL (l : List (List Int)) (i : Nat) : rd_L2 l (i : Int) = l.getD i [] := by unfold rd_L2; rw [toNat_cast]
theorem szIntSS_ev (l : List (List Int)) (hl : l.length ≤ maxLen) (hls : ∀ x ∈ l, x.length ≤ maxLen) (a : Int) (h0 : 0 ≤ a) (h1 : a ≤ 1048576) :
    ∃ r, Ev (fun k => laws_szIntSS.f k l a) r ∧ (0 ≤ r → (l.length : Int) + ((l.map List.length).sum : Nat) + r ≤ a) := by
  by_cases hlen : (l.length : Int) ≤ a
  · have key : ∀ (d i : Nat) (b : Int), i + d = l.length → 0 ≤ b → b ≤ 1048576 → ∃ r, Ev (fun k => laws_szIntSS.l0 k l b (i : Int)) r ∧ (0 ≤ r → (((l.drop i).map List.length).sum : Nat) + r ≤ b) := by
      intro d
      induction d with
      | zero =>
        intro i b hi hb hb1
        refine ⟨b, Ev.of_succ (fun k => ?_), fun _ => ?_⟩
        · simp only [laws_szIntSS.l0]
          rw [if_neg (by omega)]
        · rw [List.drop_of_length_le (by omega)]; simp
      | succ d ih =>
        intro i b hi hb hb1
        have hi' : i < l.length := by omega
        have hmem := List.getElem_mem hi'
        have hx : l.getD i [] = l[i] := by simp [List.getD_eq_getElem?_getD, List.getElem?_eq_getElem hi']
        have hd : l.drop i = l[i] :: l.drop (i + 1) := List.drop_eq_getElem_cons hi'
        have hs := szIntS_eq l[i] (hls _ hmem) b hb hb1
        by_cases hle : (l[i].length : Int) ≤ b
        · obtain ⟨r, hr, hr2⟩ := ih (i + 1) (b - l[i].length) (by omega) (by omega) (by omega)
          refine ⟨r, Ev.step (fun k => ?_) hr, fun h => ?_⟩
          · simp only [laws_szIntSS.l0]
            rw [if_pos (by omega), if_pos (by omega), rdL, hx, hs, if_pos hle]
            simp only [Option.bind_some]
            rw [if_neg (by omega), wrap_succ (by simp only [maxLen] at hl; omega)]
          · have := hr2 h
            rw [hd]; simp only [List.map_cons, List.sum_cons]; omega
        · refine ⟨-1, Ev.of_succ (fun k => ?_), fun h => by omega⟩
          simp only [laws_szIntSS.l0]
          rw [if_pos (by omega), if_pos (by omega), rdL, hx, hs, if_neg hle]
          simp only [Option.bind_some]
          rw [if_pos (by omega)]
    obtain ⟨r, hr, hr2⟩ := key l.length 0 (a - l.length) (by omega) (by omega) (by omega)
    refine ⟨r, Ev.congr (fun k => ?_) hr, fun h => by have := hr2 h; simp only [List.drop_zero] at this; omega⟩
    unfold laws_szIntSS.f
    have e : wrap64 (a - (l.length : Int)) = a - l.length := by unfold wrap64; omega
    rw [e, if_neg (by omega)]
    rfl
  · refine ⟨-1, Ev.const (fun k => ?_), fun h => by omega⟩
    unfold maxLen at hl
    unfold laws_szIntSS.f
    have e : wrap64 (a - (l.length : Int)) = a - l.length := by unfold wrap64; omega
    rw [e, if_pos (by omega)]
theorem le_sum {l : List Nat} {x : Nat} (h : x ∈ l) : x ≤ l.sum := by
  induction l with
  | nil => cases h
  | cons y l ih =>
    rcases List.mem_cons.1 h with rfl | h
    · simp
    · have := ih h; simp; omega
def Small (l : List (List Int)) : Prop := l.length ≤ 1048576 ∧ ∀ x ∈ l, x.length ≤ 1048576
theorem Small.of_sum {l : List (List Int)} (h : (l.length : Int) + ((l.map List.length).sum : Nat) ≤ 1048576) : Small l :=
  ⟨by omega, fun x hx => by have := le_sum (List.mem_map_of_mem (f := List.length) hx); omega⟩
theorem Small.at_ {l : List (List Int)} (h : Small l) (i : Nat) : (l.getD i []).length ≤ 1048576 := by
  by_cases hi : i < l.length
  · rw [List.getD_eq_getElem?_getD, List.getElem?_eq_getElem hi]; exact h.2 _ (List.getElem_mem hi)
  · rw [List.getD_eq_getElem?_getD, List.getElem?_eq_none (by omega)]; simp
theorem toIntSS_ev (l : List (List Int)) (hl : Small l) : Ev (fun k => laws_toIntSS.f k l) l := by
  have h1 := hl.1
  have key := ev_copy0 (fun k acc i => laws_toIntSS.l0 k l acc (i : Int)) l.length (fun i => l.getD i []) id (by
    intro i acc hi ha r h
    refine Ev.step (f := fun k => (laws_toIntS.f k (l.getD i [])).bind fun t => laws_toIntSS.l0 k l (acc.set i t) ((i + 1 : Nat) : Int)) (fun k => ?_) (Ev.bind (toIntS_ev _ (hl.at_ i)) h)
    simp only [laws_toIntSS.l0]
    rw [if_pos (by omega), if_pos (by omega), rdL, wrap_succ (by omega), toNat_cast]
    congr 1
    funext t
    rw [if_pos (by omega)]) (by
    intro acc ha
    refine Ev.of_succ (fun k => ?_)
    simp only [laws_toIntSS.l0]
    rw [if_neg (by omega)]
    rfl) (List.replicate l.length []) (by simp)
  rw [range_map_getD] at key
  refine Ev.congr (fun k => ?_) key
  unfold laws_toIntSS.f
  rw [if_pos (by omega), if_pos (by omega), toNat_cast]
  rfl
theorem eqIntSS_refl (l : List (List Int)) (hl : Small l) : Ev (fun k => laws_eqIntSS.f k l l) true := by
  have h1 := hl.1
  have key := ev_all0 (fun k i => laws_eqIntSS.l0 k l l (i : Int)) l.length (fun _ => true) false true (by
    intro i hi _ r h
    refine Ev.step (f := fun k => (laws_eqIntS.f k (l.getD i []) (l.getD i [])).bind fun t => if t = true then laws_eqIntSS.l0 k l l ((i + 1 : Nat) : Int) else some false) (fun k => ?_) (Ev.bind (eqIntS_refl _ (hl.at_ i)) (by simpa using h))
    simp only [laws_eqIntSS.l0]
    rw [if_pos (by omega), if_pos (by omega), if_pos (by omega), rdL, wrap_succ (by omega)]) (by intro i _ h; cases h) (by
    refine Ev.of_succ (fun k => ?_)
    simp only [laws_eqIntSS.l0]
    rw [if_neg (by omega)])
  rw [if_pos (by simp)] at key
  refine Ev.congr (fun k => ?_) key
  unfold laws_eqIntSS.f
  rw [if_pos rfl]
  rfl
theorem szBoolS_eq (l : List Bool) (hl : l.length ≤ maxLen) (a : Int) (h0 : 0 ≤ a) (h1 : a ≤ 1048576) : laws_szBoolS.f l a = some (if (l.length : Int) ≤ a then a - l.length else -1) := by
  unfold maxLen at hl
  unfold laws_szBoolS.f
  have e : wrap64 (a - (l.length : Int)) = a - l.length := by unfold wrap64; omega
  rw [e]
  by_cases h : (l.length : Int) ≤ a
  · rw [if_neg (by omega), if_pos h]
  · rw [if_pos (by omega), if_neg h]
theorem toBoolS_ev (l : List Bool) (hl : l.length ≤ 1048576) : Ev (fun k => laws_toBoolS.f k l) l := by
  have key := ev_copy0 (fun k acc i => laws_toBoolS.l0 k l acc (i : Int)) l.length (fun i => l.getD i false) id (by
    intro i acc hi ha r h
    refine Ev.step (fun k => ?_) h
    simp only [laws_toBoolS.l0]
    rw [if_pos (by omega), if_pos (by omega), if_pos (by omega), wrap_succ (by omega), toNat_cast]
    rfl) (by
    intro acc ha
    refine Ev.of_succ (fun k => ?_)
    simp only [laws_toBoolS.l0]
    rw [if_neg (by omega)]
    rfl) (List.replicate l.length false) (by simp)
  rw [range_map_getD] at key
  refine Ev.congr (fun k => ?_) key
  unfold laws_toBoolS.f
  rw [if_pos (by omega), if_pos (by omega), toNat_cast]
  rfl
theorem eqBoolS_refl (l : List Bool) (hl : l.length ≤ 1048576) : Ev (fun k => laws_eqBoolS.f k l l) true := by
  have key := ev_all0 (fun k i => laws_eqBoolS.l0 k l l (i : Int)) l.length (fun _ => true) false true (by
    intro i hi _ r h
    refine Ev.step (fun k => ?_) h
    simp only [laws_eqBoolS.l0]
    rw [if_pos (by omega), if_pos (by omega), if_pos (by omega), if_neg (by simp), wrap_succ (by omega)]) (by intro i _ h; cases h) (by
    refine Ev.of_succ (fun k => ?_)
    simp only [laws_eqBoolS.l0]
    rw [if_neg (by omega)])
  rw [if_pos (by simp)] at key
  refine Ev.congr (fun k => ?_) key
  unfold laws_eqBoolS.f
  rw [if_pos rfl]
  rfl
theorem map_getD {α β : Type} (f : α → β) (l : List α) (d : α) : (List.range l.length).map (fun i => f (l.getD i d)) = l.map f := by
  rw [show (fun i => f (l.getD i d)) = f ∘ (fun i => l.getD i d) from rfl, ← List.map_map, range_map_getD]
abbrev RunW := S124
abbrev RunL := S151
def toRun (r : RunL) : RunW := ⟨r.f0, r.f1⟩
theorem rdRL (l : List RunL) (i : Nat) : rd_T151 l (i : Int) = l.getD i z151 := by unfold rd_T151; rw [toNat_cast]
theorem rdRW (l : List RunW) (i : Nat) : rd_T124 l (i : Int) = l.getD i z124 := by unfold rd_T124; rw [toNat_cast]
theorem szRunS_eq (l : List RunL) (hl : l.length ≤ maxLen) : laws_szRunS.f l 1048576 = some (if (l.length : Int) ≤ 1048576 then (1048576 - (l.length : Int) : Int) else (-1 : Int)) := by
  unfold maxLen at hl
  unfold laws_szRunS.f
  have e : wrap64 (1048576 - (l.length : Int)) = 1048576 - l.length := by unfold wrap64; omega
  rw [e]
  by_cases h : (l.length : Int) ≤ 1048576
  · rw [if_neg (by omega), if_pos h]
  · rw [if_pos (by omega), if_neg h]
theorem toRunS_ev (l : List RunL) (hl : l.length ≤ 1048576) : Ev (fun k => laws_toRunS.f k l) (l.map toRun) := by
  have key := ev_copy0 (fun k acc i => laws_toRunS.l0 k l acc (i : Int)) l.length (fun i => toRun (l.getD i z151)) id (by
    intro i acc hi ha r h
    refine Ev.step (fun k => ?_) h
    simp only [laws_toRunS.l0]
    rw [if_pos (by omega), if_pos (by omega), rdRL]
    unfold laws_toRun.f
    simp only [Option.bind_some]
    rw [if_pos (by omega), wrap_succ (by omega), toNat_cast]
    rfl) (by
    intro acc ha
    refine Ev.of_succ (fun k => ?_)
    simp only [laws_toRunS.l0]
    rw [if_neg (by omega)]
    rfl) (List.replicate l.length z124) (by simp)
  rw [map_getD toRun l z151] at key
  refine Ev.congr (fun k => ?_) key
  unfold laws_toRunS.f
  rw [if_pos (by omega), if_pos (by omega), toNat_cast]
  rfl
theorem eqRunS_refl (l : List RunW) (hl : l.length ≤ 1048576) : Ev (fun k => laws_eqRunS.f k l l) true := by
  have key := ev_all0 (fun k i => laws_eqRunS.l0 k l l (i : Int)) l.length (fun _ => true) false true (by
    intro i hi _ r h
    refine Ev.step (fun k => ?_) h
    simp only [laws_eqRunS.l0]
    rw [if_pos (by omega), if_pos (by omega), if_pos (by omega)]
    unfold laws_eqRun.f
    simp only [if_true, Option.bind_some]
    rw [wrap_succ (by omega)]) (by intro i _ h; cases h) (by
    refine Ev.of_succ (fun k => ?_)
    simp only [laws_eqRunS.l0]
    rw [if_neg (by omega)])
  rw [if_pos (by simp)] at key
  refine Ev.congr (fun k => ?_) key
  unfold laws_eqRunS.f
  rw [if_pos rfl]
  rfl
abbrev SlabW := S131
abbrev zbw : SlabW := z131
theorem rdBW (l : List SlabW) (i : Nat) : rd_T131 l (i : Int) = l.getD i zbw := by unfold rd_T131; rw [toNat_cast]
theorem mem_getD_b {α : Type} {l : List α} {i : Nat} (h : i < l.length) (d : α) : l.getD i d ∈ l := by
  rw [List.getD_eq_getElem?_getD, List.getElem?_eq_getElem h]; exact List.getElem_mem h
def SmallSw (l : List SlabW) : Prop := l.length ≤ 1048576 ∧ ∀ x ∈ l, x.f2.length ≤ 1048576
theorem SmallSw.at_ {l : List SlabW} (h : SmallSw l) (i : Nat) : (l.getD i zbw).f2.length ≤ 1048576 := by
  by_cases hi : i < l.length
  · exact h.2 _ (mem_getD_b hi _)
  · rw [List.getD_eq_getElem?_getD, List.getElem?_eq_none (by omega)]; decide
abbrev SlabL := S142
abbrev zbl : SlabL := z142
def toSlab (r : SlabL) : SlabW := ⟨r.f0, r.f1, r.f2⟩
theorem rdBL (l : List SlabL) (i : Nat) : rd_T142 l (i : Int) = l.getD i zbl := by unfold rd_T142; rw [toNat_cast]
theorem szSlab_eq (s : SlabL) (hl : s.f2.length ≤ maxLen) (a : Int) (h0 : 0 ≤ a) (h1 : a ≤ 1048576) : laws_szSlab.f s.f0 s.f1 s.f2 a = some (if (s.f2.length : Int) ≤ a then (a - (s.f2.length : Int) : Int) else (-1 : Int)) := by
  unfold laws_szSlab.f
  rw [szBoolS_eq _ hl a h0 h1]
  simp only [Option.bind_some]
  by_cases h : (s.f2.length : Int) ≤ a
  · rw [if_pos h, if_neg (by omega)]
  · rw [if_neg h, if_pos (by omega)]
def SmallSl (l : List SlabL) : Prop := l.length ≤ 1048576 ∧ ∀ x ∈ l, x.f2.length ≤ 1048576
theorem szSlabS_ev (l : List SlabL) (hl : l.length ≤ maxLen) (hls : ∀ x ∈ l, x.f2.length ≤ maxLen) :
    ∃ r, Ev (fun k => laws_szSlabS.f k l 1048576) r ∧ (0 ≤ r → SmallSl l ∧ (l.length : Int) + ((l.map (fun s => s.f2.length)).sum : Nat) ≤ 1048576) := by
  by_cases hlen : (l.length : Int) ≤ 1048576
  · obtain ⟨r, hr, hq⟩ := ev_sz (fun k b i => laws_szSlabS.l0 k l b (i : Int)) l.length (fun i => (l.getD i zbl).f2.length) (by
      intro i b hi h0 h1 hs r h
      refine Ev.step (fun k => ?_) h
      simp only [laws_szSlabS.l0]
      rw [if_pos (by omega), if_pos (by omega), rdBL, szSlab_eq _ (hls _ (mem_getD_b hi _)) b h0 h1, if_pos hs]
      simp only [Option.bind_some]
      rw [if_neg (by omega), wrap_succ (by simp only [maxLen] at hl; omega)]) (by
      intro i b hi h0 h1 hs
      refine Ev.of_succ (fun k => ?_)
      simp only [laws_szSlabS.l0]
      rw [if_pos (by omega), if_pos (by omega), rdBL, szSlab_eq _ (hls _ (mem_getD_b hi _)) b h0 h1, if_neg hs]
      simp only [Option.bind_some]
      rw [if_pos (by omega)]) (by
      intro b
      refine Ev.of_succ (fun k => ?_)
      simp only [laws_szSlabS.l0]
      rw [if_neg (by omega)]) (1048576 - (l.length : Int)) (by omega) (by omega)
    refine ⟨r, Ev.congr (fun k => ?_) hr, fun h => ?_⟩
    · unfold laws_szSlabS.f
      rw [sub_len (by omega) (by omega) hl, if_neg (by omega)]
      rfl
    · have := hq h
      refine ⟨⟨by omega, fun x hx => ?_⟩, ?_⟩
      · obtain ⟨i, hi, rfl⟩ := List.getElem_of_mem hx
        have h5 := sum_ge (fun i => (l.getD i zbl).f2.length) hi
        simp only [List.getD_eq_getElem?_getD, List.getElem?_eq_getElem hi, Option.getD_some] at h5
        simp only [List.getD_eq_getElem?_getD] at this
        omega
      · rw [map_getD (fun s : SlabL => s.f2.length) l zbl] at this
        omega
  · refine ⟨-1, Ev.const (fun k => ?_), fun h => by omega⟩
    unfold laws_szSlabS.f
    rw [sub_len (by omega) (by omega) hl, if_pos (by omega)]
theorem SmallSl.at_ {l : List SlabL} (h : SmallSl l) (i : Nat) : (l.getD i zbl).f2.length ≤ 1048576 := by
  by_cases hi : i < l.length
  · exact h.2 _ (mem_getD_b hi _)
  · rw [List.getD_eq_getElem?_getD, List.getElem?_eq_none (by omega)]; decide
theorem toSlabS_ev (l : List SlabL) (hl : SmallSl l) : Ev (fun k => laws_toSlabS.f k l) (l.map toSlab) := by
  have h1 := hl.1
  have key := ev_copy0 (fun k acc i => laws_toSlabS.l0 k l acc (i : Int)) l.length (fun i => toSlab (l.getD i zbl)) id (by
    intro i acc hi ha r h
    refine Ev.step (f := fun k => (laws_toBoolS.f k (l.getD i zbl).f2).bind fun t => laws_toSlabS.l0 k l (acc.set i (⟨(l.getD i zbl).f0, (l.getD i zbl).f1, t⟩ : SlabW)) ((i + 1 : Nat) : Int)) (fun k => ?_) (Ev.bind (toBoolS_ev _ (hl.at_ i)) h)
    simp only [laws_toSlabS.l0]
    rw [if_pos (by omega), if_pos (by omega), rdBL]
    unfold laws_toSlab.f
    rw [Option.bind_assoc]
    congr 1
    funext t
    simp only [Option.bind_some]
    rw [if_pos (by omega), wrap_succ (by omega), toNat_cast]) (by
    intro acc ha
    refine Ev.of_succ (fun k => ?_)
    simp only [laws_toSlabS.l0]
    rw [if_neg (by omega)]
    rfl) (List.replicate l.length zbw) (by simp)
  rw [map_getD toSlab l zbl] at key
  refine Ev.congr (fun k => ?_) key
  unfold laws_toSlabS.f
  rw [if_pos (by omega), if_pos (by omega), toNat_cast]
  rfl
theorem SmallSl.toW {l : List SlabL} (h : SmallSl l) : SmallSw (l.map toSlab) := by
  refine ⟨by simpa using h.1, fun x hx => ?_⟩
  obtain ⟨y, hy, rfl⟩ := List.mem_map.1 hx
  exact h.2 y hy
theorem eqSlabS_refl (l : List SlabW) (hl : SmallSw l) : Ev (fun k => laws_eqSlabS.f k l l) true := by
  have h1 := hl.1
  have key := ev_all0 (fun k i => laws_eqSlabS.l0 k l l (i : Int)) l.length (fun _ => true) false true (by
    intro i hi _ r h
    refine Ev.step (f := fun k => (laws_eqBoolS.f k (l.getD i zbw).f2 (l.getD i zbw).f2).bind fun t => (if t = true then (some true) else (some false)).bind fun t => if t = true then laws_eqSlabS.l0 k l l ((i + 1 : Nat) : Int) else some false) (fun k => ?_) (Ev.bind (eqBoolS_refl _ (hl.at_ i)) (by simp only [if_true, Option.bind_some]; exact h))
    simp only [laws_eqSlabS.l0]
    rw [if_pos (by omega), if_pos (by omega), if_pos (by omega), rdBW]
    unfold laws_eqSlab.f
    rw [if_pos rfl, if_pos rfl, Option.bind_assoc, wrap_succ (by omega)]) (by intro i _ h; cases h) (by
    refine Ev.of_succ (fun k => ?_)
    simp only [laws_eqSlabS.l0]
    rw [if_neg (by omega)])
  rw [if_pos (by simp)] at key
  refine Ev.congr (fun k => ?_) key
  unfold laws_eqSlabS.f
  rw [if_pos rfl]
  rfl
abbrev ObjW := S134
abbrev ObjL := S154
def toObj (r : ObjL) : ObjW := ⟨r.f0, r.f1, r.f2, r.f3, r.f4⟩
theorem rdOL (l : List ObjL) (i : Nat) : rd_T154 l (i : Int) = l.getD i z154 := by unfold rd_T154; rw [toNat_cast]
theorem rdOW (l : List ObjW) (i : Nat) : rd_T134 l (i : Int) = l.getD i z134 := by unfold rd_T134; rw [toNat_cast]
theorem toObjectS_ev (l : List ObjL) (hl : l.length ≤ 1048576) : Ev (fun k => laws_toObjectS.f k l) (l.map toObj) := by
  have key := ev_copy0 (fun k acc i => laws_toObjectS.l0 k l acc (i : Int)) l.length (fun i => toObj (l.getD i z154)) id (by
    intro i acc hi ha r h
    refine Ev.step (fun k => ?_) h
    simp only [laws_toObjectS.l0]
    rw [if_pos (by omega), if_pos (by omega), rdOL]
    unfold laws_toObject.f
    simp only [Option.bind_some]
    rw [if_pos (by omega), wrap_succ (by omega), toNat_cast]
    rfl) (by
    intro acc ha
    refine Ev.of_succ (fun k => ?_)
    simp only [laws_toObjectS.l0]
    rw [if_neg (by omega)]
    rfl) (List.replicate l.length z134) (by simp)
  rw [map_getD toObj l z154] at key
  refine Ev.congr (fun k => ?_) key
  unfold laws_toObjectS.f
  rw [if_pos (by omega), if_pos (by omega), toNat_cast]
  rfl
theorem eqObjectS_refl (l : List ObjW) (hl : l.length ≤ 1048576) : Ev (fun k => laws_eqObjectS.f k l l) true := by
  have key := ev_all0 (fun k i => laws_eqObjectS.l0 k l l (i : Int)) l.length (fun _ => true) false true (by
    intro i hi _ r h
    refine Ev.step (fun k => ?_) h
    simp only [laws_eqObjectS.l0]
    rw [if_pos (by omega), if_pos (by omega), if_pos (by omega)]
    unfold laws_eqObject.f
    simp only [if_true, Option.bind_some]
    rw [wrap_succ (by omega)]) (by intro i _ h; cases h) (by
    refine Ev.of_succ (fun k => ?_)
    simp only [laws_eqObjectS.l0]
    rw [if_neg (by omega)])
  rw [if_pos (by simp)] at key
  refine Ev.congr (fun k => ?_) key
  unfold laws_eqObjectS.f
  rw [if_pos rfl]
  rfl
abbrev RegW := S181
abbrev RegL := S209
def toReg_ (r : RegL) : RegW := ⟨r.f0, r.f1, r.f2⟩
theorem rdGL (l : List RegL) (i : Nat) : rd_T209 l (i : Int) = l.getD i z209 := by unfold rd_T209; rw [toNat_cast]
theorem rdGW (l : List RegW) (i : Nat) : rd_T181 l (i : Int) = l.getD i z181 := by unfold rd_T181; rw [toNat_cast]
theorem szRegionS_eq (l : List RegL) (hl : l.length ≤ maxLen) : laws_szRegionS.f l 1048576 = some (if (l.length : Int) ≤ 1048576 then (1048576 - (l.length : Int) : Int) else (-1 : Int)) := by
  unfold maxLen at hl
  unfold laws_szRegionS.f
  have e : wrap64 (1048576 - (l.length : Int)) = 1048576 - l.length := by unfold wrap64; omega
  rw [e]
  by_cases h : (l.length : Int) ≤ 1048576
  · rw [if_neg (by omega), if_pos h]
  · rw [if_pos (by omega), if_neg h]
theorem toRegionS_ev (l : List RegL) (hl : l.length ≤ 1048576) : Ev (fun k => laws_toRegionS.f k l) (l.map toReg_) := by
  have key := ev_copy0 (fun k acc i => laws_toRegionS.l0 k l acc (i : Int)) l.length (fun i => toReg_ (l.getD i z209)) id (by
    intro i acc hi ha r h
    refine Ev.step (fun k => ?_) h
    simp only [laws_toRegionS.l0]
    rw [if_pos (by omega), if_pos (by omega), rdGL]
    unfold laws_toRegion.f
    simp only [Option.bind_some]
    rw [if_pos (by omega), wrap_succ (by omega), toNat_cast]
    rfl) (by
    intro acc ha
    refine Ev.of_succ (fun k => ?_)
    simp only [laws_toRegionS.l0]
    rw [if_neg (by omega)]
    rfl) (List.replicate l.length z181) (by simp)
  rw [map_getD toReg_ l z209] at key
  refine Ev.congr (fun k => ?_) key
  unfold laws_toRegionS.f
  rw [if_pos (by omega), if_pos (by omega), toNat_cast]
  rfl
theorem eqRegionS_refl (l : List RegW) (hl : l.length ≤ 1048576) : Ev (fun k => laws_eqRegionS.f k l l) true := by
  have key := ev_all0 (fun k i => laws_eqRegionS.l0 k l l (i : Int)) l.length (fun _ => true) false true (by
    intro i hi _ r h
    refine Ev.step (fun k => ?_) h
    simp only [laws_eqRegionS.l0]
    rw [if_pos (by omega), if_pos (by omega), if_pos (by omega)]
    unfold laws_eqRegion.f
    simp only [if_true, Option.bind_some, bne_self_eq_false, Bool.false_eq_true, if_false]
    rw [wrap_succ (by omega)]) (by intro i _ h; cases h) (by
    refine Ev.of_succ (fun k => ?_)
    simp only [laws_eqRegionS.l0]
    rw [if_neg (by omega)])
  rw [if_pos (by simp)] at key
  refine Ev.congr (fun k => ?_) key
  unfold laws_eqRegionS.f
  rw [if_pos rfl]
  rfl
abbrev SlotW := S138
abbrev SlotL := S148
abbrev zsl : SlotL := z148
abbrev zsw : SlotW := z138
def toSlot (r : SlotL) : SlotW := ⟨r.f0, r.f1⟩
theorem rdSL (l : List SlotL) (i : Nat) : rd_T148 l (i : Int) = l.getD i zsl := by unfold rd_T148; rw [toNat_cast]
theorem rdSW (l : List SlotW) (i : Nat) : rd_T138 l (i : Int) = l.getD i zsw := by unfold rd_T138; rw [toNat_cast]
theorem szSlot_eq (s : SlotL) (hl : s.f1.length ≤ maxLen) (a : Int) (h0 : 0 ≤ a) (h1 : a ≤ 1048576) : laws_szSlot.f s.f0 s.f1 a = some (if (s.f1.length : Int) ≤ a then (a - (s.f1.length : Int) : Int) else (-1 : Int)) := by
  unfold laws_szSlot.f
  rw [szIntS_eq _ hl a h0 h1]
  simp only [Option.bind_some]
  by_cases h : (s.f1.length : Int) ≤ a
  · rw [if_pos h, if_neg (by omega)]
  · rw [if_neg h, if_pos (by omega)]
theorem mem_getD {α : Type} {l : List α} {i : Nat} (h : i < l.length) (d : α) : l.getD i d ∈ l := by
  rw [List.getD_eq_getElem?_getD, List.getElem?_eq_getElem h]; exact List.getElem_mem h
def SmallS (l : List SlotL) : Prop := l.length ≤ 1048576 ∧ ∀ x ∈ l, x.f1.length ≤ 1048576
theorem szSlotS_ev (l : List SlotL) (hl : l.length ≤ maxLen) (hls : ∀ x ∈ l, x.f1.length ≤ maxLen) :
    ∃ r, Ev (fun k => laws_szSlotS.f k l 1048576) r ∧ (0 ≤ r → SmallS l ∧ (l.length : Int) + ((l.map (fun s => s.f1.length)).sum : Nat) ≤ 1048576) := by
  by_cases hlen : (l.length : Int) ≤ 1048576
  · obtain ⟨r, hr, hq⟩ := ev_sz (fun k b i => laws_szSlotS.l0 k l b (i : Int)) l.length (fun i => (l.getD i zsl).f1.length) (by
      intro i b hi h0 h1 hs r h
      refine Ev.step (fun k => ?_) h
      simp only [laws_szSlotS.l0]
      rw [if_pos (by omega), if_pos (by omega), rdSL, szSlot_eq _ (hls _ (mem_getD hi _)) b h0 h1, if_pos hs]
      simp only [Option.bind_some]
      rw [if_neg (by omega), wrap_succ (by simp only [maxLen] at hl; omega)]) (by
      intro i b hi h0 h1 hs
      refine Ev.of_succ (fun k => ?_)
      simp only [laws_szSlotS.l0]
      rw [if_pos (by omega), if_pos (by omega), rdSL, szSlot_eq _ (hls _ (mem_getD hi _)) b h0 h1, if_neg hs]
      simp only [Option.bind_some]
      rw [if_pos (by omega)]) (by
      intro b
      refine Ev.of_succ (fun k => ?_)
      simp only [laws_szSlotS.l0]
      rw [if_neg (by omega)]) (1048576 - (l.length : Int)) (by omega) (by omega)
    refine ⟨r, Ev.congr (fun k => ?_) hr, fun h => ?_⟩
    · unfold laws_szSlotS.f
      rw [sub_len (by omega) (by omega) hl, if_neg (by omega)]
      rfl
    · have := hq h
      refine ⟨⟨by omega, fun x hx => ?_⟩, ?_⟩
      · obtain ⟨i, hi, rfl⟩ := List.getElem_of_mem hx
        have h5 := sum_ge (fun i => (l.getD i zsl).f1.length) hi
        simp only [List.getD_eq_getElem?_getD, List.getElem?_eq_getElem hi, Option.getD_some] at h5
        simp only [List.getD_eq_getElem?_getD] at this
        omega
      · rw [map_getD (fun s : SlotL => s.f1.length) l zsl] at this
        omega
  · refine ⟨-1, Ev.const (fun k => ?_), fun h => by omega⟩
    unfold laws_szSlotS.f
    rw [sub_len (by omega) (by omega) hl, if_pos (by omega)]
theorem SmallS.at_ {l : List SlotL} (h : SmallS l) (i : Nat) : (l.getD i zsl).f1.length ≤ 1048576 := by
  by_cases hi : i < l.length
  · exact h.2 _ (mem_getD hi _)
  · rw [List.getD_eq_getElem?_getD, List.getElem?_eq_none (by omega)]; decide
theorem toSlotS_ev (l : List SlotL) (hl : SmallS l) : Ev (fun k => laws_toSlotS.f k l) (l.map toSlot) := by
  have h1 := hl.1
  have key := ev_copy0 (fun k acc i => laws_toSlotS.l0 k l acc (i : Int)) l.length (fun i => toSlot (l.getD i zsl)) id (by
    intro i acc hi ha r h
    refine Ev.step (f := fun k => (laws_toIntS.f k (l.getD i zsl).f1).bind fun t => laws_toSlotS.l0 k l (acc.set i (⟨(l.getD i zsl).f0, t⟩ : SlotW)) ((i + 1 : Nat) : Int)) (fun k => ?_) (Ev.bind (toIntS_ev _ (hl.at_ i)) h)
    simp only [laws_toSlotS.l0]
    rw [if_pos (by omega), if_pos (by omega), rdSL]
    unfold laws_toSlot.f
    rw [Option.bind_assoc]
    congr 1
    funext t
    simp only [Option.bind_some]
    rw [if_pos (by omega), wrap_succ (by omega), toNat_cast]) (by
    intro acc ha
    refine Ev.of_succ (fun k => ?_)
    simp only [laws_toSlotS.l0]
    rw [if_neg (by omega)]
    rfl) (List.replicate l.length zsw) (by simp)
  rw [map_getD toSlot l zsl] at key
  refine Ev.congr (fun k => ?_) key
  unfold laws_toSlotS.f
  rw [if_pos (by omega), if_pos (by omega), toNat_cast]
  rfl
def SmallW (l : List SlotW) : Prop := l.length ≤ 1048576 ∧ ∀ x ∈ l, x.f1.length ≤ 1048576
theorem SmallS.toW {l : List SlotL} (h : SmallS l) : SmallW (l.map toSlot) := by
  refine ⟨by simpa using h.1, fun x hx => ?_⟩
  obtain ⟨y, hy, rfl⟩ := List.mem_map.1 hx
  exact h.2 y hy
theorem SmallW.at_ {l : List SlotW} (h : SmallW l) (i : Nat) : (l.getD i zsw).f1.length ≤ 1048576 := by
  by_cases hi : i < l.length
  · exact h.2 _ (mem_getD hi _)
  · rw [List.getD_eq_getElem?_getD, List.getElem?_eq_none (by omega)]; decide
theorem eqSlotS_refl (l : List SlotW) (hl : SmallW l) : Ev (fun k => laws_eqSlotS.f k l l) true := by
  have h1 := hl.1
  have key := ev_all0 (fun k i => laws_eqSlotS.l0 k l l (i : Int)) l.length (fun _ => true) false true (by
    intro i hi _ r h
    refine Ev.step (f := fun k => (laws_eqIntS.f k (l.getD i zsw).f1 (l.getD i zsw).f1).bind fun t => (if t = true then (some true) else (some false)).bind fun t => if t = true then laws_eqSlotS.l0 k l l ((i + 1 : Nat) : Int) else some false) (fun k => ?_) (Ev.bind (eqIntS_refl _ (hl.at_ i)) (by simp only [if_true, Option.bind_some]; exact h))
    simp only [laws_eqSlotS.l0]
    rw [if_pos (by omega), if_pos (by omega), if_pos (by omega), rdSW]
    unfold laws_eqSlot.f
    rw [if_pos rfl, Option.bind_assoc, wrap_succ (by omega)]) (by intro i _ h; cases h) (by
    refine Ev.of_succ (fun k => ?_)
    simp only [laws_eqSlotS.l0]
    rw [if_neg (by omega)])
  rw [if_pos (by simp)] at key
  refine Ev.congr (fun k => ?_) key
  unfold laws_eqSlotS.f
  rw [if_pos rfl]
  rfl
abbrev SpcW := S79
abbrev SpcL := S146
abbrev zpl : SpcL := z146
abbrev zpw : SpcW := z79
def toSpc (r : SpcL) : SpcW := ⟨r.f0, r.f1, r.f2.map toReg_⟩
theorem rdPL (l : List SpcL) (i : Nat) : rd_T146 l (i : Int) = l.getD i zpl := by unfold rd_T146; rw [toNat_cast]
theorem rdPW (l : List SpcW) (i : Nat) : rd_T79 l (i : Int) = l.getD i zpw := by unfold rd_T79; rw [toNat_cast]
def SmallP (l : List SpcL) : Prop := l.length ≤ 1048576 ∧ ∀ x ∈ l, x.f2.length ≤ 1048576
theorem SmallP.at_ {l : List SpcL} (h : SmallP l) (i : Nat) : (l.getD i zpl).f2.length ≤ 1048576 := by
  by_cases hi : i < l.length
  · exact h.2 _ (mem_getD hi _)
  · rw [List.getD_eq_getElem?_getD, List.getElem?_eq_none (by omega)]; decide
theorem toSpaceS_ev (l : List SpcL) (hl : SmallP l) : Ev (fun k => laws_toSpaceS.f k l) (l.map toSpc) := by
  have h1 := hl.1
  have key := ev_copy0 (fun k acc i => laws_toSpaceS.l0 k l acc (i : Int)) l.length (fun i => toSpc (l.getD i zpl)) id (by
    intro i acc hi ha r h
    refine Ev.step (f := fun k => (laws_toRegionS.f k (l.getD i zpl).f2).bind fun t => laws_toSpaceS.l0 k l (acc.set i (⟨(l.getD i zpl).f0, (l.getD i zpl).f1, t⟩ : SpcW)) ((i + 1 : Nat) : Int)) (fun k => ?_) (Ev.bind (toRegionS_ev _ (hl.at_ i)) h)
    simp only [laws_toSpaceS.l0]
    rw [if_pos (by omega), if_pos (by omega), rdPL]
    unfold laws_toSpace.f
    rw [Option.bind_assoc]
    congr 1
    funext t
    simp only [Option.bind_some]
    rw [if_pos (by omega), wrap_succ (by omega), toNat_cast]) (by
    intro acc ha
    refine Ev.of_succ (fun k => ?_)
    simp only [laws_toSpaceS.l0]
    rw [if_neg (by omega)]
    rfl) (List.replicate l.length zpw) (by simp)
  rw [map_getD toSpc l zpl] at key
  refine Ev.congr (fun k => ?_) key
  unfold laws_toSpaceS.f
  rw [if_pos (by omega), if_pos (by omega), toNat_cast]
  rfl
def SmallPw (l : List SpcW) : Prop := l.length ≤ 1048576 ∧ ∀ x ∈ l, x.f2.length ≤ 1048576
theorem SmallP.toW {l : List SpcL} (h : SmallP l) : SmallPw (l.map toSpc) := by
  refine ⟨by simpa using h.1, fun x hx => ?_⟩
  obtain ⟨y, hy, rfl⟩ := List.mem_map.1 hx
  show (y.f2.map toReg_).length ≤ _
  rw [List.length_map]
  exact h.2 y hy
theorem SmallPw.at_ {l : List SpcW} (h : SmallPw l) (i : Nat) : (l.getD i zpw).f2.length ≤ 1048576 := by
  by_cases hi : i < l.length
  · exact h.2 _ (mem_getD hi _)
  · rw [List.getD_eq_getElem?_getD, List.getElem?_eq_none (by omega)]; decide
theorem eqSpaceS_refl (l : List SpcW) (hl : SmallPw l) : Ev (fun k => laws_eqSpaceS.f k l l) true := by
  have h1 := hl.1
  have key := ev_all0 (fun k i => laws_eqSpaceS.l0 k l l (i : Int)) l.length (fun _ => true) false true (by
    intro i hi _ r h
    refine Ev.step (f := fun k => (laws_eqRegionS.f k (l.getD i zpw).f2 (l.getD i zpw).f2).bind fun t => (if t = true then (some true) else (some false)).bind fun t => if t = true then laws_eqSpaceS.l0 k l l ((i + 1 : Nat) : Int) else some false) (fun k => ?_) (Ev.bind (eqRegionS_refl _ (hl.at_ i)) (by simp only [if_true, Option.bind_some]; exact h))
    simp only [laws_eqSpaceS.l0]
    rw [if_pos (by omega), if_pos (by omega), if_pos (by omega), rdPW]
    unfold laws_eqSpace.f
    rw [if_neg (by simp), if_pos rfl, Option.bind_assoc, wrap_succ (by omega)]) (by intro i _ h; cases h) (by
    refine Ev.of_succ (fun k => ?_)
    simp only [laws_eqSpaceS.l0]
    rw [if_neg (by omega)])
  rw [if_pos (by simp)] at key
  refine Ev.congr (fun k => ?_) key
  unfold laws_eqSpaceS.f
  rw [if_pos rfl]
  rfl
theorem szIntS_a (l : List Int) (hl : l.length ≤ maxLen) (a : Int) (h0 : 0 ≤ a) (h1 : a ≤ 1048576) : laws_szIntS.f l a = some (if (l.length : Int) ≤ a then (a - (l.length : Int) : Int) else (-1 : Int)) := by
  unfold maxLen at hl
  unfold laws_szIntS.f
  have e : wrap64 (a - (l.length : Int)) = a - l.length := by unfold wrap64; omega
  rw [e]
  by_cases h : (l.length : Int) ≤ a
  · rw [if_neg (by omega), if_pos h]
  · rw [if_pos (by omega), if_neg h]
theorem szIntS_out (l : List Int) (hl : l.length ≤ maxLen) (a : Int) (h0 : 0 ≤ a) (h1 : a ≤ 1048576) : ∃ r, laws_szIntS.f l a = some r ∧ (0 ≤ r → l.length ≤ 1048576 ∧ r ≤ a) := by
  refine ⟨_, szIntS_a l hl a h0 h1, fun h => ?_⟩
  by_cases h2 : (l.length : Int) ≤ a
  · rw [if_pos h2] at h ⊢; omega
  · rw [if_neg h2] at h; omega
theorem szBoolS_a (l : List Bool) (hl : l.length ≤ maxLen) (a : Int) (h0 : 0 ≤ a) (h1 : a ≤ 1048576) : laws_szBoolS.f l a = some (if (l.length : Int) ≤ a then (a - (l.length : Int) : Int) else (-1 : Int)) := by
  unfold maxLen at hl
  unfold laws_szBoolS.f
  have e : wrap64 (a - (l.length : Int)) = a - l.length := by unfold wrap64; omega
  rw [e]
  by_cases h : (l.length : Int) ≤ a
  · rw [if_neg (by omega), if_pos h]
  · rw [if_pos (by omega), if_neg h]
theorem szBoolS_out (l : List Bool) (hl : l.length ≤ maxLen) (a : Int) (h0 : 0 ≤ a) (h1 : a ≤ 1048576) : ∃ r, laws_szBoolS.f l a = some r ∧ (0 ≤ r → l.length ≤ 1048576 ∧ r ≤ a) := by
  refine ⟨_, szBoolS_a l hl a h0 h1, fun h => ?_⟩
  by_cases h2 : (l.length : Int) ≤ a
  · rw [if_pos h2] at h ⊢; omega
  · rw [if_neg h2] at h; omega
theorem szRunS_a (l : List RunL) (hl : l.length ≤ maxLen) (a : Int) (h0 : 0 ≤ a) (h1 : a ≤ 1048576) : laws_szRunS.f l a = some (if (l.length : Int) ≤ a then (a - (l.length : Int) : Int) else (-1 : Int)) := by
  unfold maxLen at hl
  unfold laws_szRunS.f
  have e : wrap64 (a - (l.length : Int)) = a - l.length := by unfold wrap64; omega
  rw [e]
  by_cases h : (l.length : Int) ≤ a
  · rw [if_neg (by omega), if_pos h]
  · rw [if_pos (by omega), if_neg h]
theorem szRunS_out (l : List RunL) (hl : l.length ≤ maxLen) (a : Int) (h0 : 0 ≤ a) (h1 : a ≤ 1048576) : ∃ r, laws_szRunS.f l a = some r ∧ (0 ≤ r → l.length ≤ 1048576 ∧ r ≤ a) := by
  refine ⟨_, szRunS_a l hl a h0 h1, fun h => ?_⟩
  by_cases h2 : (l.length : Int) ≤ a
  · rw [if_pos h2] at h ⊢; omega
  · rw [if_neg h2] at h; omega
theorem szObjectS_a (l : List ObjL) (hl : l.length ≤ maxLen) (a : Int) (h0 : 0 ≤ a) (h1 : a ≤ 1048576) : laws_szObjectS.f l a = some (if (l.length : Int) ≤ a then (a - (l.length : Int) : Int) else (-1 : Int)) := by
  unfold maxLen at hl
  unfold laws_szObjectS.f
  have e : wrap64 (a - (l.length : Int)) = a - l.length := by unfold wrap64; omega
  rw [e]
  by_cases h : (l.length : Int) ≤ a
  · rw [if_neg (by omega), if_pos h]
  · rw [if_pos (by omega), if_neg h]
theorem szObjectS_out (l : List ObjL) (hl : l.length ≤ maxLen) (a : Int) (h0 : 0 ≤ a) (h1 : a ≤ 1048576) : ∃ r, laws_szObjectS.f l a = some r ∧ (0 ≤ r → l.length ≤ 1048576 ∧ r ≤ a) := by
  refine ⟨_, szObjectS_a l hl a h0 h1, fun h => ?_⟩
  by_cases h2 : (l.length : Int) ≤ a
  · rw [if_pos h2] at h ⊢; omega
  · rw [if_neg h2] at h; omega
theorem szRegionS_a (l : List RegL) (hl : l.length ≤ maxLen) (a : Int) (h0 : 0 ≤ a) (h1 : a ≤ 1048576) : laws_szRegionS.f l a = some (if (l.length : Int) ≤ a then (a - (l.length : Int) : Int) else (-1 : Int)) := by
  unfold maxLen at hl
  unfold laws_szRegionS.f
  have e : wrap64 (a - (l.length : Int)) = a - l.length := by unfold wrap64; omega
  rw [e]
  by_cases h : (l.length : Int) ≤ a
  · rw [if_neg (by omega), if_pos h]
  · rw [if_pos (by omega), if_neg h]
theorem szRegionS_out (l : List RegL) (hl : l.length ≤ maxLen) (a : Int) (h0 : 0 ≤ a) (h1 : a ≤ 1048576) : ∃ r, laws_szRegionS.f l a = some r ∧ (0 ≤ r → l.length ≤ 1048576 ∧ r ≤ a) := by
  refine ⟨_, szRegionS_a l hl a h0 h1, fun h => ?_⟩
  by_cases h2 : (l.length : Int) ≤ a
  · rw [if_pos h2] at h ⊢; omega
  · rw [if_neg h2] at h; omega
theorem szSlab_a (s : SlabL) (hl : s.f2.length ≤ maxLen) (a : Int) (h0 : 0 ≤ a) (h1 : a ≤ 1048576) : laws_szSlab.f s.f0 s.f1 s.f2 a = some (if (s.f2.length : Int) ≤ a then (a - (s.f2.length : Int) : Int) else (-1 : Int)) := by
  unfold laws_szSlab.f
  rw [szBoolS_a _ hl a h0 h1]
  simp only [Option.bind_some]
  by_cases h : (s.f2.length : Int) ≤ a
  · rw [if_pos h, if_neg (by omega)]
  · rw [if_neg h, if_pos (by omega)]
theorem szSlabS_out (l : List SlabL) (hl : l.length ≤ maxLen) (hls : ∀ x ∈ l, x.f2.length ≤ maxLen) (a : Int) (ha0 : 0 ≤ a) (ha1 : a ≤ 1048576) :
    ∃ r, Ev (fun k => laws_szSlabS.f k l a) r ∧ (0 ≤ r → SmallSl l ∧ r ≤ a) := by
  by_cases hlen : (l.length : Int) ≤ a
  · obtain ⟨r, hr, hq⟩ := ev_sz (fun k b i => laws_szSlabS.l0 k l b (i : Int)) l.length (fun i => (l.getD i zbl).f2.length) (by
      intro i b hi h0 h1 hs r h
      refine Ev.step (fun k => ?_) h
      simp only [laws_szSlabS.l0]
      rw [if_pos (by omega), if_pos (by omega), rdBL, szSlab_a _ (hls _ (mem_getD hi _)) b h0 h1, if_pos hs]
      simp only [Option.bind_some]
      rw [if_neg (by omega), wrap_succ (by simp only [maxLen] at hl; omega)]) (by
      intro i b hi h0 h1 hs
      refine Ev.of_succ (fun k => ?_)
      simp only [laws_szSlabS.l0]
      rw [if_pos (by omega), if_pos (by omega), rdBL, szSlab_a _ (hls _ (mem_getD hi _)) b h0 h1, if_neg hs]
      simp only [Option.bind_some]
      rw [if_pos (by omega)]) (by
      intro b
      refine Ev.of_succ (fun k => ?_)
      simp only [laws_szSlabS.l0]
      rw [if_neg (by omega)]) (a - (l.length : Int)) (by omega) (by omega)
    refine ⟨r, Ev.congr (fun k => ?_) hr, fun h => ?_⟩
    · unfold laws_szSlabS.f
      rw [sub_len (by omega) (by omega) hl, if_neg (by omega)]
      rfl
    · have := hq h
      refine ⟨⟨by omega, fun x hx => ?_⟩, by omega⟩
      obtain ⟨i, hi, rfl⟩ := List.getElem_of_mem hx
      have h5 := sum_ge (fun i => (l.getD i zbl).f2.length) hi
      simp only [List.getD_eq_getElem?_getD, List.getElem?_eq_getElem hi, Option.getD_some] at h5
      simp only [List.getD_eq_getElem?_getD] at this
      omega
  · refine ⟨-1, Ev.const (fun k => ?_), fun h => by omega⟩
    unfold laws_szSlabS.f
    rw [sub_len (by omega) (by omega) hl, if_pos (by omega)]
theorem szSlot_a (s : SlotL) (hl : s.f1.length ≤ maxLen) (a : Int) (h0 : 0 ≤ a) (h1 : a ≤ 1048576) : laws_szSlot.f s.f0 s.f1 a = some (if (s.f1.length : Int) ≤ a then (a - (s.f1.length : Int) : Int) else (-1 : Int)) := by
  unfold laws_szSlot.f
  rw [szIntS_a _ hl a h0 h1]
  simp only [Option.bind_some]
  by_cases h : (s.f1.length : Int) ≤ a
  · rw [if_pos h, if_neg (by omega)]
  · rw [if_neg h, if_pos (by omega)]
theorem szSlotS_out (l : List SlotL) (hl : l.length ≤ maxLen) (hls : ∀ x ∈ l, x.f1.length ≤ maxLen) (a : Int) (ha0 : 0 ≤ a) (ha1 : a ≤ 1048576) :
    ∃ r, Ev (fun k => laws_szSlotS.f k l a) r ∧ (0 ≤ r → SmallS l ∧ r ≤ a) := by
  by_cases hlen : (l.length : Int) ≤ a
  · obtain ⟨r, hr, hq⟩ := ev_sz (fun k b i => laws_szSlotS.l0 k l b (i : Int)) l.length (fun i => (l.getD i zsl).f1.length) (by
      intro i b hi h0 h1 hs r h
      refine Ev.step (fun k => ?_) h
      simp only [laws_szSlotS.l0]
      rw [if_pos (by omega), if_pos (by omega), rdSL, szSlot_a _ (hls _ (mem_getD hi _)) b h0 h1, if_pos hs]
      simp only [Option.bind_some]
      rw [if_neg (by omega), wrap_succ (by simp only [maxLen] at hl; omega)]) (by
      intro i b hi h0 h1 hs
      refine Ev.of_succ (fun k => ?_)
      simp only [laws_szSlotS.l0]
      rw [if_pos (by omega), if_pos (by omega), rdSL, szSlot_a _ (hls _ (mem_getD hi _)) b h0 h1, if_neg hs]
      simp only [Option.bind_some]
      rw [if_pos (by omega)]) (by
      intro b
      refine Ev.of_succ (fun k => ?_)
      simp only [laws_szSlotS.l0]
      rw [if_neg (by omega)]) (a - (l.length : Int)) (by omega) (by omega)
    refine ⟨r, Ev.congr (fun k => ?_) hr, fun h => ?_⟩
    · unfold laws_szSlotS.f
      rw [sub_len (by omega) (by omega) hl, if_neg (by omega)]
      rfl
    · have := hq h
      refine ⟨⟨by omega, fun x hx => ?_⟩, by omega⟩
      obtain ⟨i, hi, rfl⟩ := List.getElem_of_mem hx
      have h5 := sum_ge (fun i => (l.getD i zsl).f1.length) hi
      simp only [List.getD_eq_getElem?_getD, List.getElem?_eq_getElem hi, Option.getD_some] at h5
      simp only [List.getD_eq_getElem?_getD] at this
      omega
  · refine ⟨-1, Ev.const (fun k => ?_), fun h => by omega⟩
    unfold laws_szSlotS.f
    rw [sub_len (by omega) (by omega) hl, if_pos (by omega)]
theorem szSpace_a (s : SpcL) (hl : s.f2.length ≤ maxLen) (a : Int) (h0 : 0 ≤ a) (h1 : a ≤ 1048576) : laws_szSpace.f s.f0 s.f1 s.f2 a = some (if (s.f2.length : Int) ≤ a then (a - (s.f2.length : Int) : Int) else (-1 : Int)) := by
  unfold laws_szSpace.f
  rw [szRegionS_a _ hl a h0 h1]
  simp only [Option.bind_some]
  by_cases h : (s.f2.length : Int) ≤ a
  · rw [if_pos h, if_neg (by omega)]
  · rw [if_neg h, if_pos (by omega)]
theorem szSpaceS_out (l : List SpcL) (hl : l.length ≤ maxLen) (hls : ∀ x ∈ l, x.f2.length ≤ maxLen) (a : Int) (ha0 : 0 ≤ a) (ha1 : a ≤ 1048576) :
    ∃ r, Ev (fun k => laws_szSpaceS.f k l a) r ∧ (0 ≤ r → SmallP l ∧ r ≤ a) := by
  by_cases hlen : (l.length : Int) ≤ a
  · obtain ⟨r, hr, hq⟩ := ev_sz (fun k b i => laws_szSpaceS.l0 k l b (i : Int)) l.length (fun i => (l.getD i zpl).f2.length) (by
      intro i b hi h0 h1 hs r h
      refine Ev.step (fun k => ?_) h
      simp only [laws_szSpaceS.l0]
      rw [if_pos (by omega), if_pos (by omega), rdPL, szSpace_a _ (hls _ (mem_getD hi _)) b h0 h1, if_pos hs]
      simp only [Option.bind_some]
      rw [if_neg (by omega), wrap_succ (by simp only [maxLen] at hl; omega)]) (by
      intro i b hi h0 h1 hs
      refine Ev.of_succ (fun k => ?_)
      simp only [laws_szSpaceS.l0]
      rw [if_pos (by omega), if_pos (by omega), rdPL, szSpace_a _ (hls _ (mem_getD hi _)) b h0 h1, if_neg hs]
      simp only [Option.bind_some]
      rw [if_pos (by omega)]) (by
      intro b
      refine Ev.of_succ (fun k => ?_)
      simp only [laws_szSpaceS.l0]
      rw [if_neg (by omega)]) (a - (l.length : Int)) (by omega) (by omega)
    refine ⟨r, Ev.congr (fun k => ?_) hr, fun h => ?_⟩
    · unfold laws_szSpaceS.f
      rw [sub_len (by omega) (by omega) hl, if_neg (by omega)]
      rfl
    · have := hq h
      refine ⟨⟨by omega, fun x hx => ?_⟩, by omega⟩
      obtain ⟨i, hi, rfl⟩ := List.getElem_of_mem hx
      have h5 := sum_ge (fun i => (l.getD i zpl).f2.length) hi
      simp only [List.getD_eq_getElem?_getD, List.getElem?_eq_getElem hi, Option.getD_some] at h5
      simp only [List.getD_eq_getElem?_getD] at this
      omega
  · refine ⟨-1, Ev.const (fun k => ?_), fun h => by omega⟩
    unfold laws_szSpaceS.f
    rw [sub_len (by omega) (by omega) hl, if_pos (by omega)]
theorem szIntSS_out (l : List (List Int)) (hl : l.length ≤ maxLen) (hls : ∀ x ∈ l, x.length ≤ maxLen) (a : Int) (h0 : 0 ≤ a) (h1 : a ≤ 1048576) : ∃ r, Ev (fun k => laws_szIntSS.f k l a) r ∧ (0 ≤ r → Small l ∧ r ≤ a) := by
  obtain ⟨r, hr, hq⟩ := szIntSS_ev l hl hls a h0 h1
  exact ⟨r, hr, fun h => ⟨Small.of_sum (by have := hq h; omega), by have := hq h; omega⟩⟩
structure SmallM (l0 : List (List Int)) (l1 : List Int) (l2 : List RunL) (l3 : List SlabL) (l4 : List ObjL) (l6 : List SpcL) (l7 : List SlotL) (l8 l9 : List Int) : Prop where
  s0 : Small l0
  s1 : l1.length ≤ 1048576
  s2 : l2.length ≤ 1048576
  s3 : SmallSl l3
  s4 : l4.length ≤ 1048576
  s6 : SmallP l6
  s7 : SmallS l7
  s8 : l8.length ≤ 1048576
  s9 : l9.length ≤ 1048576
theorem szMachine_out (l0 : List (List Int)) (l1 : List Int) (l2 : List RunL) (l3 : List SlabL) (l4 : List ObjL) (n : Int) (l6 : List SpcL) (l7 : List SlotL) (l8 l9 : List Int)
    (h0 : l0.length ≤ maxLen ∧ ∀ x ∈ l0, x.length ≤ maxLen) (h1 : l1.length ≤ maxLen) (h2 : l2.length ≤ maxLen) (h3 : l3.length ≤ maxLen ∧ ∀ x ∈ l3, x.f2.length ≤ maxLen) (h4 : l4.length ≤ maxLen) (h6 : l6.length ≤ maxLen ∧ ∀ x ∈ l6, x.f2.length ≤ maxLen) (h7 : l7.length ≤ maxLen ∧ ∀ x ∈ l7, x.f1.length ≤ maxLen) (h8 : l8.length ≤ maxLen) (h9 : l9.length ≤ maxLen) :
    ∃ r, Ev (fun k => laws_szMachine.f k l0 l1 l2 l3 l4 n l6 l7 l8 l9 1048576) r ∧ (0 ≤ r → SmallM l0 l1 l2 l3 l4 l6 l7 l8 l9) := by
  unfold laws_szMachine.f
  obtain ⟨a0, e0, p0⟩ := szIntSS_out l0 h0.1 h0.2 1048576 (by omega) (by omega)
  by_cases q0 : a0 < 0
  · exact ⟨-1, Ev.bind e0 (by simp only [if_pos q0]; exact Ev.now _), fun h => by omega⟩
  have p0 := p0 (by omega)
  obtain ⟨a1, e1, p1⟩ := szIntS_out l1 h1 a0 (by omega) (by omega)
  by_cases q1 : a1 < 0
  · exact ⟨-1, Ev.bind e0 (by simp only [if_neg q0, e1, Option.bind_some, if_pos q1]; exact Ev.now _), fun h => by omega⟩
  have p1 := p1 (by omega)
  obtain ⟨a2, e2, p2⟩ := szRunS_out l2 h2 a1 (by omega) (by omega)
  by_cases q2 : a2 < 0
  · exact ⟨-1, Ev.bind e0 (by simp only [if_neg q0, e1, Option.bind_some, if_neg q1, e2, if_pos q2]; exact Ev.now _), fun h => by omega⟩
  have p2 := p2 (by omega)
  obtain ⟨a3, e3, p3⟩ := szSlabS_out l3 h3.1 h3.2 a2 (by omega) (by omega)
  by_cases q3 : a3 < 0
  · exact ⟨-1, Ev.bind e0 (by simp only [if_neg q0, e1, Option.bind_some, if_neg q1, e2, if_neg q2]; exact Ev.bind e3 (by simp only [if_pos q3]; exact Ev.now _)), fun h => by omega⟩
  have p3 := p3 (by omega)
  obtain ⟨a4, e4, p4⟩ := szObjectS_out l4 h4 a3 (by omega) (by omega)
  by_cases q4 : a4 < 0
  · exact ⟨-1, Ev.bind e0 (by simp only [if_neg q0, e1, Option.bind_some, if_neg q1, e2, if_neg q2]; exact Ev.bind e3 (by simp only [if_neg q3, e4, Option.bind_some, if_pos q4]; exact Ev.now _)), fun h => by omega⟩
  have p4 := p4 (by omega)
  obtain ⟨a6, e6, p6⟩ := szSpaceS_out l6 h6.1 h6.2 a4 (by omega) (by omega)
  by_cases q6 : a6 < 0
  · exact ⟨-1, Ev.bind e0 (by simp only [if_neg q0, e1, Option.bind_some, if_neg q1, e2, if_neg q2]; exact Ev.bind e3 (by simp only [if_neg q3, e4, Option.bind_some, if_neg q4]; exact Ev.bind e6 (by simp only [if_pos q6]; exact Ev.now _))), fun h => by omega⟩
  have p6 := p6 (by omega)
  obtain ⟨a7, e7, p7⟩ := szSlotS_out l7 h7.1 h7.2 a6 (by omega) (by omega)
  by_cases q7 : a7 < 0
  · exact ⟨-1, Ev.bind e0 (by simp only [if_neg q0, e1, Option.bind_some, if_neg q1, e2, if_neg q2]; exact Ev.bind e3 (by simp only [if_neg q3, e4, Option.bind_some, if_neg q4]; exact Ev.bind e6 (by simp only [if_neg q6]; exact Ev.bind e7 (by simp only [if_pos q7]; exact Ev.now _)))), fun h => by omega⟩
  have p7 := p7 (by omega)
  obtain ⟨a8, e8, p8⟩ := szIntS_out l8 h8 a7 (by omega) (by omega)
  by_cases q8 : a8 < 0
  · exact ⟨-1, Ev.bind e0 (by simp only [if_neg q0, e1, Option.bind_some, if_neg q1, e2, if_neg q2]; exact Ev.bind e3 (by simp only [if_neg q3, e4, Option.bind_some, if_neg q4]; exact Ev.bind e6 (by simp only [if_neg q6]; exact Ev.bind e7 (by simp only [if_neg q7, e8, Option.bind_some, if_pos q8]; exact Ev.now _)))), fun h => by omega⟩
  have p8 := p8 (by omega)
  obtain ⟨a9, e9, p9⟩ := szIntS_out l9 h9 a8 (by omega) (by omega)
  by_cases q9 : a9 < 0
  · exact ⟨-1, Ev.bind e0 (by simp only [if_neg q0, e1, Option.bind_some, if_neg q1, e2, if_neg q2]; exact Ev.bind e3 (by simp only [if_neg q3, e4, Option.bind_some, if_neg q4]; exact Ev.bind e6 (by simp only [if_neg q6]; exact Ev.bind e7 (by simp only [if_neg q7, e8, Option.bind_some, if_neg q8, e9, if_pos q9]; exact Ev.now _)))), fun h => by omega⟩
  have p9 := p9 (by omega)
  exact ⟨a9, Ev.bind e0 (by simp only [if_neg q0, e1, Option.bind_some, if_neg q1, e2, if_neg q2]; exact Ev.bind e3 (by simp only [if_neg q3, e4, Option.bind_some, if_neg q4]; exact Ev.bind e6 (by simp only [if_neg q6]; exact Ev.bind e7 (by simp only [if_neg q7, e8, Option.bind_some, if_neg q8, e9, if_neg q9]; exact Ev.now _)))), fun _ => ⟨p0.1, p1.1, p2.1, p3.1, p4.1, p6.1, p7.1, p8.1, p9.1⟩⟩
section machine
variable {l0 : List (List Int)} {l1 : List Int} {l2 : List RunL} {l3 : List SlabL} {l4 : List ObjL} {l6 : List SpcL} {l7 : List SlotL} {l8 l9 : List Int}
theorem toMachine_ev (h : SmallM l0 l1 l2 l3 l4 l6 l7 l8 l9) (n : Int) : Ev (fun k => laws_toMachine.f k l0 l1 l2 l3 l4 n l6 l7 l8 l9) (l0, l1, l2.map toRun, l3.map toSlab, l4.map toObj, n, l6.map toSpc, l7.map toSlot, l8, l9) := by
  unfold laws_toMachine.f
  refine Ev.bind (toIntSS_ev l0 h.s0) (Ev.bind (toIntS_ev l1 h.s1) (Ev.bind (toRunS_ev l2 h.s2) (Ev.bind (toSlabS_ev l3 h.s3) (Ev.bind (toObjectS_ev l4 h.s4) (Ev.bind (toSpaceS_ev l6 h.s6) (Ev.bind (toSlotS_ev l7 h.s7) (Ev.bind (toIntS_ev l8 h.s8) (Ev.bind (toIntS_ev l9 h.s9) (Ev.now _)))))))))
theorem eqMachine_ev (h : SmallM l0 l1 l2 l3 l4 l6 l7 l8 l9) (n : Int) : Ev (fun k => laws_eqMachine.f k l0 l1 (l2.map toRun) (l3.map toSlab) (l4.map toObj) n (l6.map toSpc) (l7.map toSlot) l8 l9 l0 l1 (l2.map toRun) (l3.map toSlab) (l4.map toObj) n (l6.map toSpc) (l7.map toSlot) l8 l9) true := by
  unfold laws_eqMachine.f
  refine Ev.bind (eqIntSS_refl l0 h.s0) ?_
  simp only [if_true]
  refine Ev.bind (eqIntS_refl l1 h.s1) ?_
  simp only [if_true]
  refine Ev.bind (eqRunS_refl _ (by rw [List.length_map]; exact h.s2)) ?_
  simp only [if_true]
  refine Ev.bind (eqSlabS_refl _ h.s3.toW) ?_
  simp only [if_true]
  refine Ev.bind (eqObjectS_refl _ (by rw [List.length_map]; exact h.s4)) ?_
  simp only [if_true]
  refine Ev.bind (eqSpaceS_refl _ h.s6.toW) ?_
  simp only [if_true]
  refine Ev.bind (eqSlotS_refl _ h.s7.toW) ?_
  simp only [if_true]
  refine Ev.bind (eqIntS_refl l8 h.s8) ?_
  simp only [if_true]
  refine Ev.bind (eqIntS_refl l9 h.s9) ?_
  simp only [if_true]
  exact Ev.now true
end machine
theorem in_eq (a b c : Int) : spec_l01In.f a b c = some (decide (b ≤ a ∧ a ≤ c)) := by
  unfold spec_l01In.f
  by_cases h : a ≥ b
  · rw [if_pos h]; congr 1; by_cases h2 : a ≤ c
    · rw [decide_eq_true h2, decide_eq_true ⟨h, h2⟩]
    · rw [decide_eq_false h2, decide_eq_false (fun x => h2 x.2)]
  · rw [if_neg h, decide_eq_false (fun x => h x.1)]
theorem within_eq' (a b c : Int) : impl_within.f a b c = some (decide (b ≤ a ∧ a ≤ c)) := in_eq a b c
def okB (f s : Int) (w r : Bool) : Bool := if f = -1 then !w && !r && decide (-1 ≤ s ∧ s ≤ 15) else decide (0 ≤ f ∧ f ≤ 31) && decide (s = -1)
theorem spec_ok (f s : Int) (w r : Bool) : spec_EntryOk.f f s w r = some (okB f s w r) := by
  unfold spec_EntryOk.f okB
  simp only [in_eq, Option.bind_some]
  by_cases hf : f = -1
  · rw [if_pos hf, if_pos hf]; cases w <;> cases r <;> simp
  · rw [if_neg hf, if_neg hf]
    by_cases h : 0 ≤ f ∧ f ≤ 31
    · rw [if_pos (by simpa using h)]; simp [h]; rfl
    · rw [if_neg (by simpa using h)]; simp [h]
theorem impl_ok (f s : Int) (w r : Bool) : impl_EntryOk.f f s w r = some (okB f s w r) := by
  unfold impl_EntryOk.f okB impl_noEntry.f
  simp only [within_eq', Option.bind_some]
  by_cases hf : f = -1
  · by_cases hs : s = -1
    · subst hf hs; cases w <;> cases r <;> simp
    · have hb : (f == -1 && (s == -1 && (w == false && (r == false)))) = false := by simp [hs]
      rw [if_neg (by rw [hb]; simp), if_neg hs, if_pos hf, if_pos hf]
      by_cases h : 0 ≤ s ∧ s ≤ 15
      · rw [if_pos (by simpa using h), decide_eq_true (show -1 ≤ s ∧ s ≤ 15 by omega)]; cases w <;> simp
      · rw [if_neg (by simpa using h), decide_eq_false (show ¬ (-1 ≤ s ∧ s ≤ 15) by omega)]; simp
  · have hb : (f == -1 && (s == -1 && (w == false && (r == false)))) = false := by simp [hf]
    rw [if_neg (by rw [hb]; simp), if_neg hf, if_neg hf]
    by_cases hs : s = -1
    · rw [if_pos hs]; simp [hs]
    · rw [if_neg hs]; simp [hs]
def entB (f s : Int) (w r : Bool) : Int := if s ≥ 0 then 2 + 4 * s else if f < 0 then 0 else 1 + 8 * f + (if w then 2 else 0) + (if r then 4 else 0)
theorem okB_bd {f s : Int} {w r : Bool} (h : okB f s w r = true) : (f = -1 ∧ w = false ∧ r = false ∧ -1 ≤ s ∧ s ≤ 15) ∨ (0 ≤ f ∧ f ≤ 31 ∧ s = -1) := by
  unfold okB at h
  by_cases hf : f = -1
  · rw [if_pos hf] at h; simp at h; exact .inl ⟨hf, h.1.1, h.1.2, h.2⟩
  · rw [if_neg hf] at h; simp at h; exact .inr ⟨h.1.1, h.1.2, h.2⟩
theorem impl_word (f s : Int) (w r : Bool) : impl_EntryWord.f f s w r = some (if okB f s w r = true then (entB f s w r, true) else (0, false)) := by
  unfold impl_EntryWord.f
  rw [impl_ok]
  simp only [Option.bind_some]
  by_cases h : okB f s w r = true
  · rw [if_pos h, if_pos h]
    have hb := okB_bd h
    unfold impl_entryWord.f entB
    by_cases hs : s ≥ 0
    · rw [if_pos hs, if_pos hs, wrap64_id (n := 4 * s) (by omega) (by omega), wrap64_id (by omega) (by omega)]; rfl
    · rw [if_neg hs, if_neg hs]
      by_cases hf : f < 0
      · rw [if_pos hf, if_pos hf]; rfl
      · rw [if_neg hf, if_neg hf]
        cases w <;> cases r <;> simp [wrap64] <;> omega
  · rw [if_neg h, if_neg h]
theorem spec_word (f s : Int) (w r : Bool) : spec_EntryWord.f f s w r = some (if okB f s w r = true then (entB f s w r, true) else (0, false)) := by
  unfold spec_EntryWord.f
  rw [spec_ok]
  simp only [Option.bind_some]
  by_cases h : okB f s w r = true
  · rw [if_pos h, if_pos h]
    have hb := okB_bd h
    unfold entB
    by_cases hs : s ≥ 0
    · rw [if_pos hs, if_pos hs, wrap64_id (n := 4 * s) (by omega) (by omega), wrap64_id (by omega) (by omega)]
    · rw [if_neg hs, if_neg hs]
      by_cases hf : f < 0
      · rw [if_pos hf, if_pos hf]
      · rw [if_neg hf, if_neg hf]
        cases w <;> cases r <;> simp [wrap64] <;> omega
  · rw [if_neg h, if_neg h]
def ansE (f s : Int) (w r : Bool) (x : Int) : Int × Int × Bool × Bool × Bool := if okB f s w r = true ∧ entB f s w r = x then (f, s, w, r, true) else (0, 0, false, false, false)
theorem ansE_of (f s : Int) (w r : Bool) (x : Int) :
    (if (if okB f s w r = true then (entB f s w r, true) else (0, false)).2 = true then (if (if okB f s w r = true then (entB f s w r, true) else (0, false)).1 = x then (some (f, s, w, r, true)) else (some (0, 0, false, false, false))) else (some (0, 0, false, false, false))) = some (ansE f s w r x) := by
  unfold ansE
  by_cases h : okB f s w r = true
  · simp only [if_pos h, if_true]
    by_cases h2 : entB f s w r = x
    · rw [if_pos h2, if_pos ⟨h, h2⟩]
    · rw [if_neg h2, if_neg (fun h => h2 h.2)]
  · rw [if_neg h, if_neg (by simp), if_neg (fun h' => h h'.1)]
theorem word_nonneg {f s : Int} {w r : Bool} (h : okB f s w r = true) : 0 ≤ entB f s w r := by
  have := okB_bd h
  unfold entB
  cases w <;> cases r <;> simp <;> split <;> (try split) <;> omega
def readB (x : Int) : Int × Int × Bool × Bool × Bool :=
  if x < 0 then (0, 0, false, false, false) else if x % 2 = 1 then ansE (x / 8) (-1) (decide (x / 2 % 2 = 1)) (decide (x / 4 % 2 = 1)) x else if x % 4 = 2 then ansE (-1) (x / 4) false false x else ansE (-1) (-1) false false x
theorem ansE_neg {f s : Int} {w r : Bool} {x : Int} (h : x < 0) : ansE f s w r x = (0, 0, false, false, false) := by
  unfold ansE
  rw [if_neg]
  rintro ⟨a, b⟩
  have := word_nonneg a
  omega
theorem and_pow (n i : Nat) : n &&& 2 ^ i = if n.testBit i = true then 2 ^ i else 0 := by
  apply Nat.eq_of_testBit_eq
  intro j
  rw [Nat.testBit_and, Nat.testBit_two_pow]
  by_cases h : i = j
  · subst h
    cases hb : n.testBit i <;> simp
  · cases hb : n.testBit i <;> simp [h]
theorem and_bit (x : Int) (h0 : 0 ≤ x) (h2 : x ≤ 9223372036854775807) (i : Nat) (hi : i < 8) : ((Go.bits .and .i64 x ((2 ^ i : Nat) : Int)) != 0) = decide (x / ((2 ^ i : Nat) : Int) % 2 = 1) := by
  obtain ⟨n, rfl⟩ := Int.eq_ofNat_of_zero_le h0
  have hw : ∀ m : Int, 0 ≤ m → m < 2 ^ 63 → IntKind.i64.wrap m = m := by intro m _ _; rw [IntKind.wrap_i64]; omega
  have hp : 2 ^ i ≤ 2 ^ 7 := Nat.pow_le_pow_right (by decide) (by omega)
  rw [(bits_nat .i64 63 (by decide) hw n (2 ^ i) (by omega) (by omega)).1, and_pow]
  have ht := Nat.testBit_eq_decide_div_mod_eq (x := n) (i := i)
  have hpos : 0 < 2 ^ i := Nat.two_pow_pos i
  have hd : ((n : Int) / ((2 ^ i : Nat) : Int) % 2 = 1) ↔ (n / 2 ^ i % 2 = 1) := by
    rw [← Int.natCast_ediv]; omega
  by_cases hb : n / 2 ^ i % 2 = 1
  · rw [decide_eq_true (hd.2 hb)]
    rw [decide_eq_true hb] at ht
    rw [if_pos ht]
    simp only [bne_iff_ne, ne_eq]
    omega
  · rw [decide_eq_false (fun h => hb (hd.1 h))]
    rw [decide_eq_false hb] at ht
    rw [if_neg (by rw [ht]; simp)]
    rfl
theorem impl_read (x : Int) (h1 : -9223372036854775808 ≤ x) (h2 : x ≤ 9223372036854775807) : impl_ReadEntry.f x = some (readB x) := by
  unfold impl_ReadEntry.f impl_noEntry.f
  simp only [Option.bind_some, impl_word]
  rw [ansE_of, ansE_of, ansE_of]
  unfold readB
  by_cases hx : x < 0
  · rw [if_pos hx, if_pos hx]
  · rw [if_neg hx, if_neg hx, tmod_nonneg (by omega) (by omega), tmod_nonneg (by omega) (by omega)]
    have e1 := and_bit x (by omega) h2 1 (by omega)
    have e2 := and_bit x (by omega) h2 2 (by omega)
    simp only [show ((2 ^ 1 : Nat) : Int) = 2 from rfl, show ((2 ^ 2 : Nat) : Int) = 4 from rfl] at e1 e2
    rw [e1, e2]
    split
    · rfl
    · split <;> rfl
theorem spec_read (x : Int) (h1 : -9223372036854775808 ≤ x) (h2 : x ≤ 9223372036854775807) : spec_ReadEntry.f x = some (readB x) := by
  unfold spec_ReadEntry.f spec_l05None.f
  simp only [Option.bind_some, spec_word]
  rw [ansE_of, ansE_of, ansE_of]
  have hc : (if Int.tmod x 2 = 0 then (if x = 0 then some (ansE (-1) (-1) false false x) else some (ansE (-1) (wrap64 (Int.tdiv (wrap64 (x - 2)) 4)) false false x)) else some (ansE (wrap64 (Int.tdiv x 8)) (-1) ((Int.tmod (wrap64 (Int.tdiv x 2)) 2) == 1) ((Int.tmod (wrap64 (Int.tdiv x 4)) 2) == 1) x)) = some (readB x) := by
    unfold readB
    by_cases hx : x < 0
    · rw [if_pos hx]
      rw [ansE_neg hx, ansE_neg hx, ansE_neg hx]
      split <;> (try split) <;> rfl
    · rw [if_neg hx, tmod_nonneg (a := x) (b := 2) (by omega) (by omega), tdiv_nonneg (a := x) (b := 8) (by omega), tdiv_nonneg (a := x) (b := 2) (by omega), tdiv_nonneg (a := x) (b := 4) (by omega)]
      rw [wrap64_id (n := x / 8) (by omega) (by omega), wrap64_id (n := x / 2) (by omega) (by omega), wrap64_id (n := x / 4) (by omega) (by omega), tmod_nonneg (by omega) (by omega), tmod_nonneg (by omega) (by omega)]
      by_cases ho : x % 2 = 1
      · rw [if_neg (by omega), if_pos ho]; rfl
      · rw [if_pos (by omega), if_neg ho]
        by_cases h0 : x = 0
        · rw [if_pos h0, if_neg (by omega)]
        · rw [if_neg h0, wrap64_id (n := x - 2) (by omega) (by omega), tdiv_nonneg (by omega), wrap64_id (by omega) (by omega)]
          by_cases h4 : x % 4 = 2
          · rw [if_pos h4, show (x - 2) / 4 = x / 4 from by omega]
          · rw [if_neg h4]
            unfold ansE
            rw [if_neg, if_neg]
            · rintro ⟨_, b⟩
              unfold entB at b
              rw [if_neg (by omega), if_pos (by omega)] at b
              omega
            · rintro ⟨_, b⟩
              unfold entB at b
              rw [if_pos (by omega)] at b
              omega
  exact hc
def wd (M : List (List Int)) (f w : Int) : Option Int := if 0 ≤ f ∧ f < M.length ∧ w < ((M.getD f.toNat []).length : Int) then some ((M.getD f.toNat []).getD w.toNat 0) else none
def tb (M : List (List Int)) (r A B : Int) : Option Int := (wd M r A).bind fun v => if v < 1 then none else (wd M (v - 1) B).bind fun u => if u < 1 then none else some (u - 1)
def nonE : Int × Int × Bool × Bool := (-1, -1, false, false)
def lastE (M : List (List Int)) (f C : Int) : Int × Int × Bool × Bool := match wd M f C with
  | none => nonE
  | some v => if (readB v).2.2.2.2 = true then ((readB v).1, (readB v).2.1, (readB v).2.2.1, (readB v).2.2.2.1) else nonE
def ansAt (M : List (List Int)) (n6 : Nat) (r a1 a2 : Int) : Int × Int × Bool × Bool := if (0 ≤ a1 ∧ a1 ≤ (n6 : Int) - 1) ∧ 0 ≤ a2 ∧ a2 ≤ 63 then (match tb M r (a2 / 16) (a2 / 4 % 4) with
  | none => nonE
  | some f => lastE M f (a2 % 4)) else nonE
section words
variable (M : List (List Int)) (l1 : List Int) (l2 : List RunW) (l3 : List SlabW) (l4 : List ObjW) (n : Int) (l6 : List SpcW) (l7 : List SlotW) (l8 l9 : List Int)
theorem spec_wd (hM : M.length ≤ 1048576) (f w : Int) (hw : 0 ≤ w) : spec_l08Word.f M l1 l2 l3 l4 n l6 l7 l8 l9 f w = some ((wd M f w).getD (-1)) := by
  unfold spec_l08Word.f wd
  have hrd : rd_L2 M f = M.getD f.toNat [] := rfl
  rw [in_eq, hrd, wrap64_id (n := (M.length : Int) - 1) (by omega) (by omega)]
  simp only [Option.bind_some]
  by_cases h1 : 0 ≤ f ∧ f ≤ (M.length : Int) - 1
  · rw [decide_eq_true h1, if_pos rfl, if_pos h1.1, if_pos (show f < (M.length : Int) by omega)]
    by_cases h2 : w < ((M.getD f.toNat []).length : Int)
    · rw [if_neg (by omega), if_pos hw, if_pos h2, if_pos ⟨h1.1, by omega, h2⟩]
      rfl
    · rw [if_pos (by omega), if_neg (fun x => h2 x.2.2)]
      rfl
  · rw [decide_eq_false h1, if_neg (by decide), if_neg (fun x => h1 ⟨x.1, by omega⟩)]
    rfl
theorem impl_wd (hM : M.length ≤ 1048576) (hR : ∀ x ∈ M, x.length ≤ 1048576) (f w : Int) (hw : 0 ≤ w) : impl_Machine_word.f M l1 l2 l3 l4 n l6 l7 l8 l9 f w = some ((wd M f w).getD 0, (wd M f w).isSome, n) := by
  unfold impl_Machine_word.f wd
  have hrd : rd_L2 M f = M.getD f.toNat [] := rfl
  rw [within_eq', wrap64_id (n := (M.length : Int) - 1) (by omega) (by omega)]
  simp only [Option.bind_some, hrd]
  by_cases h1 : 0 ≤ f ∧ f ≤ (M.length : Int) - 1
  · have hl : (M.getD f.toNat []).length ≤ 1048576 := by
      rw [List.getD_eq_getElem?_getD, List.getElem?_eq_getElem (by omega)]
      exact hR _ (List.getElem_mem (by omega))
    rw [decide_eq_true h1, if_pos rfl, if_pos h1.1, if_pos (show f < (M.length : Int) by omega), within_eq', wrap64_id (n := ((M.getD f.toNat []).length : Int) - 1) (by omega) (by omega)]
    simp only [Option.bind_some]
    by_cases h2 : w < ((M.getD f.toNat []).length : Int)
    · rw [decide_eq_true (show 0 ≤ w ∧ w ≤ ((M.getD f.toNat []).length : Int) - 1 by omega), if_pos rfl, if_pos hw, if_pos h2, if_pos ⟨h1.1, by omega, h2⟩]
      rfl
    · rw [decide_eq_false (show ¬ (0 ≤ w ∧ w ≤ ((M.getD f.toNat []).length : Int) - 1) by omega), if_neg (by decide), if_neg (fun x => h2 x.2.2)]
      rfl
  · rw [decide_eq_false h1, if_neg (by decide), if_neg (fun x => h1 ⟨x.1, by omega⟩)]
    rfl
theorem path_s (a : Int) (h : 0 ≤ a ∧ a ≤ 63) : spec_TablePath.f a = some (a / 16, a / 4 % 4, a % 4) := by
  unfold spec_TablePath.f
  rw [in_eq, decide_eq_true h]
  simp only [Option.bind_some, if_true]
  rw [tdiv_nonneg (a := a) (b := 16) h.1, tdiv_nonneg (a := a) (b := 4) h.1, tmod_nonneg (a := a) (b := 4) h.1 (by omega), wrap64_id (n := a / 16) (by omega) (by omega), wrap64_id (n := a / 4) (by omega) (by omega), tmod_nonneg (a := a / 4) (by omega) (by omega)]
theorem path_i (a : Int) (h : 0 ≤ a ∧ a ≤ 63) : impl_TablePath.f a = some (a / 16, a / 4 % 4, a % 4) := path_s a h
theorem impl_tb (hM : M.length ≤ 1048576) (hR : ∀ x ∈ M, x.length ≤ 1048576) (hv : ∀ f w v, wd M f w = some v → v ≤ 9223372036854775807) (a1 a2 : Int) (h1 : 0 ≤ a1 ∧ a1 ≤ (l6.length : Int) - 1) (h2 : 0 ≤ a2 ∧ a2 ≤ 63) :
    Ev (fun k => impl_Machine_tableOf.f k M l1 l2 l3 l4 n l6 l7 l8 l9 a1 a2) ((tb M (l6.getD a1.toNat zpw).f1 (a2 / 16) (a2 / 4 % 4)).getD 0, (tb M (l6.getD a1.toNat zpw).f1 (a2 / 16) (a2 / 4 % 4)).isSome, n) := by
  unfold impl_Machine_tableOf.f
  have hrd : rd_T79 l6 a1 = l6.getD a1.toNat zpw := rfl
  simp only [path_i a2 h2, Option.bind_some, if_pos h1.1, if_pos (show a1 < (l6.length : Int) by omega), hrd]
  generalize (l6.getD a1.toNat zpw).f1 = r
  have hA : 0 ≤ a2 / 16 := by omega
  have hB : 0 ≤ a2 / 4 % 4 := by omega
  generalize a2 / 16 = A at *
  generalize a2 / 4 % 4 = B at *
  have e1 : rd [A, B] (0 : Int) = A := rfl
  have e2 : rd [A, B] (1 : Int) = B := rfl
  unfold tb
  cases hw : wd M r A with
  | none =>
    refine Ev.of_succ (fun k => ?_)
    simp only [impl_Machine_tableOf.l0, e1, impl_wd M l1 l2 l3 l4 n l6 l7 l8 l9 hM hR r A hA, hw, Option.bind_some]
    simp
  | some v =>
    have hv1 := hv _ _ _ hw
    by_cases hv0 : v < 1
    · refine Ev.of_succ (fun k => ?_)
      simp only [impl_Machine_tableOf.l0, e1, impl_wd M l1 l2 l3 l4 n l6 l7 l8 l9 hM hR r A hA, hw, Option.bind_some]
      simp [hv0]
    · have second : Ev (fun k => impl_Machine_tableOf.l0 k (v - 1) [A, B] (([A, B] : List Int).length : Int) 1 M l1 l2 l3 l4 n l6 l7 l8 l9) (((wd M (v - 1) B).bind fun u => if u < 1 then none else some (u - 1)).getD 0, ((wd M (v - 1) B).bind fun u => if u < 1 then none else some (u - 1)).isSome, n) := by
        cases hw2 : wd M (v - 1) B with
        | none =>
          refine Ev.of_succ (fun k => ?_)
          simp only [impl_Machine_tableOf.l0, e2, impl_wd M l1 l2 l3 l4 n l6 l7 l8 l9 hM hR (v - 1) B hB, hw2, Option.bind_some]
          simp
        | some u =>
          have hu1 := hv _ _ _ hw2
          by_cases hu0 : u < 1
          · refine Ev.of_succ (fun k => ?_)
            simp only [impl_Machine_tableOf.l0, e2, impl_wd M l1 l2 l3 l4 n l6 l7 l8 l9 hM hR (v - 1) B hB, hw2, Option.bind_some]
            simp [hu0]
          · have third : Ev (fun k => impl_Machine_tableOf.l0 k (u - 1) [A, B] (([A, B] : List Int).length : Int) 2 M l1 l2 l3 l4 n l6 l7 l8 l9) (u - 1, true, n) := by
              refine Ev.of_succ (fun k => ?_)
              simp only [impl_Machine_tableOf.l0]
              rw [if_neg (by simp)]
            simp only [Option.bind_some, if_neg hu0, Option.getD_some, Option.isSome_some]
            refine Ev.step (fun k => ?_) third
            simp only [impl_Machine_tableOf.l0, e2, impl_wd M l1 l2 l3 l4 n l6 l7 l8 l9 hM hR (v - 1) B hB, hw2, Option.bind_some, Option.getD_some, Option.isSome_some]
            rw [if_pos (by simp), if_pos (by omega), if_pos (by simp), if_pos trivial, if_neg hu0, wrap64_id (n := u - 1) (by omega) (by omega), wrap64_id (n := (1 : Int) + 1) (by omega) (by omega)]
            rfl
      simp only [Option.bind_some, if_neg hv0]
      refine Ev.step (fun k => ?_) second
      simp only [impl_Machine_tableOf.l0, e1, impl_wd M l1 l2 l3 l4 n l6 l7 l8 l9 hM hR r A hA, hw, Option.bind_some, Option.getD_some, Option.isSome_some]
      rw [if_pos (by simp), if_pos (by omega), if_pos (by simp), if_pos trivial, if_neg hv0, wrap64_id (n := v - 1) (by omega) (by omega), wrap64_id (n := (0 : Int) + 1) (by omega) (by omega)]
      rfl
theorem impl_at (hM : M.length ≤ 1048576) (hR : ∀ x ∈ M, x.length ≤ 1048576) (h6 : l6.length ≤ 1048576) (hv : ∀ f w v, wd M f w = some v → -9223372036854775808 ≤ v ∧ v ≤ 9223372036854775807) (a1 a2 : Int) :
    Ev (fun k => impl_EntryAt.f k M l1 l2 l3 l4 n l6 l7 l8 l9 a1 a2) (ansAt M l6.length (l6.getD a1.toNat zpw).f1 a1 a2) := by
  unfold impl_EntryAt.f ansAt
  have hnone : impl_noEntry.f = some nonE := rfl
  simp only [within_eq', Option.bind_some, wrap64_id (n := (l6.length : Int) - 1) (by omega) (by omega)]
  by_cases h1 : 0 ≤ a1 ∧ a1 ≤ (l6.length : Int) - 1
  · by_cases h2 : 0 ≤ a2 ∧ a2 ≤ 63
    · simp only [decide_eq_true h1, decide_eq_true h2, if_true, if_pos (show (0 ≤ a1 ∧ a1 ≤ (l6.length : Int) - 1) ∧ 0 ≤ a2 ∧ a2 ≤ 63 from ⟨h1, h2⟩)]
      have ht := impl_tb M l1 l2 l3 l4 n l6 l7 l8 l9 hM hR (fun f w v h => (hv f w v h).2) a1 a2 h1 h2
      unfold impl_Machine_entry.f
      generalize tb M (l6.getD a1.toNat zpw).f1 (a2 / 16) (a2 / 4 % 4) = T at *
      cases T with
      | none =>
        refine Ev.bind (Ev.bind ht (?_ : Ev _ ((-1, -1, false, false, n) : Int × Int × Bool × Bool × Int))) ?_
        rotate_left
        · exact Ev.now _
        simp only [Option.isSome_none, Bool.false_eq_true, if_false, hnone, Option.bind_some]
        exact Ev.now _
      | some f =>
        simp only
        have hC : 0 ≤ a2 % 4 := by omega
        refine Ev.bind (Ev.bind ht (?_ : Ev _ (((lastE M f (a2 % 4)).1, (lastE M f (a2 % 4)).2.1, (lastE M f (a2 % 4)).2.2.1, (lastE M f (a2 % 4)).2.2.2, n) : Int × Int × Bool × Bool × Int))) ?_
        rotate_left
        · exact Ev.now _
        simp only [Option.isSome_some, if_true, Option.getD_some, tmod_nonneg (a := a2) (b := 4) h2.1 (by omega), impl_wd M l1 l2 l3 l4 n l6 l7 l8 l9 hM hR f (a2 % 4) hC, Option.bind_some]
        unfold lastE
        cases hw : wd M f (a2 % 4) with
        | none =>
          simp only [Option.getD_none, Option.isSome_none, impl_read 0 (by omega) (by omega), Option.bind_some, Bool.false_eq_true, if_false, hnone]
          exact Ev.now _
        | some v =>
          have hv1 := hv _ _ _ hw
          simp only [Option.getD_some, Option.isSome_some, impl_read v hv1.1 hv1.2, Option.bind_some, if_true, hnone]
          by_cases hg : (readB v).2.2.2.2 = true
          · simp only [if_pos hg]; exact Ev.now _
          · simp only [if_neg hg]; exact Ev.now _
    · simp only [decide_eq_true h1, decide_eq_false h2, if_true, Bool.false_eq_true, if_false, if_neg (show ¬ ((0 ≤ a1 ∧ a1 ≤ (l6.length : Int) - 1) ∧ 0 ≤ a2 ∧ a2 ≤ 63) from fun x => h2 x.2), hnone]
      exact Ev.now _
  · simp only [decide_eq_false h1, Bool.false_eq_true, if_false, if_neg (show ¬ ((0 ≤ a1 ∧ a1 ≤ (l6.length : Int) - 1) ∧ 0 ≤ a2 ∧ a2 ≤ 63) from fun x => h1 x.1), hnone]
    exact Ev.now _
theorem spec_j1 (hM : M.length ≤ 1048576) (hv : ∀ f w v, wd M f w = some v → v ≤ 9223372036854775807) (r t B : Int) (hB : 0 ≤ B) :
    Ev (fun k => spec_l08Tables.j1 k [r, t, -1] B M l1 l2 l3 l4 n l6 l7 l8 l9) [r, t, if t ≥ 0 then (if (wd M t B).getD (-1) > 0 then (wd M t B).getD (-1) - 1 else -1) else -1] := by
  have e1 : rd [r, t, -1] (1 : Int) = t := rfl
  refine Ev.of_succ (fun k => ?_)
  simp only [spec_l08Tables.j1, e1, spec_wd M l1 l2 l3 l4 n l6 l7 l8 l9 hM t B hB, Option.bind_some]
  rw [if_pos (by simp)]
  by_cases h : t ≥ 0
  · rw [if_pos h, if_pos h]
    by_cases h2 : (wd M t B).getD (-1) > 0
    · rw [if_pos h2, if_pos h2, if_pos (by simp)]
      have hb : (wd M t B).getD (-1) ≤ 9223372036854775807 := by
        cases hw : wd M t B with
        | none => simp
        | some v => exact hv _ _ _ hw
      rw [wrap64_id (n := (wd M t B).getD (-1) - 1) (by omega) (by omega)]
      rfl
    · rw [if_neg h2, if_neg h2]
  · rw [if_neg h, if_neg h]
theorem spec_tb (hM : M.length ≤ 1048576) (hv : ∀ f w v, wd M f w = some v → v ≤ 9223372036854775807) (a1 a2 : Int) (h1 : 0 ≤ a1 ∧ a1 ≤ (l6.length : Int) - 1) (h2 : 0 ≤ a2 ∧ a2 ≤ 63) :
    ∃ x y, Ev (fun k => spec_l08Tables.j0 k a1 a2 [-1, -1, -1] false M l1 l2 l3 l4 n l6 l7 l8 l9) [x, y, (tb M (l6.getD a1.toNat zpw).f1 (a2 / 16) (a2 / 4 % 4)).getD (-1)] := by
  have hrd : rd_T79 l6 a1 = l6.getD a1.toNat zpw := rfl
  have hA : 0 ≤ a2 / 16 := by omega
  have hB : 0 ≤ a2 / 4 % 4 := by omega
  have e0 : ∀ r : Int, rd [r, -1, -1] (0 : Int) = r := fun r => rfl
  have es : ∀ r : Int, ([-1, -1, -1] : List Int).set (0 : Int).toNat r = [r, -1, -1] := fun r => rfl
  have es1 : ∀ r t : Int, ([r, -1, -1] : List Int).set (1 : Int).toNat t = [r, t, -1] := fun r t => rfl
  unfold tb
  by_cases hp : (wd M (l6.getD a1.toNat zpw).f1 (a2 / 16)).getD (-1) > 0
  · obtain ⟨v, hw⟩ : ∃ v, wd M (l6.getD a1.toNat zpw).f1 (a2 / 16) = some v := by
      cases hw : wd M (l6.getD a1.toNat zpw).f1 (a2 / 16) with
      | none => rw [hw] at hp; simp at hp
      | some v => exact ⟨v, rfl⟩
    have hv1 := hv _ _ _ hw
    rw [hw] at hp
    simp only [Option.getD_some] at hp
    have hj := spec_j1 M l1 l2 l3 l4 n l6 l7 l8 l9 hM hv (l6.getD a1.toNat zpw).f1 (v - 1) (a2 / 4 % 4) hB
    refine ⟨(l6.getD a1.toNat zpw).f1, v - 1, ?_⟩
    have he : (if v - 1 ≥ 0 then (if (wd M (v - 1) (a2 / 4 % 4)).getD (-1) > 0 then (wd M (v - 1) (a2 / 4 % 4)).getD (-1) - 1 else -1) else -1) = ((wd M (l6.getD a1.toNat zpw).f1 (a2 / 16)).bind fun v => if v < 1 then none else (wd M (v - 1) (a2 / 4 % 4)).bind fun u => if u < 1 then none else some (u - 1)).getD (-1) := by
      rw [hw, if_pos (by omega)]
      simp only [Option.bind_some, if_neg (show ¬ v < 1 by omega)]
      cases hw2 : wd M (v - 1) (a2 / 4 % 4) with
      | none => simp
      | some u =>
        simp only [Option.getD_some, Option.bind_some]
        by_cases hu : u > 0
        · rw [if_pos hu, if_neg (by omega)]; rfl
        · rw [if_neg hu, if_pos (by omega)]; rfl
    rw [he] at hj
    refine Ev.step (fun k => ?_) hj
    simp only [spec_l08Tables.j0, Bool.false_eq_true, if_false, path_s a2 h2, Option.bind_some, if_pos h1.1, if_pos (show a1 < (l6.length : Int) by omega), hrd, es, e0, spec_wd M l1 l2 l3 l4 n l6 l7 l8 l9 hM (l6.getD a1.toNat zpw).f1 (a2 / 16) hA, hw, Option.getD_some]
    rw [if_pos (by simp), if_pos hp, if_pos (by simp), es1, wrap64_id (n := v - 1) (by omega) (by omega)]
  · have hj := spec_j1 M l1 l2 l3 l4 n l6 l7 l8 l9 hM hv (l6.getD a1.toNat zpw).f1 (-1) (a2 / 4 % 4) hB
    refine ⟨(l6.getD a1.toNat zpw).f1, -1, ?_⟩
    rw [if_neg (by omega)] at hj
    have he : ((wd M (l6.getD a1.toNat zpw).f1 (a2 / 16)).bind fun v => if v < 1 then none else (wd M (v - 1) (a2 / 4 % 4)).bind fun u => if u < 1 then none else some (u - 1)).getD (-1) = -1 := by
      cases hw : wd M (l6.getD a1.toNat zpw).f1 (a2 / 16) with
      | none => rfl
      | some v =>
        rw [hw] at hp
        simp only [Option.getD_some] at hp
        simp only [Option.bind_some, if_pos (show v < 1 by omega)]
        rfl
    rw [he]
    refine Ev.step (fun k => ?_) hj
    simp only [spec_l08Tables.j0, Bool.false_eq_true, if_false, path_s a2 h2, Option.bind_some, if_pos h1.1, if_pos (show a1 < (l6.length : Int) by omega), hrd, es, e0, spec_wd M l1 l2 l3 l4 n l6 l7 l8 l9 hM (l6.getD a1.toNat zpw).f1 (a2 / 16) hA]
    rw [if_pos (by simp), if_neg hp]
theorem spec_at (hM : M.length ≤ 1048576) (h6 : l6.length ≤ 1048576) (hv : ∀ f w v, wd M f w = some v → -9223372036854775808 ≤ v ∧ v ≤ 9223372036854775807) (a1 a2 : Int) :
    Ev (fun k => spec_EntryAt.f k M l1 l2 l3 l4 n l6 l7 l8 l9 a1 a2) (ansAt M l6.length (l6.getD a1.toNat zpw).f1 a1 a2) := by
  have hnone : spec_l05None.f = some nonE := rfl
  have hpath : ∃ A B C, spec_TablePath.f a2 = some (A, B, C) := by
    by_cases h2 : 0 ≤ a2 ∧ a2 ≤ 63
    · exact ⟨_, _, _, path_s a2 h2⟩
    · refine ⟨0, 0, 0, ?_⟩
      unfold spec_TablePath.f
      rw [in_eq, decide_eq_false h2]
      rfl
  have no : ∀ t c, Ev (fun k => spec_EntryAt.j0 k t c true M l1 l2 l3 l4 n l6 l7 l8 l9) nonE := fun t c => by
    refine Ev.of_succ (fun k => ?_)
    simp only [spec_EntryAt.j0, if_true, hnone, Option.bind_some]
  have bad : Ev (fun k => spec_l08Tables.j0 k a1 a2 [-1, -1, -1] true M l1 l2 l3 l4 n l6 l7 l8 l9) [-1, -1, -1] := by
    refine Ev.of_succ (fun k => ?_)
    simp only [spec_l08Tables.j0, if_true]
  have out : Ev (fun k => spec_l08Tables.j0 k a1 a2 [-1, -1, -1] true M l1 l2 l3 l4 n l6 l7 l8 l9) [-1, -1, -1] → ¬ ((0 ≤ a1 ∧ a1 ≤ (l6.length : Int) - 1) ∧ 0 ≤ a2 ∧ a2 ≤ 63) → ∀ A B C, spec_TablePath.f a2 = some (A, B, C) → ∀ g : Nat → Option (List Int), (∀ k, g k = spec_l08Tables.j0 k a1 a2 [-1, -1, -1] true M l1 l2 l3 l4 n l6 l7 l8 l9) → Ev (fun k => (g k).bind fun t956 => ((spec_TablePath.f a2).bind fun bt959 => (if 2 < (t956.length : Int) then (if (rd t956 2) < 0 then (spec_EntryAt.j0 k t956 bt959.2.2 true M l1 l2 l3 l4 n l6 l7 l8 l9) else ((spec_l08Word.f M l1 l2 l3 l4 n l6 l7 l8 l9 (rd t956 2) bt959.2.2).bind fun t964 => (spec_EntryAt.j0 k t956 bt959.2.2 (decide (t964 < 0)) M l1 l2 l3 l4 n l6 l7 l8 l9))) else (none)))) (ansAt M l6.length (l6.getD a1.toNat zpw).f1 a1 a2) := fun hb hn A B C hp g hg => by
    unfold ansAt
    rw [if_neg hn]
    refine Ev.bind (Ev.congr hg hb) ?_
    have e2 : rd [-1, -1, -1] (2 : Int) = -1 := rfl
    simp only [hp, Option.bind_some, e2, if_pos (show (2 : Int) < (([-1, -1, -1] : List Int).length : Int) by simp), if_pos (show (-1 : Int) < 0 by omega)]
    exact no _ _
  obtain ⟨A, B, C, hp⟩ := hpath
  unfold spec_EntryAt.f spec_l08Tables.f
  simp only [in_eq, Option.bind_some, wrap64_id (n := (l6.length : Int) - 1) (by omega) (by omega)]
  by_cases h1 : 0 ≤ a1 ∧ a1 ≤ (l6.length : Int) - 1
  · by_cases h2 : 0 ≤ a2 ∧ a2 ≤ 63
    · simp only [decide_eq_true h1, decide_eq_true h2, if_true, Bool.not_true]
      obtain ⟨x, y, ht⟩ := spec_tb M l1 l2 l3 l4 n l6 l7 l8 l9 hM (fun f w v h => (hv f w v h).2) a1 a2 h1 h2
      unfold ansAt
      rw [if_pos ⟨h1, h2⟩]
      refine Ev.bind ht ?_
      generalize tb M (l6.getD a1.toNat zpw).f1 (a2 / 16) (a2 / 4 % 4) = T at *
      have e2 : rd [x, y, T.getD (-1)] (2 : Int) = T.getD (-1) := rfl
      have hC : 0 ≤ a2 % 4 := by omega
      simp only [path_s a2 h2, Option.bind_some, e2, if_pos (show (2 : Int) < (([x, y, T.getD (-1)] : List Int).length : Int) by simp), spec_wd M l1 l2 l3 l4 n l6 l7 l8 l9 hM (T.getD (-1)) (a2 % 4) hC]
      have lastj : ∀ f v : Int, wd M f (a2 % 4) = some v → ¬ v < 0 → Ev (fun k => spec_EntryAt.j0 k [x, y, f] (a2 % 4) false M l1 l2 l3 l4 n l6 l7 l8 l9) (lastE M f (a2 % 4)) := fun f v hw h0 => by
        have hv1 := hv _ _ _ hw
        have e3 : rd [x, y, f] (2 : Int) = f := rfl
        refine Ev.of_succ (fun k => ?_)
        unfold lastE
        simp only [spec_EntryAt.j0, Bool.false_eq_true, if_false, e3, if_pos (show (2 : Int) < (([x, y, f] : List Int).length : Int) by simp), spec_wd M l1 l2 l3 l4 n l6 l7 l8 l9 hM f (a2 % 4) hC, hw, Option.getD_some, Option.bind_some, spec_read v hv1.1 hv1.2, hnone]
        by_cases hg : (readB v).2.2.2.2 = true
        · simp only [if_pos hg]
        · simp only [if_neg hg]
      cases T with
      | none =>
        simp only [Option.getD_none, if_pos (show (-1 : Int) < 0 by omega)]
        exact no _ _
      | some f =>
        simp only [Option.getD_some]
        by_cases hf : f < 0
        · simp only [if_pos hf]
          have hn : lastE M f (a2 % 4) = nonE := by
            unfold lastE wd
            rw [if_neg (fun z => by omega)]
          rw [hn]
          exact no _ _
        · simp only [if_neg hf]
          have hcase : wd M f (a2 % 4) = none ∨ ∃ v, wd M f (a2 % 4) = some v := by
            cases hw : wd M f (a2 % 4) with
            | none => exact Or.inl rfl
            | some v => exact Or.inr ⟨v, rfl⟩
          rcases hcase with hw | ⟨v, hw⟩
          · simp only [hw, Option.getD_none, decide_eq_true (show (-1 : Int) < 0 by omega)]
            have hn : lastE M f (a2 % 4) = nonE := by unfold lastE; rw [hw]
            rw [hn]
            exact no _ _
          · simp only [hw, Option.getD_some]
            by_cases h0 : v < 0
            · simp only [decide_eq_true h0]
              have hn : lastE M f (a2 % 4) = nonE := by
                unfold lastE
                rw [hw]
                have hr : readB v = (0, 0, false, false, false) := by unfold readB; rw [if_pos h0]
                simp only [hr, Bool.false_eq_true, if_false]
              rw [hn]
              exact no _ _
            · simp only [decide_eq_false h0]
              exact lastj f v hw h0
    · simp only [decide_eq_true h1, decide_eq_false h2, if_true, Bool.not_false]
      exact out bad (fun z => h2 z.2) A B C hp _ (fun k => rfl)
  · simp only [decide_eq_false h1, Bool.false_eq_true, if_false]
    exact out bad (fun z => h1 z.1) A B C hp _ (fun k => rfl)
end words
theorem FnExactEntryAt (x0 : List (List Int) × List Int × List S151 × List S142 × List S154 × Int × List S146 × List S148 × List Int × List Int) (g0 : (x0.1.length ≤ maxLen ∧ ∀ y0 ∈ x0.1, (y0.length ≤ maxLen ∧ ∀ y1 ∈ y0, (Lit.int .i64 y1).wf = true)) ∧ (x0.2.1.length ≤ maxLen ∧ ∀ y0 ∈ x0.2.1, (Lit.int .i64 y0).wf = true) ∧ (x0.2.2.1.length ≤ maxLen ∧ ∀ y0 ∈ x0.2.2.1, ((Lit.int .i64 y0.f0).wf = true ∧ (Lit.int .i64 y0.f1).wf = true)) ∧ (x0.2.2.2.1.length ≤ maxLen ∧ ∀ y0 ∈ x0.2.2.2.1, ((Lit.int .i64 y0.f0).wf = true ∧ (Lit.int .i64 y0.f1).wf = true ∧ (y0.f2.length ≤ maxLen ∧ ∀ y1 ∈ y0.f2, True))) ∧ (x0.2.2.2.2.1.length ≤ maxLen ∧ ∀ y0 ∈ x0.2.2.2.2.1, ((Lit.int .i64 y0.f0).wf = true ∧ (Lit.int .i64 y0.f1).wf = true ∧ (Lit.int .i64 y0.f2).wf = true ∧ (Lit.int .i64 y0.f3).wf = true ∧ (Lit.int .i64 y0.f4).wf = true)) ∧ (Lit.int .i64 x0.2.2.2.2.2.1).wf = true ∧ (x0.2.2.2.2.2.2.1.length ≤ maxLen ∧ ∀ y0 ∈ x0.2.2.2.2.2.2.1, (True ∧ (Lit.int .i64 y0.f1).wf = true ∧ (y0.f2.length ≤ maxLen ∧ ∀ y1 ∈ y0.f2, ((Lit.int .i64 y1.f0).wf = true ∧ (Lit.int .i64 y1.f1).wf = true ∧ True)))) ∧ (x0.2.2.2.2.2.2.2.1.length ≤ maxLen ∧ ∀ y0 ∈ x0.2.2.2.2.2.2.2.1, ((Lit.int .i64 y0.f0).wf = true ∧ (y0.f1.length ≤ maxLen ∧ ∀ y1 ∈ y0.f1, (Lit.int .i64 y1).wf = true))) ∧ (x0.2.2.2.2.2.2.2.2.1.length ≤ maxLen ∧ ∀ y0 ∈ x0.2.2.2.2.2.2.2.2.1, (Lit.int .i64 y0).wf = true) ∧ (x0.2.2.2.2.2.2.2.2.2.length ≤ maxLen ∧ ∀ y0 ∈ x0.2.2.2.2.2.2.2.2.2, (Lit.int .i64 y0).wf = true)) (a1 : Int) (_w1 : (Lit.int .i64 a1).wf = true) (a2 : Int) (_w2 : (Lit.int .i64 a2).wf = true) : ∃ k, laws_FnExactEntryAt.f k (x0.1) (x0.2.1) (x0.2.2.1) (x0.2.2.2.1) (x0.2.2.2.2.1) (x0.2.2.2.2.2.1) (x0.2.2.2.2.2.2.1) (x0.2.2.2.2.2.2.2.1) (x0.2.2.2.2.2.2.2.2.1) (x0.2.2.2.2.2.2.2.2.2) a1 a2 = some true := by
  obtain ⟨l0, l1, l2, l3, l4, n, l6, l7, l8, l9⟩ := x0
  obtain ⟨z0, z1, z2, z3, z4, z5, z6, z7, z8, z9⟩ := g0
  suffices h : Ev (fun k => laws_FnExactEntryAt.f k l0 l1 l2 l3 l4 n l6 l7 l8 l9 a1 a2) true by
    obtain ⟨m, hm⟩ := h; exact ⟨m, hm m (Nat.le_refl m)⟩
  obtain ⟨r, hr, hq⟩ := szMachine_out l0 l1 l2 l3 l4 n l6 l7 l8 l9 ⟨z0.1, fun x hx => (z0.2 x hx).1⟩ z1.1 z2.1 ⟨z3.1, fun x hx => (z3.2 x hx).2.2.1⟩ z4.1 ⟨z6.1, fun x hx => (z6.2 x hx).2.2.1⟩ ⟨z7.1, fun x hx => (z7.2 x hx).2.1⟩ z8.1 z9.1
  have hv : ∀ f w v, wd l0 f w = some v → -9223372036854775808 ≤ v ∧ v ≤ 9223372036854775807 := fun f w v h => by
    unfold wd at h
    by_cases hc : 0 ≤ f ∧ f < l0.length ∧ w < ((l0.getD f.toNat []).length : Int)
    · rw [if_pos hc] at h
      obtain rfl := Option.some.inj h
      by_cases hw : w.toNat < (l0.getD f.toNat []).length
      · have hm : l0.getD f.toNat [] ∈ l0 := by rw [List.getD_eq_getElem?_getD, List.getElem?_eq_getElem (by omega)]; exact List.getElem_mem (by omega)
        have hm2 : (l0.getD f.toNat []).getD w.toNat 0 ∈ l0.getD f.toNat [] := by
          generalize l0.getD f.toNat [] = row at *
          rw [List.getD_eq_getElem?_getD, List.getElem?_eq_getElem hw]; exact List.getElem_mem hw
        exact wf_i64 ((z0.2 _ hm).2 _ hm2)
      · generalize l0.getD f.toNat [] = row at *
        rw [List.getD_eq_getElem?_getD, List.getElem?_eq_none (by omega)]
        decide
    · rw [if_neg hc] at h; cases h
  unfold laws_FnExactEntryAt.f
  refine Ev.bind hr ?_
  by_cases h0 : r < 0
  · simp only [if_pos h0]; exact Ev.now true
  · simp only [if_neg h0]
    have hs := hq (by omega)
    have ht := toMachine_ev hs n
    have h6 : (l6.map toSpc).length ≤ 1048576 := by rw [List.length_map]; exact hs.s6.1
    have e1 := spec_at l0 l1 (l2.map toRun) (l3.map toSlab) (l4.map toObj) n (l6.map toSpc) (l7.map toSlot) l8 l9 hs.s0.1 h6 hv a1 a2
    have e2 := impl_at l0 l1 (l2.map toRun) (l3.map toSlab) (l4.map toObj) n (l6.map toSpc) (l7.map toSlot) l8 l9 hs.s0.1 hs.s0.2 h6 hv a1 a2
    generalize ansAt l0 (l6.map toSpc).length ((l6.map toSpc).getD a1.toNat zpw).f1 a1 a2 = E at *
    refine Ev.bind ht (Ev.bind e1 (Ev.bind ht (Ev.bind e2 ?_)))
    have he : laws_eqEntry.f E.1 E.2.1 E.2.2.1 E.2.2.2 E.1 E.2.1 E.2.2.1 E.2.2.2 = some true := by unfold laws_eqEntry.f; simp
    simp only [he, Option.bind_some, if_true]
    refine Ev.bind ht (Ev.bind (eqMachine_ev hs n) ?_)
    simp only [if_true]
    exact Ev.now true
end Go.Proofs.Ytngonhgghncdiaa.Pure
end
