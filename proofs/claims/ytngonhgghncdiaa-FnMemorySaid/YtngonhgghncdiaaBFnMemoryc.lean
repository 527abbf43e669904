/- What the proof of FnMemorySaid rests on, part 3: plain lemmas and contracts of the functions that the law reaches (in part written by a printing program over the translation). No condition. -/
import Derived.Test.YtngonhgghncdiaaBFnMemoryb
section
namespace Go.Proofs.Ytngonhgghncdiaa.P
open Go.RowKit Go.Proofs.YtngonhgghncdiaaW.PrintWords Go.Proofs.YtngonhgghncdiaaW.PrintLast Go.Proofs.YtngonhgghncdiaaW.PrintMore
attribute [local go_sem] max2_int min2_int max_two min_two max_three min_three max_four min_four
set_option linter.unusedVariables false
set_option linter.unusedSimpArgs false
mutual
def laws_FnMemory.j0 : Nat → List (List Int) → Int → Int → Int → List (List Int) → List (List Int) → List (List Int) → Bool → Option (Bool)
 | 0, _, _, _, _, _, _, _, _ => none
 | k + 1, x3, x5, x6, x7, x8, x12, x14, x95 => if x95 = true then (some false) else (laws_FnMemory.l0 k x3 x5 x6 x7 x8 x12 x14 0)
def laws_FnMemory.l0 : Nat → List (List Int) → Int → Int → Int → List (List Int) → List (List Int) → List (List Int) → Int → Option (Bool)
 | 0, _, _, _, _, _, _, _, _ => none
 | k + 1, x3, x5, x6, x7, x8, x12, x14, x16 => if x16 < (x3.length : Int) then (laws_FnMemory.l1 k x3 x5 x6 x7 x8 x12 x14 x16 0) else (some true)
def laws_FnMemory.l1 : Nat → List (List Int) → Int → Int → Int → List (List Int) → List (List Int) → List (List Int) → Int → Int → Option (Bool)
 | 0, _, _, _, _, _, _, _, _, _ => none
 | k + 1, x3, x5, x6, x7, x8, x12, x14, x16, x17 => if x17 < 4 then (if x16 = x5 then (if x17 = x7 then (if x16 = x6 then (if 0 ≤ x16 then (if x16 < (x12.length : Int) then (if 0 ≤ x17 then (if x17 < ((rd_L2 x12 x16).length : Int) then (if 0 ≤ x5 then (if x5 < (x8.length : Int) then (if x17 < ((rd_L2 x8 x5).length : Int) then (if (rd (rd_L2 x12 x16) x17) = (rd (rd_L2 x8 x5) x17) then (if x16 < (x14.length : Int) then (if x17 < ((rd_L2 x14 x16).length : Int) then (if (rd (rd_L2 x14 x16) x17) = 0 then (laws_FnMemory.l1 k x3 x5 x6 x7 x8 x12 x14 x16 (wrap64 (x17 + 1))) else (some false)) else (none)) else (none)) else (some false)) else (none)) else (none)) else (none)) else (none)) else (none)) else (none)) else (none)) else (if 0 ≤ x16 then (if x16 < (x12.length : Int) then (if 0 ≤ x17 then (if x17 < ((rd_L2 x12 x16).length : Int) then (if x16 < (x8.length : Int) then (if x17 < ((rd_L2 x8 x16).length : Int) then (if (rd (rd_L2 x12 x16) x17) = (rd (rd_L2 x8 x16) x17) then (if x16 < (x14.length : Int) then (if x17 < ((rd_L2 x14 x16).length : Int) then (if (rd (rd_L2 x14 x16) x17) = 0 then (laws_FnMemory.l1 k x3 x5 x6 x7 x8 x12 x14 x16 (wrap64 (x17 + 1))) else (some false)) else (none)) else (none)) else (some false)) else (none)) else (none)) else (none)) else (none)) else (none)) else (none))) else (if 0 ≤ x16 then (if x16 < (x8.length : Int) then (if 0 ≤ x17 then (if x17 < ((rd_L2 x8 x16).length : Int) then (if x16 < (x3.length : Int) then (if x17 < ((rd_L2 x3 x16).length : Int) then (if (rd (rd_L2 x8 x16) x17) = (rd (rd_L2 x3 x16) x17) then (if x16 = x6 then (if x16 < (x12.length : Int) then (if x17 < ((rd_L2 x12 x16).length : Int) then (if 0 ≤ x5 then (if x5 < (x8.length : Int) then (if x17 < ((rd_L2 x8 x5).length : Int) then (if (rd (rd_L2 x12 x16) x17) = (rd (rd_L2 x8 x5) x17) then (if x16 < (x14.length : Int) then (if x17 < ((rd_L2 x14 x16).length : Int) then (if (rd (rd_L2 x14 x16) x17) = 0 then (laws_FnMemory.l1 k x3 x5 x6 x7 x8 x12 x14 x16 (wrap64 (x17 + 1))) else (some false)) else (none)) else (none)) else (some false)) else (none)) else (none)) else (none)) else (none)) else (none)) else (if x16 < (x12.length : Int) then (if x17 < ((rd_L2 x12 x16).length : Int) then (if (rd (rd_L2 x12 x16) x17) = (rd (rd_L2 x8 x16) x17) then (if x16 < (x14.length : Int) then (if x17 < ((rd_L2 x14 x16).length : Int) then (if (rd (rd_L2 x14 x16) x17) = 0 then (laws_FnMemory.l1 k x3 x5 x6 x7 x8 x12 x14 x16 (wrap64 (x17 + 1))) else (some false)) else (none)) else (none)) else (some false)) else (none)) else (none))) else (some false)) else (none)) else (none)) else (none)) else (none)) else (none)) else (none))) else (if 0 ≤ x16 then (if x16 < (x8.length : Int) then (if 0 ≤ x17 then (if x17 < ((rd_L2 x8 x16).length : Int) then (if x16 < (x3.length : Int) then (if x17 < ((rd_L2 x3 x16).length : Int) then (if (rd (rd_L2 x8 x16) x17) = (rd (rd_L2 x3 x16) x17) then (if x16 = x6 then (if x16 < (x12.length : Int) then (if x17 < ((rd_L2 x12 x16).length : Int) then (if 0 ≤ x5 then (if x5 < (x8.length : Int) then (if x17 < ((rd_L2 x8 x5).length : Int) then (if (rd (rd_L2 x12 x16) x17) = (rd (rd_L2 x8 x5) x17) then (if x16 < (x14.length : Int) then (if x17 < ((rd_L2 x14 x16).length : Int) then (if (rd (rd_L2 x14 x16) x17) = (rd (rd_L2 x12 x16) x17) then (laws_FnMemory.l1 k x3 x5 x6 x7 x8 x12 x14 x16 (wrap64 (x17 + 1))) else (some false)) else (none)) else (none)) else (some false)) else (none)) else (none)) else (none)) else (none)) else (none)) else (if x16 < (x12.length : Int) then (if x17 < ((rd_L2 x12 x16).length : Int) then (if (rd (rd_L2 x12 x16) x17) = (rd (rd_L2 x8 x16) x17) then (if x16 < (x14.length : Int) then (if x17 < ((rd_L2 x14 x16).length : Int) then (if (rd (rd_L2 x14 x16) x17) = (rd (rd_L2 x12 x16) x17) then (laws_FnMemory.l1 k x3 x5 x6 x7 x8 x12 x14 x16 (wrap64 (x17 + 1))) else (some false)) else (none)) else (none)) else (some false)) else (none)) else (none))) else (some false)) else (none)) else (none)) else (none)) else (none)) else (none)) else (none))) else (laws_FnMemory.l0 k x3 x5 x6 x7 x8 x12 x14 (wrap64 (x16 + 1)))
end
def laws_FnMemory.f (k : Nat) (l0 : List Int) : Option (Bool) := (laws_big.f l0).bind fun t211 => (if t211 = true then (some true) else ((spec_DrawRightMemory.f k l0).bind fun t212 => ((spec_DrawPlaces.f k l0).bind fun t215 => (if 0 < (t215.length : Int) then (if (t212.length : Int) = 0 then (none) else (if 1 < (t215.length : Int) then (if 2 < (t215.length : Int) then (if 3 < (t215.length : Int) then ((impl_Poke.f k t212 (Int.tmod (rd t215 0) (t212.length : Int)) (Int.tmod (rd t215 2) 4) (rd t215 3)).bind fun bt222 => ((impl_Peek.f k bt222.1 (Int.tmod (rd t215 0) (t212.length : Int)) (Int.tmod (rd t215 2) 4)).bind fun bt226 => ((impl_CopyFrame.f k bt222.1 (Int.tmod (rd t215 0) (t212.length : Int)) (Int.tmod (rd t215 1) (t212.length : Int))).bind fun bt228 => ((impl_ClearFrame.f k bt228.1 (Int.tmod (rd t215 0) (t212.length : Int))).bind fun bt232 => (if bt222.2 = true then (if bt226.2 = true then (if bt228.2 = true then (if bt232.2 = true then (if bt226.1 = (rd t215 3) then ((impl_MemoryOk.f k bt232.1).bind fun t237 => (laws_FnMemory.j0 k t212 (Int.tmod (rd t215 0) (t212.length : Int)) (Int.tmod (rd t215 1) (t212.length : Int)) (Int.tmod (rd t215 2) 4) bt222.1 bt228.1 bt232.1 (!t237))) else (laws_FnMemory.j0 k t212 (Int.tmod (rd t215 0) (t212.length : Int)) (Int.tmod (rd t215 1) (t212.length : Int)) (Int.tmod (rd t215 2) 4) bt222.1 bt228.1 bt232.1 true)) else (laws_FnMemory.j0 k t212 (Int.tmod (rd t215 0) (t212.length : Int)) (Int.tmod (rd t215 1) (t212.length : Int)) (Int.tmod (rd t215 2) 4) bt222.1 bt228.1 bt232.1 true)) else (laws_FnMemory.j0 k t212 (Int.tmod (rd t215 0) (t212.length : Int)) (Int.tmod (rd t215 1) (t212.length : Int)) (Int.tmod (rd t215 2) 4) bt222.1 bt228.1 bt232.1 true)) else (laws_FnMemory.j0 k t212 (Int.tmod (rd t215 0) (t212.length : Int)) (Int.tmod (rd t215 1) (t212.length : Int)) (Int.tmod (rd t215 2) 4) bt222.1 bt228.1 bt232.1 true)) else (laws_FnMemory.j0 k t212 (Int.tmod (rd t215 0) (t212.length : Int)) (Int.tmod (rd t215 1) (t212.length : Int)) (Int.tmod (rd t215 2) 4) bt222.1 bt228.1 bt232.1 true)))))) else (none)) else (none)) else (none))) else (none)))))
def sumOf (ops : Array Oper) : List (Option Nat × List Nat × List Nat) := ops.toList.map fun o => (o.dst, o.looksAt ops, needsOf .any o)
def pairOk (k : Nat) (x y : Option Nat × List Nat × List Nat) : Bool := y.2.2.contains k || ((match x.1 with | some d => !y.2.1.contains d && y.1 != some d | none => true) && (match y.1 with | some d => !x.2.1.contains d | none => true))
def chkL : Nat → List (Option Nat × List Nat × List Nat) → Bool
  | _, [] => true
  | k, x :: xs => x.2.2.all (fun j => Nat.blt j k) && xs.all (pairOk k x) && chkL (k + 1) xs
theorem chkL_spec : ∀ (l : List (Option Nat × List Nat × List Nat)) (k : Nat), chkL k l = true → ∀ i x, l[i]? = some x → (∀ j ∈ x.2.2, j < k + i) ∧ ∀ i' y, i < i' → l[i']? = some y → pairOk (k + i) x y = true
  | [], _, _, i, x, h => by simp at h
  | z :: l, k, h, 0, x, hx => by
    simp only [chkL, Bool.and_eq_true, List.all_eq_true] at h
    obtain rfl : z = x := by simpa using hx
    refine ⟨fun j hj => (by have := h.1.1 j hj; rwa [Nat.blt_eq] at this), fun i' y hi hy => ?_⟩
    obtain ⟨i', rfl⟩ : ∃ m, i' = m + 1 := ⟨i' - 1, by omega⟩
    exact h.1.2 y (List.mem_of_getElem? (by simpa using hy))
  | z :: l, k, h, i + 1, x, hx => by
    simp only [chkL, Bool.and_eq_true] at h
    have := chkL_spec l (k + 1) h.2 i x (by simpa using hx)
    rw [show k + (i + 1) = k + 1 + i by omega]
    refine ⟨this.1, fun i' y hi hy => ?_⟩
    obtain ⟨i', rfl⟩ : ∃ m, i' = m + 1 := ⟨i' - 1, by omega⟩
    exact this.2 i' y (by omega) (by simpa using hy)
theorem lexFrom_of {ops : Array Oper} (hs : chkL 0 (sumOf ops) = true) : ∀ (fuel k : Nat) (listed : Array Bool), k + fuel = ops.size → (∀ i, i < ops.size → listed[i]? = some (decide (i < k))) → Region.lexFrom .any ops fuel k listed = true := by
  have hat : ∀ i o, ops[i]? = some o → (sumOf ops)[i]? = some (o.dst, o.looksAt ops, needsOf .any o) := fun i o h => by
    unfold sumOf
    rw [List.getElem?_map, Array.getElem?_toList, h]; rfl
  intro fuel
  induction fuel with
  | zero =>
    intro k listed hk hl
    unfold Region.lexFrom
    rw [List.isEmpty_iff]
    unfold Region.ready
    rw [List.filter_eq_nil_iff]
    intro i hi
    have hi := List.mem_range.1 hi
    have e : listed.getD i true = true := by rw [Array.getD_eq_getD_getElem?, hl i hi]; simp; omega
    rw [e]; simp
  | succ fuel ih =>
    intro k listed hk hl
    have hkl : k < ops.size := by omega
    obtain ⟨o, ho⟩ : ∃ o, ops[k]? = some o := ⟨ops[k], Array.getElem?_eq_some_iff.2 ⟨hkl, rfl⟩⟩
    obtain ⟨h1, h2⟩ := chkL_spec _ 0 hs k _ (hat k o ho)
    rw [Nat.zero_add] at h1 h2
    unfold Region.lexFrom
    rw [Bool.and_eq_true, Bool.and_eq_true]
    refine ⟨⟨?_, ?_⟩, ?_⟩
    · rw [List.contains_iff_mem]
      unfold Region.ready
      rw [List.mem_filter]
      refine ⟨List.mem_range.2 hkl, ?_⟩
      have e : listed.getD k true = false := by rw [Array.getD_eq_getD_getElem?, hl k hkl]; simp
      have e2 : o.after.all (fun e => !Region.binds .any e || listed.getD e.on false) = true := by
        rw [needs_all (md := .any) o (fun j => listed.getD j false), List.all_eq_true]
        intro j hj
        have := h1 j hj
        rw [Array.getD_eq_getD_getElem?, hl j (by omega)]; simpa using this
      rw [e, ho]
      simpa using e2
    · unfold Region.free
      rw [ho]
      simp only [List.all_eq_true, List.mem_range]
      intro j hj
      obtain ⟨oj, hoj⟩ : ∃ o, ops[j]? = some o := ⟨ops[j], Array.getElem?_eq_some_iff.2 ⟨hj, rfl⟩⟩
      have e : listed.getD j true = decide (j < k) := by rw [Array.getD_eq_getD_getElem?, hl j hj]; rfl
      rw [e, hoj]
      by_cases c : j = k
      · subst c; simp
      · by_cases c2 : j < k
        · simp [c2]
        · have hp := h2 j _ (by omega) (hat j oj hoj)
          unfold pairOk at hp
          rw [Bool.or_eq_true] at hp ⊢
          refine .inr ?_
          show (_ || _) = true
          rw [Bool.or_eq_true]
          rcases hp with hp | hp
          · refine .inl ?_
            rw [needs_any oj (fun e => e == k), List.any_eq_true]
            exact ⟨k, by simpa using hp, by simp⟩
          · exact .inr hp
    · refine ih (k + 1) _ (by omega) (fun i hi => ?_)
      by_cases c : i = k
      · subst c
        rw [Array.getElem?_setIfInBounds_self_of_lt (by have := hl i hi; exact (Array.getElem?_eq_some_iff.1 this).1)]; simp
      · rw [Array.getElem?_setIfInBounds_ne (by omega), hl i hi]
        congr 1
        simp only [decide_eq_decide]; omega
theorem lexB_of {ops : Array Oper} {S : List (Option Nat × List Nat × List Nat)} (hn : Region.noSelect ops = true) (hS : sumOf ops = S) (hc : chkL 0 S = true) : Region.lexB .any ops = true := by
  unfold Region.lexB
  rw [hn, Bool.true_and]
  exact lexFrom_of (hS ▸ hc) _ 0 _ (by omega) (fun i hi => by simp [hi])
set_option maxRecDepth 100000 in
def S20 : List (Option Nat × List Nat × List Nat) := [(some 106, [16], []), (some 107, [5], []), (some 108, [106, 107], [0, 1]), (some 109, [108], [2]), (some 110, [17, 109], [3]), (some 111, [7, 109], [3]), (some 112, [110, 111, 109], [4, 5, 3]), (some 113, [109, 112], [3, 6]), (some 114, [113], [7, 3]), (some 115, [8, 114], [8]), (some 116, [16, 114], [8]), (some 117, [115, 116, 114], [9, 10, 8]), (some 118, [117, 114], [11, 8]), (some 119, [17, 114], [8]), (some 120, [118, 119, 114], [12, 13, 8]), (some 121, [120, 114], [14, 8]), (some 122, [3, 114], [8]), (some 123, [16, 114], [8]), (some 124, [122, 123, 114], [16, 17, 8]), (some 125, [124, 114], [18, 8]), (some 126, [17, 114], [8]), (some 127, [125, 126, 114], [19, 20, 8]), (some 128, [127, 114], [21, 8]), (some 129, [121, 128, 114], [15, 22, 8]), (some 130, [114, 129], [8, 23]), (some 131, [130], [24, 8]), (some 132, [16, 131], [25]), (some 133, [6, 131], [25]), (some 134, [132, 133, 131], [26, 27, 25]), (some 135, [134, 131], [28, 25, 25]), (some 136, [12, 135], [29]), (some 137, [16, 135], [29]), (some 138, [136, 137, 135], [30, 31, 29]), (some 139, [138, 135], [32, 29]), (some 140, [17, 135], [29]), (some 141, [139, 140, 135], [33, 34, 29]), (some 142, [141, 135], [35, 29]), (some 143, [8, 135], [29]), (some 144, [16, 135], [29]), (some 145, [143, 144, 135], [37, 38, 29]), (some 146, [145, 135], [39, 29]), (some 147, [17, 135], [29]), (some 148, [146, 147, 135], [40, 41, 29]), (some 149, [148, 135], [42, 29]), (some 150, [142, 149, 135], [36, 43, 29]), (some 151, [135, 150, 131], [29, 44, 25]), (some 152, [131, 151], [25, 45]), (some 153, [152], [46, 29]), (some 154, [16, 153], [47]), (some 155, [6, 153], [47]), (some 156, [154, 155, 153], [48, 49, 47]), (some 157, [156, 153], [50, 47, 47]), (some 158, [12, 157], [51]), (some 159, [16, 157], [51]), (some 160, [158, 159, 157], [52, 53, 51]), (some 161, [160, 157], [54, 51]), (some 162, [17, 157], [51]), (some 163, [161, 162, 157], [55, 56, 51]), (some 164, [163, 157], [57, 51]), (some 165, [8, 157], [51]), (some 166, [5, 157], [51]), (some 167, [165, 166, 157], [59, 60, 51]), (some 168, [167, 157], [61, 51]), (some 169, [17, 157], [51]), (some 170, [168, 169, 157], [62, 63, 51]), (some 171, [170, 157], [64, 51]), (some 172, [164, 171, 157], [58, 65, 51]), (some 173, [157, 172, 153], [51, 66, 47]), (some 174, [153, 173], [47, 67]), (some 175, [174], [68, 51]), (some 176, [16, 175], [69]), (some 177, [5, 175], [69]), (some 178, [176, 177, 175], [70, 71, 69]), (some 179, [178, 175], [72, 69, 69]), (some 180, [14, 179], [73]), (some 181, [16, 179], [73]), (some 182, [180, 181, 179], [74, 75, 73]), (some 183, [182, 179], [76, 73]), (some 184, [17, 179], [73]), (some 185, [183, 184, 179], [77, 78, 73]), (some 186, [185, 179], [79, 73]), (some 187, [12, 179], [73]), (some 188, [16, 179], [73]), (some 189, [187, 188, 179], [81, 82, 73]), (some 190, [189, 179], [83, 73]), (some 191, [17, 179], [73]), (some 192, [190, 191, 179], [84, 85, 73]), (some 193, [192, 179], [86, 73]), (some 194, [186, 193, 179], [80, 87, 73]), (some 195, [179, 194, 175], [73, 88, 69]), (some 196, [175, 195], [69, 89]), (some 197, [196], [90, 73]), (some 198, [16, 197], [91]), (some 199, [5, 197], [91]), (some 200, [198, 199, 197], [92, 93, 91]), (some 201, [200, 197], [94, 91, 91]), (some 202, [14, 201], [95]), (some 203, [16, 201], [95]), (some 204, [202, 203, 201], [96, 97, 95]), (some 205, [204, 201], [98, 95]), (some 206, [17, 201], [95]), (some 207, [205, 206, 201], [99, 100, 95]), (some 208, [207, 201], [101, 95]), (some 209, [208, 201], [102, 95]), (some 210, [201, 209, 197], [95, 103, 91]), (some 211, [197, 210], [91, 104])]
set_option maxRecDepth 100000 in
theorem sum20 : sumOf (opsOf Try.f3 20) = S20 := by kernel_rfl
set_option maxRecDepth 100000 in
theorem chk20 : chkL 0 S20 = true := by kernel_rfl
set_option maxRecDepth 100000 in
theorem nos20 : Region.noSelect (opsOf Try.f3 20) = true := by kernel_rfl
theorem lex20 : Region.lexB .any (opsOf Try.f3 20) = true := lexB_of nos20 sum20 chk20
set_option maxHeartbeats 200000000 in
set_option maxRecDepth 100000 in
theorem laws_FnMemory.calls (k : Nat) (A0 : Option Addr) (c0 : Nat) (l0 : List Int) (r : Bool) (w : World) (hr0 : Kd.C (Kd.int .u8) w A0 l0.length l0) (hc0 : l0.length ≤ c0) (h : laws_FnMemory.f k l0 = some r) (hr_ : r = true) :
  Calls Try.prog 3 #[.slice A0 l0.length c0] w fun e w' => e = .returned (.bool r) ∧ Below w.heap.size w w' := by
 have HR0 := Aside0.mk hr0
 have HC0 := Aside0.mk hc0
 clear hr0 hc0
 have HB := Aside0.mk (Below.refl w.heap.size w)
 have H : ((laws_big.f l0).bind fun t211 => (if t211 = true then (some true) else ((spec_DrawRightMemory.f k l0).bind fun t212 => ((spec_DrawPlaces.f k l0).bind fun t215 => (if 0 < (t215.length : Int) then (if (t212.length : Int) = 0 then (none) else (if 1 < (t215.length : Int) then (if 2 < (t215.length : Int) then (if 3 < (t215.length : Int) then ((impl_Poke.f k t212 (Int.tmod (rd t215 0) (t212.length : Int)) (Int.tmod (rd t215 2) 4) (rd t215 3)).bind fun bt222 => ((impl_Peek.f k bt222.1 (Int.tmod (rd t215 0) (t212.length : Int)) (Int.tmod (rd t215 2) 4)).bind fun bt226 => ((impl_CopyFrame.f k bt222.1 (Int.tmod (rd t215 0) (t212.length : Int)) (Int.tmod (rd t215 1) (t212.length : Int))).bind fun bt228 => ((impl_ClearFrame.f k bt228.1 (Int.tmod (rd t215 0) (t212.length : Int))).bind fun bt232 => (if bt222.2 = true then (if bt226.2 = true then (if bt228.2 = true then (if bt232.2 = true then (if bt226.1 = (rd t215 3) then ((impl_MemoryOk.f k bt232.1).bind fun t237 => (laws_FnMemory.j0 k t212 (Int.tmod (rd t215 0) (t212.length : Int)) (Int.tmod (rd t215 1) (t212.length : Int)) (Int.tmod (rd t215 2) 4) bt222.1 bt228.1 bt232.1 (!t237))) else (laws_FnMemory.j0 k t212 (Int.tmod (rd t215 0) (t212.length : Int)) (Int.tmod (rd t215 1) (t212.length : Int)) (Int.tmod (rd t215 2) 4) bt222.1 bt228.1 bt232.1 true)) else (laws_FnMemory.j0 k t212 (Int.tmod (rd t215 0) (t212.length : Int)) (Int.tmod (rd t215 1) (t212.length : Int)) (Int.tmod (rd t215 2) 4) bt222.1 bt228.1 bt232.1 true)) else (laws_FnMemory.j0 k t212 (Int.tmod (rd t215 0) (t212.length : Int)) (Int.tmod (rd t215 1) (t212.length : Int)) (Int.tmod (rd t215 2) 4) bt222.1 bt228.1 bt232.1 true)) else (laws_FnMemory.j0 k t212 (Int.tmod (rd t215 0) (t212.length : Int)) (Int.tmod (rd t215 1) (t212.length : Int)) (Int.tmod (rd t215 2) 4) bt222.1 bt228.1 bt232.1 true)) else (laws_FnMemory.j0 k t212 (Int.tmod (rd t215 0) (t212.length : Int)) (Int.tmod (rd t215 1) (t212.length : Int)) (Int.tmod (rd t215 2) 4) bt222.1 bt228.1 bt232.1 true)))))) else (none)) else (none)) else (none))) else (none)))))) = some r := h
 clear h
 replace H := Option.bind_eq_some_iff.mp H
 obtain ⟨t211, A20, H⟩ := H
 replace H : (if t211 = true then (some true) else ((spec_DrawRightMemory.f k l0).bind fun t212 => ((spec_DrawPlaces.f k l0).bind fun t215 => (if 0 < (t215.length : Int) then (if (t212.length : Int) = 0 then (none) else (if 1 < (t215.length : Int) then (if 2 < (t215.length : Int) then (if 3 < (t215.length : Int) then ((impl_Poke.f k t212 (Int.tmod (rd t215 0) (t212.length : Int)) (Int.tmod (rd t215 2) 4) (rd t215 3)).bind fun bt222 => ((impl_Peek.f k bt222.1 (Int.tmod (rd t215 0) (t212.length : Int)) (Int.tmod (rd t215 2) 4)).bind fun bt226 => ((impl_CopyFrame.f k bt222.1 (Int.tmod (rd t215 0) (t212.length : Int)) (Int.tmod (rd t215 1) (t212.length : Int))).bind fun bt228 => ((impl_ClearFrame.f k bt228.1 (Int.tmod (rd t215 0) (t212.length : Int))).bind fun bt232 => (if bt222.2 = true then (if bt226.2 = true then (if bt228.2 = true then (if bt232.2 = true then (if bt226.1 = (rd t215 3) then ((impl_MemoryOk.f k bt232.1).bind fun t237 => (laws_FnMemory.j0 k t212 (Int.tmod (rd t215 0) (t212.length : Int)) (Int.tmod (rd t215 1) (t212.length : Int)) (Int.tmod (rd t215 2) 4) bt222.1 bt228.1 bt232.1 (!t237))) else (laws_FnMemory.j0 k t212 (Int.tmod (rd t215 0) (t212.length : Int)) (Int.tmod (rd t215 1) (t212.length : Int)) (Int.tmod (rd t215 2) 4) bt222.1 bt228.1 bt232.1 true)) else (laws_FnMemory.j0 k t212 (Int.tmod (rd t215 0) (t212.length : Int)) (Int.tmod (rd t215 1) (t212.length : Int)) (Int.tmod (rd t215 2) 4) bt222.1 bt228.1 bt232.1 true)) else (laws_FnMemory.j0 k t212 (Int.tmod (rd t215 0) (t212.length : Int)) (Int.tmod (rd t215 1) (t212.length : Int)) (Int.tmod (rd t215 2) 4) bt222.1 bt228.1 bt232.1 true)) else (laws_FnMemory.j0 k t212 (Int.tmod (rd t215 0) (t212.length : Int)) (Int.tmod (rd t215 1) (t212.length : Int)) (Int.tmod (rd t215 2) 4) bt222.1 bt228.1 bt232.1 true)) else (laws_FnMemory.j0 k t212 (Int.tmod (rd t215 0) (t212.length : Int)) (Int.tmod (rd t215 1) (t212.length : Int)) (Int.tmod (rd t215 2) 4) bt222.1 bt228.1 bt232.1 true)))))) else (none)) else (none)) else (none))) else (none))))) = some r := H
 have A2 := Aside0.mk A20
 clear A20
 by_cases c3 : t211 = true
 ·subst c3
  have H1 : (some true) = some r := by rw [if_pos rfl] at H; exact H
  clear H
  have H := H1
  clear H1
  obtain rfl := Option.some.inj H
  first
  | exact absurd hr_ (by decide)
  | (skip
     go_enter Try.func3, Try.ntmps3
     go_wp2_with (first | (go_at_call 7; (with_reducible refine (laws_big.calls _ _ l0 true _ ?side1 ?side2 A2.out).mono ?_); (case side1 => repeat (first | exact HR0.out | (with_reducible refine Kd.C_alloc ?_ _) | (with_reducible refine Kd.C_drewN ?_ _) | (with_reducible refine Kd.C_drew ?_))); (case side2 => exact HC0.out); rintro e w' ⟨rfl, ⟨nd, rfl⟩⟩; (try first | exact ⟨rfl, _, World.drewN_drewN _ _ _⟩ | exact ⟨rfl, _, Eq.trans (World.drewN_drewN _ _ _) (congrArg (World.drewN _) (Nat.add_assoc _ _ _))⟩)))
     repeat (go_quiet (first | (go_at_call 7; (with_reducible refine (laws_big.calls _ _ l0 true _ ?side1 ?side2 A2.out).mono ?_); (case side1 => repeat (first | exact HR0.out | (with_reducible refine Kd.C_alloc ?_ _) | (with_reducible refine Kd.C_drewN ?_ _) | (with_reducible refine Kd.C_drew ?_))); (case side2 => exact HC0.out); rintro e w' ⟨rfl, ⟨nd, rfl⟩⟩; (try first | exact ⟨rfl, _, World.drewN_drewN _ _ _⟩ | exact ⟨rfl, _, Eq.trans (World.drewN_drewN _ _ _) (congrArg (World.drewN _) (Nat.add_assoc _ _ _))⟩))); try go_wp2_with (first | (go_at_call 7; (with_reducible refine (laws_big.calls _ _ l0 true _ ?side1 ?side2 A2.out).mono ?_); (case side1 => repeat (first | exact HR0.out | (with_reducible refine Kd.C_alloc ?_ _) | (with_reducible refine Kd.C_drewN ?_ _) | (with_reducible refine Kd.C_drew ?_))); (case side2 => exact HC0.out); rintro e w' ⟨rfl, ⟨nd, rfl⟩⟩; (try first | exact ⟨rfl, _, World.drewN_drewN _ _ _⟩ | exact ⟨rfl, _, Eq.trans (World.drewN_drewN _ _ _) (congrArg (World.drewN _) (Nat.add_assoc _ _ _))⟩))))
     go_ret
     exact ⟨by first | rfl | (simp [errW_none, errW_some] <;> rfl) | (simp [*, errW_none, errW_some] <;> rfl), by repeat (first | (with_reducible first | exact HB.out | apply below_alloc | apply pw_below_drewN | apply below_drew1) | exact HB.out)⟩)
 replace c3 := Bool.eq_false_iff.mpr c3
 subst c3
 have H1 : ((spec_DrawRightMemory.f k l0).bind fun t212 => ((spec_DrawPlaces.f k l0).bind fun t215 => (if 0 < (t215.length : Int) then (if (t212.length : Int) = 0 then (none) else (if 1 < (t215.length : Int) then (if 2 < (t215.length : Int) then (if 3 < (t215.length : Int) then ((impl_Poke.f k t212 (Int.tmod (rd t215 0) (t212.length : Int)) (Int.tmod (rd t215 2) 4) (rd t215 3)).bind fun bt222 => ((impl_Peek.f k bt222.1 (Int.tmod (rd t215 0) (t212.length : Int)) (Int.tmod (rd t215 2) 4)).bind fun bt226 => ((impl_CopyFrame.f k bt222.1 (Int.tmod (rd t215 0) (t212.length : Int)) (Int.tmod (rd t215 1) (t212.length : Int))).bind fun bt228 => ((impl_ClearFrame.f k bt228.1 (Int.tmod (rd t215 0) (t212.length : Int))).bind fun bt232 => (if bt222.2 = true then (if bt226.2 = true then (if bt228.2 = true then (if bt232.2 = true then (if bt226.1 = (rd t215 3) then ((impl_MemoryOk.f k bt232.1).bind fun t237 => (laws_FnMemory.j0 k t212 (Int.tmod (rd t215 0) (t212.length : Int)) (Int.tmod (rd t215 1) (t212.length : Int)) (Int.tmod (rd t215 2) 4) bt222.1 bt228.1 bt232.1 (!t237))) else (laws_FnMemory.j0 k t212 (Int.tmod (rd t215 0) (t212.length : Int)) (Int.tmod (rd t215 1) (t212.length : Int)) (Int.tmod (rd t215 2) 4) bt222.1 bt228.1 bt232.1 true)) else (laws_FnMemory.j0 k t212 (Int.tmod (rd t215 0) (t212.length : Int)) (Int.tmod (rd t215 1) (t212.length : Int)) (Int.tmod (rd t215 2) 4) bt222.1 bt228.1 bt232.1 true)) else (laws_FnMemory.j0 k t212 (Int.tmod (rd t215 0) (t212.length : Int)) (Int.tmod (rd t215 1) (t212.length : Int)) (Int.tmod (rd t215 2) 4) bt222.1 bt228.1 bt232.1 true)) else (laws_FnMemory.j0 k t212 (Int.tmod (rd t215 0) (t212.length : Int)) (Int.tmod (rd t215 1) (t212.length : Int)) (Int.tmod (rd t215 2) 4) bt222.1 bt228.1 bt232.1 true)) else (laws_FnMemory.j0 k t212 (Int.tmod (rd t215 0) (t212.length : Int)) (Int.tmod (rd t215 1) (t212.length : Int)) (Int.tmod (rd t215 2) 4) bt222.1 bt228.1 bt232.1 true)))))) else (none)) else (none)) else (none))) else (none)))) = some r := by rw [if_neg (show ¬ (false = true) by decide)] at H; exact H
 clear H
 have H := H1
 clear H1
 replace H := Option.bind_eq_some_iff.mp H
 obtain ⟨t212, A40, H⟩ := H
 replace H : ((spec_DrawPlaces.f k l0).bind fun t215 => (if 0 < (t215.length : Int) then (if (t212.length : Int) = 0 then (none) else (if 1 < (t215.length : Int) then (if 2 < (t215.length : Int) then (if 3 < (t215.length : Int) then ((impl_Poke.f k t212 (Int.tmod (rd t215 0) (t212.length : Int)) (Int.tmod (rd t215 2) 4) (rd t215 3)).bind fun bt222 => ((impl_Peek.f k bt222.1 (Int.tmod (rd t215 0) (t212.length : Int)) (Int.tmod (rd t215 2) 4)).bind fun bt226 => ((impl_CopyFrame.f k bt222.1 (Int.tmod (rd t215 0) (t212.length : Int)) (Int.tmod (rd t215 1) (t212.length : Int))).bind fun bt228 => ((impl_ClearFrame.f k bt228.1 (Int.tmod (rd t215 0) (t212.length : Int))).bind fun bt232 => (if bt222.2 = true then (if bt226.2 = true then (if bt228.2 = true then (if bt232.2 = true then (if bt226.1 = (rd t215 3) then ((impl_MemoryOk.f k bt232.1).bind fun t237 => (laws_FnMemory.j0 k t212 (Int.tmod (rd t215 0) (t212.length : Int)) (Int.tmod (rd t215 1) (t212.length : Int)) (Int.tmod (rd t215 2) 4) bt222.1 bt228.1 bt232.1 (!t237))) else (laws_FnMemory.j0 k t212 (Int.tmod (rd t215 0) (t212.length : Int)) (Int.tmod (rd t215 1) (t212.length : Int)) (Int.tmod (rd t215 2) 4) bt222.1 bt228.1 bt232.1 true)) else (laws_FnMemory.j0 k t212 (Int.tmod (rd t215 0) (t212.length : Int)) (Int.tmod (rd t215 1) (t212.length : Int)) (Int.tmod (rd t215 2) 4) bt222.1 bt228.1 bt232.1 true)) else (laws_FnMemory.j0 k t212 (Int.tmod (rd t215 0) (t212.length : Int)) (Int.tmod (rd t215 1) (t212.length : Int)) (Int.tmod (rd t215 2) 4) bt222.1 bt228.1 bt232.1 true)) else (laws_FnMemory.j0 k t212 (Int.tmod (rd t215 0) (t212.length : Int)) (Int.tmod (rd t215 1) (t212.length : Int)) (Int.tmod (rd t215 2) 4) bt222.1 bt228.1 bt232.1 true)) else (laws_FnMemory.j0 k t212 (Int.tmod (rd t215 0) (t212.length : Int)) (Int.tmod (rd t215 1) (t212.length : Int)) (Int.tmod (rd t215 2) 4) bt222.1 bt228.1 bt232.1 true)))))) else (none)) else (none)) else (none))) else (none))) = some r := H
 have A4 := Aside0.mk A40
 clear A40
 replace H := Option.bind_eq_some_iff.mp H
 obtain ⟨t215, A50, H⟩ := H
 replace H : (if 0 < (t215.length : Int) then (if (t212.length : Int) = 0 then (none) else (if 1 < (t215.length : Int) then (if 2 < (t215.length : Int) then (if 3 < (t215.length : Int) then ((impl_Poke.f k t212 (Int.tmod (rd t215 0) (t212.length : Int)) (Int.tmod (rd t215 2) 4) (rd t215 3)).bind fun bt222 => ((impl_Peek.f k bt222.1 (Int.tmod (rd t215 0) (t212.length : Int)) (Int.tmod (rd t215 2) 4)).bind fun bt226 => ((impl_CopyFrame.f k bt222.1 (Int.tmod (rd t215 0) (t212.length : Int)) (Int.tmod (rd t215 1) (t212.length : Int))).bind fun bt228 => ((impl_ClearFrame.f k bt228.1 (Int.tmod (rd t215 0) (t212.length : Int))).bind fun bt232 => (if bt222.2 = true then (if bt226.2 = true then (if bt228.2 = true then (if bt232.2 = true then (if bt226.1 = (rd t215 3) then ((impl_MemoryOk.f k bt232.1).bind fun t237 => (laws_FnMemory.j0 k t212 (Int.tmod (rd t215 0) (t212.length : Int)) (Int.tmod (rd t215 1) (t212.length : Int)) (Int.tmod (rd t215 2) 4) bt222.1 bt228.1 bt232.1 (!t237))) else (laws_FnMemory.j0 k t212 (Int.tmod (rd t215 0) (t212.length : Int)) (Int.tmod (rd t215 1) (t212.length : Int)) (Int.tmod (rd t215 2) 4) bt222.1 bt228.1 bt232.1 true)) else (laws_FnMemory.j0 k t212 (Int.tmod (rd t215 0) (t212.length : Int)) (Int.tmod (rd t215 1) (t212.length : Int)) (Int.tmod (rd t215 2) 4) bt222.1 bt228.1 bt232.1 true)) else (laws_FnMemory.j0 k t212 (Int.tmod (rd t215 0) (t212.length : Int)) (Int.tmod (rd t215 1) (t212.length : Int)) (Int.tmod (rd t215 2) 4) bt222.1 bt228.1 bt232.1 true)) else (laws_FnMemory.j0 k t212 (Int.tmod (rd t215 0) (t212.length : Int)) (Int.tmod (rd t215 1) (t212.length : Int)) (Int.tmod (rd t215 2) 4) bt222.1 bt228.1 bt232.1 true)) else (laws_FnMemory.j0 k t212 (Int.tmod (rd t215 0) (t212.length : Int)) (Int.tmod (rd t215 1) (t212.length : Int)) (Int.tmod (rd t215 2) 4) bt222.1 bt228.1 bt232.1 true)))))) else (none)) else (none)) else (none))) else (none)) = some r := H
 have A5 := Aside0.mk A50
 clear A50
 by_cases c6 : 0 < (t215.length : Int)
 rotate_left
 ·rw [if_neg c6] at H
  exact absurd H (by simp)
 rw [if_pos c6] at H
 have c6b0 : decide (0 < (t215.length : Int)) = true := decide_eq_true c6
 have c6b1 : decide (0 < t215.length) = true := decide_eq_true (by omega)
 clear c6
 by_cases c7 : (t212.length : Int) = 0
 ·rw [if_pos c7] at H
  exact absurd H (by simp)
 rw [if_neg c7] at H
 have c7b0 : ((t212.length : Int) == 0) = false := beq_eq_false_iff_ne.mpr c7
 have c7b1 : ((t212.length : Int) != 0) = true := bne_iff_ne.mpr c7
 have c7b2 : ¬ (t212 = []) := fun h_ => c7 (by rw [h_]; rfl)
 by_cases c8 : 1 < (t215.length : Int)
 rotate_left
 ·rw [if_neg c8] at H
  exact absurd H (by simp)
 rw [if_pos c8] at H
 have c8b0 : decide (1 < (t215.length : Int)) = true := decide_eq_true c8
 have c8b1 : decide (1 < t215.length) = true := decide_eq_true (by omega)
 clear c8
 by_cases c9 : 2 < (t215.length : Int)
 rotate_left
 ·rw [if_neg c9] at H
  exact absurd H (by simp)
 rw [if_pos c9] at H
 have c9b0 : decide (2 < (t215.length : Int)) = true := decide_eq_true c9
 have c9b1 : decide (2 < t215.length) = true := decide_eq_true (by omega)
 clear c9
 by_cases c10 : 3 < (t215.length : Int)
 rotate_left
 ·rw [if_neg c10] at H
  exact absurd H (by simp)
 rw [if_pos c10] at H
 have c10b0 : decide (3 < (t215.length : Int)) = true := decide_eq_true c10
 have c10b1 : decide (3 < t215.length) = true := decide_eq_true (by omega)
 clear c10
 replace H := Option.bind_eq_some_iff.mp H
 obtain ⟨⟨t222, t223⟩, A110, H⟩ := H
 replace H : ((impl_Peek.f k t222 (Int.tmod (rd t215 0) (t212.length : Int)) (Int.tmod (rd t215 2) 4)).bind fun bt226 => ((impl_CopyFrame.f k t222 (Int.tmod (rd t215 0) (t212.length : Int)) (Int.tmod (rd t215 1) (t212.length : Int))).bind fun bt228 => ((impl_ClearFrame.f k bt228.1 (Int.tmod (rd t215 0) (t212.length : Int))).bind fun bt232 => (if t223 = true then (if bt226.2 = true then (if bt228.2 = true then (if bt232.2 = true then (if bt226.1 = (rd t215 3) then ((impl_MemoryOk.f k bt232.1).bind fun t237 => (laws_FnMemory.j0 k t212 (Int.tmod (rd t215 0) (t212.length : Int)) (Int.tmod (rd t215 1) (t212.length : Int)) (Int.tmod (rd t215 2) 4) t222 bt228.1 bt232.1 (!t237))) else (laws_FnMemory.j0 k t212 (Int.tmod (rd t215 0) (t212.length : Int)) (Int.tmod (rd t215 1) (t212.length : Int)) (Int.tmod (rd t215 2) 4) t222 bt228.1 bt232.1 true)) else (laws_FnMemory.j0 k t212 (Int.tmod (rd t215 0) (t212.length : Int)) (Int.tmod (rd t215 1) (t212.length : Int)) (Int.tmod (rd t215 2) 4) t222 bt228.1 bt232.1 true)) else (laws_FnMemory.j0 k t212 (Int.tmod (rd t215 0) (t212.length : Int)) (Int.tmod (rd t215 1) (t212.length : Int)) (Int.tmod (rd t215 2) 4) t222 bt228.1 bt232.1 true)) else (laws_FnMemory.j0 k t212 (Int.tmod (rd t215 0) (t212.length : Int)) (Int.tmod (rd t215 1) (t212.length : Int)) (Int.tmod (rd t215 2) 4) t222 bt228.1 bt232.1 true)) else (laws_FnMemory.j0 k t212 (Int.tmod (rd t215 0) (t212.length : Int)) (Int.tmod (rd t215 1) (t212.length : Int)) (Int.tmod (rd t215 2) 4) t222 bt228.1 bt232.1 true))))) = some r := H
 have A11 := Aside0.mk A110
 clear A110
 replace H := Option.bind_eq_some_iff.mp H
 obtain ⟨⟨t226, t227⟩, A120, H⟩ := H
 replace H : ((impl_CopyFrame.f k t222 (Int.tmod (rd t215 0) (t212.length : Int)) (Int.tmod (rd t215 1) (t212.length : Int))).bind fun bt228 => ((impl_ClearFrame.f k bt228.1 (Int.tmod (rd t215 0) (t212.length : Int))).bind fun bt232 => (if t223 = true then (if t227 = true then (if bt228.2 = true then (if bt232.2 = true then (if t226 = (rd t215 3) then ((impl_MemoryOk.f k bt232.1).bind fun t237 => (laws_FnMemory.j0 k t212 (Int.tmod (rd t215 0) (t212.length : Int)) (Int.tmod (rd t215 1) (t212.length : Int)) (Int.tmod (rd t215 2) 4) t222 bt228.1 bt232.1 (!t237))) else (laws_FnMemory.j0 k t212 (Int.tmod (rd t215 0) (t212.length : Int)) (Int.tmod (rd t215 1) (t212.length : Int)) (Int.tmod (rd t215 2) 4) t222 bt228.1 bt232.1 true)) else (laws_FnMemory.j0 k t212 (Int.tmod (rd t215 0) (t212.length : Int)) (Int.tmod (rd t215 1) (t212.length : Int)) (Int.tmod (rd t215 2) 4) t222 bt228.1 bt232.1 true)) else (laws_FnMemory.j0 k t212 (Int.tmod (rd t215 0) (t212.length : Int)) (Int.tmod (rd t215 1) (t212.length : Int)) (Int.tmod (rd t215 2) 4) t222 bt228.1 bt232.1 true)) else (laws_FnMemory.j0 k t212 (Int.tmod (rd t215 0) (t212.length : Int)) (Int.tmod (rd t215 1) (t212.length : Int)) (Int.tmod (rd t215 2) 4) t222 bt228.1 bt232.1 true)) else (laws_FnMemory.j0 k t212 (Int.tmod (rd t215 0) (t212.length : Int)) (Int.tmod (rd t215 1) (t212.length : Int)) (Int.tmod (rd t215 2) 4) t222 bt228.1 bt232.1 true)))) = some r := H
 have A12 := Aside0.mk A120
 clear A120
 replace H := Option.bind_eq_some_iff.mp H
 obtain ⟨⟨t228, t229⟩, A130, H⟩ := H
 replace H : ((impl_ClearFrame.f k t228 (Int.tmod (rd t215 0) (t212.length : Int))).bind fun bt232 => (if t223 = true then (if t227 = true then (if t229 = true then (if bt232.2 = true then (if t226 = (rd t215 3) then ((impl_MemoryOk.f k bt232.1).bind fun t237 => (laws_FnMemory.j0 k t212 (Int.tmod (rd t215 0) (t212.length : Int)) (Int.tmod (rd t215 1) (t212.length : Int)) (Int.tmod (rd t215 2) 4) t222 t228 bt232.1 (!t237))) else (laws_FnMemory.j0 k t212 (Int.tmod (rd t215 0) (t212.length : Int)) (Int.tmod (rd t215 1) (t212.length : Int)) (Int.tmod (rd t215 2) 4) t222 t228 bt232.1 true)) else (laws_FnMemory.j0 k t212 (Int.tmod (rd t215 0) (t212.length : Int)) (Int.tmod (rd t215 1) (t212.length : Int)) (Int.tmod (rd t215 2) 4) t222 t228 bt232.1 true)) else (laws_FnMemory.j0 k t212 (Int.tmod (rd t215 0) (t212.length : Int)) (Int.tmod (rd t215 1) (t212.length : Int)) (Int.tmod (rd t215 2) 4) t222 t228 bt232.1 true)) else (laws_FnMemory.j0 k t212 (Int.tmod (rd t215 0) (t212.length : Int)) (Int.tmod (rd t215 1) (t212.length : Int)) (Int.tmod (rd t215 2) 4) t222 t228 bt232.1 true)) else (laws_FnMemory.j0 k t212 (Int.tmod (rd t215 0) (t212.length : Int)) (Int.tmod (rd t215 1) (t212.length : Int)) (Int.tmod (rd t215 2) 4) t222 t228 bt232.1 true))) = some r := H
 have A13 := Aside0.mk A130
 clear A130
 replace H := Option.bind_eq_some_iff.mp H
 obtain ⟨⟨t232, t233⟩, A140, H⟩ := H
 replace H : (if t223 = true then (if t227 = true then (if t229 = true then (if t233 = true then (if t226 = (rd t215 3) then ((impl_MemoryOk.f k t232).bind fun t237 => (laws_FnMemory.j0 k t212 (Int.tmod (rd t215 0) (t212.length : Int)) (Int.tmod (rd t215 1) (t212.length : Int)) (Int.tmod (rd t215 2) 4) t222 t228 t232 (!t237))) else (laws_FnMemory.j0 k t212 (Int.tmod (rd t215 0) (t212.length : Int)) (Int.tmod (rd t215 1) (t212.length : Int)) (Int.tmod (rd t215 2) 4) t222 t228 t232 true)) else (laws_FnMemory.j0 k t212 (Int.tmod (rd t215 0) (t212.length : Int)) (Int.tmod (rd t215 1) (t212.length : Int)) (Int.tmod (rd t215 2) 4) t222 t228 t232 true)) else (laws_FnMemory.j0 k t212 (Int.tmod (rd t215 0) (t212.length : Int)) (Int.tmod (rd t215 1) (t212.length : Int)) (Int.tmod (rd t215 2) 4) t222 t228 t232 true)) else (laws_FnMemory.j0 k t212 (Int.tmod (rd t215 0) (t212.length : Int)) (Int.tmod (rd t215 1) (t212.length : Int)) (Int.tmod (rd t215 2) 4) t222 t228 t232 true)) else (laws_FnMemory.j0 k t212 (Int.tmod (rd t215 0) (t212.length : Int)) (Int.tmod (rd t215 1) (t212.length : Int)) (Int.tmod (rd t215 2) 4) t222 t228 t232 true)) = some r := H
 have A14 := Aside0.mk A140
 clear A140
 have HC15 := Aside0.mk H
 clear H
 go_enter Try.func3, Try.ntmps3
 go_upto_region 12 with (first | (go_at_call 7; (with_reducible refine (laws_big.calls _ _ l0 false _ ?side1 ?side2 A2.out).mono ?_); (case side1 => repeat (first | exact HR0.out | (with_reducible refine Kd.C_alloc ?_ _) | (with_reducible refine Kd.C_drewN ?_ _) | (with_reducible refine Kd.C_drew ?_))); (case side2 => exact HC0.out); rintro e w' ⟨rfl, ⟨nd, rfl⟩⟩; (try first | exact ⟨rfl, _, World.drewN_drewN _ _ _⟩ | exact ⟨rfl, _, Eq.trans (World.drewN_drewN _ _ _) (congrArg (World.drewN _) (Nat.add_assoc _ _ _))⟩)) | (go_at_call 8; (with_reducible refine (spec_DrawRightMemory.calls k _ _ l0 t212 _ ?side1 ?side2 A4.out).mono ?_); (case side1 => repeat (first | exact HR0.out | (with_reducible refine Kd.C_alloc ?_ _) | (with_reducible refine Kd.C_drewN ?_ _) | (with_reducible refine Kd.C_drew ?_))); (case side2 => exact HC0.out); rintro e w16 ⟨v213, rfl, ho0, hb⟩; have n0_ := Aside0.mk (Kd.S_lower ho0 (below_size (by repeat (first | (with_reducible first | exact HB.out | apply below_alloc | apply pw_below_drewN | apply below_drew1) | exact HB.out)))); have n1_ := Aside0.mk (below_step (by repeat (first | (with_reducible first | exact HB.out | apply below_alloc | apply pw_below_drewN | apply below_drew1) | exact HB.out)) hb); clear HB; have HO214 := n0_; have HB := n1_; clear n0_ n1_; (try clear hb); (try clear hb2); (try clear hk); (try clear hi); (try clear ho0)) | (go_at_call 9; (with_reducible refine (spec_DrawPlaces.calls k _ _ l0 t215 _ ?side1 ?side2 A5.out).mono ?_); (case side1 => repeat (first | exact (Kd.C_below HR0.out HB.out) | (with_reducible refine Kd.C_alloc ?_ _) | (with_reducible refine Kd.C_drewN ?_ _) | (with_reducible refine Kd.C_drew ?_))); (case side2 => exact HC0.out); rintro e w17 ⟨v216, rfl, ho0, hb⟩; have n0_ := Aside0.mk (Kd.S_elder' (by (with_reducible repeat (first | apply Kd.S_alloc | apply Kd.S_drewN | apply Kd.S_drew)); exact HO214.out) (Kd.R_base ho0) hb); have n1_ := Aside0.mk (Kd.R_lower ho0 (below_size (by repeat (first | (with_reducible first | exact HB.out | apply below_alloc | apply pw_below_drewN | apply below_drew1) | exact HB.out)))); have n2_ := Aside0.mk (below_step (by repeat (first | (with_reducible first | exact HB.out | apply below_alloc | apply pw_below_drewN | apply below_drew1) | exact HB.out)) hb); clear HO214; clear HB; have HO214 := n0_; have HO217 := n1_; have HB := n2_; clear n0_ n1_ n2_; (try clear hb); (try clear hb2); (try clear hk); (try clear hi); (try clear ho0); obtain ⟨Ao18, co18, eo18⟩ := Kd.R_slice HO217.out; subst eo18; have p218 : 0 ≤ (0 : Int) := (by omega); have q218 : 0 < (t215.length : Int) := of_decide_eq_true (by first | (with_reducible assumption) | assumption); obtain ⟨ad218, e218, hx218_0⟩ := Kd.at_int (Kd.R_reads' HO217.out).2.2 0 p218 q218; cases e218; have qi218 : (0 < t215.length) = True := eq_true (by omega); (try rw [show ((0 : Int)).toNat = 0 from rfl] at hx218_0); (try rw [Addr.add_zero'] at hx218_0); replace p218 := eq_true p218; replace q218 := eq_true q218; obtain ⟨Ao19, co19, eo19⟩ := Kd.S_slice HO214.out; subst eo19; have p219 : 0 ≤ (1 : Int) := (by omega); have q219 : 1 < (t215.length : Int) := of_decide_eq_true (by first | (with_reducible assumption) | assumption); obtain ⟨ad219, e219, hx219_0⟩ := Kd.at_int (Kd.R_reads' HO217.out).2.2 1 p219 q219; obtain rfl : ad218 = ad219 := (by injection e219); (try simp only [show (1 : Int).toNat = 1 from rfl, Nat.reduceMul, Nat.reduceEqDiff, Go.Addr.add, ↓reduceIte] at hx219_0); have qi219 : (1 < t215.length) = True := eq_true (by omega); (try rw [show ((1 : Int)).toNat = 1 from rfl] at hx219_0); replace p219 := eq_true p219; replace q219 := eq_true q219; have p220 : 0 ≤ (2 : Int) := (by omega); have q220 : 2 < (t215.length : Int) := of_decide_eq_true (by first | (with_reducible assumption) | assumption); obtain ⟨ad220, e220, hx220_0⟩ := Kd.at_int (Kd.R_reads' HO217.out).2.2 2 p220 q220; obtain rfl : ad218 = ad220 := (by injection e220); (try simp only [show (2 : Int).toNat = 2 from rfl, Nat.reduceMul, Nat.reduceEqDiff, Go.Addr.add, ↓reduceIte] at hx220_0); have qi220 : (2 < t215.length) = True := eq_true (by omega); (try rw [show ((2 : Int)).toNat = 2 from rfl] at hx220_0); replace p220 := eq_true p220; replace q220 := eq_true q220; have p221 : 0 ≤ (3 : Int) := (by omega); have q221 : 3 < (t215.length : Int) := of_decide_eq_true (by first | (with_reducible assumption) | assumption); obtain ⟨ad221, e221, hx221_0⟩ := Kd.at_int (Kd.R_reads' HO217.out).2.2 3 p221 q221; obtain rfl : ad218 = ad221 := (by injection e221); (try simp only [show (3 : Int).toNat = 3 from rfl, Nat.reduceMul, Nat.reduceEqDiff, Go.Addr.add, ↓reduceIte] at hx221_0); have qi221 : (3 < t215.length) = True := eq_true (by omega); (try rw [show ((3 : Int)).toNat = 3 from rfl] at hx221_0); replace p221 := eq_true p221; replace q221 := eq_true q221) | (go_at_call 10; (with_reducible refine (impl_Poke.calls k _ _ t212 (Int.tmod (rd t215 0) (t212.length : Int)) (Int.tmod (rd t215 2) 4) (rd t215 3) t222 t223 _ ?side1 ?side2 A11.out).mono ?_); (case side1 => repeat (first | exact (Kd.S_reads' HO214.out).2.2 | (with_reducible refine Kd.C_alloc ?_ _) | (with_reducible refine Kd.C_drewN ?_ _) | (with_reducible refine Kd.C_drew ?_))); (case side2 => exact (Kd.S_reads' HO214.out).2.1); rintro e w20 ⟨v224, rfl, ho0, hb⟩; have n0_ := Aside0.mk (Kd.S_elder' (by (with_reducible repeat (first | apply Kd.S_alloc | apply Kd.S_drewN | apply Kd.S_drew)); exact HO214.out) (Kd.S_base ho0) hb); have n1_ := Aside0.mk (Kd.R_below (by (with_reducible repeat (first | apply Kd.R_alloc | apply Kd.R_drewN | apply Kd.R_drew)); exact HO217.out) hb); have n2_ := Aside0.mk (Kd.S_lower (Kd.S_new' (Kd.S_new' ho0 (Kd.S_lt (by (with_reducible repeat (first | apply Kd.S_alloc | apply Kd.S_drewN | apply Kd.S_drew)); exact HO214.out))) (Kd.R_lt (by (with_reducible repeat (first | apply Kd.R_alloc | apply Kd.R_drewN | apply Kd.R_drew)); exact HO217.out))) (below_size (by repeat (first | (with_reducible first | exact HB.out | apply below_alloc | apply pw_below_drewN | apply below_drew1) | exact HB.out)))); have n3_ := Aside0.mk (below_step (by repeat (first | (with_reducible first | exact HB.out | apply below_alloc | apply pw_below_drewN | apply below_drew1) | exact HB.out)) hb); clear HO214; clear HO217; clear HB; have HO214 := n0_; have HO217 := n1_; have HO225 := n2_; have HB := n3_; clear n0_ n1_ n2_ n3_; (try clear hb); (try clear hb2); (try clear hk); (try clear hi); (try clear ho0); obtain ⟨Ao21, co21, eo21⟩ := Kd.S_slice HO225.out; subst eo21) | (go_at_call 11; (with_reducible refine (impl_Peek.calls k _ _ t222 (Int.tmod (rd t215 0) (t212.length : Int)) (Int.tmod (rd t215 2) 4) t226 t227 _ ?side1 ?side2 A12.out).mono ?_); (case side1 => repeat (first | exact (Kd.S_reads' HO225.out).2.2 | (with_reducible refine Kd.C_alloc ?_ _) | (with_reducible refine Kd.C_drewN ?_ _) | (with_reducible refine Kd.C_drew ?_))); (case side2 => exact (Kd.S_reads' HO225.out).2.1); rintro e w' ⟨rfl, ⟨nd, rfl⟩⟩; (try first | exact ⟨rfl, _, World.drewN_drewN _ _ _⟩ | exact ⟨rfl, _, Eq.trans (World.drewN_drewN _ _ _) (congrArg (World.drewN _) (Nat.add_assoc _ _ _))⟩)) | (go_at_call 12; (with_reducible refine (impl_CopyFrame.calls k _ _ t222 (Int.tmod (rd t215 0) (t212.length : Int)) (Int.tmod (rd t215 1) (t212.length : Int)) t228 t229 _ ?side1 ?side2 A13.out).mono ?_); (case side1 => repeat (first | exact (Kd.S_reads' HO225.out).2.2 | (with_reducible refine Kd.C_alloc ?_ _) | (with_reducible refine Kd.C_drewN ?_ _) | (with_reducible refine Kd.C_drew ?_))); (case side2 => exact (Kd.S_reads' HO225.out).2.1); rintro e w22 ⟨v230, rfl, ho0, hb⟩; have n0_ := Aside0.mk (Kd.S_elder' (by (with_reducible repeat (first | apply Kd.S_alloc | apply Kd.S_drewN | apply Kd.S_drew)); exact HO214.out) (Kd.S_base ho0) hb); have n1_ := Aside0.mk (Kd.R_below (by (with_reducible repeat (first | apply Kd.R_alloc | apply Kd.R_drewN | apply Kd.R_drew)); exact HO217.out) hb); have n2_ := Aside0.mk (Kd.S_elder' (by (with_reducible repeat (first | apply Kd.S_alloc | apply Kd.S_drewN | apply Kd.S_drew)); exact HO225.out) (Kd.S_base ho0) hb); have n3_ := Aside0.mk (Kd.S_lower (Kd.S_new' (Kd.S_new' (Kd.S_new' ho0 (Kd.S_lt (by (with_reducible repeat (first | apply Kd.S_alloc | apply Kd.S_drewN | apply Kd.S_drew)); exact HO214.out))) (Kd.R_lt (by (with_reducible repeat (first | apply Kd.R_alloc | apply Kd.R_drewN | apply Kd.R_drew)); exact HO217.out))) (Kd.S_lt (by (with_reducible repeat (first | apply Kd.S_alloc | apply Kd.S_drewN | apply Kd.S_drew)); exact HO225.out))) (below_size (by repeat (first | (with_reducible first | exact HB.out | apply below_alloc | apply pw_below_drewN | apply below_drew1) | exact HB.out)))); have n4_ := Aside0.mk (below_step (by repeat (first | (with_reducible first | exact HB.out | apply below_alloc | apply pw_below_drewN | apply below_drew1) | exact HB.out)) hb); clear HO214; clear HO217; clear HO225; clear HB; have HO214 := n0_; have HO217 := n1_; have HO225 := n2_; have HO231 := n3_; have HB := n4_; clear n0_ n1_ n2_ n3_ n4_; (try clear hb); (try clear hb2); (try clear hk); (try clear hi); (try clear ho0); obtain ⟨Ao23, co23, eo23⟩ := Kd.S_slice HO231.out; subst eo23) | (go_at_call 13; (with_reducible refine (impl_ClearFrame.calls k _ _ t228 (Int.tmod (rd t215 0) (t212.length : Int)) t232 t233 _ ?side1 ?side2 A14.out).mono ?_); (case side1 => repeat (first | exact (Kd.S_reads' HO231.out).2.2 | (with_reducible refine Kd.C_alloc ?_ _) | (with_reducible refine Kd.C_drewN ?_ _) | (with_reducible refine Kd.C_drew ?_))); (case side2 => exact (Kd.S_reads' HO231.out).2.1); rintro e w24 ⟨v234, rfl, ho0, hb⟩; have n0_ := Aside0.mk (Kd.S_elder' (by (with_reducible repeat (first | apply Kd.S_alloc | apply Kd.S_drewN | apply Kd.S_drew)); exact HO214.out) (Kd.S_base ho0) hb); have n1_ := Aside0.mk (Kd.R_below (by (with_reducible repeat (first | apply Kd.R_alloc | apply Kd.R_drewN | apply Kd.R_drew)); exact HO217.out) hb); have n2_ := Aside0.mk (Kd.S_elder' (by (with_reducible repeat (first | apply Kd.S_alloc | apply Kd.S_drewN | apply Kd.S_drew)); exact HO225.out) (Kd.S_base ho0) hb); have n3_ := Aside0.mk (Kd.S_elder' (by (with_reducible repeat (first | apply Kd.S_alloc | apply Kd.S_drewN | apply Kd.S_drew)); exact HO231.out) (Kd.S_base ho0) hb); have n4_ := Aside0.mk (Kd.S_lower (Kd.S_new' (Kd.S_new' (Kd.S_new' (Kd.S_new' ho0 (Kd.S_lt (by (with_reducible repeat (first | apply Kd.S_alloc | apply Kd.S_drewN | apply Kd.S_drew)); exact HO214.out))) (Kd.R_lt (by (with_reducible repeat (first | apply Kd.R_alloc | apply Kd.R_drewN | apply Kd.R_drew)); exact HO217.out))) (Kd.S_lt (by (with_reducible repeat (first | apply Kd.S_alloc | apply Kd.S_drewN | apply Kd.S_drew)); exact HO225.out))) (Kd.S_lt (by (with_reducible repeat (first | apply Kd.S_alloc | apply Kd.S_drewN | apply Kd.S_drew)); exact HO231.out))) (below_size (by repeat (first | (with_reducible first | exact HB.out | apply below_alloc | apply pw_below_drewN | apply below_drew1) | exact HB.out)))); have n5_ := Aside0.mk (below_step (by repeat (first | (with_reducible first | exact HB.out | apply below_alloc | apply pw_below_drewN | apply below_drew1) | exact HB.out)) hb); clear HO214; clear HO217; clear HO225; clear HO231; clear HB; have HO214 := n0_; have HO217 := n1_; have HO225 := n2_; have HO231 := n3_; have HO235 := n4_; have HB := n5_; clear n0_ n1_ n2_ n3_ n4_ n5_; (try clear hb); (try clear hb2); (try clear hk); (try clear hi); (try clear ho0)))
 repeat (go_quiet (first | (go_at_call 7; (with_reducible refine (laws_big.calls _ _ l0 false _ ?side1 ?side2 A2.out).mono ?_); (case side1 => repeat (first | exact HR0.out | (with_reducible refine Kd.C_alloc ?_ _) | (with_reducible refine Kd.C_drewN ?_ _) | (with_reducible refine Kd.C_drew ?_))); (case side2 => exact HC0.out); rintro e w' ⟨rfl, ⟨nd, rfl⟩⟩; (try first | exact ⟨rfl, _, World.drewN_drewN _ _ _⟩ | exact ⟨rfl, _, Eq.trans (World.drewN_drewN _ _ _) (congrArg (World.drewN _) (Nat.add_assoc _ _ _))⟩)) | (go_at_call 8; (with_reducible refine (spec_DrawRightMemory.calls k _ _ l0 t212 _ ?side1 ?side2 A4.out).mono ?_); (case side1 => repeat (first | exact HR0.out | (with_reducible refine Kd.C_alloc ?_ _) | (with_reducible refine Kd.C_drewN ?_ _) | (with_reducible refine Kd.C_drew ?_))); (case side2 => exact HC0.out); rintro e w16 ⟨v213, rfl, ho0, hb⟩; have n0_ := Aside0.mk (Kd.S_lower ho0 (below_size (by repeat (first | (with_reducible first | exact HB.out | apply below_alloc | apply pw_below_drewN | apply below_drew1) | exact HB.out)))); have n1_ := Aside0.mk (below_step (by repeat (first | (with_reducible first | exact HB.out | apply below_alloc | apply pw_below_drewN | apply below_drew1) | exact HB.out)) hb); clear HB; have HO214 := n0_; have HB := n1_; clear n0_ n1_; (try clear hb); (try clear hb2); (try clear hk); (try clear hi); (try clear ho0)) | (go_at_call 9; (with_reducible refine (spec_DrawPlaces.calls k _ _ l0 t215 _ ?side1 ?side2 A5.out).mono ?_); (case side1 => repeat (first | exact (Kd.C_below HR0.out HB.out) | (with_reducible refine Kd.C_alloc ?_ _) | (with_reducible refine Kd.C_drewN ?_ _) | (with_reducible refine Kd.C_drew ?_))); (case side2 => exact HC0.out); rintro e w17 ⟨v216, rfl, ho0, hb⟩; have n0_ := Aside0.mk (Kd.S_elder' (by (with_reducible repeat (first | apply Kd.S_alloc | apply Kd.S_drewN | apply Kd.S_drew)); exact HO214.out) (Kd.R_base ho0) hb); have n1_ := Aside0.mk (Kd.R_lower ho0 (below_size (by repeat (first | (with_reducible first | exact HB.out | apply below_alloc | apply pw_below_drewN | apply below_drew1) | exact HB.out)))); have n2_ := Aside0.mk (below_step (by repeat (first | (with_reducible first | exact HB.out | apply below_alloc | apply pw_below_drewN | apply below_drew1) | exact HB.out)) hb); clear HO214; clear HB; have HO214 := n0_; have HO217 := n1_; have HB := n2_; clear n0_ n1_ n2_; (try clear hb); (try clear hb2); (try clear hk); (try clear hi); (try clear ho0); obtain ⟨Ao18, co18, eo18⟩ := Kd.R_slice HO217.out; subst eo18; have p218 : 0 ≤ (0 : Int) := (by omega); have q218 : 0 < (t215.length : Int) := of_decide_eq_true (by first | (with_reducible assumption) | assumption); obtain ⟨ad218, e218, hx218_0⟩ := Kd.at_int (Kd.R_reads' HO217.out).2.2 0 p218 q218; cases e218; have qi218 : (0 < t215.length) = True := eq_true (by omega); (try rw [show ((0 : Int)).toNat = 0 from rfl] at hx218_0); (try rw [Addr.add_zero'] at hx218_0); replace p218 := eq_true p218; replace q218 := eq_true q218; obtain ⟨Ao19, co19, eo19⟩ := Kd.S_slice HO214.out; subst eo19; have p219 : 0 ≤ (1 : Int) := (by omega); have q219 : 1 < (t215.length : Int) := of_decide_eq_true (by first | (with_reducible assumption) | assumption); obtain ⟨ad219, e219, hx219_0⟩ := Kd.at_int (Kd.R_reads' HO217.out).2.2 1 p219 q219; obtain rfl : ad218 = ad219 := (by injection e219); (try simp only [show (1 : Int).toNat = 1 from rfl, Nat.reduceMul, Nat.reduceEqDiff, Go.Addr.add, ↓reduceIte] at hx219_0); have qi219 : (1 < t215.length) = True := eq_true (by omega); (try rw [show ((1 : Int)).toNat = 1 from rfl] at hx219_0); replace p219 := eq_true p219; replace q219 := eq_true q219; have p220 : 0 ≤ (2 : Int) := (by omega); have q220 : 2 < (t215.length : Int) := of_decide_eq_true (by first | (with_reducible assumption) | assumption); obtain ⟨ad220, e220, hx220_0⟩ := Kd.at_int (Kd.R_reads' HO217.out).2.2 2 p220 q220; obtain rfl : ad218 = ad220 := (by injection e220); (try simp only [show (2 : Int).toNat = 2 from rfl, Nat.reduceMul, Nat.reduceEqDiff, Go.Addr.add, ↓reduceIte] at hx220_0); have qi220 : (2 < t215.length) = True := eq_true (by omega); (try rw [show ((2 : Int)).toNat = 2 from rfl] at hx220_0); replace p220 := eq_true p220; replace q220 := eq_true q220; have p221 : 0 ≤ (3 : Int) := (by omega); have q221 : 3 < (t215.length : Int) := of_decide_eq_true (by first | (with_reducible assumption) | assumption); obtain ⟨ad221, e221, hx221_0⟩ := Kd.at_int (Kd.R_reads' HO217.out).2.2 3 p221 q221; obtain rfl : ad218 = ad221 := (by injection e221); (try simp only [show (3 : Int).toNat = 3 from rfl, Nat.reduceMul, Nat.reduceEqDiff, Go.Addr.add, ↓reduceIte] at hx221_0); have qi221 : (3 < t215.length) = True := eq_true (by omega); (try rw [show ((3 : Int)).toNat = 3 from rfl] at hx221_0); replace p221 := eq_true p221; replace q221 := eq_true q221) | (go_at_call 10; (with_reducible refine (impl_Poke.calls k _ _ t212 (Int.tmod (rd t215 0) (t212.length : Int)) (Int.tmod (rd t215 2) 4) (rd t215 3) t222 t223 _ ?side1 ?side2 A11.out).mono ?_); (case side1 => repeat (first | exact (Kd.S_reads' HO214.out).2.2 | (with_reducible refine Kd.C_alloc ?_ _) | (with_reducible refine Kd.C_drewN ?_ _) | (with_reducible refine Kd.C_drew ?_))); (case side2 => exact (Kd.S_reads' HO214.out).2.1); rintro e w20 ⟨v224, rfl, ho0, hb⟩; have n0_ := Aside0.mk (Kd.S_elder' (by (with_reducible repeat (first | apply Kd.S_alloc | apply Kd.S_drewN | apply Kd.S_drew)); exact HO214.out) (Kd.S_base ho0) hb); have n1_ := Aside0.mk (Kd.R_below (by (with_reducible repeat (first | apply Kd.R_alloc | apply Kd.R_drewN | apply Kd.R_drew)); exact HO217.out) hb); have n2_ := Aside0.mk (Kd.S_lower (Kd.S_new' (Kd.S_new' ho0 (Kd.S_lt (by (with_reducible repeat (first | apply Kd.S_alloc | apply Kd.S_drewN | apply Kd.S_drew)); exact HO214.out))) (Kd.R_lt (by (with_reducible repeat (first | apply Kd.R_alloc | apply Kd.R_drewN | apply Kd.R_drew)); exact HO217.out))) (below_size (by repeat (first | (with_reducible first | exact HB.out | apply below_alloc | apply pw_below_drewN | apply below_drew1) | exact HB.out)))); have n3_ := Aside0.mk (below_step (by repeat (first | (with_reducible first | exact HB.out | apply below_alloc | apply pw_below_drewN | apply below_drew1) | exact HB.out)) hb); clear HO214; clear HO217; clear HB; have HO214 := n0_; have HO217 := n1_; have HO225 := n2_; have HB := n3_; clear n0_ n1_ n2_ n3_; (try clear hb); (try clear hb2); (try clear hk); (try clear hi); (try clear ho0); obtain ⟨Ao21, co21, eo21⟩ := Kd.S_slice HO225.out; subst eo21) | (go_at_call 11; (with_reducible refine (impl_Peek.calls k _ _ t222 (Int.tmod (rd t215 0) (t212.length : Int)) (Int.tmod (rd t215 2) 4) t226 t227 _ ?side1 ?side2 A12.out).mono ?_); (case side1 => repeat (first | exact (Kd.S_reads' HO225.out).2.2 | (with_reducible refine Kd.C_alloc ?_ _) | (with_reducible refine Kd.C_drewN ?_ _) | (with_reducible refine Kd.C_drew ?_))); (case side2 => exact (Kd.S_reads' HO225.out).2.1); rintro e w' ⟨rfl, ⟨nd, rfl⟩⟩; (try first | exact ⟨rfl, _, World.drewN_drewN _ _ _⟩ | exact ⟨rfl, _, Eq.trans (World.drewN_drewN _ _ _) (congrArg (World.drewN _) (Nat.add_assoc _ _ _))⟩)) | (go_at_call 12; (with_reducible refine (impl_CopyFrame.calls k _ _ t222 (Int.tmod (rd t215 0) (t212.length : Int)) (Int.tmod (rd t215 1) (t212.length : Int)) t228 t229 _ ?side1 ?side2 A13.out).mono ?_); (case side1 => repeat (first | exact (Kd.S_reads' HO225.out).2.2 | (with_reducible refine Kd.C_alloc ?_ _) | (with_reducible refine Kd.C_drewN ?_ _) | (with_reducible refine Kd.C_drew ?_))); (case side2 => exact (Kd.S_reads' HO225.out).2.1); rintro e w22 ⟨v230, rfl, ho0, hb⟩; have n0_ := Aside0.mk (Kd.S_elder' (by (with_reducible repeat (first | apply Kd.S_alloc | apply Kd.S_drewN | apply Kd.S_drew)); exact HO214.out) (Kd.S_base ho0) hb); have n1_ := Aside0.mk (Kd.R_below (by (with_reducible repeat (first | apply Kd.R_alloc | apply Kd.R_drewN | apply Kd.R_drew)); exact HO217.out) hb); have n2_ := Aside0.mk (Kd.S_elder' (by (with_reducible repeat (first | apply Kd.S_alloc | apply Kd.S_drewN | apply Kd.S_drew)); exact HO225.out) (Kd.S_base ho0) hb); have n3_ := Aside0.mk (Kd.S_lower (Kd.S_new' (Kd.S_new' (Kd.S_new' ho0 (Kd.S_lt (by (with_reducible repeat (first | apply Kd.S_alloc | apply Kd.S_drewN | apply Kd.S_drew)); exact HO214.out))) (Kd.R_lt (by (with_reducible repeat (first | apply Kd.R_alloc | apply Kd.R_drewN | apply Kd.R_drew)); exact HO217.out))) (Kd.S_lt (by (with_reducible repeat (first | apply Kd.S_alloc | apply Kd.S_drewN | apply Kd.S_drew)); exact HO225.out))) (below_size (by repeat (first | (with_reducible first | exact HB.out | apply below_alloc | apply pw_below_drewN | apply below_drew1) | exact HB.out)))); have n4_ := Aside0.mk (below_step (by repeat (first | (with_reducible first | exact HB.out | apply below_alloc | apply pw_below_drewN | apply below_drew1) | exact HB.out)) hb); clear HO214; clear HO217; clear HO225; clear HB; have HO214 := n0_; have HO217 := n1_; have HO225 := n2_; have HO231 := n3_; have HB := n4_; clear n0_ n1_ n2_ n3_ n4_; (try clear hb); (try clear hb2); (try clear hk); (try clear hi); (try clear ho0); obtain ⟨Ao23, co23, eo23⟩ := Kd.S_slice HO231.out; subst eo23) | (go_at_call 13; (with_reducible refine (impl_ClearFrame.calls k _ _ t228 (Int.tmod (rd t215 0) (t212.length : Int)) t232 t233 _ ?side1 ?side2 A14.out).mono ?_); (case side1 => repeat (first | exact (Kd.S_reads' HO231.out).2.2 | (with_reducible refine Kd.C_alloc ?_ _) | (with_reducible refine Kd.C_drewN ?_ _) | (with_reducible refine Kd.C_drew ?_))); (case side2 => exact (Kd.S_reads' HO231.out).2.1); rintro e w24 ⟨v234, rfl, ho0, hb⟩; have n0_ := Aside0.mk (Kd.S_elder' (by (with_reducible repeat (first | apply Kd.S_alloc | apply Kd.S_drewN | apply Kd.S_drew)); exact HO214.out) (Kd.S_base ho0) hb); have n1_ := Aside0.mk (Kd.R_below (by (with_reducible repeat (first | apply Kd.R_alloc | apply Kd.R_drewN | apply Kd.R_drew)); exact HO217.out) hb); have n2_ := Aside0.mk (Kd.S_elder' (by (with_reducible repeat (first | apply Kd.S_alloc | apply Kd.S_drewN | apply Kd.S_drew)); exact HO225.out) (Kd.S_base ho0) hb); have n3_ := Aside0.mk (Kd.S_elder' (by (with_reducible repeat (first | apply Kd.S_alloc | apply Kd.S_drewN | apply Kd.S_drew)); exact HO231.out) (Kd.S_base ho0) hb); have n4_ := Aside0.mk (Kd.S_lower (Kd.S_new' (Kd.S_new' (Kd.S_new' (Kd.S_new' ho0 (Kd.S_lt (by (with_reducible repeat (first | apply Kd.S_alloc | apply Kd.S_drewN | apply Kd.S_drew)); exact HO214.out))) (Kd.R_lt (by (with_reducible repeat (first | apply Kd.R_alloc | apply Kd.R_drewN | apply Kd.R_drew)); exact HO217.out))) (Kd.S_lt (by (with_reducible repeat (first | apply Kd.S_alloc | apply Kd.S_drewN | apply Kd.S_drew)); exact HO225.out))) (Kd.S_lt (by (with_reducible repeat (first | apply Kd.S_alloc | apply Kd.S_drewN | apply Kd.S_drew)); exact HO231.out))) (below_size (by repeat (first | (with_reducible first | exact HB.out | apply below_alloc | apply pw_below_drewN | apply below_drew1) | exact HB.out)))); have n5_ := Aside0.mk (below_step (by repeat (first | (with_reducible first | exact HB.out | apply below_alloc | apply pw_below_drewN | apply below_drew1) | exact HB.out)) hb); clear HO214; clear HO217; clear HO225; clear HO231; clear HB; have HO214 := n0_; have HO217 := n1_; have HO225 := n2_; have HO231 := n3_; have HO235 := n4_; have HB := n5_; clear n0_ n1_ n2_ n3_ n4_ n5_; (try clear hb); (try clear hb2); (try clear hk); (try clear hi); (try clear ho0))); go_upto_region 12 with (first | (go_at_call 7; (with_reducible refine (laws_big.calls _ _ l0 false _ ?side1 ?side2 A2.out).mono ?_); (case side1 => repeat (first | exact HR0.out | (with_reducible refine Kd.C_alloc ?_ _) | (with_reducible refine Kd.C_drewN ?_ _) | (with_reducible refine Kd.C_drew ?_))); (case side2 => exact HC0.out); rintro e w' ⟨rfl, ⟨nd, rfl⟩⟩; (try first | exact ⟨rfl, _, World.drewN_drewN _ _ _⟩ | exact ⟨rfl, _, Eq.trans (World.drewN_drewN _ _ _) (congrArg (World.drewN _) (Nat.add_assoc _ _ _))⟩)) | (go_at_call 8; (with_reducible refine (spec_DrawRightMemory.calls k _ _ l0 t212 _ ?side1 ?side2 A4.out).mono ?_); (case side1 => repeat (first | exact HR0.out | (with_reducible refine Kd.C_alloc ?_ _) | (with_reducible refine Kd.C_drewN ?_ _) | (with_reducible refine Kd.C_drew ?_))); (case side2 => exact HC0.out); rintro e w16 ⟨v213, rfl, ho0, hb⟩; have n0_ := Aside0.mk (Kd.S_lower ho0 (below_size (by repeat (first | (with_reducible first | exact HB.out | apply below_alloc | apply pw_below_drewN | apply below_drew1) | exact HB.out)))); have n1_ := Aside0.mk (below_step (by repeat (first | (with_reducible first | exact HB.out | apply below_alloc | apply pw_below_drewN | apply below_drew1) | exact HB.out)) hb); clear HB; have HO214 := n0_; have HB := n1_; clear n0_ n1_; (try clear hb); (try clear hb2); (try clear hk); (try clear hi); (try clear ho0)) | (go_at_call 9; (with_reducible refine (spec_DrawPlaces.calls k _ _ l0 t215 _ ?side1 ?side2 A5.out).mono ?_); (case side1 => repeat (first | exact (Kd.C_below HR0.out HB.out) | (with_reducible refine Kd.C_alloc ?_ _) | (with_reducible refine Kd.C_drewN ?_ _) | (with_reducible refine Kd.C_drew ?_))); (case side2 => exact HC0.out); rintro e w17 ⟨v216, rfl, ho0, hb⟩; have n0_ := Aside0.mk (Kd.S_elder' (by (with_reducible repeat (first | apply Kd.S_alloc | apply Kd.S_drewN | apply Kd.S_drew)); exact HO214.out) (Kd.R_base ho0) hb); have n1_ := Aside0.mk (Kd.R_lower ho0 (below_size (by repeat (first | (with_reducible first | exact HB.out | apply below_alloc | apply pw_below_drewN | apply below_drew1) | exact HB.out)))); have n2_ := Aside0.mk (below_step (by repeat (first | (with_reducible first | exact HB.out | apply below_alloc | apply pw_below_drewN | apply below_drew1) | exact HB.out)) hb); clear HO214; clear HB; have HO214 := n0_; have HO217 := n1_; have HB := n2_; clear n0_ n1_ n2_; (try clear hb); (try clear hb2); (try clear hk); (try clear hi); (try clear ho0); obtain ⟨Ao18, co18, eo18⟩ := Kd.R_slice HO217.out; subst eo18; have p218 : 0 ≤ (0 : Int) := (by omega); have q218 : 0 < (t215.length : Int) := of_decide_eq_true (by first | (with_reducible assumption) | assumption); obtain ⟨ad218, e218, hx218_0⟩ := Kd.at_int (Kd.R_reads' HO217.out).2.2 0 p218 q218; cases e218; have qi218 : (0 < t215.length) = True := eq_true (by omega); (try rw [show ((0 : Int)).toNat = 0 from rfl] at hx218_0); (try rw [Addr.add_zero'] at hx218_0); replace p218 := eq_true p218; replace q218 := eq_true q218; obtain ⟨Ao19, co19, eo19⟩ := Kd.S_slice HO214.out; subst eo19; have p219 : 0 ≤ (1 : Int) := (by omega); have q219 : 1 < (t215.length : Int) := of_decide_eq_true (by first | (with_reducible assumption) | assumption); obtain ⟨ad219, e219, hx219_0⟩ := Kd.at_int (Kd.R_reads' HO217.out).2.2 1 p219 q219; obtain rfl : ad218 = ad219 := (by injection e219); (try simp only [show (1 : Int).toNat = 1 from rfl, Nat.reduceMul, Nat.reduceEqDiff, Go.Addr.add, ↓reduceIte] at hx219_0); have qi219 : (1 < t215.length) = True := eq_true (by omega); (try rw [show ((1 : Int)).toNat = 1 from rfl] at hx219_0); replace p219 := eq_true p219; replace q219 := eq_true q219; have p220 : 0 ≤ (2 : Int) := (by omega); have q220 : 2 < (t215.length : Int) := of_decide_eq_true (by first | (with_reducible assumption) | assumption); obtain ⟨ad220, e220, hx220_0⟩ := Kd.at_int (Kd.R_reads' HO217.out).2.2 2 p220 q220; obtain rfl : ad218 = ad220 := (by injection e220); (try simp only [show (2 : Int).toNat = 2 from rfl, Nat.reduceMul, Nat.reduceEqDiff, Go.Addr.add, ↓reduceIte] at hx220_0); have qi220 : (2 < t215.length) = True := eq_true (by omega); (try rw [show ((2 : Int)).toNat = 2 from rfl] at hx220_0); replace p220 := eq_true p220; replace q220 := eq_true q220; have p221 : 0 ≤ (3 : Int) := (by omega); have q221 : 3 < (t215.length : Int) := of_decide_eq_true (by first | (with_reducible assumption) | assumption); obtain ⟨ad221, e221, hx221_0⟩ := Kd.at_int (Kd.R_reads' HO217.out).2.2 3 p221 q221; obtain rfl : ad218 = ad221 := (by injection e221); (try simp only [show (3 : Int).toNat = 3 from rfl, Nat.reduceMul, Nat.reduceEqDiff, Go.Addr.add, ↓reduceIte] at hx221_0); have qi221 : (3 < t215.length) = True := eq_true (by omega); (try rw [show ((3 : Int)).toNat = 3 from rfl] at hx221_0); replace p221 := eq_true p221; replace q221 := eq_true q221) | (go_at_call 10; (with_reducible refine (impl_Poke.calls k _ _ t212 (Int.tmod (rd t215 0) (t212.length : Int)) (Int.tmod (rd t215 2) 4) (rd t215 3) t222 t223 _ ?side1 ?side2 A11.out).mono ?_); (case side1 => repeat (first | exact (Kd.S_reads' HO214.out).2.2 | (with_reducible refine Kd.C_alloc ?_ _) | (with_reducible refine Kd.C_drewN ?_ _) | (with_reducible refine Kd.C_drew ?_))); (case side2 => exact (Kd.S_reads' HO214.out).2.1); rintro e w20 ⟨v224, rfl, ho0, hb⟩; have n0_ := Aside0.mk (Kd.S_elder' (by (with_reducible repeat (first | apply Kd.S_alloc | apply Kd.S_drewN | apply Kd.S_drew)); exact HO214.out) (Kd.S_base ho0) hb); have n1_ := Aside0.mk (Kd.R_below (by (with_reducible repeat (first | apply Kd.R_alloc | apply Kd.R_drewN | apply Kd.R_drew)); exact HO217.out) hb); have n2_ := Aside0.mk (Kd.S_lower (Kd.S_new' (Kd.S_new' ho0 (Kd.S_lt (by (with_reducible repeat (first | apply Kd.S_alloc | apply Kd.S_drewN | apply Kd.S_drew)); exact HO214.out))) (Kd.R_lt (by (with_reducible repeat (first | apply Kd.R_alloc | apply Kd.R_drewN | apply Kd.R_drew)); exact HO217.out))) (below_size (by repeat (first | (with_reducible first | exact HB.out | apply below_alloc | apply pw_below_drewN | apply below_drew1) | exact HB.out)))); have n3_ := Aside0.mk (below_step (by repeat (first | (with_reducible first | exact HB.out | apply below_alloc | apply pw_below_drewN | apply below_drew1) | exact HB.out)) hb); clear HO214; clear HO217; clear HB; have HO214 := n0_; have HO217 := n1_; have HO225 := n2_; have HB := n3_; clear n0_ n1_ n2_ n3_; (try clear hb); (try clear hb2); (try clear hk); (try clear hi); (try clear ho0); obtain ⟨Ao21, co21, eo21⟩ := Kd.S_slice HO225.out; subst eo21) | (go_at_call 11; (with_reducible refine (impl_Peek.calls k _ _ t222 (Int.tmod (rd t215 0) (t212.length : Int)) (Int.tmod (rd t215 2) 4) t226 t227 _ ?side1 ?side2 A12.out).mono ?_); (case side1 => repeat (first | exact (Kd.S_reads' HO225.out).2.2 | (with_reducible refine Kd.C_alloc ?_ _) | (with_reducible refine Kd.C_drewN ?_ _) | (with_reducible refine Kd.C_drew ?_))); (case side2 => exact (Kd.S_reads' HO225.out).2.1); rintro e w' ⟨rfl, ⟨nd, rfl⟩⟩; (try first | exact ⟨rfl, _, World.drewN_drewN _ _ _⟩ | exact ⟨rfl, _, Eq.trans (World.drewN_drewN _ _ _) (congrArg (World.drewN _) (Nat.add_assoc _ _ _))⟩)) | (go_at_call 12; (with_reducible refine (impl_CopyFrame.calls k _ _ t222 (Int.tmod (rd t215 0) (t212.length : Int)) (Int.tmod (rd t215 1) (t212.length : Int)) t228 t229 _ ?side1 ?side2 A13.out).mono ?_); (case side1 => repeat (first | exact (Kd.S_reads' HO225.out).2.2 | (with_reducible refine Kd.C_alloc ?_ _) | (with_reducible refine Kd.C_drewN ?_ _) | (with_reducible refine Kd.C_drew ?_))); (case side2 => exact (Kd.S_reads' HO225.out).2.1); rintro e w22 ⟨v230, rfl, ho0, hb⟩; have n0_ := Aside0.mk (Kd.S_elder' (by (with_reducible repeat (first | apply Kd.S_alloc | apply Kd.S_drewN | apply Kd.S_drew)); exact HO214.out) (Kd.S_base ho0) hb); have n1_ := Aside0.mk (Kd.R_below (by (with_reducible repeat (first | apply Kd.R_alloc | apply Kd.R_drewN | apply Kd.R_drew)); exact HO217.out) hb); have n2_ := Aside0.mk (Kd.S_elder' (by (with_reducible repeat (first | apply Kd.S_alloc | apply Kd.S_drewN | apply Kd.S_drew)); exact HO225.out) (Kd.S_base ho0) hb); have n3_ := Aside0.mk (Kd.S_lower (Kd.S_new' (Kd.S_new' (Kd.S_new' ho0 (Kd.S_lt (by (with_reducible repeat (first | apply Kd.S_alloc | apply Kd.S_drewN | apply Kd.S_drew)); exact HO214.out))) (Kd.R_lt (by (with_reducible repeat (first | apply Kd.R_alloc | apply Kd.R_drewN | apply Kd.R_drew)); exact HO217.out))) (Kd.S_lt (by (with_reducible repeat (first | apply Kd.S_alloc | apply Kd.S_drewN | apply Kd.S_drew)); exact HO225.out))) (below_size (by repeat (first | (with_reducible first | exact HB.out | apply below_alloc | apply pw_below_drewN | apply below_drew1) | exact HB.out)))); have n4_ := Aside0.mk (below_step (by repeat (first | (with_reducible first | exact HB.out | apply below_alloc | apply pw_below_drewN | apply below_drew1) | exact HB.out)) hb); clear HO214; clear HO217; clear HO225; clear HB; have HO214 := n0_; have HO217 := n1_; have HO225 := n2_; have HO231 := n3_; have HB := n4_; clear n0_ n1_ n2_ n3_ n4_; (try clear hb); (try clear hb2); (try clear hk); (try clear hi); (try clear ho0); obtain ⟨Ao23, co23, eo23⟩ := Kd.S_slice HO231.out; subst eo23) | (go_at_call 13; (with_reducible refine (impl_ClearFrame.calls k _ _ t228 (Int.tmod (rd t215 0) (t212.length : Int)) t232 t233 _ ?side1 ?side2 A14.out).mono ?_); (case side1 => repeat (first | exact (Kd.S_reads' HO231.out).2.2 | (with_reducible refine Kd.C_alloc ?_ _) | (with_reducible refine Kd.C_drewN ?_ _) | (with_reducible refine Kd.C_drew ?_))); (case side2 => exact (Kd.S_reads' HO231.out).2.1); rintro e w24 ⟨v234, rfl, ho0, hb⟩; have n0_ := Aside0.mk (Kd.S_elder' (by (with_reducible repeat (first | apply Kd.S_alloc | apply Kd.S_drewN | apply Kd.S_drew)); exact HO214.out) (Kd.S_base ho0) hb); have n1_ := Aside0.mk (Kd.R_below (by (with_reducible repeat (first | apply Kd.R_alloc | apply Kd.R_drewN | apply Kd.R_drew)); exact HO217.out) hb); have n2_ := Aside0.mk (Kd.S_elder' (by (with_reducible repeat (first | apply Kd.S_alloc | apply Kd.S_drewN | apply Kd.S_drew)); exact HO225.out) (Kd.S_base ho0) hb); have n3_ := Aside0.mk (Kd.S_elder' (by (with_reducible repeat (first | apply Kd.S_alloc | apply Kd.S_drewN | apply Kd.S_drew)); exact HO231.out) (Kd.S_base ho0) hb); have n4_ := Aside0.mk (Kd.S_lower (Kd.S_new' (Kd.S_new' (Kd.S_new' (Kd.S_new' ho0 (Kd.S_lt (by (with_reducible repeat (first | apply Kd.S_alloc | apply Kd.S_drewN | apply Kd.S_drew)); exact HO214.out))) (Kd.R_lt (by (with_reducible repeat (first | apply Kd.R_alloc | apply Kd.R_drewN | apply Kd.R_drew)); exact HO217.out))) (Kd.S_lt (by (with_reducible repeat (first | apply Kd.S_alloc | apply Kd.S_drewN | apply Kd.S_drew)); exact HO225.out))) (Kd.S_lt (by (with_reducible repeat (first | apply Kd.S_alloc | apply Kd.S_drewN | apply Kd.S_drew)); exact HO231.out))) (below_size (by repeat (first | (with_reducible first | exact HB.out | apply below_alloc | apply pw_below_drewN | apply below_drew1) | exact HB.out)))); have n5_ := Aside0.mk (below_step (by repeat (first | (with_reducible first | exact HB.out | apply below_alloc | apply pw_below_drewN | apply below_drew1) | exact HB.out)) hb); clear HO214; clear HO217; clear HO225; clear HO231; clear HB; have HO214 := n0_; have HO217 := n1_; have HO225 := n2_; have HO231 := n3_; have HO235 := n4_; have HB := n5_; clear n0_ n1_ n2_ n3_ n4_ n5_; (try clear hb); (try clear hb2); (try clear hk); (try clear hi); (try clear ho0))))
 (try simp only [Act.put, List.setIfInBounds_toArray, List.set_cons_zero, List.set_cons_succ])
 go_cut [95] (fun v95 wc => ∃ (kq : Nat) (x95_14 : Bool), v95 = .bool x95_14 ∧ Aside0 (laws_FnMemory.j0 kq t212 (Int.tmod (rd t215 0) (t212.length : Int)) (Int.tmod (rd t215 1) (t212.length : Int)) (Int.tmod (rd t215 2) 4) t222 t228 t232 x95_14 = some r) ∧ Aside0 (kq ≤ k) ∧ Aside0 (Kd.S (Kd.slice 3 (Kd.int .i64)) 26 wc w.heap.size (fun k_ => some k_ ≠ ((.slice Ao21 t222.length co21) : Value).ownBlock ∧ some k_ ≠ ((.slice Ao23 t228.length co23) : Value).ownBlock ∧ some k_ ≠ (v234 : Value).ownBlock) (.slice Ao19 t212.length co19) t212) ∧ Aside0 (Kd.S (Kd.slice 3 (Kd.int .i64)) 26 wc w.heap.size (fun k_ => some k_ ≠ ((.slice Ao19 t212.length co19) : Value).ownBlock ∧ some k_ ≠ ((.slice Ao23 t228.length co23) : Value).ownBlock ∧ some k_ ≠ (v234 : Value).ownBlock) (.slice Ao21 t222.length co21) t222) ∧ Aside0 (Kd.S (Kd.slice 3 (Kd.int .i64)) 26 wc w.heap.size (fun k_ => some k_ ≠ ((.slice Ao19 t212.length co19) : Value).ownBlock ∧ some k_ ≠ ((.slice Ao21 t222.length co21) : Value).ownBlock ∧ some k_ ≠ (v234 : Value).ownBlock) (.slice Ao23 t228.length co23) t228) ∧ Aside0 (Kd.S (Kd.slice 3 (Kd.int .i64)) 26 wc w.heap.size (fun k_ => some k_ ≠ ((.slice Ao19 t212.length co19) : Value).ownBlock ∧ some k_ ≠ ((.slice Ao21 t222.length co21) : Value).ownBlock ∧ some k_ ≠ ((.slice Ao23 t228.length co23) : Value).ownBlock) v234 t232) ∧ Aside0 (Below w.heap.size w wc))
 case first => as_aux_lemma =>
  have H := HC15.out
  clear HC15
  by_cases c25 : t223 = true
  rotate_left
  ·replace c25 := Bool.eq_false_iff.mpr c25
   subst c25
   have H1 : (laws_FnMemory.j0 k t212 (Int.tmod (rd t215 0) (t212.length : Int)) (Int.tmod (rd t215 1) (t212.length : Int)) (Int.tmod (rd t215 2) 4) t222 t228 t232 true) = some r := by rw [if_neg (show ¬ (false = true) by decide)] at H; exact H
   clear H
   have H := H1
   clear H1
   have H' := Aside0.mk H
   clear H
   go_wp2
   repeat (go_quiet (fail); try go_wp2)
   go_meet
   case rel => exact ⟨_, (true), (by first | rfl | (simp; done) | (simp [*]; done)), H', ⟨by first | omega | exact Nat.le_refl _⟩, ⟨by (with_reducible repeat (first | apply Kd.S_alloc | apply Kd.S_drewN | apply Kd.S_drew)); exact Kd.S_mono HO214.out (fun _ hk => ⟨hk.1.1.2, ⟨hk.1.2, hk.2⟩⟩)⟩, ⟨by (with_reducible repeat (first | apply Kd.S_alloc | apply Kd.S_drewN | apply Kd.S_drew)); exact Kd.S_mono HO225.out (fun _ hk => ⟨hk.1.1.1.2, ⟨hk.1.2, hk.2⟩⟩)⟩, ⟨by (with_reducible repeat (first | apply Kd.S_alloc | apply Kd.S_drewN | apply Kd.S_drew)); exact Kd.S_mono HO231.out (fun _ hk => ⟨hk.1.1.1.2, ⟨hk.1.2, hk.2⟩⟩)⟩, ⟨by (with_reducible repeat (first | apply Kd.S_alloc | apply Kd.S_drewN | apply Kd.S_drew)); exact Kd.S_mono HO235.out (fun _ hk => ⟨hk.1.1.1.2, ⟨hk.1.2, hk.2⟩⟩)⟩, ⟨by repeat (first | (with_reducible first | exact HB.out | apply below_alloc | apply pw_below_drewN | apply below_drew1) | exact HB.out)⟩⟩
  subst c25
  have H1 : (if t227 = true then (if t229 = true then (if t233 = true then (if t226 = (rd t215 3) then ((impl_MemoryOk.f k t232).bind fun t237 => (laws_FnMemory.j0 k t212 (Int.tmod (rd t215 0) (t212.length : Int)) (Int.tmod (rd t215 1) (t212.length : Int)) (Int.tmod (rd t215 2) 4) t222 t228 t232 (!t237))) else (laws_FnMemory.j0 k t212 (Int.tmod (rd t215 0) (t212.length : Int)) (Int.tmod (rd t215 1) (t212.length : Int)) (Int.tmod (rd t215 2) 4) t222 t228 t232 true)) else (laws_FnMemory.j0 k t212 (Int.tmod (rd t215 0) (t212.length : Int)) (Int.tmod (rd t215 1) (t212.length : Int)) (Int.tmod (rd t215 2) 4) t222 t228 t232 true)) else (laws_FnMemory.j0 k t212 (Int.tmod (rd t215 0) (t212.length : Int)) (Int.tmod (rd t215 1) (t212.length : Int)) (Int.tmod (rd t215 2) 4) t222 t228 t232 true)) else (laws_FnMemory.j0 k t212 (Int.tmod (rd t215 0) (t212.length : Int)) (Int.tmod (rd t215 1) (t212.length : Int)) (Int.tmod (rd t215 2) 4) t222 t228 t232 true)) = some r := by rw [if_pos rfl] at H; exact H
  clear H
  have H := H1
  clear H1
  by_cases c26 : t227 = true
  rotate_left
  ·replace c26 := Bool.eq_false_iff.mpr c26
   subst c26
   have H1 : (laws_FnMemory.j0 k t212 (Int.tmod (rd t215 0) (t212.length : Int)) (Int.tmod (rd t215 1) (t212.length : Int)) (Int.tmod (rd t215 2) 4) t222 t228 t232 true) = some r := by rw [if_neg (show ¬ (false = true) by decide)] at H; exact H
   clear H
   have H := H1
   clear H1
   have H' := Aside0.mk H
   clear H
   go_wp2
   repeat (go_quiet (fail); try go_wp2)
   go_meet
   case rel => exact ⟨_, (true), (by first | rfl | (simp; done) | (simp [*]; done)), H', ⟨by first | omega | exact Nat.le_refl _⟩, ⟨by (with_reducible repeat (first | apply Kd.S_alloc | apply Kd.S_drewN | apply Kd.S_drew)); exact Kd.S_mono HO214.out (fun _ hk => ⟨hk.1.1.2, ⟨hk.1.2, hk.2⟩⟩)⟩, ⟨by (with_reducible repeat (first | apply Kd.S_alloc | apply Kd.S_drewN | apply Kd.S_drew)); exact Kd.S_mono HO225.out (fun _ hk => ⟨hk.1.1.1.2, ⟨hk.1.2, hk.2⟩⟩)⟩, ⟨by (with_reducible repeat (first | apply Kd.S_alloc | apply Kd.S_drewN | apply Kd.S_drew)); exact Kd.S_mono HO231.out (fun _ hk => ⟨hk.1.1.1.2, ⟨hk.1.2, hk.2⟩⟩)⟩, ⟨by (with_reducible repeat (first | apply Kd.S_alloc | apply Kd.S_drewN | apply Kd.S_drew)); exact Kd.S_mono HO235.out (fun _ hk => ⟨hk.1.1.1.2, ⟨hk.1.2, hk.2⟩⟩)⟩, ⟨by repeat (first | (with_reducible first | exact HB.out | apply below_alloc | apply pw_below_drewN | apply below_drew1) | exact HB.out)⟩⟩
  subst c26
  have H1 : (if t229 = true then (if t233 = true then (if t226 = (rd t215 3) then ((impl_MemoryOk.f k t232).bind fun t237 => (laws_FnMemory.j0 k t212 (Int.tmod (rd t215 0) (t212.length : Int)) (Int.tmod (rd t215 1) (t212.length : Int)) (Int.tmod (rd t215 2) 4) t222 t228 t232 (!t237))) else (laws_FnMemory.j0 k t212 (Int.tmod (rd t215 0) (t212.length : Int)) (Int.tmod (rd t215 1) (t212.length : Int)) (Int.tmod (rd t215 2) 4) t222 t228 t232 true)) else (laws_FnMemory.j0 k t212 (Int.tmod (rd t215 0) (t212.length : Int)) (Int.tmod (rd t215 1) (t212.length : Int)) (Int.tmod (rd t215 2) 4) t222 t228 t232 true)) else (laws_FnMemory.j0 k t212 (Int.tmod (rd t215 0) (t212.length : Int)) (Int.tmod (rd t215 1) (t212.length : Int)) (Int.tmod (rd t215 2) 4) t222 t228 t232 true)) = some r := by rw [if_pos rfl] at H; exact H
  clear H
  have H := H1
  clear H1
  by_cases c27 : t229 = true
  rotate_left
  ·replace c27 := Bool.eq_false_iff.mpr c27
   subst c27
   have H1 : (laws_FnMemory.j0 k t212 (Int.tmod (rd t215 0) (t212.length : Int)) (Int.tmod (rd t215 1) (t212.length : Int)) (Int.tmod (rd t215 2) 4) t222 t228 t232 true) = some r := by rw [if_neg (show ¬ (false = true) by decide)] at H; exact H
   clear H
   have H := H1
   clear H1
   have H' := Aside0.mk H
   clear H
   go_wp2
   repeat (go_quiet (fail); try go_wp2)
   go_meet
   case rel => exact ⟨_, (true), (by first | rfl | (simp; done) | (simp [*]; done)), H', ⟨by first | omega | exact Nat.le_refl _⟩, ⟨by (with_reducible repeat (first | apply Kd.S_alloc | apply Kd.S_drewN | apply Kd.S_drew)); exact Kd.S_mono HO214.out (fun _ hk => ⟨hk.1.1.2, ⟨hk.1.2, hk.2⟩⟩)⟩, ⟨by (with_reducible repeat (first | apply Kd.S_alloc | apply Kd.S_drewN | apply Kd.S_drew)); exact Kd.S_mono HO225.out (fun _ hk => ⟨hk.1.1.1.2, ⟨hk.1.2, hk.2⟩⟩)⟩, ⟨by (with_reducible repeat (first | apply Kd.S_alloc | apply Kd.S_drewN | apply Kd.S_drew)); exact Kd.S_mono HO231.out (fun _ hk => ⟨hk.1.1.1.2, ⟨hk.1.2, hk.2⟩⟩)⟩, ⟨by (with_reducible repeat (first | apply Kd.S_alloc | apply Kd.S_drewN | apply Kd.S_drew)); exact Kd.S_mono HO235.out (fun _ hk => ⟨hk.1.1.1.2, ⟨hk.1.2, hk.2⟩⟩)⟩, ⟨by repeat (first | (with_reducible first | exact HB.out | apply below_alloc | apply pw_below_drewN | apply below_drew1) | exact HB.out)⟩⟩
  subst c27
  have H1 : (if t233 = true then (if t226 = (rd t215 3) then ((impl_MemoryOk.f k t232).bind fun t237 => (laws_FnMemory.j0 k t212 (Int.tmod (rd t215 0) (t212.length : Int)) (Int.tmod (rd t215 1) (t212.length : Int)) (Int.tmod (rd t215 2) 4) t222 t228 t232 (!t237))) else (laws_FnMemory.j0 k t212 (Int.tmod (rd t215 0) (t212.length : Int)) (Int.tmod (rd t215 1) (t212.length : Int)) (Int.tmod (rd t215 2) 4) t222 t228 t232 true)) else (laws_FnMemory.j0 k t212 (Int.tmod (rd t215 0) (t212.length : Int)) (Int.tmod (rd t215 1) (t212.length : Int)) (Int.tmod (rd t215 2) 4) t222 t228 t232 true)) = some r := by rw [if_pos rfl] at H; exact H
  clear H
  have H := H1
  clear H1
  by_cases c28 : t233 = true
  rotate_left
  ·replace c28 := Bool.eq_false_iff.mpr c28
   subst c28
   have H1 : (laws_FnMemory.j0 k t212 (Int.tmod (rd t215 0) (t212.length : Int)) (Int.tmod (rd t215 1) (t212.length : Int)) (Int.tmod (rd t215 2) 4) t222 t228 t232 true) = some r := by rw [if_neg (show ¬ (false = true) by decide)] at H; exact H
   clear H
   have H := H1
   clear H1
   have H' := Aside0.mk H
   clear H
   go_wp2
   repeat (go_quiet (fail); try go_wp2)
   go_meet
   case rel => exact ⟨_, (true), (by first | rfl | (simp; done) | (simp [*]; done)), H', ⟨by first | omega | exact Nat.le_refl _⟩, ⟨by (with_reducible repeat (first | apply Kd.S_alloc | apply Kd.S_drewN | apply Kd.S_drew)); exact Kd.S_mono HO214.out (fun _ hk => ⟨hk.1.1.2, ⟨hk.1.2, hk.2⟩⟩)⟩, ⟨by (with_reducible repeat (first | apply Kd.S_alloc | apply Kd.S_drewN | apply Kd.S_drew)); exact Kd.S_mono HO225.out (fun _ hk => ⟨hk.1.1.1.2, ⟨hk.1.2, hk.2⟩⟩)⟩, ⟨by (with_reducible repeat (first | apply Kd.S_alloc | apply Kd.S_drewN | apply Kd.S_drew)); exact Kd.S_mono HO231.out (fun _ hk => ⟨hk.1.1.1.2, ⟨hk.1.2, hk.2⟩⟩)⟩, ⟨by (with_reducible repeat (first | apply Kd.S_alloc | apply Kd.S_drewN | apply Kd.S_drew)); exact Kd.S_mono HO235.out (fun _ hk => ⟨hk.1.1.1.2, ⟨hk.1.2, hk.2⟩⟩)⟩, ⟨by repeat (first | (with_reducible first | exact HB.out | apply below_alloc | apply pw_below_drewN | apply below_drew1) | exact HB.out)⟩⟩
  subst c28
  have H1 : (if t226 = (rd t215 3) then ((impl_MemoryOk.f k t232).bind fun t237 => (laws_FnMemory.j0 k t212 (Int.tmod (rd t215 0) (t212.length : Int)) (Int.tmod (rd t215 1) (t212.length : Int)) (Int.tmod (rd t215 2) 4) t222 t228 t232 (!t237))) else (laws_FnMemory.j0 k t212 (Int.tmod (rd t215 0) (t212.length : Int)) (Int.tmod (rd t215 1) (t212.length : Int)) (Int.tmod (rd t215 2) 4) t222 t228 t232 true)) = some r := by rw [if_pos rfl] at H; exact H
  clear H
  have H := H1
  clear H1
  by_cases c29 : t226 = (rd t215 3)
  rotate_left
  ·rw [if_neg c29] at H
   have c29b0 : (t226 == (rd t215 3)) = false := beq_eq_false_iff_ne.mpr c29
   have c29b1 : (t226 != (rd t215 3)) = true := bne_iff_ne.mpr c29
   (first | rw [c29b0] | (simp only [i64_w, i32_w]; rw [c29b0]) | skip)
   have H' := Aside0.mk H
   clear H
   have p236 : 0 ≤ (3 : Int) := (by omega)
   have q236 : 3 < (t215.length : Int) := of_decide_eq_true (by first | (with_reducible assumption) | assumption)
   obtain ⟨ad236, e236, hx236_0⟩ := Kd.at_int (Kd.R_reads' HO217.out).2.2 3 p236 q236
   obtain rfl : ad218 = ad236 := (by injection e236)
   (try simp only [show (3 : Int).toNat = 3 from rfl, Nat.reduceMul, Nat.reduceEqDiff, Go.Addr.add, ↓reduceIte] at hx236_0)
   have qi236 : (3 < t215.length) = True := eq_true (by omega)
   (try rw [show ((3 : Int)).toNat = 3 from rfl] at hx236_0)
   replace p236 := eq_true p236
   replace q236 := eq_true q236
   go_wp2
   repeat (go_quiet (fail); try go_wp2)
   go_meet
   case rel => exact ⟨_, (true), (by first | rfl | (simp; done) | (simp [*]; done)), H', ⟨by first | omega | exact Nat.le_refl _⟩, ⟨by (with_reducible repeat (first | apply Kd.S_alloc | apply Kd.S_drewN | apply Kd.S_drew)); exact Kd.S_mono HO214.out (fun _ hk => ⟨hk.1.1.2, ⟨hk.1.2, hk.2⟩⟩)⟩, ⟨by (with_reducible repeat (first | apply Kd.S_alloc | apply Kd.S_drewN | apply Kd.S_drew)); exact Kd.S_mono HO225.out (fun _ hk => ⟨hk.1.1.1.2, ⟨hk.1.2, hk.2⟩⟩)⟩, ⟨by (with_reducible repeat (first | apply Kd.S_alloc | apply Kd.S_drewN | apply Kd.S_drew)); exact Kd.S_mono HO231.out (fun _ hk => ⟨hk.1.1.1.2, ⟨hk.1.2, hk.2⟩⟩)⟩, ⟨by (with_reducible repeat (first | apply Kd.S_alloc | apply Kd.S_drewN | apply Kd.S_drew)); exact Kd.S_mono HO235.out (fun _ hk => ⟨hk.1.1.1.2, ⟨hk.1.2, hk.2⟩⟩)⟩, ⟨by repeat (first | (with_reducible first | exact HB.out | apply below_alloc | apply pw_below_drewN | apply below_drew1) | exact HB.out)⟩⟩
  rw [if_pos c29] at H
  have c29b0 : (t226 == (rd t215 3)) = true := beq_iff_eq.mpr c29
  have c29b1 : (t226 != (rd t215 3)) = false := bne_eq_false_iff_eq.mpr c29
  clear c29
  (first | rw [c29b0] | (simp only [i64_w, i32_w]; rw [c29b0]) | skip)
  replace H := Option.bind_eq_some_iff.mp H
  obtain ⟨t237, A300, H⟩ := H
  replace H : (laws_FnMemory.j0 k t212 (Int.tmod (rd t215 0) (t212.length : Int)) (Int.tmod (rd t215 1) (t212.length : Int)) (Int.tmod (rd t215 2) 4) t222 t228 t232 (!t237)) = some r := H
  have A30 := Aside0.mk A300
  clear A300
  have H' := Aside0.mk H
  clear H
  have p236 : 0 ≤ (3 : Int) := (by omega)
  have q236 : 3 < (t215.length : Int) := of_decide_eq_true (by first | (with_reducible assumption) | assumption)
  obtain ⟨ad236, e236, hx236_0⟩ := Kd.at_int (Kd.R_reads' HO217.out).2.2 3 p236 q236
  obtain rfl : ad218 = ad236 := (by injection e236)
  (try simp only [show (3 : Int).toNat = 3 from rfl, Nat.reduceMul, Nat.reduceEqDiff, Go.Addr.add, ↓reduceIte] at hx236_0)
  have qi236 : (3 < t215.length) = True := eq_true (by omega)
  (try rw [show ((3 : Int)).toNat = 3 from rfl] at hx236_0)
  replace p236 := eq_true p236
  replace q236 := eq_true q236
  obtain ⟨Ao31, co31, eo31⟩ := Kd.S_slice HO235.out
  subst eo31
  go_wp2_with (first | (go_at_call 14; (with_reducible refine (impl_MemoryOk.calls k _ _ t232 t237 _ ?side1 ?side2 A30.out).mono ?_); (case side1 => repeat (first | exact (Kd.S_reads' HO235.out).2.2 | (with_reducible refine Kd.C_alloc ?_ _) | (with_reducible refine Kd.C_drewN ?_ _) | (with_reducible refine Kd.C_drew ?_))); (case side2 => exact (Kd.S_reads' HO235.out).2.1); rintro e w' ⟨rfl, ⟨nd, rfl⟩⟩; (try first | exact ⟨rfl, _, World.drewN_drewN _ _ _⟩ | exact ⟨rfl, _, Eq.trans (World.drewN_drewN _ _ _) (congrArg (World.drewN _) (Nat.add_assoc _ _ _))⟩)))
  repeat (go_quiet (first | (go_at_call 14; (with_reducible refine (impl_MemoryOk.calls k _ _ t232 t237 _ ?side1 ?side2 A30.out).mono ?_); (case side1 => repeat (first | exact (Kd.S_reads' HO235.out).2.2 | (with_reducible refine Kd.C_alloc ?_ _) | (with_reducible refine Kd.C_drewN ?_ _) | (with_reducible refine Kd.C_drew ?_))); (case side2 => exact (Kd.S_reads' HO235.out).2.1); rintro e w' ⟨rfl, ⟨nd, rfl⟩⟩; (try first | exact ⟨rfl, _, World.drewN_drewN _ _ _⟩ | exact ⟨rfl, _, Eq.trans (World.drewN_drewN _ _ _) (congrArg (World.drewN _) (Nat.add_assoc _ _ _))⟩))); try go_wp2_with (first | (go_at_call 14; (with_reducible refine (impl_MemoryOk.calls k _ _ t232 t237 _ ?side1 ?side2 A30.out).mono ?_); (case side1 => repeat (first | exact (Kd.S_reads' HO235.out).2.2 | (with_reducible refine Kd.C_alloc ?_ _) | (with_reducible refine Kd.C_drewN ?_ _) | (with_reducible refine Kd.C_drew ?_))); (case side2 => exact (Kd.S_reads' HO235.out).2.1); rintro e w' ⟨rfl, ⟨nd, rfl⟩⟩; (try first | exact ⟨rfl, _, World.drewN_drewN _ _ _⟩ | exact ⟨rfl, _, Eq.trans (World.drewN_drewN _ _ _) (congrArg (World.drewN _) (Nat.add_assoc _ _ _))⟩))))
  go_meet
  case rel => exact ⟨_, (!t237), (by first | rfl | (simp; done) | (simp [*]; done)), H', ⟨by first | omega | exact Nat.le_refl _⟩, ⟨by (with_reducible repeat (first | apply Kd.S_alloc | apply Kd.S_drewN | apply Kd.S_drew)); exact Kd.S_mono HO214.out (fun _ hk => ⟨hk.1.1.2, ⟨hk.1.2, hk.2⟩⟩)⟩, ⟨by (with_reducible repeat (first | apply Kd.S_alloc | apply Kd.S_drewN | apply Kd.S_drew)); exact Kd.S_mono HO225.out (fun _ hk => ⟨hk.1.1.1.2, ⟨hk.1.2, hk.2⟩⟩)⟩, ⟨by (with_reducible repeat (first | apply Kd.S_alloc | apply Kd.S_drewN | apply Kd.S_drew)); exact Kd.S_mono HO231.out (fun _ hk => ⟨hk.1.1.1.2, ⟨hk.1.2, hk.2⟩⟩)⟩, ⟨by (with_reducible repeat (first | apply Kd.S_alloc | apply Kd.S_drewN | apply Kd.S_drew)); exact Kd.S_mono HO235.out (fun _ hk => ⟨hk.1.1.1.2, ⟨hk.1.2, hk.2⟩⟩)⟩, ⟨by repeat (first | (with_reducible first | exact HB.out | apply below_alloc | apply pw_below_drewN | apply below_drew1) | exact HB.out)⟩⟩
 case rest => as_aux_lemma =>
  clear HC15
  try clear c1
  try clear c2
  try clear p2
  try clear q2
  try clear hx2
  try clear qi2
  try clear c3
  try clear c6
  try clear c6b0
  try clear c6b1
  try clear c7
  try clear c7b0
  try clear c7b1
  try clear c7b2
  try clear c8
  try clear c8b0
  try clear c8b1
  try clear c9
  try clear c9b0
  try clear c9b1
  try clear c10
  try clear c10b0
  try clear c10b1
  try clear p21
  try clear q21
  try clear hx21
  try clear qi21
  try clear p22
  try clear q22
  try clear hx22
  try clear qi22
  try clear p23
  try clear q23
  try clear hx23
  try clear qi23
  try clear c25
  try clear c26
  try clear c27
  try clear c28
  try clear c29
  try clear c29b0
  try clear c29b1
  try clear hx218_0
  try clear hx219_0
  try clear hx220_0
  try clear hx221_0
  try clear hx236_0
  try clear p218
  try clear p219
  try clear p220
  try clear p221
  try clear p236
  try clear q218
  try clear q219
  try clear q220
  try clear q221
  try clear q236
  obtain ⟨kq, x95_14, rfl, HA, HJ14, HO_3, HO_8, HO_12, HO_14, HB⟩ := hcut
  cases kq with
  | zero => exact absurd HA.out (by simp [laws_FnMemory.j0])
  | succ kj14 =>
   have H := HA.out
   clear HA
   simp only [laws_FnMemory.j0] at H
   by_cases c32 : x95_14 = true
   ·subst c32
    have H1 : (some false) = some r := by rw [if_pos rfl] at H; exact H
    clear H
    have H := H1
    clear H1
    obtain rfl := Option.some.inj H
    exact absurd hr_ (by decide)
   replace c32 := Bool.eq_false_iff.mpr c32
   subst c32
   have H1 : (laws_FnMemory.l0 kj14 t212 (Int.tmod (rd t215 0) (t212.length : Int)) (Int.tmod (rd t215 1) (t212.length : Int)) (Int.tmod (rd t215 2) 4) t222 t228 t232 0) = some r := by rw [if_neg (show ¬ (false = true) by decide)] at H; exact H
   clear H
   have H := H1
   clear H1
   have H' := Aside0.mk H
   clear H
   go_wp2
   repeat (go_quiet (fail); try go_wp2)
   go_loopg [16] kj14 (fun kq v16 w' => ∃ (x16_2 : Int), v16 = .int .i64 x16_2 ∧ Aside0 (laws_FnMemory.l0 kq t212 (Int.tmod (rd t215 0) (t212.length : Int)) (Int.tmod (rd t215 1) (t212.length : Int)) (Int.tmod (rd t215 2) 4) t222 t228 t232 x16_2 = some r) ∧ Aside0 (kq ≤ kj14) ∧ Aside0 (Kd.S (Kd.slice 3 (Kd.int .i64)) 26 w' w.heap.size (fun k_ => some k_ ≠ ((.slice Ao21 t222.length co21) : Value).ownBlock ∧ some k_ ≠ ((.slice Ao23 t228.length co23) : Value).ownBlock ∧ some k_ ≠ (v234 : Value).ownBlock) (.slice Ao19 t212.length co19) t212) ∧ Aside0 (Kd.S (Kd.slice 3 (Kd.int .i64)) 26 w' w.heap.size (fun k_ => some k_ ≠ ((.slice Ao19 t212.length co19) : Value).ownBlock ∧ some k_ ≠ ((.slice Ao23 t228.length co23) : Value).ownBlock ∧ some k_ ≠ (v234 : Value).ownBlock) (.slice Ao21 t222.length co21) t222) ∧ Aside0 (Kd.S (Kd.slice 3 (Kd.int .i64)) 26 w' w.heap.size (fun k_ => some k_ ≠ ((.slice Ao19 t212.length co19) : Value).ownBlock ∧ some k_ ≠ ((.slice Ao21 t222.length co21) : Value).ownBlock ∧ some k_ ≠ (v234 : Value).ownBlock) (.slice Ao23 t228.length co23) t228) ∧ Aside0 (Kd.S (Kd.slice 3 (Kd.int .i64)) 26 w' w.heap.size (fun k_ => some k_ ≠ ((.slice Ao19 t212.length co19) : Value).ownBlock ∧ some k_ ≠ ((.slice Ao21 t222.length co21) : Value).ownBlock ∧ some k_ ≠ ((.slice Ao23 t228.length co23) : Value).ownBlock) v234 t232) ∧ Aside0 (Below w.heap.size w w'))
   case atStart => exact ⟨(0), (by first | rfl | (simp; done) | (simp [*]; done)), H', ⟨Nat.le_refl _⟩, ⟨by (with_reducible repeat (first | apply Kd.S_alloc | apply Kd.S_drewN | apply Kd.S_drew)); exact HO_3.out⟩, ⟨by (with_reducible repeat (first | apply Kd.S_alloc | apply Kd.S_drewN | apply Kd.S_drew)); exact HO_8.out⟩, ⟨by (with_reducible repeat (first | apply Kd.S_alloc | apply Kd.S_drewN | apply Kd.S_drew)); exact HO_12.out⟩, ⟨by (with_reducible repeat (first | apply Kd.S_alloc | apply Kd.S_drewN | apply Kd.S_drew)); exact HO_14.out⟩, ⟨by repeat (first | (with_reducible first | exact HB.out | apply below_alloc | apply pw_below_drewN | apply below_drew1) | exact HB.out)⟩⟩
   case round => as_aux_lemma =>
    clear H'
    try clear c1
    try clear c2
    try clear p2
    try clear q2
    try clear hx2
    try clear qi2
    try clear c3
    try clear c6
    try clear c6b0
    try clear c6b1
    try clear c7
    try clear c7b0
    try clear c7b1
    try clear c7b2
    try clear c8
    try clear c8b0
    try clear c8b1
    try clear c9
    try clear c9b0
    try clear c9b1
    try clear c10
    try clear c10b0
    try clear c10b1
    try clear p21
    try clear q21
    try clear hx21
    try clear qi21
    try clear p22
    try clear q22
    try clear hx22
    try clear qi22
    try clear p23
    try clear q23
    try clear hx23
    try clear qi23
    try clear c25
    try clear c26
    try clear c27
    try clear c28
    try clear c29
    try clear c29b0
    try clear c29b1
    try clear c32
    try clear hx218_0
    try clear hx219_0
    try clear hx220_0
    try clear hx221_0
    try clear hx236_0
    try clear p2
    try clear p21
    try clear p218
    try clear p219
    try clear p22
    try clear p220
    try clear p221
    try clear p23
    try clear p236
    try clear q2
    try clear q21
    try clear q218
    try clear q219
    try clear q22
    try clear q220
    try clear q221
    try clear q23
    try clear q236
    obtain ⟨x16_2, rfl, HA, HK2, HO_3, HO_8, HO_12, HO_14, HB⟩ := hrel
    cases gk with
    | zero => exact absurd HA.out (by simp [laws_FnMemory.l0])
    | succ k2 =>
     have H := HA.out
     clear HA
     simp only [laws_FnMemory.l0] at H
     by_cases c33 : x16_2 < (t212.length : Int)
     rotate_left
     ·rw [if_neg c33] at H
      have c33b0 : decide (x16_2 < (t212.length : Int)) = false := decide_eq_false c33
      clear c33
      obtain rfl := Option.some.inj H
      first
      | exact absurd hr_ (by decide)
      | (skip
         go_wp2
         repeat (go_quiet (fail); try go_wp2)
         go_ret
         exact ⟨by first | rfl | (simp [errW_none, errW_some] <;> rfl) | (simp [*, errW_none, errW_some] <;> rfl), by repeat (first | (with_reducible first | exact HB.out | apply below_alloc | apply pw_below_drewN | apply below_drew1) | exact HB.out)⟩)
     rw [if_pos c33] at H
     have c33b0 : decide (x16_2 < (t212.length : Int)) = true := decide_eq_true c33
     clear c33
     have H' := Aside0.mk H
     clear H
     go_wp2
     repeat (go_quiet (fail); try go_wp2)
     go_loopg [17] k2 (fun kq v17 w' => ∃ (x17_3 : Int), v17 = .int .i64 x17_3 ∧ Aside0 (laws_FnMemory.l1 kq t212 (Int.tmod (rd t215 0) (t212.length : Int)) (Int.tmod (rd t215 1) (t212.length : Int)) (Int.tmod (rd t215 2) 4) t222 t228 t232 x16_2 x17_3 = some r) ∧ Aside0 (kq ≤ k2) ∧ Aside0 (Kd.S (Kd.slice 3 (Kd.int .i64)) 26 w' w.heap.size (fun k_ => some k_ ≠ ((.slice Ao21 t222.length co21) : Value).ownBlock ∧ some k_ ≠ ((.slice Ao23 t228.length co23) : Value).ownBlock ∧ some k_ ≠ (v234 : Value).ownBlock) (.slice Ao19 t212.length co19) t212) ∧ Aside0 (Kd.S (Kd.slice 3 (Kd.int .i64)) 26 w' w.heap.size (fun k_ => some k_ ≠ ((.slice Ao19 t212.length co19) : Value).ownBlock ∧ some k_ ≠ ((.slice Ao23 t228.length co23) : Value).ownBlock ∧ some k_ ≠ (v234 : Value).ownBlock) (.slice Ao21 t222.length co21) t222) ∧ Aside0 (Kd.S (Kd.slice 3 (Kd.int .i64)) 26 w' w.heap.size (fun k_ => some k_ ≠ ((.slice Ao19 t212.length co19) : Value).ownBlock ∧ some k_ ≠ ((.slice Ao21 t222.length co21) : Value).ownBlock ∧ some k_ ≠ (v234 : Value).ownBlock) (.slice Ao23 t228.length co23) t228) ∧ Aside0 (Kd.S (Kd.slice 3 (Kd.int .i64)) 26 w' w.heap.size (fun k_ => some k_ ≠ ((.slice Ao19 t212.length co19) : Value).ownBlock ∧ some k_ ≠ ((.slice Ao21 t222.length co21) : Value).ownBlock ∧ some k_ ≠ ((.slice Ao23 t228.length co23) : Value).ownBlock) v234 t232) ∧ Aside0 (Below w.heap.size w w'))
     case atStart => exact ⟨(0), (by first | rfl | (simp; done) | (simp [*]; done)), H', ⟨Nat.le_refl _⟩, ⟨by (with_reducible repeat (first | apply Kd.S_alloc | apply Kd.S_drewN | apply Kd.S_drew)); exact HO_3.out⟩, ⟨by (with_reducible repeat (first | apply Kd.S_alloc | apply Kd.S_drewN | apply Kd.S_drew)); exact HO_8.out⟩, ⟨by (with_reducible repeat (first | apply Kd.S_alloc | apply Kd.S_drewN | apply Kd.S_drew)); exact HO_12.out⟩, ⟨by (with_reducible repeat (first | apply Kd.S_alloc | apply Kd.S_drewN | apply Kd.S_drew)); exact HO_14.out⟩, ⟨by repeat (first | (with_reducible first | exact HB.out | apply below_alloc | apply pw_below_drewN | apply below_drew1) | exact HB.out)⟩⟩
     case round => as_aux_lemma =>
      clear H'
      try clear c1
      try clear c2
      try clear p2
      try clear q2
      try clear hx2
      try clear qi2
      try clear c3
      try clear c6
      try clear c6b0
      try clear c6b1
      try clear c7
      try clear c7b0
      try clear c7b1
      try clear c7b2
      try clear c8
      try clear c8b0
      try clear c8b1
      try clear c9
      try clear c9b0
      try clear c9b1
      try clear c10
      try clear c10b0
      try clear c10b1
      try clear p21
      try clear q21
      try clear hx21
      try clear qi21
      try clear p22
      try clear q22
      try clear hx22
      try clear qi22
      try clear p23
      try clear q23
      try clear hx23
      try clear qi23
      try clear c25
      try clear c26
      try clear c27
      try clear c28
      try clear c29
      try clear c29b0
      try clear c29b1
      try clear c32
      try clear c33
      try clear c33b0
      try clear hx218_0
      try clear hx219_0
      try clear hx220_0
      try clear hx221_0
      try clear hx236_0
      try clear p2
      try clear p21
      try clear p218
      try clear p219
      try clear p22
      try clear p220
      try clear p221
      try clear p23
      try clear p236
      try clear q2
      try clear q21
      try clear q218
      try clear q219
      try clear q22
      try clear q220
      try clear q221
      try clear q23
      try clear q236
      obtain ⟨x17_3, rfl, HA, HK3, HO_3, HO_8, HO_12, HO_14, HB⟩ := hrel
      cases gk with
      | zero => exact absurd HA.out (by simp [laws_FnMemory.l1])
      | succ k3 =>
       have H := HA.out
       clear HA
       simp only [laws_FnMemory.l1] at H
       by_cases c34 : x17_3 < 4
       rotate_left
       ·rw [if_neg c34] at H
        have c34b0 : decide (x17_3 < 4) = false := decide_eq_false c34
        clear c34
        have H' := Aside0.mk H
        clear H
        go_wp2
        repeat (go_quiet (fail); try go_wp2)
        go_roundg k3
        case measure => have := HJ14.out; have := HK2.out; have := HK3.out; omega
        case rel => exact ⟨(wrap64 (x16_2 + 1)), (by first | rfl | (simp; done) | (simp [*]; done)), H', ⟨by have := HJ14.out; have := HK2.out; have := HK3.out; omega⟩, ⟨by (with_reducible repeat (first | apply Kd.S_alloc | apply Kd.S_drewN | apply Kd.S_drew)); exact HO_3.out⟩, ⟨by (with_reducible repeat (first | apply Kd.S_alloc | apply Kd.S_drewN | apply Kd.S_drew)); exact HO_8.out⟩, ⟨by (with_reducible repeat (first | apply Kd.S_alloc | apply Kd.S_drewN | apply Kd.S_drew)); exact HO_12.out⟩, ⟨by (with_reducible repeat (first | apply Kd.S_alloc | apply Kd.S_drewN | apply Kd.S_drew)); exact HO_14.out⟩, ⟨by repeat (first | (with_reducible first | exact HB.out | apply below_alloc | apply pw_below_drewN | apply below_drew1) | exact HB.out)⟩⟩
       rw [if_pos c34] at H
       have c34b0 : decide (x17_3 < 4) = true := decide_eq_true c34
       clear c34
       by_cases c35 : x16_2 = (Int.tmod (rd t215 0) (t212.length : Int))
       rotate_left
       ·rw [if_neg c35] at H
        have c35b0 : (x16_2 == (Int.tmod (rd t215 0) (t212.length : Int))) = false := beq_eq_false_iff_ne.mpr c35
        have c35b1 : (x16_2 != (Int.tmod (rd t215 0) (t212.length : Int))) = true := bne_iff_ne.mpr c35
        by_cases c92 : 0 ≤ x16_2
        rotate_left
        ·rw [if_neg c92] at H
         exact absurd H (by simp)
        rw [if_pos c92] at H
        have c92b0 : decide (0 ≤ x16_2) = true := decide_eq_true c92
        clear c92
        by_cases c93 : x16_2 < (t222.length : Int)
        rotate_left
        ·rw [if_neg c93] at H
         exact absurd H (by simp)
        rw [if_pos c93] at H
        have c93b0 : decide (x16_2 < (t222.length : Int)) = true := decide_eq_true c93
        clear c93
        by_cases c94 : 0 ≤ x17_3
        rotate_left
        ·rw [if_neg c94] at H
         exact absurd H (by simp)
        rw [if_pos c94] at H
        have c94b0 : decide (0 ≤ x17_3) = true := decide_eq_true c94
        clear c94
        by_cases c95 : x17_3 < ((rd_L2 t222 x16_2).length : Int)
        rotate_left
        ·rw [if_neg c95] at H
         exact absurd H (by simp)
        rw [if_pos c95] at H
        have c95b0 : decide (x17_3 < ((rd_L2 t222 x16_2).length : Int)) = true := decide_eq_true c95
        clear c95
        by_cases c96 : x16_2 < (t212.length : Int)
        rotate_left
        ·rw [if_neg c96] at H
         exact absurd H (by simp)
        rw [if_pos c96] at H
        have c96b0 : decide (x16_2 < (t212.length : Int)) = true := decide_eq_true c96
        clear c96
        by_cases c97 : x17_3 < ((rd_L2 t212 x16_2).length : Int)
        rotate_left
        ·rw [if_neg c97] at H
         exact absurd H (by simp)
        rw [if_pos c97] at H
        have c97b0 : decide (x17_3 < ((rd_L2 t212 x16_2).length : Int)) = true := decide_eq_true c97
        clear c97
        by_cases c98 : (rd (rd_L2 t222 x16_2) x17_3) = (rd (rd_L2 t212 x16_2) x17_3)
        rotate_left
        ·rw [if_neg c98] at H
         have c98b0 : ((rd (rd_L2 t222 x16_2) x17_3) == (rd (rd_L2 t212 x16_2) x17_3)) = false := beq_eq_false_iff_ne.mpr c98
         have c98b1 : ((rd (rd_L2 t222 x16_2) x17_3) != (rd (rd_L2 t212 x16_2) x17_3)) = true := bne_iff_ne.mpr c98
         obtain rfl := Option.some.inj H
         exact absurd hr_ (by decide)
        rw [if_pos c98] at H
        have c98b0 : ((rd (rd_L2 t222 x16_2) x17_3) == (rd (rd_L2 t212 x16_2) x17_3)) = true := beq_iff_eq.mpr c98
        have c98b1 : ((rd (rd_L2 t222 x16_2) x17_3) != (rd (rd_L2 t212 x16_2) x17_3)) = false := bne_eq_false_iff_eq.mpr c98
        clear c98
        by_cases c99 : x16_2 = (Int.tmod (rd t215 1) (t212.length : Int))
        rotate_left
        ·rw [if_neg c99] at H
         have c99b0 : (x16_2 == (Int.tmod (rd t215 1) (t212.length : Int))) = false := beq_eq_false_iff_ne.mpr c99
         have c99b1 : (x16_2 != (Int.tmod (rd t215 1) (t212.length : Int))) = true := bne_iff_ne.mpr c99
         by_cases c112 : x16_2 < (t228.length : Int)
         rotate_left
         ·rw [if_neg c112] at H
          exact absurd H (by simp)
         rw [if_pos c112] at H
         have c112b0 : decide (x16_2 < (t228.length : Int)) = true := decide_eq_true c112
         clear c112
         by_cases c113 : x17_3 < ((rd_L2 t228 x16_2).length : Int)
         rotate_left
         ·rw [if_neg c113] at H
          exact absurd H (by simp)
         rw [if_pos c113] at H
         have c113b0 : decide (x17_3 < ((rd_L2 t228 x16_2).length : Int)) = true := decide_eq_true c113
         clear c113
         by_cases c114 : (rd (rd_L2 t228 x16_2) x17_3) = (rd (rd_L2 t222 x16_2) x17_3)
         rotate_left
         ·rw [if_neg c114] at H
          have c114b0 : ((rd (rd_L2 t228 x16_2) x17_3) == (rd (rd_L2 t222 x16_2) x17_3)) = false := beq_eq_false_iff_ne.mpr c114
          have c114b1 : ((rd (rd_L2 t228 x16_2) x17_3) != (rd (rd_L2 t222 x16_2) x17_3)) = true := bne_iff_ne.mpr c114
          obtain rfl := Option.some.inj H
          exact absurd hr_ (by decide)
         rw [if_pos c114] at H
         have c114b0 : ((rd (rd_L2 t228 x16_2) x17_3) == (rd (rd_L2 t222 x16_2) x17_3)) = true := beq_iff_eq.mpr c114
         have c114b1 : ((rd (rd_L2 t228 x16_2) x17_3) != (rd (rd_L2 t222 x16_2) x17_3)) = false := bne_eq_false_iff_eq.mpr c114
         clear c114
         by_cases c115 : x16_2 < (t232.length : Int)
         rotate_left
         ·rw [if_neg c115] at H
          exact absurd H (by simp)
         rw [if_pos c115] at H
         have c115b0 : decide (x16_2 < (t232.length : Int)) = true := decide_eq_true c115
         clear c115
         by_cases c116 : x17_3 < ((rd_L2 t232 x16_2).length : Int)
         rotate_left
         ·rw [if_neg c116] at H
          exact absurd H (by simp)
         rw [if_pos c116] at H
         have c116b0 : decide (x17_3 < ((rd_L2 t232 x16_2).length : Int)) = true := decide_eq_true c116
         clear c116
         by_cases c117 : (rd (rd_L2 t232 x16_2) x17_3) = (rd (rd_L2 t228 x16_2) x17_3)
         rotate_left
         ·rw [if_neg c117] at H
          have c117b0 : ((rd (rd_L2 t232 x16_2) x17_3) == (rd (rd_L2 t228 x16_2) x17_3)) = false := beq_eq_false_iff_ne.mpr c117
          have c117b1 : ((rd (rd_L2 t232 x16_2) x17_3) != (rd (rd_L2 t228 x16_2) x17_3)) = true := bne_iff_ne.mpr c117
          obtain rfl := Option.some.inj H
          exact absurd hr_ (by decide)
         rw [if_pos c117] at H
         have c117b0 : ((rd (rd_L2 t232 x16_2) x17_3) == (rd (rd_L2 t228 x16_2) x17_3)) = true := beq_iff_eq.mpr c117
         have c117b1 : ((rd (rd_L2 t232 x16_2) x17_3) != (rd (rd_L2 t228 x16_2) x17_3)) = false := bne_eq_false_iff_eq.mpr c117
         clear c117
         have H' := Aside0.mk H
         clear H
         have p266 : 0 ≤ (x16_2 : Int) := of_decide_eq_true (by first | (with_reducible assumption) | assumption)
         have q266 : x16_2 < (t222.length : Int) := of_decide_eq_true (by first | (with_reducible assumption) | assumption)
         obtain ⟨ad266, A266_0, c266_0, e266, hx266_0, hl266_0, hi266_0⟩ := at_L2 (Kd.S_reads' HO_8.out).2.2 x16_2 p266 q266
         cases e266
         obtain ⟨ce266, hce266, hMe266, hcc266⟩ := Kd.S_get HO_8.out [] x16_2 p266 (by first | exact q266 | exact of_decide_eq_true (by first | (with_reducible assumption) | assumption) | (have e_ := (Kd.S_reads' HO_8.out).1; omega))
         obtain ⟨ve266_0, rfl, ge266_0⟩ := hMe266
         have hv266_0 := hcc266 0 _ rfl
         rw [Nat.add_zero, show ((Kd.slice 3 (Kd.int .i64))).sz = 1 from rfl, Nat.mul_one] at hv266_0
         replace hv266_0 := Option.some.inj (hv266_0.symm.trans hx266_0)
         rw [hv266_0] at ge266_0
         have HL266_0 := Aside0.mk (show Kd.R (Kd.int .i64) 3 _ _ _ _ (rd_L2 t222 x16_2) from ge266_0)
         clear hv266_0 ge266_0
         clear hcc266 hce266
         have HR266_0 := Aside0.mk hi266_0
         have HC266_0 := Aside0.mk hl266_0
         clear hi266_0 hl266_0
         replace p266 := eq_true p266
         replace q266 := eq_true q266
         have p267 : 0 ≤ (x17_3 : Int) := of_decide_eq_true (by first | (with_reducible assumption) | assumption)
         have q267 : x17_3 < ((rd_L2 t222 x16_2).length : Int) := of_decide_eq_true (by first | (with_reducible assumption) | assumption)
         obtain ⟨ad267, e267, hx267_0⟩ := Kd.at_int (by repeat (first | (with_reducible exact HR266_0.out) | (with_reducible refine Kd.C_alloc ?_ _) | (with_reducible refine Kd.C_drewN ?_ _) | (with_reducible refine Kd.C_drew ?_) | exact HR266_0.out)) x17_3 p267 q267
         cases e267
         replace p267 := eq_true p267
         replace q267 := eq_true q267
         have p268 : 0 ≤ (x16_2 : Int) := of_decide_eq_true (by first | (with_reducible assumption) | assumption)
         have q268 : x16_2 < (t212.length : Int) := of_decide_eq_true (by first | (with_reducible assumption) | assumption)
         obtain ⟨ad268, A268_0, c268_0, e268, hx268_0, hl268_0, hi268_0⟩ := at_L2 (Kd.S_reads' HO_3.out).2.2 x16_2 p268 q268
         cases e268
         obtain ⟨ce268, hce268, hMe268, hcc268⟩ := Kd.S_get HO_3.out [] x16_2 p268 (by first | exact q268 | exact of_decide_eq_true (by first | (with_reducible assumption) | assumption) | (have e_ := (Kd.S_reads' HO_3.out).1; omega))
         obtain ⟨ve268_0, rfl, ge268_0⟩ := hMe268
         have hv268_0 := hcc268 0 _ rfl
         rw [Nat.add_zero, show ((Kd.slice 3 (Kd.int .i64))).sz = 1 from rfl, Nat.mul_one] at hv268_0
         replace hv268_0 := Option.some.inj (hv268_0.symm.trans hx268_0)
         rw [hv268_0] at ge268_0
         have HL268_0 := Aside0.mk (show Kd.R (Kd.int .i64) 3 _ _ _ _ (rd_L2 t212 x16_2) from ge268_0)
         clear hv268_0 ge268_0
         clear hcc268 hce268
         have HR268_0 := Aside0.mk hi268_0
         have HC268_0 := Aside0.mk hl268_0
         clear hi268_0 hl268_0
         replace p268 := eq_true p268
         replace q268 := eq_true q268
         have p269 : 0 ≤ (x17_3 : Int) := of_decide_eq_true (by first | (with_reducible assumption) | assumption)
         have q269 : x17_3 < ((rd_L2 t212 x16_2).length : Int) := of_decide_eq_true (by first | (with_reducible assumption) | assumption)
         obtain ⟨ad269, e269, hx269_0⟩ := Kd.at_int (by repeat (first | (with_reducible exact HR268_0.out) | (with_reducible refine Kd.C_alloc ?_ _) | (with_reducible refine Kd.C_drewN ?_ _) | (with_reducible refine Kd.C_drew ?_) | exact HR268_0.out)) x17_3 p269 q269
         cases e269
         replace p269 := eq_true p269
         replace q269 := eq_true q269
         have p278 : 0 ≤ (x16_2 : Int) := of_decide_eq_true (by first | (with_reducible assumption) | assumption)
         have q278 : x16_2 < (t228.length : Int) := of_decide_eq_true (by first | (with_reducible assumption) | assumption)
         obtain ⟨ad278, A278_0, c278_0, e278, hx278_0, hl278_0, hi278_0⟩ := at_L2 (Kd.S_reads' HO_12.out).2.2 x16_2 p278 q278
         cases e278
         obtain ⟨ce278, hce278, hMe278, hcc278⟩ := Kd.S_get HO_12.out [] x16_2 p278 (by first | exact q278 | exact of_decide_eq_true (by first | (with_reducible assumption) | assumption) | (have e_ := (Kd.S_reads' HO_12.out).1; omega))
         obtain ⟨ve278_0, rfl, ge278_0⟩ := hMe278
         have hv278_0 := hcc278 0 _ rfl
         rw [Nat.add_zero, show ((Kd.slice 3 (Kd.int .i64))).sz = 1 from rfl, Nat.mul_one] at hv278_0
         replace hv278_0 := Option.some.inj (hv278_0.symm.trans hx278_0)
         rw [hv278_0] at ge278_0
         have HL278_0 := Aside0.mk (show Kd.R (Kd.int .i64) 3 _ _ _ _ (rd_L2 t228 x16_2) from ge278_0)
         clear hv278_0 ge278_0
         clear hcc278 hce278
         have HR278_0 := Aside0.mk hi278_0
         have HC278_0 := Aside0.mk hl278_0
         clear hi278_0 hl278_0
         replace p278 := eq_true p278
         replace q278 := eq_true q278
         have p279 : 0 ≤ (x17_3 : Int) := of_decide_eq_true (by first | (with_reducible assumption) | assumption)
         have q279 : x17_3 < ((rd_L2 t228 x16_2).length : Int) := of_decide_eq_true (by first | (with_reducible assumption) | assumption)
         obtain ⟨ad279, e279, hx279_0⟩ := Kd.at_int (by repeat (first | (with_reducible exact HR278_0.out) | (with_reducible refine Kd.C_alloc ?_ _) | (with_reducible refine Kd.C_drewN ?_ _) | (with_reducible refine Kd.C_drew ?_) | exact HR278_0.out)) x17_3 p279 q279
         cases e279
         replace p279 := eq_true p279
         replace q279 := eq_true q279
         have p280 : 0 ≤ (x16_2 : Int) := of_decide_eq_true (by first | (with_reducible assumption) | assumption)
         have q280 : x16_2 < (t222.length : Int) := of_decide_eq_true (by first | (with_reducible assumption) | assumption)
         obtain ⟨ad280, A280_0, c280_0, e280, hx280_0, hl280_0, hi280_0⟩ := at_L2 (Kd.S_reads' HO_8.out).2.2 x16_2 p280 q280
         obtain rfl : ad266 = ad280 := (by injection e280)
         obtain ⟨ce280, hce280, hMe280, hcc280⟩ := Kd.S_get HO_8.out [] x16_2 p280 (by first | exact q280 | exact of_decide_eq_true (by first | (with_reducible assumption) | assumption) | (have e_ := (Kd.S_reads' HO_8.out).1; omega))
         obtain ⟨ve280_0, rfl, ge280_0⟩ := hMe280
         have hv280_0 := hcc280 0 _ rfl
         rw [Nat.add_zero, show ((Kd.slice 3 (Kd.int .i64))).sz = 1 from rfl, Nat.mul_one] at hv280_0
         replace hv280_0 := Option.some.inj (hv280_0.symm.trans hx280_0)
         rw [hv280_0] at ge280_0
         have HL280_0 := Aside0.mk (show Kd.R (Kd.int .i64) 3 _ _ _ _ (rd_L2 t222 x16_2) from ge280_0)
         clear hv280_0 ge280_0
         clear hcc280 hce280
         have HR280_0 := Aside0.mk hi280_0
         have HC280_0 := Aside0.mk hl280_0
         clear hi280_0 hl280_0
         replace p280 := eq_true p280
         replace q280 := eq_true q280
         have ea_ := Option.some.inj (hx266_0.symm.trans hx280_0)
         injection ea_ with ea_ en_ ec_
         subst ea_
         subst ec_
         clear en_
         have p281 : 0 ≤ (x17_3 : Int) := of_decide_eq_true (by first | (with_reducible assumption) | assumption)
         have q281 : x17_3 < ((rd_L2 t222 x16_2).length : Int) := of_decide_eq_true (by first | (with_reducible assumption) | assumption)
         obtain ⟨ad281, e281, hx281_0⟩ := Kd.at_int (by repeat (first | (with_reducible exact HR280_0.out) | (with_reducible refine Kd.C_alloc ?_ _) | (with_reducible refine Kd.C_drewN ?_ _) | (with_reducible refine Kd.C_drew ?_) | exact HR280_0.out)) x17_3 p281 q281
         cases e281
         replace p281 := eq_true p281
         replace q281 := eq_true q281
         obtain ⟨Ao118, co118, eo118⟩ := Kd.S_slice HO_14.out
         subst eo118
         have p282 : 0 ≤ (x16_2 : Int) := of_decide_eq_true (by first | (with_reducible assumption) | assumption)
         have q282 : x16_2 < (t232.length : Int) := of_decide_eq_true (by first | (with_reducible assumption) | assumption)
         obtain ⟨ad282, A282_0, c282_0, e282, hx282_0, hl282_0, hi282_0⟩ := at_L2 (Kd.S_reads' HO_14.out).2.2 x16_2 p282 q282
         cases e282
         obtain ⟨ce282, hce282, hMe282, hcc282⟩ := Kd.S_get HO_14.out [] x16_2 p282 (by first | exact q282 | exact of_decide_eq_true (by first | (with_reducible assumption) | assumption) | (have e_ := (Kd.S_reads' HO_14.out).1; omega))
         obtain ⟨ve282_0, rfl, ge282_0⟩ := hMe282
         have hv282_0 := hcc282 0 _ rfl
         rw [Nat.add_zero, show ((Kd.slice 3 (Kd.int .i64))).sz = 1 from rfl, Nat.mul_one] at hv282_0
         replace hv282_0 := Option.some.inj (hv282_0.symm.trans hx282_0)
         rw [hv282_0] at ge282_0
         have HL282_0 := Aside0.mk (show Kd.R (Kd.int .i64) 3 _ _ _ _ (rd_L2 t232 x16_2) from ge282_0)
         clear hv282_0 ge282_0
         clear hcc282 hce282
         have HR282_0 := Aside0.mk hi282_0
         have HC282_0 := Aside0.mk hl282_0
         clear hi282_0 hl282_0
         replace p282 := eq_true p282
         replace q282 := eq_true q282
         have p283 : 0 ≤ (x17_3 : Int) := of_decide_eq_true (by first | (with_reducible assumption) | assumption)
         have q283 : x17_3 < ((rd_L2 t232 x16_2).length : Int) := of_decide_eq_true (by first | (with_reducible assumption) | assumption)
         obtain ⟨ad283, e283, hx283_0⟩ := Kd.at_int (by repeat (first | (with_reducible exact HR282_0.out) | (with_reducible refine Kd.C_alloc ?_ _) | (with_reducible refine Kd.C_drewN ?_ _) | (with_reducible refine Kd.C_drew ?_) | exact HR282_0.out)) x17_3 p283 q283
         cases e283
         replace p283 := eq_true p283
         replace q283 := eq_true q283
         have p284 : 0 ≤ (x16_2 : Int) := of_decide_eq_true (by first | (with_reducible assumption) | assumption)
         have q284 : x16_2 < (t228.length : Int) := of_decide_eq_true (by first | (with_reducible assumption) | assumption)
         obtain ⟨ad284, A284_0, c284_0, e284, hx284_0, hl284_0, hi284_0⟩ := at_L2 (Kd.S_reads' HO_12.out).2.2 x16_2 p284 q284
         obtain rfl : ad278 = ad284 := (by injection e284)
         obtain ⟨ce284, hce284, hMe284, hcc284⟩ := Kd.S_get HO_12.out [] x16_2 p284 (by first | exact q284 | exact of_decide_eq_true (by first | (with_reducible assumption) | assumption) | (have e_ := (Kd.S_reads' HO_12.out).1; omega))
         obtain ⟨ve284_0, rfl, ge284_0⟩ := hMe284
         have hv284_0 := hcc284 0 _ rfl
         rw [Nat.add_zero, show ((Kd.slice 3 (Kd.int .i64))).sz = 1 from rfl, Nat.mul_one] at hv284_0
         replace hv284_0 := Option.some.inj (hv284_0.symm.trans hx284_0)
         rw [hv284_0] at ge284_0
         have HL284_0 := Aside0.mk (show Kd.R (Kd.int .i64) 3 _ _ _ _ (rd_L2 t228 x16_2) from ge284_0)
         clear hv284_0 ge284_0
         clear hcc284 hce284
         have HR284_0 := Aside0.mk hi284_0
         have HC284_0 := Aside0.mk hl284_0
         clear hi284_0 hl284_0
         replace p284 := eq_true p284
         replace q284 := eq_true q284
         have ea_ := Option.some.inj (hx278_0.symm.trans hx284_0)
         injection ea_ with ea_ en_ ec_
         subst ea_
         subst ec_
         clear en_
         have p285 : 0 ≤ (x17_3 : Int) := of_decide_eq_true (by first | (with_reducible assumption) | assumption)
         have q285 : x17_3 < ((rd_L2 t228 x16_2).length : Int) := of_decide_eq_true (by first | (with_reducible assumption) | assumption)
         obtain ⟨ad285, e285, hx285_0⟩ := Kd.at_int (by repeat (first | (with_reducible exact HR284_0.out) | (with_reducible refine Kd.C_alloc ?_ _) | (with_reducible refine Kd.C_drewN ?_ _) | (with_reducible refine Kd.C_drew ?_) | exact HR284_0.out)) x17_3 p285 q285
         cases e285
         replace p285 := eq_true p285
         replace q285 := eq_true q285
         go_wp2
         (try simp only [List.append_eq, List.cons_append, List.nil_append])
         refine wp_region_quiet_lit (by kernel_rfl) (Eq.mp (congrArg (fun o => Region.lexB .any o = true) (by kernel_rfl : (opsOf Try.f3 20) = _)) lex20) ?_
         repeat (go_big_quiet_step (fail))
         refine wpQuiet_nil ?_
         intro _ hw'
         obtain ⟨nq, hw''⟩ := hw'
         subst hw''
         try go_wp2
         go_roundg k3
         case measure => have := HJ14.out; have := HK2.out; have := HK3.out; omega
         case rel => exact ⟨(wrap64 (x17_3 + 1)), (by first | rfl | (simp; done) | (simp [*]; done)), H', ⟨by have := HJ14.out; have := HK2.out; have := HK3.out; omega⟩, ⟨by (with_reducible repeat (first | apply Kd.S_alloc | apply Kd.S_drewN | apply Kd.S_drew)); exact HO_3.out⟩, ⟨by (with_reducible repeat (first | apply Kd.S_alloc | apply Kd.S_drewN | apply Kd.S_drew)); exact HO_8.out⟩, ⟨by (with_reducible repeat (first | apply Kd.S_alloc | apply Kd.S_drewN | apply Kd.S_drew)); exact HO_12.out⟩, ⟨by (with_reducible repeat (first | apply Kd.S_alloc | apply Kd.S_drewN | apply Kd.S_drew)); exact HO_14.out⟩, ⟨by repeat (first | (with_reducible first | exact HB.out | apply below_alloc | apply pw_below_drewN | apply below_drew1) | exact HB.out)⟩⟩
        rw [if_pos c99] at H
        have c99b0 : (x16_2 == (Int.tmod (rd t215 1) (t212.length : Int))) = true := beq_iff_eq.mpr c99
        have c99b1 : (x16_2 != (Int.tmod (rd t215 1) (t212.length : Int))) = false := bne_eq_false_iff_eq.mpr c99
        clear c99
        by_cases c100 : x16_2 < (t228.length : Int)
        rotate_left
        ·rw [if_neg c100] at H
         exact absurd H (by simp)
        rw [if_pos c100] at H
        have c100b0 : decide (x16_2 < (t228.length : Int)) = true := decide_eq_true c100
        clear c100
        by_cases c101 : x17_3 < ((rd_L2 t228 x16_2).length : Int)
        rotate_left
        ·rw [if_neg c101] at H
         exact absurd H (by simp)
        rw [if_pos c101] at H
        have c101b0 : decide (x17_3 < ((rd_L2 t228 x16_2).length : Int)) = true := decide_eq_true c101
        clear c101
        obtain ⟨ji102, hji102⟩ : ∃ j_ : Int, (Int.tmod (rd t215 0) (t212.length : Int)) = j_ := ⟨_, rfl⟩
        replace H : (if 0 ≤ (ji102) then (if (ji102) < (t222.length : Int) then (if x17_3 < ((rd_L2 t222 (ji102)).length : Int) then (if (rd (rd_L2 t228 x16_2) x17_3) = (rd (rd_L2 t222 (ji102)) x17_3) then (if x16_2 < (t232.length : Int) then (if x17_3 < ((rd_L2 t232 x16_2).length : Int) then (if (rd (rd_L2 t232 x16_2) x17_3) = (rd (rd_L2 t228 x16_2) x17_3) then (laws_FnMemory.l1 k3 t212 (ji102) (Int.tmod (rd t215 1) (t212.length : Int)) (Int.tmod (rd t215 2) 4) t222 t228 t232 x16_2 (wrap64 (x17_3 + 1))) else (some false)) else (none)) else (none)) else (some false)) else (none)) else (none)) else (none)) = some r := by first | (rw [hji102] at H; exact H) | (simp only [hji102] at H ⊢; exact H)
        (try rw [hji102] at c35b0)
        (try rw [hji102] at c35b1)
        by_cases c103 : 0 ≤ (ji102)
        rotate_left
        ·rw [if_neg c103] at H
         exact absurd H (by simp)
        rw [if_pos c103] at H
        have c103b0 : decide (0 ≤ (ji102)) = true := decide_eq_true c103
        clear c103
        by_cases c104 : (ji102) < (t222.length : Int)
        rotate_left
        ·rw [if_neg c104] at H
         exact absurd H (by simp)
        rw [if_pos c104] at H
        have c104b0 : decide ((ji102) < (t222.length : Int)) = true := decide_eq_true c104
        clear c104
        by_cases c105 : x17_3 < ((rd_L2 t222 (ji102)).length : Int)
        rotate_left
        ·rw [if_neg c105] at H
         exact absurd H (by simp)
        rw [if_pos c105] at H
        have c105b0 : decide (x17_3 < ((rd_L2 t222 (ji102)).length : Int)) = true := decide_eq_true c105
        clear c105
        by_cases c106 : (rd (rd_L2 t228 x16_2) x17_3) = (rd (rd_L2 t222 (ji102)) x17_3)
        rotate_left
        ·rw [if_neg c106] at H
         have c106b0 : ((rd (rd_L2 t228 x16_2) x17_3) == (rd (rd_L2 t222 (ji102)) x17_3)) = false := beq_eq_false_iff_ne.mpr c106
         have c106b1 : ((rd (rd_L2 t228 x16_2) x17_3) != (rd (rd_L2 t222 (ji102)) x17_3)) = true := bne_iff_ne.mpr c106
         obtain rfl := Option.some.inj H
         exact absurd hr_ (by decide)
        rw [if_pos c106] at H
        have c106b0 : ((rd (rd_L2 t228 x16_2) x17_3) == (rd (rd_L2 t222 (ji102)) x17_3)) = true := beq_iff_eq.mpr c106
        have c106b1 : ((rd (rd_L2 t228 x16_2) x17_3) != (rd (rd_L2 t222 (ji102)) x17_3)) = false := bne_eq_false_iff_eq.mpr c106
        clear c106
        by_cases c107 : x16_2 < (t232.length : Int)
        rotate_left
        ·rw [if_neg c107] at H
         exact absurd H (by simp)
        rw [if_pos c107] at H
        have c107b0 : decide (x16_2 < (t232.length : Int)) = true := decide_eq_true c107
        clear c107
        by_cases c108 : x17_3 < ((rd_L2 t232 x16_2).length : Int)
        rotate_left
        ·rw [if_neg c108] at H
         exact absurd H (by simp)
        rw [if_pos c108] at H
        have c108b0 : decide (x17_3 < ((rd_L2 t232 x16_2).length : Int)) = true := decide_eq_true c108
        clear c108
        by_cases c109 : (rd (rd_L2 t232 x16_2) x17_3) = (rd (rd_L2 t228 x16_2) x17_3)
        rotate_left
        ·rw [if_neg c109] at H
         have c109b0 : ((rd (rd_L2 t232 x16_2) x17_3) == (rd (rd_L2 t228 x16_2) x17_3)) = false := beq_eq_false_iff_ne.mpr c109
         have c109b1 : ((rd (rd_L2 t232 x16_2) x17_3) != (rd (rd_L2 t228 x16_2) x17_3)) = true := bne_iff_ne.mpr c109
         obtain rfl := Option.some.inj H
         exact absurd hr_ (by decide)
        rw [if_pos c109] at H
        have c109b0 : ((rd (rd_L2 t232 x16_2) x17_3) == (rd (rd_L2 t228 x16_2) x17_3)) = true := beq_iff_eq.mpr c109
        have c109b1 : ((rd (rd_L2 t232 x16_2) x17_3) != (rd (rd_L2 t228 x16_2) x17_3)) = false := bne_eq_false_iff_eq.mpr c109
        clear c109
        have H' := Aside0.mk H
        clear H
        have p266 : 0 ≤ (x16_2 : Int) := of_decide_eq_true (by first | (with_reducible assumption) | assumption)
        have q266 : x16_2 < (t222.length : Int) := of_decide_eq_true (by first | (with_reducible assumption) | assumption)
        obtain ⟨ad266, A266_0, c266_0, e266, hx266_0, hl266_0, hi266_0⟩ := at_L2 (Kd.S_reads' HO_8.out).2.2 x16_2 p266 q266
        cases e266
        obtain ⟨ce266, hce266, hMe266, hcc266⟩ := Kd.S_get HO_8.out [] x16_2 p266 (by first | exact q266 | exact of_decide_eq_true (by first | (with_reducible assumption) | assumption) | (have e_ := (Kd.S_reads' HO_8.out).1; omega))
        obtain ⟨ve266_0, rfl, ge266_0⟩ := hMe266
        have hv266_0 := hcc266 0 _ rfl
        rw [Nat.add_zero, show ((Kd.slice 3 (Kd.int .i64))).sz = 1 from rfl, Nat.mul_one] at hv266_0
        replace hv266_0 := Option.some.inj (hv266_0.symm.trans hx266_0)
        rw [hv266_0] at ge266_0
        have HL266_0 := Aside0.mk (show Kd.R (Kd.int .i64) 3 _ _ _ _ (rd_L2 t222 x16_2) from ge266_0)
        clear hv266_0 ge266_0
        clear hcc266 hce266
        have HR266_0 := Aside0.mk hi266_0
        have HC266_0 := Aside0.mk hl266_0
        clear hi266_0 hl266_0
        replace p266 := eq_true p266
        replace q266 := eq_true q266
        have p267 : 0 ≤ (x17_3 : Int) := of_decide_eq_true (by first | (with_reducible assumption) | assumption)
        have q267 : x17_3 < ((rd_L2 t222 x16_2).length : Int) := of_decide_eq_true (by first | (with_reducible assumption) | assumption)
        obtain ⟨ad267, e267, hx267_0⟩ := Kd.at_int (by repeat (first | (with_reducible exact HR266_0.out) | (with_reducible refine Kd.C_alloc ?_ _) | (with_reducible refine Kd.C_drewN ?_ _) | (with_reducible refine Kd.C_drew ?_) | exact HR266_0.out)) x17_3 p267 q267
        cases e267
        replace p267 := eq_true p267
        replace q267 := eq_true q267
        have p268 : 0 ≤ (x16_2 : Int) := of_decide_eq_true (by first | (with_reducible assumption) | assumption)
        have q268 : x16_2 < (t212.length : Int) := of_decide_eq_true (by first | (with_reducible assumption) | assumption)
        obtain ⟨ad268, A268_0, c268_0, e268, hx268_0, hl268_0, hi268_0⟩ := at_L2 (Kd.S_reads' HO_3.out).2.2 x16_2 p268 q268
        cases e268
        obtain ⟨ce268, hce268, hMe268, hcc268⟩ := Kd.S_get HO_3.out [] x16_2 p268 (by first | exact q268 | exact of_decide_eq_true (by first | (with_reducible assumption) | assumption) | (have e_ := (Kd.S_reads' HO_3.out).1; omega))
        obtain ⟨ve268_0, rfl, ge268_0⟩ := hMe268
        have hv268_0 := hcc268 0 _ rfl
        rw [Nat.add_zero, show ((Kd.slice 3 (Kd.int .i64))).sz = 1 from rfl, Nat.mul_one] at hv268_0
        replace hv268_0 := Option.some.inj (hv268_0.symm.trans hx268_0)
        rw [hv268_0] at ge268_0
        have HL268_0 := Aside0.mk (show Kd.R (Kd.int .i64) 3 _ _ _ _ (rd_L2 t212 x16_2) from ge268_0)
        clear hv268_0 ge268_0
        clear hcc268 hce268
        have HR268_0 := Aside0.mk hi268_0
        have HC268_0 := Aside0.mk hl268_0
        clear hi268_0 hl268_0
        replace p268 := eq_true p268
        replace q268 := eq_true q268
        have p269 : 0 ≤ (x17_3 : Int) := of_decide_eq_true (by first | (with_reducible assumption) | assumption)
        have q269 : x17_3 < ((rd_L2 t212 x16_2).length : Int) := of_decide_eq_true (by first | (with_reducible assumption) | assumption)
        obtain ⟨ad269, e269, hx269_0⟩ := Kd.at_int (by repeat (first | (with_reducible exact HR268_0.out) | (with_reducible refine Kd.C_alloc ?_ _) | (with_reducible refine Kd.C_drewN ?_ _) | (with_reducible refine Kd.C_drew ?_) | exact HR268_0.out)) x17_3 p269 q269
        cases e269
        replace p269 := eq_true p269
        replace q269 := eq_true q269
        have p270 : 0 ≤ (x16_2 : Int) := of_decide_eq_true (by first | (with_reducible assumption) | assumption)
        have q270 : x16_2 < (t228.length : Int) := of_decide_eq_true (by first | (with_reducible assumption) | assumption)
        obtain ⟨ad270, A270_0, c270_0, e270, hx270_0, hl270_0, hi270_0⟩ := at_L2 (Kd.S_reads' HO_12.out).2.2 x16_2 p270 q270
        cases e270
        obtain ⟨ce270, hce270, hMe270, hcc270⟩ := Kd.S_get HO_12.out [] x16_2 p270 (by first | exact q270 | exact of_decide_eq_true (by first | (with_reducible assumption) | assumption) | (have e_ := (Kd.S_reads' HO_12.out).1; omega))
        obtain ⟨ve270_0, rfl, ge270_0⟩ := hMe270
        have hv270_0 := hcc270 0 _ rfl
        rw [Nat.add_zero, show ((Kd.slice 3 (Kd.int .i64))).sz = 1 from rfl, Nat.mul_one] at hv270_0
        replace hv270_0 := Option.some.inj (hv270_0.symm.trans hx270_0)
        rw [hv270_0] at ge270_0
        have HL270_0 := Aside0.mk (show Kd.R (Kd.int .i64) 3 _ _ _ _ (rd_L2 t228 x16_2) from ge270_0)
        clear hv270_0 ge270_0
        clear hcc270 hce270
        have HR270_0 := Aside0.mk hi270_0
        have HC270_0 := Aside0.mk hl270_0
        clear hi270_0 hl270_0
        replace p270 := eq_true p270
        replace q270 := eq_true q270
        have p271 : 0 ≤ (x17_3 : Int) := of_decide_eq_true (by first | (with_reducible assumption) | assumption)
        have q271 : x17_3 < ((rd_L2 t228 x16_2).length : Int) := of_decide_eq_true (by first | (with_reducible assumption) | assumption)
        obtain ⟨ad271, e271, hx271_0⟩ := Kd.at_int (by repeat (first | (with_reducible exact HR270_0.out) | (with_reducible refine Kd.C_alloc ?_ _) | (with_reducible refine Kd.C_drewN ?_ _) | (with_reducible refine Kd.C_drew ?_) | exact HR270_0.out)) x17_3 p271 q271
        cases e271
        replace p271 := eq_true p271
        replace q271 := eq_true q271
        have p272 : 0 ≤ ((ji102) : Int) := of_decide_eq_true (by first | (with_reducible assumption) | assumption)
        have q272 : (ji102) < (t222.length : Int) := of_decide_eq_true (by first | (with_reducible assumption) | assumption)
        obtain ⟨ad272, A272_0, c272_0, e272, hx272_0, hl272_0, hi272_0⟩ := at_L2 (Kd.S_reads' HO_8.out).2.2 (ji102) p272 q272
        obtain rfl : ad266 = ad272 := (by injection e272)
        obtain ⟨ce272, hce272, hMe272, hcc272⟩ := Kd.S_get HO_8.out [] (ji102) p272 (by first | exact q272 | exact of_decide_eq_true (by first | (with_reducible assumption) | assumption) | (have e_ := (Kd.S_reads' HO_8.out).1; omega))
        obtain ⟨ve272_0, rfl, ge272_0⟩ := hMe272
        have hv272_0 := hcc272 0 _ rfl
        rw [Nat.add_zero, show ((Kd.slice 3 (Kd.int .i64))).sz = 1 from rfl, Nat.mul_one] at hv272_0
        replace hv272_0 := Option.some.inj (hv272_0.symm.trans hx272_0)
        rw [hv272_0] at ge272_0
        have HL272_0 := Aside0.mk (show Kd.R (Kd.int .i64) 3 _ _ _ _ (rd_L2 t222 (ji102)) from ge272_0)
        clear hv272_0 ge272_0
        clear hcc272 hce272
        have HR272_0 := Aside0.mk hi272_0
        have HC272_0 := Aside0.mk hl272_0
        clear hi272_0 hl272_0
        replace p272 := eq_true p272
        replace q272 := eq_true q272
        have p273 : 0 ≤ (x17_3 : Int) := of_decide_eq_true (by first | (with_reducible assumption) | assumption)
        have q273 : x17_3 < ((rd_L2 t222 (ji102)).length : Int) := of_decide_eq_true (by first | (with_reducible assumption) | assumption)
        obtain ⟨ad273, e273, hx273_0⟩ := Kd.at_int (by repeat (first | (with_reducible exact HR272_0.out) | (with_reducible refine Kd.C_alloc ?_ _) | (with_reducible refine Kd.C_drewN ?_ _) | (with_reducible refine Kd.C_drew ?_) | exact HR272_0.out)) x17_3 p273 q273
        cases e273
        replace p273 := eq_true p273
        replace q273 := eq_true q273
        obtain ⟨Ao110, co110, eo110⟩ := Kd.S_slice HO_14.out
        subst eo110
        have p274 : 0 ≤ (x16_2 : Int) := of_decide_eq_true (by first | (with_reducible assumption) | assumption)
        have q274 : x16_2 < (t232.length : Int) := of_decide_eq_true (by first | (with_reducible assumption) | assumption)
        obtain ⟨ad274, A274_0, c274_0, e274, hx274_0, hl274_0, hi274_0⟩ := at_L2 (Kd.S_reads' HO_14.out).2.2 x16_2 p274 q274
        cases e274
        obtain ⟨ce274, hce274, hMe274, hcc274⟩ := Kd.S_get HO_14.out [] x16_2 p274 (by first | exact q274 | exact of_decide_eq_true (by first | (with_reducible assumption) | assumption) | (have e_ := (Kd.S_reads' HO_14.out).1; omega))
        obtain ⟨ve274_0, rfl, ge274_0⟩ := hMe274
        have hv274_0 := hcc274 0 _ rfl
        rw [Nat.add_zero, show ((Kd.slice 3 (Kd.int .i64))).sz = 1 from rfl, Nat.mul_one] at hv274_0
        replace hv274_0 := Option.some.inj (hv274_0.symm.trans hx274_0)
        rw [hv274_0] at ge274_0
        have HL274_0 := Aside0.mk (show Kd.R (Kd.int .i64) 3 _ _ _ _ (rd_L2 t232 x16_2) from ge274_0)
        clear hv274_0 ge274_0
        clear hcc274 hce274
        have HR274_0 := Aside0.mk hi274_0
        have HC274_0 := Aside0.mk hl274_0
        clear hi274_0 hl274_0
        replace p274 := eq_true p274
        replace q274 := eq_true q274
        have p275 : 0 ≤ (x17_3 : Int) := of_decide_eq_true (by first | (with_reducible assumption) | assumption)
        have q275 : x17_3 < ((rd_L2 t232 x16_2).length : Int) := of_decide_eq_true (by first | (with_reducible assumption) | assumption)
        obtain ⟨ad275, e275, hx275_0⟩ := Kd.at_int (by repeat (first | (with_reducible exact HR274_0.out) | (with_reducible refine Kd.C_alloc ?_ _) | (with_reducible refine Kd.C_drewN ?_ _) | (with_reducible refine Kd.C_drew ?_) | exact HR274_0.out)) x17_3 p275 q275
        cases e275
        replace p275 := eq_true p275
        replace q275 := eq_true q275
        have p276 : 0 ≤ (x16_2 : Int) := of_decide_eq_true (by first | (with_reducible assumption) | assumption)
        have q276 : x16_2 < (t228.length : Int) := of_decide_eq_true (by first | (with_reducible assumption) | assumption)
        obtain ⟨ad276, A276_0, c276_0, e276, hx276_0, hl276_0, hi276_0⟩ := at_L2 (Kd.S_reads' HO_12.out).2.2 x16_2 p276 q276
        obtain rfl : ad270 = ad276 := (by injection e276)
        obtain ⟨ce276, hce276, hMe276, hcc276⟩ := Kd.S_get HO_12.out [] x16_2 p276 (by first | exact q276 | exact of_decide_eq_true (by first | (with_reducible assumption) | assumption) | (have e_ := (Kd.S_reads' HO_12.out).1; omega))
        obtain ⟨ve276_0, rfl, ge276_0⟩ := hMe276
        have hv276_0 := hcc276 0 _ rfl
        rw [Nat.add_zero, show ((Kd.slice 3 (Kd.int .i64))).sz = 1 from rfl, Nat.mul_one] at hv276_0
        replace hv276_0 := Option.some.inj (hv276_0.symm.trans hx276_0)
        rw [hv276_0] at ge276_0
        have HL276_0 := Aside0.mk (show Kd.R (Kd.int .i64) 3 _ _ _ _ (rd_L2 t228 x16_2) from ge276_0)
        clear hv276_0 ge276_0
        clear hcc276 hce276
        have HR276_0 := Aside0.mk hi276_0
        have HC276_0 := Aside0.mk hl276_0
        clear hi276_0 hl276_0
        replace p276 := eq_true p276
        replace q276 := eq_true q276
        have ea_ := Option.some.inj (hx270_0.symm.trans hx276_0)
        injection ea_ with ea_ en_ ec_
        subst ea_
        subst ec_
        clear en_
        have p277 : 0 ≤ (x17_3 : Int) := of_decide_eq_true (by first | (with_reducible assumption) | assumption)
        have q277 : x17_3 < ((rd_L2 t228 x16_2).length : Int) := of_decide_eq_true (by first | (with_reducible assumption) | assumption)
        obtain ⟨ad277, e277, hx277_0⟩ := Kd.at_int (by repeat (first | (with_reducible exact HR276_0.out) | (with_reducible refine Kd.C_alloc ?_ _) | (with_reducible refine Kd.C_drewN ?_ _) | (with_reducible refine Kd.C_drew ?_) | exact HR276_0.out)) x17_3 p277 q277
        cases e277
        replace p277 := eq_true p277
        replace q277 := eq_true q277
        go_wp2
        (try simp only [List.append_eq, List.cons_append, List.nil_append])
        refine wp_region_quiet_lit (by kernel_rfl) (Eq.mp (congrArg (fun o => Region.lexB .any o = true) (by kernel_rfl : (opsOf Try.f3 20) = _)) lex20) ?_
        repeat (go_big_quiet_step (fail))
        refine wpQuiet_nil ?_
        intro _ hw'
        obtain ⟨nq, hw''⟩ := hw'
        subst hw''
        try go_wp2
        (try subst hji102)
        go_roundg k3
        case measure => have := HJ14.out; have := HK2.out; have := HK3.out; omega
        case rel => exact ⟨(wrap64 (x17_3 + 1)), (by first | rfl | (simp; done) | (simp [*]; done)), H', ⟨by have := HJ14.out; have := HK2.out; have := HK3.out; omega⟩, ⟨by (with_reducible repeat (first | apply Kd.S_alloc | apply Kd.S_drewN | apply Kd.S_drew)); exact HO_3.out⟩, ⟨by (with_reducible repeat (first | apply Kd.S_alloc | apply Kd.S_drewN | apply Kd.S_drew)); exact HO_8.out⟩, ⟨by (with_reducible repeat (first | apply Kd.S_alloc | apply Kd.S_drewN | apply Kd.S_drew)); exact HO_12.out⟩, ⟨by (with_reducible repeat (first | apply Kd.S_alloc | apply Kd.S_drewN | apply Kd.S_drew)); exact HO_14.out⟩, ⟨by repeat (first | (with_reducible first | exact HB.out | apply below_alloc | apply pw_below_drewN | apply below_drew1) | exact HB.out)⟩⟩
       rw [if_pos c35] at H
       have c35b0 : (x16_2 == (Int.tmod (rd t215 0) (t212.length : Int))) = true := beq_iff_eq.mpr c35
       have c35b1 : (x16_2 != (Int.tmod (rd t215 0) (t212.length : Int))) = false := bne_eq_false_iff_eq.mpr c35
       clear c35
       by_cases c36 : x17_3 = (Int.tmod (rd t215 2) 4)
       ·rw [if_pos c36] at H
        have c36b0 : (x17_3 == (Int.tmod (rd t215 2) 4)) = true := beq_iff_eq.mpr c36
        have c36b1 : (x17_3 != (Int.tmod (rd t215 2) 4)) = false := bne_eq_false_iff_eq.mpr c36
        clear c36
        by_cases c37 : x16_2 = (Int.tmod (rd t215 1) (t212.length : Int))
        rotate_left
        ·rw [if_neg c37] at H
         have c37b0 : (x16_2 == (Int.tmod (rd t215 1) (t212.length : Int))) = false := beq_eq_false_iff_ne.mpr c37
         have c37b1 : (x16_2 != (Int.tmod (rd t215 1) (t212.length : Int))) = true := bne_iff_ne.mpr c37
         by_cases c52 : 0 ≤ x16_2
         rotate_left
         ·rw [if_neg c52] at H
          exact absurd H (by simp)
         rw [if_pos c52] at H
         have c52b0 : decide (0 ≤ x16_2) = true := decide_eq_true c52
         clear c52
         by_cases c53 : x16_2 < (t228.length : Int)
         rotate_left
         ·rw [if_neg c53] at H
          exact absurd H (by simp)
         rw [if_pos c53] at H
         have c53b0 : decide (x16_2 < (t228.length : Int)) = true := decide_eq_true c53
         clear c53
         by_cases c54 : 0 ≤ x17_3
         rotate_left
         ·rw [if_neg c54] at H
          exact absurd H (by simp)
         rw [if_pos c54] at H
         have c54b0 : decide (0 ≤ x17_3) = true := decide_eq_true c54
         clear c54
         by_cases c55 : x17_3 < ((rd_L2 t228 x16_2).length : Int)
         rotate_left
         ·rw [if_neg c55] at H
          exact absurd H (by simp)
         rw [if_pos c55] at H
         have c55b0 : decide (x17_3 < ((rd_L2 t228 x16_2).length : Int)) = true := decide_eq_true c55
         clear c55
         by_cases c56 : x16_2 < (t222.length : Int)
         rotate_left
         ·rw [if_neg c56] at H
          exact absurd H (by simp)
         rw [if_pos c56] at H
         have c56b0 : decide (x16_2 < (t222.length : Int)) = true := decide_eq_true c56
         clear c56
         by_cases c57 : x17_3 < ((rd_L2 t222 x16_2).length : Int)
         rotate_left
         ·rw [if_neg c57] at H
          exact absurd H (by simp)
         rw [if_pos c57] at H
         have c57b0 : decide (x17_3 < ((rd_L2 t222 x16_2).length : Int)) = true := decide_eq_true c57
         clear c57
         by_cases c58 : (rd (rd_L2 t228 x16_2) x17_3) = (rd (rd_L2 t222 x16_2) x17_3)
         rotate_left
         ·rw [if_neg c58] at H
          have c58b0 : ((rd (rd_L2 t228 x16_2) x17_3) == (rd (rd_L2 t222 x16_2) x17_3)) = false := beq_eq_false_iff_ne.mpr c58
          have c58b1 : ((rd (rd_L2 t228 x16_2) x17_3) != (rd (rd_L2 t222 x16_2) x17_3)) = true := bne_iff_ne.mpr c58
          obtain rfl := Option.some.inj H
          exact absurd hr_ (by decide)
         rw [if_pos c58] at H
         have c58b0 : ((rd (rd_L2 t228 x16_2) x17_3) == (rd (rd_L2 t222 x16_2) x17_3)) = true := beq_iff_eq.mpr c58
         have c58b1 : ((rd (rd_L2 t228 x16_2) x17_3) != (rd (rd_L2 t222 x16_2) x17_3)) = false := bne_eq_false_iff_eq.mpr c58
         clear c58
         by_cases c59 : x16_2 < (t232.length : Int)
         rotate_left
         ·rw [if_neg c59] at H
          exact absurd H (by simp)
         rw [if_pos c59] at H
         have c59b0 : decide (x16_2 < (t232.length : Int)) = true := decide_eq_true c59
         clear c59
         by_cases c60 : x17_3 < ((rd_L2 t232 x16_2).length : Int)
         rotate_left
         ·rw [if_neg c60] at H
          exact absurd H (by simp)
         rw [if_pos c60] at H
         have c60b0 : decide (x17_3 < ((rd_L2 t232 x16_2).length : Int)) = true := decide_eq_true c60
         clear c60
         by_cases c61 : (rd (rd_L2 t232 x16_2) x17_3) = 0
         rotate_left
         ·rw [if_neg c61] at H
          have c61b0 : ((rd (rd_L2 t232 x16_2) x17_3) == 0) = false := beq_eq_false_iff_ne.mpr c61
          have c61b1 : ((rd (rd_L2 t232 x16_2) x17_3) != 0) = true := bne_iff_ne.mpr c61
          obtain rfl := Option.some.inj H
          exact absurd hr_ (by decide)
         rw [if_pos c61] at H
         have c61b0 : ((rd (rd_L2 t232 x16_2) x17_3) == 0) = true := beq_iff_eq.mpr c61
         have c61b1 : ((rd (rd_L2 t232 x16_2) x17_3) != 0) = false := bne_eq_false_iff_eq.mpr c61
         clear c61
         have H' := Aside0.mk H
         clear H
         have p244 : 0 ≤ (x16_2 : Int) := of_decide_eq_true (by first | (with_reducible assumption) | assumption)
         have q244 : x16_2 < (t228.length : Int) := of_decide_eq_true (by first | (with_reducible assumption) | assumption)
         obtain ⟨ad244, A244_0, c244_0, e244, hx244_0, hl244_0, hi244_0⟩ := at_L2 (Kd.S_reads' HO_12.out).2.2 x16_2 p244 q244
         cases e244
         obtain ⟨ce244, hce244, hMe244, hcc244⟩ := Kd.S_get HO_12.out [] x16_2 p244 (by first | exact q244 | exact of_decide_eq_true (by first | (with_reducible assumption) | assumption) | (have e_ := (Kd.S_reads' HO_12.out).1; omega))
         obtain ⟨ve244_0, rfl, ge244_0⟩ := hMe244
         have hv244_0 := hcc244 0 _ rfl
         rw [Nat.add_zero, show ((Kd.slice 3 (Kd.int .i64))).sz = 1 from rfl, Nat.mul_one] at hv244_0
         replace hv244_0 := Option.some.inj (hv244_0.symm.trans hx244_0)
         rw [hv244_0] at ge244_0
         have HL244_0 := Aside0.mk (show Kd.R (Kd.int .i64) 3 _ _ _ _ (rd_L2 t228 x16_2) from ge244_0)
         clear hv244_0 ge244_0
         clear hcc244 hce244
         have HR244_0 := Aside0.mk hi244_0
         have HC244_0 := Aside0.mk hl244_0
         clear hi244_0 hl244_0
         replace p244 := eq_true p244
         replace q244 := eq_true q244
         have p245 : 0 ≤ (x17_3 : Int) := of_decide_eq_true (by first | (with_reducible assumption) | assumption)
         have q245 : x17_3 < ((rd_L2 t228 x16_2).length : Int) := of_decide_eq_true (by first | (with_reducible assumption) | assumption)
         obtain ⟨ad245, e245, hx245_0⟩ := Kd.at_int (by repeat (first | (with_reducible exact HR244_0.out) | (with_reducible refine Kd.C_alloc ?_ _) | (with_reducible refine Kd.C_drewN ?_ _) | (with_reducible refine Kd.C_drew ?_) | exact HR244_0.out)) x17_3 p245 q245
         cases e245
         replace p245 := eq_true p245
         replace q245 := eq_true q245
         have p246 : 0 ≤ (x16_2 : Int) := of_decide_eq_true (by first | (with_reducible assumption) | assumption)
         have q246 : x16_2 < (t222.length : Int) := of_decide_eq_true (by first | (with_reducible assumption) | assumption)
         obtain ⟨ad246, A246_0, c246_0, e246, hx246_0, hl246_0, hi246_0⟩ := at_L2 (Kd.S_reads' HO_8.out).2.2 x16_2 p246 q246
         cases e246
         obtain ⟨ce246, hce246, hMe246, hcc246⟩ := Kd.S_get HO_8.out [] x16_2 p246 (by first | exact q246 | exact of_decide_eq_true (by first | (with_reducible assumption) | assumption) | (have e_ := (Kd.S_reads' HO_8.out).1; omega))
         obtain ⟨ve246_0, rfl, ge246_0⟩ := hMe246
         have hv246_0 := hcc246 0 _ rfl
         rw [Nat.add_zero, show ((Kd.slice 3 (Kd.int .i64))).sz = 1 from rfl, Nat.mul_one] at hv246_0
         replace hv246_0 := Option.some.inj (hv246_0.symm.trans hx246_0)
         rw [hv246_0] at ge246_0
         have HL246_0 := Aside0.mk (show Kd.R (Kd.int .i64) 3 _ _ _ _ (rd_L2 t222 x16_2) from ge246_0)
         clear hv246_0 ge246_0
         clear hcc246 hce246
         have HR246_0 := Aside0.mk hi246_0
         have HC246_0 := Aside0.mk hl246_0
         clear hi246_0 hl246_0
         replace p246 := eq_true p246
         replace q246 := eq_true q246
         have p247 : 0 ≤ (x17_3 : Int) := of_decide_eq_true (by first | (with_reducible assumption) | assumption)
         have q247 : x17_3 < ((rd_L2 t222 x16_2).length : Int) := of_decide_eq_true (by first | (with_reducible assumption) | assumption)
         obtain ⟨ad247, e247, hx247_0⟩ := Kd.at_int (by repeat (first | (with_reducible exact HR246_0.out) | (with_reducible refine Kd.C_alloc ?_ _) | (with_reducible refine Kd.C_drewN ?_ _) | (with_reducible refine Kd.C_drew ?_) | exact HR246_0.out)) x17_3 p247 q247
         cases e247
         replace p247 := eq_true p247
         replace q247 := eq_true q247
         obtain ⟨Ao62, co62, eo62⟩ := Kd.S_slice HO_14.out
         subst eo62
         have p248 : 0 ≤ (x16_2 : Int) := of_decide_eq_true (by first | (with_reducible assumption) | assumption)
         have q248 : x16_2 < (t232.length : Int) := of_decide_eq_true (by first | (with_reducible assumption) | assumption)
         obtain ⟨ad248, A248_0, c248_0, e248, hx248_0, hl248_0, hi248_0⟩ := at_L2 (Kd.S_reads' HO_14.out).2.2 x16_2 p248 q248
         cases e248
         obtain ⟨ce248, hce248, hMe248, hcc248⟩ := Kd.S_get HO_14.out [] x16_2 p248 (by first | exact q248 | exact of_decide_eq_true (by first | (with_reducible assumption) | assumption) | (have e_ := (Kd.S_reads' HO_14.out).1; omega))
         obtain ⟨ve248_0, rfl, ge248_0⟩ := hMe248
         have hv248_0 := hcc248 0 _ rfl
         rw [Nat.add_zero, show ((Kd.slice 3 (Kd.int .i64))).sz = 1 from rfl, Nat.mul_one] at hv248_0
         replace hv248_0 := Option.some.inj (hv248_0.symm.trans hx248_0)
         rw [hv248_0] at ge248_0
         have HL248_0 := Aside0.mk (show Kd.R (Kd.int .i64) 3 _ _ _ _ (rd_L2 t232 x16_2) from ge248_0)
         clear hv248_0 ge248_0
         clear hcc248 hce248
         have HR248_0 := Aside0.mk hi248_0
         have HC248_0 := Aside0.mk hl248_0
         clear hi248_0 hl248_0
         replace p248 := eq_true p248
         replace q248 := eq_true q248
         have p249 : 0 ≤ (x17_3 : Int) := of_decide_eq_true (by first | (with_reducible assumption) | assumption)
         have q249 : x17_3 < ((rd_L2 t232 x16_2).length : Int) := of_decide_eq_true (by first | (with_reducible assumption) | assumption)
         obtain ⟨ad249, e249, hx249_0⟩ := Kd.at_int (by repeat (first | (with_reducible exact HR248_0.out) | (with_reducible refine Kd.C_alloc ?_ _) | (with_reducible refine Kd.C_drewN ?_ _) | (with_reducible refine Kd.C_drew ?_) | exact HR248_0.out)) x17_3 p249 q249
         cases e249
         replace p249 := eq_true p249
         replace q249 := eq_true q249
         go_wp2
         (try simp only [List.append_eq, List.cons_append, List.nil_append])
         refine wp_region_quiet_lit (by kernel_rfl) (Eq.mp (congrArg (fun o => Region.lexB .any o = true) (by kernel_rfl : (opsOf Try.f3 20) = _)) lex20) ?_
         repeat (go_big_quiet_step (fail))
         refine wpQuiet_nil ?_
         intro _ hw'
         obtain ⟨nq, hw''⟩ := hw'
         subst hw''
         try go_wp2
         (try subst hji102)
         go_roundg k3
         case measure => have := HJ14.out; have := HK2.out; have := HK3.out; omega
         case rel => exact ⟨(wrap64 (x17_3 + 1)), (by first | rfl | (simp; done) | (simp [*]; done)), H', ⟨by have := HJ14.out; have := HK2.out; have := HK3.out; omega⟩, ⟨by (with_reducible repeat (first | apply Kd.S_alloc | apply Kd.S_drewN | apply Kd.S_drew)); exact HO_3.out⟩, ⟨by (with_reducible repeat (first | apply Kd.S_alloc | apply Kd.S_drewN | apply Kd.S_drew)); exact HO_8.out⟩, ⟨by (with_reducible repeat (first | apply Kd.S_alloc | apply Kd.S_drewN | apply Kd.S_drew)); exact HO_12.out⟩, ⟨by (with_reducible repeat (first | apply Kd.S_alloc | apply Kd.S_drewN | apply Kd.S_drew)); exact HO_14.out⟩, ⟨by repeat (first | (with_reducible first | exact HB.out | apply below_alloc | apply pw_below_drewN | apply below_drew1) | exact HB.out)⟩⟩
        rw [if_pos c37] at H
        have c37b0 : (x16_2 == (Int.tmod (rd t215 1) (t212.length : Int))) = true := beq_iff_eq.mpr c37
        have c37b1 : (x16_2 != (Int.tmod (rd t215 1) (t212.length : Int))) = false := bne_eq_false_iff_eq.mpr c37
        clear c37
        by_cases c38 : 0 ≤ x16_2
        rotate_left
        ·rw [if_neg c38] at H
         exact absurd H (by simp)
        rw [if_pos c38] at H
        have c38b0 : decide (0 ≤ x16_2) = true := decide_eq_true c38
        clear c38
        by_cases c39 : x16_2 < (t228.length : Int)
        rotate_left
        ·rw [if_neg c39] at H
         exact absurd H (by simp)
        rw [if_pos c39] at H
        have c39b0 : decide (x16_2 < (t228.length : Int)) = true := decide_eq_true c39
        clear c39
        by_cases c40 : 0 ≤ x17_3
        rotate_left
        ·rw [if_neg c40] at H
         exact absurd H (by simp)
        rw [if_pos c40] at H
        have c40b0 : decide (0 ≤ x17_3) = true := decide_eq_true c40
        clear c40
        by_cases c41 : x17_3 < ((rd_L2 t228 x16_2).length : Int)
        rotate_left
        ·rw [if_neg c41] at H
         exact absurd H (by simp)
        rw [if_pos c41] at H
        have c41b0 : decide (x17_3 < ((rd_L2 t228 x16_2).length : Int)) = true := decide_eq_true c41
        clear c41
        obtain ⟨ji42, hji42⟩ : ∃ j_ : Int, (Int.tmod (rd t215 0) (t212.length : Int)) = j_ := ⟨_, rfl⟩
        replace H : (if 0 ≤ (ji42) then (if (ji42) < (t222.length : Int) then (if x17_3 < ((rd_L2 t222 (ji42)).length : Int) then (if (rd (rd_L2 t228 x16_2) x17_3) = (rd (rd_L2 t222 (ji42)) x17_3) then (if x16_2 < (t232.length : Int) then (if x17_3 < ((rd_L2 t232 x16_2).length : Int) then (if (rd (rd_L2 t232 x16_2) x17_3) = 0 then (laws_FnMemory.l1 k3 t212 (ji42) (Int.tmod (rd t215 1) (t212.length : Int)) (Int.tmod (rd t215 2) 4) t222 t228 t232 x16_2 (wrap64 (x17_3 + 1))) else (some false)) else (none)) else (none)) else (some false)) else (none)) else (none)) else (none)) = some r := by first | (rw [hji42] at H; exact H) | (simp only [hji42] at H ⊢; exact H)
        (try rw [hji42] at c35b0)
        (try rw [hji42] at c35b1)
        by_cases c43 : 0 ≤ (ji42)
        rotate_left
        ·rw [if_neg c43] at H
         exact absurd H (by simp)
        rw [if_pos c43] at H
        have c43b0 : decide (0 ≤ (ji42)) = true := decide_eq_true c43
        clear c43
        by_cases c44 : (ji42) < (t222.length : Int)
        rotate_left
        ·rw [if_neg c44] at H
         exact absurd H (by simp)
        rw [if_pos c44] at H
        have c44b0 : decide ((ji42) < (t222.length : Int)) = true := decide_eq_true c44
        clear c44
        by_cases c45 : x17_3 < ((rd_L2 t222 (ji42)).length : Int)
        rotate_left
        ·rw [if_neg c45] at H
         exact absurd H (by simp)
        rw [if_pos c45] at H
        have c45b0 : decide (x17_3 < ((rd_L2 t222 (ji42)).length : Int)) = true := decide_eq_true c45
        clear c45
        by_cases c46 : (rd (rd_L2 t228 x16_2) x17_3) = (rd (rd_L2 t222 (ji42)) x17_3)
        rotate_left
        ·rw [if_neg c46] at H
         have c46b0 : ((rd (rd_L2 t228 x16_2) x17_3) == (rd (rd_L2 t222 (ji42)) x17_3)) = false := beq_eq_false_iff_ne.mpr c46
         have c46b1 : ((rd (rd_L2 t228 x16_2) x17_3) != (rd (rd_L2 t222 (ji42)) x17_3)) = true := bne_iff_ne.mpr c46
         obtain rfl := Option.some.inj H
         exact absurd hr_ (by decide)
        rw [if_pos c46] at H
        have c46b0 : ((rd (rd_L2 t228 x16_2) x17_3) == (rd (rd_L2 t222 (ji42)) x17_3)) = true := beq_iff_eq.mpr c46
        have c46b1 : ((rd (rd_L2 t228 x16_2) x17_3) != (rd (rd_L2 t222 (ji42)) x17_3)) = false := bne_eq_false_iff_eq.mpr c46
        clear c46
        by_cases c47 : x16_2 < (t232.length : Int)
        rotate_left
        ·rw [if_neg c47] at H
         exact absurd H (by simp)
        rw [if_pos c47] at H
        have c47b0 : decide (x16_2 < (t232.length : Int)) = true := decide_eq_true c47
        clear c47
        by_cases c48 : x17_3 < ((rd_L2 t232 x16_2).length : Int)
        rotate_left
        ·rw [if_neg c48] at H
         exact absurd H (by simp)
        rw [if_pos c48] at H
        have c48b0 : decide (x17_3 < ((rd_L2 t232 x16_2).length : Int)) = true := decide_eq_true c48
        clear c48
        by_cases c49 : (rd (rd_L2 t232 x16_2) x17_3) = 0
        rotate_left
        ·rw [if_neg c49] at H
         have c49b0 : ((rd (rd_L2 t232 x16_2) x17_3) == 0) = false := beq_eq_false_iff_ne.mpr c49
         have c49b1 : ((rd (rd_L2 t232 x16_2) x17_3) != 0) = true := bne_iff_ne.mpr c49
         obtain rfl := Option.some.inj H
         exact absurd hr_ (by decide)
        rw [if_pos c49] at H
        have c49b0 : ((rd (rd_L2 t232 x16_2) x17_3) == 0) = true := beq_iff_eq.mpr c49
        have c49b1 : ((rd (rd_L2 t232 x16_2) x17_3) != 0) = false := bne_eq_false_iff_eq.mpr c49
        clear c49
        have H' := Aside0.mk H
        clear H
        have p238 : 0 ≤ (x16_2 : Int) := of_decide_eq_true (by first | (with_reducible assumption) | assumption)
        have q238 : x16_2 < (t228.length : Int) := of_decide_eq_true (by first | (with_reducible assumption) | assumption)
        obtain ⟨ad238, A238_0, c238_0, e238, hx238_0, hl238_0, hi238_0⟩ := at_L2 (Kd.S_reads' HO_12.out).2.2 x16_2 p238 q238
        cases e238
        obtain ⟨ce238, hce238, hMe238, hcc238⟩ := Kd.S_get HO_12.out [] x16_2 p238 (by first | exact q238 | exact of_decide_eq_true (by first | (with_reducible assumption) | assumption) | (have e_ := (Kd.S_reads' HO_12.out).1; omega))
        obtain ⟨ve238_0, rfl, ge238_0⟩ := hMe238
        have hv238_0 := hcc238 0 _ rfl
        rw [Nat.add_zero, show ((Kd.slice 3 (Kd.int .i64))).sz = 1 from rfl, Nat.mul_one] at hv238_0
        replace hv238_0 := Option.some.inj (hv238_0.symm.trans hx238_0)
        rw [hv238_0] at ge238_0
        have HL238_0 := Aside0.mk (show Kd.R (Kd.int .i64) 3 _ _ _ _ (rd_L2 t228 x16_2) from ge238_0)
        clear hv238_0 ge238_0
        clear hcc238 hce238
        have HR238_0 := Aside0.mk hi238_0
        have HC238_0 := Aside0.mk hl238_0
        clear hi238_0 hl238_0
        replace p238 := eq_true p238
        replace q238 := eq_true q238
        have p239 : 0 ≤ (x17_3 : Int) := of_decide_eq_true (by first | (with_reducible assumption) | assumption)
        have q239 : x17_3 < ((rd_L2 t228 x16_2).length : Int) := of_decide_eq_true (by first | (with_reducible assumption) | assumption)
        obtain ⟨ad239, e239, hx239_0⟩ := Kd.at_int (by repeat (first | (with_reducible exact HR238_0.out) | (with_reducible refine Kd.C_alloc ?_ _) | (with_reducible refine Kd.C_drewN ?_ _) | (with_reducible refine Kd.C_drew ?_) | exact HR238_0.out)) x17_3 p239 q239
        cases e239
        replace p239 := eq_true p239
        replace q239 := eq_true q239
        have p240 : 0 ≤ ((ji42) : Int) := of_decide_eq_true (by first | (with_reducible assumption) | assumption)
        have q240 : (ji42) < (t222.length : Int) := of_decide_eq_true (by first | (with_reducible assumption) | assumption)
        obtain ⟨ad240, A240_0, c240_0, e240, hx240_0, hl240_0, hi240_0⟩ := at_L2 (Kd.S_reads' HO_8.out).2.2 (ji42) p240 q240
        cases e240
        obtain ⟨ce240, hce240, hMe240, hcc240⟩ := Kd.S_get HO_8.out [] (ji42) p240 (by first | exact q240 | exact of_decide_eq_true (by first | (with_reducible assumption) | assumption) | (have e_ := (Kd.S_reads' HO_8.out).1; omega))
        obtain ⟨ve240_0, rfl, ge240_0⟩ := hMe240
        have hv240_0 := hcc240 0 _ rfl
        rw [Nat.add_zero, show ((Kd.slice 3 (Kd.int .i64))).sz = 1 from rfl, Nat.mul_one] at hv240_0
        replace hv240_0 := Option.some.inj (hv240_0.symm.trans hx240_0)
        rw [hv240_0] at ge240_0
        have HL240_0 := Aside0.mk (show Kd.R (Kd.int .i64) 3 _ _ _ _ (rd_L2 t222 (ji42)) from ge240_0)
        clear hv240_0 ge240_0
        clear hcc240 hce240
        have HR240_0 := Aside0.mk hi240_0
        have HC240_0 := Aside0.mk hl240_0
        clear hi240_0 hl240_0
        replace p240 := eq_true p240
        replace q240 := eq_true q240
        have p241 : 0 ≤ (x17_3 : Int) := of_decide_eq_true (by first | (with_reducible assumption) | assumption)
        have q241 : x17_3 < ((rd_L2 t222 (ji42)).length : Int) := of_decide_eq_true (by first | (with_reducible assumption) | assumption)
        obtain ⟨ad241, e241, hx241_0⟩ := Kd.at_int (by repeat (first | (with_reducible exact HR240_0.out) | (with_reducible refine Kd.C_alloc ?_ _) | (with_reducible refine Kd.C_drewN ?_ _) | (with_reducible refine Kd.C_drew ?_) | exact HR240_0.out)) x17_3 p241 q241
        cases e241
        replace p241 := eq_true p241
        replace q241 := eq_true q241
        obtain ⟨Ao50, co50, eo50⟩ := Kd.S_slice HO_14.out
        subst eo50
        have p242 : 0 ≤ (x16_2 : Int) := of_decide_eq_true (by first | (with_reducible assumption) | assumption)
        have q242 : x16_2 < (t232.length : Int) := of_decide_eq_true (by first | (with_reducible assumption) | assumption)
        obtain ⟨ad242, A242_0, c242_0, e242, hx242_0, hl242_0, hi242_0⟩ := at_L2 (Kd.S_reads' HO_14.out).2.2 x16_2 p242 q242
        cases e242
        obtain ⟨ce242, hce242, hMe242, hcc242⟩ := Kd.S_get HO_14.out [] x16_2 p242 (by first | exact q242 | exact of_decide_eq_true (by first | (with_reducible assumption) | assumption) | (have e_ := (Kd.S_reads' HO_14.out).1; omega))
        obtain ⟨ve242_0, rfl, ge242_0⟩ := hMe242
        have hv242_0 := hcc242 0 _ rfl
        rw [Nat.add_zero, show ((Kd.slice 3 (Kd.int .i64))).sz = 1 from rfl, Nat.mul_one] at hv242_0
        replace hv242_0 := Option.some.inj (hv242_0.symm.trans hx242_0)
        rw [hv242_0] at ge242_0
        have HL242_0 := Aside0.mk (show Kd.R (Kd.int .i64) 3 _ _ _ _ (rd_L2 t232 x16_2) from ge242_0)
        clear hv242_0 ge242_0
        clear hcc242 hce242
        have HR242_0 := Aside0.mk hi242_0
        have HC242_0 := Aside0.mk hl242_0
        clear hi242_0 hl242_0
        replace p242 := eq_true p242
        replace q242 := eq_true q242
        have p243 : 0 ≤ (x17_3 : Int) := of_decide_eq_true (by first | (with_reducible assumption) | assumption)
        have q243 : x17_3 < ((rd_L2 t232 x16_2).length : Int) := of_decide_eq_true (by first | (with_reducible assumption) | assumption)
        obtain ⟨ad243, e243, hx243_0⟩ := Kd.at_int (by repeat (first | (with_reducible exact HR242_0.out) | (with_reducible refine Kd.C_alloc ?_ _) | (with_reducible refine Kd.C_drewN ?_ _) | (with_reducible refine Kd.C_drew ?_) | exact HR242_0.out)) x17_3 p243 q243
        cases e243
        replace p243 := eq_true p243
        replace q243 := eq_true q243
        go_wp2
        (try simp only [List.append_eq, List.cons_append, List.nil_append])
        refine wp_region_quiet_lit (by kernel_rfl) (Eq.mp (congrArg (fun o => Region.lexB .any o = true) (by kernel_rfl : (opsOf Try.f3 20) = _)) lex20) ?_
        repeat (go_big_quiet_step (fail))
        refine wpQuiet_nil ?_
        intro _ hw'
        obtain ⟨nq, hw''⟩ := hw'
        subst hw''
        try go_wp2
        (try subst hji102); (try subst hji42)
        go_roundg k3
        case measure => have := HJ14.out; have := HK2.out; have := HK3.out; omega
        case rel => exact ⟨(wrap64 (x17_3 + 1)), (by first | rfl | (simp; done) | (simp [*]; done)), H', ⟨by have := HJ14.out; have := HK2.out; have := HK3.out; omega⟩, ⟨by (with_reducible repeat (first | apply Kd.S_alloc | apply Kd.S_drewN | apply Kd.S_drew)); exact HO_3.out⟩, ⟨by (with_reducible repeat (first | apply Kd.S_alloc | apply Kd.S_drewN | apply Kd.S_drew)); exact HO_8.out⟩, ⟨by (with_reducible repeat (first | apply Kd.S_alloc | apply Kd.S_drewN | apply Kd.S_drew)); exact HO_12.out⟩, ⟨by (with_reducible repeat (first | apply Kd.S_alloc | apply Kd.S_drewN | apply Kd.S_drew)); exact HO_14.out⟩, ⟨by repeat (first | (with_reducible first | exact HB.out | apply below_alloc | apply pw_below_drewN | apply below_drew1) | exact HB.out)⟩⟩
       rw [if_neg c36] at H
       have c36b0 : (x17_3 == (Int.tmod (rd t215 2) 4)) = false := beq_eq_false_iff_ne.mpr c36
       have c36b1 : (x17_3 != (Int.tmod (rd t215 2) 4)) = true := bne_iff_ne.mpr c36
       by_cases c64 : 0 ≤ x16_2
       rotate_left
       ·rw [if_neg c64] at H
        exact absurd H (by simp)
       rw [if_pos c64] at H
       have c64b0 : decide (0 ≤ x16_2) = true := decide_eq_true c64
       clear c64
       by_cases c65 : x16_2 < (t222.length : Int)
       rotate_left
       ·rw [if_neg c65] at H
        exact absurd H (by simp)
       rw [if_pos c65] at H
       have c65b0 : decide (x16_2 < (t222.length : Int)) = true := decide_eq_true c65
       clear c65
       by_cases c66 : 0 ≤ x17_3
       rotate_left
       ·rw [if_neg c66] at H
        exact absurd H (by simp)
       rw [if_pos c66] at H
       have c66b0 : decide (0 ≤ x17_3) = true := decide_eq_true c66
       clear c66
       by_cases c67 : x17_3 < ((rd_L2 t222 x16_2).length : Int)
       rotate_left
       ·rw [if_neg c67] at H
        exact absurd H (by simp)
       rw [if_pos c67] at H
       have c67b0 : decide (x17_3 < ((rd_L2 t222 x16_2).length : Int)) = true := decide_eq_true c67
       clear c67
       by_cases c68 : x16_2 < (t212.length : Int)
       rotate_left
       ·rw [if_neg c68] at H
        exact absurd H (by simp)
       rw [if_pos c68] at H
       have c68b0 : decide (x16_2 < (t212.length : Int)) = true := decide_eq_true c68
       clear c68
       by_cases c69 : x17_3 < ((rd_L2 t212 x16_2).length : Int)
       rotate_left
       ·rw [if_neg c69] at H
        exact absurd H (by simp)
       rw [if_pos c69] at H
       have c69b0 : decide (x17_3 < ((rd_L2 t212 x16_2).length : Int)) = true := decide_eq_true c69
       clear c69
       by_cases c70 : (rd (rd_L2 t222 x16_2) x17_3) = (rd (rd_L2 t212 x16_2) x17_3)
       rotate_left
       ·rw [if_neg c70] at H
        have c70b0 : ((rd (rd_L2 t222 x16_2) x17_3) == (rd (rd_L2 t212 x16_2) x17_3)) = false := beq_eq_false_iff_ne.mpr c70
        have c70b1 : ((rd (rd_L2 t222 x16_2) x17_3) != (rd (rd_L2 t212 x16_2) x17_3)) = true := bne_iff_ne.mpr c70
        obtain rfl := Option.some.inj H
        exact absurd hr_ (by decide)
       rw [if_pos c70] at H
       have c70b0 : ((rd (rd_L2 t222 x16_2) x17_3) == (rd (rd_L2 t212 x16_2) x17_3)) = true := beq_iff_eq.mpr c70
       have c70b1 : ((rd (rd_L2 t222 x16_2) x17_3) != (rd (rd_L2 t212 x16_2) x17_3)) = false := bne_eq_false_iff_eq.mpr c70
       clear c70
       by_cases c71 : x16_2 = (Int.tmod (rd t215 1) (t212.length : Int))
       rotate_left
       ·rw [if_neg c71] at H
        have c71b0 : (x16_2 == (Int.tmod (rd t215 1) (t212.length : Int))) = false := beq_eq_false_iff_ne.mpr c71
        have c71b1 : (x16_2 != (Int.tmod (rd t215 1) (t212.length : Int))) = true := bne_iff_ne.mpr c71
        by_cases c84 : x16_2 < (t228.length : Int)
        rotate_left
        ·rw [if_neg c84] at H
         exact absurd H (by simp)
        rw [if_pos c84] at H
        have c84b0 : decide (x16_2 < (t228.length : Int)) = true := decide_eq_true c84
        clear c84
        by_cases c85 : x17_3 < ((rd_L2 t228 x16_2).length : Int)
        rotate_left
        ·rw [if_neg c85] at H
         exact absurd H (by simp)
        rw [if_pos c85] at H
        have c85b0 : decide (x17_3 < ((rd_L2 t228 x16_2).length : Int)) = true := decide_eq_true c85
        clear c85
        by_cases c86 : (rd (rd_L2 t228 x16_2) x17_3) = (rd (rd_L2 t222 x16_2) x17_3)
        rotate_left
        ·rw [if_neg c86] at H
         have c86b0 : ((rd (rd_L2 t228 x16_2) x17_3) == (rd (rd_L2 t222 x16_2) x17_3)) = false := beq_eq_false_iff_ne.mpr c86
         have c86b1 : ((rd (rd_L2 t228 x16_2) x17_3) != (rd (rd_L2 t222 x16_2) x17_3)) = true := bne_iff_ne.mpr c86
         obtain rfl := Option.some.inj H
         exact absurd hr_ (by decide)
        rw [if_pos c86] at H
        have c86b0 : ((rd (rd_L2 t228 x16_2) x17_3) == (rd (rd_L2 t222 x16_2) x17_3)) = true := beq_iff_eq.mpr c86
        have c86b1 : ((rd (rd_L2 t228 x16_2) x17_3) != (rd (rd_L2 t222 x16_2) x17_3)) = false := bne_eq_false_iff_eq.mpr c86
        clear c86
        by_cases c87 : x16_2 < (t232.length : Int)
        rotate_left
        ·rw [if_neg c87] at H
         exact absurd H (by simp)
        rw [if_pos c87] at H
        have c87b0 : decide (x16_2 < (t232.length : Int)) = true := decide_eq_true c87
        clear c87
        by_cases c88 : x17_3 < ((rd_L2 t232 x16_2).length : Int)
        rotate_left
        ·rw [if_neg c88] at H
         exact absurd H (by simp)
        rw [if_pos c88] at H
        have c88b0 : decide (x17_3 < ((rd_L2 t232 x16_2).length : Int)) = true := decide_eq_true c88
        clear c88
        by_cases c89 : (rd (rd_L2 t232 x16_2) x17_3) = 0
        rotate_left
        ·rw [if_neg c89] at H
         have c89b0 : ((rd (rd_L2 t232 x16_2) x17_3) == 0) = false := beq_eq_false_iff_ne.mpr c89
         have c89b1 : ((rd (rd_L2 t232 x16_2) x17_3) != 0) = true := bne_iff_ne.mpr c89
         obtain rfl := Option.some.inj H
         exact absurd hr_ (by decide)
        rw [if_pos c89] at H
        have c89b0 : ((rd (rd_L2 t232 x16_2) x17_3) == 0) = true := beq_iff_eq.mpr c89
        have c89b1 : ((rd (rd_L2 t232 x16_2) x17_3) != 0) = false := bne_eq_false_iff_eq.mpr c89
        clear c89
        have H' := Aside0.mk H
        clear H
        have p250 : 0 ≤ (x16_2 : Int) := of_decide_eq_true (by first | (with_reducible assumption) | assumption)
        have q250 : x16_2 < (t222.length : Int) := of_decide_eq_true (by first | (with_reducible assumption) | assumption)
        obtain ⟨ad250, A250_0, c250_0, e250, hx250_0, hl250_0, hi250_0⟩ := at_L2 (Kd.S_reads' HO_8.out).2.2 x16_2 p250 q250
        cases e250
        obtain ⟨ce250, hce250, hMe250, hcc250⟩ := Kd.S_get HO_8.out [] x16_2 p250 (by first | exact q250 | exact of_decide_eq_true (by first | (with_reducible assumption) | assumption) | (have e_ := (Kd.S_reads' HO_8.out).1; omega))
        obtain ⟨ve250_0, rfl, ge250_0⟩ := hMe250
        have hv250_0 := hcc250 0 _ rfl
        rw [Nat.add_zero, show ((Kd.slice 3 (Kd.int .i64))).sz = 1 from rfl, Nat.mul_one] at hv250_0
        replace hv250_0 := Option.some.inj (hv250_0.symm.trans hx250_0)
        rw [hv250_0] at ge250_0
        have HL250_0 := Aside0.mk (show Kd.R (Kd.int .i64) 3 _ _ _ _ (rd_L2 t222 x16_2) from ge250_0)
        clear hv250_0 ge250_0
        clear hcc250 hce250
        have HR250_0 := Aside0.mk hi250_0
        have HC250_0 := Aside0.mk hl250_0
        clear hi250_0 hl250_0
        replace p250 := eq_true p250
        replace q250 := eq_true q250
        have p251 : 0 ≤ (x17_3 : Int) := of_decide_eq_true (by first | (with_reducible assumption) | assumption)
        have q251 : x17_3 < ((rd_L2 t222 x16_2).length : Int) := of_decide_eq_true (by first | (with_reducible assumption) | assumption)
        obtain ⟨ad251, e251, hx251_0⟩ := Kd.at_int (by repeat (first | (with_reducible exact HR250_0.out) | (with_reducible refine Kd.C_alloc ?_ _) | (with_reducible refine Kd.C_drewN ?_ _) | (with_reducible refine Kd.C_drew ?_) | exact HR250_0.out)) x17_3 p251 q251
        cases e251
        replace p251 := eq_true p251
        replace q251 := eq_true q251
        have p252 : 0 ≤ (x16_2 : Int) := of_decide_eq_true (by first | (with_reducible assumption) | assumption)
        have q252 : x16_2 < (t212.length : Int) := of_decide_eq_true (by first | (with_reducible assumption) | assumption)
        obtain ⟨ad252, A252_0, c252_0, e252, hx252_0, hl252_0, hi252_0⟩ := at_L2 (Kd.S_reads' HO_3.out).2.2 x16_2 p252 q252
        cases e252
        obtain ⟨ce252, hce252, hMe252, hcc252⟩ := Kd.S_get HO_3.out [] x16_2 p252 (by first | exact q252 | exact of_decide_eq_true (by first | (with_reducible assumption) | assumption) | (have e_ := (Kd.S_reads' HO_3.out).1; omega))
        obtain ⟨ve252_0, rfl, ge252_0⟩ := hMe252
        have hv252_0 := hcc252 0 _ rfl
        rw [Nat.add_zero, show ((Kd.slice 3 (Kd.int .i64))).sz = 1 from rfl, Nat.mul_one] at hv252_0
        replace hv252_0 := Option.some.inj (hv252_0.symm.trans hx252_0)
        rw [hv252_0] at ge252_0
        have HL252_0 := Aside0.mk (show Kd.R (Kd.int .i64) 3 _ _ _ _ (rd_L2 t212 x16_2) from ge252_0)
        clear hv252_0 ge252_0
        clear hcc252 hce252
        have HR252_0 := Aside0.mk hi252_0
        have HC252_0 := Aside0.mk hl252_0
        clear hi252_0 hl252_0
        replace p252 := eq_true p252
        replace q252 := eq_true q252
        have p253 : 0 ≤ (x17_3 : Int) := of_decide_eq_true (by first | (with_reducible assumption) | assumption)
        have q253 : x17_3 < ((rd_L2 t212 x16_2).length : Int) := of_decide_eq_true (by first | (with_reducible assumption) | assumption)
        obtain ⟨ad253, e253, hx253_0⟩ := Kd.at_int (by repeat (first | (with_reducible exact HR252_0.out) | (with_reducible refine Kd.C_alloc ?_ _) | (with_reducible refine Kd.C_drewN ?_ _) | (with_reducible refine Kd.C_drew ?_) | exact HR252_0.out)) x17_3 p253 q253
        cases e253
        replace p253 := eq_true p253
        replace q253 := eq_true q253
        have p260 : 0 ≤ (x16_2 : Int) := of_decide_eq_true (by first | (with_reducible assumption) | assumption)
        have q260 : x16_2 < (t228.length : Int) := of_decide_eq_true (by first | (with_reducible assumption) | assumption)
        obtain ⟨ad260, A260_0, c260_0, e260, hx260_0, hl260_0, hi260_0⟩ := at_L2 (Kd.S_reads' HO_12.out).2.2 x16_2 p260 q260
        cases e260
        obtain ⟨ce260, hce260, hMe260, hcc260⟩ := Kd.S_get HO_12.out [] x16_2 p260 (by first | exact q260 | exact of_decide_eq_true (by first | (with_reducible assumption) | assumption) | (have e_ := (Kd.S_reads' HO_12.out).1; omega))
        obtain ⟨ve260_0, rfl, ge260_0⟩ := hMe260
        have hv260_0 := hcc260 0 _ rfl
        rw [Nat.add_zero, show ((Kd.slice 3 (Kd.int .i64))).sz = 1 from rfl, Nat.mul_one] at hv260_0
        replace hv260_0 := Option.some.inj (hv260_0.symm.trans hx260_0)
        rw [hv260_0] at ge260_0
        have HL260_0 := Aside0.mk (show Kd.R (Kd.int .i64) 3 _ _ _ _ (rd_L2 t228 x16_2) from ge260_0)
        clear hv260_0 ge260_0
        clear hcc260 hce260
        have HR260_0 := Aside0.mk hi260_0
        have HC260_0 := Aside0.mk hl260_0
        clear hi260_0 hl260_0
        replace p260 := eq_true p260
        replace q260 := eq_true q260
        have p261 : 0 ≤ (x17_3 : Int) := of_decide_eq_true (by first | (with_reducible assumption) | assumption)
        have q261 : x17_3 < ((rd_L2 t228 x16_2).length : Int) := of_decide_eq_true (by first | (with_reducible assumption) | assumption)
        obtain ⟨ad261, e261, hx261_0⟩ := Kd.at_int (by repeat (first | (with_reducible exact HR260_0.out) | (with_reducible refine Kd.C_alloc ?_ _) | (with_reducible refine Kd.C_drewN ?_ _) | (with_reducible refine Kd.C_drew ?_) | exact HR260_0.out)) x17_3 p261 q261
        cases e261
        replace p261 := eq_true p261
        replace q261 := eq_true q261
        have p262 : 0 ≤ (x16_2 : Int) := of_decide_eq_true (by first | (with_reducible assumption) | assumption)
        have q262 : x16_2 < (t222.length : Int) := of_decide_eq_true (by first | (with_reducible assumption) | assumption)
        obtain ⟨ad262, A262_0, c262_0, e262, hx262_0, hl262_0, hi262_0⟩ := at_L2 (Kd.S_reads' HO_8.out).2.2 x16_2 p262 q262
        obtain rfl : ad250 = ad262 := (by injection e262)
        obtain ⟨ce262, hce262, hMe262, hcc262⟩ := Kd.S_get HO_8.out [] x16_2 p262 (by first | exact q262 | exact of_decide_eq_true (by first | (with_reducible assumption) | assumption) | (have e_ := (Kd.S_reads' HO_8.out).1; omega))
        obtain ⟨ve262_0, rfl, ge262_0⟩ := hMe262
        have hv262_0 := hcc262 0 _ rfl
        rw [Nat.add_zero, show ((Kd.slice 3 (Kd.int .i64))).sz = 1 from rfl, Nat.mul_one] at hv262_0
        replace hv262_0 := Option.some.inj (hv262_0.symm.trans hx262_0)
        rw [hv262_0] at ge262_0
        have HL262_0 := Aside0.mk (show Kd.R (Kd.int .i64) 3 _ _ _ _ (rd_L2 t222 x16_2) from ge262_0)
        clear hv262_0 ge262_0
        clear hcc262 hce262
        have HR262_0 := Aside0.mk hi262_0
        have HC262_0 := Aside0.mk hl262_0
        clear hi262_0 hl262_0
        replace p262 := eq_true p262
        replace q262 := eq_true q262
        have ea_ := Option.some.inj (hx250_0.symm.trans hx262_0)
        injection ea_ with ea_ en_ ec_
        subst ea_
        subst ec_
        clear en_
        have p263 : 0 ≤ (x17_3 : Int) := of_decide_eq_true (by first | (with_reducible assumption) | assumption)
        have q263 : x17_3 < ((rd_L2 t222 x16_2).length : Int) := of_decide_eq_true (by first | (with_reducible assumption) | assumption)
        obtain ⟨ad263, e263, hx263_0⟩ := Kd.at_int (by repeat (first | (with_reducible exact HR262_0.out) | (with_reducible refine Kd.C_alloc ?_ _) | (with_reducible refine Kd.C_drewN ?_ _) | (with_reducible refine Kd.C_drew ?_) | exact HR262_0.out)) x17_3 p263 q263
        cases e263
        replace p263 := eq_true p263
        replace q263 := eq_true q263
        obtain ⟨Ao90, co90, eo90⟩ := Kd.S_slice HO_14.out
        subst eo90
        have p264 : 0 ≤ (x16_2 : Int) := of_decide_eq_true (by first | (with_reducible assumption) | assumption)
        have q264 : x16_2 < (t232.length : Int) := of_decide_eq_true (by first | (with_reducible assumption) | assumption)
        obtain ⟨ad264, A264_0, c264_0, e264, hx264_0, hl264_0, hi264_0⟩ := at_L2 (Kd.S_reads' HO_14.out).2.2 x16_2 p264 q264
        cases e264
        obtain ⟨ce264, hce264, hMe264, hcc264⟩ := Kd.S_get HO_14.out [] x16_2 p264 (by first | exact q264 | exact of_decide_eq_true (by first | (with_reducible assumption) | assumption) | (have e_ := (Kd.S_reads' HO_14.out).1; omega))
        obtain ⟨ve264_0, rfl, ge264_0⟩ := hMe264
        have hv264_0 := hcc264 0 _ rfl
        rw [Nat.add_zero, show ((Kd.slice 3 (Kd.int .i64))).sz = 1 from rfl, Nat.mul_one] at hv264_0
        replace hv264_0 := Option.some.inj (hv264_0.symm.trans hx264_0)
        rw [hv264_0] at ge264_0
        have HL264_0 := Aside0.mk (show Kd.R (Kd.int .i64) 3 _ _ _ _ (rd_L2 t232 x16_2) from ge264_0)
        clear hv264_0 ge264_0
        clear hcc264 hce264
        have HR264_0 := Aside0.mk hi264_0
        have HC264_0 := Aside0.mk hl264_0
        clear hi264_0 hl264_0
        replace p264 := eq_true p264
        replace q264 := eq_true q264
        have p265 : 0 ≤ (x17_3 : Int) := of_decide_eq_true (by first | (with_reducible assumption) | assumption)
        have q265 : x17_3 < ((rd_L2 t232 x16_2).length : Int) := of_decide_eq_true (by first | (with_reducible assumption) | assumption)
        obtain ⟨ad265, e265, hx265_0⟩ := Kd.at_int (by repeat (first | (with_reducible exact HR264_0.out) | (with_reducible refine Kd.C_alloc ?_ _) | (with_reducible refine Kd.C_drewN ?_ _) | (with_reducible refine Kd.C_drew ?_) | exact HR264_0.out)) x17_3 p265 q265
        cases e265
        replace p265 := eq_true p265
        replace q265 := eq_true q265
        go_wp2
        (try simp only [List.append_eq, List.cons_append, List.nil_append])
        refine wp_region_quiet_lit (by kernel_rfl) (Eq.mp (congrArg (fun o => Region.lexB .any o = true) (by kernel_rfl : (opsOf Try.f3 20) = _)) lex20) ?_
        repeat (go_big_quiet_step (fail))
        refine wpQuiet_nil ?_
        intro _ hw'
        obtain ⟨nq, hw''⟩ := hw'
        subst hw''
        try go_wp2
        (try subst hji102); (try subst hji42)
        go_roundg k3
        case measure => have := HJ14.out; have := HK2.out; have := HK3.out; omega
        case rel => exact ⟨(wrap64 (x17_3 + 1)), (by first | rfl | (simp; done) | (simp [*]; done)), H', ⟨by have := HJ14.out; have := HK2.out; have := HK3.out; omega⟩, ⟨by (with_reducible repeat (first | apply Kd.S_alloc | apply Kd.S_drewN | apply Kd.S_drew)); exact HO_3.out⟩, ⟨by (with_reducible repeat (first | apply Kd.S_alloc | apply Kd.S_drewN | apply Kd.S_drew)); exact HO_8.out⟩, ⟨by (with_reducible repeat (first | apply Kd.S_alloc | apply Kd.S_drewN | apply Kd.S_drew)); exact HO_12.out⟩, ⟨by (with_reducible repeat (first | apply Kd.S_alloc | apply Kd.S_drewN | apply Kd.S_drew)); exact HO_14.out⟩, ⟨by repeat (first | (with_reducible first | exact HB.out | apply below_alloc | apply pw_below_drewN | apply below_drew1) | exact HB.out)⟩⟩
       rw [if_pos c71] at H
       have c71b0 : (x16_2 == (Int.tmod (rd t215 1) (t212.length : Int))) = true := beq_iff_eq.mpr c71
       have c71b1 : (x16_2 != (Int.tmod (rd t215 1) (t212.length : Int))) = false := bne_eq_false_iff_eq.mpr c71
       clear c71
       by_cases c72 : x16_2 < (t228.length : Int)
       rotate_left
       ·rw [if_neg c72] at H
        exact absurd H (by simp)
       rw [if_pos c72] at H
       have c72b0 : decide (x16_2 < (t228.length : Int)) = true := decide_eq_true c72
       clear c72
       by_cases c73 : x17_3 < ((rd_L2 t228 x16_2).length : Int)
       rotate_left
       ·rw [if_neg c73] at H
        exact absurd H (by simp)
       rw [if_pos c73] at H
       have c73b0 : decide (x17_3 < ((rd_L2 t228 x16_2).length : Int)) = true := decide_eq_true c73
       clear c73
       obtain ⟨ji74, hji74⟩ : ∃ j_ : Int, (Int.tmod (rd t215 0) (t212.length : Int)) = j_ := ⟨_, rfl⟩
       replace H : (if 0 ≤ (ji74) then (if (ji74) < (t222.length : Int) then (if x17_3 < ((rd_L2 t222 (ji74)).length : Int) then (if (rd (rd_L2 t228 x16_2) x17_3) = (rd (rd_L2 t222 (ji74)) x17_3) then (if x16_2 < (t232.length : Int) then (if x17_3 < ((rd_L2 t232 x16_2).length : Int) then (if (rd (rd_L2 t232 x16_2) x17_3) = 0 then (laws_FnMemory.l1 k3 t212 (ji74) (Int.tmod (rd t215 1) (t212.length : Int)) (Int.tmod (rd t215 2) 4) t222 t228 t232 x16_2 (wrap64 (x17_3 + 1))) else (some false)) else (none)) else (none)) else (some false)) else (none)) else (none)) else (none)) = some r := by first | (rw [hji74] at H; exact H) | (simp only [hji74] at H ⊢; exact H)
       (try rw [hji74] at c35b0)
       (try rw [hji74] at c35b1)
       by_cases c75 : 0 ≤ (ji74)
       rotate_left
       ·rw [if_neg c75] at H
        exact absurd H (by simp)
       rw [if_pos c75] at H
       have c75b0 : decide (0 ≤ (ji74)) = true := decide_eq_true c75
       clear c75
       by_cases c76 : (ji74) < (t222.length : Int)
       rotate_left
       ·rw [if_neg c76] at H
        exact absurd H (by simp)
       rw [if_pos c76] at H
       have c76b0 : decide ((ji74) < (t222.length : Int)) = true := decide_eq_true c76
       clear c76
       by_cases c77 : x17_3 < ((rd_L2 t222 (ji74)).length : Int)
       rotate_left
       ·rw [if_neg c77] at H
        exact absurd H (by simp)
       rw [if_pos c77] at H
       have c77b0 : decide (x17_3 < ((rd_L2 t222 (ji74)).length : Int)) = true := decide_eq_true c77
       clear c77
       by_cases c78 : (rd (rd_L2 t228 x16_2) x17_3) = (rd (rd_L2 t222 (ji74)) x17_3)
       rotate_left
       ·rw [if_neg c78] at H
        have c78b0 : ((rd (rd_L2 t228 x16_2) x17_3) == (rd (rd_L2 t222 (ji74)) x17_3)) = false := beq_eq_false_iff_ne.mpr c78
        have c78b1 : ((rd (rd_L2 t228 x16_2) x17_3) != (rd (rd_L2 t222 (ji74)) x17_3)) = true := bne_iff_ne.mpr c78
        obtain rfl := Option.some.inj H
        exact absurd hr_ (by decide)
       rw [if_pos c78] at H
       have c78b0 : ((rd (rd_L2 t228 x16_2) x17_3) == (rd (rd_L2 t222 (ji74)) x17_3)) = true := beq_iff_eq.mpr c78
       have c78b1 : ((rd (rd_L2 t228 x16_2) x17_3) != (rd (rd_L2 t222 (ji74)) x17_3)) = false := bne_eq_false_iff_eq.mpr c78
       clear c78
       by_cases c79 : x16_2 < (t232.length : Int)
       rotate_left
       ·rw [if_neg c79] at H
        exact absurd H (by simp)
       rw [if_pos c79] at H
       have c79b0 : decide (x16_2 < (t232.length : Int)) = true := decide_eq_true c79
       clear c79
       by_cases c80 : x17_3 < ((rd_L2 t232 x16_2).length : Int)
       rotate_left
       ·rw [if_neg c80] at H
        exact absurd H (by simp)
       rw [if_pos c80] at H
       have c80b0 : decide (x17_3 < ((rd_L2 t232 x16_2).length : Int)) = true := decide_eq_true c80
       clear c80
       by_cases c81 : (rd (rd_L2 t232 x16_2) x17_3) = 0
       rotate_left
       ·rw [if_neg c81] at H
        have c81b0 : ((rd (rd_L2 t232 x16_2) x17_3) == 0) = false := beq_eq_false_iff_ne.mpr c81
        have c81b1 : ((rd (rd_L2 t232 x16_2) x17_3) != 0) = true := bne_iff_ne.mpr c81
        obtain rfl := Option.some.inj H
        exact absurd hr_ (by decide)
       rw [if_pos c81] at H
       have c81b0 : ((rd (rd_L2 t232 x16_2) x17_3) == 0) = true := beq_iff_eq.mpr c81
       have c81b1 : ((rd (rd_L2 t232 x16_2) x17_3) != 0) = false := bne_eq_false_iff_eq.mpr c81
       clear c81
       have H' := Aside0.mk H
       clear H
       have p250 : 0 ≤ (x16_2 : Int) := of_decide_eq_true (by first | (with_reducible assumption) | assumption)
       have q250 : x16_2 < (t222.length : Int) := of_decide_eq_true (by first | (with_reducible assumption) | assumption)
       obtain ⟨ad250, A250_0, c250_0, e250, hx250_0, hl250_0, hi250_0⟩ := at_L2 (Kd.S_reads' HO_8.out).2.2 x16_2 p250 q250
       cases e250
       obtain ⟨ce250, hce250, hMe250, hcc250⟩ := Kd.S_get HO_8.out [] x16_2 p250 (by first | exact q250 | exact of_decide_eq_true (by first | (with_reducible assumption) | assumption) | (have e_ := (Kd.S_reads' HO_8.out).1; omega))
       obtain ⟨ve250_0, rfl, ge250_0⟩ := hMe250
       have hv250_0 := hcc250 0 _ rfl
       rw [Nat.add_zero, show ((Kd.slice 3 (Kd.int .i64))).sz = 1 from rfl, Nat.mul_one] at hv250_0
       replace hv250_0 := Option.some.inj (hv250_0.symm.trans hx250_0)
       rw [hv250_0] at ge250_0
       have HL250_0 := Aside0.mk (show Kd.R (Kd.int .i64) 3 _ _ _ _ (rd_L2 t222 x16_2) from ge250_0)
       clear hv250_0 ge250_0
       clear hcc250 hce250
       have HR250_0 := Aside0.mk hi250_0
       have HC250_0 := Aside0.mk hl250_0
       clear hi250_0 hl250_0
       replace p250 := eq_true p250
       replace q250 := eq_true q250
       have p251 : 0 ≤ (x17_3 : Int) := of_decide_eq_true (by first | (with_reducible assumption) | assumption)
       have q251 : x17_3 < ((rd_L2 t222 x16_2).length : Int) := of_decide_eq_true (by first | (with_reducible assumption) | assumption)
       obtain ⟨ad251, e251, hx251_0⟩ := Kd.at_int (by repeat (first | (with_reducible exact HR250_0.out) | (with_reducible refine Kd.C_alloc ?_ _) | (with_reducible refine Kd.C_drewN ?_ _) | (with_reducible refine Kd.C_drew ?_) | exact HR250_0.out)) x17_3 p251 q251
       cases e251
       replace p251 := eq_true p251
       replace q251 := eq_true q251
       have p252 : 0 ≤ (x16_2 : Int) := of_decide_eq_true (by first | (with_reducible assumption) | assumption)
       have q252 : x16_2 < (t212.length : Int) := of_decide_eq_true (by first | (with_reducible assumption) | assumption)
       obtain ⟨ad252, A252_0, c252_0, e252, hx252_0, hl252_0, hi252_0⟩ := at_L2 (Kd.S_reads' HO_3.out).2.2 x16_2 p252 q252
       cases e252
       obtain ⟨ce252, hce252, hMe252, hcc252⟩ := Kd.S_get HO_3.out [] x16_2 p252 (by first | exact q252 | exact of_decide_eq_true (by first | (with_reducible assumption) | assumption) | (have e_ := (Kd.S_reads' HO_3.out).1; omega))
       obtain ⟨ve252_0, rfl, ge252_0⟩ := hMe252
       have hv252_0 := hcc252 0 _ rfl
       rw [Nat.add_zero, show ((Kd.slice 3 (Kd.int .i64))).sz = 1 from rfl, Nat.mul_one] at hv252_0
       replace hv252_0 := Option.some.inj (hv252_0.symm.trans hx252_0)
       rw [hv252_0] at ge252_0
       have HL252_0 := Aside0.mk (show Kd.R (Kd.int .i64) 3 _ _ _ _ (rd_L2 t212 x16_2) from ge252_0)
       clear hv252_0 ge252_0
       clear hcc252 hce252
       have HR252_0 := Aside0.mk hi252_0
       have HC252_0 := Aside0.mk hl252_0
       clear hi252_0 hl252_0
       replace p252 := eq_true p252
       replace q252 := eq_true q252
       have p253 : 0 ≤ (x17_3 : Int) := of_decide_eq_true (by first | (with_reducible assumption) | assumption)
       have q253 : x17_3 < ((rd_L2 t212 x16_2).length : Int) := of_decide_eq_true (by first | (with_reducible assumption) | assumption)
       obtain ⟨ad253, e253, hx253_0⟩ := Kd.at_int (by repeat (first | (with_reducible exact HR252_0.out) | (with_reducible refine Kd.C_alloc ?_ _) | (with_reducible refine Kd.C_drewN ?_ _) | (with_reducible refine Kd.C_drew ?_) | exact HR252_0.out)) x17_3 p253 q253
       cases e253
       replace p253 := eq_true p253
       replace q253 := eq_true q253
       have p254 : 0 ≤ (x16_2 : Int) := of_decide_eq_true (by first | (with_reducible assumption) | assumption)
       have q254 : x16_2 < (t228.length : Int) := of_decide_eq_true (by first | (with_reducible assumption) | assumption)
       obtain ⟨ad254, A254_0, c254_0, e254, hx254_0, hl254_0, hi254_0⟩ := at_L2 (Kd.S_reads' HO_12.out).2.2 x16_2 p254 q254
       cases e254
       obtain ⟨ce254, hce254, hMe254, hcc254⟩ := Kd.S_get HO_12.out [] x16_2 p254 (by first | exact q254 | exact of_decide_eq_true (by first | (with_reducible assumption) | assumption) | (have e_ := (Kd.S_reads' HO_12.out).1; omega))
       obtain ⟨ve254_0, rfl, ge254_0⟩ := hMe254
       have hv254_0 := hcc254 0 _ rfl
       rw [Nat.add_zero, show ((Kd.slice 3 (Kd.int .i64))).sz = 1 from rfl, Nat.mul_one] at hv254_0
       replace hv254_0 := Option.some.inj (hv254_0.symm.trans hx254_0)
       rw [hv254_0] at ge254_0
       have HL254_0 := Aside0.mk (show Kd.R (Kd.int .i64) 3 _ _ _ _ (rd_L2 t228 x16_2) from ge254_0)
       clear hv254_0 ge254_0
       clear hcc254 hce254
       have HR254_0 := Aside0.mk hi254_0
       have HC254_0 := Aside0.mk hl254_0
       clear hi254_0 hl254_0
       replace p254 := eq_true p254
       replace q254 := eq_true q254
       have p255 : 0 ≤ (x17_3 : Int) := of_decide_eq_true (by first | (with_reducible assumption) | assumption)
       have q255 : x17_3 < ((rd_L2 t228 x16_2).length : Int) := of_decide_eq_true (by first | (with_reducible assumption) | assumption)
       obtain ⟨ad255, e255, hx255_0⟩ := Kd.at_int (by repeat (first | (with_reducible exact HR254_0.out) | (with_reducible refine Kd.C_alloc ?_ _) | (with_reducible refine Kd.C_drewN ?_ _) | (with_reducible refine Kd.C_drew ?_) | exact HR254_0.out)) x17_3 p255 q255
       cases e255
       replace p255 := eq_true p255
       replace q255 := eq_true q255
       have p256 : 0 ≤ ((ji74) : Int) := of_decide_eq_true (by first | (with_reducible assumption) | assumption)
       have q256 : (ji74) < (t222.length : Int) := of_decide_eq_true (by first | (with_reducible assumption) | assumption)
       obtain ⟨ad256, A256_0, c256_0, e256, hx256_0, hl256_0, hi256_0⟩ := at_L2 (Kd.S_reads' HO_8.out).2.2 (ji74) p256 q256
       obtain rfl : ad250 = ad256 := (by injection e256)
       obtain ⟨ce256, hce256, hMe256, hcc256⟩ := Kd.S_get HO_8.out [] (ji74) p256 (by first | exact q256 | exact of_decide_eq_true (by first | (with_reducible assumption) | assumption) | (have e_ := (Kd.S_reads' HO_8.out).1; omega))
       obtain ⟨ve256_0, rfl, ge256_0⟩ := hMe256
       have hv256_0 := hcc256 0 _ rfl
       rw [Nat.add_zero, show ((Kd.slice 3 (Kd.int .i64))).sz = 1 from rfl, Nat.mul_one] at hv256_0
       replace hv256_0 := Option.some.inj (hv256_0.symm.trans hx256_0)
       rw [hv256_0] at ge256_0
       have HL256_0 := Aside0.mk (show Kd.R (Kd.int .i64) 3 _ _ _ _ (rd_L2 t222 (ji74)) from ge256_0)
       clear hv256_0 ge256_0
       clear hcc256 hce256
       have HR256_0 := Aside0.mk hi256_0
       have HC256_0 := Aside0.mk hl256_0
       clear hi256_0 hl256_0
       replace p256 := eq_true p256
       replace q256 := eq_true q256
       have p257 : 0 ≤ (x17_3 : Int) := of_decide_eq_true (by first | (with_reducible assumption) | assumption)
       have q257 : x17_3 < ((rd_L2 t222 (ji74)).length : Int) := of_decide_eq_true (by first | (with_reducible assumption) | assumption)
       obtain ⟨ad257, e257, hx257_0⟩ := Kd.at_int (by repeat (first | (with_reducible exact HR256_0.out) | (with_reducible refine Kd.C_alloc ?_ _) | (with_reducible refine Kd.C_drewN ?_ _) | (with_reducible refine Kd.C_drew ?_) | exact HR256_0.out)) x17_3 p257 q257
       cases e257
       replace p257 := eq_true p257
       replace q257 := eq_true q257
       obtain ⟨Ao82, co82, eo82⟩ := Kd.S_slice HO_14.out
       subst eo82
       have p258 : 0 ≤ (x16_2 : Int) := of_decide_eq_true (by first | (with_reducible assumption) | assumption)
       have q258 : x16_2 < (t232.length : Int) := of_decide_eq_true (by first | (with_reducible assumption) | assumption)
       obtain ⟨ad258, A258_0, c258_0, e258, hx258_0, hl258_0, hi258_0⟩ := at_L2 (Kd.S_reads' HO_14.out).2.2 x16_2 p258 q258
       cases e258
       obtain ⟨ce258, hce258, hMe258, hcc258⟩ := Kd.S_get HO_14.out [] x16_2 p258 (by first | exact q258 | exact of_decide_eq_true (by first | (with_reducible assumption) | assumption) | (have e_ := (Kd.S_reads' HO_14.out).1; omega))
       obtain ⟨ve258_0, rfl, ge258_0⟩ := hMe258
       have hv258_0 := hcc258 0 _ rfl
       rw [Nat.add_zero, show ((Kd.slice 3 (Kd.int .i64))).sz = 1 from rfl, Nat.mul_one] at hv258_0
       replace hv258_0 := Option.some.inj (hv258_0.symm.trans hx258_0)
       rw [hv258_0] at ge258_0
       have HL258_0 := Aside0.mk (show Kd.R (Kd.int .i64) 3 _ _ _ _ (rd_L2 t232 x16_2) from ge258_0)
       clear hv258_0 ge258_0
       clear hcc258 hce258
       have HR258_0 := Aside0.mk hi258_0
       have HC258_0 := Aside0.mk hl258_0
       clear hi258_0 hl258_0
       replace p258 := eq_true p258
       replace q258 := eq_true q258
       have p259 : 0 ≤ (x17_3 : Int) := of_decide_eq_true (by first | (with_reducible assumption) | assumption)
       have q259 : x17_3 < ((rd_L2 t232 x16_2).length : Int) := of_decide_eq_true (by first | (with_reducible assumption) | assumption)
       obtain ⟨ad259, e259, hx259_0⟩ := Kd.at_int (by repeat (first | (with_reducible exact HR258_0.out) | (with_reducible refine Kd.C_alloc ?_ _) | (with_reducible refine Kd.C_drewN ?_ _) | (with_reducible refine Kd.C_drew ?_) | exact HR258_0.out)) x17_3 p259 q259
       cases e259
       replace p259 := eq_true p259
       replace q259 := eq_true q259
       go_wp2
       (try simp only [List.append_eq, List.cons_append, List.nil_append])
       refine wp_region_quiet_lit (by kernel_rfl) (Eq.mp (congrArg (fun o => Region.lexB .any o = true) (by kernel_rfl : (opsOf Try.f3 20) = _)) lex20) ?_
       repeat (go_big_quiet_step (fail))
       refine wpQuiet_nil ?_
       intro _ hw'
       obtain ⟨nq, hw''⟩ := hw'
       subst hw''
       try go_wp2
       (try subst hji102); (try subst hji42); (try subst hji74)
       go_roundg k3
       case measure => have := HJ14.out; have := HK2.out; have := HK3.out; omega
       case rel => exact ⟨(wrap64 (x17_3 + 1)), (by first | rfl | (simp; done) | (simp [*]; done)), H', ⟨by have := HJ14.out; have := HK2.out; have := HK3.out; omega⟩, ⟨by (with_reducible repeat (first | apply Kd.S_alloc | apply Kd.S_drewN | apply Kd.S_drew)); exact HO_3.out⟩, ⟨by (with_reducible repeat (first | apply Kd.S_alloc | apply Kd.S_drewN | apply Kd.S_drew)); exact HO_8.out⟩, ⟨by (with_reducible repeat (first | apply Kd.S_alloc | apply Kd.S_drewN | apply Kd.S_drew)); exact HO_12.out⟩, ⟨by (with_reducible repeat (first | apply Kd.S_alloc | apply Kd.S_drewN | apply Kd.S_drew)); exact HO_14.out⟩, ⟨by repeat (first | (with_reducible first | exact HB.out | apply below_alloc | apply pw_below_drewN | apply below_drew1) | exact HB.out)⟩⟩
def laws_FnMemory.Pure : Prop := ∀ (l0 : List Int), l0.length ≤ maxLen → l0.length * 1 ≤ 140737488351232 → (∀ x ∈ l0, (Lit.int .u8 x).wf = true) → ∃ k, laws_FnMemory.f k l0 = some true
theorem laws_FnMemory.walk (P : laws_FnMemory.Pure) (a0 : Option Addr) (len0 cap0 : Nat) (z0 : List Int) (w : World) (w0 : (a0 = none ∧ len0 = 0 ∧ cap0 = 0 ∧ z0 = []) ∨ ∃ x, a0 = some x ∧ len0 ≤ cap0 ∧ cap0 ≤ maxLen ∧ z0.length = cap0 ∧ (∀ i, i < z0.length → w.cell? (x.add i) = some (.int .u8 (z0.getD i 0))) ∧ ∀ n ∈ z0, (Lit.int .u8 n).wf = true) (y0 : len0 * 1 ≤ 140737488351232) :
  Calls Try.prog 3 #[.slice a0 len0 cap0] w fun e w' => e = .returned (.bool true) ∧ Below w.heap.size w w' := by
 obtain ⟨l0, rfl, hr0, hm0, hw0, hc0⟩ := ReadsInt.ofRowC w0
 obtain ⟨k, h⟩ := P l0 hm0 y0 hw0
 refine (laws_FnMemory.calls k _ _ l0 true w (Kd.C_of_reads (d := (0 : Int)) (h1 := fun _ => rfl) hr0) hc0 h rfl).mono ?_
 rintro e w' ⟨rfl, hd⟩
 exact ⟨rfl, hd⟩
def laws_eqIntS.l0 : Nat → List Int → List Int → Int → Option (Bool)
 | 0, _, _, _ => none
 | k + 1, x0, x1, x5 => if x5 < (x0.length : Int) then (if 0 ≤ x5 then (if x5 < (x1.length : Int) then (if (rd x0 x5) = (rd x1 x5) then (laws_eqIntS.l0 k x0 x1 (wrap64 (x5 + 1))) else (some false)) else (none)) else (none)) else (some true)
def laws_eqIntS.f (k : Nat) (l0 : List Int) (l1 : List Int) : Option (Bool) := if (l0.length : Int) = (l1.length : Int) then (laws_eqIntS.l0 k l0 l1 0) else (some false)
set_option maxHeartbeats 8000000 in
set_option maxRecDepth 100000 in
theorem laws_eqIntS.calls (k : Nat) (A0 : Option Addr) (c0 : Nat) (l0 : List Int) (A1 : Option Addr) (c1 : Nat) (l1 : List Int) (r : Bool) (w : World) (hr0 : Kd.C (Kd.int .i64) w A0 l0.length l0) (hc0 : l0.length ≤ c0) (hr1 : Kd.C (Kd.int .i64) w A1 l1.length l1) (hc1 : l1.length ≤ c1) (h : laws_eqIntS.f k l0 l1 = some r) (hr_ : r = true) :
  Calls Try.prog 44 #[.slice A0 l0.length c0, .slice A1 l1.length c1] w fun e w' => e = .returned (.bool r) ∧ Drawn0 w w' := by
 have HR0 := Aside0.mk hr0
 have HC0 := Aside0.mk hc0
 clear hr0 hc0
 have HR1 := Aside0.mk hr1
 have HC1 := Aside0.mk hc1
 clear hr1 hc1
 have H : (if (l0.length : Int) = (l1.length : Int) then (laws_eqIntS.l0 k l0 l1 0) else (some false)) = some r := h
 clear h
 by_cases c3 : (l0.length : Int) = (l1.length : Int)
 ·rw [if_pos c3] at H
  have c3b0 : ((l0.length : Int) == (l1.length : Int)) = true := beq_iff_eq.mpr c3
  have c3b1 : ((l0.length : Int) != (l1.length : Int)) = false := bne_eq_false_iff_eq.mpr c3
  have c3b2 : (l0.length == l1.length) = true := by first | simpa using c3 | (simp at c3 ⊢; omega)
  clear c3
  have H' := Aside0.mk H
  clear H
  go_enter Try.func44, Try.ntmps44
  go_wp2
  repeat (go_quiet (fail); try go_wp2)
  go_loopg [5] k (fun kq v5 w' => ∃ (x5_1 : Int), v5 = .int .i64 x5_1 ∧ Aside0 (laws_eqIntS.l0 kq l0 l1 x5_1 = some r) ∧ Aside0 (kq ≤ k) ∧ Drawn0 w w')
  case atStart => exact ⟨(0), (by first | rfl | (simp; done) | (simp [*]; done)), H', ⟨Nat.le_refl _⟩, by repeat (first | exact Drawn0.refl _ | apply Drawn0.step)⟩
  case round =>
   clear H'
   try clear c1
   try clear p2
   try clear c3
   try clear c3b0
   try clear c3b1
   try clear c3b2
   obtain ⟨x5_1, rfl, HA, HK1, ⟨m1, rfl⟩⟩ := hrel
   cases gk with
   | zero => exact absurd HA.out (by simp [laws_eqIntS.l0])
   | succ k1 =>
    have H := HA.out
    clear HA
    simp only [laws_eqIntS.l0] at H
    by_cases c4 : x5_1 < (l0.length : Int)
    ·rw [if_pos c4] at H
     have c4b0 : decide (x5_1 < (l0.length : Int)) = true := decide_eq_true c4
     clear c4
     by_cases c5 : 0 ≤ x5_1
     ·rw [if_pos c5] at H
      have c5b0 : decide (0 ≤ x5_1) = true := decide_eq_true c5
      clear c5
      by_cases c6 : x5_1 < (l1.length : Int)
      ·rw [if_pos c6] at H
       have c6b0 : decide (x5_1 < (l1.length : Int)) = true := decide_eq_true c6
       clear c6
       by_cases c7 : (rd l0 x5_1) = (rd l1 x5_1)
       ·rw [if_pos c7] at H
        have c7b0 : ((rd l0 x5_1) == (rd l1 x5_1)) = true := beq_iff_eq.mpr c7
        have c7b1 : ((rd l0 x5_1) != (rd l1 x5_1)) = false := bne_eq_false_iff_eq.mpr c7
        clear c7
        have H' := Aside0.mk H
        clear H
        have p388 : 0 ≤ (x5_1 : Int) := of_decide_eq_true (by first | (with_reducible assumption) | assumption)
        have q388 : x5_1 < (l0.length : Int) := of_decide_eq_true (by first | (with_reducible assumption) | assumption)
        obtain ⟨ad388, e388, hx388_0⟩ := Kd.at_int HR0.out x5_1 p388 q388
        cases e388
        replace p388 := eq_true p388
        replace q388 := eq_true q388
        have p389 : 0 ≤ (x5_1 : Int) := of_decide_eq_true (by first | (with_reducible assumption) | assumption)
        have q389 : x5_1 < (l1.length : Int) := of_decide_eq_true (by first | (with_reducible assumption) | assumption)
        obtain ⟨ad389, e389, hx389_0⟩ := Kd.at_int HR1.out x5_1 p389 q389
        cases e389
        replace p389 := eq_true p389
        replace q389 := eq_true q389
        go_wp2
        repeat (go_quiet (fail); try go_wp2)
        go_roundg k1
        case measure => have := HK1.out; omega
        case rel => exact ⟨(wrap64 (x5_1 + 1)), (by first | rfl | (simp; done) | (simp [*]; done)), H', ⟨by have := HK1.out; omega⟩, by repeat (first | exact Drawn0.refl _ | apply Drawn0.step)⟩
       ·rw [if_neg c7] at H
        have c7b0 : ((rd l0 x5_1) == (rd l1 x5_1)) = false := beq_eq_false_iff_ne.mpr c7
        have c7b1 : ((rd l0 x5_1) != (rd l1 x5_1)) = true := bne_iff_ne.mpr c7
        obtain rfl := Option.some.inj H
        first
        | exact absurd hr_ (by decide)
        | (skip
           have p388 : 0 ≤ (x5_1 : Int) := of_decide_eq_true (by first | (with_reducible assumption) | assumption)
           have q388 : x5_1 < (l0.length : Int) := of_decide_eq_true (by first | (with_reducible assumption) | assumption)
           obtain ⟨ad388, e388, hx388_0⟩ := Kd.at_int HR0.out x5_1 p388 q388
           cases e388
           replace p388 := eq_true p388
           replace q388 := eq_true q388
           have p389 : 0 ≤ (x5_1 : Int) := of_decide_eq_true (by first | (with_reducible assumption) | assumption)
           have q389 : x5_1 < (l1.length : Int) := of_decide_eq_true (by first | (with_reducible assumption) | assumption)
           obtain ⟨ad389, e389, hx389_0⟩ := Kd.at_int HR1.out x5_1 p389 q389
           cases e389
           replace p389 := eq_true p389
           replace q389 := eq_true q389
           go_wp2
           repeat (go_quiet (fail); try go_wp2)
           go_ret
           exact ⟨by first | rfl | (simp; done) | (simp [*]; done), by repeat (first | exact Drawn0.refl _ | apply Drawn0.step)⟩)
      ·rw [if_neg c6] at H
       exact absurd H (by simp)
     ·rw [if_neg c5] at H
      exact absurd H (by simp)
    ·rw [if_neg c4] at H
     have c4b0 : decide (x5_1 < (l0.length : Int)) = false := decide_eq_false c4
     clear c4
     obtain rfl := Option.some.inj H
     first
     | exact absurd hr_ (by decide)
     | (skip
        go_wp2
        repeat (go_quiet (fail); try go_wp2)
        go_ret
        exact ⟨by first | rfl | (simp; done) | (simp [*]; done), by repeat (first | exact Drawn0.refl _ | apply Drawn0.step)⟩)
 ·rw [if_neg c3] at H
  have c3b0 : ((l0.length : Int) == (l1.length : Int)) = false := beq_eq_false_iff_ne.mpr c3
  have c3b1 : ((l0.length : Int) != (l1.length : Int)) = true := bne_iff_ne.mpr c3
  have c3b2 : (l0.length == l1.length) = false := by first | simpa using c3 | (simp at c3 ⊢; omega)
  obtain rfl := Option.some.inj H
  exact absurd hr_ (by decide)
def laws_eqIntSS.l0 : Nat → List (List Int) → List (List Int) → Int → Option (Bool)
 | 0, _, _, _ => none
 | k + 1, x0, x1, x5 => if x5 < (x0.length : Int) then (if 0 ≤ x5 then (if x5 < (x1.length : Int) then ((laws_eqIntS.f k (rd_L2 x0 x5) (rd_L2 x1 x5)).bind fun t392 => (if t392 = true then (laws_eqIntSS.l0 k x0 x1 (wrap64 (x5 + 1))) else (some false))) else (none)) else (none)) else (some true)
def laws_eqIntSS.f (k : Nat) (l0 : List (List Int)) (l1 : List (List Int)) : Option (Bool) := if (l0.length : Int) = (l1.length : Int) then (laws_eqIntSS.l0 k l0 l1 0) else (some false)
set_option maxHeartbeats 8000000 in
set_option maxRecDepth 100000 in
theorem laws_eqIntSS.calls (k : Nat) (A0 : Option Addr) (c0 : Nat) (l0 : List (List Int)) (A1 : Option Addr) (c1 : Nat) (l1 : List (List Int)) (r : Bool) (w : World) (hr0 : Kd.C (Kd.slice 3 (Kd.int .i64)) w A0 l0.length l0) (hc0 : l0.length ≤ c0) (hr1 : Kd.C (Kd.slice 3 (Kd.int .i64)) w A1 l1.length l1) (hc1 : l1.length ≤ c1) (h : laws_eqIntSS.f k l0 l1 = some r) (hr_ : r = true) :
  Calls Try.prog 43 #[.slice A0 l0.length c0, .slice A1 l1.length c1] w fun e w' => e = .returned (.bool r) ∧ Drawn0 w w' := by
 have HR0 := Aside0.mk hr0
 have HC0 := Aside0.mk hc0
 clear hr0 hc0
 have HR1 := Aside0.mk hr1
 have HC1 := Aside0.mk hc1
 clear hr1 hc1
 have H : (if (l0.length : Int) = (l1.length : Int) then (laws_eqIntSS.l0 k l0 l1 0) else (some false)) = some r := h
 clear h
 by_cases c3 : (l0.length : Int) = (l1.length : Int)
 ·rw [if_pos c3] at H
  have c3b0 : ((l0.length : Int) == (l1.length : Int)) = true := beq_iff_eq.mpr c3
  have c3b1 : ((l0.length : Int) != (l1.length : Int)) = false := bne_eq_false_iff_eq.mpr c3
  have c3b2 : (l0.length == l1.length) = true := by first | simpa using c3 | (simp at c3 ⊢; omega)
  clear c3
  have H' := Aside0.mk H
  clear H
  go_enter Try.func43, Try.ntmps43
  go_wp2
  repeat (go_quiet (fail); try go_wp2)
  go_loopg [5] k (fun kq v5 w' => ∃ (x5_1 : Int), v5 = .int .i64 x5_1 ∧ Aside0 (laws_eqIntSS.l0 kq l0 l1 x5_1 = some r) ∧ Aside0 (kq ≤ k) ∧ Drawn0 w w')
  case atStart => exact ⟨(0), (by first | rfl | (simp; done) | (simp [*]; done)), H', ⟨Nat.le_refl _⟩, by repeat (first | exact Drawn0.refl _ | apply Drawn0.step)⟩
  case round =>
   clear H'
   try clear c1
   try clear p2
   try clear c3
   try clear c3b0
   try clear c3b1
   try clear c3b2
   obtain ⟨x5_1, rfl, HA, HK1, ⟨m1, rfl⟩⟩ := hrel
   cases gk with
   | zero => exact absurd HA.out (by simp [laws_eqIntSS.l0])
   | succ k1 =>
    have H := HA.out
    clear HA
    simp only [laws_eqIntSS.l0] at H
    by_cases c4 : x5_1 < (l0.length : Int)
    ·rw [if_pos c4] at H
     have c4b0 : decide (x5_1 < (l0.length : Int)) = true := decide_eq_true c4
     clear c4
     by_cases c5 : 0 ≤ x5_1
     ·rw [if_pos c5] at H
      have c5b0 : decide (0 ≤ x5_1) = true := decide_eq_true c5
      clear c5
      by_cases c6 : x5_1 < (l1.length : Int)
      ·rw [if_pos c6] at H
       have c6b0 : decide (x5_1 < (l1.length : Int)) = true := decide_eq_true c6
       clear c6
       replace H := Option.bind_eq_some_iff.mp H
       obtain ⟨t392, A70, H⟩ := H
       replace H : (if t392 = true then (laws_eqIntSS.l0 k1 l0 l1 (wrap64 (x5_1 + 1))) else (some false)) = some r := H
       have A7 := Aside0.mk A70
       clear A70
       by_cases c8 : t392 = true
       ·subst c8
        have H1 : (laws_eqIntSS.l0 k1 l0 l1 (wrap64 (x5_1 + 1))) = some r := by rw [if_pos rfl] at H; exact H
        clear H
        have H := H1
        clear H1
        have H' := Aside0.mk H
        clear H
        have p390 : 0 ≤ (x5_1 : Int) := of_decide_eq_true (by first | (with_reducible assumption) | assumption)
        have q390 : x5_1 < (l0.length : Int) := of_decide_eq_true (by first | (with_reducible assumption) | assumption)
        obtain ⟨ad390, A390_0, c390_0, e390, hx390_0, hl390_0, hi390_0⟩ := at_L2 HR0.out x5_1 p390 q390
        cases e390
        have HR390_0 := Aside0.mk hi390_0
        have HC390_0 := Aside0.mk hl390_0
        clear hi390_0 hl390_0
        replace p390 := eq_true p390
        replace q390 := eq_true q390
        have p391 : 0 ≤ (x5_1 : Int) := of_decide_eq_true (by first | (with_reducible assumption) | assumption)
        have q391 : x5_1 < (l1.length : Int) := of_decide_eq_true (by first | (with_reducible assumption) | assumption)
        obtain ⟨ad391, A391_0, c391_0, e391, hx391_0, hl391_0, hi391_0⟩ := at_L2 HR1.out x5_1 p391 q391
        cases e391
        have HR391_0 := Aside0.mk hi391_0
        have HC391_0 := Aside0.mk hl391_0
        clear hi391_0 hl391_0
        replace p391 := eq_true p391
        replace q391 := eq_true q391
        go_wp2_with (first | (go_at_call 44; (with_reducible refine (laws_eqIntS.calls k1 _ _ (rd_L2 l0 x5_1) _ _ (rd_L2 l1 x5_1) true _ ?side1 ?side2 ?side3 ?side4 A7.out (by first | rfl | assumption)).mono ?_); (case side1 => repeat (first | exact HR390_0.out | (with_reducible refine Kd.C_alloc ?_ _) | (with_reducible refine Kd.C_drewN ?_ _) | (with_reducible refine Kd.C_drew ?_))); (case side2 => exact HC390_0.out); (case side3 => repeat (first | exact HR391_0.out | (with_reducible refine Kd.C_alloc ?_ _) | (with_reducible refine Kd.C_drewN ?_ _) | (with_reducible refine Kd.C_drew ?_))); (case side4 => exact HC391_0.out); rintro e w' ⟨rfl, ⟨nd, rfl⟩⟩; (try first | exact ⟨rfl, _, World.drewN_drewN _ _ _⟩ | exact ⟨rfl, _, Eq.trans (World.drewN_drewN _ _ _) (congrArg (World.drewN _) (Nat.add_assoc _ _ _))⟩)))
        repeat (go_quiet (first | (go_at_call 44; (with_reducible refine (laws_eqIntS.calls k1 _ _ (rd_L2 l0 x5_1) _ _ (rd_L2 l1 x5_1) true _ ?side1 ?side2 ?side3 ?side4 A7.out (by first | rfl | assumption)).mono ?_); (case side1 => repeat (first | exact HR390_0.out | (with_reducible refine Kd.C_alloc ?_ _) | (with_reducible refine Kd.C_drewN ?_ _) | (with_reducible refine Kd.C_drew ?_))); (case side2 => exact HC390_0.out); (case side3 => repeat (first | exact HR391_0.out | (with_reducible refine Kd.C_alloc ?_ _) | (with_reducible refine Kd.C_drewN ?_ _) | (with_reducible refine Kd.C_drew ?_))); (case side4 => exact HC391_0.out); rintro e w' ⟨rfl, ⟨nd, rfl⟩⟩; (try first | exact ⟨rfl, _, World.drewN_drewN _ _ _⟩ | exact ⟨rfl, _, Eq.trans (World.drewN_drewN _ _ _) (congrArg (World.drewN _) (Nat.add_assoc _ _ _))⟩))); try go_wp2_with (first | (go_at_call 44; (with_reducible refine (laws_eqIntS.calls k1 _ _ (rd_L2 l0 x5_1) _ _ (rd_L2 l1 x5_1) true _ ?side1 ?side2 ?side3 ?side4 A7.out (by first | rfl | assumption)).mono ?_); (case side1 => repeat (first | exact HR390_0.out | (with_reducible refine Kd.C_alloc ?_ _) | (with_reducible refine Kd.C_drewN ?_ _) | (with_reducible refine Kd.C_drew ?_))); (case side2 => exact HC390_0.out); (case side3 => repeat (first | exact HR391_0.out | (with_reducible refine Kd.C_alloc ?_ _) | (with_reducible refine Kd.C_drewN ?_ _) | (with_reducible refine Kd.C_drew ?_))); (case side4 => exact HC391_0.out); rintro e w' ⟨rfl, ⟨nd, rfl⟩⟩; (try first | exact ⟨rfl, _, World.drewN_drewN _ _ _⟩ | exact ⟨rfl, _, Eq.trans (World.drewN_drewN _ _ _) (congrArg (World.drewN _) (Nat.add_assoc _ _ _))⟩))))
        go_roundg k1
        case measure => have := HK1.out; omega
        case rel => exact ⟨(wrap64 (x5_1 + 1)), (by first | rfl | (simp; done) | (simp [*]; done)), H', ⟨by have := HK1.out; omega⟩, by repeat (first | exact Drawn0.refl _ | apply Drawn0.step)⟩
       ·replace c8 := Bool.eq_false_iff.mpr c8
        subst c8
        have H1 : (some false) = some r := by rw [if_neg (show ¬ (false = true) by decide)] at H; exact H
        clear H
        have H := H1
        clear H1
        obtain rfl := Option.some.inj H
        exact absurd hr_ (by decide)
      ·rw [if_neg c6] at H
       exact absurd H (by simp)
     ·rw [if_neg c5] at H
      exact absurd H (by simp)
    ·rw [if_neg c4] at H
     have c4b0 : decide (x5_1 < (l0.length : Int)) = false := decide_eq_false c4
     clear c4
     obtain rfl := Option.some.inj H
     first
     | exact absurd hr_ (by decide)
     | (skip
        go_wp2
        repeat (go_quiet (fail); try go_wp2)
        go_ret
        exact ⟨by first | rfl | (simp; done) | (simp [*]; done), by repeat (first | exact Drawn0.refl _ | apply Drawn0.step)⟩)
 ·rw [if_neg c3] at H
  have c3b0 : ((l0.length : Int) == (l1.length : Int)) = false := beq_eq_false_iff_ne.mpr c3
  have c3b1 : ((l0.length : Int) != (l1.length : Int)) = true := bne_iff_ne.mpr c3
  have c3b2 : (l0.length == l1.length) = false := by first | simpa using c3 | (simp at c3 ⊢; omega)
  obtain rfl := Option.some.inj H
  exact absurd hr_ (by decide)
def laws_markIntS.l0 : Nat → List Int → Int → Int → Option (Int × List Int)
  | 0, _, _, _ => none
  | k + 1, x0, x1, x5 => if x5 < (x0.length : Int) then (if 0 ≤ x5 then (laws_markIntS.l0 k (x0.set (x5 : Int).toNat x1) (wrap64 (x1 + 1)) (wrap64 (x5 + 1))) else (none)) else (some (x1, x0))
def laws_markIntS.f (k : Nat) (l0 : List Int) (a1 : Int) : Option (Int × List Int) := laws_markIntS.l0 k l0 a1 0
set_option maxHeartbeats 8000000 in
set_option maxRecDepth 100000 in
theorem laws_markIntS.calls (k : Nat) (P0_ : Nat → Prop) (u9000_ : Value) (l0 : List Int) (a1 : Int) (r1 : Int) (r2 : List Int) (w0 w : World) (hB : Below w0.heap.size w0 w) (ho0 : Kd.R (Kd.int .i64) 3 w w0.heap.size P0_ u9000_ l0) (h : laws_markIntS.f k l0 a1 = some (r1, r2)) :
    Calls Try.prog 51 #[u9000_, .int .i64 a1] w fun e w' => e = .returned (.int .i64 r1) ∧ Kd.R (Kd.int .i64) 3 w' w0.heap.size (fun k_ => (P0_ k_ ∨ w.heap.size ≤ k_)) u9000_ r2 ∧ Below w0.heap.size w0 w' ∧ Kept w w' (fun k_ => P0_ k_) := by
  have HO0 := Aside0.mk (show Kd.R (Kd.int .i64) 3 w w0.heap.size (fun k_ => (P0_ k_ ∨ w.heap.size ≤ k_)) u9000_ l0 from Kd.R_mono ho0 (fun k_ hk => (.inl hk)))
  have HK := Aside0.mk (Kept.refl w (fun k_ => P0_ k_))
  have HW0 := Aside0.mk hB.size
  have HB := Aside0.mk hB
  clear hB
  have H : (laws_markIntS.l0 k l0 a1 0) = some (r1, r2) := h
  clear h
  have H' := Aside0.mk H
  clear H
  go_enter Try.func51, Try.ntmps51
  go_wp2
  go_loopg [1, 5] k (fun kq v1 v5 w' => ∃ (x0_1 : List Int) (x1_1 : Int) (x5_1 : Int), v1 = .int .i64 x1_1 ∧ v5 = .int .i64 x5_1 ∧ Aside0 (laws_markIntS.l0 kq x0_1 x1_1 x5_1 = some (r1, r2)) ∧ Aside0 (kq ≤ k) ∧ Aside0 (Kd.R (Kd.int .i64) 3 w' w0.heap.size (fun k_ => (P0_ k_ ∨ w.heap.size ≤ k_)) u9000_ x0_1) ∧ Aside0 (Kept w w' (fun k_ => P0_ k_)) ∧ Aside0 (Below w0.heap.size w0 w'))
  case atStart => exact ⟨(l0), (a1), (0), (by first | rfl | (simp; done) | (simp [*]; done)), (by first | rfl | (simp; done) | (simp [*]; done)), H', ⟨Nat.le_refl _⟩, ⟨by (with_reducible repeat (first | apply Kd.R_alloc | apply Kd.R_drewN | apply Kd.R_drew)); exact HO0.out⟩, ⟨by repeat (first | (with_reducible first | exact HK.out | apply Kept.alloc | apply Kept.drewN | apply Kept.drew) | exact HK.out)⟩, ⟨by repeat (first | (with_reducible first | exact HB.out | apply below_alloc | apply pw_below_drewN | apply below_drew1) | exact HB.out)⟩⟩
  case round =>
    clear H'
    try clear p2
    obtain ⟨x0_1, x1_1, x5_1, rfl, rfl, HA, HK1, HO_0, HK, HB⟩ := hrel
    cases gk with
    | zero => exact absurd HA.out (by simp [laws_markIntS.l0])
    | succ k1 =>
      have H := HA.out
      clear HA
      simp only [laws_markIntS.l0] at H
      by_cases c3 : x5_1 < (x0_1.length : Int)
      · rw [if_pos c3] at H
        have c3b0 : decide (x5_1 < (x0_1.length : Int)) = true := decide_eq_true c3
        clear c3
        by_cases c4 : 0 ≤ x5_1
        · rw [if_pos c4] at H
          have c4b0 : decide (0 ≤ x5_1) = true := decide_eq_true c4
          clear c4
          obtain ⟨y439, hy439⟩ : ∃ y_ : List Int, y_ = (x0_1.set (x5_1 : Int).toNat x1_1) := ⟨_, rfl⟩
          replace H : (laws_markIntS.l0 k1 y439 (wrap64 (x1_1 + 1)) (wrap64 (x5_1 + 1))) = some (r1, r2) := by first | (rw [hy439]; with_reducible exact H) | (have H2_ := (Option.bind_some _ _).symm.trans H; rw [hy439]; with_reducible exact H2_) | (have H2_ := (Option.bind_some _ _).symm.trans H; with_reducible exact H2_) | with_reducible exact H | (rw [hy439]; exact H) | exact H
          have Ny439 := Aside0.mk hy439
          clear hy439
          have H' := Aside0.mk H
          clear H
          obtain ⟨Ao6, co6, eo6⟩ := Kd.R_slice HO_0.out
          subst eo6
          have p5 : 0 ≤ (x5_1 : Int) := of_decide_eq_true (by first | (with_reducible assumption) | assumption)
          have q5 : (x5_1 : Int) < ((x0_1.length : Int) : Int) := of_decide_eq_true (by first | (with_reducible assumption) | assumption)
          obtain ⟨go5, co5, eo5, gb5, gl5, cl5, HG5⟩ := Kd.R_form HO_0.out (by omega)
          (first | cases eo5 | (injection eo5 with ea_ en_ ec_; (first | subst ea_ | (injection ea_ with ea_; subst ea_)); subst ec_; clear en_))
          have GB5 := Aside0.mk gb5
          have GG5 := Aside0.mk HG5
          clear gb5 gl5 HG5
          have HMgo5 := Aside0.mk (show (P0_ go5 ∨ w.heap.size ≤ go5) from (HO_0.out.1 _ rfl))
          obtain ⟨hx5_0, hf5_0⟩ := Kd.R_celln 0 HO_0.out (x5_1 : Int) p5 q5
          replace p5 := eq_true p5
          replace q5 := eq_true q5
          have HP7 := Kd.R_putg HO_0.out (x5_1 : Int) x1_1
          go_wp2_with (first | ((with_reducible refine gate_store (t := 3) (p := 15) rfl ?_); refine store_event (t := 3) (p := 15) (v := ?vo_w8) (w1 := (wr.setCell ⟨go5, (x5_1 : Int).toNat, none⟩ (.int .i64 x1_1))) ?hg ?ho ?hn ?hr ?_; (case ho => rfl); (case hg => rfl); (case hn => rfl); (case hr => first | (go_simp; done) | (go_simp; rfl)); intro w8 hw; have hg : wr.grownBy w8 (some go5) := (by rw [hw]; exact HP7.2); have hp_ : Kd.R (Kd.int .i64) 3 w8 w0.heap.size (fun k_ => (P0_ k_ ∨ w.heap.size ≤ k_)) (.slice (some ⟨go5, 0, none⟩) x0_1.length co6) y439 := (by rw [hw, Ny439.out]; exact HP7.1); clear HP7; have n0_ := Aside0.mk (hp_); have n1_ := Aside0.mk ((by rw [hw]; exact below_set (HB.out) GB5.out : Below w0.heap.size w0 w8)); have n2_ := Aside0.mk (Kept.of_grown (S := (fun k_ => P0_ k_)) hg (by repeat (first | (with_reducible first | exact HK.out | apply Kept.alloc | apply Kept.drewN | apply Kept.drew) | exact HK.out)) (fun k_ e_ => (HO_0.out.1 k_ e_))); clear HO_0; clear HB; clear HK; have HO_0 := n0_; have HB := n1_; have HK := n2_; clear n0_ n1_ n2_; clear hg hw hp_))
          go_roundg k1
          case measure => have := HK1.out; omega
          case rel => exact ⟨(y439), (wrap64 (x1_1 + 1)), (wrap64 (x5_1 + 1)), (by first | rfl | (simp; done) | (simp [*]; done)), (by first | rfl | (simp; done) | (simp [*]; done)), H', ⟨by have := HK1.out; omega⟩, ⟨by (with_reducible repeat (first | apply Kd.R_alloc | apply Kd.R_drewN | apply Kd.R_drew)); exact HO_0.out⟩, ⟨by repeat (first | (with_reducible first | exact HK.out | apply Kept.alloc | apply Kept.drewN | apply Kept.drew) | exact HK.out)⟩, ⟨by repeat (first | (with_reducible first | exact HB.out | apply below_alloc | apply pw_below_drewN | apply below_drew1) | exact HB.out)⟩⟩
        · rw [if_neg c4] at H
          exact absurd H (by simp)
      · rw [if_neg c3] at H
        have c3b0 : decide (x5_1 < (x0_1.length : Int)) = false := decide_eq_false c3
        clear c3
        simp only [Option.some.injEq, Prod.mk.injEq] at H
        obtain ⟨rfl, rfl⟩ := H
        obtain ⟨Ao9, co9, eo9⟩ := Kd.R_slice HO_0.out
        subst eo9
        go_wp2
        go_ret
        exact ⟨by first | rfl | (simp [errW_none, errW_some] <;> rfl) | (simp [*, errW_none, errW_some] <;> rfl), by (with_reducible repeat (first | apply Kd.R_alloc | apply Kd.R_drewN | apply Kd.R_drew)); exact HO_0.out, by repeat (first | (with_reducible first | exact HB.out | apply below_alloc | apply pw_below_drewN | apply below_drew1) | exact HB.out), by repeat (first | (with_reducible first | exact HK.out | apply Kept.alloc | apply Kept.drewN | apply Kept.drew) | exact HK.out)⟩
def laws_markIntSS.l0 : Nat → List (List Int) → Int → Int → Option (Int × List (List Int))
  | 0, _, _, _ => none
  | k + 1, x0, x1, x5 => if x5 < (x0.length : Int) then (if 0 ≤ x5 then ((laws_markIntS.f k (x0.getD x5.toNat []) x1).bind fun t => (laws_markIntSS.l0 k (x0.set x5.toNat t.2) t.1 (wrap64 (x5 + 1)))) else none) else some (x1, x0)
def laws_markIntSS.f (k : Nat) (l0 : List (List Int)) (a1 : Int) : Option (Int × List (List Int)) := laws_markIntSS.l0 k l0 a1 0
set_option maxHeartbeats 1600000 in
set_option maxRecDepth 100000 in
theorem laws_markIntSS.calls (k : Nat) (P0_ : Nat → Prop) (u9000_ : Value) (l0 : List (List Int)) (a1 : Int) (r1 : Int) (r2 : List (List Int)) (w0 w : World) (hB : Below w0.heap.size w0 w) (ho0 : Kd.S (Kd.slice 3 (Kd.int .i64)) 26 w w0.heap.size P0_ u9000_ l0) (h : laws_markIntSS.f k l0 a1 = some (r1, r2)) :
    Calls Try.prog 50 #[u9000_, .int .i64 a1] w fun e w' => e = .returned (.int .i64 r1) ∧ Kd.S (Kd.slice 3 (Kd.int .i64)) 26 w' w0.heap.size (fun k_ => (P0_ k_ ∨ w.heap.size ≤ k_)) u9000_ r2 ∧ Below w0.heap.size w0 w' ∧ Kept w w' (fun k_ => P0_ k_) := by
  have HO0 := Aside0.mk (show Kd.S (Kd.slice 3 (Kd.int .i64)) 26 w w0.heap.size (fun k_ => (P0_ k_ ∨ w.heap.size ≤ k_)) u9000_ l0 from Kd.S_mono ho0 (fun k_ hk => (.inl hk)))
  have HK := Aside0.mk (Kept.refl w (fun k_ => P0_ k_))
  have HB := Aside0.mk hB
  clear hB ho0
  have H' := Aside0.mk (show laws_markIntSS.l0 k l0 a1 0 = some (r1, r2) from h)
  clear h
  go_enter Try.func50, Try.ntmps50
  go_wp2
  go_loopg [1, 5] k (fun kq v1 v5 w' => ∃ (x0_1 : List (List Int)) (x1_1 : Int) (x5_1 : Int), v1 = .int .i64 x1_1 ∧ v5 = .int .i64 x5_1 ∧ Aside0 (laws_markIntSS.l0 kq x0_1 x1_1 x5_1 = some (r1, r2)) ∧ Aside0 (kq ≤ k) ∧ Aside0 (Kd.S (Kd.slice 3 (Kd.int .i64)) 26 w' w0.heap.size (fun k_ => (P0_ k_ ∨ w.heap.size ≤ k_)) u9000_ x0_1) ∧ Aside0 (Kept w w' (fun k_ => P0_ k_)) ∧ Aside0 (Below w0.heap.size w0 w'))
  case atStart => exact ⟨l0, a1, 0, rfl, rfl, H', ⟨Nat.le_refl _⟩, HO0, HK, HB⟩
  case round =>
    clear H' HO0 HK HB
    obtain ⟨x0_1, x1_1, x5_1, rfl, rfl, HA, HK1, HO, HK, HB⟩ := hrel
    cases gk with
    | zero => exact absurd HA.out (by simp [laws_markIntSS.l0])
    | succ k1 =>
      have H := HA.out
      clear HA
      rw [laws_markIntSS.l0] at H
      obtain ⟨An, cn, en⟩ := Kd.S_slice HO.out
      subst en
      by_cases c3 : x5_1 < (x0_1.length : Int)
      · rw [if_pos c3] at H
        by_cases c4 : 0 ≤ x5_1
        · rw [if_pos c4] at H
          obtain ⟨⟨t1, t2⟩, hc, H⟩ := Option.bind_eq_some_iff.mp H
          have HC := Aside0.mk hc
          have H' := Aside0.mk H
          clear hc H
          obtain ⟨g, cap, eg, gb, gl, cl, HG⟩ := Kd.S_form HO.out (by omega)
          obtain ⟨ea, ec⟩ : An = some ⟨g, 0, none⟩ ∧ cn = cap := by injection eg with a b c; exact ⟨a, c⟩
          subst ea ec
          clear eg
          obtain ⟨oki, c, hcl, hM, hcell, hoki, hH⟩ := Kd.S_lend HO.out [] x5_1 c4 c3
          obtain ⟨v, rfl, hR⟩ := hM
          have hx := hcell 0 v rfl
          rw [show x5_1.toNat * (Kd.slice 3 (Kd.int .i64)).sz + 0 = x5_1.toNat from by show x5_1.toNat * 1 + 0 = _; omega] at hx
          have HR := Aside0.mk hR
          have HH := Aside0.mk (Kd.H_widen hH)
          have HI := Aside0.mk hoki
          have GB := Aside0.mk gb
          have hlt := HK.out.1
          have HLT := Aside0.mk hlt
          clear hcell hH hoki hR hcl HO gb gl HG hlt
          go_wp2_with fail
          refine (laws_markIntS.calls k1 oki v (x0_1.getD x5_1.toNat []) x1_1 t1 t2 w0 wr HB.out HR.out HC.out).mono ?_
          rintro e w1 ⟨rfl, hR1, hB1, hK1⟩
          have HK2 := Aside0.mk (HK.out.then_ hK1 (fun k_ hk => HI.out k_ hk |>.1))
          have HB2 := Aside0.mk hB1
          have HS := Aside0.mk (Kd.H_back (Kd.H_kept HH.out hK1 (fun k_ _ hn hk => hn (.inl hk))) (x' := t2) ⟨v, rfl, hR1⟩ (fun k_ hk => hk.elim .inl (fun h => .inr ⟨.inr (Nat.le_trans HLT.out h), h⟩)))
          clear hR1 hB1 hK1 HK HB HH HI HC HR
          go_wp2
          go_roundg k1
          case measure => have := HK1.out; omega
          case rel => exact ⟨_, _, _, rfl, rfl, H', ⟨by have := HK1.out; omega⟩, HS, HK2, HB2⟩
        · rw [if_neg c4] at H
          exact absurd H (by simp)
      · rw [if_neg c3] at H
        simp only [Option.some.injEq, Prod.mk.injEq] at H
        obtain ⟨rfl, rfl⟩ := H
        go_wp2
        go_ret
        exact ⟨rfl, HO.out, HB.out, HK.out⟩
def laws_heldIntS.l0 : Nat → List Int → Int → Int → Option (Int)
  | 0, _, _, _ => none
  | k + 1, x0, x1, x5 => if x5 < (x0.length : Int) then (if 0 ≤ x5 then (if (rd x0 x5) = x1 then (laws_heldIntS.l0 k x0 (wrap64 (x1 + 1)) (wrap64 (x5 + 1))) else (some (-1))) else (none)) else (some x1)
def laws_heldIntS.f (k : Nat) (l0 : List Int) (a1 : Int) : Option (Int) := laws_heldIntS.l0 k l0 a1 0
set_option maxHeartbeats 8000000 in
set_option maxRecDepth 100000 in
theorem laws_heldIntS.calls (k : Nat) (A0 : Option Addr) (c0 : Nat) (l0 : List Int) (a1 : Int) (r : Int) (w : World) (hr0 : Kd.C (Kd.int .i64) w A0 l0.length l0) (hc0 : l0.length ≤ c0) (h : laws_heldIntS.f k l0 a1 = some r) :
    Calls Try.prog 58 #[.slice A0 l0.length c0, .int .i64 a1] w fun e w' => e = .returned (.int .i64 r) ∧ Drawn0 w w' := by
  have HR0 := Aside0.mk hr0
  have HC0 := Aside0.mk hc0
  clear hr0 hc0
  have H : (laws_heldIntS.l0 k l0 a1 0) = some r := h
  clear h
  have H' := Aside0.mk H
  clear H
  go_enter Try.func58, Try.ntmps58
  go_wp2
  go_loopg [1, 5] k (fun kq v1 v5 w' => ∃ (x1_1 : Int) (x5_1 : Int), v1 = .int .i64 x1_1 ∧ v5 = .int .i64 x5_1 ∧ Aside0 (laws_heldIntS.l0 kq l0 x1_1 x5_1 = some r) ∧ Aside0 (kq ≤ k) ∧ Drawn0 w w')
  case atStart => exact ⟨(a1), (0), (by first | rfl | (simp; done) | (simp [*]; done)), (by first | rfl | (simp; done) | (simp [*]; done)), H', ⟨Nat.le_refl _⟩, by repeat (first | exact Drawn0.refl _ | apply Drawn0.step)⟩
  case round =>
    clear H'
    try clear p2
    obtain ⟨x1_1, x5_1, rfl, rfl, HA, HK1, ⟨m1, rfl⟩⟩ := hrel
    cases gk with
    | zero => exact absurd HA.out (by simp [laws_heldIntS.l0])
    | succ k1 =>
      have H := HA.out
      clear HA
      simp only [laws_heldIntS.l0] at H
      by_cases c3 : x5_1 < (l0.length : Int)
      · rw [if_pos c3] at H
        have c3b0 : decide (x5_1 < (l0.length : Int)) = true := decide_eq_true c3
        clear c3
        by_cases c4 : 0 ≤ x5_1
        · rw [if_pos c4] at H
          have c4b0 : decide (0 ≤ x5_1) = true := decide_eq_true c4
          clear c4
          by_cases c5 : (rd l0 x5_1) = x1_1
          · rw [if_pos c5] at H
            have c5b0 : ((rd l0 x5_1) == x1_1) = true := beq_iff_eq.mpr c5
            have c5b1 : ((rd l0 x5_1) != x1_1) = false := bne_eq_false_iff_eq.mpr c5
            clear c5
            have H' := Aside0.mk H
            clear H
            have p452 : 0 ≤ (x5_1 : Int) := of_decide_eq_true (by first | (with_reducible assumption) | assumption)
            have q452 : x5_1 < (l0.length : Int) := of_decide_eq_true (by first | (with_reducible assumption) | assumption)
            obtain ⟨ad452, e452, hx452_0⟩ := Kd.at_int HR0.out x5_1 p452 q452
            cases e452
            replace p452 := eq_true p452
            replace q452 := eq_true q452
            go_wp2
            go_roundg k1
            case measure => have := HK1.out; omega
            case rel => exact ⟨(wrap64 (x1_1 + 1)), (wrap64 (x5_1 + 1)), (by first | rfl | (simp; done) | (simp [*]; done)), (by first | rfl | (simp; done) | (simp [*]; done)), H', ⟨by have := HK1.out; omega⟩, by repeat (first | exact Drawn0.refl _ | apply Drawn0.step)⟩
          · rw [if_neg c5] at H
            have c5b0 : ((rd l0 x5_1) == x1_1) = false := beq_eq_false_iff_ne.mpr c5
            have c5b1 : ((rd l0 x5_1) != x1_1) = true := bne_iff_ne.mpr c5
            obtain rfl := Option.some.inj H
            have p452 : 0 ≤ (x5_1 : Int) := of_decide_eq_true (by first | (with_reducible assumption) | assumption)
            have q452 : x5_1 < (l0.length : Int) := of_decide_eq_true (by first | (with_reducible assumption) | assumption)
            obtain ⟨ad452, e452, hx452_0⟩ := Kd.at_int HR0.out x5_1 p452 q452
            cases e452
            replace p452 := eq_true p452
            replace q452 := eq_true q452
            go_wp2
            go_ret
            exact ⟨by first | rfl | (simp; done) | (simp [*]; done), by repeat (first | exact Drawn0.refl _ | apply Drawn0.step)⟩
        · rw [if_neg c4] at H
          exact absurd H (by simp)
      · rw [if_neg c3] at H
        have c3b0 : decide (x5_1 < (l0.length : Int)) = false := decide_eq_false c3
        clear c3
        obtain rfl := Option.some.inj H
        go_wp2
        go_ret
        exact ⟨by first | rfl | (simp; done) | (simp [*]; done), by repeat (first | exact Drawn0.refl _ | apply Drawn0.step)⟩
def laws_heldIntSS.l0 : Nat → List (List Int) → Int → Int → Option (Int)
  | 0, _, _, _ => none
  | k + 1, x0, x1, x5 => if x5 < (x0.length : Int) then (if 0 ≤ x5 then ((laws_heldIntS.f k (rd_L2 x0 x5) x1).bind fun t454 => (if t454 < 0 then (some (-1)) else (laws_heldIntSS.l0 k x0 t454 (wrap64 (x5 + 1))))) else (none)) else (some x1)
def laws_heldIntSS.f (k : Nat) (l0 : List (List Int)) (a1 : Int) : Option (Int) := laws_heldIntSS.l0 k l0 a1 0
set_option maxHeartbeats 8000000 in
set_option maxRecDepth 100000 in
theorem laws_heldIntSS.calls (k : Nat) (A0 : Option Addr) (c0 : Nat) (l0 : List (List Int)) (a1 : Int) (r : Int) (w : World) (hr0 : Kd.C (Kd.slice 3 (Kd.int .i64)) w A0 l0.length l0) (hc0 : l0.length ≤ c0) (h : laws_heldIntSS.f k l0 a1 = some r) :
    Calls Try.prog 57 #[.slice A0 l0.length c0, .int .i64 a1] w fun e w' => e = .returned (.int .i64 r) ∧ Drawn0 w w' := by
  have HR0 := Aside0.mk hr0
  have HC0 := Aside0.mk hc0
  clear hr0 hc0
  have H : (laws_heldIntSS.l0 k l0 a1 0) = some r := h
  clear h
  have H' := Aside0.mk H
  clear H
  go_enter Try.func57, Try.ntmps57
  go_wp2
  go_loopg [1, 5] k (fun kq v1 v5 w' => ∃ (x1_1 : Int) (x5_1 : Int), v1 = .int .i64 x1_1 ∧ v5 = .int .i64 x5_1 ∧ Aside0 (laws_heldIntSS.l0 kq l0 x1_1 x5_1 = some r) ∧ Aside0 (kq ≤ k) ∧ Drawn0 w w')
  case atStart => exact ⟨(a1), (0), (by first | rfl | (simp; done) | (simp [*]; done)), (by first | rfl | (simp; done) | (simp [*]; done)), H', ⟨Nat.le_refl _⟩, by repeat (first | exact Drawn0.refl _ | apply Drawn0.step)⟩
  case round =>
    clear H'
    try clear p2
    obtain ⟨x1_1, x5_1, rfl, rfl, HA, HK1, ⟨m1, rfl⟩⟩ := hrel
    cases gk with
    | zero => exact absurd HA.out (by simp [laws_heldIntSS.l0])
    | succ k1 =>
      have H := HA.out
      clear HA
      simp only [laws_heldIntSS.l0] at H
      by_cases c3 : x5_1 < (l0.length : Int)
      · rw [if_pos c3] at H
        have c3b0 : decide (x5_1 < (l0.length : Int)) = true := decide_eq_true c3
        clear c3
        by_cases c4 : 0 ≤ x5_1
        · rw [if_pos c4] at H
          have c4b0 : decide (0 ≤ x5_1) = true := decide_eq_true c4
          clear c4
          replace H := Option.bind_eq_some_iff.mp H
          obtain ⟨t454, A50, H⟩ := H
          replace H : (if t454 < 0 then (some (-1)) else (laws_heldIntSS.l0 k1 l0 t454 (wrap64 (x5_1 + 1)))) = some r := H
          have A5 := Aside0.mk A50
          clear A50
          by_cases c6 : t454 < 0
          · rw [if_pos c6] at H
            have c6b0 : decide (t454 < 0) = true := decide_eq_true c6
            clear c6
            obtain rfl := Option.some.inj H
            have p453 : 0 ≤ (x5_1 : Int) := of_decide_eq_true (by first | (with_reducible assumption) | assumption)
            have q453 : x5_1 < (l0.length : Int) := of_decide_eq_true (by first | (with_reducible assumption) | assumption)
            obtain ⟨ad453, A453_0, c453_0, e453, hx453_0, hl453_0, hi453_0⟩ := at_L2 HR0.out x5_1 p453 q453
            cases e453
            have HR453_0 := Aside0.mk hi453_0
            have HC453_0 := Aside0.mk hl453_0
            clear hi453_0 hl453_0
            replace p453 := eq_true p453
            replace q453 := eq_true q453
            go_wp2_with (first | ((with_reducible refine gate_callee (f := 58) rfl ?_); refine goesL_ (some 17) rfl rfl Try.func58 (by kernel_rfl) rfl #[.slice A453_0 (rd_L2 l0 x5_1).length c453_0, .int .i64 x1_1] rfl (by (try simp only [List.map_toArray, List.map_cons, List.map_nil]); first | done | rfl | (simp only [List.length_drop, List.length_take]; rfl)) ?_; (with_reducible refine (laws_heldIntS.calls k1 _ _ (rd_L2 l0 x5_1) x1_1 t454 _ ?side1 ?side2 A5.out).mono ?_); (case side1 => repeat (first | exact HR453_0.out | (with_reducible refine Kd.C_alloc ?_ _) | (with_reducible refine Kd.C_drewN ?_ _) | (with_reducible refine Kd.C_drew ?_))); (case side2 => exact HC453_0.out); rintro e w' ⟨rfl, ⟨nd, rfl⟩⟩; refine ⟨_, rfl, ?_⟩))
            go_ret
            exact ⟨by first | rfl | (simp; done) | (simp [*]; done), by repeat (first | exact Drawn0.refl _ | apply Drawn0.step)⟩
          · rw [if_neg c6] at H
            have c6b0 : decide (t454 < 0) = false := decide_eq_false c6
            clear c6
            have H' := Aside0.mk H
            clear H
            have p453 : 0 ≤ (x5_1 : Int) := of_decide_eq_true (by first | (with_reducible assumption) | assumption)
            have q453 : x5_1 < (l0.length : Int) := of_decide_eq_true (by first | (with_reducible assumption) | assumption)
            obtain ⟨ad453, A453_0, c453_0, e453, hx453_0, hl453_0, hi453_0⟩ := at_L2 HR0.out x5_1 p453 q453
            cases e453
            have HR453_0 := Aside0.mk hi453_0
            have HC453_0 := Aside0.mk hl453_0
            clear hi453_0 hl453_0
            replace p453 := eq_true p453
            replace q453 := eq_true q453
            go_wp2_with (first | ((with_reducible refine gate_callee (f := 58) rfl ?_); refine goesL_ (some 17) rfl rfl Try.func58 (by kernel_rfl) rfl #[.slice A453_0 (rd_L2 l0 x5_1).length c453_0, .int .i64 x1_1] rfl (by (try simp only [List.map_toArray, List.map_cons, List.map_nil]); first | done | rfl | (simp only [List.length_drop, List.length_take]; rfl)) ?_; (with_reducible refine (laws_heldIntS.calls k1 _ _ (rd_L2 l0 x5_1) x1_1 t454 _ ?side1 ?side2 A5.out).mono ?_); (case side1 => repeat (first | exact HR453_0.out | (with_reducible refine Kd.C_alloc ?_ _) | (with_reducible refine Kd.C_drewN ?_ _) | (with_reducible refine Kd.C_drew ?_))); (case side2 => exact HC453_0.out); rintro e w' ⟨rfl, ⟨nd, rfl⟩⟩; refine ⟨_, rfl, ?_⟩))
            go_roundg k1
            case measure => have := HK1.out; omega
            case rel => exact ⟨(t454), (wrap64 (x5_1 + 1)), (by first | rfl | (simp; done) | (simp [*]; done)), (by first | rfl | (simp; done) | (simp [*]; done)), H', ⟨by have := HK1.out; omega⟩, by repeat (first | exact Drawn0.refl _ | apply Drawn0.step)⟩
        · rw [if_neg c4] at H
          exact absurd H (by simp)
      · rw [if_neg c3] at H
        have c3b0 : decide (x5_1 < (l0.length : Int)) = false := decide_eq_false c3
        clear c3
        obtain rfl := Option.some.inj H
        go_wp2
        go_ret
        exact ⟨by first | rfl | (simp; done) | (simp [*]; done), by repeat (first | exact Drawn0.refl _ | apply Drawn0.step)⟩
def laws_szIntS.f (l0 : List Int) (a1 : Int) : Option (Int) := if (wrap64 (a1 - (l0.length : Int))) < 0 then (some (-1)) else (some (wrap64 (a1 - (l0.length : Int))))
set_option maxHeartbeats 8000000 in
set_option maxRecDepth 100000 in
theorem laws_szIntS.calls (A0 : Option Addr) (c0 : Nat) (l0 : List Int) (a1 : Int) (r : Int) (w : World) (hr0 : Kd.C (Kd.int .i64) w A0 l0.length l0) (hc0 : l0.length ≤ c0) (h : laws_szIntS.f l0 a1 = some r) :
    Calls Try.prog 65 #[.slice A0 l0.length c0, .int .i64 a1] w fun e w' => e = .returned (.int .i64 r) ∧ Drawn0 w w' := by
  have HR0 := Aside0.mk hr0
  have HC0 := Aside0.mk hc0
  clear hr0 hc0
  have H : (if (wrap64 (a1 - (l0.length : Int))) < 0 then (some (-1)) else (some (wrap64 (a1 - (l0.length : Int))))) = some r := h
  clear h
  by_cases c3 : (wrap64 (a1 - (l0.length : Int))) < 0
  · rw [if_pos c3] at H
    have c3b0 : decide ((wrap64 (a1 - (l0.length : Int))) < 0) = true := decide_eq_true c3
    clear c3
    obtain rfl := Option.some.inj H
    go_enter Try.func65, Try.ntmps65
    go_wp2
    go_ret
    exact ⟨by first | rfl | (simp; done) | (simp [*]; done), by repeat (first | exact Drawn0.refl _ | apply Drawn0.step)⟩
  · rw [if_neg c3] at H
    have c3b0 : decide ((wrap64 (a1 - (l0.length : Int))) < 0) = false := decide_eq_false c3
    clear c3
    obtain rfl := Option.some.inj H
    go_enter Try.func65, Try.ntmps65
    go_wp2
    go_ret
    exact ⟨by first | rfl | (simp; done) | (simp [*]; done), by repeat (first | exact Drawn0.refl _ | apply Drawn0.step)⟩
def laws_szIntSS.l0 : Nat → List (List Int) → Int → Int → Option (Int)
  | 0, _, _, _ => none
  | k + 1, x0, x1, x5 => if x5 < (x0.length : Int) then (if 0 ≤ x5 then ((laws_szIntS.f (rd_L2 x0 x5) x1).bind fun t549 => (if t549 < 0 then (some (-1)) else (laws_szIntSS.l0 k x0 t549 (wrap64 (x5 + 1))))) else (none)) else (some x1)
def laws_szIntSS.f (k : Nat) (l0 : List (List Int)) (a1 : Int) : Option (Int) := if (wrap64 (a1 - (l0.length : Int))) < 0 then (some (-1)) else (laws_szIntSS.l0 k l0 (wrap64 (a1 - (l0.length : Int))) 0)
set_option maxHeartbeats 8000000 in
set_option maxRecDepth 100000 in
theorem laws_szIntSS.calls (k : Nat) (A0 : Option Addr) (c0 : Nat) (l0 : List (List Int)) (a1 : Int) (r : Int) (w : World) (hr0 : Kd.C (Kd.slice 3 (Kd.int .i64)) w A0 l0.length l0) (hc0 : l0.length ≤ c0) (h : laws_szIntSS.f k l0 a1 = some r) :
    Calls Try.prog 64 #[.slice A0 l0.length c0, .int .i64 a1] w fun e w' => e = .returned (.int .i64 r) ∧ Drawn0 w w' := by
  have HR0 := Aside0.mk hr0
  have HC0 := Aside0.mk hc0
  clear hr0 hc0
  have H : (if (wrap64 (a1 - (l0.length : Int))) < 0 then (some (-1)) else (laws_szIntSS.l0 k l0 (wrap64 (a1 - (l0.length : Int))) 0)) = some r := h
  clear h
  by_cases c3 : (wrap64 (a1 - (l0.length : Int))) < 0
  · rw [if_pos c3] at H
    have c3b0 : decide ((wrap64 (a1 - (l0.length : Int))) < 0) = true := decide_eq_true c3
    clear c3
    obtain rfl := Option.some.inj H
    go_enter Try.func64, Try.ntmps64
    go_wp2
    go_ret
    exact ⟨by first | rfl | (simp; done) | (simp [*]; done), by repeat (first | exact Drawn0.refl _ | apply Drawn0.step)⟩
  · rw [if_neg c3] at H
    have c3b0 : decide ((wrap64 (a1 - (l0.length : Int))) < 0) = false := decide_eq_false c3
    clear c3
    have H' := Aside0.mk H
    clear H
    go_enter Try.func64, Try.ntmps64
    go_wp2
    go_loopg [1, 5] k (fun kq v1 v5 w' => ∃ (x1_1 : Int) (x5_1 : Int), v1 = .int .i64 x1_1 ∧ v5 = .int .i64 x5_1 ∧ Aside0 (laws_szIntSS.l0 kq l0 x1_1 x5_1 = some r) ∧ Aside0 (kq ≤ k) ∧ Drawn0 w w')
    case atStart => exact ⟨(wrap64 (a1 - (l0.length : Int))), (0), (by first | rfl | (simp; done) | (simp [*]; done)), (by first | rfl | (simp; done) | (simp [*]; done)), H', ⟨Nat.le_refl _⟩, by repeat (first | exact Drawn0.refl _ | apply Drawn0.step)⟩
    case round =>
      clear H'
      try clear p2
      try clear c3
      try clear c3b0
      obtain ⟨x1_1, x5_1, rfl, rfl, HA, HK1, ⟨m1, rfl⟩⟩ := hrel
      cases gk with
      | zero => exact absurd HA.out (by simp [laws_szIntSS.l0])
      | succ k1 =>
        have H := HA.out
        clear HA
        simp only [laws_szIntSS.l0] at H
        by_cases c4 : x5_1 < (l0.length : Int)
        · rw [if_pos c4] at H
          have c4b0 : decide (x5_1 < (l0.length : Int)) = true := decide_eq_true c4
          clear c4
          by_cases c5 : 0 ≤ x5_1
          · rw [if_pos c5] at H
            have c5b0 : decide (0 ≤ x5_1) = true := decide_eq_true c5
            clear c5
            replace H := Option.bind_eq_some_iff.mp H
            obtain ⟨t549, A60, H⟩ := H
            replace H : (if t549 < 0 then (some (-1)) else (laws_szIntSS.l0 k1 l0 t549 (wrap64 (x5_1 + 1)))) = some r := H
            have A6 := Aside0.mk A60
            clear A60
            by_cases c7 : t549 < 0
            · rw [if_pos c7] at H
              have c7b0 : decide (t549 < 0) = true := decide_eq_true c7
              clear c7
              obtain rfl := Option.some.inj H
              have p548 : 0 ≤ (x5_1 : Int) := of_decide_eq_true (by first | (with_reducible assumption) | assumption)
              have q548 : x5_1 < (l0.length : Int) := of_decide_eq_true (by first | (with_reducible assumption) | assumption)
              obtain ⟨ad548, A548_0, c548_0, e548, hx548_0, hl548_0, hi548_0⟩ := at_L2 HR0.out x5_1 p548 q548
              cases e548
              have HR548_0 := Aside0.mk hi548_0
              have HC548_0 := Aside0.mk hl548_0
              clear hi548_0 hl548_0
              replace p548 := eq_true p548
              replace q548 := eq_true q548
              go_wp2_with (first | ((with_reducible refine gate_callee (f := 65) rfl ?_); refine goesL_ (some 23) rfl rfl Try.func65 (by kernel_rfl) rfl #[.slice A548_0 (rd_L2 l0 x5_1).length c548_0, .int .i64 x1_1] rfl (by (try simp only [List.map_toArray, List.map_cons, List.map_nil]); first | done | rfl | (simp only [List.length_drop, List.length_take]; rfl)) ?_; (with_reducible refine (laws_szIntS.calls _ _ (rd_L2 l0 x5_1) x1_1 t549 _ ?side1 ?side2 A6.out).mono ?_); (case side1 => repeat (first | exact HR548_0.out | (with_reducible refine Kd.C_alloc ?_ _) | (with_reducible refine Kd.C_drewN ?_ _) | (with_reducible refine Kd.C_drew ?_))); (case side2 => exact HC548_0.out); rintro e w' ⟨rfl, ⟨nd, rfl⟩⟩; refine ⟨_, rfl, ?_⟩))
              go_ret
              exact ⟨by first | rfl | (simp; done) | (simp [*]; done), by repeat (first | exact Drawn0.refl _ | apply Drawn0.step)⟩
            · rw [if_neg c7] at H
              have c7b0 : decide (t549 < 0) = false := decide_eq_false c7
              clear c7
              have H' := Aside0.mk H
              clear H
              have p548 : 0 ≤ (x5_1 : Int) := of_decide_eq_true (by first | (with_reducible assumption) | assumption)
              have q548 : x5_1 < (l0.length : Int) := of_decide_eq_true (by first | (with_reducible assumption) | assumption)
              obtain ⟨ad548, A548_0, c548_0, e548, hx548_0, hl548_0, hi548_0⟩ := at_L2 HR0.out x5_1 p548 q548
              cases e548
              have HR548_0 := Aside0.mk hi548_0
              have HC548_0 := Aside0.mk hl548_0
              clear hi548_0 hl548_0
              replace p548 := eq_true p548
              replace q548 := eq_true q548
              go_wp2_with (first | ((with_reducible refine gate_callee (f := 65) rfl ?_); refine goesL_ (some 23) rfl rfl Try.func65 (by kernel_rfl) rfl #[.slice A548_0 (rd_L2 l0 x5_1).length c548_0, .int .i64 x1_1] rfl (by (try simp only [List.map_toArray, List.map_cons, List.map_nil]); first | done | rfl | (simp only [List.length_drop, List.length_take]; rfl)) ?_; (with_reducible refine (laws_szIntS.calls _ _ (rd_L2 l0 x5_1) x1_1 t549 _ ?side1 ?side2 A6.out).mono ?_); (case side1 => repeat (first | exact HR548_0.out | (with_reducible refine Kd.C_alloc ?_ _) | (with_reducible refine Kd.C_drewN ?_ _) | (with_reducible refine Kd.C_drew ?_))); (case side2 => exact HC548_0.out); rintro e w' ⟨rfl, ⟨nd, rfl⟩⟩; refine ⟨_, rfl, ?_⟩))
              go_roundg k1
              case measure => have := HK1.out; omega
              case rel => exact ⟨(t549), (wrap64 (x5_1 + 1)), (by first | rfl | (simp; done) | (simp [*]; done)), (by first | rfl | (simp; done) | (simp [*]; done)), H', ⟨by have := HK1.out; omega⟩, by repeat (first | exact Drawn0.refl _ | apply Drawn0.step)⟩
          · rw [if_neg c5] at H
            exact absurd H (by simp)
        · rw [if_neg c4] at H
          have c4b0 : decide (x5_1 < (l0.length : Int)) = false := decide_eq_false c4
          clear c4
          obtain rfl := Option.some.inj H
          go_wp2
          go_ret
          exact ⟨by first | rfl | (simp; done) | (simp [*]; done), by repeat (first | exact Drawn0.refl _ | apply Drawn0.step)⟩
def laws_toIntS.l0 : Nat → List Int → List Int → Int → Option (List Int)
  | 0, _, _, _ => none
  | k + 1, x0, x3, x4 => if x4 < (x0.length : Int) then (if 0 ≤ x4 then (if x4 < (x3.length : Int) then (laws_toIntS.l0 k x0 (x3.set (x4 : Int).toNat (rd x0 x4)) (wrap64 (x4 + 1))) else (none)) else (none)) else (some x3)
def laws_toIntS.f (k : Nat) (l0 : List Int) : Option (List Int) := if 0 ≤ (l0.length : Int) then (if ((l0.length : Int) : Int).toNat ≤ 35184372088832 then (laws_toIntS.l0 k l0 (List.replicate ((l0.length : Int) : Int).toNat 0) 0) else (none)) else (none)
set_option maxHeartbeats 8000000 in
set_option maxRecDepth 100000 in
theorem laws_toIntS.calls (k : Nat) (A0 : Option Addr) (c0 : Nat) (l0 : List Int) (r : List Int) (w : World) (hr0 : Kd.C (Kd.int .i64) w A0 l0.length l0) (hc0 : l0.length ≤ c0) (h : laws_toIntS.f k l0 = some r) :
    Calls Try.prog 77 #[.slice A0 l0.length c0] w fun e w' => ∃ v0_ : Value, e = .returned (v0_) ∧ Kd.R (Kd.int .i64) 3 w' w.heap.size (fun _ => True) v0_ r ∧ Below w.heap.size w w' := by
  have HR0 := Aside0.mk hr0
  have HC0 := Aside0.mk hc0
  clear hr0 hc0
  have HB := Aside0.mk (Below.refl w.heap.size w)
  have H : (if 0 ≤ (l0.length : Int) then (if ((l0.length : Int) : Int).toNat ≤ 35184372088832 then (laws_toIntS.l0 k l0 (List.replicate ((l0.length : Int) : Int).toNat 0) 0) else (none)) else (none)) = some r := h
  clear h
  by_cases c2 : 0 ≤ (l0.length : Int)
  · rw [if_pos c2] at H
    have c2b0 := eq_true c2
    have c2b1 : decide (0 ≤ (l0.length : Int)) = true := decide_eq_true c2
    clear c2
    by_cases c3 : ((l0.length : Int) : Int).toNat ≤ 35184372088832
    · rw [if_pos c3] at H
      have c3b0 := eq_true c3
      have c3b1 : decide (((l0.length : Int) : Int).toNat ≤ 35184372088832) = true := decide_eq_true c3
      clear c3
      obtain ⟨y645, hy645⟩ : ∃ y_ : List Int, y_ = (List.replicate ((l0.length : Int) : Int).toNat 0) := ⟨_, rfl⟩
      replace H : (laws_toIntS.l0 k l0 y645 0) = some r := by first | (rw [hy645]; with_reducible exact H) | (have H2_ := (Option.bind_some _ _).symm.trans H; rw [hy645]; with_reducible exact H2_) | (have H2_ := (Option.bind_some _ _).symm.trans H; with_reducible exact H2_) | with_reducible exact H | (rw [hy645]; exact H) | exact H
      have Ny645 := Aside0.mk hy645
      clear hy645
      have H' := Aside0.mk H
      clear H
      go_enter Try.func77, Try.ntmps77
      go_wp2_with (first | ((with_reducible refine gate_dst (N := 7) rfl ?_); refine Kd.R_make (Kd.int .i64) _ 3 rfl (N := 7) rfl 26 _ _ rfl (l0.length : Int) rfl rfl Try.underlying26 (.int .i64 0) 8 info3 rfl (by decide) (by omega) 0 (ok := fun _ => True) (okp := fun _ => True) rfl (fun _ hk => hk) trivial (of_decide_eq_true (by first | (with_reducible assumption) | assumption)) (Nat.le_trans (Nat.mul_le_mul_right _ (of_decide_eq_true (by first | (with_reducible assumption) | assumption) : (l0.length : Int).toNat ≤ 35184372088832)) (by omega)) (Below.refl _ _) (Nat.le_refl _) ?_; intro v646 w4 ho5 hb hg_ hnew_; clear hg_ hnew_; (first | rw [← Ny645.out] at ho5 | (simp only [Int.reduceToNat] at ho5; rw [← Ny645.out] at ho5)); have n0_ := Aside0.mk (Kd.R_lower ho5 (below_size (by repeat (first | (with_reducible first | exact HB.out | apply below_alloc | apply pw_below_drewN | apply below_drew1) | exact HB.out)))); have n1_ := Aside0.mk (below_step (by repeat (first | (with_reducible first | exact HB.out | apply below_alloc | apply pw_below_drewN | apply below_drew1) | exact HB.out)) hb); clear HB; have HO647 := n0_; have HB := n1_; clear n0_ n1_; clear hb ho5))
      go_loopg [4] k (fun kq v4 w' => ∃ (x3_1 : List Int) (x4_1 : Int), v4 = .int .i64 x4_1 ∧ Aside0 (laws_toIntS.l0 kq l0 x3_1 x4_1 = some r) ∧ Aside0 (kq ≤ k) ∧ Aside0 (Kd.R (Kd.int .i64) 3 w' w.heap.size (fun _ => True) v646 x3_1) ∧ Aside0 (Below w.heap.size w w'))
      case atStart => exact ⟨(y645), (0), (by first | rfl | (simp; done) | (simp [*]; done)), H', ⟨Nat.le_refl _⟩, ⟨by (with_reducible repeat (first | apply Kd.R_alloc | apply Kd.R_drewN | apply Kd.R_drew)); exact HO647.out⟩, ⟨by repeat (first | (with_reducible first | exact HB.out | apply below_alloc | apply pw_below_drewN | apply below_drew1) | exact HB.out)⟩⟩
      case round =>
        clear H'
        try clear c2
        try clear c2b0
        try clear c2b1
        try clear p2
        try clear c3
        try clear c3b0
        try clear c3b1
        obtain ⟨x3_1, x4_1, rfl, HA, HK1, HO_3, HB⟩ := hrel
        cases gk with
        | zero => exact absurd HA.out (by simp [laws_toIntS.l0])
        | succ k1 =>
          have H := HA.out
          clear HA
          simp only [laws_toIntS.l0] at H
          by_cases c6 : x4_1 < (l0.length : Int)
          · rw [if_pos c6] at H
            have c6b0 : decide (x4_1 < (l0.length : Int)) = true := decide_eq_true c6
            clear c6
            by_cases c7 : 0 ≤ x4_1
            · rw [if_pos c7] at H
              have c7b0 : decide (0 ≤ x4_1) = true := decide_eq_true c7
              clear c7
              by_cases c8 : x4_1 < (x3_1.length : Int)
              · rw [if_pos c8] at H
                have c8b0 : decide (x4_1 < (x3_1.length : Int)) = true := decide_eq_true c8
                clear c8
                obtain ⟨y649, hy649⟩ : ∃ y_ : List Int, y_ = (x3_1.set (x4_1 : Int).toNat (rd l0 x4_1)) := ⟨_, rfl⟩
                replace H : (laws_toIntS.l0 k1 l0 y649 (wrap64 (x4_1 + 1))) = some r := by first | (rw [hy649]; with_reducible exact H) | (have H2_ := (Option.bind_some _ _).symm.trans H; rw [hy649]; with_reducible exact H2_) | (have H2_ := (Option.bind_some _ _).symm.trans H; with_reducible exact H2_) | with_reducible exact H | (rw [hy649]; exact H) | exact H
                have Ny649 := Aside0.mk hy649
                clear hy649
                have H' := Aside0.mk H
                clear H
                have p648 : 0 ≤ (x4_1 : Int) := of_decide_eq_true (by first | (with_reducible assumption) | assumption)
                have q648 : x4_1 < (l0.length : Int) := of_decide_eq_true (by first | (with_reducible assumption) | assumption)
                obtain ⟨ad648, e648, hx648_0⟩ := Kd.at_int HR0.out x4_1 p648 q648
                cases e648
                replace hx648_0 := (HB.out.cell (World.block_lt_of_cell? w _ hx648_0)).trans hx648_0
                replace p648 := eq_true p648
                replace q648 := eq_true q648
                have p9 : 0 ≤ (x4_1 : Int) := of_decide_eq_true (by first | (with_reducible assumption) | assumption)
                have q9 : (x4_1 : Int) < ((x3_1.length : Int) : Int) := of_decide_eq_true (by first | (with_reducible assumption) | assumption)
                obtain ⟨go9, co9, eo9, gb9, gl9, cl9, HG9⟩ := Kd.R_form HO_3.out (by omega)
                (first | cases eo9 | (injection eo9 with ea_ en_ ec_; (first | subst ea_ | (injection ea_ with ea_; subst ea_)); subst ec_; clear en_))
                have GB9 := Aside0.mk gb9
                have GG9 := Aside0.mk HG9
                clear gb9 gl9 HG9
                obtain ⟨hx9_0, hf9_0⟩ := Kd.R_celln 0 HO_3.out (x4_1 : Int) p9 q9
                replace p9 := eq_true p9
                replace q9 := eq_true q9
                have HP10 := Kd.R_putg HO_3.out (x4_1 : Int) (rd l0 x4_1)
                go_wp2_with (first | ((with_reducible refine gate_store (t := 3) (p := 20) rfl ?_); refine store_event (t := 3) (p := 20) (v := ?vo_w11) (w1 := (wr.setCell ⟨go9, (x4_1 : Int).toNat, none⟩ (.int .i64 (rd l0 x4_1)))) ?hg ?ho ?hn ?hr ?_; (case ho => rfl); (case hg => rfl); (case hn => rfl); (case hr => first | (go_simp; done) | (go_simp; rfl)); intro w11 hw; have hg : wr.grownBy w11 (some go9) := (by rw [hw]; exact HP10.2); have hp_ : Kd.R (Kd.int .i64) 3 w11 w.heap.size (fun _ => True) (.slice (some ⟨go9, 0, none⟩) x3_1.length co9) y649 := (by rw [hw, Ny649.out]; exact HP10.1); clear HP10; have n0_ := Aside0.mk (hp_); have n1_ := Aside0.mk ((by rw [hw]; exact below_set (HB.out) GB9.out : Below w.heap.size w w11)); clear HO_3; clear HB; have HO_3 := n0_; have HB := n1_; clear n0_ n1_; clear hg hw hp_))
                go_roundg k1
                case measure => have := HK1.out; omega
                case rel => exact ⟨(y649), (wrap64 (x4_1 + 1)), (by first | rfl | (simp; done) | (simp [*]; done)), H', ⟨by have := HK1.out; omega⟩, ⟨by (with_reducible repeat (first | apply Kd.R_alloc | apply Kd.R_drewN | apply Kd.R_drew)); exact HO_3.out⟩, ⟨by repeat (first | (with_reducible first | exact HB.out | apply below_alloc | apply pw_below_drewN | apply below_drew1) | exact HB.out)⟩⟩
              · rw [if_neg c8] at H
                exact absurd H (by simp)
            · rw [if_neg c7] at H
              exact absurd H (by simp)
          · rw [if_neg c6] at H
            have c6b0 : decide (x4_1 < (l0.length : Int)) = false := decide_eq_false c6
            clear c6
            obtain rfl := Option.some.inj H
            go_wp2
            go_ret
            exact ⟨_, by first | rfl | (simp [errW_none, errW_some] <;> rfl) | (simp [*, errW_none, errW_some] <;> rfl), by (with_reducible repeat (first | apply Kd.R_alloc | apply Kd.R_drewN | apply Kd.R_drew)); exact HO_3.out, by repeat (first | (with_reducible first | exact HB.out | apply below_alloc | apply pw_below_drewN | apply below_drew1) | exact HB.out)⟩
    · rw [if_neg c3] at H
      exact absurd H (by simp)
  · rw [if_neg c2] at H
    exact absurd H (by simp)
def laws_toIntSS.l0 : Nat → List (List Int) → List (List Int) → Int → Option ((List (List Int)))
  | 0, _, _, _ => none
  | k + 1, x0, x3, x4 => if x4 < (x0.length : Int) then (if 0 ≤ x4 then ((laws_toIntS.f k (rd_L2 x0 x4)).bind fun t654 => (if x4 < (x3.length : Int) then (laws_toIntSS.l0 k x0 (x3.set (x4 : Int).toNat t654) (wrap64 (x4 + 1))) else (none))) else (none)) else (some x3)
def laws_toIntSS.f (k : Nat) (l0 : List (List Int)) : Option ((List (List Int))) := if 0 ≤ (l0.length : Int) then (if ((l0.length : Int) : Int).toNat ≤ 11728124029610 then (laws_toIntSS.l0 k l0 (List.replicate ((l0.length : Int) : Int).toNat []) 0) else (none)) else (none)
set_option maxHeartbeats 8000000 in
set_option maxRecDepth 100000 in
theorem laws_toIntSS.calls (k : Nat) (A0 : Option Addr) (c0 : Nat) (l0 : List (List Int)) (r : List (List Int)) (w : World) (hr0 : Kd.C (Kd.slice 3 (Kd.int .i64)) w A0 l0.length l0) (hc0 : l0.length ≤ c0) (h : laws_toIntSS.f k l0 = some r) :
    Calls Try.prog 76 #[.slice A0 l0.length c0] w fun e w' => ∃ v0_ : Value, e = .returned (v0_) ∧ Kd.S (Kd.slice 3 (Kd.int .i64)) 26 w' w.heap.size (fun _ => True) v0_ r ∧ Below w.heap.size w w' := by
  have HR0 := Aside0.mk hr0
  have HC0 := Aside0.mk hc0
  clear hr0 hc0
  have HB := Aside0.mk (Below.refl w.heap.size w)
  have H : (if 0 ≤ (l0.length : Int) then (if ((l0.length : Int) : Int).toNat ≤ 11728124029610 then (laws_toIntSS.l0 k l0 (List.replicate ((l0.length : Int) : Int).toNat []) 0) else (none)) else (none)) = some r := h
  clear h
  by_cases c2 : 0 ≤ (l0.length : Int)
  · rw [if_pos c2] at H
    have c2b0 := eq_true c2
    have c2b1 : decide (0 ≤ (l0.length : Int)) = true := decide_eq_true c2
    clear c2
    by_cases c3 : ((l0.length : Int) : Int).toNat ≤ 11728124029610
    · rw [if_pos c3] at H
      have c3b0 := eq_true c3
      have c3b1 : decide (((l0.length : Int) : Int).toNat ≤ 11728124029610) = true := decide_eq_true c3
      clear c3
      obtain ⟨y650, hy650⟩ : ∃ y_ : List (List Int), y_ = (List.replicate ((l0.length : Int) : Int).toNat []) := ⟨_, rfl⟩
      replace H : (laws_toIntSS.l0 k l0 y650 0) = some r := by first | (rw [hy650]; with_reducible exact H) | (have H2_ := (Option.bind_some _ _).symm.trans H; rw [hy650]; with_reducible exact H2_) | (have H2_ := (Option.bind_some _ _).symm.trans H; with_reducible exact H2_) | with_reducible exact H | (rw [hy650]; exact H) | exact H
      have Ny650 := Aside0.mk hy650
      clear hy650
      have H' := Aside0.mk H
      clear H
      go_enter Try.func76, Try.ntmps76
      go_wp2_with (first | ((with_reducible refine gate_dst (N := 7) rfl ?_); refine Kd.S_make (Kd.slice 3 (Kd.int .i64)) _ 26 rfl (N := 7) rfl 24 _ _ rfl (l0.length : Int) rfl rfl Try.underlying24 (.slice none 0 0) 24 info26 rfl (by decide) (by omega) [] (ok := fun _ => True) (okp := fun _ => True) ⟨_, rfl, Kd.R_nil _ _ _ _ _⟩ (fun _ hk => hk) trivial (of_decide_eq_true (by first | (with_reducible assumption) | assumption)) (Nat.le_trans (Nat.mul_le_mul_right _ (of_decide_eq_true (by first | (with_reducible assumption) | assumption) : (l0.length : Int).toNat ≤ 11728124029610)) (by omega)) (Below.refl _ _) (Nat.le_refl _) ?_; intro v651 w4 ho5 hb hg_ hnew_; clear hg_ hnew_; (first | rw [← Ny650.out] at ho5 | (simp only [Int.reduceToNat] at ho5; rw [← Ny650.out] at ho5)); have n0_ := Aside0.mk (Kd.S_lower ho5 (below_size (by repeat (first | (with_reducible first | exact HB.out | apply below_alloc | apply pw_below_drewN | apply below_drew1) | exact HB.out)))); have n1_ := Aside0.mk (below_step (by repeat (first | (with_reducible first | exact HB.out | apply below_alloc | apply pw_below_drewN | apply below_drew1) | exact HB.out)) hb); clear HB; have HO652 := n0_; have HB := n1_; clear n0_ n1_; clear hb ho5))
      go_loopg [4] k (fun kq v4 w' => ∃ (x3_1 : List (List Int)) (x4_1 : Int), v4 = .int .i64 x4_1 ∧ Aside0 (laws_toIntSS.l0 kq l0 x3_1 x4_1 = some r) ∧ Aside0 (kq ≤ k) ∧ Aside0 (Kd.S (Kd.slice 3 (Kd.int .i64)) 26 w' w.heap.size (fun _ => True) v651 x3_1) ∧ Aside0 (Below w.heap.size w w'))
      case atStart => exact ⟨(y650), (0), (by first | rfl | (simp; done) | (simp [*]; done)), H', ⟨Nat.le_refl _⟩, ⟨by (with_reducible repeat (first | apply Kd.S_alloc | apply Kd.S_drewN | apply Kd.S_drew)); exact HO652.out⟩, ⟨by repeat (first | (with_reducible first | exact HB.out | apply below_alloc | apply pw_below_drewN | apply below_drew1) | exact HB.out)⟩⟩
      case round =>
        clear H'
        try clear c2
        try clear c2b0
        try clear c2b1
        try clear p2
        try clear c3
        try clear c3b0
        try clear c3b1
        obtain ⟨x3_1, x4_1, rfl, HA, HK1, HO_3, HB⟩ := hrel
        cases gk with
        | zero => exact absurd HA.out (by simp [laws_toIntSS.l0])
        | succ k1 =>
          have H := HA.out
          clear HA
          simp only [laws_toIntSS.l0] at H
          by_cases c6 : x4_1 < (l0.length : Int)
          · rw [if_pos c6] at H
            have c6b0 : decide (x4_1 < (l0.length : Int)) = true := decide_eq_true c6
            clear c6
            by_cases c7 : 0 ≤ x4_1
            · rw [if_pos c7] at H
              have c7b0 : decide (0 ≤ x4_1) = true := decide_eq_true c7
              clear c7
              replace H := Option.bind_eq_some_iff.mp H
              obtain ⟨t654, A80, H⟩ := H
              replace H : (if x4_1 < (x3_1.length : Int) then (laws_toIntSS.l0 k1 l0 (x3_1.set (x4_1 : Int).toNat t654) (wrap64 (x4_1 + 1))) else (none)) = some r := H
              have A8 := Aside0.mk A80
              clear A80
              by_cases c9 : x4_1 < (x3_1.length : Int)
              · rw [if_pos c9] at H
                have c9b0 : decide (x4_1 < (x3_1.length : Int)) = true := decide_eq_true c9
                clear c9
                obtain ⟨y657, hy657⟩ : ∃ y_ : List (List Int), y_ = (x3_1.set (x4_1 : Int).toNat t654) := ⟨_, rfl⟩
                replace H : (laws_toIntSS.l0 k1 l0 y657 (wrap64 (x4_1 + 1))) = some r := by first | (rw [hy657]; with_reducible exact H) | (have H2_ := (Option.bind_some _ _).symm.trans H; rw [hy657]; with_reducible exact H2_) | (have H2_ := (Option.bind_some _ _).symm.trans H; with_reducible exact H2_) | with_reducible exact H | (rw [hy657]; exact H) | exact H
                have Ny657 := Aside0.mk hy657
                clear hy657
                have H' := Aside0.mk H
                clear H
                have p653 : 0 ≤ (x4_1 : Int) := of_decide_eq_true (by first | (with_reducible assumption) | assumption)
                have q653 : x4_1 < (l0.length : Int) := of_decide_eq_true (by first | (with_reducible assumption) | assumption)
                obtain ⟨ad653, A653_0, c653_0, e653, hx653_0, hl653_0, hi653_0⟩ := at_L2 HR0.out x4_1 p653 q653
                cases e653
                replace hx653_0 := (HB.out.cell (World.block_lt_of_cell? w _ hx653_0)).trans hx653_0
                have HR653_0 := Aside0.mk hi653_0
                have HC653_0 := Aside0.mk hl653_0
                clear hi653_0 hl653_0
                replace p653 := eq_true p653
                replace q653 := eq_true q653
                go_wp2_with (first | ((with_reducible refine gate_callee (f := 77) rfl ?_); refine goesL_ (some 20) rfl rfl Try.func77 (by kernel_rfl) rfl #[.slice A653_0 (rd_L2 l0 x4_1).length c653_0] rfl (by (try simp only [List.map_toArray, List.map_cons, List.map_nil]); first | done | rfl | (simp only [List.length_drop, List.length_take]; rfl)) ?_; (with_reducible refine (laws_toIntS.calls k1 _ _ (rd_L2 l0 x4_1) t654 _ ?side1 ?side2 A8.out).mono ?_); (case side1 => repeat (first | exact (Kd.C_below HR653_0.out HB.out) | (with_reducible refine Kd.C_alloc ?_ _) | (with_reducible refine Kd.C_drewN ?_ _) | (with_reducible refine Kd.C_drew ?_))); (case side2 => exact HC653_0.out); rintro e w11 ⟨v655, rfl, ho0, hb⟩; refine ⟨_, rfl, ?_⟩; have n0_ := Aside0.mk (Kd.S_elder' (by (with_reducible repeat (first | apply Kd.S_alloc | apply Kd.S_drewN | apply Kd.S_drew)); exact HO_3.out) (Kd.R_base ho0) hb); have n1_ := Aside0.mk (Kd.R_lower ho0 (below_size (by repeat (first | (with_reducible first | exact HB.out | apply below_alloc | apply pw_below_drewN | apply below_drew1) | exact HB.out)))); have n2_ := Aside0.mk (below_step (by repeat (first | (with_reducible first | exact HB.out | apply below_alloc | apply pw_below_drewN | apply below_drew1) | exact HB.out)) hb); clear HO_3; clear HB; have HO_3 := n0_; have HO656 := n1_; have HB := n2_; clear n0_ n1_ n2_; (try clear hb); (try clear hb2); (try clear hk); (try clear hi); (try clear ho0); have p10 : 0 ≤ (x4_1 : Int) := of_decide_eq_true (by first | (with_reducible assumption) | assumption); have q10 : (x4_1 : Int) < ((x3_1.length : Int) : Int) := of_decide_eq_true (by first | (with_reducible assumption) | assumption); obtain ⟨go10, co10, eo10, gb10, gl10, cl10, HG10⟩ := Kd.S_form HO_3.out (by omega); (first | cases eo10 | (injection eo10 with ea_ en_ ec_; (first | subst ea_ | (injection ea_ with ea_; subst ea_)); subst ec_; clear en_)); have GB10 := Aside0.mk gb10; have GG10 := Aside0.mk HG10; clear gb10 gl10 HG10; obtain ⟨_, ce10, hcl10, hM10, hcc10, hfr10, _, _⟩ := Kd.S_elem HO_3.out [] (x4_1 : Int) p10 q10; obtain ⟨ve10_0, rfl, ge10_0⟩ := hM10; have hx10_0 := hcc10 0 _ rfl; have hf10_0 := hfr10 0; (try simp only [show ((Kd.slice 3 (Kd.int .i64))).sz = 1 from rfl, Nat.mul_one, Nat.add_zero] at hx10_0); (try simp only [show ((Kd.slice 3 (Kd.int .i64))).sz = 1 from rfl, Nat.mul_one, Nat.add_zero] at hf10_0); (try clear hcl10); (try clear hcc10); (try clear hfr10); (try clear hM10); replace p10 := eq_true p10; replace q10 := eq_true q10; have n_ := Aside0.mk (Kd.S_mono (ok' := (fun k_ => some k_ ≠ (v655 : Value).ownBlock)) HO_3.out (fun k_ hk => hk.2)); clear HO_3; have HO_3 := n_; clear n_; have HX12 := Aside0.mk (show Kd.S (Kd.slice 3 (Kd.int .i64)) 26 w11 w.heap.size (fun k_ => ((fun _ => True)) k_ ∧ ¬ ((fun k_ => some k_ = (v655 : Value).ownBlock)) k_) (.slice (some ⟨go10, 0, none⟩) x3_1.length co10) x3_1 from (by (with_reducible repeat (first | apply Kd.S_alloc | apply Kd.S_drewN | apply Kd.S_drew)); exact Kd.S_mono HO_3.out (fun k_ hk => ⟨trivial, fun e_ => hk e_⟩))); obtain ⟨oki12, ce12, hcl12, hM12, hcc12, hfr12, hoki12, hH12⟩ := Kd.S_elem HX12.out [] (x4_1 : Int) (of_decide_eq_true (by first | (with_reducible assumption) | assumption)) (by have h_ : (x4_1 : Int) < ((x3_1.length : Int) : Int) := of_decide_eq_true (by first | (with_reducible assumption) | assumption); first | exact h_ | (have e_ := (Kd.S_reads' HO_3.out).1; omega) | simpa using h_); obtain ⟨ve12_0, rfl, ge12_0⟩ := hM12; have HP12 := Kd.S_seg hH12 (of_decide_eq_true (by first | (with_reducible assumption) | assumption)) (by have h_ : (x4_1 : Int) < ((x3_1.length : Int) : Int) := of_decide_eq_true (by first | (with_reducible assumption) | assumption); first | exact h_ | (have e_ := (Kd.S_reads' HO_3.out).1; omega) | simpa using h_) (seg := [v655]) (j := 0) (show 1 ≤ 1 from by decide) (x' := t654) (Kd.M_row (Kd.R_mono (Kd.R_tight rfl (Kd.R_mono (ok' := fun k_ => ((fun _ => True)) k_ ∧ k_ ≠ go10) (Kd.R_apart' (HO656.out) (Kd.S_typed HO_3.out) (by decide)) (fun k_ hk => ⟨trivial, fun e_ => (hk.2) (by rw [e_]; rfl)⟩))) (fun _ h_ => Or.inr (h_)))) (fun _ hk => hk) (fun k_ hk_ => ((Kd.R_mono (ok' := fun k_ => ((fun _ => True)) k_ ∧ k_ ≠ go10) (Kd.R_apart' (HO656.out) (Kd.S_typed HO_3.out) (by decide)) (fun k_ hk => ⟨trivial, fun e_ => (hk.2) (by rw [e_]; rfl)⟩))).1 k_ hk_.symm); have hx12_0 := hcc12 0 _ rfl; (try simp only [show ((Kd.slice 3 (Kd.int .i64))).sz = 1 from rfl, Nat.mul_one, Nat.add_zero] at hx12_0); have hf12_0 := hfr12 0; (try simp only [show ((Kd.slice 3 (Kd.int .i64))).sz = 1 from rfl, Nat.mul_one, Nat.add_zero] at hf12_0); (try clear hcl12); (try clear hcc12); (try clear hfr12); (try clear hM12); (try clear hoki12); (try clear hH12); (try simp only [show ((Kd.slice 3 (Kd.int .i64))).sz = 1 from rfl, Nat.mul_one, Nat.add_zero] at HP12)) | ((with_reducible refine gate_store (t := 26) (p := 21) rfl ?_); refine store_event (t := 26) (p := 21) (v := ?vo_w13) (w1 := (w11.setCell ⟨go10, (x4_1 : Int).toNat, none⟩ (v655))) ?hg ?ho ?hn ?hr ?_; (case ho => rfl); (case hg => rfl); (case hn => rfl); (case hr => first | (go_simp; done) | (go_simp; rfl) | (obtain ⟨A_, c_, e_⟩ := Kd.R_slice HO656.out; rw [e_]; first | (go_simp; done) | (go_simp; rfl)) | (obtain ⟨A_, c_, e_⟩ := Kd.S_slice HO656.out; rw [e_]; first | (go_simp; done) | (go_simp; rfl))); intro w13 hw; have hg : w11.grownBy w13 (some go10) := (by rw [hw]; exact HP12.2); have hp_ : Kd.S (Kd.slice 3 (Kd.int .i64)) 26 w13 w.heap.size (fun _ => True) (.slice (some ⟨go10, 0, none⟩) x3_1.length co10) y657 := (by rw [hw, Ny657.out]; exact HP12.1); clear HP12; have n0_ := Aside0.mk (hp_); have n1_ := Aside0.mk ((by rw [hw]; exact below_set (HB.out) GB10.out : Below w.heap.size w w13)); clear HO_3; clear HB; clear HO656; have HO_3 := n0_; have HB := n1_; clear n0_ n1_; clear hg hw hp_))
                go_roundg k1
                case measure => have := HK1.out; omega
                case rel => exact ⟨(y657), (wrap64 (x4_1 + 1)), (by first | rfl | (simp; done) | (simp [*]; done)), H', ⟨by have := HK1.out; omega⟩, ⟨by (with_reducible repeat (first | apply Kd.S_alloc | apply Kd.S_drewN | apply Kd.S_drew)); exact HO_3.out⟩, ⟨by repeat (first | (with_reducible first | exact HB.out | apply below_alloc | apply pw_below_drewN | apply below_drew1) | exact HB.out)⟩⟩
              · rw [if_neg c9] at H
                exact absurd H (by simp)
            · rw [if_neg c7] at H
              exact absurd H (by simp)
          · rw [if_neg c6] at H
            have c6b0 : decide (x4_1 < (l0.length : Int)) = false := decide_eq_false c6
            clear c6
            obtain rfl := Option.some.inj H
            go_wp2
            go_ret
            exact ⟨_, by first | rfl | (simp [errW_none, errW_some] <;> rfl) | (simp [*, errW_none, errW_some] <;> rfl), by (with_reducible repeat (first | apply Kd.S_alloc | apply Kd.S_drewN | apply Kd.S_drew)); exact HO_3.out, by repeat (first | (with_reducible first | exact HB.out | apply below_alloc | apply pw_below_drewN | apply below_drew1) | exact HB.out)⟩
    · rw [if_neg c3] at H
      exact absurd H (by simp)
  · rw [if_neg c2] at H
    exact absurd H (by simp)
end Go.Proofs.Ytngonhgghncdiaa.P
end
