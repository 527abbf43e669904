-- Printed by a program of this session's (wip/myprint.py), over the kit's printer, with texts of this session's own among it. Lean checks it.
import Derived.Test.YtpkhoanaifpopaaP0
import Derived.Test.YtpkhoanaifpopaaP41
import Derived.Test.YtpkhoanaifpopaaP59
namespace Go.Proofs.Ytpkhoanaifpopaa.P
open Go.RowKit Go.Proofs.YtpkhoanaifpopaaW.PrintWords Go.Proofs.YtpkhoanaifpopaaW.PrintLast Go.Proofs.YtpkhoanaifpopaaW.PrintMore
attribute [local go_sem] max2_int min2_int max_two min_two max_three min_three max_four min_four   -- for this text's walks alone
set_option linter.unusedVariables false
set_option linter.unusedSimpArgs false

/-! ### impl_ClearFrame: function 37 -/
theorem impl_ClearFrame.zeros_int (n : Nat) : (Builtin.zeroCells #[Value.int .i64 0] n).toList = List.replicate n (.int .i64 0) := by
  unfold Builtin.zeroCells
  apply List.ext_getElem?
  intro i
  by_cases h : i < n
  · simp [h, Nat.mod_one]
  · simp [h]
theorem impl_ClearFrame.run_clear {P : Program} {W : World} {g t e n cap : Nat} {cur : Array Value} (ty : TypeId) (ht : P.underlying t = some (.slice e)) (hi : (P.info? e).map (fun i => (i.zero, i.size, i.bytes)) = some (some (.int .i64 0), 1, 8)) (hh : W.heap[g]? = some (.cells cur e (0, 0))) (hn : n ≤ cur.size) :
    (Builtin.clear_ #[t] ty #[.slice (some ⟨g, 0, none⟩) n cap]).run P W = .ok (.tuple #[]) (W.setCells g 0 (List.replicate n (.int .i64 0))) := by
  cases n with
  | zero => simp [Builtin.clear_, underlying, ht, World.setCells]
  | succ n =>
    obtain ⟨i, h1, h2⟩ := Option.map_eq_some_iff.1 hi
    have hz : i.zero = some (.int .i64 0) := by injection h2
    have hst := run_storeCells_cells (P := P) g 0 (List.replicate (n + 1) (Value.int .i64 0)) 0 W (fun j hj => by rw [cell_of_row W g _ cur e (0, 0) hh]; simp at hj; simp; omega) (fun j _ => blk_frozen hh _) (by intro v hv; rw [List.eq_of_mem_replicate hv]; rfl)
    simp only [Nat.add_zero] at hst
    have hc : (Value.int IntKind.i64 0).cells = #[.int .i64 0] := rfl
    simp [Builtin.clear_, underlying, ht, zeroValue, typeInfo, h1, hz, hc, impl_ClearFrame.zeros_int, hst]
theorem impl_ClearFrame.R_clear {P : Program} {ops : Array Oper} {o : Oper} {rest : List Oper} {a : Act} {Q : Exit → Act → World → Prop} {w0 W : World} (base : Nat) (hgd : o.guard = none) (s : Operand) (t e : TypeId)
    (ho : o.op = .call { callee := .builtin .clear, args := #[s], argTypes := #[t] }) (ht : P.underlying t = some (.slice e)) (hi : (P.info? e).map (fun i => (i.zero, i.size, i.bytes)) = some (some (.int .i64 0), 1, 8))
    (v : Value) (xs : List Int) (ok : Nat → Prop) (hs : a.eval s = v) (HO : Kd.R (Kd.int .i64) e W base ok v xs) (HB : Below base w0 W) (hbase : base ≤ W.heap.size)
    (h : ∀ w1, Kd.R (Kd.int .i64) e w1 base ok v (List.replicate xs.length 0) → Below base w0 w1 → W.grownBy w1 v.ownBlock → wpList P ops Q rest (a.put o.dst (.tuple #[])) w1) : wpList P ops Q (o :: rest) a W := by
  have hown := Kd.own_of_R (enc := Value.int .i64) (h1 := fun _ => rfl) HO
  have fin : ∀ w1, (Builtin.clear_ #[t] o.type #[v]).run P W = .ok (.tuple #[]) w1 → Kd.R (Kd.int .i64) e w1 base ok v (List.replicate xs.length 0) → W.grownBy w1 v.ownBlock → wpList P ops Q (o :: rest) a W := by
    intro w1 hr hrow hg
    refine wpList_plain hgd fun K hK => ?_
    unfold Oper.wp execOp
    simp only [ho, resolve, invoke, builtin, Sem.run_bind, Sem.run_pure, Result.andThen_ok, List.map_toArray, List.map_cons, List.map_nil, hs, hr]
    exact hK _ _ (h w1 hrow (HB.grown hg hbase (own_base hown)) hg)
  rcases hown.2 with ⟨hv, hx0⟩ | ⟨g, cap, cur, hv, hb, hh, hnc, hcm, hcs, htake⟩
  · have hx : xs = [] := List.length_eq_zero_iff.1 hx0
    refine fin W (by rw [hv]; simp [Builtin.clear_, underlying, ht]) ?_ (World.grownBy.refl W _)
    rw [hx] at HO ⊢
    exact HO
  · have hcs1 : cur.size = cap := by omega
    have hr := impl_ClearFrame.run_clear (P := P) (W := W) (cap := cap) o.type ht hi hh (n := xs.length) (by omega)
    obtain ⟨cur', h3, h4, h5⟩ := setCells_row (List.replicate xs.length (Value.int .i64 0)) 0 W cur hh (by rw [List.length_replicate]; omega)
    obtain ⟨s1, s2, s3, s4⟩ := setCells_same g (List.replicate xs.length (Value.int .i64 0)) 0 W
    refine fin _ (by rw [hv, hr]) (Kd.R_of_own ?_ HO.1) ⟨s1, s2, s3, by rw [s4]; exact Nat.le_refl _, fun k _ hk => setCells_far _ _ k (fun he => hk (by rw [hv, he]; simp [Value.ownBlock]))⟩
    rw [List.length_replicate]
    refine ⟨by simp [encs], .inr ⟨g, cap, cur', hv, hb, h3, hnc, hcm, by rw [h4, hcs], ?_⟩⟩
    rw [h5, List.take_zero, List.nil_append, Nat.mul_one, List.length_replicate, Nat.zero_add]
    rw [List.take_append_of_le_length (by rw [List.length_replicate]; exact Nat.le_refl _), List.take_of_length_le (by rw [List.length_replicate]; exact Nat.le_refl _)]
    simp [encs]
def impl_ClearFrame.f (k : Nat) (l0 : List (List Int)) (a1 : Int) : Option (List (List Int) × Bool) := (impl_isFrame.f k l0 a1).bind fun t1 => (if t1 = true then ((impl_copyMem.f k l0).bind fun t => (if 0 ≤ a1 then (if a1 < (t.length : Int) then (some (t.set a1.toNat (List.replicate (t.getD a1.toNat []).length 0), true)) else none) else none)) else (some ([], false)))
theorem impl_ClearFrame.mono : ∀ a0 a1 k, LeO (impl_ClearFrame.f k a0 a1) (impl_ClearFrame.f (k + 1) a0 a1) := by
  intro a0 a1 k
  unfold impl_ClearFrame.f
  repeat' first
      | (with_reducible exact impl_copyMem.mono _ _)
      | (with_reducible exact impl_isFrame.mono _ _ _)
      | (with_reducible exact LeO.refl _)
      | (with_reducible exact LeO.none _)
      | (with_reducible refine LeO.ite ?_ ?_)
      | (with_reducible refine LeO.bind ?_ (fun _ => ?_))
set_option maxHeartbeats 8000000 in
set_option maxRecDepth 100000 in
theorem impl_ClearFrame.calls (k : Nat) (A0 : Option Addr) (c0 : Nat) (l0 : List (List Int)) (a1 : Int) (r1 : List (List Int)) (r2 : Bool) (w : World) (hr0 : Kd.C (Kd.slice 3 (Kd.int .i64)) w A0 l0.length l0) (hc0 : l0.length ≤ c0) (h : impl_ClearFrame.f k l0 a1 = some (r1, r2)) :
    Calls Try.prog 37 #[.slice A0 l0.length c0, .int .i64 a1] w fun e w' => ∃ v0_ : Value, e = .returned (.tuple #[v0_, .bool r2]) ∧ Kd.S (Kd.slice 3 (Kd.int .i64)) 48 w' w.heap.size (fun _ => True) v0_ r1 ∧ Below w.heap.size w w' := by
  have HR0 := Aside0.mk hr0
  have HC0 := Aside0.mk hc0
  clear hr0 hc0
  have HB := Aside0.mk (Below.refl w.heap.size w)
  have H := h
  clear h
  unfold impl_ClearFrame.f at H
  obtain ⟨t1, A1, H⟩ := Option.bind_eq_some_iff.mp H
  have A1 := Aside0.mk A1
  cases t1 with
  | false =>
    simp only [Bool.false_eq_true, if_false, Option.some.injEq, Prod.mk.injEq] at H
    obtain ⟨rfl, rfl⟩ := H
    go_enter Try.func37, Try.ntmps37
    go_wp2_with (first | ((with_reducible refine gate_callee (f := 85) rfl ?_); refine goesL_ (some 9) rfl rfl Try.func85 (by kernel_rfl) rfl #[.slice A0 l0.length c0, .int .i64 a1] rfl (by (try simp only [List.map_toArray, List.map_cons, List.map_nil]); first | done | rfl) ?_; (with_reducible refine (impl_isFrame.calls k _ _ l0 a1 false _ ?side1 ?side2 A1.out).mono ?_); (case side1 => exact Kd.C_below HR0.out HB.out); (case side2 => exact HC0.out); rintro e w1 ⟨rfl, hd_⟩; have hb := Drawn0.below hd_; refine ⟨_, rfl, ?_⟩; have n0_ := Aside0.mk (below_step HB.out hb); clear HB; have HB := n0_; clear n0_ hb hd_))
    go_ret2
    exact ⟨_, rfl, Kd.S_nil _ _ _ _ _, HB.out⟩
  | true =>
    simp only [if_true] at H
    obtain ⟨t, A3, H⟩ := Option.bind_eq_some_iff.mp H
    have A3 := Aside0.mk A3
    by_cases p1 : 0 ≤ a1
    · rw [if_pos p1] at H
      by_cases q1 : a1 < (t.length : Int)
      · rw [if_pos q1] at H
        simp only [Option.some.injEq, Prod.mk.injEq] at H
        obtain ⟨rfl, rfl⟩ := H
        go_enter Try.func37, Try.ntmps37
        go_wp2_with (first | ((with_reducible refine gate_callee (f := 85) rfl ?_); refine goesL_ (some 9) rfl rfl Try.func85 (by kernel_rfl) rfl #[.slice A0 l0.length c0, .int .i64 a1] rfl (by (try simp only [List.map_toArray, List.map_cons, List.map_nil]); first | done | rfl) ?_; (with_reducible refine (impl_isFrame.calls k _ _ l0 a1 true _ ?side1 ?side2 A1.out).mono ?_); (case side1 => exact Kd.C_below HR0.out HB.out); (case side2 => exact HC0.out); rintro e w1 ⟨rfl, hd_⟩; have hb := Drawn0.below hd_; refine ⟨_, rfl, ?_⟩; have n0_ := Aside0.mk (below_step HB.out hb); clear HB; have HB := n0_; clear n0_ hb hd_) | ((with_reducible refine gate_callee (f := 91) rfl ?_); refine goesL_ (some 12) rfl rfl Try.func91 (by kernel_rfl) rfl #[.slice A0 l0.length c0] rfl (by (try simp only [List.map_toArray, List.map_cons, List.map_nil]); first | done | rfl) ?_; (with_reducible refine (impl_copyMem.calls k _ _ l0 t _ ?side1 ?side2 A3.out).mono ?_); (case side1 => exact Kd.C_below HR0.out HB.out); (case side2 => exact HC0.out); rintro e w3 ⟨v3, rfl, ho0, hb⟩; refine ⟨_, rfl, ?_⟩; have n0_ := Aside0.mk (Kd.S_lower ho0 (below_size HB.out)); have n1_ := Aside0.mk (below_step HB.out hb); clear HB; have HO := n0_; have HB := n1_; clear n0_ n1_ hb ho0; obtain ⟨Ao, co, eo⟩ := Kd.S_slice HO.out; subst eo; obtain ⟨ad, A5, c5, e5, hx5, hl5, hi5⟩ := at_L6 (Kd.S_reads' HO.out).2.2 a1 p1 q1; cases e5; obtain ⟨oki, ce, hcl, hM, hcc, hok, hbk⟩ := Kd.S_borrow HO.out [] a1 p1 q1; obtain ⟨ve, rfl, ge⟩ := hM; have hv := hcc 0 _ rfl; rw [Nat.add_zero, show (Kd.slice 3 (Kd.int .i64)).sz = 1 from rfl, Nat.mul_one] at hv; replace hv := Option.some.inj (hv.symm.trans hx5); subst hv; have GE := Aside0.mk ge; have HBK := Aside0.mk (@hbk); clear ge hbk hcc hcl hok hi5 hl5; have p1b := eq_true p1; have q1b := eq_true q1) | ((with_reducible refine gate_builtin (b := .clear) (xs := #[.tmp 16]) rfl ?_); refine impl_ClearFrame.R_clear w.heap.size rfl (.tmp 16) 48 3 rfl Try.underlying48 info3 _ _ oki rfl GE.out HB.out HB.out.size ?_; intro w4 hz hb hg; have hp := HBK.out hg (fun k_ e_ => GE.out.1 k_ e_) ⟨_, rfl, hz⟩; have n0_ := Aside0.mk hp; have n1_ := Aside0.mk hb; clear HO HB; have HO := n0_; have HB := n1_; clear n0_ n1_ hp hz hb hg))
        go_ret2
        exact ⟨_, rfl, HO.out, HB.out⟩
      · rw [if_neg q1] at H; exact absurd H (by simp)
    · rw [if_neg p1] at H; exact absurd H (by simp)

end Go.Proofs.Ytpkhoanaifpopaa.P
