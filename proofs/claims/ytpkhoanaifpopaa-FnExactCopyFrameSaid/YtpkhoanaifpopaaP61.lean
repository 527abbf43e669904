-- Printed by a program of this session's (wip/myprint.py), over the kit's printer, with texts of this session's own among it. Lean checks it.
import Derived.Test.YtpkhoanaifpopaaP0
import Derived.Test.YtpkhoanaifpopaaP41
import Derived.Test.YtpkhoanaifpopaaP59
namespace Go.Proofs.Ytpkhoanaifpopaa.P
open Go.RowKit Go.Proofs.YtpkhoanaifpopaaW.PrintWords Go.Proofs.YtpkhoanaifpopaaW.PrintLast Go.Proofs.YtpkhoanaifpopaaW.PrintMore
attribute [local go_sem] max2_int min2_int max_two min_two max_three min_three max_four min_four   -- for this text's walks alone
set_option linter.unusedVariables false
set_option linter.unusedSimpArgs false

/-! ### impl_CopyFrame: function 36 -/
theorem impl_CopyFrame.drop_take {α : Type} (l : List α) {m n : Nat} (h : m ≤ n) : (l.take n).drop m = (l.drop m).take (n - m) := by
  apply List.ext_getElem?
  intro i
  rw [List.getElem?_drop, List.getElem?_take, List.getElem?_take, List.getElem?_drop]
  by_cases h1 : m + i < n
  · rw [if_pos h1, if_pos (by omega)]
  · rw [if_neg h1, if_neg (by omega)]
theorem impl_CopyFrame.run_copy {P : Program} {W : World} (base : Nat) (t t' ty e : TypeId) (ht : P.underlying t = some (.slice e)) (hinfo : (P.info? e).map (·.size) = some 1)
    (v : Value) (xs ys : List Int) (A : Option Addr) (m c : Nat) (ok : Nat → Prop) (HO : (Kd.int .i64).R e W base ok v xs) (HR : (Kd.int .i64).C W A m ys) :
    ∃ w1, (Builtin.copy_ #[t, t'] ty #[v, .slice A m c]).run P W = .ok (goInt ((min m xs.length : Nat) : Int)) w1 ∧ (Kd.int .i64).R e w1 base ok v (ys.take (min m xs.length) ++ xs.drop (min m xs.length)) ∧ W.grownBy w1 v.ownBlock := by
  have hR := Kd.reads_of_C (enc := Value.int .i64) (d := 0) (h1 := fun _ => rfl) HR
  have hown := Kd.own_of_R (enc := Value.int .i64) (h1 := fun _ => rfl) HO
  by_cases h0 : min m xs.length = 0
  · obtain ⟨A', c', hv⟩ := own_slice hown
    refine ⟨W, ?_, by rw [h0, List.take_zero, List.drop_zero, List.nil_append]; exact HO, World.grownBy.refl W _⟩
    rw [h0, hv]
    exact run_copy_none W t t' ty e A' A xs.length c' m c ht hinfo h0
  · obtain ⟨ad, rfl, hc⟩ := hR.2.2 (by omega)
    have hm := hR.1
    rcases hown.2 with ⟨_, hx0⟩ | ⟨g, cap, cur, rfl, hb, hh, hnc, hcm, hcs, htake⟩
    · omega
    · have hlen : (encs (Value.int .i64) (ys.take (min m xs.length))).length = min m xs.length := by rw [encs_length, List.length_take]; omega
      have hr := run_copy_cells (P := P) W t t' ty e g 0 xs.length cap ad m c (encs (Value.int .i64) (ys.take (min m xs.length))) ht hinfo (by rw [hlen])
        (fun j u hu => by
          have hj : j < (ys.take (min m xs.length)).length := by
            rw [← encs_length (enc := Value.int .i64)]
            exact (List.getElem?_eq_some_iff.1 hu).1
          rw [encs_get (d := 0) _ j hj] at hu
          rw [hc j (by rw [List.length_take] at hj; omega), ← hu]
          rw [List.length_take] at hj
          simp [List.getD_eq_getElem?_getD, List.getElem?_take, show j < min m xs.length by omega])
        (fun j hj => by rw [cell_of_row W g _ cur e (0, 0) hh]; simp; omega) (fun j _ => blk_frozen hh _) (by intro u hu; simp only [encs, List.mem_map] at hu; obtain ⟨q, _, rfl⟩ := hu; rfl)
      obtain ⟨cur', h3, h4, h5⟩ := setCells_row (encs (Value.int .i64) (ys.take (min m xs.length))) 0 W cur hh (by rw [hlen]; omega)
      obtain ⟨s1, s2, s3, s4⟩ := setCells_same g (encs (Value.int .i64) (ys.take (min m xs.length))) 0 W
      refine ⟨_, by rw [hr, hlen], Kd.R_of_own ?_ HO.1, ⟨s1, s2, s3, by rw [s4]; exact Nat.le_refl _, fun k _ hk => setCells_far _ _ k (fun he => hk (by rw [he]; simp [Value.ownBlock]))⟩⟩
      have hL : (ys.take (min m xs.length) ++ xs.drop (min m xs.length)).length = xs.length := by rw [List.length_append, List.length_take, List.length_drop]; omega
      rw [hL]
      refine ⟨by rw [encs_length, hL, Nat.mul_one], .inr ⟨g, cap, cur', rfl, hb, h3, hnc, hcm, by rw [h4, hcs], ?_⟩⟩
      rw [h5, List.take_zero, List.nil_append, hlen, Nat.zero_add, Nat.mul_one, encs_append, List.take_append, hlen, List.take_of_length_le (by rw [hlen]; omega), ← impl_CopyFrame.drop_take _ (by omega)]
      rw [Nat.mul_one] at htake
      rw [htake]
      simp [encs, List.map_drop]
theorem impl_CopyFrame.R_copy_step {P : Program} {ops : Array Oper} {o : Oper} {a : Act} {Q : Exit → Act → World → Prop} {Kc : Act → World → Prop} {w0 W : World} (base : Nat) (hw : Region.wanted o (yielded ops a.tmps) = true) (s x : Operand) (t t' e : TypeId)
    (ho : o.op = .call { callee := .builtin .copy, args := #[s, x], argTypes := #[t, t'] }) (ht : P.underlying t = some (.slice e)) (hinfo : (P.info? e).map (·.size) = some 1)
    (v : Value) (xs ys : List Int) (A : Option Addr) (m c : Nat) (ok : Nat → Prop) (hs : a.eval s = v) (hx : a.eval x = .slice A m c)
    (HO : (Kd.int .i64).R e W base ok v xs) (HR : (Kd.int .i64).C W A m ys) (HB : Below base w0 W) (hbase : base ≤ W.heap.size)
    (h : ∀ w1, (Kd.int .i64).R e w1 base ok v (ys.take (min m xs.length) ++ xs.drop (min m xs.length)) → Below base w0 w1 → W.grownBy w1 v.ownBlock → Kc (a.put o.dst (.int .i64 ((min m xs.length : Nat) : Int))) w1) :
    if Region.wanted o (yielded ops a.tmps) = true then Oper.wp P o a W Kc Q else Kc (a.put o.dst undef) W := by
  obtain ⟨w1, hr, hR1, hg⟩ := impl_CopyFrame.run_copy base t t' o.type e ht hinfo v xs ys A m c ok HO HR
  rw [if_pos hw]
  unfold Oper.wp execOp
  simp only [ho, resolve, invoke, builtin, Sem.run_bind, Sem.run_pure, Result.andThen_ok, List.map_toArray, List.map_cons, List.map_nil, hs, hx, hr]
  exact h w1 hR1 (HB.grown hg hbase (own_base (Kd.own_of_R (enc := Value.int .i64) (h1 := fun _ => rfl) HO))) hg
def impl_CopyFrame.f (k : Nat) (l0 : List (List Int)) (a1 : Int) (a2 : Int) : Option (List (List Int) × Bool) := (impl_isFrame.f k l0 a1).bind fun t1 => (if t1 = true then ((impl_isFrame.f k l0 a2).bind fun t2 => (if t2 = true then ((impl_copyMem.f k l0).bind fun t => (if 0 ≤ a2 then (if a2 < (t.length : Int) then (if 0 ≤ a1 then (if a1 < (l0.length : Int) then (some (t.set a2.toNat ((rd_L6 l0 a1).take (min (rd_L6 l0 a1).length (rd_L6 t a2).length) ++ (rd_L6 t a2).drop (min (rd_L6 l0 a1).length (rd_L6 t a2).length)), true)) else none) else none) else none) else none)) else (some ([], false)))) else (some ([], false)))
theorem impl_CopyFrame.mono : ∀ a0 a1 a2 k, LeO (impl_CopyFrame.f k a0 a1 a2) (impl_CopyFrame.f (k + 1) a0 a1 a2) := by
  intro a0 a1 a2 k
  unfold impl_CopyFrame.f
  repeat' first
      | (with_reducible exact impl_copyMem.mono _ _)
      | (with_reducible exact impl_isFrame.mono _ _ _)
      | (with_reducible exact LeO.refl _)
      | (with_reducible exact LeO.none _)
      | (with_reducible refine LeO.ite ?_ ?_)
      | (with_reducible refine LeO.bind ?_ (fun _ => ?_))
set_option maxHeartbeats 8000000 in
set_option maxRecDepth 100000 in
theorem impl_CopyFrame.calls (k : Nat) (A0 : Option Addr) (c0 : Nat) (l0 : List (List Int)) (a1 : Int) (a2 : Int) (r1 : List (List Int)) (r2 : Bool) (w : World) (hr0 : Kd.C (Kd.slice 3 (Kd.int .i64)) w A0 l0.length l0) (hc0 : l0.length ≤ c0) (h : impl_CopyFrame.f k l0 a1 a2 = some (r1, r2)) :
    Calls Try.prog 36 #[.slice A0 l0.length c0, .int .i64 a1, .int .i64 a2] w fun e w' => ∃ v0_ : Value, e = .returned (.tuple #[v0_, .bool r2]) ∧ Kd.S (Kd.slice 3 (Kd.int .i64)) 48 w' w.heap.size (fun _ => True) v0_ r1 ∧ Below w.heap.size w w' := by
  have HR0 := Aside0.mk hr0
  have HC0 := Aside0.mk hc0
  clear hr0 hc0
  have HB := Aside0.mk (Below.refl w.heap.size w)
  have H := h
  clear h
  unfold impl_CopyFrame.f at H
  obtain ⟨t1, A1, H⟩ := Option.bind_eq_some_iff.mp H
  have A1 := Aside0.mk A1
  cases t1 with
  | false =>
    simp only [Bool.false_eq_true, if_false, Option.some.injEq, Prod.mk.injEq] at H
    obtain ⟨rfl, rfl⟩ := H
    go_enter Try.func36, Try.ntmps36
    go_wp2_with (first | ((with_reducible refine gate_callee (f := 85) rfl ?_); refine goesL_ (some 11) rfl rfl Try.func85 (by kernel_rfl) rfl #[.slice A0 l0.length c0, .int .i64 a1] rfl (by (try simp only [List.map_toArray, List.map_cons, List.map_nil]); first | done | rfl) ?_; (with_reducible refine (impl_isFrame.calls k _ _ l0 a1 false _ ?side1 ?side2 A1.out).mono ?_); (case side1 => exact Kd.C_below HR0.out HB.out); (case side2 => exact HC0.out); rintro e w1 ⟨rfl, hd_⟩; have hb := Drawn0.below hd_; refine ⟨_, rfl, ?_⟩; have n0_ := Aside0.mk (below_step HB.out hb); clear HB; have HB := n0_; clear n0_ hb hd_))
    go_ret2
    exact ⟨_, rfl, Kd.S_nil _ _ _ _ _, HB.out⟩
  | true =>
    simp only [if_true] at H
    obtain ⟨t2, A2, H⟩ := Option.bind_eq_some_iff.mp H
    have A2 := Aside0.mk A2
    cases t2 with
    | false =>
      simp only [Bool.false_eq_true, if_false, Option.some.injEq, Prod.mk.injEq] at H
      obtain ⟨rfl, rfl⟩ := H
      go_enter Try.func36, Try.ntmps36
      go_wp2_with (first | ((with_reducible refine gate_callee (f := 85) rfl ?_); refine goesL_ (some 11) rfl rfl Try.func85 (by kernel_rfl) rfl #[.slice A0 l0.length c0, .int .i64 a1] rfl (by (try simp only [List.map_toArray, List.map_cons, List.map_nil]); first | done | rfl) ?_; (with_reducible refine (impl_isFrame.calls k _ _ l0 a1 true _ ?side1 ?side2 A1.out).mono ?_); (case side1 => exact Kd.C_below HR0.out HB.out); (case side2 => exact HC0.out); rintro e w1 ⟨rfl, hd_⟩; have hb := Drawn0.below hd_; refine ⟨_, rfl, ?_⟩; have n0_ := Aside0.mk (below_step HB.out hb); clear HB; have HB := n0_; clear n0_ hb hd_) | (go_at_call 85; (with_reducible refine (impl_isFrame.calls k _ _ l0 a2 false _ ?side1 ?side2 A2.out).mono ?_); (case side1 => exact Kd.C_below HR0.out HB.out); (case side2 => exact HC0.out); rintro e w2 ⟨rfl, hd_⟩; have hb := Drawn0.below hd_; have n0_ := Aside0.mk (below_step HB.out hb); clear HB; have HB := n0_; clear n0_ hb hd_))
      go_ret2
      exact ⟨_, rfl, Kd.S_nil _ _ _ _ _, HB.out⟩
    | true =>
      simp only [if_true] at H
      obtain ⟨t, A3, H⟩ := Option.bind_eq_some_iff.mp H
      have A3 := Aside0.mk A3
      by_cases p1 : 0 ≤ a2
      · rw [if_pos p1] at H
        by_cases q1 : a2 < (t.length : Int)
        · rw [if_pos q1] at H
          by_cases p2 : 0 ≤ a1
          · rw [if_pos p2] at H
            by_cases q2 : a1 < (l0.length : Int)
            · rw [if_pos q2] at H
              simp only [Option.some.injEq, Prod.mk.injEq] at H
              obtain ⟨rfl, rfl⟩ := H
              go_enter Try.func36, Try.ntmps36
              go_wp2_with (first | ((with_reducible refine gate_callee (f := 85) rfl ?_); refine goesL_ (some 11) rfl rfl Try.func85 (by kernel_rfl) rfl #[.slice A0 l0.length c0, .int .i64 a1] rfl (by (try simp only [List.map_toArray, List.map_cons, List.map_nil]); first | done | rfl) ?_; (with_reducible refine (impl_isFrame.calls k _ _ l0 a1 true _ ?side1 ?side2 A1.out).mono ?_); (case side1 => exact Kd.C_below HR0.out HB.out); (case side2 => exact HC0.out); rintro e w1 ⟨rfl, hd_⟩; have hb := Drawn0.below hd_; refine ⟨_, rfl, ?_⟩; have n0_ := Aside0.mk (below_step HB.out hb); clear HB; have HB := n0_; clear n0_ hb hd_) | (go_at_call 85; (with_reducible refine (impl_isFrame.calls k _ _ l0 a2 true _ ?side1 ?side2 A2.out).mono ?_); (case side1 => exact Kd.C_below HR0.out HB.out); (case side2 => exact HC0.out); rintro e w2 ⟨rfl, hd_⟩; have hb := Drawn0.below hd_; have n0_ := Aside0.mk (below_step HB.out hb); clear HB; have HB := n0_; clear n0_ hb hd_) | ((with_reducible refine gate_callee (f := 91) rfl ?_); refine goesL_ (some 20) rfl rfl Try.func91 (by kernel_rfl) rfl #[.slice A0 l0.length c0] rfl (by (try simp only [List.map_toArray, List.map_cons, List.map_nil]); first | done | rfl) ?_; (with_reducible refine (impl_copyMem.calls k _ _ l0 t _ ?side1 ?side2 A3.out).mono ?_); (case side1 => exact Kd.C_below HR0.out HB.out); (case side2 => exact HC0.out); rintro e w3 ⟨v3, rfl, ho0, hb⟩; refine ⟨_, rfl, ?_⟩; have n0_ := Aside0.mk (Kd.S_lower ho0 (below_size HB.out)); have n1_ := Aside0.mk (below_step HB.out hb); clear HB; have HO := n0_; have HB := n1_; clear n0_ n1_ hb ho0; obtain ⟨Ao, co, eo⟩ := Kd.S_slice HO.out; subst eo; obtain ⟨ad, A5, c5, e5, hx5, hl5, hi5⟩ := at_L6 (Kd.S_reads' HO.out).2.2 a2 p1 q1; cases e5; obtain ⟨ad0, A6, c6, e6, hx6, hl6, hi6⟩ := at_L6 (Kd.C_below HR0.out HB.out) a1 p2 q2; subst e6; obtain ⟨oki, ce, hcl, hM, hcc, hok, hbk⟩ := Kd.S_borrow HO.out [] a2 p1 q1; obtain ⟨ve, rfl, ge⟩ := hM; have hv := hcc 0 _ rfl; rw [Nat.add_zero, show (Kd.slice 3 (Kd.int .i64)).sz = 1 from rfl, Nat.mul_one] at hv; replace hv := Option.some.inj (hv.symm.trans hx5); subst hv; have GE := Aside0.mk ge; have HBK := Aside0.mk (@hbk); have HX5 := hx5; have HX6 := hx6; have R6 := Aside0.mk hi6; clear ge hbk hcc hcl hok hi5 hi6 hl5 hl6; have p1b := eq_true p1; have q1b := eq_true q1; have p2b := eq_true p2; have q2b := eq_true q2))
              refine start_ (n := 9) (S := fun w' => w'.cell? (ad.add a2.toNat) = some (.slice A5 (rd_L6 t a2).length c5) ∧ w'.cell? (ad0.add a1.toNat) = some (.slice A6 (rd_L6 l0 a1).length c6)) (ds := [8]) #[false, false, false, false, false, false, false, false, false] (by kernel_rfl) rfl rfl ⟨HX5, HX6⟩ (fun hHeld => ?_)
              refine pure_ (i := 0) (N := some 21) (v := ?_) (a' := ?_) #[true, false, false, false, false, false, false, false, false] rfl rfl (by kernel_rfl) (fun _ _ _ h => h) (Or.inl ⟨by rfl, ?_⟩) ?_ ?_
              rotate_left
              · intro w'
                go_simp
                with_reducible rfl
              rotate_left
              · simp only [Act.put, List.setIfInBounds_toArray, List.set_cons_zero, List.set_cons_succ, i64_w, i32_w]
                rfl
              refine pure_ (i := 1) (N := some 22) (v := ?_) (a' := ?_) #[true, true, false, false, false, false, false, false, false] rfl rfl (by kernel_rfl) (fun _ _ _ h => h) (Or.inl ⟨by rfl, ?_⟩) ?_ ?_
              rotate_left
              · intro w'
                go_simp
                with_reducible rfl
              rotate_left
              · simp only [Act.put, List.setIfInBounds_toArray, List.set_cons_zero, List.set_cons_succ, i64_w, i32_w]
                rfl
              refine pure_ (i := 2) (N := some 23) (v := ?_) (a' := ?_) #[true, true, true, false, false, false, false, false, false] rfl rfl (by kernel_rfl) (fun _ _ _ h => h) (Or.inl ⟨by rfl, ?_⟩) ?_ ?_
              rotate_left
              · intro w'
                go_simp
                with_reducible rfl
              rotate_left
              · simp only [Act.put, List.setIfInBounds_toArray, List.set_cons_zero, List.set_cons_succ, i64_w, i32_w]
                rfl
              refine pure_ (i := 4) (N := some 25) (v := ?_) (a' := ?_) #[true, true, true, false, true, false, false, false, false] rfl rfl (by kernel_rfl) (fun _ _ _ h => h) (Or.inl ⟨by rfl, ?_⟩) ?_ ?_
              rotate_left
              · intro w'
                go_simp
                with_reducible rfl
              rotate_left
              · simp only [Act.put, List.setIfInBounds_toArray, List.set_cons_zero, List.set_cons_succ, i64_w, i32_w]
                rfl
              refine pure_ (i := 5) (N := some 26) (v := ?_) (a' := ?_) #[true, true, true, false, true, true, false, false, false] rfl rfl (by kernel_rfl) (fun _ _ _ h => h) (Or.inl ⟨by rfl, ?_⟩) ?_ ?_
              rotate_left
              · intro w'
                go_simp
                with_reducible rfl
              rotate_left
              · simp only [Act.put, List.setIfInBounds_toArray, List.set_cons_zero, List.set_cons_succ, i64_w, i32_w]
                rfl
              refine pure_ (i := 6) (N := some 27) (v := ?_) (a' := ?_) #[true, true, true, false, true, true, true, false, false] rfl rfl (by kernel_rfl) (fun _ _ _ h => h) (Or.inl ⟨by rfl, ?_⟩) ?_ ?_
              rotate_left
              · intro w'
                go_simp
                with_reducible rfl
              rotate_left
              · simp only [Act.put, List.setIfInBounds_toArray, List.set_cons_zero, List.set_cons_succ, i64_w, i32_w]
                rfl
              refine take_ (i := 3) (N := some 24) (v := ?_) (a' := ?_) #[true, true, true, true, true, true, true, false, false] rfl rfl (by kernel_rfl) (fun _ _ _ h => h) (Or.inl ⟨by rfl, ?_⟩) hHeld ?_ ?_
              rotate_left
              · rintro w' ⟨s0, s1⟩
                go_simp
                with_reducible rfl
              rotate_left
              · simp only [Act.put, List.setIfInBounds_toArray, List.set_cons_zero, List.set_cons_succ, i64_w, i32_w]
                rfl
              refine take_ (i := 7) (N := some 28) (v := ?_) (a' := ?_) #[true, true, true, true, true, true, true, true, false] rfl rfl (by kernel_rfl) (fun _ _ _ h => h) (Or.inl ⟨by rfl, ?_⟩) hHeld ?_ ?_
              rotate_left
              · rintro w' ⟨s0, s1⟩
                go_simp
                with_reducible rfl
              rotate_left
              · simp only [Act.put, List.setIfInBounds_toArray, List.set_cons_zero, List.set_cons_succ, i64_w, i32_w]
                rfl
              refine last_ (i := 8) (N := some 29) #[true, true, true, true, true, true, true, true, true] rfl rfl (by kernel_rfl) (by decide) (fun K hK => ?_)
              refine impl_CopyFrame.R_copy_step w.heap.size (by rfl) (.tmp 24) (.tmp 28) 48 48 3 rfl Try.underlying48 (by simpa using congrArg (Option.map (fun x : Option Value × Nat × Nat => x.2.1)) info3) _ (rd_L6 t a2) (rd_L6 l0 a1) A6 _ c6 oki rfl rfl (Kd.R_drewN GE.out 1) (Kd.C_drewN R6.out 1) (below_drew HB.out) HB.out.size ?_
              intro w4 hz hb hg
              have hp := HBK.out ⟨hg.os, hg.tape, hg.output, hg.size, hg.block⟩ (fun k_ e_ => GE.out.1 k_ e_) ⟨_, rfl, hz⟩
              have n0_ := Aside0.mk hp
              have n1_ := Aside0.mk hb
              clear HO HB
              have HO := n0_
              have HB := n1_
              clear n0_ n1_ hp hz hb hg
              refine hK.out _ _ ?_
              clear hK K
              refine norm_ (a' := ?_) ?_ ?_
              rotate_left
              · show Act.put _ (some 29) _ = _
                simp only [Act.put, List.setIfInBounds_toArray, List.set_cons_zero, List.set_cons_succ, i64_w, i32_w]
                rfl
              refine done_ (by kernel_rfl) ?_
              go_wp2
              go_ret2
              exact ⟨_, rfl, HO.out, HB.out⟩
            · rw [if_neg q2] at H; exact absurd H (by simp)
          · rw [if_neg p2] at H; exact absurd H (by simp)
        · rw [if_neg q1] at H; exact absurd H (by simp)
      · rw [if_neg p1] at H; exact absurd H (by simp)

end Go.Proofs.Ytpkhoanaifpopaa.P
