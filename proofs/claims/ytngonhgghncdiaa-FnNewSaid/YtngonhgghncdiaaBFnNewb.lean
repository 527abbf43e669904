/- What the proof of FnNewSaid rests on, part 2: plain lemmas and contracts of the functions that the law reaches (in part written by a printing program over the translation). No condition. -/
import Derived.Test.YtngonhgghncdiaaBFnNewa
import Derived.Test.YtngonhgghncdiaaProg
import Derived.Below
import Derived.Deep.Draws
import Derived.Deep.AppendLies
import Derived.Maps.AppendAt
import Derived.OwnWalk
import Derived.Laws.BytesArg
import Derived.Laws.MakeOwn
import Derived.Laws.OwnMore
import Derived.Deep.OwnRows
import Derived.Tactics
import Derived.Lib.ConvBytes
import Derived.Laws.Slices
import Derived.WalkKit
import Derived.KernelRfl
import Derived.RowKit3
import Derived.Deep.LoopGhost
import Derived.Deep.QuietTactic
import Derived.BigQuiet
import Derived.WideLaws
import Derived.Deep.DeepCutAuto
import Derived.Deep.CutBlock
import Derived.Deep.RegionHeld3
import Derived.Laws.Rows
import Derived.Lib.AppendStr
import Derived.ArgAppend
import Derived.Laws.IdiomCopy
import Derived.OrdersHeld
import Derived.Laws.BitsLemmas
import Derived.RowKit
import Derived.Shelf.SortM.Plain
import Derived.RangeFuncBox
import Derived.RangeFuncLeaves
import Derived.RangeFuncWrites
import Derived.Shelf.Abstract
import Derived.OwnWalkIn
import Derived.TacticsInMore
import Derived.LoopNIn
import Derived.LoopIn
import Derived.Sort.OwnSortedInts
import Derived.Shelf.SortM.SortNone
section
namespace Go.Proofs.Ytngonhgghncdiaa.P
open Go.RowKit Go.Proofs.YtngonhgghncdiaaW.PrintWords Go.Proofs.YtngonhgghncdiaaW.PrintLast Go.Proofs.YtngonhgghncdiaaW.PrintMore
attribute [local go_sem] max2_int min2_int max_two min_two max_three min_three max_four min_four
set_option linter.unusedVariables false
set_option linter.unusedSimpArgs false
def errW : Option Int → Value
  | none => .nilIface
  | some c => .iface 0 (.int .i64 c)
theorem errW_none : errW none = .nilIface := rfl
theorem errW_some (c : Int) : errW (some c) = .iface 0 (.int .i64 c) := rfl
theorem info3 : (Try.prog.info? 3).map (fun i => (i.zero, i.size, i.bytes)) = some (some (.int .i64 0), 1, 8) := by kernel_rfl
theorem info4 : (Try.prog.info? 4).map (fun i => (i.zero, i.size, i.bytes)) = some (some (.bool false), 1, 1) := by kernel_rfl
theorem info26 : (Try.prog.info? 26).map (fun i => (i.zero, i.size, i.bytes)) = some (some (.slice none 0 0), 1, 24) := by kernel_rfl
theorem info79 : (Try.prog.info? 79).map (fun i => (i.zero, i.size, i.bytes)) = some (some (.agg #[(.bool false), (.int .i64 0), (.slice none 0 0)]), 3, 40) := by kernel_rfl
theorem info124 : (Try.prog.info? 124).map (fun i => (i.zero, i.size, i.bytes)) = some (some (.agg #[(.int .i64 0), (.int .i64 0)]), 2, 16) := by kernel_rfl
theorem info138 : (Try.prog.info? 138).map (fun i => (i.zero, i.size, i.bytes)) = some (some (.agg #[(.int .i64 0), (.slice none 0 0)]), 2, 32) := by kernel_rfl
def rd_L2 (xs : List (List Int)) (i : Int) : (List Int) := xs.getD i.toNat ([] : List Int)
theorem at_L2 {w : World} {A : Option Addr} {n : Nat} {xs : List (List Int)} (h : Kd.C (Kd.slice 3 (Kd.int .i64)) w A n xs) (i : Int) (h0 : 0 ≤ i) (h1 : i < n) : ∃ ad A0 c0, A = some ad ∧ w.cell? (ad.add i.toNat) = some (.slice A0 (rd_L2 xs i).length c0) ∧ (rd_L2 xs i).length ≤ c0 ∧ (Kd.int .i64).C w A0 (rd_L2 xs i).length (rd_L2 xs i) := by
  obtain ⟨ad, c, e, _, hK, hc0⟩ := Kd.C_get h ([] : List Int) i h0 h1
  have hc : ∀ j u, c[j]? = some u → w.cell? (ad.add (i.toNat * 1 + j)) = some u := hc0
  obtain ⟨A0, c0, rfl, l0, g0⟩ := hK
  exact ⟨ad, A0, c0, e, by have hq := hc 0 _ rfl; rwa [Nat.mul_one, Nat.add_zero] at hq, l0, g0⟩
structure S124 where
  f0 : Int
  f1 : Int
def z124 : S124 := ⟨(0 : Int), (0 : Int)⟩
def k124 : Kd S124 := Kd.iso (Kd.pair (Kd.int .i64) (Kd.int .i64)) (fun x : S124 => (x.f0, x.f1))
theorem k124_open {w : World} {x : S124} {cs : List Value} (h : k124.K w x cs) : cs = [.int .i64 x.f0, .int .i64 x.f1] := by
  obtain ⟨_, _, rfl, rfl, rfl⟩ := h
  exact rfl
theorem k124_mkM (w : World) (base : Nat) (ok : Nat → Prop) (x : S124)  : k124.M w base ok x [.int .i64 x.f0, .int .i64 x.f1] := ⟨[.int .i64 x.f0], [.int .i64 x.f1], rfl, rfl, rfl⟩
def rd_T124 (xs : List S124) (i : Int) : S124 := xs.getD i.toNat z124
theorem at_T124 {w : World} {A : Option Addr} {n : Nat} {xs : List S124} (h : Kd.C k124 w A n xs) (i : Int) (h0 : 0 ≤ i) (h1 : i < n) : ∃ ad , A = some ad ∧ w.cell? (ad.add (i.toNat * 2)) = some (.int .i64 (rd_T124 xs i).f0) ∧ w.cell? ⟨(ad.add (i.toNat * 2)).block, (ad.add (i.toNat * 2)).off + 1, none⟩ = some (.int .i64 (rd_T124 xs i).f1) := by
  obtain ⟨ad, c, e, _, hK, hc0⟩ := Kd.C_get h z124 i h0 h1
  have hc : ∀ j u, c[j]? = some u → w.cell? (ad.add (i.toNat * 2 + j)) = some u := hc0
  obtain rfl := k124_open hK
  exact ⟨ad, e, hc 0 _ rfl, by rw [← add_field _ _ 1 (by omega)]; exact hc 1 _ rfl⟩
structure S131 where
  f0 : Int
  f1 : Int
  f2 : (List Bool)
def k131 : Kd S131 := Kd.iso (Kd.pair (Kd.int .i64) (Kd.pair (Kd.int .i64) (Kd.slice 4 Kd.bool))) (fun x : S131 => (x.f0, x.f1, x.f2))
structure S134 where
  f0 : Int
  f1 : Int
  f2 : Int
  f3 : Int
  f4 : Int
def k134 : Kd S134 := Kd.iso (Kd.pair (Kd.int .i64) (Kd.pair (Kd.int .i64) (Kd.pair (Kd.int .i64) (Kd.pair (Kd.int .i64) (Kd.int .i64))))) (fun x : S134 => (x.f0, x.f1, x.f2, x.f3, x.f4))
structure S181 where
  f0 : Int
  f1 : Int
  f2 : Bool
def k181 : Kd S181 := Kd.iso (Kd.pair (Kd.int .i64) (Kd.pair (Kd.int .i64) Kd.bool)) (fun x : S181 => (x.f0, x.f1, x.f2))
structure S79 where
  f0 : Bool
  f1 : Int
  f2 : (List S181)
def z79 : S79 := ⟨false, (0 : Int), ([] : List S181)⟩
def k79 : Kd S79 := Kd.iso (Kd.pair Kd.bool (Kd.pair (Kd.int .i64) (Kd.slice 181 k181))) (fun x : S79 => (x.f0, x.f1, x.f2))
theorem k79_open {w : World} {x : S79} {cs : List Value} (h : k79.K w x cs) : ∃ A2 c2, cs = [.bool x.f0, .int .i64 x.f1, .slice A2 x.f2.length c2] ∧ x.f2.length ≤ c2 ∧ k181.C w A2 x.f2.length x.f2 := by
  obtain ⟨_, _, rfl, rfl, ⟨_, _, rfl, rfl, ⟨A2, c2, rfl, l2, g2⟩⟩⟩ := h
  exact ⟨A2, c2, rfl, l2, g2⟩
theorem k79_mkM (w : World) (base : Nat) (ok : Nat → Prop) (x : S79) {v2 : Value} (g2 : k181.R 181 w base ok v2 x.f2) : k79.M w base ok x [.bool x.f0, .int .i64 x.f1, v2] := ⟨[.bool x.f0], [.int .i64 x.f1, v2], rfl, rfl, ⟨[.int .i64 x.f1], [v2], rfl, rfl, ⟨v2, rfl, g2⟩⟩⟩
def rd_T79 (xs : List S79) (i : Int) : S79 := xs.getD i.toNat z79
theorem at_T79 {w : World} {A : Option Addr} {n : Nat} {xs : List S79} (h : Kd.C k79 w A n xs) (i : Int) (h0 : 0 ≤ i) (h1 : i < n) : ∃ ad A2 c2, A = some ad ∧ w.cell? (ad.add (i.toNat * 3)) = some (.bool (rd_T79 xs i).f0) ∧ w.cell? ⟨(ad.add (i.toNat * 3)).block, (ad.add (i.toNat * 3)).off + 1, none⟩ = some (.int .i64 (rd_T79 xs i).f1) ∧ w.cell? ⟨(ad.add (i.toNat * 3)).block, (ad.add (i.toNat * 3)).off + 2, none⟩ = some (.slice A2 (rd_T79 xs i).f2.length c2) ∧ (rd_T79 xs i).f2.length ≤ c2 ∧ k181.C w A2 (rd_T79 xs i).f2.length (rd_T79 xs i).f2 := by
  obtain ⟨ad, c, e, _, hK, hc0⟩ := Kd.C_get h z79 i h0 h1
  have hc : ∀ j u, c[j]? = some u → w.cell? (ad.add (i.toNat * 3 + j)) = some u := hc0
  obtain ⟨A2, c2, rfl, l2, g2⟩ := k79_open hK
  exact ⟨ad, A2, c2, e, hc 0 _ rfl, by rw [← add_field _ _ 1 (by omega)]; exact hc 1 _ rfl, by rw [← add_field _ _ 2 (by omega)]; exact hc 2 _ rfl, l2, g2⟩
structure S138 where
  f0 : Int
  f1 : (List Int)
def z138 : S138 := ⟨(0 : Int), ([] : List Int)⟩
def k138 : Kd S138 := Kd.iso (Kd.pair (Kd.int .i64) (Kd.slice 3 (Kd.int .i64))) (fun x : S138 => (x.f0, x.f1))
theorem k138_open {w : World} {x : S138} {cs : List Value} (h : k138.K w x cs) : ∃ A1 c1, cs = [.int .i64 x.f0, .slice A1 x.f1.length c1] ∧ x.f1.length ≤ c1 ∧ (Kd.int .i64).C w A1 x.f1.length x.f1 := by
  obtain ⟨_, _, rfl, rfl, ⟨A1, c1, rfl, l1, g1⟩⟩ := h
  exact ⟨A1, c1, rfl, l1, g1⟩
theorem k138_mkM (w : World) (base : Nat) (ok : Nat → Prop) (x : S138) {v1 : Value} (g1 : (Kd.int .i64).R 3 w base ok v1 x.f1) : k138.M w base ok x [.int .i64 x.f0, v1] := ⟨[.int .i64 x.f0], [v1], rfl, rfl, ⟨v1, rfl, g1⟩⟩
def rd_T138 (xs : List S138) (i : Int) : S138 := xs.getD i.toNat z138
theorem at_T138 {w : World} {A : Option Addr} {n : Nat} {xs : List S138} (h : Kd.C k138 w A n xs) (i : Int) (h0 : 0 ≤ i) (h1 : i < n) : ∃ ad A1 c1, A = some ad ∧ w.cell? (ad.add (i.toNat * 2)) = some (.int .i64 (rd_T138 xs i).f0) ∧ w.cell? ⟨(ad.add (i.toNat * 2)).block, (ad.add (i.toNat * 2)).off + 1, none⟩ = some (.slice A1 (rd_T138 xs i).f1.length c1) ∧ (rd_T138 xs i).f1.length ≤ c1 ∧ (Kd.int .i64).C w A1 (rd_T138 xs i).f1.length (rd_T138 xs i).f1 := by
  obtain ⟨ad, c, e, _, hK, hc0⟩ := Kd.C_get h z138 i h0 h1
  have hc : ∀ j u, c[j]? = some u → w.cell? (ad.add (i.toNat * 2 + j)) = some u := hc0
  obtain ⟨A1, c1, rfl, l1, g1⟩ := k138_open hK
  exact ⟨ad, A1, c1, e, hc 0 _ rfl, by rw [← add_field _ _ 1 (by omega)]; exact hc 1 _ rfl, l1, g1⟩
structure S41 where
  f0 : (List (List Int))
  f1 : (List Int)
  f2 : (List S124)
  f3 : (List S131)
  f4 : (List S134)
  f5 : Int
  f6 : (List S79)
  f7 : (List S138)
  f8 : (List Int)
  f9 : (List Int)
def z41 : S41 := ⟨([] : List (List Int)), ([] : List Int), ([] : List S124), ([] : List S131), ([] : List S134), (0 : Int), ([] : List S79), ([] : List S138), ([] : List Int), ([] : List Int)⟩
end Go.Proofs.Ytngonhgghncdiaa.P
end
section
namespace Go.Proofs.Ytngonhgghncdiaa.Up
open Go.RowKit Go.Proofs.Ytngonhgghncdiaa.P Go.Proofs.YtngonhgghncdiaaW.PrintWords Go.Proofs.YtngonhgghncdiaaW.PrintLast Go.Proofs.YtngonhgghncdiaaW.PrintMore
class Upw (W W' : World) : Prop where below : Below W.heap.size W W'
instance (W : World) : Upw W W := ⟨Below.refl _ _⟩
instance (W W' : World) [i : Upw W W'] (n : Nat) : Upw W (W'.drewN n) := ⟨pw_below_drewN i.below n⟩
instance (W W' : World) [i : Upw W W'] : Upw W W'.drew := ⟨below_drew1 i.below⟩
instance (W W' : World) [i : Upw W W'] (o : Obj) : Upw W (W'.alloc o) := ⟨below_alloc i.below o⟩
section
variable {W W' : World} {α : Type} {d : Kd α} {e base : Nat} {ok : Nat → Prop} {v : Value} {xs : List α} {g : Nat} {o : Obj} {w : World}
theorem gK (h : Aside0 (W.heap[g]? = some o)) [i : Upw W W'] : W'.heap[g]? = some o := blk_below h.out i.below
theorem gB (h : Aside0 (Below w.heap.size w W)) [i : Upw W W'] : Below w.heap.size w W' := below_step h.out i.below
theorem gR (h : Aside0 (Kd.R d e W base ok v xs)) [i : Upw W W'] : Kd.R d e W' base ok v xs := Kd.R_below h.out i.below
theorem gS (h : Aside0 (Kd.S d e W base ok v xs)) [i : Upw W W'] : Kd.S d e W' base ok v xs := Kd.S_below h.out i.below
theorem gk10 {a0 a1 a2 a3 a4 a5 a6 a7 a8 a9 : Value} {t : TypeId} (h : Aside0 (W.heap[g]? = some (.cells #[a0, a1, a2, a3, a4, a5, a6, a7, a8, a9] t (0, 0)))) : W.cell? ⟨g, 0, none⟩ = some a0 ∧ W.cell? ⟨g, 1, none⟩ = some a1 ∧ W.cell? ⟨g, 2, none⟩ = some a2 ∧ W.cell? ⟨g, 3, none⟩ = some a3 ∧ W.cell? ⟨g, 4, none⟩ = some a4 ∧ W.cell? ⟨g, 5, none⟩ = some a5 ∧ W.cell? ⟨g, 6, none⟩ = some a6 ∧ W.cell? ⟨g, 7, none⟩ = some a7 ∧ W.cell? ⟨g, 8, none⟩ = some a8 ∧ W.cell? ⟨g, 9, none⟩ = some a9 := ⟨(blk_cell h.out 0).trans rfl, (blk_cell h.out 1).trans rfl, (blk_cell h.out 2).trans rfl, (blk_cell h.out 3).trans rfl, (blk_cell h.out 4).trans rfl, (blk_cell h.out 5).trans rfl, (blk_cell h.out 6).trans rfl, (blk_cell h.out 7).trans rfl, (blk_cell h.out 8).trans rfl, (blk_cell h.out 9).trans rfl⟩
theorem gf10 {t : TypeId} {cs : Array Value} (h : Aside0 (W.heap[g]? = some (.cells cs t (0, 0)))) : W.frozen? ⟨g, 0, none⟩ = false ∧ W.frozen? ⟨g, 1, none⟩ = false ∧ W.frozen? ⟨g, 2, none⟩ = false ∧ W.frozen? ⟨g, 3, none⟩ = false ∧ W.frozen? ⟨g, 4, none⟩ = false ∧ W.frozen? ⟨g, 5, none⟩ = false ∧ W.frozen? ⟨g, 6, none⟩ = false ∧ W.frozen? ⟨g, 7, none⟩ = false ∧ W.frozen? ⟨g, 8, none⟩ = false ∧ W.frozen? ⟨g, 9, none⟩ = false := ⟨blk_frozen h.out 0, blk_frozen h.out 1, blk_frozen h.out 2, blk_frozen h.out 3, blk_frozen h.out 4, blk_frozen h.out 5, blk_frozen h.out 6, blk_frozen h.out 7, blk_frozen h.out 8, blk_frozen h.out 9⟩
end
class Far (g : Nat) (W W' : World) : Prop where
  r : ∀ {α : Type} {d : Kd α} {e base : Nat} {ok : Nat → Prop} {v : Value} {xs : List α}, Kd.R d e W base ok v xs → (∀ k, ok k → k ≠ g) → Kd.R d e W' base ok v xs
  s : ∀ {α : Type} {d : Kd α} {e base : Nat} {ok : Nat → Prop} {v : Value} {xs : List α}, Kd.S d e W base ok v xs → (∀ k, ok k → k ≠ g) → Kd.S d e W' base ok v xs
instance (g : Nat) (W : World) : Far g W W := ⟨fun h _ => h, fun h _ => h⟩
instance (g : Nat) (W W' : World) [i : Far g W W'] (n : Nat) : Far g W (W'.drewN n) := ⟨fun h k => Kd.R_drewN (i.r h k) n, fun h k => Kd.S_drewN (i.s h k) n⟩
instance (g : Nat) (W W' : World) [i : Far g W W'] : Far g W W'.drew := ⟨fun h k => Kd.R_drew (i.r h k), fun h k => Kd.S_drew (i.s h k)⟩
instance (g : Nat) (W W' : World) [i : Far g W W'] (o : Obj) : Far g W (W'.alloc o) := ⟨fun h k => Kd.R_alloc (i.r h k) o, fun h k => Kd.S_alloc (i.s h k) o⟩
instance (g j : Nat) (W W' : World) [i : Far g W W'] (u : Value) : Far g W (W'.setCell ⟨g, j, none⟩ u) := ⟨fun h k => Kd.R_far (p := ⟨g, j, none⟩) (i.r h k) k u, fun h k => Kd.S_far (p := ⟨g, j, none⟩) (i.s h k) k u⟩
class In (g : Nat) (l : List Nat) : Prop where h : g ∈ l
instance (g : Nat) (l : List Nat) : In g (g :: l) := ⟨.head _⟩
instance (g a : Nat) (l : List Nat) [i : In g l] : In g (a :: l) := ⟨.tail _ i.h⟩
class Upl (l : List Nat) (W W' : World) : Prop where b : ∀ w : World, (∀ g ∈ l, w.heap.size ≤ g) → Below w.heap.size w W → Below w.heap.size w W'
instance (l : List Nat) (W : World) : Upl l W W := ⟨fun _ _ h => h⟩
instance (l : List Nat) (W W' : World) [i : Upl l W W'] (n : Nat) : Upl l W (W'.drewN n) := ⟨fun w k h => pw_below_drewN (i.b w k h) n⟩
instance (l : List Nat) (W W' : World) [i : Upl l W W'] : Upl l W W'.drew := ⟨fun w k h => below_drew1 (i.b w k h)⟩
instance (l : List Nat) (W W' : World) [i : Upl l W W'] (o : Obj) : Upl l W (W'.alloc o) := ⟨fun w k h => below_alloc (i.b w k h) o⟩
instance (l : List Nat) (g j : Nat) (W W' : World) [i : Upl l W W'] [m : In g l] (u : Value) : Upl l W (W'.setCell ⟨g, j, none⟩ u) := ⟨fun w k h => below_set (i.b w k h) (k g m.h)⟩
theorem pu {α : Type} : (∀ (l : List α) (i : Nat) (v : α), l.toArray.setIfInBounds i v = (l.set i v).toArray) ∧ (∀ (l : List α) (a v : α), (a :: l).set 0 v = v :: l) ∧ (∀ (l : List α) (i : Nat) (a v : α), (a :: l).set (i + 1) v = a :: l.set i v) := ⟨fun _ _ _ => List.setIfInBounds_toArray .., fun _ _ _ => rfl, fun _ _ _ _ => rfl⟩
section
variable {W W' : World} {α : Type} {d : Kd α} {e base : Nat} {ok : Nat → Prop} {v : Value} {xs : List α} {g : Nat} {o : Obj} {w : World}
theorem gE {A : Option Addr} {n : Nat} (h : Aside0 (Kd.C d w A n xs)) (hb : Aside0 (Below w.heap.size w W)) [i : Upw W W'] : Kd.C d W' A n xs := Kd.C_below (Kd.C_below h.out hb.out) i.below
theorem gT1 {a : Nat} (ha : w.heap.size ≤ a) (h : Aside0 (Below w.heap.size w W)) [i : Upl [a] W W'] : Below w.heap.size w W' := i.b w (by simp only [List.mem_cons, List.not_mem_nil, or_false]; rintro g rfl; assumption) h.out
theorem gT2 {a b : Nat} (ha : w.heap.size ≤ a) (hb : w.heap.size ≤ b) (h : Aside0 (Below w.heap.size w W)) [i : Upl [a, b] W W'] : Below w.heap.size w W' := i.b w (by simp only [List.mem_cons, List.not_mem_nil, or_false]; rintro g (rfl | rfl) <;> assumption) h.out
end
end Go.Proofs.Ytngonhgghncdiaa.Up
end
section
namespace Go.Proofs.Ytngonhgghncdiaa.Aid
open Go.RowKit Go.Proofs.YtngonhgghncdiaaW.PrintWords
theorem wrap64_id {n : Int} (h : -9223372036854775808 ≤ n) (h2 : n ≤ 9223372036854775807) : wrap64 n = n := by unfold wrap64; omega
theorem and255 (n : Int) : bits .and .i64 n 255 = n % 256 := by
  have h127 : (BitVec.ofInt 64 255).toNat = 2 ^ 8 - 1 := by decide
  have key : (BitVec.ofInt 64 n &&& BitVec.ofInt 64 255).toNat = (n % ((2 ^ 64 : Nat) : Int)).toNat % 2 ^ 8 := by
    rw [BitVec.toNat_and, BitVec.toNat_ofInt, h127, Nat.and_two_pow_sub_one_eq_mod]
  show IntKind.i64.wrap ((BitVec.ofInt 64 n &&& BitVec.ofInt 64 255).toNat : Nat) = n % 256
  rw [key, IntKind.wrap_i64]
  omega
theorem tmod_nonneg {a b : Int} (ha : 0 ≤ a) (_hb : 0 < b) : Int.tmod a b = a % b := Int.tmod_eq_emod_of_nonneg ha
end Go.Proofs.Ytngonhgghncdiaa.Aid
end
section
namespace Go.Proofs
open Go.Shelf
def Try.sortInt_ren : Go.Shelf.Ren := ⟨fun | 5 => 93 | 8 => 139 | 7 => 138 | 19 => 171 | 20 => 172 | 10 => 162 | 11 => 163 | 12 => 164 | 13 => 165 | 14 => 166 | 15 => 167 | 16 => 168 | 17 => 169 | 18 => 170 | 30 => 181 | 31 => 182 | 32 => 183 | 33 => 184 | 34 => 185 | 35 => 186 | 40 => 188 | n => n, fun | 23 => 26 | 25 => 3 | 3 => 3 | 32 => 121 | 22 => 26 | 0 => 0 | 44 => 203 | 46 => 205 | 4 => 4 | 36 => 198 | 35 => 197 | 41 => 30 | 5 => 5 | 9 => 9 | 53 => 213 | 57 => 217 | 63 => 220 | 64 => 61 | n => n, fun | n => n⟩
theorem Try.sortInt : Go.Proofs.SlLaysM.n5 Try.prog Try.sortInt_ren := {
  mixed := by kernel_rfl
  f5 := ⟨Try.f93.name, by decide, Try.func93.trans (congrArg some (by kernel_rfl))⟩
  f7 := ⟨Try.f138.name, by decide, Try.func138.trans (congrArg some (by kernel_rfl))⟩
  f8 := Try.func139.trans (congrArg some (by kernel_rfl))
  f10 := ⟨Try.f162.name, by decide, Try.func162.trans (congrArg some (by kernel_rfl))⟩
  f11 := ⟨Try.f163.name, by decide, Try.func163.trans (congrArg some (by kernel_rfl))⟩
  f12 := ⟨Try.f164.name, by decide, Try.func164.trans (congrArg some (by kernel_rfl))⟩
  f13 := ⟨Try.f165.name, by decide, Try.func165.trans (congrArg some (by kernel_rfl))⟩
  f14 := ⟨Try.f166.name, by decide, Try.func166.trans (congrArg some (by kernel_rfl))⟩
  f15 := ⟨Try.f167.name, by decide, Try.func167.trans (congrArg some (by kernel_rfl))⟩
  f16 := ⟨Try.f168.name, by decide, Try.func168.trans (congrArg some (by kernel_rfl))⟩
  f17 := ⟨Try.f169.name, by decide, Try.func169.trans (congrArg some (by kernel_rfl))⟩
  f18 := ⟨Try.f170.name, by decide, Try.func170.trans (congrArg some (by kernel_rfl))⟩
  f19 := Try.func171.trans (congrArg some (by kernel_rfl))
  f20 := Try.func172.trans (congrArg some (by kernel_rfl))
  f30 := ⟨Try.f181.name, by decide, Try.func181.trans (congrArg some (by kernel_rfl))⟩
  f31 := Try.func182.trans (congrArg some (by kernel_rfl))
  f32 := Try.func183.trans (congrArg some (by kernel_rfl))
  f33 := ⟨Try.f184.name, by decide, Try.func184.trans (congrArg some (by kernel_rfl))⟩
  f34 := ⟨Try.f185.name, by decide, Try.func185.trans (congrArg some (by kernel_rfl))⟩
  f35 := ⟨Try.f186.name, by decide, Try.func186.trans (congrArg some (by kernel_rfl))⟩
  f40 := ⟨Try.f188.name, by decide, Try.func188.trans (congrArg some (by kernel_rfl))⟩
  t0 := Try.underlying0
  a0 := Try.isAgg0
  z0 := Try.sizeOf0
  v0 := Try.zeroValue0
  t3 := Try.underlying3
  a3 := Try.isAgg3
  z3 := Try.sizeOf3
  v3 := Try.zeroValue3
  t4 := Try.underlying4
  a4 := Try.isAgg4
  z4 := Try.sizeOf4
  v4 := Try.zeroValue4
  t5 := Try.underlying5
  a5 := Try.isAgg5
  z5 := Try.sizeOf5
  v5 := Try.zeroValue5
  t9 := Try.underlying9
  a9 := Try.isAgg9
  z9 := Try.sizeOf9
  v9 := Try.zeroValue9
  t22 := Try.underlying26
  a22 := Try.isAgg26
  z22 := Try.sizeOf26
  v22 := Try.zeroValue26
  t23 := Try.underlying26
  a23 := Try.isAgg26
  z23 := Try.sizeOf26
  v23 := Try.zeroValue26
  t25 := Try.underlying3
  a25 := Try.isAgg3
  z25 := Try.sizeOf3
  v25 := Try.zeroValue3
  t32 := Try.underlying121
  a32 := Try.isAgg121
  z32 := Try.sizeOf121
  v32 := Try.zeroValue121
  t35 := Try.underlying197
  a35 := Try.isAgg197
  z35 := Try.sizeOf197
  v35 := Try.zeroValue197
  t36 := Try.underlying198
  a36 := Try.isAgg198
  z36 := Try.sizeOf198
  v36 := Try.zeroValue198
  t41 := Try.underlying30
  a41 := Try.isAgg30
  z41 := Try.sizeOf30
  v41 := Try.zeroValue30
  t44 := Try.underlying203
  a44 := Try.isAgg203
  z44 := Try.sizeOf203
  v44 := Try.zeroValue203
  t46 := Try.underlying205
  a46 := Try.isAgg205
  z46 := Try.sizeOf205
  v46 := Try.zeroValue205
  t53 := Try.underlying213
  a53 := Try.isAgg213
  z53 := Try.sizeOf213
  v53 := Try.zeroValue213
  t57 := Try.underlying217
  a57 := Try.isAgg217
  z57 := Try.sizeOf217
  v57 := Try.zeroValue217
  t63 := Try.underlying220
  a63 := Try.isAgg220
  z63 := Try.sizeOf220
  v63 := Try.zeroValue220
  t64 := Try.underlying61
  a64 := Try.isAgg61
  z64 := Try.sizeOf61
  v64 := Try.zeroValue61 }
end Go.Proofs
end
section
namespace Go.Proofs.Ytngonhgghncdiaa.Seq
open Go.RowKit Go.Shelf Go.Sort
set_option linter.unusedVariables false
set_option linter.unusedSimpArgs false
attribute [local go_sem] Oper.semAt_some
def Ggi.upto {α : Type} (f : Nat → α) (k : Nat) : List α := (List.range k).map f
theorem Ggi.upto_succ {α : Type} (f : Nat → α) (k : Nat) : Ggi.upto f (k + 1) = Ggi.upto f k ++ [f k] := by simp [Ggi.upto, List.range_succ]
theorem Ggi.upto_length {α : Type} (f : Nat → α) (k : Nat) : (Ggi.upto f k).length = k := by simp [Ggi.upto]
theorem Ggi.upto_all (zs : List Int) : Ggi.upto (fun j => zs[j]?.getD 0) zs.length = zs := by
  apply List.ext_getElem
  · simp [Ggi.upto]
  · intro i h1 h2
    simp [Ggi.upto, h2]
set_option maxRecDepth 100000 in
set_option maxHeartbeats 2000000 in
theorem Ggi.values1_in (F : Fence) (n : Nat) (h7 : F.fn 179) (hro : F.round = none) (hn : 1 ≤ n) (l Bs n₀ b off len cap : Nat) (zs : List Int) (hreach : len * 8 ≤ 140737488351232) (hb : b < n₀) (J Jx : List Int → World → Prop)
    (hY : ∀ pre x W, J pre W → pre.length < len → YieldAt F (n - 1) Try.prog l #[.int .i64 x] W fun e W' =>
      (e = .returned (.bool true) ∧ J (pre ++ [x]) W' ∧ Below n₀ W W') ∨ (e = .returned (.bool false) ∧ Jx (pre ++ [x]) W'))
    (W : World) (hBs : W.cell? ⟨Bs, 0, none⟩ = some (.slice (some ⟨b, off, none⟩) len cap)) (hc : ∀ j, j < len → W.cell? ⟨b, off + j, none⟩ = some (.int .i64 (zs[j]?.getD 0))) (h0 : J [] W) :
    CallsIn F n Try.prog 179 #[.func (.yield l) #[] #[], .pointer (some ⟨Bs, 0, none⟩)] W fun e W' => (∃ v, e = .returned v) ∧
      ((∃ ys, ys = Ggi.upto (fun j => zs[j]?.getD 0) len ∧ J ys W') ∨ (∃ pre, (∃ k, k ≤ len ∧ pre = Ggi.upto (fun j => zs[j]?.getD 0) k) ∧ Jx pre W')) := by
  refine callsIn_of_wp Try.func179 rfl h7 ?_ hro
  simp only [Try.ntmps179, List.size_toArray, List.length_cons, List.length_nil, Nat.reduceAdd, Nat.reduceSub, Array.replicate_succ, Array.replicate_zero, List.push_toArray, List.append_toArray, List.nil_append, List.cons_append]
  gi_wp2
  gi_loopw [7] (fun i wr => ∃ k : Nat, k ≤ len ∧ i = .int .i64 k ∧ J (Ggi.upto (fun j => zs[j]?.getD 0) k) wr ∧ Below n₀ W wr)
    (fun i _ => len - (intOf i).toNat)
  case atStart => exact ⟨0, Nat.zero_le _, rfl, h0, Below.refl _ _⟩
  case round =>
    obtain ⟨k, hk, rfl, hJs, hnx⟩ := hrel
    have hcx : k < len → wr.cell? ⟨b, off + k, none⟩ = some (.int .i64 (zs[k]?.getD 0)) := fun h => (hnx.cell (p := ⟨b, off + k, none⟩) hb).trans (hc k h)
    by_cases hlt : k < len
    · obtain ⟨fn, tmps, assign, body, hy, hR⟩ := hY _ (zs[k]?.getD 0) wr hJs (by rw [Ggi.upto_length]; exact hlt)
      have hcx' := hcx hlt
      gi_wp2
      refine hR.mono ?_
      rintro e W3 (⟨rfl, hJ3, hk3⟩ | ⟨rfl, hJx3⟩)
      ·
        gi_wp2
        go_roundw
        case rel => exact ⟨k + 1, by omega, by simp, by rw [Ggi.upto_succ]; exact hJ3, hnx.trans hk3⟩
        case measure => simp [intOf]; omega
      · gi_wp2
        refine bodyPost_ret (results_none rfl _ _ _) rfl ?_
        exact ⟨⟨_, rfl⟩, .inr ⟨_, ⟨k + 1, by omega, (Ggi.upto_succ _ _).symm⟩, hJx3⟩⟩
    · obtain rfl : k = len := by omega
      gi_wp2
      go_end0
      exact ⟨⟨_, rfl⟩, .inl ⟨_, rfl, hJs⟩⟩
theorem Ggi.upto_take (zs : List Int) {k : Nat} (hk : k ≤ zs.length) : Ggi.upto (fun j => zs[j]?.getD 0) k = zs.take k := by
  apply List.ext_getElem
  · simp [Ggi.upto, hk]
  · intro i h1 h2
    have : i < zs.length := by simp [Ggi.upto] at h1; omega
    simp [Ggi.upto, this]
def Ggi.Ints (n₀ : Nat) (W : World) (sv : Value) (zs : List Int) : Prop :=
  (∃ (A : Option Addr) (c : Nat), sv = .slice A 0 c ∧ zs = []) ∨ ∃ b off cap, sv = .slice (some ⟨b, off, none⟩) zs.length cap ∧ b < n₀ ∧ ∀ j, j < zs.length → W.cell? ⟨b, off + j, none⟩ = some (.int .i64 (zs[j]?.getD 0))
theorem Ggi.Ints.below {n₀ : Nat} {A B : World} (h : Below n₀ A B) {sv : Value} {zs : List Int} : Ggi.Ints n₀ A sv zs → Ggi.Ints n₀ B sv zs
  | .inl e => .inl e
  | .inr ⟨b, off, cap, e, hb, hc⟩ => .inr ⟨b, off, cap, e, hb, fun j hj => (h.cell (p := ⟨b, off + j, none⟩) hb).trans (hc j hj)⟩
set_option maxRecDepth 100000 in
set_option maxHeartbeats 1000000 in
theorem Ggi.values1_nil_in (F : Fence) (n : Nat) (h7 : F.fn 179) (hro : F.round = none) (l Bs : Nat) {A : Option Addr} {c : Nat} (J : List Int → World → Prop) (W : World) (hBs : W.cell? ⟨Bs, 0, none⟩ = some (.slice A 0 c)) (h0 : J [] W) :
    CallsIn F n Try.prog 179 #[.func (.yield l) #[] #[], .pointer (some ⟨Bs, 0, none⟩)] W fun e W' => (∃ v, e = .returned v) ∧ J [] W' := by
  refine callsIn_of_wp Try.func179 rfl h7 ?_ hro
  simp only [Try.ntmps179, List.size_toArray, List.length_cons, List.length_nil, Nat.reduceAdd, Nat.reduceSub, Array.replicate_succ, Array.replicate_zero, List.push_toArray, List.append_toArray, List.nil_append, List.cons_append]
  gi_wp2
  gi_loopw [7] (fun i wr => i = .int .i64 0 ∧ J [] wr) (fun _ _ => 0)
  case atStart => exact ⟨rfl, h0⟩
  case round =>
    obtain ⟨rfl, hJs⟩ := hrel
    gi_wp2
    go_end0
    exact ⟨⟨_, rfl⟩, hJs⟩
set_option maxHeartbeats 1000000 in
theorem Ggi.values_in (F : Fence) (n : Nat) (h5 : F.fn 154) (hro : F.round = none) (a : Option Addr) (len cap : Nat) (w : World) :
    CallsIn F n Try.prog 154 #[.slice a len cap] w fun e w' => e = .returned (.func (.func 179) #[] #[.pointer (some ⟨w.heap.size, 0, none⟩)]) ∧ w' = w.alloc (.cells #[.slice a len cap] 26) := by
  refine callsIn_of_wp Try.func154 rfl h5 ?_ hro
  simp only [Try.ntmps154, List.size_toArray, List.length_cons, List.length_nil, Nat.reduceAdd, Nat.reduceSub, Array.replicate_succ, Array.replicate_zero, List.push_toArray, List.append_toArray, List.nil_append, List.cons_append]
  gi_wp2
  go_ret
  exact ⟨rfl, rfl⟩
theorem Ggi.values_stops (F : Fence) (n : Nat) (h7 : F.fn 179) (hro : F.round = none) (hn : 1 ≤ n) (Bs n₀ : Nat) (sv : Value) (zs : List Int) (hreach : zs.length * 8 ≤ 140737488351232) (w : World) (hBs : Bs < w.heap.size) (hn₀ : n₀ ≤ w.heap.size)
    (hc : w.cell? ⟨Bs, 0, none⟩ = some sv) (hI : Ggi.Ints n₀ w sv zs) :
    SeqStopsK F n Try.prog 179 #[.pointer (some ⟨Bs, 0, none⟩)] (fun x : Int => #[Value.int .i64 x]) (Below n₀) (fun ys => ys = zs) (fun pre => pre <+: zs) zs.length w := fun l J Jx W hW _ _ hY h0 => by
  have hc' := (hW.cell (p := ⟨Bs, 0, none⟩) hBs).trans hc
  rcases hI.below (hW.mono hn₀) with ⟨A, c, rfl, rfl⟩ | ⟨b, off, cap, rfl, hb, hcs⟩
  · exact (Ggi.values1_nil_in F n h7 hro l Bs J W hc' h0).mono fun e W' ⟨he, hj⟩ => ⟨he, .inl ⟨_, rfl, hj⟩⟩
  · refine (Ggi.values1_in F n h7 hro hn l Bs n₀ b off zs.length cap zs hreach hb J Jx hY W hc' hcs h0).mono ?_
    rintro e W' ⟨he, ⟨ys, rfl, hj⟩ | ⟨pre, ⟨k, hk, rfl⟩, hj⟩⟩
    · exact ⟨he, .inl ⟨_, Ggi.upto_all zs, hj⟩⟩
    · exact ⟨he, .inr ⟨_, by rw [Ggi.upto_take zs hk]; exact List.take_prefix _ _, hj⟩⟩
theorem info3 : (Try.prog.info? 3).map (fun i => (i.zero, i.size, i.bytes)) = some (some (.int .i64 0), 1, 8) := by kernel_rfl
set_option maxRecDepth 100000 in
set_option maxHeartbeats 2000000 in
theorem appendSeq_in (F : Fence) (n : Nat) (h187 : F.fn 187) (h179 : F.fn 179) (hro : F.round = none) (hn : 3 ≤ n) (Bs n₀ : Nat) (sv : Value) (zs : List Int) (hlen : zs.length ≤ maxLen) (hreach : zs.length * 8 ≤ 140737488351232) (w : World) (hBs : Bs < w.heap.size) (hn₀ : n₀ ≤ w.heap.size)
    (hc0 : w.cell? ⟨Bs, 0, none⟩ = some sv) (hI : Ggi.Ints n₀ w sv zs) :
    CallsIn F n Try.prog 187 #[.slice none 0 0, .func (.func 179) #[] #[.pointer (some ⟨Bs, 0, none⟩)]] w fun e W' => ∃ v, e = .returned v ∧ W'.ownsRow w.heap.size 3 1 v zs.length (zs.map (Value.int .i64)) ∧ (v = .slice none 0 0 ↔ zs = []) ∧ Below w.heap.size w W' := by
  have h1 : 1 ≤ n := by omega
  obtain ⟨i0, hi, hz0, hz1, hz2⟩ := info_parts info3
  refine callsIn_of_wp_marks Try.func187 rfl h187 ?_ hro
  simp only [Try.ntmps187, List.size_toArray, List.length_cons, List.length_nil, Nat.reduceAdd, Nat.reduceSub, Array.replicate_succ, Array.replicate_zero, List.push_toArray, List.append_toArray, List.nil_append, List.cons_append]
  gi_wp2
  have bO := Boxed.new w 26 (.slice none 0 0)
  have hB0 : Below w.heap.size w (w.alloc (.cells #[.slice none 0 0] 26)) := (Below.refl _ w).alloc (Nat.le_refl _) _
  refine wpIn_rangeFunc_ownG hro h1 (gf := 179) (lb := #[.pointer (some ⟨Bs, 0, none⟩)]) rfl h179 (enters_of Try.func179 (by kernel_rfl) rfl)
    (Ggi.values_stops F (n - 1) h179 hro (by omega) Bs n₀ sv zs hreach (w.alloc (.cells #[.slice none 0 0] 26)) (by rw [World.size_alloc]; omega) (by rw [World.size_alloc]; omega) ((hB0.cell (p := ⟨Bs, 0, none⟩) hBs).trans hc0) (hI.below (hB0.mono hn₀))) belowK_t (belowK_b (by simp; omega)) (Below.refl _ _) (fun _ => rfl)
    (fun pre W => (∃ v, Boxed W w.heap.size 26 v ∧ W.ownsRow w.heap.size 3 1 v pre.length (pre.map (Value.int .i64)) ∧ (v = .slice none 0 0 ↔ pre = [])) ∧ Below w.heap.size w W)
    (fun _ _ _ => False)
    (OwnFrom.and (Own.from (holdsRow_own w.heap.size w.heap.size 26 3 1 (fun pre : List Int => pre.length) (fun pre => pre.map (Value.int .i64)) (fun pre v => v = .slice none 0 0 ↔ pre = [])) _) (ownFrom_below (Nat.le_refl _) (by rw [World.size_alloc]; omega)))
    (fun _ _ _ _ _ hs _ _ => hs)
    ⟨⟨_, bO, World.ownsRow_nil _ _ _ _, by simp⟩, hB0⟩
    (fun x => { tmps := #[.slice none 0 0, .func (.func 179) #[] #[.pointer (some ⟨Bs, 0, none⟩)], .pointer (some ⟨w.heap.size, 0, none⟩), undef, .slice none 0 0, .int .i64 x, .func (.func 179) #[] #[.pointer (some ⟨Bs, 0, none⟩)], .int .i64 x, undef, undef, undef, undef, undef], defers := [] }) ?assign ?body ?done ?stop
  case assign =>
    intro l x W K hK
    gi_wp2
    exact hK
  case body =>
    rintro l pre x W ⟨⟨v, hv, hrow, hnil⟩, hB⟩ hlt
    have hc := hv.cell
    gi_wp2_with (gi_at_builtin; refine wpListIn_append_own _ rfl _ _ 26 rfl w.heap.size 3 i0 (.int .i64 0) 1 8 Try.underlying26 hi hz0 hz1 hz2 rfl (by decide) _ _ _ rfl (hrow.alloc _) ⟨W.heap.size, 0, none⟩ 1 1 [.int .i64 x] rfl rfl (cell_one_new _ _ _) (by simp [Value.oneCell']) (by omega) (by omega) (by have := hB.size; simp; omega) ?_; intro v' w1 hown' hgrow _; obtain ⟨g', cap', rfl⟩ := ownsRow_succ hown'; obtain ⟨hv1, hv2, hr2, hk2, hb2⟩ := hv.appended (by decide) hrow hB.size (Nat.le_refl _) hown' hgrow; have hc1 := hv1.cell; have hf1 := hv1.frozen)
    exact ⟨hk2.from _, hb2.mono (by omega), ⟨_, hv2, by simpa using hr2, by simp⟩, hB.trans hb2⟩
  case done =>
    rintro D ys W hD rfl ⟨⟨v, hv, hrow, hnil⟩, hB⟩ hK
    have hc := hv.cell
    gi_wp2
    refine ⟨by simp, .inl ⟨_, _, rfl, run_takeDeferred hK, ?_⟩⟩
    exact ⟨_, results_tmp rfl _ _ _, v, rfl, ownsRow_putObj hrow _ hK rfl, hnil, hB.trans (belowK_b (w := w) (Nat.le_refl _) W D _ _ (by simp at hD; omega) hK rfl rfl)⟩
  case stop =>
    rintro D c pre W _ _ h _
    exact h.elim
set_option maxHeartbeats 1000000 in
theorem collect_in (F : Fence) (n : Nat) (h178 : F.fn 178) (h187 : F.fn 187) (h179 : F.fn 179) (hro : F.round = none) (hn : 4 ≤ n) (Bs n₀ : Nat) (sv : Value) (zs : List Int) (hlen : zs.length ≤ maxLen) (hreach : zs.length * 8 ≤ 140737488351232) (w : World) (hBs : Bs < w.heap.size) (hn₀ : n₀ ≤ w.heap.size)
    (hc0 : w.cell? ⟨Bs, 0, none⟩ = some sv) (hI : Ggi.Ints n₀ w sv zs) :
    CallsIn F n Try.prog 178 #[.func (.func 179) #[] #[.pointer (some ⟨Bs, 0, none⟩)]] w fun e W' => ∃ v, e = .returned v ∧ W'.ownsRow w.heap.size 3 1 v zs.length (zs.map (Value.int .i64)) ∧ (v = .slice none 0 0 ↔ zs = []) ∧ Below w.heap.size w W' := by
  have h1 : 1 ≤ n := by omega
  refine callsIn_of_wp Try.func178 rfl h178 ?_ hro
  simp only [Try.ntmps178, List.size_toArray, List.length_cons, List.length_nil, Nat.reduceAdd, Nat.reduceSub, Array.replicate_succ, Array.replicate_zero, List.push_toArray, List.append_toArray, List.nil_append, List.cons_append]
  gi_wp2_with (gi_at_call 187; refine (appendSeq_in F (n - 1) h187 h179 hro (by omega) Bs n₀ sv zs hlen hreach _ hBs hn₀ hc0 hI).mono ?_; rintro e W ⟨v, rfl, hrow, hnil, hb⟩)
  go_ret
  exact ⟨v, rfl, hrow, hnil, hb⟩
def SortsIn (F : Fence) (m : Nat) : Prop :=
  (∀ (blk off cap : Nat) (ss : List Int) (W : World), Sort.Holds (Value.int .i64) W blk off ss.toArray → blk < W.heap.size → ss.length < 4611686018427387904 →
    CallsIn F m Try.prog 93 #[.slice (some ⟨blk, off, none⟩) ss.length cap] W fun e w' => e = .returned (.tuple #[]) ∧ ∃ k os, w' = Sort.grow (Sort.putRow (Value.int .i64) (Sort.ahead W k) blk off (ss.mergeSort fun x y => decide (x ≤ y)).toArray) os) ∧
  (∀ (p : Option Addr) (cap : Nat) (W : World), CallsIn F m Try.prog 93 #[.slice p 0 cap] W fun e w' => e = .returned (.tuple #[]) ∧ w' = W)
set_option maxRecDepth 100000 in
set_option maxHeartbeats 2000000 in
theorem sorted_in (F : Fence) (n : Nat) (h153 : F.fn 153) (h93 : F.fn 93) (h178 : F.fn 178) (h187 : F.fn 187) (h179 : F.fn 179) (hro : F.round = none) (hn : 5 ≤ n) (hsort : SortsIn F (n - 1)) (Bs n₀ : Nat) (sv : Value) (zs : List Int) (hlen : zs.length ≤ maxLen) (hreach : zs.length * 8 ≤ 140737488351232) (w : World) (hBs : Bs < w.heap.size) (hn₀ : n₀ ≤ w.heap.size)
    (hc0 : w.cell? ⟨Bs, 0, none⟩ = some sv) (hI : Ggi.Ints n₀ w sv zs) :
    CallsIn F n Try.prog 153 #[.func (.func 179) #[] #[.pointer (some ⟨Bs, 0, none⟩)]] w fun e W' => ∃ v, e = .returned v ∧ W'.ownsRow w.heap.size 3 1 v zs.length ((zs.mergeSort fun x y => decide (x ≤ y)).map (Value.int .i64)) ∧ Below w.heap.size w W' := by
  have h1 : 1 ≤ n := by omega
  refine callsIn_of_wp Try.func153 rfl h153 ?_ hro
  simp only [Try.ntmps153, List.size_toArray, List.length_cons, List.length_nil, Nat.reduceAdd, Nat.reduceSub, Array.replicate_succ, Array.replicate_zero, List.push_toArray, List.append_toArray, List.nil_append, List.cons_append]
  gi_wp2_with (gi_at_call 178; refine (collect_in F (n - 1) h178 h187 h179 hro (by omega) Bs n₀ sv zs hlen hreach _ hBs hn₀ hc0 hI).mono ?_; rintro e W ⟨v, rfl, hrow, hnil, hb⟩)
  rcases hrow.2 with ⟨rfl, hz⟩ | ⟨gb, cap, cur, rfl, hbase, hgb, r1, r2, r3, r4⟩
  · have hss : zs = [] := List.eq_nil_of_length_eq_zero hz
    subst hss
    gi_wp2_with (gi_at_call 93; refine (hsort.2 none 0 W).mono ?_; rintro e w' ⟨rfl, rfl⟩)
    go_ret
    exact ⟨.slice none 0 0, rfl, by simpa using hrow, hb⟩
  · have hH : Sort.Holds (Value.int .i64) W gb 0 zs.toArray := holds_of_blockI hgb (by simpa using r4)
    have hgl : gb < W.heap.size := (Array.getElem?_eq_some_iff.1 hgb).1
    have cS := hsort.1 gb 0 cap zs W hH hgl (by have : maxLen = maxLen := rfl; unfold maxLen at hlen; omega)
    gi_wp2_with (gi_at_call 93; refine cS.mono ?_; rintro e w' ⟨rfl, nn, os, rfl⟩)
    go_ret
    exact ⟨_, rfl, ownsRow_sortedI (List.length_mergeSort _) hbase hgb r1 r2 r3, hb.grown (grownBy_sortedI _) hb.size (fun j hj => by cases hj; exact hbase)⟩
theorem sorts (m : Nat) : SortsIn Fence.wide m :=
  ⟨fun blk off cap ss W hH hblk hsz => callsIn_wide.2 (AnyM.slices_Sort_int Try.sortInt blk off cap ss W hH hblk hsz),
   fun p cap W => callsIn_wide.2 (AnyM.slices_Sort_int_none Try.sortInt p cap W)⟩
theorem values_calls (a : Option Addr) (len cap : Nat) (w : World) : Calls Try.prog 154 #[.slice a len cap] w fun e w' => e = .returned (.func (.func 179) #[] #[.pointer (some ⟨w.heap.size, 0, none⟩)]) ∧ w' = w.alloc (.cells #[.slice a len cap] 26) :=
  (callsIn_wide (n := 6)).1 (Ggi.values_in Fence.wide 6 trivial rfl a len cap w)
theorem sorted_calls (Bs n₀ : Nat) (sv : Value) (zs : List Int) (hlen : zs.length ≤ maxLen) (hreach : zs.length * 8 ≤ 140737488351232) (w : World) (hBs : Bs < w.heap.size) (hn₀ : n₀ ≤ w.heap.size)
    (hc0 : w.cell? ⟨Bs, 0, none⟩ = some sv) (hI : Ggi.Ints n₀ w sv zs) :
    Calls Try.prog 153 #[.func (.func 179) #[] #[.pointer (some ⟨Bs, 0, none⟩)]] w fun e W' => ∃ v, e = .returned v ∧ W'.ownsRow w.heap.size 3 1 v zs.length ((zs.mergeSort fun x y => decide (x ≤ y)).map (Value.int .i64)) ∧ Below w.heap.size w W' :=
  (callsIn_wide (n := 6)).1 (sorted_in Fence.wide 6 trivial trivial trivial trivial trivial rfl (by omega) (sorts _) Bs n₀ sv zs hlen hreach w hBs hn₀ hc0 hI)
end Go.Proofs.Ytngonhgghncdiaa.Seq
end
section
namespace Go.Proofs.Ytngonhgghncdiaa.P
open Go.Proofs.Ytngonhgghncdiaa.Up Go.Proofs.Ytngonhgghncdiaa
open Go.RowKit Go.Proofs.YtngonhgghncdiaaW.PrintWords Go.Proofs.YtngonhgghncdiaaW.PrintLast Go.Proofs.YtngonhgghncdiaaW.PrintMore
attribute [local go_sem] max2_int min2_int max_two min_two max_three min_three max_four min_four
set_option linter.unusedVariables false
set_option linter.unusedSimpArgs false
def impl_within.f (a0 : Int) (a1 : Int) (a2 : Int) : Option (Bool) := if a0 ≥ a1 then (some (decide (a0 ≤ a2))) else (some false)
set_option maxHeartbeats 8000000 in
set_option maxRecDepth 100000 in
theorem impl_within.calls (a0 : Int) (a1 : Int) (a2 : Int) (r : Bool) (w : World) (h : impl_within.f a0 a1 a2 = some r) :
    Calls Try.prog 35 #[.int .i64 a0, .int .i64 a1, .int .i64 a2] w fun e w' => e = .returned (.bool r) ∧ Drawn0 w w' := by
  have H : (if a0 ≥ a1 then (some (decide (a0 ≤ a2))) else (some false)) = some r := h
  clear h
  by_cases c4 : a0 ≥ a1
  · rw [if_pos c4] at H
    have c4b0 : decide (a1 ≤ a0) = true := decide_eq_true c4
    clear c4
    obtain rfl := Option.some.inj H
    go_enter Try.func35, Try.ntmps35
    go_wp2
    go_ret
    exact ⟨by first | rfl | (simp; done) | (simp [*]; done), by repeat (first | exact Drawn0.refl _ | apply Drawn0.step)⟩
  · rw [if_neg c4] at H
    have c4b0 : decide (a1 ≤ a0) = false := decide_eq_false c4
    clear c4
    obtain rfl := Option.some.inj H
    go_enter Try.func35, Try.ntmps35
    go_wp2
    go_ret
    exact ⟨by first | rfl | (simp; done) | (simp [*]; done), by repeat (first | exact Drawn0.refl _ | apply Drawn0.step)⟩
def IsS41 (w0 W : World) (g : Nat) (f0 : List (List Int)) (f1 : List Int) (f2 : List (S124)) (f3 : List (S131)) (f4 : List (S134)) (f5 : Int) (f6 : List (S79)) (f7 : List (S138)) (f8 : List Int) (f9 : List Int) : Prop := ∃ A0 c0, ∃ A1 c1, ∃ A2 c2, ∃ A3 c3, ∃ A4 c4, ∃ A6 c6, ∃ A7 c7, ∃ A8 c8, ∃ A9 c9, W.heap[g]? = some (.cells #[.slice A0 f0.length c0, .slice A1 f1.length c1, .slice A2 f2.length c2, .slice A3 f3.length c3, .slice A4 f4.length c4, .int .i64 f5, .slice A6 f6.length c6, .slice A7 f7.length c7, .slice A8 f8.length c8, .slice A9 f9.length c9] 41 (0, 0)) ∧ w0.heap.size ≤ g ∧ Kd.C (Kd.slice 3 (Kd.int .i64)) w0 A0 f0.length f0 ∧ Kd.C (Kd.int .i64) w0 A1 f1.length f1 ∧ Kd.C k124 w0 A2 f2.length f2 ∧ Kd.C k131 w0 A3 f3.length f3 ∧ Kd.C k134 w0 A4 f4.length f4 ∧ Kd.C k79 w0 A6 f6.length f6 ∧ Kd.C k138 w0 A7 f7.length f7 ∧ Kd.C (Kd.int .i64) w0 A8 f8.length f8 ∧ Kd.C (Kd.int .i64) w0 A9 f9.length f9
theorem IsS41.grown {w0 W : World} {g : Nat} {f0 : List (List Int)} {f1 : List Int} {f2 : List (S124)} {f3 : List (S131)} {f4 : List (S134)} {f5 : Int} {f6 : List (S79)} {f7 : List (S138)} {f8 : List Int} {f9 : List Int} {W1 : World} {row : Option Nat} (h : IsS41 w0 W g f0 f1 f2 f3 f4 f5 f6 f7 f8 f9) (hw : W.grownBy W1 row) (hne : some g ≠ row) : IsS41 w0 W1 g f0 f1 f2 f3 f4 f5 f6 f7 f8 f9 := by
 obtain ⟨A0, c0, A1, c1, A2, c2, A3, c3, A4, c4, A6, c6, A7, c7, A8, c8, A9, c9, hb, hg, hr0, hr1, hr2, hr3, hr4, hr6, hr7, hr8, hr9⟩ := h
 exact ⟨A0, c0, A1, c1, A2, c2, A3, c3, A4, c4, A6, c6, A7, c7, A8, c8, A9, c9, blk_grown hb hw hne, hg, hr0, hr1, hr2, hr3, hr4, hr6, hr7, hr8, hr9⟩
theorem IsS41.own_neN {w0 W : World} {g : Nat} {f0 : List (List Int)} {f1 : List Int} {f2 : List (S124)} {f3 : List (S131)} {f4 : List (S134)} {f5 : Int} {f6 : List (S79)} {f7 : List (S138)} {f8 : List Int} {f9 : List Int} {α : Type} {d : Kd α} {e : Nat} {base : Nat} {ok : Nat → Prop} {v : Value} {xs : List α} (h : IsS41 w0 W g f0 f1 f2 f3 f4 f5 f6 f7 f8 f9) (ho : Kd.N d e W base ok v xs) (ht : e ≠ 41) : some g ≠ v.ownBlock := by
 obtain ⟨A0, c0, A1, c1, A2, c2, A3, c3, A4, c4, A6, c6, A7, c7, A8, c8, A9, c9, hb, hg, hr0, hr1, hr2, hr3, hr4, hr6, hr7, hr8, hr9⟩ := h; exact Kd.N_ne ho hb ht
theorem IsS41.fresh {w0 W : World} {g : Nat} {f0 : List (List Int)} {f1 : List Int} {f2 : List (S124)} {f3 : List (S131)} {f4 : List (S134)} {f5 : Int} {f6 : List (S79)} {f7 : List (S138)} {f8 : List Int} {f9 : List Int} (h : IsS41 w0 W g f0 f1 f2 f3 f4 f5 f6 f7 f8 f9) : ∀ k, W.heap.size ≤ k → k ≠ g := by
 obtain ⟨A0, c0, A1, c1, A2, c2, A3, c3, A4, c4, A6, c6, A7, c7, A8, c8, A9, c9, hb, hg, hr0, hr1, hr2, hr3, hr4, hr6, hr7, hr8, hr9⟩ := h; exact Kd.freshB hb
theorem IsS41.kept {w0 W : World} {g : Nat} {f0 : List (List Int)} {f1 : List Int} {f2 : List (S124)} {f3 : List (S131)} {f4 : List (S134)} {f5 : Int} {f6 : List (S79)} {f7 : List (S138)} {f8 : List Int} {f9 : List Int} {W1 : World} {S : Nat → Prop} (h : IsS41 w0 W g f0 f1 f2 f3 f4 f5 f6 f7 f8 f9) (hk : Kept W W1 S) (hne : ¬ S g) : IsS41 w0 W1 g f0 f1 f2 f3 f4 f5 f6 f7 f8 f9 := by
 obtain ⟨A0, c0, A1, c1, A2, c2, A3, c3, A4, c4, A6, c6, A7, c7, A8, c8, A9, c9, hb, hg, hr0, hr1, hr2, hr3, hr4, hr6, hr7, hr8, hr9⟩ := h
 exact ⟨A0, c0, A1, c1, A2, c2, A3, c3, A4, c4, A6, c6, A7, c7, A8, c8, A9, c9, blk_kept hb hk hne, hg, hr0, hr1, hr2, hr3, hr4, hr6, hr7, hr8, hr9⟩
theorem IsS41.below {w0 W : World} {g : Nat} {f0 : List (List Int)} {f1 : List Int} {f2 : List (S124)} {f3 : List (S131)} {f4 : List (S134)} {f5 : Int} {f6 : List (S79)} {f7 : List (S138)} {f8 : List Int} {f9 : List Int} {W1 : World} (h : IsS41 w0 W g f0 f1 f2 f3 f4 f5 f6 f7 f8 f9) (hw : Below W.heap.size W W1) : IsS41 w0 W1 g f0 f1 f2 f3 f4 f5 f6 f7 f8 f9 := h.grown (grown_of_below hw none) (by simp)
theorem IsS41.alloc {w0 W : World} {g : Nat} {f0 : List (List Int)} {f1 : List Int} {f2 : List (S124)} {f3 : List (S131)} {f4 : List (S134)} {f5 : Int} {f6 : List (S79)} {f7 : List (S138)} {f8 : List Int} {f9 : List Int} (h : IsS41 w0 W g f0 f1 f2 f3 f4 f5 f6 f7 f8 f9) (o : Obj) : IsS41 w0 (W.alloc o) g f0 f1 f2 f3 f4 f5 f6 f7 f8 f9 := h.below (below_alloc (Below.refl _ _) o)
theorem IsS41.drewN {w0 W : World} {g : Nat} {f0 : List (List Int)} {f1 : List Int} {f2 : List (S124)} {f3 : List (S131)} {f4 : List (S134)} {f5 : Int} {f6 : List (S79)} {f7 : List (S138)} {f8 : List Int} {f9 : List Int} (h : IsS41 w0 W g f0 f1 f2 f3 f4 f5 f6 f7 f8 f9) (m : Nat) : IsS41 w0 (W.drewN m) g f0 f1 f2 f3 f4 f5 f6 f7 f8 f9 := h
theorem IsS41.drew {w0 W : World} {g : Nat} {f0 : List (List Int)} {f1 : List Int} {f2 : List (S124)} {f3 : List (S131)} {f4 : List (S134)} {f5 : Int} {f6 : List (S79)} {f7 : List (S138)} {f8 : List Int} {f9 : List Int} (h : IsS41 w0 W g f0 f1 f2 f3 f4 f5 f6 f7 f8 f9) : IsS41 w0 W.drew g f0 f1 f2 f3 f4 f5 f6 f7 f8 f9 := h
theorem IsS41.at_ {w0 W : World} {g : Nat} {f0 : List (List Int)} {f1 : List Int} {f2 : List (S124)} {f3 : List (S131)} {f4 : List (S134)} {f5 : Int} {f6 : List (S79)} {f7 : List (S138)} {f8 : List Int} {f9 : List Int} {w' : World} {m : Nat} (hq : W.drewN m = w') (h : IsS41 w0 W g f0 f1 f2 f3 f4 f5 f6 f7 f8 f9) : IsS41 w0 w' g f0 f1 f2 f3 f4 f5 f6 f7 f8 f9 := by subst hq; exact IsS41.drewN h m
theorem IsS41.apart {w0 W : World} {g : Nat} {f0 : List (List Int)} {f1 : List Int} {f2 : List (S124)} {f3 : List (S131)} {f4 : List (S134)} {f5 : Int} {f6 : List (S79)} {f7 : List (S138)} {f8 : List Int} {f9 : List Int} {α : Type} {d : Kd α} {e : Nat} {base : Nat} {ok : Nat → Prop} {v : Value} {xs : List α} (h : IsS41 w0 W g f0 f1 f2 f3 f4 f5 f6 f7 f8 f9) (ho : d.R e W base ok v xs) (ht : ∀ q, q ∈ e :: d.E → q ≠ 41) : d.R e W base (fun k => ok k ∧ k ≠ g) v xs := by
 obtain ⟨A0, c0, A1, c1, A2, c2, A3, c3, A4, c4, A6, c6, A7, c7, A8, c8, A9, c9, hb, hg, hr0, hr1, hr2, hr3, hr4, hr6, hr7, hr8, hr9⟩ := h; exact Kd.R_types ho hb ht
theorem IsS41.own_ne {w0 W : World} {g : Nat} {f0 : List (List Int)} {f1 : List Int} {f2 : List (S124)} {f3 : List (S131)} {f4 : List (S134)} {f5 : Int} {f6 : List (S79)} {f7 : List (S138)} {f8 : List Int} {f9 : List Int} {α : Type} {d : Kd α} {e : Nat} {base : Nat} {ok : Nat → Prop} {v : Value} {xs : List α} (h : IsS41 w0 W g f0 f1 f2 f3 f4 f5 f6 f7 f8 f9) (ho : d.R e W base ok v xs) (ht : e ≠ 41) : some g ≠ v.ownBlock := by
 obtain ⟨A0, c0, A1, c1, A2, c2, A3, c3, A4, c4, A6, c6, A7, c7, A8, c8, A9, c9, hb, hg, hr0, hr1, hr2, hr3, hr4, hr6, hr7, hr8, hr9⟩ := h; exact Kd.R_ne ho hb ht
theorem IsS41.apartQ {w0 W : World} {g : Nat} {f0 : List (List Int)} {f1 : List Int} {f2 : List (S124)} {f3 : List (S131)} {f4 : List (S134)} {f5 : Int} {f6 : List (S79)} {f7 : List (S138)} {f8 : List Int} {f9 : List Int} {α : Type} {d : Kd α} {e : Nat} {base : Nat} {ok : Nat → Prop} {v : Value} {xs : List α} (h : IsS41 w0 W g f0 f1 f2 f3 f4 f5 f6 f7 f8 f9) (ho : d.Q e W base ok v xs) (ht : ∀ q, q ∈ e :: d.E → q ≠ 41) : d.Q e W base (fun k => ok k ∧ k ≠ g) v xs := by
 obtain ⟨A0, c0, A1, c1, A2, c2, A3, c3, A4, c4, A6, c6, A7, c7, A8, c8, A9, c9, hb, hg, hr0, hr1, hr2, hr3, hr4, hr6, hr7, hr8, hr9⟩ := h; exact Kd.Q_types ho hb ht
theorem IsS41.own_neQ {w0 W : World} {g : Nat} {f0 : List (List Int)} {f1 : List Int} {f2 : List (S124)} {f3 : List (S131)} {f4 : List (S134)} {f5 : Int} {f6 : List (S79)} {f7 : List (S138)} {f8 : List Int} {f9 : List Int} {α : Type} {d : Kd α} {e : Nat} {base : Nat} {ok : Nat → Prop} {v : Value} {xs : List α} (h : IsS41 w0 W g f0 f1 f2 f3 f4 f5 f6 f7 f8 f9) (ho : d.Q e W base ok v xs) (ht : e ≠ 41) : some g ≠ v.ownBlock := by
 obtain ⟨A0, c0, A1, c1, A2, c2, A3, c3, A4, c4, A6, c6, A7, c7, A8, c8, A9, c9, hb, hg, hr0, hr1, hr2, hr3, hr4, hr6, hr7, hr8, hr9⟩ := h; exact Kd.Q_ne ho hb ht
theorem IsS41.apartS {w0 W : World} {g : Nat} {f0 : List (List Int)} {f1 : List Int} {f2 : List (S124)} {f3 : List (S131)} {f4 : List (S134)} {f5 : Int} {f6 : List (S79)} {f7 : List (S138)} {f8 : List Int} {f9 : List Int} {α : Type} {d : Kd α} {e : Nat} {base : Nat} {ok : Nat → Prop} {v : Value} {xs : List α} (h : IsS41 w0 W g f0 f1 f2 f3 f4 f5 f6 f7 f8 f9) (ho : d.S e W base ok v xs) (ht : ∀ q, q ∈ e :: d.E → q ≠ 41) : d.S e W base (fun k => ok k ∧ k ≠ g) v xs := by
 obtain ⟨A0, c0, A1, c1, A2, c2, A3, c3, A4, c4, A6, c6, A7, c7, A8, c8, A9, c9, hb, hg, hr0, hr1, hr2, hr3, hr4, hr6, hr7, hr8, hr9⟩ := h; exact Kd.S_types ho hb ht
theorem IsS41.own_neS {w0 W : World} {g : Nat} {f0 : List (List Int)} {f1 : List Int} {f2 : List (S124)} {f3 : List (S131)} {f4 : List (S134)} {f5 : Int} {f6 : List (S79)} {f7 : List (S138)} {f8 : List Int} {f9 : List Int} {α : Type} {d : Kd α} {e : Nat} {base : Nat} {ok : Nat → Prop} {v : Value} {xs : List α} (h : IsS41 w0 W g f0 f1 f2 f3 f4 f5 f6 f7 f8 f9) (ho : d.S e W base ok v xs) (ht : e ≠ 41) : some g ≠ v.ownBlock := by
 obtain ⟨A0, c0, A1, c1, A2, c2, A3, c3, A4, c4, A6, c6, A7, c7, A8, c8, A9, c9, hb, hg, hr0, hr1, hr2, hr3, hr4, hr6, hr7, hr8, hr9⟩ := h; exact Kd.S_ne ho hb ht
theorem IsS41.lt {w0 W : World} {g : Nat} {f0 : List (List Int)} {f1 : List Int} {f2 : List (S124)} {f3 : List (S131)} {f4 : List (S134)} {f5 : Int} {f6 : List (S79)} {f7 : List (S138)} {f8 : List Int} {f9 : List Int} (h : IsS41 w0 W g f0 f1 f2 f3 f4 f5 f6 f7 f8 f9) : g < W.heap.size := by
 obtain ⟨A0, c0, A1, c1, A2, c2, A3, c3, A4, c4, A6, c6, A7, c7, A8, c8, A9, c9, hb, hg, hr0, hr1, hr2, hr3, hr4, hr6, hr7, hr8, hr9⟩ := h; exact blk_lt hb
theorem IsS41.ge {w0 W : World} {g : Nat} {f0 : List (List Int)} {f1 : List Int} {f2 : List (S124)} {f3 : List (S131)} {f4 : List (S134)} {f5 : Int} {f6 : List (S79)} {f7 : List (S138)} {f8 : List Int} {f9 : List Int} (h : IsS41 w0 W g f0 f1 f2 f3 f4 f5 f6 f7 f8 f9) : w0.heap.size ≤ g := by
 obtain ⟨A0, c0, A1, c1, A2, c2, A3, c3, A4, c4, A6, c6, A7, c7, A8, c8, A9, c9, hb, hg, hr0, hr1, hr2, hr3, hr4, hr6, hr7, hr8, hr9⟩ := h; exact hg
theorem IsS41.ne_blk {w0 W : World} {g : Nat} {f0 : List (List Int)} {f1 : List Int} {f2 : List (S124)} {f3 : List (S131)} {f4 : List (S134)} {f5 : Int} {f6 : List (S79)} {f7 : List (S138)} {f8 : List Int} {f9 : List Int} {a : Nat} {cs : Array Value} {t : TypeId} {fr : Nat × Nat} (h : IsS41 w0 W g f0 f1 f2 f3 f4 f5 f6 f7 f8 f9) (hb2 : W.heap[a]? = some (.cells cs t fr)) (ht : t ≠ 41) : g ≠ a := by
 obtain ⟨A0, c0, A1, c1, A2, c2, A3, c3, A4, c4, A6, c6, A7, c7, A8, c8, A9, c9, hb, hg, hr0, hr1, hr2, hr3, hr4, hr6, hr7, hr8, hr9⟩ := h; rintro rfl; rw [hb] at hb2; injection hb2 with hb2; injection hb2 with _ ht2; exact ht ht2.symm
theorem IsS41.far {w0 W : World} {g : Nat} {f0 : List (List Int)} {f1 : List Int} {f2 : List (S124)} {f3 : List (S131)} {f4 : List (S134)} {f5 : Int} {f6 : List (S79)} {f7 : List (S138)} {f8 : List Int} {f9 : List Int} {p : Addr} (h : IsS41 w0 W g f0 f1 f2 f3 f4 f5 f6 f7 f8 f9) (hne : g ≠ p.block) (u : Value) : IsS41 w0 (W.setCell p u) g f0 f1 f2 f3 f4 f5 f6 f7 f8 f9 := by
 obtain ⟨A0, c0, A1, c1, A2, c2, A3, c3, A4, c4, A6, c6, A7, c7, A8, c8, A9, c9, hb, hg, hr0, hr1, hr2, hr3, hr4, hr6, hr7, hr8, hr9⟩ := h
 exact ⟨A0, c0, A1, c1, A2, c2, A3, c3, A4, c4, A6, c6, A7, c7, A8, c8, A9, c9, blk_far hb hne u, hg, hr0, hr1, hr2, hr3, hr4, hr6, hr7, hr8, hr9⟩
theorem cellS41_0 {W : World} {g : Nat} {A0 : Option Addr} {c0 : Nat} {A1 : Option Addr} {c1 : Nat} {A2 : Option Addr} {c2 : Nat} {A3 : Option Addr} {c3 : Nat} {A4 : Option Addr} {c4 : Nat} {A6 : Option Addr} {c6 : Nat} {A7 : Option Addr} {c7 : Nat} {A8 : Option Addr} {c8 : Nat} {A9 : Option Addr} {c9 : Nat} {f0 : List (List Int)} {f1 : List Int} {f2 : List (S124)} {f3 : List (S131)} {f4 : List (S134)} {f5 : Int} {f6 : List (S79)} {f7 : List (S138)} {f8 : List Int} {f9 : List Int} (h : W.heap[g]? = some (.cells #[.slice A0 f0.length c0, .slice A1 f1.length c1, .slice A2 f2.length c2, .slice A3 f3.length c3, .slice A4 f4.length c4, .int .i64 f5, .slice A6 f6.length c6, .slice A7 f7.length c7, .slice A8 f8.length c8, .slice A9 f9.length c9] 41 (0, 0))) : W.cell? ⟨g, 0, none⟩ = some (.slice A0 f0.length c0) := (blk_cell h 0).trans rfl
theorem cellS41_1 {W : World} {g : Nat} {A0 : Option Addr} {c0 : Nat} {A1 : Option Addr} {c1 : Nat} {A2 : Option Addr} {c2 : Nat} {A3 : Option Addr} {c3 : Nat} {A4 : Option Addr} {c4 : Nat} {A6 : Option Addr} {c6 : Nat} {A7 : Option Addr} {c7 : Nat} {A8 : Option Addr} {c8 : Nat} {A9 : Option Addr} {c9 : Nat} {f0 : List (List Int)} {f1 : List Int} {f2 : List (S124)} {f3 : List (S131)} {f4 : List (S134)} {f5 : Int} {f6 : List (S79)} {f7 : List (S138)} {f8 : List Int} {f9 : List Int} (h : W.heap[g]? = some (.cells #[.slice A0 f0.length c0, .slice A1 f1.length c1, .slice A2 f2.length c2, .slice A3 f3.length c3, .slice A4 f4.length c4, .int .i64 f5, .slice A6 f6.length c6, .slice A7 f7.length c7, .slice A8 f8.length c8, .slice A9 f9.length c9] 41 (0, 0))) : W.cell? ⟨g, 1, none⟩ = some (.slice A1 f1.length c1) := (blk_cell h 1).trans rfl
theorem cellS41_2 {W : World} {g : Nat} {A0 : Option Addr} {c0 : Nat} {A1 : Option Addr} {c1 : Nat} {A2 : Option Addr} {c2 : Nat} {A3 : Option Addr} {c3 : Nat} {A4 : Option Addr} {c4 : Nat} {A6 : Option Addr} {c6 : Nat} {A7 : Option Addr} {c7 : Nat} {A8 : Option Addr} {c8 : Nat} {A9 : Option Addr} {c9 : Nat} {f0 : List (List Int)} {f1 : List Int} {f2 : List (S124)} {f3 : List (S131)} {f4 : List (S134)} {f5 : Int} {f6 : List (S79)} {f7 : List (S138)} {f8 : List Int} {f9 : List Int} (h : W.heap[g]? = some (.cells #[.slice A0 f0.length c0, .slice A1 f1.length c1, .slice A2 f2.length c2, .slice A3 f3.length c3, .slice A4 f4.length c4, .int .i64 f5, .slice A6 f6.length c6, .slice A7 f7.length c7, .slice A8 f8.length c8, .slice A9 f9.length c9] 41 (0, 0))) : W.cell? ⟨g, 2, none⟩ = some (.slice A2 f2.length c2) := (blk_cell h 2).trans rfl
theorem cellS41_3 {W : World} {g : Nat} {A0 : Option Addr} {c0 : Nat} {A1 : Option Addr} {c1 : Nat} {A2 : Option Addr} {c2 : Nat} {A3 : Option Addr} {c3 : Nat} {A4 : Option Addr} {c4 : Nat} {A6 : Option Addr} {c6 : Nat} {A7 : Option Addr} {c7 : Nat} {A8 : Option Addr} {c8 : Nat} {A9 : Option Addr} {c9 : Nat} {f0 : List (List Int)} {f1 : List Int} {f2 : List (S124)} {f3 : List (S131)} {f4 : List (S134)} {f5 : Int} {f6 : List (S79)} {f7 : List (S138)} {f8 : List Int} {f9 : List Int} (h : W.heap[g]? = some (.cells #[.slice A0 f0.length c0, .slice A1 f1.length c1, .slice A2 f2.length c2, .slice A3 f3.length c3, .slice A4 f4.length c4, .int .i64 f5, .slice A6 f6.length c6, .slice A7 f7.length c7, .slice A8 f8.length c8, .slice A9 f9.length c9] 41 (0, 0))) : W.cell? ⟨g, 3, none⟩ = some (.slice A3 f3.length c3) := (blk_cell h 3).trans rfl
theorem cellS41_4 {W : World} {g : Nat} {A0 : Option Addr} {c0 : Nat} {A1 : Option Addr} {c1 : Nat} {A2 : Option Addr} {c2 : Nat} {A3 : Option Addr} {c3 : Nat} {A4 : Option Addr} {c4 : Nat} {A6 : Option Addr} {c6 : Nat} {A7 : Option Addr} {c7 : Nat} {A8 : Option Addr} {c8 : Nat} {A9 : Option Addr} {c9 : Nat} {f0 : List (List Int)} {f1 : List Int} {f2 : List (S124)} {f3 : List (S131)} {f4 : List (S134)} {f5 : Int} {f6 : List (S79)} {f7 : List (S138)} {f8 : List Int} {f9 : List Int} (h : W.heap[g]? = some (.cells #[.slice A0 f0.length c0, .slice A1 f1.length c1, .slice A2 f2.length c2, .slice A3 f3.length c3, .slice A4 f4.length c4, .int .i64 f5, .slice A6 f6.length c6, .slice A7 f7.length c7, .slice A8 f8.length c8, .slice A9 f9.length c9] 41 (0, 0))) : W.cell? ⟨g, 4, none⟩ = some (.slice A4 f4.length c4) := (blk_cell h 4).trans rfl
theorem cellS41_5 {W : World} {g : Nat} {A0 : Option Addr} {c0 : Nat} {A1 : Option Addr} {c1 : Nat} {A2 : Option Addr} {c2 : Nat} {A3 : Option Addr} {c3 : Nat} {A4 : Option Addr} {c4 : Nat} {A6 : Option Addr} {c6 : Nat} {A7 : Option Addr} {c7 : Nat} {A8 : Option Addr} {c8 : Nat} {A9 : Option Addr} {c9 : Nat} {f0 : List (List Int)} {f1 : List Int} {f2 : List (S124)} {f3 : List (S131)} {f4 : List (S134)} {f5 : Int} {f6 : List (S79)} {f7 : List (S138)} {f8 : List Int} {f9 : List Int} (h : W.heap[g]? = some (.cells #[.slice A0 f0.length c0, .slice A1 f1.length c1, .slice A2 f2.length c2, .slice A3 f3.length c3, .slice A4 f4.length c4, .int .i64 f5, .slice A6 f6.length c6, .slice A7 f7.length c7, .slice A8 f8.length c8, .slice A9 f9.length c9] 41 (0, 0))) : W.cell? ⟨g, 5, none⟩ = some (.int .i64 f5) := (blk_cell h 5).trans rfl
theorem IsS41.set_5 {w0 W : World} {g : Nat} {f0 : List (List Int)} {f1 : List Int} {f2 : List (S124)} {f3 : List (S131)} {f4 : List (S134)} {f5 : Int} {f6 : List (S79)} {f7 : List (S138)} {f8 : List Int} {f9 : List Int} (h : IsS41 w0 W g f0 f1 f2 f3 f4 f5 f6 f7 f8 f9) (x : Int) : IsS41 w0 (W.setCell ⟨g, 5, none⟩ (.int .i64 x)) g f0 f1 f2 f3 f4 x f6 f7 f8 f9 := by
 obtain ⟨A0, c0, A1, c1, A2, c2, A3, c3, A4, c4, A6, c6, A7, c7, A8, c8, A9, c9, hb, hg, hr0, hr1, hr2, hr3, hr4, hr6, hr7, hr8, hr9⟩ := h
 exact ⟨A0, c0, A1, c1, A2, c2, A3, c3, A4, c4, A6, c6, A7, c7, A8, c8, A9, c9, by simpa using blk_set hb 5 (.int .i64 x), hg, hr0, hr1, hr2, hr3, hr4, hr6, hr7, hr8, hr9⟩
theorem cellS41_6 {W : World} {g : Nat} {A0 : Option Addr} {c0 : Nat} {A1 : Option Addr} {c1 : Nat} {A2 : Option Addr} {c2 : Nat} {A3 : Option Addr} {c3 : Nat} {A4 : Option Addr} {c4 : Nat} {A6 : Option Addr} {c6 : Nat} {A7 : Option Addr} {c7 : Nat} {A8 : Option Addr} {c8 : Nat} {A9 : Option Addr} {c9 : Nat} {f0 : List (List Int)} {f1 : List Int} {f2 : List (S124)} {f3 : List (S131)} {f4 : List (S134)} {f5 : Int} {f6 : List (S79)} {f7 : List (S138)} {f8 : List Int} {f9 : List Int} (h : W.heap[g]? = some (.cells #[.slice A0 f0.length c0, .slice A1 f1.length c1, .slice A2 f2.length c2, .slice A3 f3.length c3, .slice A4 f4.length c4, .int .i64 f5, .slice A6 f6.length c6, .slice A7 f7.length c7, .slice A8 f8.length c8, .slice A9 f9.length c9] 41 (0, 0))) : W.cell? ⟨g, 6, none⟩ = some (.slice A6 f6.length c6) := (blk_cell h 6).trans rfl
theorem cellS41_7 {W : World} {g : Nat} {A0 : Option Addr} {c0 : Nat} {A1 : Option Addr} {c1 : Nat} {A2 : Option Addr} {c2 : Nat} {A3 : Option Addr} {c3 : Nat} {A4 : Option Addr} {c4 : Nat} {A6 : Option Addr} {c6 : Nat} {A7 : Option Addr} {c7 : Nat} {A8 : Option Addr} {c8 : Nat} {A9 : Option Addr} {c9 : Nat} {f0 : List (List Int)} {f1 : List Int} {f2 : List (S124)} {f3 : List (S131)} {f4 : List (S134)} {f5 : Int} {f6 : List (S79)} {f7 : List (S138)} {f8 : List Int} {f9 : List Int} (h : W.heap[g]? = some (.cells #[.slice A0 f0.length c0, .slice A1 f1.length c1, .slice A2 f2.length c2, .slice A3 f3.length c3, .slice A4 f4.length c4, .int .i64 f5, .slice A6 f6.length c6, .slice A7 f7.length c7, .slice A8 f8.length c8, .slice A9 f9.length c9] 41 (0, 0))) : W.cell? ⟨g, 7, none⟩ = some (.slice A7 f7.length c7) := (blk_cell h 7).trans rfl
theorem cellS41_8 {W : World} {g : Nat} {A0 : Option Addr} {c0 : Nat} {A1 : Option Addr} {c1 : Nat} {A2 : Option Addr} {c2 : Nat} {A3 : Option Addr} {c3 : Nat} {A4 : Option Addr} {c4 : Nat} {A6 : Option Addr} {c6 : Nat} {A7 : Option Addr} {c7 : Nat} {A8 : Option Addr} {c8 : Nat} {A9 : Option Addr} {c9 : Nat} {f0 : List (List Int)} {f1 : List Int} {f2 : List (S124)} {f3 : List (S131)} {f4 : List (S134)} {f5 : Int} {f6 : List (S79)} {f7 : List (S138)} {f8 : List Int} {f9 : List Int} (h : W.heap[g]? = some (.cells #[.slice A0 f0.length c0, .slice A1 f1.length c1, .slice A2 f2.length c2, .slice A3 f3.length c3, .slice A4 f4.length c4, .int .i64 f5, .slice A6 f6.length c6, .slice A7 f7.length c7, .slice A8 f8.length c8, .slice A9 f9.length c9] 41 (0, 0))) : W.cell? ⟨g, 8, none⟩ = some (.slice A8 f8.length c8) := (blk_cell h 8).trans rfl
theorem cellS41_9 {W : World} {g : Nat} {A0 : Option Addr} {c0 : Nat} {A1 : Option Addr} {c1 : Nat} {A2 : Option Addr} {c2 : Nat} {A3 : Option Addr} {c3 : Nat} {A4 : Option Addr} {c4 : Nat} {A6 : Option Addr} {c6 : Nat} {A7 : Option Addr} {c7 : Nat} {A8 : Option Addr} {c8 : Nat} {A9 : Option Addr} {c9 : Nat} {f0 : List (List Int)} {f1 : List Int} {f2 : List (S124)} {f3 : List (S131)} {f4 : List (S134)} {f5 : Int} {f6 : List (S79)} {f7 : List (S138)} {f8 : List Int} {f9 : List Int} (h : W.heap[g]? = some (.cells #[.slice A0 f0.length c0, .slice A1 f1.length c1, .slice A2 f2.length c2, .slice A3 f3.length c3, .slice A4 f4.length c4, .int .i64 f5, .slice A6 f6.length c6, .slice A7 f7.length c7, .slice A8 f8.length c8, .slice A9 f9.length c9] 41 (0, 0))) : W.cell? ⟨g, 9, none⟩ = some (.slice A9 f9.length c9) := (blk_cell h 9).trans rfl
theorem IsS41.new (w0 W : World) (A0 : Option Addr) (c0 : Nat) (A1 : Option Addr) (c1 : Nat) (A2 : Option Addr) (c2 : Nat) (A3 : Option Addr) (c3 : Nat) (A4 : Option Addr) (c4 : Nat) (A6 : Option Addr) (c6 : Nat) (A7 : Option Addr) (c7 : Nat) (A8 : Option Addr) (c8 : Nat) (A9 : Option Addr) (c9 : Nat) (f0 : List (List Int)) (f1 : List Int) (f2 : List (S124)) (f3 : List (S131)) (f4 : List (S134)) (f5 : Int) (f6 : List (S79)) (f7 : List (S138)) (f8 : List Int) (f9 : List Int) (hB : Below w0.heap.size w0 W) (hr0 : Kd.C (Kd.slice 3 (Kd.int .i64)) w0 A0 f0.length f0) (hr1 : Kd.C (Kd.int .i64) w0 A1 f1.length f1) (hr2 : Kd.C k124 w0 A2 f2.length f2) (hr3 : Kd.C k131 w0 A3 f3.length f3) (hr4 : Kd.C k134 w0 A4 f4.length f4) (hr6 : Kd.C k79 w0 A6 f6.length f6) (hr7 : Kd.C k138 w0 A7 f7.length f7) (hr8 : Kd.C (Kd.int .i64) w0 A8 f8.length f8) (hr9 : Kd.C (Kd.int .i64) w0 A9 f9.length f9) : IsS41 w0 (W.alloc (.cells #[.slice A0 f0.length c0, .slice A1 f1.length c1, .slice A2 f2.length c2, .slice A3 f3.length c3, .slice A4 f4.length c4, .int .i64 f5, .slice A6 f6.length c6, .slice A7 f7.length c7, .slice A8 f8.length c8, .slice A9 f9.length c9] 41)) W.heap.size f0 f1 f2 f3 f4 f5 f6 f7 f8 f9 := ⟨A0, c0, A1, c1, A2, c2, A3, c3, A4, c4, A6, c6, A7, c7, A8, c8, A9, c9, by simpa using heap_alloc_new W _, hB.size, hr0, hr1, hr2, hr3, hr4, hr6, hr7, hr8, hr9⟩
def impl_Machine_word.f (s0_0 : List (List Int)) (s0_1 : List Int) (s0_2 : List (S124)) (s0_3 : List (S131)) (s0_4 : List (S134)) (s0_5 : Int) (s0_6 : List (S79)) (s0_7 : List (S138)) (s0_8 : List Int) (s0_9 : List Int) (a1 : Int) (a2 : Int) : Option (Int × Bool × Int) := (impl_within.f a1 0 (wrap64 ((s0_0.length : Int) - 1))).bind fun t775 => (if t775 = true then (if 0 ≤ a1 then (if a1 < (s0_0.length : Int) then ((impl_within.f a2 0 (wrap64 (((rd_L2 s0_0 a1).length : Int) - 1))).bind fun t777 => (if t777 = true then (if 0 ≤ a2 then (if a2 < ((rd_L2 s0_0 a1).length : Int) then (some (rd (rd_L2 s0_0 a1) a2, true, s0_5)) else (none)) else (none)) else (some (0, false, s0_5)))) else (none)) else (none)) else (some (0, false, s0_5)))
set_option maxHeartbeats 8000000 in
set_option maxRecDepth 100000 in
theorem impl_Machine_word.calls (g : Nat) (s0_0 : List (List Int)) (s0_1 : List Int) (s0_2 : List (S124)) (s0_3 : List (S131)) (s0_4 : List (S134)) (s0_5 : Int) (s0_6 : List (S79)) (s0_7 : List (S138)) (s0_8 : List Int) (s0_9 : List Int) (a1 : Int) (a2 : Int) (r1 : Int) (r2 : Bool) (r3 : Int) (w0 w : World) (hI : IsS41 w0 w g s0_0 s0_1 s0_2 s0_3 s0_4 s0_5 s0_6 s0_7 s0_8 s0_9) (hB : Below w0.heap.size w0 w) (h : impl_Machine_word.f s0_0 s0_1 s0_2 s0_3 s0_4 s0_5 s0_6 s0_7 s0_8 s0_9 a1 a2 = some (r1, r2, r3)) :
  Calls Try.prog 118 #[.pointer (some ⟨g, 0, none⟩), .int .i64 a1, .int .i64 a2] w fun e w' => e = .returned (.tuple #[.int .i64 r1, .bool r2]) ∧ IsS41 w0 w' g s0_0 s0_1 s0_2 s0_3 s0_4 r3 s0_6 s0_7 s0_8 s0_9 ∧ Below w0.heap.size w0 w' ∧ KeepBut w w' g none := by
 have HI0 := Aside0.mk hI; have HK := Aside0.mk (KeepBut.refl w g none); have HL := Aside0.mk hB.size; clear hI; have HW0 := Aside0.mk hB.size; have HB := Aside0.mk hB; clear hB; have H : ((impl_within.f a1 0 (wrap64 ((s0_0.length : Int) - 1))).bind fun t775 => (if t775 = true then (if 0 ≤ a1 then (if a1 < (s0_0.length : Int) then ((impl_within.f a2 0 (wrap64 (((rd_L2 s0_0 a1).length : Int) - 1))).bind fun t777 => (if t777 = true then (if 0 ≤ a2 then (if a2 < ((rd_L2 s0_0 a1).length : Int) then (some (rd (rd_L2 s0_0 a1) a2, true, s0_5)) else (none)) else (none)) else (some (0, false, s0_5)))) else (none)) else (none)) else (some (0, false, s0_5)))) = some (r1, r2, r3) := h; clear h; replace H := Option.bind_eq_some_iff.mp H; obtain ⟨t775, A40, H⟩ := H; replace H : (if t775 = true then (if 0 ≤ a1 then (if a1 < (s0_0.length : Int) then ((impl_within.f a2 0 (wrap64 (((rd_L2 s0_0 a1).length : Int) - 1))).bind fun t777 => (if t777 = true then (if 0 ≤ a2 then (if a2 < ((rd_L2 s0_0 a1).length : Int) then (some (rd (rd_L2 s0_0 a1) a2, true, s0_5)) else (none)) else (none)) else (some (0, false, s0_5)))) else (none)) else (none)) else (some (0, false, s0_5))) = some (r1, r2, r3) := H; have A4 := Aside0.mk A40; clear A40
 by_cases c5 : t775 = true
 ·subst c5
  have H1 : (if 0 ≤ a1 then (if a1 < (s0_0.length : Int) then ((impl_within.f a2 0 (wrap64 (((rd_L2 s0_0 a1).length : Int) - 1))).bind fun t777 => (if t777 = true then (if 0 ≤ a2 then (if a2 < ((rd_L2 s0_0 a1).length : Int) then (some (rd (rd_L2 s0_0 a1) a2, true, s0_5)) else (none)) else (none)) else (some (0, false, s0_5)))) else (none)) else (none)) = some (r1, r2, r3) := by rw [if_pos rfl] at H; exact H
  clear H; have H := H1; clear H1
  by_cases c6 : 0 ≤ a1
  ·rw [if_pos c6] at H; have c6b0 : decide (0 ≤ a1) = true := decide_eq_true c6; clear c6
   by_cases c7 : a1 < (s0_0.length : Int)
   ·rw [if_pos c7] at H; have c7b0 : decide (a1 < (s0_0.length : Int)) = true := decide_eq_true c7; clear c7; replace H := Option.bind_eq_some_iff.mp H; obtain ⟨t777, A80, H⟩ := H; replace H : (if t777 = true then (if 0 ≤ a2 then (if a2 < ((rd_L2 s0_0 a1).length : Int) then (some (rd (rd_L2 s0_0 a1) a2, true, s0_5)) else (none)) else (none)) else (some (0, false, s0_5))) = some (r1, r2, r3) := H; have A8 := Aside0.mk A80; clear A80
    by_cases c9 : t777 = true
    ·subst c9
     have H1 : (if 0 ≤ a2 then (if a2 < ((rd_L2 s0_0 a1).length : Int) then (some (rd (rd_L2 s0_0 a1) a2, true, s0_5)) else (none)) else (none)) = some (r1, r2, r3) := by rw [if_pos rfl] at H; exact H
     clear H; have H := H1; clear H1
     by_cases c10 : 0 ≤ a2
     ·rw [if_pos c10] at H; have c10b0 : decide (0 ≤ a2) = true := decide_eq_true c10; clear c10
      by_cases c11 : a2 < ((rd_L2 s0_0 a1).length : Int)
      ·rw [if_pos c11] at H; have c11b0 : decide (a2 < ((rd_L2 s0_0 a1).length : Int)) = true := decide_eq_true c11; clear c11; simp only [Option.some.injEq, Prod.mk.injEq] at H; obtain ⟨rfl, rfl, rfl⟩ := H; obtain ⟨ASz12_0, cSz12_0, ASz12_1, cSz12_1, ASz12_2, cSz12_2, ASz12_3, cSz12_3, ASz12_4, cSz12_4, ASz12_6, cSz12_6, ASz12_7, cSz12_7, ASz12_8, cSz12_8, ASz12_9, cSz12_9, HGz12, hgz12, HSz12_0, HSz12_1, HSz12_2, HSz12_3, HSz12_4, HSz12_6, HSz12_7, HSz12_8, HSz12_9⟩ := HI0.out; have hcz12_0 := cellS41_0 HGz12; have hcz12_1 := cellS41_1 HGz12; have hcz12_2 := cellS41_2 HGz12; have hcz12_3 := cellS41_3 HGz12; have hcz12_4 := cellS41_4 HGz12; have hcz12_5 := cellS41_5 HGz12; have hcz12_6 := cellS41_6 HGz12; have hcz12_7 := cellS41_7 HGz12; have hcz12_8 := cellS41_8 HGz12; have hcz12_9 := cellS41_9 HGz12; have hfz12_5 := blk_frozen HGz12 5; clear HGz12 hgz12
       go_enter Try.func118, Try.ntmps118
       go_wp2_with (first | ((with_reducible refine gate_callee (f := 35) rfl ?_); refine goesL_ (some 15) rfl rfl Try.func35 (by kernel_rfl) rfl #[.int .i64 a1, .int .i64 0, .int .i64 (wrap64 ((s0_0.length : Int) - 1))] rfl (by (try simp only [List.map_toArray, List.map_cons, List.map_nil]); first | done | rfl) ?_; (with_reducible refine (impl_within.calls a1 0 (wrap64 ((s0_0.length : Int) - 1)) true _ A4.out).mono ?_); rintro e w' ⟨rfl, ⟨nd, rfl⟩⟩; refine ⟨_, rfl, ?_⟩; have p776 : 0 ≤ (a1 : Int) := of_decide_eq_true (by first | (with_reducible assumption) | assumption); have q776 : a1 < (s0_0.length : Int) := of_decide_eq_true (by first | (with_reducible assumption) | assumption); obtain ⟨ad776, A776_0, c776_0, e776, hx776_0, hl776_0, hi776_0⟩ := at_L2 HSz12_0 a1 p776 q776; cases e776; replace hx776_0 := pw_cell_below HB.out hx776_0; have HR776_0 := Aside0.mk hi776_0; have HC776_0 := Aside0.mk hl776_0; clear hi776_0 hl776_0; replace p776 := eq_true p776; replace q776 := eq_true q776) | (go_at_call 35; (with_reducible refine (impl_within.calls a2 0 (wrap64 (((rd_L2 s0_0 a1).length : Int) - 1)) true _ A8.out).mono ?_); rintro e w' ⟨rfl, ⟨nd, rfl⟩⟩; have p778 : 0 ≤ (a1 : Int) := of_decide_eq_true (by first | (with_reducible assumption) | assumption); have q778 : a1 < (s0_0.length : Int) := of_decide_eq_true (by first | (with_reducible assumption) | assumption); obtain ⟨ad778, A778_0, c778_0, e778, hx778_0, hl778_0, hi778_0⟩ := at_L2 HSz12_0 a1 p778 q778; obtain rfl : ad776 = ad778 := (by injection e778); replace hx778_0 := pw_cell_below HB.out hx778_0; have eu_ := Option.some.inj (hx778_0.symm.trans hx776_0); injection eu_ with ea_ en_ ec_; subst ea_; subst ec_; clear en_; have HR778_0 := Aside0.mk hi778_0; have HC778_0 := Aside0.mk hl778_0; clear hi778_0 hl778_0; replace p778 := eq_true p778; replace q778 := eq_true q778; have p779 : 0 ≤ (a2 : Int) := of_decide_eq_true (by first | (with_reducible assumption) | assumption); have q779 : a2 < ((rd_L2 s0_0 a1).length : Int) := of_decide_eq_true (by first | (with_reducible assumption) | assumption); obtain ⟨ad779, e779, hx779_0⟩ := Kd.at_int HR778_0.out a2 p779 q779; cases e779; replace hx779_0 := pw_cell_below HB.out hx779_0; replace p779 := eq_true p779; replace q779 := eq_true q779))
       go_ret2
       exact ⟨by first | rfl | (simp [errW_none, errW_some] <;> rfl) | (simp [*, errW_none, errW_some] <;> rfl), by repeat (first | (with_reducible first | exact HI0.out | apply IsS41.alloc | apply IsS41.drewN | apply IsS41.drew | apply IsS41.set_5) | exact HI0.out), gT1 (IsS41.ge HI0.out) HB, by repeat (first | (with_reducible first | exact HK.out | apply KeepBut.set_ | apply keep_drewN | apply keep_drew | apply keep_alloc) | exact HK.out)⟩
      ·rw [if_neg c11] at H; exact absurd H (by simp)
     ·rw [if_neg c10] at H; exact absurd H (by simp)
    ·replace c9 := Bool.eq_false_iff.mpr c9; subst c9
     have H1 : (some (0, false, s0_5)) = some (r1, r2, r3) := by rw [if_neg (show ¬ (false = true) by decide)] at H; exact H
     clear H; have H := H1; clear H1; simp only [Option.some.injEq, Prod.mk.injEq] at H; obtain ⟨rfl, rfl, rfl⟩ := H; obtain ⟨ASz13_0, cSz13_0, ASz13_1, cSz13_1, ASz13_2, cSz13_2, ASz13_3, cSz13_3, ASz13_4, cSz13_4, ASz13_6, cSz13_6, ASz13_7, cSz13_7, ASz13_8, cSz13_8, ASz13_9, cSz13_9, HGz13, hgz13, HSz13_0, HSz13_1, HSz13_2, HSz13_3, HSz13_4, HSz13_6, HSz13_7, HSz13_8, HSz13_9⟩ := HI0.out; have hcz13_0 := cellS41_0 HGz13; have hcz13_1 := cellS41_1 HGz13; have hcz13_2 := cellS41_2 HGz13; have hcz13_3 := cellS41_3 HGz13; have hcz13_4 := cellS41_4 HGz13; have hcz13_5 := cellS41_5 HGz13; have hcz13_6 := cellS41_6 HGz13; have hcz13_7 := cellS41_7 HGz13; have hcz13_8 := cellS41_8 HGz13; have hcz13_9 := cellS41_9 HGz13; have hfz13_5 := blk_frozen HGz13 5; clear HGz13 hgz13
     go_enter Try.func118, Try.ntmps118
     go_wp2_with (first | ((with_reducible refine gate_callee (f := 35) rfl ?_); refine goesL_ (some 15) rfl rfl Try.func35 (by kernel_rfl) rfl #[.int .i64 a1, .int .i64 0, .int .i64 (wrap64 ((s0_0.length : Int) - 1))] rfl (by (try simp only [List.map_toArray, List.map_cons, List.map_nil]); first | done | rfl) ?_; (with_reducible refine (impl_within.calls a1 0 (wrap64 ((s0_0.length : Int) - 1)) true _ A4.out).mono ?_); rintro e w' ⟨rfl, ⟨nd, rfl⟩⟩; refine ⟨_, rfl, ?_⟩; have p776 : 0 ≤ (a1 : Int) := of_decide_eq_true (by first | (with_reducible assumption) | assumption); have q776 : a1 < (s0_0.length : Int) := of_decide_eq_true (by first | (with_reducible assumption) | assumption); obtain ⟨ad776, A776_0, c776_0, e776, hx776_0, hl776_0, hi776_0⟩ := at_L2 HSz13_0 a1 p776 q776; cases e776; replace hx776_0 := pw_cell_below HB.out hx776_0; have HR776_0 := Aside0.mk hi776_0; have HC776_0 := Aside0.mk hl776_0; clear hi776_0 hl776_0; replace p776 := eq_true p776; replace q776 := eq_true q776) | (go_at_call 35; (with_reducible refine (impl_within.calls a2 0 (wrap64 (((rd_L2 s0_0 a1).length : Int) - 1)) false _ A8.out).mono ?_); rintro e w' ⟨rfl, ⟨nd, rfl⟩⟩))
     go_ret2
     exact ⟨by first | rfl | (simp [errW_none, errW_some] <;> rfl) | (simp [*, errW_none, errW_some] <;> rfl), by repeat (first | (with_reducible first | exact HI0.out | apply IsS41.alloc | apply IsS41.drewN | apply IsS41.drew | apply IsS41.set_5) | exact HI0.out), gT1 (IsS41.ge HI0.out) HB, by repeat (first | (with_reducible first | exact HK.out | apply KeepBut.set_ | apply keep_drewN | apply keep_drew | apply keep_alloc) | exact HK.out)⟩
   ·rw [if_neg c7] at H; exact absurd H (by simp)
  ·rw [if_neg c6] at H; exact absurd H (by simp)
 ·replace c5 := Bool.eq_false_iff.mpr c5; subst c5
  have H1 : (some (0, false, s0_5)) = some (r1, r2, r3) := by rw [if_neg (show ¬ (false = true) by decide)] at H; exact H
  clear H; have H := H1; clear H1; simp only [Option.some.injEq, Prod.mk.injEq] at H; obtain ⟨rfl, rfl, rfl⟩ := H; obtain ⟨ASz14_0, cSz14_0, ASz14_1, cSz14_1, ASz14_2, cSz14_2, ASz14_3, cSz14_3, ASz14_4, cSz14_4, ASz14_6, cSz14_6, ASz14_7, cSz14_7, ASz14_8, cSz14_8, ASz14_9, cSz14_9, HGz14, hgz14, HSz14_0, HSz14_1, HSz14_2, HSz14_3, HSz14_4, HSz14_6, HSz14_7, HSz14_8, HSz14_9⟩ := HI0.out; have hcz14_0 := cellS41_0 HGz14; have hcz14_1 := cellS41_1 HGz14; have hcz14_2 := cellS41_2 HGz14; have hcz14_3 := cellS41_3 HGz14; have hcz14_4 := cellS41_4 HGz14; have hcz14_5 := cellS41_5 HGz14; have hcz14_6 := cellS41_6 HGz14; have hcz14_7 := cellS41_7 HGz14; have hcz14_8 := cellS41_8 HGz14; have hcz14_9 := cellS41_9 HGz14; have hfz14_5 := blk_frozen HGz14 5; clear HGz14 hgz14
  go_enter Try.func118, Try.ntmps118
  go_wp2_with (first | ((with_reducible refine gate_callee (f := 35) rfl ?_); refine goesL_ (some 15) rfl rfl Try.func35 (by kernel_rfl) rfl #[.int .i64 a1, .int .i64 0, .int .i64 (wrap64 ((s0_0.length : Int) - 1))] rfl (by (try simp only [List.map_toArray, List.map_cons, List.map_nil]); first | done | rfl) ?_; (with_reducible refine (impl_within.calls a1 0 (wrap64 ((s0_0.length : Int) - 1)) false _ A4.out).mono ?_); rintro e w' ⟨rfl, ⟨nd, rfl⟩⟩; refine ⟨_, rfl, ?_⟩))
  go_ret2
  exact ⟨by first | rfl | (simp [errW_none, errW_some] <;> rfl) | (simp [*, errW_none, errW_some] <;> rfl), by repeat (first | (with_reducible first | exact HI0.out | apply IsS41.alloc | apply IsS41.drewN | apply IsS41.drew | apply IsS41.set_5) | exact HI0.out), gT1 (IsS41.ge HI0.out) HB, by repeat (first | (with_reducible first | exact HK.out | apply KeepBut.set_ | apply keep_drewN | apply keep_drew | apply keep_alloc) | exact HK.out)⟩
def impl_TablePath.f (a0 : Int) : Option (Int × Int × Int) := (impl_within.f a0 0 63).bind fun t780 => (if t780 = true then (some (wrap64 (Int.tdiv a0 16), Int.tmod (wrap64 (Int.tdiv a0 4)) 4, Int.tmod a0 4)) else (some (0, 0, 0)))
set_option maxHeartbeats 8000000 in
set_option maxRecDepth 100000 in
theorem impl_TablePath.calls (a0 : Int) (r1 : Int) (r2 : Int) (r3 : Int) (w : World) (h : impl_TablePath.f a0 = some (r1, r2, r3)) :
    Calls Try.prog 149 #[.int .i64 a0] w fun e w' => e = .returned (.tuple #[.int .i64 r1, .int .i64 r2, .int .i64 r3]) ∧ Drawn0 w w' := by
  have H : ((impl_within.f a0 0 63).bind fun t780 => (if t780 = true then (some (wrap64 (Int.tdiv a0 16), Int.tmod (wrap64 (Int.tdiv a0 4)) 4, Int.tmod a0 4)) else (some (0, 0, 0)))) = some (r1, r2, r3) := h
  clear h
  replace H := Option.bind_eq_some_iff.mp H
  obtain ⟨t780, A20, H⟩ := H
  replace H : (if t780 = true then (some (wrap64 (Int.tdiv a0 16), Int.tmod (wrap64 (Int.tdiv a0 4)) 4, Int.tmod a0 4)) else (some (0, 0, 0))) = some (r1, r2, r3) := H
  have A2 := Aside0.mk A20
  clear A20
  by_cases c3 : t780 = true
  · subst c3
    have H1 : (some (wrap64 (Int.tdiv a0 16), Int.tmod (wrap64 (Int.tdiv a0 4)) 4, Int.tmod a0 4)) = some (r1, r2, r3) := by rw [if_pos rfl] at H; exact H
    clear H
    have H := H1
    clear H1
    simp only [Option.some.injEq, Prod.mk.injEq] at H
    obtain ⟨rfl, rfl, rfl⟩ := H
    go_enter Try.func149, Try.ntmps149
    go_wp2_with (first | ((with_reducible refine gate_callee (f := 35) rfl ?_); refine goesL_ (some 6) rfl rfl Try.func35 (by kernel_rfl) rfl #[.int .i64 a0, .int .i64 0, .int .i64 63] rfl (by (try simp only [List.map_toArray, List.map_cons, List.map_nil]); first | done | rfl | (simp only [List.length_drop, List.length_take]; rfl)) ?_; (with_reducible refine (impl_within.calls a0 0 63 true _ A2.out).mono ?_); rintro e w' ⟨rfl, ⟨nd, rfl⟩⟩; refine ⟨_, rfl, ?_⟩))
    go_ret3
    exact ⟨by first | rfl | (simp; done) | (simp [*]; done), by repeat (first | exact Drawn0.refl _ | apply Drawn0.step)⟩
  · replace c3 := Bool.eq_false_iff.mpr c3
    subst c3
    have H1 : (some (0, 0, 0)) = some (r1, r2, r3) := by rw [if_neg (show ¬ (false = true) by decide)] at H; exact H
    clear H
    have H := H1
    clear H1
    simp only [Option.some.injEq, Prod.mk.injEq] at H
    obtain ⟨rfl, rfl, rfl⟩ := H
    go_enter Try.func149, Try.ntmps149
    go_wp2_with (first | ((with_reducible refine gate_callee (f := 35) rfl ?_); refine goesL_ (some 6) rfl rfl Try.func35 (by kernel_rfl) rfl #[.int .i64 a0, .int .i64 0, .int .i64 63] rfl (by (try simp only [List.map_toArray, List.map_cons, List.map_nil]); first | done | rfl | (simp only [List.length_drop, List.length_take]; rfl)) ?_; (with_reducible refine (impl_within.calls a0 0 63 false _ A2.out).mono ?_); rintro e w' ⟨rfl, ⟨nd, rfl⟩⟩; refine ⟨_, rfl, ?_⟩))
    go_ret3
    exact ⟨by first | rfl | (simp; done) | (simp [*]; done), by repeat (first | exact Drawn0.refl _ | apply Drawn0.step)⟩
def impl_Machine_tableOf.l0 : Nat → Int → List Int → Int → Int → List (List Int) → List Int → List (S124) → List (S131) → List (S134) → Int → List (S79) → List (S138) → List Int → List Int → Option (Int × Bool × Int)
 | 0, _, _, _, _, _, _, _, _, _, _, _, _, _, _ => none
 | k + 1, x11, x32, x33, x34, x1000, x1001, x1002, x1003, x1004, x1005, x1006, x1007, x1008, x1009 => if x34 < x33 then (if 0 ≤ x34 then (if x34 < (x32.length : Int) then ((impl_Machine_word.f x1000 x1001 x1002 x1003 x1004 x1005 x1006 x1007 x1008 x1009 x11 (rd x32 x34)).bind fun bt789 => (if bt789.2.1 = true then (if bt789.1 < 1 then (some (0, false, bt789.2.2)) else (impl_Machine_tableOf.l0 k (wrap64 (bt789.1 - 1)) x32 x33 (wrap64 (x34 + 1)) x1000 x1001 x1002 x1003 x1004 bt789.2.2 x1006 x1007 x1008 x1009)) else (some (0, false, bt789.2.2)))) else (none)) else (none)) else (some (x11, true, x1005))
def impl_Machine_tableOf.f (k : Nat) (s0_0 : List (List Int)) (s0_1 : List Int) (s0_2 : List (S124)) (s0_3 : List (S131)) (s0_4 : List (S134)) (s0_5 : Int) (s0_6 : List (S79)) (s0_7 : List (S138)) (s0_8 : List Int) (s0_9 : List Int) (a1 : Int) (a2 : Int) : Option (Int × Bool × Int) := (impl_TablePath.f a2).bind fun bt781 => (if 0 ≤ a1 then (if a1 < (s0_6.length : Int) then ((some (([bt781.1, bt781.2.1] : List Int) : List Int)).bind fun y785 => (impl_Machine_tableOf.l0 k ((rd_T79 s0_6 a1).f1) y785 (y785.length : Int) 0 s0_0 s0_1 s0_2 s0_3 s0_4 s0_5 s0_6 s0_7 s0_8 s0_9)) else (none)) else (none))
set_option maxHeartbeats 8000000 in
set_option maxRecDepth 100000 in
theorem impl_Machine_tableOf.calls (k : Nat) (g : Nat) (s0_0 : List (List Int)) (s0_1 : List Int) (s0_2 : List (S124)) (s0_3 : List (S131)) (s0_4 : List (S134)) (s0_5 : Int) (s0_6 : List (S79)) (s0_7 : List (S138)) (s0_8 : List Int) (s0_9 : List Int) (a1 : Int) (a2 : Int) (r1 : Int) (r2 : Bool) (r3 : Int) (w0 w : World) (hI : IsS41 w0 w g s0_0 s0_1 s0_2 s0_3 s0_4 s0_5 s0_6 s0_7 s0_8 s0_9) (hB : Below w0.heap.size w0 w) (h : impl_Machine_tableOf.f k s0_0 s0_1 s0_2 s0_3 s0_4 s0_5 s0_6 s0_7 s0_8 s0_9 a1 a2 = some (r1, r2, r3)) :
  Calls Try.prog 117 #[.pointer (some ⟨g, 0, none⟩), .int .i64 a1, .int .i64 a2] w fun e w' => e = .returned (.tuple #[.int .i64 r1, .bool r2]) ∧ IsS41 w0 w' g s0_0 s0_1 s0_2 s0_3 s0_4 r3 s0_6 s0_7 s0_8 s0_9 ∧ Below w0.heap.size w0 w' ∧ KeepBut w w' g none := by
 have HI0 := Aside0.mk hI; have HK := Aside0.mk (KeepBut.refl w g none); have HL := Aside0.mk hB.size; clear hI; have HW0 := Aside0.mk hB.size; have HB := Aside0.mk hB; clear hB; have H : ((impl_TablePath.f a2).bind fun bt781 => (if 0 ≤ a1 then (if a1 < (s0_6.length : Int) then ((some (([bt781.1, bt781.2.1] : List Int) : List Int)).bind fun y785 => (impl_Machine_tableOf.l0 k ((rd_T79 s0_6 a1).f1) y785 (y785.length : Int) 0 s0_0 s0_1 s0_2 s0_3 s0_4 s0_5 s0_6 s0_7 s0_8 s0_9)) else (none)) else (none))) = some (r1, r2, r3) := h; clear h; replace H := Option.bind_eq_some_iff.mp H; obtain ⟨⟨t781, t782, t783⟩, A40, H⟩ := H; replace H : (if 0 ≤ a1 then (if a1 < (s0_6.length : Int) then ((some (([t781, t782] : List Int) : List Int)).bind fun y785 => (impl_Machine_tableOf.l0 k ((rd_T79 s0_6 a1).f1) y785 (y785.length : Int) 0 s0_0 s0_1 s0_2 s0_3 s0_4 s0_5 s0_6 s0_7 s0_8 s0_9)) else (none)) else (none)) = some (r1, r2, r3) := H; have A4 := Aside0.mk A40; clear A40
 by_cases c5 : 0 ≤ a1
 ·rw [if_pos c5] at H; have c5b0 : decide (0 ≤ a1) = true := decide_eq_true c5; clear c5
  by_cases c6 : a1 < (s0_6.length : Int)
  ·rw [if_pos c6] at H; have c6b0 : decide (a1 < (s0_6.length : Int)) = true := decide_eq_true c6; clear c6
   obtain ⟨y785, hy785⟩ : ∃ y_ : List Int, y_ = (([t781, t782] : List Int)) := ⟨_, rfl⟩
   replace H : (impl_Machine_tableOf.l0 k ((rd_T79 s0_6 a1).f1) y785 (y785.length : Int) 0 s0_0 s0_1 s0_2 s0_3 s0_4 s0_5 s0_6 s0_7 s0_8 s0_9) = some (r1, r2, r3) := by first | (rw [hy785]; with_reducible exact H) | (have H2_ := (Option.bind_some _ _).symm.trans H; rw [hy785]; with_reducible exact H2_) | (have H2_ := (Option.bind_some _ _).symm.trans H; with_reducible exact H2_) | with_reducible exact H | (rw [hy785]; exact H) | exact H
   have Ny785 := Aside0.mk hy785; clear hy785; have H' := Aside0.mk H; clear H
   go_enter Try.func117, Try.ntmps117
   go_wp2_with (first | ((with_reducible refine gate_callee (f := 149) rfl ?_); refine goesL_ (some 18) rfl rfl Try.func149 (by kernel_rfl) rfl #[.int .i64 a2] rfl (by (try simp only [List.map_toArray, List.map_cons, List.map_nil]); first | done | rfl) ?_; (with_reducible refine (impl_TablePath.calls a2 t781 t782 t783 _ A4.out).mono ?_); rintro e w' ⟨rfl, ⟨nd, rfl⟩⟩; refine ⟨_, rfl, ?_⟩; obtain ⟨ASz7_0, cSz7_0, ASz7_1, cSz7_1, ASz7_2, cSz7_2, ASz7_3, cSz7_3, ASz7_4, cSz7_4, ASz7_6, cSz7_6, ASz7_7, cSz7_7, ASz7_8, cSz7_8, ASz7_9, cSz7_9, HGz7, hgz7, HSz7_0, HSz7_1, HSz7_2, HSz7_3, HSz7_4, HSz7_6, HSz7_7, HSz7_8, HSz7_9⟩ := HI0.out; have hcz7_0 := cellS41_0 HGz7; have hcz7_1 := cellS41_1 HGz7; have hcz7_2 := cellS41_2 HGz7; have hcz7_3 := cellS41_3 HGz7; have hcz7_4 := cellS41_4 HGz7; have hcz7_5 := cellS41_5 HGz7; have hcz7_6 := cellS41_6 HGz7; have hcz7_7 := cellS41_7 HGz7; have hcz7_8 := cellS41_8 HGz7; have hcz7_9 := cellS41_9 HGz7; have hfz7_5 := blk_frozen HGz7 5; clear HGz7 hgz7; have p784 : 0 ≤ (a1 : Int) := of_decide_eq_true (by first | (with_reducible assumption) | assumption); have q784 : a1 < (s0_6.length : Int) := of_decide_eq_true (by first | (with_reducible assumption) | assumption); obtain ⟨ad784, A784_2, c784_2, e784, hx784_0, hx784_1, hx784_2, hl784_2, hi784_2⟩ := at_T79 HSz7_6 a1 p784 q784; cases e784; replace hx784_0 := pw_cell_below HB.out hx784_0; replace hx784_1 := pw_cell_below HB.out hx784_1; replace hx784_2 := pw_cell_below HB.out hx784_2; have HR784_2 := Aside0.mk hi784_2; have HC784_2 := Aside0.mk hl784_2; clear hi784_2 hl784_2; replace p784 := eq_true p784; replace q784 := eq_true q784) | ((with_reducible refine gate_dst (N := 32) rfl ?_); refine Kd.R_lit (Kd.int .i64) _ 3 ?hg (N := 32) ?hd (xs := ([t781, t782] : List Int)) (inner := [.int .i64 t781, .int .i64 t782]) (ok := fun _ => True) (okp := fun _ => True) ?hr ?hp (fun _ hk => hk) trivial (Below.refl _ _) (Nat.le_refl _) (by simp) ?_; (case hd => rfl); (case hg => rfl); (case hr => first | (go_simp; done) | (go_simp; rfl)); (case hp => exact (Reps.one (show Kd.M (Kd.int .i64) _ _ _ t781 [.int .i64 t781] from rfl) (Reps.one (show Kd.M (Kd.int .i64) _ _ _ t782 [.int .i64 t782] from rfl) (Reps.none _ _)))); intro v786 w8 ho9 hb hg_ hnew_; clear hg_ hnew_; (first | rw [← Ny785.out] at ho9 | (simp only [Int.reduceToNat] at ho9; rw [← Ny785.out] at ho9)); have HO787 := Aside0.mk (Kd.R_lower ho9 (keep_size (w := w) (g := g) (row := none) (by repeat (first | (with_reducible first | exact HK.out | apply KeepBut.set_ | apply keep_drewN | apply keep_drew | apply keep_alloc) | exact HK.out)))); replace HR784_2 := Aside0.mk HR784_2.out; replace HK := Aside0.mk (KeepBut.trans (by repeat (first | (with_reducible first | exact HK.out | apply KeepBut.set_ | apply keep_drewN | apply keep_drew | apply keep_alloc) | exact HK.out)) (KeepBut.of_below hb g none) (.inl rfl)); replace HB := Aside0.mk (below_step (gT1 (IsS41.ge HI0.out) HB) hb); replace HI0 := Aside0.mk (IsS41.below (by repeat (first | (with_reducible first | exact HI0.out | apply IsS41.alloc | apply IsS41.drewN | apply IsS41.drew | apply IsS41.set_5) | exact HI0.out)) hb); clear hb ho9; obtain ⟨Ao10, co10, eo10⟩ := Kd.R_slice HO787.out; subst eo10))
   go_loopg [11, 34] k (fun kq v11 v34 w' => ∃ (x11_1 : Int) (x34_1 : Int) (x1005_1 : Int), v11 = .int .i64 x11_1 ∧ v34 = .int .i64 x34_1 ∧ Aside0 (impl_Machine_tableOf.l0 kq x11_1 y785 (y785.length : Int) x34_1 s0_0 s0_1 s0_2 s0_3 s0_4 x1005_1 s0_6 s0_7 s0_8 s0_9 = some (r1, r2, r3)) ∧ Aside0 (kq ≤ k) ∧ Aside0 (Kd.R (Kd.int .i64) 3 w' w.heap.size (fun _ => True) (.slice Ao10 y785.length co10) y785) ∧ Aside0 (IsS41 w0 w' g s0_0 s0_1 s0_2 s0_3 s0_4 x1005_1 s0_6 s0_7 s0_8 s0_9) ∧ Aside0 (KeepBut w w' g none) ∧ Aside0 (Below w0.heap.size w0 w'))
   case atStart => exact ⟨((rd_T79 s0_6 a1).f1), (0), (s0_5), (by first | rfl | (simp; done) | (simp [*]; done)), (by first | rfl | (simp; done) | (simp [*]; done)), H', ⟨Nat.le_refl _⟩, ⟨gR HO787⟩, ⟨by repeat (first | (with_reducible first | exact HI0.out | apply IsS41.alloc | apply IsS41.drewN | apply IsS41.drew | apply IsS41.set_5) | exact HI0.out)⟩, ⟨by repeat (first | (with_reducible first | exact HK.out | apply KeepBut.set_ | apply keep_drewN | apply keep_drew | apply keep_alloc) | exact HK.out)⟩, ⟨gT1 (IsS41.ge HI0.out) HB⟩⟩
   case round =>
    clear H'; try clear c1
    try clear p2
    try clear c5
    try clear c5b0
    try clear c6
    try clear c6b0
    try clear c7
    try clear p7
    try clear q7
    try clear hx7
    try clear hcz7_0
    try clear hcz7_1
    try clear hcz7_2
    try clear hcz7_3
    try clear hcz7_4
    try clear hcz7_5
    try clear hcz7_6
    try clear hcz7_7
    try clear hcz7_8
    try clear hcz7_9
    try clear hfz7_5
    try clear hx784_0
    try clear hx784_1
    try clear hx784_2
    try clear p784
    try clear q784
    obtain ⟨x11_1, x34_1, x1005_1, rfl, rfl, HA, HK1, HO_32, HI0, HK, HB⟩ := hrel
    cases gk with
    | zero => exact absurd HA.out (by simp [impl_Machine_tableOf.l0])
    | succ k1 =>
     have H := HA.out; clear HA; simp only [impl_Machine_tableOf.l0] at H
     by_cases c11 : x34_1 < (y785.length : Int)
     ·rw [if_pos c11] at H; have c11b0 : decide (x34_1 < (y785.length : Int)) = true := decide_eq_true c11; clear c11
      by_cases c12 : 0 ≤ x34_1
      ·rw [if_pos c12] at H; have c12b0 : decide (0 ≤ x34_1) = true := decide_eq_true c12; clear c12
       by_cases c13 : x34_1 < (y785.length : Int)
       ·rw [if_pos c13] at H; have c13b0 : decide (x34_1 < (y785.length : Int)) = true := decide_eq_true c13; clear c13; replace H := Option.bind_eq_some_iff.mp H; obtain ⟨⟨t789, t790, t791⟩, A140, H⟩ := H; replace H : (if t790 = true then (if t789 < 1 then (some (0, false, t791)) else (impl_Machine_tableOf.l0 k1 (wrap64 (t789 - 1)) y785 (y785.length : Int) (wrap64 (x34_1 + 1)) s0_0 s0_1 s0_2 s0_3 s0_4 t791 s0_6 s0_7 s0_8 s0_9)) else (some (0, false, t791))) = some (r1, r2, r3) := H; have A14 := Aside0.mk A140; clear A140
        by_cases c15 : t790 = true
        ·subst c15
         have H1 : (if t789 < 1 then (some (0, false, t791)) else (impl_Machine_tableOf.l0 k1 (wrap64 (t789 - 1)) y785 (y785.length : Int) (wrap64 (x34_1 + 1)) s0_0 s0_1 s0_2 s0_3 s0_4 t791 s0_6 s0_7 s0_8 s0_9)) = some (r1, r2, r3) := by rw [if_pos rfl] at H; exact H
         clear H; have H := H1; clear H1
         by_cases c16 : t789 < 1
         ·rw [if_pos c16] at H; have c16b0 : decide (t789 < 1) = true := decide_eq_true c16; clear c16; simp only [Option.some.injEq, Prod.mk.injEq] at H; obtain ⟨rfl, rfl, rfl⟩ := H; have p788 : 0 ≤ (x34_1 : Int) := of_decide_eq_true (by first | (with_reducible assumption) | assumption); have q788 : x34_1 < (y785.length : Int) := of_decide_eq_true (by first | (with_reducible assumption) | assumption); obtain ⟨ad788, e788, hx788_0⟩ := Kd.at_int (Kd.R_reads' HO_32.out).2.2 x34_1 p788 q788
          cases e788; replace p788 := eq_true p788; replace q788 := eq_true q788
          go_wp2_with (first | ((with_reducible refine gate_callee (f := 118) rfl ?_); refine goesL_ (some 42) rfl rfl Try.func118 (by kernel_rfl) rfl #[.pointer (some ⟨g, 0, none⟩), .int .i64 x11_1, .int .i64 (rd y785 x34_1)] rfl (by (try simp only [List.map_toArray, List.map_cons, List.map_nil]); first | done | rfl) ?_; (with_reducible refine (impl_Machine_word.calls g s0_0 s0_1 s0_2 s0_3 s0_4 x1005_1 s0_6 s0_7 s0_8 s0_9 x11_1 (rd y785 x34_1) t789 true t791 w0 _ ?side1 ?side2 A14.out).mono ?_); (case side1 => repeat (first | (with_reducible first | exact HI0.out | apply IsS41.alloc | apply IsS41.drewN | apply IsS41.drew | apply IsS41.set_5) | exact HI0.out)); (case side2 => repeat (first | (with_reducible first | exact HB.out | apply below_alloc | apply pw_below_drewN | apply below_drew1 | refine below_set ?_ (IsS41.ge HI0.out)) | exact HB.out)); rintro e w17 ⟨rfl, hi, hb, hk⟩; refine ⟨_, rfl, ?_⟩; replace HO_32 := Aside0.mk (Kd.R_mono (Kd.R_keep (IsS41.apart (show IsS41 w0 _ g s0_0 s0_1 s0_2 s0_3 s0_4 x1005_1 s0_6 s0_7 s0_8 s0_9 from by repeat (first | (with_reducible first | exact HI0.out | apply IsS41.alloc | apply IsS41.drewN | apply IsS41.drew | apply IsS41.set_5) | exact HI0.out)) (gR HO_32) (by decide)) hk (fun _ h => h.2)) (fun _ h => h.1)); replace HK := Aside0.mk (KeepBut.trans (by repeat (first | (with_reducible first | exact HK.out | apply KeepBut.set_ | apply keep_drewN | apply keep_drew | apply keep_alloc) | exact HK.out)) hk (.inl rfl)); replace HB := Aside0.mk (hb); replace HI0 := Aside0.mk (hi); (try clear hb); (try clear hb2); (try clear hk); (try clear hi)))
          go_ret2
          exact ⟨by first | rfl | (simp [errW_none, errW_some] <;> rfl) | (simp [*, errW_none, errW_some] <;> rfl), by repeat (first | (with_reducible first | exact HI0.out | apply IsS41.alloc | apply IsS41.drewN | apply IsS41.drew | apply IsS41.set_5) | exact HI0.out), gT1 (IsS41.ge HI0.out) HB, by repeat (first | (with_reducible first | exact HK.out | apply KeepBut.set_ | apply keep_drewN | apply keep_drew | apply keep_alloc) | exact HK.out)⟩
         ·rw [if_neg c16] at H; have c16b0 : decide (t789 < 1) = false := decide_eq_false c16; clear c16; have H' := Aside0.mk H; clear H; have p788 : 0 ≤ (x34_1 : Int) := of_decide_eq_true (by first | (with_reducible assumption) | assumption); have q788 : x34_1 < (y785.length : Int) := of_decide_eq_true (by first | (with_reducible assumption) | assumption); obtain ⟨ad788, e788, hx788_0⟩ := Kd.at_int (Kd.R_reads' HO_32.out).2.2 x34_1 p788 q788
          cases e788; replace p788 := eq_true p788; replace q788 := eq_true q788
          go_wp2_with (first | ((with_reducible refine gate_callee (f := 118) rfl ?_); refine goesL_ (some 42) rfl rfl Try.func118 (by kernel_rfl) rfl #[.pointer (some ⟨g, 0, none⟩), .int .i64 x11_1, .int .i64 (rd y785 x34_1)] rfl (by (try simp only [List.map_toArray, List.map_cons, List.map_nil]); first | done | rfl) ?_; (with_reducible refine (impl_Machine_word.calls g s0_0 s0_1 s0_2 s0_3 s0_4 x1005_1 s0_6 s0_7 s0_8 s0_9 x11_1 (rd y785 x34_1) t789 true t791 w0 _ ?side1 ?side2 A14.out).mono ?_); (case side1 => repeat (first | (with_reducible first | exact HI0.out | apply IsS41.alloc | apply IsS41.drewN | apply IsS41.drew | apply IsS41.set_5) | exact HI0.out)); (case side2 => repeat (first | (with_reducible first | exact HB.out | apply below_alloc | apply pw_below_drewN | apply below_drew1 | refine below_set ?_ (IsS41.ge HI0.out)) | exact HB.out)); rintro e w18 ⟨rfl, hi, hb, hk⟩; refine ⟨_, rfl, ?_⟩; replace HO_32 := Aside0.mk (Kd.R_mono (Kd.R_keep (IsS41.apart (show IsS41 w0 _ g s0_0 s0_1 s0_2 s0_3 s0_4 x1005_1 s0_6 s0_7 s0_8 s0_9 from by repeat (first | (with_reducible first | exact HI0.out | apply IsS41.alloc | apply IsS41.drewN | apply IsS41.drew | apply IsS41.set_5) | exact HI0.out)) (gR HO_32) (by decide)) hk (fun _ h => h.2)) (fun _ h => h.1)); replace HK := Aside0.mk (KeepBut.trans (by repeat (first | (with_reducible first | exact HK.out | apply KeepBut.set_ | apply keep_drewN | apply keep_drew | apply keep_alloc) | exact HK.out)) hk (.inl rfl)); replace HB := Aside0.mk (hb); replace HI0 := Aside0.mk (hi); (try clear hb); (try clear hb2); (try clear hk); (try clear hi)))
          go_roundg k1
          case measure => have := HK1.out; omega
          case rel => exact ⟨(wrap64 (t789 - 1)), (wrap64 (x34_1 + 1)), (t791), (by first | rfl | (simp; done) | (simp [*]; done)), (by first | rfl | (simp; done) | (simp [*]; done)), H', ⟨by have := HK1.out; omega⟩, ⟨gR HO_32⟩, ⟨by repeat (first | (with_reducible first | exact HI0.out | apply IsS41.alloc | apply IsS41.drewN | apply IsS41.drew | apply IsS41.set_5) | exact HI0.out)⟩, ⟨by repeat (first | (with_reducible first | exact HK.out | apply KeepBut.set_ | apply keep_drewN | apply keep_drew | apply keep_alloc) | exact HK.out)⟩, ⟨gT1 (IsS41.ge HI0.out) HB⟩⟩
        ·replace c15 := Bool.eq_false_iff.mpr c15; subst c15
         have H1 : (some (0, false, t791)) = some (r1, r2, r3) := by rw [if_neg (show ¬ (false = true) by decide)] at H; exact H
         clear H; have H := H1; clear H1; simp only [Option.some.injEq, Prod.mk.injEq] at H; obtain ⟨rfl, rfl, rfl⟩ := H; have p788 : 0 ≤ (x34_1 : Int) := of_decide_eq_true (by first | (with_reducible assumption) | assumption); have q788 : x34_1 < (y785.length : Int) := of_decide_eq_true (by first | (with_reducible assumption) | assumption); obtain ⟨ad788, e788, hx788_0⟩ := Kd.at_int (Kd.R_reads' HO_32.out).2.2 x34_1 p788 q788
         cases e788; replace p788 := eq_true p788; replace q788 := eq_true q788
         go_wp2_with (first | ((with_reducible refine gate_callee (f := 118) rfl ?_); refine goesL_ (some 42) rfl rfl Try.func118 (by kernel_rfl) rfl #[.pointer (some ⟨g, 0, none⟩), .int .i64 x11_1, .int .i64 (rd y785 x34_1)] rfl (by (try simp only [List.map_toArray, List.map_cons, List.map_nil]); first | done | rfl) ?_; (with_reducible refine (impl_Machine_word.calls g s0_0 s0_1 s0_2 s0_3 s0_4 x1005_1 s0_6 s0_7 s0_8 s0_9 x11_1 (rd y785 x34_1) t789 false t791 w0 _ ?side1 ?side2 A14.out).mono ?_); (case side1 => repeat (first | (with_reducible first | exact HI0.out | apply IsS41.alloc | apply IsS41.drewN | apply IsS41.drew | apply IsS41.set_5) | exact HI0.out)); (case side2 => repeat (first | (with_reducible first | exact HB.out | apply below_alloc | apply pw_below_drewN | apply below_drew1 | refine below_set ?_ (IsS41.ge HI0.out)) | exact HB.out)); rintro e w19 ⟨rfl, hi, hb, hk⟩; refine ⟨_, rfl, ?_⟩; replace HO_32 := Aside0.mk (Kd.R_mono (Kd.R_keep (IsS41.apart (show IsS41 w0 _ g s0_0 s0_1 s0_2 s0_3 s0_4 x1005_1 s0_6 s0_7 s0_8 s0_9 from by repeat (first | (with_reducible first | exact HI0.out | apply IsS41.alloc | apply IsS41.drewN | apply IsS41.drew | apply IsS41.set_5) | exact HI0.out)) (gR HO_32) (by decide)) hk (fun _ h => h.2)) (fun _ h => h.1)); replace HK := Aside0.mk (KeepBut.trans (by repeat (first | (with_reducible first | exact HK.out | apply KeepBut.set_ | apply keep_drewN | apply keep_drew | apply keep_alloc) | exact HK.out)) hk (.inl rfl)); replace HB := Aside0.mk (hb); replace HI0 := Aside0.mk (hi); (try clear hb); (try clear hb2); (try clear hk); (try clear hi)))
         go_ret2
         exact ⟨by first | rfl | (simp [errW_none, errW_some] <;> rfl) | (simp [*, errW_none, errW_some] <;> rfl), by repeat (first | (with_reducible first | exact HI0.out | apply IsS41.alloc | apply IsS41.drewN | apply IsS41.drew | apply IsS41.set_5) | exact HI0.out), gT1 (IsS41.ge HI0.out) HB, by repeat (first | (with_reducible first | exact HK.out | apply KeepBut.set_ | apply keep_drewN | apply keep_drew | apply keep_alloc) | exact HK.out)⟩
       ·rw [if_neg c13] at H; exact absurd H (by simp)
      ·rw [if_neg c12] at H; exact absurd H (by simp)
     ·rw [if_neg c11] at H; have c11b0 : decide (x34_1 < (y785.length : Int)) = false := decide_eq_false c11; clear c11; simp only [Option.some.injEq, Prod.mk.injEq] at H; obtain ⟨rfl, rfl, rfl⟩ := H; go_wp2
      go_ret2
      exact ⟨by first | rfl | (simp [errW_none, errW_some] <;> rfl) | (simp [*, errW_none, errW_some] <;> rfl), by repeat (first | (with_reducible first | exact HI0.out | apply IsS41.alloc | apply IsS41.drewN | apply IsS41.drew | apply IsS41.set_5) | exact HI0.out), gT1 (IsS41.ge HI0.out) HB, by repeat (first | (with_reducible first | exact HK.out | apply KeepBut.set_ | apply keep_drewN | apply keep_drew | apply keep_alloc) | exact HK.out)⟩
  ·rw [if_neg c6] at H; exact absurd H (by simp)
 ·rw [if_neg c5] at H; exact absurd H (by simp)
def impl_Machine_framesIn.l0 : Nat → Int → List Int → List Int → Int → Int → List (List Int) → List Int → List (S124) → List (S131) → List (S134) → Int → List (S79) → List (S138) → List Int → List Int → Option (List Int × Int)
 | 0, _, _, _, _, _, _, _, _, _, _, _, _, _, _, _ => none
 | k + 1, x1, x5, x12, x13, x14, x1000, x1001, x1002, x1003, x1004, x1005, x1006, x1007, x1008, x1009 => if x14 < x13 then (if 0 ≤ x14 then (if x14 < (x12.length : Int) then (if (rd x12 x14) = x1 then (if x5.length < 17592186044416 then (impl_Machine_framesIn.l0 k x1 (x5 ++ [x14]) x12 x13 (wrap64 (x14 + 1)) x1000 x1001 x1002 x1003 x1004 x1005 x1006 x1007 x1008 x1009) else (none)) else (impl_Machine_framesIn.l0 k x1 x5 x12 x13 (wrap64 (x14 + 1)) x1000 x1001 x1002 x1003 x1004 x1005 x1006 x1007 x1008 x1009)) else (none)) else (none)) else (some (x5, x1005))
def impl_Machine_framesIn.f (k : Nat) (s0_0 : List (List Int)) (s0_1 : List Int) (s0_2 : List (S124)) (s0_3 : List (S131)) (s0_4 : List (S134)) (s0_5 : Int) (s0_6 : List (S79)) (s0_7 : List (S138)) (s0_8 : List Int) (s0_9 : List Int) (a1 : Int) : Option (List Int × Int) := impl_Machine_framesIn.l0 k a1 (([] : List Int)) s0_1 (s0_1.length : Int) 0 s0_0 s0_1 s0_2 s0_3 s0_4 s0_5 s0_6 s0_7 s0_8 s0_9
set_option maxHeartbeats 8000000 in
set_option maxRecDepth 100000 in
theorem impl_Machine_framesIn.calls (k : Nat) (g : Nat) (s0_0 : List (List Int)) (s0_1 : List Int) (s0_2 : List (S124)) (s0_3 : List (S131)) (s0_4 : List (S134)) (s0_5 : Int) (s0_6 : List (S79)) (s0_7 : List (S138)) (s0_8 : List Int) (s0_9 : List Int) (a1 : Int) (r1 : List Int) (r2 : Int) (w0 w : World) (hI : IsS41 w0 w g s0_0 s0_1 s0_2 s0_3 s0_4 s0_5 s0_6 s0_7 s0_8 s0_9) (hB : Below w0.heap.size w0 w) (h : impl_Machine_framesIn.f k s0_0 s0_1 s0_2 s0_3 s0_4 s0_5 s0_6 s0_7 s0_8 s0_9 a1 = some (r1, r2)) :
  Calls Try.prog 91 #[.pointer (some ⟨g, 0, none⟩), .int .i64 a1] w fun e w' => ∃ v0_ : Value, e = .returned (v0_) ∧ Kd.R (Kd.int .i64) 3 w' w.heap.size (fun _ => True) v0_ r1 ∧ IsS41 w0 w' g s0_0 s0_1 s0_2 s0_3 s0_4 r2 s0_6 s0_7 s0_8 s0_9 ∧ Below w0.heap.size w0 w' ∧ KeepBut w w' g none := by
 have HI0 := Aside0.mk hI; have HK := Aside0.mk (KeepBut.refl w g none); have HL := Aside0.mk hB.size; clear hI; have HW0 := Aside0.mk hB.size; have HB := Aside0.mk hB; clear hB; have H : (impl_Machine_framesIn.l0 k a1 (([] : List Int)) s0_1 (s0_1.length : Int) 0 s0_0 s0_1 s0_2 s0_3 s0_4 s0_5 s0_6 s0_7 s0_8 s0_9) = some (r1, r2) := h; clear h
 obtain ⟨y969, hy969⟩ : ∃ y_ : List Int, y_ = (([] : List Int)) := ⟨_, rfl⟩
 replace H : (impl_Machine_framesIn.l0 k a1 y969 s0_1 (s0_1.length : Int) 0 s0_0 s0_1 s0_2 s0_3 s0_4 s0_5 s0_6 s0_7 s0_8 s0_9) = some (r1, r2) := by first | (rw [hy969]; with_reducible exact H) | (have H2_ := (Option.bind_some _ _).symm.trans H; rw [hy969]; with_reducible exact H2_) | (have H2_ := (Option.bind_some _ _).symm.trans H; with_reducible exact H2_) | with_reducible exact H | (rw [hy969]; exact H) | exact H
 have Ny969 := Aside0.mk hy969; clear hy969; have H' := Aside0.mk H; clear H
 go_enter Try.func91, Try.ntmps91
 go_wp2_with (first | ((with_reducible refine gate_dst (N := 8) rfl ?_); refine Kd.R_lit (Kd.int .i64) _ 3 ?hg (N := 8) ?hd (xs := ([] : List Int)) (inner := []) (ok := fun _ => True) (okp := fun _ => True) ?hr ?hp (fun _ hk => hk) trivial (Below.refl _ _) (Nat.le_refl _) (by simp) ?_; (case hd => rfl); (case hg => rfl); (case hr => first | (go_simp; done) | (go_simp; rfl)); (case hp => exact (Reps.none _ _)); intro v970 w3 ho4 hb hg_ hnew_; clear hg_ hnew_; (first | rw [← Ny969.out] at ho4 | (simp only [Int.reduceToNat] at ho4; rw [← Ny969.out] at ho4)); have HO971 := Aside0.mk (Kd.R_lower ho4 (keep_size (w := w) (g := g) (row := none) (by repeat (first | (with_reducible first | exact HK.out | apply KeepBut.set_ | apply keep_drewN | apply keep_drew | apply keep_alloc) | exact HK.out)))); replace HK := Aside0.mk (KeepBut.trans (by repeat (first | (with_reducible first | exact HK.out | apply KeepBut.set_ | apply keep_drewN | apply keep_drew | apply keep_alloc) | exact HK.out)) (KeepBut.of_below hb g none) (.inl rfl)); replace HB := Aside0.mk (below_step (gT1 (IsS41.ge HI0.out) HB) hb); replace HI0 := Aside0.mk (IsS41.below (by repeat (first | (with_reducible first | exact HI0.out | apply IsS41.alloc | apply IsS41.drewN | apply IsS41.drew | apply IsS41.set_5) | exact HI0.out)) hb); clear hb ho4; obtain ⟨ASz5_0, cSz5_0, ASz5_1, cSz5_1, ASz5_2, cSz5_2, ASz5_3, cSz5_3, ASz5_4, cSz5_4, ASz5_6, cSz5_6, ASz5_7, cSz5_7, ASz5_8, cSz5_8, ASz5_9, cSz5_9, HGz5, hgz5, HSz5_0, HSz5_1, HSz5_2, HSz5_3, HSz5_4, HSz5_6, HSz5_7, HSz5_8, HSz5_9⟩ := HI0.out; have hcz5_0 := cellS41_0 HGz5; have hcz5_1 := cellS41_1 HGz5; have hcz5_2 := cellS41_2 HGz5; have hcz5_3 := cellS41_3 HGz5; have hcz5_4 := cellS41_4 HGz5; have hcz5_5 := cellS41_5 HGz5; have hcz5_6 := cellS41_6 HGz5; have hcz5_7 := cellS41_7 HGz5; have hcz5_8 := cellS41_8 HGz5; have hcz5_9 := cellS41_9 HGz5; have hfz5_5 := blk_frozen HGz5 5; clear HGz5 hgz5))
 go_loopg [5, 14] k (fun kq v5 v14 w' => ∃ (x5_1 : List Int) (x14_1 : Int), v14 = .int .i64 x14_1 ∧ Aside0 (impl_Machine_framesIn.l0 kq a1 x5_1 s0_1 (s0_1.length : Int) x14_1 s0_0 s0_1 s0_2 s0_3 s0_4 s0_5 s0_6 s0_7 s0_8 s0_9 = some (r1, r2)) ∧ Aside0 (kq ≤ k) ∧ Aside0 (Kd.R (Kd.int .i64) 3 w' w.heap.size (fun _ => True) v5 x5_1) ∧ Aside0 (IsS41 w0 w' g s0_0 s0_1 s0_2 s0_3 s0_4 s0_5 s0_6 s0_7 s0_8 s0_9) ∧ Aside0 (KeepBut w w' g none) ∧ Aside0 (Below w0.heap.size w0 w'))
 case atStart => exact ⟨(y969), (0), (by first | rfl | (simp; done) | (simp [*]; done)), H', ⟨Nat.le_refl _⟩, ⟨gR HO971⟩, ⟨by repeat (first | (with_reducible first | exact HI0.out | apply IsS41.alloc | apply IsS41.drewN | apply IsS41.drew | apply IsS41.set_5) | exact HI0.out)⟩, ⟨by repeat (first | (with_reducible first | exact HK.out | apply KeepBut.set_ | apply keep_drewN | apply keep_drew | apply keep_alloc) | exact HK.out)⟩, ⟨gT1 (IsS41.ge HI0.out) HB⟩⟩
 case round =>
  clear H'; try clear p2
  try clear hcz5_0
  try clear hcz5_1
  try clear hcz5_2
  try clear hcz5_3
  try clear hcz5_4
  try clear hcz5_5
  try clear hcz5_6
  try clear hcz5_7
  try clear hcz5_8
  try clear hcz5_9
  try clear hfz5_5
  obtain ⟨x5_1, x14_1, rfl, HA, HK1, HO_5, HI0, HK, HB⟩ := hrel
  cases gk with
  | zero => exact absurd HA.out (by simp [impl_Machine_framesIn.l0])
  | succ k1 =>
   have H := HA.out; clear HA; simp only [impl_Machine_framesIn.l0] at H
   by_cases c6 : x14_1 < (s0_1.length : Int)
   ·rw [if_pos c6] at H; have c6b0 : decide (x14_1 < (s0_1.length : Int)) = true := decide_eq_true c6; clear c6
    by_cases c7 : 0 ≤ x14_1
    ·rw [if_pos c7] at H; have c7b0 : decide (0 ≤ x14_1) = true := decide_eq_true c7; clear c7
     by_cases c8 : x14_1 < (s0_1.length : Int)
     ·rw [if_pos c8] at H; have c8b0 : decide (x14_1 < (s0_1.length : Int)) = true := decide_eq_true c8; clear c8
      by_cases c9 : (rd s0_1 x14_1) = a1
      ·rw [if_pos c9] at H; have c9b0 : ((rd s0_1 x14_1) == a1) = true := beq_iff_eq.mpr c9; have c9b1 : ((rd s0_1 x14_1) != a1) = false := bne_eq_false_iff_eq.mpr c9; clear c9
       by_cases c10 : x5_1.length < 17592186044416
       ·rw [if_pos c10] at H; have LMc10 := Aside0.mk c10; clear c10
        obtain ⟨y973, hy973⟩ : ∃ y_ : List Int, y_ = (x5_1 ++ [x14_1]) := ⟨_, rfl⟩
        replace H : (impl_Machine_framesIn.l0 k1 a1 y973 s0_1 (s0_1.length : Int) (wrap64 (x14_1 + 1)) s0_0 s0_1 s0_2 s0_3 s0_4 s0_5 s0_6 s0_7 s0_8 s0_9) = some (r1, r2) := by first | (rw [hy973]; with_reducible exact H) | (have H2_ := (Option.bind_some _ _).symm.trans H; rw [hy973]; with_reducible exact H2_) | (have H2_ := (Option.bind_some _ _).symm.trans H; with_reducible exact H2_) | with_reducible exact H | (rw [hy973]; exact H) | exact H
        have Ny973 := Aside0.mk hy973; clear hy973; have H' := Aside0.mk H; clear H; obtain ⟨ASz11_0, cSz11_0, ASz11_1, cSz11_1, ASz11_2, cSz11_2, ASz11_3, cSz11_3, ASz11_4, cSz11_4, ASz11_6, cSz11_6, ASz11_7, cSz11_7, ASz11_8, cSz11_8, ASz11_9, cSz11_9, HGz11, hgz11, HSz11_0, HSz11_1, HSz11_2, HSz11_3, HSz11_4, HSz11_6, HSz11_7, HSz11_8, HSz11_9⟩ := HI0.out; have hcz11_0 := cellS41_0 HGz11; have hcz11_1 := cellS41_1 HGz11; have hcz11_2 := cellS41_2 HGz11; have hcz11_3 := cellS41_3 HGz11; have hcz11_4 := cellS41_4 HGz11; have hcz11_5 := cellS41_5 HGz11; have hcz11_6 := cellS41_6 HGz11; have hcz11_7 := cellS41_7 HGz11; have hcz11_8 := cellS41_8 HGz11; have hcz11_9 := cellS41_9 HGz11; have hfz11_5 := blk_frozen HGz11 5; clear HGz11 hgz11; have p972 : 0 ≤ (x14_1 : Int) := of_decide_eq_true (by first | (with_reducible assumption) | assumption); have q972 : x14_1 < (s0_1.length : Int) := of_decide_eq_true (by first | (with_reducible assumption) | assumption); obtain ⟨ad972, e972, hx972_0⟩ := Kd.at_int HSz5_1 x14_1 p972 q972
        cases e972; replace hx972_0 := pw_cell_below HB.out hx972_0; replace p972 := eq_true p972; replace q972 := eq_true q972
        go_wp2_with (first | ((with_reducible refine gate_builtin (b := .append) (xs := #[.tmp 22, .tmp 24]) rfl ?_); at_builtin; refine Kd.R_append (Kd.int .i64) w.heap.size rfl (.tmp 22) (.tmp 24) 26 3 (.int .i64 0) 8 rfl Try.underlying26 info3 rfl (by decide) (by omega) u5 x5_1 x14_1 [.int .i64 x14_1] (fun _ => True) (fun _ => False) rfl rfl ?aP (fun _ hk => hk.elim) ?aF ?aO (Below.refl _ _) ?aS ?aL ?_; (case aP => exact rfl); (case aF => exact (fun _ _ => trivial)); (case aO => exact (gR HO_5)); (case aS => exact (keep_size (w := w) (g := g) (row := none) (by repeat (first | (with_reducible first | exact HK.out | apply KeepBut.set_ | apply keep_drewN | apply keep_drew | apply keep_alloc) | exact HK.out)))); (case aL => have := LMc10.out; omega); intro v974 w12 ho hb hg hat; rw [← Ny973.out] at ho; have n0_ := Aside0.mk (IsS41.grown (by repeat (first | (with_reducible first | exact HI0.out | apply IsS41.alloc | apply IsS41.drewN | apply IsS41.drew | apply IsS41.set_5) | exact HI0.out)) hg (IsS41.own_ne HI0.out HO_5.out (by decide))); have n1_ := Aside0.mk (below_weaken (gT1 (IsS41.ge HI0.out) HB) HL.out hb); have n2_ := Aside0.mk (KeepBut.trans (by repeat (first | (with_reducible first | exact HK.out | apply KeepBut.set_ | apply keep_drewN | apply keep_drew | apply keep_alloc) | exact HK.out)) (KeepBut.of_grown hg g) (Kd.R_base2 HO_5.out)); have n3_ := Aside0.mk (ho); clear HI0; clear HB; clear HK; clear HO_5; have HI0 := n0_; have HB := n1_; have HK := n2_; have HO975 := n3_; clear n0_ n1_ n2_ n3_; clear ho hb hg hat))
        go_roundg k1
        case measure => have := HK1.out; omega
        case rel => exact ⟨(y973), (wrap64 (x14_1 + 1)), (by first | rfl | (simp; done) | (simp [*]; done)), H', ⟨by have := HK1.out; omega⟩, ⟨gR HO975⟩, ⟨by repeat (first | (with_reducible first | exact HI0.out | apply IsS41.alloc | apply IsS41.drewN | apply IsS41.drew | apply IsS41.set_5) | exact HI0.out)⟩, ⟨by repeat (first | (with_reducible first | exact HK.out | apply KeepBut.set_ | apply keep_drewN | apply keep_drew | apply keep_alloc) | exact HK.out)⟩, ⟨gT1 (IsS41.ge HI0.out) HB⟩⟩
       ·rw [if_neg c10] at H; exact absurd H (by simp)
      ·rw [if_neg c9] at H; have c9b0 : ((rd s0_1 x14_1) == a1) = false := beq_eq_false_iff_ne.mpr c9; have c9b1 : ((rd s0_1 x14_1) != a1) = true := bne_iff_ne.mpr c9; have H' := Aside0.mk H; clear H; obtain ⟨ASz13_0, cSz13_0, ASz13_1, cSz13_1, ASz13_2, cSz13_2, ASz13_3, cSz13_3, ASz13_4, cSz13_4, ASz13_6, cSz13_6, ASz13_7, cSz13_7, ASz13_8, cSz13_8, ASz13_9, cSz13_9, HGz13, hgz13, HSz13_0, HSz13_1, HSz13_2, HSz13_3, HSz13_4, HSz13_6, HSz13_7, HSz13_8, HSz13_9⟩ := HI0.out; have hcz13_0 := cellS41_0 HGz13; have hcz13_1 := cellS41_1 HGz13; have hcz13_2 := cellS41_2 HGz13; have hcz13_3 := cellS41_3 HGz13; have hcz13_4 := cellS41_4 HGz13; have hcz13_5 := cellS41_5 HGz13; have hcz13_6 := cellS41_6 HGz13; have hcz13_7 := cellS41_7 HGz13; have hcz13_8 := cellS41_8 HGz13; have hcz13_9 := cellS41_9 HGz13; have hfz13_5 := blk_frozen HGz13 5; clear HGz13 hgz13; have p972 : 0 ≤ (x14_1 : Int) := of_decide_eq_true (by first | (with_reducible assumption) | assumption); have q972 : x14_1 < (s0_1.length : Int) := of_decide_eq_true (by first | (with_reducible assumption) | assumption); obtain ⟨ad972, e972, hx972_0⟩ := Kd.at_int HSz5_1 x14_1 p972 q972
       cases e972; replace hx972_0 := pw_cell_below HB.out hx972_0; replace p972 := eq_true p972; replace q972 := eq_true q972; go_wp2
       go_roundg k1
       case measure => have := HK1.out; omega
       case rel => exact ⟨(x5_1), (wrap64 (x14_1 + 1)), (by first | rfl | (simp; done) | (simp [*]; done)), H', ⟨by have := HK1.out; omega⟩, ⟨gR HO_5⟩, ⟨by repeat (first | (with_reducible first | exact HI0.out | apply IsS41.alloc | apply IsS41.drewN | apply IsS41.drew | apply IsS41.set_5) | exact HI0.out)⟩, ⟨by repeat (first | (with_reducible first | exact HK.out | apply KeepBut.set_ | apply keep_drewN | apply keep_drew | apply keep_alloc) | exact HK.out)⟩, ⟨gT1 (IsS41.ge HI0.out) HB⟩⟩
     ·rw [if_neg c8] at H; exact absurd H (by simp)
    ·rw [if_neg c7] at H; exact absurd H (by simp)
   ·rw [if_neg c6] at H; have c6b0 : decide (x14_1 < (s0_1.length : Int)) = false := decide_eq_false c6; clear c6; simp only [Option.some.injEq, Prod.mk.injEq] at H; obtain ⟨rfl, rfl⟩ := H; go_wp2
    go_ret
    exact ⟨_, by first | rfl | (simp [errW_none, errW_some] <;> rfl) | (simp [*, errW_none, errW_some] <;> rfl), gR HO_5, by repeat (first | (with_reducible first | exact HI0.out | apply IsS41.alloc | apply IsS41.drewN | apply IsS41.drew | apply IsS41.set_5) | exact HI0.out), gT1 (IsS41.ge HI0.out) HB, by repeat (first | (with_reducible first | exact HK.out | apply KeepBut.set_ | apply keep_drewN | apply keep_drew | apply keep_alloc) | exact HK.out)⟩
def slices_Equal_int_int.l0 : Nat → List Int → List Int → Int → Int → Option (Bool)
  | 0, _, _, _, _ => none
  | k + 1, x0, x1, x12, x13 => if x13 < x12 then (if 0 ≤ x13 then (if x13 < (x0.length : Int) then (if x13 < (x1.length : Int) then (if (rd x0 x13) = (rd x1 x13) then (slices_Equal_int_int.l0 k x0 x1 x12 (wrap64 (x13 + 1))) else (some false)) else (none)) else (none)) else (none)) else (some true)
def slices_Equal_int_int.f (k : Nat) (l0 : List Int) (l1 : List Int) : Option (Bool) := if (l0.length : Int) = (l1.length : Int) then (slices_Equal_int_int.l0 k l0 l1 (l0.length : Int) 0) else (some false)
set_option maxHeartbeats 8000000 in
set_option maxRecDepth 100000 in
theorem slices_Equal_int_int.calls (k : Nat) (A0 : Option Addr) (c0 : Nat) (l0 : List Int) (A1 : Option Addr) (c1 : Nat) (l1 : List Int) (r : Bool) (w : World) (hr0 : Kd.C (Kd.int .i64) w A0 l0.length l0) (hc0 : l0.length ≤ c0) (hr1 : Kd.C (Kd.int .i64) w A1 l1.length l1) (hc1 : l1.length ≤ c1) (h : slices_Equal_int_int.f k l0 l1 = some r) :
    Calls Try.prog 121 #[.slice A0 l0.length c0, .slice A1 l1.length c1] w fun e w' => e = .returned (.bool r) ∧ Drawn0 w w' := by
  have HR0 := Aside0.mk hr0
  have HC0 := Aside0.mk hc0
  clear hr0 hc0
  have HR1 := Aside0.mk hr1
  have HC1 := Aside0.mk hc1
  clear hr1 hc1
  have H : (if (l0.length : Int) = (l1.length : Int) then (slices_Equal_int_int.l0 k l0 l1 (l0.length : Int) 0) else (some false)) = some r := h
  clear h
  by_cases c3 : (l0.length : Int) = (l1.length : Int)
  · rw [if_pos c3] at H
    have c3b0 : ((l0.length : Int) == (l1.length : Int)) = true := beq_iff_eq.mpr c3
    have c3b1 : ((l0.length : Int) != (l1.length : Int)) = false := bne_eq_false_iff_eq.mpr c3
    have c3b2 : (l0.length == l1.length) = true := by first | simpa using c3 | (simp at c3 ⊢; omega)
    clear c3
    have H' := Aside0.mk H
    clear H
    go_enter Try.func121, Try.ntmps121
    go_wp2
    repeat (go_quiet (fail); try go_wp2)
    go_loopg [13] k (fun kq v13 w' => ∃ (x13_1 : Int), v13 = .int .i64 x13_1 ∧ Aside0 (slices_Equal_int_int.l0 kq l0 l1 (l0.length : Int) x13_1 = some r) ∧ Aside0 (kq ≤ k) ∧ Drawn0 w w')
    case atStart => exact ⟨(0), (by first | rfl | (simp; done) | (simp [*]; done)), H', ⟨Nat.le_refl _⟩, by repeat (first | exact Drawn0.refl _ | apply Drawn0.step)⟩
    case round =>
      clear H'
      try clear c1
      try clear p2
      try clear c3
      try clear c3b0
      try clear c3b1
      try clear c3b2
      obtain ⟨x13_1, rfl, HA, HK1, ⟨m1, rfl⟩⟩ := hrel
      cases gk with
      | zero => exact absurd HA.out (by simp [slices_Equal_int_int.l0])
      | succ k1 =>
        have H := HA.out
        clear HA
        simp only [slices_Equal_int_int.l0] at H
        by_cases c4 : x13_1 < (l0.length : Int)
        · rw [if_pos c4] at H
          have c4b0 : decide (x13_1 < (l0.length : Int)) = true := decide_eq_true c4
          clear c4
          by_cases c5 : 0 ≤ x13_1
          · rw [if_pos c5] at H
            have c5b0 : decide (0 ≤ x13_1) = true := decide_eq_true c5
            clear c5
            by_cases c6 : x13_1 < (l0.length : Int)
            · rw [if_pos c6] at H
              have c6b0 : decide (x13_1 < (l0.length : Int)) = true := decide_eq_true c6
              clear c6
              by_cases c7 : x13_1 < (l1.length : Int)
              · rw [if_pos c7] at H
                have c7b0 : decide (x13_1 < (l1.length : Int)) = true := decide_eq_true c7
                clear c7
                by_cases c8 : (rd l0 x13_1) = (rd l1 x13_1)
                · rw [if_pos c8] at H
                  have c8b0 : ((rd l0 x13_1) == (rd l1 x13_1)) = true := beq_iff_eq.mpr c8
                  have c8b1 : ((rd l0 x13_1) != (rd l1 x13_1)) = false := bne_eq_false_iff_eq.mpr c8
                  clear c8
                  have H' := Aside0.mk H
                  clear H
                  have p976 : 0 ≤ (x13_1 : Int) := of_decide_eq_true (by first | (with_reducible assumption) | assumption)
                  have q976 : x13_1 < (l0.length : Int) := of_decide_eq_true (by first | (with_reducible assumption) | assumption)
                  obtain ⟨ad976, e976, hx976_0⟩ := Kd.at_int HR0.out x13_1 p976 q976
                  cases e976
                  replace p976 := eq_true p976
                  replace q976 := eq_true q976
                  have p977 : 0 ≤ (x13_1 : Int) := of_decide_eq_true (by first | (with_reducible assumption) | assumption)
                  have q977 : x13_1 < (l1.length : Int) := of_decide_eq_true (by first | (with_reducible assumption) | assumption)
                  obtain ⟨ad977, e977, hx977_0⟩ := Kd.at_int HR1.out x13_1 p977 q977
                  cases e977
                  replace p977 := eq_true p977
                  replace q977 := eq_true q977
                  go_wp2
                  repeat (go_quiet (fail); try go_wp2)
                  go_roundg k1
                  case measure => have := HK1.out; omega
                  case rel => exact ⟨(wrap64 (x13_1 + 1)), (by first | rfl | (simp; done) | (simp [*]; done)), H', ⟨by have := HK1.out; omega⟩, by repeat (first | exact Drawn0.refl _ | apply Drawn0.step)⟩
                · rw [if_neg c8] at H
                  have c8b0 : ((rd l0 x13_1) == (rd l1 x13_1)) = false := beq_eq_false_iff_ne.mpr c8
                  have c8b1 : ((rd l0 x13_1) != (rd l1 x13_1)) = true := bne_iff_ne.mpr c8
                  obtain rfl := Option.some.inj H
                  have p976 : 0 ≤ (x13_1 : Int) := of_decide_eq_true (by first | (with_reducible assumption) | assumption)
                  have q976 : x13_1 < (l0.length : Int) := of_decide_eq_true (by first | (with_reducible assumption) | assumption)
                  obtain ⟨ad976, e976, hx976_0⟩ := Kd.at_int HR0.out x13_1 p976 q976
                  cases e976
                  replace p976 := eq_true p976
                  replace q976 := eq_true q976
                  have p977 : 0 ≤ (x13_1 : Int) := of_decide_eq_true (by first | (with_reducible assumption) | assumption)
                  have q977 : x13_1 < (l1.length : Int) := of_decide_eq_true (by first | (with_reducible assumption) | assumption)
                  obtain ⟨ad977, e977, hx977_0⟩ := Kd.at_int HR1.out x13_1 p977 q977
                  cases e977
                  replace p977 := eq_true p977
                  replace q977 := eq_true q977
                  go_wp2
                  repeat (go_quiet (fail); try go_wp2)
                  go_ret
                  exact ⟨by first | rfl | (simp; done) | (simp [*]; done), by repeat (first | exact Drawn0.refl _ | apply Drawn0.step)⟩
              · rw [if_neg c7] at H
                exact absurd H (by simp)
            · rw [if_neg c6] at H
              exact absurd H (by simp)
          · rw [if_neg c5] at H
            exact absurd H (by simp)
        · rw [if_neg c4] at H
          have c4b0 : decide (x13_1 < (l0.length : Int)) = false := decide_eq_false c4
          clear c4
          obtain rfl := Option.some.inj H
          go_wp2
          repeat (go_quiet (fail); try go_wp2)
          go_ret
          exact ⟨by first | rfl | (simp; done) | (simp [*]; done), by repeat (first | exact Drawn0.refl _ | apply Drawn0.step)⟩
  · rw [if_neg c3] at H
    have c3b0 : ((l0.length : Int) == (l1.length : Int)) = false := beq_eq_false_iff_ne.mpr c3
    have c3b1 : ((l0.length : Int) != (l1.length : Int)) = true := bne_iff_ne.mpr c3
    have c3b2 : (l0.length == l1.length) = false := by first | simpa using c3 | (simp at c3 ⊢; omega)
    obtain rfl := Option.some.inj H
    go_enter Try.func121, Try.ntmps121
    go_wp2
    repeat (go_quiet (fail); try go_wp2)
    go_ret
    exact ⟨by first | rfl | (simp; done) | (simp [*]; done), by repeat (first | exact Drawn0.refl _ | apply Drawn0.step)⟩
def impl_isSize.f (a0 : Int) : Option (Bool) := (impl_within.f a0 8 32).bind fun t180 => (if t180 = true then (some ((Int.tmod a0 8) == 0)) else (some false))
set_option maxHeartbeats 8000000 in
set_option maxRecDepth 100000 in
theorem impl_isSize.calls (a0 : Int) (r : Bool) (w : World) (h : impl_isSize.f a0 = some r) :
    Calls Try.prog 38 #[.int .i64 a0] w fun e w' => e = .returned (.bool r) ∧ Drawn0 w w' := by
  have H : ((impl_within.f a0 8 32).bind fun t180 => (if t180 = true then (some ((Int.tmod a0 8) == 0)) else (some false))) = some r := h
  clear h
  replace H := Option.bind_eq_some_iff.mp H
  obtain ⟨t180, A20, H⟩ := H
  replace H : (if t180 = true then (some ((Int.tmod a0 8) == 0)) else (some false)) = some r := H
  have A2 := Aside0.mk A20
  clear A20
  by_cases c3 : t180 = true
  · subst c3
    have H1 : (some ((Int.tmod a0 8) == 0)) = some r := by rw [if_pos rfl] at H; exact H
    clear H
    have H := H1
    clear H1
    obtain rfl := Option.some.inj H
    go_enter Try.func38, Try.ntmps38
    go_wp2_with (first | ((with_reducible refine gate_callee (f := 35) rfl ?_); refine goesL_ (some 4) rfl rfl Try.func35 (by kernel_rfl) rfl #[.int .i64 a0, .int .i64 8, .int .i64 32] rfl (by (try simp only [List.map_toArray, List.map_cons, List.map_nil]); first | done | rfl | (simp only [List.length_drop, List.length_take]; rfl)) ?_; (with_reducible refine (impl_within.calls a0 8 32 true _ A2.out).mono ?_); rintro e w' ⟨rfl, ⟨nd, rfl⟩⟩; refine ⟨_, rfl, ?_⟩))
    go_ret
    exact ⟨by first | rfl | (simp; done) | (simp [*]; done), by repeat (first | exact Drawn0.refl _ | apply Drawn0.step)⟩
  · replace c3 := Bool.eq_false_iff.mpr c3
    subst c3
    have H1 : (some false) = some r := by rw [if_neg (show ¬ (false = true) by decide)] at H; exact H
    clear H
    have H := H1
    clear H1
    obtain rfl := Option.some.inj H
    go_enter Try.func38, Try.ntmps38
    go_wp2_with (first | ((with_reducible refine gate_callee (f := 35) rfl ?_); refine goesL_ (some 4) rfl rfl Try.func35 (by kernel_rfl) rfl #[.int .i64 a0, .int .i64 8, .int .i64 32] rfl (by (try simp only [List.map_toArray, List.map_cons, List.map_nil]); first | done | rfl | (simp only [List.length_drop, List.length_take]; rfl)) ?_; (with_reducible refine (impl_within.calls a0 8 32 false _ A2.out).mono ?_); rintro e w' ⟨rfl, ⟨nd, rfl⟩⟩; refine ⟨_, rfl, ?_⟩))
    go_ret
    exact ⟨by first | rfl | (simp; done) | (simp [*]; done), by repeat (first | exact Drawn0.refl _ | apply Drawn0.step)⟩
def impl_runOk.f (a0 : Int) (a1_0 : Int) (a1_1 : Int) : Option (Bool) := (impl_within.f a1_1 0 3).bind fun t979 => (if t979 = true then (if 0 ≤ a1_1 then ((impl_within.f a1_0 0 (wrap64 (a0 - (shl .i64 1 a1_1)))).bind fun t980 => (if t980 = true then (if (shl .i64 1 a1_1) = 0 then (none) else (some ((Int.tmod a1_0 (shl .i64 1 a1_1)) == 0))) else (some false))) else (none)) else (some false))
set_option maxHeartbeats 8000000 in
set_option maxRecDepth 100000 in
theorem impl_runOk.calls (a0 : Int) (a1_0 : Int) (a1_1 : Int) (r : Bool) (w : World) (h : impl_runOk.f a0 a1_0 a1_1 = some r) :
  Calls Try.prog 127 #[.int .i64 a0, .agg #[.int .i64 a1_0, .int .i64 a1_1]] w fun e w' => e = .returned (.bool r) ∧ Below w.heap.size w w' := by
 have hu124 := Try.underlying124; have HB := Aside0.mk (Below.refl w.heap.size w); have H : ((impl_within.f a1_1 0 3).bind fun t979 => (if t979 = true then (if 0 ≤ a1_1 then ((impl_within.f a1_0 0 (wrap64 (a0 - (shl .i64 1 a1_1)))).bind fun t980 => (if t980 = true then (if (shl .i64 1 a1_1) = 0 then (none) else (some ((Int.tmod a1_0 (shl .i64 1 a1_1)) == 0))) else (some false))) else (none)) else (some false))) = some r := h; clear h; replace H := Option.bind_eq_some_iff.mp H; obtain ⟨t979, A30, H⟩ := H; replace H : (if t979 = true then (if 0 ≤ a1_1 then ((impl_within.f a1_0 0 (wrap64 (a0 - (shl .i64 1 a1_1)))).bind fun t980 => (if t980 = true then (if (shl .i64 1 a1_1) = 0 then (none) else (some ((Int.tmod a1_0 (shl .i64 1 a1_1)) == 0))) else (some false))) else (none)) else (some false)) = some r := H; have A3 := Aside0.mk A30; clear A30
 by_cases c4 : t979 = true
 ·subst c4
  have H1 : (if 0 ≤ a1_1 then ((impl_within.f a1_0 0 (wrap64 (a0 - (shl .i64 1 a1_1)))).bind fun t980 => (if t980 = true then (if (shl .i64 1 a1_1) = 0 then (none) else (some ((Int.tmod a1_0 (shl .i64 1 a1_1)) == 0))) else (some false))) else (none)) = some r := by rw [if_pos rfl] at H; exact H
  clear H; have H := H1; clear H1
  by_cases c5 : 0 ≤ a1_1
  ·rw [if_pos c5] at H; have c5b0 := eq_true c5; have c5b1 : decide (0 ≤ a1_1) = true := decide_eq_true c5; clear c5
   obtain ⟨ji6, hji6⟩ : ∃ j_ : Int, (shl .i64 1 a1_1) = j_ := ⟨_, rfl⟩
   replace H : ((impl_within.f a1_0 0 (wrap64 (a0 - (ji6)))).bind fun t980 => (if t980 = true then (if (ji6) = 0 then (none) else (some ((Int.tmod a1_0 (ji6)) == 0))) else (some false))) = some r := by first | (rw [hji6] at H; exact H) | (simp only [hji6] at H ⊢; exact H)
   (try rw [hji6] at A3); have hji6_ : (IntKind.i64.wrap (1 * 2 ^ min a1_1.toNat 64)) = ji6 := hji6; have hji6z : a1_1 ≤ 64 → (IntKind.i64.wrap (1 * 2 ^ a1_1.toNat)) = ji6 := shl_small hji6
   have hji6u : (IntKind.i64.wrap (2 ^ min a1_1.toNat 64)) = ji6 := by have h_ := hji6_; rw [Int.one_mul] at h_; exact h_
   have hji6v : a1_1 ≤ 64 → (IntKind.i64.wrap (2 ^ a1_1.toNat)) = ji6 := fun hle_ => by have h_ := hji6z hle_; rw [Int.one_mul] at h_; exact h_
   have hji6y : (wrap64 (1 * 2 ^ min a1_1.toNat 64)) = ji6 := (i64_w _).symm.trans hji6_
   have hji6x : a1_1 ≤ 64 → (wrap64 (1 * 2 ^ a1_1.toNat)) = ji6 := fun h_ => (i64_w _).symm.trans (hji6z h_)
   replace H := Option.bind_eq_some_iff.mp H; obtain ⟨t980, A70, H⟩ := H; replace H : (if t980 = true then (if (ji6) = 0 then (none) else (some ((Int.tmod a1_0 (ji6)) == 0))) else (some false)) = some r := H; have A7 := Aside0.mk A70; clear A70
   by_cases c8 : t980 = true
   ·subst c8
    have H1 : (if (ji6) = 0 then (none) else (some ((Int.tmod a1_0 (ji6)) == 0))) = some r := by rw [if_pos rfl] at H; exact H
    clear H; have H := H1; clear H1; have c9b0 := eq_true (of_decide_eq_true (by first | (with_reducible assumption) | assumption) : 0 ≤ a1_1)
    by_cases c11 : (ji6) = 0
    ·rw [if_pos c11] at H; exact absurd H (by simp)
    ·rw [if_neg c11] at H; have c11b0 : ((ji6) == 0) = false := beq_eq_false_iff_ne.mpr c11; have c11b1 : ((ji6) != 0) = true := bne_iff_ne.mpr c11; obtain rfl := Option.some.inj H
     go_enter Try.func127, Try.ntmps127
     go_wp2_with (first | ((with_reducible refine gate_dst (N := 3) rfl ?_); refine box_event ?hg (N := 3) ?hd (cs := #[.int .i64 a1_0, .int .i64 a1_1]) (t := 124) ?hr ?_; (case hd => rfl); (case hg => rfl); (case hr => first | (go_simp; done) | (go_simp; rfl)); intro gb978 hg w12 hbox hb; have BK978 := Aside0.mk (hbox); have GW978 := Aside0.mk ((by rw [hg]; exact (below_size (gB HB)) : w.heap.size ≤ gb978)); have GE978 := Aside0.mk ((by rw [hg]; exact (below_size (gB HB)) : w.heap.size ≤ gb978)); replace HB := Aside0.mk (below_step (gB HB) hb); clear hb hbox hg; have hcz13_0 : w12.cell? ⟨gb978, 0, none⟩ = some (.int .i64 a1_0) := (blk_cell BK978.out 0).trans rfl; have hcz13_1 : w12.cell? ⟨gb978, 1, none⟩ = some (.int .i64 a1_1) := (blk_cell BK978.out 1).trans rfl; have hfz13_0 := blk_frozen BK978.out 0; have hfz13_1 := blk_frozen BK978.out 1) | (go_at_call 35; (with_reducible refine (impl_within.calls a1_1 0 3 true _ A3.out).mono ?_); rintro e w' ⟨rfl, ⟨nd, rfl⟩⟩; (try first | exact ⟨rfl, _, World.drewN_drewN _ _ _⟩ | exact ⟨rfl, _, Eq.trans (World.drewN_drewN _ _ _) (congrArg (World.drewN _) (Nat.add_assoc _ _ _))⟩)) | (go_at_call 35; (with_reducible refine (impl_within.calls a1_0 0 (wrap64 (a0 - (ji6))) true _ A7.out).mono ?_); rintro e w' ⟨rfl, ⟨nd, rfl⟩⟩; (try first | exact ⟨rfl, _, World.drewN_drewN _ _ _⟩ | exact ⟨rfl, _, Eq.trans (World.drewN_drewN _ _ _) (congrArg (World.drewN _) (Nat.add_assoc _ _ _))⟩)))
     repeat (go_quiet (first | ((with_reducible refine gate_dst (N := 3) rfl ?_); refine box_event ?hg (N := 3) ?hd (cs := #[.int .i64 a1_0, .int .i64 a1_1]) (t := 124) ?hr ?_; (case hd => rfl); (case hg => rfl); (case hr => first | (go_simp; done) | (go_simp; rfl)); intro gb978 hg w12 hbox hb; have n0_ := Aside0.mk (below_step (gB HB) hb); have n1_ := Aside0.mk (hbox); have n2_ := Aside0.mk ((by rw [hg]; exact (below_size (gB HB)) : w.heap.size ≤ gb978)); have n3_ := Aside0.mk ((by rw [hg]; exact (below_size (gB HB)) : w.heap.size ≤ gb978)); clear HB; have HB := n0_; have BK978 := n1_; have GW978 := n2_; have GE978 := n3_; clear n0_ n1_ n2_ n3_; clear hb hbox hg; have hcz13_0 : w12.cell? ⟨gb978, 0, none⟩ = some (.int .i64 a1_0) := (blk_cell BK978.out 0).trans rfl; have hcz13_1 : w12.cell? ⟨gb978, 1, none⟩ = some (.int .i64 a1_1) := (blk_cell BK978.out 1).trans rfl; have hfz13_0 := blk_frozen BK978.out 0; have hfz13_1 := blk_frozen BK978.out 1) | (go_at_call 35; (with_reducible refine (impl_within.calls a1_1 0 3 true _ A3.out).mono ?_); rintro e w' ⟨rfl, ⟨nd, rfl⟩⟩; (try first | exact ⟨rfl, _, World.drewN_drewN _ _ _⟩ | exact ⟨rfl, _, Eq.trans (World.drewN_drewN _ _ _) (congrArg (World.drewN _) (Nat.add_assoc _ _ _))⟩)) | (go_at_call 35; (with_reducible refine (impl_within.calls a1_0 0 (wrap64 (a0 - (ji6))) true _ A7.out).mono ?_); rintro e w' ⟨rfl, ⟨nd, rfl⟩⟩; (try first | exact ⟨rfl, _, World.drewN_drewN _ _ _⟩ | exact ⟨rfl, _, Eq.trans (World.drewN_drewN _ _ _) (congrArg (World.drewN _) (Nat.add_assoc _ _ _))⟩))); try go_wp2_with (first | ((with_reducible refine gate_dst (N := 3) rfl ?_); refine box_event ?hg (N := 3) ?hd (cs := #[.int .i64 a1_0, .int .i64 a1_1]) (t := 124) ?hr ?_; (case hd => rfl); (case hg => rfl); (case hr => first | (go_simp; done) | (go_simp; rfl)); intro gb978 hg w12 hbox hb; have n0_ := Aside0.mk (below_step (gB HB) hb); have n1_ := Aside0.mk (hbox); have n2_ := Aside0.mk ((by rw [hg]; exact (below_size (gB HB)) : w.heap.size ≤ gb978)); have n3_ := Aside0.mk ((by rw [hg]; exact (below_size (gB HB)) : w.heap.size ≤ gb978)); clear HB; have HB := n0_; have BK978 := n1_; have GW978 := n2_; have GE978 := n3_; clear n0_ n1_ n2_ n3_; clear hb hbox hg; have hcz13_0 : w12.cell? ⟨gb978, 0, none⟩ = some (.int .i64 a1_0) := (blk_cell BK978.out 0).trans rfl; have hcz13_1 : w12.cell? ⟨gb978, 1, none⟩ = some (.int .i64 a1_1) := (blk_cell BK978.out 1).trans rfl; have hfz13_0 := blk_frozen BK978.out 0; have hfz13_1 := blk_frozen BK978.out 1) | (go_at_call 35; (with_reducible refine (impl_within.calls a1_1 0 3 true _ A3.out).mono ?_); rintro e w' ⟨rfl, ⟨nd, rfl⟩⟩; (try first | exact ⟨rfl, _, World.drewN_drewN _ _ _⟩ | exact ⟨rfl, _, Eq.trans (World.drewN_drewN _ _ _) (congrArg (World.drewN _) (Nat.add_assoc _ _ _))⟩)) | (go_at_call 35; (with_reducible refine (impl_within.calls a1_0 0 (wrap64 (a0 - (ji6))) true _ A7.out).mono ?_); rintro e w' ⟨rfl, ⟨nd, rfl⟩⟩; (try first | exact ⟨rfl, _, World.drewN_drewN _ _ _⟩ | exact ⟨rfl, _, Eq.trans (World.drewN_drewN _ _ _) (congrArg (World.drewN _) (Nat.add_assoc _ _ _))⟩))))
     go_ret
     exact ⟨by first | rfl | (simp [errW_none, errW_some] <;> rfl) | (simp only [← hji6]; first | rfl | (simp [errW_none, errW_some] <;> rfl)) | (simp [*, errW_none, errW_some] <;> rfl), gT1 GE978.out HB⟩
   ·replace c8 := Bool.eq_false_iff.mpr c8; subst c8
    have H1 : (some false) = some r := by rw [if_neg (show ¬ (false = true) by decide)] at H; exact H
    clear H; have H := H1; clear H1; obtain rfl := Option.some.inj H
    go_enter Try.func127, Try.ntmps127
    go_wp2_with (first | ((with_reducible refine gate_dst (N := 3) rfl ?_); refine box_event ?hg (N := 3) ?hd (cs := #[.int .i64 a1_0, .int .i64 a1_1]) (t := 124) ?hr ?_; (case hd => rfl); (case hg => rfl); (case hr => first | (go_simp; done) | (go_simp; rfl)); intro gb978 hg w14 hbox hb; have BK978 := Aside0.mk (hbox); have GW978 := Aside0.mk ((by rw [hg]; exact (below_size (gB HB)) : w.heap.size ≤ gb978)); have GE978 := Aside0.mk ((by rw [hg]; exact (below_size (gB HB)) : w.heap.size ≤ gb978)); replace HB := Aside0.mk (below_step (gB HB) hb); clear hb hbox hg; have hcz15_0 : w14.cell? ⟨gb978, 0, none⟩ = some (.int .i64 a1_0) := (blk_cell BK978.out 0).trans rfl; have hcz15_1 : w14.cell? ⟨gb978, 1, none⟩ = some (.int .i64 a1_1) := (blk_cell BK978.out 1).trans rfl; have hfz15_0 := blk_frozen BK978.out 0; have hfz15_1 := blk_frozen BK978.out 1) | (go_at_call 35; (with_reducible refine (impl_within.calls a1_1 0 3 true _ A3.out).mono ?_); rintro e w' ⟨rfl, ⟨nd, rfl⟩⟩; (try first | exact ⟨rfl, _, World.drewN_drewN _ _ _⟩ | exact ⟨rfl, _, Eq.trans (World.drewN_drewN _ _ _) (congrArg (World.drewN _) (Nat.add_assoc _ _ _))⟩)) | (go_at_call 35; (with_reducible refine (impl_within.calls a1_0 0 (wrap64 (a0 - (ji6))) false _ A7.out).mono ?_); rintro e w' ⟨rfl, ⟨nd, rfl⟩⟩; (try first | exact ⟨rfl, _, World.drewN_drewN _ _ _⟩ | exact ⟨rfl, _, Eq.trans (World.drewN_drewN _ _ _) (congrArg (World.drewN _) (Nat.add_assoc _ _ _))⟩)))
    repeat (go_quiet (first | ((with_reducible refine gate_dst (N := 3) rfl ?_); refine box_event ?hg (N := 3) ?hd (cs := #[.int .i64 a1_0, .int .i64 a1_1]) (t := 124) ?hr ?_; (case hd => rfl); (case hg => rfl); (case hr => first | (go_simp; done) | (go_simp; rfl)); intro gb978 hg w14 hbox hb; have n0_ := Aside0.mk (below_step (gB HB) hb); have n1_ := Aside0.mk (hbox); have n2_ := Aside0.mk ((by rw [hg]; exact (below_size (gB HB)) : w.heap.size ≤ gb978)); have n3_ := Aside0.mk ((by rw [hg]; exact (below_size (gB HB)) : w.heap.size ≤ gb978)); clear HB; have HB := n0_; have BK978 := n1_; have GW978 := n2_; have GE978 := n3_; clear n0_ n1_ n2_ n3_; clear hb hbox hg; have hcz15_0 : w14.cell? ⟨gb978, 0, none⟩ = some (.int .i64 a1_0) := (blk_cell BK978.out 0).trans rfl; have hcz15_1 : w14.cell? ⟨gb978, 1, none⟩ = some (.int .i64 a1_1) := (blk_cell BK978.out 1).trans rfl; have hfz15_0 := blk_frozen BK978.out 0; have hfz15_1 := blk_frozen BK978.out 1) | (go_at_call 35; (with_reducible refine (impl_within.calls a1_1 0 3 true _ A3.out).mono ?_); rintro e w' ⟨rfl, ⟨nd, rfl⟩⟩; (try first | exact ⟨rfl, _, World.drewN_drewN _ _ _⟩ | exact ⟨rfl, _, Eq.trans (World.drewN_drewN _ _ _) (congrArg (World.drewN _) (Nat.add_assoc _ _ _))⟩)) | (go_at_call 35; (with_reducible refine (impl_within.calls a1_0 0 (wrap64 (a0 - (ji6))) false _ A7.out).mono ?_); rintro e w' ⟨rfl, ⟨nd, rfl⟩⟩; (try first | exact ⟨rfl, _, World.drewN_drewN _ _ _⟩ | exact ⟨rfl, _, Eq.trans (World.drewN_drewN _ _ _) (congrArg (World.drewN _) (Nat.add_assoc _ _ _))⟩))); try go_wp2_with (first | ((with_reducible refine gate_dst (N := 3) rfl ?_); refine box_event ?hg (N := 3) ?hd (cs := #[.int .i64 a1_0, .int .i64 a1_1]) (t := 124) ?hr ?_; (case hd => rfl); (case hg => rfl); (case hr => first | (go_simp; done) | (go_simp; rfl)); intro gb978 hg w14 hbox hb; have n0_ := Aside0.mk (below_step (gB HB) hb); have n1_ := Aside0.mk (hbox); have n2_ := Aside0.mk ((by rw [hg]; exact (below_size (gB HB)) : w.heap.size ≤ gb978)); have n3_ := Aside0.mk ((by rw [hg]; exact (below_size (gB HB)) : w.heap.size ≤ gb978)); clear HB; have HB := n0_; have BK978 := n1_; have GW978 := n2_; have GE978 := n3_; clear n0_ n1_ n2_ n3_; clear hb hbox hg; have hcz15_0 : w14.cell? ⟨gb978, 0, none⟩ = some (.int .i64 a1_0) := (blk_cell BK978.out 0).trans rfl; have hcz15_1 : w14.cell? ⟨gb978, 1, none⟩ = some (.int .i64 a1_1) := (blk_cell BK978.out 1).trans rfl; have hfz15_0 := blk_frozen BK978.out 0; have hfz15_1 := blk_frozen BK978.out 1) | (go_at_call 35; (with_reducible refine (impl_within.calls a1_1 0 3 true _ A3.out).mono ?_); rintro e w' ⟨rfl, ⟨nd, rfl⟩⟩; (try first | exact ⟨rfl, _, World.drewN_drewN _ _ _⟩ | exact ⟨rfl, _, Eq.trans (World.drewN_drewN _ _ _) (congrArg (World.drewN _) (Nat.add_assoc _ _ _))⟩)) | (go_at_call 35; (with_reducible refine (impl_within.calls a1_0 0 (wrap64 (a0 - (ji6))) false _ A7.out).mono ?_); rintro e w' ⟨rfl, ⟨nd, rfl⟩⟩; (try first | exact ⟨rfl, _, World.drewN_drewN _ _ _⟩ | exact ⟨rfl, _, Eq.trans (World.drewN_drewN _ _ _) (congrArg (World.drewN _) (Nat.add_assoc _ _ _))⟩))))
    go_ret
    exact ⟨by first | rfl | (simp [errW_none, errW_some] <;> rfl) | (simp only [← hji6]; first | rfl | (simp [errW_none, errW_some] <;> rfl)) | (simp [*, errW_none, errW_some] <;> rfl), gT1 GE978.out HB⟩
  ·rw [if_neg c5] at H; exact absurd H (by simp)
 ·replace c4 := Bool.eq_false_iff.mpr c4; subst c4
  have H1 : (some false) = some r := by rw [if_neg (show ¬ (false = true) by decide)] at H; exact H
  clear H; have H := H1; clear H1; obtain rfl := Option.some.inj H
  go_enter Try.func127, Try.ntmps127
  go_wp2_with (first | ((with_reducible refine gate_dst (N := 3) rfl ?_); refine box_event ?hg (N := 3) ?hd (cs := #[.int .i64 a1_0, .int .i64 a1_1]) (t := 124) ?hr ?_; (case hd => rfl); (case hg => rfl); (case hr => first | (go_simp; done) | (go_simp; rfl)); intro gb978 hg w16 hbox hb; have BK978 := Aside0.mk (hbox); have GW978 := Aside0.mk ((by rw [hg]; exact (below_size (gB HB)) : w.heap.size ≤ gb978)); have GE978 := Aside0.mk ((by rw [hg]; exact (below_size (gB HB)) : w.heap.size ≤ gb978)); replace HB := Aside0.mk (below_step (gB HB) hb); clear hb hbox hg; have hcz17_0 : w16.cell? ⟨gb978, 0, none⟩ = some (.int .i64 a1_0) := (blk_cell BK978.out 0).trans rfl; have hcz17_1 : w16.cell? ⟨gb978, 1, none⟩ = some (.int .i64 a1_1) := (blk_cell BK978.out 1).trans rfl; have hfz17_0 := blk_frozen BK978.out 0; have hfz17_1 := blk_frozen BK978.out 1) | (go_at_call 35; (with_reducible refine (impl_within.calls a1_1 0 3 false _ A3.out).mono ?_); rintro e w' ⟨rfl, ⟨nd, rfl⟩⟩; (try first | exact ⟨rfl, _, World.drewN_drewN _ _ _⟩ | exact ⟨rfl, _, Eq.trans (World.drewN_drewN _ _ _) (congrArg (World.drewN _) (Nat.add_assoc _ _ _))⟩)))
  repeat (go_quiet (first | ((with_reducible refine gate_dst (N := 3) rfl ?_); refine box_event ?hg (N := 3) ?hd (cs := #[.int .i64 a1_0, .int .i64 a1_1]) (t := 124) ?hr ?_; (case hd => rfl); (case hg => rfl); (case hr => first | (go_simp; done) | (go_simp; rfl)); intro gb978 hg w16 hbox hb; have n0_ := Aside0.mk (below_step (gB HB) hb); have n1_ := Aside0.mk (hbox); have n2_ := Aside0.mk ((by rw [hg]; exact (below_size (gB HB)) : w.heap.size ≤ gb978)); have n3_ := Aside0.mk ((by rw [hg]; exact (below_size (gB HB)) : w.heap.size ≤ gb978)); clear HB; have HB := n0_; have BK978 := n1_; have GW978 := n2_; have GE978 := n3_; clear n0_ n1_ n2_ n3_; clear hb hbox hg; have hcz17_0 : w16.cell? ⟨gb978, 0, none⟩ = some (.int .i64 a1_0) := (blk_cell BK978.out 0).trans rfl; have hcz17_1 : w16.cell? ⟨gb978, 1, none⟩ = some (.int .i64 a1_1) := (blk_cell BK978.out 1).trans rfl; have hfz17_0 := blk_frozen BK978.out 0; have hfz17_1 := blk_frozen BK978.out 1) | (go_at_call 35; (with_reducible refine (impl_within.calls a1_1 0 3 false _ A3.out).mono ?_); rintro e w' ⟨rfl, ⟨nd, rfl⟩⟩; (try first | exact ⟨rfl, _, World.drewN_drewN _ _ _⟩ | exact ⟨rfl, _, Eq.trans (World.drewN_drewN _ _ _) (congrArg (World.drewN _) (Nat.add_assoc _ _ _))⟩))); try go_wp2_with (first | ((with_reducible refine gate_dst (N := 3) rfl ?_); refine box_event ?hg (N := 3) ?hd (cs := #[.int .i64 a1_0, .int .i64 a1_1]) (t := 124) ?hr ?_; (case hd => rfl); (case hg => rfl); (case hr => first | (go_simp; done) | (go_simp; rfl)); intro gb978 hg w16 hbox hb; have n0_ := Aside0.mk (below_step (gB HB) hb); have n1_ := Aside0.mk (hbox); have n2_ := Aside0.mk ((by rw [hg]; exact (below_size (gB HB)) : w.heap.size ≤ gb978)); have n3_ := Aside0.mk ((by rw [hg]; exact (below_size (gB HB)) : w.heap.size ≤ gb978)); clear HB; have HB := n0_; have BK978 := n1_; have GW978 := n2_; have GE978 := n3_; clear n0_ n1_ n2_ n3_; clear hb hbox hg; have hcz17_0 : w16.cell? ⟨gb978, 0, none⟩ = some (.int .i64 a1_0) := (blk_cell BK978.out 0).trans rfl; have hcz17_1 : w16.cell? ⟨gb978, 1, none⟩ = some (.int .i64 a1_1) := (blk_cell BK978.out 1).trans rfl; have hfz17_0 := blk_frozen BK978.out 0; have hfz17_1 := blk_frozen BK978.out 1) | (go_at_call 35; (with_reducible refine (impl_within.calls a1_1 0 3 false _ A3.out).mono ?_); rintro e w' ⟨rfl, ⟨nd, rfl⟩⟩; (try first | exact ⟨rfl, _, World.drewN_drewN _ _ _⟩ | exact ⟨rfl, _, Eq.trans (World.drewN_drewN _ _ _) (congrArg (World.drewN _) (Nat.add_assoc _ _ _))⟩))))
  go_ret
  exact ⟨by first | rfl | (simp [errW_none, errW_some] <;> rfl) | (simp [*, errW_none, errW_some] <;> rfl), gT1 GE978.out HB⟩
def impl_apart.l0 : Nat → Int → List (S124) → List (S124) → Int → Int → Option (Bool)
 | 0, _, _, _, _, _ => none
 | k + 1, x0, x1, x7, x8, x9 => if x9 < x8 then (if 0 ≤ x9 then (if x9 < (x7.length : Int) then ((impl_runOk.f x0 ((rd_T124 x7 x9).f0) ((rd_T124 x7 x9).f1)).bind fun t983 => (if t983 = true then (if x9 > 0 then (if 0 ≤ (wrap64 (x9 - 1)) then (if (wrap64 (x9 - 1)) < (x1.length : Int) then (if 0 ≤ ((rd_T124 x1 (wrap64 (x9 - 1))).f1) then (if (wrap64 (((rd_T124 x1 (wrap64 (x9 - 1))).f0) + (shl .i64 1 ((rd_T124 x1 (wrap64 (x9 - 1))).f1)))) > ((rd_T124 x7 x9).f0) then (some false) else (impl_apart.l0 k x0 x1 x7 x8 (wrap64 (x9 + 1)))) else (none)) else (none)) else (none)) else (impl_apart.l0 k x0 x1 x7 x8 (wrap64 (x9 + 1)))) else (some false))) else (none)) else (none)) else ((impl_isSize.f x0).bind fun t986 => (some t986))
def impl_apart.f (k : Nat) (a0 : Int) (l1 : List (S124)) : Option (Bool) := impl_apart.l0 k a0 l1 l1 (l1.length : Int) 0
def impl_apart.T4 : Bool × List (List Nat × List Nat) := (true, [([], []), ([], []), ([0, 1], [0, 1]), ([2], [2]), ([3, 2], [3]), ([4], [4]), ([5, 4], [4, 5]), ([6, 4, 4], [4, 6]), ([7], [7]), ([7], [7]), ([9, 7], [7, 9]), ([8, 10, 7], [7, 8, 10]), ([11, 7], [7, 11]), ([12, 7], [7, 12]), ([7], [7]), ([7], [7]), ([15, 7], [7, 15]), ([14, 16, 7], [7, 14, 16]), ([17, 7], [7, 17]), ([18, 7], [7, 18]), ([19, 7], [7, 19]), ([13, 20, 7], [7, 13, 20]), ([7], [7]), ([22, 7], [7, 22]), ([21, 23, 7], [7, 21, 23]), ([7, 24, 4], [4, 7, 24]), ([4, 25], [4, 25])])
def impl_apart.B4 : List Nat := [0, 0, 3, 7, 15, 31, 63, 127, 255, 255, 767, 2047, 4095, 8191, 255, 255, 33023, 114943, 246015, 508159, 1032447, 2097151, 255, 4194559, 16777215, 33554431, 67108863]
theorem impl_apart.tab4 : rtab .any (opsOf Try.f151 4) = impl_apart.T4 := by kernel_rfl
theorem impl_apart.bits4 : waitsOk impl_apart.T4.2 impl_apart.B4 = true := by kernel_rfl
set_option maxHeartbeats 8000000 in
set_option maxRecDepth 100000 in
theorem impl_apart.calls (k : Nat) (a0 : Int) (A1 : Option Addr) (c1 : Nat) (l1 : List (S124)) (r : Bool) (w : World) (hr1 : Kd.C k124 w A1 l1.length l1) (hc1 : l1.length ≤ c1) (h : impl_apart.f k a0 l1 = some r) :
  Calls Try.prog 151 #[.int .i64 a0, .slice A1 l1.length c1] w fun e w' => e = .returned (.bool r) ∧ Below w.heap.size w w' := by
 have hu124 := Try.underlying124; have HR1 := Aside0.mk hr1; have HC1 := Aside0.mk hc1; clear hr1 hc1; have HB := Aside0.mk (Below.refl w.heap.size w); have H : (impl_apart.l0 k a0 l1 l1 (l1.length : Int) 0) = some r := h; clear h; have H' := Aside0.mk H; clear H
 go_enter Try.func151, Try.ntmps151
 go_wp2
 go_loopg [9] k (fun kq v9 w' => ∃ (x9_1 : Int), v9 = .int .i64 x9_1 ∧ Aside0 (impl_apart.l0 kq a0 l1 l1 (l1.length : Int) x9_1 = some r) ∧ Aside0 (kq ≤ k) ∧ Aside0 (Below w.heap.size w w'))
 case atStart => exact ⟨(0), (by first | rfl | (simp; done) | (simp [*]; done)), H', ⟨Nat.le_refl _⟩, ⟨gB HB⟩⟩
 case round =>
  clear H'; try clear c1
  try clear p2
  obtain ⟨x9_1, rfl, HA, HK1, HB⟩ := hrel
  cases gk with
  | zero => exact absurd HA.out (by simp [impl_apart.l0])
  | succ k1 =>
   have H := HA.out; clear HA; simp only [impl_apart.l0] at H
   by_cases c3 : x9_1 < (l1.length : Int)
   ·rw [if_pos c3] at H; have c3b0 : decide (x9_1 < (l1.length : Int)) = true := decide_eq_true c3; clear c3
    by_cases c4 : 0 ≤ x9_1
    ·rw [if_pos c4] at H; have c4b0 : decide (0 ≤ x9_1) = true := decide_eq_true c4; clear c4
     by_cases c5 : x9_1 < (l1.length : Int)
     ·rw [if_pos c5] at H; have c5b0 : decide (x9_1 < (l1.length : Int)) = true := decide_eq_true c5; clear c5; replace H := Option.bind_eq_some_iff.mp H; obtain ⟨t983, A60, H⟩ := H; replace H : (if t983 = true then (if x9_1 > 0 then (if 0 ≤ (wrap64 (x9_1 - 1)) then (if (wrap64 (x9_1 - 1)) < (l1.length : Int) then (if 0 ≤ ((rd_T124 l1 (wrap64 (x9_1 - 1))).f1) then (if (wrap64 (((rd_T124 l1 (wrap64 (x9_1 - 1))).f0) + (shl .i64 1 ((rd_T124 l1 (wrap64 (x9_1 - 1))).f1)))) > ((rd_T124 l1 x9_1).f0) then (some false) else (impl_apart.l0 k1 a0 l1 l1 (l1.length : Int) (wrap64 (x9_1 + 1)))) else (none)) else (none)) else (none)) else (impl_apart.l0 k1 a0 l1 l1 (l1.length : Int) (wrap64 (x9_1 + 1)))) else (some false)) = some r := H; have A6 := Aside0.mk A60; clear A60
      by_cases c7 : t983 = true
      ·subst c7
       have H1 : (if x9_1 > 0 then (if 0 ≤ (wrap64 (x9_1 - 1)) then (if (wrap64 (x9_1 - 1)) < (l1.length : Int) then (if 0 ≤ ((rd_T124 l1 (wrap64 (x9_1 - 1))).f1) then (if (wrap64 (((rd_T124 l1 (wrap64 (x9_1 - 1))).f0) + (shl .i64 1 ((rd_T124 l1 (wrap64 (x9_1 - 1))).f1)))) > ((rd_T124 l1 x9_1).f0) then (some false) else (impl_apart.l0 k1 a0 l1 l1 (l1.length : Int) (wrap64 (x9_1 + 1)))) else (none)) else (none)) else (none)) else (impl_apart.l0 k1 a0 l1 l1 (l1.length : Int) (wrap64 (x9_1 + 1)))) = some r := by rw [if_pos rfl] at H; exact H
       clear H; have H := H1; clear H1
       by_cases c8 : x9_1 > 0
       ·rw [if_pos c8] at H; have c8b0 : decide (0 < x9_1) = true := decide_eq_true c8; clear c8
        obtain ⟨ji9, hji9⟩ : ∃ j_ : Int, (wrap64 (x9_1 - 1)) = j_ := ⟨_, rfl⟩
        replace H : (if 0 ≤ (ji9) then (if (ji9) < (l1.length : Int) then (if 0 ≤ ((rd_T124 l1 (ji9)).f1) then (if (wrap64 (((rd_T124 l1 (ji9)).f0) + (shl .i64 1 ((rd_T124 l1 (ji9)).f1)))) > ((rd_T124 l1 x9_1).f0) then (some false) else (impl_apart.l0 k1 a0 l1 l1 (l1.length : Int) (wrap64 (x9_1 + 1)))) else (none)) else (none)) else (none)) = some r := by first | (rw [hji9] at H; exact H) | (simp only [hji9] at H ⊢; exact H)
        (try rw [hji9] at A6); have hji9w : (IntKind.i64.wrap (x9_1 - 1)) = ji9 := (i64_w _).trans hji9
        by_cases c10 : 0 ≤ (ji9)
        ·rw [if_pos c10] at H; have c10b0 : decide (0 ≤ (ji9)) = true := decide_eq_true c10; clear c10
         by_cases c11 : (ji9) < (l1.length : Int)
         ·rw [if_pos c11] at H; have c11b0 : decide ((ji9) < (l1.length : Int)) = true := decide_eq_true c11; clear c11
          by_cases c12 : 0 ≤ ((rd_T124 l1 (ji9)).f1)
          ·rw [if_pos c12] at H; have c12b0 := eq_true c12; have c12b1 : decide (0 ≤ ((rd_T124 l1 (ji9)).f1)) = true := decide_eq_true c12; clear c12
           obtain ⟨ji13, hji13⟩ : ∃ j_ : Int, (shl .i64 1 ((rd_T124 l1 (ji9)).f1)) = j_ := ⟨_, rfl⟩
           replace H : (if (wrap64 (((rd_T124 l1 (ji9)).f0) + (ji13))) > ((rd_T124 l1 x9_1).f0) then (some false) else (impl_apart.l0 k1 a0 l1 l1 (l1.length : Int) (wrap64 (x9_1 + 1)))) = some r := by first | (rw [hji13] at H; exact H) | (simp only [hji13] at H ⊢; exact H)
           (try rw [hji13] at A6); have hji13_ : (IntKind.i64.wrap (1 * 2 ^ min ((rd_T124 l1 (ji9)).f1).toNat 64)) = ji13 := hji13; have hji13z : ((rd_T124 l1 (ji9)).f1) ≤ 64 → (IntKind.i64.wrap (1 * 2 ^ ((rd_T124 l1 (ji9)).f1).toNat)) = ji13 := shl_small hji13
           have hji13u : (IntKind.i64.wrap (2 ^ min ((rd_T124 l1 (ji9)).f1).toNat 64)) = ji13 := by have h_ := hji13_; rw [Int.one_mul] at h_; exact h_
           have hji13v : ((rd_T124 l1 (ji9)).f1) ≤ 64 → (IntKind.i64.wrap (2 ^ ((rd_T124 l1 (ji9)).f1).toNat)) = ji13 := fun hle_ => by have h_ := hji13z hle_; rw [Int.one_mul] at h_; exact h_
           have hji13y : (wrap64 (1 * 2 ^ min ((rd_T124 l1 (ji9)).f1).toNat 64)) = ji13 := (i64_w _).symm.trans hji13_
           have hji13x : ((rd_T124 l1 (ji9)).f1) ≤ 64 → (wrap64 (1 * 2 ^ ((rd_T124 l1 (ji9)).f1).toNat)) = ji13 := fun h_ => (i64_w _).symm.trans (hji13z h_)
           by_cases c14 : (wrap64 (((rd_T124 l1 (ji9)).f0) + (ji13))) > ((rd_T124 l1 x9_1).f0)
           ·rw [if_pos c14] at H; have c14b0 : decide (((rd_T124 l1 x9_1).f0) < (wrap64 (((rd_T124 l1 (ji9)).f0) + (ji13)))) = true := decide_eq_true c14; clear c14; obtain rfl := Option.some.inj H; have p981 : 0 ≤ (x9_1 : Int) := of_decide_eq_true (by first | (with_reducible assumption) | assumption); have q981 : x9_1 < (l1.length : Int) := of_decide_eq_true (by first | (with_reducible assumption) | assumption); obtain ⟨ad981, e981, hx981_0, hx981_1⟩ := at_T124 HR1.out x9_1 p981 q981
            cases e981; replace hx981_0 := (HB.out.cell (World.block_lt_of_cell? w _ hx981_0)).trans hx981_0; replace hx981_1 := (HB.out.cell (World.block_lt_of_cell? w _ hx981_1)).trans hx981_1; replace p981 := eq_true p981; replace q981 := eq_true q981; try go_wp2_with (first | ((with_reducible refine gate_dst (N := 6) rfl ?_); refine box_event ?hg (N := 6) ?hd (cs := #[.int .i64 0, .int .i64 0]) (t := 124) ?hr ?_; (case hd => rfl); (case hg => rfl); (case hr => first | (go_simp; done) | (go_simp; rfl)); intro gb982 hg w15 hbox hb; have BK982 := Aside0.mk (hbox); have GW982 := Aside0.mk ((by rw [hg]; exact (below_size (gB HB)) : w.heap.size ≤ gb982)); have GE982 := Aside0.mk ((by rw [hg]; exact (below_size (gB HB)) : w.heap.size ≤ gb982)); replace HB := Aside0.mk (below_step (gB HB) hb); clear hb hbox hg; have hcz16_0 : w15.cell? ⟨gb982, 0, none⟩ = some (.int .i64 0) := (blk_cell BK982.out 0).trans rfl; have hcz16_1 : w15.cell? ⟨gb982, 1, none⟩ = some (.int .i64 0) := (blk_cell BK982.out 1).trans rfl; have hfz16_0 := blk_frozen BK982.out 0; have hfz16_1 := blk_frozen BK982.out 1))
            have n0_ : Aside0 (((w15.setCell ⟨gb982, 0, none⟩ (.int .i64 ((rd_T124 l1 x9_1).f0))).setCell ⟨gb982, 1, none⟩ (.int .i64 ((rd_T124 l1 x9_1).f1))).heap[gb982]? = some (.cells #[.int .i64 ((rd_T124 l1 x9_1).f0), .int .i64 ((rd_T124 l1 x9_1).f1)] 124 (0, 0))) := ⟨by (with_reducible repeat (first | refine blk_drewN ?_ _ | refine blk_drew ?_ | refine blk_alloc ?_ _)); refine blk_put (cs := #[.int .i64 ((rd_T124 l1 x9_1).f0), .int .i64 0]) ?_ 1 _ rfl; (with_reducible repeat (first | refine blk_drewN ?_ _ | refine blk_drew ?_ | refine blk_alloc ?_ _)); refine blk_put (cs := #[.int .i64 0, .int .i64 0]) ?_ 0 _ rfl; (with_reducible repeat (first | refine blk_drewN ?_ _ | refine blk_drew ?_ | refine blk_alloc ?_ _)); exact BK982.out⟩; have n1_ : Aside0 (Below w.heap.size w ((w15.setCell ⟨gb982, 0, none⟩ (.int .i64 ((rd_T124 l1 x9_1).f0))).setCell ⟨gb982, 1, none⟩ (.int .i64 ((rd_T124 l1 x9_1).f1)))) := ⟨gT1 GE982.out HB⟩; (try clear BK982); (try clear HB); generalize ((w15.setCell ⟨gb982, 0, none⟩ (.int .i64 ((rd_T124 l1 x9_1).f0))).setCell ⟨gb982, 1, none⟩ (.int .i64 ((rd_T124 l1 x9_1).f1))) = w17 at n0_ n1_ ⊢; have BK982 := n0_; have HB := n1_; clear n0_ n1_; replace BK982 := Aside0.mk (blk_drew BK982.out); replace HB := Aside0.mk (below_drew1 HB.out); have p984 : 0 ≤ ((ji9) : Int) := of_decide_eq_true (by first | (with_reducible assumption) | assumption); have q984 : (ji9) < (l1.length : Int) := of_decide_eq_true (by first | (with_reducible assumption) | assumption); obtain ⟨ad984, e984, hx984_0, hx984_1⟩ := at_T124 HR1.out (ji9) p984 q984; have hw984_1 := hx984_1; have hw984_0 := hx984_0; obtain rfl : ad981 = ad984 := (by injection e984); replace hx984_0 := (HB.out.cell (World.block_lt_of_cell? w _ hx984_0)).trans hx984_0
            replace hx984_1 := (HB.out.cell (World.block_lt_of_cell? w _ hx984_1)).trans hx984_1; replace p984 := eq_true p984; replace q984 := eq_true q984; have p985 : 0 ≤ ((ji9) : Int) := of_decide_eq_true (by first | (with_reducible assumption) | assumption); have q985 : (ji9) < (l1.length : Int) := of_decide_eq_true (by first | (with_reducible assumption) | assumption); obtain ⟨ad985, e985, hx985_0, hx985_1⟩ := at_T124 HR1.out (ji9) p985 q985; have hw985_1 := hx985_1; have hw985_0 := hx985_0; obtain rfl : ad981 = ad985 := (by injection e985); replace hx985_0 := (HB.out.cell (World.block_lt_of_cell? w _ hx985_0)).trans hx985_0; replace hx985_1 := (HB.out.cell (World.block_lt_of_cell? w _ hx985_1)).trans hx985_1; replace p985 := eq_true p985; replace q985 := eq_true q985
            refine start_ (n := 27) (S := fun w' => w'.cell? ⟨gb982, 0, none⟩ = some (.int .i64 ((rd_T124 l1 x9_1).f0)) ∧ w'.cell? ⟨gb982, 1, none⟩ = some (.int .i64 ((rd_T124 l1 x9_1).f1)) ∧ w'.cell? (ad981.add (((ji9)).toNat * 2)) = some (.int .i64 ((rd_T124 l1 (ji9)).f0)) ∧ w'.cell? ⟨(ad981.add (((ji9)).toNat * 2)).block, (ad981.add (((ji9)).toNat * 2)).off + 1, none⟩ = some (.int .i64 ((rd_T124 l1 (ji9)).f1)) ∧ w'.cell? (ad981.add (((ji9)).toNat * 2)) = some (.int .i64 ((rd_T124 l1 (ji9)).f0)) ∧ w'.cell? ⟨(ad981.add (((ji9)).toNat * 2)).block, (ad981.add (((ji9)).toNat * 2)).off + 1, none⟩ = some (.int .i64 ((rd_T124 l1 (ji9)).f1))) (ds := []) #[false, false, false, false, false, false, false, false, false, false, false, false, false, false, false, false, false, false, false, false, false, false, false, false, false, false, false] (by kernel_rfl) rfl rfl ⟨(blk_cell BK982.out 0).trans rfl, (blk_cell BK982.out 1).trans rfl, ((HB.out.cell (World.block_lt_of_cell? w _ hw984_0)).trans hw984_0), ((HB.out.cell (World.block_lt_of_cell? w _ hw984_1)).trans hw984_1), ((HB.out.cell (World.block_lt_of_cell? w _ hw985_0)).trans hw985_0), ((HB.out.cell (World.block_lt_of_cell? w _ hw985_1)).trans hw985_1)⟩ (fun hHeld => ?_); refine with_tabW impl_apart.tab4 impl_apart.bits4 (fun HT_ HW_ => ?_)
            generalize w17.drew = w18 at BK982 HB hx984_0 hx984_1 hx985_0 hx985_1 hHeld ⊢; refine pure_ (i := 0) (N := some 14) (v := ?_) (a' := ?_) #[true, false, false, false, false, false, false, false, false, false, false, false, false, false, false, false, false, false, false, false, false, false, false, false, false, false, false] rfl rfl (any_of HT_.out (by kernel_rfl)) (fun _ _ _ h => h) (Or.inl ⟨by rfl, ?_⟩) ?_ ?_; rotate_left
            ·intro w'; go_simp; with_reducible rfl
            rotate_left
            ·simp only [Act.put, pu, i64_w, i32_w]; rfl
            refine take_ (i := 1) (N := some 15) (v := ?_) (a' := ?_) #[true, true, false, false, false, false, false, false, false, false, false, false, false, false, false, false, false, false, false, false, false, false, false, false, false, false, false] rfl rfl (take_ofW HT_.out HW_.out (by kernel_rfl)) (fun _ _ _ h => h) (Or.inl ⟨by rfl, ?_⟩) hHeld ?_ ?_; rotate_left
            ·rintro w' ⟨s0, s1, s2, s3, s4, s5⟩; go_simp; with_reducible rfl
            rotate_left
            ·simp only [Act.put, pu, i64_w, i32_w]; rfl
            refine one_ (i := 2) (N := some 16) #[true, true, true, false, false, false, false, false, false, false, false, false, false, false, false, false, false, false, false, false, false, false, false, false, false, false, false] rfl rfl (one_of HT_.out (by kernel_rfl)) (by decide) (fun K hK => ?_); refine goes_ Try.func127 (by kernel_rfl) rfl #[.int .i64 a0, .agg #[.int .i64 ((rd_T124 l1 x9_1).f0), .int .i64 ((rd_T124 l1 x9_1).f1)]] (by rfl) rfl rfl (by (try simp only [List.map_toArray, List.map_cons, List.map_nil]); first | done | rfl) ?_; with_reducible refine (impl_runOk.calls a0 ((rd_T124 l1 x9_1).f0) ((rd_T124 l1 x9_1).f1) true _ A6.out).mono ?_
            rintro e w19 ⟨rfl, hb⟩; refine ⟨_, rfl, ?_⟩; replace BK982 := Aside0.mk (blk_below (g := gb982) (gK BK982) hb); replace HB := Aside0.mk (below_step (gT1 GE982.out HB) hb); (try clear hb); (try clear hb2); (try clear hk); (try clear hi); refine hK.out _ _ ⟨(blk_cell BK982.out 0).trans rfl, (blk_cell BK982.out 1).trans rfl, ((HB.out.cell (World.block_lt_of_cell? w _ hw984_0)).trans hw984_0), ((HB.out.cell (World.block_lt_of_cell? w _ hw984_1)).trans hw984_1), ((HB.out.cell (World.block_lt_of_cell? w _ hw985_0)).trans hw985_0), ((HB.out.cell (World.block_lt_of_cell? w _ hw985_1)).trans hw985_1)⟩ (fun hHeld => ?_); clear hK K; refine norm_ (a' := ?_) ?_ ?_; rotate_left
            ·show Act.put _ (some 16) _ = _; simp only [Act.put, pu, i64_w, i32_w]; rfl
            refine pure_ (i := 3) (N := some 17) (v := ?_) (a' := ?_) #[true, true, true, true, false, false, false, false, false, false, false, false, false, false, false, false, false, false, false, false, false, false, false, false, false, false, false] rfl rfl (any_of HT_.out (by kernel_rfl)) (fun _ _ _ h => h) (Or.inl ⟨by rfl, ?_⟩) ?_ ?_; rotate_left
            ·intro w'; go_simp; with_reducible rfl
            rotate_left
            ·simp only [Act.put, pu, i64_w, i32_w]; rfl
            refine pure_ (i := 4) (N := some 18) (v := ?_) (a' := ?_) #[true, true, true, true, true, false, false, false, false, false, false, false, false, false, false, false, false, false, false, false, false, false, false, false, false, false, false] rfl rfl (any_of HT_.out (by kernel_rfl)) (fun _ _ _ h => h) (Or.inl ⟨by rfl, ?_⟩) ?_ ?_; rotate_left
            ·intro w'; go_simp; with_reducible rfl
            rotate_left
            ·simp only [Act.put, pu, i64_w, i32_w]; rfl
            refine pure_ (i := 5) (N := some 19) (v := ?_) (a' := ?_) #[true, true, true, true, true, true, false, false, false, false, false, false, false, false, false, false, false, false, false, false, false, false, false, false, false, false, false] rfl rfl (any_of HT_.out (by kernel_rfl)) (fun _ _ _ h => h) (Or.inl ⟨by rfl, ?_⟩) ?_ ?_; rotate_left
            ·intro w'; go_simp; with_reducible rfl
            rotate_left
            ·simp only [Act.put, pu, i64_w, i32_w]; rfl
            refine pure_ (i := 6) (N := some 20) (v := ?_) (a' := ?_) #[true, true, true, true, true, true, true, false, false, false, false, false, false, false, false, false, false, false, false, false, false, false, false, false, false, false, false] rfl rfl (any_of HT_.out (by kernel_rfl)) (fun _ _ _ h => h) (Or.inl ⟨by rfl, ?_⟩) ?_ ?_; rotate_left
            ·intro w'; go_simp; with_reducible rfl
            rotate_left
            ·simp only [Act.put, pu, i64_w, i32_w]; rfl
            refine pure_ (i := 7) (N := some 21) (v := ?_) (a' := ?_) #[true, true, true, true, true, true, true, true, false, false, false, false, false, false, false, false, false, false, false, false, false, false, false, false, false, false, false] rfl rfl (any_of HT_.out (by kernel_rfl)) (fun _ _ _ h => h) (Or.inl ⟨by rfl, ?_⟩) ?_ ?_; rotate_left
            ·intro w'; go_simp; with_reducible rfl
            rotate_left
            ·simp only [Act.put, pu, i64_w, i32_w]; rfl
            refine pure_ (i := 8) (N := some 22) (v := ?_) (a' := ?_) #[true, true, true, true, true, true, true, true, true, false, false, false, false, false, false, false, false, false, false, false, false, false, false, false, false, false, false] rfl rfl (any_of HT_.out (by kernel_rfl)) (fun _ _ _ h => h) (Or.inl ⟨by rfl, ?_⟩) ?_ ?_; rotate_left
            ·intro w'; go_simp; with_reducible rfl
            rotate_left
            ·simp only [Act.put, pu, i64_w, i32_w]; rfl
            refine pure_ (i := 9) (N := some 23) (v := ?_) (a' := ?_) #[true, true, true, true, true, true, true, true, true, true, false, false, false, false, false, false, false, false, false, false, false, false, false, false, false, false, false] rfl rfl (any_of HT_.out (by kernel_rfl)) (fun _ _ _ h => h) (Or.inl ⟨by rfl, ?_⟩) ?_ ?_; rotate_left
            ·intro w'; go_simp; with_reducible rfl
            rotate_left
            ·simp only [Act.put, pu, i64_w, i32_w]; rfl
            refine pure_ (i := 10) (N := some 24) (v := ?_) (a' := ?_) #[true, true, true, true, true, true, true, true, true, true, true, false, false, false, false, false, false, false, false, false, false, false, false, false, false, false, false] rfl rfl (any_of HT_.out (by kernel_rfl)) (fun _ _ _ h => h) (Or.inl ⟨by rfl, ?_⟩) ?_ ?_; rotate_left
            ·intro w'; go_simp; with_reducible rfl
            rotate_left
            ·simp only [Act.put, pu, i64_w, i32_w]; rfl
            refine pure_ (i := 11) (N := some 25) (v := ?_) (a' := ?_) #[true, true, true, true, true, true, true, true, true, true, true, true, false, false, false, false, false, false, false, false, false, false, false, false, false, false, false] rfl rfl (any_of HT_.out (by kernel_rfl)) (fun _ _ _ h => h) (Or.inl ⟨by rfl, ?_⟩) ?_ ?_; rotate_left
            ·intro w'; go_simp; with_reducible rfl
            rotate_left
            ·simp only [Act.put, pu, i64_w, i32_w]; rfl
            refine pure_ (i := 12) (N := some 26) (v := ?_) (a' := ?_) #[true, true, true, true, true, true, true, true, true, true, true, true, true, false, false, false, false, false, false, false, false, false, false, false, false, false, false] rfl rfl (any_of HT_.out (by kernel_rfl)) (fun _ _ _ h => h) (Or.inl ⟨by rfl, ?_⟩) ?_ ?_; rotate_left
            ·intro w'; go_simp; with_reducible rfl
            rotate_left
            ·simp only [Act.put, pu, i64_w, i32_w]; rfl
            refine pure_ (i := 14) (N := some 28) (v := ?_) (a' := ?_) #[true, true, true, true, true, true, true, true, true, true, true, true, true, false, true, false, false, false, false, false, false, false, false, false, false, false, false] rfl rfl (any_of HT_.out (by kernel_rfl)) (fun _ _ _ h => h) (Or.inl ⟨by rfl, ?_⟩) ?_ ?_; rotate_left
            ·intro w'; go_simp; with_reducible rfl
            rotate_left
            ·simp only [Act.put, pu, i64_w, i32_w]; rfl
            refine pure_ (i := 15) (N := some 29) (v := ?_) (a' := ?_) #[true, true, true, true, true, true, true, true, true, true, true, true, true, false, true, true, false, false, false, false, false, false, false, false, false, false, false] rfl rfl (any_of HT_.out (by kernel_rfl)) (fun _ _ _ h => h) (Or.inl ⟨by rfl, ?_⟩) ?_ ?_; rotate_left
            ·intro w'; go_simp; with_reducible rfl
            rotate_left
            ·simp only [Act.put, pu, i64_w, i32_w]; rfl
            refine pure_ (i := 16) (N := some 30) (v := ?_) (a' := ?_) #[true, true, true, true, true, true, true, true, true, true, true, true, true, false, true, true, true, false, false, false, false, false, false, false, false, false, false] rfl rfl (any_of HT_.out (by kernel_rfl)) (fun _ _ _ h => h) (Or.inl ⟨by rfl, ?_⟩) ?_ ?_; rotate_left
            ·intro w'; go_simp; with_reducible rfl
            rotate_left
            ·simp only [Act.put, pu, i64_w, i32_w]; rfl
            refine pure_ (i := 17) (N := some 31) (v := ?_) (a' := ?_) #[true, true, true, true, true, true, true, true, true, true, true, true, true, false, true, true, true, true, false, false, false, false, false, false, false, false, false] rfl rfl (any_of HT_.out (by kernel_rfl)) (fun _ _ _ h => h) (Or.inl ⟨by rfl, ?_⟩) ?_ ?_; rotate_left
            ·intro w'; go_simp; with_reducible rfl
            rotate_left
            ·simp only [Act.put, pu, i64_w, i32_w]; rfl
            refine pure_ (i := 18) (N := some 32) (v := ?_) (a' := ?_) #[true, true, true, true, true, true, true, true, true, true, true, true, true, false, true, true, true, true, true, false, false, false, false, false, false, false, false] rfl rfl (any_of HT_.out (by kernel_rfl)) (fun _ _ _ h => h) (Or.inl ⟨by rfl, ?_⟩) ?_ ?_; rotate_left
            ·intro w'; go_simp; with_reducible rfl
            rotate_left
            ·simp only [Act.put, pu, i64_w, i32_w]; rfl
            refine pure_ (i := 22) (N := some 36) (v := ?_) (a' := ?_) #[true, true, true, true, true, true, true, true, true, true, true, true, true, false, true, true, true, true, true, false, false, false, true, false, false, false, false] rfl rfl (any_of HT_.out (by kernel_rfl)) (fun _ _ _ h => h) (Or.inl ⟨by rfl, ?_⟩) ?_ ?_; rotate_left
            ·intro w'; go_simp; with_reducible rfl
            rotate_left
            ·simp only [Act.put, pu, i64_w, i32_w]; rfl
            refine take_ (i := 13) (N := some 27) (v := ?_) (a' := ?_) #[true, true, true, true, true, true, true, true, true, true, true, true, true, true, true, true, true, true, true, false, false, false, true, false, false, false, false] rfl rfl (take_ofW HT_.out HW_.out (by kernel_rfl)) (fun _ _ _ h => h) (Or.inl ⟨by rfl, ?_⟩) hHeld ?_ ?_; rotate_left
            ·rintro w' ⟨s0, s1, s2, s3, s4, s5⟩; go_simp; with_reducible rfl
            rotate_left
            ·simp only [Act.put, pu, i64_w, i32_w]; rfl
            refine take_ (i := 19) (N := some 33) (v := ?_) (a' := ?_) #[true, true, true, true, true, true, true, true, true, true, true, true, true, true, true, true, true, true, true, true, false, false, true, false, false, false, false] rfl rfl (take_ofW HT_.out HW_.out (by kernel_rfl)) (fun _ _ _ h => h) (Or.inl ⟨by rfl, ?_⟩) hHeld ?_ ?_; rotate_left
            ·rintro w' ⟨s0, s1, s2, s3, s4, s5⟩; go_simp; with_reducible rfl
            rotate_left
            ·simp only [Act.put, pu, i64_w, i32_w]; rfl
            refine pure_ (i := 20) (N := some 34) (v := ?_) (a' := ?_) #[true, true, true, true, true, true, true, true, true, true, true, true, true, true, true, true, true, true, true, true, true, false, true, false, false, false, false] rfl rfl (any_of HT_.out (by kernel_rfl)) (fun _ _ _ h => h) (Or.inl ⟨by rfl, ?_⟩) ?_ ?_; rotate_left
            ·intro w'; go_simp; with_reducible rfl
            rotate_left
            ·simp only [Act.put, pu, i64_w, i32_w]; rfl
            refine pure_ (i := 21) (N := some 35) (v := ?_) (a' := ?_) #[true, true, true, true, true, true, true, true, true, true, true, true, true, true, true, true, true, true, true, true, true, true, true, false, false, false, false] rfl rfl (any_of HT_.out (by kernel_rfl)) (fun _ _ _ h => h) (Or.inl ⟨by rfl, ?_⟩) ?_ ?_; rotate_left
            ·intro w'; go_simp; with_reducible rfl
            rotate_left
            ·simp only [Act.put, pu, i64_w, i32_w]; rfl
            refine take_ (i := 23) (N := some 37) (v := ?_) (a' := ?_) #[true, true, true, true, true, true, true, true, true, true, true, true, true, true, true, true, true, true, true, true, true, true, true, true, false, false, false] rfl rfl (take_ofW HT_.out HW_.out (by kernel_rfl)) (fun _ _ _ h => h) (Or.inl ⟨by rfl, ?_⟩) hHeld ?_ ?_; rotate_left
            ·rintro w' ⟨s0, s1, s2, s3, s4, s5⟩; go_simp; with_reducible rfl
            rotate_left
            ·simp only [Act.put, pu, i64_w, i32_w]; rfl
            refine pure_ (i := 24) (N := some 38) (v := ?_) (a' := ?_) #[true, true, true, true, true, true, true, true, true, true, true, true, true, true, true, true, true, true, true, true, true, true, true, true, true, false, false] rfl rfl (any_of HT_.out (by kernel_rfl)) (fun _ _ _ h => h) (Or.inl ⟨by rfl, ?_⟩) ?_ ?_; rotate_left
            ·intro w'; go_simp; with_reducible rfl
            rotate_left
            ·simp only [Act.put, pu, i64_w, i32_w]; rfl
            refine pure_ (i := 25) (N := some 39) (v := ?_) (a' := ?_) #[true, true, true, true, true, true, true, true, true, true, true, true, true, true, true, true, true, true, true, true, true, true, true, true, true, true, false] rfl rfl (any_of HT_.out (by kernel_rfl)) (fun _ _ _ h => h) (Or.inl ⟨by rfl, ?_⟩) ?_ ?_; rotate_left
            ·intro w'; go_simp; with_reducible rfl
            rotate_left
            ·simp only [Act.put, pu, i64_w, i32_w]; rfl
            refine pure_ (i := 26) (N := some 40) (v := ?_) (a' := ?_) #[true, true, true, true, true, true, true, true, true, true, true, true, true, true, true, true, true, true, true, true, true, true, true, true, true, true, true] rfl rfl (any_of HT_.out (by kernel_rfl)) (fun _ _ _ h => h) (Or.inl ⟨by rfl, ?_⟩) ?_ ?_; rotate_left
            ·intro w'; go_simp; with_reducible rfl
            rotate_left
            ·simp only [Act.put, pu, i64_w, i32_w]; rfl
            refine done_ (done_of HT_.out (by kernel_rfl)) ?_; try go_wp2
            go_ret
            exact ⟨by first | rfl | (simp [errW_none, errW_some] <;> rfl) | (simp only [← hji9, ← hji13]; first | rfl | (simp [errW_none, errW_some] <;> rfl)) | (simp [*, errW_none, errW_some] <;> rfl), gT1 GE982.out HB⟩
           ·rw [if_neg c14] at H; have c14b0 : decide (((rd_T124 l1 x9_1).f0) < (wrap64 (((rd_T124 l1 (ji9)).f0) + (ji13)))) = false := decide_eq_false c14; clear c14; have H' := Aside0.mk H; clear H; have p981 : 0 ≤ (x9_1 : Int) := of_decide_eq_true (by first | (with_reducible assumption) | assumption); have q981 : x9_1 < (l1.length : Int) := of_decide_eq_true (by first | (with_reducible assumption) | assumption); obtain ⟨ad981, e981, hx981_0, hx981_1⟩ := at_T124 HR1.out x9_1 p981 q981
            cases e981; replace hx981_0 := (HB.out.cell (World.block_lt_of_cell? w _ hx981_0)).trans hx981_0; replace hx981_1 := (HB.out.cell (World.block_lt_of_cell? w _ hx981_1)).trans hx981_1; replace p981 := eq_true p981; replace q981 := eq_true q981; try go_wp2_with (first | ((with_reducible refine gate_dst (N := 6) rfl ?_); refine box_event ?hg (N := 6) ?hd (cs := #[.int .i64 0, .int .i64 0]) (t := 124) ?hr ?_; (case hd => rfl); (case hg => rfl); (case hr => first | (go_simp; done) | (go_simp; rfl)); intro gb982 hg w20 hbox hb; have BK982 := Aside0.mk (hbox); have GW982 := Aside0.mk ((by rw [hg]; exact (below_size (gB HB)) : w.heap.size ≤ gb982)); have GE982 := Aside0.mk ((by rw [hg]; exact (below_size (gB HB)) : w.heap.size ≤ gb982)); replace HB := Aside0.mk (below_step (gB HB) hb); clear hb hbox hg; have hcz21_0 : w20.cell? ⟨gb982, 0, none⟩ = some (.int .i64 0) := (blk_cell BK982.out 0).trans rfl; have hcz21_1 : w20.cell? ⟨gb982, 1, none⟩ = some (.int .i64 0) := (blk_cell BK982.out 1).trans rfl; have hfz21_0 := blk_frozen BK982.out 0; have hfz21_1 := blk_frozen BK982.out 1))
            have n0_ : Aside0 (((w20.setCell ⟨gb982, 0, none⟩ (.int .i64 ((rd_T124 l1 x9_1).f0))).setCell ⟨gb982, 1, none⟩ (.int .i64 ((rd_T124 l1 x9_1).f1))).heap[gb982]? = some (.cells #[.int .i64 ((rd_T124 l1 x9_1).f0), .int .i64 ((rd_T124 l1 x9_1).f1)] 124 (0, 0))) := ⟨by (with_reducible repeat (first | refine blk_drewN ?_ _ | refine blk_drew ?_ | refine blk_alloc ?_ _)); refine blk_put (cs := #[.int .i64 ((rd_T124 l1 x9_1).f0), .int .i64 0]) ?_ 1 _ rfl; (with_reducible repeat (first | refine blk_drewN ?_ _ | refine blk_drew ?_ | refine blk_alloc ?_ _)); refine blk_put (cs := #[.int .i64 0, .int .i64 0]) ?_ 0 _ rfl; (with_reducible repeat (first | refine blk_drewN ?_ _ | refine blk_drew ?_ | refine blk_alloc ?_ _)); exact BK982.out⟩; have n1_ : Aside0 (Below w.heap.size w ((w20.setCell ⟨gb982, 0, none⟩ (.int .i64 ((rd_T124 l1 x9_1).f0))).setCell ⟨gb982, 1, none⟩ (.int .i64 ((rd_T124 l1 x9_1).f1)))) := ⟨gT1 GE982.out HB⟩; (try clear BK982); (try clear HB); generalize ((w20.setCell ⟨gb982, 0, none⟩ (.int .i64 ((rd_T124 l1 x9_1).f0))).setCell ⟨gb982, 1, none⟩ (.int .i64 ((rd_T124 l1 x9_1).f1))) = w22 at n0_ n1_ ⊢; have BK982 := n0_; have HB := n1_; clear n0_ n1_; replace BK982 := Aside0.mk (blk_drew BK982.out); replace HB := Aside0.mk (below_drew1 HB.out); have p984 : 0 ≤ ((ji9) : Int) := of_decide_eq_true (by first | (with_reducible assumption) | assumption); have q984 : (ji9) < (l1.length : Int) := of_decide_eq_true (by first | (with_reducible assumption) | assumption); obtain ⟨ad984, e984, hx984_0, hx984_1⟩ := at_T124 HR1.out (ji9) p984 q984; have hw984_1 := hx984_1; have hw984_0 := hx984_0; obtain rfl : ad981 = ad984 := (by injection e984); replace hx984_0 := (HB.out.cell (World.block_lt_of_cell? w _ hx984_0)).trans hx984_0
            replace hx984_1 := (HB.out.cell (World.block_lt_of_cell? w _ hx984_1)).trans hx984_1; replace p984 := eq_true p984; replace q984 := eq_true q984; have p985 : 0 ≤ ((ji9) : Int) := of_decide_eq_true (by first | (with_reducible assumption) | assumption); have q985 : (ji9) < (l1.length : Int) := of_decide_eq_true (by first | (with_reducible assumption) | assumption); obtain ⟨ad985, e985, hx985_0, hx985_1⟩ := at_T124 HR1.out (ji9) p985 q985; have hw985_1 := hx985_1; have hw985_0 := hx985_0; obtain rfl : ad981 = ad985 := (by injection e985); replace hx985_0 := (HB.out.cell (World.block_lt_of_cell? w _ hx985_0)).trans hx985_0; replace hx985_1 := (HB.out.cell (World.block_lt_of_cell? w _ hx985_1)).trans hx985_1; replace p985 := eq_true p985; replace q985 := eq_true q985
            refine start_ (n := 27) (S := fun w' => w'.cell? ⟨gb982, 0, none⟩ = some (.int .i64 ((rd_T124 l1 x9_1).f0)) ∧ w'.cell? ⟨gb982, 1, none⟩ = some (.int .i64 ((rd_T124 l1 x9_1).f1)) ∧ w'.cell? (ad981.add (((ji9)).toNat * 2)) = some (.int .i64 ((rd_T124 l1 (ji9)).f0)) ∧ w'.cell? ⟨(ad981.add (((ji9)).toNat * 2)).block, (ad981.add (((ji9)).toNat * 2)).off + 1, none⟩ = some (.int .i64 ((rd_T124 l1 (ji9)).f1)) ∧ w'.cell? (ad981.add (((ji9)).toNat * 2)) = some (.int .i64 ((rd_T124 l1 (ji9)).f0)) ∧ w'.cell? ⟨(ad981.add (((ji9)).toNat * 2)).block, (ad981.add (((ji9)).toNat * 2)).off + 1, none⟩ = some (.int .i64 ((rd_T124 l1 (ji9)).f1))) (ds := []) #[false, false, false, false, false, false, false, false, false, false, false, false, false, false, false, false, false, false, false, false, false, false, false, false, false, false, false] (by kernel_rfl) rfl rfl ⟨(blk_cell BK982.out 0).trans rfl, (blk_cell BK982.out 1).trans rfl, ((HB.out.cell (World.block_lt_of_cell? w _ hw984_0)).trans hw984_0), ((HB.out.cell (World.block_lt_of_cell? w _ hw984_1)).trans hw984_1), ((HB.out.cell (World.block_lt_of_cell? w _ hw985_0)).trans hw985_0), ((HB.out.cell (World.block_lt_of_cell? w _ hw985_1)).trans hw985_1)⟩ (fun hHeld => ?_); refine with_tabW impl_apart.tab4 impl_apart.bits4 (fun HT_ HW_ => ?_)
            generalize w22.drew = w23 at BK982 HB hx984_0 hx984_1 hx985_0 hx985_1 hHeld ⊢; refine pure_ (i := 0) (N := some 14) (v := ?_) (a' := ?_) #[true, false, false, false, false, false, false, false, false, false, false, false, false, false, false, false, false, false, false, false, false, false, false, false, false, false, false] rfl rfl (any_of HT_.out (by kernel_rfl)) (fun _ _ _ h => h) (Or.inl ⟨by rfl, ?_⟩) ?_ ?_; rotate_left
            ·intro w'; go_simp; with_reducible rfl
            rotate_left
            ·simp only [Act.put, pu, i64_w, i32_w]; rfl
            refine take_ (i := 1) (N := some 15) (v := ?_) (a' := ?_) #[true, true, false, false, false, false, false, false, false, false, false, false, false, false, false, false, false, false, false, false, false, false, false, false, false, false, false] rfl rfl (take_ofW HT_.out HW_.out (by kernel_rfl)) (fun _ _ _ h => h) (Or.inl ⟨by rfl, ?_⟩) hHeld ?_ ?_; rotate_left
            ·rintro w' ⟨s0, s1, s2, s3, s4, s5⟩; go_simp; with_reducible rfl
            rotate_left
            ·simp only [Act.put, pu, i64_w, i32_w]; rfl
            refine one_ (i := 2) (N := some 16) #[true, true, true, false, false, false, false, false, false, false, false, false, false, false, false, false, false, false, false, false, false, false, false, false, false, false, false] rfl rfl (one_of HT_.out (by kernel_rfl)) (by decide) (fun K hK => ?_); refine goes_ Try.func127 (by kernel_rfl) rfl #[.int .i64 a0, .agg #[.int .i64 ((rd_T124 l1 x9_1).f0), .int .i64 ((rd_T124 l1 x9_1).f1)]] (by rfl) rfl rfl (by (try simp only [List.map_toArray, List.map_cons, List.map_nil]); first | done | rfl) ?_; with_reducible refine (impl_runOk.calls a0 ((rd_T124 l1 x9_1).f0) ((rd_T124 l1 x9_1).f1) true _ A6.out).mono ?_
            rintro e w24 ⟨rfl, hb⟩; refine ⟨_, rfl, ?_⟩; replace BK982 := Aside0.mk (blk_below (g := gb982) (gK BK982) hb); replace HB := Aside0.mk (below_step (gT1 GE982.out HB) hb); (try clear hb); (try clear hb2); (try clear hk); (try clear hi); refine hK.out _ _ ⟨(blk_cell BK982.out 0).trans rfl, (blk_cell BK982.out 1).trans rfl, ((HB.out.cell (World.block_lt_of_cell? w _ hw984_0)).trans hw984_0), ((HB.out.cell (World.block_lt_of_cell? w _ hw984_1)).trans hw984_1), ((HB.out.cell (World.block_lt_of_cell? w _ hw985_0)).trans hw985_0), ((HB.out.cell (World.block_lt_of_cell? w _ hw985_1)).trans hw985_1)⟩ (fun hHeld => ?_); clear hK K; refine norm_ (a' := ?_) ?_ ?_; rotate_left
            ·show Act.put _ (some 16) _ = _; simp only [Act.put, pu, i64_w, i32_w]; rfl
            refine pure_ (i := 3) (N := some 17) (v := ?_) (a' := ?_) #[true, true, true, true, false, false, false, false, false, false, false, false, false, false, false, false, false, false, false, false, false, false, false, false, false, false, false] rfl rfl (any_of HT_.out (by kernel_rfl)) (fun _ _ _ h => h) (Or.inl ⟨by rfl, ?_⟩) ?_ ?_; rotate_left
            ·intro w'; go_simp; with_reducible rfl
            rotate_left
            ·simp only [Act.put, pu, i64_w, i32_w]; rfl
            refine pure_ (i := 4) (N := some 18) (v := ?_) (a' := ?_) #[true, true, true, true, true, false, false, false, false, false, false, false, false, false, false, false, false, false, false, false, false, false, false, false, false, false, false] rfl rfl (any_of HT_.out (by kernel_rfl)) (fun _ _ _ h => h) (Or.inl ⟨by rfl, ?_⟩) ?_ ?_; rotate_left
            ·intro w'; go_simp; with_reducible rfl
            rotate_left
            ·simp only [Act.put, pu, i64_w, i32_w]; rfl
            refine pure_ (i := 5) (N := some 19) (v := ?_) (a' := ?_) #[true, true, true, true, true, true, false, false, false, false, false, false, false, false, false, false, false, false, false, false, false, false, false, false, false, false, false] rfl rfl (any_of HT_.out (by kernel_rfl)) (fun _ _ _ h => h) (Or.inl ⟨by rfl, ?_⟩) ?_ ?_; rotate_left
            ·intro w'; go_simp; with_reducible rfl
            rotate_left
            ·simp only [Act.put, pu, i64_w, i32_w]; rfl
            refine pure_ (i := 6) (N := some 20) (v := ?_) (a' := ?_) #[true, true, true, true, true, true, true, false, false, false, false, false, false, false, false, false, false, false, false, false, false, false, false, false, false, false, false] rfl rfl (any_of HT_.out (by kernel_rfl)) (fun _ _ _ h => h) (Or.inl ⟨by rfl, ?_⟩) ?_ ?_; rotate_left
            ·intro w'; go_simp; with_reducible rfl
            rotate_left
            ·simp only [Act.put, pu, i64_w, i32_w]; rfl
            refine pure_ (i := 7) (N := some 21) (v := ?_) (a' := ?_) #[true, true, true, true, true, true, true, true, false, false, false, false, false, false, false, false, false, false, false, false, false, false, false, false, false, false, false] rfl rfl (any_of HT_.out (by kernel_rfl)) (fun _ _ _ h => h) (Or.inl ⟨by rfl, ?_⟩) ?_ ?_; rotate_left
            ·intro w'; go_simp; with_reducible rfl
            rotate_left
            ·simp only [Act.put, pu, i64_w, i32_w]; rfl
            refine pure_ (i := 8) (N := some 22) (v := ?_) (a' := ?_) #[true, true, true, true, true, true, true, true, true, false, false, false, false, false, false, false, false, false, false, false, false, false, false, false, false, false, false] rfl rfl (any_of HT_.out (by kernel_rfl)) (fun _ _ _ h => h) (Or.inl ⟨by rfl, ?_⟩) ?_ ?_; rotate_left
            ·intro w'; go_simp; with_reducible rfl
            rotate_left
            ·simp only [Act.put, pu, i64_w, i32_w]; rfl
            refine pure_ (i := 9) (N := some 23) (v := ?_) (a' := ?_) #[true, true, true, true, true, true, true, true, true, true, false, false, false, false, false, false, false, false, false, false, false, false, false, false, false, false, false] rfl rfl (any_of HT_.out (by kernel_rfl)) (fun _ _ _ h => h) (Or.inl ⟨by rfl, ?_⟩) ?_ ?_; rotate_left
            ·intro w'; go_simp; with_reducible rfl
            rotate_left
            ·simp only [Act.put, pu, i64_w, i32_w]; rfl
            refine pure_ (i := 10) (N := some 24) (v := ?_) (a' := ?_) #[true, true, true, true, true, true, true, true, true, true, true, false, false, false, false, false, false, false, false, false, false, false, false, false, false, false, false] rfl rfl (any_of HT_.out (by kernel_rfl)) (fun _ _ _ h => h) (Or.inl ⟨by rfl, ?_⟩) ?_ ?_; rotate_left
            ·intro w'; go_simp; with_reducible rfl
            rotate_left
            ·simp only [Act.put, pu, i64_w, i32_w]; rfl
            refine pure_ (i := 11) (N := some 25) (v := ?_) (a' := ?_) #[true, true, true, true, true, true, true, true, true, true, true, true, false, false, false, false, false, false, false, false, false, false, false, false, false, false, false] rfl rfl (any_of HT_.out (by kernel_rfl)) (fun _ _ _ h => h) (Or.inl ⟨by rfl, ?_⟩) ?_ ?_; rotate_left
            ·intro w'; go_simp; with_reducible rfl
            rotate_left
            ·simp only [Act.put, pu, i64_w, i32_w]; rfl
            refine pure_ (i := 12) (N := some 26) (v := ?_) (a' := ?_) #[true, true, true, true, true, true, true, true, true, true, true, true, true, false, false, false, false, false, false, false, false, false, false, false, false, false, false] rfl rfl (any_of HT_.out (by kernel_rfl)) (fun _ _ _ h => h) (Or.inl ⟨by rfl, ?_⟩) ?_ ?_; rotate_left
            ·intro w'; go_simp; with_reducible rfl
            rotate_left
            ·simp only [Act.put, pu, i64_w, i32_w]; rfl
            refine pure_ (i := 14) (N := some 28) (v := ?_) (a' := ?_) #[true, true, true, true, true, true, true, true, true, true, true, true, true, false, true, false, false, false, false, false, false, false, false, false, false, false, false] rfl rfl (any_of HT_.out (by kernel_rfl)) (fun _ _ _ h => h) (Or.inl ⟨by rfl, ?_⟩) ?_ ?_; rotate_left
            ·intro w'; go_simp; with_reducible rfl
            rotate_left
            ·simp only [Act.put, pu, i64_w, i32_w]; rfl
            refine pure_ (i := 15) (N := some 29) (v := ?_) (a' := ?_) #[true, true, true, true, true, true, true, true, true, true, true, true, true, false, true, true, false, false, false, false, false, false, false, false, false, false, false] rfl rfl (any_of HT_.out (by kernel_rfl)) (fun _ _ _ h => h) (Or.inl ⟨by rfl, ?_⟩) ?_ ?_; rotate_left
            ·intro w'; go_simp; with_reducible rfl
            rotate_left
            ·simp only [Act.put, pu, i64_w, i32_w]; rfl
            refine pure_ (i := 16) (N := some 30) (v := ?_) (a' := ?_) #[true, true, true, true, true, true, true, true, true, true, true, true, true, false, true, true, true, false, false, false, false, false, false, false, false, false, false] rfl rfl (any_of HT_.out (by kernel_rfl)) (fun _ _ _ h => h) (Or.inl ⟨by rfl, ?_⟩) ?_ ?_; rotate_left
            ·intro w'; go_simp; with_reducible rfl
            rotate_left
            ·simp only [Act.put, pu, i64_w, i32_w]; rfl
            refine pure_ (i := 17) (N := some 31) (v := ?_) (a' := ?_) #[true, true, true, true, true, true, true, true, true, true, true, true, true, false, true, true, true, true, false, false, false, false, false, false, false, false, false] rfl rfl (any_of HT_.out (by kernel_rfl)) (fun _ _ _ h => h) (Or.inl ⟨by rfl, ?_⟩) ?_ ?_; rotate_left
            ·intro w'; go_simp; with_reducible rfl
            rotate_left
            ·simp only [Act.put, pu, i64_w, i32_w]; rfl
            refine pure_ (i := 18) (N := some 32) (v := ?_) (a' := ?_) #[true, true, true, true, true, true, true, true, true, true, true, true, true, false, true, true, true, true, true, false, false, false, false, false, false, false, false] rfl rfl (any_of HT_.out (by kernel_rfl)) (fun _ _ _ h => h) (Or.inl ⟨by rfl, ?_⟩) ?_ ?_; rotate_left
            ·intro w'; go_simp; with_reducible rfl
            rotate_left
            ·simp only [Act.put, pu, i64_w, i32_w]; rfl
            refine pure_ (i := 22) (N := some 36) (v := ?_) (a' := ?_) #[true, true, true, true, true, true, true, true, true, true, true, true, true, false, true, true, true, true, true, false, false, false, true, false, false, false, false] rfl rfl (any_of HT_.out (by kernel_rfl)) (fun _ _ _ h => h) (Or.inl ⟨by rfl, ?_⟩) ?_ ?_; rotate_left
            ·intro w'; go_simp; with_reducible rfl
            rotate_left
            ·simp only [Act.put, pu, i64_w, i32_w]; rfl
            refine take_ (i := 13) (N := some 27) (v := ?_) (a' := ?_) #[true, true, true, true, true, true, true, true, true, true, true, true, true, true, true, true, true, true, true, false, false, false, true, false, false, false, false] rfl rfl (take_ofW HT_.out HW_.out (by kernel_rfl)) (fun _ _ _ h => h) (Or.inl ⟨by rfl, ?_⟩) hHeld ?_ ?_; rotate_left
            ·rintro w' ⟨s0, s1, s2, s3, s4, s5⟩; go_simp; with_reducible rfl
            rotate_left
            ·simp only [Act.put, pu, i64_w, i32_w]; rfl
            refine take_ (i := 19) (N := some 33) (v := ?_) (a' := ?_) #[true, true, true, true, true, true, true, true, true, true, true, true, true, true, true, true, true, true, true, true, false, false, true, false, false, false, false] rfl rfl (take_ofW HT_.out HW_.out (by kernel_rfl)) (fun _ _ _ h => h) (Or.inl ⟨by rfl, ?_⟩) hHeld ?_ ?_; rotate_left
            ·rintro w' ⟨s0, s1, s2, s3, s4, s5⟩; go_simp; with_reducible rfl
            rotate_left
            ·simp only [Act.put, pu, i64_w, i32_w]; rfl
            refine pure_ (i := 20) (N := some 34) (v := ?_) (a' := ?_) #[true, true, true, true, true, true, true, true, true, true, true, true, true, true, true, true, true, true, true, true, true, false, true, false, false, false, false] rfl rfl (any_of HT_.out (by kernel_rfl)) (fun _ _ _ h => h) (Or.inl ⟨by rfl, ?_⟩) ?_ ?_; rotate_left
            ·intro w'; go_simp; with_reducible rfl
            rotate_left
            ·simp only [Act.put, pu, i64_w, i32_w]; rfl
            refine pure_ (i := 21) (N := some 35) (v := ?_) (a' := ?_) #[true, true, true, true, true, true, true, true, true, true, true, true, true, true, true, true, true, true, true, true, true, true, true, false, false, false, false] rfl rfl (any_of HT_.out (by kernel_rfl)) (fun _ _ _ h => h) (Or.inl ⟨by rfl, ?_⟩) ?_ ?_; rotate_left
            ·intro w'; go_simp; with_reducible rfl
            rotate_left
            ·simp only [Act.put, pu, i64_w, i32_w]; rfl
            refine take_ (i := 23) (N := some 37) (v := ?_) (a' := ?_) #[true, true, true, true, true, true, true, true, true, true, true, true, true, true, true, true, true, true, true, true, true, true, true, true, false, false, false] rfl rfl (take_ofW HT_.out HW_.out (by kernel_rfl)) (fun _ _ _ h => h) (Or.inl ⟨by rfl, ?_⟩) hHeld ?_ ?_; rotate_left
            ·rintro w' ⟨s0, s1, s2, s3, s4, s5⟩; go_simp; with_reducible rfl
            rotate_left
            ·simp only [Act.put, pu, i64_w, i32_w]; rfl
            refine pure_ (i := 24) (N := some 38) (v := ?_) (a' := ?_) #[true, true, true, true, true, true, true, true, true, true, true, true, true, true, true, true, true, true, true, true, true, true, true, true, true, false, false] rfl rfl (any_of HT_.out (by kernel_rfl)) (fun _ _ _ h => h) (Or.inl ⟨by rfl, ?_⟩) ?_ ?_; rotate_left
            ·intro w'; go_simp; with_reducible rfl
            rotate_left
            ·simp only [Act.put, pu, i64_w, i32_w]; rfl
            refine pure_ (i := 25) (N := some 39) (v := ?_) (a' := ?_) #[true, true, true, true, true, true, true, true, true, true, true, true, true, true, true, true, true, true, true, true, true, true, true, true, true, true, false] rfl rfl (any_of HT_.out (by kernel_rfl)) (fun _ _ _ h => h) (Or.inl ⟨by rfl, ?_⟩) ?_ ?_; rotate_left
            ·intro w'; go_simp; with_reducible rfl
            rotate_left
            ·simp only [Act.put, pu, i64_w, i32_w]; rfl
            refine pure_ (i := 26) (N := some 40) (v := ?_) (a' := ?_) #[true, true, true, true, true, true, true, true, true, true, true, true, true, true, true, true, true, true, true, true, true, true, true, true, true, true, true] rfl rfl (any_of HT_.out (by kernel_rfl)) (fun _ _ _ h => h) (Or.inl ⟨by rfl, ?_⟩) ?_ ?_; rotate_left
            ·intro w'; go_simp; with_reducible rfl
            rotate_left
            ·simp only [Act.put, pu, i64_w, i32_w]; rfl
            refine done_ (done_of HT_.out (by kernel_rfl)) ?_; try go_wp2
            go_roundg k1
            case measure => have := HK1.out; omega
            case rel => exact ⟨(wrap64 (x9_1 + 1)), (by first | rfl | (simp; done) | (simp [*]; done)), H', ⟨by have := HK1.out; omega⟩, ⟨gT1 GE982.out HB⟩⟩
          ·rw [if_neg c12] at H; exact absurd H (by simp)
         ·rw [if_neg c11] at H; exact absurd H (by simp)
        ·rw [if_neg c10] at H; exact absurd H (by simp)
       ·rw [if_neg c8] at H; have c8b0 : decide (0 < x9_1) = false := decide_eq_false c8; clear c8; have H' := Aside0.mk H; clear H; have p981 : 0 ≤ (x9_1 : Int) := of_decide_eq_true (by first | (with_reducible assumption) | assumption); have q981 : x9_1 < (l1.length : Int) := of_decide_eq_true (by first | (with_reducible assumption) | assumption); obtain ⟨ad981, e981, hx981_0, hx981_1⟩ := at_T124 HR1.out x9_1 p981 q981
        cases e981; replace hx981_0 := (HB.out.cell (World.block_lt_of_cell? w _ hx981_0)).trans hx981_0; replace hx981_1 := (HB.out.cell (World.block_lt_of_cell? w _ hx981_1)).trans hx981_1; replace p981 := eq_true p981; replace q981 := eq_true q981; try go_wp2_with (first | ((with_reducible refine gate_dst (N := 6) rfl ?_); refine box_event ?hg (N := 6) ?hd (cs := #[.int .i64 0, .int .i64 0]) (t := 124) ?hr ?_; (case hd => rfl); (case hg => rfl); (case hr => first | (go_simp; done) | (go_simp; rfl)); intro gb982 hg w25 hbox hb; have BK982 := Aside0.mk (hbox); have GW982 := Aside0.mk ((by rw [hg]; exact (below_size (gB HB)) : w.heap.size ≤ gb982)); have GE982 := Aside0.mk ((by rw [hg]; exact (below_size (gB HB)) : w.heap.size ≤ gb982)); replace HB := Aside0.mk (below_step (gB HB) hb); clear hb hbox hg; have hcz26_0 : w25.cell? ⟨gb982, 0, none⟩ = some (.int .i64 0) := (blk_cell BK982.out 0).trans rfl; have hcz26_1 : w25.cell? ⟨gb982, 1, none⟩ = some (.int .i64 0) := (blk_cell BK982.out 1).trans rfl; have hfz26_0 := blk_frozen BK982.out 0; have hfz26_1 := blk_frozen BK982.out 1))
        have n0_ : Aside0 (((w25.setCell ⟨gb982, 0, none⟩ (.int .i64 ((rd_T124 l1 x9_1).f0))).setCell ⟨gb982, 1, none⟩ (.int .i64 ((rd_T124 l1 x9_1).f1))).heap[gb982]? = some (.cells #[.int .i64 ((rd_T124 l1 x9_1).f0), .int .i64 ((rd_T124 l1 x9_1).f1)] 124 (0, 0))) := ⟨by (with_reducible repeat (first | refine blk_drewN ?_ _ | refine blk_drew ?_ | refine blk_alloc ?_ _)); refine blk_put (cs := #[.int .i64 ((rd_T124 l1 x9_1).f0), .int .i64 0]) ?_ 1 _ rfl; (with_reducible repeat (first | refine blk_drewN ?_ _ | refine blk_drew ?_ | refine blk_alloc ?_ _)); refine blk_put (cs := #[.int .i64 0, .int .i64 0]) ?_ 0 _ rfl; (with_reducible repeat (first | refine blk_drewN ?_ _ | refine blk_drew ?_ | refine blk_alloc ?_ _)); exact BK982.out⟩; have n1_ : Aside0 (Below w.heap.size w ((w25.setCell ⟨gb982, 0, none⟩ (.int .i64 ((rd_T124 l1 x9_1).f0))).setCell ⟨gb982, 1, none⟩ (.int .i64 ((rd_T124 l1 x9_1).f1)))) := ⟨gT1 GE982.out HB⟩; (try clear BK982); (try clear HB); generalize ((w25.setCell ⟨gb982, 0, none⟩ (.int .i64 ((rd_T124 l1 x9_1).f0))).setCell ⟨gb982, 1, none⟩ (.int .i64 ((rd_T124 l1 x9_1).f1))) = w27 at n0_ n1_ ⊢; have BK982 := n0_; have HB := n1_; clear n0_ n1_; replace BK982 := Aside0.mk (blk_drew BK982.out); replace HB := Aside0.mk (below_drew1 HB.out)
        refine start_ (n := 27) (S := fun w' => w'.cell? ⟨gb982, 0, none⟩ = some (.int .i64 ((rd_T124 l1 x9_1).f0)) ∧ w'.cell? ⟨gb982, 1, none⟩ = some (.int .i64 ((rd_T124 l1 x9_1).f1))) (ds := []) #[false, false, false, false, false, false, false, false, false, false, false, false, false, false, false, false, false, false, false, false, false, false, false, false, false, false, false] (by kernel_rfl) rfl rfl ⟨(blk_cell BK982.out 0).trans rfl, (blk_cell BK982.out 1).trans rfl⟩ (fun hHeld => ?_); refine with_tabW impl_apart.tab4 impl_apart.bits4 (fun HT_ HW_ => ?_)
        generalize w27.drew = w28 at BK982 HB hHeld ⊢; refine pure_ (i := 0) (N := some 14) (v := ?_) (a' := ?_) #[true, false, false, false, false, false, false, false, false, false, false, false, false, false, false, false, false, false, false, false, false, false, false, false, false, false, false] rfl rfl (any_of HT_.out (by kernel_rfl)) (fun _ _ _ h => h) (Or.inl ⟨by rfl, ?_⟩) ?_ ?_; rotate_left
        ·intro w'; go_simp; with_reducible rfl
        rotate_left
        ·simp only [Act.put, pu, i64_w, i32_w]; rfl
        refine take_ (i := 1) (N := some 15) (v := ?_) (a' := ?_) #[true, true, false, false, false, false, false, false, false, false, false, false, false, false, false, false, false, false, false, false, false, false, false, false, false, false, false] rfl rfl (take_ofW HT_.out HW_.out (by kernel_rfl)) (fun _ _ _ h => h) (Or.inl ⟨by rfl, ?_⟩) hHeld ?_ ?_; rotate_left
        ·rintro w' ⟨s0, s1⟩; go_simp; with_reducible rfl
        rotate_left
        ·simp only [Act.put, pu, i64_w, i32_w]; rfl
        refine one_ (i := 2) (N := some 16) #[true, true, true, false, false, false, false, false, false, false, false, false, false, false, false, false, false, false, false, false, false, false, false, false, false, false, false] rfl rfl (one_of HT_.out (by kernel_rfl)) (by decide) (fun K hK => ?_); refine goes_ Try.func127 (by kernel_rfl) rfl #[.int .i64 a0, .agg #[.int .i64 ((rd_T124 l1 x9_1).f0), .int .i64 ((rd_T124 l1 x9_1).f1)]] (by rfl) rfl rfl (by (try simp only [List.map_toArray, List.map_cons, List.map_nil]); first | done | rfl) ?_; with_reducible refine (impl_runOk.calls a0 ((rd_T124 l1 x9_1).f0) ((rd_T124 l1 x9_1).f1) true _ A6.out).mono ?_
        rintro e w29 ⟨rfl, hb⟩; refine ⟨_, rfl, ?_⟩; replace BK982 := Aside0.mk (blk_below (g := gb982) (gK BK982) hb); replace HB := Aside0.mk (below_step (gT1 GE982.out HB) hb); (try clear hb); (try clear hb2); (try clear hk); (try clear hi); refine hK.out _ _ ⟨(blk_cell BK982.out 0).trans rfl, (blk_cell BK982.out 1).trans rfl⟩ (fun hHeld => ?_); clear hK K; refine norm_ (a' := ?_) ?_ ?_; rotate_left
        ·show Act.put _ (some 16) _ = _; simp only [Act.put, pu, i64_w, i32_w]; rfl
        refine pure_ (i := 3) (N := some 17) (v := ?_) (a' := ?_) #[true, true, true, true, false, false, false, false, false, false, false, false, false, false, false, false, false, false, false, false, false, false, false, false, false, false, false] rfl rfl (any_of HT_.out (by kernel_rfl)) (fun _ _ _ h => h) (Or.inl ⟨by rfl, ?_⟩) ?_ ?_; rotate_left
        ·intro w'; go_simp; with_reducible rfl
        rotate_left
        ·simp only [Act.put, pu, i64_w, i32_w]; rfl
        refine pure_ (i := 4) (N := some 18) (v := ?_) (a' := ?_) #[true, true, true, true, true, false, false, false, false, false, false, false, false, false, false, false, false, false, false, false, false, false, false, false, false, false, false] rfl rfl (any_of HT_.out (by kernel_rfl)) (fun _ _ _ h => h) (Or.inl ⟨by rfl, ?_⟩) ?_ ?_; rotate_left
        ·intro w'; go_simp; with_reducible rfl
        rotate_left
        ·simp only [Act.put, pu, i64_w, i32_w]; rfl
        refine pure_ (i := 5) (N := some 19) (v := ?_) (a' := ?_) #[true, true, true, true, true, true, false, false, false, false, false, false, false, false, false, false, false, false, false, false, false, false, false, false, false, false, false] rfl rfl (any_of HT_.out (by kernel_rfl)) (fun _ _ _ h => h) (Or.inl ⟨by rfl, ?_⟩) ?_ ?_; rotate_left
        ·intro w'; go_simp; with_reducible rfl
        rotate_left
        ·simp only [Act.put, pu, i64_w, i32_w]; rfl
        refine pure_ (i := 6) (N := some 20) (v := ?_) (a' := ?_) #[true, true, true, true, true, true, true, false, false, false, false, false, false, false, false, false, false, false, false, false, false, false, false, false, false, false, false] rfl rfl (any_of HT_.out (by kernel_rfl)) (fun _ _ _ h => h) (Or.inl ⟨by rfl, ?_⟩) ?_ ?_; rotate_left
        ·intro w'; go_simp; with_reducible rfl
        rotate_left
        ·simp only [Act.put, pu, i64_w, i32_w]; rfl
        refine pure_ (i := 7) (N := some 21) (v := ?_) (a' := ?_) #[true, true, true, true, true, true, true, true, false, false, false, false, false, false, false, false, false, false, false, false, false, false, false, false, false, false, false] rfl rfl (any_of HT_.out (by kernel_rfl)) (fun _ _ _ h => h) (Or.inl ⟨by rfl, ?_⟩) ?_ ?_; rotate_left
        ·intro w'; go_simp; with_reducible rfl
        rotate_left
        ·simp only [Act.put, pu, i64_w, i32_w]; rfl
        refine pure_ (i := 8) (N := some 22) (v := undef) (a' := ?_) #[true, true, true, true, true, true, true, true, true, false, false, false, false, false, false, false, false, false, false, false, false, false, false, false, false, false, false] rfl rfl (any_of HT_.out (by kernel_rfl)) (fun _ _ _ h => h) (Or.inr ⟨by rfl, rfl⟩) ?_ ?_; rotate_left
        ·simp only [Act.put, pu, i64_w, i32_w]; rfl
        refine pure_ (i := 9) (N := some 23) (v := undef) (a' := ?_) #[true, true, true, true, true, true, true, true, true, true, false, false, false, false, false, false, false, false, false, false, false, false, false, false, false, false, false] rfl rfl (any_of HT_.out (by kernel_rfl)) (fun _ _ _ h => h) (Or.inr ⟨by rfl, rfl⟩) ?_ ?_; rotate_left
        ·simp only [Act.put, pu, i64_w, i32_w]; rfl
        refine pure_ (i := 10) (N := some 24) (v := undef) (a' := ?_) #[true, true, true, true, true, true, true, true, true, true, true, false, false, false, false, false, false, false, false, false, false, false, false, false, false, false, false] rfl rfl (any_of HT_.out (by kernel_rfl)) (fun _ _ _ h => h) (Or.inr ⟨by rfl, rfl⟩) ?_ ?_; rotate_left
        ·simp only [Act.put, pu, i64_w, i32_w]; rfl
        refine pure_ (i := 11) (N := some 25) (v := undef) (a' := ?_) #[true, true, true, true, true, true, true, true, true, true, true, true, false, false, false, false, false, false, false, false, false, false, false, false, false, false, false] rfl rfl (any_of HT_.out (by kernel_rfl)) (fun _ _ _ h => h) (Or.inr ⟨by rfl, rfl⟩) ?_ ?_; rotate_left
        ·simp only [Act.put, pu, i64_w, i32_w]; rfl
        refine pure_ (i := 12) (N := some 26) (v := undef) (a' := ?_) #[true, true, true, true, true, true, true, true, true, true, true, true, true, false, false, false, false, false, false, false, false, false, false, false, false, false, false] rfl rfl (any_of HT_.out (by kernel_rfl)) (fun _ _ _ h => h) (Or.inr ⟨by rfl, rfl⟩) ?_ ?_; rotate_left
        ·simp only [Act.put, pu, i64_w, i32_w]; rfl
        refine pure_ (i := 13) (N := some 27) (v := undef) (a' := ?_) #[true, true, true, true, true, true, true, true, true, true, true, true, true, true, false, false, false, false, false, false, false, false, false, false, false, false, false] rfl rfl (any_of HT_.out (by kernel_rfl)) (fun _ _ _ h => h) (Or.inr ⟨by rfl, rfl⟩) ?_ ?_; rotate_left
        ·simp only [Act.put, pu, i64_w, i32_w]; rfl
        refine pure_ (i := 14) (N := some 28) (v := undef) (a' := ?_) #[true, true, true, true, true, true, true, true, true, true, true, true, true, true, true, false, false, false, false, false, false, false, false, false, false, false, false] rfl rfl (any_of HT_.out (by kernel_rfl)) (fun _ _ _ h => h) (Or.inr ⟨by rfl, rfl⟩) ?_ ?_; rotate_left
        ·simp only [Act.put, pu, i64_w, i32_w]; rfl
        refine pure_ (i := 15) (N := some 29) (v := undef) (a' := ?_) #[true, true, true, true, true, true, true, true, true, true, true, true, true, true, true, true, false, false, false, false, false, false, false, false, false, false, false] rfl rfl (any_of HT_.out (by kernel_rfl)) (fun _ _ _ h => h) (Or.inr ⟨by rfl, rfl⟩) ?_ ?_; rotate_left
        ·simp only [Act.put, pu, i64_w, i32_w]; rfl
        refine pure_ (i := 16) (N := some 30) (v := undef) (a' := ?_) #[true, true, true, true, true, true, true, true, true, true, true, true, true, true, true, true, true, false, false, false, false, false, false, false, false, false, false] rfl rfl (any_of HT_.out (by kernel_rfl)) (fun _ _ _ h => h) (Or.inr ⟨by rfl, rfl⟩) ?_ ?_; rotate_left
        ·simp only [Act.put, pu, i64_w, i32_w]; rfl
        refine pure_ (i := 17) (N := some 31) (v := undef) (a' := ?_) #[true, true, true, true, true, true, true, true, true, true, true, true, true, true, true, true, true, true, false, false, false, false, false, false, false, false, false] rfl rfl (any_of HT_.out (by kernel_rfl)) (fun _ _ _ h => h) (Or.inr ⟨by rfl, rfl⟩) ?_ ?_; rotate_left
        ·simp only [Act.put, pu, i64_w, i32_w]; rfl
        refine pure_ (i := 18) (N := some 32) (v := undef) (a' := ?_) #[true, true, true, true, true, true, true, true, true, true, true, true, true, true, true, true, true, true, true, false, false, false, false, false, false, false, false] rfl rfl (any_of HT_.out (by kernel_rfl)) (fun _ _ _ h => h) (Or.inr ⟨by rfl, rfl⟩) ?_ ?_; rotate_left
        ·simp only [Act.put, pu, i64_w, i32_w]; rfl
        refine pure_ (i := 19) (N := some 33) (v := undef) (a' := ?_) #[true, true, true, true, true, true, true, true, true, true, true, true, true, true, true, true, true, true, true, true, false, false, false, false, false, false, false] rfl rfl (any_of HT_.out (by kernel_rfl)) (fun _ _ _ h => h) (Or.inr ⟨by rfl, rfl⟩) ?_ ?_; rotate_left
        ·simp only [Act.put, pu, i64_w, i32_w]; rfl
        refine pure_ (i := 20) (N := some 34) (v := undef) (a' := ?_) #[true, true, true, true, true, true, true, true, true, true, true, true, true, true, true, true, true, true, true, true, true, false, false, false, false, false, false] rfl rfl (any_of HT_.out (by kernel_rfl)) (fun _ _ _ h => h) (Or.inr ⟨by rfl, rfl⟩) ?_ ?_; rotate_left
        ·simp only [Act.put, pu, i64_w, i32_w]; rfl
        refine pure_ (i := 21) (N := some 35) (v := undef) (a' := ?_) #[true, true, true, true, true, true, true, true, true, true, true, true, true, true, true, true, true, true, true, true, true, true, false, false, false, false, false] rfl rfl (any_of HT_.out (by kernel_rfl)) (fun _ _ _ h => h) (Or.inr ⟨by rfl, rfl⟩) ?_ ?_; rotate_left
        ·simp only [Act.put, pu, i64_w, i32_w]; rfl
        refine pure_ (i := 22) (N := some 36) (v := undef) (a' := ?_) #[true, true, true, true, true, true, true, true, true, true, true, true, true, true, true, true, true, true, true, true, true, true, true, false, false, false, false] rfl rfl (any_of HT_.out (by kernel_rfl)) (fun _ _ _ h => h) (Or.inr ⟨by rfl, rfl⟩) ?_ ?_; rotate_left
        ·simp only [Act.put, pu, i64_w, i32_w]; rfl
        refine pure_ (i := 23) (N := some 37) (v := undef) (a' := ?_) #[true, true, true, true, true, true, true, true, true, true, true, true, true, true, true, true, true, true, true, true, true, true, true, true, false, false, false] rfl rfl (any_of HT_.out (by kernel_rfl)) (fun _ _ _ h => h) (Or.inr ⟨by rfl, rfl⟩) ?_ ?_; rotate_left
        ·simp only [Act.put, pu, i64_w, i32_w]; rfl
        refine pure_ (i := 24) (N := some 38) (v := undef) (a' := ?_) #[true, true, true, true, true, true, true, true, true, true, true, true, true, true, true, true, true, true, true, true, true, true, true, true, true, false, false] rfl rfl (any_of HT_.out (by kernel_rfl)) (fun _ _ _ h => h) (Or.inr ⟨by rfl, rfl⟩) ?_ ?_; rotate_left
        ·simp only [Act.put, pu, i64_w, i32_w]; rfl
        refine pure_ (i := 25) (N := some 39) (v := ?_) (a' := ?_) #[true, true, true, true, true, true, true, true, true, true, true, true, true, true, true, true, true, true, true, true, true, true, true, true, true, true, false] rfl rfl (any_of HT_.out (by kernel_rfl)) (fun _ _ _ h => h) (Or.inl ⟨by rfl, ?_⟩) ?_ ?_; rotate_left
        ·intro w'; go_simp; with_reducible rfl
        rotate_left
        ·simp only [Act.put, pu, i64_w, i32_w]; rfl
        refine pure_ (i := 26) (N := some 40) (v := ?_) (a' := ?_) #[true, true, true, true, true, true, true, true, true, true, true, true, true, true, true, true, true, true, true, true, true, true, true, true, true, true, true] rfl rfl (any_of HT_.out (by kernel_rfl)) (fun _ _ _ h => h) (Or.inl ⟨by rfl, ?_⟩) ?_ ?_; rotate_left
        ·intro w'; go_simp; with_reducible rfl
        rotate_left
        ·simp only [Act.put, pu, i64_w, i32_w]; rfl
        refine done_ (done_of HT_.out (by kernel_rfl)) ?_; try go_wp2
        go_roundg k1
        case measure => have := HK1.out; omega
        case rel => exact ⟨(wrap64 (x9_1 + 1)), (by first | rfl | (simp; done) | (simp [*]; done)), H', ⟨by have := HK1.out; omega⟩, ⟨gT1 GE982.out HB⟩⟩
      ·replace c7 := Bool.eq_false_iff.mpr c7; subst c7
       have H1 : (some false) = some r := by rw [if_neg (show ¬ (false = true) by decide)] at H; exact H
       clear H; have H := H1; clear H1; obtain rfl := Option.some.inj H; have p981 : 0 ≤ (x9_1 : Int) := of_decide_eq_true (by first | (with_reducible assumption) | assumption); have q981 : x9_1 < (l1.length : Int) := of_decide_eq_true (by first | (with_reducible assumption) | assumption); obtain ⟨ad981, e981, hx981_0, hx981_1⟩ := at_T124 HR1.out x9_1 p981 q981
       cases e981; replace hx981_0 := (HB.out.cell (World.block_lt_of_cell? w _ hx981_0)).trans hx981_0; replace hx981_1 := (HB.out.cell (World.block_lt_of_cell? w _ hx981_1)).trans hx981_1; replace p981 := eq_true p981; replace q981 := eq_true q981; try go_wp2_with (first | ((with_reducible refine gate_dst (N := 6) rfl ?_); refine box_event ?hg (N := 6) ?hd (cs := #[.int .i64 0, .int .i64 0]) (t := 124) ?hr ?_; (case hd => rfl); (case hg => rfl); (case hr => first | (go_simp; done) | (go_simp; rfl)); intro gb982 hg w30 hbox hb; have BK982 := Aside0.mk (hbox); have GW982 := Aside0.mk ((by rw [hg]; exact (below_size (gB HB)) : w.heap.size ≤ gb982)); have GE982 := Aside0.mk ((by rw [hg]; exact (below_size (gB HB)) : w.heap.size ≤ gb982)); replace HB := Aside0.mk (below_step (gB HB) hb); clear hb hbox hg; have hcz31_0 : w30.cell? ⟨gb982, 0, none⟩ = some (.int .i64 0) := (blk_cell BK982.out 0).trans rfl; have hcz31_1 : w30.cell? ⟨gb982, 1, none⟩ = some (.int .i64 0) := (blk_cell BK982.out 1).trans rfl; have hfz31_0 := blk_frozen BK982.out 0; have hfz31_1 := blk_frozen BK982.out 1))
       have n0_ : Aside0 (((w30.setCell ⟨gb982, 0, none⟩ (.int .i64 ((rd_T124 l1 x9_1).f0))).setCell ⟨gb982, 1, none⟩ (.int .i64 ((rd_T124 l1 x9_1).f1))).heap[gb982]? = some (.cells #[.int .i64 ((rd_T124 l1 x9_1).f0), .int .i64 ((rd_T124 l1 x9_1).f1)] 124 (0, 0))) := ⟨by (with_reducible repeat (first | refine blk_drewN ?_ _ | refine blk_drew ?_ | refine blk_alloc ?_ _)); refine blk_put (cs := #[.int .i64 ((rd_T124 l1 x9_1).f0), .int .i64 0]) ?_ 1 _ rfl; (with_reducible repeat (first | refine blk_drewN ?_ _ | refine blk_drew ?_ | refine blk_alloc ?_ _)); refine blk_put (cs := #[.int .i64 0, .int .i64 0]) ?_ 0 _ rfl; (with_reducible repeat (first | refine blk_drewN ?_ _ | refine blk_drew ?_ | refine blk_alloc ?_ _)); exact BK982.out⟩; have n1_ : Aside0 (Below w.heap.size w ((w30.setCell ⟨gb982, 0, none⟩ (.int .i64 ((rd_T124 l1 x9_1).f0))).setCell ⟨gb982, 1, none⟩ (.int .i64 ((rd_T124 l1 x9_1).f1)))) := ⟨gT1 GE982.out HB⟩; (try clear BK982); (try clear HB); generalize ((w30.setCell ⟨gb982, 0, none⟩ (.int .i64 ((rd_T124 l1 x9_1).f0))).setCell ⟨gb982, 1, none⟩ (.int .i64 ((rd_T124 l1 x9_1).f1))) = w32 at n0_ n1_ ⊢; have BK982 := n0_; have HB := n1_; clear n0_ n1_; replace BK982 := Aside0.mk (blk_drew BK982.out); replace HB := Aside0.mk (below_drew1 HB.out)
       refine start_ (n := 27) (S := fun w' => w'.cell? ⟨gb982, 0, none⟩ = some (.int .i64 ((rd_T124 l1 x9_1).f0)) ∧ w'.cell? ⟨gb982, 1, none⟩ = some (.int .i64 ((rd_T124 l1 x9_1).f1))) (ds := []) #[false, false, false, false, false, false, false, false, false, false, false, false, false, false, false, false, false, false, false, false, false, false, false, false, false, false, false] (by kernel_rfl) rfl rfl ⟨(blk_cell BK982.out 0).trans rfl, (blk_cell BK982.out 1).trans rfl⟩ (fun hHeld => ?_); refine with_tabW impl_apart.tab4 impl_apart.bits4 (fun HT_ HW_ => ?_)
       generalize w32.drew = w33 at BK982 HB hHeld ⊢; refine pure_ (i := 0) (N := some 14) (v := ?_) (a' := ?_) #[true, false, false, false, false, false, false, false, false, false, false, false, false, false, false, false, false, false, false, false, false, false, false, false, false, false, false] rfl rfl (any_of HT_.out (by kernel_rfl)) (fun _ _ _ h => h) (Or.inl ⟨by rfl, ?_⟩) ?_ ?_; rotate_left
       ·intro w'; go_simp; with_reducible rfl
       rotate_left
       ·simp only [Act.put, pu, i64_w, i32_w]; rfl
       refine take_ (i := 1) (N := some 15) (v := ?_) (a' := ?_) #[true, true, false, false, false, false, false, false, false, false, false, false, false, false, false, false, false, false, false, false, false, false, false, false, false, false, false] rfl rfl (take_ofW HT_.out HW_.out (by kernel_rfl)) (fun _ _ _ h => h) (Or.inl ⟨by rfl, ?_⟩) hHeld ?_ ?_; rotate_left
       ·rintro w' ⟨s0, s1⟩; go_simp; with_reducible rfl
       rotate_left
       ·simp only [Act.put, pu, i64_w, i32_w]; rfl
       refine one_ (i := 2) (N := some 16) #[true, true, true, false, false, false, false, false, false, false, false, false, false, false, false, false, false, false, false, false, false, false, false, false, false, false, false] rfl rfl (one_of HT_.out (by kernel_rfl)) (by decide) (fun K hK => ?_); refine goes_ Try.func127 (by kernel_rfl) rfl #[.int .i64 a0, .agg #[.int .i64 ((rd_T124 l1 x9_1).f0), .int .i64 ((rd_T124 l1 x9_1).f1)]] (by rfl) rfl rfl (by (try simp only [List.map_toArray, List.map_cons, List.map_nil]); first | done | rfl) ?_; with_reducible refine (impl_runOk.calls a0 ((rd_T124 l1 x9_1).f0) ((rd_T124 l1 x9_1).f1) false _ A6.out).mono ?_
       rintro e w34 ⟨rfl, hb⟩; refine ⟨_, rfl, ?_⟩; replace BK982 := Aside0.mk (blk_below (g := gb982) (gK BK982) hb); replace HB := Aside0.mk (below_step (gT1 GE982.out HB) hb); (try clear hb); (try clear hb2); (try clear hk); (try clear hi); refine hK.out _ _ ⟨(blk_cell BK982.out 0).trans rfl, (blk_cell BK982.out 1).trans rfl⟩ (fun hHeld => ?_); clear hK K; refine norm_ (a' := ?_) ?_ ?_; rotate_left
       ·show Act.put _ (some 16) _ = _; simp only [Act.put, pu, i64_w, i32_w]; rfl
       refine pure_ (i := 3) (N := some 17) (v := ?_) (a' := ?_) #[true, true, true, true, false, false, false, false, false, false, false, false, false, false, false, false, false, false, false, false, false, false, false, false, false, false, false] rfl rfl (any_of HT_.out (by kernel_rfl)) (fun _ _ _ h => h) (Or.inl ⟨by rfl, ?_⟩) ?_ ?_; rotate_left
       ·intro w'; go_simp; with_reducible rfl
       rotate_left
       ·simp only [Act.put, pu, i64_w, i32_w]; rfl
       refine pure_ (i := 4) (N := some 18) (v := ?_) (a' := ?_) #[true, true, true, true, true, false, false, false, false, false, false, false, false, false, false, false, false, false, false, false, false, false, false, false, false, false, false] rfl rfl (any_of HT_.out (by kernel_rfl)) (fun _ _ _ h => h) (Or.inl ⟨by rfl, ?_⟩) ?_ ?_; rotate_left
       ·intro w'; go_simp; with_reducible rfl
       rotate_left
       ·simp only [Act.put, pu, i64_w, i32_w]; rfl
       refine pure_ (i := 5) (N := some 19) (v := undef) (a' := ?_) #[true, true, true, true, true, true, false, false, false, false, false, false, false, false, false, false, false, false, false, false, false, false, false, false, false, false, false] rfl rfl (any_of HT_.out (by kernel_rfl)) (fun _ _ _ h => h) (Or.inr ⟨by rfl, rfl⟩) ?_ ?_; rotate_left
       ·simp only [Act.put, pu, i64_w, i32_w]; rfl
       refine pure_ (i := 6) (N := some 20) (v := undef) (a' := ?_) #[true, true, true, true, true, true, true, false, false, false, false, false, false, false, false, false, false, false, false, false, false, false, false, false, false, false, false] rfl rfl (any_of HT_.out (by kernel_rfl)) (fun _ _ _ h => h) (Or.inr ⟨by rfl, rfl⟩) ?_ ?_; rotate_left
       ·simp only [Act.put, pu, i64_w, i32_w]; rfl
       refine pure_ (i := 7) (N := some 21) (v := undef) (a' := ?_) #[true, true, true, true, true, true, true, true, false, false, false, false, false, false, false, false, false, false, false, false, false, false, false, false, false, false, false] rfl rfl (any_of HT_.out (by kernel_rfl)) (fun _ _ _ h => h) (Or.inr ⟨by rfl, rfl⟩) ?_ ?_; rotate_left
       ·simp only [Act.put, pu, i64_w, i32_w]; rfl
       refine pure_ (i := 8) (N := some 22) (v := undef) (a' := ?_) #[true, true, true, true, true, true, true, true, true, false, false, false, false, false, false, false, false, false, false, false, false, false, false, false, false, false, false] rfl rfl (any_of HT_.out (by kernel_rfl)) (fun _ _ _ h => h) (Or.inr ⟨by rfl, rfl⟩) ?_ ?_; rotate_left
       ·simp only [Act.put, pu, i64_w, i32_w]; rfl
       refine pure_ (i := 9) (N := some 23) (v := undef) (a' := ?_) #[true, true, true, true, true, true, true, true, true, true, false, false, false, false, false, false, false, false, false, false, false, false, false, false, false, false, false] rfl rfl (any_of HT_.out (by kernel_rfl)) (fun _ _ _ h => h) (Or.inr ⟨by rfl, rfl⟩) ?_ ?_; rotate_left
       ·simp only [Act.put, pu, i64_w, i32_w]; rfl
       refine pure_ (i := 10) (N := some 24) (v := undef) (a' := ?_) #[true, true, true, true, true, true, true, true, true, true, true, false, false, false, false, false, false, false, false, false, false, false, false, false, false, false, false] rfl rfl (any_of HT_.out (by kernel_rfl)) (fun _ _ _ h => h) (Or.inr ⟨by rfl, rfl⟩) ?_ ?_; rotate_left
       ·simp only [Act.put, pu, i64_w, i32_w]; rfl
       refine pure_ (i := 11) (N := some 25) (v := undef) (a' := ?_) #[true, true, true, true, true, true, true, true, true, true, true, true, false, false, false, false, false, false, false, false, false, false, false, false, false, false, false] rfl rfl (any_of HT_.out (by kernel_rfl)) (fun _ _ _ h => h) (Or.inr ⟨by rfl, rfl⟩) ?_ ?_; rotate_left
       ·simp only [Act.put, pu, i64_w, i32_w]; rfl
       refine pure_ (i := 12) (N := some 26) (v := undef) (a' := ?_) #[true, true, true, true, true, true, true, true, true, true, true, true, true, false, false, false, false, false, false, false, false, false, false, false, false, false, false] rfl rfl (any_of HT_.out (by kernel_rfl)) (fun _ _ _ h => h) (Or.inr ⟨by rfl, rfl⟩) ?_ ?_; rotate_left
       ·simp only [Act.put, pu, i64_w, i32_w]; rfl
       refine pure_ (i := 13) (N := some 27) (v := undef) (a' := ?_) #[true, true, true, true, true, true, true, true, true, true, true, true, true, true, false, false, false, false, false, false, false, false, false, false, false, false, false] rfl rfl (any_of HT_.out (by kernel_rfl)) (fun _ _ _ h => h) (Or.inr ⟨by rfl, rfl⟩) ?_ ?_; rotate_left
       ·simp only [Act.put, pu, i64_w, i32_w]; rfl
       refine pure_ (i := 14) (N := some 28) (v := undef) (a' := ?_) #[true, true, true, true, true, true, true, true, true, true, true, true, true, true, true, false, false, false, false, false, false, false, false, false, false, false, false] rfl rfl (any_of HT_.out (by kernel_rfl)) (fun _ _ _ h => h) (Or.inr ⟨by rfl, rfl⟩) ?_ ?_; rotate_left
       ·simp only [Act.put, pu, i64_w, i32_w]; rfl
       refine pure_ (i := 15) (N := some 29) (v := undef) (a' := ?_) #[true, true, true, true, true, true, true, true, true, true, true, true, true, true, true, true, false, false, false, false, false, false, false, false, false, false, false] rfl rfl (any_of HT_.out (by kernel_rfl)) (fun _ _ _ h => h) (Or.inr ⟨by rfl, rfl⟩) ?_ ?_; rotate_left
       ·simp only [Act.put, pu, i64_w, i32_w]; rfl
       refine pure_ (i := 16) (N := some 30) (v := undef) (a' := ?_) #[true, true, true, true, true, true, true, true, true, true, true, true, true, true, true, true, true, false, false, false, false, false, false, false, false, false, false] rfl rfl (any_of HT_.out (by kernel_rfl)) (fun _ _ _ h => h) (Or.inr ⟨by rfl, rfl⟩) ?_ ?_; rotate_left
       ·simp only [Act.put, pu, i64_w, i32_w]; rfl
       refine pure_ (i := 17) (N := some 31) (v := undef) (a' := ?_) #[true, true, true, true, true, true, true, true, true, true, true, true, true, true, true, true, true, true, false, false, false, false, false, false, false, false, false] rfl rfl (any_of HT_.out (by kernel_rfl)) (fun _ _ _ h => h) (Or.inr ⟨by rfl, rfl⟩) ?_ ?_; rotate_left
       ·simp only [Act.put, pu, i64_w, i32_w]; rfl
       refine pure_ (i := 18) (N := some 32) (v := undef) (a' := ?_) #[true, true, true, true, true, true, true, true, true, true, true, true, true, true, true, true, true, true, true, false, false, false, false, false, false, false, false] rfl rfl (any_of HT_.out (by kernel_rfl)) (fun _ _ _ h => h) (Or.inr ⟨by rfl, rfl⟩) ?_ ?_; rotate_left
       ·simp only [Act.put, pu, i64_w, i32_w]; rfl
       refine pure_ (i := 19) (N := some 33) (v := undef) (a' := ?_) #[true, true, true, true, true, true, true, true, true, true, true, true, true, true, true, true, true, true, true, true, false, false, false, false, false, false, false] rfl rfl (any_of HT_.out (by kernel_rfl)) (fun _ _ _ h => h) (Or.inr ⟨by rfl, rfl⟩) ?_ ?_; rotate_left
       ·simp only [Act.put, pu, i64_w, i32_w]; rfl
       refine pure_ (i := 20) (N := some 34) (v := undef) (a' := ?_) #[true, true, true, true, true, true, true, true, true, true, true, true, true, true, true, true, true, true, true, true, true, false, false, false, false, false, false] rfl rfl (any_of HT_.out (by kernel_rfl)) (fun _ _ _ h => h) (Or.inr ⟨by rfl, rfl⟩) ?_ ?_; rotate_left
       ·simp only [Act.put, pu, i64_w, i32_w]; rfl
       refine pure_ (i := 21) (N := some 35) (v := undef) (a' := ?_) #[true, true, true, true, true, true, true, true, true, true, true, true, true, true, true, true, true, true, true, true, true, true, false, false, false, false, false] rfl rfl (any_of HT_.out (by kernel_rfl)) (fun _ _ _ h => h) (Or.inr ⟨by rfl, rfl⟩) ?_ ?_; rotate_left
       ·simp only [Act.put, pu, i64_w, i32_w]; rfl
       refine pure_ (i := 22) (N := some 36) (v := undef) (a' := ?_) #[true, true, true, true, true, true, true, true, true, true, true, true, true, true, true, true, true, true, true, true, true, true, true, false, false, false, false] rfl rfl (any_of HT_.out (by kernel_rfl)) (fun _ _ _ h => h) (Or.inr ⟨by rfl, rfl⟩) ?_ ?_; rotate_left
       ·simp only [Act.put, pu, i64_w, i32_w]; rfl
       refine pure_ (i := 23) (N := some 37) (v := undef) (a' := ?_) #[true, true, true, true, true, true, true, true, true, true, true, true, true, true, true, true, true, true, true, true, true, true, true, true, false, false, false] rfl rfl (any_of HT_.out (by kernel_rfl)) (fun _ _ _ h => h) (Or.inr ⟨by rfl, rfl⟩) ?_ ?_; rotate_left
       ·simp only [Act.put, pu, i64_w, i32_w]; rfl
       refine pure_ (i := 24) (N := some 38) (v := undef) (a' := ?_) #[true, true, true, true, true, true, true, true, true, true, true, true, true, true, true, true, true, true, true, true, true, true, true, true, true, false, false] rfl rfl (any_of HT_.out (by kernel_rfl)) (fun _ _ _ h => h) (Or.inr ⟨by rfl, rfl⟩) ?_ ?_; rotate_left
       ·simp only [Act.put, pu, i64_w, i32_w]; rfl
       refine pure_ (i := 25) (N := some 39) (v := undef) (a' := ?_) #[true, true, true, true, true, true, true, true, true, true, true, true, true, true, true, true, true, true, true, true, true, true, true, true, true, true, false] rfl rfl (any_of HT_.out (by kernel_rfl)) (fun _ _ _ h => h) (Or.inr ⟨by rfl, rfl⟩) ?_ ?_; rotate_left
       ·simp only [Act.put, pu, i64_w, i32_w]; rfl
       refine pure_ (i := 26) (N := some 40) (v := ?_) (a' := ?_) #[true, true, true, true, true, true, true, true, true, true, true, true, true, true, true, true, true, true, true, true, true, true, true, true, true, true, true] rfl rfl (any_of HT_.out (by kernel_rfl)) (fun _ _ _ h => h) (Or.inl ⟨by rfl, ?_⟩) ?_ ?_; rotate_left
       ·intro w'; go_simp; with_reducible rfl
       rotate_left
       ·simp only [Act.put, pu, i64_w, i32_w]; rfl
       refine done_ (done_of HT_.out (by kernel_rfl)) ?_; try go_wp2
       go_ret
       exact ⟨by first | rfl | (simp [errW_none, errW_some] <;> rfl) | (simp [*, errW_none, errW_some] <;> rfl), gT1 GE982.out HB⟩
     ·rw [if_neg c5] at H; exact absurd H (by simp)
    ·rw [if_neg c4] at H; exact absurd H (by simp)
   ·rw [if_neg c3] at H; have c3b0 : decide (x9_1 < (l1.length : Int)) = false := decide_eq_false c3; clear c3; replace H := Option.bind_eq_some_iff.mp H; obtain ⟨t986, A350, H⟩ := H; replace H : (some t986) = some r := H; have A35 := Aside0.mk A350; clear A350; obtain rfl := Option.some.inj H
    go_wp2_with (first | ((with_reducible refine gate_callee (f := 38) rfl ?_); refine goesL_ (some 43) rfl rfl Try.func38 (by kernel_rfl) rfl #[.int .i64 a0] rfl (by (try simp only [List.map_toArray, List.map_cons, List.map_nil]); first | done | rfl) ?_; (with_reducible refine (impl_isSize.calls a0 t986 _ A35.out).mono ?_); rintro e w' ⟨rfl, ⟨nd, rfl⟩⟩; refine ⟨_, rfl, ?_⟩))
    go_ret
    exact ⟨by first | rfl | (simp [errW_none, errW_some] <;> rfl) | (simp [*, errW_none, errW_some] <;> rfl), gB HB⟩
end Go.Proofs.Ytngonhgghncdiaa.P
end
