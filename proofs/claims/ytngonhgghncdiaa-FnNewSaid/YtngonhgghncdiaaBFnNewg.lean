/- What the proof of FnNewSaid rests on, part 7: plain lemmas and contracts of the functions that the law reaches (in part written by a printing program over the translation). No condition. -/
import Derived.Test.YtngonhgghncdiaaBFnNewf
import Derived.Deep.Slices
import Derived.ProofKit
import Derived.ChangeArms
section
namespace Go.Proofs.Ytngonhgghncdiaa.Read
open Go.RowKit Go.Proofs.YtngonhgghncdiaaW.PrintWords Go.Deep
def Reading {α : Type} (P : Program) (t : TypeId) (d : Kd α) (G : α → Prop) : Prop :=
  ∀ (H : Type) (enc : TypeId × Value → H) (w : World) (fuel : Nat) (cs : List Value) (x : DataW H × List MemPlace),
    DataW.trod enc P w 0 (fun _ => true) true fuel t cs = some x → ∃ a, d.K w a cs ∧ G a
theorem Reading.int_ {P : Program} {t : TypeId} {k : IntKind} (ht : P.underlying t = some (.int k)) : Reading P t (Kd.int k) (fun x => (Lit.int k x).wf = true) := by
  intro H enc w fuel cs x h
  obtain ⟨n, rfl, _, wn⟩ := DataW.trod_int ht h
  exact ⟨n, rfl, wn⟩
theorem Reading.bool_ {P : Program} {t : TypeId} (ht : P.underlying t = some .bool) : Reading P t Kd.bool (fun _ => True) := by
  intro H enc w fuel cs x h
  obtain ⟨b, rfl, _⟩ := DataW.trod_bool ht h
  exact ⟨b, rfl, trivial⟩
theorem Reading.slice_ {α : Type} {P : Program} {t e : TypeId} {d : Kd α} {G : α → Prop} (ht : P.underlying t = some (.slice e)) (hc : P.cellsOf e = d.sz) (he : Reading P e d G) :
    Reading P t (Kd.slice e d) (fun xs => xs.length ≤ maxLen ∧ ∀ x ∈ xs, G x) := by
  intro H enc w fuel cs x h
  rcases open_slice ht h with ⟨rfl, _⟩ | ⟨a, len, cap, m, n, D, Pl, rfl, _, hl, hm, hmm, _, hx⟩
  · exact ⟨[], ⟨none, 0, rfl, Nat.le_refl _, rfl, by simp, fun h0 => absurd h0 (by simp)⟩, by simp [maxLen], fun x hx => by simp at hx⟩
  · have hm' : m = cap := by rw [hmm]; rfl
    subst hm'
    have key : ∀ i, i < len → ∃ y, ∃ cs', w.cells? 0 (a.add (i * P.cellsOf e)) (P.cellsOf e) = some cs' ∧ d.K w y cs' ∧ G y := by
      intro i hi
      obtain ⟨cs', h1, h2⟩ := hx i (by omega)
      obtain ⟨y, h3, h4⟩ := he H enc w n cs' _ h2
      exact ⟨y, cs', h1, h3, h4⟩
    have all : ∀ j, j ≤ len → ∃ ys : List α, ys.length = j ∧ ∀ i y, ys[i]? = some y → ∃ cs', w.cells? 0 (a.add (i * P.cellsOf e)) (P.cellsOf e) = some cs' ∧ d.K w y cs' ∧ G y := by
      intro j
      induction j with
      | zero => intro _; exact ⟨[], rfl, fun i y h => by simp at h⟩
      | succ j ih =>
        intro hj
        obtain ⟨ys, hlen, hys⟩ := ih (by omega)
        obtain ⟨y, hy⟩ := key j (by omega)
        refine ⟨ys ++ [y], by simp [hlen], fun i z hz => ?_⟩
        by_cases hi : i < j
        · rw [List.getElem?_append_left (by omega)] at hz
          exact hys i z hz
        · have hi' : i = j := by
            have := (List.getElem?_eq_some_iff.1 hz).1
            simp at this; omega
          subst hi'
          rw [← hlen, List.getElem?_concat_length] at hz
          injection hz with hz
          subst hz
          exact hy
    obtain ⟨ys, hlen, hys⟩ := all len (Nat.le_refl _)
    subst hlen
    refine ⟨ys, ⟨some a, m, rfl, hl, rfl, by simp only [maxLen] at hm; omega, fun _ => ⟨a, rfl, fun j p hp => ?_⟩⟩, by omega, fun y hy => ?_⟩
    · obtain ⟨cs', h1, h2, _⟩ := hys j p hp
      obtain ⟨_, hl2, hcc⟩ := World.cells?_some h1
      refine ⟨cs', by rw [hl2, hc], h2, fun i u hu => ?_⟩
      have hi : i < cs'.length := (List.getElem?_eq_some_iff.1 hu).1
      have := hcc i (by omega)
      rw [Go.Deep.add_add, hu, hc] at this
      exact this
    · obtain ⟨i, hi⟩ := List.mem_iff_getElem?.1 hy
      obtain ⟨_, _, _, hg⟩ := hys i y hi
      exact hg
def ReadingF {α : Type} (P : Program) (fs : List Field) (off : Nat) (d : Kd α) (G : α → Prop) : Prop :=
  ∀ (H : Type) (enc : TypeId × Value → H) (w : World) (fuel : Nat) (cs : List Value) (xs : List (DataW H × List MemPlace)),
    cs.length = off + d.sz → fs.length = xs.length → (∀ (i : Nat) (f : Field), fs[i]? = some f → DataW.trod enc P w 0 (fun _ => true) true fuel f.type ((cs.drop f.offset).take (P.cellsOf f.type)) = xs[i]?) → ∃ a, d.K w a (cs.drop off) ∧ G a
theorem ReadingF.last {α : Type} {P : Program} {f : Field} {off : Nat} {d : Kd α} {G : α → Prop} (ho : f.offset = off) (hc : P.cellsOf f.type = d.sz) (h : Reading P f.type d G) : ReadingF P [f] off d G := by
  intro H enc w fuel cs xs hl hx hf
  match xs, hx with
  | [y], _ =>
    have h0 := hf 0 f rfl
    rw [ho, hc] at h0
    obtain ⟨a, h1, h2⟩ := h H enc w fuel _ _ h0
    refine ⟨a, ?_, h2⟩
    rwa [List.take_of_length_le (by rw [List.length_drop]; omega)] at h1
theorem ReadingF.cons {α β : Type} {P : Program} {f : Field} {fs : List Field} {off : Nat} {d : Kd α} {d' : Kd β} {G : α → Prop} {G' : β → Prop} (ho : f.offset = off) (hc : P.cellsOf f.type = d.sz) (h : Reading P f.type d G) (hs : ReadingF P fs (off + d.sz) d' G') :
    ReadingF P (f :: fs) off (Kd.pair d d') (fun p => G p.1 ∧ G' p.2) := by
  intro H enc w fuel cs xs hl hx hf
  have hsz : (Kd.pair d d').sz = d.sz + d'.sz := rfl
  rw [hsz] at hl
  match xs, hx with
  | y :: ys, hx =>
    have h0 := hf 0 f rfl
    rw [ho, hc] at h0
    obtain ⟨a, h1, h2⟩ := h H enc w fuel _ _ h0
    obtain ⟨b, h3, h4⟩ := hs H enc w fuel cs ys (by omega) (by simpa using hx) (fun i g hg => hf (i + 1) g hg)
    refine ⟨(a, b), ⟨(cs.drop off).take d.sz, cs.drop (off + d.sz), ?_, h1, h3⟩, h2, h4⟩
    rw [← List.drop_drop, List.take_append_drop]
theorem Reading.struct_ {α : Type} {P : Program} {t : TypeId} {fs : Array Field} {d : Kd α} {G : α → Prop} (ht : P.underlying t = some (.struct fs)) (hc : P.cellsOf t = d.sz) (h : ReadingF P fs.toList 0 d G) : Reading P t d G := by
  intro H enc w fuel cs x hx
  obtain ⟨xs, n, _, _, hl, hlen, hf⟩ := DataW.trod_struct ht hx
  obtain ⟨a, h1, h2⟩ := h H enc w n cs xs (by omega) (by simpa using hlen.symm) (fun i f hf' => hf i f (by simpa using hf'))
  exact ⟨a, by simpa using h1, h2⟩
theorem Reading.iso_ {α β : Type} {P : Program} {t : TypeId} {d : Kd α} {G : α → Prop} {f : β → α} (g : α → β) (hfg : ∀ a, f (g a) = a) (h : Reading P t d G) : Reading P t (Kd.iso d f) (fun b => G (f b)) := by
  intro H enc w fuel cs x hx
  obtain ⟨a, h1, h2⟩ := h H enc w fuel cs x hx
  refine ⟨g a, ?_, by show G (f (g a)); rw [hfg]; exact h2⟩
  show d.K w (f (g a)) cs
  rw [hfg]; exact h1
theorem Reading.imp_ {α : Type} {P : Program} {t : TypeId} {d : Kd α} {G G' : α → Prop} (h : Reading P t d G) (hG : ∀ a, G a → G' a) : Reading P t d G' := by
  intro H enc w fuel cs x hx
  obtain ⟨a, h1, h2⟩ := h H enc w fuel cs x hx
  exact ⟨a, h1, hG a h2⟩
end Go.Proofs.Ytngonhgghncdiaa.Read
end
