/- Packed by a program of the session (wip/tools/pack.py): what the claim's theorem reaches, of the texts that wip/ and the kit's printer lay. -/
import Derived.Test.YtdjdleldocfpaaaGreatDoorPkFnExactFormatGarden2
import Derived.Deep.Slices
import Derived.ChangeArms
import Derived.OpenShut
section
namespace Go.Proofs.YtdjdleldocfpaaaGreatDoor.F
open Go.RowKit Go.ChangeShapes Go.WideShapes Go.Deep Go.Proofs.YtdjdleldocfpaaaGreatDoorW.PrintWords Go.Proofs.YtdjdleldocfpaaaGreatDoorW.PrintLast Go.Proofs.YtdjdleldocfpaaaGreatDoorW.PrintMore
set_option linter.unusedVariables false
set_option linter.unusedSimpArgs false
def Opens {α : Type} (P : Program) (t : TypeId) (d : Kd α) (wf : α → Prop) : Prop :=
  ∀ (H : Type) (enc : TypeId × Value → H) (w : World) (held : Bool) (fuel : Nat) (cs : List Value) (x : DataW H × List MemPlace),
    DataW.trod enc P w 0 (fun _ => true) held fuel t cs = some x → ∃ v : α, d.K w v cs ∧ wf v
def OpensF {α : Type} (P : Program) (fs : List Field) (off : Nat) (d : Kd α) (wf : α → Prop) : Prop :=
  ∀ (H : Type) (enc : TypeId × Value → H) (w : World) (held : Bool) (n : Nat) (cs : List Value),
    (∀ f ∈ fs, ∃ y, DataW.trod enc P w 0 (fun _ => true) held n f.type ((cs.drop f.offset).take (P.cellsOf f.type)) = some y) → ∃ v : α, d.K w v ((cs.drop off).take d.sz) ∧ wf v
theorem i64_of_wf {n : Int} (h : (Lit.int .i64 n).wf = true) : I64 n := by
  simp only [Lit.wf, IntKind.min, IntKind.max, IntKind.signed, IntKind.bits, Bool.and_eq_true, decide_eq_true_eq, if_true] at h
  unfold I64
  omega
theorem opens_i64 {P : Program} {t : TypeId} (ht : P.underlying t = some (.int .i64)) : Opens P t (Kd.int .i64) I64 := by
  intro H enc w held fuel cs x h
  obtain ⟨n, rfl, _, hw⟩ := DataW.trod_int ht h
  exact ⟨n, rfl, i64_of_wf hw⟩
theorem opens_slice {α : Type} {P : Program} {t e : TypeId} (E : Nat) {d : Kd α} {wf : α → Prop} (z : α) (ht : P.underlying t = some (.slice e)) (hc : P.cellsOf e = d.sz) (ho : Opens P e d wf) :
    Opens P t (Kd.slice E d) (fun xs => xs.length ≤ 9223372036854775807 ∧ ∀ x ∈ xs, wf x) := by
  intro H enc w held fuel cs x h
  rcases open_slice ht h with ⟨rfl, rfl⟩ | ⟨a, len, cap, m, n, D, Pl, rfl, _, hl, hm, hmm, rfl, hx⟩
  · exact ⟨[], ⟨none, 0, rfl, Nat.le_refl _, rfl, by simp, fun h => absurd h (by simp)⟩, by simp, by simp⟩
  · have hmc : m = cap := by simpa using hmm
    have hm63 : cap ≤ 9223372036854775807 := by simpa [maxLen] using hm
    haveI : Inhabited α := ⟨z⟩
    obtain ⟨V, hV⟩ := choose_lt (n := len) (p := fun i (v : α) => wf v ∧ ∃ c, c.length = d.sz ∧ d.K w v c ∧ ∀ j u, c[j]? = some u → w.cell? (a.add (i * d.sz + j)) = some u) (fun i hi => by
      obtain ⟨cs', h1, h2⟩ := hx i (by omega)
      rw [hc] at h1
      obtain ⟨_, hlen, hcell⟩ := World.cells?_some h1
      obtain ⟨v, hK, hw⟩ := ho _ _ _ _ _ _ _ h2
      refine ⟨v, hw, cs', hlen, hK, fun j u hu => ?_⟩
      have hj : j < cs'.length := (List.getElem?_eq_some_iff.1 hu).1
      have e0 := hcell j (by omega)
      rw [Deep.add_add] at e0
      rw [e0, hu])
    have hlen : ((List.range len).map V).length = len := by simp
    refine ⟨(List.range len).map V, ⟨some a, cap, by rw [hlen], by omega, by simp, by simp; omega, fun _ => ⟨a, rfl, fun j p hj => ?_⟩⟩, by omega, fun x hx => ?_⟩
    · rw [List.getElem?_map] at hj
      obtain ⟨i, hi, rfl⟩ := Option.map_eq_some_iff.1 hj
      obtain ⟨hlt, rfl⟩ := List.getElem?_eq_some_iff.1 hi
      simp at hlt ⊢
      obtain ⟨c, h1, h2, h3⟩ := (hV j hlt).2
      exact ⟨c, h1, h2, h3⟩
    · obtain ⟨i, hi, rfl⟩ := List.mem_map.1 hx
      exact (hV i (List.mem_range.1 hi)).1
theorem opensF_last {α : Type} {P : Program} {f : Field} {off : Nat} {d : Kd α} {wf : α → Prop} (h0 : f.offset = off) (hc : P.cellsOf f.type = d.sz) (ho : Opens P f.type d wf) : OpensF P [f] off d wf := by
  intro H enc w held n cs h
  obtain ⟨y, hy⟩ := h f (by simp)
  rw [h0, hc] at hy
  exact ho _ _ _ _ _ _ _ hy
theorem opensF_cons {α β : Type} {P : Program} {f : Field} {fs : List Field} {off : Nat} {d : Kd α} {d1 : Kd β} {wf : α → Prop} {wf1 : β → Prop} (h0 : f.offset = off) (hc : P.cellsOf f.type = d.sz) (ho : Opens P f.type d wf)
    (h1 : OpensF P fs (off + d.sz) d1 wf1) : OpensF P (f :: fs) off (Kd.pair d d1) (fun v => wf v.1 ∧ wf1 v.2) := by
  intro H enc w held n cs h
  obtain ⟨y, hy⟩ := h f (by simp)
  rw [h0, hc] at hy
  obtain ⟨v, hK, hw⟩ := ho _ _ _ _ _ _ _ hy
  obtain ⟨v1, hK1, hw1⟩ := h1 H enc w held n cs (fun g hg => h g (List.mem_cons_of_mem _ hg))
  refine ⟨(v, v1), ⟨_, _, ?_, hK, hK1⟩, hw, hw1⟩
  show (cs.drop off).take (d.sz + d1.sz) = _
  rw [List.take_add, List.drop_drop]
theorem opens_struct {α : Type} {P : Program} {t : TypeId} {fs : Array Field} {d : Kd α} {wf : α → Prop} (ht : P.underlying t = some (.struct fs)) (hc : P.cellsOf t = d.sz) (ho : OpensF P fs.toList 0 d wf) : Opens P t d wf := by
  intro H enc w held fuel cs x h
  obtain ⟨xs, n, _, _, hlen, hxl, hf⟩ := DataW.trod_struct ht h
  obtain ⟨v, hK, hw⟩ := ho H enc w held n cs (fun f hfm => by
    obtain ⟨i, hi, rfl⟩ := List.getElem_of_mem hfm
    have hi' : i < fs.size := by simpa using hi
    have := hf i fs[i] (by simp [hi'])
    rw [List.getElem?_eq_getElem (by omega)] at this
    exact ⟨_, by simpa using this⟩)
  refine ⟨v, ?_, hw⟩
  rwa [List.drop_zero, List.take_of_length_le (by omega)] at hK
theorem opens_iso {α β : Type} {P : Program} {t : TypeId} {d : Kd α} {wf : α → Prop} (f : β → α) (g : α → β) (hg : ∀ a, f (g a) = a) (ho : Opens P t d wf) : Opens P t (Kd.iso d f) (fun b => wf (f b)) := by
  intro H enc w held fuel cs x h
  obtain ⟨v, hK, hw⟩ := ho _ _ _ _ _ _ _ h
  exact ⟨g v, by show d.K w (f (g v)) cs; rw [hg]; exact hK, by show wf (f (g v)); rw [hg]; exact hw⟩
end Go.Proofs.YtdjdleldocfpaaaGreatDoor.F
end
