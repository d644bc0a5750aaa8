/- Packed by a program of the session (wip/tools/pack.py): what the claim's theorem reaches, of the texts that wip/ and the kit's printer lay. -/
import Derived.Test.YtdjdleldocfpaaaDoorPkFnExactCanSwap2
import Derived.Deep.QuietTactic
import Derived.BigQuiet
import Derived.StillTailTactics
import Derived.Maps.Ext
import Derived.Maps.OwnSet
import Derived.StringKeys
import Derived.Maps.AppendAt
section
namespace Go.Proofs.YtdjdleldocfpaaaDoor.F
open Go.RowKit Go.Proofs.YtdjdleldocfpaaaDoorW.PrintWords Go.Proofs.YtdjdleldocfpaaaDoorW.PrintLast Go.Proofs.YtdjdleldocfpaaaDoorW.PrintMore
set_option linter.unusedVariables false
set_option linter.unusedSimpArgs false
theorem row_open {w : World} {base : Nat} {v : Value} {xs : List Int} {e : Nat} (h : Kd.R (Kd.int .i64) e w base (fun _ => True) v xs) (hx : 0 < xs.length) :
    ∃ g cap cur, v = .slice (some ⟨g, 0, none⟩) xs.length cap ∧ xs.length ≤ cap ∧ base ≤ g ∧ w.heap[g]? = some (.cells (List.toArray cur) e (0, 0)) ∧ cur.length = cap ∧ cap ≤ maxLen ∧ ∀ j, j < xs.length → cur[j]? = some (.int .i64 (xs.getD j 0)) := by
  obtain ⟨_, h⟩ := Kd.own_of_R h
  rcases h with ⟨rfl, h0⟩ | ⟨g, cap, cur, rfl, hb, hh, hn, hc, hs, hl⟩
  · omega
  · refine ⟨g, cap, cur.toList, rfl, hn, hb, by simpa using hh, by simpa using hs, hc, fun j hj => ?_⟩
    have e1 := congrArg (fun l : List Value => l[j]?) hl
    simp only [List.getElem?_take, Nat.mul_one] at e1
    rw [if_pos hj] at e1
    rw [e1]
    simp [encs, List.getD_eq_getElem?_getD, List.getElem?_eq_getElem hj]
end Go.Proofs.YtdjdleldocfpaaaDoor.F
end

section
namespace Go.Proofs.YtdjdleldocfpaaaDoor.F
open Go.RowKit Go.Proofs.YtdjdleldocfpaaaDoorW.PrintWords Go.Proofs.YtdjdleldocfpaaaDoorW.PrintLast Go.Proofs.YtdjdleldocfpaaaDoorW.PrintMore
set_option linter.unusedVariables false
set_option linter.unusedSimpArgs false
theorem below_grownS {w w' : World} (h : Below w.heap.size w w') : w.grownBy w' none := ⟨h.os, h.tape, h.output, h.size, fun i hi _ => h.block i hi⟩
theorem bool_invS {H : Type} {P : Program} {e : TypeId} (he : P.underlying e = some .bool) {v : Value} {z : DataW H × List MemPlace} (h : plainElem P e v = some z) : ∃ x, v = .bool x ∧ z = (.lit (.bool x), []) := by
  unfold plainElem at h
  rw [he] at h
  cases v <;> simp at h
  exact ⟨_, rfl, h.symm⟩
def sk (s : ByteArray) : Lit := .string s.data.toList
theorem sk_inj {s t : ByteArray} (h : sk s = sk t) : s = t := by
  unfold sk at h
  have h1 : s.data.toList = t.data.toList := by simpa using h
  cases s; cases t
  simp only [ByteArray.mk.injEq]
  exact Array.ext' h1
theorem sk_key (s : ByteArray) : WideAt.IsKeyLit (sk s) := by unfold sk; trivial
theorem any_iff (L : List ByteArray) (y : ByteArray) : (L.any fun z => z.data.toList == y.data.toList) = true ↔ y ∈ L := by
  rw [List.any_eq_true]
  constructor
  · rintro ⟨z, hz, e⟩
    have e1 : z.data.toList = y.data.toList := by simpa using e
    have : sk z = sk y := by unfold sk; rw [e1]
    rw [← sk_inj this]; exact hz
  · intro h
    exact ⟨y, h, by simp⟩
def StrAt (P : Program) (K E : TypeId) (w : World) (b : Nat) (L : List ByteArray) : Prop :=
  ∃ D : DataW Unit, w.ownsMap P K (plainElem P E) b L.length D ∧ Maps.size D = L.length ∧ ∀ s : ByteArray, (s ∈ L → D.atKey (sk s) (.lit (.bool false)) = .lit (.bool true) ∧ Maps.has D (sk s) = true) ∧ (s ∉ L → Maps.has D (sk s) = false)
theorem StrAt.kept {P : Program} {K E : TypeId} {w w' : World} {b : Nat} {L : List ByteArray} {row : Option Nat} (h : StrAt P K E w b L) (hg : w.grownBy w' row) (hne : some b ≠ row) : StrAt P K E w' b L := by
  obtain ⟨D, h1, h2⟩ := h
  exact ⟨D, h1.kept hg hne, h2⟩
theorem StrAt.below {P : Program} {K E : TypeId} {w w' : World} {b : Nat} {L : List ByteArray} (h : StrAt P K E w b L) (hb : Below w.heap.size w w') : StrAt P K E w' b L := h.kept (below_grownS hb) (by simp)
theorem StrAt.alloc {P : Program} {K E : TypeId} {w : World} {b : Nat} {L : List ByteArray} (h : StrAt P K E w b L) (o : Obj) : StrAt P K E (w.alloc o) b L := h.kept (World.grownBy_alloc _ _ none) (by simp)
theorem StrAt.drew {P : Program} {K E : TypeId} {w : World} {b : Nat} {L : List ByteArray} (h : StrAt P K E w b L) : StrAt P K E w.drew b L := by
  obtain ⟨D, h1, h2⟩ := h
  exact ⟨D, h1.drew, h2⟩
theorem str_made (P : Program) (K E : TypeId) (w : World) : StrAt P K E (w.alloc (.map #[] 0)) w.heap.size [] :=
  ⟨.map [], World.ownsMap_made _ _ _ _, rfl, fun x => ⟨fun h => absurd h List.not_mem_nil, fun _ => rfl⟩⟩
theorem StrAt.put_ {P : Program} {K E : TypeId} {w : World} {b : Nat} {L : List ByteArray} {D : DataW Unit} (hk : P.underlying K = some .string) (hown : w.ownsMap P K (plainElem P E) b L.length D) (hsz : Maps.size D = L.length)
    (hD : ∀ s : ByteArray, (s ∈ L → D.atKey (sk s) (.lit (.bool false)) = .lit (.bool true) ∧ Maps.has D (sk s) = true) ∧ (s ∉ L → Maps.has D (sk s) = false)) (y : ByteArray) (hy : y ∉ L) :
    Maps.size (D.put (sk y) (.lit (.bool true))) = (L ++ [y]).length ∧ ∀ s : ByteArray, (s ∈ L ++ [y] → (D.put (sk y) (.lit (.bool true))).atKey (sk s) (.lit (.bool false)) = .lit (.bool true) ∧ Maps.has (D.put (sk y) (.lit (.bool true))) (sk s) = true) ∧ (s ∉ L ++ [y] → Maps.has (D.put (sk y) (.lit (.bool true))) (sk s) = false) := by
  refine ⟨?_, fun s => ?_⟩
  · rw [Maps.size_put (hown.tidy (Maps.string_keyed hk)), (hD y).2 hy, if_neg Bool.false_ne_true, hsz, List.length_append]; rfl
  · by_cases e : s = y
    · subst e
      exact ⟨fun _ => ⟨Maps.atKey_put_same hown.isMap (sk_key _) _ _, Maps.has_put_same hown.isMap (sk_key _) _⟩, fun h => absurd (by simp) h⟩
    · have hne : sk s ≠ sk y := fun h => e (sk_inj h)
      rw [Maps.atKey_put_other hne, Maps.has_put_other hne]
      exact ⟨fun h => (hD s).1 ((List.mem_append.1 h).elim id fun q => absurd (List.mem_singleton.1 q) e), fun h => (hD s).2 fun q => h (List.mem_append.2 (Or.inl q))⟩
section
variable {P : Program} (w : World) {ops : Array Oper} {rest : List Oper} {o : Oper} {a : Act} {Q : Exit → Act → World → Prop}
theorem wp_str_put (hg : o.guard = none) (m x v : Operand) (t : TypeId) (hop : o.op = Op.mapUpdate t m x v) (K E : TypeId) (hk : P.underlying K = some .string) (he : P.underlying E = some .bool) (ht : P.underlying t = some (.map K E)) (b : Nat) (L : List ByteArray) (hm : a.eval m = .map (some b)) (h : StrAt P K E w b L) (hn : L.length < maxLen)
    (y : ByteArray) (hx : a.eval x = .string y) (hv : a.eval v = .bool true) (hs : y.size ≤ maxLen) (hy : y ∉ L)
    (hK : ∀ w', StrAt P K E w' b (L ++ [y]) → w.grownBy w' (some b) → wpList P ops Q rest (a.put o.dst undef) w') : wpList P ops Q (o :: rest) a w := by
  obtain ⟨D, hown, hsz, hD⟩ := h
  refine wpList_mapUpdate_own w hg m x v t hop K E (Maps.string_keyed hk) ht _ b L.length D hm hown hn _ _ _ hx hv (WideMaps.keyOf_string_mk hk hs) _ [] (plainElem_bool he true) fun w' h1 h2 => hK w' ?_ h2
  obtain ⟨q1, q2⟩ := StrAt.put_ hk hown hsz hD y hy
  exact ⟨_, by rw [List.length_append]; exact h1, q1, q2⟩
theorem wp_str_ins (hg : o.guard = none) (m x v : Operand) (t : TypeId) (hop : o.op = Op.insert t m x v) (K E : TypeId) (hk : P.underlying K = some .string) (he : P.underlying E = some .bool) (ht : P.underlying t = some (.map K E)) (b : Nat) (L : List ByteArray) (hm : a.eval m = .map (some b)) (h : StrAt P K E w b L) (hn : L.length < maxLen)
    (y : ByteArray) (hx : a.eval x = .string y) (hv : a.eval v = .bool true) (hs : y.size ≤ maxLen) (hy : y ∉ L)
    (hK : ∀ w', StrAt P K E w' b (L ++ [y]) → w.grownBy w' (some b) → wpList P ops Q rest (a.put o.dst undef) w') : wpList P ops Q (o :: rest) a w := by
  obtain ⟨D, hown, hsz, hD⟩ := h
  refine wpList_plain hg fun K' hK' => ?_
  obtain ⟨w', hrun, r1, r2⟩ := hown.update (Maps.string_keyed hk) ht hn (WideMaps.keyOf_string_mk hk hs) (plainElem_bool he true)
  unfold Oper.wp
  simp [execOp, hop, hm, hx, hv, hrun, Result.andThen]
  obtain ⟨q1, q2⟩ := StrAt.put_ hk hown hsz hD y hy
  exact hK' _ _ (hK w' ⟨_, by rw [List.length_append]; exact r1, q1, q2⟩ r2)
theorem run_str_look (t : TypeId) (K E : TypeId) (hk : P.underlying K = some .string) (he : P.underlying E = some .bool) (ht : P.underlying t = some (.map K E)) (hz : (zeroValue E).run P w = .ok (.bool false) w) (b : Nat) (L : List ByteArray) (h : StrAt P K E w b L) (y : ByteArray) (hs : y.size ≤ maxLen) :
    (Instr.lookup t (.map (some b)) (.string y) false).run P w = .ok (.bool (L.any fun z => z.data.toList == y.data.toList)) w := by
  obtain ⟨D, hown, hsz, hD⟩ := h
  obtain ⟨v, ps, hrun, hat⟩ := hown.lookup (Maps.string_keyed hk) ht hz (plainElem_bool he false) (WideMaps.keyOf_string_mk hk hs)
  obtain ⟨q, rfl, hq⟩ := bool_invS he hat
  have hq' : D.atKey (sk y) (.lit (.bool false)) = .lit (.bool q) := (Prod.mk.inj hq).1
  rw [hrun]
  congr 2
  by_cases s : y ∈ L
  · rw [((hD y).1 s).1] at hq'
    rw [(any_iff L y).2 s]
    simpa using hq'.symm
  · rw [Maps.atKey_of_not_has ((hD y).2 s)] at hq'
    rw [show (L.any fun z => z.data.toList == y.data.toList) = false by cases c : L.any fun z => z.data.toList == y.data.toList; rfl; exact absurd ((any_iff L y).1 c) s]
    simpa using hq'.symm
end
theorem StrAt.isMap {P : Program} {K E : TypeId} {w : World} {b : Nat} {L : List ByteArray} (h : StrAt P K E w b L) : ∃ es clock, w.heap[b]? = some (.map es clock) := by
  obtain ⟨D, ⟨es, clock, hb, _⟩, _⟩ := h
  exact ⟨es, clock, hb⟩
theorem StrAt.ne {P : Program} {K E : TypeId} {w : World} {b g t : Nat} {L : List ByteArray} {cur : Array Value} {fz : Nat × Nat} (h : StrAt P K E w b L) (hg : w.heap[g]? = some (.cells cur t fz)) : g ≠ b := fun e => by
  obtain ⟨es, clock, hb⟩ := h.isMap
  rw [← e, hg] at hb
  cases hb
def MapKs (P : Program) (K E : TypeId) (w : World) (v : Value) (L : List ByteArray) : Prop := (L = [] ∧ v = .map none) ∨ ∃ b, v = .map (some b) ∧ StrAt P K E w b L
theorem MapKs.below {P : Program} {K E : TypeId} {w w' : World} {v : Value} {L : List ByteArray} (h : MapKs P K E w v L) (hb : Below w.heap.size w w') : MapKs P K E w' v L := by
  rcases h with h | ⟨b, e, h⟩
  · exact Or.inl h
  · exact Or.inr ⟨b, e, h.below hb⟩
section
variable {P : Program} (w : World) {ops : Array Oper} {rest : List Oper} {o : Oper} {a : Act} {Q : Exit → Act → World → Prop}
theorem run_strs_look (t : TypeId) (K E : TypeId) (hk : P.underlying K = some .string) (he : P.underlying E = some .bool) (ht : P.underlying t = some (.map K E)) (hz : (zeroValue E).run P w = .ok (.bool false) w) (L : List ByteArray) (v : Value) (h : MapKs P K E w v L) (y : ByteArray) (hs : y.size ≤ maxLen) : (Instr.lookup t v (.string y) false).run P w = .ok (.bool (L.any fun z => z.data.toList == y.data.toList)) w := by
  rcases h with ⟨rfl, rfl⟩ | ⟨b, rfl, h⟩
  · have hrun := Maps.look_nil (w := w) false (Maps.string_keyed hk) ht hz (WideMaps.keyOf_string_mk hk hs)
    rw [if_neg Bool.false_ne_true] at hrun
    exact hrun
  · exact run_str_look w t K E hk he ht hz b L h y hs
end
end Go.Proofs.YtdjdleldocfpaaaDoor.F
end

section
namespace Go.Proofs.YtdjdleldocfpaaaDoor.F
open Go.RowKit Go.Proofs.YtdjdleldocfpaaaDoorW.PrintWords Go.Proofs.YtdjdleldocfpaaaDoorW.PrintLast Go.Proofs.YtdjdleldocfpaaaDoorW.PrintMore
set_option linter.unusedVariables false
set_option linter.unusedSimpArgs false
theorem cell_of_block {w w' : World} {a : Addr} (h : w'.heap[a.block]? = w.heap[a.block]?) : w'.cell? a = w.cell? a := by simp [World.cell?, h]
def RowQ (e base : Nat) (w : World) (v : Value) (xs : List Int) : Prop :=
  ∃ A c, v = .slice A xs.length c ∧ xs.length ≤ c ∧ xs.length ≤ 9223372036854775807 ∧ (0 < xs.length → ∃ ad, A = some ad ∧ (∀ j, j < xs.length → w.cell? (ad.add j) = some (.int .i64 (xs.getD j 0))) ∧ (ad.block < base ∨ ∃ cur, w.heap[ad.block]? = some (.cells cur e (0, 0))))
def SafeB (e base : Nat) (w : World) (k : Nat) : Prop := k < base ∨ ∃ cur, w.heap[k]? = some (.cells cur e (0, 0))
theorem addr_block (ad : Addr) (j : Nat) : (ad.add j).block = ad.block := add_block _ _
theorem RowQ.move {e base : Nat} {w w' : World} {v : Value} {xs : List Int} (h : RowQ e base w v xs) (hm : ∀ k, k < w.heap.size → SafeB e base w k → w'.heap[k]? = w.heap[k]?) : RowQ e base w' v xs := by
  obtain ⟨A, c, rfl, h1, h2, h3⟩ := h
  refine ⟨A, c, rfl, h1, h2, fun hp => ?_⟩
  obtain ⟨ad, rfl, hc, hs⟩ := h3 hp
  have hlt : ad.block < w.heap.size := by
    have := World.block_lt_of_cell? w _ (hc 0 hp)
    rwa [addr_block] at this
  have hb := hm ad.block hlt hs
  refine ⟨ad, rfl, fun j hj => ?_, ?_⟩
  · have q := cell_of_block (a := ad.add j) (w := w) (w' := w') (by rw [addr_block]; exact hb)
    rw [q]
    exact hc j hj
  · rcases hs with hs | ⟨cur, hs⟩
    · exact Or.inl hs
    · exact Or.inr ⟨cur, hb.trans hs⟩
theorem RowQ.C {e base : Nat} {w : World} {A : Option Addr} {n c : Nat} {xs : List Int} (h : RowQ e base w (.slice A n c) xs) : n = xs.length ∧ n ≤ c ∧ Kd.C (Kd.int .i64) w A xs.length xs := by
  obtain ⟨A', c', he, h1, h2, h3⟩ := h
  injection he with e1 e2 e3
  subst e1 e2 e3
  refine ⟨rfl, h1, Kd.C_of_reads (d := (0 : Int)) (h1 := fun _ => rfl) ⟨rfl, h2, fun hp => ?_⟩⟩
  obtain ⟨ad, rfl, hc, _⟩ := h3 hp
  exact ⟨ad, rfl, hc⟩
theorem RowQ.slice {e base : Nat} {w : World} {v : Value} {xs : List Int} (h : RowQ e base w v xs) : ∃ A c, v = .slice A xs.length c := by
  obtain ⟨A, c, rfl, _⟩ := h
  exact ⟨A, c, rfl⟩
theorem RowQ.ofC {e : Nat} {w : World} {A : Option Addr} {c : Nat} {xs : List Int} (h : Kd.C (Kd.int .i64) w A xs.length xs) (hc : xs.length ≤ c) : RowQ e w.heap.size w (.slice A xs.length c) xs := by
  refine ⟨A, c, rfl, hc, h.2.1, fun hp => ?_⟩
  obtain ⟨ad, _, rfl, _⟩ := Kd.C_get h (0 : Int) 0 (by decide) (by omega)
  have hcell : ∀ j, j < xs.length → w.cell? (ad.add j) = some (.int .i64 (xs.getD j 0)) := fun j hj => by
    obtain ⟨ad', cs, e1, hl, hK, hcs⟩ := Kd.C_get h (0 : Int) (j : Int) (by omega) (by omega)
    injection e1 with e1
    subst e1
    have hk : cs = [Value.int .i64 (xs.getD (j : Int).toNat 0)] := hK
    have this : w.cell? (ad.add ((j : Int).toNat * 1 + 0)) = some (Value.int .i64 (xs.getD (j : Int).toNat 0)) := hcs 0 _ (by rw [hk]; rfl)
    rwa [Int.toNat_natCast, Nat.mul_one, Nat.add_zero] at this
  refine ⟨ad, rfl, hcell, Or.inl ?_⟩
  have := World.block_lt_of_cell? w _ (hcell 0 hp)
  rwa [addr_block] at this
theorem RowQ.ofR {e base b0 : Nat} {w : World} {v : Value} {xs : List Int} (h : Kd.R (Kd.int .i64) e w b0 (fun _ => True) v xs) : RowQ e base w v xs := by
  obtain ⟨A, c, rfl⟩ := Kd.R_slice h
  have hr := Kd.R_reads' h
  refine ⟨A, c, rfl, hr.2.1, hr.2.2.2.1, fun hp => ?_⟩
  obtain ⟨g, cap, cur, he, _, _, hg, hcl, _, hx⟩ := row_open h hp
  injection he with e1 _ _
  subst e1
  refine ⟨_, rfl, fun j hj => ?_, Or.inr ⟨_, hg⟩⟩
  have : (⟨g, 0, none⟩ : Addr).add j = ⟨g, j, none⟩ := by unfold Addr.add; split <;> simp_all
  rw [this, blk_cell hg j]
  simpa using hx j hj
def QAt (e3 e base : Nat) (w : World) (v : Value) (Q : List (List Int)) : Prop :=
  ∃ (g off cap : Nat) (cur : Array Value) (vs : List Value), v = .slice (some ⟨g, off, none⟩) Q.length cap ∧ base ≤ g ∧ w.heap[g]? = some (.cells cur e (0, 0)) ∧ Q.length ≤ cap ∧ cap ≤ maxLen ∧ off + cap ≤ cur.size ∧ vs.length = Q.length ∧ (∀ j u, vs[j]? = some u → cur[off + j]? = some u) ∧ ∀ j u, vs[j]? = some u → RowQ e3 base w u (Q.getD j [])
theorem QAt.move {e3 e base : Nat} {w w' : World} {v : Value} {Q : List (List Int)} (h : QAt e3 e base w v Q) (hm : ∀ k, k < w.heap.size → (SafeB e3 base w k ∨ SafeB e base w k) → w'.heap[k]? = w.heap[k]?) : QAt e3 e base w' v Q := by
  obtain ⟨g, off, cap, cur, vs, h1, h2, h3, h4, h5, h6, h7, h8, h9⟩ := h
  exact ⟨g, off, cap, cur, vs, h1, h2, (hm g (blk_lt h3) (Or.inr (Or.inr ⟨cur, h3⟩))).trans h3, h4, h5, h6, h7, h8, fun j u hj => (h9 j u hj).move fun k hk hs => hm k hk (Or.inl hs)⟩
theorem QAt.below {e3 e base : Nat} {w w' : World} {v : Value} {Q : List (List Int)} (h : QAt e3 e base w v Q) (hb : Below w.heap.size w w') : QAt e3 e base w' v Q := h.move fun k hk _ => hb.block k hk
theorem QAt.head {e3 e base : Nat} {w : World} {v : Value} {V : List Int} {Q : List (List Int)} (h : QAt e3 e base w v (V :: Q)) : ∃ g off cap Au cu, v = .slice (some ⟨g, off, none⟩) (Q.length + 1) cap ∧ Q.length + 1 ≤ cap ∧ w.cell? ⟨g, off, none⟩ = some (.slice Au V.length cu) ∧ RowQ e3 base w (.slice Au V.length cu) V := by
  obtain ⟨g, off, cap, cur, vs, rfl, h2, h3, h4, h5, h6, h7, h8, h9⟩ := h
  have hl : 0 < vs.length := by rw [h7]; simp
  have e0 := List.getElem?_eq_getElem hl
  have hc := h8 0 _ e0
  have hr : RowQ e3 base w vs[0] V := h9 0 _ e0
  obtain ⟨A, c, e1⟩ := hr.slice
  rw [e1] at hc hr
  exact ⟨g, off, cap, A, c, rfl, h4, (blk_cell h3 off).trans hc, hr⟩
theorem QAt.form {e3 e base : Nat} {w : World} {v : Value} {Q : List (List Int)} (h : QAt e3 e base w v Q) : ∃ ad cap, v = .slice (some ad) Q.length cap := by
  obtain ⟨g, off, cap, cur, vs, rfl, _⟩ := h
  exact ⟨_, _, rfl⟩
theorem QAt.tail {e3 e base : Nat} {w : World} {g off cap n : Nat} {V : List Int} {Q : List (List Int)} (h : QAt e3 e base w (.slice (some ⟨g, off, none⟩) n cap) (V :: Q)) : (cap = 1 → QAt e3 e base w (.slice (some ⟨g, off, none⟩) Q.length 0) Q) ∧ (cap ≠ 1 → QAt e3 e base w (.slice (some ⟨g, off + 1, none⟩) Q.length (cap - 1)) Q) := by
  obtain ⟨g', off', cap', cur, vs, he, h2, h3, h4, h5, h6, h7, h8, h9⟩ := h
  injection he with e1 e2 e3
  injection e1 with e1
  injection e1 with e4 e5
  subst e4 e5 e3
  rw [List.length_cons] at h4 h7
  refine ⟨fun c => ?_, fun c => ?_⟩
  · have hQ : Q = [] := List.eq_nil_of_length_eq_zero (by omega)
    subst hQ
    exact ⟨g, off, 0, cur, [], rfl, h2, h3, by simp, by omega, by omega, rfl, fun j u hj => by simp at hj, fun j u hj => by simp at hj⟩
  · refine ⟨g, off + 1, cap - 1, cur, vs.drop 1, rfl, h2, h3, by omega, by omega, by omega, by rw [List.length_drop]; omega, fun j u hj => ?_, fun j u hj => ?_⟩
    · rw [List.getElem?_drop] at hj
      have := h8 (1 + j) u hj
      rwa [show off + (1 + j) = off + 1 + j by omega] at this
    · rw [List.getElem?_drop] at hj
      have := h9 (1 + j) u hj
      rwa [show (V :: Q).getD (1 + j) [] = Q.getD j [] by rw [Nat.add_comm]; rfl] at this
theorem QAt.one {e3 e base : Nat} {w : World} {u : Value} {V : List Int} (h : RowQ e3 base w u V) (hb : base ≤ w.heap.size) : QAt e3 e base (w.alloc (.cells #[u] e)) (.slice (some ⟨w.heap.size, 0, none⟩) 1 1) [V] :=
  ⟨w.heap.size, 0, 1, #[u], [u], rfl, hb, heap_alloc_new w _, Nat.le_refl _, by decide, by simp, rfl, fun j x hj => by
    rcases j with _ | j
    · simpa using hj
    · simp at hj, fun j x hj => by
    rcases j with _ | j
    · have : u = x := by simpa using hj
      subst this
      exact h.move fun k hk _ => heap_alloc_old w _ hk
    · simp at hj⟩
theorem run_append_win {P : Program} (w : World) (t ty e : TypeId) (i : TypeInfo) (ht : P.underlying t = some (.slice e)) (hi : P.info? e = some i)
    (g off sLen sCap : Nat) (cur : Array Value) (hg : w.heap[g]? = some (.cells cur e (0, 0)))
    (a : Addr) (m c : Nat) (news : List Value) (hl : news.length = m * i.size) (hnews : ∀ j u, news[j]? = some u → w.cell? (a.add j) = some u) (h1 : ∀ u ∈ news, u.oneCell' = true)
    (hroom : sLen + m ≤ sCap) (hfit : off + sLen * i.size + news.length ≤ cur.size) :
    (Builtin.append_ #[t, t] ty #[.slice (some ⟨g, off, none⟩) sLen sCap, .slice (some a) m c]).run P w =
      .ok (.slice (some ⟨g, off, none⟩) (sLen + m) sCap) (w.setRow g (cur.toList.take (off + sLen * i.size) ++ news ++ cur.toList.drop (off + sLen * i.size + news.length)).toArray) := by
  have hf := run_firstCells_some (P := P) w i.size m a m c news hl hnews
  have hst := run_storeCells_at P g (off + sLen * i.size) e news 0 cur w hg (by simpa using hfit) h1
  simp only [Nat.add_zero] at hst
  have ha : (⟨g, off, none⟩ : Addr).add (sLen * i.size) = ⟨g, off + sLen * i.size, none⟩ := by unfold Addr.add; split <;> simp_all
  simp [Builtin.append_, run_underlying ht, sizeOf, typeInfo, hi, Builtin.lenOf, hroom, hf, ha, hst]
theorem run_append_q {P : Program} (w : World) {e3 e base : Nat} (t ty : TypeId) (i : TypeInfo) (z : Value) (ht : P.underlying t = some (.slice e)) (hi : P.info? e = some i) (hz : i.zero = some z)
    (hsize : i.size = 1) (hby : i.bytes ≤ 24) (hzs : 1 ≤ z.cells.size) {v : Value} {Q : List (List Int)} (hq : QAt e3 e base w v Q)
    (ad : Addr) (c : Nat) (u : Value) {X : List Int} (hx : RowQ e3 base w u X) (hc : w.cell? ad = some u) (hn : Q.length < 100000) (hbase : base ≤ w.heap.size) (he : e3 ≠ e) :
    ∃ v' w' g, (Builtin.append_ #[t, t] ty #[v, .slice (some ad) 1 c]).run P w = .ok v' w' ∧ QAt e3 e base w' v' (Q ++ [X]) ∧ w.grownBy w' (some g) ∧ base ≤ g ∧ ∃ cur, w.heap[g]? = some (.cells cur e (0, 0)) := by
  obtain ⟨g, off, cap, cur, vs, rfl, h2, h3, h4, h5, h6, h7, h8, h9⟩ := hq
  have had : ad.add 0 = ad := by unfold Addr.add; split <;> simp_all
  have hnews : ∀ j x, [u][j]? = some x → w.cell? (ad.add j) = some x := fun j x hj => by
    rcases j with _ | j
    · have : u = x := by simpa using hj
      rw [had, hc, this]
    · simp at hj
  have h1 : ∀ x ∈ [u], x.oneCell' = true := fun x hm => by
    obtain ⟨A, cc, e1⟩ := hx.slice
    rw [List.mem_singleton.1 hm, e1]; rfl
  have safe : ∀ {w' : World}, (∀ k, k < w.heap.size → k ≠ g → w'.heap[k]? = w.heap[k]?) → ∀ k, k < w.heap.size → SafeB e3 base w k → w'.heap[k]? = w.heap[k]? := fun {w'} H k hk hs => H k hk fun e1 => by
    subst e1
    rcases hs with hs | ⟨cc, hs⟩
    · omega
    · rw [h3] at hs
      injection hs with hs
      injection hs with _ hs _
      exact he hs.symm
  have rows : ∀ {w' : World}, (∀ k, k < w.heap.size → k ≠ g → w'.heap[k]? = w.heap[k]?) → ∀ j x, (vs ++ [u])[j]? = some x → RowQ e3 base w' x ((Q ++ [X]).getD j []) := fun {w'} H j x hj => by
    by_cases c1 : j < vs.length
    · rw [List.getElem?_append_left c1] at hj
      have := (h9 j x hj).move (safe H)
      rwa [show (Q ++ [X]).getD j [] = Q.getD j [] by rw [List.getD_eq_getElem?_getD, List.getD_eq_getElem?_getD, List.getElem?_append_left (by omega)]]
    · have hlt := (List.getElem?_eq_some_iff.1 hj).1
      rw [List.length_append, List.length_singleton] at hlt
      obtain rfl : j = vs.length := by omega
      have e1 : u = x := by simpa using hj
      subst e1
      have := hx.move (safe H)
      rwa [show (Q ++ [X]).getD vs.length [] = X by rw [h7]; simp]
  by_cases hroom : Q.length + 1 ≤ cap
  · have hr := run_append_win w t ty e i ht hi g off Q.length cap cur h3 ad 1 c [u] (by rw [hsize]; rfl) hnews h1 hroom (by rw [hsize]; simp; omega)
    rw [hsize, Nat.mul_one] at hr
    have hl : (Q ++ [X]).length = Q.length + 1 := by simp
    have ct : cur.toList.length = cur.size := Array.length_toList
    refine ⟨_, _, g, hr, ⟨g, off, cap, _, vs ++ [u], by rw [hl], h2, setRow_heap w g cur _ e _ h3, by omega, h5, ?_, by rw [List.length_append, h7, hl]; rfl, fun j x hj => ?_, rows fun k _ hk => setRow_other w g k _ hk⟩, ⟨rfl, rfl, rfl, by simp, fun k _ hk => setRow_other w g k _ fun e1 => hk (by rw [e1])⟩, h2, cur, h3⟩
    · simp only [List.size_toArray, List.length_append, List.length_take, List.length_drop, List.length_singleton, ct]
      omega
    · rw [List.getElem?_toArray]
      by_cases c1 : j < vs.length
      · rw [List.getElem?_append_left c1] at hj
        have := h8 j x hj
        rw [List.append_assoc, List.getElem?_append_left (by rw [List.length_take, ct]; omega), List.getElem?_take_of_lt (by omega)]
        simpa using this
      · have hlt := (List.getElem?_eq_some_iff.1 hj).1
        rw [List.length_append, List.length_singleton] at hlt
        obtain rfl : j = vs.length := by omega
        have e1 : u = x := by simpa using hj
        rw [List.append_assoc, List.getElem?_append_right (by rw [List.length_take, ct]; omega), List.length_take, ct, show off + vs.length - min (off + Q.length) cur.size = 0 by omega, ← e1]
        rfl
  · have holds : ∀ j x, vs[j]? = some x → w.cell? ((⟨g, off, none⟩ : Addr).add j) = some x := fun j x hj => by
      have ha : (⟨g, off, none⟩ : Addr).add j = ⟨g, off + j, none⟩ := by unfold Addr.add; split <;> simp_all
      rw [ha]
      exact (blk_cell h3 (off + j)).trans (h8 j x hj)
    have hr := run_append_grow (P := P) w t ty e i z ht hi hz ⟨g, off, none⟩ Q.length cap vs (by rw [hsize, Nat.mul_one, h7]) holds ad 1 c [u] (by rw [hsize]; rfl) hnews (by omega) (by omega) (growslice_fits (by omega) (by have : (Q.length + 1) * i.bytes ≤ (Q.length + 1) * 24 := Nat.mul_le_mul_left _ hby; omega))
    have hge := grownCap_ge w (Q.length + 1) cap e
    have hcm : grownCap w (Q.length + 1) cap e ≤ maxLen := grownCap_le_maxLen w (Q.length + 1) cap e (by simp only [maxLen]; omega)
    have hl : (Q ++ [X]).length = Q.length + 1 := by simp
    refine ⟨_, _, g, hr, ⟨w.heap.size, 0, _, _, vs ++ [u], by rw [hl], hbase, heap_alloc_new w.drew _, by omega, hcm, ?_, by rw [List.length_append, h7, hl]; rfl, fun j x hj => ?_, rows fun k hk _ => heap_alloc_old w.drew _ hk⟩, ⟨rfl, rfl, rfl, by simp, fun k hk _ => heap_alloc_old w.drew _ hk⟩, h2, cur, h3⟩
    · simp only [Array.size_append, List.size_toArray, size_zeroCells, h7, List.length_singleton]
      have : grownCap w (Q.length + 1) cap e - (Q.length + 1) ≤ (grownCap w (Q.length + 1) cap e - (Q.length + 1)) * z.cells.size := Nat.le_mul_of_pos_right _ hzs
      omega
    · rw [Nat.zero_add, Array.getElem?_append_left (by have := (List.getElem?_eq_some_iff.1 hj).1; simpa using this)]
      have : (vs.toArray ++ [u].toArray) = (vs ++ [u]).toArray := by simp
      rw [this, List.getElem?_toArray]
      exact hj
theorem wp_q_append {P : Program} (w : World) {ops : Array Oper} {rest : List Oper} {o : Oper} {a : Act} {Qp : Exit → Act → World → Prop} (hgd : o.guard = none) (s x : Operand) (t : TypeId) (ho : o.op = .call { callee := .builtin .append, args := #[s, x], argTypes := #[t, t] })
    {e3 e base : Nat} (i : TypeInfo) (z : Value) (ht : P.underlying t = some (.slice e)) (hi : P.info? e = some i) (hz : i.zero = some z) (hsize : i.size = 1) (hby : i.bytes ≤ 24) (hzs : 1 ≤ z.cells.size)
    {v : Value} {Q : List (List Int)} (hs : a.eval s = v) (hq : QAt e3 e base w v Q) (ad : Addr) (c : Nat) (hxe : a.eval x = .slice (some ad) 1 c) (u : Value) {X : List Int} (hx : RowQ e3 base w u X) (hc : w.cell? ad = some u) (hn : Q.length < 100000) (hbase : base ≤ w.heap.size) (he : e3 ≠ e)
    (h : ∀ v' w' g, QAt e3 e base w' v' (Q ++ [X]) → w.grownBy w' (some g) → base ≤ g → (∃ cur, w.heap[g]? = some (.cells cur e (0, 0))) → wpList P ops Qp rest (a.put o.dst v') w') : wpList P ops Qp (o :: rest) a w := by
  refine wpList_plain hgd fun K hK => ?_
  obtain ⟨v', w', g, hr, h2, h3, h4, h5⟩ := run_append_q w t o.type i z ht hi hz hsize hby hzs hq ad c u hx hc hn hbase he
  unfold Oper.wp execOp
  simp only [ho, resolve, invoke, builtin, Sem.run_bind, Sem.run_pure, Result.andThen_ok, List.map_toArray, List.map_cons, List.map_nil, hs, hxe, hr]
  exact hK _ _ (h v' w' g h2 h3 h4 h5)
theorem QAt.grownMap {P : Program} {K E : TypeId} {e3 e base b : Nat} {w w' : World} {v : Value} {Q : List (List Int)} {L : List ByteArray} (h : QAt e3 e base w v Q) (hs : StrAt P K E w b L) (hb : base ≤ b) (hg : w.grownBy w' (some b)) : QAt e3 e base w' v Q :=
  h.move fun k hk s => hg.block k hk fun q => by
    have q := Option.some.inj q
    rcases s with (s | ⟨_, s⟩) | (s | ⟨_, s⟩)
    · omega
    · exact hs.ne s q
    · omega
    · exact hs.ne s q
theorem RowQ.grownMap {P : Program} {K E : TypeId} {e base b : Nat} {w w' : World} {v : Value} {xs : List Int} {L : List ByteArray} (h : RowQ e base w v xs) (hs : StrAt P K E w b L) (hb : base ≤ b) (hg : w.grownBy w' (some b)) : RowQ e base w' v xs :=
  h.move fun k hk s => hg.block k hk fun q => by
    have q := Option.some.inj q
    rcases s with s | ⟨_, s⟩
    · omega
    · exact hs.ne s q
theorem RowQ.below {e base : Nat} {w w' : World} {v : Value} {xs : List Int} (h : RowQ e base w v xs) (hb : Below w.heap.size w w') : RowQ e base w' v xs := h.move fun k hk _ => hb.block k hk
theorem StrAt.grownQ {P : Program} {K E : TypeId} {b g e : Nat} {w w' : World} {L : List ByteArray} (h : StrAt P K E w b L) (hg : w.grownBy w' (some g)) (hc : ∃ cur, w.heap[g]? = some (.cells cur e (0, 0))) : StrAt P K E w' b L := by
  obtain ⟨cur, hc⟩ := hc
  exact h.kept hg fun q => h.ne hc (Option.some.inj q).symm
theorem blk_grownT {w w' : World} {k g t e : Nat} {cs : Array Value} (h : w.heap[k]? = some (.cells cs t (0, 0))) (hg : w.grownBy w' (some g)) (hc : ∃ cur, w.heap[g]? = some (.cells cur e (0, 0))) (hne : t ≠ e) : w'.heap[k]? = some (.cells cs t (0, 0)) := by
  obtain ⟨cur, hc⟩ := hc
  refine (hg.block k (blk_lt h) fun q => ?_).trans h
  have q := Option.some.inj q
  rw [← q, h] at hc
  injection hc with hc
  injection hc with _ hc _
  exact hne hc
theorem blk_grownM {P : Program} {K E : TypeId} {w w' : World} {k b t : Nat} {cs : Array Value} {L : List ByteArray} (h : w.heap[k]? = some (.cells cs t (0, 0))) (hs : StrAt P K E w b L) (hg : w.grownBy w' (some b)) : w'.heap[k]? = some (.cells cs t (0, 0)) :=
  (hg.block k (blk_lt h) fun q => hs.ne h (Option.some.inj q)).trans h
end Go.Proofs.YtdjdleldocfpaaaDoor.F
end
