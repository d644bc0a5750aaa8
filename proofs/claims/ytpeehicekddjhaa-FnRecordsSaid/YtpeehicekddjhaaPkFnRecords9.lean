/- Packed by a program of the session (wip/tools/pack.py): what the claim's theorem reaches, of the texts that wip/ and the kit's printer lay. -/
import Derived.Test.YtpeehicekddjhaaPkFnRecords8
import Derived.Maps.Ext
import Derived.Maps.RangeWalk
import Derived.Laws.StructEq
section
namespace Go.Proofs.Ytpeehicekddjhaa.F
open Go.RowKit Go.Proofs.YtpeehicekddjhaaW.PrintWords Go.Proofs.YtpeehicekddjhaaW.PrintLast Go.Proofs.YtpeehicekddjhaaW.PrintMore
set_option linter.unusedVariables false
set_option linter.unusedSimpArgs false
theorem below_grown {w w' : World} (h : Below w.heap.size w w') : w.grownBy w' none := ⟨h.os, h.tape, h.output, h.size, fun i hi _ => h.block i hi⟩
theorem bool_inv {H : Type} {P : Program} {e : TypeId} (he : P.underlying e = some .bool) {v : Value} {z : DataW H × List MemPlace} (h : plainElem P e v = some z) : ∃ x, v = .bool x ∧ z = (.lit (.bool x), []) := by
  unfold plainElem at h
  rw [he] at h
  cases v <;> simp at h
  exact ⟨_, rfl, h.symm⟩
theorem keyEq {x y : Int} : ((Lit.int .i64 x) = (Lit.int .i64 y)) ↔ x = y := by simp
theorem sameI (x y : Int) : (Lit.int .i64 x).sameKey (.int .i64 y) = decide (x = y) := by
  by_cases h : x = y
  · subst h
    rw [WideAt.sameKey_self (by trivial)]; simp
  · rw [Maps.sameKey_ne (fun e => h (keyEq.1 e))]; simp [h]
def SetAt (P : Program) (K E : TypeId) (w : World) (b n : Nat) (S : Int → Prop) : Prop :=
  ∃ D : DataW Unit, w.ownsMap P K (plainElem P E) b n D ∧ ∀ x : Int, (S x → D.atKey (.int .i64 x) (.lit (.bool false)) = .lit (.bool true) ∧ Maps.has D (.int .i64 x) = true) ∧ (¬ S x → Maps.has D (.int .i64 x) = false)
theorem SetAt.kept {P : Program} {K E : TypeId} {w w' : World} {b n : Nat} {S : Int → Prop} {row : Option Nat} (h : SetAt P K E w b n S) (hg : w.grownBy w' row) (hne : some b ≠ row) : SetAt P K E w' b n S := by
  obtain ⟨D, h1, h2⟩ := h
  exact ⟨D, h1.kept hg hne, h2⟩
theorem SetAt.mono {P : Program} {K E : TypeId} {w : World} {b n n' : Nat} {S : Int → Prop} (h : SetAt P K E w b n S) (hn : n ≤ n') : SetAt P K E w b n' S := by
  obtain ⟨D, h1, h2⟩ := h
  exact ⟨D, h1.mono hn, h2⟩
theorem SetAt.same {P : Program} {K E : TypeId} {w : World} {b n : Nat} {S S' : Int → Prop} (h : SetAt P K E w b n S) (hs : ∀ x, S x ↔ S' x) : SetAt P K E w b n S' := by
  rwa [show S' = S from funext fun x => propext (hs x).symm]
theorem SetAt.lt {P : Program} {K E : TypeId} {w : World} {b n : Nat} {S : Int → Prop} (h : SetAt P K E w b n S) : b < w.heap.size := by
  obtain ⟨D, h1, _⟩ := h
  exact h1.lt
theorem set_made (P : Program) (K E : TypeId) (w : World) : SetAt P K E (w.alloc (.map #[] 0)) w.heap.size 0 (fun _ => False) :=
  ⟨.map [], World.ownsMap_made _ _ _ _, fun x => ⟨fun h => h.elim, fun _ => rfl⟩⟩
theorem SetAt.put_ {P : Program} {K E : TypeId} {w : World} {b n : Nat} {S : Int → Prop} {D : DataW Unit} (hown : w.ownsMap P K (plainElem P E) b n D)
    (hD : ∀ x : Int, (S x → D.atKey (.int .i64 x) (.lit (.bool false)) = .lit (.bool true) ∧ Maps.has D (.int .i64 x) = true) ∧ (¬ S x → Maps.has D (.int .i64 x) = false)) (y : Int) :
    ∀ x : Int, ((S x ∨ x = y) → (D.put (.int .i64 y) (.lit (.bool true))).atKey (.int .i64 x) (.lit (.bool false)) = .lit (.bool true) ∧ Maps.has (D.put (.int .i64 y) (.lit (.bool true))) (.int .i64 x) = true) ∧ (¬ (S x ∨ x = y) → Maps.has (D.put (.int .i64 y) (.lit (.bool true))) (.int .i64 x) = false) := by
  intro x
  by_cases e : x = y
  · subst e
    exact ⟨fun _ => ⟨Maps.atKey_put_same hown.isMap (by trivial) _ _, Maps.has_put_same hown.isMap (by trivial) _⟩, fun h => absurd (Or.inr rfl) h⟩
  · have hne : Lit.int .i64 x ≠ Lit.int .i64 y := fun h => e (keyEq.1 h)
    rw [Maps.atKey_put_other hne, Maps.has_put_other hne]
    exact ⟨fun h => (hD x).1 (h.resolve_right e), fun h => (hD x).2 (fun s => h (Or.inl s))⟩
section
variable {P : Program} (w : World) {ops : Array Oper} {rest : List Oper} {o : Oper} {a : Act} {Q : Exit → Act → World → Prop}
theorem wp_set_put (hg : o.guard = none) (m x v : Operand) (t : TypeId) (hop : o.op = Op.mapUpdate t m x v) (K E : TypeId) (hk : P.underlying K = some (.int .i64)) (he : P.underlying E = some .bool) (ht : P.underlying t = some (.map K E)) (b n : Nat) (S : Int → Prop) (hm : a.eval m = .map (some b)) (h : SetAt P K E w b n S) (hn : n < maxLen)
    (y : Int) (hx : a.eval x = .int .i64 y) (hv : a.eval v = .bool true) (hy : (Lit.int .i64 y).wf = true)
    (hK : ∀ w', SetAt P K E w' b (n + 1) (fun x => S x ∨ x = y) → w.grownBy w' (some b) → wpList P ops Q rest (a.put o.dst undef) w') : wpList P ops Q (o :: rest) a w := by
  obtain ⟨D, hown, hD⟩ := h
  exact wpList_mapUpdate_own w hg m x v t hop K E (Maps.int_keyed hk) ht _ b n D hm hown hn _ _ _ hx hv (Maps.keyOf_int_mk hk hy) _ [] (plainElem_bool he true) fun w' h1 h2 => hK w' ⟨_, h1, SetAt.put_ hown hD y⟩ h2
theorem wp_set_ins (hg : o.guard = none) (m x v : Operand) (t : TypeId) (hop : o.op = Op.insert t m x v) (K E : TypeId) (hk : P.underlying K = some (.int .i64)) (he : P.underlying E = some .bool) (ht : P.underlying t = some (.map K E)) (b n : Nat) (S : Int → Prop) (hm : a.eval m = .map (some b)) (h : SetAt P K E w b n S) (hn : n < maxLen)
    (y : Int) (hx : a.eval x = .int .i64 y) (hv : a.eval v = .bool true) (hy : (Lit.int .i64 y).wf = true)
    (hK : ∀ w', SetAt P K E w' b (n + 1) (fun x => S x ∨ x = y) → w.grownBy w' (some b) → wpList P ops Q rest (a.put o.dst undef) w') : wpList P ops Q (o :: rest) a w := by
  obtain ⟨D, hown, hD⟩ := h
  refine wpList_plain hg fun K' hK' => ?_
  obtain ⟨w', hrun, r1, r2⟩ := hown.update (Maps.int_keyed hk) ht hn (Maps.keyOf_int_mk hk hy) (plainElem_bool he true)
  unfold Oper.wp
  simp [execOp, hop, hm, hx, hv, hrun, Result.andThen]
  exact hK' _ _ (hK w' ⟨_, r1, SetAt.put_ hown hD y⟩ r2)
theorem wp_set_look (hg : o.guard = none) (m x : Operand) (t : TypeId) (hop : o.op = Op.lookup t m x false) (K E : TypeId) (hk : P.underlying K = some (.int .i64)) (he : P.underlying E = some .bool) (ht : P.underlying t = some (.map K E)) (hz : (zeroValue E).run P w = .ok (.bool false) w) (b n : Nat) (S : Int → Prop) (hm : a.eval m = .map (some b)) (h : SetAt P K E w b n S)
    (y : Int) (hx : a.eval x = .int .i64 y) (hy : (Lit.int .i64 y).wf = true) (c : Bool) (hc : c = true ↔ S y) (hK : wpList P ops Q rest (a.put o.dst (.bool c)) w) : wpList P ops Q (o :: rest) a w := by
  obtain ⟨D, hown, hD⟩ := h
  refine wpList_plain hg fun K' hK' => ?_
  obtain ⟨v, ps, hrun, hat⟩ := hown.lookup (Maps.int_keyed hk) ht hz (plainElem_bool he false) (Maps.keyOf_int_mk hk hy)
  obtain ⟨q, rfl, hq⟩ := bool_inv he hat
  have hq' : D.atKey (.int .i64 y) (.lit (.bool false)) = .lit (.bool q) := (Prod.mk.inj hq).1
  obtain rfl : q = c := by
    by_cases s : S y
    · rw [((hD y).1 s).1] at hq'
      rw [hc.2 s]
      simpa using hq'.symm
    · have hcf : c = false := by cases c; rfl; exact absurd (hc.1 rfl) s
      rw [Maps.atKey_of_not_has ((hD y).2 s)] at hq'
      rw [hcf]
      simpa using hq'.symm
  unfold Oper.wp
  simp [execOp, hop, hm, hx, hrun, Result.andThen]
  exact hK' _ _ hK
end
def RangeAt (P : Program) (K E : TypeId) (w : World) (b r n : Nat) (S left : Int → Prop) (cnt : Nat) : Prop :=
  ∃ (D : DataW Unit) (lf : Lit → Bool), w.ranges P K (plainElem P E) b r n D lf cnt ∧ (∀ x : Int, (S x → D.atKey (.int .i64 x) (.lit (.bool false)) = .lit (.bool true) ∧ Maps.has D (.int .i64 x) = true) ∧ (¬ S x → Maps.has D (.int .i64 x) = false)) ∧ ∀ x : Int, lf (.int .i64 x) = true ↔ left x
theorem RangeAt.kept {P : Program} {K E : TypeId} {w w' : World} {b r n cnt : Nat} {S left : Int → Prop} {row : Option Nat} (h : RangeAt P K E w b r n S left cnt) (hg : w.grownBy w' row) (hb : some b ≠ row) (hr : some r ≠ row) : RangeAt P K E w' b r n S left cnt := by
  obtain ⟨D, lf, h1, h2⟩ := h
  exact ⟨D, lf, h1.kept hg hb hr, h2⟩
theorem RangeAt.left_eq {P : Program} {K E : TypeId} {w : World} {b r n cnt : Nat} {S left : Int → Prop} (h : RangeAt P K E w b r n S left cnt) : w.rangeLeft b r = cnt := by
  obtain ⟨D, lf, h1, h2⟩ := h
  exact h1.left_eq
theorem nodup_le : ∀ {l L : List Int}, l.Nodup → (∀ x ∈ l, x ∈ L) → l.length ≤ L.length
  | [], _, _, _ => Nat.zero_le _
  | x :: l, L, hn, hs => by
    obtain ⟨h1, h2⟩ := List.nodup_cons.1 hn
    have hx : x ∈ L := hs x (by simp)
    have := nodup_le (l := l) (L := L.erase x) h2 (fun y hy => (List.mem_erase_of_ne (fun e => h1 (by rw [← e]; exact hy))).2 (hs y (by simp [hy])))
    rw [List.length_erase_of_mem hx] at this
    have := List.length_pos_of_mem hx
    simp only [List.length_cons]
    omega
theorem keys_int {H : Type} {P : Program} {K : TypeId} {R : Value → Option (DataW H × List MemPlace)} {w : World} {b n : Nat} {D : DataW H} (hk : P.underlying K = some (.int .i64)) (h : w.ownsMap P K R b n D) : ∃ es, D = .map es ∧ es.Pairwise (fun p q => p.1 ≠ q.1) ∧ ∀ p ∈ es, ∃ x : Int, p.1 = .int .i64 x := by
  obtain ⟨es0, h1, h2, _⟩ := h.entries (Maps.int_keyed hk)
  obtain ⟨es, clock, _, F, _, hD⟩ := h
  refine ⟨es0, h1, h2, fun p hp => ?_⟩
  rw [hD] at h1
  have h3 := DataW.map.inj h1
  rw [← h3] at hp
  obtain ⟨x, hx, rfl⟩ := List.mem_map.1 (mem_sorted.1 hp)
  obtain ⟨y, hy⟩ := F.reads x hx
  obtain ⟨z, hz, hz2, _⟩ := Maps.keyOf_int_inv hk (WideElems.rd_key hy)
  rw [WideElems.rg_of hy]
  exact ⟨z, hz2⟩
theorem SetAt.tight {P : Program} {K E : TypeId} {w : World} {b n : Nat} {S : Int → Prop} (hk : P.underlying K = some (.int .i64)) (h : SetAt P K E w b n S) (L : List Int) (hL : ∀ x, S x → x ∈ L) : SetAt P K E w b L.length S := by
  obtain ⟨D, hown, hD⟩ := h
  obtain ⟨es0, h1, h2, h3⟩ := keys_int hk hown
  have hsz : Maps.size D ≤ L.length := by
    subst h1
    have g : ∀ p ∈ es0, ∃ x ∈ L, p.1 = .int .i64 x := fun p hp => by
      obtain ⟨x, hx⟩ := h3 p hp
      refine ⟨x, hL x ?_, hx⟩
      by_cases s : S x
      · exact s
      · have := (hD x).2 s
        have h4 : Maps.has (.map es0 : DataW Unit) (.int .i64 x) = true := List.any_eq_true.2 ⟨p, hp, by rw [hx]; exact WideAt.sameKey_self trivial⟩
        rw [this] at h4; cases h4
    let key : Lit × DataW Unit → Int := fun p => match p.1 with | .int _ x => x | _ => 0
    have hn : (es0.map key).Nodup := by
      rw [List.Nodup, List.pairwise_map]
      refine List.Pairwise.imp_of_mem (fun {p q} hp hq hne e => ?_) h2
      obtain ⟨x, _, hx⟩ := g p hp
      obtain ⟨y, _, hy⟩ := g q hq
      apply hne
      have e1 : key p = x := by simp only [key, hx]
      have e2 : key q = y := by simp only [key, hy]
      rw [hx, hy, ← e1, ← e2, e]
    have := nodup_le hn (L := L) (fun x hx => by
      obtain ⟨p, hp, rfl⟩ := List.mem_map.1 hx
      obtain ⟨y, hy, e⟩ := g p hp
      have : key p = y := by simp only [key, e]
      rwa [this])
    simpa [Maps.size] using this
  obtain ⟨es, clock, hb, F, hs, rfl⟩ := hown
  refine ⟨_, ⟨es, clock, hb, F, ?_, rfl⟩, hD⟩
  have : Maps.size (DataW.map ((es.toList.map (WideElems.rg P K (plainElem (H := Unit) P E))).foldr DataW.insert [])) = es.size := by simp [Maps.size, length_sorted]
  omega
section
variable {P : Program} (w : World) {ops : Array Oper} {rest : List Oper} {o : Oper} {a : Act} {Q : Exit → Act → World → Prop}
theorem wp_set_range (hg : o.guard = none) (m : Operand) (t : TypeId) (hop : o.op = Op.range t m) (K E : TypeId) (hk : P.underlying K = some (.int .i64)) (ht : P.underlying t = some (.map K E)) (b n : Nat) (S : Int → Prop) (hm : a.eval m = .map (some b)) (h : SetAt P K E w b n S)
    (hK : ∀ w' cnt, cnt ≤ n → RangeAt P K E w' b w.heap.size n S S cnt → w.grownBy w' none → w'.heap.size = w.heap.size + 1 → wpList P ops Q rest (a.put o.dst (.pointer (some ⟨w.heap.size, 0, none⟩))) w') : wpList P ops Q (o :: rest) a w := by
  obtain ⟨D, hown, hD⟩ := h
  refine wpList_range_own w hg m t hop K E (Maps.int_keyed hk) ht _ b n D hm hown fun w' h1 h2 h3 => hK w' _ ?_ ⟨D, _, h1, hD, fun x => ⟨fun hx => ?_, fun s => ((hD x).1 s).2⟩⟩ h2 h3
  · obtain ⟨es, clock, hb, F, hs, rfl⟩ := hown
    have : Maps.size (DataW.map ((es.toList.map (WideElems.rg P K (plainElem (H := Unit) P E))).foldr DataW.insert [])) = es.size := by simp [Maps.size, length_sorted]
    omega
  · by_cases s : S x
    · exact s
    · rw [(hD x).2 s] at hx; cases hx
theorem wp_set_next (hg : o.guard = none) (it : Operand) (hop : o.op = Op.next it false) (K E : TypeId) (hk : P.underlying K = some (.int .i64)) (he : P.underlying E = some .bool) (b r n : Nat) (S left : Int → Prop) (cnt : Nat) (hit : a.eval it = .pointer (some ⟨r, 0, none⟩)) (h : RangeAt P K E w b r n S left cnt) (hLS : ∀ x, left x → S x)
    (hDone : cnt = 0 → (∀ x, ¬ left x) → wpList P ops Q rest (a.put o.dst (.tuple #[.bool false])) w)
    (hMore : ∀ (x : Int) (w' : World) (cnt' : Nat), (Lit.int .i64 x).wf = true → left x → RangeAt P K E w' b r n S (fun y => left y ∧ y ≠ x) cnt' → cnt' < cnt →
      w.grownBy w' (some r) → w'.heap.size = w.heap.size → (Instr.entry (.pointer (some ⟨r, 0, none⟩))).run P w' = .ok (.tuple #[.int .i64 x, .bool true]) w' → wpList P ops Q rest (a.put o.dst (.tuple #[.bool true, .int .i64 x, .bool true])) w') :
    wpList P ops Q (o :: rest) a w := by
  obtain ⟨D, lf, hrg, hD, hl⟩ := h
  refine wpList_next_ranges w hg it hop K (Maps.int_keyed hk) (plainElem P E) (Value.int .i64) Value.bool (fun key kl hkey => by obtain ⟨x, rfl, _⟩ := Maps.keyOf_int_inv hk hkey; exact ⟨x, rfl⟩) (fun v y hv => by obtain ⟨c, rfl, _⟩ := bool_inv he hv; exact ⟨c, rfl⟩) b r n D lf cnt hit hrg (fun h0 hl0 => hDone h0 fun x hx => by have := hl0 (.int .i64 x); rw [(hl x).2 hx] at this; cases this) ?_
  intro x c kl y w' cnt' hkey hlk hv hat hrg' hlt hg' hs' hen
  obtain ⟨x', ex, rfl, hwx⟩ := Maps.keyOf_int_inv hk hkey
  cases ex
  have hS := hLS x ((hl x).1 hlk)
  have hcv := (hat (.lit (.bool false))).symm.trans ((hD x).1 hS).1
  obtain ⟨q, eq1, eq2⟩ := bool_inv he hv
  cases eq1
  rw [eq2] at hcv
  obtain rfl : c = true := by simpa using hcv
  refine hMore x w' cnt' hwx ((hl x).1 hlk) ⟨D, _, hrg', hD, fun z => ?_⟩ hlt hg' hs' hen
  rw [Bool.and_eq_true, hl z, sameI]
  simp
end
end Go.Proofs.Ytpeehicekddjhaa.F
end

section
namespace Go.Proofs.Ytpeehicekddjhaa.F
open Go.RowKit Go.Proofs.YtpeehicekddjhaaW.PrintWords Go.Proofs.YtpeehicekddjhaaW.PrintLast Go.Proofs.YtpeehicekddjhaaW.PrintMore
set_option linter.unusedVariables false
set_option linter.unusedSimpArgs false
attribute [local go_sem] max2_int min2_int max_two min_two
set_option maxRecDepth 20000 in set_option maxHeartbeats 4000000 in open Nat renaming reduceAdd → p1, reduceSub → p2, reduceMul → p3, reduceDiv → p4, reduceBNe → p5, reduceBEq → p6, reduceEqDiff → p7, reduceLeDiff → p8, reduceLT → p9 in open Int renaming reduceLE → p10, reduceLT → p11, reduceEq → p12 in
theorem impl_with.ctr {a0_0 : Int} {a0_1 : Int} {a0_2 : Int} {a1 : Int} {a2 : Bool} {r1 : Int} {r2 : Int} {r3 : Int} (h : impl_with.f a0_0 a0_1 a0_2 a1 a2 = some (r1, r2, r3)) : Ctr Try.prog 172 [.ag [.v (.int .i64 a0_0), .v (.int .i64 a0_1), .v (.int .i64 a0_2)], .v (.int .i64 a1), .v (.bool a2)] (.ag [.v (.int .i64 r1), .v (.int .i64 r2), .v (.int .i64 r3)]) := by
  refine Ctr_of tyOk hm Try.func172 rfl rfl (by kernel_rfl) (n := 18) (rv := [.cell 6 27]) rfl rfl ?_
  simp only [W, List.replicate]
  unfold impl_with.f at h
  replace h := ifN h; obtain ⟨c1, h⟩ := h
  replace h := ifT h; rcases h with ⟨rfl, h⟩ | ⟨rfl, h⟩
  · cases h
    try simp only [W, c1, p1, p2, p3, p4, p5, p6, p7, p8, p9, p10, p11]
  · cases h
    try simp only [W, c1, p1, p2, p3, p4, p5, p6, p7, p8, p9, p10, p11]
end Go.Proofs.Ytpeehicekddjhaa.F
end

section
namespace Go.Proofs.Ytpeehicekddjhaa.F
open Go.RowKit Go.Proofs.YtpeehicekddjhaaW.PrintWords Go.Proofs.YtpeehicekddjhaaW.PrintLast Go.Proofs.YtpeehicekddjhaaW.PrintMore
set_option linter.unusedVariables false
set_option linter.unusedSimpArgs false
attribute [local go_sem] max2_int min2_int max_two min_two
set_option maxRecDepth 20000 in set_option maxHeartbeats 4000000 in open Nat renaming reduceAdd → p1, reduceSub → p2, reduceMul → p3, reduceDiv → p4, reduceBNe → p5, reduceBEq → p6, reduceEqDiff → p7, reduceLeDiff → p8, reduceLT → p9 in open Int renaming reduceLE → p10, reduceLT → p11, reduceEq → p12 in
theorem impl_MazeAtTime.ctr {k : Nat} {a0_0 : Int} {a0_1 : Int} {a0_2 : Int} {a0_3 : Int} {l0_4 : List (SGate)} {a1 : Int} {r1 : Int} {r2 : Int} {r3 : Int} {r4 : Bool} (h : impl_MazeAtTime.f k a0_0 a0_1 a0_2 a0_3 l0_4 a1 = some (r1, r2, r3, r4)) : Ctr Try.prog 136 [.ag [.v (.int .i64 a0_0), .v (.int .i64 a0_1), .v (.int .i64 a0_2), .v (.int .i64 a0_3), .pr 2 (l0_4.map eGate)], .v (.int .i64 a1)] (.tu [.ag [.v (.int .i64 r1), .v (.int .i64 r2), .v (.int .i64 r3)], .v (.bool r4)]) := by
  refine Ctr_of tyOk hm Try.func136 rfl rfl (by kernel_rfl) (n := 43) (rv := [.cell 4 27, .tmp 5]) rfl rfl ?_
  simp only [W, List.replicate]
  unfold impl_MazeAtTime.f at h
  replace h := bnd h; obtain ⟨t1, A, h⟩ := h
  try simp only [W, p1, p2, p3, p4, p5, p6, p7, p8, p9, p10, p11, p12]
  refine callR (impl_TimedOk.ctr A) ?_
  replace h := ifT h; rcases h with ⟨rfl, h⟩ | ⟨rfl, h⟩
  · replace h := ifS h; rcases h with ⟨c3, h⟩ | ⟨c3, h⟩
    · rcases k with _ | m4; · cases h
      rw [impl_MazeAtTime.j0] at h
      rw [if_pos rfl] at h
      cases h
      try simp only [W, c3, p1, p2, p3, p4, p5, p6, p7, p8, p9, p10, p11, p12]
    · rcases k with _ | m6; · cases h
      rw [impl_MazeAtTime.j0] at h
      replace h := ifT h; rcases h with ⟨c7, h⟩ | ⟨c7, h⟩
      · cases h
        try simp only [W, c3, c7, p1, p2, p3, p4, p5, p6, p7, p8, p9, p10, p11, p12]
      · try simp only [W, c3, c7, p1, p2, p3, p4, p5, p6, p7, p8, p9, p10, p11, p12]
        refine loopN (fun x : Int × List (SGate) × Int × Int × Int × Int × Int × Int × List (SGate) × Int × Int × Int × Int × Int × Int => [.u, .v (.int .i64 x.1), .bp 32 0, .u, .bp 64 0, .u, .bp 96 0, .u, .u, .u, .u, .u, .u, .u, .u, .u, .u, .u, .u, .u, .u, .bp 32 0, .u, .bp 32 4, .pr 2 (List.map eGate x.2.1), .v (.int .i64 x.2.2.1), .v (.int .i64 x.2.2.2.1), .u, .u, .u, .u, .u, .u, .u, .u, .u, .u, .u, .u, .u, .u, .u, .u, .u, .u]) (fun x => [(32, .box 30 [.v (.int .i64 x.2.2.2.2.1), .v (.int .i64 x.2.2.2.2.2.1), .v (.int .i64 x.2.2.2.2.2.2.1), .v (.int .i64 x.2.2.2.2.2.2.2.1), .pr 2 (List.map eGate x.2.2.2.2.2.2.2.2.1)]), (64, .box 27 [.v (.int .i64 x.2.2.2.2.2.2.2.2.2.2.2.2.1), .v (.int .i64 x.2.2.2.2.2.2.2.2.2.2.2.2.2.1), .v (.int .i64 x.2.2.2.2.2.2.2.2.2.2.2.2.2.2)]), (96, .box 27 [.v (.int .i64 x.2.2.2.2.2.2.2.2.2.1), .v (.int .i64 x.2.2.2.2.2.2.2.2.2.2.1), .v (.int .i64 x.2.2.2.2.2.2.2.2.2.2.2.1)])]) (fun n x => impl_MazeAtTime.l0 n x.1 x.2.1 x.2.2.1 x.2.2.2.1 x.2.2.2.2.1 x.2.2.2.2.2.1 x.2.2.2.2.2.2.1 x.2.2.2.2.2.2.2.1 x.2.2.2.2.2.2.2.2.1 x.2.2.2.2.2.2.2.2.2.1 x.2.2.2.2.2.2.2.2.2.2.1 x.2.2.2.2.2.2.2.2.2.2.2.1 = some (r1, r2, r3, r4)) (a1, l0_4, (l0_4.length : Int), 0, a0_0, a0_1, a0_2, a0_3, l0_4, a0_0, a0_1, a0_2, 0, 0, 0) [] h (by simp only [W, p1, p2, p3, p4, p5, p6, p7, p8, p9, p10, p11, p12] <;> trivial) (by simp only [W, p1, p2, p3, p4, p5, p6, p7, p8, p9, p10, p11, p12] <;> trivial) rfl (fun _ h => by cases h) ?_
        intro n1 ⟨x8, x9, x10, x11, x12, x13, x14, x15, x16, x17, x18, x19, y20, y21, y22⟩ _ h
        simp only [impl_MazeAtTime.l0] at h
        replace h := ifS h; rcases h with ⟨c23, h⟩ | ⟨c23, h⟩
        · replace h := ifN h; obtain ⟨c24, h⟩ := h
          replace h := ifN h; obtain ⟨c25, h⟩ := h
          replace h := ifM h; obtain ⟨c26, h⟩ := h
          replace h := ifN h; obtain ⟨c27, h⟩ := h
          replace h := ifS h; rcases h with ⟨c28, h⟩ | ⟨c28, h⟩
          · replace h := bnd h; obtain ⟨⟨t29_1, t29_2, t29_3⟩, A, h⟩ := h
            dsimp only at h
            try simp only [W, c23, c24, c25, c26, c27, eq_true c28, p1, p2, p3, p4, p5, p6, p7, p8, p9, p10, p11, p12]
            refine callR (impl_with.ctr A) ?_
            try simp only [W, c23, c24, c25, c26, c27, eq_true c28, p1, p2, p3, p4, p5, p6, p7, p8, p9, p10, p11, p12]
            exact nextN (x8, x9, x10, (wrap64 (x11 + 1)), x12, x13, x14, x15, x16, t29_1, t29_2, t29_3, y20, y21, y22) [] n1 (by omega) h (by simp only [W, p1, p2, p3, p4, p5, p6, p7, p8, p9, p10, p11, p12] <;> trivial) (by simp only [W, p1, p2, p3, p4, p5, p6, p7, p8, p9, p10, p11, p12] <;> trivial) rfl
          · try simp only [W, c23, c24, c25, c26, c27, c28, p1, p2, p3, p4, p5, p6, p7, p8, p9, p10, p11, p12]
            exact nextN (x8, x9, x10, (wrap64 (x11 + 1)), x12, x13, x14, x15, x16, x17, x18, x19, y20, y21, y22) [] n1 (by omega) h (by simp only [W, p1, p2, p3, p4, p5, p6, p7, p8, p9, p10, p11, p12] <;> trivial) (by simp only [W, p1, p2, p3, p4, p5, p6, p7, p8, p9, p10, p11, p12] <;> trivial) rfl
        · cases h
          try simp only [W, c23, p1, p2, p3, p4, p5, p6, p7, p8, p9, p10, p11, p12]
  · rcases k with _ | m30; · cases h
    rw [impl_MazeAtTime.j0] at h
    rw [if_pos rfl] at h
    cases h
    try simp only [W, p1, p2, p3, p4, p5, p6, p7, p8, p9, p10, p11, p12]
theorem impl_MazeAtTime.calls (k : Nat) (a0_0 : Int) (a0_1 : Int) (a0_2 : Int) (a0_3 : Int) (A0_4 : Option Addr) (c0_4 : Nat) (l0_4 : List (SGate)) (a1 : Int) (r1 : Int) (r2 : Int) (r3 : Int) (r4 : Bool) (w : World) (hr0_4 : Kd.C k150 w A0_4 l0_4.length l0_4) (hc0_4 : l0_4.length ≤ c0_4) (h : impl_MazeAtTime.f k a0_0 a0_1 a0_2 a0_3 l0_4 a1 = some (r1, r2, r3, r4)) :
    Calls Try.prog 136 #[.agg #[.int .i64 a0_0, .int .i64 a0_1, .int .i64 a0_2, .int .i64 a0_3, .slice A0_4 l0_4.length c0_4], .int .i64 a1] w fun e w' => e = .returned (.tuple #[.agg #[.int .i64 r1, .int .i64 r2, .int .i64 r3], .bool r4]) ∧ Below w.heap.size w w' := by
  refine ((impl_MazeAtTime.ctr h).2 w [.agg #[.int .i64 a0_0, .int .i64 a0_1, .int .i64 a0_2, .int .i64 a0_3, .slice A0_4 l0_4.length c0_4], .int .i64 a1] (by simp only [RepL, Rep]; exact ⟨_, _, rfl, ⟨_, rfl, _, _, rfl, rfl, _, _, rfl, rfl, _, _, rfl, rfl, _, _, rfl, rfl, _, _, rfl, at_of_C E_eGate hr0_4 hc0_4, rfl⟩, _, _, rfl, rfl, rfl⟩)).mono ?_
  rintro _ _ ⟨y, L, rfl, hR, _, hb⟩
  exact ⟨congrArg Ending.returned (RepR_pln rfl hR).1, hb⟩
end Go.Proofs.Ytpeehicekddjhaa.F
end

section
namespace Go.Proofs.Ytpeehicekddjhaa.F
open Go.RowKit Go.Proofs.YtpeehicekddjhaaW.PrintWords Go.Proofs.YtpeehicekddjhaaW.PrintLast Go.Proofs.YtpeehicekddjhaaW.PrintMore
set_option linter.unusedVariables false
set_option linter.unusedSimpArgs false
attribute [local go_sem] max2_int min2_int max_two min_two
def adj (w h o c y : Int) : Prop := ∃ ds, impl_WaysFrom.f 1000 w h o c = some ds ∧ ∃ d ∈ ds, impl_Step.f 1000 w h o c d = some y
theorem l1_facts {w h o : Int} {S S2 : List Int} (H : impl_EarliestAt.l1 w h o S = some S2) : (∀ c ∈ S, ∃ ds, impl_WaysFrom.f 1000 w h o c = some ds ∧ ds.length ≤ 4 ∧ ∀ d ∈ ds, ∃ y, impl_Step.f 1000 w h o c d = some y ∧ 0 ≤ y ∧ y < 16) ∧
    ∀ y, y ∈ S2 ↔ y ∈ cells16 ∧ (y ∈ S ∨ ∃ c ∈ S, adj w h o c y) := by
  unfold impl_EarliestAt.l1 at H
  split at H
  · rename_i hall
    obtain rfl := Option.some.inj H
    have h1 : ∀ c ∈ S, ∃ ds, impl_WaysFrom.f 1000 w h o c = some ds ∧ ds.length ≤ 4 ∧ ∀ d ∈ ds, ∃ y, impl_Step.f 1000 w h o c d = some y ∧ 0 ≤ y ∧ y < 16 := fun c hc => by
      have := List.all_eq_true.1 hall c hc
      cases e : impl_WaysFrom.f 1000 w h o c with
      | none => rw [e] at this; simp at this
      | some ds =>
        rw [e] at this
        simp only [Bool.and_eq_true, decide_eq_true_eq, List.all_eq_true] at this
        refine ⟨ds, rfl, this.1, fun d hd => ?_⟩
        have h2 := this.2 d hd
        cases e2 : impl_Step.f 1000 w h o c d with
        | none => rw [e2] at h2; simp at h2
        | some y => rw [e2] at h2; exact ⟨y, rfl, by simpa using h2⟩
    refine ⟨h1, fun y => ?_⟩
    rw [List.mem_filter, Bool.or_eq_true, List.any_eq_true, List.contains_iff_mem]
    refine and_congr Iff.rfl (or_congr Iff.rfl ⟨fun ⟨c, hc, hq⟩ => ⟨c, hc, ?_⟩, fun ⟨c, hc, ds, e, d, hd, hs⟩ => ⟨c, hc, ?_⟩⟩)
    · cases e : impl_WaysFrom.f 1000 w h o c with
      | none => rw [e] at hq; simp at hq
      | some ds =>
        rw [e] at hq
        obtain ⟨d, hd, hs⟩ := List.any_eq_true.1 hq
        exact ⟨ds, e, d, hd, by simpa using hs⟩
    · rw [e]
      exact List.any_eq_true.2 ⟨d, hd, by simp [hs]⟩
  · cases H
theorem boolZero (w : World) : (zeroValue 4).run Try.prog w = .ok (.bool false) w := by kernel_rfl
theorem wf16 {y : Int} (h : 0 ≤ y ∧ y < 16) : (Lit.int .i64 y).wf = true := WalkArith.wf_i64 (by omega)
theorem mem16 {y : Int} : y ∈ cells16 ↔ 0 ≤ y ∧ y < 16 := by
  unfold cells16
  simp only [List.mem_cons, List.not_mem_nil, or_false]
  omega
set_option maxHeartbeats 4000000 in
set_option maxRecDepth 100000 in
theorem impl_EarliestAt.calls (a0_0 : Int) (a0_1 : Int) (a0_2 : Int) (a0_3 : Int) (A0_4 : Option Addr) (c0_4 : Nat) (l0_4 : List SGate) (a1 : Int) (a2 : Int) (a3 : Int) (r : Int) (w : World) (hr0_4 : Kd.C k150 w A0_4 l0_4.length l0_4) (hc0_4 : l0_4.length ≤ c0_4) (h : impl_EarliestAt.f a0_0 a0_1 a0_2 a0_3 l0_4 a1 a2 a3 = some r) :
  Calls Try.prog 65 #[.agg #[.int .i64 a0_0, .int .i64 a0_1, .int .i64 a0_2, .int .i64 a0_3, .slice A0_4 l0_4.length c0_4], .int .i64 a1, .int .i64 a2, .int .i64 a3] w fun e w' => e = .returned (.int .i64 r) ∧ Below w.heap.size w w' := by
 have hu := Try.underlying27
 have hut := Try.underlying30
 have hmm := @run_makeMap Try.prog
 have HR1 := aK hr0_4
 have HC1 := aK hc0_4
 clear hr0_4 hc0_4
 obtain ⟨b, hm, H⟩ := Option.bind_eq_some_iff.mp h
 clear h
 obtain ⟨w0, hw0⟩ : ∃ w0 : World, w0 = w.alloc (.cells #[.int .i64 a0_0, .int .i64 a0_1, .int .i64 a0_2, .int .i64 a0_3, .slice A0_4 l0_4.length c0_4] 30) := ⟨_, rfl⟩
 have HB0 := aK (show Below w.heap.size w w0 by rw [hw0]; exact (Below.refl _ w).alloc (Nat.le_refl _) _)
 have K0 := aK (show w0.heap[w.heap.size]? = some (.cells #[.int .i64 a0_0, .int .i64 a0_1, .int .i64 a0_2, .int .i64 a0_3, .slice A0_4 l0_4.length c0_4] 30 (0, 0)) by rw [hw0]; exact heap_alloc_new w _)
 have SZ := aK (show w0.heap.size = w.heap.size + 1 by rw [hw0]; simp)
 have HW := aK hw0
 clear hw0
 have HT := fun (W : World) (hb : Below w.heap.size w W) => impl_TimedOk.calls 1000 a0_0 a0_1 a0_2 a0_3 A0_4 c0_4 l0_4 b W (Kd.C_below HR1.out hb) HC1.out hm
 have HCL := aK (show ∀ W : World, W.heap[w.heap.size]? = some (.cells #[.int .i64 a0_0, .int .i64 a0_1, .int .i64 a0_2, .int .i64 a0_3, .slice A0_4 l0_4.length c0_4] 30 (0, 0)) → W.cell? ⟨w.heap.size, 0, none⟩ = some (.int .i64 a0_0) ∧ W.cell? ⟨w.heap.size, 1, none⟩ = some (.int .i64 a0_1) ∧ W.cell? ⟨w.heap.size, 2, none⟩ = some (.int .i64 a0_2) ∧ W.cell? ⟨w.heap.size, 3, none⟩ = some (.int .i64 a0_3) ∧ W.cell? ⟨w.heap.size, 4, none⟩ = some (.slice A0_4 l0_4.length c0_4) from fun W hb =>
  ⟨(kC hb 0).trans rfl, (kC hb 1).trans rfl, (kC hb 2).trans rfl, (kC hb 3).trans rfl, (kC hb 4).trans rfl⟩)
 cases b with
 | false =>
  rw [if_neg Bool.false_ne_true] at H
  obtain rfl := Option.some.inj H
  go_enter Try.func65, Try.ntmps65
  go_wp2_with (go_at_call 64; rw [← HW.out]; refine (HT _ HB0.out).mono ?_; rintro e w1 ⟨rfl, hb⟩; have HB1 := aK hb; clear hb)
  go_ret
  exact ⟨rfl, HB0.out.trans (HB1.out.mono HB0.out.size)⟩
 | true =>
  rw [if_pos rfl] at H
  obtain ⟨c, hs, H2⟩ := Option.bind_eq_some_iff.mp H
  clear H
  have HI := fun (W : World) (A : Addr) (hA : W.cell? (A.add 0) = some (.int .i64 a1)) (hA1 : W.cell? (A.add 1) = some (.int .i64 a3)) => impl_isIn.calls a0_0 a0_1 a0_2 (some A) 2 [a1, a3] c W (Kd.C_of_reads (d := (0 : Int)) (h1 := fun _ => rfl) ⟨rfl, by simp, fun _ => ⟨A, rfl, fun j hj => by
   have hj' : j < 2 := hj
   obtain rfl | rfl : j = 0 ∨ j = 1 := by omega
   ·exact hA
   ·exact hA1⟩⟩) (Nat.le_refl 2) hs
  simp only [List.length_cons, List.length_nil] at HI
  have HIN := aK HI
  clear HI
  cases c with
  | false =>
   rw [if_neg Bool.false_ne_true] at H2
   obtain rfl := Option.some.inj H2
   go_enter Try.func65, Try.ntmps65
   go_wp2_with (first | (go_at_call 64; rw [← HW.out]; refine (HT _ HB0.out).mono ?_; rintro e w1 ⟨rfl, hb⟩; have HB1 := aK (HB0.out.trans (hb.mono HB0.out.size)); obtain ⟨k0, k1, k2, k3, k4⟩ := HCL.out w1 ((hb.block _ (by have := SZ.out; omega)).trans K0.out); clear hb) | (go_at_call 75; refine (HIN.out _ _ ?h0 ?h1).mono ?_; (case h0 => exact (kC (heap_alloc_new _ _) 0).trans rfl); (case h1 => exact (kC (heap_alloc_new _ _) 1).trans rfl); rintro e w2 ⟨rfl, hb⟩; have HB2 := aK hb; clear hb))
   go_ret
   exact ⟨rfl, (HB1.out.alloc HB1.out.size _).trans (HB2.out.mono (by have := HB1.out.size; simp; omega))⟩
  | true =>
   rw [if_pos rfl] at H2
   by_cases q1 : a2 < 0
   ·rw [if_pos q1] at H2
    obtain rfl := Option.some.inj H2
    have q1b : decide (a2 < 0) = true := decide_eq_true q1
    clear q1
    go_enter Try.func65, Try.ntmps65
    go_wp2_with (first | (go_at_call 64; rw [← HW.out]; refine (HT _ HB0.out).mono ?_; rintro e w1 ⟨rfl, hb⟩; have HB1 := aK (HB0.out.trans (hb.mono HB0.out.size)); obtain ⟨k0, k1, k2, k3, k4⟩ := HCL.out w1 ((hb.block _ (by have := SZ.out; omega)).trans K0.out); clear hb) | (go_at_call 75; refine (HIN.out _ _ ?h0 ?h1).mono ?_; (case h0 => exact (kC (heap_alloc_new _ _) 0).trans rfl); (case h1 => exact (kC (heap_alloc_new _ _) 1).trans rfl); rintro e w2 ⟨rfl, hb⟩; have HB2 := aK hb; clear hb))
    go_ret
    exact ⟨rfl, (HB1.out.alloc HB1.out.size _).trans (HB2.out.mono (by have := HB1.out.size; simp; omega))⟩
   ·rw [if_neg q1] at H2
    have q1b : decide (a2 < 0) = false := decide_eq_false q1
    by_cases q2 : a2 > 500
    ·rw [if_pos q2] at H2
     obtain rfl := Option.some.inj H2
     have q2b : decide (a2 > 500) = true := decide_eq_true q2
     clear q1 q2
     go_enter Try.func65, Try.ntmps65
     go_wp2_with (first | (go_at_call 64; rw [← HW.out]; refine (HT _ HB0.out).mono ?_; rintro e w1 ⟨rfl, hb⟩; have HB1 := aK (HB0.out.trans (hb.mono HB0.out.size)); obtain ⟨k0, k1, k2, k3, k4⟩ := HCL.out w1 ((hb.block _ (by have := SZ.out; omega)).trans K0.out); clear hb) | (go_at_call 75; refine (HIN.out _ _ ?h0 ?h1).mono ?_; (case h0 => exact (kC (heap_alloc_new _ _) 0).trans rfl); (case h1 => exact (kC (heap_alloc_new _ _) 1).trans rfl); rintro e w2 ⟨rfl, hb⟩; have HB2 := aK hb; clear hb))
     go_ret
     exact ⟨rfl, (HB1.out.alloc HB1.out.size _).trans (HB2.out.mono (by have := HB1.out.size; simp; omega))⟩
    ·rw [if_neg q2] at H2
     have q2b : decide (a2 > 500) = false := decide_eq_false q2
     by_cases q3 : (0 ≤ a1 ∧ a1 < 16) ∧ 0 ≤ a3 ∧ a3 < 16
     ·rw [if_pos q3] at H2
      have H' := aK H2
      have Q3 := aK q3
      have Q12 := aK (And.intro q1 q2)
      clear H2 q1 q2 q3
      go_enter Try.func65, Try.ntmps65
      go_wp2_with (first | (go_at_call 64; rw [← HW.out]; refine (HT _ HB0.out).mono ?_; rintro e w1 ⟨rfl, hb⟩; have HB1 := aK (HB0.out.trans (hb.mono HB0.out.size)); have K1 := aK ((hb.block _ (by have := SZ.out; omega)).trans K0.out); obtain ⟨k0, k1, k2, k3, k4⟩ := HCL.out w1 K1.out; have SZ1 := aK hb.size; clear hb) | (go_at_call 75; refine (HIN.out _ _ ?h0 ?h1).mono ?_; (case h0 => exact (kC (heap_alloc_new _ _) 0).trans rfl); (case h1 => exact (kC (heap_alloc_new _ _) 1).trans rfl); rintro e w2 ⟨rfl, hb⟩; have HB2 := aK ((HB1.out.alloc HB1.out.size _).trans (hb.mono (by have := HB1.out.size; simp; omega))); have K2 := aK ((hb.block _ (by have h1 := SZ.out; have h2 := SZ1.out; simp; omega)).trans (kA K1.out _)); have SZ2 := aK (show w.heap.size + 1 ≤ w2.heap.size by have h1 := hb.size; have h2 := SZ.out; have h3 := SZ1.out; simp at h1; omega); clear hb) | (refine wp_set_ins _ rfl _ _ _ 151 rfl 3 4 Try.underlying3 Try.underlying4 Try.underlying151 w2.heap.size 0 (fun _ => False) rfl (set_made _ _ _ w2) (by decide) a1 rfl rfl (wf16 Q3.out.1) ?_; intro w3 hs3 hg3; have HS3 := aK hs3; have HG3 := aK hg3; clear hs3 hg3))
      have HS := aK ((HS3.out.same (S' := fun x => x ∈ [a1]) (fun x => by simp)).mono (show 0 + 1 ≤ 16 by decide))
      have HM := aK (show ∀ x ∈ [a1], x ∈ cells16 from fun x hx => by rw [List.mem_singleton] at hx; subst hx; exact mem16.2 Q3.out.1)
      have KT := aK ((HG3.out.block _ (by have := SZ2.out; simp; omega) (fun e => by have h1 := Option.some.inj e; have h2 := SZ2.out; omega)).trans (kA K2.out _))
      have HB := aK ((HB2.out.alloc HB2.out.size (.map #[] 0)).grown HG3.out (by have := SZ2.out; simp; omega) (fun j hj => by cases hj; have := SZ2.out; omega))
      have LO := aK (show w.heap.size + 1 ≤ w2.heap.size from SZ2.out)
      clear HS3 HG3 HB2 K2 SZ2 HB1 K1 k0 k1 k2 k3 k4 SZ1 HB0 K0 SZ HW HT HIN hm hs q1b q2b
      go_loopg [9, 10] 300 (fun kq v9 v10 wr => ∃ (S : List Int) (now : Int) (bb : Nat), v9 = .map (some bb) ∧ v10 = .int .i64 now ∧ Aside0 (impl_EarliestAt.l0 a0_0 a0_1 a0_2 a0_3 l0_4 a2 a3 kq S now = some r) ∧ Aside0 (kq ≤ 300) ∧ Aside0 (SetAt Try.prog 3 4 wr bb 16 (fun x => x ∈ S)) ∧ Aside0 (∀ x ∈ S, x ∈ cells16) ∧ Aside0 (wr.heap[w.heap.size]? = some (.cells #[.int .i64 a0_0, .int .i64 a0_1, .int .i64 a0_2, .int .i64 a0_3, .slice A0_4 l0_4.length c0_4] 30 (0, 0))) ∧ Aside0 (w.heap.size + 1 ≤ bb) ∧ Aside0 (Below w.heap.size w wr))
      case atStart => exact ⟨[a1], a2, w2.heap.size, rfl, rfl, H', ⟨Nat.le_refl _⟩, HS, HM, KT, LO, HB⟩
      case round =>
       clear H' HS HM KT LO HB
       obtain ⟨S, now, bb, rfl, rfl, HA, HK, HS, HM, KT, LO, HB⟩ := hrel
       cases gk with
       | zero => exact absurd HA.out (by simp [impl_EarliestAt.l0])
       | succ k1 =>
        have H := HA.out
        clear HA
        simp only [impl_EarliestAt.l0] at H
        by_cases c1 : now ≤ wrap64 (a2 + 200)
        ·rw [if_pos c1] at H
         have c1b : decide (now ≤ wrap64 (a2 + 200)) = true := decide_eq_true c1
         clear c1
         by_cases c2 : S.contains a3 = true
         ·rw [if_pos c2] at H
          obtain rfl := Option.some.inj H
          have C2 := aK c2
          clear c2
          go_wp2_with (refine wp_set_look _ rfl _ _ 151 rfl 3 4 Try.underlying3 Try.underlying4 Try.underlying151 (boolZero _) bb 16 _ rfl HS.out a3 rfl (wf16 Q3.out.2) true (by have := C2.out; simpa using this) ?_)
          go_ret
          exact ⟨rfl, HB.out⟩
         ·rw [if_neg c2] at H
          have C2 := aK c2
          clear c2
          obtain ⟨⟨r1, r2, r3, r4⟩, hmz, H3⟩ := Option.bind_eq_some_iff.mp H
          obtain ⟨S2, hl1, H4⟩ := Option.bind_eq_some_iff.mp H3
          simp only at hl1
          have H' := aK H4
          have HL1 := aK hl1
          clear H H3 H4 hl1
          have HMZ := fun (W : World) (hb : Below w.heap.size w W) => impl_MazeAtTime.calls 1000 a0_0 a0_1 a0_2 a0_3 A0_4 c0_4 l0_4 now r1 r2 r3 r4 W (Kd.C_below HR1.out hb) HC1.out hmz
          clear hmz
          obtain ⟨k0, k1_, k2, k3, k4⟩ := HCL.out _ KT.out
          have hsz := fun (W : World) (o : Obj) => (show (W.alloc o).heap.size = W.heap.size + 1 by simp)
          have HSZ := aK hsz
          clear hsz
          go_wp2_with (first | (refine wp_set_look _ rfl _ _ 151 rfl 3 4 Try.underlying3 Try.underlying4 Try.underlying151 (boolZero _) bb 16 _ rfl HS.out a3 rfl (wf16 Q3.out.2) false (by have := C2.out; simpa using this) ?_) | (go_at_call 136; refine (HMZ _ HB.out).mono ?_; rintro e w4 ⟨rfl, hb⟩; have HS4 := aK (HS.out.kept (below_grown hb) (by simp)); have KT4 := aK ((hb.block _ (blk_lt KT.out)).trans KT.out); have HB4 := aK (HB.out.trans (hb.mono HB.out.size)); have LT4 := aK (show bb < w4.heap.size from HS4.out.lt); clear hb) | (at_range; refine wp_set_range _ rfl _ 151 rfl 3 4 Try.underlying3 Try.underlying151 bb 16 _ rfl ((HS4.out.kept (World.grownBy_alloc _ _ none) (by simp)).kept (World.grownBy_alloc _ _ none) (by simp)) ?_; intro w5 cnt hcnt hrg hg5 hs5))
          go_frame
          have hsz := HSZ.out
          simp only [hsz] at hrg hs5 ⊢
          clear hsz
          have RG0 := aK hrg
          have CN0 := aK hcnt
          have NX0 := aK ((((set_made Try.prog 3 4 (w4.alloc (Obj.cells #[.int .i64 r1, .int .i64 r2, .int .i64 r3] 27))).kept hg5 (by simp)).same (S' := fun y => ∃ c ∈ S, ¬ (c ∈ S) ∧ (y = c ∨ adj r1 r2 r3 c y)) (fun y => ⟨fun h => h.elim, fun ⟨c, h1, h2, _⟩ => h2 h1⟩)))
          have KM0 := aK ((hg5.block w4.heap.size (by simp; omega) (by simp)).trans (kA (heap_alloc_new w4 _) _))
          have KT0 := aK ((hg5.block w.heap.size (by have := blk_lt KT4.out; simp; omega) (by simp)).trans (kA (kA KT4.out _) _))
          have HB5 := aK (((HB4.out.alloc HB4.out.size _).alloc (by have := HB4.out.size; simp; omega) _).grown hg5 (by have := HB4.out.size; simp; omega) (fun j hj => by cases hj))
          have SZ5 := aK (show w4.heap.size + 3 ≤ w5.heap.size by omega)
          have e4 : (w4.alloc (Obj.cells #[.int .i64 r1, .int .i64 r2, .int .i64 r3] 27)).heap.size = w4.heap.size + 1 := by simp
          rw [e4] at NX0
          have LTW := aK (show w.heap.size < w4.heap.size from blk_lt KT4.out)
          clear hrg hcnt hg5 hs5 e4 k0 k1_ k2 k3 k4 HS4 HB4 KT4 HS KT HB
          go_loopw [14] (fun _ wr => ∃ (left : Int → Prop) (cn n2 : Nat), Aside0 (RangeAt Try.prog 3 4 wr bb (w4.heap.size + 1 + 1) 16 (fun x => x ∈ S) left cn) ∧ Aside0 (cn ≤ 16) ∧ Aside0 (∀ x, left x → x ∈ S) ∧ Aside0 (SetAt Try.prog 3 4 wr (w4.heap.size + 1) n2 (fun y => ∃ c ∈ S, ¬ left c ∧ (y = c ∨ adj r1 r2 r3 c y))) ∧ Aside0 (n2 + 5 * cn ≤ 80) ∧ Aside0 (wr.heap[w4.heap.size]? = some (.cells #[.int .i64 r1, .int .i64 r2, .int .i64 r3] 27 (0, 0))) ∧ Aside0 (wr.heap[w.heap.size]? = some (.cells #[.int .i64 a0_0, .int .i64 a0_1, .int .i64 a0_2, .int .i64 a0_3, .slice A0_4 l0_4.length c0_4] 30 (0, 0))) ∧ Aside0 (Below w.heap.size w wr) ∧ Aside0 (w4.heap.size + 3 ≤ wr.heap.size)) (fun _ wr => wr.rangeLeft bb (w4.heap.size + 1 + 1))
          case atStart => exact ⟨fun x => x ∈ S, cnt, 0, RG0, CN0, ⟨fun x h => h⟩, NX0, ⟨by have := CN0.out; omega⟩, KM0, KT0, HB5, SZ5⟩
          case round =>
           clear RG0 CN0 NX0 KM0 KT0 HB5 SZ5
           obtain ⟨left, cn, n2, RG, CN, LS, NX, N2, KM, KT, HB, SZ⟩ := hrel
           go_wp2_with (at_next; refine wp_set_next _ rfl _ rfl 3 4 Try.underlying3 Try.underlying4 bb (w4.heap.size + 1 + 1) 16 _ _ _ rfl RG.out LS.out ?_ ?_)
           ·intro hc0 hl0
            have HL0 := aK hl0
            clear hl0 hc0
            go_wp2
            go_roundg k1
            case measure => have := HK.out; omega
            case rel =>
             have hf := (l1_facts HL1.out).2
             refine ⟨S2, wrap64 (now + 1), w4.heap.size + 1, rfl, by first | rfl | simp, H', ⟨by have := HK.out; omega⟩, ⟨?_⟩, ⟨fun x hx => ((hf x).1 hx).1⟩, KT, ⟨by have h1 := LO.out; have h2 := LT4.out; omega⟩, HB⟩
             have hst : SetAt Try.prog 3 4 wr (w4.heap.size + 1) n2 (fun x => x ∈ S2) := NX.out.same (fun y => ?_)
             ·exact SetAt.tight Try.underlying3 hst cells16 (fun x hx => ((hf x).1 hx).1)
             ·rw [hf y]
              constructor
              ·rintro ⟨c, hc, _, rfl | ha⟩
               ·exact ⟨HM.out _ hc, Or.inl hc⟩
               ·obtain ⟨ds, e1, d, hd, e2⟩ := ha
                obtain ⟨ds', e1', _, h3⟩ := (l1_facts HL1.out).1 c hc
                obtain rfl := Option.some.inj (e1.symm.trans e1')
                obtain ⟨y', e2', h4⟩ := h3 d hd
                obtain rfl := Option.some.inj (e2.symm.trans e2')
                exact ⟨mem16.2 h4, Or.inr ⟨c, hc, _, e1, d, hd, e2⟩⟩
              ·rintro ⟨_, hy | ⟨c, hc, ha⟩⟩
               ·exact ⟨y, hy, HL0.out y, Or.inl rfl⟩
               ·exact ⟨c, hc, HL0.out c, Or.inr ha⟩
           ·intro x w6 cnt6 hwx hlx hrg6 hlt6 hg6 hs6 hen
            have hx := LS.out x hlx
            obtain ⟨ds, hds, hdl, hdst⟩ := (l1_facts HL1.out).1 x hx
            have RG6 := aK hrg6
            have LT6 := aK hlt6
            have NX6 := aK (NX.out.kept hg6 (fun e => by have := Option.some.inj e; omega))
            have KM6 := aK ((hg6.block _ (blk_lt KM.out) (fun e => by have := Option.some.inj e; omega)).trans KM.out)
            have KT6 := aK ((hg6.block _ (blk_lt KT.out) (fun e => by have h1 := Option.some.inj e; have h2 := LTW.out; omega)).trans KT.out)
            have HB6 := aK (HB.out.grown hg6 HB.out.size (fun j hj => by cases hj; have := LTW.out; omega))
            have SZ6 := aK (show w4.heap.size + 3 ≤ w6.heap.size by rw [hs6]; exact SZ.out)
            have HX := aK hx
            have HLX := aK hlx
            have HWX := aK hwx
            have HDL := aK hdl
            have HDST := aK hdst
            clear hrg6 hlt6 hg6 hs6 hx hlx hwx hdl hdst
            have STEPS : ∀ y, (∃ c ∈ S, ¬ (left c ∧ c ≠ x) ∧ (y = c ∨ adj r1 r2 r3 c y)) ↔ ((∃ c ∈ S, ¬ left c ∧ (y = c ∨ adj r1 r2 r3 c y)) ∨ y = x) ∨ ∃ i, i < ds.length ∧ impl_Step.f 1000 r1 r2 r3 x (ds.getD i 0) = some y := by
             intro y
             constructor
             ·rintro ⟨c, hc, hn, hy⟩
              by_cases e : c = x
              ·subst e
               rcases hy with rfl | ⟨ds', e1, d, hd, e2⟩
               ·exact Or.inl (Or.inr rfl)
               ·obtain rfl := Option.some.inj (e1.symm.trans hds)
                obtain ⟨q, hq, rfl⟩ := List.getElem_of_mem hd
                exact Or.inr ⟨q, hq, by rw [List.getD_eq_getElem?_getD, List.getElem?_eq_getElem hq]; exact e2⟩
              ·exact Or.inl (Or.inl ⟨c, hc, fun h => hn ⟨h, e⟩, hy⟩)
             ·rintro ((⟨c, hc, hn, hy⟩ | rfl) | ⟨q, hq, e2⟩)
              ·exact ⟨c, hc, fun h => hn h.1, hy⟩
              ·exact ⟨y, HX.out, fun h => h.2 rfl, Or.inl rfl⟩
              ·refine ⟨x, HX.out, fun h => h.2 rfl, Or.inr ⟨ds, hds, ds.getD q 0, ?_, e2⟩⟩
               rw [List.getD_eq_getElem?_getD, List.getElem?_eq_getElem hq]
               exact List.getElem_mem hq
            have HST := aK STEPS
            clear STEPS
            by_cases hd0 : 0 < ds.length
            ·have HD0 := aK hd0
             clear hd0
             go_wp2_with (first | (refine wp_set_put _ rfl _ _ _ 151 rfl 3 4 Try.underlying3 Try.underlying4 Try.underlying151 (w4.heap.size + 1) n2 _ rfl NX6.out (by have := N2.out; unfold maxLen; omega) x rfl rfl HWX.out ?_; intro w7 hs7 hg7; have NX7 := aK hs7; have RG7 := aK (RG6.out.kept hg7 (fun e => by have h1 := Option.some.inj e; have h2 := LT4.out; omega) (fun e => by have := Option.some.inj e; omega)); have KM7 := aK ((hg7.block _ (blk_lt KM6.out) (fun e => by have := Option.some.inj e; omega)).trans KM6.out); have KT7 := aK ((hg7.block _ (blk_lt KT6.out) (fun e => by have h1 := Option.some.inj e; have h2 := LTW.out; omega)).trans KT6.out); have HB7 := aK (HB6.out.grown hg7 HB6.out.size (fun j hj => by cases hj; have := LTW.out; omega)); have SZ7 := aK (Nat.le_trans SZ6.out hg7.size); have m0 : w7.cell? ⟨w4.heap.size, 0, none⟩ = some (.int .i64 r1) := (kC KM7.out 0).trans rfl; have m1 : w7.cell? ⟨w4.heap.size, 1, none⟩ = some (.int .i64 r2) := (kC KM7.out 1).trans rfl; have m2 : w7.cell? ⟨w4.heap.size, 2, none⟩ = some (.int .i64 r3) := (kC KM7.out 2).trans rfl; clear hs7 hg7) | (go_at_call 137; refine (impl_WaysFrom.calls 1000 r1 r2 r3 x ds _ hds).mono ?_; rintro e w8 ⟨v, rfl, hR, hb8⟩; have NX8 := aK (NX7.out.kept (below_grown hb8) (by simp)); have RG8 := aK (RG7.out.kept (below_grown hb8) (by simp) (by simp)); have KM8 := aK ((hb8.block _ (blk_lt KM7.out)).trans KM7.out); have KT8 := aK ((hb8.block _ (blk_lt KT7.out)).trans KT7.out); have HB8 := aK (HB7.out.trans (hb8.mono HB7.out.size)); have SZ8 := aK (Nat.le_trans SZ7.out hb8.size); have SW8 := aK SZ7.out; have HR8 := aK hR; clear hR hb8; obtain ⟨g, cap, cur, rfl, hcap, hg0, hgh, hcl, hcm, hcx⟩ := row_open HR8.out HD0.out; have HG0 := aK (Nat.le_trans SW8.out hg0); have HGH := aK hgh; have HCX := aK hcx; clear hcap hg0 hgh hcl hcm hcx))
             have NX9 := aK (NX8.out.same (S' := fun y => (((∃ c ∈ S, ¬ left c ∧ (y = c ∨ adj r1 r2 r3 c y)) ∨ y = x) ∨ ∃ i, i < 0 ∧ impl_Step.f 1000 r1 r2 r3 x (ds.getD i 0) = some y)) (fun y => ⟨fun h => Or.inl h, fun h => h.elim id (fun ⟨i, hi, _⟩ => absurd hi (Nat.not_lt_zero _))⟩))
             clear m0 m1 m2 hen
             go_loopg [70] ds.length (fun gg v70 wq => ∃ (q n3 : Nat), v70 = .int .i64 q ∧ q ≤ ds.length ∧ ds.length - q ≤ gg ∧ Aside0 (SetAt Try.prog 3 4 wq (w4.heap.size + 1) n3 (fun y => (((∃ c ∈ S, ¬ left c ∧ (y = c ∨ adj r1 r2 r3 c y)) ∨ y = x) ∨ ∃ i, i < q ∧ impl_Step.f 1000 r1 r2 r3 x (ds.getD i 0) = some y))) ∧ Aside0 (n3 = n2 + 1 + q) ∧ Aside0 (RangeAt Try.prog 3 4 wq bb (w4.heap.size + 1 + 1) 16 (fun x => x ∈ S) (fun y => left y ∧ y ≠ x) cnt6) ∧ Aside0 (wq.heap[w4.heap.size]? = some (.cells #[.int .i64 r1, .int .i64 r2, .int .i64 r3] 27 (0, 0))) ∧ Aside0 (wq.heap[w.heap.size]? = some (.cells #[.int .i64 a0_0, .int .i64 a0_1, .int .i64 a0_2, .int .i64 a0_3, .slice A0_4 l0_4.length c0_4] 30 (0, 0))) ∧ Aside0 (Below w.heap.size w wq) ∧ Aside0 (w4.heap.size + 3 ≤ wq.heap.size) ∧ Aside0 (wq.heap[g]? = some (.cells cur.toArray 3 (0, 0))))
             case atStart => exact ⟨0, n2 + 1, rfl, Nat.zero_le _, by omega, NX9, ⟨rfl⟩, RG8, KM8, KT8, HB8, SZ8, HGH⟩
             case round =>
              clear NX9 NX8 RG8 KM8 KT8 HB8 SZ8 HGH NX7 RG7 KM7 KT7 HB7 SZ7
              obtain ⟨q, n3, rfl, hq, hgg, NX, N3, RG2, KM2, KT2, HB2, SZ2, HG2⟩ := hrel
              by_cases hlt : q < ds.length
              ·have hltz : (q : Int) < (ds.length : Int) := by omega
               have hqz : (0 : Int) ≤ (q : Int) := by omega
               have cq : wr.cell? ⟨g, q, none⟩ = some (.int .i64 (ds.getD q 0)) := ((kC HG2.out q).trans (by simp)).trans (HCX.out q hlt)
               have m0 : wr.cell? ⟨w4.heap.size, 0, none⟩ = some (.int .i64 r1) := (kC KM2.out 0).trans rfl
               have m1 : wr.cell? ⟨w4.heap.size, 1, none⟩ = some (.int .i64 r2) := (kC KM2.out 1).trans rfl
               have m2 : wr.cell? ⟨w4.heap.size, 2, none⟩ = some (.int .i64 r3) := (kC KM2.out 2).trans rfl
               obtain ⟨y, hy, hy1⟩ := HDST.out (ds.getD q 0) (by rw [List.getD_eq_getElem?_getD, List.getElem?_eq_getElem hlt]; exact List.getElem_mem hlt)
               have HY1 := aK hy1
               clear hy1
               have HYQ := aK hy
               generalize ds.getD q 0 = dq at cq hy
               go_wp2_with (first | (go_at_call 79; refine (impl_Step.calls 1000 r1 r2 r3 x dq y _ hy).mono ?_; rintro e w9 ⟨rfl, hb9⟩; have NX3 := aK (NX.out.kept (below_grown hb9) (by simp)); have RG3 := aK (RG2.out.kept (below_grown hb9) (by simp) (by simp)); have KM3 := aK ((hb9.block _ (blk_lt KM2.out)).trans KM2.out); have KT3 := aK ((hb9.block _ (blk_lt KT2.out)).trans KT2.out); have HB3 := aK (HB2.out.trans (hb9.mono HB2.out.size)); have SZ3 := aK (Nat.le_trans SZ2.out hb9.size); have HG3 := aK ((hb9.block _ (blk_lt HG2.out)).trans HG2.out); clear hb9) | (refine wp_set_put _ rfl _ _ _ 151 rfl 3 4 Try.underlying3 Try.underlying4 Try.underlying151 (w4.heap.size + 1) n3 _ rfl NX3.out (by have h1 := N2.out; have h2 := N3.out; have h3 := HDL.out; unfold maxLen; omega) y rfl rfl (wf16 HY1.out) ?_; intro w10 hs10 hg10; have NX4 := aK hs10; have RG4 := aK (RG3.out.kept hg10 (fun e => by have h1 := Option.some.inj e; have h2 := LT4.out; omega) (fun e => by have := Option.some.inj e; omega)); have KM4 := aK ((hg10.block _ (blk_lt KM3.out) (fun e => by have := Option.some.inj e; omega)).trans KM3.out); have KT4 := aK ((hg10.block _ (blk_lt KT3.out) (fun e => by have h1 := Option.some.inj e; have h2 := LTW.out; omega)).trans KT3.out); have HB4 := aK (HB3.out.grown hg10 HB3.out.size (fun j hj => by cases hj; have := LTW.out; omega)); have SZ4 := aK (Nat.le_trans SZ3.out hg10.size); have HG4 := aK ((hg10.block _ (blk_lt HG3.out) (fun e => by have h1 := Option.some.inj e; have h2 := HG0.out; omega)).trans HG3.out); clear hs10 hg10))
               go_roundg (ds.length - (q + 1))
               case measure => omega
               case rel =>
                have hdl := HDL.out
                refine ⟨q + 1, n3 + 1, congrArg _ (by unfold wrap64; omega), by omega, by omega, ⟨NX4.out.same fun z => ?_⟩, ⟨by have := N3.out; omega⟩, RG4, KM4, KT4, HB4, SZ4, HG4⟩
                constructor
                ·rintro ((hz | ⟨i, hi, e⟩) | rfl)
                 ·exact Or.inl hz
                 ·exact Or.inr ⟨i, by omega, e⟩
                 ·exact Or.inr ⟨q, by omega, HYQ.out⟩
                ·rintro (hz | ⟨i, hi, e⟩)
                 ·exact Or.inl (Or.inl hz)
                 ·by_cases eq : i = q
                  ·subst eq
                   exact Or.inr (Option.some.inj (e.symm.trans HYQ.out))
                  ·exact Or.inl (Or.inr ⟨i, by omega, e⟩)
              ·have hltz : ¬ (q : Int) < (ds.length : Int) := by omega
               obtain rfl : q = ds.length := by omega
               go_wp2
               refine ⟨⟨fun y => left y ∧ y ≠ x, cnt6, n3, RG2, ⟨by have h1 := LT6.out; have h2 := CN.out; omega⟩, ⟨fun y hy => LS.out y hy.1⟩, ⟨NX.out.same fun y => (HST.out y).symm⟩, ⟨by have h1 := N3.out; have h2 := N2.out; have h3 := LT6.out; have h4 := HDL.out; omega⟩, KM2, KT2, HB2, SZ2⟩, ?_⟩
               rw [RG2.out.left_eq, RG.out.left_eq]
               exact LT6.out
            ·have hd1 : ds.length = 0 := by omega
             obtain rfl := List.eq_nil_of_length_eq_zero hd1
             clear hd0 hd1
             go_wp2_with (first | (refine wp_set_put _ rfl _ _ _ 151 rfl 3 4 Try.underlying3 Try.underlying4 Try.underlying151 (w4.heap.size + 1) n2 _ rfl NX6.out (by have := N2.out; unfold maxLen; omega) x rfl rfl HWX.out ?_; intro w7 hs7 hg7; have NX7 := aK hs7; have RG7 := aK (RG6.out.kept hg7 (fun e => by have h1 := Option.some.inj e; have h2 := LT4.out; omega) (fun e => by have := Option.some.inj e; omega)); have KM7 := aK ((hg7.block _ (blk_lt KM6.out) (fun e => by have := Option.some.inj e; omega)).trans KM6.out); have KT7 := aK ((hg7.block _ (blk_lt KT6.out) (fun e => by have h1 := Option.some.inj e; have h2 := LTW.out; omega)).trans KT6.out); have HB7 := aK (HB6.out.grown hg7 HB6.out.size (fun j hj => by cases hj; have := LTW.out; omega)); have SZ7 := aK (Nat.le_trans SZ6.out hg7.size); have m0 : w7.cell? ⟨w4.heap.size, 0, none⟩ = some (.int .i64 r1) := (kC KM7.out 0).trans rfl; have m1 : w7.cell? ⟨w4.heap.size, 1, none⟩ = some (.int .i64 r2) := (kC KM7.out 1).trans rfl; have m2 : w7.cell? ⟨w4.heap.size, 2, none⟩ = some (.int .i64 r3) := (kC KM7.out 2).trans rfl; clear hs7 hg7) | (go_at_call 137; refine (impl_WaysFrom.calls 1000 r1 r2 r3 x [] _ hds).mono ?_; rintro e w8 ⟨v, rfl, hR, hb8⟩; have NX8 := aK (NX7.out.kept (below_grown hb8) (by simp)); have RG8 := aK (RG7.out.kept (below_grown hb8) (by simp) (by simp)); have KM8 := aK ((hb8.block _ (blk_lt KM7.out)).trans KM7.out); have KT8 := aK ((hb8.block _ (blk_lt KT7.out)).trans KT7.out); have HB8 := aK (HB7.out.trans (hb8.mono HB7.out.size)); have SZ8 := aK (Nat.le_trans SZ7.out hb8.size); have SW8 := aK SZ7.out; have HR8 := aK hR; clear hR hb8; obtain ⟨A8, c8, rfl⟩ := Kd.R_slice HR8.out))
             refine wp_loop_rounds 1 ?_
             rw [rounds_succ]
             clear m0 m1 m2 hen
             go_wp2
             refine ⟨⟨fun y => left y ∧ y ≠ x, cnt6, n2 + 1, RG8, ⟨by have h1 := LT6.out; have h2 := CN.out; omega⟩, ⟨fun y hy => LS.out y hy.1⟩, ⟨NX8.out.same fun y => ?_⟩, ⟨by have h2 := N2.out; have h3 := LT6.out; omega⟩, KM8, KT8, HB8, SZ8⟩, ?_⟩
             ·rw [HST.out y]
              exact ⟨fun h => Or.inl h, fun h => h.elim id (fun ⟨i, hi, _⟩ => absurd hi (Nat.not_lt_zero _))⟩
             ·rw [RG8.out.left_eq, RG.out.left_eq]
              exact LT6.out
        ·rw [if_neg c1] at H
         obtain rfl := Option.some.inj H
         have c1b : decide (now ≤ wrap64 (a2 + 200)) = false := decide_eq_false c1
         clear c1
         go_wp2
         go_ret
         exact ⟨rfl, HB.out⟩
     ·rw [if_neg q3] at H2; exact absurd H2 (by simp)
theorem impl_EarliestAt.ctr {a0_0 : Int} {a0_1 : Int} {a0_2 : Int} {a0_3 : Int} {l0_4 : List SGate} {a1 : Int} {a2 : Int} {a3 : Int} {r : Int} (h : impl_EarliestAt.f a0_0 a0_1 a0_2 a0_3 l0_4 a1 a2 a3 = some r) : Ctr Try.prog 65 [.ag [.v (.int .i64 a0_0), .v (.int .i64 a0_1), .v (.int .i64 a0_2), .v (.int .i64 a0_3), .pr 2 (l0_4.map eGate)], .v (.int .i64 a1), .v (.int .i64 a2), .v (.int .i64 a3)] (.v (.int .i64 r)) := by
  refine ⟨enters_of Try.func65 rfl rfl, fun w ys hys => ?_⟩
  simp only [RepL, Rep] at hys
  obtain ⟨_, _, rfl, ⟨_, rfl, _, _, rfl, rfl, _, _, rfl, rfl, _, _, rfl, rfl, _, _, rfl, rfl, _, _, rfl, q1, rfl⟩, _, _, rfl, rfl, _, _, rfl, rfl, _, _, rfl, rfl, rfl⟩ := hys
  obtain ⟨_, _, rfl, hr1, hc1⟩ := C_of_at E_eGate q1
  refine (impl_EarliestAt.calls _ _ _ _ _ _ _ _ _ _ _ w hr1 hc1 h).mono ?_
  rintro _ _ ⟨rfl, hb⟩
  exact ⟨_, [], rfl, by simp [RepR, RepRL], List.nodup_nil, hb⟩
set_option maxRecDepth 20000 in set_option maxHeartbeats 4000000 in open Nat renaming reduceAdd → p1, reduceSub → p2, reduceMul → p3, reduceDiv → p4, reduceBNe → p5, reduceBEq → p6, reduceEqDiff → p7, reduceLeDiff → p8, reduceLT → p9 in open Int renaming reduceLE → p10, reduceLT → p11, reduceEq → p12 in
theorem impl_CanFollow.ctr {a0_0 : Int} {a0_1 : Int} {a0_2 : Int} {a0_3 : Int} {l0_4 : List (SGate)} {a1_0 : Int} {a1_1 : Int} {a2_0 : Int} {a2_1 : Int} {r : Bool} (h : impl_CanFollow.f a0_0 a0_1 a0_2 a0_3 l0_4 a1_0 a1_1 a2_0 a2_1 = some r) : Ctr Try.prog 17 [.ag [.v (.int .i64 a0_0), .v (.int .i64 a0_1), .v (.int .i64 a0_2), .v (.int .i64 a0_3), .pr 2 (l0_4.map eGate)], .ag [.v (.int .i64 a1_0), .v (.int .i64 a1_1)], .ag [.v (.int .i64 a2_0), .v (.int .i64 a2_1)]] (.v (.bool r)) := by
  refine Ctr_of tyOk hm Try.func17 rfl rfl (by kernel_rfl) (n := 21) (rv := [.tmp 6]) rfl rfl ?_
  simp only [W, List.replicate]
  unfold impl_CanFollow.f at h
  replace h := bnd h; obtain ⟨t1, A, h⟩ := h
  try simp only [W, p1, p2, p3, p4, p5, p6, p7, p8, p9, p10, p11]
  refine callR (impl_EarliestAt.ctr A) ?_
  replace h := ifS h; rcases h with ⟨c2, h⟩ | ⟨c2, h⟩
  · cases h
    try simp only [W, c2, p1, p2, p3, p4, p5, p6, p7, p8, p9, p10, p11]
  · cases h
    try simp only [W, c2, p1, p2, p3, p4, p5, p6, p7, p8, p9, p10, p11]
theorem impl_CanFollow.calls (a0_0 : Int) (a0_1 : Int) (a0_2 : Int) (a0_3 : Int) (A0_4 : Option Addr) (c0_4 : Nat) (l0_4 : List (SGate)) (a1_0 : Int) (a1_1 : Int) (a2_0 : Int) (a2_1 : Int) (r : Bool) (w : World) (hr0_4 : Kd.C k150 w A0_4 l0_4.length l0_4) (hc0_4 : l0_4.length ≤ c0_4) (h : impl_CanFollow.f a0_0 a0_1 a0_2 a0_3 l0_4 a1_0 a1_1 a2_0 a2_1 = some r) :
    Calls Try.prog 17 #[.agg #[.int .i64 a0_0, .int .i64 a0_1, .int .i64 a0_2, .int .i64 a0_3, .slice A0_4 l0_4.length c0_4], .agg #[.int .i64 a1_0, .int .i64 a1_1], .agg #[.int .i64 a2_0, .int .i64 a2_1]] w fun e w' => e = .returned (.bool r) ∧ Below w.heap.size w w' := by
  refine ((impl_CanFollow.ctr h).2 w [.agg #[.int .i64 a0_0, .int .i64 a0_1, .int .i64 a0_2, .int .i64 a0_3, .slice A0_4 l0_4.length c0_4], .agg #[.int .i64 a1_0, .int .i64 a1_1], .agg #[.int .i64 a2_0, .int .i64 a2_1]] (by simp only [RepL, Rep]; exact ⟨_, _, rfl, ⟨_, rfl, _, _, rfl, rfl, _, _, rfl, rfl, _, _, rfl, rfl, _, _, rfl, rfl, _, _, rfl, at_of_C E_eGate hr0_4 hc0_4, rfl⟩, _, _, rfl, ⟨_, rfl, _, _, rfl, rfl, _, _, rfl, rfl, rfl⟩, _, _, rfl, ⟨_, rfl, _, _, rfl, rfl, _, _, rfl, rfl, rfl⟩, rfl⟩)).mono ?_
  rintro _ _ ⟨y, L, rfl, hR, _, hb⟩
  exact ⟨congrArg Ending.returned (RepR_pln rfl hR).1, hb⟩
set_option maxRecDepth 20000 in set_option maxHeartbeats 4000000 in open Nat renaming reduceAdd → p1, reduceSub → p2, reduceMul → p3, reduceDiv → p4, reduceBNe → p5, reduceBEq → p6, reduceEqDiff → p7, reduceLeDiff → p8, reduceLT → p9 in open Int renaming reduceLE → p10, reduceLT → p11, reduceEq → p12 in
theorem impl_FirstFalse.ctr {k : Nat} {a0_0 : Int} {a0_1 : Int} {a0_2 : Int} {a0_3 : Int} {l0_4 : List (SGate)} {l1 : List (SEntry)} {r : Int} (h : impl_FirstFalse.f k a0_0 a0_1 a0_2 a0_3 l0_4 l1 = some r) : Ctr Try.prog 15 [.ag [.v (.int .i64 a0_0), .v (.int .i64 a0_1), .v (.int .i64 a0_2), .v (.int .i64 a0_3), .pr 2 (l0_4.map eGate)], .pr 2 (l1.map eEntry)] (.v (.int .i64 r)) := by
  refine Ctr_of tyOk hm Try.func15 rfl rfl (by kernel_rfl) (n := 27) (rv := [.tmp 4]) rfl rfl ?_
  simp only [W, List.replicate]
  unfold impl_FirstFalse.f at h
  replace h := bnd h; obtain ⟨t1, A, h⟩ := h
  try simp only [W, p1, p2, p3, p4, p5, p6, p7, p8, p9, p10, p11]
  refine callR (impl_RecordOk.ctr A) ?_
  replace h := ifT h; rcases h with ⟨rfl, h⟩ | ⟨rfl, h⟩
  · try simp only [W, p1, p2, p3, p4, p5, p6, p7, p8, p9, p10, p11]
    refine loopN (fun x : List (SEntry) × Int × Int × Int × Int × Int × List (SGate) => [.u, .pr 2 (List.map eEntry x.1), .bp 32 0, .u, .u, .v (.int .i64 x.2.1), .u, .u, .u, .u, .u, .u, .u, .u, .u, .u, .u, .u, .u, .u, .u, .u, .u, .u, .u, .u, .u, .u, .u]) (fun x => [(32, .box 30 [.v (.int .i64 x.2.2.1), .v (.int .i64 x.2.2.2.1), .v (.int .i64 x.2.2.2.2.1), .v (.int .i64 x.2.2.2.2.2.1), .pr 2 (List.map eGate x.2.2.2.2.2.2)])]) (fun n x => impl_FirstFalse.l0 n x.1 x.2.1 x.2.2.1 x.2.2.2.1 x.2.2.2.2.1 x.2.2.2.2.2.1 x.2.2.2.2.2.2 = some r) (l1, 1, a0_0, a0_1, a0_2, a0_3, l0_4) [] h (by simp only [W, p1, p2, p3, p4, p5, p6, p7, p8, p9, p10, p11] <;> trivial) (by simp only [W, p1, p2, p3, p4, p5, p6, p7, p8, p9, p10, p11] <;> trivial) rfl (fun _ h => by cases h) ?_
    intro n1 ⟨x3, x4, x5, x6, x7, x8, x9⟩ _ h
    simp only [impl_FirstFalse.l0] at h
    replace h := ifS h; rcases h with ⟨c10, h⟩ | ⟨c10, h⟩
    · replace h := ifN h; obtain ⟨c11, h⟩ := h
      replace h := ifN h; obtain ⟨c12, h⟩ := h
      replace h := ifN h; obtain ⟨c13, h⟩ := h
      replace h := bnd h; obtain ⟨t14, A, h⟩ := h
      try simp only [W, c10, c11, c12, c13, p1, p2, p3, p4, p5, p6, p7, p8, p9, p10, p11]
      refine callR (impl_CanFollow.ctr A) ?_
      replace h := ifT h; rcases h with ⟨rfl, h⟩ | ⟨rfl, h⟩
      · try simp only [W, c10, c11, c12, c13, p1, p2, p3, p4, p5, p6, p7, p8, p9, p10, p11]
        exact nextN (x3, (wrap64 (x4 + 1)), x5, x6, x7, x8, x9) [] n1 (by omega) h (by simp only [W, p1, p2, p3, p4, p5, p6, p7, p8, p9, p10, p11] <;> trivial) (by simp only [W, p1, p2, p3, p4, p5, p6, p7, p8, p9, p10, p11] <;> trivial) rfl
      · cases h
        try simp only [W, c10, c11, c12, c13, p1, p2, p3, p4, p5, p6, p7, p8, p9, p10, p11]
    · cases h
      try simp only [W, c10, p1, p2, p3, p4, p5, p6, p7, p8, p9, p10, p11]
  · cases h
    try simp only [W, p1, p2, p3, p4, p5, p6, p7, p8, p9, p10, p11]
set_option maxRecDepth 20000 in set_option maxHeartbeats 4000000 in open Nat renaming reduceAdd → p1, reduceSub → p2, reduceMul → p3, reduceDiv → p4, reduceBNe → p5, reduceBEq → p6, reduceEqDiff → p7, reduceLeDiff → p8, reduceLT → p9 in open Int renaming reduceLE → p10, reduceLT → p11, reduceEq → p12 in
theorem impl_IsTrueRecord.ctr {k : Nat} {a0_0 : Int} {a0_1 : Int} {a0_2 : Int} {a0_3 : Int} {l0_4 : List (SGate)} {l1 : List (SEntry)} {r : Bool} (h : impl_IsTrueRecord.f k a0_0 a0_1 a0_2 a0_3 l0_4 l1 = some r) : Ctr Try.prog 14 [.ag [.v (.int .i64 a0_0), .v (.int .i64 a0_1), .v (.int .i64 a0_2), .v (.int .i64 a0_3), .pr 2 (l0_4.map eGate)], .pr 2 (l1.map eEntry)] (.v (.bool r)) := by
  refine Ctr_of tyOk hm Try.func14 rfl rfl (by kernel_rfl) (n := 12) (rv := [.tmp 4]) rfl rfl ?_
  simp only [W, List.replicate]
  unfold impl_IsTrueRecord.f at h
  replace h := bnd h; obtain ⟨t1, A, h⟩ := h
  try simp only [W, p1, p2, p3, p4, p5, p6, p7, p8, p9, p10, p11]
  refine callR (impl_RecordOk.ctr A) ?_
  replace h := ifT h; rcases h with ⟨rfl, h⟩ | ⟨rfl, h⟩
  · replace h := bnd h; obtain ⟨t3, A, h⟩ := h
    try simp only [W, p1, p2, p3, p4, p5, p6, p7, p8, p9, p10, p11]
    refine callR (impl_FirstFalse.ctr A) ?_
    cases h
    try simp only [W, p1, p2, p3, p4, p5, p6, p7, p8, p9, p10, p11]
  · cases h
    try simp only [W, p1, p2, p3, p4, p5, p6, p7, p8, p9, p10, p11]
set_option maxHeartbeats 4000000 in
set_option maxRecDepth 100000 in
theorem impl_BetweenCells_1.calls (BM BT BA BB : Nat) (a0_0 a0_1 a0_2 a0_3 : Int) (A0_4 : Option Addr) (c0_4 : Nat) (l0_4 : List SGate) (a1_0 a1_1 a2_0 a2_1 a3 : Int) (W : World)
  (hM : W.heap[BM]? = some (.cells #[.int .i64 a3] 3 (0, 0))) (hT : W.heap[BT]? = some (.cells #[.int .i64 a0_0, .int .i64 a0_1, .int .i64 a0_2, .int .i64 a0_3, .slice A0_4 l0_4.length c0_4] 30 (0, 0)))
  (hA : W.heap[BA]? = some (.cells #[.int .i64 a1_0, .int .i64 a1_1] 37 (0, 0))) (hB : W.heap[BB]? = some (.cells #[.int .i64 a2_0, .int .i64 a2_1] 37 (0, 0)))
  (hr0_4 : Kd.C k150 W A0_4 l0_4.length l0_4) (hc0_4 : l0_4.length ≤ c0_4) (x : Int) (r : Bool) (h : impl_BetweenCells.l0 a0_0 a0_1 a0_2 a0_3 l0_4 a1_0 a1_1 a2_0 a2_1 a3 x = some r) :
  Calls Try.prog 69 #[.int .i64 x, .pointer (some ⟨BM, 0, none⟩), .pointer (some ⟨BT, 0, none⟩), .pointer (some ⟨BA, 0, none⟩), .pointer (some ⟨BB, 0, none⟩)] W fun e w' => e = .returned (.bool r) ∧ Below W.heap.size W w' := by
 have hu := Try.underlying27
 have hut := Try.underlying30
 have hue := Try.underlying37
 have HR1 := aK hr0_4
 have HC1 := aK hc0_4
 have HM := aK hM
 have HT := aK hT
 have HA := aK hA
 have HBB := aK hB
 clear hr0_4 hc0_4
 obtain ⟨p, hp, H⟩ := Option.bind_eq_some_iff.mp h
 clear h
 have HP := fun (w : World) (hb : Below W.heap.size W w) => impl_CanFollow.calls a0_0 a0_1 a0_2 a0_3 A0_4 c0_4 l0_4 a1_0 a1_1 a3 x p w (Kd.C_below HR1.out hb) HC1.out hp
 obtain ⟨w0, hw0⟩ : ∃ w0 : World, w0 = W.alloc (.cells #[.int .i64 a3, .int .i64 x] 37) := ⟨_, rfl⟩
 have HB0 := aK (show Below W.heap.size W w0 by rw [hw0]; exact (Below.refl _ W).alloc (Nat.le_refl _) _)
 have KE := aK (show w0.heap[W.heap.size]? = some (.cells #[.int .i64 a3, .int .i64 x] 37 (0, 0)) by rw [hw0]; exact heap_alloc_new W _)
 have SZ := aK (show w0.heap.size = W.heap.size + 1 by rw [hw0]; simp)
 have HW := aK hw0
 clear hw0
 have CL := aK (show ∀ w : World, Below w0.heap.size w0 w → w.cell? ⟨BT, 0, none⟩ = some (.int .i64 a0_0) ∧ w.cell? ⟨BT, 1, none⟩ = some (.int .i64 a0_1) ∧ w.cell? ⟨BT, 2, none⟩ = some (.int .i64 a0_2) ∧ w.cell? ⟨BT, 3, none⟩ = some (.int .i64 a0_3) ∧ w.cell? ⟨BT, 4, none⟩ = some (.slice A0_4 l0_4.length c0_4) ∧ w.cell? ⟨BB, 0, none⟩ = some (.int .i64 a2_0) ∧ w.cell? ⟨BB, 1, none⟩ = some (.int .i64 a2_1) ∧ w.cell? ⟨W.heap.size, 0, none⟩ = some (.int .i64 a3) ∧ w.cell? ⟨W.heap.size, 1, none⟩ = some (.int .i64 x) ∧ w.cell? ⟨BA, 0, none⟩ = some (.int .i64 a1_0) ∧ w.cell? ⟨BA, 1, none⟩ = some (.int .i64 a1_1) from fun w hb => by
  have s := SZ.out
  have t0 := (hb.block _ (by have := blk_lt HT.out; omega)).trans ((HB0.out.block _ (blk_lt HT.out)).trans HT.out)
  have t1 := (hb.block _ (by have := blk_lt HBB.out; omega)).trans ((HB0.out.block _ (blk_lt HBB.out)).trans HBB.out)
  have t2 := (hb.block _ (by omega)).trans KE.out
  have t3 := (hb.block _ (by have := blk_lt HA.out; omega)).trans ((HB0.out.block _ (blk_lt HA.out)).trans HA.out)
  exact ⟨(kC t0 0).trans rfl, (kC t0 1).trans rfl, (kC t0 2).trans rfl, (kC t0 3).trans rfl, (kC t0 4).trans rfl, (kC t1 0).trans rfl, (kC t1 1).trans rfl, (kC t2 0).trans rfl, (kC t2 1).trans rfl, (kC t3 0).trans rfl, (kC t3 1).trans rfl⟩)
 have m0 : W.cell? ⟨BM, 0, none⟩ = some (.int .i64 a3) := (kC hM 0).trans rfl
 have F := CL.out w0 (Below.refl _ _)
 rw [HW.out] at F
 obtain ⟨b0, b1, b2, b3, b4, _, _, b5, b6, b7, b8⟩ := F
 clear hM hT hA hB
 cases p with
 | false =>
  rw [if_neg Bool.false_ne_true] at H
  obtain rfl := Option.some.inj H
  go_enter Try.func69, Try.ntmps69
  go_wp2_with (go_at_call 17; rw [← HW.out]; refine (HP _ HB0.out).mono ?_; rintro e w1 ⟨rfl, hb⟩; have HB1 := aK hb; clear hb)
  go_ret
  exact ⟨rfl, HB0.out.trans (HB1.out.mono HB0.out.size)⟩
 | true =>
  rw [if_pos rfl] at H
  obtain ⟨q, hq, H2⟩ := Option.bind_eq_some_iff.mp H
  obtain rfl := Option.some.inj H2
  have HQ := fun (w : World) (hb : Below W.heap.size W w) => impl_CanFollow.calls a0_0 a0_1 a0_2 a0_3 A0_4 c0_4 l0_4 a3 x a2_0 a2_1 q w (Kd.C_below HR1.out hb) HC1.out hq
  clear H H2
  go_enter Try.func69, Try.ntmps69
  go_wp2_with (go_at_call 17; first | (rw [← HW.out]; refine (HP _ HB0.out).mono ?_; rintro e w1 ⟨rfl, hb⟩; have HB1 := aK hb; obtain ⟨e0, e1, e2, e3, e4, e5, e6, e7, e8, _, _⟩ := CL.out w1 hb; clear hb) | (refine (HQ _ (HB0.out.trans (HB1.out.mono HB0.out.size))).mono ?_; rintro e w2 ⟨rfl, hb⟩; have HB2 := aK hb; clear hb))
  go_ret
  exact ⟨by first | rfl | (cases q <;> rfl), (HB0.out.trans (HB1.out.mono HB0.out.size)).trans (HB2.out.mono (Nat.le_trans HB0.out.size HB1.out.size))⟩
end Go.Proofs.Ytpeehicekddjhaa.F
end

section
namespace Go.Proofs.Ytpeehicekddjhaa.F
open Go.RowKit Go.Proofs.YtpeehicekddjhaaW.PrintWords Go.Proofs.YtpeehicekddjhaaW.PrintLast Go.Proofs.YtpeehicekddjhaaW.PrintMore
set_option linter.unusedVariables false
set_option linter.unusedSimpArgs false
attribute [local go_sem] max2_int min2_int max_two min_two
set_option maxHeartbeats 4000000 in
set_option maxRecDepth 100000 in
theorem impl_BetweenCells.calls (a0_0 : Int) (a0_1 : Int) (a0_2 : Int) (a0_3 : Int) (A0_4 : Option Addr) (c0_4 : Nat) (l0_4 : List SGate) (a1_0 : Int) (a1_1 : Int) (a2_0 : Int) (a2_1 : Int) (a3 : Int) (r : List Int) (w : World) (hr0_4 : Kd.C k150 w A0_4 l0_4.length l0_4) (hc0_4 : l0_4.length ≤ c0_4) (h : impl_BetweenCells.f a0_0 a0_1 a0_2 a0_3 l0_4 a1_0 a1_1 a2_0 a2_1 a3 = some r) :
  Calls Try.prog 18 #[.agg #[.int .i64 a0_0, .int .i64 a0_1, .int .i64 a0_2, .int .i64 a0_3, .slice A0_4 l0_4.length c0_4], .agg #[.int .i64 a1_0, .int .i64 a1_1], .agg #[.int .i64 a2_0, .int .i64 a2_1], .int .i64 a3] w fun e w' => ∃ v0_ : Value, e = .returned (v0_) ∧ Kd.R (Kd.int .i64) 3 w' w.heap.size (fun _ => True) v0_ r ∧ Below w.heap.size w w' := by
 have hu := Try.underlying27
 have hug := Try.underlying25
 have hut := Try.underlying30
 have hue := Try.underlying37
 have HR1 := aK hr0_4
 have HC1 := aK hc0_4
 clear hr0_4 hc0_4
 obtain ⟨b, hm, H⟩ := Option.bind_eq_some_iff.mp h
 clear h
 obtain ⟨w0, hw0⟩ : ∃ w0 : World, w0 = ((((w.alloc (.cells #[.int .i64 a0_0, .int .i64 a0_1, .int .i64 a0_2, .int .i64 a0_3, .slice A0_4 l0_4.length c0_4] 30)).alloc (.cells #[.int .i64 a1_0, .int .i64 a1_1] 37)).alloc (.cells #[.int .i64 a2_0, .int .i64 a2_1] 37)).alloc (.cells #[.int .i64 a3] 3)) := ⟨_, rfl⟩
 have HB0 := aK (show Below w.heap.size w w0 by rw [hw0]; exact ((((Below.refl _ w).alloc (Nat.le_refl _) _).alloc (by simp) _).alloc (by simp; omega) _).alloc (by simp; omega) _)
 have K0 := aK (show w0.heap[w.heap.size]? = some (.cells #[.int .i64 a0_0, .int .i64 a0_1, .int .i64 a0_2, .int .i64 a0_3, .slice A0_4 l0_4.length c0_4] 30 (0, 0)) by rw [hw0]; exact kA (kA (kA (heap_alloc_new w _) _) _) _)
 have K1 := aK (show w0.heap[w.heap.size + 1]? = some (.cells #[.int .i64 a1_0, .int .i64 a1_1] 37 (0, 0)) by rw [hw0]; exact kA (kA (heap_new2 w _ _) _) _)
 have K2 := aK (show w0.heap[w.heap.size + 1 + 1]? = some (.cells #[.int .i64 a2_0, .int .i64 a2_1] 37 (0, 0)) by rw [hw0]; exact kA (heap_new3 w _ _ _) _)
 have K3 := aK (show w0.heap[w.heap.size + 1 + 1 + 1]? = some (.cells #[.int .i64 a3] 3 (0, 0)) by rw [hw0]; have q := heap_new3 (w.alloc (.cells #[.int .i64 a0_0, .int .i64 a0_1, .int .i64 a0_2, .int .i64 a0_3, .slice A0_4 l0_4.length c0_4] 30)) (.cells #[.int .i64 a1_0, .int .i64 a1_1] 37) (.cells #[.int .i64 a2_0, .int .i64 a2_1] 37) (.cells #[.int .i64 a3] 3); rw [show (w.alloc (.cells #[.int .i64 a0_0, .int .i64 a0_1, .int .i64 a0_2, .int .i64 a0_3, .slice A0_4 l0_4.length c0_4] 30)).heap.size = w.heap.size + 1 by simp] at q; exact q)
 have SZ := aK (show w0.heap.size = w.heap.size + 4 by rw [hw0]; simp)
 have HW := aK hw0
 clear hw0
 have HCL := aK (show ∀ W : World, Below w0.heap.size w0 W → W.cell? ⟨w.heap.size, 0, none⟩ = some (.int .i64 a0_0) ∧ W.cell? ⟨w.heap.size, 1, none⟩ = some (.int .i64 a0_1) ∧ W.cell? ⟨w.heap.size + 1, 0, none⟩ = some (.int .i64 a1_0) ∧ W.cell? ⟨w.heap.size + 1, 1, none⟩ = some (.int .i64 a1_1) ∧ W.cell? ⟨w.heap.size + 1 + 1, 0, none⟩ = some (.int .i64 a2_0) ∧ W.cell? ⟨w.heap.size + 1 + 1, 1, none⟩ = some (.int .i64 a2_1) ∧ W.cell? ⟨w.heap.size + 1 + 1 + 1, 0, none⟩ = some (.int .i64 a3) ∧ W.cell? ⟨w.heap.size, 2, none⟩ = some (.int .i64 a0_2) from fun W hb => by
  have s := SZ.out
  have t0 := (hb.block w.heap.size (by omega)).trans K0.out
  have t1 := (hb.block (w.heap.size + 1) (by omega)).trans K1.out
  have t2 := (hb.block (w.heap.size + 1 + 1) (by omega)).trans K2.out
  have t3 := (hb.block (w.heap.size + 1 + 1 + 1) (by omega)).trans K3.out
  exact ⟨(kC t0 0).trans rfl, (kC t0 1).trans rfl, (kC t1 0).trans rfl, (kC t1 1).trans rfl, (kC t2 0).trans rfl, (kC t2 1).trans rfl, (kC t3 0).trans rfl, (kC t0 2).trans rfl⟩)
 have HC := fun (W : World) (hb : Below w.heap.size w W) => impl_CanFollow.calls a0_0 a0_1 a0_2 a0_3 A0_4 c0_4 l0_4 a1_0 a1_1 a2_0 a2_1 b W (Kd.C_below HR1.out hb) HC1.out hm
 cases b with
 | false =>
  rw [if_neg Bool.false_ne_true] at H
  obtain rfl := Option.some.inj H
  go_enter Try.func18, Try.ntmps18
  go_wp2_with (go_at_call 17; rw [← HW.out]; refine (HC _ HB0.out).mono ?_; rintro e w1 ⟨rfl, hb⟩; obtain ⟨c0, c1_, c2, c3, c4, c5, c6, c7⟩ := HCL.out _ hb; have HB1 := aK hb; clear hb)
  go_ret
  exact ⟨_, rfl, Kd.R_nil _ _ _ _ _, HB0.out.trans (HB1.out.mono HB0.out.size)⟩
 | true =>
  rw [if_pos rfl] at H
  by_cases q1 : a3 ≤ a1_0
  ·rw [if_pos q1] at H
   have q1b : decide (a3 ≤ a1_0) = true := decide_eq_true q1
   clear q1
   obtain rfl := Option.some.inj H
   go_enter Try.func18, Try.ntmps18
   go_wp2_with (go_at_call 17; rw [← HW.out]; refine (HC _ HB0.out).mono ?_; rintro e w1 ⟨rfl, hb⟩; obtain ⟨c0, c1_, c2, c3, c4, c5, c6, c7⟩ := HCL.out _ hb; have HB1 := aK hb; clear hb)
   go_ret
   exact ⟨_, rfl, Kd.R_nil _ _ _ _ _, HB0.out.trans (HB1.out.mono HB0.out.size)⟩
  ·rw [if_neg q1] at H
   have q1b : decide (a3 ≤ a1_0) = false := decide_eq_false q1
   clear q1
   by_cases q2 : a3 ≥ a2_0
   ·rw [if_pos q2] at H
    have q2b : decide (a3 ≥ a2_0) = true := decide_eq_true q2
    clear q2
    obtain rfl := Option.some.inj H
    go_enter Try.func18, Try.ntmps18
    go_wp2_with (go_at_call 17; rw [← HW.out]; refine (HC _ HB0.out).mono ?_; rintro e w1 ⟨rfl, hb⟩; obtain ⟨c0, c1_, c2, c3, c4, c5, c6, c7⟩ := HCL.out _ hb; have HB1 := aK hb; clear hb)
    go_ret
    exact ⟨_, rfl, Kd.R_nil _ _ _ _ _, HB0.out.trans (HB1.out.mono HB0.out.size)⟩
   ·rw [if_neg q2] at H
    have q2b : decide (a3 ≥ a2_0) = false := decide_eq_false q2
    clear q2
    obtain ⟨n, hn, H3⟩ := Option.bind_eq_some_iff.mp H
    clear H
    obtain ⟨u, hup, H4⟩ := Option.bind_eq_some_iff.mp H3
    clear H3
    by_cases hall : (u.all fun x => (impl_BetweenCells.l0 a0_0 a0_1 a0_2 a0_3 l0_4 a1_0 a1_1 a2_0 a2_1 a3 x).isSome) = true ∧ 0 < u.length
    ·rw [if_pos hall] at H4
     obtain rfl := Option.some.inj H4
     have eg : ∀ args w, (callFunc 69 args).run Try.prog w = .ok (.enter 69 args) w := enters_of Try.func69 (by kernel_rfl) rfl
     have HP : ∀ (w3 : World) (gu : Nat), Below w0.heap.size w0 w3 → w0.heap.size ≤ gu → ∀ (W : World) (x : Int), x ∈ u → w3.grownBy W (some gu) → Calls Try.prog 69 (#[.int .i64 x] ++ #[.pointer (some ⟨w.heap.size + 1 + 1 + 1, 0, none⟩), .pointer (some ⟨w.heap.size, 0, none⟩), .pointer (some ⟨w.heap.size + 1, 0, none⟩), .pointer (some ⟨w.heap.size + 1 + 1, 0, none⟩)]) W fun e w' => e = .returned (.bool ((impl_BetweenCells.l0 a0_0 a0_1 a0_2 a0_3 l0_4 a1_0 a1_1 a2_0 a2_1 a3 x).getD false)) ∧ Below W.heap.size W w' := by
      intro w3 gu h3 hg W x hx hG
      have s1 := SZ.out
      have s3 := h3.size
      have hx2 := List.all_eq_true.1 hall.1 x hx
      obtain ⟨n1, hn1⟩ := Option.isSome_iff_exists.1 hx2
      have keep : ∀ i, i < w0.heap.size → W.heap[i]? = w0.heap[i]? := fun i hi => (hG.block i (by omega) (fun e => by have := Option.some.inj e; omega)).trans (h3.block i hi)
      have hBW : Below w0.heap.size w0 W := ⟨hG.os.trans h3.os, hG.tape.trans h3.tape, hG.output.trans h3.output, Nat.le_trans h3.size hG.size, keep⟩
      rw [hn1]
      exact impl_BetweenCells_1.calls (w.heap.size + 1 + 1 + 1) w.heap.size (w.heap.size + 1) (w.heap.size + 1 + 1) a0_0 a0_1 a0_2 a0_3 A0_4 c0_4 l0_4 a1_0 a1_1 a2_0 a2_1 a3 W ((keep _ (by omega)).trans K3.out) ((keep _ (by omega)).trans K0.out) ((keep _ (by omega)).trans K1.out) ((keep _ (by omega)).trans K2.out) (Kd.C_below HR1.out (HB0.out.trans (hBW.mono HB0.out.size))) HC1.out x n1 hn1
     have HALL := aK hall
     clear H4 hall
     go_enter Try.func18, Try.ntmps18
     go_wp2_with (first | (go_at_call 17; rw [← HW.out]; refine (HC _ HB0.out).mono ?_; rintro e w1 ⟨rfl, hb⟩; obtain ⟨c0, c1_, c2, c3, c4, c5, c6, c7⟩ := HCL.out _ hb; have HB1 := aK hb; clear hb) | (go_at_call 68; refine (impl_CountCells.calls a0_0 a0_1 n _ hn).mono ?_; rintro e w3 ⟨rfl, hb⟩; have HB3 := aK (HB1.out.trans (hb.mono HB1.out.size)); clear hb) | (go_at_call 67; refine (impl_upTo.calls 1000 _ u _ hup).mono ?_; rintro e w4 ⟨v, rfl, hR, hB4⟩; have HB4 := aK (HB3.out.trans (hB4.mono HB3.out.size)); have HS3 := aK HB3.out.size; have HR4 := aK hR; clear hR hB4; obtain ⟨gu, capu, curu, rfl, hcapu, hgu0, hguh, hul2, hum, hux⟩ := row_open HR4.out HALL.out.2; have HCU := aK hcapu; have HU0 := aK (Nat.le_trans HS3.out hgu0); have HUH := aK hguh; have HUL := aK hul2; have HUM := aK hum; have HUX := aK hux; clear hcapu hgu0 hguh hul2 hum hux) | (go_at_call 66; refine (slices_DeleteFunc_int.calls (fun x => (impl_BetweenCells.l0 a0_0 a0_1 a0_2 a0_3 l0_4 a1_0 a1_1 a2_0 a2_1 a3 x).getD false) 69 #[.pointer (some ⟨w.heap.size + 1 + 1 + 1, 0, none⟩), .pointer (some ⟨w.heap.size, 0, none⟩), .pointer (some ⟨w.heap.size + 1, 0, none⟩), .pointer (some ⟨w.heap.size + 1 + 1, 0, none⟩)] eg gu capu u curu _ HUH.out HUL.out HCU.out HUM.out HUX.out (HP w4 gu HB4.out HU0.out)).mono ?_; rintro e w5 ⟨cur4, rfl, h41, h42, h43, h44⟩; have H41 := aK h41; have H42 := aK h42; have H43 := aK h43; have H44 := aK h44; clear h41 h42 h43 h44))
     go_ret
     refine ⟨_, rfl, row_close (cur := cur4) ?_ H41.out ?_ HUM.out H42.out H43.out, ?_⟩
     ·have h1 := HU0.out; have h2 := SZ.out; omega
     ·exact Nat.le_trans (List.length_filter_le _ _) HCU.out
     ·refine (HB0.out.trans (HB4.out.mono HB0.out.size)).grown H44.out ?_ ?_
      ·exact Nat.le_trans HB0.out.size HB4.out.size
      ·intro j hj; cases hj; have h1 := HU0.out; have h2 := SZ.out; omega
    ·rw [if_neg hall] at H4; exact absurd H4 (by simp)
theorem impl_BetweenCells.ctr {a0_0 : Int} {a0_1 : Int} {a0_2 : Int} {a0_3 : Int} {l0_4 : List SGate} {a1_0 : Int} {a1_1 : Int} {a2_0 : Int} {a2_1 : Int} {a3 : Int} {r : List Int} (h : impl_BetweenCells.f a0_0 a0_1 a0_2 a0_3 l0_4 a1_0 a1_1 a2_0 a2_1 a3 = some r) : Ctr Try.prog 18 [.ag [.v (.int .i64 a0_0), .v (.int .i64 a0_1), .v (.int .i64 a0_2), .v (.int .i64 a0_3), .pr 2 (l0_4.map eGate)], .ag [.v (.int .i64 a1_0), .v (.int .i64 a1_1)], .ag [.v (.int .i64 a2_0), .v (.int .i64 a2_1)], .v (.int .i64 a3)] (.ow 3 1 (r.map eI)) := by
  refine ⟨enters_of Try.func18 rfl rfl, fun w ys hys => ?_⟩
  simp only [RepL, Rep] at hys
  obtain ⟨_, _, rfl, ⟨_, rfl, _, _, rfl, rfl, _, _, rfl, rfl, _, _, rfl, rfl, _, _, rfl, rfl, _, _, rfl, q1, rfl⟩, _, _, rfl, ⟨_, rfl, _, _, rfl, rfl, _, _, rfl, rfl, rfl⟩, _, _, rfl, ⟨_, rfl, _, _, rfl, rfl, _, _, rfl, rfl, rfl⟩, _, _, rfl, rfl, rfl⟩ := hys
  obtain ⟨_, _, rfl, hr1, hc1⟩ := C_of_at E_eGate q1
  refine (impl_BetweenCells.calls _ _ _ _ _ _ _ _ _ _ _ _ _ w hr1 hc1 h).mono ?_
  rintro _ _ ⟨v, rfl, hv, hb⟩
  exact ⟨v, (bk v).toList, rfl, by simp only [RepR]; exact ⟨row_of_R E_eI hv, E_eI.row _, E_eI.pos, trivial⟩, by cases bk v <;> simp, hb⟩
set_option maxHeartbeats 8000000 in
set_option maxRecDepth 100000 in
theorem spec_TimedOk.calls (k : Nat) (a0_0 : Int) (a0_1 : Int) (a0_2 : Int) (a0_3 : Int) (A0_4 : Option Addr) (c0_4 : Nat) (l0_4 : List SGate) (r : Bool) (w : World) (hr0_4 : Kd.C k150 w A0_4 l0_4.length l0_4) (hc0_4 : l0_4.length ≤ c0_4) (h : spec_TimedOk.f k a0_0 a0_1 a0_2 a0_3 l0_4 = some r) :
  Calls Try.prog 140 #[.agg #[.int .i64 a0_0, .int .i64 a0_1, .int .i64 a0_2, .int .i64 a0_3, .slice A0_4 l0_4.length c0_4]] w fun e w' => e = .returned (.bool r) ∧ Below w.heap.size w w' := by
 have hu := Try.underlying27
 have hut := Try.underlying30
 have hug := Try.underlying150
 have HR1 := aK hr0_4
 have HC1 := aK hc0_4
 clear hr0_4 hc0_4
 obtain ⟨b, hm, H⟩ := Option.bind_eq_some_iff.mp h
 clear h
 obtain ⟨w0, hw0⟩ : ∃ w0 : World, w0 = w.alloc (.cells #[.int .i64 a0_0, .int .i64 a0_1, .int .i64 a0_2, .int .i64 a0_3, .slice A0_4 l0_4.length c0_4] 30) := ⟨_, rfl⟩
 have HB0 := aK (show Below w.heap.size w w0 by rw [hw0]; exact (Below.refl _ w).alloc (Nat.le_refl _) _)
 have K0 := aK (show w0.heap[w.heap.size]? = some (.cells #[.int .i64 a0_0, .int .i64 a0_1, .int .i64 a0_2, .int .i64 a0_3, .slice A0_4 l0_4.length c0_4] 30 (0, 0)) by rw [hw0]; exact heap_alloc_new w _)
 have SZ := aK (show w0.heap.size = w.heap.size + 1 by rw [hw0]; simp)
 have HW := aK hw0
 clear hw0
 have HM := fun (W : World) => spec_MazeOk.calls a0_0 a0_1 a0_2 b W hm
 have HCL := aK (show ∀ W : World, W.heap[w.heap.size]? = some (.cells #[.int .i64 a0_0, .int .i64 a0_1, .int .i64 a0_2, .int .i64 a0_3, .slice A0_4 l0_4.length c0_4] 30 (0, 0)) → W.cell? ⟨w.heap.size, 0, none⟩ = some (.int .i64 a0_0) ∧ W.cell? ⟨w.heap.size, 1, none⟩ = some (.int .i64 a0_1) ∧ W.cell? ⟨w.heap.size, 2, none⟩ = some (.int .i64 a0_2) ∧ W.cell? ⟨w.heap.size, 3, none⟩ = some (.int .i64 a0_3) ∧ W.cell? ⟨w.heap.size, 4, none⟩ = some (.slice A0_4 l0_4.length c0_4) from fun W hb =>
  ⟨(kC hb 0).trans rfl, (kC hb 1).trans rfl, (kC hb 2).trans rfl, (kC hb 3).trans rfl, (kC hb 4).trans rfl⟩)
 cases b with
 | false =>
  rw [if_neg Bool.false_ne_true] at H
  obtain rfl := Option.some.inj H
  go_enter Try.func140, Try.ntmps140
  go_wp2_with (go_at_call 95; rw [← HW.out]; refine (HM _).mono ?_; rintro e w1 ⟨rfl, hb⟩; have HB1 := aK (HB0.out.trans (hb.mono HB0.out.size)); have KT1 := aK ((hb.block _ (by have := SZ.out; omega)).trans K0.out); obtain ⟨k0, k1, k2, k3, k4⟩ := HCL.out w1 KT1.out; clear hb)
  go_ret
  exact ⟨rfl, HB1.out⟩
 | true =>
  rw [if_pos rfl] at H
  obtain ⟨q, hq, H2⟩ := Option.bind_eq_some_iff.mp H
  clear H
  have HIN1 := fun (W : World) => spec_l01In.calls a0_3 1 6 q W hq
  cases q with
  | false =>
   rw [if_neg Bool.false_ne_true] at H2
   obtain rfl := Option.some.inj H2
   go_enter Try.func140, Try.ntmps140
   go_wp2_with (first | (go_at_call 95; rw [← HW.out]; refine (HM _).mono ?_; rintro e w1 ⟨rfl, hb⟩; have HB1 := aK (HB0.out.trans (hb.mono HB0.out.size)); have KT1 := aK ((hb.block _ (by have := SZ.out; omega)).trans K0.out); obtain ⟨k0, k1, k2, k3, k4⟩ := HCL.out w1 KT1.out; clear hb) | (go_at_call 114; refine (HIN1 _).mono ?_; rintro e w2 ⟨rfl, hd⟩; have HB2 := aK (HB1.out.trans (hd.below.mono HB1.out.size)); have KT2 := aK ((hd.below.block _ (blk_lt KT1.out)).trans KT1.out); obtain ⟨m0, m1, m2, m3, m4⟩ := HCL.out w2 KT2.out; clear hd))
   go_ret
   exact ⟨rfl, HB2.out⟩
  | true =>
   rw [if_pos rfl] at H2
   by_cases q3 : (l0_4.length : Int) > 8
   ·rw [if_pos q3] at H2
    obtain rfl := Option.some.inj H2
    have h3b : decide ((l0_4.length : Int) > 8) = true := decide_eq_true q3
    clear q3
    go_enter Try.func140, Try.ntmps140
    go_wp2_with (first | (go_at_call 95; rw [← HW.out]; refine (HM _).mono ?_; rintro e w1 ⟨rfl, hb⟩; have HB1 := aK (HB0.out.trans (hb.mono HB0.out.size)); have KT1 := aK ((hb.block _ (by have := SZ.out; omega)).trans K0.out); obtain ⟨k0, k1, k2, k3, k4⟩ := HCL.out w1 KT1.out; clear hb) | (go_at_call 114; refine (HIN1 _).mono ?_; rintro e w2 ⟨rfl, hd⟩; have HB2 := aK (HB1.out.trans (hd.below.mono HB1.out.size)); have KT2 := aK ((hd.below.block _ (blk_lt KT1.out)).trans KT1.out); obtain ⟨m0, m1, m2, m3, m4⟩ := HCL.out w2 KT2.out; clear hd))
    go_ret
    exact ⟨rfl, HB2.out⟩
   ·by_cases hp0 : 0 ≤ a0_3
    ·rw [if_neg q3, if_pos hp0] at H2
     have H' := aK H2
     have h3b : decide ((l0_4.length : Int) > 8) = false := decide_eq_false q3
     have HP := aK q3
     obtain ⟨sh, hsh⟩ : ∃ sh, sh = shl .i64 1 a0_3 := ⟨_, rfl⟩
     have hs2 : wrap64 (2 ^ min a0_3.toNat 64) = sh := by rw [hsh]; unfold shl wrap64; rw [Int.one_mul, IntKind.wrap_i64]; rfl
     have HSH := aK hsh
     clear hsh
     obtain ⟨s1, hs1⟩ : ∃ s1, s1 = wrap64 (sh - 1) := ⟨_, rfl⟩
     have hs3 : IntKind.i64.wrap (sh - 1) = s1 := by rw [hs1]; unfold wrap64; rw [IntKind.wrap_i64]
     have hs4 := hs1.symm
     have HS1 := aK hs1
     clear H2 q3 hs1
     go_enter Try.func140, Try.ntmps140
     go_wp2_with (first | (go_at_call 95; rw [← HW.out]; refine (HM _).mono ?_; rintro e w1 ⟨rfl, hb⟩; have HB1 := aK (HB0.out.trans (hb.mono HB0.out.size)); have KT1 := aK ((hb.block _ (by have := SZ.out; omega)).trans K0.out); obtain ⟨k0, k1, k2, k3, k4⟩ := HCL.out w1 KT1.out; clear hb) | (go_at_call 114; refine (HIN1 _).mono ?_; rintro e w2 ⟨rfl, hd⟩; have HB2 := aK (HB1.out.trans (hd.below.mono HB1.out.size)); have KT2 := aK ((hd.below.block _ (blk_lt KT1.out)).trans KT1.out); obtain ⟨m0, m1, m2, m3, m4⟩ := HCL.out w2 KT2.out; clear hd))
     clear k0 k1 k2 k3 k4 m0 m1 m2 m3 m4 h3b HB0 K0 SZ HW HM hm HIN1 hq
     go_loopg [3] 9 (fun gg v3 wr => ∃ i : Nat, v3 = .int .i64 i ∧ Aside0 (spec_TimedOk.l0 a0_0 a0_1 a0_2 a0_3 l0_4 gg i = some r) ∧ Aside0 (gg ≤ 9) ∧ Aside0 (wr.heap[w.heap.size]? = some (.cells #[.int .i64 a0_0, .int .i64 a0_1, .int .i64 a0_2, .int .i64 a0_3, .slice A0_4 l0_4.length c0_4] 30 (0, 0))) ∧ Aside0 (Below w.heap.size w wr))
     case atStart => exact ⟨0, rfl, H', ⟨Nat.le_refl _⟩, KT2, HB2⟩
     case round =>
      clear H' KT1 HB1 KT2 HB2
      obtain ⟨i, rfl, HA, HK, KT, HB⟩ := hrel
      cases gk with
      | zero => exact absurd HA.out (by simp [spec_TimedOk.l0])
      | succ k1 =>
       have H := HA.out
       clear HA
       simp only [spec_TimedOk.l0] at H
       rw [← HSH.out, ← HS1.out] at H
       by_cases hlt : i < l0_4.length
       ·rw [if_pos hlt] at H
        have hltz : (i : Int) < (l0_4.length : Int) := by omega
        have hiz : (0 : Int) ≤ (i : Int) := by omega
        obtain ⟨ad, rfl, hx0, hx1⟩ := at_T150 (Kd.C_below HR1.out HB.out) (i : Int) hiz hltz
        rw [Int.toNat_natCast] at hx0 hx1
        obtain ⟨b, hps, H2⟩ := Option.bind_eq_some_iff.mp H
        clear H
        obtain ⟨y, hy⟩ : ∃ y, y = rd_Gate l0_4 (i : Int) := ⟨_, rfl⟩
        rw [← hy] at hx0 hx1 hps H2
        have HY := aK hy
        clear hy
        obtain ⟨k0, k1_, k2, k3, k4⟩ := HCL.out wr KT.out
        have HPS := fun (W : World) => spec_IsPassage.calls a0_0 a0_1 a0_2 y.f0 b W hps
        cases b with
        | false =>
         rw [if_neg Bool.false_ne_true] at H2
         obtain rfl := Option.some.inj H2
         go_wp2
         obtain ⟨wg, hwg⟩ : ∃ wg : World, wg = wr.alloc (.cells #[.int .i64 y.f0, .int .i64 y.f1] 150) := ⟨_, rfl⟩
         have HCG := aK (show ∀ W : World, Below wg.heap.size wg W → W.cell? ⟨w.heap.size, 0, none⟩ = some (.int .i64 a0_0) ∧ W.cell? ⟨w.heap.size, 1, none⟩ = some (.int .i64 a0_1) ∧ W.cell? ⟨w.heap.size, 2, none⟩ = some (.int .i64 a0_2) ∧ W.cell? ⟨w.heap.size, 3, none⟩ = some (.int .i64 a0_3) ∧ W.cell? ⟨w.heap.size, 4, none⟩ = some (.slice (some ad) l0_4.length c0_4) ∧ W.cell? ⟨wr.heap.size, 0, none⟩ = some (.int .i64 y.f0) ∧ W.cell? ⟨wr.heap.size, 1, none⟩ = some (.int .i64 y.f1) from fun W hb => by
          have hs : wg.heap.size = wr.heap.size + 1 := by rw [hwg]; simp
          have hlt2 := blk_lt KT.out
          have e1 : W.heap[w.heap.size]? = some (.cells #[.int .i64 a0_0, .int .i64 a0_1, .int .i64 a0_2, .int .i64 a0_3, .slice (some ad) l0_4.length c0_4] 30 (0, 0)) := (hb.block _ (by omega)).trans (by rw [hwg]; exact kA KT.out _)
          have e2 : W.heap[wr.heap.size]? = some (.cells #[.int .i64 y.f0, .int .i64 y.f1] 150 (0, 0)) := (hb.block _ (by omega)).trans (by rw [hwg]; exact heap_alloc_new wr _)
          exact ⟨(kC e1 0).trans rfl, (kC e1 1).trans rfl, (kC e1 2).trans rfl, (kC e1 3).trans rfl, (kC e1 4).trans rfl, (kC e2 0).trans rfl, (kC e2 1).trans rfl⟩)
         have HBG := aK (show Below w.heap.size w wg by rw [hwg]; exact HB.out.alloc HB.out.size _)
         rw [← hwg]
         clear hwg
         have G0 := fun x : Cls wg => (HCG.out x.W x.h).1
         have G1 := fun x : Cls wg => (HCG.out x.W x.h).2.1
         have G2 := fun x : Cls wg => (HCG.out x.W x.h).2.2.1
         have G3 := fun x : Cls wg => (HCG.out x.W x.h).2.2.2.1
         have G4 := fun x : Cls wg => (HCG.out x.W x.h).2.2.2.2.1
         have G5 := fun x : Cls wg => (HCG.out x.W x.h).2.2.2.2.2.1
         have G6 := fun x : Cls wg => (HCG.out x.W x.h).2.2.2.2.2.2
         refine wp_region_cls (C := fun W => ∃ x : Cls wg, W = x.W) (by kernel_rfl) (by kernel_rfl) (cls_drew wg) ?_
         repeat (go_big_quiet_step (((go_at_call 96; exact cls_call (HPS _)))))
         refine wpQuiet_nil ?_
         rintro _ ⟨⟨w5, hb5⟩, rfl⟩
         go_wp2
         go_ret
         exact ⟨rfl, HBG.out.trans (hb5.mono HBG.out.size)⟩
        | true =>
         rw [if_pos rfl] at H2
         have HLEN := aK (show i < 9 by have := HP.out; omega)
         obtain ⟨z, hz⟩ : ∃ z, z = rd_Gate l0_4 ((i : Int) - 1) := ⟨_, rfl⟩
         rw [← hz] at H2
         have HZ := aK hz
         clear hz
         go_wp2
         obtain ⟨wg, hwg⟩ : ∃ wg : World, wg = wr.alloc (.cells #[.int .i64 y.f0, .int .i64 y.f1] 150) := ⟨_, rfl⟩
         have HCG := aK (show ∀ W : World, Below wg.heap.size wg W → W.cell? ⟨w.heap.size, 0, none⟩ = some (.int .i64 a0_0) ∧ W.cell? ⟨w.heap.size, 1, none⟩ = some (.int .i64 a0_1) ∧ W.cell? ⟨w.heap.size, 2, none⟩ = some (.int .i64 a0_2) ∧ W.cell? ⟨w.heap.size, 3, none⟩ = some (.int .i64 a0_3) ∧ W.cell? ⟨w.heap.size, 4, none⟩ = some (.slice (some ad) l0_4.length c0_4) ∧ W.cell? ⟨wr.heap.size, 0, none⟩ = some (.int .i64 y.f0) ∧ W.cell? ⟨wr.heap.size, 1, none⟩ = some (.int .i64 y.f1) from fun W hb => by
          have hs : wg.heap.size = wr.heap.size + 1 := by rw [hwg]; simp
          have hlt2 := blk_lt KT.out
          have e1 : W.heap[w.heap.size]? = some (.cells #[.int .i64 a0_0, .int .i64 a0_1, .int .i64 a0_2, .int .i64 a0_3, .slice (some ad) l0_4.length c0_4] 30 (0, 0)) := (hb.block _ (by omega)).trans (by rw [hwg]; exact kA KT.out _)
          have e2 : W.heap[wr.heap.size]? = some (.cells #[.int .i64 y.f0, .int .i64 y.f1] 150 (0, 0)) := (hb.block _ (by omega)).trans (by rw [hwg]; exact heap_alloc_new wr _)
          exact ⟨(kC e1 0).trans rfl, (kC e1 1).trans rfl, (kC e1 2).trans rfl, (kC e1 3).trans rfl, (kC e1 4).trans rfl, (kC e2 0).trans rfl, (kC e2 1).trans rfl⟩)
         have KTG := aK (show wg.heap[w.heap.size]? = some (.cells #[.int .i64 a0_0, .int .i64 a0_1, .int .i64 a0_2, .int .i64 a0_3, .slice (some ad) l0_4.length c0_4] 30 (0, 0)) by rw [hwg]; exact kA KT.out _)
         have HBG := aK (show Below w.heap.size w wg by rw [hwg]; exact HB.out.alloc HB.out.size _)
         rw [← hwg]
         clear hwg
         have G0 := fun x : Cls wg => (HCG.out x.W x.h).1
         have G1 := fun x : Cls wg => (HCG.out x.W x.h).2.1
         have G2 := fun x : Cls wg => (HCG.out x.W x.h).2.2.1
         have G3 := fun x : Cls wg => (HCG.out x.W x.h).2.2.2.1
         have G4 := fun x : Cls wg => (HCG.out x.W x.h).2.2.2.2.1
         have G5 := fun x : Cls wg => (HCG.out x.W x.h).2.2.2.2.2.1
         have G6 := fun x : Cls wg => (HCG.out x.W x.h).2.2.2.2.2.2
         by_cases ci : 0 < i
         ·have ci2 := ci
          have hi1 : (0 : Int) ≤ (i : Int) - 1 := by omega
          have hi2 : (i : Int) - 1 < (l0_4.length : Int) := by omega
          have PV := aK (show ∀ x : Cls wg, x.W.cell? (ad.add ((i - 1) * 2)) = some (.int .i64 z.f0) from fun x => by
           obtain ⟨ad', e, h0, _⟩ := at_T150 (Kd.C_below HR1.out (HBG.out.trans (x.h.mono HBG.out.size))) ((i : Int) - 1) hi1 hi2
           cases e
           rw [HZ.out, ← show ((i : Int) - 1).toNat = i - 1 by omega]
           exact h0)
          have P0 := PV.out
          have i3 : decide ((i : Int) > 0) = true := decide_eq_true (by omega)
          have i4 : IntKind.i64.wrap ((i : Int) - 1) = (i : Int) - 1 := by have := HLEN.out; rw [IntKind.wrap_i64]; omega
          by_cases c1 : y.f0 ≤ z.f0
          ·rw [if_pos ⟨ci, c1⟩] at H2
           obtain rfl := Option.some.inj H2
           have c1b : decide (y.f0 ≤ z.f0) = true := decide_eq_true c1
           clear c1
           refine wp_region_cls (C := fun W => ∃ x : Cls wg, W = x.W) (by kernel_rfl) (by kernel_rfl) (cls_drew wg) ?_
           repeat (go_big_quiet_step (((go_at_call 96; exact cls_call (HPS _)))))
           refine wpQuiet_nil ?_
           rintro _ ⟨⟨w5, hb5⟩, rfl⟩
           go_wp2
           go_ret
           exact ⟨rfl, HBG.out.trans (hb5.mono HBG.out.size)⟩
          ·rw [if_neg (fun q => c1 q.2)] at H2
           have c1b : decide (y.f0 ≤ z.f0) = false := decide_eq_false c1
           clear c1
           rw [if_pos hp0] at H2
           obtain ⟨q, hq, H3⟩ := Option.bind_eq_some_iff.mp H2
           clear H2
           have HIN := fun (W : World) => spec_l01In.calls y.f1 0 s1 q W hq
           cases q with
           | false =>
            rw [if_neg Bool.false_ne_true] at H3
            obtain rfl := Option.some.inj H3
            refine wp_region_cls (C := fun W => ∃ x : Cls wg, W = x.W) (by kernel_rfl) (by kernel_rfl) (cls_drew wg) ?_
            repeat (go_big_quiet_step (((first | (go_at_call 96; exact cls_call (HPS _)) | (go_at_call 114; exact cls_call ((HIN _).mono (fun _ _ hh => ⟨hh.1, hh.2.below⟩)))))))
            refine wpQuiet_nil ?_
            rintro _ ⟨⟨w5, hb5⟩, rfl⟩
            go_wp2
            go_ret
            exact ⟨rfl, HBG.out.trans (hb5.mono HBG.out.size)⟩
           | true =>
            rw [if_pos rfl] at H3
            have H' := aK H3
            clear H3
            refine wp_region_cls (C := fun W => ∃ x : Cls wg, W = x.W) (by kernel_rfl) (by kernel_rfl) (cls_drew wg) ?_
            repeat (go_big_quiet_step (((first | (go_at_call 96; exact cls_call (HPS _)) | (go_at_call 114; exact cls_call ((HIN _).mono (fun _ _ hh => ⟨hh.1, hh.2.below⟩)))))))
            refine wpQuiet_nil ?_
            rintro _ ⟨⟨w5, hb5⟩, rfl⟩
            have KT5 := aK ((hb5.block _ (blk_lt KTG.out)).trans KTG.out)
            have HB5 := aK (HBG.out.trans (hb5.mono HBG.out.size))
            clear hb5 P0 i3 i4 hi1 hi2
            go_wp2
            go_roundg k1
            case measure => have := HK.out; omega
            case rel => exact ⟨i + 1, congrArg _ (by have := HLEN.out; first | omega | (unfold wrap64; omega)), H', ⟨by have := HK.out; omega⟩, KT5, HB5⟩
         ·rw [if_neg (fun q => ci q.1)] at H2
          have i3 : decide ((i : Int) > 0) = false := decide_eq_false (by omega)
          rw [if_pos hp0] at H2
          obtain ⟨q, hq, H3⟩ := Option.bind_eq_some_iff.mp H2
          clear H2
          have HIN := fun (W : World) => spec_l01In.calls y.f1 0 s1 q W hq
          cases q with
          | false =>
           rw [if_neg Bool.false_ne_true] at H3
           obtain rfl := Option.some.inj H3
           refine wp_region_cls (C := fun W => ∃ x : Cls wg, W = x.W) (by kernel_rfl) (by kernel_rfl) (cls_drew wg) ?_
           repeat (go_big_quiet_step (((first | (go_at_call 96; exact cls_call (HPS _)) | (go_at_call 114; exact cls_call ((HIN _).mono (fun _ _ hh => ⟨hh.1, hh.2.below⟩)))))))
           refine wpQuiet_nil ?_
           rintro _ ⟨⟨w5, hb5⟩, rfl⟩
           go_wp2
           go_ret
           exact ⟨rfl, HBG.out.trans (hb5.mono HBG.out.size)⟩
          | true =>
           rw [if_pos rfl] at H3
           have H' := aK H3
           clear H3
           refine wp_region_cls (C := fun W => ∃ x : Cls wg, W = x.W) (by kernel_rfl) (by kernel_rfl) (cls_drew wg) ?_
           repeat (go_big_quiet_step (((first | (go_at_call 96; exact cls_call (HPS _)) | (go_at_call 114; exact cls_call ((HIN _).mono (fun _ _ hh => ⟨hh.1, hh.2.below⟩)))))))
           refine wpQuiet_nil ?_
           rintro _ ⟨⟨w5, hb5⟩, rfl⟩
           have KT5 := aK ((hb5.block _ (blk_lt KTG.out)).trans KTG.out)
           have HB5 := aK (HBG.out.trans (hb5.mono HBG.out.size))
           clear hb5 i3
           go_wp2
           go_roundg k1
           case measure => have := HK.out; omega
           case rel => exact ⟨i + 1, congrArg _ (by have := HLEN.out; first | omega | (unfold wrap64; omega)), H', ⟨by have := HK.out; omega⟩, KT5, HB5⟩
       ·rw [if_neg hlt] at H
        obtain rfl := Option.some.inj H
        have hltz : ¬ (i : Int) < (l0_4.length : Int) := by omega
        obtain ⟨k0, k1_, k2, k3, k4⟩ := HCL.out wr KT.out
        go_wp2
        go_ret
        exact ⟨rfl, HB.out⟩
    ·rw [if_neg q3, if_neg hp0] at H2; exact absurd H2 (by simp)
theorem spec_TimedOk.ctr {k : Nat} {a0_0 : Int} {a0_1 : Int} {a0_2 : Int} {a0_3 : Int} {l0_4 : List SGate} {r : Bool} (h : spec_TimedOk.f k a0_0 a0_1 a0_2 a0_3 l0_4 = some r) : Ctr Try.prog 140 [.ag [.v (.int .i64 a0_0), .v (.int .i64 a0_1), .v (.int .i64 a0_2), .v (.int .i64 a0_3), .pr 2 (l0_4.map eGate)]] (.v (.bool r)) := by
  refine ⟨enters_of Try.func140 rfl rfl, fun w ys hys => ?_⟩
  simp only [RepL, Rep] at hys
  obtain ⟨_, _, rfl, ⟨_, rfl, _, _, rfl, rfl, _, _, rfl, rfl, _, _, rfl, rfl, _, _, rfl, rfl, _, _, rfl, q1, rfl⟩, rfl⟩ := hys
  obtain ⟨_, _, rfl, hr1, hc1⟩ := C_of_at E_eGate q1
  refine (spec_TimedOk.calls _ _ _ _ _ _ _ _ _ w hr1 hc1 h).mono ?_
  rintro _ _ ⟨rfl, hb⟩
  exact ⟨_, [], rfl, by simp [RepR, RepRL], List.nodup_nil, hb⟩
set_option maxRecDepth 20000 in set_option maxHeartbeats 4000000 in open Nat renaming reduceAdd → p1, reduceSub → p2, reduceMul → p3, reduceDiv → p4, reduceBNe → p5, reduceBEq → p6, reduceEqDiff → p7, reduceLeDiff → p8, reduceLT → p9 in open Int renaming reduceLE → p10, reduceLT → p11, reduceEq → p12 in
theorem spec_l29Next.ctr {k : Nat} {a0_0 : Int} {a0_1 : Int} {a0_2 : Int} {a1 : Int} {r : Int} (h : spec_l29Next.f k a0_0 a0_1 a0_2 a1 = some r) : Ctr Try.prog 141 [.ag [.v (.int .i64 a0_0), .v (.int .i64 a0_1), .v (.int .i64 a0_2)], .v (.int .i64 a1)] (.v (.int .i64 r)) := by
  refine Ctr_of tyOk hm Try.func141 rfl rfl (by kernel_rfl) (n := 35) (rv := [.tmp 4]) rfl rfl ?_
  simp only [W, List.replicate]
  unfold spec_l29Next.f at h
  try simp only [W, p1, p2, p3, p4, p5, p6, p7, p8, p9, p10, p11]
  refine loopN (fun x : Int × Int × Int × Int × Int × Int => [.u, .v (.int .i64 x.1), .bp 32 0, .u, .u, .v (.int .i64 x.2.1), .v (.int .i64 x.2.2.1), .u, .u, .u, .u, .u, .u, .u, .u, .u, .u, .u, .u, .u, .u, .u, .u, .u, .u, .u, .u, .u, .u, .u, .u, .u, .u, .u, .u, .u, .u]) (fun x => [(32, .box 27 [.v (.int .i64 x.2.2.2.1), .v (.int .i64 x.2.2.2.2.1), .v (.int .i64 x.2.2.2.2.2)])]) (fun n x => spec_l29Next.l0 n x.1 x.2.1 x.2.2.1 x.2.2.2.1 x.2.2.2.2.1 x.2.2.2.2.2 = some r) (a1, a1, 0, a0_0, a0_1, a0_2) [] h (by simp only [W, p1, p2, p3, p4, p5, p6, p7, p8, p9, p10, p11] <;> trivial) (by simp only [W, p1, p2, p3, p4, p5, p6, p7, p8, p9, p10, p11] <;> trivial) rfl (fun _ h => by cases h) ?_
  intro n1 ⟨x1, x2, x3, x4, x5, x6⟩ _ h
  simp only [spec_l29Next.l0] at h
  replace h := bnd h; obtain ⟨t7, A, h⟩ := h
  try simp only [W, p1, p2, p3, p4, p5, p6, p7, p8, p9, p10, p11]
  refine callR (spec_CountCells.ctr A) ?_
  replace h := ifS h; rcases h with ⟨c8, h⟩ | ⟨c8, h⟩
  · try simp only [W, c8, p1, p2, p3, p4, p5, p6, p7, p8, p9, p10, p11]
    refine loopN (fun x : Int × Int × Int × Int × Int × Int × Int => [.u, .v (.int .i64 x.1), .bp 32 0, .u, .u, .v (.int .i64 x.2.1), .v (.int .i64 x.2.2.1), .v (.int .i64 x.2.2.2.1), .u, .u, .u, .bp 32 0, .u, .u, .u, .u, .u, .u, .u, .u, .u, .u, .u, .u, .u, .u, .u, .u, .u, .u, .u, .u, .u, .u, .u, .u, .u]) (fun x => [(32, .box 27 [.v (.int .i64 x.2.2.2.2.1), .v (.int .i64 x.2.2.2.2.2.1), .v (.int .i64 x.2.2.2.2.2.2)])]) (fun n x => spec_l29Next.l1 n x.1 x.2.1 x.2.2.1 x.2.2.2.1 x.2.2.2.2.1 x.2.2.2.2.2.1 x.2.2.2.2.2.2 = some r) (x1, x2, x3, 0, x4, x5, x6) [] h (by simp only [W, p1, p2, p3, p4, p5, p6, p7, p8, p9, p10, p11] <;> trivial) (by simp only [W, p1, p2, p3, p4, p5, p6, p7, p8, p9, p10, p11] <;> trivial) rfl (fun _ h => by cases h) ?_
    intro n2 ⟨x9, x10, x11, x12, x13, x14, x15⟩ _ h
    simp only [spec_l29Next.l1] at h
    replace h := ifS h; rcases h with ⟨c16, h⟩ | ⟨c16, h⟩
    · replace h := bnd h; obtain ⟨t17, A, h⟩ := h
      try simp only [W, c16, p1, p2, p3, p4, p5, p6, p7, p8, p9, p10, p11]
      refine callR (spec_l03Bit.ctr A) ?_
      rcases n2 with _ | m18; · cases h
      rw [spec_l29Next.j2] at h
      replace h := ifT h; rcases h with ⟨rfl, h⟩ | ⟨rfl, h⟩
      · replace h := bnd h; obtain ⟨t20, A, h⟩ := h
        try simp only [W, c16, p1, p2, p3, p4, p5, p6, p7, p8, p9, p10, p11]
        refine callR (spec_Step.ctr A) ?_
        replace h := ifS h; rcases h with ⟨c21, h⟩ | ⟨c21, h⟩
        · replace h := ifN h; obtain ⟨c22, h⟩ := h
          try simp only [W, c16, c21, c22, p1, p2, p3, p4, p5, p6, p7, p8, p9, p10, p11]
          exact nextN (x9, (Go.bits .or .i64 x10 (shl .i64 1 t20)), x11, (wrap64 (x12 + 1)), x13, x14, x15) [] m18 (by omega) h (by simp only [W, p1, p2, p3, p4, p5, p6, p7, p8, p9, p10, p11] <;> trivial) (by simp only [W, p1, p2, p3, p4, p5, p6, p7, p8, p9, p10, p11] <;> trivial) rfl
        · try simp only [W, c16, c21, p1, p2, p3, p4, p5, p6, p7, p8, p9, p10, p11]
          exact nextN (x9, x10, x11, (wrap64 (x12 + 1)), x13, x14, x15) [] m18 (by omega) h (by simp only [W, p1, p2, p3, p4, p5, p6, p7, p8, p9, p10, p11] <;> trivial) (by simp only [W, p1, p2, p3, p4, p5, p6, p7, p8, p9, p10, p11] <;> trivial) rfl
      · try simp only [W, c16, p1, p2, p3, p4, p5, p6, p7, p8, p9, p10, p11]
        exact nextN (x9, x10, (wrap64 (x11 + 1)), x13, x14, x15) [] m18 (by omega) h (by simp only [W, p1, p2, p3, p4, p5, p6, p7, p8, p9, p10, p11] <;> trivial) (by simp only [W, p1, p2, p3, p4, p5, p6, p7, p8, p9, p10, p11] <;> trivial) rfl
    · rcases n2 with _ | m23; · cases h
      rw [spec_l29Next.j2] at h
      rw [if_neg (by decide)] at h
      try simp only [W, c16, p1, p2, p3, p4, p5, p6, p7, p8, p9, p10, p11]
      exact nextN (x9, x10, (wrap64 (x11 + 1)), x13, x14, x15) [] m23 (by omega) h (by simp only [W, p1, p2, p3, p4, p5, p6, p7, p8, p9, p10, p11] <;> trivial) (by simp only [W, p1, p2, p3, p4, p5, p6, p7, p8, p9, p10, p11] <;> trivial) rfl
  · cases h
    try simp only [W, c8, p1, p2, p3, p4, p5, p6, p7, p8, p9, p10, p11]
set_option maxRecDepth 20000 in set_option maxHeartbeats 4000000 in open Nat renaming reduceAdd → p1, reduceSub → p2, reduceMul → p3, reduceDiv → p4, reduceBNe → p5, reduceBEq → p6, reduceEqDiff → p7, reduceLeDiff → p8, reduceLT → p9 in open Int renaming reduceLE → p10, reduceLT → p11, reduceEq → p12 in
theorem spec_l29Maze.ctr {k : Nat} {a0_0 : Int} {a0_1 : Int} {a0_2 : Int} {a0_3 : Int} {l0_4 : List (SGate)} {a1 : Int} {r1 : Int} {r2 : Int} {r3 : Int} (h : spec_l29Maze.f k a0_0 a0_1 a0_2 a0_3 l0_4 a1 = some (r1, r2, r3)) : Ctr Try.prog 142 [.ag [.v (.int .i64 a0_0), .v (.int .i64 a0_1), .v (.int .i64 a0_2), .v (.int .i64 a0_3), .pr 2 (l0_4.map eGate)], .v (.int .i64 a1)] (.ag [.v (.int .i64 r1), .v (.int .i64 r2), .v (.int .i64 r3)]) := by
  refine Ctr_of tyOk hm Try.func142 rfl rfl (by kernel_rfl) (n := 38) (rv := [.cell 4 27]) rfl rfl ?_
  simp only [W, List.replicate]
  unfold spec_l29Maze.f at h
  try simp only [W, p1, p2, p3, p4, p5, p6, p7, p8, p9, p10, p11]
  refine loopN (fun x : Int × Int × Int × Int × Int × Int × List (SGate) × Int × Int × Int × Int × Int × Int => [.u, .v (.int .i64 x.1), .bp 32 0, .u, .bp 64 0, .bp 80 0, .v (.int .i64 x.2.1), .bp 32 0, .u, .u, .u, .u, .u, .u, .u, .u, .u, .u, .u, .u, .u, .u, .u, .u, .u, .u, .u, .u, .u, .u, .u, .u, .u, .u, .u, .u, .u, .u, .u, .u]) (fun x => [(32, .box 30 [.v (.int .i64 x.2.2.1), .v (.int .i64 x.2.2.2.1), .v (.int .i64 x.2.2.2.2.1), .v (.int .i64 x.2.2.2.2.2.1), .pr 2 (List.map eGate x.2.2.2.2.2.2.1)]), (64, .box 27 [.v (.int .i64 x.2.2.2.2.2.2.2.2.2.2.1), .v (.int .i64 x.2.2.2.2.2.2.2.2.2.2.2.1), .v (.int .i64 x.2.2.2.2.2.2.2.2.2.2.2.2)]), (80, .box 27 [.v (.int .i64 x.2.2.2.2.2.2.2.1), .v (.int .i64 x.2.2.2.2.2.2.2.2.1), .v (.int .i64 x.2.2.2.2.2.2.2.2.2.1)])]) (fun n x => spec_l29Maze.l0 n x.1 x.2.1 x.2.2.1 x.2.2.2.1 x.2.2.2.2.1 x.2.2.2.2.2.1 x.2.2.2.2.2.2.1 x.2.2.2.2.2.2.2.1 x.2.2.2.2.2.2.2.2.1 x.2.2.2.2.2.2.2.2.2.1 = some (r1, r2, r3)) (a1, 0, a0_0, a0_1, a0_2, a0_3, l0_4, a0_0, a0_1, a0_2, 0, 0, 0) [] h (by simp only [W, p1, p2, p3, p4, p5, p6, p7, p8, p9, p10, p11] <;> trivial) (by simp only [W, p1, p2, p3, p4, p5, p6, p7, p8, p9, p10, p11] <;> trivial) rfl (fun _ h => by cases h) ?_
  intro n1 ⟨x1, x2, x3, x4, x5, x6, x7, x8, x9, x10, y11, y12, y13⟩ _ h
  simp only [spec_l29Maze.l0] at h
  replace h := ifS h; rcases h with ⟨c14, h⟩ | ⟨c14, h⟩
  · replace h := ifN h; obtain ⟨c15, h⟩ := h
    replace h := ifM h; obtain ⟨c16, h⟩ := h
    replace h := bnd h; obtain ⟨t17, A, h⟩ := h
    try simp only [W, c14, c15, c16, p1, p2, p3, p4, p5, p6, p7, p8, p9, p10, p11]
    refine callR (spec_l03Bit.ctr A) ?_
    replace h := ifT h; rcases h with ⟨rfl, h⟩ | ⟨rfl, h⟩
    · try simp only [W, c14, c15, c16, p1, p2, p3, p4, p5, p6, p7, p8, p9, p10, p11]
      exact nextN (x1, (wrap64 (x2 + 1)), x3, x4, x5, x6, x7, x8, x9, x10, y11, y12, y13) [] n1 (by omega) h (by simp only [W, p1, p2, p3, p4, p5, p6, p7, p8, p9, p10, p11] <;> trivial) (by simp only [W, p1, p2, p3, p4, p5, p6, p7, p8, p9, p10, p11] <;> trivial) rfl
    · replace h := bnd h; obtain ⟨⟨t19_1, t19_2, t19_3, t19_4⟩, A, h⟩ := h
      dsimp only at h
      try simp only [W, c14, c15, c16, p1, p2, p3, p4, p5, p6, p7, p8, p9, p10, p11]
      refine callR (spec_SetGap.ctr A) ?_
      try simp only [W, c14, c15, c16, p1, p2, p3, p4, p5, p6, p7, p8, p9, p10, p11]
      exact nextN (x1, (wrap64 (x2 + 1)), x3, x4, x5, x6, x7, t19_1, t19_2, t19_3, y11, y12, y13) [] n1 (by omega) h (by simp only [W, p1, p2, p3, p4, p5, p6, p7, p8, p9, p10, p11] <;> trivial) (by simp only [W, p1, p2, p3, p4, p5, p6, p7, p8, p9, p10, p11] <;> trivial) rfl
  · cases h
    try simp only [W, c14, p1, p2, p3, p4, p5, p6, p7, p8, p9, p10, p11]
end Go.Proofs.Ytpeehicekddjhaa.F
end

section
namespace Go.Proofs.Ytpeehicekddjhaa.F
open Go.RowKit Go.Proofs.YtpeehicekddjhaaW.PrintWords Go.Proofs.YtpeehicekddjhaaW.PrintLast Go.Proofs.YtpeehicekddjhaaW.PrintMore
set_option linter.unusedVariables false
set_option linter.unusedSimpArgs false
attribute [local go_sem] max2_int min2_int max_two min_two
set_option maxRecDepth 20000 in set_option maxHeartbeats 4000000 in open Nat renaming reduceAdd → p1, reduceSub → p2, reduceMul → p3, reduceDiv → p4, reduceBNe → p5, reduceBEq → p6, reduceEqDiff → p7, reduceLeDiff → p8, reduceLT → p9 in open Int renaming reduceLE → p10, reduceLT → p11, reduceEq → p12 in
theorem spec_EarliestAt.ctr {k : Nat} {a0_0 : Int} {a0_1 : Int} {a0_2 : Int} {a0_3 : Int} {l0_4 : List (SGate)} {a1 : Int} {a2 : Int} {a3 : Int} {r : Int} (h : spec_EarliestAt.f k a0_0 a0_1 a0_2 a0_3 l0_4 a1 a2 a3 = some r) : Ctr Try.prog 70 [.ag [.v (.int .i64 a0_0), .v (.int .i64 a0_1), .v (.int .i64 a0_2), .v (.int .i64 a0_3), .pr 2 (l0_4.map eGate)], .v (.int .i64 a1), .v (.int .i64 a2), .v (.int .i64 a3)] (.v (.int .i64 r)) := by
  refine Ctr_of tyOk hm Try.func70 rfl rfl (by kernel_rfl) (n := 62) (rv := [.tmp 8]) rfl rfl ?_
  simp only [W, List.replicate]
  unfold spec_EarliestAt.f at h
  replace h := bnd h; obtain ⟨t1, A, h⟩ := h
  try simp only [W, p1, p2, p3, p4, p5, p6, p7, p8, p9, p10, p11]
  refine callR (spec_TimedOk.ctr A) ?_
  replace h := ifT h; rcases h with ⟨rfl, h⟩ | ⟨rfl, h⟩
  · replace h := bnd h; obtain ⟨t3, A, h⟩ := h
    try simp only [W, p1, p2, p3, p4, p5, p6, p7, p8, p9, p10, p11]
    refine callR (spec_l04Has.ctr A) ?_
    replace h := ifT h; rcases h with ⟨rfl, h⟩ | ⟨rfl, h⟩
    · replace h := bnd h; obtain ⟨t5, A, h⟩ := h
      try simp only [W, p1, p2, p3, p4, p5, p6, p7, p8, p9, p10, p11]
      refine callR (spec_l04Has.ctr A) ?_
      replace h := ifT h; rcases h with ⟨rfl, h⟩ | ⟨rfl, h⟩
      · replace h := bnd h; obtain ⟨t7, A, h⟩ := h
        try simp only [W, p1, p2, p3, p4, p5, p6, p7, p8, p9, p10, p11]
        refine callR (spec_l01In.ctr A) ?_
        rcases k with _ | m8; · cases h
        rw [spec_EarliestAt.j0] at h
        replace h := ifT h; rcases h with ⟨c9, h⟩ | ⟨c9, h⟩
        · cases h
          try simp only [W, c9, p1, p2, p3, p4, p5, p6, p7, p8, p9, p10, p11]
        · replace h := ifN h; obtain ⟨c10, h⟩ := h
          try simp only [W, c9, c10, p1, p2, p3, p4, p5, p6, p7, p8, p9, p10, p11]
          refine loopN (fun x : Int × Int × Int × Int × Int × Int × Int × Int × Int × List (SGate) => [.u, .u, .v (.int .i64 x.1), .v (.int .i64 x.2.1), .bp 64 0, .u, .u, .u, .u, .v (.int .i64 x.2.2.1), .v (.int .i64 x.2.2.2.1), .v (.int .i64 x.2.2.2.2.1), .u, .u, .u, .u, .u, .bp 64 0, .u, .u, .u, .u, .u, .u, .bp 64 0, .u, .u, .u, .u, .u, .u, .u, .u, .u, .u, .u, .u, .u, .u, .u, .u, .u, .u, .u, .u, .u, .u, .u, .u, .u, .u, .u, .u, .u, .u, .u, .u, .u, .u, .u, .u, .u, .u, .u, .u, .u]) (fun x => [(64, .box 30 [.v (.int .i64 x.2.2.2.2.2.1), .v (.int .i64 x.2.2.2.2.2.2.1), .v (.int .i64 x.2.2.2.2.2.2.2.1), .v (.int .i64 x.2.2.2.2.2.2.2.2.1), .pr 2 (List.map eGate x.2.2.2.2.2.2.2.2.2)])]) (fun n x => spec_EarliestAt.l0 n x.1 x.2.1 x.2.2.1 x.2.2.2.1 x.2.2.2.2.1 x.2.2.2.2.2.1 x.2.2.2.2.2.2.1 x.2.2.2.2.2.2.2.1 x.2.2.2.2.2.2.2.2.1 x.2.2.2.2.2.2.2.2.2 = some r) (a2, a3, (shl .i64 1 a1), 0, 0, a0_0, a0_1, a0_2, a0_3, l0_4) [] h (by simp only [W, p1, p2, p3, p4, p5, p6, p7, p8, p9, p10, p11] <;> trivial) (by simp only [W, p1, p2, p3, p4, p5, p6, p7, p8, p9, p10, p11] <;> trivial) rfl (fun _ h => by cases h) ?_
          intro n1 ⟨x11, x12, x13, x14, x15, x16, x17, x18, x19, x20⟩ _ h
          simp only [spec_EarliestAt.l0] at h
          replace h := ifS h; rcases h with ⟨c21, h⟩ | ⟨c21, h⟩
          · rcases n1 with _ | m22; · cases h
            rw [spec_EarliestAt.j2] at h
            replace h := ifT h; rcases h with ⟨c23, h⟩ | ⟨c23, h⟩
            · replace h := bnd h; obtain ⟨t24, A, h⟩ := h
              try simp only [W, c21, c23, p1, p2, p3, p4, p5, p6, p7, p8, p9, p10, p11]
              refine callR (spec_l03Bit.ctr A) ?_
              replace h := ifT h; rcases h with ⟨rfl, h⟩ | ⟨rfl, h⟩
              · cases h
                try simp only [W, c21, c23, p1, p2, p3, p4, p5, p6, p7, p8, p9, p10, p11]
              · replace h := bnd h; obtain ⟨⟨t26_1, t26_2, t26_3⟩, A, h⟩ := h
                dsimp only at h
                try simp only [W, c21, c23, p1, p2, p3, p4, p5, p6, p7, p8, p9, p10, p11]
                refine callR (spec_l29Maze.ctr A) ?_
                replace h := bnd h; obtain ⟨t27, A, h⟩ := h
                try simp only [W, c21, c23, p1, p2, p3, p4, p5, p6, p7, p8, p9, p10, p11]
                refine callR (spec_l29Next.ctr A) ?_
                replace h := ifS h; rcases h with ⟨c28, h⟩ | ⟨c28, h⟩
                · try simp only [W, c21, c23, eq_true c28, p1, p2, p3, p4, p5, p6, p7, p8, p9, p10, p11]
                  exact nextN (x11, x12, t27, (wrap64 (x14 + 1)), (wrap64 (x15 + 1)), x16, x17, x18, x19, x20) [] m22 (by omega) h (by simp only [W, p1, p2, p3, p4, p5, p6, p7, p8, p9, p10, p11] <;> trivial) (by simp only [W, p1, p2, p3, p4, p5, p6, p7, p8, p9, p10, p11] <;> trivial) rfl
                · try simp only [W, c21, c23, c28, p1, p2, p3, p4, p5, p6, p7, p8, p9, p10, p11]
                  exact nextN (x11, x12, t27, 0, (wrap64 (x15 + 1)), x16, x17, x18, x19, x20) [] m22 (by omega) h (by simp only [W, p1, p2, p3, p4, p5, p6, p7, p8, p9, p10, p11] <;> trivial) (by simp only [W, p1, p2, p3, p4, p5, p6, p7, p8, p9, p10, p11] <;> trivial) rfl
            · cases h
              try simp only [W, c21, c23, p1, p2, p3, p4, p5, p6, p7, p8, p9, p10, p11]
          · rcases n1 with _ | m29; · cases h
            rw [spec_EarliestAt.j2] at h
            rw [if_neg (by decide)] at h
            cases h
            try simp only [W, c21, p1, p2, p3, p4, p5, p6, p7, p8, p9, p10, p11]
      · rcases k with _ | m31; · cases h
        rw [spec_EarliestAt.j0] at h
        rw [if_pos rfl] at h
        cases h
        try simp only [W, p1, p2, p3, p4, p5, p6, p7, p8, p9, p10, p11]
    · rcases k with _ | m33; · cases h
      rw [spec_EarliestAt.j0] at h
      rw [if_pos rfl] at h
      cases h
      try simp only [W, p1, p2, p3, p4, p5, p6, p7, p8, p9, p10, p11]
  · rcases k with _ | m35; · cases h
    rw [spec_EarliestAt.j0] at h
    rw [if_pos rfl] at h
    cases h
    try simp only [W, p1, p2, p3, p4, p5, p6, p7, p8, p9, p10, p11]
set_option maxRecDepth 20000 in set_option maxHeartbeats 4000000 in open Nat renaming reduceAdd → p1, reduceSub → p2, reduceMul → p3, reduceDiv → p4, reduceBNe → p5, reduceBEq → p6, reduceEqDiff → p7, reduceLeDiff → p8, reduceLT → p9 in open Int renaming reduceLE → p10, reduceLT → p11, reduceEq → p12 in
theorem spec_CanFollow.ctr {k : Nat} {a0_0 : Int} {a0_1 : Int} {a0_2 : Int} {a0_3 : Int} {l0_4 : List (SGate)} {a1_0 : Int} {a1_1 : Int} {a2_0 : Int} {a2_1 : Int} {r : Bool} (h : spec_CanFollow.f k a0_0 a0_1 a0_2 a0_3 l0_4 a1_0 a1_1 a2_0 a2_1 = some r) : Ctr Try.prog 19 [.ag [.v (.int .i64 a0_0), .v (.int .i64 a0_1), .v (.int .i64 a0_2), .v (.int .i64 a0_3), .pr 2 (l0_4.map eGate)], .ag [.v (.int .i64 a1_0), .v (.int .i64 a1_1)], .ag [.v (.int .i64 a2_0), .v (.int .i64 a2_1)]] (.v (.bool r)) := by
  refine Ctr_of tyOk hm Try.func19 rfl rfl (by kernel_rfl) (n := 21) (rv := [.tmp 6]) rfl rfl ?_
  simp only [W, List.replicate]
  unfold spec_CanFollow.f at h
  replace h := bnd h; obtain ⟨t1, A, h⟩ := h
  try simp only [W, p1, p2, p3, p4, p5, p6, p7, p8, p9, p10, p11]
  refine callR (spec_EarliestAt.ctr A) ?_
  replace h := ifS h; rcases h with ⟨c2, h⟩ | ⟨c2, h⟩
  · cases h
    try simp only [W, c2, p1, p2, p3, p4, p5, p6, p7, p8, p9, p10, p11]
  · cases h
    try simp only [W, c2, p1, p2, p3, p4, p5, p6, p7, p8, p9, p10, p11]
end Go.Proofs.Ytpeehicekddjhaa.F
end

section
namespace Go.Proofs.Ytpeehicekddjhaa.F
open Go.RowKit Go.Proofs.YtpeehicekddjhaaW.PrintWords Go.Proofs.YtpeehicekddjhaaW.PrintLast Go.Proofs.YtpeehicekddjhaaW.PrintMore
set_option linter.unusedVariables false
set_option linter.unusedSimpArgs false
mutual
def laws_FnRecords.j0 : Nat → List (SEntry) → Bool → Int → Bool → Int → Int → Int → Int → List (SGate) → Option (Bool)
  | 0, _, _, _, _, _, _, _, _, _ => none
  | k + 1, x4, x5, x6, x42, x375000, x375001, x375002, x375003, x375004 => if x42 = true then (some false) else (if (x4.length : Int) < 2 then (some x5) else (if 0 < (x4.length : Int) then (if 0 ≤ (wrap64 ((x4.length : Int) - 1)) then (if (wrap64 ((x4.length : Int) - 1)) < (x4.length : Int) then (if x5 = true then ((impl_CanFollow.f x375000 x375001 x375002 x375003 x375004 ((rd_Entry x4 0).f0) ((rd_Entry x4 0).f1) ((rd_Entry x4 (wrap64 ((x4.length : Int) - 1))).f0) ((rd_Entry x4 (wrap64 ((x4.length : Int) - 1))).f1)).bind fun t382 => (if t382 = true then (if x6 > 0 then (if 0 ≤ (wrap64 (x6 - 1)) then (if (wrap64 (x6 - 1)) < (x4.length : Int) then (if 0 ≤ x6 then (if x6 < (x4.length : Int) then ((impl_CanFollow.f x375000 x375001 x375002 x375003 x375004 ((rd_Entry x4 (wrap64 (x6 - 1))).f0) ((rd_Entry x4 (wrap64 (x6 - 1))).f1) ((rd_Entry x4 x6).f0) ((rd_Entry x4 x6).f1)).bind fun t385 => (laws_FnRecords.j1 k t385 x375000 x375001 x375002 x375003 x375004 ((rd_Entry x4 0).f0) ((rd_Entry x4 0).f1) ((rd_Entry x4 (wrap64 ((x4.length : Int) - 1))).f0) ((rd_Entry x4 (wrap64 ((x4.length : Int) - 1))).f1))) else (none)) else (none)) else (none)) else (none)) else (laws_FnRecords.j1 k false x375000 x375001 x375002 x375003 x375004 ((rd_Entry x4 0).f0) ((rd_Entry x4 0).f1) ((rd_Entry x4 (wrap64 ((x4.length : Int) - 1))).f0) ((rd_Entry x4 (wrap64 ((x4.length : Int) - 1))).f1))) else (laws_FnRecords.j1 k true x375000 x375001 x375002 x375003 x375004 ((rd_Entry x4 0).f0) ((rd_Entry x4 0).f1) ((rd_Entry x4 (wrap64 ((x4.length : Int) - 1))).f0) ((rd_Entry x4 (wrap64 ((x4.length : Int) - 1))).f1)))) else (if x6 > 0 then (if 0 ≤ (wrap64 (x6 - 1)) then (if (wrap64 (x6 - 1)) < (x4.length : Int) then (if 0 ≤ x6 then (if x6 < (x4.length : Int) then ((impl_CanFollow.f x375000 x375001 x375002 x375003 x375004 ((rd_Entry x4 (wrap64 (x6 - 1))).f0) ((rd_Entry x4 (wrap64 (x6 - 1))).f1) ((rd_Entry x4 x6).f0) ((rd_Entry x4 x6).f1)).bind fun t388 => (laws_FnRecords.j1 k t388 x375000 x375001 x375002 x375003 x375004 ((rd_Entry x4 0).f0) ((rd_Entry x4 0).f1) ((rd_Entry x4 (wrap64 ((x4.length : Int) - 1))).f0) ((rd_Entry x4 (wrap64 ((x4.length : Int) - 1))).f1))) else (none)) else (none)) else (none)) else (none)) else (laws_FnRecords.j1 k false x375000 x375001 x375002 x375003 x375004 ((rd_Entry x4 0).f0) ((rd_Entry x4 0).f1) ((rd_Entry x4 (wrap64 ((x4.length : Int) - 1))).f0) ((rd_Entry x4 (wrap64 ((x4.length : Int) - 1))).f1)))) else (none)) else (none)) else (none)))
def laws_FnRecords.j1 : Nat → Bool → Int → Int → Int → Int → List (SGate) → Int → Int → Int → Int → Option (Bool)
  | 0, _, _, _, _, _, _, _, _, _, _ => none
  | k + 1, x80, x375000, x375001, x375002, x375003, x375004, x380000, x380001, x382000, x382001 => if x80 = true then (some false) else ((impl_BetweenCells.f x375000 x375001 x375002 x375003 x375004 x380000 x380001 x382000 x382001 (wrap64 (x380000 + 1))).bind fun t389 => ((impl_CanFollow.f x375000 x375001 x375002 x375003 x375004 x380000 x380001 x382000 x382001).bind fun t392 => (if t392 = true then (if x382000 = (wrap64 (x380000 + 1)) then (some true) else (if (t389.length : Int) > 0 then (if 0 < (t389.length : Int) then ((spec_CanFollow.f k x375000 x375001 x375002 x375003 x375004 x380000 x380001 (wrap64 (x380000 + 1)) (rd t389 0)).bind fun t394 => (some t394)) else (none)) else (some false))) else (some true))))
end
def laws_FnRecords.f (k : Nat) (l0 : List Int) : Option (Bool) := (laws_big.f l0).bind fun t363 => (if t363 = true then (some true) else ((spec_DrawRecord.f k l0).bind fun bt364 => ((impl_IsTrueRecord.f k bt364.1 bt364.2.1 bt364.2.2.1 bt364.2.2.2.1 bt364.2.2.2.2.1 bt364.2.2.2.2.2).bind fun t375 => ((impl_FirstFalse.f k bt364.1 bt364.2.1 bt364.2.2.1 bt364.2.2.2.1 bt364.2.2.2.2.1 bt364.2.2.2.2.2).bind fun t376 => ((impl_RecordOk.f k bt364.1 bt364.2.1 bt364.2.2.1 bt364.2.2.2.1 bt364.2.2.2.2.1 bt364.2.2.2.2.2).bind fun t377 => (if t377 = true then (if (t375 != (decide (t376 < 0))) = true then (laws_FnRecords.j0 k bt364.2.2.2.2.2 t375 t376 true bt364.1 bt364.2.1 bt364.2.2.1 bt364.2.2.2.1 bt364.2.2.2.2.1) else (if t376 = 0 then (laws_FnRecords.j0 k bt364.2.2.2.2.2 t375 t376 true bt364.1 bt364.2.1 bt364.2.2.1 bt364.2.2.2.1 bt364.2.2.2.2.1) else (laws_FnRecords.j0 k bt364.2.2.2.2.2 t375 t376 (decide (t376 ≥ (bt364.2.2.2.2.2.length : Int))) bt364.1 bt364.2.1 bt364.2.2.1 bt364.2.2.2.1 bt364.2.2.2.2.1))) else (laws_FnRecords.j0 k bt364.2.2.2.2.2 t375 t376 true bt364.1 bt364.2.1 bt364.2.2.1 bt364.2.2.2.1 bt364.2.2.2.2.1)))))))
end Go.Proofs.Ytpeehicekddjhaa.F
end

section
namespace Go.Proofs.Ytpeehicekddjhaa.F
open Go.RowKit Go.Proofs.YtpeehicekddjhaaW.PrintWords Go.Proofs.YtpeehicekddjhaaW.PrintLast Go.Proofs.YtpeehicekddjhaaW.PrintMore
set_option linter.unusedVariables false
set_option linter.unusedSimpArgs false
attribute [local go_sem] max2_int min2_int max_two min_two
set_option maxRecDepth 20000 in set_option maxHeartbeats 4000000 in open Nat renaming reduceAdd → p1, reduceSub → p2, reduceMul → p3, reduceDiv → p4, reduceBNe → p5, reduceBEq → p6, reduceEqDiff → p7, reduceLeDiff → p8, reduceLT → p9 in open Int renaming reduceLE → p10, reduceLT → p11, reduceEq → p12 in
theorem laws_FnRecords.ctr {k : Nat} {l0 : List Int} {r : Bool} (h : laws_FnRecords.f k l0 = some r) : Ctr Try.prog 3 [.pr 1 (l0.map eU8)] (.v (.bool r)) := by
  refine Ctr_of tyOk hm Try.func3 rfl rfl (by kernel_rfl) (n := 117) (rv := [.tmp 2]) rfl rfl ?_
  simp only [W, List.replicate]
  unfold laws_FnRecords.f at h
  replace h := bnd h; obtain ⟨t1, A, h⟩ := h
  try simp only [W, p1, p2, p3, p4, p5, p6, p7, p8, p9, p10, p11, p12]
  refine callR (laws_big.ctr A) ?_
  replace h := ifT h; rcases h with ⟨rfl, h⟩ | ⟨rfl, h⟩
  · cases h
    try simp only [W, p1, p2, p3, p4, p5, p6, p7, p8, p9, p10, p11, p12]
  · replace h := bnd h; obtain ⟨⟨t3_1, t3_2, t3_3, t3_4, t3_5, t3_6⟩, A, h⟩ := h
    dsimp only at h
    try simp only [W, p1, p2, p3, p4, p5, p6, p7, p8, p9, p10, p11, p12]
    refine callR (spec_DrawRecord.ctr A) ?_
    replace h := bnd h; obtain ⟨t4, A, h⟩ := h
    try simp only [W, p1, p2, p3, p4, p5, p6, p7, p8, p9, p10, p11, p12]
    refine callR (impl_IsTrueRecord.ctr A) ?_
    replace h := bnd h; obtain ⟨t5, A, h⟩ := h
    try simp only [W, p1, p2, p3, p4, p5, p6, p7, p8, p9, p10, p11, p12]
    refine callR (impl_FirstFalse.ctr A) ?_
    replace h := bnd h; obtain ⟨t6, A, h⟩ := h
    try simp only [W, p1, p2, p3, p4, p5, p6, p7, p8, p9, p10, p11, p12]
    refine callR (impl_RecordOk.ctr A) ?_
    replace h := ifT h; rcases h with ⟨rfl, h⟩ | ⟨rfl, h⟩
    · replace h := ifT h; rcases h with ⟨c8, h⟩ | ⟨c8, h⟩
      · rcases k with _ | m9; · cases h
        rw [laws_FnRecords.j0] at h
        rw [if_pos rfl] at h
        cases h
        try simp only [W, c8, p1, p2, p3, p4, p5, p6, p7, p8, p9, p10, p11, p12]
      · replace h := ifS h; rcases h with ⟨c11, h⟩ | ⟨c11, h⟩
        · rcases k with _ | m12; · cases h
          rw [laws_FnRecords.j0] at h
          rw [if_pos rfl] at h
          cases h
          try simp only [W, c8, eq_true c11, p1, p2, p3, p4, p5, p6, p7, p8, p9, p10, p11, p12]
        · rcases k with _ | m14; · cases h
          rw [laws_FnRecords.j0] at h
          replace h := ifT h; rcases h with ⟨c15, h⟩ | ⟨c15, h⟩
          · cases h
            try simp only [W, c8, c11, c15, p1, p2, p3, p4, p5, p6, p7, p8, p9, p10, p11, p12]
          · replace h := ifS h; rcases h with ⟨c16, h⟩ | ⟨c16, h⟩
            · cases h
              try simp only [W, c8, c11, c15, c16, p1, p2, p3, p4, p5, p6, p7, p8, p9, p10, p11, p12]
            · replace h := ifN h; obtain ⟨c17, h⟩ := h
              replace h := ifN h; obtain ⟨c18, h⟩ := h
              replace h := ifN h; obtain ⟨c19, h⟩ := h
              replace h := ifT h; rcases h with ⟨rfl, h⟩ | ⟨rfl, h⟩
              · replace h := bnd h; obtain ⟨t21, A, h⟩ := h
                try simp only [W, c8, c11, c15, c16, c17, c18, c19, p1, p2, p3, p4, p5, p6, p7, p8, p9, p10, p11, p12]
                refine callR (impl_CanFollow.ctr A) ?_
                replace h := ifT h; rcases h with ⟨rfl, h⟩ | ⟨rfl, h⟩
                · replace h := ifS h; rcases h with ⟨c23, h⟩ | ⟨c23, h⟩
                  · replace h := ifN h; obtain ⟨c24, h⟩ := h
                    replace h := ifN h; obtain ⟨c25, h⟩ := h
                    replace h := ifN h; obtain ⟨c26, h⟩ := h
                    replace h := ifN h; obtain ⟨c27, h⟩ := h
                    replace h := bnd h; obtain ⟨t28, A, h⟩ := h
                    try simp only [W, c8, c11, c15, c16, c17, c18, c19, c23, c24, c25, c26, c27, p1, p2, p3, p4, p5, p6, p7, p8, p9, p10, p11, p12]
                    refine callR (impl_CanFollow.ctr A) ?_
                    rcases m14 with _ | m29; · cases h
                    rw [laws_FnRecords.j1] at h
                    replace h := ifT h; rcases h with ⟨rfl, h⟩ | ⟨rfl, h⟩
                    · cases h
                      try simp only [W, c8, c11, c15, c16, c17, c18, c19, c23, c24, c25, c26, c27, p1, p2, p3, p4, p5, p6, p7, p8, p9, p10, p11, p12]
                    · replace h := bnd h; obtain ⟨t31, A, h⟩ := h
                      try simp only [W, c8, c11, c15, c16, c17, c18, c19, c23, c24, c25, c26, c27, p1, p2, p3, p4, p5, p6, p7, p8, p9, p10, p11, p12]
                      refine callR (impl_BetweenCells.ctr A) ?_
                      replace h := bnd h; obtain ⟨t32, A, h⟩ := h
                      try simp only [W, c8, c11, c15, c16, c17, c18, c19, c23, c24, c25, c26, c27, p1, p2, p3, p4, p5, p6, p7, p8, p9, p10, p11, p12]
                      refine callR (impl_CanFollow.ctr A) ?_
                      replace h := ifT h; rcases h with ⟨rfl, h⟩ | ⟨rfl, h⟩
                      · replace h := ifS h; rcases h with ⟨c34, h⟩ | ⟨c34, h⟩
                        · cases h
                          try simp only [W, c8, c11, c15, c16, c17, c18, c19, c23, c24, c25, c26, c27, eq_true c34, p1, p2, p3, p4, p5, p6, p7, p8, p9, p10, p11, p12]
                        · replace h := ifS h; rcases h with ⟨c35, h⟩ | ⟨c35, h⟩
                          · replace h := ifN h; obtain ⟨c36, h⟩ := h
                            replace h := bnd h; obtain ⟨t37, A, h⟩ := h
                            try simp only [W, c8, c11, c15, c16, c17, c18, c19, c23, c24, c25, c26, c27, c34, c35, c36, p1, p2, p3, p4, p5, p6, p7, p8, p9, p10, p11, p12]
                            refine callR (spec_CanFollow.ctr A) ?_
                            cases h
                            try simp only [W, c8, c11, c15, c16, c17, c18, c19, c23, c24, c25, c26, c27, c34, c35, c36, p1, p2, p3, p4, p5, p6, p7, p8, p9, p10, p11, p12]
                          · cases h
                            try simp only [W, c8, c11, c15, c16, c17, c18, c19, c23, c24, c25, c26, c27, c34, c35, p1, p2, p3, p4, p5, p6, p7, p8, p9, p10, p11, p12]
                      · cases h
                        try simp only [W, c8, c11, c15, c16, c17, c18, c19, c23, c24, c25, c26, c27, p1, p2, p3, p4, p5, p6, p7, p8, p9, p10, p11, p12]
                  · rcases m14 with _ | m38; · cases h
                    rw [laws_FnRecords.j1] at h
                    rw [if_neg (by decide)] at h
                    replace h := bnd h; obtain ⟨t40, A, h⟩ := h
                    try simp only [W, c8, c11, c15, c16, c17, c18, c19, c23, p1, p2, p3, p4, p5, p6, p7, p8, p9, p10, p11, p12]
                    refine callR (impl_BetweenCells.ctr A) ?_
                    replace h := bnd h; obtain ⟨t41, A, h⟩ := h
                    try simp only [W, c8, c11, c15, c16, c17, c18, c19, c23, p1, p2, p3, p4, p5, p6, p7, p8, p9, p10, p11, p12]
                    refine callR (impl_CanFollow.ctr A) ?_
                    replace h := ifT h; rcases h with ⟨rfl, h⟩ | ⟨rfl, h⟩
                    · replace h := ifS h; rcases h with ⟨c43, h⟩ | ⟨c43, h⟩
                      · cases h
                        try simp only [W, c8, c11, c15, c16, c17, c18, c19, c23, eq_true c43, p1, p2, p3, p4, p5, p6, p7, p8, p9, p10, p11, p12]
                      · replace h := ifS h; rcases h with ⟨c44, h⟩ | ⟨c44, h⟩
                        · replace h := ifN h; obtain ⟨c45, h⟩ := h
                          replace h := bnd h; obtain ⟨t46, A, h⟩ := h
                          try simp only [W, c8, c11, c15, c16, c17, c18, c19, c23, c43, c44, c45, p1, p2, p3, p4, p5, p6, p7, p8, p9, p10, p11, p12]
                          refine callR (spec_CanFollow.ctr A) ?_
                          cases h
                          try simp only [W, c8, c11, c15, c16, c17, c18, c19, c23, c43, c44, c45, p1, p2, p3, p4, p5, p6, p7, p8, p9, p10, p11, p12]
                        · cases h
                          try simp only [W, c8, c11, c15, c16, c17, c18, c19, c23, c43, c44, p1, p2, p3, p4, p5, p6, p7, p8, p9, p10, p11, p12]
                    · cases h
                      try simp only [W, c8, c11, c15, c16, c17, c18, c19, c23, p1, p2, p3, p4, p5, p6, p7, p8, p9, p10, p11, p12]
                · rcases m14 with _ | m47; · cases h
                  rw [laws_FnRecords.j1] at h
                  rw [if_pos rfl] at h
                  cases h
                  try simp only [W, c8, c11, c15, c16, c17, c18, c19, p1, p2, p3, p4, p5, p6, p7, p8, p9, p10, p11, p12]
              · replace h := ifS h; rcases h with ⟨c49, h⟩ | ⟨c49, h⟩
                · replace h := ifN h; obtain ⟨c50, h⟩ := h
                  replace h := ifN h; obtain ⟨c51, h⟩ := h
                  replace h := ifN h; obtain ⟨c52, h⟩ := h
                  replace h := ifN h; obtain ⟨c53, h⟩ := h
                  replace h := bnd h; obtain ⟨t54, A, h⟩ := h
                  try simp only [W, c8, c11, c15, c16, c17, c18, c19, c49, c50, c51, c52, c53, p1, p2, p3, p4, p5, p6, p7, p8, p9, p10, p11, p12]
                  refine callR (impl_CanFollow.ctr A) ?_
                  rcases m14 with _ | m55; · cases h
                  rw [laws_FnRecords.j1] at h
                  replace h := ifT h; rcases h with ⟨rfl, h⟩ | ⟨rfl, h⟩
                  · cases h
                    try simp only [W, c8, c11, c15, c16, c17, c18, c19, c49, c50, c51, c52, c53, p1, p2, p3, p4, p5, p6, p7, p8, p9, p10, p11, p12]
                  · replace h := bnd h; obtain ⟨t57, A, h⟩ := h
                    try simp only [W, c8, c11, c15, c16, c17, c18, c19, c49, c50, c51, c52, c53, p1, p2, p3, p4, p5, p6, p7, p8, p9, p10, p11, p12]
                    refine callR (impl_BetweenCells.ctr A) ?_
                    replace h := bnd h; obtain ⟨t58, A, h⟩ := h
                    try simp only [W, c8, c11, c15, c16, c17, c18, c19, c49, c50, c51, c52, c53, p1, p2, p3, p4, p5, p6, p7, p8, p9, p10, p11, p12]
                    refine callR (impl_CanFollow.ctr A) ?_
                    replace h := ifT h; rcases h with ⟨rfl, h⟩ | ⟨rfl, h⟩
                    · replace h := ifS h; rcases h with ⟨c60, h⟩ | ⟨c60, h⟩
                      · cases h
                        try simp only [W, c8, c11, c15, c16, c17, c18, c19, c49, c50, c51, c52, c53, eq_true c60, p1, p2, p3, p4, p5, p6, p7, p8, p9, p10, p11, p12]
                      · replace h := ifS h; rcases h with ⟨c61, h⟩ | ⟨c61, h⟩
                        · replace h := ifN h; obtain ⟨c62, h⟩ := h
                          replace h := bnd h; obtain ⟨t63, A, h⟩ := h
                          try simp only [W, c8, c11, c15, c16, c17, c18, c19, c49, c50, c51, c52, c53, c60, c61, c62, p1, p2, p3, p4, p5, p6, p7, p8, p9, p10, p11, p12]
                          refine callR (spec_CanFollow.ctr A) ?_
                          cases h
                          try simp only [W, c8, c11, c15, c16, c17, c18, c19, c49, c50, c51, c52, c53, c60, c61, c62, p1, p2, p3, p4, p5, p6, p7, p8, p9, p10, p11, p12]
                        · cases h
                          try simp only [W, c8, c11, c15, c16, c17, c18, c19, c49, c50, c51, c52, c53, c60, c61, p1, p2, p3, p4, p5, p6, p7, p8, p9, p10, p11, p12]
                    · cases h
                      try simp only [W, c8, c11, c15, c16, c17, c18, c19, c49, c50, c51, c52, c53, p1, p2, p3, p4, p5, p6, p7, p8, p9, p10, p11, p12]
                · rcases m14 with _ | m64; · cases h
                  rw [laws_FnRecords.j1] at h
                  rw [if_neg (by decide)] at h
                  replace h := bnd h; obtain ⟨t66, A, h⟩ := h
                  try simp only [W, c8, c11, c15, c16, c17, c18, c19, c49, p1, p2, p3, p4, p5, p6, p7, p8, p9, p10, p11, p12]
                  refine callR (impl_BetweenCells.ctr A) ?_
                  replace h := bnd h; obtain ⟨t67, A, h⟩ := h
                  try simp only [W, c8, c11, c15, c16, c17, c18, c19, c49, p1, p2, p3, p4, p5, p6, p7, p8, p9, p10, p11, p12]
                  refine callR (impl_CanFollow.ctr A) ?_
                  replace h := ifT h; rcases h with ⟨rfl, h⟩ | ⟨rfl, h⟩
                  · replace h := ifS h; rcases h with ⟨c69, h⟩ | ⟨c69, h⟩
                    · cases h
                      try simp only [W, c8, c11, c15, c16, c17, c18, c19, c49, eq_true c69, p1, p2, p3, p4, p5, p6, p7, p8, p9, p10, p11, p12]
                    · replace h := ifS h; rcases h with ⟨c70, h⟩ | ⟨c70, h⟩
                      · replace h := ifN h; obtain ⟨c71, h⟩ := h
                        replace h := bnd h; obtain ⟨t72, A, h⟩ := h
                        try simp only [W, c8, c11, c15, c16, c17, c18, c19, c49, c69, c70, c71, p1, p2, p3, p4, p5, p6, p7, p8, p9, p10, p11, p12]
                        refine callR (spec_CanFollow.ctr A) ?_
                        cases h
                        try simp only [W, c8, c11, c15, c16, c17, c18, c19, c49, c69, c70, c71, p1, p2, p3, p4, p5, p6, p7, p8, p9, p10, p11, p12]
                      · cases h
                        try simp only [W, c8, c11, c15, c16, c17, c18, c19, c49, c69, c70, p1, p2, p3, p4, p5, p6, p7, p8, p9, p10, p11, p12]
                  · cases h
                    try simp only [W, c8, c11, c15, c16, c17, c18, c19, c49, p1, p2, p3, p4, p5, p6, p7, p8, p9, p10, p11, p12]
    · rcases k with _ | m73; · cases h
      rw [laws_FnRecords.j0] at h
      rw [if_pos rfl] at h
      cases h
      try simp only [W, p1, p2, p3, p4, p5, p6, p7, p8, p9, p10, p11, p12]
theorem laws_FnRecords.calls (k : Nat) (A0 : Option Addr) (c0 : Nat) (l0 : List Int) (w : World) (hr0 : Kd.C (Kd.int .u8) w A0 l0.length l0) (hc0 : l0.length ≤ c0) (h : laws_FnRecords.f k l0 = some true) :
    Calls Try.prog 3 #[.slice A0 l0.length c0] w fun e w' => e = .returned (.bool true) ∧ Below w.heap.size w w' := by
  refine ((laws_FnRecords.ctr h).2 w [.slice A0 l0.length c0] (by simp only [RepL, Rep]; exact ⟨_, _, rfl, at_of_C E_eU8 hr0 hc0, rfl⟩)).mono ?_
  rintro _ _ ⟨y, L, rfl, hR, _, hb⟩
  exact ⟨congrArg Ending.returned (RepR_pln rfl hR).1, hb⟩
end Go.Proofs.Ytpeehicekddjhaa.F
end

section
namespace Go.Proofs.Ytpeehicekddjhaa.F
open Go.RowKit Go.Proofs.YtpeehicekddjhaaW.PrintWords Go.Proofs.YtpeehicekddjhaaW.PrintLast Go.Proofs.YtpeehicekddjhaaW.PrintMore
set_option linter.unusedVariables false
set_option linter.unusedSimpArgs false
theorem w64 {x : Int} (h1 : -9223372036854775808 ≤ x) (h2 : x ≤ 9223372036854775807) : wrap64 x = x := by unfold wrap64; omega
theorem wrapi_nat {n : Nat} (h : n < 9223372036854775808) : IntKind.i64.wrap (n : Int) = (n : Int) := by rw [IntKind.wrap_i64]; omega
theorem bits_and_i {a b : Nat} (ha : a < 2 ^ 63) (hb : b < 2 ^ 63) : Go.bits .and .i64 (a : Int) (b : Int) = ((a &&& b : Nat) : Int) :=
  (bits_nat .i64 63 (by decide) (fun n h0 h1 => by rw [IntKind.wrap_i64]; omega) a b ha hb).1
theorem bits_or_i {a b : Nat} (ha : a < 2 ^ 63) (hb : b < 2 ^ 63) : Go.bits .or .i64 (a : Int) (b : Int) = ((a ||| b : Nat) : Int) :=
  (bits_nat .i64 63 (by decide) (fun n h0 h1 => by rw [IntKind.wrap_i64]; omega) a b ha hb).2
theorem bits_xor_i {a b : Nat} (ha : a < 2 ^ 63) (hb : b < 2 ^ 63) : Go.bits .xor .i64 (a : Int) (b : Int) = ((a ^^^ b : Nat) : Int) := by
  have ha' : a % 2 ^ 64 = a := Nat.mod_eq_of_lt (by omega)
  have hb' : b % 2 ^ 64 = b := Nat.mod_eq_of_lt (by omega)
  have hx := Nat.xor_lt_two_pow ha hb
  show IntKind.i64.wrap (((BitVec.ofInt 64 (a : Int) ^^^ BitVec.ofInt 64 (b : Int)).toNat : Nat) : Int) = _
  rw [BitVec.ofInt_natCast, BitVec.ofInt_natCast, BitVec.toNat_xor, BitVec.toNat_ofNat, BitVec.toNat_ofNat, ha', hb']
  exact wrapi_nat (by omega)
theorem bits_andNot_i {a b : Nat} (ha : a < 2 ^ 63) (hb : b < 2 ^ 63) : Go.bits .andNot .i64 (a : Int) (b : Int) = ((a ^^^ (a &&& b) : Nat) : Int) := by
  have ha' : a % 2 ^ 64 = a := Nat.mod_eq_of_lt (by omega)
  have hb' : b % 2 ^ 64 = b := Nat.mod_eq_of_lt (by omega)
  have hx : a ^^^ (a &&& b) < 2 ^ 63 := Nat.xor_lt_two_pow ha (Nat.lt_of_le_of_lt Nat.and_le_left ha)
  have key : (BitVec.ofNat 64 a &&& ~~~BitVec.ofNat 64 b).toNat = a ^^^ (a &&& b) := by
    apply Nat.eq_of_testBit_eq
    intro i
    have e1 : (BitVec.ofNat 64 a &&& ~~~BitVec.ofNat 64 b).toNat.testBit i = (BitVec.ofNat 64 a &&& ~~~BitVec.ofNat 64 b).getLsbD i := rfl
    rw [e1]
    simp only [BitVec.getLsbD_and, BitVec.getLsbD_not, BitVec.getLsbD_ofNat, Nat.testBit_xor, Nat.testBit_and]
    by_cases hi : i < 64
    · simp [hi]
      cases a.testBit i <;> cases b.testBit i <;> rfl
    · have : a.testBit i = false := Nat.testBit_lt_two_pow (Nat.lt_of_lt_of_le ha (Nat.pow_le_pow_right (by decide) (by omega)))
      simp [hi, this]
  show IntKind.i64.wrap (((BitVec.ofInt 64 (a : Int) &&& ~~~BitVec.ofInt 64 (b : Int)).toNat : Nat) : Int) = _
  rw [BitVec.ofInt_natCast, BitVec.ofInt_natCast, key]
  exact wrapi_nat (by omega)
theorem shl_one {g : Nat} (h : g < 63) : shl .i64 1 (g : Int) = ((2 ^ g : Nat) : Int) := by
  unfold shl
  have : min ((g : Int).toNat) IntKind.i64.bits = g := by simp [IntKind.bits]; omega
  rw [this, Int.one_mul]
  have hp : (2 : Nat) ^ g ≤ 2 ^ 62 := Nat.pow_le_pow_right (by decide) (by omega)
  have : ((2 : Int) ^ g) = ((2 ^ g : Nat) : Int) := by simp
  rw [this]
  exact wrapi_nat (by omega)
theorem shr_nat {a g : Nat} (ha : a < 2 ^ 63) : shr .i64 (a : Int) (g : Int) = ((a >>> g : Nat) : Int) := by
  unfold shr
  rw [Nat.shiftRight_eq_div_pow]
  by_cases hg : g ≤ 64
  · have : min ((g : Int).toNat) IntKind.i64.bits = g := by simp [IntKind.bits]; omega
    rw [this]
    have : ((2 : Int) ^ g) = ((2 ^ g : Nat) : Int) := by simp
    rw [this]
    omega
  · have : min ((g : Int).toNat) IntKind.i64.bits = 64 := by simp [IntKind.bits]; omega
    rw [this]
    have hp : (2 : Nat) ^ 64 ≤ 2 ^ g := Nat.pow_le_pow_right (by decide) (by omega)
    rw [Nat.div_eq_of_lt (by omega)]
    have : (a : Int) / 2 ^ 64 = 0 := by omega
    simpa using this
def opn (o g : Int) : Bool := o.toNat.testBit g.toNat
theorem bit_test {o g : Int} (ho : 0 ≤ o) (ho2 : o < 9223372036854775808) (hg : 0 ≤ g) : (Go.bits .and .i64 (shr .i64 o g) 1 == 1) = opn o g := by
  obtain ⟨a, rfl⟩ := Int.eq_ofNat_of_zero_le ho
  obtain ⟨n, rfl⟩ := Int.eq_ofNat_of_zero_le hg
  have ha : a < 2 ^ 63 := by omega
  rw [shr_nat ha]
  have h2 : a >>> n < 2 ^ 63 := Nat.lt_of_le_of_lt (by rw [Nat.shiftRight_eq_div_pow]; exact Nat.div_le_self _ _) ha
  unfold opn
  simp only [Int.toNat_natCast]
  rw [show ((1 : Int)) = ((1 : Nat) : Int) from rfl, bits_and_i h2 (by decide), Nat.testBit, Nat.and_one_is_mod, Nat.one_and_eq_mod_two]
  rcases Nat.mod_two_eq_zero_or_one (a >>> n) with h | h <;> simp [h]
theorem fold_loop {σ ρ : Type} {F : Nat → σ → Int → Option ρ} {n c : Nat} {step : σ → Nat → σ} {fin : σ → ρ} {I : σ → Nat → Prop}
    (hF : ∀ k s (i : Nat), c ≤ k → i < n → I s i → F (k + 1) s (i : Int) = F k (step s i) ((i : Int) + 1)) (hI : ∀ s i, i < n → I s i → I (step s i) (i + 1))
    (hE : ∀ k s, c ≤ k → I s n → F (k + 1) s (n : Int) = some (fin s)) :
    ∀ (d i : Nat) (k : Nat) (s : σ), i + d = n → d + c + 1 ≤ k → I s i → F k s (i : Int) = some (fin ((List.range' i d).foldl step s))
  | 0, i, k, s, hi, hk, h => by
    obtain ⟨m, rfl⟩ : ∃ m, k = m + 1 := ⟨k - 1, by omega⟩
    obtain rfl : i = n := by omega
    simpa using hE m s (by omega) h
  | d + 1, i, k, s, hi, hk, h => by
    obtain ⟨m, rfl⟩ : ∃ m, k = m + 1 := ⟨k - 1, by omega⟩
    rw [hF m s i (by omega) (by omega) h, List.range'_succ, List.foldl_cons]
    have := fold_loop (c := c) (step := step) (fin := fin) hF hI hE d (i + 1) m (step s i) (by omega) (by omega) (hI s i (by omega) h)
    rwa [Int.natCast_add] at this
theorem inv_loop {σ ρ : Type} {F : Nat → σ → Int → Option ρ} {n c : Nat} {fin : σ → ρ} {I : σ → Nat → Prop}
    (hF : ∀ k s (i : Nat), c ≤ k → i < n → I s i → ∃ s', I s' (i + 1) ∧ F (k + 1) s (i : Int) = F k s' ((i : Int) + 1))
    (hE : ∀ k s, c ≤ k → I s n → F (k + 1) s (n : Int) = some (fin s)) :
    ∀ (d i : Nat) (k : Nat) (s : σ), i + d = n → d + c + 1 ≤ k → I s i → ∃ s', I s' n ∧ F k s (i : Int) = some (fin s')
  | 0, i, k, s, hi, hk, h => by
    obtain ⟨m, rfl⟩ : ∃ m, k = m + 1 := ⟨k - 1, by omega⟩
    obtain rfl : i = n := by omega
    exact ⟨s, h, hE m s (by omega) h⟩
  | d + 1, i, k, s, hi, hk, h => by
    obtain ⟨m, rfl⟩ : ∃ m, k = m + 1 := ⟨k - 1, by omega⟩
    obtain ⟨s', h', e⟩ := hF m s i (by omega) (by omega) h
    obtain ⟨s2, h2, e2⟩ := inv_loop (c := c) (fin := fin) hF hE d (i + 1) m s' (by omega) (by omega) h'
    rw [Int.natCast_add] at e2
    exact ⟨s2, h2, e.trans e2⟩
theorem all_loop {α : Type} (z : α) {F : Nat → Int → Option Bool} {l : List α} {p : α → Bool} {c : Nat} {b : Bool}
    (hF : ∀ k (i : Nat), c ≤ k → i < l.length → F (k + 1) (i : Int) = if p (l.getD i z) = true then F k ((i : Int) + 1) else some false) (hE : ∀ k, c ≤ k → F (k + 1) (l.length : Int) = some b) {k : Nat} (hk : l.length + c + 1 ≤ k) :
    F k 0 = some (l.all p && b) := by
  have key : ∀ (d i : Nat) (k : Nat), i + d = l.length → d + c + 1 ≤ k → F k (i : Int) = some ((l.drop i).all p && b) := by
    intro d
    induction d with
    | zero =>
      intro i k hi hk
      obtain ⟨m, rfl⟩ : ∃ m, k = m + 1 := ⟨k - 1, by omega⟩
      obtain rfl : i = l.length := by omega
      rw [hE m (by omega), List.drop_of_length_le (by omega)]
      simp
    | succ d ih =>
      intro i k hi hk
      obtain ⟨m, rfl⟩ : ∃ m, k = m + 1 := ⟨k - 1, by omega⟩
      have hil : i < l.length := by omega
      rw [hF m i (by omega) hil, List.drop_eq_getElem_cons hil, List.all_cons]
      have e : l.getD i z = l[i] := by rw [List.getD_eq_getElem?_getD, List.getElem?_eq_getElem hil]; rfl
      rw [e]
      have := ih (i + 1) m (by omega) (by omega)
      rw [Int.natCast_add] at this
      by_cases h : p l[i] = true
      · rw [if_pos h, h]
        simpa using this
      · rw [if_neg h]
        simp at h
        simp [h]
  have := key l.length 0 k (by omega) (by omega)
  simpa using this
theorem w64_succ {i n : Nat} (h : i < n) (hn : n ≤ 9223372036854775807) : wrap64 ((i : Int) + 1) = (i : Int) + 1 := w64 (by omega) (by omega)
end Go.Proofs.Ytpeehicekddjhaa.F
end

section
namespace Go.Proofs.Ytpeehicekddjhaa.F
open Go.RowKit Go.Proofs.YtpeehicekddjhaaW.PrintWords Go.Proofs.YtpeehicekddjhaaW.PrintLast Go.Proofs.YtpeehicekddjhaaW.PrintMore
set_option linter.unusedVariables false
set_option linter.unusedSimpArgs false
def gok (w h : Int) : Bool := decide (1 ≤ w ∧ w ≤ 4 ∧ 1 ≤ h ∧ h ≤ 4)
theorem gok_iff {w h : Int} : gok w h = true ↔ 1 ≤ w ∧ w ≤ 4 ∧ 1 ≤ h ∧ h ≤ 4 := by simp [gok]
theorem gok_wide {w h : Int} (H : gok w h = true) : w = 1 ∨ w = 2 ∨ w = 3 ∨ w = 4 := by rw [gok_iff] at H; omega
theorem gok_high {w h : Int} (H : gok w h = true) : h = 1 ∨ h = 2 ∨ h = 3 ∨ h = 4 := by rw [gok_iff] at H; omega
def cells (w h : Int) : Int := if gok w h then w * h else 0
def gaps (w h : Int) : Int := if gok w h then (w - 1) * h + w * (h - 1) else 0
theorem cells_bd (w h : Int) : 0 ≤ cells w h ∧ cells w h ≤ 16 := by
  unfold cells
  by_cases H : gok w h = true
  · rw [if_pos H]
    rcases gok_wide H with rfl | rfl | rfl | rfl <;> rcases gok_high H with rfl | rfl | rfl | rfl <;> omega
  · rw [if_neg H]; omega
theorem gaps_bd (w h : Int) : 0 ≤ gaps w h ∧ gaps w h ≤ 24 := by
  unfold gaps
  by_cases H : gok w h = true
  · rw [if_pos H]
    rcases gok_wide H with rfl | rfl | rfl | rfl <;> rcases gok_high H with rfl | rfl | rfl | rfl <;> omega
  · rw [if_neg H]; omega
theorem impl_GridOk_eq (w h : Int) : impl_GridOk.f w h = some (gok w h) := by
  unfold impl_GridOk.f gok
  by_cases h1 : w ≥ 1 <;> by_cases h2 : w ≤ 4 <;> by_cases h3 : h ≥ 1 <;> simp [*] <;> omega
theorem spec_l01In_eq (x a b : Int) : spec_l01In.f x a b = some (decide (a ≤ x ∧ x ≤ b)) := by
  unfold spec_l01In.f
  by_cases h1 : x ≥ a
  · simp [h1]
  · rw [if_neg h1]; simp; omega
theorem spec_GridOk_eq (w h : Int) : spec_GridOk.f w h = some (gok w h) := by
  unfold spec_GridOk.f
  simp only [spec_l01In_eq, Option.bind_some]
  unfold gok
  by_cases h1 : 1 ≤ w ∧ w ≤ 4
  · simp [h1]
  · rw [if_neg (by simpa using h1)]; simp; omega
theorem gok_mul {w h : Int} (H : gok w h = true) : 1 ≤ w * h ∧ w * h ≤ 16 ∧ 0 ≤ (w - 1) * h ∧ (w - 1) * h ≤ 12 ∧ 0 ≤ w * (h - 1) ∧ w * (h - 1) ≤ 12 := by
  rcases gok_wide H with rfl | rfl | rfl | rfl <;> rcases gok_high H with rfl | rfl | rfl | rfl <;> omega
theorem impl_CountCells_eq (w h : Int) : impl_CountCells.f w h = some (cells w h) := by
  unfold impl_CountCells.f cells
  rw [impl_GridOk_eq, Option.bind_some]
  by_cases H : gok w h = true
  · have := gok_mul H
    rw [if_pos H, if_pos H, w64 (by omega) (by omega)]
  · rw [if_neg H, if_neg H]
theorem spec_CountCells_eq (w h : Int) : spec_CountCells.f w h = some (cells w h) := by
  unfold spec_CountCells.f cells
  rw [spec_GridOk_eq, Option.bind_some]
  by_cases H : gok w h = true
  · have := gok_mul H
    rw [if_pos H, if_pos H, w64 (by omega) (by omega)]
  · rw [if_neg H, if_neg H]
theorem impl_CountGaps_eq (w h : Int) : impl_CountGaps.f w h = some (gaps w h) := by
  unfold impl_CountGaps.f gaps
  rw [impl_GridOk_eq, Option.bind_some]
  by_cases H : gok w h = true
  · have := gok_mul H
    have b := gok_iff.1 H
    rw [if_pos H, if_pos H, w64 (x := w - 1) (by omega) (by omega), w64 (x := h - 1) (by omega) (by omega), w64 (x := (w - 1) * h) (by omega) (by omega), w64 (x := w * (h - 1)) (by omega) (by omega), w64 (by omega) (by omega)]
  · rw [if_neg H, if_neg H]
theorem spec_CountGaps_eq (w h : Int) : spec_CountGaps.f w h = some (gaps w h) := by
  unfold spec_CountGaps.f spec_l02East.f gaps
  rw [spec_GridOk_eq, Option.bind_some]
  by_cases H : gok w h = true
  · have := gok_mul H
    have b := gok_iff.1 H
    rw [if_pos H, if_pos H, Option.bind_some, w64 (x := w - 1) (by omega) (by omega), w64 (x := h - 1) (by omega) (by omega), Int.mul_comm h (w - 1), w64 (x := (w - 1) * h) (by omega) (by omega), w64 (x := w * (h - 1)) (by omega) (by omega), w64 (by omega) (by omega)]
  · rw [if_neg H, if_neg H]
def icell (w h c : Int) : Bool := decide (0 ≤ c ∧ c < cells w h)
def igap (w h g : Int) : Bool := decide (0 ≤ g ∧ g < gaps w h)
theorem icell_iff {w h c : Int} : icell w h c = true ↔ 0 ≤ c ∧ c < cells w h := by simp [icell]
theorem igap_iff {w h c : Int} : igap w h c = true ↔ 0 ≤ c ∧ c < gaps w h := by simp [igap]
theorem impl_isCell_eq (w h c : Int) : impl_isCell.f w h c = some (icell w h c) := by
  unfold impl_isCell.f icell
  rw [impl_CountCells_eq]
  by_cases h1 : c ≥ 0
  · rw [if_pos h1]; simp [h1]
  · rw [if_neg h1]; simp; omega
theorem impl_isGap_eq (w h c : Int) : impl_isGap.f w h c = some (igap w h c) := by
  unfold impl_isGap.f igap
  rw [impl_CountGaps_eq]
  by_cases h1 : c ≥ 0
  · rw [if_pos h1]; simp [h1]
  · rw [if_neg h1]; simp; omega
theorem in_cells (w h c : Int) : decide (0 ≤ c ∧ c ≤ wrap64 (cells w h - 1)) = icell w h c := by
  have := cells_bd w h
  rw [w64 (by omega) (by omega)]
  unfold icell
  rw [Bool.eq_iff_iff]; simp; omega
theorem in_gaps (w h c : Int) : decide (0 ≤ c ∧ c ≤ wrap64 (gaps w h - 1)) = igap w h c := by
  have := gaps_bd w h
  rw [w64 (by omega) (by omega)]
  unfold igap
  rw [Bool.eq_iff_iff]; simp; omega
theorem icell_gok {w h c : Int} (H : icell w h c = true) : gok w h = true := by
  rw [icell_iff] at H
  unfold cells at H
  by_cases G : gok w h = true
  · exact G
  · rw [if_neg G] at H; omega
theorem icell_mul {w h c : Int} (H : icell w h c = true) : 0 ≤ c ∧ c < w * h := by
  have G := icell_gok H
  rw [icell_iff] at H
  unfold cells at H
  rwa [if_pos G] at H
def nb (w h c d : Int) : Int :=
  if icell w h c then
    (if d = 0 then (if c / w > 0 then c - w else -1) else if d = 1 then (if c % w < w - 1 then c + 1 else -1) else if d = 2 then (if c / w < h - 1 then c + w else -1) else if d = 3 then (if c % w > 0 then c - 1 else -1) else -1)
  else -1
theorem div_facts {w h c : Int} (G : gok w h = true) (H : 0 ≤ c ∧ c < w * h) : Int.tdiv c w = c / w ∧ Int.tmod c w = c % w ∧ wrap64 (c / w) = c / w ∧ 0 ≤ c / w ∧ c / w < h ∧ 0 ≤ c % w ∧ c % w < w ∧ w * (c / w) + c % w = c := by
  have b := gok_iff.1 G
  have e1 : Int.tdiv c w = c / w := Int.tdiv_eq_ediv_of_nonneg H.1
  have e2 : Int.tmod c w = c % w := Int.tmod_eq_emod_of_nonneg H.1
  have e3 : 0 ≤ c / w := Int.ediv_nonneg H.1 (by omega)
  have e4 : c / w < h := by
    apply Int.ediv_lt_of_lt_mul (by omega)
    rw [Int.mul_comm]; exact H.2
  exact ⟨e1, e2, w64 (by omega) (by omega), e3, e4, Int.emod_nonneg _ (by omega), Int.emod_lt_of_pos _ (by omega), Int.mul_ediv_add_emod c w⟩
theorem impl_Neighbor_eq {k : Nat} (hk : 3 ≤ k) (w h c d : Int) : impl_Neighbor.f k w h c d = some (nb w h c d) := by
  obtain ⟨m, rfl⟩ : ∃ m, k = m + 3 := ⟨k - 3, by omega⟩
  unfold impl_Neighbor.f nb
  rw [impl_isCell_eq, Option.bind_some]
  by_cases H : icell w h c = true
  · have G := icell_gok H
    have b := gok_iff.1 G
    have hc := icell_mul H
    have hm := gok_mul G
    obtain ⟨e1, e2, e3, y0, y1, x0, x1, hq⟩ := div_facts G hc
    rw [if_pos H, if_pos H, if_neg (by omega), e1, e2, e3]
    simp only [impl_Neighbor.j0, impl_Neighbor.j1, impl_Neighbor.j2]
    rw [w64 (x := w - 1) (by omega) (by omega), w64 (x := h - 1) (by omega) (by omega)]
    by_cases d0 : d = 0
    · subst d0
      by_cases t : c / w > 0 <;> simp [t, w64 (x := c - w) (by omega) (by omega)]
    by_cases d1 : d = 1
    · subst d1
      by_cases t : c % w < w - 1 <;> simp [t, w64 (x := c + 1) (by omega) (by omega)]
    by_cases d2 : d = 2
    · subst d2
      by_cases t : c / w < h - 1 <;> simp [t, w64 (x := c + w) (by omega) (by omega)]
    by_cases d3 : d = 3
    · subst d3
      by_cases t : c % w > 0 <;> simp [t, w64 (x := c - 1) (by omega) (by omega)]
    simp [d0, d1, d2, d3]
  · rw [if_neg H, if_neg H]
theorem spec_j0_eq {w h : Int} (G : gok w h = true) (m : Nat) {x y : Int} : spec_Neighbor.j0 (m + 1) x y w h = some (if 0 ≤ x ∧ x ≤ w - 1 ∧ 0 ≤ y ∧ y ≤ h - 1 then y * w + x else -1) := by
  have b := gok_iff.1 G
  simp only [spec_Neighbor.j0, spec_l01In_eq, Option.bind_some, decide_eq_true_eq]
  rw [w64 (x := w - 1) (by omega) (by omega), w64 (x := h - 1) (by omega) (by omega)]
  by_cases h1 : 0 ≤ x ∧ x ≤ w - 1
  · rw [if_pos h1]
    by_cases h2 : 0 ≤ y ∧ y ≤ h - 1
    · have l1 : y * w ≤ 3 * 4 := Int.mul_le_mul (by omega) (by omega) (by omega) (by omega)
      have l0 : 0 ≤ y * w := Int.mul_nonneg (by omega) (by omega)
      rw [if_pos h2, if_pos ⟨h1.1, h1.2, h2.1, h2.2⟩, w64 (x := y * w) (by omega) (by omega), w64 (by omega) (by omega)]
    · rw [if_neg h2, if_neg (fun h => h2 ⟨h.2.2.1, h.2.2.2⟩)]
  · rw [if_neg h1, if_neg (fun h => h1 ⟨h.1, h.2.1⟩)]
theorem spec_Neighbor_eq {k : Nat} (hk : 1 ≤ k) (w h c d : Int) : spec_Neighbor.f k w h c d = some (nb w h c d) := by
  obtain ⟨m, rfl⟩ : ∃ m, k = m + 1 := ⟨k - 1, by omega⟩
  unfold spec_Neighbor.f nb
  rw [spec_CountCells_eq, Option.bind_some, spec_l01In_eq, Option.bind_some, in_cells]
  by_cases H : icell w h c = true
  · have G := icell_gok H
    have b := gok_iff.1 G
    have hc := icell_mul H
    have hm := gok_mul G
    obtain ⟨e1, e2, e3, y0, y1, x0, x1, hq⟩ := div_facts G hc
    rw [if_pos H, if_pos H, if_neg (by omega), e1, e2, e3, w64 (x := c / w - 1) (by omega) (by omega), w64 (x := c / w + 1) (by omega) (by omega), w64 (x := c % w - 1) (by omega) (by omega), w64 (x := c % w + 1) (by omega) (by omega)]
    simp only [spec_j0_eq G]
    have p1 : (c / w - 1) * w = w * (c / w) - w := by rw [Int.sub_mul, Int.one_mul, Int.mul_comm]
    have p2 : (c / w + 1) * w = w * (c / w) + w := by rw [Int.add_mul, Int.one_mul, Int.mul_comm]
    have p3 : (c / w) * w = w * (c / w) := Int.mul_comm _ _
    rw [p1, p2, p3]
    by_cases d0 : d = 0
    · rw [if_pos d0, if_pos d0]
      by_cases t : c / w > 0
      · rw [if_pos (by omega), if_pos t]; congr 1; omega
      · rw [if_neg (by omega), if_neg t]
    rw [if_neg d0, if_neg d0]
    by_cases d1 : d = 1
    · rw [if_pos d1, if_pos d1]
      by_cases t : c % w < w - 1
      · rw [if_pos (by omega), if_pos t]; congr 1; omega
      · rw [if_neg (by omega), if_neg t]
    rw [if_neg d1, if_neg d1]
    by_cases d2 : d = 2
    · rw [if_pos d2, if_pos d2]
      by_cases t : c / w < h - 1
      · rw [if_pos (by omega), if_pos t]; congr 1; omega
      · rw [if_neg (by omega), if_neg t]
    rw [if_neg d2, if_neg d2]
    by_cases d3 : d = 3
    · rw [if_pos d3, if_pos d3]
      by_cases t : c % w > 0
      · rw [if_pos (by omega), if_pos t]; congr 1; omega
      · rw [if_neg (by omega), if_neg t]
    rw [if_neg d3, if_neg d3]
  · rw [if_neg H, if_neg H]
end Go.Proofs.Ytpeehicekddjhaa.F
end

section
namespace Go.Proofs.Ytpeehicekddjhaa.F
open Go.RowKit Go.Proofs.YtpeehicekddjhaaW.PrintWords Go.Proofs.YtpeehicekddjhaaW.PrintLast Go.Proofs.YtpeehicekddjhaaW.PrintMore
set_option linter.unusedVariables false
set_option linter.unusedSimpArgs false
theorem mn_min (a b : Int) : mn a b = min a b := by unfold mn; omega
theorem nb_facts {w h c d : Int} (H : 0 ≤ nb w h c d) : icell w h c = true ∧ icell w h (nb w h c d) = true ∧ 0 ≤ d ∧ d ≤ 3 := by
  unfold nb at H ⊢
  by_cases hc : icell w h c = true
  · have G := icell_gok hc
    have b := gok_iff.1 G
    have hm := icell_mul hc
    obtain ⟨_, _, _, y0, y1, x0, x1, hq⟩ := div_facts G hm
    rw [if_pos hc] at H ⊢
    have m1 : w * (c / w) ≤ w * (h - 1) := Int.mul_le_mul_of_nonneg_left (by omega) (by omega)
    have m2 : w * (h - 1) = w * h - w := by rw [Int.mul_sub, Int.mul_one]
    have ce : cells w h = w * h := by unfold cells; rw [if_pos G]
    refine ⟨hc, ?_, ?_⟩
    · rw [icell_iff, ce]
      by_cases d0 : d = 0
      · subst d0
        by_cases t : c / w > 0
        · have m3 : w * 1 ≤ w * (c / w) := Int.mul_le_mul_of_nonneg_left (by omega) (by omega)
          simp [t]; omega
        · simp [t] at H
      by_cases d1 : d = 1
      · subst d1
        by_cases t : c % w < w - 1
        · simp [t]; omega
        · simp [t] at H
      by_cases d2 : d = 2
      · subst d2
        by_cases t : c / w < h - 1
        · have m4 : w * (c / w + 1) ≤ w * (h - 1) := Int.mul_le_mul_of_nonneg_left (by omega) (by omega)
          rw [Int.mul_add, Int.mul_one] at m4
          simp [t]; omega
        · simp [t] at H
      by_cases d3 : d = 3
      · subst d3
        by_cases t : c % w > 0
        · simp [t]; omega
        · simp [t] at H
      simp [d0, d1, d2, d3] at H
    · by_cases d0 : d = 0
      · omega
      by_cases d1 : d = 1
      · omega
      by_cases d2 : d = 2
      · omega
      by_cases d3 : d = 3
      · omega
      simp [d0, d1, d2, d3] at H
  · rw [if_neg hc] at H; omega
def gp (w h c d : Int) : Int :=
  if nb w h c d < 0 then -1 else if d = 1 ∨ d = 3 then min c (nb w h c d) / w * (w - 1) + min c (nb w h c d) % w else (w - 1) * h + min c (nb w h c d)
theorem gp_neg {w h c d : Int} (H : nb w h c d < 0) : gp w h c d = -1 := by unfold gp; rw [if_pos H]
theorem min_facts {w h c d : Int} (H : 0 ≤ nb w h c d) : 0 ≤ min c (nb w h c d) ∧ min c (nb w h c d) < w * h ∧ gok w h = true := by
  obtain ⟨h1, h2, _, _⟩ := nb_facts H
  have a := icell_mul h1
  have b := icell_mul h2
  exact ⟨by omega, by omega, icell_gok h1⟩
theorem impl_GapAt_eq {k : Nat} (hk : 3 ≤ k) (w h c d : Int) : impl_GapAt.f k w h c d = some (gp w h c d) := by
  unfold impl_GapAt.f gp
  rw [impl_Neighbor_eq hk, Option.bind_some]
  by_cases H : nb w h c d < 0
  · rw [if_pos H, if_pos H]
  · have H' : 0 ≤ nb w h c d := by omega
    obtain ⟨m0, m1, G⟩ := min_facts H'
    have b := gok_iff.1 G
    have hm := gok_mul G
    rw [if_neg H, if_neg H, mn_min]
    obtain ⟨e1, e2, e3, y0, y1, x0, x1, hq⟩ := div_facts G ⟨m0, m1⟩
    have l1 : min c (nb w h c d) / w * (w - 1) ≤ 3 * 3 := Int.mul_le_mul (by omega) (by omega) (by omega) (by omega)
    have l0 : 0 ≤ min c (nb w h c d) / w * (w - 1) := Int.mul_nonneg y0 (by omega)
    have t1 : wrap64 (wrap64 (wrap64 (Int.tdiv (min c (nb w h c d)) w) * wrap64 (w - 1)) + Int.tmod (min c (nb w h c d)) w) = min c (nb w h c d) / w * (w - 1) + min c (nb w h c d) % w := by
      rw [e1, e2, e3, w64 (x := w - 1) (by omega) (by omega), w64 (x := _ * _) (by omega) (by omega), w64 (by omega) (by omega)]
    have t2 : wrap64 (wrap64 (wrap64 (w - 1) * h) + min c (nb w h c d)) = (w - 1) * h + min c (nb w h c d) := by
      rw [w64 (x := w - 1) (by omega) (by omega), w64 (x := (w - 1) * h) (by omega) (by omega), w64 (by omega) (by omega)]
    rw [t1, t2]
    by_cases d1 : d = 1
    · simp [d1]; omega
    · by_cases d3 : d = 3
      · simp [d3]; omega
      · simp [d1, d3]
theorem spec_GapAt_eq {k : Nat} (hk : 1 ≤ k) (w h c d : Int) : spec_GapAt.f k w h c d = some (gp w h c d) := by
  unfold spec_GapAt.f gp
  rw [spec_Neighbor_eq hk, Option.bind_some]
  by_cases H : nb w h c d < 0
  · rw [if_pos H, if_pos H]
  · have H' : 0 ≤ nb w h c d := by omega
    obtain ⟨m0, m1, G⟩ := min_facts H'
    have b := gok_iff.1 G
    have hm := gok_mul G
    rw [if_neg H, if_neg H, mn_min]
    obtain ⟨e1, e2, e3, y0, y1, x0, x1, hq⟩ := div_facts G ⟨m0, m1⟩
    have l1 : min c (nb w h c d) / w * (w - 1) ≤ 3 * 3 := Int.mul_le_mul (by omega) (by omega) (by omega) (by omega)
    have l0 : 0 ≤ min c (nb w h c d) / w * (w - 1) := Int.mul_nonneg y0 (by omega)
    have t1 : wrap64 (wrap64 (wrap64 (Int.tdiv (min c (nb w h c d)) w) * wrap64 (w - 1)) + Int.tmod (min c (nb w h c d)) w) = min c (nb w h c d) / w * (w - 1) + min c (nb w h c d) % w := by
      rw [e1, e2, e3, w64 (x := w - 1) (by omega) (by omega), w64 (x := _ * _) (by omega) (by omega), w64 (by omega) (by omega)]
    have t2 : wrap64 (wrap64 (h * wrap64 (w - 1)) + min c (nb w h c d)) = (w - 1) * h + min c (nb w h c d) := by
      rw [w64 (x := w - 1) (by omega) (by omega), Int.mul_comm h, w64 (x := (w - 1) * h) (by omega) (by omega), w64 (by omega) (by omega)]
    simp only [spec_l02East.f, Option.bind_some]
    rw [t1, t2]
    by_cases d1 : d = 1
    · simp [d1]; omega
    · by_cases d3 : d = 3
      · simp [d3]; omega
      · simp [d1, d3]
def mok (w h o : Int) : Bool := gok w h && decide (0 ≤ o ∧ o < 2 ^ (gaps w h).toNat)
theorem mok_iff {w h o : Int} : mok w h o = true ↔ gok w h = true ∧ 0 ≤ o ∧ o < 2 ^ (gaps w h).toNat := by simp [mok]
theorem gpow (w h : Int) : (2 : Int) ^ (gaps w h).toNat ≤ 16777216 ∧ (1 : Int) ≤ 2 ^ (gaps w h).toNat := by
  have b := gaps_bd w h
  have p : (2 : Nat) ^ (gaps w h).toNat ≤ 2 ^ 24 := Nat.pow_le_pow_right (by decide) (by omega)
  have q : 0 < (2 : Nat) ^ (gaps w h).toNat := Nat.two_pow_pos _
  have e : ((2 : Int) ^ (gaps w h).toNat) = ((2 ^ (gaps w h).toNat : Nat) : Int) := by simp
  omega
theorem mok_small {w h o : Int} (H : mok w h o = true) : 0 ≤ o ∧ o < 16777216 := by
  have := mok_iff.1 H
  have := gpow w h
  omega
theorem shl_gaps (w h : Int) : shl .i64 1 (gaps w h) = 2 ^ (gaps w h).toNat := by
  have b := gaps_bd w h
  have := shl_one (g := (gaps w h).toNat) (by omega)
  rw [show (((gaps w h).toNat : Nat) : Int) = gaps w h from Int.toNat_of_nonneg b.1] at this
  rw [this]
  simp
theorem impl_MazeOk_eq (w h o : Int) : impl_MazeOk.f w h o = some (mok w h o) := by
  unfold impl_MazeOk.f mok
  have b := gaps_bd w h
  rw [impl_GridOk_eq, impl_CountGaps_eq]
  simp only [Option.bind_some, shl_gaps]
  by_cases G : gok w h = true
  · simp only [G, if_true, Bool.true_and]
    by_cases h0 : o ≥ 0
    · rw [if_pos h0, if_pos b.1]
      simp; omega
    · rw [if_neg h0]; simp; omega
  · simp [G]
theorem spec_MazeOk_eq (w h o : Int) : spec_MazeOk.f w h o = some (mok w h o) := by
  unfold spec_MazeOk.f mok
  have b := gaps_bd w h
  have p := gpow w h
  rw [spec_GridOk_eq, spec_CountGaps_eq]
  simp only [Option.bind_some, shl_gaps, w64 (x := (2 : Int) ^ (gaps w h).toNat - 1) (by omega) (by omega)]
  by_cases G : gok w h = true
  · simp only [Option.bind_some, G, if_true, Bool.true_and, spec_l01In_eq, if_pos b.1]
    congr 2
    exact propext ⟨fun h => ⟨h.1, by omega⟩, fun h => ⟨h.1, by omega⟩⟩
  · simp [G]
theorem impl_isOpen_eq {w h o : Int} (h0 : 0 ≤ o) (h1 : o < 9223372036854775808) (g : Int) : impl_isOpen.f w h o g = some (decide (0 ≤ g) && opn o g) := by
  unfold impl_isOpen.f
  by_cases hg : g ≥ 0
  · rw [if_pos hg, if_pos (by omega), bit_test h0 h1 (by omega)]
    simp; omega
  · rw [if_neg hg]
    simp; omega
theorem spec_l03Bit_eq {o : Int} (h0 : 0 ≤ o) (h1 : o < 9223372036854775808) {g : Int} (hg : 0 ≤ g) : spec_l03Bit.f o g = some (opn o g) := by
  unfold spec_l03Bit.f
  rw [if_pos hg, bit_test h0 h1 hg]
def psg (w h o g : Int) : Bool := mok w h o && igap w h g && opn o g
theorem spec_IsPassage_eq (w h o g : Int) : spec_IsPassage.f w h o g = some (psg w h o g) := by
  unfold spec_IsPassage.f psg
  rw [spec_MazeOk_eq, spec_CountGaps_eq]
  by_cases M : mok w h o = true
  · have s := mok_small M
    simp only [Option.bind_some, M, if_true, Bool.true_and, spec_l01In_eq, in_gaps]
    by_cases g1 : igap w h g = true
    · rw [if_pos g1, spec_l03Bit_eq s.1 (by omega) (igap_iff.1 g1).1]
      simp [g1]
    · rw [if_neg g1]; simp [g1]
  · simp [M]
theorem gp_range {w h c d : Int} (H : 0 ≤ nb w h c d) : igap w h (gp w h c d) = true := by
  obtain ⟨h1, h2, d0, d3⟩ := nb_facts H
  have G := icell_gok h1
  have a := icell_mul h1
  rw [igap_iff]
  unfold gp gaps
  rw [if_neg (by omega), if_pos G]
  have hd : d = 0 ∨ d = 1 ∨ d = 2 ∨ d = 3 := by omega
  revert H
  unfold nb
  rw [if_pos h1]
  rcases gok_wide G with rfl | rfl | rfl | rfl <;> rcases gok_high G with rfl | rfl | rfl | rfl <;> rcases hd with rfl | rfl | rfl | rfl <;> simp <;> split <;> omega
def st (w h o c d : Int) : Int := if psg w h o (gp w h c d) then nb w h c d else -1
theorem st_nb {w h o c d : Int} (H : 0 ≤ st w h o c d) : st w h o c d = nb w h c d ∧ psg w h o (gp w h c d) = true := by
  unfold st at H ⊢
  by_cases p : psg w h o (gp w h c d) = true
  · rw [if_pos p]; exact ⟨rfl, p⟩
  · rw [if_neg p] at H; omega
theorem impl_Step_eq {k : Nat} (hk : 3 ≤ k) (w h o c d : Int) : impl_Step.f k w h o c d = some (st w h o c d) := by
  unfold impl_Step.f st psg
  rw [impl_MazeOk_eq]
  by_cases M : mok w h o = true
  · have s := mok_small M
    simp only [Option.bind_some, M, if_true, Bool.true_and, impl_GapAt_eq hk, impl_isOpen_eq s.1 (show o < 9223372036854775808 by omega), impl_Neighbor_eq hk]
    by_cases H : 0 ≤ nb w h c d
    · have r := gp_range H
      have := (igap_iff.1 r).1
      simp [r, this]
      split <;> rfl
    · rw [gp_neg (by omega)]
      simp [igap]
  · simp [M]
theorem spec_Step_eq {k : Nat} (hk : 1 ≤ k) (w h o c d : Int) : spec_Step.f k w h o c d = some (st w h o c d) := by
  unfold spec_Step.f st
  rw [spec_MazeOk_eq]
  by_cases M : mok w h o = true
  · simp only [Option.bind_some, M, if_true, spec_GapAt_eq hk, spec_IsPassage_eq, spec_Neighbor_eq hk]
    split <;> rfl
  · simp [M, psg]
theorem st_facts {w h o c d : Int} (H : 0 ≤ st w h o c d) : mok w h o = true ∧ icell w h c = true ∧ icell w h (st w h o c d) = true ∧ 0 ≤ d ∧ d ≤ 3 := by
  obtain ⟨e, p⟩ := st_nb H
  rw [e] at H ⊢
  obtain ⟨h1, h2, h3, h4⟩ := nb_facts H
  unfold psg at p
  simp at p
  exact ⟨p.1.1, h1, h2, h3, h4⟩
end Go.Proofs.Ytpeehicekddjhaa.F
end

section
namespace Go.Proofs.Ytpeehicekddjhaa.F
open Go.RowKit Go.Proofs.YtpeehicekddjhaaW.PrintWords Go.Proofs.YtpeehicekddjhaaW.PrintLast Go.Proofs.YtpeehicekddjhaaW.PrintMore
set_option linter.unusedVariables false
set_option linter.unusedSimpArgs false
theorem impl_IsPassage_eq (w h o g : Int) : impl_IsPassage.f w h o g = some (psg w h o g) := by
  unfold impl_IsPassage.f psg
  rw [impl_MazeOk_eq, Option.bind_some]
  cases hm : mok w h o with
  | false => simp
  | true =>
    have hb := mok_small hm
    rw [if_pos rfl, impl_isGap_eq, Option.bind_some]
    cases hg : igap w h g with
    | false => simp
    | true =>
      have g0 := (igap_iff.1 hg).1
      rw [if_pos rfl, impl_isOpen_eq hb.1 (by omega), decide_eq_true g0]
      simp
theorem shl_small {p : Int} (h1 : 1 ≤ p) (h6 : p ≤ 6) : 2 ≤ shl .i64 1 p ∧ shl .i64 1 p ≤ 64 := by
  have : p = 1 ∨ p = 2 ∨ p = 3 ∨ p = 4 ∨ p = 5 ∨ p = 6 := by omega
  rcases this with rfl | rfl | rfl | rfl | rfl | rfl <;> decide +kernel
def tgp (w h o p : Int) (gs : List SGate) (i : Nat) : Bool :=
  psg w h o (rd_Gate gs i).f0 && (decide (i = 0) || decide ((rd_Gate gs ((i : Int) - 1)).f0 < (rd_Gate gs i).f0)) && decide (0 ≤ (rd_Gate gs i).f1 ∧ (rd_Gate gs i).f1 < shl .i64 1 p)
def tmok (w h o p : Int) (gs : List SGate) : Bool := mok w h o && decide (1 ≤ p ∧ p ≤ 6) && decide (gs.length ≤ 8) && (List.range gs.length).all (tgp w h o p gs)
theorem range_getD {n i : Nat} (hi : i < n) : (List.range n).getD i 0 = i := by
  rw [List.getD_eq_getElem?_getD, List.getElem?_range hi]; rfl
theorem range'_cut {i n : Nat} (h : i < n) : List.range' i (n - i) = i :: List.range' (i + 1) (n - (i + 1)) := by
  rw [show n - i = (n - (i + 1)) + 1 by omega, List.range'_succ]
theorem impl_timed_l0 {w h o p : Int} {gs : List SGate} (hp : 0 ≤ p) : ∀ (n i : Nat), gs.length < n + i → i ≤ gs.length → impl_TimedOk.l0 w h o p gs n i = some ((List.range' i (gs.length - i)).all (tgp w h o p gs))
  | 0, i, h1, h2 => by omega
  | n + 1, i, h1, h2 => by
    unfold impl_TimedOk.l0
    by_cases hi : i < gs.length
    · rw [if_pos hi, impl_IsPassage_eq, Option.bind_some, range'_cut hi, List.all_cons]
      have ih := impl_timed_l0 (w := w) (h := h) (o := o) (gs := gs) hp n (i + 1) (by omega) (by omega)
      unfold tgp
      by_cases c0 : psg w h o (rd_Gate gs i).f0 = true
      · rw [if_pos c0, c0, Bool.true_and]
        by_cases c1 : 0 < i ∧ (rd_Gate gs ((i : Int) - 1)).f0 ≥ (rd_Gate gs i).f0
        · rw [if_pos c1]
          have e1 : decide (i = 0) = false := decide_eq_false (by omega)
          have e2 : decide ((rd_Gate gs ((i : Int) - 1)).f0 < (rd_Gate gs i).f0) = false := decide_eq_false (by omega)
          rw [e1, e2]; rfl
        · rw [if_neg c1]
          have e1 : (decide (i = 0) || decide ((rd_Gate gs ((i : Int) - 1)).f0 < (rd_Gate gs i).f0)) = true := by
            by_cases z : i = 0
            · simp [z]
            · rw [decide_eq_true (show (rd_Gate gs ((i : Int) - 1)).f0 < (rd_Gate gs i).f0 by omega), Bool.or_true]
          rw [e1, Bool.true_and]
          by_cases c2 : (rd_Gate gs i).f1 < 0
          · rw [if_pos c2, decide_eq_false (by omega)]; rfl
          · rw [if_neg c2, if_pos hp]
            by_cases c3 : (rd_Gate gs i).f1 ≥ shl .i64 1 p
            · rw [if_pos c3, decide_eq_false (by omega)]; rfl
            · rw [if_neg c3, decide_eq_true (by omega), Bool.true_and, ih]
              rfl
      · rw [if_neg c0]; simp [c0]
    · rw [if_neg hi, show gs.length - i = 0 by omega]
      rfl
theorem impl_TimedOk_eq {k : Nat} (hk : 20 ≤ k) (w h o p : Int) (gs : List SGate) : impl_TimedOk.f k w h o p gs = some (tmok w h o p gs) := by
  unfold impl_TimedOk.f tmok
  rw [impl_MazeOk_eq, Option.bind_some]
  by_cases M : mok w h o = true
  · rw [if_pos M, M, Bool.true_and]
    by_cases c1 : p < 1
    · rw [if_pos c1, decide_eq_false (by omega)]; simp
    · rw [if_neg c1]
      by_cases c2 : p > 6
      · rw [if_pos c2, decide_eq_false (by omega)]; simp
      · rw [if_neg c2, decide_eq_true (show 1 ≤ p ∧ p ≤ 6 by omega), Bool.true_and]
        by_cases c3 : (gs.length : Int) > 8
        · rw [if_pos c3, decide_eq_false (by omega)]; simp
        · rw [if_neg c3, decide_eq_true (show gs.length ≤ 8 by omega), Bool.true_and, impl_timed_l0 (by omega) 9 0 (by omega) (by omega), List.range_eq_range']
          rfl
  · rw [if_neg M]; simp [M]
theorem spec_timed_l0 {w h o p : Int} {gs : List SGate} (hp : 1 ≤ p) (hp6 : p ≤ 6) : ∀ (n i : Nat), gs.length < n + i → i ≤ gs.length → spec_TimedOk.l0 w h o p gs n i = some ((List.range' i (gs.length - i)).all (tgp w h o p gs))
  | 0, i, h1, h2 => by omega
  | n + 1, i, h1, h2 => by
    unfold spec_TimedOk.l0
    have sh := shl_small hp hp6
    by_cases hi : i < gs.length
    · rw [if_pos hi, spec_IsPassage_eq, Option.bind_some, range'_cut hi, List.all_cons]
      have ih := spec_timed_l0 (w := w) (h := h) (o := o) (gs := gs) hp hp6 n (i + 1) (by omega) (by omega)
      unfold tgp
      by_cases c0 : psg w h o (rd_Gate gs i).f0 = true
      · rw [if_pos c0, c0, Bool.true_and]
        by_cases c1 : 0 < i ∧ (rd_Gate gs i).f0 ≤ (rd_Gate gs ((i : Int) - 1)).f0
        · rw [if_pos c1]
          have e1 : decide (i = 0) = false := decide_eq_false (by omega)
          have e2 : decide ((rd_Gate gs ((i : Int) - 1)).f0 < (rd_Gate gs i).f0) = false := decide_eq_false (by omega)
          rw [e1, e2]; rfl
        · rw [if_neg c1]
          have e1 : (decide (i = 0) || decide ((rd_Gate gs ((i : Int) - 1)).f0 < (rd_Gate gs i).f0)) = true := by
            by_cases z : i = 0
            · simp [z]
            · rw [decide_eq_true (show (rd_Gate gs ((i : Int) - 1)).f0 < (rd_Gate gs i).f0 by omega), Bool.or_true]
          rw [e1, Bool.true_and, if_pos (by omega), spec_l01In_eq, Option.bind_some, w64 (x := shl .i64 1 p - 1) (by omega) (by omega)]
          by_cases c2 : 0 ≤ (rd_Gate gs i).f1 ∧ (rd_Gate gs i).f1 ≤ shl .i64 1 p - 1
          · rw [decide_eq_true c2, decide_eq_true (show 0 ≤ (rd_Gate gs i).f1 ∧ (rd_Gate gs i).f1 < shl .i64 1 p by omega), if_pos rfl, Bool.true_and, ih]
            rfl
          · rw [decide_eq_false c2, decide_eq_false (show ¬ (0 ≤ (rd_Gate gs i).f1 ∧ (rd_Gate gs i).f1 < shl .i64 1 p) by omega), if_neg (by decide)]; rfl
      · rw [if_neg c0]; simp [c0]
    · rw [if_neg hi, show gs.length - i = 0 by omega]
      rfl
theorem spec_TimedOk_eq {k : Nat} (hk : 20 ≤ k) (w h o p : Int) (gs : List SGate) : spec_TimedOk.f k w h o p gs = some (tmok w h o p gs) := by
  unfold spec_TimedOk.f tmok
  rw [spec_MazeOk_eq, Option.bind_some]
  by_cases M : mok w h o = true
  · rw [if_pos M, M, Bool.true_and, spec_l01In_eq, Option.bind_some]
    by_cases c2 : 1 ≤ p ∧ p ≤ 6
    · rw [decide_eq_true c2, if_pos rfl, Bool.true_and]
      by_cases c3 : (gs.length : Int) > 8
      · rw [if_pos c3, decide_eq_false (by omega)]; simp
      · rw [if_neg c3, if_pos (by omega), decide_eq_true (show gs.length ≤ 8 by omega), Bool.true_and, spec_timed_l0 c2.1 c2.2 9 0 (by omega) (by omega), List.range_eq_range']
        rfl
    · rw [decide_eq_false c2, if_neg (by decide)]; simp
  · rw [if_neg M]; simp [M]
def recp (w h : Int) (l : List SEntry) (i : Nat) : Bool :=
  decide (0 ≤ (rd_Entry l i).f0 ∧ (rd_Entry l i).f0 ≤ 500) && icell w h (rd_Entry l i).f1 && (decide (i = 0) || decide ((rd_Entry l ((i : Int) - 1)).f0 < (rd_Entry l i).f0))
def rcok (w h o p : Int) (gs : List SGate) (l : List SEntry) : Bool := (List.range l.length).all (recp w h l) && (tmok w h o p gs && decide (l.length ≤ 40))
theorem impl_RecordOk_eq {k : Nat} {l : List SEntry} (hl : l.length ≤ 1048576) (hk : l.length + 40 ≤ k) (w h o p : Int) (gs : List SGate) : impl_RecordOk.f k w h o p gs l = some (rcok w h o p gs l) := by
  unfold impl_RecordOk.f rcok
  exact all_loop (c := 20) (0 : Nat) (F := fun k i => impl_RecordOk.l0 k l l (l.length : Int) i w h o p gs) (l := List.range l.length) (p := recp w h l)
    (fun k i _ hi => by
      rw [List.length_range] at hi
      rw [range_getD hi]
      simp only [impl_RecordOk.l0]
      rw [if_pos (by omega), if_pos (by omega), if_pos (by omega), impl_isCell_eq, Option.bind_some, w64_succ hi (by omega)]
      unfold recp
      by_cases ha : (rd_Entry l i).f0 < 0
      · rw [if_pos ha, decide_eq_false (by omega)]; simp
      · rw [if_neg ha]
        by_cases hb : (rd_Entry l i).f0 > 500
        · rw [if_pos hb, decide_eq_false (by omega)]; simp
        · rw [if_neg hb, decide_eq_true (show 0 ≤ (rd_Entry l i).f0 ∧ (rd_Entry l i).f0 ≤ 500 by omega), Bool.true_and]
          cases icell w h (rd_Entry l i).f1 with
          | false => simp
          | true =>
            rw [if_pos rfl, Bool.true_and]
            by_cases h0 : (i : Int) > 0
            · rw [if_pos h0, w64 (x := (i : Int) - 1) (by omega) (by omega), if_pos (by omega), if_pos (by omega), decide_eq_false (by omega : ¬ i = 0), Bool.false_or]
              by_cases hc : (rd_Entry l ((i : Int) - 1)).f0 ≥ (rd_Entry l i).f0
              · rw [if_pos hc, if_neg (by simp; omega)]
              · rw [if_neg hc, if_pos (by simp; omega)]
            · rw [if_neg h0, decide_eq_true (by omega : i = 0), Bool.true_or, if_pos rfl])
    (fun k hk => by
      rw [List.length_range]
      simp only [impl_RecordOk.l0]
      rw [if_neg (by omega), impl_TimedOk_eq hk, Option.bind_some]
      cases tmok w h o p gs with
      | false => simp
      | true =>
        rw [if_pos rfl, Bool.true_and]
        congr 1
        by_cases q : l.length ≤ 40
        · rw [decide_eq_true q, decide_eq_true (by omega)]
        · rw [decide_eq_false q, decide_eq_false (by omega)]) (by rw [List.length_range]; omega)
end Go.Proofs.Ytpeehicekddjhaa.F
end

section
namespace Go.Proofs.Ytpeehicekddjhaa.F
open Go.RowKit Go.Proofs.YtpeehicekddjhaaW.PrintWords Go.Proofs.YtpeehicekddjhaaW.PrintLast Go.Proofs.YtpeehicekddjhaaW.PrintMore
set_option linter.unusedVariables false
set_option linter.unusedSimpArgs false
theorem rd_set {D : List Int} {i x v : Int} (hi : 0 ≤ i) (hx : 0 ≤ x) (hl : i < D.length) : rd (D.set i.toNat v) x = if x = i then v else rd D x := by
  unfold rd
  rw [List.getD_eq_getElem?_getD, List.getElem?_set]
  by_cases h : x = i
  · subst h
    rw [if_pos rfl, if_pos (by omega), if_pos rfl]; rfl
  · rw [if_neg (by omega), if_neg h, List.getD_eq_getElem?_getD]
theorem rd_lt {D : List Int} {x : Int} (hx : 0 ≤ x) (hl : x < D.length) : ∃ h : x.toNat < D.length, rd D x = D[x.toNat] := by
  have h : x.toNat < D.length := by omega
  exact ⟨h, by unfold rd; rw [List.getD_eq_getElem?_getD, List.getElem?_eq_getElem h]; rfl⟩
theorem rd_memI {D : List Int} {x : Int} (hx : 0 ≤ x) (hl : x < D.length) : rd D x ∈ D := by
  obtain ⟨h, e⟩ := rd_lt hx hl
  rw [e]; exact List.getElem_mem h
theorem mem_rd {D : List Int} {v : Int} (h : v ∈ D) : ∃ j : Nat, j < D.length ∧ rd D (j : Int) = v := by
  obtain ⟨j, hj, rfl⟩ := List.getElem_of_mem h
  exact ⟨j, hj, by rw [rd_nat, List.getD_eq_getElem?_getD, List.getElem?_eq_getElem hj]; rfl⟩
theorem rd_app_left {D E : List Int} {j : Nat} (h : j < D.length) : rd (D ++ E) (j : Int) = rd D (j : Int) := by
  simp only [rd_nat, List.getD_eq_getElem?_getD]
  rw [List.getElem?_append_left h]
theorem rd_app_last {D : List Int} {v : Int} : rd (D ++ [v]) (D.length : Int) = v := by
  simp only [rd_nat, List.getD_eq_getElem?_getD]
  rw [List.getElem?_append_right (Nat.le_refl _)]
  simp
def bfsD (nx : Int → Int → Int) (c : Int) : List Int → List Int × List Int → List Int × List Int
  | [], s => s
  | d :: ds, s => if 0 ≤ nx c d ∧ rd s.1 (nx c d) < 0 then bfsD nx c ds (s.1.set (nx c d).toNat (rd s.1 c + 1), s.2 ++ [nx c d]) else bfsD nx c ds s
def bfs (nx : Int → Int → Int) : Nat → Nat → List Int × List Int → List Int
  | 0, _, s => s.1
  | f + 1, i, s => if i < s.2.length then bfs nx f (i + 1) (bfsD nx (rd s.2 i) [0, 1, 2, 3] s) else s.1
def dists (nx : Int → Int → Int) (N : Nat) (a : Int) : List Int := bfs nx (N + 1) 0 ((List.replicate N (-1)).set a.toNat 0, [a])
inductive Walk (nx : Int → Int → Int) (a : Int) : Nat → Int → Prop
  | nil : Walk nx a 0 a
  | snoc {n : Nat} {b d : Int} : Walk nx a n b → 0 ≤ nx b d → Walk nx a (n + 1) (nx b d)
structure Steps (nx : Int → Int → Int) (N : Nat) : Prop where
  rng : ∀ c d, 0 ≤ nx c d → 0 ≤ c ∧ c < N ∧ nx c d < N ∧ 0 ≤ d ∧ d ≤ 3
structure Bfs (nx : Int → Int → Int) (N : Nat) (a : Int) (D Q : List Int) : Prop where
  len : D.length = N
  cnt : D.countP (· < 0) + Q.length = N
  inq : ∀ x ∈ Q, 0 ≤ x ∧ x < N ∧ 0 ≤ rd D x ∧ Walk nx a (rd D x).toNat x
  out : ∀ x : Int, 0 ≤ x → x < N → x ∉ Q → rd D x = -1
  src : rd D a = 0 ∧ a ∈ Q
  mono : ∀ j k : Nat, j ≤ k → k < Q.length → rd D (rd Q j) ≤ rd D (rd Q k)
structure BfsAt (nx : Int → Int → Int) (N : Nat) (a : Int) (i : Nat) (D Q : List Int) : Prop extends Bfs nx N a D Q where
  near : i < Q.length → ∀ x ∈ Q, rd D x ≤ rd D (rd Q i) + 1
  done : ∀ j, j < i → j < Q.length → ∀ d, 0 ≤ nx (rd Q j) d → nx (rd Q j) d ∈ Q ∧ rd D (nx (rd Q j) d) ≤ rd D (rd Q j) + 1
theorem countP_lt_set {D : List Int} {i v : Int} (hi : 0 ≤ i) (hl : i < D.length) (hneg : rd D i < 0) (hv : 0 ≤ v) : (D.set i.toNat v).countP (· < 0) + 1 = D.countP (· < 0) := by
  obtain ⟨h, e⟩ := rd_lt hi hl
  rw [e] at hneg
  have hpos : 0 < D.countP (· < 0) := List.countP_pos_iff.2 ⟨D[i.toNat], List.getElem_mem h, by simpa using hneg⟩
  rw [List.countP_set h]
  simp [hneg, show ¬ v < 0 by omega]
  omega
theorem bfs_push {nx : Int → Int → Int} {N : Nat} {a : Int} {i : Nat} {D Q : List Int} (S : Steps nx N) (B : BfsAt nx N a i D Q) (hi : i < Q.length) {d : Int} (h0 : 0 ≤ nx (rd Q i) d) (hneg : rd D (nx (rd Q i) d) < 0) :
    BfsAt nx N a i (D.set (nx (rd Q i) d).toNat (rd D (rd Q i) + 1)) (Q ++ [nx (rd Q i) d]) := by
  have hci : rd Q i ∈ Q := rd_memI (by omega) (by omega)
  generalize hc : rd Q i = c at *
  generalize hn : nx c d = n at *
  have hr := S.rng c d (by omega)
  rw [hn] at hr
  obtain ⟨c0, c1, cd, cw⟩ := B.inq c hci
  have hnl : n < D.length := by rw [B.len]; omega
  have hnQ : n ∉ Q := fun h => by have := (B.inq n h).2.2.1; omega
  have same : ∀ x ∈ Q, rd (D.set n.toNat (rd D c + 1)) x = rd D x := fun x hx => by
    have := (B.inq x hx).1
    rw [rd_set h0 this hnl, if_neg (by rintro rfl; exact hnQ hx)]
  have newv : rd (D.set n.toNat (rd D c + 1)) n = rd D c + 1 := by rw [rd_set h0 h0 hnl, if_pos rfl]
  have rq : ∀ j : Nat, j < Q.length → rd (Q ++ [n]) (j : Int) = rd Q (j : Int) := fun j hj => rd_app_left hj
  have wn : Walk nx a (rd D c + 1).toNat n := by
    have := Walk.snoc (d := d) cw (by omega)
    rw [hn] at this
    rwa [show (rd D c).toNat + 1 = (rd D c + 1).toNat by omega] at this
  refine ⟨⟨by rw [List.length_set, B.len], ?_, ?_, ?_, ?_, ?_⟩, ?_, ?_⟩
  · have := countP_lt_set (v := rd D c + 1) h0 hnl hneg (by omega)
    have := B.cnt
    rw [List.length_append, List.length_singleton]
    omega
  · intro x hx
    rcases List.mem_append.1 hx with hx | hx
    · rw [same x hx]; exact B.inq x hx
    · rw [List.mem_singleton.1 hx, newv]
      exact ⟨h0, hr.2.2.1, by omega, wn⟩
  · intro x x0 x1 hx
    rw [List.mem_append, not_or] at hx
    rw [rd_set h0 x0 hnl, if_neg (by rintro rfl; exact hx.2 (by simp))]
    exact B.out x x0 x1 hx.1
  · exact ⟨by rw [same a B.src.2]; exact B.src.1, List.mem_append_left _ B.src.2⟩
  · intro j k hjk hk
    rw [List.length_append, List.length_singleton] at hk
    by_cases hk' : k < Q.length
    · rw [rq j (by omega), rq k hk', same _ (rd_memI (by omega) (by omega)), same _ (rd_memI (by omega) (by omega))]
      exact B.mono j k hjk hk'
    · have ek : k = Q.length := by omega
      subst ek
      rw [rd_app_last, newv]
      by_cases hj' : j < Q.length
      · rw [rq j hj', same _ (rd_memI (by omega) (by omega))]
        have := B.near hi _ (rd_memI (D := Q) (x := (j : Int)) (by omega) (by omega))
        rw [hc] at this
        exact this
      · have ej : j = Q.length := by omega
        subst ej
        rw [rd_app_last, newv]
        exact Int.le_refl _
  · intro _ x hx
    rw [rq i hi, hc]
    rcases List.mem_append.1 hx with hx | hx
    · rw [same x hx, same c hci]
      have := B.near hi x hx
      rwa [hc] at this
    · rw [List.mem_singleton.1 hx, newv, same c hci]
      exact Int.le_refl _
  · intro j hj hjl e he
    rw [rq j (by omega)] at he ⊢
    obtain ⟨m1, m2⟩ := B.done j hj (by omega) e he
    exact ⟨List.mem_append_left _ m1, by rw [same _ m1, same _ (rd_memI (by omega) (by omega))]; exact m2⟩
theorem bfs_dirs {nx : Int → Int → Int} {N : Nat} {a : Int} {i : Nat} (S : Steps nx N) : ∀ (ds : List Int) (D Q : List Int), BfsAt nx N a i D Q → i < Q.length → ∀ D' Q', bfsD nx (rd Q i) ds (D, Q) = (D', Q') →
    BfsAt nx N a i D' Q' ∧ i < Q'.length ∧ rd Q' i = rd Q i ∧ (∀ x ∈ Q, x ∈ Q') ∧ (∀ d ∈ ds, 0 ≤ nx (rd Q i) d → nx (rd Q i) d ∈ Q' ∧ rd D' (nx (rd Q i) d) ≤ rd D' (rd Q i) + 1)
  | [], D, Q, B, hi, D', Q', e => by
    simp only [bfsD, Prod.mk.injEq] at e
    obtain ⟨rfl, rfl⟩ := e
    exact ⟨B, hi, rfl, fun _ h => h, fun d hd => by simp at hd⟩
  | d :: ds, D, Q, B, hi, D', Q', e => by
    simp only [bfsD] at e
    by_cases h : 0 ≤ nx (rd Q i) d ∧ rd D (nx (rd Q i) d) < 0
    · rw [if_pos h] at e
      have B' := bfs_push S B hi h.1 h.2
      have hq : rd (Q ++ [nx (rd Q i) d]) (i : Int) = rd Q i := rd_app_left hi
      have hi' : i < (Q ++ [nx (rd Q i) d]).length := by rw [List.length_append]; omega
      rw [← hq] at e
      obtain ⟨r1, r2, r3, r4, r5⟩ := bfs_dirs S ds _ _ B' hi' D' Q' (by rw [hq] at e ⊢; exact e)
      rw [hq] at r3 r5
      refine ⟨r1, r2, r3, fun x hx => r4 x (List.mem_append_left _ hx), fun e' he h0 => ?_⟩
      rcases List.mem_cons.1 he with rfl | he
      · have hm := r4 (nx (rd Q i) e') (by simp)
        have := r1.near r2 _ hm
        rw [r3] at this
        exact ⟨hm, this⟩
      · exact r5 e' he h0
    · rw [if_neg h] at e
      obtain ⟨r1, r2, r3, r4, r5⟩ := bfs_dirs S ds D Q B hi D' Q' e
      refine ⟨r1, r2, r3, r4, fun e' he h0 => ?_⟩
      rcases List.mem_cons.1 he with rfl | he
      · have hr := S.rng _ _ h0
        have hge : ¬ rd D (nx (rd Q i) e') < 0 := fun hh => h ⟨h0, hh⟩
        have hm : nx (rd Q i) e' ∈ Q := by
          by_cases hx : nx (rd Q i) e' ∈ Q
          · exact hx
          · have := B.out _ h0 hr.2.2.1 hx
            omega
        have := r1.near r2 _ (r4 _ hm)
        rw [r3] at this
        exact ⟨r4 _ hm, this⟩
      · exact r5 e' he h0
theorem bfs_run {nx : Int → Int → Int} {N : Nat} {a : Int} (S : Steps nx N) : ∀ (f i : Nat) (D Q : List Int), BfsAt nx N a i D Q → N < f + i → ∃ Q', BfsAt nx N a Q'.length (bfs nx f i (D, Q)) Q' ∨ (∃ j, Q'.length ≤ j ∧ BfsAt nx N a j (bfs nx f i (D, Q)) Q')
  | 0, i, D, Q, B, hf => ⟨Q, .inr ⟨i, by have := B.cnt; omega, B⟩⟩
  | f + 1, i, D, Q, B, hf => by
    simp only [bfs]
    by_cases hi : i < Q.length
    · rw [if_pos hi]
      generalize hs : bfsD nx (rd Q i) [0, 1, 2, 3] (D, Q) = s
      obtain ⟨D', Q'⟩ := s
      obtain ⟨r1, r2, r3, r4, r5⟩ := bfs_dirs S _ D Q B hi D' Q' hs
      refine bfs_run S f (i + 1) D' Q' ⟨r1.toBfs, fun h x hx => ?_, fun j hj hjl d hd => ?_⟩ (by omega)
      · have h1 := r1.near r2 x hx
        have h2 := r1.mono i (i + 1) (by omega) h
        omega
      · by_cases hj' : j = i
        · subst hj'
          rw [r3] at hd ⊢
          have hr := S.rng _ _ hd
          exact r5 d (by have : d = 0 ∨ d = 1 ∨ d = 2 ∨ d = 3 := by omega
                         rcases this with rfl | rfl | rfl | rfl <;> simp) hd
        · exact r1.done j (by omega) hjl d hd
    · rw [if_neg hi]
      exact ⟨Q, .inr ⟨i, by omega, B⟩⟩
theorem dists_spec {nx : Int → Int → Int} {N : Nat} {a : Int} (S : Steps nx N) (h0 : 0 ≤ a) (h1 : a < N) : (dists nx N a).length = N ∧ rd (dists nx N a) a = 0 ∧
    ∀ x : Int, 0 ≤ x → x < N → (rd (dists nx N a) x = -1 ∧ ∀ n, ¬ Walk nx a n x) ∨ (0 ≤ rd (dists nx N a) x ∧ Walk nx a (rd (dists nx N a) x).toNat x ∧ ∀ n, Walk nx a n x → rd (dists nx N a) x ≤ n) := by
  have hrep : ∀ x : Int, 0 ≤ x → x < N → rd (List.replicate N (-1)) x = -1 := fun x x0 x1 => by
    obtain ⟨h, e⟩ := rd_lt (D := List.replicate N (-1 : Int)) x0 (by simpa using x1)
    rw [e, List.getElem_replicate]
  have hset : ∀ x : Int, 0 ≤ x → x < N → rd ((List.replicate N (-1)).set a.toNat 0) x = if x = a then 0 else -1 := fun x x0 x1 => by
    rw [rd_set h0 x0 (by simpa using h1)]
    split
    · rfl
    · exact hrep x x0 x1
  have B0 : BfsAt nx N a 0 ((List.replicate N (-1)).set a.toNat 0) [a] := by
    refine ⟨⟨by simp, ?_, ?_, ?_, ?_, ?_⟩, ?_, ?_⟩
    · have := countP_lt_set (D := List.replicate N (-1 : Int)) (i := a) (v := 0) h0 (by simpa using h1) (by rw [hrep a h0 h1]; decide) (by decide)
      rw [List.countP_replicate] at this
      simpa using this
    · intro x hx
      rw [List.mem_singleton.1 hx, hset a h0 h1, if_pos rfl]
      exact ⟨h0, h1, by decide, Walk.nil⟩
    · intro x x0 x1 hx
      rw [hset x x0 x1, if_neg (by simpa using hx)]
    · exact ⟨by rw [hset a h0 h1, if_pos rfl], by simp⟩
    · intro j k hjk hk
      have : j = 0 := by simp at hk; omega
      have : k = 0 := by simp at hk; omega
      subst_vars
      exact Int.le_refl _
    · intro _ x hx
      rw [List.mem_singleton.1 hx]
      simp [rd]
      omega
    · intro j hj; omega
  have fin : ∃ j Q', Q'.length ≤ j ∧ BfsAt nx N a j (dists nx N a) Q' := by
    obtain ⟨Q', h | ⟨j, hj, h⟩⟩ := bfs_run S (N + 1) 0 _ _ B0 (by omega)
    · exact ⟨_, Q', Nat.le_refl _, h⟩
    · exact ⟨j, Q', hj, h⟩
  obtain ⟨j, Q', hj, B⟩ := fin
  have close : ∀ n x, Walk nx a n x → x ∈ Q' ∧ rd (dists nx N a) x ≤ n := by
    intro n x h
    induction h with
    | nil => exact ⟨B.src.2, by rw [B.src.1]; simp⟩
    | @snoc n b d hw hd ih =>
      obtain ⟨m1, m2⟩ := ih
      obtain ⟨i, hi, rfl⟩ := mem_rd m1
      obtain ⟨q1, q2⟩ := B.done i (by omega) hi d hd
      exact ⟨q1, by omega⟩
  refine ⟨B.len, B.src.1, fun x x0 x1 => ?_⟩
  by_cases hx : x ∈ Q'
  · right
    obtain ⟨_, _, q1, q2⟩ := B.inq x hx
    exact ⟨q1, q2, fun n hn => (close n x hn).2⟩
  · left
    exact ⟨B.out x x0 x1 hx, fun n hn => hx (close n x hn).1⟩
structure Sym (nx : Int → Int → Int) : Prop where
  back : ∀ c d, 0 ≤ nx c d → ∃ e, nx (nx c d) e = c
theorem Walk.cons {nx : Int → Int → Int} {a d : Int} (h0 : 0 ≤ nx a d) {n : Nat} {b : Int} (h : Walk nx (nx a d) n b) : Walk nx a (n + 1) b := by
  induction h with
  | nil => exact Walk.snoc Walk.nil h0
  | snoc _ hd ih => exact Walk.snoc ih hd
theorem Walk.trans {nx : Int → Int → Int} {a b : Int} {n : Nat} (h : Walk nx a n b) {m : Nat} {c : Int} (k : Walk nx b m c) : Walk nx a (n + m) c := by
  induction k with
  | nil => exact h
  | snoc _ hd ih => exact Walk.snoc ih hd
theorem Walk.rev {nx : Int → Int → Int} {N : Nat} (S : Steps nx N) (Y : Sym nx) {a : Int} {n : Nat} {b : Int} (h : Walk nx a n b) : Walk nx b n a := by
  induction h with
  | nil => exact Walk.nil
  | @snoc n b d hw hd ih =>
    obtain ⟨e, he⟩ := Y.back b d hd
    have := S.rng b d hd
    have h2 : Walk nx (nx (nx b d) e) n a := by rw [he]; exact ih
    exact Walk.cons (by rw [he]; omega) h2
end Go.Proofs.Ytpeehicekddjhaa.F
end

section
namespace Go.Proofs.Ytpeehicekddjhaa.F
open Go.RowKit Go.Proofs.YtpeehicekddjhaaW.PrintWords Go.Proofs.YtpeehicekddjhaaW.PrintLast Go.Proofs.YtpeehicekddjhaaW.PrintMore
set_option linter.unusedVariables false
set_option linter.unusedSimpArgs false
def flip (o g : Int) : Int := ((o.toNat ^^^ 2 ^ g.toNat : Nat) : Int)
def setb (o g : Int) (b : Bool) : Int := if b then ((o.toNat ||| 2 ^ g.toNat : Nat) : Int) else ((o.toNat ^^^ (o.toNat &&& 2 ^ g.toNat) : Nat) : Int)
theorem testBit_two_pow' (g i : Nat) : (2 ^ g).testBit i = decide (g = i) := by rw [Nat.testBit_two_pow]
theorem opn_flip {o g i : Int} (hg : 0 ≤ g) (hi : 0 ≤ i) : opn (flip o g) i = if i = g then !opn o i else opn o i := by
  unfold opn flip
  rw [Int.toNat_natCast, Nat.testBit_xor, testBit_two_pow']
  by_cases h : i = g
  · subst h; simp
  · rw [if_neg h]
    have : ¬ g.toNat = i.toNat := by omega
    simp [this]
theorem opn_setb {o g i : Int} (b : Bool) (hg : 0 ≤ g) (hi : 0 ≤ i) : opn (setb o g b) i = if i = g then b else opn o i := by
  unfold opn setb
  cases b with
  | true =>
    rw [if_pos rfl, Int.toNat_natCast, Nat.testBit_or, testBit_two_pow']
    by_cases h : i = g
    · subst h; simp
    · rw [if_neg h]
      have : ¬ g.toNat = i.toNat := by omega
      simp [this]
  | false =>
    rw [if_neg Bool.false_ne_true, Int.toNat_natCast, Nat.testBit_xor, Nat.testBit_and, testBit_two_pow']
    by_cases h : i = g
    · subst h; simp
    · rw [if_neg h]
      have : ¬ g.toNat = i.toNat := by omega
      simp [this]
theorem setb_lt {o g : Int} {n : Nat} (b : Bool) (ho : 0 ≤ o) (h1 : o < 2 ^ n) (hg : 0 ≤ g) (h2 : g < n) : 0 ≤ setb o g b ∧ setb o g b < 2 ^ n := by
  unfold setb
  have e : ((2 : Int) ^ n) = ((2 ^ n : Nat) : Int) := by simp
  rw [e] at h1 ⊢
  have ha : o.toNat < 2 ^ n := by omega
  have hp : 2 ^ g.toNat < 2 ^ n := Nat.pow_lt_pow_right (by decide) (by omega)
  have := Nat.or_lt_two_pow ha hp
  have := Nat.xor_lt_two_pow (n := n) (x := o.toNat) (y := o.toNat &&& 2 ^ g.toNat) ha (Nat.lt_of_le_of_lt Nat.and_le_left ha)
  split <;> omega
theorem eq_of_opn {a b : Int} (ha : 0 ≤ a) (hb : 0 ≤ b) (h : ∀ i : Int, 0 ≤ i → opn a i = opn b i) : a = b := by
  have : a.toNat = b.toNat := Nat.eq_of_testBit_eq fun i => by
    have := h (i : Int) (by omega)
    simpa [opn] using this
  omega
theorem setb_flip {o g : Int} (ho : 0 ≤ o) (hg : 0 ≤ g) : setb o g (!opn o g) = flip o g := by
  refine eq_of_opn (by unfold setb; split <;> omega) (by unfold flip; omega) fun i hi => ?_
  rw [opn_setb _ hg hi, opn_flip hg hi]
  by_cases h : i = g
  · subst h; simp
  · simp [h]
theorem impl_with_eq {o g : Int} (w h : Int) (b : Bool) (ho : 0 ≤ o) (h1 : o < 2 ^ 62) (hg : 0 ≤ g) (h2 : g < 62) : impl_with.f w h o g b = some (w, h, setb o g b) := by
  unfold impl_with.f
  obtain ⟨a, rfl⟩ := Int.eq_ofNat_of_zero_le ho
  obtain ⟨n, rfl⟩ := Int.eq_ofNat_of_zero_le hg
  have ha : a < 2 ^ 62 := by omega
  have hp : (2 : Nat) ^ n < 2 ^ 62 := Nat.pow_lt_pow_right (by decide) (by omega)
  have ha' : a < 2 ^ 63 := by omega
  have hp' : (2 : Nat) ^ n < 2 ^ 63 := by omega
  rw [if_pos (by omega)]

  rw [shl_one (by omega), bits_andNot_i ha' hp', bits_or_i (Nat.xor_lt_two_pow ha' (Nat.lt_of_le_of_lt Nat.and_le_left ha')) hp']
  unfold setb
  simp only [Int.toNat_natCast]
  cases b with
  | true =>
    rw [if_pos rfl, if_pos rfl]
    congr 3
    have : (a ^^^ a &&& 2 ^ n) ||| 2 ^ n = a ||| 2 ^ n := by
      apply Nat.eq_of_testBit_eq
      intro i
      simp only [Nat.testBit_or, Nat.testBit_xor, Nat.testBit_and]
      cases a.testBit i <;> cases (2 ^ n).testBit i <;> rfl
    rw [this]
  | false =>
    rw [if_neg Bool.false_ne_true, if_neg Bool.false_ne_true]
theorem xor_shl_eq {o g : Int} (ho : 0 ≤ o) (h1 : o < 2 ^ 62) (hg : 0 ≤ g) (h2 : g < 62) : Go.bits .xor .i64 o (shl .i64 1 g) = flip o g := by
  obtain ⟨a, rfl⟩ := Int.eq_ofNat_of_zero_le ho
  obtain ⟨n, rfl⟩ := Int.eq_ofNat_of_zero_le hg
  have hp : (2 : Nat) ^ n < 2 ^ 62 := Nat.pow_lt_pow_right (by decide) (by omega)

  rw [shl_one (by omega), bits_xor_i (by omega) (by omega)]
  rfl
theorem mok_setb {w h o g : Int} (b : Bool) (M : mok w h o = true) (hg : igap w h g = true) : mok w h (setb o g b) = true := by
  rw [mok_iff] at M ⊢
  have a := igap_iff.1 hg
  have := setb_lt (n := (gaps w h).toNat) b M.2.1 M.2.2 a.1 (by omega)
  exact ⟨M.1, this.1, this.2⟩
end Go.Proofs.Ytpeehicekddjhaa.F
end

section
namespace Go.Proofs.Ytpeehicekddjhaa.F
open Go.RowKit Go.Proofs.YtpeehicekddjhaaW.PrintWords Go.Proofs.YtpeehicekddjhaaW.PrintLast Go.Proofs.YtpeehicekddjhaaW.PrintMore
set_option linter.unusedVariables false
set_option linter.unusedSimpArgs false
theorem impl_isIn_eq (w h o : Int) (l : List Int) : impl_isIn.f w h o l = some (mok w h o && l.all (icell w h)) := by
  unfold impl_isIn.f
  rw [impl_MazeOk_eq, Option.bind_some, allO_of (p := icell w h) (fun x _ => impl_isCell_eq w h x)]
  cases mok w h o <;> simp
theorem spec_l04Has_eq (w h o c : Int) : spec_l04Has.f w h o c = some (mok w h o && icell w h c) := by
  unfold spec_l04Has.f
  rw [spec_MazeOk_eq, spec_CountCells_eq]
  simp only [Option.bind_some, spec_l01In_eq, in_cells]
  cases mok w h o <;> simp
end Go.Proofs.Ytpeehicekddjhaa.F
end

section
namespace Go.Proofs.Ytpeehicekddjhaa.F
open Go.RowKit Go.Proofs.YtpeehicekddjhaaW.PrintWords Go.Proofs.YtpeehicekddjhaaW.PrintLast Go.Proofs.YtpeehicekddjhaaW.PrintMore
set_option linter.unusedVariables false
set_option linter.unusedSimpArgs false
def stN (w h : Int) : Nat := (cells w h).toNat
theorem steps_st (w h o : Int) : Steps (st w h o) (stN w h) := ⟨fun c d H => by
  obtain ⟨_, h2, h3, h4, h5⟩ := st_facts H
  have a := icell_iff.1 h2
  have b := icell_iff.1 h3
  unfold stN
  exact ⟨a.1, by omega, by omega, h4, h5⟩⟩
theorem nb_all : ∀ w ∈ ([1, 2, 3, 4] : List Int), ∀ h ∈ ([1, 2, 3, 4] : List Int), ∀ c ∈ ([0, 1, 2, 3, 4, 5, 6, 7, 8, 9, 10, 11, 12, 13, 14, 15] : List Int), ∀ d ∈ ([0, 1, 2, 3] : List Int), 0 ≤ nb w h c d → nb w h (nb w h c d) ((d + 2) % 4) = c ∧ gp w h (nb w h c d) ((d + 2) % 4) = gp w h c d := by
  decide +kernel
theorem nb_back {w h c d : Int} (H : 0 ≤ nb w h c d) : ∃ e, nb w h (nb w h c d) e = c ∧ gp w h (nb w h c d) e = gp w h c d := by
  obtain ⟨h1, _, h3, h4⟩ := nb_facts H
  have g := gok_iff.1 (icell_gok h1)
  have hc := icell_iff.1 h1
  have hb := cells_bd w h
  exact ⟨(d + 2) % 4, nb_all w (by simp; omega) h (by simp; omega) c (by simp; omega) d (by simp; omega) H⟩
theorem sym_st (w h o : Int) : Sym (st w h o) := ⟨fun c d H => by
  obtain ⟨e, p⟩ := st_nb H
  rw [e] at H ⊢
  obtain ⟨q, q1, q2⟩ := nb_back H
  refine ⟨q, ?_⟩
  unfold st
  rw [q2, if_pos p, q1]⟩
def ways (w h o c : Int) : List Int := ([0, 1, 2, 3] : List Int).filter fun d => decide (0 ≤ st w h o c d)
theorem ways_length (w h o c : Int) : (ways w h o c).length ≤ 4 := List.length_filter_le _ _
theorem impl_WaysFrom_eq {k : Nat} (hk : 8 ≤ k) (w h o c : Int) : impl_WaysFrom.f k w h o c = some (ways w h o c) := by
  unfold impl_WaysFrom.f
  have := fold_loop (n := 4) (c := 3) (F := fun k (acc : List Int) i => impl_WaysFrom.l0 k c acc i w h o) (step := fun acc i => if 0 ≤ st w h o c (i : Int) then acc ++ [(i : Int)] else acc) (fin := fun acc : List Int => acc) (I := fun acc i => acc.length ≤ i)
    (fun k acc i hk hi ha => by
      simp only [impl_WaysFrom.l0]
      rw [if_pos (by omega), impl_Step_eq (by omega), Option.bind_some, w64 (x := (i : Int) + 1) (by omega) (by omega)]
      by_cases hd : 0 ≤ st w h o c (i : Int)
      · rw [if_pos hd, if_pos hd, if_pos (by omega)]
      · rw [if_neg hd, if_neg hd])
    (fun acc i _ ha => by
      show (if _ then _ else _ : List Int).length ≤ i + 1
      split
      · simp only [List.length_append, List.length_singleton]; omega
      · omega)
    (fun k acc _ _ => by
      simp only [impl_WaysFrom.l0]
      rw [if_neg (by decide)]) 4 0 k [] (by decide) (by omega) (Nat.le_refl _)
  refine this.trans ?_
  congr 1
  unfold ways
  simp only [List.range'_succ, List.range'_zero, List.foldl_cons, List.foldl_nil, List.filter_cons, List.filter_nil, Nat.zero_add, Int.natCast_add, decide_eq_true_eq]
  show (if 0 ≤ st w h o c (3 : Int) then _ else _) = _
  by_cases h0 : 0 ≤ st w h o c 0 <;> by_cases h1 : 0 ≤ st w h o c 1 <;> by_cases h2 : 0 ≤ st w h o c 2 <;> by_cases h3 : 0 ≤ st w h o c 3 <;> simp [h0, h1, h2, h3]
theorem ways_mem {w h o c d : Int} (H : d ∈ ways w h o c) : 0 ≤ st w h o c d := by
  unfold ways at H
  exact of_decide_eq_true (List.mem_filter.1 H).2
def dst (w h o a b : Int) : Int := rd (dists (st w h o) (stN w h) a) b
end Go.Proofs.Ytpeehicekddjhaa.F
end

section
namespace Go.Proofs.Ytpeehicekddjhaa.F
open Go.RowKit Go.Proofs.YtpeehicekddjhaaW.PrintWords Go.Proofs.YtpeehicekddjhaaW.PrintLast Go.Proofs.YtpeehicekddjhaaW.PrintMore
set_option linter.unusedVariables false
set_option linter.unusedSimpArgs false
theorem gaps_small {w h g : Int} (hg : igap w h g = true) : 0 ≤ g ∧ g < 24 := by
  have := igap_iff.1 hg
  have := gaps_bd w h
  omega
end Go.Proofs.Ytpeehicekddjhaa.F
end
