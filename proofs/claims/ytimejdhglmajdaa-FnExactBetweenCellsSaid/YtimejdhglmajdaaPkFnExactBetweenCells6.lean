/- Packed by a program of the session (wip/tools/pack.py): what the claim's theorem reaches, of the texts that wip/ and the kit's printer lay. -/
import Derived.Test.YtimejdhglmajdaaPkFnExactBetweenCells5
import Derived.Maps.Ext
import Derived.Maps.RangeWalk
import Derived.Laws.StructEq
section
namespace Go.Proofs.Ytimejdhglmajdaa.F
open Go.RowKit Go.Proofs.YtimejdhglmajdaaW.PrintWords Go.Proofs.YtimejdhglmajdaaW.PrintLast Go.Proofs.YtimejdhglmajdaaW.PrintMore
set_option linter.unusedVariables false
set_option linter.unusedSimpArgs false
theorem below_grown {w w' : World} (h : Below w.heap.size w w') : w.grownBy w' none := ⟨h.os, h.tape, h.output, h.size, fun i hi _ => h.block i hi⟩
theorem bool_inv {H : Type} {P : Program} {e : TypeId} (he : P.underlying e = some .bool) {v : Value} {z : DataW H × List MemPlace} (h : plainElem P e v = some z) : ∃ x, v = .bool x ∧ z = (.lit (.bool x), []) := by
  unfold plainElem at h
  rw [he] at h
  cases v <;> simp at h
  exact ⟨_, rfl, h.symm⟩
theorem keyEq {x y : Int} : ((Lit.int .i64 x) = (Lit.int .i64 y)) ↔ x = y := by simp
theorem sameI (x y : Int) : (Lit.int .i64 x).sameKey (.int .i64 y) = decide (x = y) := by
  by_cases h : x = y
  · subst h
    rw [WideAt.sameKey_self (by trivial)]; simp
  · rw [Maps.sameKey_ne (fun e => h (keyEq.1 e))]; simp [h]
def SetAt (P : Program) (K E : TypeId) (w : World) (b n : Nat) (S : Int → Prop) : Prop :=
  ∃ D : DataW Unit, w.ownsMap P K (plainElem P E) b n D ∧ ∀ x : Int, (S x → D.atKey (.int .i64 x) (.lit (.bool false)) = .lit (.bool true) ∧ Maps.has D (.int .i64 x) = true) ∧ (¬ S x → Maps.has D (.int .i64 x) = false)
theorem SetAt.kept {P : Program} {K E : TypeId} {w w' : World} {b n : Nat} {S : Int → Prop} {row : Option Nat} (h : SetAt P K E w b n S) (hg : w.grownBy w' row) (hne : some b ≠ row) : SetAt P K E w' b n S := by
  obtain ⟨D, h1, h2⟩ := h
  exact ⟨D, h1.kept hg hne, h2⟩
theorem SetAt.mono {P : Program} {K E : TypeId} {w : World} {b n n' : Nat} {S : Int → Prop} (h : SetAt P K E w b n S) (hn : n ≤ n') : SetAt P K E w b n' S := by
  obtain ⟨D, h1, h2⟩ := h
  exact ⟨D, h1.mono hn, h2⟩
theorem SetAt.same {P : Program} {K E : TypeId} {w : World} {b n : Nat} {S S' : Int → Prop} (h : SetAt P K E w b n S) (hs : ∀ x, S x ↔ S' x) : SetAt P K E w b n S' := by
  rwa [show S' = S from funext fun x => propext (hs x).symm]
theorem SetAt.lt {P : Program} {K E : TypeId} {w : World} {b n : Nat} {S : Int → Prop} (h : SetAt P K E w b n S) : b < w.heap.size := by
  obtain ⟨D, h1, _⟩ := h
  exact h1.lt
theorem set_made (P : Program) (K E : TypeId) (w : World) : SetAt P K E (w.alloc (.map #[] 0)) w.heap.size 0 (fun _ => False) :=
  ⟨.map [], World.ownsMap_made _ _ _ _, fun x => ⟨fun h => h.elim, fun _ => rfl⟩⟩
theorem SetAt.put_ {P : Program} {K E : TypeId} {w : World} {b n : Nat} {S : Int → Prop} {D : DataW Unit} (hown : w.ownsMap P K (plainElem P E) b n D)
    (hD : ∀ x : Int, (S x → D.atKey (.int .i64 x) (.lit (.bool false)) = .lit (.bool true) ∧ Maps.has D (.int .i64 x) = true) ∧ (¬ S x → Maps.has D (.int .i64 x) = false)) (y : Int) :
    ∀ x : Int, ((S x ∨ x = y) → (D.put (.int .i64 y) (.lit (.bool true))).atKey (.int .i64 x) (.lit (.bool false)) = .lit (.bool true) ∧ Maps.has (D.put (.int .i64 y) (.lit (.bool true))) (.int .i64 x) = true) ∧ (¬ (S x ∨ x = y) → Maps.has (D.put (.int .i64 y) (.lit (.bool true))) (.int .i64 x) = false) := by
  intro x
  by_cases e : x = y
  · subst e
    exact ⟨fun _ => ⟨Maps.atKey_put_same hown.isMap (by trivial) _ _, Maps.has_put_same hown.isMap (by trivial) _⟩, fun h => absurd (Or.inr rfl) h⟩
  · have hne : Lit.int .i64 x ≠ Lit.int .i64 y := fun h => e (keyEq.1 h)
    rw [Maps.atKey_put_other hne, Maps.has_put_other hne]
    exact ⟨fun h => (hD x).1 (h.resolve_right e), fun h => (hD x).2 (fun s => h (Or.inl s))⟩
section
variable {P : Program} (w : World) {ops : Array Oper} {rest : List Oper} {o : Oper} {a : Act} {Q : Exit → Act → World → Prop}
theorem wp_set_put (hg : o.guard = none) (m x v : Operand) (t : TypeId) (hop : o.op = Op.mapUpdate t m x v) (K E : TypeId) (hk : P.underlying K = some (.int .i64)) (he : P.underlying E = some .bool) (ht : P.underlying t = some (.map K E)) (b n : Nat) (S : Int → Prop) (hm : a.eval m = .map (some b)) (h : SetAt P K E w b n S) (hn : n < maxLen)
    (y : Int) (hx : a.eval x = .int .i64 y) (hv : a.eval v = .bool true) (hy : (Lit.int .i64 y).wf = true)
    (hK : ∀ w', SetAt P K E w' b (n + 1) (fun x => S x ∨ x = y) → w.grownBy w' (some b) → wpList P ops Q rest (a.put o.dst undef) w') : wpList P ops Q (o :: rest) a w := by
  obtain ⟨D, hown, hD⟩ := h
  exact wpList_mapUpdate_own w hg m x v t hop K E (Maps.int_keyed hk) ht _ b n D hm hown hn _ _ _ hx hv (Maps.keyOf_int_mk hk hy) _ [] (plainElem_bool he true) fun w' h1 h2 => hK w' ⟨_, h1, SetAt.put_ hown hD y⟩ h2
theorem wp_set_ins (hg : o.guard = none) (m x v : Operand) (t : TypeId) (hop : o.op = Op.insert t m x v) (K E : TypeId) (hk : P.underlying K = some (.int .i64)) (he : P.underlying E = some .bool) (ht : P.underlying t = some (.map K E)) (b n : Nat) (S : Int → Prop) (hm : a.eval m = .map (some b)) (h : SetAt P K E w b n S) (hn : n < maxLen)
    (y : Int) (hx : a.eval x = .int .i64 y) (hv : a.eval v = .bool true) (hy : (Lit.int .i64 y).wf = true)
    (hK : ∀ w', SetAt P K E w' b (n + 1) (fun x => S x ∨ x = y) → w.grownBy w' (some b) → wpList P ops Q rest (a.put o.dst undef) w') : wpList P ops Q (o :: rest) a w := by
  obtain ⟨D, hown, hD⟩ := h
  refine wpList_plain hg fun K' hK' => ?_
  obtain ⟨w', hrun, r1, r2⟩ := hown.update (Maps.int_keyed hk) ht hn (Maps.keyOf_int_mk hk hy) (plainElem_bool he true)
  unfold Oper.wp
  simp [execOp, hop, hm, hx, hv, hrun, Result.andThen]
  exact hK' _ _ (hK w' ⟨_, r1, SetAt.put_ hown hD y⟩ r2)
theorem wp_set_look (hg : o.guard = none) (m x : Operand) (t : TypeId) (hop : o.op = Op.lookup t m x false) (K E : TypeId) (hk : P.underlying K = some (.int .i64)) (he : P.underlying E = some .bool) (ht : P.underlying t = some (.map K E)) (hz : (zeroValue E).run P w = .ok (.bool false) w) (b n : Nat) (S : Int → Prop) (hm : a.eval m = .map (some b)) (h : SetAt P K E w b n S)
    (y : Int) (hx : a.eval x = .int .i64 y) (hy : (Lit.int .i64 y).wf = true) (c : Bool) (hc : c = true ↔ S y) (hK : wpList P ops Q rest (a.put o.dst (.bool c)) w) : wpList P ops Q (o :: rest) a w := by
  obtain ⟨D, hown, hD⟩ := h
  refine wpList_plain hg fun K' hK' => ?_
  obtain ⟨v, ps, hrun, hat⟩ := hown.lookup (Maps.int_keyed hk) ht hz (plainElem_bool he false) (Maps.keyOf_int_mk hk hy)
  obtain ⟨q, rfl, hq⟩ := bool_inv he hat
  have hq' : D.atKey (.int .i64 y) (.lit (.bool false)) = .lit (.bool q) := (Prod.mk.inj hq).1
  obtain rfl : q = c := by
    by_cases s : S y
    · rw [((hD y).1 s).1] at hq'
      rw [hc.2 s]
      simpa using hq'.symm
    · have hcf : c = false := by cases c; rfl; exact absurd (hc.1 rfl) s
      rw [Maps.atKey_of_not_has ((hD y).2 s)] at hq'
      rw [hcf]
      simpa using hq'.symm
  unfold Oper.wp
  simp [execOp, hop, hm, hx, hrun, Result.andThen]
  exact hK' _ _ hK
end
def RangeAt (P : Program) (K E : TypeId) (w : World) (b r n : Nat) (S left : Int → Prop) (cnt : Nat) : Prop :=
  ∃ (D : DataW Unit) (lf : Lit → Bool), w.ranges P K (plainElem P E) b r n D lf cnt ∧ (∀ x : Int, (S x → D.atKey (.int .i64 x) (.lit (.bool false)) = .lit (.bool true) ∧ Maps.has D (.int .i64 x) = true) ∧ (¬ S x → Maps.has D (.int .i64 x) = false)) ∧ ∀ x : Int, lf (.int .i64 x) = true ↔ left x
theorem RangeAt.kept {P : Program} {K E : TypeId} {w w' : World} {b r n cnt : Nat} {S left : Int → Prop} {row : Option Nat} (h : RangeAt P K E w b r n S left cnt) (hg : w.grownBy w' row) (hb : some b ≠ row) (hr : some r ≠ row) : RangeAt P K E w' b r n S left cnt := by
  obtain ⟨D, lf, h1, h2⟩ := h
  exact ⟨D, lf, h1.kept hg hb hr, h2⟩
theorem RangeAt.left_eq {P : Program} {K E : TypeId} {w : World} {b r n cnt : Nat} {S left : Int → Prop} (h : RangeAt P K E w b r n S left cnt) : w.rangeLeft b r = cnt := by
  obtain ⟨D, lf, h1, h2⟩ := h
  exact h1.left_eq
theorem nodup_le : ∀ {l L : List Int}, l.Nodup → (∀ x ∈ l, x ∈ L) → l.length ≤ L.length
  | [], _, _, _ => Nat.zero_le _
  | x :: l, L, hn, hs => by
    obtain ⟨h1, h2⟩ := List.nodup_cons.1 hn
    have hx : x ∈ L := hs x (by simp)
    have := nodup_le (l := l) (L := L.erase x) h2 (fun y hy => (List.mem_erase_of_ne (fun e => h1 (by rw [← e]; exact hy))).2 (hs y (by simp [hy])))
    rw [List.length_erase_of_mem hx] at this
    have := List.length_pos_of_mem hx
    simp only [List.length_cons]
    omega
theorem keys_int {H : Type} {P : Program} {K : TypeId} {R : Value → Option (DataW H × List MemPlace)} {w : World} {b n : Nat} {D : DataW H} (hk : P.underlying K = some (.int .i64)) (h : w.ownsMap P K R b n D) : ∃ es, D = .map es ∧ es.Pairwise (fun p q => p.1 ≠ q.1) ∧ ∀ p ∈ es, ∃ x : Int, p.1 = .int .i64 x := by
  obtain ⟨es0, h1, h2, _⟩ := h.entries (Maps.int_keyed hk)
  obtain ⟨es, clock, _, F, _, hD⟩ := h
  refine ⟨es0, h1, h2, fun p hp => ?_⟩
  rw [hD] at h1
  have h3 := DataW.map.inj h1
  rw [← h3] at hp
  obtain ⟨x, hx, rfl⟩ := List.mem_map.1 (mem_sorted.1 hp)
  obtain ⟨y, hy⟩ := F.reads x hx
  obtain ⟨z, hz, hz2, _⟩ := Maps.keyOf_int_inv hk (WideElems.rd_key hy)
  rw [WideElems.rg_of hy]
  exact ⟨z, hz2⟩
theorem SetAt.tight {P : Program} {K E : TypeId} {w : World} {b n : Nat} {S : Int → Prop} (hk : P.underlying K = some (.int .i64)) (h : SetAt P K E w b n S) (L : List Int) (hL : ∀ x, S x → x ∈ L) : SetAt P K E w b L.length S := by
  obtain ⟨D, hown, hD⟩ := h
  obtain ⟨es0, h1, h2, h3⟩ := keys_int hk hown
  have hsz : Maps.size D ≤ L.length := by
    subst h1
    have g : ∀ p ∈ es0, ∃ x ∈ L, p.1 = .int .i64 x := fun p hp => by
      obtain ⟨x, hx⟩ := h3 p hp
      refine ⟨x, hL x ?_, hx⟩
      by_cases s : S x
      · exact s
      · have := (hD x).2 s
        have h4 : Maps.has (.map es0 : DataW Unit) (.int .i64 x) = true := List.any_eq_true.2 ⟨p, hp, by rw [hx]; exact WideAt.sameKey_self trivial⟩
        rw [this] at h4; cases h4
    let key : Lit × DataW Unit → Int := fun p => match p.1 with | .int _ x => x | _ => 0
    have hn : (es0.map key).Nodup := by
      rw [List.Nodup, List.pairwise_map]
      refine List.Pairwise.imp_of_mem (fun {p q} hp hq hne e => ?_) h2
      obtain ⟨x, _, hx⟩ := g p hp
      obtain ⟨y, _, hy⟩ := g q hq
      apply hne
      have e1 : key p = x := by simp only [key, hx]
      have e2 : key q = y := by simp only [key, hy]
      rw [hx, hy, ← e1, ← e2, e]
    have := nodup_le hn (L := L) (fun x hx => by
      obtain ⟨p, hp, rfl⟩ := List.mem_map.1 hx
      obtain ⟨y, hy, e⟩ := g p hp
      have : key p = y := by simp only [key, e]
      rwa [this])
    simpa [Maps.size] using this
  obtain ⟨es, clock, hb, F, hs, rfl⟩ := hown
  refine ⟨_, ⟨es, clock, hb, F, ?_, rfl⟩, hD⟩
  have : Maps.size (DataW.map ((es.toList.map (WideElems.rg P K (plainElem (H := Unit) P E))).foldr DataW.insert [])) = es.size := by simp [Maps.size, length_sorted]
  omega
section
variable {P : Program} (w : World) {ops : Array Oper} {rest : List Oper} {o : Oper} {a : Act} {Q : Exit → Act → World → Prop}
theorem wp_set_range (hg : o.guard = none) (m : Operand) (t : TypeId) (hop : o.op = Op.range t m) (K E : TypeId) (hk : P.underlying K = some (.int .i64)) (ht : P.underlying t = some (.map K E)) (b n : Nat) (S : Int → Prop) (hm : a.eval m = .map (some b)) (h : SetAt P K E w b n S)
    (hK : ∀ w' cnt, cnt ≤ n → RangeAt P K E w' b w.heap.size n S S cnt → w.grownBy w' none → w'.heap.size = w.heap.size + 1 → wpList P ops Q rest (a.put o.dst (.pointer (some ⟨w.heap.size, 0, none⟩))) w') : wpList P ops Q (o :: rest) a w := by
  obtain ⟨D, hown, hD⟩ := h
  refine wpList_range_own w hg m t hop K E (Maps.int_keyed hk) ht _ b n D hm hown fun w' h1 h2 h3 => hK w' _ ?_ ⟨D, _, h1, hD, fun x => ⟨fun hx => ?_, fun s => ((hD x).1 s).2⟩⟩ h2 h3
  · obtain ⟨es, clock, hb, F, hs, rfl⟩ := hown
    have : Maps.size (DataW.map ((es.toList.map (WideElems.rg P K (plainElem (H := Unit) P E))).foldr DataW.insert [])) = es.size := by simp [Maps.size, length_sorted]
    omega
  · by_cases s : S x
    · exact s
    · rw [(hD x).2 s] at hx; cases hx
theorem wp_set_next (hg : o.guard = none) (it : Operand) (hop : o.op = Op.next it false) (K E : TypeId) (hk : P.underlying K = some (.int .i64)) (he : P.underlying E = some .bool) (b r n : Nat) (S left : Int → Prop) (cnt : Nat) (hit : a.eval it = .pointer (some ⟨r, 0, none⟩)) (h : RangeAt P K E w b r n S left cnt) (hLS : ∀ x, left x → S x)
    (hDone : cnt = 0 → (∀ x, ¬ left x) → wpList P ops Q rest (a.put o.dst (.tuple #[.bool false])) w)
    (hMore : ∀ (x : Int) (w' : World) (cnt' : Nat), (Lit.int .i64 x).wf = true → left x → RangeAt P K E w' b r n S (fun y => left y ∧ y ≠ x) cnt' → cnt' < cnt →
      w.grownBy w' (some r) → w'.heap.size = w.heap.size → (Instr.entry (.pointer (some ⟨r, 0, none⟩))).run P w' = .ok (.tuple #[.int .i64 x, .bool true]) w' → wpList P ops Q rest (a.put o.dst (.tuple #[.bool true, .int .i64 x, .bool true])) w') :
    wpList P ops Q (o :: rest) a w := by
  obtain ⟨D, lf, hrg, hD, hl⟩ := h
  refine wpList_next_ranges w hg it hop K (Maps.int_keyed hk) (plainElem P E) (Value.int .i64) Value.bool (fun key kl hkey => by obtain ⟨x, rfl, _⟩ := Maps.keyOf_int_inv hk hkey; exact ⟨x, rfl⟩) (fun v y hv => by obtain ⟨c, rfl, _⟩ := bool_inv he hv; exact ⟨c, rfl⟩) b r n D lf cnt hit hrg (fun h0 hl0 => hDone h0 fun x hx => by have := hl0 (.int .i64 x); rw [(hl x).2 hx] at this; cases this) ?_
  intro x c kl y w' cnt' hkey hlk hv hat hrg' hlt hg' hs' hen
  obtain ⟨x', ex, rfl, hwx⟩ := Maps.keyOf_int_inv hk hkey
  cases ex
  have hS := hLS x ((hl x).1 hlk)
  have hcv := (hat (.lit (.bool false))).symm.trans ((hD x).1 hS).1
  obtain ⟨q, eq1, eq2⟩ := bool_inv he hv
  cases eq1
  rw [eq2] at hcv
  obtain rfl : c = true := by simpa using hcv
  refine hMore x w' cnt' hwx ((hl x).1 hlk) ⟨D, _, hrg', hD, fun z => ?_⟩ hlt hg' hs' hen
  rw [Bool.and_eq_true, hl z, sameI]
  simp
end
end Go.Proofs.Ytimejdhglmajdaa.F
end

section
namespace Go.Proofs.Ytimejdhglmajdaa.F
open Go.RowKit Go.Proofs.YtimejdhglmajdaaW.PrintWords Go.Proofs.YtimejdhglmajdaaW.PrintLast Go.Proofs.YtimejdhglmajdaaW.PrintMore
set_option linter.unusedVariables false
set_option linter.unusedSimpArgs false
attribute [local go_sem] min2_int min_two
def impl_Step.T1 : Bool × List (List Nat × List Nat) := (true, [([], []), ([0], [0]), ([1], [1]), ([2, 1], [2]), ([3], [3]), ([3], [3]), ([5, 3], [3, 5]), ([3], [3]), ([3], [3]), ([6, 7, 8, 3, 3], [3, 6, 7, 8]), ([4, 9, 9, 3], [3, 4, 9]), ([10, 3], [3, 10]), ([3, 11], [3, 11])])
def impl_Step.B1 : List Nat := [0, 1, 3, 7, 15, 15, 47, 15, 15, 495, 1023, 2047, 4095]
theorem impl_Step.tab1 : rtab .any (opsOf Try.f71 1) = impl_Step.T1 := by kernel_rfl
theorem impl_Step.bits1 : waitsOk impl_Step.T1.2 impl_Step.B1 = true := by kernel_rfl
set_option maxHeartbeats 8000000 in
set_option maxRecDepth 100000 in
theorem impl_Step.calls (k : Nat) (a0_0 : Int) (a0_1 : Int) (a0_2 : Int) (a1 : Int) (a2 : Int) (r : Int) (w : World) (h : impl_Step.f k a0_0 a0_1 a0_2 a1 a2 = some r) :
  Calls Try.prog 71 #[.agg #[.int .i64 a0_0, .int .i64 a0_1, .int .i64 a0_2], .int .i64 a1, .int .i64 a2] w fun e w' => e = .returned (.int .i64 r) ∧ Below w.heap.size w w' := by
 have hu32 := Try.underlying32
 have hu30 := Try.underlying30
 have HB := aK (Below.refl w.heap.size w)
 have H : ((impl_MazeOk.f a0_0 a0_1 a0_2).bind fun t192 => (if t192 = true then ((impl_GapAt.f k a0_0 a0_1 a1 a2).bind fun t193 => ((impl_isOpen.f a0_0 a0_1 a0_2 t193).bind fun t194 => (if t194 = true then ((impl_Neighbor.f k a0_0 a0_1 a1 a2).bind fun t195 => (some t195)) else (some (-1))))) else (some (-1)))) = some r := h
 clear h
 replace H := Option.bind_eq_some_iff.mp H
 obtain ⟨t192, A40, H⟩ := H
 replace H : (if t192 = true then ((impl_GapAt.f k a0_0 a0_1 a1 a2).bind fun t193 => ((impl_isOpen.f a0_0 a0_1 a0_2 t193).bind fun t194 => (if t194 = true then ((impl_Neighbor.f k a0_0 a0_1 a1 a2).bind fun t195 => (some t195)) else (some (-1))))) else (some (-1))) = some r := H
 have A4 := aK A40
 clear A40
 by_cases c5 : t192 = true
 ·subst c5
  have H1 : ((impl_GapAt.f k a0_0 a0_1 a1 a2).bind fun t193 => ((impl_isOpen.f a0_0 a0_1 a0_2 t193).bind fun t194 => (if t194 = true then ((impl_Neighbor.f k a0_0 a0_1 a1 a2).bind fun t195 => (some t195)) else (some (-1))))) = some r := by rw [if_pos rfl] at H; exact H
  clear H
  have H := H1
  clear H1
  replace H := Option.bind_eq_some_iff.mp H
  obtain ⟨t193, A60, H⟩ := H
  replace H : ((impl_isOpen.f a0_0 a0_1 a0_2 t193).bind fun t194 => (if t194 = true then ((impl_Neighbor.f k a0_0 a0_1 a1 a2).bind fun t195 => (some t195)) else (some (-1)))) = some r := H
  have A6 := aK A60
  clear A60
  replace H := Option.bind_eq_some_iff.mp H
  obtain ⟨t194, A70, H⟩ := H
  replace H : (if t194 = true then ((impl_Neighbor.f k a0_0 a0_1 a1 a2).bind fun t195 => (some t195)) else (some (-1))) = some r := H
  have A7 := aK A70
  clear A70
  by_cases c8 : t194 = true
  ·subst c8
   have H1 : ((impl_Neighbor.f k a0_0 a0_1 a1 a2).bind fun t195 => (some t195)) = some r := by rw [if_pos rfl] at H; exact H
   clear H
   have H := H1
   clear H1
   replace H := Option.bind_eq_some_iff.mp H
   obtain ⟨t195, A90, H⟩ := H
   replace H : (some t195) = some r := H
   have A9 := aK A90
   clear A90
   obtain rfl := Option.some.inj H
   go_enter Try.func71, Try.ntmps71
   try go_wp2_with (first | ((with_reducible refine gate_dst (N := 3) rfl ?_); refine box_event ?hg (N := 3) ?hd (cs := #[.int .i64 a0_0, .int .i64 a0_1, .int .i64 a0_2]) (t := 32) ?hr ?_; (case hd => rfl); (case hg => rfl); (case hr => first | (go_simp; done) | (go_simp; rfl)); intro gb191 hg w10 hbox hb; have n0_ := aK (bSp (by repeat (first | (with_reducible first | exact HB.out | apply bAl | apply bDN | apply bD1) | exact HB.out)) hb); have n1_ := aK (hbox); have n2_ := aK ((by rw [hg]; exact (bSz (by repeat (first | (with_reducible first | exact HB.out | apply bAl | apply bDN | apply bD1) | exact HB.out))) : w.heap.size ≤ gb191)); have n3_ := n2_; clear HB; have HB := n0_; have BK191 := n1_; have GW191 := n2_; have GE191 := n3_; clear n0_ n1_ n2_ n3_; clear hb hbox hg))
   have n0_ := aK (kD BK191.out)
   have n1_ := aK (bD1 HB.out)
   clear BK191
   clear HB
   have BK191 := n0_
   have HB := n1_
   clear n0_ n1_
   refine start_ (n := 13) (S := fun w' => w'.cell? ⟨gb191, 0, none⟩ = some (.int .i64 a0_0) ∧ w'.cell? ⟨gb191, 1, none⟩ = some (.int .i64 a0_1) ∧ w'.cell? ⟨gb191, 2, none⟩ = some (.int .i64 a0_2)) (ds := []) #[bN,bN,bN,bN,bN,bN,bN,bN,bN,bN,bN,bN,bN] (by kernel_rfl) rfl rfl ⟨(kC BK191.out 0).trans rfl, (kC BK191.out 1).trans rfl, (kC BK191.out 2).trans rfl⟩ (fun hHeld => ?_); refine with_tabW impl_Step.tab1 impl_Step.bits1 (fun HT_ HW_ => ?_)
   generalize w10.drew = w11 at BK191 HB hHeld ⊢
   refine take_ (i := 0) (N := some 7) (v := ?_) (a' := ?_) #[bY,bN,bN,bN,bN,bN,bN,bN,bN,bN,bN,bN,bN] rfl rfl (take_ofW HT_.out HW_.out (by kernel_rfl)) (fun _ _ _ h => h) (Or.inl ⟨by rfl, ?_⟩) hHeld ?_ ?_
   rotate_left
   ·rintro w' ⟨s0, s1, s2⟩
    go_simp
    with_reducible rfl
   rotate_left
   ·simp only [Act.put, sTA, sZ, sS, i64_w, i32_w]
    rfl
   refine one_ (i := 1) (N := some 8) #[bY,bY,bN,bN,bN,bN,bN,bN,bN,bN,bN,bN,bN] rfl rfl (one_of HT_.out (by kernel_rfl)) (by decide) (fun K hK => ?_)
   refine goes_ Try.func94 (by kernel_rfl) rfl #[.agg #[.int .i64 a0_0, .int .i64 a0_1, .int .i64 a0_2]] (by rfl) rfl rfl (by (try simp only [List.map_toArray, List.map_cons, List.map_nil]); first | done | rfl | (simp only [List.length_drop, List.length_take]; rfl)) ?_
   with_reducible refine (impl_MazeOk.calls a0_0 a0_1 a0_2 true _ A4.out).mono ?_
   rintro e w12 ⟨rfl, hb⟩
   refine ⟨_, rfl, ?_⟩
   have n0_ := bkb BK191 hb (by intro z_; (with_reducible repeat (first | refine kDN ?_ _ | refine kD ?_ | refine kA ?_ _)); exact z_)
   have n1_ := aK (bSp (by repeat (first | (with_reducible first | exact HB.out | apply bAl | apply bDN | apply bD1 | refine bSt ?_ GE191.out) | exact HB.out)) hb)
   clear BK191
   clear HB
   have BK191 := n0_
   have HB := n1_
   clear n0_ n1_
   (try clear hb)
   (try clear hb2)
   (try clear hk)
   (try clear hi)
   refine hK.out _ _ ⟨(kC BK191.out 0).trans rfl, (kC BK191.out 1).trans rfl, (kC BK191.out 2).trans rfl⟩ (fun hHeld => ?_)
   clear hK K
   refine norm_ (a' := ?_) ?_ ?_
   rotate_left
   ·show Act.put _ (some 8) _ = _
    simp only [Act.put, sTA, sZ, sS, i64_w, i32_w]
    rfl
   refine pure_ (i := 2) (N := some 9) (v := ?_) (a' := ?_) #[bY,bY,bY,bN,bN,bN,bN,bN,bN,bN,bN,bN,bN] rfl rfl (any_of HT_.out (by kernel_rfl)) (fun _ _ _ h => h) (Or.inl ⟨by rfl, ?_⟩) ?_ ?_
   rotate_left
   ·intro w'
    go_simp
    with_reducible rfl
   rotate_left
   ·simp only [Act.put, sTA, sZ, sS, i64_w, i32_w]
    rfl
   refine pure_ (i := 3) (N := some 10) (v := ?_) (a' := ?_) #[bY,bY,bY,bY,bN,bN,bN,bN,bN,bN,bN,bN,bN] rfl rfl (any_of HT_.out (by kernel_rfl)) (fun _ _ _ h => h) (Or.inl ⟨by rfl, ?_⟩) ?_ ?_
   rotate_left
   ·intro w'
    go_simp
    with_reducible rfl
   rotate_left
   ·simp only [Act.put, sTA, sZ, sS, i64_w, i32_w]
    rfl
   refine pure_ (i := 5) (N := some 12) (v := ?_) (a' := ?_) #[bY,bY,bY,bY,bN,bY,bN,bN,bN,bN,bN,bN,bN] rfl rfl (any_of HT_.out (by kernel_rfl)) (fun _ _ _ h => h) (Or.inl ⟨by rfl, ?_⟩) ?_ ?_
   rotate_left
   ·intro w'
    go_simp
    with_reducible rfl
   rotate_left
   ·simp only [Act.put, sTA, sZ, sS, i64_w, i32_w]
    rfl
   refine pure_ (i := 7) (N := some 14) (v := ?_) (a' := ?_) #[bY,bY,bY,bY,bN,bY,bN,bY,bN,bN,bN,bN,bN] rfl rfl (any_of HT_.out (by kernel_rfl)) (fun _ _ _ h => h) (Or.inl ⟨by rfl, ?_⟩) ?_ ?_
   rotate_left
   ·intro w'
    go_simp
    with_reducible rfl
   rotate_left
   ·simp only [Act.put, sTA, sZ, sS, i64_w, i32_w]
    rfl
   refine pure_ (i := 8) (N := some 15) (v := ?_) (a' := ?_) #[bY,bY,bY,bY,bN,bY,bN,bY,bY,bN,bN,bN,bN] rfl rfl (any_of HT_.out (by kernel_rfl)) (fun _ _ _ h => h) (Or.inl ⟨by rfl, ?_⟩) ?_ ?_
   rotate_left
   ·intro w'
    go_simp
    with_reducible rfl
   rotate_left
   ·simp only [Act.put, sTA, sZ, sS, i64_w, i32_w]
    rfl
   refine take_ (i := 4) (N := some 11) (v := ?_) (a' := ?_) #[bY,bY,bY,bY,bY,bY,bN,bY,bY,bN,bN,bN,bN] rfl rfl (take_ofW HT_.out HW_.out (by kernel_rfl)) (fun _ _ _ h => h) (Or.inl ⟨by rfl, ?_⟩) hHeld ?_ ?_
   rotate_left
   ·rintro w' ⟨s0, s1, s2⟩
    go_simp
    with_reducible rfl
   rotate_left
   ·simp only [Act.put, sTA, sZ, sS, i64_w, i32_w]
    rfl
   refine take_ (i := 6) (N := some 13) (v := ?_) (a' := ?_) #[bY,bY,bY,bY,bY,bY,bY,bY,bY,bN,bN,bN,bN] rfl rfl (take_ofW HT_.out HW_.out (by kernel_rfl)) (fun _ _ _ h => h) (Or.inl ⟨by rfl, ?_⟩) hHeld ?_ ?_
   rotate_left
   ·rintro w' ⟨s0, s1, s2⟩
    go_simp
    with_reducible rfl
   rotate_left
   ·simp only [Act.put, sTA, sZ, sS, i64_w, i32_w]
    rfl
   refine one_ (i := 9) (N := some 16) #[bY,bY,bY,bY,bY,bY,bY,bY,bY,bY,bN,bN,bN] rfl rfl (one_of HT_.out (by kernel_rfl)) (by decide) (fun K hK => ?_)
   refine goes_ Try.func122 (by kernel_rfl) rfl #[.agg #[.int .i64 a0_0, .int .i64 a0_1], .int .i64 a1, .int .i64 a2] (by rfl) rfl rfl (by (try simp only [List.map_toArray, List.map_cons, List.map_nil]); first | done | rfl | (simp only [List.length_drop, List.length_take]; rfl)) ?_
   with_reducible refine (impl_GapAt.calls k a0_0 a0_1 a1 a2 t193 _ A6.out).mono ?_
   rintro e w13 ⟨rfl, hb⟩
   refine ⟨_, rfl, ?_⟩
   have n0_ := bkb BK191 hb (by intro z_; (with_reducible repeat (first | refine kDN ?_ _ | refine kD ?_ | refine kA ?_ _)); exact z_)
   have n1_ := aK (bSp (by repeat (first | (with_reducible first | exact HB.out | apply bAl | apply bDN | apply bD1 | refine bSt ?_ GE191.out) | exact HB.out)) hb)
   clear BK191
   clear HB
   have BK191 := n0_
   have HB := n1_
   clear n0_ n1_
   (try clear hb)
   (try clear hb2)
   (try clear hk)
   (try clear hi)
   refine hK.out _ _ ⟨(kC BK191.out 0).trans rfl, (kC BK191.out 1).trans rfl, (kC BK191.out 2).trans rfl⟩ (fun hHeld => ?_)
   clear hK K
   refine norm_ (a' := ?_) ?_ ?_
   rotate_left
   ·show Act.put _ (some 16) _ = _
    simp only [Act.put, sTA, sZ, sS, i64_w, i32_w]
    rfl
   refine one_ (i := 10) (N := some 17) #[bY,bY,bY,bY,bY,bY,bY,bY,bY,bY,bY,bN,bN] rfl rfl (one_of HT_.out (by kernel_rfl)) (by decide) (fun K hK => ?_)
   refine goes_ Try.func121 (by kernel_rfl) rfl #[.agg #[.int .i64 a0_0, .int .i64 a0_1, .int .i64 a0_2], .int .i64 t193] (by rfl) rfl rfl (by (try simp only [List.map_toArray, List.map_cons, List.map_nil]); first | done | rfl | (simp only [List.length_drop, List.length_take]; rfl)) ?_
   with_reducible refine (impl_isOpen.calls a0_0 a0_1 a0_2 t193 true _ A7.out).mono ?_
   rintro e w14 ⟨rfl, hb⟩
   refine ⟨_, rfl, ?_⟩
   have n0_ := bkb BK191 hb (by intro z_; (with_reducible repeat (first | refine kDN ?_ _ | refine kD ?_ | refine kA ?_ _)); exact z_)
   have n1_ := aK (bSp (by repeat (first | (with_reducible first | exact HB.out | apply bAl | apply bDN | apply bD1 | refine bSt ?_ GE191.out) | exact HB.out)) hb)
   clear BK191
   clear HB
   have BK191 := n0_
   have HB := n1_
   clear n0_ n1_
   (try clear hb)
   (try clear hb2)
   (try clear hk)
   (try clear hi)
   refine hK.out _ _ ⟨(kC BK191.out 0).trans rfl, (kC BK191.out 1).trans rfl, (kC BK191.out 2).trans rfl⟩ (fun hHeld => ?_)
   clear hK K
   refine norm_ (a' := ?_) ?_ ?_
   rotate_left
   ·show Act.put _ (some 17) _ = _
    simp only [Act.put, sTA, sZ, sS, i64_w, i32_w]
    rfl
   refine pure_ (i := 11) (N := some 18) (v := ?_) (a' := ?_) #[bY,bY,bY,bY,bY,bY,bY,bY,bY,bY,bY,bY,bN] rfl rfl (any_of HT_.out (by kernel_rfl)) (fun _ _ _ h => h) (Or.inl ⟨by rfl, ?_⟩) ?_ ?_
   rotate_left
   ·intro w'
    go_simp
    with_reducible rfl
   rotate_left
   ·simp only [Act.put, sTA, sZ, sS, i64_w, i32_w]
    rfl
   refine pure_ (i := 12) (N := some 19) (v := ?_) (a' := ?_) #[bY,bY,bY,bY,bY,bY,bY,bY,bY,bY,bY,bY,bY] rfl rfl (any_of HT_.out (by kernel_rfl)) (fun _ _ _ h => h) (Or.inl ⟨by rfl, ?_⟩) ?_ ?_
   rotate_left
   ·intro w'
    go_simp
    with_reducible rfl
   rotate_left
   ·simp only [Act.put, sTA, sZ, sS, i64_w, i32_w]
    rfl
   refine done_ (done_of HT_.out (by kernel_rfl)) ?_
   obtain ⟨hcz15_0, hcz15_1, hcz15_2, hfz15_0, hfz15_1, hfz15_2⟩ := cl3 BK191.out
   try go_wp2_with (first | ((with_reducible refine gate_callee (f := 123) rfl ?_); refine goesL_ (some 24) rfl rfl Try.func123 (by kernel_rfl) rfl #[.agg #[.int .i64 a0_0, .int .i64 a0_1], .int .i64 a1, .int .i64 a2] rfl (by (try simp only [List.map_toArray, List.map_cons, List.map_nil]); first | done | rfl | (simp only [List.length_drop, List.length_take]; rfl)) ?_; (with_reducible refine (impl_Neighbor.calls k a0_0 a0_1 a1 a2 t195 _ A9.out).mono ?_); rintro e w16 ⟨rfl, hb⟩; refine ⟨_, rfl, ?_⟩; have n0_ := bkb BK191 hb (by intro z_; (with_reducible repeat (first | refine kDN ?_ _ | refine kD ?_ | refine kA ?_ _)); exact z_); have n1_ := aK (bSp (by repeat (first | (with_reducible first | exact HB.out | apply bAl | apply bDN | apply bD1 | refine bSt ?_ GE191.out) | exact HB.out)) hb); clear BK191; clear HB; have BK191 := n0_; have HB := n1_; clear n0_ n1_; (try clear hb); (try clear hb2); (try clear hk); (try clear hi)))
   go_ret
   exact ⟨by first | rfl | (simp [errW_none, errW_some] <;> rfl) | (simp [*, errW_none, errW_some] <;> rfl), by repeat (first | (with_reducible first | exact HB.out | apply bAl | apply bDN | apply bD1 | refine bSt ?_ GE191.out) | exact HB.out)⟩
  ·replace c8 := Bool.eq_false_iff.mpr c8
   subst c8
   have H1 : (some (-1)) = some r := by rw [if_neg (show ¬ (false = true) by decide)] at H; exact H
   clear H
   have H := H1
   clear H1
   obtain rfl := Option.some.inj H
   go_enter Try.func71, Try.ntmps71
   try go_wp2_with (first | ((with_reducible refine gate_dst (N := 3) rfl ?_); refine box_event ?hg (N := 3) ?hd (cs := #[.int .i64 a0_0, .int .i64 a0_1, .int .i64 a0_2]) (t := 32) ?hr ?_; (case hd => rfl); (case hg => rfl); (case hr => first | (go_simp; done) | (go_simp; rfl)); intro gb191 hg w17 hbox hb; have n0_ := aK (bSp (by repeat (first | (with_reducible first | exact HB.out | apply bAl | apply bDN | apply bD1) | exact HB.out)) hb); have n1_ := aK (hbox); have n2_ := aK ((by rw [hg]; exact (bSz (by repeat (first | (with_reducible first | exact HB.out | apply bAl | apply bDN | apply bD1) | exact HB.out))) : w.heap.size ≤ gb191)); have n3_ := n2_; clear HB; have HB := n0_; have BK191 := n1_; have GW191 := n2_; have GE191 := n3_; clear n0_ n1_ n2_ n3_; clear hb hbox hg))
   have n0_ := aK (kD BK191.out)
   have n1_ := aK (bD1 HB.out)
   clear BK191
   clear HB
   have BK191 := n0_
   have HB := n1_
   clear n0_ n1_
   refine start_ (n := 13) (S := fun w' => w'.cell? ⟨gb191, 0, none⟩ = some (.int .i64 a0_0) ∧ w'.cell? ⟨gb191, 1, none⟩ = some (.int .i64 a0_1) ∧ w'.cell? ⟨gb191, 2, none⟩ = some (.int .i64 a0_2)) (ds := []) #[bN,bN,bN,bN,bN,bN,bN,bN,bN,bN,bN,bN,bN] (by kernel_rfl) rfl rfl ⟨(kC BK191.out 0).trans rfl, (kC BK191.out 1).trans rfl, (kC BK191.out 2).trans rfl⟩ (fun hHeld => ?_); refine with_tabW impl_Step.tab1 impl_Step.bits1 (fun HT_ HW_ => ?_)
   generalize w17.drew = w18 at BK191 HB hHeld ⊢
   refine take_ (i := 0) (N := some 7) (v := ?_) (a' := ?_) #[bY,bN,bN,bN,bN,bN,bN,bN,bN,bN,bN,bN,bN] rfl rfl (take_ofW HT_.out HW_.out (by kernel_rfl)) (fun _ _ _ h => h) (Or.inl ⟨by rfl, ?_⟩) hHeld ?_ ?_
   rotate_left
   ·rintro w' ⟨s0, s1, s2⟩
    go_simp
    with_reducible rfl
   rotate_left
   ·simp only [Act.put, sTA, sZ, sS, i64_w, i32_w]
    rfl
   refine one_ (i := 1) (N := some 8) #[bY,bY,bN,bN,bN,bN,bN,bN,bN,bN,bN,bN,bN] rfl rfl (one_of HT_.out (by kernel_rfl)) (by decide) (fun K hK => ?_)
   refine goes_ Try.func94 (by kernel_rfl) rfl #[.agg #[.int .i64 a0_0, .int .i64 a0_1, .int .i64 a0_2]] (by rfl) rfl rfl (by (try simp only [List.map_toArray, List.map_cons, List.map_nil]); first | done | rfl | (simp only [List.length_drop, List.length_take]; rfl)) ?_
   with_reducible refine (impl_MazeOk.calls a0_0 a0_1 a0_2 true _ A4.out).mono ?_
   rintro e w19 ⟨rfl, hb⟩
   refine ⟨_, rfl, ?_⟩
   have n0_ := bkb BK191 hb (by intro z_; (with_reducible repeat (first | refine kDN ?_ _ | refine kD ?_ | refine kA ?_ _)); exact z_)
   have n1_ := aK (bSp (by repeat (first | (with_reducible first | exact HB.out | apply bAl | apply bDN | apply bD1 | refine bSt ?_ GE191.out) | exact HB.out)) hb)
   clear BK191
   clear HB
   have BK191 := n0_
   have HB := n1_
   clear n0_ n1_
   (try clear hb)
   (try clear hb2)
   (try clear hk)
   (try clear hi)
   refine hK.out _ _ ⟨(kC BK191.out 0).trans rfl, (kC BK191.out 1).trans rfl, (kC BK191.out 2).trans rfl⟩ (fun hHeld => ?_)
   clear hK K
   refine norm_ (a' := ?_) ?_ ?_
   rotate_left
   ·show Act.put _ (some 8) _ = _
    simp only [Act.put, sTA, sZ, sS, i64_w, i32_w]
    rfl
   refine pure_ (i := 2) (N := some 9) (v := ?_) (a' := ?_) #[bY,bY,bY,bN,bN,bN,bN,bN,bN,bN,bN,bN,bN] rfl rfl (any_of HT_.out (by kernel_rfl)) (fun _ _ _ h => h) (Or.inl ⟨by rfl, ?_⟩) ?_ ?_
   rotate_left
   ·intro w'
    go_simp
    with_reducible rfl
   rotate_left
   ·simp only [Act.put, sTA, sZ, sS, i64_w, i32_w]
    rfl
   refine pure_ (i := 3) (N := some 10) (v := ?_) (a' := ?_) #[bY,bY,bY,bY,bN,bN,bN,bN,bN,bN,bN,bN,bN] rfl rfl (any_of HT_.out (by kernel_rfl)) (fun _ _ _ h => h) (Or.inl ⟨by rfl, ?_⟩) ?_ ?_
   rotate_left
   ·intro w'
    go_simp
    with_reducible rfl
   rotate_left
   ·simp only [Act.put, sTA, sZ, sS, i64_w, i32_w]
    rfl
   refine pure_ (i := 5) (N := some 12) (v := ?_) (a' := ?_) #[bY,bY,bY,bY,bN,bY,bN,bN,bN,bN,bN,bN,bN] rfl rfl (any_of HT_.out (by kernel_rfl)) (fun _ _ _ h => h) (Or.inl ⟨by rfl, ?_⟩) ?_ ?_
   rotate_left
   ·intro w'
    go_simp
    with_reducible rfl
   rotate_left
   ·simp only [Act.put, sTA, sZ, sS, i64_w, i32_w]
    rfl
   refine pure_ (i := 7) (N := some 14) (v := ?_) (a' := ?_) #[bY,bY,bY,bY,bN,bY,bN,bY,bN,bN,bN,bN,bN] rfl rfl (any_of HT_.out (by kernel_rfl)) (fun _ _ _ h => h) (Or.inl ⟨by rfl, ?_⟩) ?_ ?_
   rotate_left
   ·intro w'
    go_simp
    with_reducible rfl
   rotate_left
   ·simp only [Act.put, sTA, sZ, sS, i64_w, i32_w]
    rfl
   refine pure_ (i := 8) (N := some 15) (v := ?_) (a' := ?_) #[bY,bY,bY,bY,bN,bY,bN,bY,bY,bN,bN,bN,bN] rfl rfl (any_of HT_.out (by kernel_rfl)) (fun _ _ _ h => h) (Or.inl ⟨by rfl, ?_⟩) ?_ ?_
   rotate_left
   ·intro w'
    go_simp
    with_reducible rfl
   rotate_left
   ·simp only [Act.put, sTA, sZ, sS, i64_w, i32_w]
    rfl
   refine take_ (i := 4) (N := some 11) (v := ?_) (a' := ?_) #[bY,bY,bY,bY,bY,bY,bN,bY,bY,bN,bN,bN,bN] rfl rfl (take_ofW HT_.out HW_.out (by kernel_rfl)) (fun _ _ _ h => h) (Or.inl ⟨by rfl, ?_⟩) hHeld ?_ ?_
   rotate_left
   ·rintro w' ⟨s0, s1, s2⟩
    go_simp
    with_reducible rfl
   rotate_left
   ·simp only [Act.put, sTA, sZ, sS, i64_w, i32_w]
    rfl
   refine take_ (i := 6) (N := some 13) (v := ?_) (a' := ?_) #[bY,bY,bY,bY,bY,bY,bY,bY,bY,bN,bN,bN,bN] rfl rfl (take_ofW HT_.out HW_.out (by kernel_rfl)) (fun _ _ _ h => h) (Or.inl ⟨by rfl, ?_⟩) hHeld ?_ ?_
   rotate_left
   ·rintro w' ⟨s0, s1, s2⟩
    go_simp
    with_reducible rfl
   rotate_left
   ·simp only [Act.put, sTA, sZ, sS, i64_w, i32_w]
    rfl
   refine one_ (i := 9) (N := some 16) #[bY,bY,bY,bY,bY,bY,bY,bY,bY,bY,bN,bN,bN] rfl rfl (one_of HT_.out (by kernel_rfl)) (by decide) (fun K hK => ?_)
   refine goes_ Try.func122 (by kernel_rfl) rfl #[.agg #[.int .i64 a0_0, .int .i64 a0_1], .int .i64 a1, .int .i64 a2] (by rfl) rfl rfl (by (try simp only [List.map_toArray, List.map_cons, List.map_nil]); first | done | rfl | (simp only [List.length_drop, List.length_take]; rfl)) ?_
   with_reducible refine (impl_GapAt.calls k a0_0 a0_1 a1 a2 t193 _ A6.out).mono ?_
   rintro e w20 ⟨rfl, hb⟩
   refine ⟨_, rfl, ?_⟩
   have n0_ := bkb BK191 hb (by intro z_; (with_reducible repeat (first | refine kDN ?_ _ | refine kD ?_ | refine kA ?_ _)); exact z_)
   have n1_ := aK (bSp (by repeat (first | (with_reducible first | exact HB.out | apply bAl | apply bDN | apply bD1 | refine bSt ?_ GE191.out) | exact HB.out)) hb)
   clear BK191
   clear HB
   have BK191 := n0_
   have HB := n1_
   clear n0_ n1_
   (try clear hb)
   (try clear hb2)
   (try clear hk)
   (try clear hi)
   refine hK.out _ _ ⟨(kC BK191.out 0).trans rfl, (kC BK191.out 1).trans rfl, (kC BK191.out 2).trans rfl⟩ (fun hHeld => ?_)
   clear hK K
   refine norm_ (a' := ?_) ?_ ?_
   rotate_left
   ·show Act.put _ (some 16) _ = _
    simp only [Act.put, sTA, sZ, sS, i64_w, i32_w]
    rfl
   refine one_ (i := 10) (N := some 17) #[bY,bY,bY,bY,bY,bY,bY,bY,bY,bY,bY,bN,bN] rfl rfl (one_of HT_.out (by kernel_rfl)) (by decide) (fun K hK => ?_)
   refine goes_ Try.func121 (by kernel_rfl) rfl #[.agg #[.int .i64 a0_0, .int .i64 a0_1, .int .i64 a0_2], .int .i64 t193] (by rfl) rfl rfl (by (try simp only [List.map_toArray, List.map_cons, List.map_nil]); first | done | rfl | (simp only [List.length_drop, List.length_take]; rfl)) ?_
   with_reducible refine (impl_isOpen.calls a0_0 a0_1 a0_2 t193 false _ A7.out).mono ?_
   rintro e w21 ⟨rfl, hb⟩
   refine ⟨_, rfl, ?_⟩
   have n0_ := bkb BK191 hb (by intro z_; (with_reducible repeat (first | refine kDN ?_ _ | refine kD ?_ | refine kA ?_ _)); exact z_)
   have n1_ := aK (bSp (by repeat (first | (with_reducible first | exact HB.out | apply bAl | apply bDN | apply bD1 | refine bSt ?_ GE191.out) | exact HB.out)) hb)
   clear BK191
   clear HB
   have BK191 := n0_
   have HB := n1_
   clear n0_ n1_
   (try clear hb)
   (try clear hb2)
   (try clear hk)
   (try clear hi)
   refine hK.out _ _ ⟨(kC BK191.out 0).trans rfl, (kC BK191.out 1).trans rfl, (kC BK191.out 2).trans rfl⟩ (fun hHeld => ?_)
   clear hK K
   refine norm_ (a' := ?_) ?_ ?_
   rotate_left
   ·show Act.put _ (some 17) _ = _
    simp only [Act.put, sTA, sZ, sS, i64_w, i32_w]
    rfl
   refine pure_ (i := 11) (N := some 18) (v := ?_) (a' := ?_) #[bY,bY,bY,bY,bY,bY,bY,bY,bY,bY,bY,bY,bN] rfl rfl (any_of HT_.out (by kernel_rfl)) (fun _ _ _ h => h) (Or.inl ⟨by rfl, ?_⟩) ?_ ?_
   rotate_left
   ·intro w'
    go_simp
    with_reducible rfl
   rotate_left
   ·simp only [Act.put, sTA, sZ, sS, i64_w, i32_w]
    rfl
   refine pure_ (i := 12) (N := some 19) (v := ?_) (a' := ?_) #[bY,bY,bY,bY,bY,bY,bY,bY,bY,bY,bY,bY,bY] rfl rfl (any_of HT_.out (by kernel_rfl)) (fun _ _ _ h => h) (Or.inl ⟨by rfl, ?_⟩) ?_ ?_
   rotate_left
   ·intro w'
    go_simp
    with_reducible rfl
   rotate_left
   ·simp only [Act.put, sTA, sZ, sS, i64_w, i32_w]
    rfl
   refine done_ (done_of HT_.out (by kernel_rfl)) ?_
   try go_wp2
   go_ret
   exact ⟨by first | rfl | (simp [errW_none, errW_some] <;> rfl) | (simp [*, errW_none, errW_some] <;> rfl), by repeat (first | (with_reducible first | exact HB.out | apply bAl | apply bDN | apply bD1 | refine bSt ?_ GE191.out) | exact HB.out)⟩
 ·replace c5 := Bool.eq_false_iff.mpr c5
  subst c5
  have H1 : (some (-1)) = some r := by rw [if_neg (show ¬ (false = true) by decide)] at H; exact H
  clear H
  have H := H1
  clear H1
  obtain rfl := Option.some.inj H
  go_enter Try.func71, Try.ntmps71
  try go_wp2_with (first | ((with_reducible refine gate_dst (N := 3) rfl ?_); refine box_event ?hg (N := 3) ?hd (cs := #[.int .i64 a0_0, .int .i64 a0_1, .int .i64 a0_2]) (t := 32) ?hr ?_; (case hd => rfl); (case hg => rfl); (case hr => first | (go_simp; done) | (go_simp; rfl)); intro gb191 hg w22 hbox hb; have n0_ := aK (bSp (by repeat (first | (with_reducible first | exact HB.out | apply bAl | apply bDN | apply bD1) | exact HB.out)) hb); have n1_ := aK (hbox); have n2_ := aK ((by rw [hg]; exact (bSz (by repeat (first | (with_reducible first | exact HB.out | apply bAl | apply bDN | apply bD1) | exact HB.out))) : w.heap.size ≤ gb191)); have n3_ := n2_; clear HB; have HB := n0_; have BK191 := n1_; have GW191 := n2_; have GE191 := n3_; clear n0_ n1_ n2_ n3_; clear hb hbox hg))
  have n0_ := aK (kD BK191.out)
  have n1_ := aK (bD1 HB.out)
  clear BK191
  clear HB
  have BK191 := n0_
  have HB := n1_
  clear n0_ n1_
  refine start_ (n := 13) (S := fun w' => w'.cell? ⟨gb191, 0, none⟩ = some (.int .i64 a0_0) ∧ w'.cell? ⟨gb191, 1, none⟩ = some (.int .i64 a0_1) ∧ w'.cell? ⟨gb191, 2, none⟩ = some (.int .i64 a0_2)) (ds := []) #[bN,bN,bN,bN,bN,bN,bN,bN,bN,bN,bN,bN,bN] (by kernel_rfl) rfl rfl ⟨(kC BK191.out 0).trans rfl, (kC BK191.out 1).trans rfl, (kC BK191.out 2).trans rfl⟩ (fun hHeld => ?_); refine with_tabW impl_Step.tab1 impl_Step.bits1 (fun HT_ HW_ => ?_)
  generalize w22.drew = w23 at BK191 HB hHeld ⊢
  refine take_ (i := 0) (N := some 7) (v := ?_) (a' := ?_) #[bY,bN,bN,bN,bN,bN,bN,bN,bN,bN,bN,bN,bN] rfl rfl (take_ofW HT_.out HW_.out (by kernel_rfl)) (fun _ _ _ h => h) (Or.inl ⟨by rfl, ?_⟩) hHeld ?_ ?_
  rotate_left
  ·rintro w' ⟨s0, s1, s2⟩
   go_simp
   with_reducible rfl
  rotate_left
  ·simp only [Act.put, sTA, sZ, sS, i64_w, i32_w]
   rfl
  refine one_ (i := 1) (N := some 8) #[bY,bY,bN,bN,bN,bN,bN,bN,bN,bN,bN,bN,bN] rfl rfl (one_of HT_.out (by kernel_rfl)) (by decide) (fun K hK => ?_)
  refine goes_ Try.func94 (by kernel_rfl) rfl #[.agg #[.int .i64 a0_0, .int .i64 a0_1, .int .i64 a0_2]] (by rfl) rfl rfl (by (try simp only [List.map_toArray, List.map_cons, List.map_nil]); first | done | rfl | (simp only [List.length_drop, List.length_take]; rfl)) ?_
  with_reducible refine (impl_MazeOk.calls a0_0 a0_1 a0_2 false _ A4.out).mono ?_
  rintro e w24 ⟨rfl, hb⟩
  refine ⟨_, rfl, ?_⟩
  have n0_ := bkb BK191 hb (by intro z_; (with_reducible repeat (first | refine kDN ?_ _ | refine kD ?_ | refine kA ?_ _)); exact z_)
  have n1_ := aK (bSp (by repeat (first | (with_reducible first | exact HB.out | apply bAl | apply bDN | apply bD1 | refine bSt ?_ GE191.out) | exact HB.out)) hb)
  clear BK191
  clear HB
  have BK191 := n0_
  have HB := n1_
  clear n0_ n1_
  (try clear hb)
  (try clear hb2)
  (try clear hk)
  (try clear hi)
  refine hK.out _ _ ⟨(kC BK191.out 0).trans rfl, (kC BK191.out 1).trans rfl, (kC BK191.out 2).trans rfl⟩ (fun hHeld => ?_)
  clear hK K
  refine norm_ (a' := ?_) ?_ ?_
  rotate_left
  ·show Act.put _ (some 8) _ = _
   simp only [Act.put, sTA, sZ, sS, i64_w, i32_w]
   rfl
  refine pure_ (i := 2) (N := some 9) (v := ?_) (a' := ?_) #[bY,bY,bY,bN,bN,bN,bN,bN,bN,bN,bN,bN,bN] rfl rfl (any_of HT_.out (by kernel_rfl)) (fun _ _ _ h => h) (Or.inl ⟨by rfl, ?_⟩) ?_ ?_
  rotate_left
  ·intro w'
   go_simp
   with_reducible rfl
  rotate_left
  ·simp only [Act.put, sTA, sZ, sS, i64_w, i32_w]
   rfl
  refine pure_ (i := 3) (N := some 10) (v := ?_) (a' := ?_) #[bY,bY,bY,bY,bN,bN,bN,bN,bN,bN,bN,bN,bN] rfl rfl (any_of HT_.out (by kernel_rfl)) (fun _ _ _ h => h) (Or.inl ⟨by rfl, ?_⟩) ?_ ?_
  rotate_left
  ·intro w'
   go_simp
   with_reducible rfl
  rotate_left
  ·simp only [Act.put, sTA, sZ, sS, i64_w, i32_w]
   rfl
  refine pure_ (i := 4) (N := some 11) (v := undef) (a' := ?_) #[bY,bY,bY,bY,bY,bN,bN,bN,bN,bN,bN,bN,bN] rfl rfl (any_of HT_.out (by kernel_rfl)) (fun _ _ _ h => h) (Or.inr ⟨by rfl, rfl⟩) ?_ ?_
  rotate_left
  ·simp only [Act.put, sTA, sZ, sS, i64_w, i32_w]
   rfl
  refine pure_ (i := 5) (N := some 12) (v := undef) (a' := ?_) #[bY,bY,bY,bY,bY,bY,bN,bN,bN,bN,bN,bN,bN] rfl rfl (any_of HT_.out (by kernel_rfl)) (fun _ _ _ h => h) (Or.inr ⟨by rfl, rfl⟩) ?_ ?_
  rotate_left
  ·simp only [Act.put, sTA, sZ, sS, i64_w, i32_w]
   rfl
  refine pure_ (i := 6) (N := some 13) (v := undef) (a' := ?_) #[bY,bY,bY,bY,bY,bY,bY,bN,bN,bN,bN,bN,bN] rfl rfl (any_of HT_.out (by kernel_rfl)) (fun _ _ _ h => h) (Or.inr ⟨by rfl, rfl⟩) ?_ ?_
  rotate_left
  ·simp only [Act.put, sTA, sZ, sS, i64_w, i32_w]
   rfl
  refine pure_ (i := 7) (N := some 14) (v := undef) (a' := ?_) #[bY,bY,bY,bY,bY,bY,bY,bY,bN,bN,bN,bN,bN] rfl rfl (any_of HT_.out (by kernel_rfl)) (fun _ _ _ h => h) (Or.inr ⟨by rfl, rfl⟩) ?_ ?_
  rotate_left
  ·simp only [Act.put, sTA, sZ, sS, i64_w, i32_w]
   rfl
  refine pure_ (i := 8) (N := some 15) (v := undef) (a' := ?_) #[bY,bY,bY,bY,bY,bY,bY,bY,bY,bN,bN,bN,bN] rfl rfl (any_of HT_.out (by kernel_rfl)) (fun _ _ _ h => h) (Or.inr ⟨by rfl, rfl⟩) ?_ ?_
  rotate_left
  ·simp only [Act.put, sTA, sZ, sS, i64_w, i32_w]
   rfl
  refine pure_ (i := 9) (N := some 16) (v := undef) (a' := ?_) #[bY,bY,bY,bY,bY,bY,bY,bY,bY,bY,bN,bN,bN] rfl rfl (any_of HT_.out (by kernel_rfl)) (fun _ _ _ h => h) (Or.inr ⟨by rfl, rfl⟩) ?_ ?_
  rotate_left
  ·simp only [Act.put, sTA, sZ, sS, i64_w, i32_w]
   rfl
  refine pure_ (i := 10) (N := some 17) (v := undef) (a' := ?_) #[bY,bY,bY,bY,bY,bY,bY,bY,bY,bY,bY,bN,bN] rfl rfl (any_of HT_.out (by kernel_rfl)) (fun _ _ _ h => h) (Or.inr ⟨by rfl, rfl⟩) ?_ ?_
  rotate_left
  ·simp only [Act.put, sTA, sZ, sS, i64_w, i32_w]
   rfl
  refine pure_ (i := 11) (N := some 18) (v := undef) (a' := ?_) #[bY,bY,bY,bY,bY,bY,bY,bY,bY,bY,bY,bY,bN] rfl rfl (any_of HT_.out (by kernel_rfl)) (fun _ _ _ h => h) (Or.inr ⟨by rfl, rfl⟩) ?_ ?_
  rotate_left
  ·simp only [Act.put, sTA, sZ, sS, i64_w, i32_w]
   rfl
  refine pure_ (i := 12) (N := some 19) (v := ?_) (a' := ?_) #[bY,bY,bY,bY,bY,bY,bY,bY,bY,bY,bY,bY,bY] rfl rfl (any_of HT_.out (by kernel_rfl)) (fun _ _ _ h => h) (Or.inl ⟨by rfl, ?_⟩) ?_ ?_
  rotate_left
  ·intro w'
   go_simp
   with_reducible rfl
  rotate_left
  ·simp only [Act.put, sTA, sZ, sS, i64_w, i32_w]
   rfl
  refine done_ (done_of HT_.out (by kernel_rfl)) ?_
  try go_wp2
  go_ret
  exact ⟨by first | rfl | (simp [errW_none, errW_some] <;> rfl) | (simp [*, errW_none, errW_some] <;> rfl), by repeat (first | (with_reducible first | exact HB.out | apply bAl | apply bDN | apply bD1 | refine bSt ?_ GE191.out) | exact HB.out)⟩
set_option maxHeartbeats 8000000 in
set_option maxRecDepth 100000 in
theorem impl_WaysFrom.calls (k : Nat) (a0_0 : Int) (a0_1 : Int) (a0_2 : Int) (a1 : Int) (r : List Int) (w : World) (h : impl_WaysFrom.f k a0_0 a0_1 a0_2 a1 = some r) :
  Calls Try.prog 141 #[.agg #[.int .i64 a0_0, .int .i64 a0_1, .int .i64 a0_2], .int .i64 a1] w fun e w' => ∃ v0_ : Value, e = .returned (v0_) ∧ Kd.R (Kd.int .i64) 3 w' w.heap.size (fun _ => True) v0_ r ∧ Below w.heap.size w w' := by
 have hu32 := Try.underlying32
 have HB := aK (Below.refl w.heap.size w)
 have H : (impl_WaysFrom.l0 k a1 ([] : List Int) 0 a0_0 a0_1 a0_2) = some r := h
 clear h
 have H' := aK H
 clear H
 go_enter Try.func141, Try.ntmps141
 go_wp2_with (first | ((with_reducible refine gate_dst (N := 2) rfl ?_); refine box_event ?hg (N := 2) ?hd (cs := #[.int .i64 a0_0, .int .i64 a0_1, .int .i64 a0_2]) (t := 32) ?hr ?_; (case hd => rfl); (case hg => rfl); (case hr => first | (go_simp; done) | (go_simp; rfl)); intro gb322 hg w3 hbox hb; have n0_ := aK (bSp (by repeat (first | (with_reducible first | exact HB.out | apply bAl | apply bDN | apply bD1) | exact HB.out)) hb); have n1_ := aK (hbox); have n2_ := aK ((by rw [hg]; exact (bSz (by repeat (first | (with_reducible first | exact HB.out | apply bAl | apply bDN | apply bD1) | exact HB.out))) : w.heap.size ≤ gb322)); have n3_ := n2_; clear HB; have HB := n0_; have BK322 := n1_; have GW322 := n2_; have GE322 := n3_; clear n0_ n1_ n2_ n3_; clear hb hbox hg))
 go_loopg [5, 6] k (fun kq v5 v6 w' => ∃ (x5_1 : List Int) (x6_1 : Int), v6 = .int .i64 x6_1 ∧ Aside0 (impl_WaysFrom.l0 kq a1 x5_1 x6_1 a0_0 a0_1 a0_2 = some r) ∧ Aside0 (kq ≤ k) ∧ Aside0 (Kd.R (Kd.int .i64) 3 w' w.heap.size (fun _ => True) v5 x5_1) ∧ Aside0 (w'.heap[gb322]? = some (.cells #[.int .i64 a0_0, .int .i64 a0_1, .int .i64 a0_2] 32 (0, 0))) ∧ Aside0 (Below w.heap.size w w'))
 case atStart => exact ⟨(([] : List Int)), (0), (by first | rfl | (simp; done) | (simp [*]; done)), H', ⟨Nat.le_refl _⟩, ⟨by first | exact Kd.R_nil _ _ _ _ _ | exact Kd.N_nil _ _ _ _ _ | exact Kd.V_nil _ _ _ _ _ | exact Kd.Q_nil _ _ _ _ _ | exact Kd.S_nil _ _ _ _ _⟩, ⟨by (with_reducible repeat (first | refine kDN ?_ _ | refine kD ?_ | refine kA ?_ _)); exact BK322.out⟩, ⟨by repeat (first | (with_reducible first | exact HB.out | apply bAl | apply bDN | apply bD1 | refine bSt ?_ GE322.out) | exact HB.out)⟩⟩
 case round =>
  clear H'
  try clear c1
  try clear p2
  obtain ⟨x5_1, x6_1, rfl, HA, HK1, HO_5, BK322, HB⟩ := hrel
  cases gk with
  | zero => exact absurd HA.out (by simp [impl_WaysFrom.l0])
  | succ k1 =>
   have H := HA.out
   clear HA
   simp only [impl_WaysFrom.l0] at H
   by_cases c4 : x6_1 ≤ 3
   ·rw [if_pos c4] at H
    have c4b0 : decide (x6_1 ≤ 3) = true := decide_eq_true c4
    clear c4
    replace H := Option.bind_eq_some_iff.mp H
    obtain ⟨t323, A50, H⟩ := H
    replace H : (if t323 ≥ 0 then (if x5_1.length < 17592186044416 then (impl_WaysFrom.l0 k1 a1 (x5_1 ++ [x6_1]) (wrap64 (x6_1 + 1)) a0_0 a0_1 a0_2) else (none)) else (impl_WaysFrom.l0 k1 a1 x5_1 (wrap64 (x6_1 + 1)) a0_0 a0_1 a0_2)) = some r := H
    have A5 := aK A50
    clear A50
    by_cases c6 : t323 ≥ 0
    ·rw [if_pos c6] at H
     have c6b0 : decide (0 ≤ t323) = true := decide_eq_true c6
     clear c6
     by_cases c7 : x5_1.length < 17592186044416
     ·rw [if_pos c7] at H
      have LMc7 := aK c7
      clear c7
      obtain ⟨y324, hy324⟩ : ∃ y_ : List Int, y_ = (x5_1 ++ [x6_1]) := ⟨_, rfl⟩
      replace H : (impl_WaysFrom.l0 k1 a1 y324 (wrap64 (x6_1 + 1)) a0_0 a0_1 a0_2) = some r := by first | (rw [hy324]; with_reducible exact H) | (have H2_ := (Option.bind_some _ _).symm.trans H; rw [hy324]; with_reducible exact H2_) | (have H2_ := (Option.bind_some _ _).symm.trans H; with_reducible exact H2_) | with_reducible exact H | (rw [hy324]; exact H) | exact H
      have Ny324 := aK hy324
      clear hy324
      have H' := aK H
      clear H
      obtain ⟨hcz8_0, hcz8_1, hcz8_2, hfz8_0, hfz8_1, hfz8_2⟩ := cl3 BK322.out
      go_wp2_with (first | ((with_reducible refine gate_callee (f := 71) rfl ?_); refine goesL_ (some 14) rfl rfl Try.func71 (by kernel_rfl) rfl #[.agg #[.int .i64 a0_0, .int .i64 a0_1, .int .i64 a0_2], .int .i64 a1, .int .i64 x6_1] rfl (by (try simp only [List.map_toArray, List.map_cons, List.map_nil]); first | done | rfl | (simp only [List.length_drop, List.length_take]; rfl)) ?_; (with_reducible refine (impl_Step.calls k1 a0_0 a0_1 a0_2 a1 x6_1 t323 _ A5.out).mono ?_); rintro e w9 ⟨rfl, hb⟩; refine ⟨_, rfl, ?_⟩; have n0_ := aK (Kd.R_below (by (with_reducible repeat (first | apply Kd.R_alloc | apply Kd.R_drewN | apply Kd.R_drew)); exact HO_5.out) hb); have n1_ := bkb BK322 hb (by intro z_; (with_reducible repeat (first | refine kDN ?_ _ | refine kD ?_ | refine kA ?_ _)); exact z_); have n2_ := aK (bSp (by repeat (first | (with_reducible first | exact HB.out | apply bAl | apply bDN | apply bD1 | refine bSt ?_ GE322.out) | exact HB.out)) hb); clear HO_5; clear BK322; clear HB; have HO_5 := n0_; have BK322 := n1_; have HB := n2_; clear n0_ n1_ n2_; (try clear hb); (try clear hb2); (try clear hk); (try clear hi)) | ((with_reducible refine gate_builtin (b := .append) (xs := #[.tmp 16, .tmp 18]) rfl ?_); at_builtin; refine Kd.R_append (Kd.int .i64) (w0 := w) w.heap.size rfl (.tmp 16) (.tmp 18) 28 3 (.int .i64 0) 8 rfl Try.underlying28 info3 rfl (by decide) (by omega) u5 x5_1 x6_1 [.int .i64 x6_1] (fun _ => True) (fun _ => False) rfl rfl ?aP (fun _ hk => hk.elim) ?aF ?aO ?aB ?aS ?aL ?_; (case aP => exact rfl); (case aB => exact (by repeat (first | (with_reducible first | exact HB.out | apply bAl | apply bDN | apply bD1 | refine bSt ?_ GE322.out) | exact HB.out))); (case aF => exact (fun _ _ => trivial)); (case aO => exact (by (with_reducible repeat (first | apply Kd.R_alloc | apply Kd.R_drewN | apply Kd.R_drew)); exact HO_5.out)); (case aS => exact (bSz (by repeat (first | (with_reducible first | exact HB.out | apply bAl | apply bDN | apply bD1 | refine bSt ?_ GE322.out) | exact HB.out)))); (case aL => have := LMc7.out; omega); intro v325 w10 ho hb hg hat; rw [← Ny324.out] at ho; have n0_ := aK (blk_grown (g := gb322) (o := .cells #[.int .i64 a0_0, .int .i64 a0_1, .int .i64 a0_2] 32 (0, 0)) (by (with_reducible repeat (first | refine kDN ?_ _ | refine kD ?_ | refine kA ?_ _)); exact BK322.out) hg (Kd.R_ne HO_5.out BK322.out (by decide))); have n1_ := aK (hb); have n2_ := aK (ho); clear BK322; clear HB; clear HO_5; have BK322 := n0_; have HB := n1_; have HO326 := n2_; clear n0_ n1_ n2_; clear ho hb hg hat))
      go_roundg k1
      case measure => have := HK1.out; omega
      case rel => exact ⟨(y324), (wrap64 (x6_1 + 1)), (by first | rfl | (simp; done) | (simp [*]; done)), H', ⟨by have := HK1.out; omega⟩, ⟨by (with_reducible repeat (first | apply Kd.R_alloc | apply Kd.R_drewN | apply Kd.R_drew)); exact HO326.out⟩, ⟨by (with_reducible repeat (first | refine kDN ?_ _ | refine kD ?_ | refine kA ?_ _)); exact BK322.out⟩, ⟨by repeat (first | (with_reducible first | exact HB.out | apply bAl | apply bDN | apply bD1 | refine bSt ?_ GE322.out) | exact HB.out)⟩⟩
     ·rw [if_neg c7] at H
      exact absurd H (by simp)
    ·rw [if_neg c6] at H
     have c6b0 : decide (0 ≤ t323) = false := decide_eq_false c6
     clear c6
     have H' := aK H
     clear H
     obtain ⟨hcz11_0, hcz11_1, hcz11_2, hfz11_0, hfz11_1, hfz11_2⟩ := cl3 BK322.out
     go_wp2_with (first | ((with_reducible refine gate_callee (f := 71) rfl ?_); refine goesL_ (some 14) rfl rfl Try.func71 (by kernel_rfl) rfl #[.agg #[.int .i64 a0_0, .int .i64 a0_1, .int .i64 a0_2], .int .i64 a1, .int .i64 x6_1] rfl (by (try simp only [List.map_toArray, List.map_cons, List.map_nil]); first | done | rfl | (simp only [List.length_drop, List.length_take]; rfl)) ?_; (with_reducible refine (impl_Step.calls k1 a0_0 a0_1 a0_2 a1 x6_1 t323 _ A5.out).mono ?_); rintro e w12 ⟨rfl, hb⟩; refine ⟨_, rfl, ?_⟩; have n0_ := aK (Kd.R_below (by (with_reducible repeat (first | apply Kd.R_alloc | apply Kd.R_drewN | apply Kd.R_drew)); exact HO_5.out) hb); have n1_ := bkb BK322 hb (by intro z_; (with_reducible repeat (first | refine kDN ?_ _ | refine kD ?_ | refine kA ?_ _)); exact z_); have n2_ := aK (bSp (by repeat (first | (with_reducible first | exact HB.out | apply bAl | apply bDN | apply bD1 | refine bSt ?_ GE322.out) | exact HB.out)) hb); clear HO_5; clear BK322; clear HB; have HO_5 := n0_; have BK322 := n1_; have HB := n2_; clear n0_ n1_ n2_; (try clear hb); (try clear hb2); (try clear hk); (try clear hi)))
     go_roundg k1
     case measure => have := HK1.out; omega
     case rel => exact ⟨(x5_1), (wrap64 (x6_1 + 1)), (by first | rfl | (simp; done) | (simp [*]; done)), H', ⟨by have := HK1.out; omega⟩, ⟨by (with_reducible repeat (first | apply Kd.R_alloc | apply Kd.R_drewN | apply Kd.R_drew)); exact HO_5.out⟩, ⟨by (with_reducible repeat (first | refine kDN ?_ _ | refine kD ?_ | refine kA ?_ _)); exact BK322.out⟩, ⟨by repeat (first | (with_reducible first | exact HB.out | apply bAl | apply bDN | apply bD1 | refine bSt ?_ GE322.out) | exact HB.out)⟩⟩
   ·rw [if_neg c4] at H
    have c4b0 : decide (x6_1 ≤ 3) = false := decide_eq_false c4
    clear c4
    obtain rfl := Option.some.inj H
    go_wp2
    go_ret
    exact ⟨_, by first | rfl | (simp [errW_none, errW_some] <;> rfl) | (simp [*, errW_none, errW_some] <;> rfl), by (with_reducible repeat (first | apply Kd.R_alloc | apply Kd.R_drewN | apply Kd.R_drew)); exact HO_5.out, by repeat (first | (with_reducible first | exact HB.out | apply bAl | apply bDN | apply bD1 | refine bSt ?_ GE322.out) | exact HB.out)⟩
end Go.Proofs.Ytimejdhglmajdaa.F
end

section
namespace Go.Proofs.Ytimejdhglmajdaa.F
open Go.RowKit Go.Proofs.YtimejdhglmajdaaW.PrintWords Go.Proofs.YtimejdhglmajdaaW.PrintLast Go.Proofs.YtimejdhglmajdaaW.PrintMore
set_option linter.unusedVariables false
set_option linter.unusedSimpArgs false
attribute [local go_sem] min2_int min_two
set_option maxHeartbeats 8000000 in
set_option maxRecDepth 100000 in
theorem impl_MazeAtTime.calls (k : Nat) (a0_0 : Int) (a0_1 : Int) (a0_2 : Int) (a0_3 : Int) (A0_4 : Option Addr) (c0_4 : Nat) (l0_4 : List (SGate)) (a1 : Int) (r1 : Int) (r2 : Int) (r3 : Int) (r4 : Bool) (w : World) (hr0_4 : Kd.C k137 w A0_4 l0_4.length l0_4) (hc0_4 : l0_4.length ≤ c0_4) (h : impl_MazeAtTime.f k a0_0 a0_1 a0_2 a0_3 l0_4 a1 = some (r1, r2, r3, r4)) :
  Calls Try.prog 140 #[.agg #[.int .i64 a0_0, .int .i64 a0_1, .int .i64 a0_2, .int .i64 a0_3, .slice A0_4 l0_4.length c0_4], .int .i64 a1] w fun e w' => e = .returned (.tuple #[.agg #[.int .i64 r1, .int .i64 r2, .int .i64 r3], .bool r4]) ∧ Below w.heap.size w w' := by
 have hu58 := Try.underlying58
 have hu32 := Try.underlying32
 have hu137 := Try.underlying137
 have HR0_4 := aK hr0_4
 have HC0_4 := aK hc0_4
 clear hr0_4 hc0_4
 have HB := aK (Below.refl w.heap.size w)
 have H : ((impl_TimedOk.f k a0_0 a0_1 a0_2 a0_3 l0_4).bind fun t649 => (if t649 = true then (if a1 < 0 then (impl_MazeAtTime.j0 k a1 true a0_0 a0_1 a0_2 a0_3 l0_4) else (impl_MazeAtTime.j0 k a1 (decide (a1 > 1000)) a0_0 a0_1 a0_2 a0_3 l0_4)) else (impl_MazeAtTime.j0 k a1 true a0_0 a0_1 a0_2 a0_3 l0_4))) = some (r1, r2, r3, r4) := h
 clear h
 have HC3 := aK H
 clear H
 go_enter Try.func140, Try.ntmps140
 go_upto_region 1 with (first | ((with_reducible refine gate_dst (N := 2) rfl ?_); refine box_event ?hg (N := 2) ?hd (cs := #[.int .i64 a0_0, .int .i64 a0_1, .int .i64 a0_2, .int .i64 a0_3, .slice A0_4 l0_4.length c0_4]) (t := 58) ?hr ?_; (case hd => rfl); (case hg => rfl); (case hr => first | (go_simp; done) | (go_simp; rfl)); intro gb647 hg w4 hbox hb; have n0_ := aK (bSp (by repeat (first | (with_reducible first | exact HB.out | apply bAl | apply bDN | apply bD1) | exact HB.out)) hb); have n1_ := aK (hbox); have n2_ := aK ((by rw [hg]; exact (bSz (by repeat (first | (with_reducible first | exact HB.out | apply bAl | apply bDN | apply bD1) | exact HB.out))) : w.heap.size ≤ gb647)); have n3_ := n2_; clear HB; have HB := n0_; have BK647 := n1_; have GW647 := n2_; have GE647 := n3_; clear n0_ n1_ n2_ n3_; clear hb hbox hg) | ((with_reducible refine gate_dst (N := 4) rfl ?_); refine box_event ?hg (N := 4) ?hd (cs := #[.int .i64 0, .int .i64 0, .int .i64 0]) (t := 32) ?hr ?_; (case hd => rfl); (case hg => rfl); (case hr => first | (go_simp; done) | (go_simp; rfl)); intro gb648 hg w5 hbox hb; have n0_ := bkb BK647 hb (by intro z_; (with_reducible repeat (first | refine kDN ?_ _ | refine kD ?_ | refine kA ?_ _)); exact z_); have n1_ := aK (bSp (by repeat (first | (with_reducible first | exact HB.out | apply bAl | apply bDN | apply bD1 | refine bSt ?_ GE647.out) | exact HB.out)) hb); have n2_ := aK (hbox); have n3_ := aK ((by rw [hg]; exact (bSz (by repeat (first | (with_reducible first | exact HB.out | apply bAl | apply bDN | apply bD1 | refine bSt ?_ GE647.out) | exact HB.out))) : w.heap.size ≤ gb648)); have n4_ := n3_; have n5_ := nbl BK647 hg (by intro z_; (with_reducible repeat (first | refine kDN ?_ _ | refine kD ?_ | refine kA ?_ _)); exact z_); have n6_ := nbs n5_; clear BK647; clear HB; have BK647 := n0_; have HB := n1_; have BK648 := n2_; have GW648 := n3_; have GE648 := n4_; have NB647_648 := n5_; have NB648_647 := n6_; clear n0_ n1_ n2_ n3_ n4_ n5_ n6_; clear hb hbox hg))
 repeat (go_quiet (first | ((with_reducible refine gate_dst (N := 2) rfl ?_); refine box_event ?hg (N := 2) ?hd (cs := #[.int .i64 a0_0, .int .i64 a0_1, .int .i64 a0_2, .int .i64 a0_3, .slice A0_4 l0_4.length c0_4]) (t := 58) ?hr ?_; (case hd => rfl); (case hg => rfl); (case hr => first | (go_simp; done) | (go_simp; rfl)); intro gb647 hg w4 hbox hb; have n0_ := aK (bSp (by repeat (first | (with_reducible first | exact HB.out | apply bAl | apply bDN | apply bD1) | exact HB.out)) hb); have n1_ := aK (hbox); have n2_ := aK ((by rw [hg]; exact (bSz (by repeat (first | (with_reducible first | exact HB.out | apply bAl | apply bDN | apply bD1) | exact HB.out))) : w.heap.size ≤ gb647)); have n3_ := n2_; clear HB; have HB := n0_; have BK647 := n1_; have GW647 := n2_; have GE647 := n3_; clear n0_ n1_ n2_ n3_; clear hb hbox hg) | ((with_reducible refine gate_dst (N := 4) rfl ?_); refine box_event ?hg (N := 4) ?hd (cs := #[.int .i64 0, .int .i64 0, .int .i64 0]) (t := 32) ?hr ?_; (case hd => rfl); (case hg => rfl); (case hr => first | (go_simp; done) | (go_simp; rfl)); intro gb648 hg w5 hbox hb; have n0_ := bkb BK647 hb (by intro z_; (with_reducible repeat (first | refine kDN ?_ _ | refine kD ?_ | refine kA ?_ _)); exact z_); have n1_ := aK (bSp (by repeat (first | (with_reducible first | exact HB.out | apply bAl | apply bDN | apply bD1 | refine bSt ?_ GE647.out) | exact HB.out)) hb); have n2_ := aK (hbox); have n3_ := aK ((by rw [hg]; exact (bSz (by repeat (first | (with_reducible first | exact HB.out | apply bAl | apply bDN | apply bD1 | refine bSt ?_ GE647.out) | exact HB.out))) : w.heap.size ≤ gb648)); have n4_ := n3_; have n5_ := nbl BK647 hg (by intro z_; (with_reducible repeat (first | refine kDN ?_ _ | refine kD ?_ | refine kA ?_ _)); exact z_); have n6_ := nbs n5_; clear BK647; clear HB; have BK647 := n0_; have HB := n1_; have BK648 := n2_; have GW648 := n3_; have GE648 := n4_; have NB647_648 := n5_; have NB648_647 := n6_; clear n0_ n1_ n2_ n3_ n4_ n5_ n6_; clear hb hbox hg)); go_upto_region 1 with (first | ((with_reducible refine gate_dst (N := 2) rfl ?_); refine box_event ?hg (N := 2) ?hd (cs := #[.int .i64 a0_0, .int .i64 a0_1, .int .i64 a0_2, .int .i64 a0_3, .slice A0_4 l0_4.length c0_4]) (t := 58) ?hr ?_; (case hd => rfl); (case hg => rfl); (case hr => first | (go_simp; done) | (go_simp; rfl)); intro gb647 hg w4 hbox hb; have n0_ := aK (bSp (by repeat (first | (with_reducible first | exact HB.out | apply bAl | apply bDN | apply bD1) | exact HB.out)) hb); have n1_ := aK (hbox); have n2_ := aK ((by rw [hg]; exact (bSz (by repeat (first | (with_reducible first | exact HB.out | apply bAl | apply bDN | apply bD1) | exact HB.out))) : w.heap.size ≤ gb647)); have n3_ := n2_; clear HB; have HB := n0_; have BK647 := n1_; have GW647 := n2_; have GE647 := n3_; clear n0_ n1_ n2_ n3_; clear hb hbox hg) | ((with_reducible refine gate_dst (N := 4) rfl ?_); refine box_event ?hg (N := 4) ?hd (cs := #[.int .i64 0, .int .i64 0, .int .i64 0]) (t := 32) ?hr ?_; (case hd => rfl); (case hg => rfl); (case hr => first | (go_simp; done) | (go_simp; rfl)); intro gb648 hg w5 hbox hb; have n0_ := bkb BK647 hb (by intro z_; (with_reducible repeat (first | refine kDN ?_ _ | refine kD ?_ | refine kA ?_ _)); exact z_); have n1_ := aK (bSp (by repeat (first | (with_reducible first | exact HB.out | apply bAl | apply bDN | apply bD1 | refine bSt ?_ GE647.out) | exact HB.out)) hb); have n2_ := aK (hbox); have n3_ := aK ((by rw [hg]; exact (bSz (by repeat (first | (with_reducible first | exact HB.out | apply bAl | apply bDN | apply bD1 | refine bSt ?_ GE647.out) | exact HB.out))) : w.heap.size ≤ gb648)); have n4_ := n3_; have n5_ := nbl BK647 hg (by intro z_; (with_reducible repeat (first | refine kDN ?_ _ | refine kD ?_ | refine kA ?_ _)); exact z_); have n6_ := nbs n5_; clear BK647; clear HB; have BK647 := n0_; have HB := n1_; have BK648 := n2_; have GW648 := n3_; have GE648 := n4_; have NB647_648 := n5_; have NB648_647 := n6_; clear n0_ n1_ n2_ n3_ n4_ n5_ n6_; clear hb hbox hg)))
 (try simp only [Act.put, sTA, sZ, sS])
 go_cut [19] (fun v19 wc => ∃ (kq : Nat) (x19_2 : Bool), v19 = .bool x19_2 ∧ Aside0 (impl_MazeAtTime.j0 kq a1 x19_2 a0_0 a0_1 a0_2 a0_3 l0_4 = some (r1, r2, r3, r4)) ∧ Aside0 (kq ≤ k) ∧ Aside0 (wc.heap[gb647]? = some (.cells #[.int .i64 a0_0, .int .i64 a0_1, .int .i64 a0_2, .int .i64 a0_3, (.slice A0_4 l0_4.length c0_4)] 58 (0, 0))) ∧ Aside0 (wc.heap[gb648]? = some (.cells #[.int .i64 0, .int .i64 0, .int .i64 0] 32 (0, 0))) ∧ Aside0 (Below w.heap.size w wc))
 case first =>
  have H := HC3.out
  clear HC3
  replace H := Option.bind_eq_some_iff.mp H
  obtain ⟨t649, A60, H⟩ := H
  replace H : (if t649 = true then (if a1 < 0 then (impl_MazeAtTime.j0 k a1 true a0_0 a0_1 a0_2 a0_3 l0_4) else (impl_MazeAtTime.j0 k a1 (decide (a1 > 1000)) a0_0 a0_1 a0_2 a0_3 l0_4)) else (impl_MazeAtTime.j0 k a1 true a0_0 a0_1 a0_2 a0_3 l0_4)) = some (r1, r2, r3, r4) := H
  have A6 := aK A60
  clear A60
  by_cases c7 : t649 = true
  ·subst c7
   have H1 : (if a1 < 0 then (impl_MazeAtTime.j0 k a1 true a0_0 a0_1 a0_2 a0_3 l0_4) else (impl_MazeAtTime.j0 k a1 (decide (a1 > 1000)) a0_0 a0_1 a0_2 a0_3 l0_4)) = some (r1, r2, r3, r4) := by rw [if_pos rfl] at H; exact H
   clear H
   have H := H1
   clear H1
   by_cases c8 : a1 < 0
   ·rw [if_pos c8] at H
    have c8b0 : decide (a1 < 0) = true := decide_eq_true c8
    clear c8
    (first | rw [c8b0] | (simp only [i64_w, i32_w]; rw [c8b0]) | skip)
    have H' := aK H
    clear H
    have hnb9 := NB647_648.out
    have hnc9 := NB648_647.out
    obtain ⟨hcz10_0, hcz10_1, hcz10_2, hcz10_3, hcz10_4, hfz10_0, hfz10_1, hfz10_2, hfz10_3, hfz10_4⟩ := cl5 BK647.out
    go_wp2_with (first | (go_at_call 139; (with_reducible refine (impl_TimedOk.calls k a0_0 a0_1 a0_2 a0_3 _ _ l0_4 true _ ?side1 ?side2 A6.out).mono ?_); (case side1 => repeat (first | exact (Kd.C_below HR0_4.out HB.out) | (with_reducible refine Kd.C_alloc ?_ _) | (with_reducible refine Kd.C_drewN ?_ _) | (with_reducible refine Kd.C_drew ?_))); (case side2 => exact HC0_4.out); rintro e w11 ⟨rfl, hb⟩; have n0_ := bkb BK647 hb (by intro z_; (with_reducible repeat (first | refine kDN ?_ _ | refine kD ?_ | refine kA ?_ _)); exact z_); have n1_ := bkb BK648 hb (by intro z_; (with_reducible repeat (first | refine kDN ?_ _ | refine kD ?_ | refine kA ?_ _)); exact z_); have n2_ := aK (bSp (by repeat (first | (with_reducible first | exact HB.out | apply bAl | apply bDN | apply bD1 | refine bSt ?_ GE647.out | refine bSt ?_ GE648.out) | exact HB.out)) hb); clear BK647; clear BK648; clear HB; have BK647 := n0_; have BK648 := n1_; have HB := n2_; clear n0_ n1_ n2_; (try clear hb); (try clear hb2); (try clear hk); (try clear hi)))
    repeat (go_quiet (first | (go_at_call 139; (with_reducible refine (impl_TimedOk.calls k a0_0 a0_1 a0_2 a0_3 _ _ l0_4 true _ ?side1 ?side2 A6.out).mono ?_); (case side1 => repeat (first | exact (Kd.C_below HR0_4.out HB.out) | (with_reducible refine Kd.C_alloc ?_ _) | (with_reducible refine Kd.C_drewN ?_ _) | (with_reducible refine Kd.C_drew ?_))); (case side2 => exact HC0_4.out); rintro e w11 ⟨rfl, hb⟩; have n0_ := bkb BK647 hb (by intro z_; (with_reducible repeat (first | refine kDN ?_ _ | refine kD ?_ | refine kA ?_ _)); exact z_); have n1_ := bkb BK648 hb (by intro z_; (with_reducible repeat (first | refine kDN ?_ _ | refine kD ?_ | refine kA ?_ _)); exact z_); have n2_ := aK (bSp (by repeat (first | (with_reducible first | exact HB.out | apply bAl | apply bDN | apply bD1 | refine bSt ?_ GE647.out | refine bSt ?_ GE648.out) | exact HB.out)) hb); clear BK647; clear BK648; clear HB; have BK647 := n0_; have BK648 := n1_; have HB := n2_; clear n0_ n1_ n2_; (try clear hb); (try clear hb2); (try clear hk); (try clear hi))); try go_wp2_with (first | (go_at_call 139; (with_reducible refine (impl_TimedOk.calls k a0_0 a0_1 a0_2 a0_3 _ _ l0_4 true _ ?side1 ?side2 A6.out).mono ?_); (case side1 => repeat (first | exact (Kd.C_below HR0_4.out HB.out) | (with_reducible refine Kd.C_alloc ?_ _) | (with_reducible refine Kd.C_drewN ?_ _) | (with_reducible refine Kd.C_drew ?_))); (case side2 => exact HC0_4.out); rintro e w11 ⟨rfl, hb⟩; have n0_ := bkb BK647 hb (by intro z_; (with_reducible repeat (first | refine kDN ?_ _ | refine kD ?_ | refine kA ?_ _)); exact z_); have n1_ := bkb BK648 hb (by intro z_; (with_reducible repeat (first | refine kDN ?_ _ | refine kD ?_ | refine kA ?_ _)); exact z_); have n2_ := aK (bSp (by repeat (first | (with_reducible first | exact HB.out | apply bAl | apply bDN | apply bD1 | refine bSt ?_ GE647.out | refine bSt ?_ GE648.out) | exact HB.out)) hb); clear BK647; clear BK648; clear HB; have BK647 := n0_; have BK648 := n1_; have HB := n2_; clear n0_ n1_ n2_; (try clear hb); (try clear hb2); (try clear hk); (try clear hi))))
    go_meet
    case rel => exact ⟨_, (true), (by first | rfl | (simp; done) | (simp [*]; done)), H', ⟨by first | omega | exact Nat.le_refl _⟩, ⟨by (with_reducible repeat (first | refine kDN ?_ _ | refine kD ?_ | refine kA ?_ _)); exact BK647.out⟩, ⟨by (with_reducible repeat (first | refine kDN ?_ _ | refine kD ?_ | refine kA ?_ _)); exact BK648.out⟩, ⟨by repeat (first | (with_reducible first | exact HB.out | apply bAl | apply bDN | apply bD1 | refine bSt ?_ GE647.out | refine bSt ?_ GE648.out) | exact HB.out)⟩⟩
   ·rw [if_neg c8] at H
    have c8b0 : decide (a1 < 0) = false := decide_eq_false c8
    clear c8
    (first | rw [c8b0] | (simp only [i64_w, i32_w]; rw [c8b0]) | skip)
    have H' := aK H
    clear H
    have hnb12 := NB647_648.out
    have hnc12 := NB648_647.out
    obtain ⟨hcz13_0, hcz13_1, hcz13_2, hcz13_3, hcz13_4, hfz13_0, hfz13_1, hfz13_2, hfz13_3, hfz13_4⟩ := cl5 BK647.out
    go_wp2_with (first | (go_at_call 139; (with_reducible refine (impl_TimedOk.calls k a0_0 a0_1 a0_2 a0_3 _ _ l0_4 true _ ?side1 ?side2 A6.out).mono ?_); (case side1 => repeat (first | exact (Kd.C_below HR0_4.out HB.out) | (with_reducible refine Kd.C_alloc ?_ _) | (with_reducible refine Kd.C_drewN ?_ _) | (with_reducible refine Kd.C_drew ?_))); (case side2 => exact HC0_4.out); rintro e w14 ⟨rfl, hb⟩; have n0_ := bkb BK647 hb (by intro z_; (with_reducible repeat (first | refine kDN ?_ _ | refine kD ?_ | refine kA ?_ _)); exact z_); have n1_ := bkb BK648 hb (by intro z_; (with_reducible repeat (first | refine kDN ?_ _ | refine kD ?_ | refine kA ?_ _)); exact z_); have n2_ := aK (bSp (by repeat (first | (with_reducible first | exact HB.out | apply bAl | apply bDN | apply bD1 | refine bSt ?_ GE647.out | refine bSt ?_ GE648.out) | exact HB.out)) hb); clear BK647; clear BK648; clear HB; have BK647 := n0_; have BK648 := n1_; have HB := n2_; clear n0_ n1_ n2_; (try clear hb); (try clear hb2); (try clear hk); (try clear hi)))
    repeat (go_quiet (first | (go_at_call 139; (with_reducible refine (impl_TimedOk.calls k a0_0 a0_1 a0_2 a0_3 _ _ l0_4 true _ ?side1 ?side2 A6.out).mono ?_); (case side1 => repeat (first | exact (Kd.C_below HR0_4.out HB.out) | (with_reducible refine Kd.C_alloc ?_ _) | (with_reducible refine Kd.C_drewN ?_ _) | (with_reducible refine Kd.C_drew ?_))); (case side2 => exact HC0_4.out); rintro e w14 ⟨rfl, hb⟩; have n0_ := bkb BK647 hb (by intro z_; (with_reducible repeat (first | refine kDN ?_ _ | refine kD ?_ | refine kA ?_ _)); exact z_); have n1_ := bkb BK648 hb (by intro z_; (with_reducible repeat (first | refine kDN ?_ _ | refine kD ?_ | refine kA ?_ _)); exact z_); have n2_ := aK (bSp (by repeat (first | (with_reducible first | exact HB.out | apply bAl | apply bDN | apply bD1 | refine bSt ?_ GE647.out | refine bSt ?_ GE648.out) | exact HB.out)) hb); clear BK647; clear BK648; clear HB; have BK647 := n0_; have BK648 := n1_; have HB := n2_; clear n0_ n1_ n2_; (try clear hb); (try clear hb2); (try clear hk); (try clear hi))); try go_wp2_with (first | (go_at_call 139; (with_reducible refine (impl_TimedOk.calls k a0_0 a0_1 a0_2 a0_3 _ _ l0_4 true _ ?side1 ?side2 A6.out).mono ?_); (case side1 => repeat (first | exact (Kd.C_below HR0_4.out HB.out) | (with_reducible refine Kd.C_alloc ?_ _) | (with_reducible refine Kd.C_drewN ?_ _) | (with_reducible refine Kd.C_drew ?_))); (case side2 => exact HC0_4.out); rintro e w14 ⟨rfl, hb⟩; have n0_ := bkb BK647 hb (by intro z_; (with_reducible repeat (first | refine kDN ?_ _ | refine kD ?_ | refine kA ?_ _)); exact z_); have n1_ := bkb BK648 hb (by intro z_; (with_reducible repeat (first | refine kDN ?_ _ | refine kD ?_ | refine kA ?_ _)); exact z_); have n2_ := aK (bSp (by repeat (first | (with_reducible first | exact HB.out | apply bAl | apply bDN | apply bD1 | refine bSt ?_ GE647.out | refine bSt ?_ GE648.out) | exact HB.out)) hb); clear BK647; clear BK648; clear HB; have BK647 := n0_; have BK648 := n1_; have HB := n2_; clear n0_ n1_ n2_; (try clear hb); (try clear hb2); (try clear hk); (try clear hi))))
    go_meet
    case rel => exact ⟨_, (decide (a1 > 1000)), (by first | rfl | (simp; done) | (simp [*]; done)), H', ⟨by first | omega | exact Nat.le_refl _⟩, ⟨by (with_reducible repeat (first | refine kDN ?_ _ | refine kD ?_ | refine kA ?_ _)); exact BK647.out⟩, ⟨by (with_reducible repeat (first | refine kDN ?_ _ | refine kD ?_ | refine kA ?_ _)); exact BK648.out⟩, ⟨by repeat (first | (with_reducible first | exact HB.out | apply bAl | apply bDN | apply bD1 | refine bSt ?_ GE647.out | refine bSt ?_ GE648.out) | exact HB.out)⟩⟩
  ·replace c7 := Bool.eq_false_iff.mpr c7
   subst c7
   have H1 : (impl_MazeAtTime.j0 k a1 true a0_0 a0_1 a0_2 a0_3 l0_4) = some (r1, r2, r3, r4) := by rw [if_neg (show ¬ (false = true) by decide)] at H; exact H
   clear H
   have H := H1
   clear H1
   have H' := aK H
   clear H
   have hnb15 := NB647_648.out
   have hnc15 := NB648_647.out
   obtain ⟨hcz16_0, hcz16_1, hcz16_2, hcz16_3, hcz16_4, hfz16_0, hfz16_1, hfz16_2, hfz16_3, hfz16_4⟩ := cl5 BK647.out
   go_wp2_with (first | (go_at_call 139; (with_reducible refine (impl_TimedOk.calls k a0_0 a0_1 a0_2 a0_3 _ _ l0_4 false _ ?side1 ?side2 A6.out).mono ?_); (case side1 => repeat (first | exact (Kd.C_below HR0_4.out HB.out) | (with_reducible refine Kd.C_alloc ?_ _) | (with_reducible refine Kd.C_drewN ?_ _) | (with_reducible refine Kd.C_drew ?_))); (case side2 => exact HC0_4.out); rintro e w17 ⟨rfl, hb⟩; have n0_ := bkb BK647 hb (by intro z_; (with_reducible repeat (first | refine kDN ?_ _ | refine kD ?_ | refine kA ?_ _)); exact z_); have n1_ := bkb BK648 hb (by intro z_; (with_reducible repeat (first | refine kDN ?_ _ | refine kD ?_ | refine kA ?_ _)); exact z_); have n2_ := aK (bSp (by repeat (first | (with_reducible first | exact HB.out | apply bAl | apply bDN | apply bD1 | refine bSt ?_ GE647.out | refine bSt ?_ GE648.out) | exact HB.out)) hb); clear BK647; clear BK648; clear HB; have BK647 := n0_; have BK648 := n1_; have HB := n2_; clear n0_ n1_ n2_; (try clear hb); (try clear hb2); (try clear hk); (try clear hi)))
   repeat (go_quiet (first | (go_at_call 139; (with_reducible refine (impl_TimedOk.calls k a0_0 a0_1 a0_2 a0_3 _ _ l0_4 false _ ?side1 ?side2 A6.out).mono ?_); (case side1 => repeat (first | exact (Kd.C_below HR0_4.out HB.out) | (with_reducible refine Kd.C_alloc ?_ _) | (with_reducible refine Kd.C_drewN ?_ _) | (with_reducible refine Kd.C_drew ?_))); (case side2 => exact HC0_4.out); rintro e w17 ⟨rfl, hb⟩; have n0_ := bkb BK647 hb (by intro z_; (with_reducible repeat (first | refine kDN ?_ _ | refine kD ?_ | refine kA ?_ _)); exact z_); have n1_ := bkb BK648 hb (by intro z_; (with_reducible repeat (first | refine kDN ?_ _ | refine kD ?_ | refine kA ?_ _)); exact z_); have n2_ := aK (bSp (by repeat (first | (with_reducible first | exact HB.out | apply bAl | apply bDN | apply bD1 | refine bSt ?_ GE647.out | refine bSt ?_ GE648.out) | exact HB.out)) hb); clear BK647; clear BK648; clear HB; have BK647 := n0_; have BK648 := n1_; have HB := n2_; clear n0_ n1_ n2_; (try clear hb); (try clear hb2); (try clear hk); (try clear hi))); try go_wp2_with (first | (go_at_call 139; (with_reducible refine (impl_TimedOk.calls k a0_0 a0_1 a0_2 a0_3 _ _ l0_4 false _ ?side1 ?side2 A6.out).mono ?_); (case side1 => repeat (first | exact (Kd.C_below HR0_4.out HB.out) | (with_reducible refine Kd.C_alloc ?_ _) | (with_reducible refine Kd.C_drewN ?_ _) | (with_reducible refine Kd.C_drew ?_))); (case side2 => exact HC0_4.out); rintro e w17 ⟨rfl, hb⟩; have n0_ := bkb BK647 hb (by intro z_; (with_reducible repeat (first | refine kDN ?_ _ | refine kD ?_ | refine kA ?_ _)); exact z_); have n1_ := bkb BK648 hb (by intro z_; (with_reducible repeat (first | refine kDN ?_ _ | refine kD ?_ | refine kA ?_ _)); exact z_); have n2_ := aK (bSp (by repeat (first | (with_reducible first | exact HB.out | apply bAl | apply bDN | apply bD1 | refine bSt ?_ GE647.out | refine bSt ?_ GE648.out) | exact HB.out)) hb); clear BK647; clear BK648; clear HB; have BK647 := n0_; have BK648 := n1_; have HB := n2_; clear n0_ n1_ n2_; (try clear hb); (try clear hb2); (try clear hk); (try clear hi))))
   go_meet
   case rel => exact ⟨_, (true), (by first | rfl | (simp; done) | (simp [*]; done)), H', ⟨by first | omega | exact Nat.le_refl _⟩, ⟨by (with_reducible repeat (first | refine kDN ?_ _ | refine kD ?_ | refine kA ?_ _)); exact BK647.out⟩, ⟨by (with_reducible repeat (first | refine kDN ?_ _ | refine kD ?_ | refine kA ?_ _)); exact BK648.out⟩, ⟨by repeat (first | (with_reducible first | exact HB.out | apply bAl | apply bDN | apply bD1 | refine bSt ?_ GE647.out | refine bSt ?_ GE648.out) | exact HB.out)⟩⟩
 case rest =>
  clear HC3
  try clear c1
  try clear p2
  try clear c7
  try clear c8
  try clear c8b0
  try clear c9
  try clear c12
  try clear c14
  try clear c15
  try clear hcz10_0
  try clear hcz10_1
  try clear hcz10_2
  try clear hcz10_3
  try clear hcz10_4
  try clear hcz13_0
  try clear hcz13_1
  try clear hcz13_2
  try clear hcz13_3
  try clear hcz13_4
  try clear hcz16_0
  try clear hcz16_1
  try clear hcz16_2
  try clear hcz16_3
  try clear hcz16_4
  try clear hfz10_0
  try clear hfz10_1
  try clear hfz10_2
  try clear hfz10_3
  try clear hfz10_4
  try clear hfz13_0
  try clear hfz13_1
  try clear hfz13_2
  try clear hfz13_3
  try clear hfz13_4
  try clear hfz16_0
  try clear hfz16_1
  try clear hfz16_2
  try clear hfz16_3
  try clear hfz16_4
  obtain ⟨kq, x19_2, rfl, HA, HJ2, BK647, BK648, HB⟩ := hcut
  cases kq with
  | zero => exact absurd HA.out (by simp [impl_MazeAtTime.j0])
  | succ kj2 =>
   have H := HA.out
   clear HA
   simp only [impl_MazeAtTime.j0] at H
   by_cases c18 : x19_2 = true
   ·subst c18
    have H1 : (some (0, 0, 0, false)) = some (r1, r2, r3, r4) := by rw [if_pos rfl] at H; exact H
    clear H
    have H := H1
    clear H1
    simp only [Option.some.injEq, Prod.mk.injEq] at H
    obtain ⟨rfl, rfl, rfl, rfl⟩ := H
    have hnb19 := NB648_647.out
    have hnc19 := NB647_648.out
    obtain ⟨hcz20_0, hcz20_1, hcz20_2, hfz20_0, hfz20_1, hfz20_2⟩ := cl3 BK648.out
    go_wp2
    repeat (go_quiet (fail); try go_wp2)
    refine bodyPost_ret (results_ct rfl _ _ gb648 32 #[.int .i64 0, .int .i64 0, .int .i64 0] (0, 0) _ rfl (by (with_reducible repeat (first | refine kDN ?_ _ | refine kD ?_ | refine kA ?_ _)); refine blk_put (cs := #[.int .i64 0, .int .i64 0, .int .i64 0]) ?_ 2 _ rfl; (with_reducible repeat (first | refine kDN ?_ _ | refine kD ?_ | refine kA ?_ _)); refine blk_put (cs := #[.int .i64 0, .int .i64 0, .int .i64 0]) ?_ 1 _ rfl; (with_reducible repeat (first | refine kDN ?_ _ | refine kD ?_ | refine kA ?_ _)); refine blk_put (cs := #[.int .i64 0, .int .i64 0, .int .i64 0]) ?_ 0 _ rfl; (with_reducible repeat (first | refine kDN ?_ _ | refine kD ?_ | refine kA ?_ _)); exact BK648.out) Try.underlying32 rfl (by kernel_rfl)) rfl ?_
    exact ⟨by first | rfl | (simp [errW_none, errW_some] <;> rfl) | (simp [*, errW_none, errW_some] <;> rfl), by repeat (first | (with_reducible first | exact HB.out | apply bAl | apply bDN | apply bD1 | refine bSt ?_ GE647.out | refine bSt ?_ GE648.out) | exact HB.out)⟩
   ·replace c18 := Bool.eq_false_iff.mpr c18
    subst c18
    have H1 : (impl_MazeAtTime.l0 kj2 a1 l0_4 (l0_4.length : Int) 0 a0_0 a0_1 a0_2 a0_3 l0_4 a0_0 a0_1 a0_2) = some (r1, r2, r3, r4) := by rw [if_neg (show ¬ (false = true) by decide)] at H; exact H
    clear H
    have H := H1
    clear H1
    have H' := aK H
    clear H
    have hnb21 := NB647_648.out
    have hnc21 := NB648_647.out
    obtain ⟨hcz22_0, hcz22_1, hcz22_2, hcz22_3, hcz22_4, hfz22_0, hfz22_1, hfz22_2, hfz22_3, hfz22_4⟩ := cl5 BK647.out
    go_wp2_with (first | ((with_reducible refine gate_dst (N := 6) rfl ?_); refine box_event ?hg (N := 6) ?hd (cs := #[.int .i64 0, .int .i64 0, .int .i64 0]) (t := 32) ?hr ?_; (case hd => rfl); (case hg => rfl); (case hr => first | (go_simp; done) | (go_simp; rfl)); intro gb650 hg w23 hbox hb; have n0_ := bkb BK647 hb (by intro z_; (with_reducible repeat (first | refine kDN ?_ _ | refine kD ?_ | refine kA ?_ _)); exact z_); have n1_ := bkb BK648 hb (by intro z_; (with_reducible repeat (first | refine kDN ?_ _ | refine kD ?_ | refine kA ?_ _)); exact z_); have n2_ := aK (bSp (by repeat (first | (with_reducible first | exact HB.out | apply bAl | apply bDN | apply bD1 | refine bSt ?_ GE647.out | refine bSt ?_ GE648.out) | exact HB.out)) hb); have n3_ := aK (hbox); have n4_ := aK ((by rw [hg]; exact (bSz (by repeat (first | (with_reducible first | exact HB.out | apply bAl | apply bDN | apply bD1 | refine bSt ?_ GE647.out | refine bSt ?_ GE648.out) | exact HB.out))) : w.heap.size ≤ gb650)); have n5_ := n4_; have n6_ := nbl BK647 hg (by intro z_; (with_reducible repeat (first | refine kDN ?_ _ | refine kD ?_ | refine kA ?_ _)); exact z_); have n7_ := nbs n6_; have n8_ := nbl BK648 hg (by intro z_; (with_reducible repeat (first | refine kDN ?_ _ | refine kD ?_ | refine kA ?_ _)); exact z_); have n9_ := nbs n8_; clear BK647; clear BK648; clear HB; have BK647 := n0_; have BK648 := n1_; have HB := n2_; have BK650 := n3_; have GW650 := n4_; have GE650 := n5_; have NB647_650 := n6_; have NB650_647 := n7_; have NB648_650 := n8_; have NB650_648 := n9_; clear n0_ n1_ n2_ n3_ n4_ n5_ n6_ n7_ n8_ n9_; clear hb hbox hg; have hnb24 := NB650_647.out; have hnc24 := NB647_650.out; have hnb25 := NB650_648.out; have hnc25 := NB648_650.out; obtain ⟨hcz26_0, hcz26_1, hcz26_2, hfz26_0, hfz26_1, hfz26_2⟩ := cl3 BK650.out; obtain ⟨hcz27_0, hcz27_1, hcz27_2, hcz27_3, hcz27_4, hfz27_0, hfz27_1, hfz27_2, hfz27_3, hfz27_4⟩ := cl5 BK647.out))
    repeat (go_quiet (first | ((with_reducible refine gate_dst (N := 6) rfl ?_); refine box_event ?hg (N := 6) ?hd (cs := #[.int .i64 0, .int .i64 0, .int .i64 0]) (t := 32) ?hr ?_; (case hd => rfl); (case hg => rfl); (case hr => first | (go_simp; done) | (go_simp; rfl)); intro gb650 hg w23 hbox hb; have n0_ := bkb BK647 hb (by intro z_; (with_reducible repeat (first | refine kDN ?_ _ | refine kD ?_ | refine kA ?_ _)); exact z_); have n1_ := bkb BK648 hb (by intro z_; (with_reducible repeat (first | refine kDN ?_ _ | refine kD ?_ | refine kA ?_ _)); exact z_); have n2_ := aK (bSp (by repeat (first | (with_reducible first | exact HB.out | apply bAl | apply bDN | apply bD1 | refine bSt ?_ GE647.out | refine bSt ?_ GE648.out) | exact HB.out)) hb); have n3_ := aK (hbox); have n4_ := aK ((by rw [hg]; exact (bSz (by repeat (first | (with_reducible first | exact HB.out | apply bAl | apply bDN | apply bD1 | refine bSt ?_ GE647.out | refine bSt ?_ GE648.out) | exact HB.out))) : w.heap.size ≤ gb650)); have n5_ := n4_; have n6_ := nbl BK647 hg (by intro z_; (with_reducible repeat (first | refine kDN ?_ _ | refine kD ?_ | refine kA ?_ _)); exact z_); have n7_ := nbs n6_; have n8_ := nbl BK648 hg (by intro z_; (with_reducible repeat (first | refine kDN ?_ _ | refine kD ?_ | refine kA ?_ _)); exact z_); have n9_ := nbs n8_; clear BK647; clear BK648; clear HB; have BK647 := n0_; have BK648 := n1_; have HB := n2_; have BK650 := n3_; have GW650 := n4_; have GE650 := n5_; have NB647_650 := n6_; have NB650_647 := n7_; have NB648_650 := n8_; have NB650_648 := n9_; clear n0_ n1_ n2_ n3_ n4_ n5_ n6_ n7_ n8_ n9_; clear hb hbox hg; have hnb24 := NB650_647.out; have hnc24 := NB647_650.out; have hnb25 := NB650_648.out; have hnc25 := NB648_650.out; obtain ⟨hcz26_0, hcz26_1, hcz26_2, hfz26_0, hfz26_1, hfz26_2⟩ := cl3 BK650.out; obtain ⟨hcz27_0, hcz27_1, hcz27_2, hcz27_3, hcz27_4, hfz27_0, hfz27_1, hfz27_2, hfz27_3, hfz27_4⟩ := cl5 BK647.out)); try go_wp2_with (first | ((with_reducible refine gate_dst (N := 6) rfl ?_); refine box_event ?hg (N := 6) ?hd (cs := #[.int .i64 0, .int .i64 0, .int .i64 0]) (t := 32) ?hr ?_; (case hd => rfl); (case hg => rfl); (case hr => first | (go_simp; done) | (go_simp; rfl)); intro gb650 hg w23 hbox hb; have n0_ := bkb BK647 hb (by intro z_; (with_reducible repeat (first | refine kDN ?_ _ | refine kD ?_ | refine kA ?_ _)); exact z_); have n1_ := bkb BK648 hb (by intro z_; (with_reducible repeat (first | refine kDN ?_ _ | refine kD ?_ | refine kA ?_ _)); exact z_); have n2_ := aK (bSp (by repeat (first | (with_reducible first | exact HB.out | apply bAl | apply bDN | apply bD1 | refine bSt ?_ GE647.out | refine bSt ?_ GE648.out) | exact HB.out)) hb); have n3_ := aK (hbox); have n4_ := aK ((by rw [hg]; exact (bSz (by repeat (first | (with_reducible first | exact HB.out | apply bAl | apply bDN | apply bD1 | refine bSt ?_ GE647.out | refine bSt ?_ GE648.out) | exact HB.out))) : w.heap.size ≤ gb650)); have n5_ := n4_; have n6_ := nbl BK647 hg (by intro z_; (with_reducible repeat (first | refine kDN ?_ _ | refine kD ?_ | refine kA ?_ _)); exact z_); have n7_ := nbs n6_; have n8_ := nbl BK648 hg (by intro z_; (with_reducible repeat (first | refine kDN ?_ _ | refine kD ?_ | refine kA ?_ _)); exact z_); have n9_ := nbs n8_; clear BK647; clear BK648; clear HB; have BK647 := n0_; have BK648 := n1_; have HB := n2_; have BK650 := n3_; have GW650 := n4_; have GE650 := n5_; have NB647_650 := n6_; have NB650_647 := n7_; have NB648_650 := n8_; have NB650_648 := n9_; clear n0_ n1_ n2_ n3_ n4_ n5_ n6_ n7_ n8_ n9_; clear hb hbox hg; have hnb24 := NB650_647.out; have hnc24 := NB647_650.out; have hnb25 := NB650_648.out; have hnc25 := NB648_650.out; obtain ⟨hcz26_0, hcz26_1, hcz26_2, hfz26_0, hfz26_1, hfz26_2⟩ := cl3 BK650.out; obtain ⟨hcz27_0, hcz27_1, hcz27_2, hcz27_3, hcz27_4, hfz27_0, hfz27_1, hfz27_2, hfz27_3, hfz27_4⟩ := cl5 BK647.out)))
    go_loopg [26] kj2 (fun kq v26 w' => ∃ (x26_2 : Int) (x651000_2 : Int) (x651001_2 : Int) (x651002_2 : Int), v26 = .int .i64 x26_2 ∧ Aside0 (impl_MazeAtTime.l0 kq a1 l0_4 (l0_4.length : Int) x26_2 a0_0 a0_1 a0_2 a0_3 l0_4 x651000_2 x651001_2 x651002_2 = some (r1, r2, r3, r4)) ∧ Aside0 (kq ≤ kj2) ∧ Aside0 (w'.heap[gb647]? = some (.cells #[.int .i64 a0_0, .int .i64 a0_1, .int .i64 a0_2, .int .i64 a0_3, (.slice A0_4 l0_4.length c0_4)] 58 (0, 0))) ∧ Aside0 (w'.heap[gb648]? = some (.cells #[.int .i64 0, .int .i64 0, .int .i64 0] 32 (0, 0))) ∧ Aside0 (w'.heap[gb650]? = some (.cells #[.int .i64 x651000_2, .int .i64 x651001_2, .int .i64 x651002_2] 32 (0, 0))) ∧ Aside0 (Below w.heap.size w w'))
    case atStart => exact ⟨(0), (a0_0), (a0_1), (a0_2), (by first | rfl | (simp; done) | (simp [*]; done)), H', ⟨Nat.le_refl _⟩, ⟨by (with_reducible repeat (first | refine kDN ?_ _ | refine kD ?_ | refine kA ?_ _)); refine blk_far ?_ NB647_650.out _; (with_reducible repeat (first | refine kDN ?_ _ | refine kD ?_ | refine kA ?_ _)); refine blk_far ?_ NB647_650.out _; (with_reducible repeat (first | refine kDN ?_ _ | refine kD ?_ | refine kA ?_ _)); refine blk_far ?_ NB647_650.out _; (with_reducible repeat (first | refine kDN ?_ _ | refine kD ?_ | refine kA ?_ _)); exact BK647.out⟩, ⟨by (with_reducible repeat (first | refine kDN ?_ _ | refine kD ?_ | refine kA ?_ _)); refine blk_far ?_ NB648_650.out _; (with_reducible repeat (first | refine kDN ?_ _ | refine kD ?_ | refine kA ?_ _)); refine blk_far ?_ NB648_650.out _; (with_reducible repeat (first | refine kDN ?_ _ | refine kD ?_ | refine kA ?_ _)); refine blk_far ?_ NB648_650.out _; (with_reducible repeat (first | refine kDN ?_ _ | refine kD ?_ | refine kA ?_ _)); exact BK648.out⟩, ⟨by (with_reducible repeat (first | refine kDN ?_ _ | refine kD ?_ | refine kA ?_ _)); refine blk_put (cs := #[.int .i64 a0_0, .int .i64 a0_1, .int .i64 0]) ?_ 2 _ rfl; (with_reducible repeat (first | refine kDN ?_ _ | refine kD ?_ | refine kA ?_ _)); refine blk_put (cs := #[.int .i64 a0_0, .int .i64 0, .int .i64 0]) ?_ 1 _ rfl; (with_reducible repeat (first | refine kDN ?_ _ | refine kD ?_ | refine kA ?_ _)); refine blk_put (cs := #[.int .i64 0, .int .i64 0, .int .i64 0]) ?_ 0 _ rfl; (with_reducible repeat (first | refine kDN ?_ _ | refine kD ?_ | refine kA ?_ _)); exact BK650.out⟩, ⟨by repeat (first | (with_reducible first | exact HB.out | apply bAl | apply bDN | apply bD1 | refine bSt ?_ GE647.out | refine bSt ?_ GE648.out | refine bSt ?_ GE650.out) | exact HB.out)⟩⟩
    case round =>
     clear H'
     try clear c1
     try clear c2
     try clear p2
     try clear c7
     try clear c8
     try clear c8b0
     try clear c9
     try clear c12
     try clear c14
     try clear c15
     try clear c18
     try clear c19
     try clear c21
     try clear c24
     try clear c25
     try clear hcz10_0
     try clear hcz10_1
     try clear hcz10_2
     try clear hcz10_3
     try clear hcz10_4
     try clear hcz13_0
     try clear hcz13_1
     try clear hcz13_2
     try clear hcz13_3
     try clear hcz13_4
     try clear hcz16_0
     try clear hcz16_1
     try clear hcz16_2
     try clear hcz16_3
     try clear hcz16_4
     try clear hcz20_0
     try clear hcz20_1
     try clear hcz20_2
     try clear hcz22_0
     try clear hcz22_1
     try clear hcz22_2
     try clear hcz22_3
     try clear hcz22_4
     try clear hcz26_0
     try clear hcz26_1
     try clear hcz26_2
     try clear hcz27_0
     try clear hcz27_1
     try clear hcz27_2
     try clear hcz27_3
     try clear hcz27_4
     try clear hfz10_0
     try clear hfz10_1
     try clear hfz10_2
     try clear hfz10_3
     try clear hfz10_4
     try clear hfz13_0
     try clear hfz13_1
     try clear hfz13_2
     try clear hfz13_3
     try clear hfz13_4
     try clear hfz16_0
     try clear hfz16_1
     try clear hfz16_2
     try clear hfz16_3
     try clear hfz16_4
     try clear hfz20_0
     try clear hfz20_1
     try clear hfz20_2
     try clear hfz22_0
     try clear hfz22_1
     try clear hfz22_2
     try clear hfz22_3
     try clear hfz22_4
     try clear hfz26_0
     try clear hfz26_1
     try clear hfz26_2
     try clear hfz27_0
     try clear hfz27_1
     try clear hfz27_2
     try clear hfz27_3
     try clear hfz27_4
     try clear p2
     obtain ⟨x26_2, x651000_2, x651001_2, x651002_2, rfl, HA, HK2, BK647, BK648, BK650, HB⟩ := hrel
     cases gk with
     | zero => exact absurd HA.out (by simp [impl_MazeAtTime.l0])
     | succ k2 =>
      have H := HA.out
      clear HA
      simp only [impl_MazeAtTime.l0] at H
      by_cases c28 : x26_2 < (l0_4.length : Int)
      ·rw [if_pos c28] at H
       have c28b0 : decide (x26_2 < (l0_4.length : Int)) = true := decide_eq_true c28
       clear c28
       by_cases c29 : 0 ≤ x26_2
       ·rw [if_pos c29] at H
        have c29b0 : decide (0 ≤ x26_2) = true := decide_eq_true c29
        clear c29
        by_cases c30 : x26_2 < (l0_4.length : Int)
        ·rw [if_pos c30] at H
         have c30b0 : decide (x26_2 < (l0_4.length : Int)) = true := decide_eq_true c30
         clear c30
         by_cases c31 : a0_3 = 0
         ·rw [if_pos c31] at H
          exact absurd H (by simp)
         ·rw [if_neg c31] at H
          have c31b0 : (a0_3 == 0) = false := beq_eq_false_iff_ne.mpr c31
          have c31b1 : (a0_3 != 0) = true := bne_iff_ne.mpr c31
          obtain ⟨ji32, hji32⟩ : ∃ j_ : Int, (Int.tmod a1 a0_3) = j_ := ⟨_, rfl⟩
          replace H : (if 0 ≤ (ji32) then (if (Go.bits .and .i64 (shr .i64 ((rd_Gate l0_4 x26_2).f1) (ji32)) 1) = 0 then ((impl_with.f x651000_2 x651001_2 x651002_2 ((rd_Gate l0_4 x26_2).f0) false).bind fun bt653 => (impl_MazeAtTime.l0 k2 a1 l0_4 (l0_4.length : Int) (wrap64 (x26_2 + 1)) a0_0 a0_1 a0_2 a0_3 l0_4 bt653.1 bt653.2.1 bt653.2.2)) else (impl_MazeAtTime.l0 k2 a1 l0_4 (l0_4.length : Int) (wrap64 (x26_2 + 1)) a0_0 a0_1 a0_2 a0_3 l0_4 x651000_2 x651001_2 x651002_2)) else (none)) = some (r1, r2, r3, r4) := by first | (rw [hji32] at H; exact H) | (simp only [hji32] at H ⊢; exact H)
          by_cases c33 : 0 ≤ (ji32)
          ·rw [if_pos c33] at H
           have c33b0 := eq_true c33
           have c33b1 : decide (0 ≤ (ji32)) = true := decide_eq_true c33
           clear c33
           obtain ⟨ji34, hji34⟩ : ∃ j_ : Int, (shr .i64 ((rd_Gate l0_4 x26_2).f1) (ji32)) = j_ := ⟨_, rfl⟩
           replace H : (if (Go.bits .and .i64 (ji34) 1) = 0 then ((impl_with.f x651000_2 x651001_2 x651002_2 ((rd_Gate l0_4 x26_2).f0) false).bind fun bt653 => (impl_MazeAtTime.l0 k2 a1 l0_4 (l0_4.length : Int) (wrap64 (x26_2 + 1)) a0_0 a0_1 a0_2 a0_3 l0_4 bt653.1 bt653.2.1 bt653.2.2)) else (impl_MazeAtTime.l0 k2 a1 l0_4 (l0_4.length : Int) (wrap64 (x26_2 + 1)) a0_0 a0_1 a0_2 a0_3 l0_4 x651000_2 x651001_2 x651002_2)) = some (r1, r2, r3, r4) := by first | (rw [hji34] at H; exact H) | (simp only [hji34] at H ⊢; exact H)
           have hji34_ : (((rd_Gate l0_4 x26_2).f1) / 2 ^ min (ji32).toNat 64) = ji34 := hji34
           have hji34z : (ji32) ≤ 64 → (((rd_Gate l0_4 x26_2).f1) / 2 ^ (ji32).toNat) = ji34 := shr_small hji34
           by_cases c35 : (Go.bits .and .i64 (ji34) 1) = 0
           ·rw [if_pos c35] at H
            have c35b0 : ((Go.bits .and .i64 (ji34) 1) == 0) = true := beq_iff_eq.mpr c35
            have c35b1 : ((Go.bits .and .i64 (ji34) 1) != 0) = false := bne_eq_false_iff_eq.mpr c35
            clear c35
            replace H := Option.bind_eq_some_iff.mp H
            obtain ⟨⟨t653, t654, t655⟩, A360, H⟩ := H
            replace H : (impl_MazeAtTime.l0 k2 a1 l0_4 (l0_4.length : Int) (wrap64 (x26_2 + 1)) a0_0 a0_1 a0_2 a0_3 l0_4 t653 t654 t655) = some (r1, r2, r3, r4) := H
            have A36 := aK A360
            clear A360
            have H' := aK H
            clear H
            have p651 : 0 ≤ (x26_2 : Int) := of_decide_eq_true (by first | (with_reducible assumption) | assumption)
            have q651 : x26_2 < (l0_4.length : Int) := of_decide_eq_true (by first | (with_reducible assumption) | assumption)
            obtain ⟨ad651, e651, hx651_0, hx651_1⟩ := at_T137 HR0_4.out x26_2 p651 q651
            cases e651
            replace hx651_0 := (HB.out.cell (World.block_lt_of_cell? w _ hx651_0)).trans hx651_0
            replace hx651_1 := (HB.out.cell (World.block_lt_of_cell? w _ hx651_1)).trans hx651_1
            replace p651 := eq_true p651
            replace q651 := eq_true q651
            go_wp2_with (first | ((with_reducible refine gate_dst (N := 8) rfl ?_); refine box_event ?hg (N := 8) ?hd (cs := #[.int .i64 0, .int .i64 0]) (t := 137) ?hr ?_; (case hd => rfl); (case hg => rfl); (case hr => first | (go_simp; done) | (go_simp; rfl)); intro gb652 hg w37 hbox hb; have n0_ := bkb BK647 hb (by intro z_; (with_reducible repeat (first | refine kDN ?_ _ | refine kD ?_ | refine kA ?_ _)); exact z_); have n1_ := bkb BK648 hb (by intro z_; (with_reducible repeat (first | refine kDN ?_ _ | refine kD ?_ | refine kA ?_ _)); exact z_); have n2_ := bkb BK650 hb (by intro z_; (with_reducible repeat (first | refine kDN ?_ _ | refine kD ?_ | refine kA ?_ _)); exact z_); have n3_ := aK (bSp (by repeat (first | (with_reducible first | exact HB.out | apply bAl | apply bDN | apply bD1 | refine bSt ?_ GE647.out | refine bSt ?_ GE648.out | refine bSt ?_ GE650.out) | exact HB.out)) hb); have n4_ := aK (hbox); have n5_ := aK ((by rw [hg]; exact (bSz (by repeat (first | (with_reducible first | exact HB.out | apply bAl | apply bDN | apply bD1 | refine bSt ?_ GE647.out | refine bSt ?_ GE648.out | refine bSt ?_ GE650.out) | exact HB.out))) : w.heap.size ≤ gb652)); have n6_ := n5_; have n7_ := nbl BK647 hg (by intro z_; (with_reducible repeat (first | refine kDN ?_ _ | refine kD ?_ | refine kA ?_ _)); exact z_); have n8_ := nbs n7_; have n9_ := nbl BK648 hg (by intro z_; (with_reducible repeat (first | refine kDN ?_ _ | refine kD ?_ | refine kA ?_ _)); exact z_); have n10_ := nbs n9_; have n11_ := nbl BK650 hg (by intro z_; (with_reducible repeat (first | refine kDN ?_ _ | refine kD ?_ | refine kA ?_ _)); exact z_); have n12_ := nbs n11_; clear BK647; clear BK648; clear BK650; clear HB; have BK647 := n0_; have BK648 := n1_; have BK650 := n2_; have HB := n3_; have BK652 := n4_; have GW652 := n5_; have GE652 := n6_; have NB647_652 := n7_; have NB652_647 := n8_; have NB648_652 := n9_; have NB652_648 := n10_; have NB650_652 := n11_; have NB652_650 := n12_; clear n0_ n1_ n2_ n3_ n4_ n5_ n6_ n7_ n8_ n9_ n10_ n11_ n12_; clear hb hbox hg; have hnb38 := NB652_647.out; have hnc38 := NB647_652.out; have hnb39 := NB652_648.out; have hnc39 := NB648_652.out; have hnb40 := NB652_650.out; have hnc40 := NB650_652.out; obtain ⟨hcz41_0, hcz41_1, hfz41_0, hfz41_1⟩ := cl2 BK652.out; have hnb42 := NB647_648.out; have hnc42 := NB648_647.out; have hnb43 := NB647_650.out; have hnc43 := NB650_647.out; obtain ⟨hcz44_0, hcz44_1, hcz44_2, hcz44_3, hcz44_4, hfz44_0, hfz44_1, hfz44_2, hfz44_3, hfz44_4⟩ := cl5 BK647.out; have hnb45 := NB650_648.out; have hnc45 := NB648_650.out; obtain ⟨hcz46_0, hcz46_1, hcz46_2, hfz46_0, hfz46_1, hfz46_2⟩ := cl3 BK650.out) | (go_at_call 134; (with_reducible refine (impl_with.calls x651000_2 x651001_2 x651002_2 ((rd_Gate l0_4 x26_2).f0) false t653 t654 t655 _ A36.out).mono ?_); rintro e w47 ⟨rfl, hb⟩; have n0_ := bkb BK647 hb (by intro z_; (with_reducible repeat (first | refine kDN ?_ _ | refine kD ?_ | refine kA ?_ _)); refine blk_far ?_ NB647_652.out _; (with_reducible repeat (first | refine kDN ?_ _ | refine kD ?_ | refine kA ?_ _)); refine blk_far ?_ NB647_652.out _; (with_reducible repeat (first | refine kDN ?_ _ | refine kD ?_ | refine kA ?_ _)); exact z_); have n1_ := bkb BK648 hb (by intro z_; (with_reducible repeat (first | refine kDN ?_ _ | refine kD ?_ | refine kA ?_ _)); refine blk_far ?_ NB648_652.out _; (with_reducible repeat (first | refine kDN ?_ _ | refine kD ?_ | refine kA ?_ _)); refine blk_far ?_ NB648_652.out _; (with_reducible repeat (first | refine kDN ?_ _ | refine kD ?_ | refine kA ?_ _)); exact z_); have n2_ := bkb BK650 hb (by intro z_; (with_reducible repeat (first | refine kDN ?_ _ | refine kD ?_ | refine kA ?_ _)); refine blk_far ?_ NB650_652.out _; (with_reducible repeat (first | refine kDN ?_ _ | refine kD ?_ | refine kA ?_ _)); refine blk_far ?_ NB650_652.out _; (with_reducible repeat (first | refine kDN ?_ _ | refine kD ?_ | refine kA ?_ _)); exact z_); have n3_ := aK (blk_below (g := gb652) (o := .cells #[.int .i64 ((rd_Gate l0_4 x26_2).f0), .int .i64 ((rd_Gate l0_4 x26_2).f1)] 137 (0, 0)) (by (with_reducible repeat (first | refine kDN ?_ _ | refine kD ?_ | refine kA ?_ _)); refine blk_put (cs := #[.int .i64 ((rd_Gate l0_4 x26_2).f0), .int .i64 0]) ?_ 1 _ rfl; (with_reducible repeat (first | refine kDN ?_ _ | refine kD ?_ | refine kA ?_ _)); refine blk_put (cs := #[.int .i64 0, .int .i64 0]) ?_ 0 _ rfl; (with_reducible repeat (first | refine kDN ?_ _ | refine kD ?_ | refine kA ?_ _)); exact BK652.out) hb); have n4_ := aK (bSp (by repeat (first | (with_reducible first | exact HB.out | apply bAl | apply bDN | apply bD1 | refine bSt ?_ GE647.out | refine bSt ?_ GE648.out | refine bSt ?_ GE650.out | refine bSt ?_ GE652.out) | exact HB.out)) hb); clear BK647; clear BK648; clear BK650; clear BK652; clear HB; have BK647 := n0_; have BK648 := n1_; have BK650 := n2_; have BK652 := n3_; have HB := n4_; clear n0_ n1_ n2_ n3_ n4_; (try clear hb); (try clear hb2); (try clear hk); (try clear hi); obtain ⟨hcz48_0, hcz48_1, hcz48_2, hfz48_0, hfz48_1, hfz48_2⟩ := cl3 BK650.out))
            repeat (go_quiet (first | ((with_reducible refine gate_dst (N := 8) rfl ?_); refine box_event ?hg (N := 8) ?hd (cs := #[.int .i64 0, .int .i64 0]) (t := 137) ?hr ?_; (case hd => rfl); (case hg => rfl); (case hr => first | (go_simp; done) | (go_simp; rfl)); intro gb652 hg w37 hbox hb; have n0_ := bkb BK647 hb (by intro z_; (with_reducible repeat (first | refine kDN ?_ _ | refine kD ?_ | refine kA ?_ _)); exact z_); have n1_ := bkb BK648 hb (by intro z_; (with_reducible repeat (first | refine kDN ?_ _ | refine kD ?_ | refine kA ?_ _)); exact z_); have n2_ := bkb BK650 hb (by intro z_; (with_reducible repeat (first | refine kDN ?_ _ | refine kD ?_ | refine kA ?_ _)); exact z_); have n3_ := aK (bSp (by repeat (first | (with_reducible first | exact HB.out | apply bAl | apply bDN | apply bD1 | refine bSt ?_ GE647.out | refine bSt ?_ GE648.out | refine bSt ?_ GE650.out) | exact HB.out)) hb); have n4_ := aK (hbox); have n5_ := aK ((by rw [hg]; exact (bSz (by repeat (first | (with_reducible first | exact HB.out | apply bAl | apply bDN | apply bD1 | refine bSt ?_ GE647.out | refine bSt ?_ GE648.out | refine bSt ?_ GE650.out) | exact HB.out))) : w.heap.size ≤ gb652)); have n6_ := n5_; have n7_ := nbl BK647 hg (by intro z_; (with_reducible repeat (first | refine kDN ?_ _ | refine kD ?_ | refine kA ?_ _)); exact z_); have n8_ := nbs n7_; have n9_ := nbl BK648 hg (by intro z_; (with_reducible repeat (first | refine kDN ?_ _ | refine kD ?_ | refine kA ?_ _)); exact z_); have n10_ := nbs n9_; have n11_ := nbl BK650 hg (by intro z_; (with_reducible repeat (first | refine kDN ?_ _ | refine kD ?_ | refine kA ?_ _)); exact z_); have n12_ := nbs n11_; clear BK647; clear BK648; clear BK650; clear HB; have BK647 := n0_; have BK648 := n1_; have BK650 := n2_; have HB := n3_; have BK652 := n4_; have GW652 := n5_; have GE652 := n6_; have NB647_652 := n7_; have NB652_647 := n8_; have NB648_652 := n9_; have NB652_648 := n10_; have NB650_652 := n11_; have NB652_650 := n12_; clear n0_ n1_ n2_ n3_ n4_ n5_ n6_ n7_ n8_ n9_ n10_ n11_ n12_; clear hb hbox hg; have hnb38 := NB652_647.out; have hnc38 := NB647_652.out; have hnb39 := NB652_648.out; have hnc39 := NB648_652.out; have hnb40 := NB652_650.out; have hnc40 := NB650_652.out; obtain ⟨hcz41_0, hcz41_1, hfz41_0, hfz41_1⟩ := cl2 BK652.out; have hnb42 := NB647_648.out; have hnc42 := NB648_647.out; have hnb43 := NB647_650.out; have hnc43 := NB650_647.out; obtain ⟨hcz44_0, hcz44_1, hcz44_2, hcz44_3, hcz44_4, hfz44_0, hfz44_1, hfz44_2, hfz44_3, hfz44_4⟩ := cl5 BK647.out; have hnb45 := NB650_648.out; have hnc45 := NB648_650.out; obtain ⟨hcz46_0, hcz46_1, hcz46_2, hfz46_0, hfz46_1, hfz46_2⟩ := cl3 BK650.out) | (go_at_call 134; (with_reducible refine (impl_with.calls x651000_2 x651001_2 x651002_2 ((rd_Gate l0_4 x26_2).f0) false t653 t654 t655 _ A36.out).mono ?_); rintro e w47 ⟨rfl, hb⟩; have n0_ := bkb BK647 hb (by intro z_; (with_reducible repeat (first | refine kDN ?_ _ | refine kD ?_ | refine kA ?_ _)); refine blk_far ?_ NB647_652.out _; (with_reducible repeat (first | refine kDN ?_ _ | refine kD ?_ | refine kA ?_ _)); refine blk_far ?_ NB647_652.out _; (with_reducible repeat (first | refine kDN ?_ _ | refine kD ?_ | refine kA ?_ _)); exact z_); have n1_ := bkb BK648 hb (by intro z_; (with_reducible repeat (first | refine kDN ?_ _ | refine kD ?_ | refine kA ?_ _)); refine blk_far ?_ NB648_652.out _; (with_reducible repeat (first | refine kDN ?_ _ | refine kD ?_ | refine kA ?_ _)); refine blk_far ?_ NB648_652.out _; (with_reducible repeat (first | refine kDN ?_ _ | refine kD ?_ | refine kA ?_ _)); exact z_); have n2_ := bkb BK650 hb (by intro z_; (with_reducible repeat (first | refine kDN ?_ _ | refine kD ?_ | refine kA ?_ _)); refine blk_far ?_ NB650_652.out _; (with_reducible repeat (first | refine kDN ?_ _ | refine kD ?_ | refine kA ?_ _)); refine blk_far ?_ NB650_652.out _; (with_reducible repeat (first | refine kDN ?_ _ | refine kD ?_ | refine kA ?_ _)); exact z_); have n3_ := aK (blk_below (g := gb652) (o := .cells #[.int .i64 ((rd_Gate l0_4 x26_2).f0), .int .i64 ((rd_Gate l0_4 x26_2).f1)] 137 (0, 0)) (by (with_reducible repeat (first | refine kDN ?_ _ | refine kD ?_ | refine kA ?_ _)); refine blk_put (cs := #[.int .i64 ((rd_Gate l0_4 x26_2).f0), .int .i64 0]) ?_ 1 _ rfl; (with_reducible repeat (first | refine kDN ?_ _ | refine kD ?_ | refine kA ?_ _)); refine blk_put (cs := #[.int .i64 0, .int .i64 0]) ?_ 0 _ rfl; (with_reducible repeat (first | refine kDN ?_ _ | refine kD ?_ | refine kA ?_ _)); exact BK652.out) hb); have n4_ := aK (bSp (by repeat (first | (with_reducible first | exact HB.out | apply bAl | apply bDN | apply bD1 | refine bSt ?_ GE647.out | refine bSt ?_ GE648.out | refine bSt ?_ GE650.out | refine bSt ?_ GE652.out) | exact HB.out)) hb); clear BK647; clear BK648; clear BK650; clear BK652; clear HB; have BK647 := n0_; have BK648 := n1_; have BK650 := n2_; have BK652 := n3_; have HB := n4_; clear n0_ n1_ n2_ n3_ n4_; (try clear hb); (try clear hb2); (try clear hk); (try clear hi); obtain ⟨hcz48_0, hcz48_1, hcz48_2, hfz48_0, hfz48_1, hfz48_2⟩ := cl3 BK650.out)); try go_wp2_with (first | ((with_reducible refine gate_dst (N := 8) rfl ?_); refine box_event ?hg (N := 8) ?hd (cs := #[.int .i64 0, .int .i64 0]) (t := 137) ?hr ?_; (case hd => rfl); (case hg => rfl); (case hr => first | (go_simp; done) | (go_simp; rfl)); intro gb652 hg w37 hbox hb; have n0_ := bkb BK647 hb (by intro z_; (with_reducible repeat (first | refine kDN ?_ _ | refine kD ?_ | refine kA ?_ _)); exact z_); have n1_ := bkb BK648 hb (by intro z_; (with_reducible repeat (first | refine kDN ?_ _ | refine kD ?_ | refine kA ?_ _)); exact z_); have n2_ := bkb BK650 hb (by intro z_; (with_reducible repeat (first | refine kDN ?_ _ | refine kD ?_ | refine kA ?_ _)); exact z_); have n3_ := aK (bSp (by repeat (first | (with_reducible first | exact HB.out | apply bAl | apply bDN | apply bD1 | refine bSt ?_ GE647.out | refine bSt ?_ GE648.out | refine bSt ?_ GE650.out) | exact HB.out)) hb); have n4_ := aK (hbox); have n5_ := aK ((by rw [hg]; exact (bSz (by repeat (first | (with_reducible first | exact HB.out | apply bAl | apply bDN | apply bD1 | refine bSt ?_ GE647.out | refine bSt ?_ GE648.out | refine bSt ?_ GE650.out) | exact HB.out))) : w.heap.size ≤ gb652)); have n6_ := n5_; have n7_ := nbl BK647 hg (by intro z_; (with_reducible repeat (first | refine kDN ?_ _ | refine kD ?_ | refine kA ?_ _)); exact z_); have n8_ := nbs n7_; have n9_ := nbl BK648 hg (by intro z_; (with_reducible repeat (first | refine kDN ?_ _ | refine kD ?_ | refine kA ?_ _)); exact z_); have n10_ := nbs n9_; have n11_ := nbl BK650 hg (by intro z_; (with_reducible repeat (first | refine kDN ?_ _ | refine kD ?_ | refine kA ?_ _)); exact z_); have n12_ := nbs n11_; clear BK647; clear BK648; clear BK650; clear HB; have BK647 := n0_; have BK648 := n1_; have BK650 := n2_; have HB := n3_; have BK652 := n4_; have GW652 := n5_; have GE652 := n6_; have NB647_652 := n7_; have NB652_647 := n8_; have NB648_652 := n9_; have NB652_648 := n10_; have NB650_652 := n11_; have NB652_650 := n12_; clear n0_ n1_ n2_ n3_ n4_ n5_ n6_ n7_ n8_ n9_ n10_ n11_ n12_; clear hb hbox hg; have hnb38 := NB652_647.out; have hnc38 := NB647_652.out; have hnb39 := NB652_648.out; have hnc39 := NB648_652.out; have hnb40 := NB652_650.out; have hnc40 := NB650_652.out; obtain ⟨hcz41_0, hcz41_1, hfz41_0, hfz41_1⟩ := cl2 BK652.out; have hnb42 := NB647_648.out; have hnc42 := NB648_647.out; have hnb43 := NB647_650.out; have hnc43 := NB650_647.out; obtain ⟨hcz44_0, hcz44_1, hcz44_2, hcz44_3, hcz44_4, hfz44_0, hfz44_1, hfz44_2, hfz44_3, hfz44_4⟩ := cl5 BK647.out; have hnb45 := NB650_648.out; have hnc45 := NB648_650.out; obtain ⟨hcz46_0, hcz46_1, hcz46_2, hfz46_0, hfz46_1, hfz46_2⟩ := cl3 BK650.out) | (go_at_call 134; (with_reducible refine (impl_with.calls x651000_2 x651001_2 x651002_2 ((rd_Gate l0_4 x26_2).f0) false t653 t654 t655 _ A36.out).mono ?_); rintro e w47 ⟨rfl, hb⟩; have n0_ := bkb BK647 hb (by intro z_; (with_reducible repeat (first | refine kDN ?_ _ | refine kD ?_ | refine kA ?_ _)); refine blk_far ?_ NB647_652.out _; (with_reducible repeat (first | refine kDN ?_ _ | refine kD ?_ | refine kA ?_ _)); refine blk_far ?_ NB647_652.out _; (with_reducible repeat (first | refine kDN ?_ _ | refine kD ?_ | refine kA ?_ _)); exact z_); have n1_ := bkb BK648 hb (by intro z_; (with_reducible repeat (first | refine kDN ?_ _ | refine kD ?_ | refine kA ?_ _)); refine blk_far ?_ NB648_652.out _; (with_reducible repeat (first | refine kDN ?_ _ | refine kD ?_ | refine kA ?_ _)); refine blk_far ?_ NB648_652.out _; (with_reducible repeat (first | refine kDN ?_ _ | refine kD ?_ | refine kA ?_ _)); exact z_); have n2_ := bkb BK650 hb (by intro z_; (with_reducible repeat (first | refine kDN ?_ _ | refine kD ?_ | refine kA ?_ _)); refine blk_far ?_ NB650_652.out _; (with_reducible repeat (first | refine kDN ?_ _ | refine kD ?_ | refine kA ?_ _)); refine blk_far ?_ NB650_652.out _; (with_reducible repeat (first | refine kDN ?_ _ | refine kD ?_ | refine kA ?_ _)); exact z_); have n3_ := aK (blk_below (g := gb652) (o := .cells #[.int .i64 ((rd_Gate l0_4 x26_2).f0), .int .i64 ((rd_Gate l0_4 x26_2).f1)] 137 (0, 0)) (by (with_reducible repeat (first | refine kDN ?_ _ | refine kD ?_ | refine kA ?_ _)); refine blk_put (cs := #[.int .i64 ((rd_Gate l0_4 x26_2).f0), .int .i64 0]) ?_ 1 _ rfl; (with_reducible repeat (first | refine kDN ?_ _ | refine kD ?_ | refine kA ?_ _)); refine blk_put (cs := #[.int .i64 0, .int .i64 0]) ?_ 0 _ rfl; (with_reducible repeat (first | refine kDN ?_ _ | refine kD ?_ | refine kA ?_ _)); exact BK652.out) hb); have n4_ := aK (bSp (by repeat (first | (with_reducible first | exact HB.out | apply bAl | apply bDN | apply bD1 | refine bSt ?_ GE647.out | refine bSt ?_ GE648.out | refine bSt ?_ GE650.out | refine bSt ?_ GE652.out) | exact HB.out)) hb); clear BK647; clear BK648; clear BK650; clear BK652; clear HB; have BK647 := n0_; have BK648 := n1_; have BK650 := n2_; have BK652 := n3_; have HB := n4_; clear n0_ n1_ n2_ n3_ n4_; (try clear hb); (try clear hb2); (try clear hk); (try clear hi); obtain ⟨hcz48_0, hcz48_1, hcz48_2, hfz48_0, hfz48_1, hfz48_2⟩ := cl3 BK650.out)))
            go_roundg k2
            case measure => have := HJ2.out; have := HK2.out; omega
            case rel => exact ⟨(wrap64 (x26_2 + 1)), (t653), (t654), (t655), (by first | rfl | (simp; done) | (simp [*]; done)), H', ⟨by have := HJ2.out; have := HK2.out; omega⟩, ⟨by (with_reducible repeat (first | refine kDN ?_ _ | refine kD ?_ | refine kA ?_ _)); refine blk_far ?_ NB647_650.out _; (with_reducible repeat (first | refine kDN ?_ _ | refine kD ?_ | refine kA ?_ _)); refine blk_far ?_ NB647_650.out _; (with_reducible repeat (first | refine kDN ?_ _ | refine kD ?_ | refine kA ?_ _)); refine blk_far ?_ NB647_650.out _; (with_reducible repeat (first | refine kDN ?_ _ | refine kD ?_ | refine kA ?_ _)); exact BK647.out⟩, ⟨by (with_reducible repeat (first | refine kDN ?_ _ | refine kD ?_ | refine kA ?_ _)); refine blk_far ?_ NB648_650.out _; (with_reducible repeat (first | refine kDN ?_ _ | refine kD ?_ | refine kA ?_ _)); refine blk_far ?_ NB648_650.out _; (with_reducible repeat (first | refine kDN ?_ _ | refine kD ?_ | refine kA ?_ _)); refine blk_far ?_ NB648_650.out _; (with_reducible repeat (first | refine kDN ?_ _ | refine kD ?_ | refine kA ?_ _)); exact BK648.out⟩, ⟨by (with_reducible repeat (first | refine kDN ?_ _ | refine kD ?_ | refine kA ?_ _)); refine blk_put (cs := #[.int .i64 t653, .int .i64 t654, .int .i64 x651002_2]) ?_ 2 _ rfl; (with_reducible repeat (first | refine kDN ?_ _ | refine kD ?_ | refine kA ?_ _)); refine blk_put (cs := #[.int .i64 t653, .int .i64 x651001_2, .int .i64 x651002_2]) ?_ 1 _ rfl; (with_reducible repeat (first | refine kDN ?_ _ | refine kD ?_ | refine kA ?_ _)); refine blk_put (cs := #[.int .i64 x651000_2, .int .i64 x651001_2, .int .i64 x651002_2]) ?_ 0 _ rfl; (with_reducible repeat (first | refine kDN ?_ _ | refine kD ?_ | refine kA ?_ _)); exact BK650.out⟩, ⟨by repeat (first | (with_reducible first | exact HB.out | apply bAl | apply bDN | apply bD1 | refine bSt ?_ GE647.out | refine bSt ?_ GE648.out | refine bSt ?_ GE650.out | refine bSt ?_ GE652.out) | exact HB.out)⟩⟩
           ·rw [if_neg c35] at H
            have c35b0 : ((Go.bits .and .i64 (ji34) 1) == 0) = false := beq_eq_false_iff_ne.mpr c35
            have c35b1 : ((Go.bits .and .i64 (ji34) 1) != 0) = true := bne_iff_ne.mpr c35
            have H' := aK H
            clear H
            have p651 : 0 ≤ (x26_2 : Int) := of_decide_eq_true (by first | (with_reducible assumption) | assumption)
            have q651 : x26_2 < (l0_4.length : Int) := of_decide_eq_true (by first | (with_reducible assumption) | assumption)
            obtain ⟨ad651, e651, hx651_0, hx651_1⟩ := at_T137 HR0_4.out x26_2 p651 q651
            cases e651
            replace hx651_0 := (HB.out.cell (World.block_lt_of_cell? w _ hx651_0)).trans hx651_0
            replace hx651_1 := (HB.out.cell (World.block_lt_of_cell? w _ hx651_1)).trans hx651_1
            replace p651 := eq_true p651
            replace q651 := eq_true q651
            go_wp2_with (first | ((with_reducible refine gate_dst (N := 8) rfl ?_); refine box_event ?hg (N := 8) ?hd (cs := #[.int .i64 0, .int .i64 0]) (t := 137) ?hr ?_; (case hd => rfl); (case hg => rfl); (case hr => first | (go_simp; done) | (go_simp; rfl)); intro gb652 hg w49 hbox hb; have n0_ := bkb BK647 hb (by intro z_; (with_reducible repeat (first | refine kDN ?_ _ | refine kD ?_ | refine kA ?_ _)); exact z_); have n1_ := bkb BK648 hb (by intro z_; (with_reducible repeat (first | refine kDN ?_ _ | refine kD ?_ | refine kA ?_ _)); exact z_); have n2_ := bkb BK650 hb (by intro z_; (with_reducible repeat (first | refine kDN ?_ _ | refine kD ?_ | refine kA ?_ _)); exact z_); have n3_ := aK (bSp (by repeat (first | (with_reducible first | exact HB.out | apply bAl | apply bDN | apply bD1 | refine bSt ?_ GE647.out | refine bSt ?_ GE648.out | refine bSt ?_ GE650.out) | exact HB.out)) hb); have n4_ := aK (hbox); have n5_ := aK ((by rw [hg]; exact (bSz (by repeat (first | (with_reducible first | exact HB.out | apply bAl | apply bDN | apply bD1 | refine bSt ?_ GE647.out | refine bSt ?_ GE648.out | refine bSt ?_ GE650.out) | exact HB.out))) : w.heap.size ≤ gb652)); have n6_ := n5_; have n7_ := nbl BK647 hg (by intro z_; (with_reducible repeat (first | refine kDN ?_ _ | refine kD ?_ | refine kA ?_ _)); exact z_); have n8_ := nbs n7_; have n9_ := nbl BK648 hg (by intro z_; (with_reducible repeat (first | refine kDN ?_ _ | refine kD ?_ | refine kA ?_ _)); exact z_); have n10_ := nbs n9_; have n11_ := nbl BK650 hg (by intro z_; (with_reducible repeat (first | refine kDN ?_ _ | refine kD ?_ | refine kA ?_ _)); exact z_); have n12_ := nbs n11_; clear BK647; clear BK648; clear BK650; clear HB; have BK647 := n0_; have BK648 := n1_; have BK650 := n2_; have HB := n3_; have BK652 := n4_; have GW652 := n5_; have GE652 := n6_; have NB647_652 := n7_; have NB652_647 := n8_; have NB648_652 := n9_; have NB652_648 := n10_; have NB650_652 := n11_; have NB652_650 := n12_; clear n0_ n1_ n2_ n3_ n4_ n5_ n6_ n7_ n8_ n9_ n10_ n11_ n12_; clear hb hbox hg; have hnb50 := NB652_647.out; have hnc50 := NB647_652.out; have hnb51 := NB652_648.out; have hnc51 := NB648_652.out; have hnb52 := NB652_650.out; have hnc52 := NB650_652.out; obtain ⟨hcz53_0, hcz53_1, hfz53_0, hfz53_1⟩ := cl2 BK652.out; have hnb54 := NB647_648.out; have hnc54 := NB648_647.out; have hnb55 := NB647_650.out; have hnc55 := NB650_647.out; obtain ⟨hcz56_0, hcz56_1, hcz56_2, hcz56_3, hcz56_4, hfz56_0, hfz56_1, hfz56_2, hfz56_3, hfz56_4⟩ := cl5 BK647.out))
            repeat (go_quiet (first | ((with_reducible refine gate_dst (N := 8) rfl ?_); refine box_event ?hg (N := 8) ?hd (cs := #[.int .i64 0, .int .i64 0]) (t := 137) ?hr ?_; (case hd => rfl); (case hg => rfl); (case hr => first | (go_simp; done) | (go_simp; rfl)); intro gb652 hg w49 hbox hb; have n0_ := bkb BK647 hb (by intro z_; (with_reducible repeat (first | refine kDN ?_ _ | refine kD ?_ | refine kA ?_ _)); exact z_); have n1_ := bkb BK648 hb (by intro z_; (with_reducible repeat (first | refine kDN ?_ _ | refine kD ?_ | refine kA ?_ _)); exact z_); have n2_ := bkb BK650 hb (by intro z_; (with_reducible repeat (first | refine kDN ?_ _ | refine kD ?_ | refine kA ?_ _)); exact z_); have n3_ := aK (bSp (by repeat (first | (with_reducible first | exact HB.out | apply bAl | apply bDN | apply bD1 | refine bSt ?_ GE647.out | refine bSt ?_ GE648.out | refine bSt ?_ GE650.out) | exact HB.out)) hb); have n4_ := aK (hbox); have n5_ := aK ((by rw [hg]; exact (bSz (by repeat (first | (with_reducible first | exact HB.out | apply bAl | apply bDN | apply bD1 | refine bSt ?_ GE647.out | refine bSt ?_ GE648.out | refine bSt ?_ GE650.out) | exact HB.out))) : w.heap.size ≤ gb652)); have n6_ := n5_; have n7_ := nbl BK647 hg (by intro z_; (with_reducible repeat (first | refine kDN ?_ _ | refine kD ?_ | refine kA ?_ _)); exact z_); have n8_ := nbs n7_; have n9_ := nbl BK648 hg (by intro z_; (with_reducible repeat (first | refine kDN ?_ _ | refine kD ?_ | refine kA ?_ _)); exact z_); have n10_ := nbs n9_; have n11_ := nbl BK650 hg (by intro z_; (with_reducible repeat (first | refine kDN ?_ _ | refine kD ?_ | refine kA ?_ _)); exact z_); have n12_ := nbs n11_; clear BK647; clear BK648; clear BK650; clear HB; have BK647 := n0_; have BK648 := n1_; have BK650 := n2_; have HB := n3_; have BK652 := n4_; have GW652 := n5_; have GE652 := n6_; have NB647_652 := n7_; have NB652_647 := n8_; have NB648_652 := n9_; have NB652_648 := n10_; have NB650_652 := n11_; have NB652_650 := n12_; clear n0_ n1_ n2_ n3_ n4_ n5_ n6_ n7_ n8_ n9_ n10_ n11_ n12_; clear hb hbox hg; have hnb50 := NB652_647.out; have hnc50 := NB647_652.out; have hnb51 := NB652_648.out; have hnc51 := NB648_652.out; have hnb52 := NB652_650.out; have hnc52 := NB650_652.out; obtain ⟨hcz53_0, hcz53_1, hfz53_0, hfz53_1⟩ := cl2 BK652.out; have hnb54 := NB647_648.out; have hnc54 := NB648_647.out; have hnb55 := NB647_650.out; have hnc55 := NB650_647.out; obtain ⟨hcz56_0, hcz56_1, hcz56_2, hcz56_3, hcz56_4, hfz56_0, hfz56_1, hfz56_2, hfz56_3, hfz56_4⟩ := cl5 BK647.out)); try go_wp2_with (first | ((with_reducible refine gate_dst (N := 8) rfl ?_); refine box_event ?hg (N := 8) ?hd (cs := #[.int .i64 0, .int .i64 0]) (t := 137) ?hr ?_; (case hd => rfl); (case hg => rfl); (case hr => first | (go_simp; done) | (go_simp; rfl)); intro gb652 hg w49 hbox hb; have n0_ := bkb BK647 hb (by intro z_; (with_reducible repeat (first | refine kDN ?_ _ | refine kD ?_ | refine kA ?_ _)); exact z_); have n1_ := bkb BK648 hb (by intro z_; (with_reducible repeat (first | refine kDN ?_ _ | refine kD ?_ | refine kA ?_ _)); exact z_); have n2_ := bkb BK650 hb (by intro z_; (with_reducible repeat (first | refine kDN ?_ _ | refine kD ?_ | refine kA ?_ _)); exact z_); have n3_ := aK (bSp (by repeat (first | (with_reducible first | exact HB.out | apply bAl | apply bDN | apply bD1 | refine bSt ?_ GE647.out | refine bSt ?_ GE648.out | refine bSt ?_ GE650.out) | exact HB.out)) hb); have n4_ := aK (hbox); have n5_ := aK ((by rw [hg]; exact (bSz (by repeat (first | (with_reducible first | exact HB.out | apply bAl | apply bDN | apply bD1 | refine bSt ?_ GE647.out | refine bSt ?_ GE648.out | refine bSt ?_ GE650.out) | exact HB.out))) : w.heap.size ≤ gb652)); have n6_ := n5_; have n7_ := nbl BK647 hg (by intro z_; (with_reducible repeat (first | refine kDN ?_ _ | refine kD ?_ | refine kA ?_ _)); exact z_); have n8_ := nbs n7_; have n9_ := nbl BK648 hg (by intro z_; (with_reducible repeat (first | refine kDN ?_ _ | refine kD ?_ | refine kA ?_ _)); exact z_); have n10_ := nbs n9_; have n11_ := nbl BK650 hg (by intro z_; (with_reducible repeat (first | refine kDN ?_ _ | refine kD ?_ | refine kA ?_ _)); exact z_); have n12_ := nbs n11_; clear BK647; clear BK648; clear BK650; clear HB; have BK647 := n0_; have BK648 := n1_; have BK650 := n2_; have HB := n3_; have BK652 := n4_; have GW652 := n5_; have GE652 := n6_; have NB647_652 := n7_; have NB652_647 := n8_; have NB648_652 := n9_; have NB652_648 := n10_; have NB650_652 := n11_; have NB652_650 := n12_; clear n0_ n1_ n2_ n3_ n4_ n5_ n6_ n7_ n8_ n9_ n10_ n11_ n12_; clear hb hbox hg; have hnb50 := NB652_647.out; have hnc50 := NB647_652.out; have hnb51 := NB652_648.out; have hnc51 := NB648_652.out; have hnb52 := NB652_650.out; have hnc52 := NB650_652.out; obtain ⟨hcz53_0, hcz53_1, hfz53_0, hfz53_1⟩ := cl2 BK652.out; have hnb54 := NB647_648.out; have hnc54 := NB648_647.out; have hnb55 := NB647_650.out; have hnc55 := NB650_647.out; obtain ⟨hcz56_0, hcz56_1, hcz56_2, hcz56_3, hcz56_4, hfz56_0, hfz56_1, hfz56_2, hfz56_3, hfz56_4⟩ := cl5 BK647.out)))
            go_roundg k2
            case measure => have := HJ2.out; have := HK2.out; omega
            case rel => exact ⟨(wrap64 (x26_2 + 1)), (x651000_2), (x651001_2), (x651002_2), (by first | rfl | (simp; done) | (simp [*]; done)), H', ⟨by have := HJ2.out; have := HK2.out; omega⟩, ⟨by (with_reducible repeat (first | refine kDN ?_ _ | refine kD ?_ | refine kA ?_ _)); refine blk_far ?_ NB647_652.out _; (with_reducible repeat (first | refine kDN ?_ _ | refine kD ?_ | refine kA ?_ _)); refine blk_far ?_ NB647_652.out _; (with_reducible repeat (first | refine kDN ?_ _ | refine kD ?_ | refine kA ?_ _)); exact BK647.out⟩, ⟨by (with_reducible repeat (first | refine kDN ?_ _ | refine kD ?_ | refine kA ?_ _)); refine blk_far ?_ NB648_652.out _; (with_reducible repeat (first | refine kDN ?_ _ | refine kD ?_ | refine kA ?_ _)); refine blk_far ?_ NB648_652.out _; (with_reducible repeat (first | refine kDN ?_ _ | refine kD ?_ | refine kA ?_ _)); exact BK648.out⟩, ⟨by (with_reducible repeat (first | refine kDN ?_ _ | refine kD ?_ | refine kA ?_ _)); refine blk_far ?_ NB650_652.out _; (with_reducible repeat (first | refine kDN ?_ _ | refine kD ?_ | refine kA ?_ _)); refine blk_far ?_ NB650_652.out _; (with_reducible repeat (first | refine kDN ?_ _ | refine kD ?_ | refine kA ?_ _)); exact BK650.out⟩, ⟨by repeat (first | (with_reducible first | exact HB.out | apply bAl | apply bDN | apply bD1 | refine bSt ?_ GE647.out | refine bSt ?_ GE648.out | refine bSt ?_ GE650.out | refine bSt ?_ GE652.out) | exact HB.out)⟩⟩
          ·rw [if_neg c33] at H
           exact absurd H (by simp)
        ·rw [if_neg c30] at H
         exact absurd H (by simp)
       ·rw [if_neg c29] at H
        exact absurd H (by simp)
      ·rw [if_neg c28] at H
       have c28b0 : decide (x26_2 < (l0_4.length : Int)) = false := decide_eq_false c28
       clear c28
       simp only [Option.some.injEq, Prod.mk.injEq] at H
       obtain ⟨rfl, rfl, rfl, rfl⟩ := H
       have hnb57 := NB650_647.out
       have hnc57 := NB647_650.out
       have hnb58 := NB650_648.out
       have hnc58 := NB648_650.out
       obtain ⟨hcz59_0, hcz59_1, hcz59_2, hfz59_0, hfz59_1, hfz59_2⟩ := cl3 BK650.out
       have hnb60 := NB648_647.out
       have hnc60 := NB647_648.out
       obtain ⟨hcz61_0, hcz61_1, hcz61_2, hfz61_0, hfz61_1, hfz61_2⟩ := cl3 BK648.out
       go_wp2
       repeat (go_quiet (fail); try go_wp2)
       refine bodyPost_ret (results_ct rfl _ _ gb648 32 #[.int .i64 x651000_2, .int .i64 x651001_2, .int .i64 x651002_2] (0, 0) _ rfl (by (with_reducible repeat (first | refine kDN ?_ _ | refine kD ?_ | refine kA ?_ _)); refine blk_put (cs := #[.int .i64 x651000_2, .int .i64 x651001_2, .int .i64 0]) ?_ 2 _ rfl; (with_reducible repeat (first | refine kDN ?_ _ | refine kD ?_ | refine kA ?_ _)); refine blk_put (cs := #[.int .i64 x651000_2, .int .i64 0, .int .i64 0]) ?_ 1 _ rfl; (with_reducible repeat (first | refine kDN ?_ _ | refine kD ?_ | refine kA ?_ _)); refine blk_put (cs := #[.int .i64 0, .int .i64 0, .int .i64 0]) ?_ 0 _ rfl; (with_reducible repeat (first | refine kDN ?_ _ | refine kD ?_ | refine kA ?_ _)); exact BK648.out) Try.underlying32 rfl (by kernel_rfl)) rfl ?_
       exact ⟨by first | rfl | (simp [errW_none, errW_some] <;> rfl) | (simp [*, errW_none, errW_some] <;> rfl), by repeat (first | (with_reducible first | exact HB.out | apply bAl | apply bDN | apply bD1 | refine bSt ?_ GE647.out | refine bSt ?_ GE648.out | refine bSt ?_ GE650.out) | exact HB.out)⟩
end Go.Proofs.Ytimejdhglmajdaa.F
end

section
namespace Go.Proofs.Ytimejdhglmajdaa.F
open Go.RowKit Go.Proofs.YtimejdhglmajdaaW.PrintWords Go.Proofs.YtimejdhglmajdaaW.PrintLast Go.Proofs.YtimejdhglmajdaaW.PrintMore
set_option linter.unusedVariables false
set_option linter.unusedSimpArgs false
attribute [local go_sem] min2_int min_two
def adj (w h o c y : Int) : Prop := ∃ ds, impl_WaysFrom.f 1000 w h o c = some ds ∧ ∃ d ∈ ds, impl_Step.f 1000 w h o c d = some y
theorem l1_facts {w h o : Int} {S S2 : List Int} (H : impl_EarliestAt.l1 w h o S = some S2) : (∀ c ∈ S, ∃ ds, impl_WaysFrom.f 1000 w h o c = some ds ∧ ds.length ≤ 4 ∧ ∀ d ∈ ds, ∃ y, impl_Step.f 1000 w h o c d = some y ∧ 0 ≤ y ∧ y < 16) ∧
    ∀ y, y ∈ S2 ↔ y ∈ cells16 ∧ (y ∈ S ∨ ∃ c ∈ S, adj w h o c y) := by
  unfold impl_EarliestAt.l1 at H
  split at H
  · rename_i hall
    obtain rfl := Option.some.inj H
    have h1 : ∀ c ∈ S, ∃ ds, impl_WaysFrom.f 1000 w h o c = some ds ∧ ds.length ≤ 4 ∧ ∀ d ∈ ds, ∃ y, impl_Step.f 1000 w h o c d = some y ∧ 0 ≤ y ∧ y < 16 := fun c hc => by
      have := List.all_eq_true.1 hall c hc
      cases e : impl_WaysFrom.f 1000 w h o c with
      | none => rw [e] at this; simp at this
      | some ds =>
        rw [e] at this
        simp only [Bool.and_eq_true, decide_eq_true_eq, List.all_eq_true] at this
        refine ⟨ds, rfl, this.1, fun d hd => ?_⟩
        have h2 := this.2 d hd
        cases e2 : impl_Step.f 1000 w h o c d with
        | none => rw [e2] at h2; simp at h2
        | some y => rw [e2] at h2; exact ⟨y, rfl, by simpa using h2⟩
    refine ⟨h1, fun y => ?_⟩
    rw [List.mem_filter, Bool.or_eq_true, List.any_eq_true, List.contains_iff_mem]
    refine and_congr Iff.rfl (or_congr Iff.rfl ⟨fun ⟨c, hc, hq⟩ => ⟨c, hc, ?_⟩, fun ⟨c, hc, ds, e, d, hd, hs⟩ => ⟨c, hc, ?_⟩⟩)
    · cases e : impl_WaysFrom.f 1000 w h o c with
      | none => rw [e] at hq; simp at hq
      | some ds =>
        rw [e] at hq
        obtain ⟨d, hd, hs⟩ := List.any_eq_true.1 hq
        exact ⟨ds, e, d, hd, by simpa using hs⟩
    · rw [e]
      exact List.any_eq_true.2 ⟨d, hd, by simp [hs]⟩
  · cases H
theorem boolZero (w : World) : (zeroValue 4).run Try.prog w = .ok (.bool false) w := by kernel_rfl
theorem wf16 {y : Int} (h : 0 ≤ y ∧ y < 16) : (Lit.int .i64 y).wf = true := WalkArith.wf_i64 (by omega)
theorem mem16 {y : Int} : y ∈ cells16 ↔ 0 ≤ y ∧ y < 16 := by
  unfold cells16
  simp only [List.mem_cons, List.not_mem_nil, or_false]
  omega
set_option maxHeartbeats 4000000 in
set_option maxRecDepth 100000 in
theorem impl_EarliestAt.calls (a0_0 : Int) (a0_1 : Int) (a0_2 : Int) (a0_3 : Int) (A0_4 : Option Addr) (c0_4 : Nat) (l0_4 : List SGate) (a1 : Int) (a2 : Int) (a3 : Int) (r : Int) (w : World) (hr0_4 : Kd.C k137 w A0_4 l0_4.length l0_4) (hc0_4 : l0_4.length ≤ c0_4) (h : impl_EarliestAt.f a0_0 a0_1 a0_2 a0_3 l0_4 a1 a2 a3 = some r) :
  Calls Try.prog 87 #[.agg #[.int .i64 a0_0, .int .i64 a0_1, .int .i64 a0_2, .int .i64 a0_3, .slice A0_4 l0_4.length c0_4], .int .i64 a1, .int .i64 a2, .int .i64 a3] w fun e w' => e = .returned (.int .i64 r) ∧ Below w.heap.size w w' := by
 have hu := Try.underlying32
 have hut := Try.underlying58
 have hmm := @run_makeMap Try.prog
 have HR1 := aK hr0_4
 have HC1 := aK hc0_4
 clear hr0_4 hc0_4
 obtain ⟨b, hm, H⟩ := Option.bind_eq_some_iff.mp h
 clear h
 obtain ⟨w0, hw0⟩ : ∃ w0 : World, w0 = w.alloc (.cells #[.int .i64 a0_0, .int .i64 a0_1, .int .i64 a0_2, .int .i64 a0_3, .slice A0_4 l0_4.length c0_4] 58) := ⟨_, rfl⟩
 have HB0 := aK (show Below w.heap.size w w0 by rw [hw0]; exact (Below.refl _ w).alloc (Nat.le_refl _) _)
 have K0 := aK (show w0.heap[w.heap.size]? = some (.cells #[.int .i64 a0_0, .int .i64 a0_1, .int .i64 a0_2, .int .i64 a0_3, .slice A0_4 l0_4.length c0_4] 58 (0, 0)) by rw [hw0]; exact heap_alloc_new w _)
 have SZ := aK (show w0.heap.size = w.heap.size + 1 by rw [hw0]; simp)
 have HW := aK hw0
 clear hw0
 have HT := fun (W : World) (hb : Below w.heap.size w W) => impl_TimedOk.calls 1000 a0_0 a0_1 a0_2 a0_3 A0_4 c0_4 l0_4 b W (Kd.C_below HR1.out hb) HC1.out hm
 have HCL := aK (show ∀ W : World, W.heap[w.heap.size]? = some (.cells #[.int .i64 a0_0, .int .i64 a0_1, .int .i64 a0_2, .int .i64 a0_3, .slice A0_4 l0_4.length c0_4] 58 (0, 0)) → W.cell? ⟨w.heap.size, 0, none⟩ = some (.int .i64 a0_0) ∧ W.cell? ⟨w.heap.size, 1, none⟩ = some (.int .i64 a0_1) ∧ W.cell? ⟨w.heap.size, 2, none⟩ = some (.int .i64 a0_2) ∧ W.cell? ⟨w.heap.size, 3, none⟩ = some (.int .i64 a0_3) ∧ W.cell? ⟨w.heap.size, 4, none⟩ = some (.slice A0_4 l0_4.length c0_4) from fun W hb =>
  ⟨(kC hb 0).trans rfl, (kC hb 1).trans rfl, (kC hb 2).trans rfl, (kC hb 3).trans rfl, (kC hb 4).trans rfl⟩)
 cases b with
 | false =>
  rw [if_neg Bool.false_ne_true] at H
  obtain rfl := Option.some.inj H
  go_enter Try.func87, Try.ntmps87
  go_wp2_with (go_at_call 139; rw [← HW.out]; refine (HT _ HB0.out).mono ?_; rintro e w1 ⟨rfl, hb⟩; have HB1 := aK hb; clear hb)
  go_ret
  exact ⟨rfl, HB0.out.trans (HB1.out.mono HB0.out.size)⟩
 | true =>
  rw [if_pos rfl] at H
  obtain ⟨c, hs, H2⟩ := Option.bind_eq_some_iff.mp H
  clear H
  have HI := fun (W : World) (A : Addr) (hA : W.cell? (A.add 0) = some (.int .i64 a1)) (hA1 : W.cell? (A.add 1) = some (.int .i64 a3)) => impl_isIn.calls a0_0 a0_1 a0_2 (some A) 2 [a1, a3] c W (Kd.C_of_reads (d := (0 : Int)) (h1 := fun _ => rfl) ⟨rfl, by simp, fun _ => ⟨A, rfl, fun j hj => by
   have hj' : j < 2 := hj
   obtain rfl | rfl : j = 0 ∨ j = 1 := by omega
   ·exact hA
   ·exact hA1⟩⟩) (Nat.le_refl 2) hs
  simp only [List.length_cons, List.length_nil] at HI
  have HIN := aK HI
  clear HI
  cases c with
  | false =>
   rw [if_neg Bool.false_ne_true] at H2
   obtain rfl := Option.some.inj H2
   go_enter Try.func87, Try.ntmps87
   go_wp2_with (first | (go_at_call 139; rw [← HW.out]; refine (HT _ HB0.out).mono ?_; rintro e w1 ⟨rfl, hb⟩; have HB1 := aK (HB0.out.trans (hb.mono HB0.out.size)); obtain ⟨k0, k1, k2, k3, k4⟩ := HCL.out w1 ((hb.block _ (by have := SZ.out; omega)).trans K0.out); clear hb) | (go_at_call 66; refine (HIN.out _ _ ?h0 ?h1).mono ?_; (case h0 => exact (kC (heap_alloc_new _ _) 0).trans rfl); (case h1 => exact (kC (heap_alloc_new _ _) 1).trans rfl); rintro e w2 ⟨rfl, hb⟩; have HB2 := aK hb; clear hb))
   go_ret
   exact ⟨rfl, (HB1.out.alloc HB1.out.size _).trans (HB2.out.mono (by have := HB1.out.size; simp; omega))⟩
  | true =>
   rw [if_pos rfl] at H2
   by_cases q1 : a2 < 0
   ·rw [if_pos q1] at H2
    obtain rfl := Option.some.inj H2
    have q1b : decide (a2 < 0) = true := decide_eq_true q1
    clear q1
    go_enter Try.func87, Try.ntmps87
    go_wp2_with (first | (go_at_call 139; rw [← HW.out]; refine (HT _ HB0.out).mono ?_; rintro e w1 ⟨rfl, hb⟩; have HB1 := aK (HB0.out.trans (hb.mono HB0.out.size)); obtain ⟨k0, k1, k2, k3, k4⟩ := HCL.out w1 ((hb.block _ (by have := SZ.out; omega)).trans K0.out); clear hb) | (go_at_call 66; refine (HIN.out _ _ ?h0 ?h1).mono ?_; (case h0 => exact (kC (heap_alloc_new _ _) 0).trans rfl); (case h1 => exact (kC (heap_alloc_new _ _) 1).trans rfl); rintro e w2 ⟨rfl, hb⟩; have HB2 := aK hb; clear hb))
    go_ret
    exact ⟨rfl, (HB1.out.alloc HB1.out.size _).trans (HB2.out.mono (by have := HB1.out.size; simp; omega))⟩
   ·rw [if_neg q1] at H2
    have q1b : decide (a2 < 0) = false := decide_eq_false q1
    by_cases q2 : a2 > 500
    ·rw [if_pos q2] at H2
     obtain rfl := Option.some.inj H2
     have q2b : decide (a2 > 500) = true := decide_eq_true q2
     clear q1 q2
     go_enter Try.func87, Try.ntmps87
     go_wp2_with (first | (go_at_call 139; rw [← HW.out]; refine (HT _ HB0.out).mono ?_; rintro e w1 ⟨rfl, hb⟩; have HB1 := aK (HB0.out.trans (hb.mono HB0.out.size)); obtain ⟨k0, k1, k2, k3, k4⟩ := HCL.out w1 ((hb.block _ (by have := SZ.out; omega)).trans K0.out); clear hb) | (go_at_call 66; refine (HIN.out _ _ ?h0 ?h1).mono ?_; (case h0 => exact (kC (heap_alloc_new _ _) 0).trans rfl); (case h1 => exact (kC (heap_alloc_new _ _) 1).trans rfl); rintro e w2 ⟨rfl, hb⟩; have HB2 := aK hb; clear hb))
     go_ret
     exact ⟨rfl, (HB1.out.alloc HB1.out.size _).trans (HB2.out.mono (by have := HB1.out.size; simp; omega))⟩
    ·rw [if_neg q2] at H2
     have q2b : decide (a2 > 500) = false := decide_eq_false q2
     by_cases q3 : (0 ≤ a1 ∧ a1 < 16) ∧ 0 ≤ a3 ∧ a3 < 16
     ·rw [if_pos q3] at H2
      have H' := aK H2
      have Q3 := aK q3
      have Q12 := aK (And.intro q1 q2)
      clear H2 q1 q2 q3
      go_enter Try.func87, Try.ntmps87
      go_wp2_with (first | (go_at_call 139; rw [← HW.out]; refine (HT _ HB0.out).mono ?_; rintro e w1 ⟨rfl, hb⟩; have HB1 := aK (HB0.out.trans (hb.mono HB0.out.size)); have K1 := aK ((hb.block _ (by have := SZ.out; omega)).trans K0.out); obtain ⟨k0, k1, k2, k3, k4⟩ := HCL.out w1 K1.out; have SZ1 := aK hb.size; clear hb) | (go_at_call 66; refine (HIN.out _ _ ?h0 ?h1).mono ?_; (case h0 => exact (kC (heap_alloc_new _ _) 0).trans rfl); (case h1 => exact (kC (heap_alloc_new _ _) 1).trans rfl); rintro e w2 ⟨rfl, hb⟩; have HB2 := aK ((HB1.out.alloc HB1.out.size _).trans (hb.mono (by have := HB1.out.size; simp; omega))); have K2 := aK ((hb.block _ (by have h1 := SZ.out; have h2 := SZ1.out; simp; omega)).trans (kA K1.out _)); have SZ2 := aK (show w.heap.size + 1 ≤ w2.heap.size by have h1 := hb.size; have h2 := SZ.out; have h3 := SZ1.out; simp at h1; omega); clear hb) | (refine wp_set_ins _ rfl _ _ _ 140 rfl 3 4 Try.underlying3 Try.underlying4 Try.underlying140 w2.heap.size 0 (fun _ => False) rfl (set_made _ _ _ w2) (by decide) a1 rfl rfl (wf16 Q3.out.1) ?_; intro w3 hs3 hg3; have HS3 := aK hs3; have HG3 := aK hg3; clear hs3 hg3))
      have HS := aK ((HS3.out.same (S' := fun x => x ∈ [a1]) (fun x => by simp)).mono (show 0 + 1 ≤ 16 by decide))
      have HM := aK (show ∀ x ∈ [a1], x ∈ cells16 from fun x hx => by rw [List.mem_singleton] at hx; subst hx; exact mem16.2 Q3.out.1)
      have KT := aK ((HG3.out.block _ (by have := SZ2.out; simp; omega) (fun e => by have h1 := Option.some.inj e; have h2 := SZ2.out; omega)).trans (kA K2.out _))
      have HB := aK ((HB2.out.alloc HB2.out.size (.map #[] 0)).grown HG3.out (by have := SZ2.out; simp; omega) (fun j hj => by cases hj; have := SZ2.out; omega))
      have LO := aK (show w.heap.size + 1 ≤ w2.heap.size from SZ2.out)
      clear HS3 HG3 HB2 K2 SZ2 HB1 K1 k0 k1 k2 k3 k4 SZ1 HB0 K0 SZ HW HT HIN hm hs q1b q2b
      go_loopg [9, 10] 300 (fun kq v9 v10 wr => ∃ (S : List Int) (now : Int) (bb : Nat), v9 = .map (some bb) ∧ v10 = .int .i64 now ∧ Aside0 (impl_EarliestAt.l0 a0_0 a0_1 a0_2 a0_3 l0_4 a2 a3 kq S now = some r) ∧ Aside0 (kq ≤ 300) ∧ Aside0 (SetAt Try.prog 3 4 wr bb 16 (fun x => x ∈ S)) ∧ Aside0 (∀ x ∈ S, x ∈ cells16) ∧ Aside0 (wr.heap[w.heap.size]? = some (.cells #[.int .i64 a0_0, .int .i64 a0_1, .int .i64 a0_2, .int .i64 a0_3, .slice A0_4 l0_4.length c0_4] 58 (0, 0))) ∧ Aside0 (w.heap.size + 1 ≤ bb) ∧ Aside0 (Below w.heap.size w wr))
      case atStart => exact ⟨[a1], a2, w2.heap.size, rfl, rfl, H', ⟨Nat.le_refl _⟩, HS, HM, KT, LO, HB⟩
      case round =>
       clear H' HS HM KT LO HB
       obtain ⟨S, now, bb, rfl, rfl, HA, HK, HS, HM, KT, LO, HB⟩ := hrel
       cases gk with
       | zero => exact absurd HA.out (by simp [impl_EarliestAt.l0])
       | succ k1 =>
        have H := HA.out
        clear HA
        simp only [impl_EarliestAt.l0] at H
        by_cases c1 : now ≤ wrap64 (a2 + 200)
        ·rw [if_pos c1] at H
         have c1b : decide (now ≤ wrap64 (a2 + 200)) = true := decide_eq_true c1
         clear c1
         by_cases c2 : S.contains a3 = true
         ·rw [if_pos c2] at H
          obtain rfl := Option.some.inj H
          have C2 := aK c2
          clear c2
          go_wp2_with (refine wp_set_look _ rfl _ _ 140 rfl 3 4 Try.underlying3 Try.underlying4 Try.underlying140 (boolZero _) bb 16 _ rfl HS.out a3 rfl (wf16 Q3.out.2) true (by have := C2.out; simpa using this) ?_)
          go_ret
          exact ⟨rfl, HB.out⟩
         ·rw [if_neg c2] at H
          have C2 := aK c2
          clear c2
          obtain ⟨⟨r1, r2, r3, r4⟩, hmz, H3⟩ := Option.bind_eq_some_iff.mp H
          obtain ⟨S2, hl1, H4⟩ := Option.bind_eq_some_iff.mp H3
          simp only at hl1
          have H' := aK H4
          have HL1 := aK hl1
          clear H H3 H4 hl1
          have HMZ := fun (W : World) (hb : Below w.heap.size w W) => impl_MazeAtTime.calls 1000 a0_0 a0_1 a0_2 a0_3 A0_4 c0_4 l0_4 now r1 r2 r3 r4 W (Kd.C_below HR1.out hb) HC1.out hmz
          clear hmz
          obtain ⟨k0, k1_, k2, k3, k4⟩ := HCL.out _ KT.out
          have hsz := fun (W : World) (o : Obj) => (show (W.alloc o).heap.size = W.heap.size + 1 by simp)
          have HSZ := aK hsz
          clear hsz
          go_wp2_with (first | (refine wp_set_look _ rfl _ _ 140 rfl 3 4 Try.underlying3 Try.underlying4 Try.underlying140 (boolZero _) bb 16 _ rfl HS.out a3 rfl (wf16 Q3.out.2) false (by have := C2.out; simpa using this) ?_) | (go_at_call 140; refine (HMZ _ HB.out).mono ?_; rintro e w4 ⟨rfl, hb⟩; have HS4 := aK (HS.out.kept (below_grown hb) (by simp)); have KT4 := aK ((hb.block _ (blk_lt KT.out)).trans KT.out); have HB4 := aK (HB.out.trans (hb.mono HB.out.size)); have LT4 := aK (show bb < w4.heap.size from HS4.out.lt); clear hb) | (at_range; refine wp_set_range _ rfl _ 140 rfl 3 4 Try.underlying3 Try.underlying140 bb 16 _ rfl ((HS4.out.kept (World.grownBy_alloc _ _ none) (by simp)).kept (World.grownBy_alloc _ _ none) (by simp)) ?_; intro w5 cnt hcnt hrg hg5 hs5))
          go_frame
          have hsz := HSZ.out
          simp only [hsz] at hrg hs5 ⊢
          clear hsz
          have RG0 := aK hrg
          have CN0 := aK hcnt
          have NX0 := aK ((((set_made Try.prog 3 4 (w4.alloc (Obj.cells #[.int .i64 r1, .int .i64 r2, .int .i64 r3] 32))).kept hg5 (by simp)).same (S' := fun y => ∃ c ∈ S, ¬ (c ∈ S) ∧ (y = c ∨ adj r1 r2 r3 c y)) (fun y => ⟨fun h => h.elim, fun ⟨c, h1, h2, _⟩ => h2 h1⟩)))
          have KM0 := aK ((hg5.block w4.heap.size (by simp; omega) (by simp)).trans (kA (heap_alloc_new w4 _) _))
          have KT0 := aK ((hg5.block w.heap.size (by have := blk_lt KT4.out; simp; omega) (by simp)).trans (kA (kA KT4.out _) _))
          have HB5 := aK (((HB4.out.alloc HB4.out.size _).alloc (by have := HB4.out.size; simp; omega) _).grown hg5 (by have := HB4.out.size; simp; omega) (fun j hj => by cases hj))
          have SZ5 := aK (show w4.heap.size + 3 ≤ w5.heap.size by omega)
          have e4 : (w4.alloc (Obj.cells #[.int .i64 r1, .int .i64 r2, .int .i64 r3] 32)).heap.size = w4.heap.size + 1 := by simp
          rw [e4] at NX0
          have LTW := aK (show w.heap.size < w4.heap.size from blk_lt KT4.out)
          clear hrg hcnt hg5 hs5 e4 k0 k1_ k2 k3 k4 HS4 HB4 KT4 HS KT HB
          go_loopw [14] (fun _ wr => ∃ (left : Int → Prop) (cn n2 : Nat), Aside0 (RangeAt Try.prog 3 4 wr bb (w4.heap.size + 1 + 1) 16 (fun x => x ∈ S) left cn) ∧ Aside0 (cn ≤ 16) ∧ Aside0 (∀ x, left x → x ∈ S) ∧ Aside0 (SetAt Try.prog 3 4 wr (w4.heap.size + 1) n2 (fun y => ∃ c ∈ S, ¬ left c ∧ (y = c ∨ adj r1 r2 r3 c y))) ∧ Aside0 (n2 + 5 * cn ≤ 80) ∧ Aside0 (wr.heap[w4.heap.size]? = some (.cells #[.int .i64 r1, .int .i64 r2, .int .i64 r3] 32 (0, 0))) ∧ Aside0 (wr.heap[w.heap.size]? = some (.cells #[.int .i64 a0_0, .int .i64 a0_1, .int .i64 a0_2, .int .i64 a0_3, .slice A0_4 l0_4.length c0_4] 58 (0, 0))) ∧ Aside0 (Below w.heap.size w wr) ∧ Aside0 (w4.heap.size + 3 ≤ wr.heap.size)) (fun _ wr => wr.rangeLeft bb (w4.heap.size + 1 + 1))
          case atStart => exact ⟨fun x => x ∈ S, cnt, 0, RG0, CN0, ⟨fun x h => h⟩, NX0, ⟨by have := CN0.out; omega⟩, KM0, KT0, HB5, SZ5⟩
          case round =>
           clear RG0 CN0 NX0 KM0 KT0 HB5 SZ5
           obtain ⟨left, cn, n2, RG, CN, LS, NX, N2, KM, KT, HB, SZ⟩ := hrel
           go_wp2_with (at_next; refine wp_set_next _ rfl _ rfl 3 4 Try.underlying3 Try.underlying4 bb (w4.heap.size + 1 + 1) 16 _ _ _ rfl RG.out LS.out ?_ ?_)
           ·intro hc0 hl0
            have HL0 := aK hl0
            clear hl0 hc0
            go_wp2
            go_roundg k1
            case measure => have := HK.out; omega
            case rel =>
             have hf := (l1_facts HL1.out).2
             refine ⟨S2, wrap64 (now + 1), w4.heap.size + 1, rfl, by first | rfl | simp, H', ⟨by have := HK.out; omega⟩, ⟨?_⟩, ⟨fun x hx => ((hf x).1 hx).1⟩, KT, ⟨by have h1 := LO.out; have h2 := LT4.out; omega⟩, HB⟩
             have hst : SetAt Try.prog 3 4 wr (w4.heap.size + 1) n2 (fun x => x ∈ S2) := NX.out.same (fun y => ?_)
             ·exact SetAt.tight Try.underlying3 hst cells16 (fun x hx => ((hf x).1 hx).1)
             ·rw [hf y]
              constructor
              ·rintro ⟨c, hc, _, rfl | ha⟩
               ·exact ⟨HM.out _ hc, Or.inl hc⟩
               ·obtain ⟨ds, e1, d, hd, e2⟩ := ha
                obtain ⟨ds', e1', _, h3⟩ := (l1_facts HL1.out).1 c hc
                obtain rfl := Option.some.inj (e1.symm.trans e1')
                obtain ⟨y', e2', h4⟩ := h3 d hd
                obtain rfl := Option.some.inj (e2.symm.trans e2')
                exact ⟨mem16.2 h4, Or.inr ⟨c, hc, _, e1, d, hd, e2⟩⟩
              ·rintro ⟨_, hy | ⟨c, hc, ha⟩⟩
               ·exact ⟨y, hy, HL0.out y, Or.inl rfl⟩
               ·exact ⟨c, hc, HL0.out c, Or.inr ha⟩
           ·intro x w6 cnt6 hwx hlx hrg6 hlt6 hg6 hs6 hen
            have hx := LS.out x hlx
            obtain ⟨ds, hds, hdl, hdst⟩ := (l1_facts HL1.out).1 x hx
            have RG6 := aK hrg6
            have LT6 := aK hlt6
            have NX6 := aK (NX.out.kept hg6 (fun e => by have := Option.some.inj e; omega))
            have KM6 := aK ((hg6.block _ (blk_lt KM.out) (fun e => by have := Option.some.inj e; omega)).trans KM.out)
            have KT6 := aK ((hg6.block _ (blk_lt KT.out) (fun e => by have h1 := Option.some.inj e; have h2 := LTW.out; omega)).trans KT.out)
            have HB6 := aK (HB.out.grown hg6 HB.out.size (fun j hj => by cases hj; have := LTW.out; omega))
            have SZ6 := aK (show w4.heap.size + 3 ≤ w6.heap.size by rw [hs6]; exact SZ.out)
            have HX := aK hx
            have HLX := aK hlx
            have HWX := aK hwx
            have HDL := aK hdl
            have HDST := aK hdst
            clear hrg6 hlt6 hg6 hs6 hx hlx hwx hdl hdst
            have STEPS : ∀ y, (∃ c ∈ S, ¬ (left c ∧ c ≠ x) ∧ (y = c ∨ adj r1 r2 r3 c y)) ↔ ((∃ c ∈ S, ¬ left c ∧ (y = c ∨ adj r1 r2 r3 c y)) ∨ y = x) ∨ ∃ i, i < ds.length ∧ impl_Step.f 1000 r1 r2 r3 x (ds.getD i 0) = some y := by
             intro y
             constructor
             ·rintro ⟨c, hc, hn, hy⟩
              by_cases e : c = x
              ·subst e
               rcases hy with rfl | ⟨ds', e1, d, hd, e2⟩
               ·exact Or.inl (Or.inr rfl)
               ·obtain rfl := Option.some.inj (e1.symm.trans hds)
                obtain ⟨q, hq, rfl⟩ := List.getElem_of_mem hd
                exact Or.inr ⟨q, hq, by rw [List.getD_eq_getElem?_getD, List.getElem?_eq_getElem hq]; exact e2⟩
              ·exact Or.inl (Or.inl ⟨c, hc, fun h => hn ⟨h, e⟩, hy⟩)
             ·rintro ((⟨c, hc, hn, hy⟩ | rfl) | ⟨q, hq, e2⟩)
              ·exact ⟨c, hc, fun h => hn h.1, hy⟩
              ·exact ⟨y, HX.out, fun h => h.2 rfl, Or.inl rfl⟩
              ·refine ⟨x, HX.out, fun h => h.2 rfl, Or.inr ⟨ds, hds, ds.getD q 0, ?_, e2⟩⟩
               rw [List.getD_eq_getElem?_getD, List.getElem?_eq_getElem hq]
               exact List.getElem_mem hq
            have HST := aK STEPS
            clear STEPS
            by_cases hd0 : 0 < ds.length
            ·have HD0 := aK hd0
             clear hd0
             go_wp2_with (first | (refine wp_set_put _ rfl _ _ _ 140 rfl 3 4 Try.underlying3 Try.underlying4 Try.underlying140 (w4.heap.size + 1) n2 _ rfl NX6.out (by have := N2.out; unfold maxLen; omega) x rfl rfl HWX.out ?_; intro w7 hs7 hg7; have NX7 := aK hs7; have RG7 := aK (RG6.out.kept hg7 (fun e => by have h1 := Option.some.inj e; have h2 := LT4.out; omega) (fun e => by have := Option.some.inj e; omega)); have KM7 := aK ((hg7.block _ (blk_lt KM6.out) (fun e => by have := Option.some.inj e; omega)).trans KM6.out); have KT7 := aK ((hg7.block _ (blk_lt KT6.out) (fun e => by have h1 := Option.some.inj e; have h2 := LTW.out; omega)).trans KT6.out); have HB7 := aK (HB6.out.grown hg7 HB6.out.size (fun j hj => by cases hj; have := LTW.out; omega)); have SZ7 := aK (Nat.le_trans SZ6.out hg7.size); have m0 : w7.cell? ⟨w4.heap.size, 0, none⟩ = some (.int .i64 r1) := (kC KM7.out 0).trans rfl; have m1 : w7.cell? ⟨w4.heap.size, 1, none⟩ = some (.int .i64 r2) := (kC KM7.out 1).trans rfl; have m2 : w7.cell? ⟨w4.heap.size, 2, none⟩ = some (.int .i64 r3) := (kC KM7.out 2).trans rfl; clear hs7 hg7) | (go_at_call 141; refine (impl_WaysFrom.calls 1000 r1 r2 r3 x ds _ hds).mono ?_; rintro e w8 ⟨v, rfl, hR, hb8⟩; have NX8 := aK (NX7.out.kept (below_grown hb8) (by simp)); have RG8 := aK (RG7.out.kept (below_grown hb8) (by simp) (by simp)); have KM8 := aK ((hb8.block _ (blk_lt KM7.out)).trans KM7.out); have KT8 := aK ((hb8.block _ (blk_lt KT7.out)).trans KT7.out); have HB8 := aK (HB7.out.trans (hb8.mono HB7.out.size)); have SZ8 := aK (Nat.le_trans SZ7.out hb8.size); have SW8 := aK SZ7.out; have HR8 := aK hR; clear hR hb8; obtain ⟨g, cap, cur, rfl, hcap, hg0, hgh, hcl, hcm, hcx⟩ := row_open HR8.out HD0.out; have HG0 := aK (Nat.le_trans SW8.out hg0); have HGH := aK hgh; have HCX := aK hcx; clear hcap hg0 hgh hcl hcm hcx))
             have NX9 := aK (NX8.out.same (S' := fun y => (((∃ c ∈ S, ¬ left c ∧ (y = c ∨ adj r1 r2 r3 c y)) ∨ y = x) ∨ ∃ i, i < 0 ∧ impl_Step.f 1000 r1 r2 r3 x (ds.getD i 0) = some y)) (fun y => ⟨fun h => Or.inl h, fun h => h.elim id (fun ⟨i, hi, _⟩ => absurd hi (Nat.not_lt_zero _))⟩))
             clear m0 m1 m2 hen
             go_loopg [70] ds.length (fun gg v70 wq => ∃ (q n3 : Nat), v70 = .int .i64 q ∧ q ≤ ds.length ∧ ds.length - q ≤ gg ∧ Aside0 (SetAt Try.prog 3 4 wq (w4.heap.size + 1) n3 (fun y => (((∃ c ∈ S, ¬ left c ∧ (y = c ∨ adj r1 r2 r3 c y)) ∨ y = x) ∨ ∃ i, i < q ∧ impl_Step.f 1000 r1 r2 r3 x (ds.getD i 0) = some y))) ∧ Aside0 (n3 = n2 + 1 + q) ∧ Aside0 (RangeAt Try.prog 3 4 wq bb (w4.heap.size + 1 + 1) 16 (fun x => x ∈ S) (fun y => left y ∧ y ≠ x) cnt6) ∧ Aside0 (wq.heap[w4.heap.size]? = some (.cells #[.int .i64 r1, .int .i64 r2, .int .i64 r3] 32 (0, 0))) ∧ Aside0 (wq.heap[w.heap.size]? = some (.cells #[.int .i64 a0_0, .int .i64 a0_1, .int .i64 a0_2, .int .i64 a0_3, .slice A0_4 l0_4.length c0_4] 58 (0, 0))) ∧ Aside0 (Below w.heap.size w wq) ∧ Aside0 (w4.heap.size + 3 ≤ wq.heap.size) ∧ Aside0 (wq.heap[g]? = some (.cells cur.toArray 3 (0, 0))))
             case atStart => exact ⟨0, n2 + 1, rfl, Nat.zero_le _, by omega, NX9, ⟨rfl⟩, RG8, KM8, KT8, HB8, SZ8, HGH⟩
             case round =>
              clear NX9 NX8 RG8 KM8 KT8 HB8 SZ8 HGH NX7 RG7 KM7 KT7 HB7 SZ7
              obtain ⟨q, n3, rfl, hq, hgg, NX, N3, RG2, KM2, KT2, HB2, SZ2, HG2⟩ := hrel
              by_cases hlt : q < ds.length
              ·have hltz : (q : Int) < (ds.length : Int) := by omega
               have hqz : (0 : Int) ≤ (q : Int) := by omega
               have cq : wr.cell? ⟨g, q, none⟩ = some (.int .i64 (ds.getD q 0)) := ((kC HG2.out q).trans (by simp)).trans (HCX.out q hlt)
               have m0 : wr.cell? ⟨w4.heap.size, 0, none⟩ = some (.int .i64 r1) := (kC KM2.out 0).trans rfl
               have m1 : wr.cell? ⟨w4.heap.size, 1, none⟩ = some (.int .i64 r2) := (kC KM2.out 1).trans rfl
               have m2 : wr.cell? ⟨w4.heap.size, 2, none⟩ = some (.int .i64 r3) := (kC KM2.out 2).trans rfl
               obtain ⟨y, hy, hy1⟩ := HDST.out (ds.getD q 0) (by rw [List.getD_eq_getElem?_getD, List.getElem?_eq_getElem hlt]; exact List.getElem_mem hlt)
               have HY1 := aK hy1
               clear hy1
               have HYQ := aK hy
               generalize ds.getD q 0 = dq at cq hy
               go_wp2_with (first | (go_at_call 71; refine (impl_Step.calls 1000 r1 r2 r3 x dq y _ hy).mono ?_; rintro e w9 ⟨rfl, hb9⟩; have NX3 := aK (NX.out.kept (below_grown hb9) (by simp)); have RG3 := aK (RG2.out.kept (below_grown hb9) (by simp) (by simp)); have KM3 := aK ((hb9.block _ (blk_lt KM2.out)).trans KM2.out); have KT3 := aK ((hb9.block _ (blk_lt KT2.out)).trans KT2.out); have HB3 := aK (HB2.out.trans (hb9.mono HB2.out.size)); have SZ3 := aK (Nat.le_trans SZ2.out hb9.size); have HG3 := aK ((hb9.block _ (blk_lt HG2.out)).trans HG2.out); clear hb9) | (refine wp_set_put _ rfl _ _ _ 140 rfl 3 4 Try.underlying3 Try.underlying4 Try.underlying140 (w4.heap.size + 1) n3 _ rfl NX3.out (by have h1 := N2.out; have h2 := N3.out; have h3 := HDL.out; unfold maxLen; omega) y rfl rfl (wf16 HY1.out) ?_; intro w10 hs10 hg10; have NX4 := aK hs10; have RG4 := aK (RG3.out.kept hg10 (fun e => by have h1 := Option.some.inj e; have h2 := LT4.out; omega) (fun e => by have := Option.some.inj e; omega)); have KM4 := aK ((hg10.block _ (blk_lt KM3.out) (fun e => by have := Option.some.inj e; omega)).trans KM3.out); have KT4 := aK ((hg10.block _ (blk_lt KT3.out) (fun e => by have h1 := Option.some.inj e; have h2 := LTW.out; omega)).trans KT3.out); have HB4 := aK (HB3.out.grown hg10 HB3.out.size (fun j hj => by cases hj; have := LTW.out; omega)); have SZ4 := aK (Nat.le_trans SZ3.out hg10.size); have HG4 := aK ((hg10.block _ (blk_lt HG3.out) (fun e => by have h1 := Option.some.inj e; have h2 := HG0.out; omega)).trans HG3.out); clear hs10 hg10))
               go_roundg (ds.length - (q + 1))
               case measure => omega
               case rel =>
                have hdl := HDL.out
                refine ⟨q + 1, n3 + 1, congrArg _ (by unfold wrap64; omega), by omega, by omega, ⟨NX4.out.same fun z => ?_⟩, ⟨by have := N3.out; omega⟩, RG4, KM4, KT4, HB4, SZ4, HG4⟩
                constructor
                ·rintro ((hz | ⟨i, hi, e⟩) | rfl)
                 ·exact Or.inl hz
                 ·exact Or.inr ⟨i, by omega, e⟩
                 ·exact Or.inr ⟨q, by omega, HYQ.out⟩
                ·rintro (hz | ⟨i, hi, e⟩)
                 ·exact Or.inl (Or.inl hz)
                 ·by_cases eq : i = q
                  ·subst eq
                   exact Or.inr (Option.some.inj (e.symm.trans HYQ.out))
                  ·exact Or.inl (Or.inr ⟨i, by omega, e⟩)
              ·have hltz : ¬ (q : Int) < (ds.length : Int) := by omega
               obtain rfl : q = ds.length := by omega
               go_wp2
               refine ⟨⟨fun y => left y ∧ y ≠ x, cnt6, n3, RG2, ⟨by have h1 := LT6.out; have h2 := CN.out; omega⟩, ⟨fun y hy => LS.out y hy.1⟩, ⟨NX.out.same fun y => (HST.out y).symm⟩, ⟨by have h1 := N3.out; have h2 := N2.out; have h3 := LT6.out; have h4 := HDL.out; omega⟩, KM2, KT2, HB2, SZ2⟩, ?_⟩
               rw [RG2.out.left_eq, RG.out.left_eq]
               exact LT6.out
            ·have hd1 : ds.length = 0 := by omega
             obtain rfl := List.eq_nil_of_length_eq_zero hd1
             clear hd0 hd1
             go_wp2_with (first | (refine wp_set_put _ rfl _ _ _ 140 rfl 3 4 Try.underlying3 Try.underlying4 Try.underlying140 (w4.heap.size + 1) n2 _ rfl NX6.out (by have := N2.out; unfold maxLen; omega) x rfl rfl HWX.out ?_; intro w7 hs7 hg7; have NX7 := aK hs7; have RG7 := aK (RG6.out.kept hg7 (fun e => by have h1 := Option.some.inj e; have h2 := LT4.out; omega) (fun e => by have := Option.some.inj e; omega)); have KM7 := aK ((hg7.block _ (blk_lt KM6.out) (fun e => by have := Option.some.inj e; omega)).trans KM6.out); have KT7 := aK ((hg7.block _ (blk_lt KT6.out) (fun e => by have h1 := Option.some.inj e; have h2 := LTW.out; omega)).trans KT6.out); have HB7 := aK (HB6.out.grown hg7 HB6.out.size (fun j hj => by cases hj; have := LTW.out; omega)); have SZ7 := aK (Nat.le_trans SZ6.out hg7.size); have m0 : w7.cell? ⟨w4.heap.size, 0, none⟩ = some (.int .i64 r1) := (kC KM7.out 0).trans rfl; have m1 : w7.cell? ⟨w4.heap.size, 1, none⟩ = some (.int .i64 r2) := (kC KM7.out 1).trans rfl; have m2 : w7.cell? ⟨w4.heap.size, 2, none⟩ = some (.int .i64 r3) := (kC KM7.out 2).trans rfl; clear hs7 hg7) | (go_at_call 141; refine (impl_WaysFrom.calls 1000 r1 r2 r3 x [] _ hds).mono ?_; rintro e w8 ⟨v, rfl, hR, hb8⟩; have NX8 := aK (NX7.out.kept (below_grown hb8) (by simp)); have RG8 := aK (RG7.out.kept (below_grown hb8) (by simp) (by simp)); have KM8 := aK ((hb8.block _ (blk_lt KM7.out)).trans KM7.out); have KT8 := aK ((hb8.block _ (blk_lt KT7.out)).trans KT7.out); have HB8 := aK (HB7.out.trans (hb8.mono HB7.out.size)); have SZ8 := aK (Nat.le_trans SZ7.out hb8.size); have SW8 := aK SZ7.out; have HR8 := aK hR; clear hR hb8; obtain ⟨A8, c8, rfl⟩ := Kd.R_slice HR8.out))
             refine wp_loop_rounds 1 ?_
             rw [rounds_succ]
             clear m0 m1 m2 hen
             go_wp2
             refine ⟨⟨fun y => left y ∧ y ≠ x, cnt6, n2 + 1, RG8, ⟨by have h1 := LT6.out; have h2 := CN.out; omega⟩, ⟨fun y hy => LS.out y hy.1⟩, ⟨NX8.out.same fun y => ?_⟩, ⟨by have h2 := N2.out; have h3 := LT6.out; omega⟩, KM8, KT8, HB8, SZ8⟩, ?_⟩
             ·rw [HST.out y]
              exact ⟨fun h => Or.inl h, fun h => h.elim id (fun ⟨i, hi, _⟩ => absurd hi (Nat.not_lt_zero _))⟩
             ·rw [RG8.out.left_eq, RG.out.left_eq]
              exact LT6.out
        ·rw [if_neg c1] at H
         obtain rfl := Option.some.inj H
         have c1b : decide (now ≤ wrap64 (a2 + 200)) = false := decide_eq_false c1
         clear c1
         go_wp2
         go_ret
         exact ⟨rfl, HB.out⟩
     ·rw [if_neg q3] at H2; exact absurd H2 (by simp)
set_option maxHeartbeats 8000000 in
set_option maxRecDepth 100000 in
theorem impl_CanFollow.calls (a0_0 : Int) (a0_1 : Int) (a0_2 : Int) (a0_3 : Int) (A0_4 : Option Addr) (c0_4 : Nat) (l0_4 : List (SGate)) (a1_0 : Int) (a1_1 : Int) (a2_0 : Int) (a2_1 : Int) (r : Bool) (w : World) (hr0_4 : Kd.C k137 w A0_4 l0_4.length l0_4) (hc0_4 : l0_4.length ≤ c0_4) (h : impl_CanFollow.f a0_0 a0_1 a0_2 a0_3 l0_4 a1_0 a1_1 a2_0 a2_1 = some r) :
  Calls Try.prog 38 #[.agg #[.int .i64 a0_0, .int .i64 a0_1, .int .i64 a0_2, .int .i64 a0_3, .slice A0_4 l0_4.length c0_4], .agg #[.int .i64 a1_0, .int .i64 a1_1], .agg #[.int .i64 a2_0, .int .i64 a2_1]] w fun e w' => e = .returned (.bool r) ∧ Below w.heap.size w w' := by
 have hu58 := Try.underlying58
 have hu60 := Try.underlying60
 have HR0_4 := aK hr0_4
 have HC0_4 := aK hc0_4
 clear hr0_4 hc0_4
 have HB := aK (Below.refl w.heap.size w)
 have H : ((impl_EarliestAt.f a0_0 a0_1 a0_2 a0_3 l0_4 a1_1 a1_0 a2_1).bind fun t659 => (if t659 ≥ 0 then (some (decide (t659 ≤ a2_0))) else (some false))) = some r := h
 clear h
 replace H := Option.bind_eq_some_iff.mp H
 obtain ⟨t659, A40, H⟩ := H
 replace H : (if t659 ≥ 0 then (some (decide (t659 ≤ a2_0))) else (some false)) = some r := H
 have A4 := aK A40
 clear A40
 by_cases c5 : t659 ≥ 0
 ·rw [if_pos c5] at H
  have c5b0 : decide (0 ≤ t659) = true := decide_eq_true c5
  clear c5
  obtain rfl := Option.some.inj H
  go_enter Try.func38, Try.ntmps38
  go_wp2_with (first | ((with_reducible refine gate_dst (N := 3) rfl ?_); refine box_event ?hg (N := 3) ?hd (cs := #[.int .i64 a0_0, .int .i64 a0_1, .int .i64 a0_2, .int .i64 a0_3, .slice A0_4 l0_4.length c0_4]) (t := 58) ?hr ?_; (case hd => rfl); (case hg => rfl); (case hr => first | (go_simp; done) | (go_simp; rfl)); intro gb656 hg w6 hbox hb; have n0_ := aK (bSp (by repeat (first | (with_reducible first | exact HB.out | apply bAl | apply bDN | apply bD1) | exact HB.out)) hb); have n1_ := aK (hbox); have n2_ := aK ((by rw [hg]; exact (bSz (by repeat (first | (with_reducible first | exact HB.out | apply bAl | apply bDN | apply bD1) | exact HB.out))) : w.heap.size ≤ gb656)); have n3_ := n2_; clear HB; have HB := n0_; have BK656 := n1_; have GW656 := n2_; have GE656 := n3_; clear n0_ n1_ n2_ n3_; clear hb hbox hg) | ((with_reducible refine gate_dst (N := 4) rfl ?_); refine box_event ?hg (N := 4) ?hd (cs := #[.int .i64 a1_0, .int .i64 a1_1]) (t := 60) ?hr ?_; (case hd => rfl); (case hg => rfl); (case hr => first | (go_simp; done) | (go_simp; rfl)); intro gb657 hg w7 hbox hb; have n0_ := bkb BK656 hb (by intro z_; (with_reducible repeat (first | refine kDN ?_ _ | refine kD ?_ | refine kA ?_ _)); exact z_); have n1_ := aK (bSp (by repeat (first | (with_reducible first | exact HB.out | apply bAl | apply bDN | apply bD1 | refine bSt ?_ GE656.out) | exact HB.out)) hb); have n2_ := aK (hbox); have n3_ := aK ((by rw [hg]; exact (bSz (by repeat (first | (with_reducible first | exact HB.out | apply bAl | apply bDN | apply bD1 | refine bSt ?_ GE656.out) | exact HB.out))) : w.heap.size ≤ gb657)); have n4_ := n3_; have n5_ := nbl BK656 hg (by intro z_; (with_reducible repeat (first | refine kDN ?_ _ | refine kD ?_ | refine kA ?_ _)); exact z_); have n6_ := nbs n5_; clear BK656; clear HB; have BK656 := n0_; have HB := n1_; have BK657 := n2_; have GW657 := n3_; have GE657 := n4_; have NB656_657 := n5_; have NB657_656 := n6_; clear n0_ n1_ n2_ n3_ n4_ n5_ n6_; clear hb hbox hg) | ((with_reducible refine gate_dst (N := 5) rfl ?_); refine box_event ?hg (N := 5) ?hd (cs := #[.int .i64 a2_0, .int .i64 a2_1]) (t := 60) ?hr ?_; (case hd => rfl); (case hg => rfl); (case hr => first | (go_simp; done) | (go_simp; rfl)); intro gb658 hg w8 hbox hb; have n0_ := bkb BK656 hb (by intro z_; (with_reducible repeat (first | refine kDN ?_ _ | refine kD ?_ | refine kA ?_ _)); exact z_); have n1_ := bkb BK657 hb (by intro z_; (with_reducible repeat (first | refine kDN ?_ _ | refine kD ?_ | refine kA ?_ _)); exact z_); have n2_ := aK (bSp (by repeat (first | (with_reducible first | exact HB.out | apply bAl | apply bDN | apply bD1 | refine bSt ?_ GE656.out | refine bSt ?_ GE657.out) | exact HB.out)) hb); have n3_ := aK (hbox); have n4_ := aK ((by rw [hg]; exact (bSz (by repeat (first | (with_reducible first | exact HB.out | apply bAl | apply bDN | apply bD1 | refine bSt ?_ GE656.out | refine bSt ?_ GE657.out) | exact HB.out))) : w.heap.size ≤ gb658)); have n5_ := n4_; have n6_ := nbl BK656 hg (by intro z_; (with_reducible repeat (first | refine kDN ?_ _ | refine kD ?_ | refine kA ?_ _)); exact z_); have n7_ := nbs n6_; have n8_ := nbl BK657 hg (by intro z_; (with_reducible repeat (first | refine kDN ?_ _ | refine kD ?_ | refine kA ?_ _)); exact z_); have n9_ := nbs n8_; clear BK656; clear BK657; clear HB; have BK656 := n0_; have BK657 := n1_; have HB := n2_; have BK658 := n3_; have GW658 := n4_; have GE658 := n5_; have NB656_658 := n6_; have NB658_656 := n7_; have NB657_658 := n8_; have NB658_657 := n9_; clear n0_ n1_ n2_ n3_ n4_ n5_ n6_ n7_ n8_ n9_; clear hb hbox hg; have hnb9 := NB656_657.out; have hnc9 := NB657_656.out; have hnb10 := NB656_658.out; have hnc10 := NB658_656.out; obtain ⟨hcz11_0, hcz11_1, hcz11_2, hcz11_3, hcz11_4, hfz11_0, hfz11_1, hfz11_2, hfz11_3, hfz11_4⟩ := cl5 BK656.out; have hnb12 := NB657_658.out; have hnc12 := NB658_657.out; obtain ⟨hcz13_0, hcz13_1, hfz13_0, hfz13_1⟩ := cl2 BK657.out; obtain ⟨hcz14_0, hcz14_1, hfz14_0, hfz14_1⟩ := cl2 BK658.out) | ((with_reducible refine gate_callee (f := 87) rfl ?_); refine goesL_ (some 15) rfl rfl Try.func87 (by kernel_rfl) rfl #[.agg #[.int .i64 a0_0, .int .i64 a0_1, .int .i64 a0_2, .int .i64 a0_3, .slice A0_4 l0_4.length c0_4], .int .i64 a1_1, .int .i64 a1_0, .int .i64 a2_1] rfl (by (try simp only [List.map_toArray, List.map_cons, List.map_nil]); first | done | rfl | (simp only [List.length_drop, List.length_take]; rfl)) ?_; (with_reducible refine (impl_EarliestAt.calls a0_0 a0_1 a0_2 a0_3 _ _ l0_4 a1_1 a1_0 a2_1 t659 _ ?side1 ?side2 A4.out).mono ?_); (case side1 => repeat (first | exact (Kd.C_below HR0_4.out HB.out) | (with_reducible refine Kd.C_alloc ?_ _) | (with_reducible refine Kd.C_drewN ?_ _) | (with_reducible refine Kd.C_drew ?_))); (case side2 => exact HC0_4.out); rintro e w15 ⟨rfl, hb⟩; refine ⟨_, rfl, ?_⟩; have n0_ := bkb BK656 hb (by intro z_; (with_reducible repeat (first | refine kDN ?_ _ | refine kD ?_ | refine kA ?_ _)); exact z_); have n1_ := bkb BK657 hb (by intro z_; (with_reducible repeat (first | refine kDN ?_ _ | refine kD ?_ | refine kA ?_ _)); exact z_); have n2_ := bkb BK658 hb (by intro z_; (with_reducible repeat (first | refine kDN ?_ _ | refine kD ?_ | refine kA ?_ _)); exact z_); have n3_ := aK (bSp (by repeat (first | (with_reducible first | exact HB.out | apply bAl | apply bDN | apply bD1 | refine bSt ?_ GE656.out | refine bSt ?_ GE657.out | refine bSt ?_ GE658.out) | exact HB.out)) hb); clear BK656; clear BK657; clear BK658; clear HB; have BK656 := n0_; have BK657 := n1_; have BK658 := n2_; have HB := n3_; clear n0_ n1_ n2_ n3_; (try clear hb); (try clear hb2); (try clear hk); (try clear hi); obtain ⟨hcz16_0, hcz16_1, hfz16_0, hfz16_1⟩ := cl2 BK658.out))
  go_ret
  exact ⟨by first | rfl | (simp [errW_none, errW_some] <;> rfl) | (simp [*, errW_none, errW_some] <;> rfl), by repeat (first | (with_reducible first | exact HB.out | apply bAl | apply bDN | apply bD1 | refine bSt ?_ GE656.out | refine bSt ?_ GE657.out | refine bSt ?_ GE658.out) | exact HB.out)⟩
 ·rw [if_neg c5] at H
  have c5b0 : decide (0 ≤ t659) = false := decide_eq_false c5
  clear c5
  obtain rfl := Option.some.inj H
  go_enter Try.func38, Try.ntmps38
  go_wp2_with (first | ((with_reducible refine gate_dst (N := 3) rfl ?_); refine box_event ?hg (N := 3) ?hd (cs := #[.int .i64 a0_0, .int .i64 a0_1, .int .i64 a0_2, .int .i64 a0_3, .slice A0_4 l0_4.length c0_4]) (t := 58) ?hr ?_; (case hd => rfl); (case hg => rfl); (case hr => first | (go_simp; done) | (go_simp; rfl)); intro gb656 hg w17 hbox hb; have n0_ := aK (bSp (by repeat (first | (with_reducible first | exact HB.out | apply bAl | apply bDN | apply bD1) | exact HB.out)) hb); have n1_ := aK (hbox); have n2_ := aK ((by rw [hg]; exact (bSz (by repeat (first | (with_reducible first | exact HB.out | apply bAl | apply bDN | apply bD1) | exact HB.out))) : w.heap.size ≤ gb656)); have n3_ := n2_; clear HB; have HB := n0_; have BK656 := n1_; have GW656 := n2_; have GE656 := n3_; clear n0_ n1_ n2_ n3_; clear hb hbox hg) | ((with_reducible refine gate_dst (N := 4) rfl ?_); refine box_event ?hg (N := 4) ?hd (cs := #[.int .i64 a1_0, .int .i64 a1_1]) (t := 60) ?hr ?_; (case hd => rfl); (case hg => rfl); (case hr => first | (go_simp; done) | (go_simp; rfl)); intro gb657 hg w18 hbox hb; have n0_ := bkb BK656 hb (by intro z_; (with_reducible repeat (first | refine kDN ?_ _ | refine kD ?_ | refine kA ?_ _)); exact z_); have n1_ := aK (bSp (by repeat (first | (with_reducible first | exact HB.out | apply bAl | apply bDN | apply bD1 | refine bSt ?_ GE656.out) | exact HB.out)) hb); have n2_ := aK (hbox); have n3_ := aK ((by rw [hg]; exact (bSz (by repeat (first | (with_reducible first | exact HB.out | apply bAl | apply bDN | apply bD1 | refine bSt ?_ GE656.out) | exact HB.out))) : w.heap.size ≤ gb657)); have n4_ := n3_; have n5_ := nbl BK656 hg (by intro z_; (with_reducible repeat (first | refine kDN ?_ _ | refine kD ?_ | refine kA ?_ _)); exact z_); have n6_ := nbs n5_; clear BK656; clear HB; have BK656 := n0_; have HB := n1_; have BK657 := n2_; have GW657 := n3_; have GE657 := n4_; have NB656_657 := n5_; have NB657_656 := n6_; clear n0_ n1_ n2_ n3_ n4_ n5_ n6_; clear hb hbox hg) | ((with_reducible refine gate_dst (N := 5) rfl ?_); refine box_event ?hg (N := 5) ?hd (cs := #[.int .i64 a2_0, .int .i64 a2_1]) (t := 60) ?hr ?_; (case hd => rfl); (case hg => rfl); (case hr => first | (go_simp; done) | (go_simp; rfl)); intro gb658 hg w19 hbox hb; have n0_ := bkb BK656 hb (by intro z_; (with_reducible repeat (first | refine kDN ?_ _ | refine kD ?_ | refine kA ?_ _)); exact z_); have n1_ := bkb BK657 hb (by intro z_; (with_reducible repeat (first | refine kDN ?_ _ | refine kD ?_ | refine kA ?_ _)); exact z_); have n2_ := aK (bSp (by repeat (first | (with_reducible first | exact HB.out | apply bAl | apply bDN | apply bD1 | refine bSt ?_ GE656.out | refine bSt ?_ GE657.out) | exact HB.out)) hb); have n3_ := aK (hbox); have n4_ := aK ((by rw [hg]; exact (bSz (by repeat (first | (with_reducible first | exact HB.out | apply bAl | apply bDN | apply bD1 | refine bSt ?_ GE656.out | refine bSt ?_ GE657.out) | exact HB.out))) : w.heap.size ≤ gb658)); have n5_ := n4_; have n6_ := nbl BK656 hg (by intro z_; (with_reducible repeat (first | refine kDN ?_ _ | refine kD ?_ | refine kA ?_ _)); exact z_); have n7_ := nbs n6_; have n8_ := nbl BK657 hg (by intro z_; (with_reducible repeat (first | refine kDN ?_ _ | refine kD ?_ | refine kA ?_ _)); exact z_); have n9_ := nbs n8_; clear BK656; clear BK657; clear HB; have BK656 := n0_; have BK657 := n1_; have HB := n2_; have BK658 := n3_; have GW658 := n4_; have GE658 := n5_; have NB656_658 := n6_; have NB658_656 := n7_; have NB657_658 := n8_; have NB658_657 := n9_; clear n0_ n1_ n2_ n3_ n4_ n5_ n6_ n7_ n8_ n9_; clear hb hbox hg; have hnb20 := NB656_657.out; have hnc20 := NB657_656.out; have hnb21 := NB656_658.out; have hnc21 := NB658_656.out; obtain ⟨hcz22_0, hcz22_1, hcz22_2, hcz22_3, hcz22_4, hfz22_0, hfz22_1, hfz22_2, hfz22_3, hfz22_4⟩ := cl5 BK656.out; have hnb23 := NB657_658.out; have hnc23 := NB658_657.out; obtain ⟨hcz24_0, hcz24_1, hfz24_0, hfz24_1⟩ := cl2 BK657.out; obtain ⟨hcz25_0, hcz25_1, hfz25_0, hfz25_1⟩ := cl2 BK658.out) | ((with_reducible refine gate_callee (f := 87) rfl ?_); refine goesL_ (some 15) rfl rfl Try.func87 (by kernel_rfl) rfl #[.agg #[.int .i64 a0_0, .int .i64 a0_1, .int .i64 a0_2, .int .i64 a0_3, .slice A0_4 l0_4.length c0_4], .int .i64 a1_1, .int .i64 a1_0, .int .i64 a2_1] rfl (by (try simp only [List.map_toArray, List.map_cons, List.map_nil]); first | done | rfl | (simp only [List.length_drop, List.length_take]; rfl)) ?_; (with_reducible refine (impl_EarliestAt.calls a0_0 a0_1 a0_2 a0_3 _ _ l0_4 a1_1 a1_0 a2_1 t659 _ ?side1 ?side2 A4.out).mono ?_); (case side1 => repeat (first | exact (Kd.C_below HR0_4.out HB.out) | (with_reducible refine Kd.C_alloc ?_ _) | (with_reducible refine Kd.C_drewN ?_ _) | (with_reducible refine Kd.C_drew ?_))); (case side2 => exact HC0_4.out); rintro e w26 ⟨rfl, hb⟩; refine ⟨_, rfl, ?_⟩; have n0_ := bkb BK656 hb (by intro z_; (with_reducible repeat (first | refine kDN ?_ _ | refine kD ?_ | refine kA ?_ _)); exact z_); have n1_ := bkb BK657 hb (by intro z_; (with_reducible repeat (first | refine kDN ?_ _ | refine kD ?_ | refine kA ?_ _)); exact z_); have n2_ := bkb BK658 hb (by intro z_; (with_reducible repeat (first | refine kDN ?_ _ | refine kD ?_ | refine kA ?_ _)); exact z_); have n3_ := aK (bSp (by repeat (first | (with_reducible first | exact HB.out | apply bAl | apply bDN | apply bD1 | refine bSt ?_ GE656.out | refine bSt ?_ GE657.out | refine bSt ?_ GE658.out) | exact HB.out)) hb); clear BK656; clear BK657; clear BK658; clear HB; have BK656 := n0_; have BK657 := n1_; have BK658 := n2_; have HB := n3_; clear n0_ n1_ n2_ n3_; (try clear hb); (try clear hb2); (try clear hk); (try clear hi)))
  go_ret
  exact ⟨by first | rfl | (simp [errW_none, errW_some] <;> rfl) | (simp [*, errW_none, errW_some] <;> rfl), by repeat (first | (with_reducible first | exact HB.out | apply bAl | apply bDN | apply bD1 | refine bSt ?_ GE656.out | refine bSt ?_ GE657.out | refine bSt ?_ GE658.out) | exact HB.out)⟩
set_option maxHeartbeats 8000000 in
set_option maxRecDepth 100000 in
theorem laws_eqGrid.calls (a0_0 : Int) (a0_1 : Int) (a1_0 : Int) (a1_1 : Int) (r : Bool) (w : World) (h : laws_eqGrid.f a0_0 a0_1 a1_0 a1_1 = some r) :
  Calls Try.prog 142 #[.agg #[.int .i64 a0_0, .int .i64 a0_1], .agg #[.int .i64 a1_0, .int .i64 a1_1]] w fun e w' => e = .returned (.bool r) ∧ Below w.heap.size w w' := by
 have hu30 := Try.underlying30
 have HB := aK (Below.refl w.heap.size w)
 have H : (if a0_0 = a1_0 then (if a0_1 = a1_1 then (some true) else (some false)) else (some false)) = some r := h
 clear h
 by_cases c3 : a0_0 = a1_0
 ·rw [if_pos c3] at H
  have c3b0 : (a0_0 == a1_0) = true := beq_iff_eq.mpr c3
  have c3b1 : (a0_0 != a1_0) = false := bne_eq_false_iff_eq.mpr c3
  clear c3
  by_cases c4 : a0_1 = a1_1
  ·rw [if_pos c4] at H
   have c4b0 : (a0_1 == a1_1) = true := beq_iff_eq.mpr c4
   have c4b1 : (a0_1 != a1_1) = false := bne_eq_false_iff_eq.mpr c4
   clear c4
   obtain rfl := Option.some.inj H
   go_enter Try.func142, Try.ntmps142
   go_wp2_with (first | ((with_reducible refine gate_dst (N := 2) rfl ?_); refine box_event ?hg (N := 2) ?hd (cs := #[.int .i64 a0_0, .int .i64 a0_1]) (t := 30) ?hr ?_; (case hd => rfl); (case hg => rfl); (case hr => first | (go_simp; done) | (go_simp; rfl)); intro gb660 hg w5 hbox hb; have n0_ := aK (bSp (by repeat (first | (with_reducible first | exact HB.out | apply bAl | apply bDN | apply bD1) | exact HB.out)) hb); have n1_ := aK (hbox); have n2_ := aK ((by rw [hg]; exact (bSz (by repeat (first | (with_reducible first | exact HB.out | apply bAl | apply bDN | apply bD1) | exact HB.out))) : w.heap.size ≤ gb660)); have n3_ := n2_; clear HB; have HB := n0_; have BK660 := n1_; have GW660 := n2_; have GE660 := n3_; clear n0_ n1_ n2_ n3_; clear hb hbox hg) | ((with_reducible refine gate_dst (N := 3) rfl ?_); refine box_event ?hg (N := 3) ?hd (cs := #[.int .i64 a1_0, .int .i64 a1_1]) (t := 30) ?hr ?_; (case hd => rfl); (case hg => rfl); (case hr => first | (go_simp; done) | (go_simp; rfl)); intro gb661 hg w6 hbox hb; have n0_ := bkb BK660 hb (by intro z_; (with_reducible repeat (first | refine kDN ?_ _ | refine kD ?_ | refine kA ?_ _)); exact z_); have n1_ := aK (bSp (by repeat (first | (with_reducible first | exact HB.out | apply bAl | apply bDN | apply bD1 | refine bSt ?_ GE660.out) | exact HB.out)) hb); have n2_ := aK (hbox); have n3_ := aK ((by rw [hg]; exact (bSz (by repeat (first | (with_reducible first | exact HB.out | apply bAl | apply bDN | apply bD1 | refine bSt ?_ GE660.out) | exact HB.out))) : w.heap.size ≤ gb661)); have n4_ := n3_; have n5_ := nbl BK660 hg (by intro z_; (with_reducible repeat (first | refine kDN ?_ _ | refine kD ?_ | refine kA ?_ _)); exact z_); have n6_ := nbs n5_; clear BK660; clear HB; have BK660 := n0_; have HB := n1_; have BK661 := n2_; have GW661 := n3_; have GE661 := n4_; have NB660_661 := n5_; have NB661_660 := n6_; clear n0_ n1_ n2_ n3_ n4_ n5_ n6_; clear hb hbox hg; have hnb7 := NB660_661.out; have hnc7 := NB661_660.out; obtain ⟨hcz8_0, hcz8_1, hfz8_0, hfz8_1⟩ := cl2 BK660.out; obtain ⟨hcz9_0, hcz9_1, hfz9_0, hfz9_1⟩ := cl2 BK661.out))
   go_ret
   exact ⟨by first | rfl | (simp [errW_none, errW_some] <;> rfl) | (simp [*, errW_none, errW_some] <;> rfl), by repeat (first | (with_reducible first | exact HB.out | apply bAl | apply bDN | apply bD1 | refine bSt ?_ GE660.out | refine bSt ?_ GE661.out) | exact HB.out)⟩
  ·rw [if_neg c4] at H
   have c4b0 : (a0_1 == a1_1) = false := beq_eq_false_iff_ne.mpr c4
   have c4b1 : (a0_1 != a1_1) = true := bne_iff_ne.mpr c4
   obtain rfl := Option.some.inj H
   go_enter Try.func142, Try.ntmps142
   go_wp2_with (first | ((with_reducible refine gate_dst (N := 2) rfl ?_); refine box_event ?hg (N := 2) ?hd (cs := #[.int .i64 a0_0, .int .i64 a0_1]) (t := 30) ?hr ?_; (case hd => rfl); (case hg => rfl); (case hr => first | (go_simp; done) | (go_simp; rfl)); intro gb660 hg w10 hbox hb; have n0_ := aK (bSp (by repeat (first | (with_reducible first | exact HB.out | apply bAl | apply bDN | apply bD1) | exact HB.out)) hb); have n1_ := aK (hbox); have n2_ := aK ((by rw [hg]; exact (bSz (by repeat (first | (with_reducible first | exact HB.out | apply bAl | apply bDN | apply bD1) | exact HB.out))) : w.heap.size ≤ gb660)); have n3_ := n2_; clear HB; have HB := n0_; have BK660 := n1_; have GW660 := n2_; have GE660 := n3_; clear n0_ n1_ n2_ n3_; clear hb hbox hg) | ((with_reducible refine gate_dst (N := 3) rfl ?_); refine box_event ?hg (N := 3) ?hd (cs := #[.int .i64 a1_0, .int .i64 a1_1]) (t := 30) ?hr ?_; (case hd => rfl); (case hg => rfl); (case hr => first | (go_simp; done) | (go_simp; rfl)); intro gb661 hg w11 hbox hb; have n0_ := bkb BK660 hb (by intro z_; (with_reducible repeat (first | refine kDN ?_ _ | refine kD ?_ | refine kA ?_ _)); exact z_); have n1_ := aK (bSp (by repeat (first | (with_reducible first | exact HB.out | apply bAl | apply bDN | apply bD1 | refine bSt ?_ GE660.out) | exact HB.out)) hb); have n2_ := aK (hbox); have n3_ := aK ((by rw [hg]; exact (bSz (by repeat (first | (with_reducible first | exact HB.out | apply bAl | apply bDN | apply bD1 | refine bSt ?_ GE660.out) | exact HB.out))) : w.heap.size ≤ gb661)); have n4_ := n3_; have n5_ := nbl BK660 hg (by intro z_; (with_reducible repeat (first | refine kDN ?_ _ | refine kD ?_ | refine kA ?_ _)); exact z_); have n6_ := nbs n5_; clear BK660; clear HB; have BK660 := n0_; have HB := n1_; have BK661 := n2_; have GW661 := n3_; have GE661 := n4_; have NB660_661 := n5_; have NB661_660 := n6_; clear n0_ n1_ n2_ n3_ n4_ n5_ n6_; clear hb hbox hg; have hnb12 := NB660_661.out; have hnc12 := NB661_660.out; obtain ⟨hcz13_0, hcz13_1, hfz13_0, hfz13_1⟩ := cl2 BK660.out; obtain ⟨hcz14_0, hcz14_1, hfz14_0, hfz14_1⟩ := cl2 BK661.out))
   go_ret
   exact ⟨by first | rfl | (simp [errW_none, errW_some] <;> rfl) | (simp [*, errW_none, errW_some] <;> rfl), by repeat (first | (with_reducible first | exact HB.out | apply bAl | apply bDN | apply bD1 | refine bSt ?_ GE660.out | refine bSt ?_ GE661.out) | exact HB.out)⟩
 ·rw [if_neg c3] at H
  have c3b0 : (a0_0 == a1_0) = false := beq_eq_false_iff_ne.mpr c3
  have c3b1 : (a0_0 != a1_0) = true := bne_iff_ne.mpr c3
  obtain rfl := Option.some.inj H
  go_enter Try.func142, Try.ntmps142
  go_wp2_with (first | ((with_reducible refine gate_dst (N := 2) rfl ?_); refine box_event ?hg (N := 2) ?hd (cs := #[.int .i64 a0_0, .int .i64 a0_1]) (t := 30) ?hr ?_; (case hd => rfl); (case hg => rfl); (case hr => first | (go_simp; done) | (go_simp; rfl)); intro gb660 hg w15 hbox hb; have n0_ := aK (bSp (by repeat (first | (with_reducible first | exact HB.out | apply bAl | apply bDN | apply bD1) | exact HB.out)) hb); have n1_ := aK (hbox); have n2_ := aK ((by rw [hg]; exact (bSz (by repeat (first | (with_reducible first | exact HB.out | apply bAl | apply bDN | apply bD1) | exact HB.out))) : w.heap.size ≤ gb660)); have n3_ := n2_; clear HB; have HB := n0_; have BK660 := n1_; have GW660 := n2_; have GE660 := n3_; clear n0_ n1_ n2_ n3_; clear hb hbox hg) | ((with_reducible refine gate_dst (N := 3) rfl ?_); refine box_event ?hg (N := 3) ?hd (cs := #[.int .i64 a1_0, .int .i64 a1_1]) (t := 30) ?hr ?_; (case hd => rfl); (case hg => rfl); (case hr => first | (go_simp; done) | (go_simp; rfl)); intro gb661 hg w16 hbox hb; have n0_ := bkb BK660 hb (by intro z_; (with_reducible repeat (first | refine kDN ?_ _ | refine kD ?_ | refine kA ?_ _)); exact z_); have n1_ := aK (bSp (by repeat (first | (with_reducible first | exact HB.out | apply bAl | apply bDN | apply bD1 | refine bSt ?_ GE660.out) | exact HB.out)) hb); have n2_ := aK (hbox); have n3_ := aK ((by rw [hg]; exact (bSz (by repeat (first | (with_reducible first | exact HB.out | apply bAl | apply bDN | apply bD1 | refine bSt ?_ GE660.out) | exact HB.out))) : w.heap.size ≤ gb661)); have n4_ := n3_; have n5_ := nbl BK660 hg (by intro z_; (with_reducible repeat (first | refine kDN ?_ _ | refine kD ?_ | refine kA ?_ _)); exact z_); have n6_ := nbs n5_; clear BK660; clear HB; have BK660 := n0_; have HB := n1_; have BK661 := n2_; have GW661 := n3_; have GE661 := n4_; have NB660_661 := n5_; have NB661_660 := n6_; clear n0_ n1_ n2_ n3_ n4_ n5_ n6_; clear hb hbox hg; have hnb17 := NB660_661.out; have hnc17 := NB661_660.out; obtain ⟨hcz18_0, hcz18_1, hfz18_0, hfz18_1⟩ := cl2 BK660.out; obtain ⟨hcz19_0, hcz19_1, hfz19_0, hfz19_1⟩ := cl2 BK661.out))
  go_ret
  exact ⟨by first | rfl | (simp [errW_none, errW_some] <;> rfl) | (simp [*, errW_none, errW_some] <;> rfl), by repeat (first | (with_reducible first | exact HB.out | apply bAl | apply bDN | apply bD1 | refine bSt ?_ GE660.out | refine bSt ?_ GE661.out) | exact HB.out)⟩
set_option maxHeartbeats 8000000 in
set_option maxRecDepth 100000 in
theorem laws_eqMaze.calls (a0_0 : Int) (a0_1 : Int) (a0_2 : Int) (a1_0 : Int) (a1_1 : Int) (a1_2 : Int) (r : Bool) (w : World) (h : laws_eqMaze.f a0_0 a0_1 a0_2 a1_0 a1_1 a1_2 = some r) :
  Calls Try.prog 88 #[.agg #[.int .i64 a0_0, .int .i64 a0_1, .int .i64 a0_2], .agg #[.int .i64 a1_0, .int .i64 a1_1, .int .i64 a1_2]] w fun e w' => e = .returned (.bool r) ∧ Below w.heap.size w w' := by
 have hu32 := Try.underlying32
 have hu30 := Try.underlying30
 have HB := aK (Below.refl w.heap.size w)
 have H : ((laws_eqGrid.f a0_0 a0_1 a1_0 a1_1).bind fun t664 => (if t664 = true then (if a0_2 = a1_2 then (some true) else (some false)) else (some false))) = some r := h
 clear h
 replace H := Option.bind_eq_some_iff.mp H
 obtain ⟨t664, A30, H⟩ := H
 replace H : (if t664 = true then (if a0_2 = a1_2 then (some true) else (some false)) else (some false)) = some r := H
 have A3 := aK A30
 clear A30
 by_cases c4 : t664 = true
 ·subst c4
  have H1 : (if a0_2 = a1_2 then (some true) else (some false)) = some r := by rw [if_pos rfl] at H; exact H
  clear H
  have H := H1
  clear H1
  by_cases c5 : a0_2 = a1_2
  ·rw [if_pos c5] at H
   have c5b0 : (a0_2 == a1_2) = true := beq_iff_eq.mpr c5
   have c5b1 : (a0_2 != a1_2) = false := bne_eq_false_iff_eq.mpr c5
   clear c5
   obtain rfl := Option.some.inj H
   go_enter Try.func88, Try.ntmps88
   go_wp2_with (first | ((with_reducible refine gate_dst (N := 2) rfl ?_); refine box_event ?hg (N := 2) ?hd (cs := #[.int .i64 a0_0, .int .i64 a0_1, .int .i64 a0_2]) (t := 32) ?hr ?_; (case hd => rfl); (case hg => rfl); (case hr => first | (go_simp; done) | (go_simp; rfl)); intro gb662 hg w6 hbox hb; have n0_ := aK (bSp (by repeat (first | (with_reducible first | exact HB.out | apply bAl | apply bDN | apply bD1) | exact HB.out)) hb); have n1_ := aK (hbox); have n2_ := aK ((by rw [hg]; exact (bSz (by repeat (first | (with_reducible first | exact HB.out | apply bAl | apply bDN | apply bD1) | exact HB.out))) : w.heap.size ≤ gb662)); have n3_ := n2_; clear HB; have HB := n0_; have BK662 := n1_; have GW662 := n2_; have GE662 := n3_; clear n0_ n1_ n2_ n3_; clear hb hbox hg) | ((with_reducible refine gate_dst (N := 3) rfl ?_); refine box_event ?hg (N := 3) ?hd (cs := #[.int .i64 a1_0, .int .i64 a1_1, .int .i64 a1_2]) (t := 32) ?hr ?_; (case hd => rfl); (case hg => rfl); (case hr => first | (go_simp; done) | (go_simp; rfl)); intro gb663 hg w7 hbox hb; have n0_ := bkb BK662 hb (by intro z_; (with_reducible repeat (first | refine kDN ?_ _ | refine kD ?_ | refine kA ?_ _)); exact z_); have n1_ := aK (bSp (by repeat (first | (with_reducible first | exact HB.out | apply bAl | apply bDN | apply bD1 | refine bSt ?_ GE662.out) | exact HB.out)) hb); have n2_ := aK (hbox); have n3_ := aK ((by rw [hg]; exact (bSz (by repeat (first | (with_reducible first | exact HB.out | apply bAl | apply bDN | apply bD1 | refine bSt ?_ GE662.out) | exact HB.out))) : w.heap.size ≤ gb663)); have n4_ := n3_; have n5_ := nbl BK662 hg (by intro z_; (with_reducible repeat (first | refine kDN ?_ _ | refine kD ?_ | refine kA ?_ _)); exact z_); have n6_ := nbs n5_; clear BK662; clear HB; have BK662 := n0_; have HB := n1_; have BK663 := n2_; have GW663 := n3_; have GE663 := n4_; have NB662_663 := n5_; have NB663_662 := n6_; clear n0_ n1_ n2_ n3_ n4_ n5_ n6_; clear hb hbox hg; have hnb8 := NB662_663.out; have hnc8 := NB663_662.out; obtain ⟨hcz9_0, hcz9_1, hcz9_2, hfz9_0, hfz9_1, hfz9_2⟩ := cl3 BK662.out; obtain ⟨hcz10_0, hcz10_1, hcz10_2, hfz10_0, hfz10_1, hfz10_2⟩ := cl3 BK663.out) | ((with_reducible refine gate_callee (f := 142) rfl ?_); refine goesL_ (some 9) rfl rfl Try.func142 (by kernel_rfl) rfl #[.agg #[.int .i64 a0_0, .int .i64 a0_1], .agg #[.int .i64 a1_0, .int .i64 a1_1]] rfl (by (try simp only [List.map_toArray, List.map_cons, List.map_nil]); first | done | rfl | (simp only [List.length_drop, List.length_take]; rfl)) ?_; (with_reducible refine (laws_eqGrid.calls a0_0 a0_1 a1_0 a1_1 true _ A3.out).mono ?_); rintro e w11 ⟨rfl, hb⟩; refine ⟨_, rfl, ?_⟩; have n0_ := bkb BK662 hb (by intro z_; (with_reducible repeat (first | refine kDN ?_ _ | refine kD ?_ | refine kA ?_ _)); exact z_); have n1_ := bkb BK663 hb (by intro z_; (with_reducible repeat (first | refine kDN ?_ _ | refine kD ?_ | refine kA ?_ _)); exact z_); have n2_ := aK (bSp (by repeat (first | (with_reducible first | exact HB.out | apply bAl | apply bDN | apply bD1 | refine bSt ?_ GE662.out | refine bSt ?_ GE663.out) | exact HB.out)) hb); clear BK662; clear BK663; clear HB; have BK662 := n0_; have BK663 := n1_; have HB := n2_; clear n0_ n1_ n2_; (try clear hb); (try clear hb2); (try clear hk); (try clear hi); obtain ⟨hcz12_0, hcz12_1, hcz12_2, hfz12_0, hfz12_1, hfz12_2⟩ := cl3 BK662.out; obtain ⟨hcz13_0, hcz13_1, hcz13_2, hfz13_0, hfz13_1, hfz13_2⟩ := cl3 BK663.out))
   go_ret
   exact ⟨by first | rfl | (simp [errW_none, errW_some] <;> rfl) | (simp [*, errW_none, errW_some] <;> rfl), by repeat (first | (with_reducible first | exact HB.out | apply bAl | apply bDN | apply bD1 | refine bSt ?_ GE662.out | refine bSt ?_ GE663.out) | exact HB.out)⟩
  ·rw [if_neg c5] at H
   have c5b0 : (a0_2 == a1_2) = false := beq_eq_false_iff_ne.mpr c5
   have c5b1 : (a0_2 != a1_2) = true := bne_iff_ne.mpr c5
   obtain rfl := Option.some.inj H
   go_enter Try.func88, Try.ntmps88
   go_wp2_with (first | ((with_reducible refine gate_dst (N := 2) rfl ?_); refine box_event ?hg (N := 2) ?hd (cs := #[.int .i64 a0_0, .int .i64 a0_1, .int .i64 a0_2]) (t := 32) ?hr ?_; (case hd => rfl); (case hg => rfl); (case hr => first | (go_simp; done) | (go_simp; rfl)); intro gb662 hg w14 hbox hb; have n0_ := aK (bSp (by repeat (first | (with_reducible first | exact HB.out | apply bAl | apply bDN | apply bD1) | exact HB.out)) hb); have n1_ := aK (hbox); have n2_ := aK ((by rw [hg]; exact (bSz (by repeat (first | (with_reducible first | exact HB.out | apply bAl | apply bDN | apply bD1) | exact HB.out))) : w.heap.size ≤ gb662)); have n3_ := n2_; clear HB; have HB := n0_; have BK662 := n1_; have GW662 := n2_; have GE662 := n3_; clear n0_ n1_ n2_ n3_; clear hb hbox hg) | ((with_reducible refine gate_dst (N := 3) rfl ?_); refine box_event ?hg (N := 3) ?hd (cs := #[.int .i64 a1_0, .int .i64 a1_1, .int .i64 a1_2]) (t := 32) ?hr ?_; (case hd => rfl); (case hg => rfl); (case hr => first | (go_simp; done) | (go_simp; rfl)); intro gb663 hg w15 hbox hb; have n0_ := bkb BK662 hb (by intro z_; (with_reducible repeat (first | refine kDN ?_ _ | refine kD ?_ | refine kA ?_ _)); exact z_); have n1_ := aK (bSp (by repeat (first | (with_reducible first | exact HB.out | apply bAl | apply bDN | apply bD1 | refine bSt ?_ GE662.out) | exact HB.out)) hb); have n2_ := aK (hbox); have n3_ := aK ((by rw [hg]; exact (bSz (by repeat (first | (with_reducible first | exact HB.out | apply bAl | apply bDN | apply bD1 | refine bSt ?_ GE662.out) | exact HB.out))) : w.heap.size ≤ gb663)); have n4_ := n3_; have n5_ := nbl BK662 hg (by intro z_; (with_reducible repeat (first | refine kDN ?_ _ | refine kD ?_ | refine kA ?_ _)); exact z_); have n6_ := nbs n5_; clear BK662; clear HB; have BK662 := n0_; have HB := n1_; have BK663 := n2_; have GW663 := n3_; have GE663 := n4_; have NB662_663 := n5_; have NB663_662 := n6_; clear n0_ n1_ n2_ n3_ n4_ n5_ n6_; clear hb hbox hg; have hnb16 := NB662_663.out; have hnc16 := NB663_662.out; obtain ⟨hcz17_0, hcz17_1, hcz17_2, hfz17_0, hfz17_1, hfz17_2⟩ := cl3 BK662.out; obtain ⟨hcz18_0, hcz18_1, hcz18_2, hfz18_0, hfz18_1, hfz18_2⟩ := cl3 BK663.out) | ((with_reducible refine gate_callee (f := 142) rfl ?_); refine goesL_ (some 9) rfl rfl Try.func142 (by kernel_rfl) rfl #[.agg #[.int .i64 a0_0, .int .i64 a0_1], .agg #[.int .i64 a1_0, .int .i64 a1_1]] rfl (by (try simp only [List.map_toArray, List.map_cons, List.map_nil]); first | done | rfl | (simp only [List.length_drop, List.length_take]; rfl)) ?_; (with_reducible refine (laws_eqGrid.calls a0_0 a0_1 a1_0 a1_1 true _ A3.out).mono ?_); rintro e w19 ⟨rfl, hb⟩; refine ⟨_, rfl, ?_⟩; have n0_ := bkb BK662 hb (by intro z_; (with_reducible repeat (first | refine kDN ?_ _ | refine kD ?_ | refine kA ?_ _)); exact z_); have n1_ := bkb BK663 hb (by intro z_; (with_reducible repeat (first | refine kDN ?_ _ | refine kD ?_ | refine kA ?_ _)); exact z_); have n2_ := aK (bSp (by repeat (first | (with_reducible first | exact HB.out | apply bAl | apply bDN | apply bD1 | refine bSt ?_ GE662.out | refine bSt ?_ GE663.out) | exact HB.out)) hb); clear BK662; clear BK663; clear HB; have BK662 := n0_; have BK663 := n1_; have HB := n2_; clear n0_ n1_ n2_; (try clear hb); (try clear hb2); (try clear hk); (try clear hi); obtain ⟨hcz20_0, hcz20_1, hcz20_2, hfz20_0, hfz20_1, hfz20_2⟩ := cl3 BK662.out; obtain ⟨hcz21_0, hcz21_1, hcz21_2, hfz21_0, hfz21_1, hfz21_2⟩ := cl3 BK663.out))
   go_ret
   exact ⟨by first | rfl | (simp [errW_none, errW_some] <;> rfl) | (simp [*, errW_none, errW_some] <;> rfl), by repeat (first | (with_reducible first | exact HB.out | apply bAl | apply bDN | apply bD1 | refine bSt ?_ GE662.out | refine bSt ?_ GE663.out) | exact HB.out)⟩
 ·replace c4 := Bool.eq_false_iff.mpr c4
  subst c4
  have H1 : (some false) = some r := by rw [if_neg (show ¬ (false = true) by decide)] at H; exact H
  clear H
  have H := H1
  clear H1
  obtain rfl := Option.some.inj H
  go_enter Try.func88, Try.ntmps88
  go_wp2_with (first | ((with_reducible refine gate_dst (N := 2) rfl ?_); refine box_event ?hg (N := 2) ?hd (cs := #[.int .i64 a0_0, .int .i64 a0_1, .int .i64 a0_2]) (t := 32) ?hr ?_; (case hd => rfl); (case hg => rfl); (case hr => first | (go_simp; done) | (go_simp; rfl)); intro gb662 hg w22 hbox hb; have n0_ := aK (bSp (by repeat (first | (with_reducible first | exact HB.out | apply bAl | apply bDN | apply bD1) | exact HB.out)) hb); have n1_ := aK (hbox); have n2_ := aK ((by rw [hg]; exact (bSz (by repeat (first | (with_reducible first | exact HB.out | apply bAl | apply bDN | apply bD1) | exact HB.out))) : w.heap.size ≤ gb662)); have n3_ := n2_; clear HB; have HB := n0_; have BK662 := n1_; have GW662 := n2_; have GE662 := n3_; clear n0_ n1_ n2_ n3_; clear hb hbox hg) | ((with_reducible refine gate_dst (N := 3) rfl ?_); refine box_event ?hg (N := 3) ?hd (cs := #[.int .i64 a1_0, .int .i64 a1_1, .int .i64 a1_2]) (t := 32) ?hr ?_; (case hd => rfl); (case hg => rfl); (case hr => first | (go_simp; done) | (go_simp; rfl)); intro gb663 hg w23 hbox hb; have n0_ := bkb BK662 hb (by intro z_; (with_reducible repeat (first | refine kDN ?_ _ | refine kD ?_ | refine kA ?_ _)); exact z_); have n1_ := aK (bSp (by repeat (first | (with_reducible first | exact HB.out | apply bAl | apply bDN | apply bD1 | refine bSt ?_ GE662.out) | exact HB.out)) hb); have n2_ := aK (hbox); have n3_ := aK ((by rw [hg]; exact (bSz (by repeat (first | (with_reducible first | exact HB.out | apply bAl | apply bDN | apply bD1 | refine bSt ?_ GE662.out) | exact HB.out))) : w.heap.size ≤ gb663)); have n4_ := n3_; have n5_ := nbl BK662 hg (by intro z_; (with_reducible repeat (first | refine kDN ?_ _ | refine kD ?_ | refine kA ?_ _)); exact z_); have n6_ := nbs n5_; clear BK662; clear HB; have BK662 := n0_; have HB := n1_; have BK663 := n2_; have GW663 := n3_; have GE663 := n4_; have NB662_663 := n5_; have NB663_662 := n6_; clear n0_ n1_ n2_ n3_ n4_ n5_ n6_; clear hb hbox hg; have hnb24 := NB662_663.out; have hnc24 := NB663_662.out; obtain ⟨hcz25_0, hcz25_1, hcz25_2, hfz25_0, hfz25_1, hfz25_2⟩ := cl3 BK662.out; obtain ⟨hcz26_0, hcz26_1, hcz26_2, hfz26_0, hfz26_1, hfz26_2⟩ := cl3 BK663.out) | ((with_reducible refine gate_callee (f := 142) rfl ?_); refine goesL_ (some 9) rfl rfl Try.func142 (by kernel_rfl) rfl #[.agg #[.int .i64 a0_0, .int .i64 a0_1], .agg #[.int .i64 a1_0, .int .i64 a1_1]] rfl (by (try simp only [List.map_toArray, List.map_cons, List.map_nil]); first | done | rfl | (simp only [List.length_drop, List.length_take]; rfl)) ?_; (with_reducible refine (laws_eqGrid.calls a0_0 a0_1 a1_0 a1_1 false _ A3.out).mono ?_); rintro e w27 ⟨rfl, hb⟩; refine ⟨_, rfl, ?_⟩; have n0_ := bkb BK662 hb (by intro z_; (with_reducible repeat (first | refine kDN ?_ _ | refine kD ?_ | refine kA ?_ _)); exact z_); have n1_ := bkb BK663 hb (by intro z_; (with_reducible repeat (first | refine kDN ?_ _ | refine kD ?_ | refine kA ?_ _)); exact z_); have n2_ := aK (bSp (by repeat (first | (with_reducible first | exact HB.out | apply bAl | apply bDN | apply bD1 | refine bSt ?_ GE662.out | refine bSt ?_ GE663.out) | exact HB.out)) hb); clear BK662; clear BK663; clear HB; have BK662 := n0_; have BK663 := n1_; have HB := n2_; clear n0_ n1_ n2_; (try clear hb); (try clear hb2); (try clear hk); (try clear hi)))
  go_ret
  exact ⟨by first | rfl | (simp [errW_none, errW_some] <;> rfl) | (simp [*, errW_none, errW_some] <;> rfl), by repeat (first | (with_reducible first | exact HB.out | apply bAl | apply bDN | apply bD1 | refine bSt ?_ GE662.out | refine bSt ?_ GE663.out) | exact HB.out)⟩
set_option maxHeartbeats 8000000 in
set_option maxRecDepth 100000 in
theorem laws_eqGate.calls (a0_0 : Int) (a0_1 : Int) (a1_0 : Int) (a1_1 : Int) (r : Bool) (w : World) (h : laws_eqGate.f a0_0 a0_1 a1_0 a1_1 = some r) :
  Calls Try.prog 143 #[.agg #[.int .i64 a0_0, .int .i64 a0_1], .agg #[.int .i64 a1_0, .int .i64 a1_1]] w fun e w' => e = .returned (.bool r) ∧ Below w.heap.size w w' := by
 have hu137 := Try.underlying137
 have HB := aK (Below.refl w.heap.size w)
 have H : (if a0_0 = a1_0 then (if a0_1 = a1_1 then (some true) else (some false)) else (some false)) = some r := h
 clear h
 by_cases c3 : a0_0 = a1_0
 ·rw [if_pos c3] at H
  have c3b0 : (a0_0 == a1_0) = true := beq_iff_eq.mpr c3
  have c3b1 : (a0_0 != a1_0) = false := bne_eq_false_iff_eq.mpr c3
  clear c3
  by_cases c4 : a0_1 = a1_1
  ·rw [if_pos c4] at H
   have c4b0 : (a0_1 == a1_1) = true := beq_iff_eq.mpr c4
   have c4b1 : (a0_1 != a1_1) = false := bne_eq_false_iff_eq.mpr c4
   clear c4
   obtain rfl := Option.some.inj H
   go_enter Try.func143, Try.ntmps143
   go_wp2_with (first | ((with_reducible refine gate_dst (N := 2) rfl ?_); refine box_event ?hg (N := 2) ?hd (cs := #[.int .i64 a0_0, .int .i64 a0_1]) (t := 137) ?hr ?_; (case hd => rfl); (case hg => rfl); (case hr => first | (go_simp; done) | (go_simp; rfl)); intro gb665 hg w5 hbox hb; have n0_ := aK (bSp (by repeat (first | (with_reducible first | exact HB.out | apply bAl | apply bDN | apply bD1) | exact HB.out)) hb); have n1_ := aK (hbox); have n2_ := aK ((by rw [hg]; exact (bSz (by repeat (first | (with_reducible first | exact HB.out | apply bAl | apply bDN | apply bD1) | exact HB.out))) : w.heap.size ≤ gb665)); have n3_ := n2_; clear HB; have HB := n0_; have BK665 := n1_; have GW665 := n2_; have GE665 := n3_; clear n0_ n1_ n2_ n3_; clear hb hbox hg) | ((with_reducible refine gate_dst (N := 3) rfl ?_); refine box_event ?hg (N := 3) ?hd (cs := #[.int .i64 a1_0, .int .i64 a1_1]) (t := 137) ?hr ?_; (case hd => rfl); (case hg => rfl); (case hr => first | (go_simp; done) | (go_simp; rfl)); intro gb666 hg w6 hbox hb; have n0_ := bkb BK665 hb (by intro z_; (with_reducible repeat (first | refine kDN ?_ _ | refine kD ?_ | refine kA ?_ _)); exact z_); have n1_ := aK (bSp (by repeat (first | (with_reducible first | exact HB.out | apply bAl | apply bDN | apply bD1 | refine bSt ?_ GE665.out) | exact HB.out)) hb); have n2_ := aK (hbox); have n3_ := aK ((by rw [hg]; exact (bSz (by repeat (first | (with_reducible first | exact HB.out | apply bAl | apply bDN | apply bD1 | refine bSt ?_ GE665.out) | exact HB.out))) : w.heap.size ≤ gb666)); have n4_ := n3_; have n5_ := nbl BK665 hg (by intro z_; (with_reducible repeat (first | refine kDN ?_ _ | refine kD ?_ | refine kA ?_ _)); exact z_); have n6_ := nbs n5_; clear BK665; clear HB; have BK665 := n0_; have HB := n1_; have BK666 := n2_; have GW666 := n3_; have GE666 := n4_; have NB665_666 := n5_; have NB666_665 := n6_; clear n0_ n1_ n2_ n3_ n4_ n5_ n6_; clear hb hbox hg; have hnb7 := NB665_666.out; have hnc7 := NB666_665.out; obtain ⟨hcz8_0, hcz8_1, hfz8_0, hfz8_1⟩ := cl2 BK665.out; obtain ⟨hcz9_0, hcz9_1, hfz9_0, hfz9_1⟩ := cl2 BK666.out))
   go_ret
   exact ⟨by first | rfl | (simp [errW_none, errW_some] <;> rfl) | (simp [*, errW_none, errW_some] <;> rfl), by repeat (first | (with_reducible first | exact HB.out | apply bAl | apply bDN | apply bD1 | refine bSt ?_ GE665.out | refine bSt ?_ GE666.out) | exact HB.out)⟩
  ·rw [if_neg c4] at H
   have c4b0 : (a0_1 == a1_1) = false := beq_eq_false_iff_ne.mpr c4
   have c4b1 : (a0_1 != a1_1) = true := bne_iff_ne.mpr c4
   obtain rfl := Option.some.inj H
   go_enter Try.func143, Try.ntmps143
   go_wp2_with (first | ((with_reducible refine gate_dst (N := 2) rfl ?_); refine box_event ?hg (N := 2) ?hd (cs := #[.int .i64 a0_0, .int .i64 a0_1]) (t := 137) ?hr ?_; (case hd => rfl); (case hg => rfl); (case hr => first | (go_simp; done) | (go_simp; rfl)); intro gb665 hg w10 hbox hb; have n0_ := aK (bSp (by repeat (first | (with_reducible first | exact HB.out | apply bAl | apply bDN | apply bD1) | exact HB.out)) hb); have n1_ := aK (hbox); have n2_ := aK ((by rw [hg]; exact (bSz (by repeat (first | (with_reducible first | exact HB.out | apply bAl | apply bDN | apply bD1) | exact HB.out))) : w.heap.size ≤ gb665)); have n3_ := n2_; clear HB; have HB := n0_; have BK665 := n1_; have GW665 := n2_; have GE665 := n3_; clear n0_ n1_ n2_ n3_; clear hb hbox hg) | ((with_reducible refine gate_dst (N := 3) rfl ?_); refine box_event ?hg (N := 3) ?hd (cs := #[.int .i64 a1_0, .int .i64 a1_1]) (t := 137) ?hr ?_; (case hd => rfl); (case hg => rfl); (case hr => first | (go_simp; done) | (go_simp; rfl)); intro gb666 hg w11 hbox hb; have n0_ := bkb BK665 hb (by intro z_; (with_reducible repeat (first | refine kDN ?_ _ | refine kD ?_ | refine kA ?_ _)); exact z_); have n1_ := aK (bSp (by repeat (first | (with_reducible first | exact HB.out | apply bAl | apply bDN | apply bD1 | refine bSt ?_ GE665.out) | exact HB.out)) hb); have n2_ := aK (hbox); have n3_ := aK ((by rw [hg]; exact (bSz (by repeat (first | (with_reducible first | exact HB.out | apply bAl | apply bDN | apply bD1 | refine bSt ?_ GE665.out) | exact HB.out))) : w.heap.size ≤ gb666)); have n4_ := n3_; have n5_ := nbl BK665 hg (by intro z_; (with_reducible repeat (first | refine kDN ?_ _ | refine kD ?_ | refine kA ?_ _)); exact z_); have n6_ := nbs n5_; clear BK665; clear HB; have BK665 := n0_; have HB := n1_; have BK666 := n2_; have GW666 := n3_; have GE666 := n4_; have NB665_666 := n5_; have NB666_665 := n6_; clear n0_ n1_ n2_ n3_ n4_ n5_ n6_; clear hb hbox hg; have hnb12 := NB665_666.out; have hnc12 := NB666_665.out; obtain ⟨hcz13_0, hcz13_1, hfz13_0, hfz13_1⟩ := cl2 BK665.out; obtain ⟨hcz14_0, hcz14_1, hfz14_0, hfz14_1⟩ := cl2 BK666.out))
   go_ret
   exact ⟨by first | rfl | (simp [errW_none, errW_some] <;> rfl) | (simp [*, errW_none, errW_some] <;> rfl), by repeat (first | (with_reducible first | exact HB.out | apply bAl | apply bDN | apply bD1 | refine bSt ?_ GE665.out | refine bSt ?_ GE666.out) | exact HB.out)⟩
 ·rw [if_neg c3] at H
  have c3b0 : (a0_0 == a1_0) = false := beq_eq_false_iff_ne.mpr c3
  have c3b1 : (a0_0 != a1_0) = true := bne_iff_ne.mpr c3
  obtain rfl := Option.some.inj H
  go_enter Try.func143, Try.ntmps143
  go_wp2_with (first | ((with_reducible refine gate_dst (N := 2) rfl ?_); refine box_event ?hg (N := 2) ?hd (cs := #[.int .i64 a0_0, .int .i64 a0_1]) (t := 137) ?hr ?_; (case hd => rfl); (case hg => rfl); (case hr => first | (go_simp; done) | (go_simp; rfl)); intro gb665 hg w15 hbox hb; have n0_ := aK (bSp (by repeat (first | (with_reducible first | exact HB.out | apply bAl | apply bDN | apply bD1) | exact HB.out)) hb); have n1_ := aK (hbox); have n2_ := aK ((by rw [hg]; exact (bSz (by repeat (first | (with_reducible first | exact HB.out | apply bAl | apply bDN | apply bD1) | exact HB.out))) : w.heap.size ≤ gb665)); have n3_ := n2_; clear HB; have HB := n0_; have BK665 := n1_; have GW665 := n2_; have GE665 := n3_; clear n0_ n1_ n2_ n3_; clear hb hbox hg) | ((with_reducible refine gate_dst (N := 3) rfl ?_); refine box_event ?hg (N := 3) ?hd (cs := #[.int .i64 a1_0, .int .i64 a1_1]) (t := 137) ?hr ?_; (case hd => rfl); (case hg => rfl); (case hr => first | (go_simp; done) | (go_simp; rfl)); intro gb666 hg w16 hbox hb; have n0_ := bkb BK665 hb (by intro z_; (with_reducible repeat (first | refine kDN ?_ _ | refine kD ?_ | refine kA ?_ _)); exact z_); have n1_ := aK (bSp (by repeat (first | (with_reducible first | exact HB.out | apply bAl | apply bDN | apply bD1 | refine bSt ?_ GE665.out) | exact HB.out)) hb); have n2_ := aK (hbox); have n3_ := aK ((by rw [hg]; exact (bSz (by repeat (first | (with_reducible first | exact HB.out | apply bAl | apply bDN | apply bD1 | refine bSt ?_ GE665.out) | exact HB.out))) : w.heap.size ≤ gb666)); have n4_ := n3_; have n5_ := nbl BK665 hg (by intro z_; (with_reducible repeat (first | refine kDN ?_ _ | refine kD ?_ | refine kA ?_ _)); exact z_); have n6_ := nbs n5_; clear BK665; clear HB; have BK665 := n0_; have HB := n1_; have BK666 := n2_; have GW666 := n3_; have GE666 := n4_; have NB665_666 := n5_; have NB666_665 := n6_; clear n0_ n1_ n2_ n3_ n4_ n5_ n6_; clear hb hbox hg; have hnb17 := NB665_666.out; have hnc17 := NB666_665.out; obtain ⟨hcz18_0, hcz18_1, hfz18_0, hfz18_1⟩ := cl2 BK665.out; obtain ⟨hcz19_0, hcz19_1, hfz19_0, hfz19_1⟩ := cl2 BK666.out))
  go_ret
  exact ⟨by first | rfl | (simp [errW_none, errW_some] <;> rfl) | (simp [*, errW_none, errW_some] <;> rfl), by repeat (first | (with_reducible first | exact HB.out | apply bAl | apply bDN | apply bD1 | refine bSt ?_ GE665.out | refine bSt ?_ GE666.out) | exact HB.out)⟩
end Go.Proofs.Ytimejdhglmajdaa.F
end
