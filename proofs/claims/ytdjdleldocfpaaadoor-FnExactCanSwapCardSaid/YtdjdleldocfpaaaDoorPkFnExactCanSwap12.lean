/- Packed by a program of the session (wip/tools/pack.py): what the claim's theorem reaches, of the texts that wip/ and the kit's printer lay. -/
import Derived.Test.YtdjdleldocfpaaaDoorPkFnExactCanSwap11
import Derived.Lib.ItoaLen
import Derived.Deep.Slices
import Derived.ChangeArms
import Derived.OpenShut
section
namespace Go.Proofs.YtdjdleldocfpaaaDoor.F
open Go.RowKit Go.Proofs.YtdjdleldocfpaaaDoorW.PrintWords Go.Proofs.YtdjdleldocfpaaaDoorW.PrintLast Go.Proofs.YtdjdleldocfpaaaDoorW.PrintMore
set_option linter.unusedVariables false
set_option linter.unusedSimpArgs false
theorem FormatInt_tot {n : Int} (h0 : -9223372036854775808 ≤ n) (h1 : n ≤ 9223372036854775807) : ∃ s, impl_FormatInt.f n = some s ∧ s.size ≤ 21 := by
  unfold impl_FormatInt.f strconv_Itoa.f
  split
  · refine ⟨_, rfl, ?_⟩
    split
    · exact (show (1 : Nat) ≤ 21 by decide)
    · exact (show (2 : Nat) ≤ 21 by decide)
  · rw [if_pos ⟨h0, h1⟩, Option.bind_some]
    exact ⟨_, rfl, by have := Go.Lib.itoa_length_le n h0 h1; show (Go.Lib.itoa n).toArray.size ≤ 21; simpa using this⟩
theorem sp_size : ByteArray.size ⟨#[32]⟩ = 1 := rfl
theorem keyOf_tot {V : List Int} (hV : ∀ c ∈ V, -9223372036854775808 ≤ c ∧ c ≤ 9223372036854775807) (hl : V.length ≤ 1048576) : ∀ (m i k : Nat) (s : ByteArray), i + m = V.length → m + 1 ≤ k → s.size ≤ 22 * i → ∃ r, impl_keyOf.l0 k s V (V.length : Int) (i : Int) = some r ∧ r.size ≤ 22 * V.length
  | 0, i, k, s, hi, hk, hs => by
    obtain ⟨k, rfl⟩ : ∃ q, k = q + 1 := ⟨k - 1, by omega⟩
    simp only [impl_keyOf.l0]
    rw [if_neg (by omega)]
    exact ⟨s, rfl, by omega⟩
  | m + 1, i, k, s, hi, hk, hs => by
    obtain ⟨k, rfl⟩ : ∃ q, k = q + 1 := ⟨k - 1, by omega⟩
    have hlt : i < V.length := by omega
    have hc := hV V[i] (List.getElem_mem hlt)
    obtain ⟨t, e, ht⟩ := FormatInt_tot hc.1 hc.2
    simp only [impl_keyOf.l0]
    rw [if_pos (by omega), if_pos (by omega), if_pos (by omega), rdC hlt, e, Option.bind_some, if_pos (by omega), if_pos (by rw [ba_size_app, sp_size]; omega), w64 (by omega) (by omega), show (i : Int) + 1 = ((i + 1 : Nat) : Int) by omega]
    exact keyOf_tot hV hl m (i + 1) k _ (by omega) (by omega) (by rw [ba_size_app, ba_size_app, sp_size]; omega)
theorem impl_keyOf_tot {V : List Int} {k : Nat} (hV : ∀ c ∈ V, -9223372036854775808 ≤ c ∧ c ≤ 9223372036854775807) (hl : V.length ≤ 1048576) (hk : V.length + 1 ≤ k) : ∃ r, impl_keyOf.f k V = some r ∧ r.size ≤ 23068672 := by
  obtain ⟨r, e, hr⟩ := keyOf_tot hV hl V.length 0 k ⟨#[]⟩ (by omega) (by omega) (by decide)
  exact ⟨r, e, by omega⟩
def keyT (s : ByteArray) : List Int → ByteArray
  | [] => s
  | c :: l => keyT (s ++ (digB c.toNat ++ (⟨#[32]⟩ : ByteArray))) l
theorem digs_small {n : Nat} (h : n < 16) : (digB n).data.toList = if n < 10 then [UInt8.ofNat (48 + n)] else [49, UInt8.ofNat (38 + n)] := by
  unfold digB
  rw [List.toList_toArray]
  by_cases c : n < 10
  · rw [if_pos c, Go.Lib.decDigits_one c]
  · rw [if_neg c, Go.Lib.decDigits_two c (by omega), show n / 10 = 1 by omega, show 48 + n % 10 = 38 + n by omega]
    rfl
theorem keyOf_val {V : List Int} (h3 : V.length ≤ 3) (hV : ∀ c ∈ V, c16 c) : ∀ (m i k : Nat) (s : ByteArray), i + m = V.length → m + 1 ≤ k → s.size ≤ 3 * i → impl_keyOf.l0 k s V (V.length : Int) (i : Int) = some (keyT s (V.drop i)) ∧ (keyT s (V.drop i)).size ≤ 9
  | 0, i, k, s, hi, hk, hs => by
    obtain ⟨k, rfl⟩ : ∃ q, k = q + 1 := ⟨k - 1, by omega⟩
    simp only [impl_keyOf.l0]
    rw [if_neg (by omega), List.drop_of_length_le (by omega)]
    exact ⟨rfl, by show s.size ≤ 9; omega⟩
  | m + 1, i, k, s, hi, hk, hs => by
    obtain ⟨k, rfl⟩ : ∃ q, k = q + 1 := ⟨k - 1, by omega⟩
    have hlt : i < V.length := by omega
    have hc := hV V[i] (List.getElem_mem hlt)
    unfold c16 at hc
    have e : impl_FormatInt.f V[i] = some (digB V[i].toNat) := by
      have := impl_FormatInt_eq (n := V[i].toNat) (by omega)
      rwa [show ((V[i].toNat : Nat) : Int) = V[i] by omega] at this
    have hz : (digB V[i].toNat).size ≤ 2 := by
      have := congrArg List.length (digs_small (n := V[i].toNat) (by omega))
      have e2 : (digB V[i].toNat).data.toList.length = (digB V[i].toNat).size := Array.length_toList
      rw [← e2, this]
      split <;> simp
    simp only [impl_keyOf.l0]
    rw [if_pos (by omega), if_pos (by omega), if_pos (by omega), rdC hlt, e, Option.bind_some, if_pos (by omega), if_pos (by rw [ba_size_app, sp_size]; omega), w64 (by omega) (by omega), show (i : Int) + 1 = ((i + 1 : Nat) : Int) by omega, List.drop_eq_getElem_cons hlt]
    exact keyOf_val h3 hV m (i + 1) k _ (by omega) (by omega) (by rw [ba_size_app, ba_size_app, sp_size]; omega)
theorem impl_keyOf_eq {V : List Int} {k : Nat} (h3 : V.length ≤ 3) (hV : ∀ c ∈ V, c16 c) (hk : 4 ≤ k) : impl_keyOf.f k V = some (keyT ⟨#[]⟩ V) ∧ (keyT ⟨#[]⟩ V).size ≤ 9 := by
  have := keyOf_val h3 hV V.length 0 k ⟨#[]⟩ (by omega) (by omega) (by decide)
  rw [List.drop_zero] at this
  exact this
theorem cut32 : ∀ (a b r s : List UInt8), (32 : UInt8) ∉ a → (32 : UInt8) ∉ b → a ++ 32 :: r = b ++ 32 :: s → a = b ∧ r = s
  | [], [], r, s, _, _, e => by simpa using e
  | [], y :: b, r, s, _, hb, e => by
    have := (List.cons.inj e).1
    exact absurd (by rw [this]; simp) hb
  | x :: a, [], r, s, ha, _, e => by
    have := (List.cons.inj e).1
    exact absurd (by rw [← this]; simp) ha
  | x :: a, y :: b, r, s, ha, hb, e => by
    obtain ⟨e1, e2⟩ := List.cons.inj e
    obtain ⟨h1, h2⟩ := cut32 a b r s (fun h => ha (by simp [h])) (fun h => hb (by simp [h])) e2
    exact ⟨by rw [e1, h1], h2⟩
def dgx (n : Nat) : List UInt8 := if n < 10 then [UInt8.ofNat (48 + n)] else [49, UInt8.ofNat (38 + n)]
theorem dgx_32 : ∀ n : Fin 16, (32 : UInt8) ∉ dgx n.val := by decide +kernel
theorem dgx_inj : ∀ n m : Fin 16, dgx n.val = dgx m.val → n = m := by decide +kernel
def keyL : List Int → List UInt8
  | [] => []
  | c :: l => dgx c.toNat ++ 32 :: keyL l
theorem keyT_L : ∀ (V : List Int) (s : ByteArray), (∀ c ∈ V, c16 c) → (keyT s V).data.toList = s.data.toList ++ keyL V
  | [], s, _ => by simp [keyT, keyL]
  | c :: V, s, h => by
    have hc := h c (by simp)
    unfold c16 at hc
    show (keyT (s ++ (digB c.toNat ++ (⟨#[32]⟩ : ByteArray))) V).data.toList = s.data.toList ++ (dgx c.toNat ++ 32 :: keyL V)
    rw [keyT_L V _ fun x hx => h x (by simp [hx])]
    have := digs_small (n := c.toNat) (by omega)
    simp only [ByteArray.data_append, Array.toList_append, this, List.append_assoc]
    rfl
theorem keyL_inj : ∀ (V W : List Int), (∀ c ∈ V, c16 c) → (∀ c ∈ W, c16 c) → keyL V = keyL W → V = W
  | [], [], _, _, _ => rfl
  | [], c :: W, _, _, e => by
    have := congrArg List.length e
    simp [keyL] at this
  | c :: V, [], _, _, e => by
    have := congrArg List.length e
    simp [keyL] at this
  | c :: V, d :: W, hV, hW, e => by
    have hc := hV c (by simp)
    have hd := hW d (by simp)
    unfold c16 at hc hd
    have q1 := dgx_32 ⟨c.toNat, by omega⟩
    have q2 := dgx_32 ⟨d.toNat, by omega⟩
    obtain ⟨e1, e2⟩ := cut32 _ _ _ _ q1 q2 e
    have := dgx_inj ⟨c.toNat, by omega⟩ ⟨d.toNat, by omega⟩ e1
    have : c.toNat = d.toNat := by simpa using this
    obtain rfl : c = d := by omega
    rw [keyL_inj V W (fun x hx => hV x (by simp [hx])) (fun x hx => hW x (by simp [hx])) e2]
def kT (V : List Int) : ByteArray := keyT ⟨#[]⟩ V
theorem kT_inj {V W : List Int} (hV : ∀ c ∈ V, c16 c) (hW : ∀ c ∈ W, c16 c) (e : (kT V).data.toList = (kT W).data.toList) : V = W := by
  unfold kT at e
  rw [keyT_L V _ hV, keyT_L W _ hW] at e
  exact keyL_inj V W hV hW (by simpa using e)
section
variable {w h o : Int} {n : Nat}
def OKI (w h o : Int) (n : Nat) (L : List (List Int)) : Prop := L.Nodup ∧ ∀ X ∈ L, crok w h o X = true ∧ X.length = n
theorem OKI.le {L : List (List Int)} (h3 : n ≤ 3) (H : OKI w h o n L) : L.length ≤ 8192 := few_lists h3 H.1 fun X hX => ⟨(H.2 X hX).2, crok_c16 (H.2 X hX).1⟩
theorem any_kT {L : List (List Int)} {Z : List Int} (cL : ∀ X ∈ L, ∀ c ∈ X, c16 c) (cZ : ∀ c ∈ Z, c16 c) : ((L.map kT).any fun z => z.data.toList == (kT Z).data.toList) = decide (Z ∈ L) := by
  by_cases q : Z ∈ L
  · rw [decide_eq_true q, List.any_eq_true]
    exact ⟨kT Z, List.mem_map.2 ⟨Z, q, rfl⟩, by simp⟩
  · rw [decide_eq_false q]
    cases e : (L.map kT).any fun z => z.data.toList == (kT Z).data.toList with
    | false => rfl
    | true =>
      exfalso
      obtain ⟨z, hz, ez⟩ := List.any_eq_true.1 e
      obtain ⟨X, hX, rfl⟩ := List.mem_map.1 hz
      have e1 : (kT X).data.toList = (kT Z).data.toList := by simpa using ez
      exact q (kT_inj (cL X hX) cZ e1 ▸ hX)
def adI (w h o : Int) (V : List Int) (L : List (List Int)) (i : Nat) : List (List Int) := if (mvR w h o V ((i / 4 : Nat) : Int) ((i % 4 : Nat) : Int)).2 = true then addN L (mvR w h o V ((i / 4 : Nat) : Int) ((i % 4 : Nat) : Int)).1 else L
theorem adI_fold (V : List Int) : ∀ (l : List Nat) (L : List (List Int)), (l.filterMap fun i => if (mvR w h o V ((i / 4 : Nat) : Int) ((i % 4 : Nat) : Int)).2 = true then some (mvR w h o V ((i / 4 : Nat) : Int) ((i % 4 : Nat) : Int)).1 else none).foldl addN L = l.foldl (adI w h o V) L
  | [], L => rfl
  | i :: l, L => by
    rw [List.foldl_cons, ← adI_fold V l, List.filterMap_cons]
    unfold adI
    by_cases c : (mvR w h o V ((i / 4 : Nat) : Int) ((i % 4 : Nat) : Int)).2 = true
    · rw [if_pos c, if_pos c]; rfl
    · rw [if_neg c, if_neg c]
theorem nxI_fold (V : List Int) (L : List (List Int)) : (nxC w h o V).foldl addN L = (List.range' 0 (4 * V.length)).foldl (adI w h o V) L := by
  unfold nxC
  rw [adI_fold, List.range_eq_range']
theorem lists_l1 (h3 : n ≤ 3) {V : List Int} (K : crok w h o V = true) (hV : V.length = n) (kk : Nat) : ∀ (r i : Nat) (L : List (List Int)), OKI w h o n L → kk ≤ L.length →
    impl_lists.l1 w h o V r i (L.drop kk) (L.map kT) = some (((List.range' i r).foldl (adI w h o V) L).drop kk, ((List.range' i r).foldl (adI w h o V) L).map kT) ∧ OKI w h o n ((List.range' i r).foldl (adI w h o V) L)
  | 0, i, L, H, hk => ⟨rfl, H⟩
  | r + 1, i, L, H, hk => by
    have hL := H.le h3
    simp only [impl_lists.l1]
    rw [impl_MoveOne_eq (by omega) (by omega), Option.bind_some, List.range'_succ, List.foldl_cons]
    have ix : adI w h o V L i = if (mvR w h o V ((i / 4 : Nat) : Int) ((i % 4 : Nat) : Int)).2 = true then addN L (mvR w h o V ((i / 4 : Nat) : Int) ((i % 4 : Nat) : Int)).1 else L := rfl
    have hY := (mvR_ok (a := ((i / 4 : Nat) : Int)) (b := ((i % 4 : Nat) : Int)) K).1
    have hYl : (mvR w h o V ((i / 4 : Nat) : Int) ((i % 4 : Nat) : Int)).1.length = n := by rw [mvR_len, hV]
    generalize mvR w h o V ((i / 4 : Nat) : Int) ((i % 4 : Nat) : Int) = m at ix hY hYl
    by_cases c : m.2 = true
    · rw [if_pos c] at ix ⊢
      obtain ⟨ek, es⟩ := impl_keyOf_eq (V := m.1) (k := 1000) (by omega) (crok_c16 hY) (by omega)
      rw [ek, Option.bind_some, if_pos (by omega)]
      have ea := any_kT (L := L) (Z := m.1) (fun X hX => crok_c16 (H.2 X hX).1) (crok_c16 hY)
      show (if ((L.map kT).any fun z => z.data.toList == (kT m.1).data.toList) = true then _ else _) = _ ∧ _
      rw [ea]
      by_cases q : m.1 ∈ L
      · rw [if_pos (decide_eq_true q), ix]
        have : addN L m.1 = L := by unfold addN; rw [if_pos q]
        rw [this]
        exact lists_l1 h3 K hV kk r (i + 1) L H hk
      · rw [if_neg (by simpa using q), ix]
        have eb : addN L m.1 = L ++ [m.1] := by unfold addN; rw [if_neg q]
        have H2 : OKI w h o n (L ++ [m.1]) := by
          rw [← eb]
          exact ⟨addN_nodup H.1, fun Y hY2 => (mem_addN.1 hY2).elim (H.2 Y) fun e => e ▸ ⟨hY, hYl⟩⟩
        have ih := lists_l1 h3 K hV kk r (i + 1) (L ++ [m.1]) H2 (show kk ≤ (L ++ [m.1]).length by rw [List.length_append]; omega)
        rw [List.drop_append_of_le_length hk, List.map_append] at ih
        have hlen : (L.map kT).length < 100000 ∧ (L.drop kk).length < 100000 := by rw [List.length_map, List.length_drop]; omega
        rw [if_pos hlen, eb]
        exact ih
    · rw [if_neg c] at ix ⊢
      rw [ix]
      exact lists_l1 h3 K hV kk r (i + 1) L H hk
theorem lists_l0 (h3 : n ≤ 3) {a : List Int} (Ka : crok w h o a = true) (ha : a.length = n) : ∀ (f kk : Nat) (L : List (List Int)), SInv (nxC w h o) a L kk → OKI w h o n L → 8193 ≤ f + kk →
    impl_lists.l0 w h o (4 * n) f (L.drop kk) (L.map kT) = some ((srch (nxC w h o) f L kk).map kT)
  | 0, kk, L, I, H, hf => by
    have := H.le h3
    have := I.le
    omega
  | f + 1, kk, L, I, H, hf => by
    unfold srch
    cases e : L[kk]? with
    | none =>
      have := List.getElem?_eq_none_iff.1 e
      rw [List.drop_of_length_le this]
      rfl
    | some V =>
      have hkk : kk < L.length := (List.getElem?_eq_some_iff.1 e).1
      have eV : L[kk] = V := (List.getElem?_eq_some_iff.1 e).2
      obtain ⟨K, hV⟩ := H.2 V (List.mem_of_getElem? e)
      obtain ⟨e1, H1⟩ := lists_l1 h3 K hV kk (4 * n) 0 L H (by omega)
      have I2 := I.next e
      show _ = some ((srch (nxC w h o) f ((nxC w h o V).foldl addN L) (kk + 1)).map kT)
      rw [nxI_fold, hV] at I2 ⊢
      rw [List.drop_eq_getElem_cons hkk, eV] at e1 ⊢
      simp only [impl_lists.l0]
      rw [e1, Option.bind_some, List.tail_drop]
      exact lists_l0 h3 Ka ha f (kk + 1) _ I2 H1 (by omega)
theorem impl_lists_eq (V : List Int) : impl_lists.f w h o V = some (if crok w h o V = true ∧ V.length ≤ 3 ∧ cells w h ≤ 9 then (crs w h o V).map kT else []) := by
  unfold impl_lists.f
  rw [impl_CrowdOk_eq, Option.bind_some]
  by_cases K : crok w h o V = true
  · rw [if_pos K]
    by_cases h3 : V.length ≤ 3
    · rw [if_pos h3, impl_CountCells_eq, Option.bind_some]
      by_cases h9 : cells w h ≤ 9
      · obtain ⟨ek, es⟩ := impl_keyOf_eq (V := V) (k := 1000) h3 (crok_c16 K) (by omega)
        rw [if_neg (by omega), ek, Option.bind_some, if_pos (by omega), if_pos ⟨K, h3, h9⟩]
        exact lists_l0 h3 K rfl 8200 0 [V] (SInv.init _ _) ⟨by simp, fun X hX => by rw [List.mem_singleton.1 hX]; exact ⟨K, rfl⟩⟩ (by omega)
      · rw [if_pos (by omega), if_neg (fun z => h9 z.2.2)]
    · rw [if_neg h3, if_neg (fun z => h3 z.2.1)]
  · rw [if_neg K, if_neg (fun z => K z.1)]
theorem rd_I64 {V : List Int} (hV : ∀ c ∈ V, -9223372036854775808 ≤ c ∧ c ≤ 9223372036854775807) {a : Int} (ha : 0 ≤ a ∧ a < (V.length : Int)) : -9223372036854775808 ≤ rd V a ∧ rd V a ≤ 9223372036854775807 := by
  obtain ⟨m, rfl⟩ := Int.eq_ofNat_of_zero_le ha.1
  rw [rdC (by omega)]
  exact hV _ (List.getElem_mem _)
theorem rd_c16 {V : List Int} (hV : ∀ c ∈ V, c16 c) {a : Int} (ha : 0 ≤ a ∧ a < (V.length : Int)) : c16 (rd V a) := by
  obtain ⟨m, rfl⟩ := Int.eq_ofNat_of_zero_le ha.1
  rw [rdC (by omega)]
  exact hV _ (List.getElem_mem _)
theorem impl_CanSwap_eq {V : List Int} {k : Nat} (hl : V.length ≤ 1048576) (hV : ∀ c ∈ V, -9223372036854775808 ≤ c ∧ c ≤ 9223372036854775807) (hk : V.length + 10 ≤ k) (a b : Int) : impl_CanSwap.f k w h o V a b = some (csw w h o V a b) := by
  obtain ⟨k, rfl⟩ : ∃ q, k = q + 1 := ⟨k - 1, by omega⟩
  unfold impl_CanSwap.f csw
  simp only [impl_CanSwap.j0]
  by_cases hab : a = b
  · rw [if_pos hab, if_pos trivial, decide_eq_false (fun z => z.2.2.1 hab), Bool.and_false, Bool.false_and]
  rw [if_neg hab]
  by_cases a0 : a < 0
  · rw [if_pos a0, if_pos trivial, decide_eq_false (by omega), Bool.and_false, Bool.false_and]
  rw [if_neg a0]
  by_cases a1 : a ≥ (V.length : Int)
  · rw [if_pos a1, if_pos trivial, decide_eq_false (by omega), Bool.and_false, Bool.false_and]
  rw [if_neg a1]
  by_cases b0 : b < 0
  · rw [if_pos b0, if_pos trivial, decide_eq_false (by omega), Bool.and_false, Bool.false_and]
  rw [if_neg b0]
  by_cases b1 : b ≥ (V.length : Int)
  · rw [decide_eq_true b1, if_pos rfl, decide_eq_false (by omega), Bool.and_false, Bool.false_and]
  rw [decide_eq_false b1, if_neg Bool.false_ne_true, slices_Clone_int_eq (by omega), Option.bind_some, if_pos (by omega), if_pos (by omega), if_pos (by omega), if_pos (by omega), if_pos (by omega), if_pos (by omega), impl_lists_eq, Option.bind_some]
  have ha : 0 ≤ a ∧ a < (V.length : Int) := by omega
  have hb : 0 ≤ b ∧ b < (V.length : Int) := by omega
  show (impl_keyOf.f k (swp V a b)).bind _ = _
  by_cases c : crok w h o V = true ∧ V.length ≤ 3 ∧ cells w h ≤ 9
  · have cV := crok_c16 c.1
    have cS : ∀ x ∈ swp V a b, c16 x := fun x hx => by
      unfold swp at hx
      rcases List.mem_or_eq_of_mem_set hx with q | q
      · rcases List.mem_or_eq_of_mem_set q with q | q
        · exact cV x q
        · rw [q]; exact rd_c16 cV hb
      · rw [q]; exact rd_c16 cV ha
    obtain ⟨ek, es⟩ := impl_keyOf_eq (V := swp V a b) (k := k) (by unfold swp; simp; omega) cS (by omega)
    rw [ek, Option.bind_some, if_pos (by omega), if_pos c, c.1, decide_eq_true (show (0 ≤ a ∧ a < (V.length : Int)) ∧ (0 ≤ b ∧ b < (V.length : Int)) ∧ a ≠ b ∧ V.length ≤ 3 ∧ cells w h ≤ 9 from ⟨ha, hb, hab, c.2.1, c.2.2⟩), Bool.true_and, Bool.true_and]
    obtain ⟨n1, m1⟩ := crs_spec c.1 c.2.1
    exact congrArg some (any_kT (L := crs w h o V) (Z := swp V a b) (fun X hX => crok_c16 (rch_ok c.1 ((m1 X).1 hX)).1) cS)
  · have iS : ∀ x ∈ swp V a b, -9223372036854775808 ≤ x ∧ x ≤ 9223372036854775807 := fun x hx => by
      unfold swp at hx
      rcases List.mem_or_eq_of_mem_set hx with q | q
      · rcases List.mem_or_eq_of_mem_set q with q | q
        · exact hV x q
        · rw [q]; exact rd_I64 hV hb
      · rw [q]; exact rd_I64 hV ha
    have sl : (swp V a b).length = V.length := by unfold swp; simp
    obtain ⟨r, er, hr⟩ := impl_keyOf_tot (V := swp V a b) (k := k) iS (by omega) (by omega)
    rw [er, Option.bind_some, if_pos (by omega), if_neg c]
    have : (crok w h o V && decide ((0 ≤ a ∧ a < (V.length : Int)) ∧ (0 ≤ b ∧ b < (V.length : Int)) ∧ a ≠ b ∧ V.length ≤ 3 ∧ cells w h ≤ 9)) = false := by
      cases K : crok w h o V with
      | false => rfl
      | true => rw [decide_eq_false (fun z => c ⟨K, z.2.2.2.1, z.2.2.2.2⟩), Bool.and_false]
    rw [this]; rfl
end
end Go.Proofs.YtdjdleldocfpaaaDoor.F
end

section
namespace Go.Proofs.YtdjdleldocfpaaaDoor.F
open Go.RowKit Go.Proofs.YtdjdleldocfpaaaDoorW.PrintWords Go.Proofs.YtdjdleldocfpaaaDoorW.PrintLast Go.Proofs.YtdjdleldocfpaaaDoorW.PrintMore
set_option linter.unusedVariables false
set_option linter.unusedSimpArgs false
theorem FnExactCanSwap_pure : ∀ (a0_0 : Int) (a0_1 : Int) (a0_2 : Int) (l1 : List (Int)) (a2 : Int) (a3 : Int), (I64 (a0_0)) → (I64 (a0_1)) → (I64 (a0_2)) → ((l1).length ≤ 9223372036854775807 ∧ ∀ y ∈ l1, I64 (y)) → (I64 (a2)) → (I64 (a3)) → ∃ k, laws_FnExactCanSwap.f k a0_0 a0_1 a0_2 l1 a2 a3 = some true := by
  intro w h o V a b _ _ _ hV _ _
  refine ⟨2 * V.length + 200000, ?_⟩
  unfold laws_FnExactCanSwap.f
  by_cases hl : (V.length : Int) > 1048576
  · rw [if_pos hl]
  · have iV : ∀ c ∈ V, -9223372036854775808 ≤ c ∧ c ≤ 9223372036854775807 := fun c hc => by
      have := hV.2 c hc
      unfold I64 at this
      omega
    have tI := laws_toIntS_eq (k := 2 * V.length + 200000) (l := V) (by omega) (by omega)
    have tM : laws_toMaze.f w h o = some (w, h, o) := rfl
    rw [if_neg hl, tM, Option.bind_some, tI, Option.bind_some, spec_CanSwap_eq (by omega) (by omega), Option.bind_some, Option.bind_some, Option.bind_some, impl_CanSwap_eq (by omega) iV (by omega), Option.bind_some, Option.bind_some, laws_eqIntS_refl (by omega) (by omega), Option.bind_some]
    rw [if_neg (by simp), if_pos rfl]
end Go.Proofs.YtdjdleldocfpaaaDoor.F
end

section
namespace Go.Proofs.YtdjdleldocfpaaaDoor.F
open Go.RowKit Go.ChangeShapes Go.WideShapes Go.Deep Go.Proofs.YtdjdleldocfpaaaDoorW.PrintWords Go.Proofs.YtdjdleldocfpaaaDoorW.PrintLast Go.Proofs.YtdjdleldocfpaaaDoorW.PrintMore
set_option linter.unusedVariables false
set_option linter.unusedSimpArgs false
def Opens {α : Type} (P : Program) (t : TypeId) (d : Kd α) (wf : α → Prop) : Prop :=
  ∀ (H : Type) (enc : TypeId × Value → H) (w : World) (held : Bool) (fuel : Nat) (cs : List Value) (x : DataW H × List MemPlace),
    DataW.trod enc P w 0 (fun _ => true) held fuel t cs = some x → ∃ v : α, d.K w v cs ∧ wf v
def OpensF {α : Type} (P : Program) (fs : List Field) (off : Nat) (d : Kd α) (wf : α → Prop) : Prop :=
  ∀ (H : Type) (enc : TypeId × Value → H) (w : World) (held : Bool) (n : Nat) (cs : List Value),
    (∀ f ∈ fs, ∃ y, DataW.trod enc P w 0 (fun _ => true) held n f.type ((cs.drop f.offset).take (P.cellsOf f.type)) = some y) → ∃ v : α, d.K w v ((cs.drop off).take d.sz) ∧ wf v
theorem i64_of_wf {n : Int} (h : (Lit.int .i64 n).wf = true) : I64 n := by
  simp only [Lit.wf, IntKind.min, IntKind.max, IntKind.signed, IntKind.bits, Bool.and_eq_true, decide_eq_true_eq, if_true] at h
  unfold I64
  omega
theorem opens_i64 {P : Program} {t : TypeId} (ht : P.underlying t = some (.int .i64)) : Opens P t (Kd.int .i64) I64 := by
  intro H enc w held fuel cs x h
  obtain ⟨n, rfl, _, hw⟩ := DataW.trod_int ht h
  exact ⟨n, rfl, i64_of_wf hw⟩
theorem opens_slice {α : Type} {P : Program} {t e : TypeId} (E : Nat) {d : Kd α} {wf : α → Prop} (z : α) (ht : P.underlying t = some (.slice e)) (hc : P.cellsOf e = d.sz) (ho : Opens P e d wf) :
    Opens P t (Kd.slice E d) (fun xs => xs.length ≤ 9223372036854775807 ∧ ∀ x ∈ xs, wf x) := by
  intro H enc w held fuel cs x h
  rcases open_slice ht h with ⟨rfl, rfl⟩ | ⟨a, len, cap, m, n, D, Pl, rfl, _, hl, hm, hmm, rfl, hx⟩
  · exact ⟨[], ⟨none, 0, rfl, Nat.le_refl _, rfl, by simp, fun h => absurd h (by simp)⟩, by simp, by simp⟩
  · have hmc : m = cap := by simpa using hmm
    have hm63 : cap ≤ 9223372036854775807 := by simpa [maxLen] using hm
    haveI : Inhabited α := ⟨z⟩
    obtain ⟨V, hV⟩ := choose_lt (n := len) (p := fun i (v : α) => wf v ∧ ∃ c, c.length = d.sz ∧ d.K w v c ∧ ∀ j u, c[j]? = some u → w.cell? (a.add (i * d.sz + j)) = some u) (fun i hi => by
      obtain ⟨cs', h1, h2⟩ := hx i (by omega)
      rw [hc] at h1
      obtain ⟨_, hlen, hcell⟩ := World.cells?_some h1
      obtain ⟨v, hK, hw⟩ := ho _ _ _ _ _ _ _ h2
      refine ⟨v, hw, cs', hlen, hK, fun j u hu => ?_⟩
      have hj : j < cs'.length := (List.getElem?_eq_some_iff.1 hu).1
      have e0 := hcell j (by omega)
      rw [Deep.add_add] at e0
      rw [e0, hu])
    have hlen : ((List.range len).map V).length = len := by simp
    refine ⟨(List.range len).map V, ⟨some a, cap, by rw [hlen], by omega, by simp, by simp; omega, fun _ => ⟨a, rfl, fun j p hj => ?_⟩⟩, by omega, fun x hx => ?_⟩
    · rw [List.getElem?_map] at hj
      obtain ⟨i, hi, rfl⟩ := Option.map_eq_some_iff.1 hj
      obtain ⟨hlt, rfl⟩ := List.getElem?_eq_some_iff.1 hi
      simp at hlt ⊢
      obtain ⟨c, h1, h2, h3⟩ := (hV j hlt).2
      exact ⟨c, h1, h2, h3⟩
    · obtain ⟨i, hi, rfl⟩ := List.mem_map.1 hx
      exact (hV i (List.mem_range.1 hi)).1
theorem opensF_last {α : Type} {P : Program} {f : Field} {off : Nat} {d : Kd α} {wf : α → Prop} (h0 : f.offset = off) (hc : P.cellsOf f.type = d.sz) (ho : Opens P f.type d wf) : OpensF P [f] off d wf := by
  intro H enc w held n cs h
  obtain ⟨y, hy⟩ := h f (by simp)
  rw [h0, hc] at hy
  exact ho _ _ _ _ _ _ _ hy
theorem opensF_cons {α β : Type} {P : Program} {f : Field} {fs : List Field} {off : Nat} {d : Kd α} {d1 : Kd β} {wf : α → Prop} {wf1 : β → Prop} (h0 : f.offset = off) (hc : P.cellsOf f.type = d.sz) (ho : Opens P f.type d wf)
    (h1 : OpensF P fs (off + d.sz) d1 wf1) : OpensF P (f :: fs) off (Kd.pair d d1) (fun v => wf v.1 ∧ wf1 v.2) := by
  intro H enc w held n cs h
  obtain ⟨y, hy⟩ := h f (by simp)
  rw [h0, hc] at hy
  obtain ⟨v, hK, hw⟩ := ho _ _ _ _ _ _ _ hy
  obtain ⟨v1, hK1, hw1⟩ := h1 H enc w held n cs (fun g hg => h g (List.mem_cons_of_mem _ hg))
  refine ⟨(v, v1), ⟨_, _, ?_, hK, hK1⟩, hw, hw1⟩
  show (cs.drop off).take (d.sz + d1.sz) = _
  rw [List.take_add, List.drop_drop]
theorem opens_struct {α : Type} {P : Program} {t : TypeId} {fs : Array Field} {d : Kd α} {wf : α → Prop} (ht : P.underlying t = some (.struct fs)) (hc : P.cellsOf t = d.sz) (ho : OpensF P fs.toList 0 d wf) : Opens P t d wf := by
  intro H enc w held fuel cs x h
  obtain ⟨xs, n, _, _, hlen, hxl, hf⟩ := DataW.trod_struct ht h
  obtain ⟨v, hK, hw⟩ := ho H enc w held n cs (fun f hfm => by
    obtain ⟨i, hi, rfl⟩ := List.getElem_of_mem hfm
    have hi' : i < fs.size := by simpa using hi
    have := hf i fs[i] (by simp [hi'])
    rw [List.getElem?_eq_getElem (by omega)] at this
    exact ⟨_, by simpa using this⟩)
  refine ⟨v, ?_, hw⟩
  rwa [List.drop_zero, List.take_of_length_le (by omega)] at hK
theorem opens_iso {α β : Type} {P : Program} {t : TypeId} {d : Kd α} {wf : α → Prop} (f : β → α) (g : α → β) (hg : ∀ a, f (g a) = a) (ho : Opens P t d wf) : Opens P t (Kd.iso d f) (fun b => wf (f b)) := by
  intro H enc w held fuel cs x h
  obtain ⟨v, hK, hw⟩ := ho _ _ _ _ _ _ _ h
  exact ⟨g v, by show d.K w (f (g v)) cs; rw [hg]; exact hK, by show wf (f (g v)); rw [hg]; exact hw⟩
end Go.Proofs.YtdjdleldocfpaaaDoor.F
end
