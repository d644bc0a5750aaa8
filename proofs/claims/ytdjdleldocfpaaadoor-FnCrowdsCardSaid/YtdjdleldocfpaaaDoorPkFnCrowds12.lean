/- Packed by a program of the session (wip/tools/pack.py): what the claim's theorem reaches, of the texts that wip/ and the kit's printer lay. -/
import Derived.Test.YtdjdleldocfpaaaDoorPkFnCrowds11
import Derived.Lib.ItoaLen
import Derived.Lib.ItoaNum
import Derived.Lib.AtoiAll
import Derived.Lib.Split
section
namespace Go.Proofs.YtdjdleldocfpaaaDoor.F
open Go.RowKit Go.Proofs.YtdjdleldocfpaaaDoorW.PrintWords Go.Proofs.YtdjdleldocfpaaaDoorW.PrintLast Go.Proofs.YtdjdleldocfpaaaDoorW.PrintMore
set_option linter.unusedVariables false
set_option linter.unusedSimpArgs false
theorem FormatInt_tot {n : Int} (h0 : -9223372036854775808 ≤ n) (h1 : n ≤ 9223372036854775807) : ∃ s, impl_FormatInt.f n = some s ∧ s.size ≤ 21 := by
  unfold impl_FormatInt.f strconv_Itoa.f
  split
  · refine ⟨_, rfl, ?_⟩
    split
    · exact (show (1 : Nat) ≤ 21 by decide)
    · exact (show (2 : Nat) ≤ 21 by decide)
  · rw [if_pos ⟨h0, h1⟩, Option.bind_some]
    exact ⟨_, rfl, by have := Go.Lib.itoa_length_le n h0 h1; show (Go.Lib.itoa n).toArray.size ≤ 21; simpa using this⟩
theorem sp_size : ByteArray.size ⟨#[32]⟩ = 1 := rfl
theorem keyOf_tot {V : List Int} (hV : ∀ c ∈ V, -9223372036854775808 ≤ c ∧ c ≤ 9223372036854775807) (hl : V.length ≤ 1048576) : ∀ (m i k : Nat) (s : ByteArray), i + m = V.length → m + 1 ≤ k → s.size ≤ 22 * i → ∃ r, impl_keyOf.l0 k s V (V.length : Int) (i : Int) = some r ∧ r.size ≤ 22 * V.length
  | 0, i, k, s, hi, hk, hs => by
    obtain ⟨k, rfl⟩ : ∃ q, k = q + 1 := ⟨k - 1, by omega⟩
    simp only [impl_keyOf.l0]
    rw [if_neg (by omega)]
    exact ⟨s, rfl, by omega⟩
  | m + 1, i, k, s, hi, hk, hs => by
    obtain ⟨k, rfl⟩ : ∃ q, k = q + 1 := ⟨k - 1, by omega⟩
    have hlt : i < V.length := by omega
    have hc := hV V[i] (List.getElem_mem hlt)
    obtain ⟨t, e, ht⟩ := FormatInt_tot hc.1 hc.2
    simp only [impl_keyOf.l0]
    rw [if_pos (by omega), if_pos (by omega), if_pos (by omega), rdC hlt, e, Option.bind_some, if_pos (by omega), if_pos (by rw [ba_size_app, sp_size]; omega), w64 (by omega) (by omega), show (i : Int) + 1 = ((i + 1 : Nat) : Int) by omega]
    exact keyOf_tot hV hl m (i + 1) k _ (by omega) (by omega) (by rw [ba_size_app, ba_size_app, sp_size]; omega)
theorem impl_keyOf_tot {V : List Int} {k : Nat} (hV : ∀ c ∈ V, -9223372036854775808 ≤ c ∧ c ≤ 9223372036854775807) (hl : V.length ≤ 1048576) (hk : V.length + 1 ≤ k) : ∃ r, impl_keyOf.f k V = some r ∧ r.size ≤ 23068672 := by
  obtain ⟨r, e, hr⟩ := keyOf_tot hV hl V.length 0 k ⟨#[]⟩ (by omega) (by omega) (by decide)
  exact ⟨r, e, by omega⟩
def keyT (s : ByteArray) : List Int → ByteArray
  | [] => s
  | c :: l => keyT (s ++ (digB c.toNat ++ (⟨#[32]⟩ : ByteArray))) l
theorem digs_small {n : Nat} (h : n < 16) : (digB n).data.toList = if n < 10 then [UInt8.ofNat (48 + n)] else [49, UInt8.ofNat (38 + n)] := by
  unfold digB
  rw [List.toList_toArray]
  by_cases c : n < 10
  · rw [if_pos c, Go.Lib.decDigits_one c]
  · rw [if_neg c, Go.Lib.decDigits_two c (by omega), show n / 10 = 1 by omega, show 48 + n % 10 = 38 + n by omega]
    rfl
theorem keyOf_val {V : List Int} (h3 : V.length ≤ 3) (hV : ∀ c ∈ V, c16 c) : ∀ (m i k : Nat) (s : ByteArray), i + m = V.length → m + 1 ≤ k → s.size ≤ 3 * i → impl_keyOf.l0 k s V (V.length : Int) (i : Int) = some (keyT s (V.drop i)) ∧ (keyT s (V.drop i)).size ≤ 9
  | 0, i, k, s, hi, hk, hs => by
    obtain ⟨k, rfl⟩ : ∃ q, k = q + 1 := ⟨k - 1, by omega⟩
    simp only [impl_keyOf.l0]
    rw [if_neg (by omega), List.drop_of_length_le (by omega)]
    exact ⟨rfl, by show s.size ≤ 9; omega⟩
  | m + 1, i, k, s, hi, hk, hs => by
    obtain ⟨k, rfl⟩ : ∃ q, k = q + 1 := ⟨k - 1, by omega⟩
    have hlt : i < V.length := by omega
    have hc := hV V[i] (List.getElem_mem hlt)
    unfold c16 at hc
    have e : impl_FormatInt.f V[i] = some (digB V[i].toNat) := by
      have := impl_FormatInt_eq (n := V[i].toNat) (by omega)
      rwa [show ((V[i].toNat : Nat) : Int) = V[i] by omega] at this
    have hz : (digB V[i].toNat).size ≤ 2 := by
      have := congrArg List.length (digs_small (n := V[i].toNat) (by omega))
      have e2 : (digB V[i].toNat).data.toList.length = (digB V[i].toNat).size := Array.length_toList
      rw [← e2, this]
      split <;> simp
    simp only [impl_keyOf.l0]
    rw [if_pos (by omega), if_pos (by omega), if_pos (by omega), rdC hlt, e, Option.bind_some, if_pos (by omega), if_pos (by rw [ba_size_app, sp_size]; omega), w64 (by omega) (by omega), show (i : Int) + 1 = ((i + 1 : Nat) : Int) by omega, List.drop_eq_getElem_cons hlt]
    exact keyOf_val h3 hV m (i + 1) k _ (by omega) (by omega) (by rw [ba_size_app, ba_size_app, sp_size]; omega)
theorem impl_keyOf_eq {V : List Int} {k : Nat} (h3 : V.length ≤ 3) (hV : ∀ c ∈ V, c16 c) (hk : 4 ≤ k) : impl_keyOf.f k V = some (keyT ⟨#[]⟩ V) ∧ (keyT ⟨#[]⟩ V).size ≤ 9 := by
  have := keyOf_val h3 hV V.length 0 k ⟨#[]⟩ (by omega) (by omega) (by decide)
  rw [List.drop_zero] at this
  exact this
theorem cut32 : ∀ (a b r s : List UInt8), (32 : UInt8) ∉ a → (32 : UInt8) ∉ b → a ++ 32 :: r = b ++ 32 :: s → a = b ∧ r = s
  | [], [], r, s, _, _, e => by simpa using e
  | [], y :: b, r, s, _, hb, e => by
    have := (List.cons.inj e).1
    exact absurd (by rw [this]; simp) hb
  | x :: a, [], r, s, ha, _, e => by
    have := (List.cons.inj e).1
    exact absurd (by rw [← this]; simp) ha
  | x :: a, y :: b, r, s, ha, hb, e => by
    obtain ⟨e1, e2⟩ := List.cons.inj e
    obtain ⟨h1, h2⟩ := cut32 a b r s (fun h => ha (by simp [h])) (fun h => hb (by simp [h])) e2
    exact ⟨by rw [e1, h1], h2⟩
def dgx (n : Nat) : List UInt8 := if n < 10 then [UInt8.ofNat (48 + n)] else [49, UInt8.ofNat (38 + n)]
theorem dgx_32 : ∀ n : Fin 16, (32 : UInt8) ∉ dgx n.val := by decide +kernel
theorem dgx_inj : ∀ n m : Fin 16, dgx n.val = dgx m.val → n = m := by decide +kernel
def keyL : List Int → List UInt8
  | [] => []
  | c :: l => dgx c.toNat ++ 32 :: keyL l
theorem keyT_L : ∀ (V : List Int) (s : ByteArray), (∀ c ∈ V, c16 c) → (keyT s V).data.toList = s.data.toList ++ keyL V
  | [], s, _ => by simp [keyT, keyL]
  | c :: V, s, h => by
    have hc := h c (by simp)
    unfold c16 at hc
    show (keyT (s ++ (digB c.toNat ++ (⟨#[32]⟩ : ByteArray))) V).data.toList = s.data.toList ++ (dgx c.toNat ++ 32 :: keyL V)
    rw [keyT_L V _ fun x hx => h x (by simp [hx])]
    have := digs_small (n := c.toNat) (by omega)
    simp only [ByteArray.data_append, Array.toList_append, this, List.append_assoc]
    rfl
theorem keyL_inj : ∀ (V W : List Int), (∀ c ∈ V, c16 c) → (∀ c ∈ W, c16 c) → keyL V = keyL W → V = W
  | [], [], _, _, _ => rfl
  | [], c :: W, _, _, e => by
    have := congrArg List.length e
    simp [keyL] at this
  | c :: V, [], _, _, e => by
    have := congrArg List.length e
    simp [keyL] at this
  | c :: V, d :: W, hV, hW, e => by
    have hc := hV c (by simp)
    have hd := hW d (by simp)
    unfold c16 at hc hd
    have q1 := dgx_32 ⟨c.toNat, by omega⟩
    have q2 := dgx_32 ⟨d.toNat, by omega⟩
    obtain ⟨e1, e2⟩ := cut32 _ _ _ _ q1 q2 e
    have := dgx_inj ⟨c.toNat, by omega⟩ ⟨d.toNat, by omega⟩ e1
    have : c.toNat = d.toNat := by simpa using this
    obtain rfl : c = d := by omega
    rw [keyL_inj V W (fun x hx => hV x (by simp [hx])) (fun x hx => hW x (by simp [hx])) e2]
def kT (V : List Int) : ByteArray := keyT ⟨#[]⟩ V
theorem kT_inj {V W : List Int} (hV : ∀ c ∈ V, c16 c) (hW : ∀ c ∈ W, c16 c) (e : (kT V).data.toList = (kT W).data.toList) : V = W := by
  unfold kT at e
  rw [keyT_L V _ hV, keyT_L W _ hW] at e
  exact keyL_inj V W hV hW (by simpa using e)
section
variable {w h o : Int} {n : Nat}
def OKI (w h o : Int) (n : Nat) (L : List (List Int)) : Prop := L.Nodup ∧ ∀ X ∈ L, crok w h o X = true ∧ X.length = n
theorem OKI.le {L : List (List Int)} (h3 : n ≤ 3) (H : OKI w h o n L) : L.length ≤ 8192 := few_lists h3 H.1 fun X hX => ⟨(H.2 X hX).2, crok_c16 (H.2 X hX).1⟩
theorem any_kT {L : List (List Int)} {Z : List Int} (cL : ∀ X ∈ L, ∀ c ∈ X, c16 c) (cZ : ∀ c ∈ Z, c16 c) : ((L.map kT).any fun z => z.data.toList == (kT Z).data.toList) = decide (Z ∈ L) := by
  by_cases q : Z ∈ L
  · rw [decide_eq_true q, List.any_eq_true]
    exact ⟨kT Z, List.mem_map.2 ⟨Z, q, rfl⟩, by simp⟩
  · rw [decide_eq_false q]
    cases e : (L.map kT).any fun z => z.data.toList == (kT Z).data.toList with
    | false => rfl
    | true =>
      exfalso
      obtain ⟨z, hz, ez⟩ := List.any_eq_true.1 e
      obtain ⟨X, hX, rfl⟩ := List.mem_map.1 hz
      have e1 : (kT X).data.toList = (kT Z).data.toList := by simpa using ez
      exact q (kT_inj (cL X hX) cZ e1 ▸ hX)
def adI (w h o : Int) (V : List Int) (L : List (List Int)) (i : Nat) : List (List Int) := if (mvR w h o V ((i / 4 : Nat) : Int) ((i % 4 : Nat) : Int)).2 = true then addN L (mvR w h o V ((i / 4 : Nat) : Int) ((i % 4 : Nat) : Int)).1 else L
theorem adI_fold (V : List Int) : ∀ (l : List Nat) (L : List (List Int)), (l.filterMap fun i => if (mvR w h o V ((i / 4 : Nat) : Int) ((i % 4 : Nat) : Int)).2 = true then some (mvR w h o V ((i / 4 : Nat) : Int) ((i % 4 : Nat) : Int)).1 else none).foldl addN L = l.foldl (adI w h o V) L
  | [], L => rfl
  | i :: l, L => by
    rw [List.foldl_cons, ← adI_fold V l, List.filterMap_cons]
    unfold adI
    by_cases c : (mvR w h o V ((i / 4 : Nat) : Int) ((i % 4 : Nat) : Int)).2 = true
    · rw [if_pos c, if_pos c]; rfl
    · rw [if_neg c, if_neg c]
theorem nxI_fold (V : List Int) (L : List (List Int)) : (nxC w h o V).foldl addN L = (List.range' 0 (4 * V.length)).foldl (adI w h o V) L := by
  unfold nxC
  rw [adI_fold, List.range_eq_range']
theorem lists_l1 (h3 : n ≤ 3) {V : List Int} (K : crok w h o V = true) (hV : V.length = n) (kk : Nat) : ∀ (r i : Nat) (L : List (List Int)), OKI w h o n L → kk ≤ L.length →
    impl_lists.l1 w h o V r i (L.drop kk) (L.map kT) = some (((List.range' i r).foldl (adI w h o V) L).drop kk, ((List.range' i r).foldl (adI w h o V) L).map kT) ∧ OKI w h o n ((List.range' i r).foldl (adI w h o V) L)
  | 0, i, L, H, hk => ⟨rfl, H⟩
  | r + 1, i, L, H, hk => by
    have hL := H.le h3
    simp only [impl_lists.l1]
    rw [impl_MoveOne_eq (by omega) (by omega), Option.bind_some, List.range'_succ, List.foldl_cons]
    have ix : adI w h o V L i = if (mvR w h o V ((i / 4 : Nat) : Int) ((i % 4 : Nat) : Int)).2 = true then addN L (mvR w h o V ((i / 4 : Nat) : Int) ((i % 4 : Nat) : Int)).1 else L := rfl
    have hY := (mvR_ok (a := ((i / 4 : Nat) : Int)) (b := ((i % 4 : Nat) : Int)) K).1
    have hYl : (mvR w h o V ((i / 4 : Nat) : Int) ((i % 4 : Nat) : Int)).1.length = n := by rw [mvR_len, hV]
    generalize mvR w h o V ((i / 4 : Nat) : Int) ((i % 4 : Nat) : Int) = m at ix hY hYl
    by_cases c : m.2 = true
    · rw [if_pos c] at ix ⊢
      obtain ⟨ek, es⟩ := impl_keyOf_eq (V := m.1) (k := 1000) (by omega) (crok_c16 hY) (by omega)
      rw [ek, Option.bind_some, if_pos (by omega)]
      have ea := any_kT (L := L) (Z := m.1) (fun X hX => crok_c16 (H.2 X hX).1) (crok_c16 hY)
      show (if ((L.map kT).any fun z => z.data.toList == (kT m.1).data.toList) = true then _ else _) = _ ∧ _
      rw [ea]
      by_cases q : m.1 ∈ L
      · rw [if_pos (decide_eq_true q), ix]
        have : addN L m.1 = L := by unfold addN; rw [if_pos q]
        rw [this]
        exact lists_l1 h3 K hV kk r (i + 1) L H hk
      · rw [if_neg (by simpa using q), ix]
        have eb : addN L m.1 = L ++ [m.1] := by unfold addN; rw [if_neg q]
        have H2 : OKI w h o n (L ++ [m.1]) := by
          rw [← eb]
          exact ⟨addN_nodup H.1, fun Y hY2 => (mem_addN.1 hY2).elim (H.2 Y) fun e => e ▸ ⟨hY, hYl⟩⟩
        have ih := lists_l1 h3 K hV kk r (i + 1) (L ++ [m.1]) H2 (show kk ≤ (L ++ [m.1]).length by rw [List.length_append]; omega)
        rw [List.drop_append_of_le_length hk, List.map_append] at ih
        have hlen : (L.map kT).length < 100000 ∧ (L.drop kk).length < 100000 := by rw [List.length_map, List.length_drop]; omega
        rw [if_pos hlen, eb]
        exact ih
    · rw [if_neg c] at ix ⊢
      rw [ix]
      exact lists_l1 h3 K hV kk r (i + 1) L H hk
theorem lists_l0 (h3 : n ≤ 3) {a : List Int} (Ka : crok w h o a = true) (ha : a.length = n) : ∀ (f kk : Nat) (L : List (List Int)), SInv (nxC w h o) a L kk → OKI w h o n L → 8193 ≤ f + kk →
    impl_lists.l0 w h o (4 * n) f (L.drop kk) (L.map kT) = some ((srch (nxC w h o) f L kk).map kT)
  | 0, kk, L, I, H, hf => by
    have := H.le h3
    have := I.le
    omega
  | f + 1, kk, L, I, H, hf => by
    unfold srch
    cases e : L[kk]? with
    | none =>
      have := List.getElem?_eq_none_iff.1 e
      rw [List.drop_of_length_le this]
      rfl
    | some V =>
      have hkk : kk < L.length := (List.getElem?_eq_some_iff.1 e).1
      have eV : L[kk] = V := (List.getElem?_eq_some_iff.1 e).2
      obtain ⟨K, hV⟩ := H.2 V (List.mem_of_getElem? e)
      obtain ⟨e1, H1⟩ := lists_l1 h3 K hV kk (4 * n) 0 L H (by omega)
      have I2 := I.next e
      show _ = some ((srch (nxC w h o) f ((nxC w h o V).foldl addN L) (kk + 1)).map kT)
      rw [nxI_fold, hV] at I2 ⊢
      rw [List.drop_eq_getElem_cons hkk, eV] at e1 ⊢
      simp only [impl_lists.l0]
      rw [e1, Option.bind_some, List.tail_drop]
      exact lists_l0 h3 Ka ha f (kk + 1) _ I2 H1 (by omega)
theorem impl_lists_eq (V : List Int) : impl_lists.f w h o V = some (if crok w h o V = true ∧ V.length ≤ 3 ∧ cells w h ≤ 9 then (crs w h o V).map kT else []) := by
  unfold impl_lists.f
  rw [impl_CrowdOk_eq, Option.bind_some]
  by_cases K : crok w h o V = true
  · rw [if_pos K]
    by_cases h3 : V.length ≤ 3
    · rw [if_pos h3, impl_CountCells_eq, Option.bind_some]
      by_cases h9 : cells w h ≤ 9
      · obtain ⟨ek, es⟩ := impl_keyOf_eq (V := V) (k := 1000) h3 (crok_c16 K) (by omega)
        rw [if_neg (by omega), ek, Option.bind_some, if_pos (by omega), if_pos ⟨K, h3, h9⟩]
        exact lists_l0 h3 K rfl 8200 0 [V] (SInv.init _ _) ⟨by simp, fun X hX => by rw [List.mem_singleton.1 hX]; exact ⟨K, rfl⟩⟩ (by omega)
      · rw [if_pos (by omega), if_neg (fun z => h9 z.2.2)]
    · rw [if_neg h3, if_neg (fun z => h3 z.2.1)]
  · rw [if_neg K, if_neg (fun z => K z.1)]
theorem impl_CountReached_eq (V : List Int) : impl_CountReached.f w h o V = some (crc w h o V) := by
  unfold impl_CountReached.f crc
  rw [impl_lists_eq, Option.bind_some]
  by_cases c : crok w h o V = true ∧ V.length ≤ 3 ∧ cells w h ≤ 9
  · have := crs_le c.1 c.2.1
    rw [if_pos c, if_pos c, List.length_map, if_pos (by omega)]
  · rw [if_neg c, if_neg c]; rfl
theorem rd_I64 {V : List Int} (hV : ∀ c ∈ V, -9223372036854775808 ≤ c ∧ c ≤ 9223372036854775807) {a : Int} (ha : 0 ≤ a ∧ a < (V.length : Int)) : -9223372036854775808 ≤ rd V a ∧ rd V a ≤ 9223372036854775807 := by
  obtain ⟨m, rfl⟩ := Int.eq_ofNat_of_zero_le ha.1
  rw [rdC (by omega)]
  exact hV _ (List.getElem_mem _)
theorem rd_c16 {V : List Int} (hV : ∀ c ∈ V, c16 c) {a : Int} (ha : 0 ≤ a ∧ a < (V.length : Int)) : c16 (rd V a) := by
  obtain ⟨m, rfl⟩ := Int.eq_ofNat_of_zero_le ha.1
  rw [rdC (by omega)]
  exact hV _ (List.getElem_mem _)
theorem impl_CanSwap_eq {V : List Int} {k : Nat} (hl : V.length ≤ 1048576) (hV : ∀ c ∈ V, -9223372036854775808 ≤ c ∧ c ≤ 9223372036854775807) (hk : V.length + 10 ≤ k) (a b : Int) : impl_CanSwap.f k w h o V a b = some (csw w h o V a b) := by
  obtain ⟨k, rfl⟩ : ∃ q, k = q + 1 := ⟨k - 1, by omega⟩
  unfold impl_CanSwap.f csw
  simp only [impl_CanSwap.j0]
  by_cases hab : a = b
  · rw [if_pos hab, if_pos trivial, decide_eq_false (fun z => z.2.2.1 hab), Bool.and_false, Bool.false_and]
  rw [if_neg hab]
  by_cases a0 : a < 0
  · rw [if_pos a0, if_pos trivial, decide_eq_false (by omega), Bool.and_false, Bool.false_and]
  rw [if_neg a0]
  by_cases a1 : a ≥ (V.length : Int)
  · rw [if_pos a1, if_pos trivial, decide_eq_false (by omega), Bool.and_false, Bool.false_and]
  rw [if_neg a1]
  by_cases b0 : b < 0
  · rw [if_pos b0, if_pos trivial, decide_eq_false (by omega), Bool.and_false, Bool.false_and]
  rw [if_neg b0]
  by_cases b1 : b ≥ (V.length : Int)
  · rw [decide_eq_true b1, if_pos rfl, decide_eq_false (by omega), Bool.and_false, Bool.false_and]
  rw [decide_eq_false b1, if_neg Bool.false_ne_true, slices_Clone_int_eq (by omega), Option.bind_some, if_pos (by omega), if_pos (by omega), if_pos (by omega), if_pos (by omega), if_pos (by omega), if_pos (by omega), impl_lists_eq, Option.bind_some]
  have ha : 0 ≤ a ∧ a < (V.length : Int) := by omega
  have hb : 0 ≤ b ∧ b < (V.length : Int) := by omega
  show (impl_keyOf.f k (swp V a b)).bind _ = _
  by_cases c : crok w h o V = true ∧ V.length ≤ 3 ∧ cells w h ≤ 9
  · have cV := crok_c16 c.1
    have cS : ∀ x ∈ swp V a b, c16 x := fun x hx => by
      unfold swp at hx
      rcases List.mem_or_eq_of_mem_set hx with q | q
      · rcases List.mem_or_eq_of_mem_set q with q | q
        · exact cV x q
        · rw [q]; exact rd_c16 cV hb
      · rw [q]; exact rd_c16 cV ha
    obtain ⟨ek, es⟩ := impl_keyOf_eq (V := swp V a b) (k := k) (by unfold swp; simp; omega) cS (by omega)
    rw [ek, Option.bind_some, if_pos (by omega), if_pos c, c.1, decide_eq_true (show (0 ≤ a ∧ a < (V.length : Int)) ∧ (0 ≤ b ∧ b < (V.length : Int)) ∧ a ≠ b ∧ V.length ≤ 3 ∧ cells w h ≤ 9 from ⟨ha, hb, hab, c.2.1, c.2.2⟩), Bool.true_and, Bool.true_and]
    obtain ⟨n1, m1⟩ := crs_spec c.1 c.2.1
    exact congrArg some (any_kT (L := crs w h o V) (Z := swp V a b) (fun X hX => crok_c16 (rch_ok c.1 ((m1 X).1 hX)).1) cS)
  · have iS : ∀ x ∈ swp V a b, -9223372036854775808 ≤ x ∧ x ≤ 9223372036854775807 := fun x hx => by
      unfold swp at hx
      rcases List.mem_or_eq_of_mem_set hx with q | q
      · rcases List.mem_or_eq_of_mem_set q with q | q
        · exact hV x q
        · rw [q]; exact rd_I64 hV hb
      · rw [q]; exact rd_I64 hV ha
    have sl : (swp V a b).length = V.length := by unfold swp; simp
    obtain ⟨r, er, hr⟩ := impl_keyOf_tot (V := swp V a b) (k := k) iS (by omega) (by omega)
    rw [er, Option.bind_some, if_pos (by omega), if_neg c]
    have : (crok w h o V && decide ((0 ≤ a ∧ a < (V.length : Int)) ∧ (0 ≤ b ∧ b < (V.length : Int)) ∧ a ≠ b ∧ V.length ≤ 3 ∧ cells w h ≤ 9)) = false := by
      cases K : crok w h o V with
      | false => rfl
      | true => rw [decide_eq_false (fun z => c ⟨K, z.2.2.2.1, z.2.2.2.2⟩), Bool.and_false]
    rw [this]; rfl
end
end Go.Proofs.YtdjdleldocfpaaaDoor.F
end

section
namespace Go.Proofs.YtdjdleldocfpaaaDoor.F
open Go.RowKit Go.Proofs.YtdjdleldocfpaaaDoorW.PrintWords Go.Proofs.YtdjdleldocfpaaaDoorW.PrintLast Go.Proofs.YtdjdleldocfpaaaDoorW.PrintMore
set_option linter.unusedVariables false
set_option linter.unusedSimpArgs false
def pcn (n m : Nat) : Nat := (List.range m).countP fun i => n.testBit i
end Go.Proofs.YtdjdleldocfpaaaDoor.F
end

section
namespace Go.Proofs.YtdjdleldocfpaaaDoor.F
open Go.RowKit Go.Proofs.YtdjdleldocfpaaaDoorW.PrintWords Go.Proofs.YtdjdleldocfpaaaDoorW.PrintLast Go.Proofs.YtdjdleldocfpaaaDoorW.PrintMore
set_option linter.unusedVariables false
set_option linter.unusedSimpArgs false
def cp (w h o : Int) : Int := if mok w h o then ((pcn o.toNat 24 : Nat) : Int) else 0
theorem pcn_more {n g d : Nat} (h : n < 2 ^ g) : pcn n (g + d) = pcn n g := by
  unfold pcn
  rw [List.range_add, List.countP_append, List.countP_map]
  have : (List.range d).countP ((fun i => n.testBit i) ∘ (g + ·)) = 0 := by
    rw [List.countP_eq_zero]
    intro i _
    show ¬ n.testBit (g + i) = true
    rw [Nat.testBit_lt_two_pow (Nat.lt_of_lt_of_le h (Nat.pow_le_pow_right (by decide) (by omega)))]
    simp
  omega
theorem pcn_succ (n m : Nat) : pcn n (m + 1) = pcn n m + if n.testBit m then 1 else 0 := by
  unfold pcn
  rw [List.range_succ, List.countP_append, List.countP_singleton]
theorem pcn_le (n m : Nat) : pcn n m ≤ m := by
  unfold pcn
  refine Nat.le_trans List.countP_le_length ?_
  simp
theorem spec_CountPassages_eq {k : Nat} (hk : 60 ≤ k) (w h o : Int) : spec_CountPassages.f k w h o = some (cp w h o) := by
  have b := gaps_bd w h
  refine at_rounds (g := fun k => spec_CountPassages.f k w h o) (fun k => spec_CountPassages.mono w h o k) (k := 2 * (gaps w h).toNat + 2) (by omega) ?_
  show spec_CountPassages.f _ w h o = _
  unfold spec_CountPassages.f cp
  by_cases M : mok w h o = true
  · rw [if_pos M]
    have m := mok_iff.1 M
    have s := mok_small M
    have key : ∀ (d i : Nat), i + d = (gaps w h).toNat → spec_CountPassages.l0 (2 * d + 2) ((pcn o.toNat i : Nat) : Int) (i : Int) w h o = some ((pcn o.toNat (gaps w h).toNat : Nat) : Int) := by
      intro d
      induction d with
      | zero =>
        intro i hi
        simp only [spec_CountPassages.l0, spec_CountPassages.j1, spec_CountGaps_eq, Option.bind_some]
        rw [if_neg (by omega), ← hi]
        simp
      | succ d ih =>
        intro i hi
        rw [show 2 * (d + 1) + 2 = (2 * d + 2) + 1 + 1 by omega]
        obtain ⟨q, hq⟩ : ∃ q, q = 2 * d + 2 := ⟨_, rfl⟩
        rw [← hq] at ih ⊢
        have pl := pcn_le o.toNat i
        simp only [spec_CountPassages.l0, spec_CountPassages.j1, spec_CountGaps_eq, spec_MazeOk_eq, Option.bind_some, M]
        rw [if_pos (by omega)]
        simp only [if_true]
        rw [spec_l03Bit_eq s.1 (by omega) (by omega), Option.bind_some, w64 (x := (i : Int) + 1) (by omega) (by omega), w64 (x := ((pcn o.toNat i : Nat) : Int) + 1) (by omega) (by omega)]
        have := ih (i + 1) (by omega)
        rw [pcn_succ, Int.natCast_add] at this
        by_cases hb : opn o i = true
        · rw [if_pos hb]
          unfold opn at hb
          rw [Int.toNat_natCast] at hb
          rw [if_pos hb] at this
          exact this
        · rw [if_neg hb]
          unfold opn at hb
          rw [Int.toNat_natCast] at hb
          rw [if_neg hb] at this
          exact this
    have := key (gaps w h).toNat 0 (by omega)
    have e : ((2 : Int) ^ (gaps w h).toNat) = ((2 ^ (gaps w h).toNat : Nat) : Int) := by simp
    rw [e] at m
    have more := pcn_more (n := o.toNat) (g := (gaps w h).toNat) (d := 24 - (gaps w h).toNat) (by omega)
    rw [show (gaps w h).toNat + (24 - (gaps w h).toNat) = 24 by omega] at more
    rw [more]
    exact this
  · rw [if_neg M]
    rw [show 2 * (gaps w h).toNat + 2 = 2 * (gaps w h).toNat + 1 + 1 by omega]
    obtain ⟨q, hq⟩ : ∃ q, q = 2 * (gaps w h).toNat := ⟨_, rfl⟩
    rw [← hq]
    simp only [spec_CountPassages.l0, spec_CountPassages.j1, spec_CountGaps_eq, spec_MazeOk_eq, Option.bind_some]
    by_cases g0 : 0 < gaps w h
    · rw [if_pos g0, if_neg M]
    · rw [if_neg g0]
      simp
end Go.Proofs.YtdjdleldocfpaaaDoor.F
end

section
namespace Go.Proofs.YtdjdleldocfpaaaDoor.F
open Go.RowKit Go.Proofs.YtdjdleldocfpaaaDoorW.PrintWords Go.Proofs.YtdjdleldocfpaaaDoorW.PrintLast Go.Proofs.YtdjdleldocfpaaaDoorW.PrintMore
set_option linter.unusedVariables false
set_option linter.unusedSimpArgs false
def nxL (w h o p c : Int) : Option Int := (([0, 1, 2, 3] : List Int).map fun d => st w h o c d).find? fun x => decide (0 ≤ x) && decide (x ≠ p)
def wlkL (w h o : Int) : Nat → Int → Int → List Int
  | 0, _, _ => []
  | f + 1, p, c => c :: match nxL w h o p c with
    | none => []
    | some x => wlkL w h o f c x
def ixL : List Int → Int → Nat
  | [], _ => 0
  | x :: l, c => if x = c then 0 else ixL l c + 1
theorem ixL_inj : ∀ {l : List Int} {a b : Int}, a ∈ l → b ∈ l → ixL l a = ixL l b → a = b
  | [], a, b, h, _, _ => by cases h
  | x :: l, a, b, ha, hb, e => by
    unfold ixL at e
    by_cases p : x = a
    · by_cases q : x = b
      · rw [← p, q]
      · rw [if_pos p, if_neg q] at e; omega
    · by_cases q : x = b
      · rw [if_neg p, if_pos q] at e; omega
      · rw [if_neg p, if_neg q] at e
        exact ixL_inj ((List.mem_cons.1 ha).resolve_left fun z => p z.symm) ((List.mem_cons.1 hb).resolve_left fun z => q z.symm) (by omega)
def nearL (L : List Int) (a b : Int) : Bool := (ixL L a == ixL L b + 1) || (ixL L b == ixL L a + 1)
def okL (w h o : Int) (L : List Int) : Bool := (ints (stN w h)).all fun c => L.contains c && ([0, 1, 2, 3] : List Int).all fun d => decide (st w h o c d < 0) || nearL L c (st w h o c d)
def deg2 (w h o : Int) : Bool := (ints (stN w h)).all fun c => decide ((ways w h o c).length < 3)
def chkL (w h o : Int) : Bool := !(decide (cp w h o = cells w h - 1) && deg2 w h o) || ((ints (stN w h)).any fun e => okL w h o (wlkL w h o 9 (-1) e)) || !conn w h o
set_option maxRecDepth 100000 in
theorem line_all : ∀ w ∈ ([1, 2, 3] : List Int), ∀ h ∈ ([1, 2, 3] : List Int), ((List.range 64).all fun i => (List.range 64).all fun j => !decide (64 * i + j < 2 ^ (gaps w h).toNat) || chkL w h ((64 * i + j : Nat) : Int)) = true := by
  decide +kernel
section
variable {w h o : Int}
theorem line_ok (hw : 1 ≤ w ∧ w ≤ 3) (hh : 1 ≤ h ∧ h ≤ 3) (C : conn w h o = true) (hc : cp w h o = cells w h - 1) (hd : deg2 w h o = true) : ∃ L, okL w h o L = true := by
  have M := conn_mok C
  have hm : 0 ≤ o ∧ o < 2 ^ (gaps w h).toNat := by
    unfold mok at M
    simp only [Bool.and_eq_true, decide_eq_true_eq] at M
    exact M.2
  have hg : (gaps w h).toNat ≤ 12 := by
    have w3 : w = 1 ∨ w = 2 ∨ w = 3 := by omega
    have h3 : h = 1 ∨ h = 2 ∨ h = 3 := by omega
    rcases w3 with rfl | rfl | rfl <;> rcases h3 with rfl | rfl | rfl <;> decide
  have hp : 2 ^ (gaps w h).toNat ≤ 2 ^ 12 := Nat.pow_le_pow_right (by decide) hg
  have hlt : o.toNat < 2 ^ (gaps w h).toNat := by
    have e : ((2 : Int) ^ (gaps w h).toNat) = ((2 ^ (gaps w h).toNat : Nat) : Int) := by simp
    rw [e] at hm
    omega
  have := line_all w (by simp; omega) h (by simp; omega)
  rw [List.all_eq_true] at this
  have := this (o.toNat / 64) (List.mem_range.2 (by omega))
  rw [List.all_eq_true] at this
  have := this (o.toNat % 64) (List.mem_range.2 (by omega))
  rw [show 64 * (o.toNat / 64) + o.toNat % 64 = o.toNat by omega, decide_eq_true hlt, Bool.not_true, Bool.false_or, show ((o.toNat : Nat) : Int) = o by omega] at this
  unfold chkL at this
  rw [decide_eq_true hc, hd, C, Bool.and_self, Bool.not_true, Bool.false_or, Bool.or_false] at this
  obtain ⟨e, _, he⟩ := List.any_eq_true.1 this
  exact ⟨_, he⟩
theorem okL_cell {L : List Int} (H : okL w h o L = true) {c : Int} (hc : icell w h c = true) : c ∈ L ∧ ∀ d, 0 ≤ st w h o c d → nearL L c (st w h o c d) = true := by
  unfold okL at H
  rw [List.all_eq_true] at H
  have hi := icell_iff.1 hc
  have := H c (mem_ints.2 ⟨hi.1, by rw [stN_int]; exact hi.2⟩)
  rw [Bool.and_eq_true, List.all_eq_true] at this
  refine ⟨List.contains_iff_mem.1 this.1, fun d hd => ?_⟩
  obtain ⟨_, _, _, d0, d3⟩ := st_facts hd
  have := this.2 d (by simp; omega)
  rw [decide_eq_false (by omega), Bool.false_or] at this
  exact this
theorem near_side {L : List Int} {a b v : Int} (hb : b ∈ L) (hv : v ∈ L) (hne : b ≠ v) (hn : nearL L a b = true) : (ixL L a < ixL L v → ixL L b < ixL L v) ∧ (ixL L v < ixL L a → ixL L v < ixL L b) := by
  have : ixL L b ≠ ixL L v := fun e => hne (ixL_inj hb hv e)
  unfold nearL at hn
  simp only [Bool.or_eq_true, beq_iff_eq] at hn
  omega
theorem line_keep {L : List Int} (H : okL w h o L = true) {V : List Int} (K : crok w h o V = true) (h2 : 2 ≤ V.length) {X : List Int} (hX : X ∈ nxC w h o V) (hs : ixL L (rd V 0) < ixL L (rd V 1)) : ixL L (rd X 0) < ixL L (rd X 1) := by
  obtain ⟨a, b, e⟩ := (mem_nxC K).1 hX
  obtain ⟨ha, hb, hn, rfl⟩ := (mvR_iff K).1 e
  have r0 : rd V 0 ∈ V := by have := rdC (V := V) (a := 0) (by omega); rw [show ((0 : Nat) : Int) = 0 from rfl] at this; rw [this]; exact List.getElem_mem _
  have r1 : rd V 1 ∈ V := by have := rdC (V := V) (a := 1) (by omega); rw [show ((1 : Nat) : Int) = 1 from rfl] at this; rw [this]; exact List.getElem_mem _
  have cl := fun c hc => okL_cell H ((crok_iff.1 K).2.2.1 c hc)
  have cy := okL_cell H (st_facts hb).2.2.1
  rw [rd_set (by omega) (by decide) (by omega), rd_set (by omega) (by decide) (by omega)]
  by_cases c0 : a = 0
  · subst c0
    rw [if_pos rfl, if_neg (by decide)]
    exact (near_side cy.1 (cl _ r1).1 (fun e => hn (e ▸ r1)) ((cl _ r0).2 b hb)).1 hs
  · rw [if_neg (fun e => c0 e.symm)]
    by_cases c1 : a = 1
    · subst c1
      rw [if_pos rfl]
      exact (near_side cy.1 (cl _ r0).1 (fun e => hn (e ▸ r0)) ((cl _ r1).2 b hb)).2 hs
    · rw [if_neg (fun e => c1 e.symm)]
      exact hs
theorem line_rch {L : List Int} (H : okL w h o L = true) {V : List Int} (K : crok w h o V = true) (h2 : 2 ≤ V.length) {X : List Int} (hX : Rch (nxC w h o) V X) (hs : ixL L (rd V 0) < ixL L (rd V 1)) : ixL L (rd X 0) < ixL L (rd X 1) := by
  induction hX with
  | refl => exact hs
  | step hx hy ih =>
    obtain ⟨K2, e2⟩ := rch_ok K hx
    exact line_keep H K2 (by omega) hy ih
theorem swp_rd {V : List Int} (h2 : 2 ≤ V.length) : rd (swp V 0 1) 0 = rd V 1 ∧ rd (swp V 0 1) 1 = rd V 0 := by
  obtain ⟨x, y, r, rfl⟩ : ∃ x y r, V = x :: y :: r := by
    match V, h2 with
    | x :: y :: r, _ => exact ⟨x, y, r, rfl⟩
  exact ⟨rfl, rfl⟩
theorem line_csw {L : List Int} (H : okL w h o L = true) (V : List Int) : csw w h o V 0 1 = false := by
  cases q : csw w h o V 0 1 with
  | false => rfl
  | true =>
    exfalso
    unfold csw at q
    simp only [Bool.and_eq_true, decide_eq_true_eq] at q
    obtain ⟨⟨K, _, hb, _, h3, _⟩, hm⟩ := q
    have h2 : 2 ≤ V.length := by omega
    have R := ((crs_spec K h3).2 _).1 hm
    obtain ⟨e0, e1⟩ := swp_rd h2
    have i0 := rdC (V := V) (a := 0) (by omega)
    have i1 := rdC (V := V) (a := 1) (by omega)
    rw [show ((0 : Nat) : Int) = 0 from rfl] at i0
    rw [show ((1 : Nat) : Int) = 1 from rfl] at i1
    have r0 : rd V 0 ∈ V := by rw [i0]; exact List.getElem_mem _
    have r1 : rd V 1 ∈ V := by rw [i1]; exact List.getElem_mem _
    have cl := fun c hc => (okL_cell H ((crok_iff.1 K).2.2.1 c hc)).1
    have hne : rd V 0 ≠ rd V 1 := fun e => by
      rw [i0, i1] at e
      have := (List.getElem_inj (crok_iff.1 K).2.2.2).1 e
      omega
    rcases Nat.lt_trichotomy (ixL L (rd V 0)) (ixL L (rd V 1)) with s | s | s
    · have := line_rch H K h2 R s
      rw [e0, e1] at this
      omega
    · exact hne (ixL_inj (cl _ r0) (cl _ r1) s)
    · obtain ⟨K2, l2⟩ := rch_ok K R
      have := line_rch H K2 (by omega) (rch_sym K R) (by rw [e0, e1]; exact s)
      omega
theorem swp_comm {V : List Int} (h2 : 2 ≤ V.length) : swp V 0 1 = swp V 1 0 := by
  obtain ⟨x, y, r, rfl⟩ : ∃ x y r, V = x :: y :: r := by
    match V, h2 with
    | x :: y :: r, _ => exact ⟨x, y, r, rfl⟩
  rfl
theorem csw_comm (V : List Int) : csw w h o V 0 1 = csw w h o V 1 0 := by
  unfold csw
  by_cases h2 : 2 ≤ V.length
  · rw [swp_comm h2]
    congr 2
    exact decide_eq_decide.2 ⟨fun ⟨a, b, c, d⟩ => ⟨b, a, by decide, d⟩, fun ⟨a, b, c, d⟩ => ⟨b, a, by decide, d⟩⟩
  · rw [decide_eq_false (by omega : ¬ ((0 ≤ (0 : Int) ∧ (0 : Int) < (V.length : Int)) ∧ (0 ≤ (1 : Int) ∧ (1 : Int) < (V.length : Int)) ∧ (0 : Int) ≠ 1 ∧ V.length ≤ 3 ∧ cells w h ≤ 9)), decide_eq_false (by omega : ¬ ((0 ≤ (1 : Int) ∧ (1 : Int) < (V.length : Int)) ∧ (0 ≤ (0 : Int) ∧ (0 : Int) < (V.length : Int)) ∧ (1 : Int) ≠ 0 ∧ V.length ≤ 3 ∧ cells w h ≤ 9)), Bool.and_false, Bool.false_and, Bool.false_and]
end
end Go.Proofs.YtdjdleldocfpaaaDoor.F
end

section
namespace Go.Proofs.YtdjdleldocfpaaaDoor.F
open Go.RowKit Go.Proofs.YtdjdleldocfpaaaDoorW.PrintWords Go.Proofs.YtdjdleldocfpaaaDoorW.PrintLast Go.Proofs.YtdjdleldocfpaaaDoorW.PrintMore
set_option linter.unusedVariables false
set_option linter.unusedSimpArgs false
theorem and_mask (x : Int) (m : Nat) (hm : m < 2 ^ 63) : 0 ≤ Go.bits .and .i64 x (m : Int) ∧ Go.bits .and .i64 x (m : Int) ≤ m := by
  have hm' : m % 2 ^ 64 = m := Nat.mod_eq_of_lt (by omega)
  have e : Go.bits .and .i64 x (m : Int) = IntKind.i64.wrap (((BitVec.ofInt 64 x &&& BitVec.ofInt 64 (m : Int)).toNat : Nat) : Int) := rfl
  have h : (BitVec.ofInt 64 x &&& BitVec.ofInt 64 (m : Int)).toNat ≤ m := by
    rw [BitVec.ofInt_natCast, BitVec.toNat_and, BitVec.toNat_ofNat, hm']
    exact Nat.and_le_right
  rw [e, wrapi_nat (by omega)]
  omega
theorem byte_draw {l : List Int} {i h : Int} (hi : 0 ≤ i) (hl : l.length ≤ 1048576) : ∃ b i' h', spec_l01Byte.f l i h = some (b, i', h') ∧ 0 ≤ b ∧ b ≤ 255 ∧ 0 ≤ i' := by
  unfold spec_l01Byte.f
  by_cases c : i < (l.length : Int)
  · rw [if_pos c, if_pos hi]
    exact ⟨_, _, _, rfl, (and_mask _ 255 (by decide)).1, (and_mask _ 255 (by decide)).2, by rw [w64 (by omega) (by omega)]; omega⟩
  · rw [if_neg c]
    exact ⟨_, _, _, rfl, (and_mask _ 255 (by decide)).1, (and_mask _ 255 (by decide)).2, hi⟩
theorem below_draw {l : List Int} {i h n : Int} (hi : 0 ≤ i) (hl : l.length ≤ 1048576) (hn : 1 ≤ n) (hn2 : n ≤ 256) : ∃ b i' h', spec_l01Below.f l i h n = some (b, i', h') ∧ 0 ≤ b ∧ b < n ∧ 0 ≤ i' := by
  obtain ⟨b, i', h', e, h0, h1, h2⟩ := byte_draw (h := h) hi hl
  unfold spec_l01Below.f
  rw [if_neg (by omega), if_pos hn2, e, Option.bind_some, if_neg (by omega)]
  exact ⟨_, _, _, rfl, Int.tmod_nonneg _ h0, Int.tmod_lt_of_pos _ (by omega), h2⟩
theorem new_draw {k : Nat} {l : List Int} (hl : l.length ≤ 1048576) (hk : l.length + 1 ≤ k) : ∃ h, spec_l01New.f k l = some (l, 0, h) := by
  unfold spec_l01New.f
  obtain ⟨s, _, e⟩ := inv_loop (n := min l.length 4000) (c := 0) (F := fun k (s : Int) i => spec_l01New.l0 k l s i) (fin := fun s => (l, (0 : Int), s)) (I := fun _ _ => True)
    (fun k s i _ hi _ => ⟨_, trivial, by
      simp only [spec_l01New.l0]
      rw [if_pos (by omega), if_pos (by omega), if_pos (by omega), w64_succ hi (by omega)]⟩)
    (fun k s _ _ => by
      simp only [spec_l01New.l0]
      by_cases c : ((min l.length 4000 : Nat) : Int) < (l.length : Int)
      · rw [if_pos c, if_neg (by omega)]
      · rw [if_neg c]) (min l.length 4000) 0 k _ (by omega) (by omega) trivial
  exact ⟨s, e⟩
end Go.Proofs.YtdjdleldocfpaaaDoor.F
end

section
namespace Go.Proofs.YtdjdleldocfpaaaDoor.F
open Go.RowKit Go.Proofs.YtdjdleldocfpaaaDoorW.PrintWords Go.Proofs.YtdjdleldocfpaaaDoorW.PrintLast Go.Proofs.YtdjdleldocfpaaaDoorW.PrintMore
set_option linter.unusedVariables false
set_option linter.unusedSimpArgs false
def ends (w h g : Int) : Int × Int := (spec_EndsOf.f w h g).getD (0, 0)
def four : List Int := [1, 2, 3, 4]
def gaps24 : List Int := [0, 1, 2, 3, 4, 5, 6, 7, 8, 9, 10, 11, 12, 13, 14, 15, 16, 17, 18, 19, 20, 21, 22, 23]
theorem ends_all : ∀ w ∈ four, ∀ h ∈ four, ∀ g ∈ gaps24, igap w h g = true → spec_EndsOf.f w h g = some (ends w h g) ∧ icell w h (ends w h g).1 = true ∧ icell w h (ends w h g).2 = true ∧ (nb w h (ends w h g).1 1 = (ends w h g).2 ∧ gp w h (ends w h g).1 1 = g ∨ nb w h (ends w h g).1 2 = (ends w h g).2 ∧ gp w h (ends w h g).1 2 = g) := by
  decide +kernel
theorem down_all : ∀ w ∈ four, ∀ h ∈ four, ∀ c ∈ cells16, icell w h c = true → c ≠ 0 → ∃ g ∈ gaps24, igap w h g = true ∧ (ends w h g).2 = c ∧ (ends w h g).1 < c := by
  decide +kernel
theorem mem_four {w h : Int} (G : gok w h = true) : w ∈ four ∧ h ∈ four := by
  have := gok_iff.1 G
  constructor <;> simp [four] <;> omega
theorem mem_gaps24 {w h g : Int} (H : igap w h g = true) : g ∈ gaps24 := by
  have := gaps_small H
  simp [gaps24]; omega
theorem ends_spec {w h g : Int} (G : gok w h = true) (H : igap w h g = true) : spec_EndsOf.f w h g = some (ends w h g) ∧ icell w h (ends w h g).1 = true ∧ icell w h (ends w h g).2 = true ∧ (nb w h (ends w h g).1 1 = (ends w h g).2 ∧ gp w h (ends w h g).1 1 = g ∨ nb w h (ends w h g).1 2 = (ends w h g).2 ∧ gp w h (ends w h g).1 2 = g) :=
  ends_all w (mem_four G).1 h (mem_four G).2 g (mem_gaps24 H) H
theorem ends_down {w h c : Int} (G : gok w h = true) (H : icell w h c = true) (h0 : c ≠ 0) : ∃ g, igap w h g = true ∧ (ends w h g).2 = c ∧ (ends w h g).1 < c := by
  have cb := icell_iff.1 H
  have b := cells_bd w h
  obtain ⟨g, _, r⟩ := down_all w (mem_four G).1 h (mem_four G).2 c (by simp [cells16]; omega) H h0
  exact ⟨g, r⟩
theorem lnk_gap {w h o g : Int} (M : mok w h o = true) (H : igap w h g = true) (ho : opn o g = true) : lnk w h o (ends w h g).1 (ends w h g).2 := by
  have G := (mok_iff.1 M).1
  obtain ⟨_, h1, h2, h3⟩ := ends_spec G H
  have c2 := icell_iff.1 h2
  have hp : psg w h o g = true := by unfold psg; rw [M, H, ho]; rfl
  rcases h3 with ⟨a, b⟩ | ⟨a, b⟩
  · have e : st w h o (ends w h g).1 1 = (ends w h g).2 := by unfold st; rw [b, if_pos hp, a]
    have := lnk_step (w := w) (h := h) (o := o) (a := (ends w h g).1) (d := 1) (by rw [e]; exact c2.1)
    rwa [e] at this
  · have e : st w h o (ends w h g).1 2 = (ends w h g).2 := by unfold st; rw [b, if_pos hp, a]
    have := lnk_step (w := w) (h := h) (o := o) (a := (ends w h g).1) (d := 2) (by rw [e]; exact c2.1)
    rwa [e] at this
theorem countP_one {α : Type} [DecidableEq α] {p q : α → Bool} {x : α} (hp : p x = false) (hq : q x = true) (he : ∀ y, y ≠ x → p y = q y) : ∀ {l : List α}, l.Nodup → x ∈ l → l.countP q = l.countP p + 1
  | [], _, h => absurd h (by simp)
  | y :: l, hn, h => by
    rw [List.nodup_cons] at hn
    rw [List.countP_cons, List.countP_cons]
    by_cases e : y = x
    · subst e
      have : l.countP q = l.countP p := by
        rw [List.countP_eq_length_filter, List.countP_eq_length_filter]
        congr 1
        refine List.filter_congr fun z hz => (he z ?_).symm
        rintro rfl
        exact hn.1 hz
      rw [hp, hq, this]
      simp
    · have hx : x ∈ l := by
        rcases List.mem_cons.1 h with h | h
        · exact absurd h.symm e
        · exact h
      rw [countP_one hp hq he hn.2 hx, he y e]
      omega
theorem pcn_setb {o g : Int} (h0 : 0 ≤ g) (h1 : g < 24) (ho : opn o g = false) : pcn (setb o g true).toNat 24 = pcn o.toNat 24 + 1 := by
  unfold pcn
  refine countP_one (x := g.toNat) ?_ ?_ (fun y hy => ?_) List.nodup_range (by rw [List.mem_range]; omega)
  · exact ho
  · have := opn_setb (o := o) true h0 h0
    rw [if_pos rfl] at this
    exact this
  · have := opn_setb (o := o) (i := (y : Int)) true h0 (by omega)
    rw [if_neg (by omega)] at this
    unfold opn at this
    simp only [Int.toNat_natCast] at this
    exact this.symm
theorem rd_map {P : List Int} {f : Int → Int} {x : Int} (h0 : 0 ≤ x) (h1 : x < P.length) : rd (P.map f) x = f (rd P x) := by
  obtain ⟨n, rfl⟩ := Int.eq_ofNat_of_zero_le h0
  have hn : n < P.length := by omega
  rw [rd_nat, rd_nat, List.getD_eq_getElem?_getD, List.getD_eq_getElem?_getD, List.getElem?_map, List.getElem?_eq_getElem hn]
  rfl
structure TI_p (w h o : Int) (P : List Int) : Prop where
  len : P.length = stN w h
  rng : ∀ x, icell w h x = true → icell w h (rd P x) = true ∧ rd P (rd P x) = rd P x
  lk : ∀ x y, icell w h x = true → icell w h y = true → rd P x = rd P y → lnk w h o x y
  ok : mok w h o = true
  op : ∀ g, igap w h g = true → opn o g = true → rd P (ends w h g).1 = rd P (ends w h g).2
  cnt : pcn o.toNat 24 + (ints (stN w h)).countP (fun x => rd P x == x) = stN w h
theorem rd_ints {n : Nat} {x : Int} (h0 : 0 ≤ x) (h1 : x < n) : rd (ints n) x = x := by
  obtain ⟨m, rfl⟩ := Int.eq_ofNat_of_zero_le h0
  have hm : m < n := by omega
  rw [rd_nat, List.getD_eq_getElem?_getD]
  unfold ints
  rw [List.getElem?_map, List.getElem?_range hm]
  rfl
theorem ti_init {w h : Int} (G : gok w h = true) : TI_p w h 0 (ints (stN w h)) := by
  have hN := stN_int w h
  have hr : ∀ x, icell w h x = true → rd (ints (stN w h)) x = x := fun x hx => by
    have := icell_iff.1 hx
    exact rd_ints this.1 (by omega)
  refine ⟨ints_length _, fun x hx => ?_, fun x y hx hy e => ?_, ?_, fun g _ ho => ?_, ?_⟩
  · rw [hr x hx]; exact ⟨hx, hr x hx⟩
  · rw [hr x hx, hr y hy] at e; rw [e]; exact lnk_refl _ _ _ _
  · refine mok_iff.2 ⟨G, Int.le_refl _, ?_⟩
    have := gpow w h
    omega
  · unfold opn at ho; simp at ho
  · have e : (ints (stN w h)).countP (fun x => rd (ints (stN w h)) x == x) = (ints (stN w h)).length := by
      rw [List.countP_eq_length]
      intro x hx
      have := mem_ints.1 hx
      rw [rd_ints this.1 this.2]
      simp
    rw [e, ints_length]
    have : pcn (0 : Int).toNat 24 = 0 := by decide
    omega
def sub1 (old new v : Int) : Int := if v = old then new else v
theorem sub1_pos {old new v : Int} (h : v = old) : sub1 old new v = new := by unfold sub1; rw [if_pos h]
theorem sub1_neg {old new v : Int} (h : v ≠ old) : sub1 old new v = v := by unfold sub1; rw [if_neg h]
theorem ti_step {w h o g : Int} {P : List Int} (T : TI_p w h o P) (H : igap w h g = true) (hne : rd P (ends w h g).1 ≠ rd P (ends w h g).2) : TI_p w h (setb o g true) (P.map (sub1 (rd P (ends w h g).2) (rd P (ends w h g).1))) := by
  have G := (mok_iff.1 T.ok).1
  obtain ⟨_, ca, cb, _⟩ := ends_spec G H
  have hg := gaps_small H
  have M' := mok_setb true T.ok H
  have hN := stN_int w h
  have hin : ∀ x, icell w h x = true → 0 ≤ x ∧ x < P.length := fun x hx => by have := icell_iff.1 hx; have := T.len; omega
  have hr : ∀ x, icell w h x = true → rd (P.map (sub1 (rd P (ends w h g).2) (rd P (ends w h g).1))) x = sub1 (rd P (ends w h g).2) (rd P (ends w h g).1) (rd P x) := fun x hx => rd_map (hin x hx).1 (hin x hx).2
  have more : ∀ j, 0 ≤ j → opn o j = true → opn (setb o g true) j = true := fun j hj ho => by
    rw [opn_setb true hg.1 hj]
    split
    · rfl
    · exact ho
  have og : opn (setb o g true) g = true := by rw [opn_setb true hg.1 hg.1, if_pos rfl]
  have ab := lnk_gap M' H og
  obtain ⟨ra, ra2⟩ := T.rng _ ca
  obtain ⟨rb, rb2⟩ := T.rng _ cb
  generalize hA : rd P (ends w h g).1 = A at *
  generalize hB : rd P (ends w h g).2 = B at *
  refine ⟨by rw [List.length_map]; exact T.len, fun x hx => ?_, fun x y hx hy e => ?_, M', fun j hj ho => ?_, ?_⟩
  · obtain ⟨r1, r2⟩ := T.rng x hx
    rw [hr x hx]
    by_cases c : rd P x = B
    · rw [sub1_pos c]
      refine ⟨ra, ?_⟩
      rw [hr _ ra, ra2, sub1_neg hne]
    · rw [sub1_neg c]
      refine ⟨r1, ?_⟩
      rw [hr _ r1, r2, sub1_neg c]
  · rw [hr x hx, hr y hy] at e
    have lm : ∀ x y, icell w h x = true → icell w h y = true → rd P x = rd P y → lnk w h (setb o g true) x y := fun x y hx hy e => lnk_more M' more (T.lk x y hx hy e)
    unfold sub1 at e
    by_cases c1 : rd P x = B <;> by_cases c2 : rd P y = B
    · exact lm x y hx hy (c1.trans c2.symm)
    · rw [if_pos c1, if_neg c2] at e
      exact lnk_trans (lm _ _ hx cb (c1.trans hB.symm)) (lnk_trans (lnk_symm ab) (lm _ _ ca hy (hA.trans e)))
    · rw [if_neg c1, if_pos c2] at e
      exact lnk_trans (lm _ _ hx ca (e.trans hA.symm)) (lnk_trans ab (lm _ _ cb hy (hB.trans c2.symm)))
    · rw [if_neg c1, if_neg c2] at e
      exact lm x y hx hy e
  · obtain ⟨_, c1, c2, _⟩ := ends_spec G hj
    rw [hr _ c1, hr _ c2]
    rw [opn_setb true hg.1 (igap_iff.1 hj).1] at ho
    by_cases e : j = g
    · subst e
      rw [hA, hB]
      unfold sub1
      rw [if_neg hne, if_pos rfl]
    · rw [if_neg e] at ho
      rw [T.op j hj ho]
  · have ho : opn o g = false := by
      cases e : opn o g with
      | false => rfl
      | true => exact absurd (by have := T.op g H e; rw [hA, hB] at this; exact this) hne
    rw [pcn_setb hg.1 hg.2 ho]
    have hb := icell_iff.1 rb
    have key := countP_one (p := fun x => rd (P.map (sub1 B A)) x == x) (q := fun x => rd P x == x) (x := B) (l := ints (stN w h)) ?_ ?_ ?_ (by
      unfold ints
      exact List.pairwise_map.2 (List.nodup_range.imp fun h e => h (by omega))) (mem_ints.2 ⟨hb.1, by omega⟩)
    · have := T.cnt
      omega
    · show (rd (P.map (sub1 B A)) B == B) = false
      rw [hr _ rb, rb2]
      unfold sub1
      rw [if_pos rfl]
      simpa using hne
    · show (rd P B == B) = true
      rw [rb2]; simp
    · intro y hy
      show (rd (P.map (sub1 B A)) y == y) = (rd P y == y)
      by_cases cy : icell w h y = true
      · rw [hr y cy]
        unfold sub1
        by_cases c : rd P y = B
        · rw [if_pos c]
          have h1 : A ≠ y := by
            rintro rfl
            exact hne (ra2.symm.trans c)
          have h2 : rd P y ≠ y := by rw [c]; exact fun e => hy e.symm
          rw [beq_eq_false_iff_ne.2 h1, beq_eq_false_iff_ne.2 h2]
        · rw [if_neg c]
      · have hl : P.length = (P.map (sub1 B A)).length := by simp
        by_cases hy0 : 0 ≤ y
        · have hy1 : P.length ≤ y.toNat := by
            have h1 : ¬ (0 ≤ y ∧ y < cells w h) := fun z => cy (icell_iff.2 z)
            have := T.len
            omega
          unfold rd
          rw [List.getD_eq_getElem?_getD, List.getD_eq_getElem?_getD, List.getElem?_eq_none (by rw [List.length_map]; exact hy1), List.getElem?_eq_none hy1]
        · have ht : y.toNat = 0 := by omega
          have e0 : ∀ L : List Int, rd L y = rd L 0 := fun L => by unfold rd; rw [ht]; rfl
          have c0 := icell_zero G
          have n1 : ∀ z, icell w h z = true → (z == y) = false := fun z hz => by
            have := icell_iff.1 hz
            rw [beq_eq_false_iff_ne]; omega
          rw [e0, e0, n1 _ (T.rng 0 c0).1, hr 0 c0]
          unfold sub1
          split
          · exact n1 _ ra
          · exact n1 _ (T.rng 0 c0).1
theorem ti_end {w h o : Int} {P : List Int} (T : TI_p w h o P) (H : ∀ g, igap w h g = true → rd P (ends w h g).1 = rd P (ends w h g).2) : conn w h o = true ∧ ((pcn o.toNat 24 : Nat) : Int) = cells w h - 1 := by
  have G := (mok_iff.1 T.ok).1
  have c0 := icell_zero G
  have hN := stN_int w h
  have key : ∀ (n : Nat) (x : Int), x.toNat ≤ n → icell w h x = true → rd P x = rd P 0 := by
    intro n
    induction n with
    | zero =>
      intro x hx hc
      have := icell_iff.1 hc
      obtain rfl : x = 0 := by omega
      rfl
    | succ n ih =>
      intro x hx hc
      by_cases x0 : x = 0
      · rw [x0]
      · obtain ⟨g, hg, e1, e2⟩ := ends_down G hc x0
        obtain ⟨_, c1, _, _⟩ := ends_spec G hg
        have := icell_iff.1 c1
        rw [← e1, ← H g hg]
        exact ih _ (by omega) c1
  refine ⟨conn_iff.2 ⟨T.ok, fun x hx => T.lk 0 x c0 hx (key _ x (Nat.le_refl _) hx).symm⟩, ?_⟩
  have h1 : (ints (stN w h)).countP (fun x => rd P x == x) = 1 := by
    obtain ⟨r1, r2⟩ := T.rng 0 c0
    have cr := icell_iff.1 r1
    have e1 : (ints (stN w h)).countP (fun x => rd P x == x) = (ints (stN w h)).countP (fun x => x == rd P 0) := by
      rw [List.countP_eq_length_filter, List.countP_eq_length_filter]
      congr 1
      refine List.filter_congr fun x hx => ?_
      have hm := mem_ints.1 hx
      have hc : icell w h x = true := icell_iff.2 ⟨hm.1, by omega⟩
      rw [key _ x (Nat.le_refl _) hc, Bool.eq_iff_iff]
      simp only [beq_iff_eq]
      exact ⟨fun h => h.symm, fun h => h.symm⟩
    have e2 := countP_one (p := fun _ => false) (q := fun x => x == rd P 0) (x := rd P 0) (l := ints (stN w h)) rfl (by simp) (fun y hy => (beq_eq_false_iff_ne.2 hy).symm) (by
      unfold ints
      exact List.pairwise_map.2 (List.nodup_range.imp fun h e => h (by omega))) (mem_ints.2 ⟨cr.1, by omega⟩)
    rw [e1, e2]
    simp
  have := T.cnt
  omega
theorem or_shl_tr {o g : Int} (ho : 0 ≤ o) (h1 : o < 2 ^ 62) (hg : 0 ≤ g) (h2 : g < 62) : Go.bits .or .i64 o (shl .i64 1 g) = setb o g true := by
  obtain ⟨a, rfl⟩ := Int.eq_ofNat_of_zero_le ho
  obtain ⟨n, rfl⟩ := Int.eq_ofNat_of_zero_le hg
  have hp : (2 : Nat) ^ n < 2 ^ 63 := Nat.pow_lt_pow_right (by decide) (by omega)
  rw [shl_one (by omega), bits_or_i (by omega) hp]
  unfold setb
  rw [if_pos rfl]
  simp
theorem tree_l3 {w h o n f s a old new : Int} {i0 : Int} {l : List Int} {s1 s2 : Int} {P : List Int} (ha : 0 ≤ a ∧ a < P.length) (hA : rd P a = new) (hne : new ≠ old) (hP : P.length ≤ 100) : ∀ (t i k : Nat) (Q : List Int), i + t = P.length → t + 1 ≤ k → Q.length = P.length →
    (∀ j : Nat, j < P.length → rd Q (j : Int) = if j < i then sub1 old new (rd P (j : Int)) else rd P (j : Int)) →
    spec_l03Tree.l3 k n Q f s i0 a old (i : Int) l s1 s2 w h w h o = spec_l03Tree.l2 (k - t - 1) n (P.map (sub1 old new)) f s (wrap64 (i0 + 1)) l s1 s2 w h w h o
  | 0, i, k, Q, hi, hk, hl, hQ => by
    obtain ⟨m, rfl⟩ : ∃ m, k = m + 1 := ⟨k - 1, by omega⟩
    simp only [spec_l03Tree.l3]
    rw [if_neg (by omega)]
    have e : Q = P.map (sub1 old new) := by
      apply List.ext_getElem
      · rw [List.length_map, hl]
      · intro j h1 h2
        have := hQ j (by omega)
        rw [if_pos (by omega), rd_nat, rd_nat, List.getD_eq_getElem?_getD, List.getD_eq_getElem?_getD, List.getElem?_eq_getElem h1, List.getElem?_eq_getElem (by omega)] at this
        simpa using this
    rw [e]
    rfl
  | t + 1, i, k, Q, hi, hk, hl, hQ => by
    obtain ⟨m, rfl⟩ : ∃ m, k = m + 1 := ⟨k - 1, by omega⟩
    have hil : i < P.length := by omega
    have hi0 := hQ i hil
    rw [if_neg (Nat.lt_irrefl _)] at hi0
    have hqa : rd Q a = new := by
      obtain ⟨j, rfl⟩ := Int.eq_ofNat_of_zero_le ha.1
      rw [hQ j (by omega), hA]
      unfold sub1
      rw [if_neg hne]
      split <;> rfl
    simp only [spec_l03Tree.l3]
    rw [if_pos (by omega), if_pos (by omega), hi0, w64 (x := (i : Int) + 1) (by omega) (by omega)]
    have step : ∀ Q2 : List Int, Q2.length = P.length → (∀ j : Nat, j < P.length → rd Q2 (j : Int) = if j < i + 1 then sub1 old new (rd P (j : Int)) else rd P (j : Int)) → spec_l03Tree.l3 m n Q2 f s i0 a old ((i : Int) + 1) l s1 s2 w h w h o = spec_l03Tree.l2 (m + 1 - (t + 1) - 1) n (P.map (sub1 old new)) f s (wrap64 (i0 + 1)) l s1 s2 w h w h o := fun Q2 h1 h2 => by
      have := tree_l3 (w := w) (h := h) (o := o) (n := n) (f := f) (s := s) (i0 := i0) (l := l) (s1 := s1) (s2 := s2) ha hA hne hP t (i + 1) m Q2 (by omega) (by omega) h1 h2
      rw [Int.natCast_add] at this
      rw [show m + 1 - (t + 1) - 1 = m - t - 1 by omega]
      exact this
    by_cases c : rd P (i : Int) = old
    · rw [if_pos c, if_pos ha.1, if_pos (by omega), hqa]
      refine step _ (by simpa using hl) fun j hj => ?_
      rw [rd_set (by omega) (by omega) (by omega)]
      by_cases e : (j : Int) = (i : Int)
      · have e' : j = i := by omega
        subst e'
        rw [if_pos rfl, if_pos (by omega)]
        unfold sub1
        rw [if_pos c]
      · rw [if_neg e, hQ j hj]
        by_cases q : j < i
        · rw [if_pos q, if_pos (by omega)]
        · rw [if_neg q, if_neg (by omega)]
    · rw [if_neg c]
      refine step _ hl fun j hj => ?_
      rw [hQ j hj]
      by_cases e : j = i
      · subst e
        rw [if_neg (Nat.lt_irrefl _), if_pos (by omega)]
        unfold sub1
        rw [if_neg c]
      · by_cases q : j < i
        · rw [if_pos q, if_pos (by omega)]
        · rw [if_neg q, if_neg (by omega)]
def gapi (n f s i : Nat) : Int := (((f + i * s) % n : Nat) : Int)
theorem tree_l2 {w h : Int} {n f s : Nat} {l : List Int} {s1 s2 : Int} (G : gok w h = true) (hn : (n : Int) = gaps w h) (hn0 : 0 < n) (hf : f < n) (hs : s ≤ 25) : ∀ (t i k : Nat) (P : List Int) (o : Int), i + t = n → 30 * t + 30 ≤ k → TI_p w h o P → (∀ j, j < i → rd P (ends w h (gapi n f s j)).1 = rd P (ends w h (gapi n f s j)).2) →
    ∃ o' P', spec_l03Tree.l2 k (n : Int) P (f : Int) (s : Int) (i : Int) l s1 s2 w h w h o = some (w, h, o', s1, s2) ∧ TI_p w h o' P' ∧ ∀ j, j < n → rd P' (ends w h (gapi n f s j)).1 = rd P' (ends w h (gapi n f s j)).2
  | 0, i, k, P, o, hi, hk, T, hd => by
    obtain ⟨m, rfl⟩ : ∃ m, k = m + 1 := ⟨k - 1, by omega⟩
    refine ⟨o, P, ?_, T, fun j hj => hd j (by omega)⟩
    simp only [spec_l03Tree.l2]
    rw [if_neg (by omega)]
  | t + 1, i, k, P, o, hi, hk, T, hd => by
    obtain ⟨m, rfl⟩ : ∃ m, k = m + 1 := ⟨k - 1, by omega⟩
    have hb := gaps_bd w h
    have hN := stN_int w h
    have hN2 := stN_le w h
    have hl := T.len
    have hmul : i * s ≤ 24 * 25 := Nat.mul_le_mul (by omega) hs
    have e : Int.tmod (wrap64 ((f : Int) + wrap64 ((i : Int) * (s : Int)))) (n : Int) = gapi n f s i := by
      rw [show ((i : Int) * (s : Int)) = ((i * s : Nat) : Int) by simp, w64 (x := ((i * s : Nat) : Int)) (by omega) (by omega), w64 (by omega) (by omega)]
      rw [show ((f : Int) + ((i * s : Nat) : Int)) = ((f + i * s : Nat) : Int) by simp]
      unfold gapi
      rw [Int.tmod_eq_emod_of_nonneg (by omega)]
      rfl
    have hg : igap w h (gapi n f s i) = true := by
      rw [igap_iff, ← hn]
      have := Nat.mod_lt (f + i * s) hn0
      unfold gapi
      omega
    have gs := gaps_small hg
    obtain ⟨e1, c1, c2, _⟩ := ends_spec G hg
    have b1 := icell_iff.1 c1
    have b2 := icell_iff.1 c2
    have ms := mok_small T.ok
    simp only [spec_l03Tree.l2]
    rw [if_pos (by omega), if_neg (by omega), e, e1, Option.bind_some, if_pos b1.1, if_pos (by omega), if_pos b2.1, if_pos (by omega), w64 (x := (i : Int) + 1) (by omega) (by omega)]
    by_cases c : rd P (ends w h (gapi n f s i)).1 = rd P (ends w h (gapi n f s i)).2
    · rw [if_pos c]
      have := tree_l2 (l := l) (s1 := s1) (s2 := s2) G hn hn0 hf hs t (i + 1) m P o (by omega) (by omega) T (fun j hj => by
        by_cases q : j = i
        · rw [q]; exact c
        · exact hd j (by omega))
      rw [Int.natCast_add] at this
      exact this
    · rw [if_neg c, if_pos gs.1, or_shl_tr ms.1 (by omega) gs.1 (by omega)]
      have T' := ti_step T hg c
      have := tree_l3 (w := w) (h := h) (o := setb o (gapi n f s i) true) (n := n) (f := f) (s := s) (i0 := i) (l := l) (s1 := s1) (s2 := s2) (P := P) (a := (ends w h (gapi n f s i)).1) (old := rd P (ends w h (gapi n f s i)).2) (new := rd P (ends w h (gapi n f s i)).1) (by omega) rfl c (by omega) P.length 0 m P (by omega) (by omega) rfl (fun j hj => by rw [if_neg (Nat.not_lt_zero _)])
      have h3 : spec_l03Tree.l3 m (n : Int) P (f : Int) (s : Int) (i : Int) (ends w h (gapi n f s i)).1 (rd P (ends w h (gapi n f s i)).2) 0 l s1 s2 w h w h (setb o (gapi n f s i) true) = _ := this
      rw [h3, w64 (x := (i : Int) + 1) (by omega) (by omega)]
      have hmap : ∀ x, icell w h x = true → rd (P.map (sub1 (rd P (ends w h (gapi n f s i)).2) (rd P (ends w h (gapi n f s i)).1))) x = sub1 (rd P (ends w h (gapi n f s i)).2) (rd P (ends w h (gapi n f s i)).1) (rd P x) := fun x hx => by
        have := icell_iff.1 hx
        exact rd_map this.1 (by omega)
      have := tree_l2 (l := l) (s1 := s1) (s2 := s2) G hn hn0 hf hs t (i + 1) (m - P.length - 1) _ _ (by omega) (by omega) T' (fun j hj => by
        have hgj : igap w h (gapi n f s j) = true := by
          rw [igap_iff, ← hn]
          have := Nat.mod_lt (f + j * s) hn0
          unfold gapi
          omega
        obtain ⟨_, d1, d2, _⟩ := ends_spec G hgj
        rw [hmap _ d1, hmap _ d2]
        by_cases q : j = i
        · subst q
          unfold sub1
          rw [if_neg c, if_pos rfl]
        · rw [hd j (by omega)])
      rw [Int.natCast_add] at this
      exact this
def cop (s n : Int) : Option Bool := spec_l03Common.f 40 s n
def nats25 : List Nat := List.range 26
theorem cop_all : ∀ n ∈ nats25, ∀ s ∈ nats25, 0 < n → 0 < s → (cop (s : Int) (n : Int) = some true ∨ cop (s : Int) (n : Int) = some false ∧ ∃ v ∈ nats25, (v * s) % n = 1 % n) := by
  decide +kernel
theorem cop_next : ∀ n ∈ nats25, 0 < n → n ≤ 24 → cop ((n + 1 : Nat) : Int) (n : Int) = some false := by
  decide +kernel
theorem cop_more {k : Nat} {s n : Int} {b : Bool} (h : cop s n = some b) (hk : 40 ≤ k) : spec_l03Common.f k s n = some b :=
  at_rounds (g := fun k => spec_l03Common.f k s n) (fun k => spec_l03Common.mono s n k) (k := 40) hk h
theorem mod_reach {n f s v g : Nat} (hn : 0 < n) (hf : f < n) (hv : (v * s) % n = 1 % n) (hg : g < n) : ∃ i, i < n ∧ (f + i * s) % n = g := by
  refine ⟨((g + (n - f)) * v) % n, Nat.mod_lt _ hn, ?_⟩
  have e1 : (((g + (n - f)) * v) % n * s) % n = (g + (n - f)) % n := by
    rw [Nat.mod_mul_mod, Nat.mul_assoc, ← Nat.mul_mod_mod, hv, Nat.mul_mod_mod, Nat.mul_one]
  rw [← Nat.add_mod_mod, e1, Nat.add_mod_mod, show f + (g + (n - f)) = g + n by omega, Nat.add_mod_right, Nat.mod_eq_of_lt hg]
theorem tree_l1 {w h : Int} {n f : Nat} {l : List Int} {s1 s2 : Int} {P : List Int} (hn0 : 0 < n) (hn : n ≤ 24) : ∀ (t s k : Nat), s + t = n + 1 → 0 < s → t + 50 ≤ k →
    ∃ s' k', s' ≤ 25 ∧ k ≤ k' + t + 1 ∧ (∃ v, (v * s') % n = 1 % n) ∧ spec_l03Tree.l1 k (n : Int) P (f : Int) (s : Int) l s1 s2 w h w h 0 = spec_l03Tree.l2 k' (n : Int) P (f : Int) (s' : Int) 0 l s1 s2 w h w h 0
  | 0, s, k, hs, h0, hk => by
    obtain ⟨m, rfl⟩ : ∃ m, k = m + 1 := ⟨k - 1, by omega⟩
    obtain rfl : s = n + 1 := by omega
    have hc := cop_next n (by simp [nats25]; omega) hn0 hn
    have hv : ∃ v, (v * (n + 1)) % n = 1 % n := by
      rcases cop_all n (by simp [nats25]; omega) (n + 1) (by simp [nats25]; omega) hn0 (by omega) with h | ⟨_, v, _, h⟩
      · rw [hc] at h; exact absurd h (by decide)
      · exact ⟨v, h⟩
    refine ⟨n + 1, m, by omega, by omega, hv, ?_⟩
    simp only [spec_l03Tree.l1]
    rw [cop_more hc (by omega), Option.bind_some, if_neg Bool.false_ne_true]
  | t + 1, s, k, hs, h0, hk => by
    obtain ⟨m, rfl⟩ : ∃ m, k = m + 1 := ⟨k - 1, by omega⟩
    rcases cop_all n (by simp [nats25]; omega) s (by simp [nats25]; omega) hn0 h0 with hc | ⟨hc, v, _, hv⟩
    · obtain ⟨s', k', h1, h2, h3, h4⟩ := tree_l1 (w := w) (h := h) (f := f) (l := l) (s1 := s1) (s2 := s2) (P := P) hn0 hn t (s + 1) m (by omega) (by omega) (by omega)
      refine ⟨s', k', h1, by omega, h3, ?_⟩
      rw [← h4]
      simp only [spec_l03Tree.l1]
      rw [cop_more hc (by omega), Option.bind_some, if_pos rfl, w64 (by omega) (by omega)]
      rfl
    · refine ⟨s, m, by omega, by omega, ⟨v, hv⟩, ?_⟩
      simp only [spec_l03Tree.l1]
      rw [cop_more hc (by omega), Option.bind_some, if_neg Bool.false_ne_true]
theorem tree_l0 {w h n : Int} {l : List Int} {s1 s2 : Int} {N : Nat} (hN : N ≤ 100) : ∀ (t i k : Nat) (Q : List Int), i + t = N → t + 1 ≤ k → Q.length = N → (∀ j : Nat, j < i → rd Q (j : Int) = j) →
    spec_l03Tree.l0 k n Q (i : Int) l s1 s2 w h w h 0 = if n = 0 then some (w, h, 0, s1, s2) else (spec_l01Below.f l s1 s2 n).bind fun b => (spec_l01Below.f l b.2.1 b.2.2 n).bind fun c => spec_l03Tree.l1 (k - t - 1) n (ints N) b.1 (wrap64 (1 + c.1)) l c.2.1 c.2.2 w h w h 0
  | 0, i, k, Q, hi, hk, hl, hQ => by
    obtain ⟨m, rfl⟩ : ∃ m, k = m + 1 := ⟨k - 1, by omega⟩
    simp only [spec_l03Tree.l0]
    rw [if_neg (by omega)]
    have e : Q = ints N := by
      apply List.ext_getElem
      · rw [ints_length, hl]
      · intro j h1 h2
        have := hQ j (by omega)
        rw [rd_nat, List.getD_eq_getElem?_getD, List.getElem?_eq_getElem h1] at this
        simp only [ints, List.getElem_map, List.getElem_range]
        simpa using this
    rw [e]
    rfl
  | t + 1, i, k, Q, hi, hk, hl, hQ => by
    obtain ⟨m, rfl⟩ : ∃ m, k = m + 1 := ⟨k - 1, by omega⟩
    simp only [spec_l03Tree.l0]
    rw [if_pos (by omega), if_pos (by omega), w64 (by omega) (by omega)]
    have := tree_l0 (w := w) (h := h) (n := n) (l := l) (s1 := s1) (s2 := s2) hN t (i + 1) m (Q.set i (i : Int)) (by omega) (by omega) (by simpa using hl) (fun j hj => by
      have := rd_set (D := Q) (i := (i : Int)) (x := (j : Int)) (v := (i : Int)) (by omega) (by omega) (by omega)
      rw [Int.toNat_natCast] at this
      rw [this]
      by_cases e : (j : Int) = (i : Int)
      · rw [if_pos e]; exact e.symm
      · rw [if_neg e]; exact hQ j (by omega))
    rw [Int.natCast_add] at this
    rw [show m + 1 - (t + 1) - 1 = m - t - 1 by omega]
    rw [Int.toNat_natCast]
    exact this
theorem tree_draw {k : Nat} {l : List Int} {i s w h : Int} (G : gok w h = true) (hi : 0 ≤ i) (hl : l.length ≤ 1048576) (hk : 1000 ≤ k) :
    ∃ o i' s', spec_l03Tree.f k l i s w h = some (w, h, o, i', s') ∧ 0 ≤ i' ∧ conn w h o = true ∧ ((pcn o.toNat 24 : Nat) : Int) = cells w h - 1 := by
  have hN := stN_int w h
  have hN2 := stN_le w h
  have hb := gaps_bd w h
  have T0 := ti_init G
  unfold spec_l03Tree.f
  rw [spec_CountGaps_eq, Option.bind_some, spec_CountCells_eq, Option.bind_some, ← hN, if_pos (by omega), if_pos (by omega), Int.toNat_natCast]
  have e0 := tree_l0 (w := w) (h := h) (n := gaps w h) (l := l) (s1 := i) (s2 := s) (N := stN w h) (by omega) (stN w h) 0 k (List.replicate (stN w h) 0) (by omega) (by omega) (by simp) (fun j hj => absurd hj (Nat.not_lt_zero _))
  have e1 : spec_l03Tree.l0 k (gaps w h) (List.replicate (stN w h) 0) 0 l i s w h w h 0 = _ := e0
  rw [e1]
  by_cases n0 : gaps w h = 0
  · rw [if_pos n0]
    obtain ⟨q1, q2⟩ := ti_end T0 (fun g hg => by have := igap_iff.1 hg; omega)
    exact ⟨0, i, s, rfl, hi, q1, by rw [hN]; exact q2⟩
  · rw [if_neg n0]
    obtain ⟨f, i1, h1, d1, f0, f1, j1⟩ := below_draw (h := s) hi hl (n := gaps w h) (by omega) (by omega)
    obtain ⟨c, i2, h2, d2, c0, c1, j2⟩ := below_draw (h := h1) j1 hl (n := gaps w h) (by omega) (by omega)
    rw [d1, Option.bind_some, d2, Option.bind_some, w64 (by omega) (by omega)]
    simp only
    obtain ⟨n, hn⟩ := Int.eq_ofNat_of_zero_le hb.1
    obtain ⟨f, rfl⟩ := Int.eq_ofNat_of_zero_le f0
    obtain ⟨c, rfl⟩ := Int.eq_ofNat_of_zero_le c0
    rw [show (1 : Int) + (c : Int) = ((c + 1 : Nat) : Int) by omega, hn]
    obtain ⟨s', k', q1, q2, ⟨v, hv⟩, q4⟩ := tree_l1 (w := w) (h := h) (n := n) (f := f) (l := l) (s1 := i2) (s2 := h2) (P := ints (stN w h)) (by omega) (by omega) (n - c) (c + 1) (k - stN w h - 1) (by omega) (by omega) (by omega)
    rw [q4]
    obtain ⟨o, P', r1, r2, r3⟩ := tree_l2 (l := l) (s1 := i2) (s2 := h2) G (n := n) (f := f) (s := s') (by omega) (by omega) (by omega) q1 n 0 k' (ints (stN w h)) 0 (by omega) (by omega) T0 (fun j hj => absurd hj (Nat.not_lt_zero _))
    have r1' : spec_l03Tree.l2 k' (n : Int) (ints (stN w h)) (f : Int) (s' : Int) 0 l i2 h2 w h w h 0 = some (w, h, o, i2, h2) := r1
    obtain ⟨z1, z2⟩ := ti_end r2 (fun g hg => by
      have gb := igap_iff.1 hg
      obtain ⟨g, rfl⟩ := Int.eq_ofNat_of_zero_le gb.1
      obtain ⟨j, hj, e⟩ := mod_reach (n := n) (f := f) (s := s') (v := v) (g := g) (by omega) (by omega) hv (by omega)
      have := r3 j hj
      unfold gapi at this
      rw [e] at this
      exact this)
    exact ⟨o, i2, h2, r1', j2, z1, by rw [hN]; exact z2⟩
end Go.Proofs.YtdjdleldocfpaaaDoor.F
end

section
namespace Go.Proofs.YtdjdleldocfpaaaDoor.F
open Go.RowKit Go.Proofs.YtdjdleldocfpaaaDoorW.PrintWords Go.Proofs.YtdjdleldocfpaaaDoorW.PrintLast Go.Proofs.YtdjdleldocfpaaaDoorW.PrintMore
set_option linter.unusedVariables false
set_option linter.unusedSimpArgs false
theorem spec_SetGap_in {k : Nat} (hk : 1 ≤ k) {w h o g : Int} (M : mok w h o = true) (hg : igap w h g = true) (b : Bool) : spec_SetGap.f k w h o g b = some (w, h, setb o g b, true) := by
  obtain ⟨m, rfl⟩ : ∃ m, k = m + 1 := ⟨k - 1, by omega⟩
  have ms := mok_small M
  have gs := gaps_small hg
  unfold spec_SetGap.f
  rw [spec_MazeOk_eq, Option.bind_some, if_pos M, spec_CountGaps_eq, Option.bind_some, spec_l01In_eq, Option.bind_some, in_gaps, hg]
  simp only [spec_SetGap.j0]
  rw [if_neg (by decide), spec_l03Bit_eq ms.1 (by omega) gs.1, Option.bind_some, xor_shl_eq ms.1 (by omega) gs.1 (by omega)]
  by_cases c : opn o g = b
  · rw [if_neg (by simp [c])]
    have : setb o g b = o := by
      refine eq_of_opn ?_ ms.1 fun i hi => ?_
      · unfold setb; split <;> exact Int.natCast_nonneg _
      · rw [opn_setb b gs.1 hi]
        split
        · rename_i e; rw [e, c]
        · rfl
    rw [this]
  · rw [if_pos (by simpa using c), if_pos gs.1]
    have hb : b = !opn o g := by cases b <;> cases e : opn o g <;> simp_all
    rw [hb, setb_flip ms.1 gs.1]
theorem conn_open {w h o g : Int} (H : conn w h o = true) (hg : igap w h g = true) : conn w h (setb o g true) = true := by
  have M := conn_mok H
  refine conn_more H (mok_setb true M hg) fun j hj ho => ?_
  rw [opn_setb true (gaps_small hg).1 hj]
  split
  · rfl
  · exact ho
end Go.Proofs.YtdjdleldocfpaaaDoor.F
end

section
namespace Go.Proofs.YtdjdleldocfpaaaDoor.F
open Go.RowKit Go.Proofs.YtdjdleldocfpaaaDoorW.PrintWords Go.Proofs.YtdjdleldocfpaaaDoorW.PrintLast Go.Proofs.YtdjdleldocfpaaaDoorW.PrintMore
set_option linter.unusedVariables false
set_option linter.unusedSimpArgs false
theorem spec_WaysFrom_eq {k : Nat} (hk : 8 ≤ k) (w h o c : Int) : spec_WaysFrom.f k w h o c = some (ways w h o c) := by
  unfold spec_WaysFrom.f
  have := fold_loop (n := 4) (c := 3) (F := fun k (acc : List Int) i => spec_WaysFrom.l0 k c acc i w h o) (step := fun acc i => if 0 ≤ st w h o c (i : Int) then acc ++ [(i : Int)] else acc) (fin := fun acc : List Int => acc) (I := fun acc i => acc.length ≤ i)
    (fun k acc i hk hi ha => by
      simp only [spec_WaysFrom.l0]
      rw [if_pos (by omega), spec_Step_eq (by omega), Option.bind_some, w64 (x := (i : Int) + 1) (by omega) (by omega)]
      by_cases hd : 0 ≤ st w h o c (i : Int)
      · rw [if_pos hd, if_pos hd, if_pos (by omega)]
      · rw [if_neg hd, if_neg hd])
    (fun acc i _ ha => by
      show (if _ then _ else _ : List Int).length ≤ i + 1
      split
      · simp only [List.length_append, List.length_singleton]; omega
      · omega)
    (fun k acc _ _ => by
      simp only [spec_WaysFrom.l0]
      rw [if_neg (by decide)]) 4 0 k [] (by decide) (by omega) (Nat.le_refl _)
  refine this.trans ?_
  congr 1
  unfold ways
  simp only [List.range'_succ, List.range'_zero, List.foldl_cons, List.foldl_nil, List.filter_cons, List.filter_nil, Nat.zero_add, Int.natCast_add, decide_eq_true_eq]
  show (if 0 ≤ st w h o c (3 : Int) then _ else _) = _
  by_cases h0 : 0 ≤ st w h o c 0 <;> by_cases h1 : 0 ≤ st w h o c 1 <;> by_cases h2 : 0 ≤ st w h o c 2 <;> by_cases h3 : 0 ≤ st w h o c 3 <;> simp [h0, h1, h2, h3]
end Go.Proofs.YtdjdleldocfpaaaDoor.F
end

section
namespace Go.Proofs.YtdjdleldocfpaaaDoor.F
open Go.RowKit Go.Proofs.YtdjdleldocfpaaaDoorW.PrintWords Go.Proofs.YtdjdleldocfpaaaDoorW.PrintLast Go.Proofs.YtdjdleldocfpaaaDoorW.PrintMore
set_option linter.unusedVariables false
set_option linter.unusedSimpArgs false
theorem once_dr {l : List Int} {i s n : Int} (hi : 0 ≤ i) (hl : l.length ≤ 1048576) (hn : 1 ≤ n) (hn2 : n ≤ 256) : ∃ b i' s', spec_l01Once.f l i s n = some (b, i', s') ∧ 0 ≤ i' := by
  obtain ⟨b, i', s', e, _, _, h'⟩ := below_draw (h := s) hi hl hn hn2
  unfold spec_l01Once.f
  rw [e, Option.bind_some]
  exact ⟨_, _, _, rfl, h'⟩
end Go.Proofs.YtdjdleldocfpaaaDoor.F
end

section
namespace Go.Proofs.YtdjdleldocfpaaaDoor.F
open Go.RowKit Go.Proofs.YtdjdleldocfpaaaDoorW.PrintWords Go.Proofs.YtdjdleldocfpaaaDoorW.PrintLast Go.Proofs.YtdjdleldocfpaaaDoorW.PrintMore
set_option linter.unusedVariables false
set_option linter.unusedSimpArgs false
theorem cp_up {w h o g : Int} (M : mok w h o = true) (hg : igap w h g = true) (ho : opn o g = false) : cp w h (flip o g) = cp w h o + 1 := by
  have gs := gaps_small hg
  have ms := mok_small M
  unfold cp
  rw [if_pos M, if_pos (mok_flip M hg)]
  have := pcn_setb (o := o) gs.1 (by omega) ho
  have e : setb o g true = flip o g := by rw [← setb_flip ms.1 gs.1, ho]; rfl
  rw [e] at this
  omega
end Go.Proofs.YtdjdleldocfpaaaDoor.F
end

section
namespace Go.Proofs.YtdjdleldocfpaaaDoor.F
open Go.RowKit Go.Proofs.YtdjdleldocfpaaaDoorW.PrintWords Go.Proofs.YtdjdleldocfpaaaDoorW.PrintLast Go.Proofs.YtdjdleldocfpaaaDoorW.PrintMore
set_option linter.unusedVariables false
set_option linter.unusedSimpArgs false
theorem setb_same {o g : Int} (ho : 0 ≤ o) (hg : 0 ≤ g) (H : opn o g = true) : setb o g true = o := by
  refine eq_of_opn ?_ ho fun i hi => ?_
  · unfold setb; split <;> exact Int.natCast_nonneg _
  · rw [opn_setb true hg hi]
    split
    · rename_i e; rw [e, H]
    · rfl
theorem crowd_l0 {l : List Int} {w h w2 h2 o n : Int} (hl : l.length ≤ 1048576) (c1 : 1 ≤ cells w h) (n3 : n ≤ 3) : ∀ (r i k : Nat) (p s : Int) (V : List Int), (i : Int) + r = n → r + 20 ≤ k → 0 ≤ p → V.length ≤ i → V.Nodup → (∀ c ∈ V, icell w h c = true) →
    ∃ V' p' s', spec_l31Crowd.l0 k V n (i : Int) l p s w h w2 h2 o = some (w2, h2, o, V', p', s') ∧ V'.length ≤ 3 ∧ V'.Nodup ∧ ∀ c ∈ V', icell w h c = true
  | 0, i, k, p, s, V, hi, hk, hp, hV, hn, hc => by
    obtain ⟨k, rfl⟩ : ∃ q, k = q + 1 := ⟨k - 1, by omega⟩
    simp only [spec_l31Crowd.l0]
    rw [if_neg (by omega)]
    exact ⟨V, p, s, rfl, by omega, hn, hc⟩
  | r + 1, i, k, p, s, V, hi, hk, hp, hV, hn, hc => by
    obtain ⟨k, rfl⟩ : ∃ q, k = q + 1 := ⟨k - 1, by omega⟩
    have cb := cells_bd w h
    obtain ⟨x, p1, s1, e1, x0, x1, hp1⟩ := below_draw (h := s) hp hl (n := cells w h) (by omega) (by omega)
    simp only [spec_l31Crowd.l0]
    rw [if_pos (by omega), spec_CountCells_eq, Option.bind_some, e1, Option.bind_some]
    simp only
    rw [spec_l07In_eq (by omega) (by omega), Option.bind_some, w64 (x := (i : Int) + 1) (by omega) (by omega), show (i : Int) + 1 = ((i + 1 : Nat) : Int) by omega]
    by_cases q : V.contains x = true
    · rw [if_pos q]
      exact crowd_l0 hl c1 n3 r (i + 1) k p1 s1 V (by omega) (by omega) hp1 (by omega) hn hc
    · rw [if_neg q, if_pos (by omega)]
      have hx : x ∉ V := fun z => q (List.contains_iff_mem.2 z)
      refine crowd_l0 hl c1 n3 r (i + 1) k p1 s1 (V ++ [x]) (by omega) (by omega) hp1 (by simp; omega) ?_ ?_
      · rw [List.nodup_append]
        refine ⟨hn, by simp, ?_⟩
        intro a ha b hb e
        rw [List.mem_singleton.1 hb] at e
        exact hx (e ▸ ha)
      · intro c hm
        rcases List.mem_append.1 hm with z | z
        · exact hc c z
        · rw [List.mem_singleton.1 z]
          exact icell_iff.2 ⟨x0, x1⟩
theorem crowd_j1 {l : List Int} {w h w2 h2 o : Int} (hl : l.length ≤ 1048576) (c1 : 1 ≤ cells w h) {k : Nat} {p s : Int} (hk : 40 ≤ k) (hp : 0 ≤ p) :
    ∃ V' p' s', spec_l31Crowd.j1 k 3 l p s w h w2 h2 o = some (w2, h2, o, V', p', s') ∧ V'.length ≤ 3 ∧ V'.Nodup ∧ ∀ c ∈ V', icell w h c = true := by
  obtain ⟨k, rfl⟩ : ∃ q, k = q + 1 := ⟨k - 1, by omega⟩
  simp only [spec_l31Crowd.j1]
  rw [w64 (x := (3 : Int) + 1) (by decide) (by decide)]
  obtain ⟨n, p1, s1, e1, n0, n1, hp1⟩ := below_draw (h := s) hp hl (n := 3 + 1) (by decide) (by decide)
  rw [e1, Option.bind_some]
  exact crowd_l0 (n := n) hl c1 (by omega) n.toNat 0 k p1 s1 [] (by omega) (by omega) hp1 (by simp) (by simp) (by simp)
theorem crowd_draw {k : Nat} {l : List Int} (hl : l.length ≤ 1048576) (hk : l.length + 2000 ≤ k) : ∃ w h o V, spec_DrawCrowd.f k l = some (w, h, o, V) ∧ (1 ≤ w ∧ w ≤ 3) ∧ (1 ≤ h ∧ h ≤ 3) ∧ conn w h o = true ∧ (cp w h o = cells w h - 1 ∨ cp w h o = cells w h) ∧ crok w h o V = true ∧ V.length ≤ 3 := by
  unfold spec_DrawCrowd.f
  obtain ⟨s, e0⟩ := new_draw (k := k) hl (by omega)
  rw [e0, Option.bind_some]
  simp only
  unfold spec_l31Crowd.f
  obtain ⟨a, p1, s1, e1, a0, a1, hp1⟩ := below_draw (h := s) (i := 0) (by decide) hl (n := 3) (by decide) (by decide)
  rw [e1, Option.bind_some]
  simp only
  obtain ⟨b, p2, s2, e2, b0, b1, hp2⟩ := below_draw (h := s1) hp1 hl (n := 3) (by decide) (by decide)
  rw [e2, Option.bind_some]
  simp only
  rw [w64 (x := 1 + a) (by omega) (by omega), w64 (x := 1 + b) (by omega) (by omega)]
  obtain ⟨w, hw⟩ : ∃ w, w = 1 + a := ⟨_, rfl⟩
  obtain ⟨h, hh⟩ : ∃ h, h = 1 + b := ⟨_, rfl⟩
  rw [← hw, ← hh]
  have G : gok w h = true := gok_iff.2 (by omega)
  obtain ⟨o, p3, s3, e3, hp3, C, hcp⟩ := tree_draw (k := k) (s := s2) G hp2 hl (by omega)
  have M := conn_mok C
  have ms := mok_small M
  have gb := gaps_bd w h
  have c1 : 1 ≤ cells w h := by
    have : icell w h 0 = true ∨ ¬ icell w h 0 = true := Classical.em _
    unfold cells
    rw [if_pos G]
    have w3 : w = 1 ∨ w = 2 ∨ w = 3 := by omega
    have h3 : h = 1 ∨ h = 2 ∨ h = 3 := by omega
    rcases w3 with z | z | z <;> rcases h3 with y | y | y <;> rw [z, y] <;> decide
  have hcp1 : cp w h o = cells w h - 1 := by unfold cp; rw [if_pos M]; exact hcp
  rw [e3, Option.bind_some]
  simp only
  rw [spec_CountGaps_eq, Option.bind_some]
  have fin : ∀ (k2 : Nat) (o2 p s : Int), 40 ≤ k2 → 0 ≤ p → conn w h o2 = true → (cp w h o2 = cells w h - 1 ∨ cp w h o2 = cells w h) → ∃ w' h' o' V, ((spec_l31Crowd.j1 k2 3 l p s w h w h o2).bind fun bt => some (bt.1, bt.2.1, bt.2.2.1, bt.2.2.2.1)) = some (w', h', o', V) ∧ (1 ≤ w' ∧ w' ≤ 3) ∧ (1 ≤ h' ∧ h' ≤ 3) ∧ conn w' h' o' = true ∧ (cp w' h' o' = cells w' h' - 1 ∨ cp w' h' o' = cells w' h') ∧ crok w' h' o' V = true ∧ V.length ≤ 3 := by
    intro k2 o2 p s hk2 hp C2 h2
    obtain ⟨V, p', s', e, v1, v2, v3⟩ := crowd_j1 (w2 := w) (h2 := h) (o := o2) (s := s) hl c1 hk2 hp
    rw [e, Option.bind_some]
    exact ⟨w, h, o2, V, rfl, by omega, by omega, C2, h2, crok_iff.2 ⟨conn_mok C2, by omega, v3, v2⟩, v1⟩
  have fin0 : ∀ (p s : Int), 0 ≤ p → ∃ w' h' o' V, ((spec_l31Crowd.j0 k 3 false l p s w h w h o).bind fun bt => some (bt.1, bt.2.1, bt.2.2.1, bt.2.2.2.1)) = some (w', h', o', V) ∧ (1 ≤ w' ∧ w' ≤ 3) ∧ (1 ≤ h' ∧ h' ≤ 3) ∧ conn w' h' o' = true ∧ (cp w' h' o' = cells w' h' - 1 ∨ cp w' h' o' = cells w' h') ∧ crok w' h' o' V = true ∧ V.length ≤ 3 := by
    intro p s hp
    obtain ⟨k, rfl⟩ : ∃ q, k = q + 1 := ⟨k - 1, by omega⟩
    simp only [spec_l31Crowd.j0]
    rw [if_neg Bool.false_ne_true]
    exact fin k o p s (by omega) hp C (Or.inl hcp1)
  by_cases g0 : gaps w h > 0
  · rw [if_pos g0]
    obtain ⟨bb, p4, s4, e4, hp4⟩ := once_dr (n := 2) (s := s3) hp3 hl (by decide) (by decide)
    rw [e4, Option.bind_some]
    simp only
    cases bb with
    | false => exact fin0 p4 s4 hp4
    | true =>
      obtain ⟨k, rfl⟩ : ∃ q, k = q + 1 := ⟨k - 1, by omega⟩
      simp only [spec_l31Crowd.j0]
      rw [if_pos trivial, spec_CountGaps_eq, Option.bind_some]
      obtain ⟨g, p5, s5, e5, g1, g2, hp5⟩ := below_draw (h := s4) hp4 hl (n := gaps w h) (by omega) (by omega)
      have ig : igap w h g = true := igap_iff.2 ⟨g1, g2⟩
      rw [e5, Option.bind_some]
      simp only
      rw [spec_SetGap_in (by omega) M ig, Option.bind_some]
      refine fin k (setb o g true) p5 s5 (by omega) hp5 (conn_open C ig) ?_
      cases ho : opn o g with
      | true => rw [setb_same ms.1 g1 ho]; exact Or.inl hcp1
      | false =>
        have e : setb o g true = flip o g := by rw [← setb_flip ms.1 g1, ho]; rfl
        have := cp_up M ig ho
        rw [e]
        exact Or.inr (by omega)
  · rw [if_neg g0]
    exact fin0 p3 s3 hp3
end Go.Proofs.YtdjdleldocfpaaaDoor.F
end

section
namespace Go.Proofs.YtdjdleldocfpaaaDoor.F
open Go.RowKit Go.Proofs.YtdjdleldocfpaaaDoorW.PrintWords Go.Proofs.YtdjdleldocfpaaaDoorW.PrintLast Go.Proofs.YtdjdleldocfpaaaDoorW.PrintMore
set_option linter.unusedVariables false
set_option linter.unusedSimpArgs false
theorem sameInts_refl {l : List Int} {k : Nat} (hl : l.length ≤ 1000000000) (hk : l.length + 1 ≤ k) : laws_sameInts.f k l l = some true := by
  unfold laws_sameInts.f
  rw [if_pos rfl]
  have := all_loop (c := 0) (0 : Int) (F := fun k i => laws_sameInts.l0 k l l i) (l := l) (p := fun _ => true) (b := true)
    (fun k i _ hi => by
      simp only [laws_sameInts.l0]
      rw [if_pos (by omega), if_pos (by omega), if_pos (by omega), if_pos trivial, w64_succ hi (by omega), if_pos trivial])
    (fun k _ => by simp only [laws_sameInts.l0]; rw [if_neg (by omega)]) hk
  rw [this]; simp
end Go.Proofs.YtdjdleldocfpaaaDoor.F
end

section
namespace Go.Proofs.YtdjdleldocfpaaaDoor.F
open Go.RowKit Go.Proofs.YtdjdleldocfpaaaDoorW.PrintWords Go.Proofs.YtdjdleldocfpaaaDoorW.PrintLast Go.Proofs.YtdjdleldocfpaaaDoorW.PrintMore
set_option linter.unusedVariables false
set_option linter.unusedSimpArgs false
def frC (w h o : Int) (V : List Int) (a : Int) : List Int := ([0, 1, 2, 3] : List Int).filter fun d => (mvR w h o V a d).2
section
variable {w h o : Int} {V : List Int}
theorem frC_len (a : Int) : (frC w h o V a).length ≤ 4 := List.length_filter_le _ _
theorem fr_step {q : Nat} {a d : Int} {L : List Int} (hV : V.length ≤ 6) (hq : 50 ≤ q) (d0 : 0 ≤ d) (d3 : d ≤ 3) (hL : L.length ≤ 4) : impl_FreeNeighbors.l0 (q + 1) V a L d w h o = impl_FreeNeighbors.l0 q V a (L ++ ([d].filter fun d => (mvR w h o V a d).2)) (d + 1) w h o := by
  simp only [impl_FreeNeighbors.l0]
  rw [if_pos d3, impl_MoveOne_eq (by omega) (by omega), Option.bind_some]
  by_cases c : (mvR w h o V a d).2 = true
  · rw [if_pos c, if_pos (by omega), w64 (by omega) (by omega)]
    simp [c]
  · rw [if_neg c, w64 (by omega) (by omega)]
    simp [c]
theorem one_len (p : Int → Bool) (L : List Int) (d : Int) : (L ++ [d].filter p).length ≤ L.length + 1 := by
  rw [List.length_append]
  exact Nat.add_le_add_left (List.length_filter_le _ _) _
theorem impl_FreeNeighbors_eq {k : Nat} (hV : V.length ≤ 6) (hk : 60 ≤ k) (a : Int) : impl_FreeNeighbors.f k w h o V a = some (frC w h o V a) := by
  obtain ⟨k, rfl⟩ : ∃ q, k = q + 1 + 1 + 1 + 1 + 1 := ⟨k - 5, by omega⟩
  unfold impl_FreeNeighbors.f frC
  obtain ⟨p, hp⟩ : ∃ p : Int → Bool, p = fun d => (mvR w h o V a d).2 := ⟨_, rfl⟩
  have l1 := one_len p [] 0
  have l2 := one_len p ([] ++ [0].filter p) 1
  have l3 := one_len p (([] ++ [0].filter p) ++ [1].filter p) 2
  rw [List.length_nil] at l1
  rw [fr_step hV (by omega) (by decide) (by decide) (by simp), ← hp, show (0 : Int) + 1 = 1 from rfl, fr_step hV (by omega) (by decide) (by decide) (by omega), ← hp, show (1 : Int) + 1 = 2 from rfl, fr_step hV (by omega) (by decide) (by decide) (by omega), ← hp, show (2 : Int) + 1 = 3 from rfl, fr_step hV (by omega) (by decide) (by decide) (by omega), ← hp, show (3 : Int) + 1 = 4 from rfl]
  simp only [impl_FreeNeighbors.l0]
  rw [if_neg (by decide), List.nil_append, ← List.filter_append, ← List.filter_append, ← List.filter_append]
  rfl
theorem frC_mem (K : crok w h o V = true) {a d : Int} : d ∈ frC w h o V a ↔ ∃ X, mvR w h o V a d = (X, true) := by
  unfold frC
  rw [List.mem_filter]
  constructor
  · rintro ⟨_, e⟩
    exact ⟨_, Prod.ext rfl e⟩
  · rintro ⟨X, e⟩
    obtain ⟨_, h2, _⟩ := (mvR_iff K).1 e
    obtain ⟨_, _, _, d0, d3⟩ := st_facts h2
    exact ⟨by simp; omega, by rw [e]⟩
theorem frC_none (K : crok w h o V = true) : (∀ a : Nat, a < V.length → frC w h o V (a : Int) = []) ↔ nxC w h o V = [] := by
  constructor
  · intro H
    rw [List.eq_nil_iff_forall_not_mem]
    intro X hX
    obtain ⟨a, b, e⟩ := (mem_nxC K).1 hX
    obtain ⟨h1, _⟩ := (mvR_iff K).1 e
    have := H a.toNat (by omega)
    rw [show ((a.toNat : Nat) : Int) = a by omega] at this
    have hm : b ∈ frC w h o V a := (frC_mem K).2 ⟨X, e⟩
    rw [this] at hm
    cases hm
  · intro H a ha
    rw [List.eq_nil_iff_forall_not_mem]
    intro d hd
    obtain ⟨X, e⟩ := (frC_mem K).1 hd
    have : X ∈ nxC w h o V := (mem_nxC K).2 ⟨_, _, e⟩
    rw [H] at this
    cases this
theorem crowds_l1 (K : crok w h o V = true) (h3 : V.length ≤ 3) (h9 : cells w h ≤ 9) {a : Nat} (ha : a < V.length) (W : Int) : ∀ (r i k : Nat), i + r = (frC w h o V (a : Int)).length → 100 ≤ k →
    laws_FnCrowds.l1 (k + r + 1) V ((crs w h o V).length : Int) W (a : Int) (frC w h o V (a : Int)) (i : Int) w h o = laws_FnCrowds.l0 k V ((crs w h o V).length : Int) W ((a + 1 : Nat) : Int) w h o
  | 0, i, k, hi, hk => by
    show laws_FnCrowds.l1 (k + 1) _ _ _ _ _ _ _ _ _ = _
    simp only [laws_FnCrowds.l1]
    rw [if_neg (by omega), w64 (x := (a : Int) + 1) (by omega) (by omega), show (a : Int) + 1 = ((a + 1 : Nat) : Int) by omega]
  | r + 1, i, k, hi, hk => by
    have hlt : i < (frC w h o V (a : Int)).length := by omega
    have hd := List.getElem_mem hlt
    obtain ⟨X, e⟩ := (frC_mem K).1 hd
    obtain ⟨_, h2, _⟩ := (mvR_iff K).1 e
    obtain ⟨_, _, _, d0, d3⟩ := st_facts h2
    obtain ⟨KX, lX, eb, _⟩ := mvR_back K e
    have hm : X ∈ nxC w h o V := (mem_nxC K).2 ⟨_, _, e⟩
    have hc := crs_len K h3 (Rch.refl.step hm)
    have f4 := frC_len (w := w) (h := h) (o := o) (V := V) (a : Int)
    obtain ⟨d, hdd⟩ : ∃ d, d = (frC w h o V (a : Int))[i] := ⟨_, rfl⟩
    rw [← hdd] at e eb d0 d3
    have ih := crowds_l1 K h3 h9 ha W r (i + 1) k (by omega) hk
    have hcr : crc w h o X = ((crs w h o V).length : Int) := by unfold crc; rw [if_pos ⟨KX, by omega, h9⟩, hc]
    obtain ⟨q0, hq0⟩ : ∃ q0, q0 = k + r + 1 := ⟨_, rfl⟩
    show laws_FnCrowds.l1 ((k + r + 1) + 1) _ _ _ _ _ _ _ _ _ = _
    rw [← hq0] at ih ⊢
    simp only [laws_FnCrowds.l1]
    rw [if_pos (by omega), if_pos (by omega), rdC hlt, ← hdd, impl_MoveOne_eq (by omega) (by omega), Option.bind_some, e]
    simp only
    rw [w64 (x := d + 2) (by omega) (by omega), Int.tmod_eq_emod_of_nonneg (by omega), impl_MoveOne_eq (by omega) (by omega), Option.bind_some, eb]
    simp only
    rw [if_pos trivial, if_pos trivial, sameInts_refl (by omega) (by omega), Option.bind_some, if_pos rfl, impl_CrowdOk_eq, Option.bind_some, KX, if_pos rfl, impl_CountReached_eq, Option.bind_some, hcr, if_pos rfl, w64 (x := (i : Int) + 1) (by omega) (by omega), show (i : Int) + 1 = ((i + 1 : Nat) : Int) by omega]
    exact ih
theorem spec_J (M : mok w h o = true) : ∀ (r i k : Nat) (J : List Int), i + r = stN w h → r + r + 30 ≤ k → J.length ≤ i → ∃ J', spec_Junctions.l0 k J (i : Int) w h o = some J' ∧ J.length ≤ J'.length ∧ (J'.length = 0 → ∀ c : Nat, i ≤ c → c < stN w h → (ways w h o (c : Int)).length < 3)
  | 0, i, k, J, hi, hk, hJ => by
    obtain ⟨k, rfl⟩ : ∃ q, k = q + 2 := ⟨k - 2, by omega⟩
    have hN := stN_int w h
    simp only [spec_Junctions.l0]
    rw [spec_CountCells_eq, Option.bind_some, if_neg (by omega)]
    simp only [spec_Junctions.j1]
    rw [if_neg Bool.false_ne_true]
    exact ⟨J, rfl, Nat.le_refl _, fun _ c h1 h2 => by omega⟩
  | r + 1, i, k, J, hi, hk, hJ => by
    obtain ⟨k, rfl⟩ : ∃ q, k = q + 2 := ⟨k - 2, by omega⟩
    have hN := stN_int w h
    have hN2 := stN_le w h
    simp only [spec_Junctions.l0]
    rw [spec_CountCells_eq, Option.bind_some, if_pos (by omega), spec_MazeOk_eq, Option.bind_some]
    simp only [spec_Junctions.j1]
    rw [if_pos M, spec_WaysFrom_eq (by omega), Option.bind_some]
    by_cases c : ((ways w h o (i : Int)).length : Int) ≥ 3
    · obtain ⟨J', e1, e2, _⟩ := spec_J M r (i + 1) k (J ++ [(i : Int)]) (by omega) (by omega) (by simp; omega)
      rw [List.length_append, List.length_singleton] at e2
      rw [if_pos c, if_pos (by omega), w64 (x := (i : Int) + 1) (by omega) (by omega), show (i : Int) + 1 = ((i + 1 : Nat) : Int) by omega, e1]
      exact ⟨J', rfl, by omega, fun z => by omega⟩
    · obtain ⟨J', e1, e2, e3⟩ := spec_J M r (i + 1) k J (by omega) (by omega) (by omega)
      rw [if_neg c, w64 (x := (i : Int) + 1) (by omega) (by omega), show (i : Int) + 1 = ((i + 1 : Nat) : Int) by omega, e1]
      refine ⟨J', rfl, e2, fun z x h1 h2 => ?_⟩
      by_cases q : x = i
      · subst q; omega
      · exact e3 z x (by omega) h2
theorem deg2_of (H : ∀ c : Nat, c < stN w h → (ways w h o (c : Int)).length < 3) : deg2 w h o = true := by
  unfold deg2
  rw [List.all_eq_true]
  intro c hc
  have := mem_ints.1 hc
  have := H c.toNat (by omega)
  rw [show ((c.toNat : Nat) : Int) = c by omega] at this
  exact decide_eq_true this
theorem parts_one (C : conn w h o = true) : parts w h o = 1 := by
  unfold conn at C
  simpa using C
theorem crowds_end (hw : 1 ≤ w ∧ w ≤ 3) (hh : 1 ≤ h ∧ h ≤ 3) (C : conn w h o = true) (hc : cp w h o = cells w h - 1 ∨ cp w h o = cells w h) (K : crok w h o V = true) (h3 : V.length ≤ 3) {k : Nat} (hk : 1000 ≤ k) : laws_FnCrowds.j2 k V false w h o = some true := by
  obtain ⟨k, rfl⟩ : ∃ q, k = q + 2 := ⟨k - 2, by omega⟩
  have M := conn_mok C
  have cb := cells_bd w h
  have iV : ∀ c ∈ V, -9223372036854775808 ≤ c ∧ c ≤ 9223372036854775807 := fun c hc => by
    have := crok_c16 K c hc
    unfold c16 at this
    omega
  simp only [laws_FnCrowds.j2]
  rw [if_neg Bool.false_ne_true]
  by_cases c2 : (V.length : Int) < 2
  · rw [if_pos c2]
    simp only [laws_FnCrowds.j3]
    rw [if_pos trivial, decide_eq_true c2]
  · rw [if_neg c2, impl_CanSwap_eq (by omega) iV (by omega), Option.bind_some, impl_CanSwap_eq (by omega) iV (by omega), Option.bind_some, csw_comm]
    simp only [laws_FnCrowds.j3]
    rw [if_neg (by simp)]
    have hN2 := stN_le w h
    obtain ⟨J, e1, _, e2⟩ := spec_J M (stN w h) 0 k [] (by omega) (by omega) (by simp)
    rw [show ((0 : Nat) : Int) = 0 from rfl] at e1
    unfold spec_Junctions.f
    rw [e1, Option.bind_some]
    by_cases j0 : (J.length : Int) > 0
    · rw [if_pos j0]
    · rw [if_neg j0]
      unfold spec_CountLoops.f
      rw [spec_MazeOk_eq, Option.bind_some, if_pos M, spec_CountPassages_eq (by omega), Option.bind_some, spec_CountCells_eq, Option.bind_some, spec_CountParts_eq (by omega), Option.bind_some, Option.bind_some, parts_one C]
      rcases hc with hc | hc
      · rw [hc, w64 (x := cells w h - 1 - cells w h) (by omega) (by omega), w64 (by omega) (by omega), if_neg (by omega), impl_CanSwap_eq (by omega) iV (by omega), Option.bind_some]
        obtain ⟨L, hL⟩ := line_ok hw hh C hc (deg2_of fun c hlt => e2 (by omega) c (by omega) hlt)
        rw [line_csw hL]
        rfl
      · rw [hc, w64 (x := cells w h - cells w h) (by omega) (by omega), w64 (by omega) (by omega), if_pos (by omega)]
theorem crowds_l0 (hw : 1 ≤ w ∧ w ≤ 3) (hh : 1 ≤ h ∧ h ≤ 3) (C : conn w h o = true) (hc : cp w h o = cells w h - 1 ∨ cp w h o = cells w h) (K : crok w h o V = true) (h3 : V.length ≤ 3) (h9 : cells w h ≤ 9) : ∀ (r a k : Nat) (W : Int), a + r = V.length → 7 * r + 2000 ≤ k → 0 ≤ W → W ≤ 4 * a → (W = 0 ↔ ∀ b : Nat, b < a → frC w h o V (b : Int) = []) →
    laws_FnCrowds.l0 k V ((crs w h o V).length : Int) W (a : Int) w h o = some true
  | 0, a, k, W, ha, hk, w0, w1, hW => by
    obtain ⟨k, rfl⟩ : ∃ q, k = q + 1 := ⟨k - 1, by omega⟩
    have hl := crs_le K h3
    have h1 := crs_one K h3
    simp only [laws_FnCrowds.l0]
    rw [if_neg (by omega), if_neg (by omega)]
    have key : (((crs w h o V).length : Int) == 1) = (W == 0) := by
      rw [Bool.eq_iff_iff, beq_iff_eq, beq_iff_eq, hW]
      rw [show (a : Nat) = V.length by omega, frC_none K, ← h1]
      omega
    rw [key]
    have : ((W == 0) != (W == 0)) = false := by simp
    rw [this]
    exact crowds_end hw hh C hc K h3 (by omega)
  | r + 1, a, k, W, ha, hk, w0, w1, hW => by
    have f4 := frC_len (w := w) (h := h) (o := o) (V := V) (a : Int)
    obtain ⟨k, rfl⟩ : ∃ q, k = q + (frC w h o V (a : Int)).length + 1 + 1 := ⟨k - (frC w h o V (a : Int)).length - 2, by omega⟩
    have e1 := crowds_l1 K h3 h9 (a := a) (by omega) (wrap64 (W + ((frC w h o V (a : Int)).length : Int))) (frC w h o V (a : Int)).length 0 k (by omega) (by omega)
    have e2 := crowds_l0 hw hh C hc K h3 h9 r (a + 1) k (W + ((frC w h o V (a : Int)).length : Int)) (by omega) (by omega) (by omega) (by omega) (by
      constructor
      · intro z b hb
        by_cases q : b = a
        · subst q
          exact List.eq_nil_of_length_eq_zero (by omega)
        · exact hW.1 (by omega) b (by omega)
      · intro z
        have z1 := hW.2 fun b hb => z b (by omega)
        have z2 := z a (by omega)
        rw [z1, z2]; rfl)
    obtain ⟨q0, hq0⟩ : ∃ q0, q0 = k + (frC w h o V (a : Int)).length + 1 := ⟨_, rfl⟩
    rw [← hq0] at e1 ⊢
    simp only [laws_FnCrowds.l0]
    rw [if_pos (by omega), impl_FreeNeighbors_eq (by omega) (by omega), Option.bind_some]
    rw [show ((0 : Nat) : Int) = 0 from rfl] at e1
    rw [e1, w64 (by omega) (by omega)]
    exact e2
end
theorem FnCrowds_pure : ∀ (l0 : List (Int)), ((l0).length ≤ 9223372036854775807 ∧ ∀ y ∈ l0, 0 ≤ y ∧ y ≤ 255) → ∃ k, laws_FnCrowds.f k l0 = some true := by
  intro l hl
  refine ⟨l.length + 10000, ?_⟩
  unfold laws_FnCrowds.f laws_big.f
  rw [Option.bind_some]
  by_cases hb : (l.length : Int) > 1048576
  · rw [if_pos (decide_eq_true hb)]
  · rw [if_neg (by simpa using hb)]
    obtain ⟨w, h, o, V, e1, hw, hh, C, hc, K, h3⟩ := crowd_draw (k := l.length + 10000) (l := l) (by omega) (by omega)
    have h9 : cells w h ≤ 9 := by
      have G : gok w h = true := gok_iff.2 (by omega)
      unfold cells
      rw [if_pos G]
      have w3 : w = 1 ∨ w = 2 ∨ w = 3 := by omega
      have h3 : h = 1 ∨ h = 2 ∨ h = 3 := by omega
      rcases w3 with z | z | z <;> rcases h3 with y | y | y <;> rw [z, y] <;> decide
    rw [e1, Option.bind_some]
    simp only
    rw [impl_CountReached_eq, Option.bind_some]
    unfold crc
    rw [if_pos ⟨K, h3, h9⟩]
    exact crowds_l0 hw hh C hc K h3 h9 V.length 0 (l.length + 10000) 0 (by omega) (by omega) (by decide) (by omega) ⟨fun _ b hb => by omega, fun _ => rfl⟩
end Go.Proofs.YtdjdleldocfpaaaDoor.F
end
