/- Packed by a program of the session (wip/tools/pack.py): what the claim's theorem reaches, of the texts that wip/ and the kit's printer lay. -/
import Derived.Test.YtccjanhdnheclaaPkFnRescues9
section
namespace Go.Proofs.Ytccjanhdnheclaa.F
open Go.RowKit Go.Proofs.YtccjanhdnheclaaW.PrintWords Go.Proofs.YtccjanhdnheclaaW.PrintLast Go.Proofs.YtccjanhdnheclaaW.PrintMore
set_option linter.unusedVariables false
set_option linter.unusedSimpArgs false
def ends (w h g : Int) : Int × Int := (spec_EndsOf.f w h g).getD (0, 0)
def four : List Int := [1, 2, 3, 4]
def gaps24 : List Int := [0, 1, 2, 3, 4, 5, 6, 7, 8, 9, 10, 11, 12, 13, 14, 15, 16, 17, 18, 19, 20, 21, 22, 23]
theorem ends_all : ∀ w ∈ four, ∀ h ∈ four, ∀ g ∈ gaps24, igap w h g = true → spec_EndsOf.f w h g = some (ends w h g) ∧ icell w h (ends w h g).1 = true ∧ icell w h (ends w h g).2 = true ∧ (nb w h (ends w h g).1 1 = (ends w h g).2 ∧ gp w h (ends w h g).1 1 = g ∨ nb w h (ends w h g).1 2 = (ends w h g).2 ∧ gp w h (ends w h g).1 2 = g) := by
  decide +kernel
theorem down_all : ∀ w ∈ four, ∀ h ∈ four, ∀ c ∈ cells16, icell w h c = true → c ≠ 0 → ∃ g ∈ gaps24, igap w h g = true ∧ (ends w h g).2 = c ∧ (ends w h g).1 < c := by
  decide +kernel
theorem mem_four {w h : Int} (G : gok w h = true) : w ∈ four ∧ h ∈ four := by
  have := gok_iff.1 G
  constructor <;> simp [four] <;> omega
theorem mem_gaps24 {w h g : Int} (H : igap w h g = true) : g ∈ gaps24 := by
  have := gaps_small H
  simp [gaps24]; omega
theorem ends_spec {w h g : Int} (G : gok w h = true) (H : igap w h g = true) : spec_EndsOf.f w h g = some (ends w h g) ∧ icell w h (ends w h g).1 = true ∧ icell w h (ends w h g).2 = true ∧ (nb w h (ends w h g).1 1 = (ends w h g).2 ∧ gp w h (ends w h g).1 1 = g ∨ nb w h (ends w h g).1 2 = (ends w h g).2 ∧ gp w h (ends w h g).1 2 = g) :=
  ends_all w (mem_four G).1 h (mem_four G).2 g (mem_gaps24 H) H
theorem ends_down {w h c : Int} (G : gok w h = true) (H : icell w h c = true) (h0 : c ≠ 0) : ∃ g, igap w h g = true ∧ (ends w h g).2 = c ∧ (ends w h g).1 < c := by
  have cb := icell_iff.1 H
  have b := cells_bd w h
  obtain ⟨g, _, r⟩ := down_all w (mem_four G).1 h (mem_four G).2 c (by simp [cells16]; omega) H h0
  exact ⟨g, r⟩
theorem lnk_gap {w h o g : Int} (M : mok w h o = true) (H : igap w h g = true) (ho : opn o g = true) : lnk w h o (ends w h g).1 (ends w h g).2 := by
  have G := (mok_iff.1 M).1
  obtain ⟨_, h1, h2, h3⟩ := ends_spec G H
  have c2 := icell_iff.1 h2
  have hp : psg w h o g = true := by unfold psg; rw [M, H, ho]; rfl
  rcases h3 with ⟨a, b⟩ | ⟨a, b⟩
  · have e : st w h o (ends w h g).1 1 = (ends w h g).2 := by unfold st; rw [b, if_pos hp, a]
    have := lnk_step (w := w) (h := h) (o := o) (a := (ends w h g).1) (d := 1) (by rw [e]; exact c2.1)
    rwa [e] at this
  · have e : st w h o (ends w h g).1 2 = (ends w h g).2 := by unfold st; rw [b, if_pos hp, a]
    have := lnk_step (w := w) (h := h) (o := o) (a := (ends w h g).1) (d := 2) (by rw [e]; exact c2.1)
    rwa [e] at this
theorem countP_one {α : Type} [DecidableEq α] {p q : α → Bool} {x : α} (hp : p x = false) (hq : q x = true) (he : ∀ y, y ≠ x → p y = q y) : ∀ {l : List α}, l.Nodup → x ∈ l → l.countP q = l.countP p + 1
  | [], _, h => absurd h (by simp)
  | y :: l, hn, h => by
    rw [List.nodup_cons] at hn
    rw [List.countP_cons, List.countP_cons]
    by_cases e : y = x
    · subst e
      have : l.countP q = l.countP p := by
        rw [List.countP_eq_length_filter, List.countP_eq_length_filter]
        congr 1
        refine List.filter_congr fun z hz => (he z ?_).symm
        rintro rfl
        exact hn.1 hz
      rw [hp, hq, this]
      simp
    · have hx : x ∈ l := by
        rcases List.mem_cons.1 h with h | h
        · exact absurd h.symm e
        · exact h
      rw [countP_one hp hq he hn.2 hx, he y e]
      omega
theorem pcn_setb {o g : Int} (h0 : 0 ≤ g) (h1 : g < 24) (ho : opn o g = false) : pcn (setb o g true).toNat 24 = pcn o.toNat 24 + 1 := by
  unfold pcn
  refine countP_one (x := g.toNat) ?_ ?_ (fun y hy => ?_) List.nodup_range (by rw [List.mem_range]; omega)
  · exact ho
  · have := opn_setb (o := o) true h0 h0
    rw [if_pos rfl] at this
    exact this
  · have := opn_setb (o := o) (i := (y : Int)) true h0 (by omega)
    rw [if_neg (by omega)] at this
    unfold opn at this
    simp only [Int.toNat_natCast] at this
    exact this.symm
theorem rd_map {P : List Int} {f : Int → Int} {x : Int} (h0 : 0 ≤ x) (h1 : x < P.length) : rd (P.map f) x = f (rd P x) := by
  obtain ⟨n, rfl⟩ := Int.eq_ofNat_of_zero_le h0
  have hn : n < P.length := by omega
  rw [rd_nat, rd_nat, List.getD_eq_getElem?_getD, List.getD_eq_getElem?_getD, List.getElem?_map, List.getElem?_eq_getElem hn]
  rfl
structure TI_p (w h o : Int) (P : List Int) : Prop where
  len : P.length = stN w h
  rng : ∀ x, icell w h x = true → icell w h (rd P x) = true ∧ rd P (rd P x) = rd P x
  lk : ∀ x y, icell w h x = true → icell w h y = true → rd P x = rd P y → lnk w h o x y
  ok : mok w h o = true
  op : ∀ g, igap w h g = true → opn o g = true → rd P (ends w h g).1 = rd P (ends w h g).2
  cnt : pcn o.toNat 24 + (ints (stN w h)).countP (fun x => rd P x == x) = stN w h
theorem rd_ints {n : Nat} {x : Int} (h0 : 0 ≤ x) (h1 : x < n) : rd (ints n) x = x := by
  obtain ⟨m, rfl⟩ := Int.eq_ofNat_of_zero_le h0
  have hm : m < n := by omega
  rw [rd_nat, List.getD_eq_getElem?_getD]
  unfold ints
  rw [List.getElem?_map, List.getElem?_range hm]
  rfl
theorem ti_init {w h : Int} (G : gok w h = true) : TI_p w h 0 (ints (stN w h)) := by
  have hN := stN_int w h
  have hr : ∀ x, icell w h x = true → rd (ints (stN w h)) x = x := fun x hx => by
    have := icell_iff.1 hx
    exact rd_ints this.1 (by omega)
  refine ⟨ints_length _, fun x hx => ?_, fun x y hx hy e => ?_, ?_, fun g _ ho => ?_, ?_⟩
  · rw [hr x hx]; exact ⟨hx, hr x hx⟩
  · rw [hr x hx, hr y hy] at e; rw [e]; exact lnk_refl _ _ _ _
  · refine mok_iff.2 ⟨G, Int.le_refl _, ?_⟩
    have := gpow w h
    omega
  · unfold opn at ho; simp at ho
  · have e : (ints (stN w h)).countP (fun x => rd (ints (stN w h)) x == x) = (ints (stN w h)).length := by
      rw [List.countP_eq_length]
      intro x hx
      have := mem_ints.1 hx
      rw [rd_ints this.1 this.2]
      simp
    rw [e, ints_length]
    have : pcn (0 : Int).toNat 24 = 0 := by decide
    omega
def sub1 (old new v : Int) : Int := if v = old then new else v
theorem sub1_pos {old new v : Int} (h : v = old) : sub1 old new v = new := by unfold sub1; rw [if_pos h]
theorem sub1_neg {old new v : Int} (h : v ≠ old) : sub1 old new v = v := by unfold sub1; rw [if_neg h]
theorem ti_step {w h o g : Int} {P : List Int} (T : TI_p w h o P) (H : igap w h g = true) (hne : rd P (ends w h g).1 ≠ rd P (ends w h g).2) : TI_p w h (setb o g true) (P.map (sub1 (rd P (ends w h g).2) (rd P (ends w h g).1))) := by
  have G := (mok_iff.1 T.ok).1
  obtain ⟨_, ca, cb, _⟩ := ends_spec G H
  have hg := gaps_small H
  have M' := mok_setb true T.ok H
  have hN := stN_int w h
  have hin : ∀ x, icell w h x = true → 0 ≤ x ∧ x < P.length := fun x hx => by have := icell_iff.1 hx; have := T.len; omega
  have hr : ∀ x, icell w h x = true → rd (P.map (sub1 (rd P (ends w h g).2) (rd P (ends w h g).1))) x = sub1 (rd P (ends w h g).2) (rd P (ends w h g).1) (rd P x) := fun x hx => rd_map (hin x hx).1 (hin x hx).2
  have more : ∀ j, 0 ≤ j → opn o j = true → opn (setb o g true) j = true := fun j hj ho => by
    rw [opn_setb true hg.1 hj]
    split
    · rfl
    · exact ho
  have og : opn (setb o g true) g = true := by rw [opn_setb true hg.1 hg.1, if_pos rfl]
  have ab := lnk_gap M' H og
  obtain ⟨ra, ra2⟩ := T.rng _ ca
  obtain ⟨rb, rb2⟩ := T.rng _ cb
  generalize hA : rd P (ends w h g).1 = A at *
  generalize hB : rd P (ends w h g).2 = B at *
  refine ⟨by rw [List.length_map]; exact T.len, fun x hx => ?_, fun x y hx hy e => ?_, M', fun j hj ho => ?_, ?_⟩
  · obtain ⟨r1, r2⟩ := T.rng x hx
    rw [hr x hx]
    by_cases c : rd P x = B
    · rw [sub1_pos c]
      refine ⟨ra, ?_⟩
      rw [hr _ ra, ra2, sub1_neg hne]
    · rw [sub1_neg c]
      refine ⟨r1, ?_⟩
      rw [hr _ r1, r2, sub1_neg c]
  · rw [hr x hx, hr y hy] at e
    have lm : ∀ x y, icell w h x = true → icell w h y = true → rd P x = rd P y → lnk w h (setb o g true) x y := fun x y hx hy e => lnk_more M' more (T.lk x y hx hy e)
    unfold sub1 at e
    by_cases c1 : rd P x = B <;> by_cases c2 : rd P y = B
    · exact lm x y hx hy (c1.trans c2.symm)
    · rw [if_pos c1, if_neg c2] at e
      exact lnk_trans (lm _ _ hx cb (c1.trans hB.symm)) (lnk_trans (lnk_symm ab) (lm _ _ ca hy (hA.trans e)))
    · rw [if_neg c1, if_pos c2] at e
      exact lnk_trans (lm _ _ hx ca (e.trans hA.symm)) (lnk_trans ab (lm _ _ cb hy (hB.trans c2.symm)))
    · rw [if_neg c1, if_neg c2] at e
      exact lm x y hx hy e
  · obtain ⟨_, c1, c2, _⟩ := ends_spec G hj
    rw [hr _ c1, hr _ c2]
    rw [opn_setb true hg.1 (igap_iff.1 hj).1] at ho
    by_cases e : j = g
    · subst e
      rw [hA, hB]
      unfold sub1
      rw [if_neg hne, if_pos rfl]
    · rw [if_neg e] at ho
      rw [T.op j hj ho]
  · have ho : opn o g = false := by
      cases e : opn o g with
      | false => rfl
      | true => exact absurd (by have := T.op g H e; rw [hA, hB] at this; exact this) hne
    rw [pcn_setb hg.1 hg.2 ho]
    have hb := icell_iff.1 rb
    have key := countP_one (p := fun x => rd (P.map (sub1 B A)) x == x) (q := fun x => rd P x == x) (x := B) (l := ints (stN w h)) ?_ ?_ ?_ (by
      unfold ints
      exact List.pairwise_map.2 (List.nodup_range.imp fun h e => h (by omega))) (mem_ints.2 ⟨hb.1, by omega⟩)
    · have := T.cnt
      omega
    · show (rd (P.map (sub1 B A)) B == B) = false
      rw [hr _ rb, rb2]
      unfold sub1
      rw [if_pos rfl]
      simpa using hne
    · show (rd P B == B) = true
      rw [rb2]; simp
    · intro y hy
      show (rd (P.map (sub1 B A)) y == y) = (rd P y == y)
      by_cases cy : icell w h y = true
      · rw [hr y cy]
        unfold sub1
        by_cases c : rd P y = B
        · rw [if_pos c]
          have h1 : A ≠ y := by
            rintro rfl
            exact hne (ra2.symm.trans c)
          have h2 : rd P y ≠ y := by rw [c]; exact fun e => hy e.symm
          rw [beq_eq_false_iff_ne.2 h1, beq_eq_false_iff_ne.2 h2]
        · rw [if_neg c]
      · have hl : P.length = (P.map (sub1 B A)).length := by simp
        by_cases hy0 : 0 ≤ y
        · have hy1 : P.length ≤ y.toNat := by
            have h1 : ¬ (0 ≤ y ∧ y < cells w h) := fun z => cy (icell_iff.2 z)
            have := T.len
            omega
          unfold rd
          rw [List.getD_eq_getElem?_getD, List.getD_eq_getElem?_getD, List.getElem?_eq_none (by rw [List.length_map]; exact hy1), List.getElem?_eq_none hy1]
        · have ht : y.toNat = 0 := by omega
          have e0 : ∀ L : List Int, rd L y = rd L 0 := fun L => by unfold rd; rw [ht]; rfl
          have c0 := icell_zero G
          have n1 : ∀ z, icell w h z = true → (z == y) = false := fun z hz => by
            have := icell_iff.1 hz
            rw [beq_eq_false_iff_ne]; omega
          rw [e0, e0, n1 _ (T.rng 0 c0).1, hr 0 c0]
          unfold sub1
          split
          · exact n1 _ ra
          · exact n1 _ (T.rng 0 c0).1
theorem ti_end {w h o : Int} {P : List Int} (T : TI_p w h o P) (H : ∀ g, igap w h g = true → rd P (ends w h g).1 = rd P (ends w h g).2) : conn w h o = true ∧ ((pcn o.toNat 24 : Nat) : Int) = cells w h - 1 := by
  have G := (mok_iff.1 T.ok).1
  have c0 := icell_zero G
  have hN := stN_int w h
  have key : ∀ (n : Nat) (x : Int), x.toNat ≤ n → icell w h x = true → rd P x = rd P 0 := by
    intro n
    induction n with
    | zero =>
      intro x hx hc
      have := icell_iff.1 hc
      obtain rfl : x = 0 := by omega
      rfl
    | succ n ih =>
      intro x hx hc
      by_cases x0 : x = 0
      · rw [x0]
      · obtain ⟨g, hg, e1, e2⟩ := ends_down G hc x0
        obtain ⟨_, c1, _, _⟩ := ends_spec G hg
        have := icell_iff.1 c1
        rw [← e1, ← H g hg]
        exact ih _ (by omega) c1
  refine ⟨conn_iff.2 ⟨T.ok, fun x hx => T.lk 0 x c0 hx (key _ x (Nat.le_refl _) hx).symm⟩, ?_⟩
  have h1 : (ints (stN w h)).countP (fun x => rd P x == x) = 1 := by
    obtain ⟨r1, r2⟩ := T.rng 0 c0
    have cr := icell_iff.1 r1
    have e1 : (ints (stN w h)).countP (fun x => rd P x == x) = (ints (stN w h)).countP (fun x => x == rd P 0) := by
      rw [List.countP_eq_length_filter, List.countP_eq_length_filter]
      congr 1
      refine List.filter_congr fun x hx => ?_
      have hm := mem_ints.1 hx
      have hc : icell w h x = true := icell_iff.2 ⟨hm.1, by omega⟩
      rw [key _ x (Nat.le_refl _) hc, Bool.eq_iff_iff]
      simp only [beq_iff_eq]
      exact ⟨fun h => h.symm, fun h => h.symm⟩
    have e2 := countP_one (p := fun _ => false) (q := fun x => x == rd P 0) (x := rd P 0) (l := ints (stN w h)) rfl (by simp) (fun y hy => (beq_eq_false_iff_ne.2 hy).symm) (by
      unfold ints
      exact List.pairwise_map.2 (List.nodup_range.imp fun h e => h (by omega))) (mem_ints.2 ⟨cr.1, by omega⟩)
    rw [e1, e2]
    simp
  have := T.cnt
  omega
theorem or_shl_tr {o g : Int} (ho : 0 ≤ o) (h1 : o < 2 ^ 62) (hg : 0 ≤ g) (h2 : g < 62) : Go.bits .or .i64 o (shl .i64 1 g) = setb o g true := by
  obtain ⟨a, rfl⟩ := Int.eq_ofNat_of_zero_le ho
  obtain ⟨n, rfl⟩ := Int.eq_ofNat_of_zero_le hg
  have hp : (2 : Nat) ^ n < 2 ^ 63 := Nat.pow_lt_pow_right (by decide) (by omega)
  rw [shl_one (by omega), bits_or_i (by omega) hp]
  unfold setb
  rw [if_pos rfl]
  simp
theorem tree_l3 {w h o n f s a old new : Int} {i0 : Int} {l : List Int} {s1 s2 : Int} {P : List Int} (ha : 0 ≤ a ∧ a < P.length) (hA : rd P a = new) (hne : new ≠ old) (hP : P.length ≤ 100) : ∀ (t i k : Nat) (Q : List Int), i + t = P.length → t + 1 ≤ k → Q.length = P.length →
    (∀ j : Nat, j < P.length → rd Q (j : Int) = if j < i then sub1 old new (rd P (j : Int)) else rd P (j : Int)) →
    spec_l03Tree.l3 k n Q f s i0 a old (i : Int) l s1 s2 w h w h o = spec_l03Tree.l2 (k - t - 1) n (P.map (sub1 old new)) f s (wrap64 (i0 + 1)) l s1 s2 w h w h o
  | 0, i, k, Q, hi, hk, hl, hQ => by
    obtain ⟨m, rfl⟩ : ∃ m, k = m + 1 := ⟨k - 1, by omega⟩
    simp only [spec_l03Tree.l3]
    rw [if_neg (by omega)]
    have e : Q = P.map (sub1 old new) := by
      apply List.ext_getElem
      · rw [List.length_map, hl]
      · intro j h1 h2
        have := hQ j (by omega)
        rw [if_pos (by omega), rd_nat, rd_nat, List.getD_eq_getElem?_getD, List.getD_eq_getElem?_getD, List.getElem?_eq_getElem h1, List.getElem?_eq_getElem (by omega)] at this
        simpa using this
    rw [e]
    rfl
  | t + 1, i, k, Q, hi, hk, hl, hQ => by
    obtain ⟨m, rfl⟩ : ∃ m, k = m + 1 := ⟨k - 1, by omega⟩
    have hil : i < P.length := by omega
    have hi0 := hQ i hil
    rw [if_neg (Nat.lt_irrefl _)] at hi0
    have hqa : rd Q a = new := by
      obtain ⟨j, rfl⟩ := Int.eq_ofNat_of_zero_le ha.1
      rw [hQ j (by omega), hA]
      unfold sub1
      rw [if_neg hne]
      split <;> rfl
    simp only [spec_l03Tree.l3]
    rw [if_pos (by omega), if_pos (by omega), hi0, w64 (x := (i : Int) + 1) (by omega) (by omega)]
    have step : ∀ Q2 : List Int, Q2.length = P.length → (∀ j : Nat, j < P.length → rd Q2 (j : Int) = if j < i + 1 then sub1 old new (rd P (j : Int)) else rd P (j : Int)) → spec_l03Tree.l3 m n Q2 f s i0 a old ((i : Int) + 1) l s1 s2 w h w h o = spec_l03Tree.l2 (m + 1 - (t + 1) - 1) n (P.map (sub1 old new)) f s (wrap64 (i0 + 1)) l s1 s2 w h w h o := fun Q2 h1 h2 => by
      have := tree_l3 (w := w) (h := h) (o := o) (n := n) (f := f) (s := s) (i0 := i0) (l := l) (s1 := s1) (s2 := s2) ha hA hne hP t (i + 1) m Q2 (by omega) (by omega) h1 h2
      rw [Int.natCast_add] at this
      rw [show m + 1 - (t + 1) - 1 = m - t - 1 by omega]
      exact this
    by_cases c : rd P (i : Int) = old
    · rw [if_pos c, if_pos ha.1, if_pos (by omega), hqa]
      refine step _ (by simpa using hl) fun j hj => ?_
      rw [rd_set (by omega) (by omega) (by omega)]
      by_cases e : (j : Int) = (i : Int)
      · have e' : j = i := by omega
        subst e'
        rw [if_pos rfl, if_pos (by omega)]
        unfold sub1
        rw [if_pos c]
      · rw [if_neg e, hQ j hj]
        by_cases q : j < i
        · rw [if_pos q, if_pos (by omega)]
        · rw [if_neg q, if_neg (by omega)]
    · rw [if_neg c]
      refine step _ hl fun j hj => ?_
      rw [hQ j hj]
      by_cases e : j = i
      · subst e
        rw [if_neg (Nat.lt_irrefl _), if_pos (by omega)]
        unfold sub1
        rw [if_neg c]
      · by_cases q : j < i
        · rw [if_pos q, if_pos (by omega)]
        · rw [if_neg q, if_neg (by omega)]
def gapi (n f s i : Nat) : Int := (((f + i * s) % n : Nat) : Int)
theorem tree_l2 {w h : Int} {n f s : Nat} {l : List Int} {s1 s2 : Int} (G : gok w h = true) (hn : (n : Int) = gaps w h) (hn0 : 0 < n) (hf : f < n) (hs : s ≤ 25) : ∀ (t i k : Nat) (P : List Int) (o : Int), i + t = n → 30 * t + 30 ≤ k → TI_p w h o P → (∀ j, j < i → rd P (ends w h (gapi n f s j)).1 = rd P (ends w h (gapi n f s j)).2) →
    ∃ o' P', spec_l03Tree.l2 k (n : Int) P (f : Int) (s : Int) (i : Int) l s1 s2 w h w h o = some (w, h, o', s1, s2) ∧ TI_p w h o' P' ∧ ∀ j, j < n → rd P' (ends w h (gapi n f s j)).1 = rd P' (ends w h (gapi n f s j)).2
  | 0, i, k, P, o, hi, hk, T, hd => by
    obtain ⟨m, rfl⟩ : ∃ m, k = m + 1 := ⟨k - 1, by omega⟩
    refine ⟨o, P, ?_, T, fun j hj => hd j (by omega)⟩
    simp only [spec_l03Tree.l2]
    rw [if_neg (by omega)]
  | t + 1, i, k, P, o, hi, hk, T, hd => by
    obtain ⟨m, rfl⟩ : ∃ m, k = m + 1 := ⟨k - 1, by omega⟩
    have hb := gaps_bd w h
    have hN := stN_int w h
    have hN2 := stN_le w h
    have hl := T.len
    have hmul : i * s ≤ 24 * 25 := Nat.mul_le_mul (by omega) hs
    have e : Int.tmod (wrap64 ((f : Int) + wrap64 ((i : Int) * (s : Int)))) (n : Int) = gapi n f s i := by
      rw [show ((i : Int) * (s : Int)) = ((i * s : Nat) : Int) by simp, w64 (x := ((i * s : Nat) : Int)) (by omega) (by omega), w64 (by omega) (by omega)]
      rw [show ((f : Int) + ((i * s : Nat) : Int)) = ((f + i * s : Nat) : Int) by simp]
      unfold gapi
      rw [Int.tmod_eq_emod_of_nonneg (by omega)]
      rfl
    have hg : igap w h (gapi n f s i) = true := by
      rw [igap_iff, ← hn]
      have := Nat.mod_lt (f + i * s) hn0
      unfold gapi
      omega
    have gs := gaps_small hg
    obtain ⟨e1, c1, c2, _⟩ := ends_spec G hg
    have b1 := icell_iff.1 c1
    have b2 := icell_iff.1 c2
    have ms := mok_small T.ok
    simp only [spec_l03Tree.l2]
    rw [if_pos (by omega), if_neg (by omega), e, e1, Option.bind_some, if_pos b1.1, if_pos (by omega), if_pos b2.1, if_pos (by omega), w64 (x := (i : Int) + 1) (by omega) (by omega)]
    by_cases c : rd P (ends w h (gapi n f s i)).1 = rd P (ends w h (gapi n f s i)).2
    · rw [if_pos c]
      have := tree_l2 (l := l) (s1 := s1) (s2 := s2) G hn hn0 hf hs t (i + 1) m P o (by omega) (by omega) T (fun j hj => by
        by_cases q : j = i
        · rw [q]; exact c
        · exact hd j (by omega))
      rw [Int.natCast_add] at this
      exact this
    · rw [if_neg c, if_pos gs.1, or_shl_tr ms.1 (by omega) gs.1 (by omega)]
      have T' := ti_step T hg c
      have := tree_l3 (w := w) (h := h) (o := setb o (gapi n f s i) true) (n := n) (f := f) (s := s) (i0 := i) (l := l) (s1 := s1) (s2 := s2) (P := P) (a := (ends w h (gapi n f s i)).1) (old := rd P (ends w h (gapi n f s i)).2) (new := rd P (ends w h (gapi n f s i)).1) (by omega) rfl c (by omega) P.length 0 m P (by omega) (by omega) rfl (fun j hj => by rw [if_neg (Nat.not_lt_zero _)])
      have h3 : spec_l03Tree.l3 m (n : Int) P (f : Int) (s : Int) (i : Int) (ends w h (gapi n f s i)).1 (rd P (ends w h (gapi n f s i)).2) 0 l s1 s2 w h w h (setb o (gapi n f s i) true) = _ := this
      rw [h3, w64 (x := (i : Int) + 1) (by omega) (by omega)]
      have hmap : ∀ x, icell w h x = true → rd (P.map (sub1 (rd P (ends w h (gapi n f s i)).2) (rd P (ends w h (gapi n f s i)).1))) x = sub1 (rd P (ends w h (gapi n f s i)).2) (rd P (ends w h (gapi n f s i)).1) (rd P x) := fun x hx => by
        have := icell_iff.1 hx
        exact rd_map this.1 (by omega)
      have := tree_l2 (l := l) (s1 := s1) (s2 := s2) G hn hn0 hf hs t (i + 1) (m - P.length - 1) _ _ (by omega) (by omega) T' (fun j hj => by
        have hgj : igap w h (gapi n f s j) = true := by
          rw [igap_iff, ← hn]
          have := Nat.mod_lt (f + j * s) hn0
          unfold gapi
          omega
        obtain ⟨_, d1, d2, _⟩ := ends_spec G hgj
        rw [hmap _ d1, hmap _ d2]
        by_cases q : j = i
        · subst q
          unfold sub1
          rw [if_neg c, if_pos rfl]
        · rw [hd j (by omega)])
      rw [Int.natCast_add] at this
      exact this
def cop (s n : Int) : Option Bool := spec_l03Common.f 40 s n
def nats25 : List Nat := List.range 26
theorem cop_all : ∀ n ∈ nats25, ∀ s ∈ nats25, 0 < n → 0 < s → (cop (s : Int) (n : Int) = some true ∨ cop (s : Int) (n : Int) = some false ∧ ∃ v ∈ nats25, (v * s) % n = 1 % n) := by
  decide +kernel
theorem cop_next : ∀ n ∈ nats25, 0 < n → n ≤ 24 → cop ((n + 1 : Nat) : Int) (n : Int) = some false := by
  decide +kernel
theorem cop_more {k : Nat} {s n : Int} {b : Bool} (h : cop s n = some b) (hk : 40 ≤ k) : spec_l03Common.f k s n = some b :=
  at_rounds (g := fun k => spec_l03Common.f k s n) (fun k => spec_l03Common.mono s n k) (k := 40) hk h
theorem mod_reach {n f s v g : Nat} (hn : 0 < n) (hf : f < n) (hv : (v * s) % n = 1 % n) (hg : g < n) : ∃ i, i < n ∧ (f + i * s) % n = g := by
  refine ⟨((g + (n - f)) * v) % n, Nat.mod_lt _ hn, ?_⟩
  have e1 : (((g + (n - f)) * v) % n * s) % n = (g + (n - f)) % n := by
    rw [Nat.mod_mul_mod, Nat.mul_assoc, ← Nat.mul_mod_mod, hv, Nat.mul_mod_mod, Nat.mul_one]
  rw [← Nat.add_mod_mod, e1, Nat.add_mod_mod, show f + (g + (n - f)) = g + n by omega, Nat.add_mod_right, Nat.mod_eq_of_lt hg]
theorem tree_l1 {w h : Int} {n f : Nat} {l : List Int} {s1 s2 : Int} {P : List Int} (hn0 : 0 < n) (hn : n ≤ 24) : ∀ (t s k : Nat), s + t = n + 1 → 0 < s → t + 50 ≤ k →
    ∃ s' k', s' ≤ 25 ∧ k ≤ k' + t + 1 ∧ (∃ v, (v * s') % n = 1 % n) ∧ spec_l03Tree.l1 k (n : Int) P (f : Int) (s : Int) l s1 s2 w h w h 0 = spec_l03Tree.l2 k' (n : Int) P (f : Int) (s' : Int) 0 l s1 s2 w h w h 0
  | 0, s, k, hs, h0, hk => by
    obtain ⟨m, rfl⟩ : ∃ m, k = m + 1 := ⟨k - 1, by omega⟩
    obtain rfl : s = n + 1 := by omega
    have hc := cop_next n (by simp [nats25]; omega) hn0 hn
    have hv : ∃ v, (v * (n + 1)) % n = 1 % n := by
      rcases cop_all n (by simp [nats25]; omega) (n + 1) (by simp [nats25]; omega) hn0 (by omega) with h | ⟨_, v, _, h⟩
      · rw [hc] at h; exact absurd h (by decide)
      · exact ⟨v, h⟩
    refine ⟨n + 1, m, by omega, by omega, hv, ?_⟩
    simp only [spec_l03Tree.l1]
    rw [cop_more hc (by omega), Option.bind_some, if_neg Bool.false_ne_true]
  | t + 1, s, k, hs, h0, hk => by
    obtain ⟨m, rfl⟩ : ∃ m, k = m + 1 := ⟨k - 1, by omega⟩
    rcases cop_all n (by simp [nats25]; omega) s (by simp [nats25]; omega) hn0 h0 with hc | ⟨hc, v, _, hv⟩
    · obtain ⟨s', k', h1, h2, h3, h4⟩ := tree_l1 (w := w) (h := h) (f := f) (l := l) (s1 := s1) (s2 := s2) (P := P) hn0 hn t (s + 1) m (by omega) (by omega) (by omega)
      refine ⟨s', k', h1, by omega, h3, ?_⟩
      rw [← h4]
      simp only [spec_l03Tree.l1]
      rw [cop_more hc (by omega), Option.bind_some, if_pos rfl, w64 (by omega) (by omega)]
      rfl
    · refine ⟨s, m, by omega, by omega, ⟨v, hv⟩, ?_⟩
      simp only [spec_l03Tree.l1]
      rw [cop_more hc (by omega), Option.bind_some, if_neg Bool.false_ne_true]
theorem tree_l0 {w h n : Int} {l : List Int} {s1 s2 : Int} {N : Nat} (hN : N ≤ 100) : ∀ (t i k : Nat) (Q : List Int), i + t = N → t + 1 ≤ k → Q.length = N → (∀ j : Nat, j < i → rd Q (j : Int) = j) →
    spec_l03Tree.l0 k n Q (i : Int) l s1 s2 w h w h 0 = if n = 0 then some (w, h, 0, s1, s2) else (spec_l01Below.f l s1 s2 n).bind fun b => (spec_l01Below.f l b.2.1 b.2.2 n).bind fun c => spec_l03Tree.l1 (k - t - 1) n (ints N) b.1 (wrap64 (1 + c.1)) l c.2.1 c.2.2 w h w h 0
  | 0, i, k, Q, hi, hk, hl, hQ => by
    obtain ⟨m, rfl⟩ : ∃ m, k = m + 1 := ⟨k - 1, by omega⟩
    simp only [spec_l03Tree.l0]
    rw [if_neg (by omega)]
    have e : Q = ints N := by
      apply List.ext_getElem
      · rw [ints_length, hl]
      · intro j h1 h2
        have := hQ j (by omega)
        rw [rd_nat, List.getD_eq_getElem?_getD, List.getElem?_eq_getElem h1] at this
        simp only [ints, List.getElem_map, List.getElem_range]
        simpa using this
    rw [e]
    rfl
  | t + 1, i, k, Q, hi, hk, hl, hQ => by
    obtain ⟨m, rfl⟩ : ∃ m, k = m + 1 := ⟨k - 1, by omega⟩
    simp only [spec_l03Tree.l0]
    rw [if_pos (by omega), if_pos (by omega), w64 (by omega) (by omega)]
    have := tree_l0 (w := w) (h := h) (n := n) (l := l) (s1 := s1) (s2 := s2) hN t (i + 1) m (Q.set i (i : Int)) (by omega) (by omega) (by simpa using hl) (fun j hj => by
      have := rd_set (D := Q) (i := (i : Int)) (x := (j : Int)) (v := (i : Int)) (by omega) (by omega) (by omega)
      rw [Int.toNat_natCast] at this
      rw [this]
      by_cases e : (j : Int) = (i : Int)
      · rw [if_pos e]; exact e.symm
      · rw [if_neg e]; exact hQ j (by omega))
    rw [Int.natCast_add] at this
    rw [show m + 1 - (t + 1) - 1 = m - t - 1 by omega]
    rw [Int.toNat_natCast]
    exact this
theorem tree_draw {k : Nat} {l : List Int} {i s w h : Int} (G : gok w h = true) (hi : 0 ≤ i) (hl : l.length ≤ 1048576) (hk : 1000 ≤ k) :
    ∃ o i' s', spec_l03Tree.f k l i s w h = some (w, h, o, i', s') ∧ 0 ≤ i' ∧ conn w h o = true ∧ ((pcn o.toNat 24 : Nat) : Int) = cells w h - 1 := by
  have hN := stN_int w h
  have hN2 := stN_le w h
  have hb := gaps_bd w h
  have T0 := ti_init G
  unfold spec_l03Tree.f
  rw [spec_CountGaps_eq, Option.bind_some, spec_CountCells_eq, Option.bind_some, ← hN, if_pos (by omega), if_pos (by omega), Int.toNat_natCast]
  have e0 := tree_l0 (w := w) (h := h) (n := gaps w h) (l := l) (s1 := i) (s2 := s) (N := stN w h) (by omega) (stN w h) 0 k (List.replicate (stN w h) 0) (by omega) (by omega) (by simp) (fun j hj => absurd hj (Nat.not_lt_zero _))
  have e1 : spec_l03Tree.l0 k (gaps w h) (List.replicate (stN w h) 0) 0 l i s w h w h 0 = _ := e0
  rw [e1]
  by_cases n0 : gaps w h = 0
  · rw [if_pos n0]
    obtain ⟨q1, q2⟩ := ti_end T0 (fun g hg => by have := igap_iff.1 hg; omega)
    exact ⟨0, i, s, rfl, hi, q1, by rw [hN]; exact q2⟩
  · rw [if_neg n0]
    obtain ⟨f, i1, h1, d1, f0, f1, j1⟩ := below_draw (h := s) hi hl (n := gaps w h) (by omega) (by omega)
    obtain ⟨c, i2, h2, d2, c0, c1, j2⟩ := below_draw (h := h1) j1 hl (n := gaps w h) (by omega) (by omega)
    rw [d1, Option.bind_some, d2, Option.bind_some, w64 (by omega) (by omega)]
    simp only
    obtain ⟨n, hn⟩ := Int.eq_ofNat_of_zero_le hb.1
    obtain ⟨f, rfl⟩ := Int.eq_ofNat_of_zero_le f0
    obtain ⟨c, rfl⟩ := Int.eq_ofNat_of_zero_le c0
    rw [show (1 : Int) + (c : Int) = ((c + 1 : Nat) : Int) by omega, hn]
    obtain ⟨s', k', q1, q2, ⟨v, hv⟩, q4⟩ := tree_l1 (w := w) (h := h) (n := n) (f := f) (l := l) (s1 := i2) (s2 := h2) (P := ints (stN w h)) (by omega) (by omega) (n - c) (c + 1) (k - stN w h - 1) (by omega) (by omega) (by omega)
    rw [q4]
    obtain ⟨o, P', r1, r2, r3⟩ := tree_l2 (l := l) (s1 := i2) (s2 := h2) G (n := n) (f := f) (s := s') (by omega) (by omega) (by omega) q1 n 0 k' (ints (stN w h)) 0 (by omega) (by omega) T0 (fun j hj => absurd hj (Nat.not_lt_zero _))
    have r1' : spec_l03Tree.l2 k' (n : Int) (ints (stN w h)) (f : Int) (s' : Int) 0 l i2 h2 w h w h 0 = some (w, h, o, i2, h2) := r1
    obtain ⟨z1, z2⟩ := ti_end r2 (fun g hg => by
      have gb := igap_iff.1 hg
      obtain ⟨g, rfl⟩ := Int.eq_ofNat_of_zero_le gb.1
      obtain ⟨j, hj, e⟩ := mod_reach (n := n) (f := f) (s := s') (v := v) (g := g) (by omega) (by omega) hv (by omega)
      have := r3 j hj
      unfold gapi at this
      rw [e] at this
      exact this)
    exact ⟨o, i2, h2, r1', j2, z1, by rw [hN]; exact z2⟩
end Go.Proofs.Ytccjanhdnheclaa.F
end

section
namespace Go.Proofs.Ytccjanhdnheclaa.F
open Go.RowKit Go.Proofs.YtccjanhdnheclaaW.PrintWords Go.Proofs.YtccjanhdnheclaaW.PrintLast Go.Proofs.YtccjanhdnheclaaW.PrintMore
set_option linter.unusedVariables false
set_option linter.unusedSimpArgs false
theorem pick_draw {l L : List Int} {i s : Int} (hi : 0 ≤ i) (hl : l.length ≤ 1048576) (h0 : 0 < L.length) (h1 : L.length ≤ 256) : ∃ v i' s', spec_l01PickInt.f l i s L = some (v, i', s') ∧ v ∈ L ∧ 0 ≤ i' := by
  obtain ⟨b, i1, h1, e, b0, b1, j⟩ := below_draw (h := s) hi hl (n := (L.length : Int)) (by omega) (by omega)
  unfold spec_l01PickInt.f
  rw [e, Option.bind_some, if_pos b0, if_pos b1]
  exact ⟨_, _, _, rfl, rd_memI b0 b1, j⟩
theorem grid_draw {l : List Int} {i s : Int} (hi : 0 ≤ i) (hl : l.length ≤ 1048576) : ∃ w h i' s', spec_l02Grid.f l i s = some (w, h, i', s') ∧ gok w h = true ∧ 0 ≤ i' := by
  obtain ⟨w, i1, s1, e1, m1, j1⟩ := pick_draw (L := [1, 2, 3, 3, 4]) (s := s) hi hl (by decide) (by decide)
  obtain ⟨h, i2, s2, e2, m2, j2⟩ := pick_draw (L := [1, 2, 3, 3, 4]) (s := s1) j1 hl (by decide) (by decide)
  unfold spec_l02Grid.f
  rw [e1]
  simp only [Option.bind_some]
  rw [e2]
  simp only [Option.bind_some]
  refine ⟨_, _, _, _, rfl, gok_iff.2 ?_, j2⟩
  simp only [List.mem_cons, List.not_mem_nil, or_false] at m1 m2
  omega
end Go.Proofs.Ytccjanhdnheclaa.F
end

section
namespace Go.Proofs.Ytccjanhdnheclaa.F
open Go.RowKit Go.Proofs.YtccjanhdnheclaaW.PrintWords Go.Proofs.YtccjanhdnheclaaW.PrintLast Go.Proofs.YtccjanhdnheclaaW.PrintMore
set_option linter.unusedVariables false
set_option linter.unusedSimpArgs false
theorem cp_up {w h o g : Int} (M : mok w h o = true) (hg : igap w h g = true) (ho : opn o g = false) : cp w h (flip o g) = cp w h o + 1 := by
  have gs := gaps_small hg
  have ms := mok_small M
  unfold cp
  rw [if_pos M, if_pos (mok_flip M hg)]
  have := pcn_setb (o := o) gs.1 (by omega) ho
  have e : setb o g true = flip o g := by rw [← setb_flip ms.1 gs.1, ho]; rfl
  rw [e] at this
  omega
theorem cp_down {w h o g : Int} (M : mok w h o = true) (hg : igap w h g = true) (ho : opn o g = true) : cp w h (flip o g) + 1 = cp w h o := by
  have gs := gaps_small hg
  have M' := mok_flip M hg
  have h1 : opn (flip o g) g = false := by rw [opn_flip gs.1 gs.1, if_pos rfl, ho]; rfl
  have := cp_up M' hg h1
  have e : flip (flip o g) g = o := eq_of_opn (mok_small (mok_flip M' hg)).1 (mok_small M).1 fun i hi => by
    rw [opn_flip gs.1 hi, opn_flip gs.1 hi]
    split
    · simp
    · rfl
  rw [e] at this
  omega
end Go.Proofs.Ytccjanhdnheclaa.F
end

section
namespace Go.Proofs.Ytccjanhdnheclaa.F
open Go.RowKit Go.Proofs.YtccjanhdnheclaaW.PrintWords Go.Proofs.YtccjanhdnheclaaW.PrintLast Go.Proofs.YtccjanhdnheclaaW.PrintMore
set_option linter.unusedVariables false
set_option linter.unusedSimpArgs false
theorem en_all : ∀ w ∈ four, ∀ h ∈ four, ∀ c ∈ cells16, ∀ d ∈ ([0, 1, 2, 3] : List Int), 0 ≤ nb w h c d → ends w h (gp w h c d) = (min c (nb w h c d), max c (nb w h c d)) := by
  decide +kernel
theorem en {w h c d : Int} (H : 0 ≤ nb w h c d) : ends w h (gp w h c d) = (min c (nb w h c d), max c (nb w h c d)) := by
  obtain ⟨h1, h2, h3, h4⟩ := nb_facts H
  have G := icell_gok h1
  have c16 := icell_16 h1
  refine en_all w (mem_four G).1 h (mem_four G).2 c (by simp [cells16]; omega) d (by simp; omega) H
def cut (o g : Int) : Int := setb o g false
theorem mok_cut {w h o g : Int} (M : mok w h o = true) (hg : igap w h g = true) : mok w h (cut o g) = true := mok_setb _ M hg
theorem opn_cut {o g i : Int} (hg : 0 ≤ g) (hi : 0 ≤ i) : opn (cut o g) i = if i = g then false else opn o i := opn_setb _ hg hi
theorem cp_cut {w h o g : Int} (M : mok w h o = true) (hg : igap w h g = true) (ho : opn o g = true) : cp w h (cut o g) + 1 = cp w h o := by
  have e : cut o g = flip o g := by
    have := setb_flip (mok_small M).1 (gaps_small hg).1
    rw [ho] at this; exact this
  rw [e]
  exact cp_down M hg ho
theorem st_cut {w h o g c d : Int} (hg : igap w h g = true) (H : 0 ≤ st w h o c d) (hne : gp w h c d ≠ g) : st w h (cut o g) c d = st w h o c d := by
  obtain ⟨e, p⟩ := st_nb H
  rw [e]
  unfold psg at p
  simp only [Bool.and_eq_true] at p
  have g0 := (gaps_small hg).1
  have g1 := (gaps_small p.1.2).1
  have : psg w h (cut o g) (gp w h c d) = true := by
    unfold psg
    rw [mok_cut p.1.1 hg, p.1.2, opn_cut g0 g1, if_neg hne, p.2]; rfl
  unfold st
  rw [if_pos this]
theorem lnk_cut {w h o g c d : Int} (hg : igap w h g = true) (H : 0 ≤ st w h o c d) (hne : gp w h c d ≠ g) : lnk w h (cut o g) c (st w h o c d) := by
  have e := st_cut hg H hne
  have := lnk_step (w := w) (h := h) (o := cut o g) (a := c) (d := d) (by rw [e]; exact H)
  rwa [e] at this
theorem st_ends {w h o c d : Int} (H : 0 ≤ st w h o c d) : ends w h (gp w h c d) = (min c (st w h o c d), max c (st w h o c d)) := by
  obtain ⟨e, p⟩ := st_nb H
  rw [e] at H ⊢
  exact en H
theorem lnk_round {w h o g a b : Int} (hg : igap w h g = true) (L : lnk w h (cut o g) (ends w h g).1 (ends w h g).2) (H : lnk w h o a b) : lnk w h (cut o g) a b := by
  obtain ⟨n, H⟩ := H
  induction H with
  | nil => exact lnk_refl _ _ _ _
  | @snoc n b d hw hd ih =>
    refine lnk_trans ih ?_
    by_cases e : gp w h b d = g
    · have he := st_ends hd
      rw [e] at he
      rw [he] at L
      simp only at L
      rcases Int.le_total b (st w h o b d) with q | q
      · rw [Int.min_eq_left q, Int.max_eq_right q] at L; exact L
      · rw [Int.min_eq_right q, Int.max_eq_left q] at L; exact lnk_symm L
    · exact lnk_cut hg hd e
def pg (w h o c : Int) : Int := gp w h c (fdir w h o 0 c)
theorem pg_spec {w h o c : Int} (C : conn w h o = true) (hc : icell w h c = true) (h0 : c ≠ 0) : igap w h (pg w h o c) = true ∧ opn o (pg w h o c) = true ∧ ∃ p, ends w h (pg w h o c) = (min c p, max c p) ∧ dst w h o 0 c = dst w h o 0 p + 1 := by
  obtain ⟨M, hl⟩ := conn_iff.1 C
  have G := (mok_iff.1 M).1
  have hz := icell_zero G
  have d0 := (dst_lnk hz hc).2 (hl c hc)
  have dz : dst w h o 0 c ≠ 0 := fun e => h0 ((dst_zero hz hc).1 e)
  obtain ⟨n, hn⟩ : ∃ n : Nat, dst w h o 0 c = (n : Int) + 1 := ⟨(dst w h o 0 c - 1).toNat, by omega⟩
  obtain ⟨_, f2, f3⟩ := fdir_some hz hc hn
  obtain ⟨e, p⟩ := st_nb f2
  unfold psg at p
  simp only [Bool.and_eq_true] at p
  exact ⟨p.1.2, p.2, _, st_ends f2, by rw [hn, f3]⟩
theorem pg_inj {w h o c c' : Int} (C : conn w h o = true) (hc : icell w h c = true) (h0 : c ≠ 0) (hc' : icell w h c' = true) (h0' : c' ≠ 0) (e : pg w h o c = pg w h o c') : c = c' := by
  obtain ⟨_, _, p, e1, d1⟩ := pg_spec C hc h0
  obtain ⟨_, _, p', e2, d2⟩ := pg_spec C hc' h0'
  rw [e, e2] at e1
  injection e1 with q1 q2
  by_cases h : c = c'
  · exact h
  · have a1 : c = p' := by omega
    have a2 : c' = p := by omega
    rw [← a2] at d1
    rw [← a1] at d2
    omega
theorem conn_edges {w h o : Int} (C : conn w h o = true) : cells w h - 1 ≤ cp w h o := by
  obtain ⟨M, hl⟩ := conn_iff.1 C
  have G := (mok_iff.1 M).1
  have c1 := cells_pos G
  have hN := stN_int w h
  have key := nodup_le' (l := (List.range' 1 (stN w h - 1)).map fun i : Nat => pg w h o (i : Int)) (L := ((List.range 24).filter fun i => o.toNat.testBit i).map fun i : Nat => (i : Int)) (by
    rw [List.nodup_iff_pairwise_ne, List.pairwise_map]
    refine List.Pairwise.imp_of_mem (fun {a b} ha hb hab => ?_) (List.pairwise_lt_range' (s := 1) (n := stN w h - 1))
    intro e
    have ha := List.mem_range'_1.1 ha
    have hb := List.mem_range'_1.1 hb
    have := pg_inj C (icell_iff.2 (by omega)) (by omega) (icell_iff.2 (by omega)) (by omega) e
    omega) (fun x hx => by
    obtain ⟨i, hi, rfl⟩ := List.mem_map.1 hx
    have hi := List.mem_range'_1.1 hi
    obtain ⟨a, b, _⟩ := pg_spec C (c := (i : Int)) (icell_iff.2 (by omega)) (by omega)
    have gs := gaps_small a
    refine List.mem_map.2 ⟨(pg w h o (i : Int)).toNat, List.mem_filter.2 ⟨List.mem_range.2 (by omega), b⟩, by omega⟩)
  rw [List.length_map, List.length_map, List.length_range', ← List.countP_eq_length_filter] at key
  unfold cp
  rw [if_pos M]
  unfold pcn
  omega
def prf (w h o : Int) : Bool := conn w h o && decide (cp w h o = cells w h - 1)
theorem impl_IsPerfect_eq {k : Nat} (hk : 20 ≤ k) (w h o : Int) : impl_IsPerfect.f k w h o = some (prf w h o) := by
  unfold impl_IsPerfect.f prf
  have := cells_bd w h
  rw [impl_IsConnected_eq hk, Option.bind_some]
  cases conn w h o with
  | false => rfl
  | true =>
    rw [if_pos rfl, impl_CountPassages_eq, Option.bind_some, impl_CountCells_eq, Option.bind_some, w64 (by omega) (by omega)]
    congr 1
theorem prf_conn {w h o : Int} (P : prf w h o = true) : conn w h o = true := by unfold prf at P; simp only [Bool.and_eq_true] at P; exact P.1
theorem tree_cut {w h o g : Int} (P : prf w h o = true) (hg : igap w h g = true) (ho : opn o g = true) : ¬ lnk w h (cut o g) (ends w h g).1 (ends w h g).2 := by
  intro L
  have C := prf_conn P
  obtain ⟨M, hl⟩ := conn_iff.1 C
  have C' : conn w h (cut o g) = true := conn_iff.2 ⟨mok_cut M hg, fun x hx => lnk_round hg L (hl x hx)⟩
  have h1 := conn_edges C'
  have h2 := cp_cut M hg ho
  unfold prf at P
  simp only [Bool.and_eq_true, decide_eq_true_eq] at P
  omega
def gpsW (w h o : Int) : List Int → Int → List Int
  | [], _ => []
  | d :: W, c => gp w h c d :: gpsW w h o W (st w h o c d)
theorem gpsW_length (w h o : Int) : ∀ (W : List Int) (c : Int), (gpsW w h o W c).length = W.length
  | [], _ => rfl
  | d :: W, c => by simp [gpsW, gpsW_length w h o W]
theorem way_gap {w h o b : Int} (hb : icell w h b = true) : ∀ (n : Nat) (c : Int), icell w h c = true → dst w h o b c = n → ∀ x ∈ gpsW w h o (wayM w h o b n c) c, igap w h x = true ∧ opn o x = true ∧ dst w h o b (ends w h x).1 ≤ n ∧ dst w h o b (ends w h x).2 ≤ n
  | 0, c, _, _, x, hx => by simp [wayM, gpsW] at hx
  | n + 1, c, hc, hd, x, hx => by
    obtain ⟨_, f2, f3⟩ := fdir_some (n := n) hb hc (by rw [hd]; omega)
    simp only [wayM, gpsW, List.mem_cons] at hx
    rcases hx with rfl | hx
    · obtain ⟨e, p⟩ := st_nb f2
      unfold psg at p
      simp only [Bool.and_eq_true] at p
      refine ⟨p.1.2, p.2, ?_⟩
      rw [st_ends f2]
      simp only
      rcases Int.le_total c (st w h o c (fdir w h o b c)) with q | q
      · rw [Int.min_eq_left q, Int.max_eq_right q]; omega
      · rw [Int.min_eq_right q, Int.max_eq_left q]; omega
    · obtain ⟨a1, a2, a3, a4⟩ := way_gap hb n _ (st_facts f2).2.2.1 f3 x hx
      exact ⟨a1, a2, by omega, by omega⟩
theorem way_off {w h o b g : Int} (hb : icell w h b = true) (hg : igap w h g = true) : ∀ (n : Nat) (c : Int), icell w h c = true → dst w h o b c = n → g ∉ gpsW w h o (wayM w h o b n c) c → lnk w h (cut o g) c b
  | 0, c, hc, hd, _ => by
    have := (dst_zero (o := o) hb hc).1 (by rw [hd]; rfl)
    rw [this]; exact lnk_refl _ _ _ _
  | n + 1, c, hc, hd, hx => by
    obtain ⟨_, f2, f3⟩ := fdir_some (n := n) hb hc (by rw [hd]; omega)
    simp only [wayM, gpsW, List.mem_cons, not_or] at hx
    exact lnk_trans (lnk_cut hg f2 (fun e => hx.1 e.symm)) (way_off hb hg n _ (st_facts f2).2.2.1 f3 hx.2)
theorem way_on {w h o b g : Int} (hb : icell w h b = true) (hg : igap w h g = true) : ∀ (n : Nat) (c : Int), icell w h c = true → dst w h o b c = n → g ∈ gpsW w h o (wayM w h o b n c) c → ∃ e f, ends w h g = (min e f, max e f) ∧ lnk w h (cut o g) c e ∧ lnk w h (cut o g) f b
  | 0, c, hc, hd, hx => by simp [wayM, gpsW] at hx
  | n + 1, c, hc, hd, hx => by
    obtain ⟨_, f2, f3⟩ := fdir_some (n := n) hb hc (by rw [hd]; omega)
    have hp := (st_facts f2).2.2.1
    simp only [wayM, gpsW, List.mem_cons] at hx
    by_cases e : gp w h c (fdir w h o b c) = g
    · refine ⟨c, _, by rw [← e]; exact st_ends f2, lnk_refl _ _ _ _, way_off hb hg n _ hp f3 fun hm => ?_⟩
      obtain ⟨_, _, a3, a4⟩ := way_gap hb n _ hp f3 g hm
      rw [← e, st_ends f2] at a3 a4
      simp only at a3 a4
      rcases Int.le_total c (st w h o c (fdir w h o b c)) with q | q
      · rw [Int.min_eq_left q] at a3; omega
      · rw [Int.max_eq_left q] at a4; omega
    · rcases hx with hx | hx
      · exact absurd hx.symm e
      · obtain ⟨p, f, h1, h2, h3⟩ := way_on hb hg n _ hp f3 hx
        exact ⟨p, f, h1, lnk_trans (lnk_cut hg f2 e) h2, h3⟩
def gpsOn (w h o a b : Int) : List Int := gpsW w h o (wayOf w h o a b).1 a
theorem gpsOn_len {w h o a b : Int} : (gpsOn w h o a b).length ≤ 16 := by
  unfold gpsOn
  rw [gpsW_length]
  unfold wayOf
  split
  · rename_i H
    rw [wayM_length]
    have := dst_lt (o := o) (b := a) H.2.2.1
    omega
  · simp
theorem gpsOn_open {w h o a b x : Int} (hx : x ∈ gpsOn w h o a b) : igap w h x = true ∧ opn o x = true := by
  unfold gpsOn wayOf at hx
  split at hx
  · rename_i H
    obtain ⟨a1, a2, _⟩ := way_gap H.2.2.1 _ a H.2.1 (by omega) x hx
    exact ⟨a1, a2⟩
  · simp [gpsW] at hx
theorem gap_sep {w h o a b g : Int} (P : prf w h o = true) (ha : icell w h a = true) (hb : icell w h b = true) (hg : igap w h g = true) (ho : opn o g = true) : g ∈ gpsOn w h o a b ↔ ¬ lnk w h (cut o g) a b := by
  have C := prf_conn P
  have M := conn_mok C
  have hd := (dst_lnk hb ha).2 (conn_lnk C hb ha)
  have e : gpsOn w h o a b = gpsW w h o (wayM w h o b (dst w h o b a).toNat a) a := by
    unfold gpsOn wayOf
    rw [if_pos ⟨M, ha, hb, hd⟩]
  rw [e]
  constructor
  · intro hx L
    obtain ⟨p, f, h1, h2, h3⟩ := way_on hb hg _ a ha (by omega) hx
    have hpf : lnk w h (cut o g) p f := lnk_trans (lnk_symm h2) (lnk_trans L (lnk_symm h3))
    refine tree_cut P hg ho ?_
    rw [h1]
    simp only
    rcases Int.le_total p f with q | q
    · rw [Int.min_eq_left q, Int.max_eq_right q]; exact hpf
    · rw [Int.min_eq_right q, Int.max_eq_left q]; exact lnk_symm hpf
  · intro H
    apply Classical.byContradiction
    intro hx
    exact H (way_off hb hg _ a ha (by omega) hx)
theorem gapsOn_l0 {w h o : Int} {W : List Int} (hW : W.length ≤ 1000) : ∀ (d i k : Nat) (c : Int) (acc : List Int), i + d = W.length → d + 5 ≤ k → acc.length + d ≤ 1000000 → impl_gapsOn.l0 k c acc W (W.length : Int) (i : Int) w h o = some (acc ++ gpsW w h o (W.drop i) c)
  | 0, i, k, c, acc, hi, hk, ha => by
    obtain ⟨m, rfl⟩ : ∃ m, k = m + 1 := ⟨k - 1, by omega⟩
    simp only [impl_gapsOn.l0]
    rw [if_neg (by omega), List.drop_of_length_le (by omega)]
    simp [gpsW]
  | d + 1, i, k, c, acc, hi, hk, ha => by
    obtain ⟨m, rfl⟩ : ∃ m, k = m + 1 := ⟨k - 1, by omega⟩
    have hil : i < W.length := by omega
    have ih := gapsOn_l0 (w := w) (h := h) (o := o) hW d (i + 1) m (st w h o c (rd W (i : Int))) (acc ++ [gp w h c (rd W (i : Int))]) (by omega) (by omega) (by simp; omega)
    rw [Int.natCast_add] at ih
    simp only [impl_gapsOn.l0]
    rw [if_pos (by omega), if_pos (by omega), if_pos (by omega), impl_GapAt_eq (by omega), Option.bind_some, if_pos (by omega), impl_Step_eq (by omega), Option.bind_some, w64_succ hil (by omega), drop_rd hil]
    refine ih.trans ?_
    simp [gpsW]
theorem impl_gapsOn_eq {k : Nat} (hk : 400 ≤ k) (w h o a b : Int) : impl_gapsOn.f k w h o a b = some (gpsOn w h o a b) := by
  unfold impl_gapsOn.f
  have hl : (gpsOn w h o a b).length ≤ 16 := gpsOn_len
  unfold gpsOn at hl
  rw [gpsW_length] at hl
  have := gapsOn_l0 (w := w) (h := h) (o := o) (W := (wayOf w h o a b).1) (by omega) (wayOf w h o a b).1.length 0 k a [] (by omega) (by omega) (by simp; omega)
  rw [impl_WayBetween_eq (by omega), Option.bind_some]
  exact this
end Go.Proofs.Ytccjanhdnheclaa.F
end

section
namespace Go.Proofs.Ytccjanhdnheclaa.F
open Go.RowKit Go.Proofs.YtccjanhdnheclaaW.PrintWords Go.Proofs.YtccjanhdnheclaaW.PrintLast Go.Proofs.YtccjanhdnheclaaW.PrintMore
set_option linter.unusedVariables false
set_option linter.unusedSimpArgs false
def ordL (l : List Int) : List Int := Go.Lib.compact (l.mergeSort fun x y => decide (x ≤ y))
theorem impl_ordered_eq {l : List Int} (h : l.length < 4611686018427387904) : impl_ordered.f l = some (ordL l) := by unfold impl_ordered.f; rw [if_pos h]; rfl
theorem sorted_sort (l : List Int) : (l.mergeSort fun x y => decide (x ≤ y)).Pairwise (· ≤ ·) := by
  have := List.pairwise_mergeSort (le := fun x y : Int => decide (x ≤ y)) (fun a b c h1 h2 => by simp at *; omega) (fun a b => by simp; omega) l
  exact this.imp fun h => by simpa using h
theorem getB {s : List Int} {j : Nat} (hj : j < s.length) : s.toArray[j]! = s[j] := by
  rw [getElem!_pos s.toArray j (by simpa using hj)]; simp
theorem sorted_at {s : List Int} (S : s.Pairwise (· ≤ ·)) {i j : Nat} (h : i ≤ j) (hj : j < s.length) : s[i]'(by omega) ≤ s[j] := by
  rcases Nat.lt_or_ge i j with h | h
  · exact List.pairwise_iff_getElem.1 S i j (by omega) hj h
  · obtain rfl : i = j := by omega
    exact Int.le_refl _
theorem compact_lt {s : List Int} (S : s.Pairwise (· ≤ ·)) : (Go.Lib.compact s).Pairwise (· < ·) := by
  unfold Go.Lib.compact Go.Lib.compactUpTo
  rw [List.pairwise_map]
  have h1 : (List.range s.length).Pairwise (· < ·) := List.pairwise_lt_range
  have h2 := List.Pairwise.filter (Go.Lib.keeps s.toArray) h1
  refine h2.imp_of_mem fun {a b} ha hb hab => ?_
  have ha' := List.mem_filter.1 ha
  have hb' := List.mem_filter.1 hb
  have la := List.mem_range.1 ha'.1
  have lb := List.mem_range.1 hb'.1
  have hk := hb'.2
  unfold Go.Lib.keeps at hk
  simp only [decide_eq_true_eq] at hk
  rcases hk with hk | hk
  · omega
  · rw [getB lb, getB (show b - 1 < s.length by omega)] at hk
    rw [getB la, getB lb]
    have := sorted_at S (show a ≤ b - 1 by omega) (by omega)
    have := sorted_at S (show b - 1 ≤ b by omega) lb
    omega
theorem mem_compact {s : List Int} {x : Int} : x ∈ Go.Lib.compact s ↔ x ∈ s := by
  unfold Go.Lib.compact Go.Lib.compactUpTo
  rw [List.mem_map]
  constructor
  · rintro ⟨j, hj, rfl⟩
    have := List.mem_range.1 (List.mem_filter.1 hj).1
    rw [getB this]
    exact List.getElem_mem _
  · intro hx
    obtain ⟨j, hj, e⟩ := List.getElem_of_mem hx
    have key : ∀ (j : Nat) (hj : j < s.length), s[j] = x → ∃ a, a ∈ (List.range s.length).filter (Go.Lib.keeps s.toArray) ∧ s.toArray[a]! = x := by
      intro j
      induction j with
      | zero =>
        intro hj e
        exact ⟨0, List.mem_filter.2 ⟨List.mem_range.2 hj, by simp [Go.Lib.keeps]⟩, by rw [getB hj]; exact e⟩
      | succ j ih =>
        intro hj e
        by_cases h : s[j]'(by omega) = x
        · exact ih (by omega) h
        · refine ⟨j + 1, List.mem_filter.2 ⟨List.mem_range.2 hj, ?_⟩, by rw [getB hj]; exact e⟩
          unfold Go.Lib.keeps
          simp only [decide_eq_true_eq]
          right
          rw [getB hj, getB (show j + 1 - 1 < s.length by omega), e]
          exact fun q => h q.symm
    obtain ⟨a, h1, h2⟩ := key j hj e
    exact ⟨a, h1, h2⟩
theorem ordL_lt (l : List Int) : (ordL l).Pairwise (· < ·) := compact_lt (sorted_sort l)
theorem ordL_nodup (l : List Int) : (ordL l).Nodup := (ordL_lt l).imp fun h => by omega
theorem mem_ordL {l : List Int} {x : Int} : x ∈ ordL l ↔ x ∈ l := by unfold ordL; rw [mem_compact, List.mem_mergeSort]
end Go.Proofs.Ytccjanhdnheclaa.F
end

section
namespace Go.Proofs.Ytccjanhdnheclaa.F
open Go.RowKit Go.Proofs.YtccjanhdnheclaaW.PrintWords Go.Proofs.YtccjanhdnheclaaW.PrintLast Go.Proofs.YtccjanhdnheclaaW.PrintMore
set_option linter.unusedVariables false
set_option linter.unusedSimpArgs false
def betw (w h o a : Int) (l : List Int) : List Int := (l.map (gpsOn w h o a)).flatten
theorem betw_len (w h o a : Int) : ∀ l : List Int, (betw w h o a l).length ≤ 16 * l.length
  | [] => by simp [betw]
  | c :: l => by
    have := betw_len w h o a l
    have h1 : (gpsOn w h o a c).length ≤ 16 := gpsOn_len
    unfold betw at this ⊢
    rw [List.map_cons, List.flatten_cons, List.length_append, List.length_cons]
    omega
theorem impl_ts1 {w h o : Int} {l L : List Int} {n i : Int} {x : Int} {v : List Int} (hv : v.length ≤ 1048576) : ∀ (d j k : Nat) (acc : List Int), j + d = v.length → d + 401 ≤ k → acc.length + 16 * d ≤ 17000000000000 →
    impl_TreeSpan.l1 k l acc x L n i v (v.length : Int) (j : Int) w h o = (impl_ordered.f (acc ++ betw w h o x (v.drop j))).bind fun t => impl_TreeSpan.l0 (k - d - 1) l t L n (wrap64 (i + 1)) w h o
  | 0, j, k, acc, hj, hk, ha => by
    obtain ⟨m, rfl⟩ : ∃ m, k = m + 1 := ⟨k - 1, by omega⟩
    simp only [impl_TreeSpan.l1]
    rw [if_neg (by omega), List.drop_of_length_le (by omega)]
    simp [betw]
  | d + 1, j, k, acc, hj, hk, ha => by
    obtain ⟨m, rfl⟩ : ∃ m, k = m + 1 := ⟨k - 1, by omega⟩
    have hjl : j < v.length := by omega
    have h1 : (gpsOn w h o x (rd v (j : Int))).length ≤ 16 := gpsOn_len
    have ih := impl_ts1 (w := w) (h := h) (o := o) (l := l) (L := L) (n := n) (i := i) (x := x) hv d (j + 1) m (acc ++ gpsOn w h o x (rd v (j : Int))) (by omega) (by omega) (by rw [List.length_append]; omega)
    rw [Int.natCast_add] at ih
    simp only [impl_TreeSpan.l1]
    rw [if_pos (by omega), if_pos (by omega), if_pos (by omega), impl_gapsOn_eq (by omega), Option.bind_some, if_pos (by omega), w64_succ hjl (by omega), drop_rd hjl]
    refine ih.trans ?_
    rw [show m + 1 - (d + 1) - 1 = m - d - 1 by omega]
    unfold betw
    rw [List.map_cons, List.flatten_cons, List.append_assoc]
def gath (w h o : Int) (l : List Int) : Nat → List Int
  | 0 => []
  | i + 1 => ordL (gath w h o l i ++ betw w h o (rd l (i : Int)) (l.take i))
theorem betw_mem {w h o a g : Int} {l : List Int} : g ∈ betw w h o a l ↔ ∃ c ∈ l, g ∈ gpsOn w h o a c := by
  unfold betw
  rw [List.mem_flatten]
  constructor
  · rintro ⟨x, hx, hg⟩
    obtain ⟨c, hc, rfl⟩ := List.mem_map.1 hx
    exact ⟨c, hc, hg⟩
  · rintro ⟨c, hc, hg⟩
    exact ⟨_, List.mem_map.2 ⟨c, hc, rfl⟩, hg⟩
theorem gath_mem {w h o g : Int} {l : List Int} : ∀ i, g ∈ gath w h o l i ↔ ∃ a, a < i ∧ g ∈ betw w h o (rd l (a : Int)) (l.take a)
  | 0 => by simp [gath]
  | i + 1 => by
    unfold gath
    rw [mem_ordL, List.mem_append, gath_mem i]
    constructor
    · rintro (⟨a, h1, h2⟩ | h2)
      · exact ⟨a, by omega, h2⟩
      · exact ⟨i, by omega, h2⟩
    · rintro ⟨a, h1, h2⟩
      by_cases e : a = i
      · subst e; exact .inr h2
      · exact .inl ⟨a, by omega, h2⟩
theorem gath_nodup (w h o : Int) (l : List Int) : ∀ i, (gath w h o l i).Nodup
  | 0 => by simp [gath]
  | i + 1 => ordL_nodup _
theorem gath_len (w h o : Int) (l : List Int) (i : Nat) : (gath w h o l i).length ≤ 24 := by
  have := nodup_le' (gath_nodup w h o l i) (L := gaps24) fun g hg => by
    obtain ⟨a, _, h2⟩ := (gath_mem i).1 hg
    obtain ⟨c, _, h3⟩ := betw_mem.1 h2
    exact mem_gaps24 (gpsOn_open h3).1
  simpa [gaps24] using this
theorem impl_ts0 {w h o : Int} {l : List Int} (hl : l.length ≤ 1048576) {N : Nat} (hN : l.length + 403 ≤ N) : ∀ (d i k : Nat), i + d = l.length → (d + 1) * N ≤ k →
    impl_TreeSpan.l0 k l (gath w h o l i) l (l.length : Int) (i : Int) w h o = some ((gath w h o l l.length).length : Int)
  | 0, i, k, hi, hk => by
    have hk' : N ≤ k := by rw [Nat.zero_add, Nat.one_mul] at hk; exact hk
    obtain ⟨m, rfl⟩ : ∃ m, k = m + 1 := ⟨k - 1, by omega⟩
    obtain rfl : i = l.length := by omega
    simp only [impl_TreeSpan.l0]
    rw [if_neg (by omega)]
  | d + 1, i, k, hi, hk => by
    have hk' : (d + 1) * N + N ≤ k := by rw [← Nat.succ_mul]; exact hk
    obtain ⟨m, rfl⟩ : ∃ m, k = m + 1 := ⟨k - 1, by omega⟩
    have hil : i < l.length := by omega
    have ht : (l.take i).length = i := by rw [List.length_take]; omega
    have hg := gath_len w h o l i
    have hb := betw_len w h o (rd l (i : Int)) (l.take i)
    simp only [impl_TreeSpan.l0]
    rw [if_pos (by omega), if_pos (by omega), if_pos (by omega), if_pos (by omega), Int.toNat_natCast]
    have h1 := impl_ts1 (w := w) (h := h) (o := o) (l := l) (L := l) (n := (l.length : Int)) (i := (i : Int)) (x := rd l (i : Int)) (v := l.take i) (by omega) (l.take i).length 0 m (gath w h o l i) (by omega) (by omega) (by omega)
    rw [show ((0 : Nat) : Int) = 0 from rfl] at h1
    rw [h1, List.drop_zero, impl_ordered_eq (by rw [List.length_append]; omega), Option.bind_some, w64_succ hil (by omega)]
    have ih := impl_ts0 (w := w) (h := h) (o := o) hl hN d (i + 1) (m - (l.take i).length - 1) (by omega) (by omega)
    rw [Int.natCast_add] at ih
    exact ih
def sepB (w h o : Int) (l : List Int) (g : Int) : Bool := opn o g && l.any fun c => decide (dst w h (cut o g) (rd l 0) c < 0)
def tspan (w h o : Int) (l : List Int) : Int := if l = [] then 0 else (((List.range' 0 (gaps w h).toNat).countP fun g : Nat => sepB w h o l (g : Int) : Nat) : Int)
theorem gath_sep {w h o : Int} {l : List Int} (P : prf w h o = true) (hc : ∀ c ∈ l, icell w h c = true) (hne : l ≠ []) {g : Int} : g ∈ gath w h o l l.length ↔ igap w h g = true ∧ sepB w h o l g = true := by
  have hrd : ∀ i : Nat, i < l.length → rd l (i : Int) ∈ l := fun i hi => rd_memI (by omega) (by omega)
  have h0 : rd l 0 ∈ l := hrd 0 (List.length_pos_iff.2 hne)
  have c0 := hc _ h0
  rw [gath_mem]
  constructor
  · rintro ⟨a, ha, hg⟩
    obtain ⟨c, hcm, hg⟩ := betw_mem.1 hg
    obtain ⟨ig, og⟩ := gpsOn_open hg
    have hcl := List.mem_of_mem_take hcm
    have hs := (gap_sep P (hc _ (hrd a ha)) (hc c hcl) ig og).1 hg
    refine ⟨ig, ?_⟩
    unfold sepB
    rw [og, Bool.true_and, List.any_eq_true]
    by_cases q : lnk w h (cut o g) (rd l 0) c
    · refine ⟨rd l (a : Int), hrd a ha, decide_eq_true ?_⟩
      have : ¬ 0 ≤ dst w h (cut o g) (rd l 0) (rd l (a : Int)) := fun z => hs (lnk_trans (lnk_symm ((dst_lnk c0 (hc _ (hrd a ha))).1 z)) q)
      omega
    · refine ⟨c, hcl, decide_eq_true ?_⟩
      have : ¬ 0 ≤ dst w h (cut o g) (rd l 0) c := fun z => q ((dst_lnk c0 (hc c hcl)).1 z)
      omega
  · rintro ⟨ig, hs⟩
    unfold sepB at hs
    rw [Bool.and_eq_true, List.any_eq_true] at hs
    obtain ⟨og, c, hcl, hd⟩ := hs
    have hd := of_decide_eq_true hd
    have hn : ¬ lnk w h (cut o g) (rd l 0) c := fun z => by
      have := (dst_lnk c0 (hc c hcl)).2 z
      omega
    obtain ⟨a, ha, e⟩ := mem_rd hcl
    have ha0 : a ≠ 0 := fun q => by
      subst q
      rw [← e] at hn
      exact hn (lnk_refl _ _ _ _)
    refine ⟨a, ha, betw_mem.2 ⟨rd l 0, ?_, (gap_sep P (hc _ (hrd a ha)) c0 ig og).2 fun z => hn (by rw [← e]; exact lnk_symm z)⟩⟩
    have ht : 0 < (l.take a).length := by rw [List.length_take]; omega
    have : rd l 0 = rd (l.take a) 0 := by
      show l.getD 0 0 = (l.take a).getD 0 0
      rw [List.getD_eq_getElem?_getD, List.getD_eq_getElem?_getD, List.getElem?_take, if_pos (by omega)]
    rw [this]
    exact rd_memI (by omega) (by omega)
theorem gath_span {w h o : Int} {l : List Int} (P : prf w h o = true) (hc : ∀ c ∈ l, icell w h c = true) : ((gath w h o l l.length).length : Int) = tspan w h o l := by
  unfold tspan
  by_cases hne : l = []
  · subst hne; rfl
  · rw [if_neg hne, List.countP_eq_length_filter]
    have gb := gaps_bd w h
    have hL : (((List.range' 0 (gaps w h).toNat).filter fun g : Nat => sepB w h o l (g : Int)).map fun g : Nat => (g : Int)).Nodup := by
      rw [List.nodup_iff_pairwise_ne, List.pairwise_map]
      exact ((List.pairwise_lt_range' (s := 0) (n := (gaps w h).toNat)).filter _).imp fun h => by omega
    have h1 := nodup_le' (gath_nodup w h o l l.length) (L := ((List.range' 0 (gaps w h).toNat).filter fun g : Nat => sepB w h o l (g : Int)).map fun g : Nat => (g : Int)) fun g hg => by
      obtain ⟨ig, hs⟩ := (gath_sep P hc hne).1 hg
      have gi := igap_iff.1 ig
      refine List.mem_map.2 ⟨g.toNat, List.mem_filter.2 ⟨List.mem_range'_1.2 ⟨by omega, by omega⟩, by rw [show ((g.toNat : Nat) : Int) = g by omega]; exact hs⟩, by omega⟩
    have h2 := nodup_le' hL (L := gath w h o l l.length) fun g hg => by
      obtain ⟨i, hi, rfl⟩ := List.mem_map.1 hg
      obtain ⟨hi, hs⟩ := List.mem_filter.1 hi
      have hi := List.mem_range'_1.1 hi
      exact (gath_sep P hc hne).2 ⟨igap_iff.2 ⟨by omega, by omega⟩, hs⟩
    rw [List.length_map] at h1 h2
    omega
theorem impl_TreeSpan_eq {k : Nat} {l : List Int} (hl : l.length ≤ 1048576) (hk : (l.length + 1) * (l.length + 403) ≤ k) (w h o : Int) : impl_TreeSpan.f k w h o l = some (if prf w h o = true ∧ l.all (icell w h) = true then tspan w h o l else -1) := by
  unfold impl_TreeSpan.f
  have h400 : 400 ≤ k := Nat.le_trans (by rw [Nat.add_mul]; omega) hk
  rw [impl_IsPerfect_eq (by omega), Option.bind_some]
  cases P : prf w h o with
  | false => rw [if_neg Bool.false_ne_true, if_neg (by simp)]
  | true =>
    have M := conn_mok (prf_conn P)
    rw [if_pos rfl, impl_isIn_eq, Option.bind_some, M, Bool.true_and]
    cases A : l.all (icell w h) with
    | false => rw [if_neg Bool.false_ne_true, if_neg (by simp)]
    | true =>
      rw [if_pos rfl, if_pos ⟨rfl, rfl⟩]
      have := impl_ts0 (w := w) (h := h) (o := o) hl (Nat.le_refl _) l.length 0 k (by omega) hk
      rw [gath_span P (by simpa [List.all_eq_true] using A)] at this
      exact this
end Go.Proofs.Ytccjanhdnheclaa.F
end

section
namespace Go.Proofs.Ytccjanhdnheclaa.F
open Go.RowKit Go.Proofs.YtccjanhdnheclaaW.PrintWords Go.Proofs.YtccjanhdnheclaaW.PrintLast Go.Proofs.YtccjanhdnheclaaW.PrintMore
set_option linter.unusedVariables false
set_option linter.unusedSimpArgs false
section
variable (d : Int → Int → Int) (tc : Int → Int) (back : Int)
def rcost : Int → List Int → Int
  | c, [] => if back < 0 then 0 else d c back
  | c, i :: O => d c (tc i) + rcost (tc i) O
theorem rcost_plen : ∀ (O : List Int) (c : Int), rcost d tc back c O = plen d c (O.map tc) + if back < 0 then 0 else d (lst c (O.map tc)) back
  | [], c => by simp [rcost, plen, lst]
  | i :: O, c => by
    show d c (tc i) + rcost d tc back (tc i) O = d c (tc i) + plen d (tc i) (O.map tc) + if back < 0 then 0 else d (lst (tc i) (O.map tc)) back
    rw [rcost_plen O (tc i)]
    omega
theorem rfold_min {c : Int} {r : Int → List Int × Int} : ∀ (L : List Int) (s : List Int × Int), (∀ i ∈ L, 0 ≤ d c (tc i) ∧ 0 ≤ (r i).2) →
    (L.foldl (rstep d tc c r) s = s ∨ ∃ i ∈ L, L.foldl (rstep d tc c r) s = (i :: (r i).1, d c (tc i) + (r i).2)) ∧ (∀ i ∈ L, (L.foldl (rstep d tc c r) s).2 ≤ d c (tc i) + (r i).2 ∧ 0 ≤ (L.foldl (rstep d tc c r) s).2) ∧ (0 ≤ s.2 → (L.foldl (rstep d tc c r) s).2 ≤ s.2 ∧ 0 ≤ (L.foldl (rstep d tc c r) s).2)
  | [], s, _ => ⟨.inl rfl, fun i h => (List.not_mem_nil h).elim, fun h => ⟨Int.le_refl _, h⟩⟩
  | i :: L, s, h => by
    rw [List.foldl_cons]
    obtain ⟨d0, r0⟩ := h i List.mem_cons_self
    obtain ⟨h1, h2, h3⟩ := rfold_min L (rstep d tc c r s i) fun j hj => h j (List.mem_cons_of_mem _ hj)
    have hs : rstep d tc c r s i = s ∧ 0 ≤ s.2 ∧ s.2 ≤ d c (tc i) + (r i).2 ∨ rstep d tc c r s i = (i :: (r i).1, d c (tc i) + (r i).2) ∧ (0 ≤ s.2 → d c (tc i) + (r i).2 ≤ s.2) := by
      unfold rstep
      by_cases q : s.2 < 0 ∨ d c (tc i) + (r i).2 < s.2
      · rw [if_pos ⟨d0, r0, q⟩]; exact .inr ⟨rfl, fun _ => by omega⟩
      · rw [if_neg (fun z => q z.2.2)]; exact .inl ⟨rfl, by omega, by omega⟩
    rcases hs with ⟨e, s0, sl⟩ | ⟨e, sl⟩
    · rw [e] at h1 h2 h3 ⊢
      have h4 := h3 s0
      refine ⟨h1.imp id fun ⟨j, hj, hq⟩ => ⟨j, List.mem_cons_of_mem _ hj, hq⟩, fun j hj => ?_, fun _ => h4⟩
      rcases List.mem_cons.1 hj with rfl | hj
      · exact ⟨by omega, h4.2⟩
      · exact h2 j hj
    · rw [e] at h1 h2 h3 ⊢
      have h4 := h3 (by show 0 ≤ d c (tc i) + (r i).2; omega)
      have h5 : (L.foldl (rstep d tc c r) (i :: (r i).1, d c (tc i) + (r i).2)).2 ≤ d c (tc i) + (r i).2 := h4.1
      refine ⟨.inr ?_, fun j hj => ?_, fun s0 => ⟨by have := sl s0; omega, h4.2⟩⟩
      · rcases h1 with h1 | ⟨j, hj, hq⟩
        · exact ⟨i, List.mem_cons_self, h1⟩
        · exact ⟨j, List.mem_cons_of_mem _ hj, hq⟩
      · rcases List.mem_cons.1 hj with rfl | hj
        · exact ⟨h5, h4.2⟩
        · exact h2 j hj
variable {d tc back}
theorem wo_perm {R : List Int} (hR : R.Nodup) {i : Int} (hi : i ∈ R) : (i :: wo R i).Perm R := by
  have e : R.erase i = wo R i := hR.erase_eq_filter i
  rw [← e]
  exact (List.perm_cons_erase hi).symm
theorem wo_perm' {R O : List Int} {i : Int} (hR : R.Nodup) (h : (i :: O).Perm R) : i ∈ R ∧ O.Perm (wo R i) := by
  have hi : i ∈ R := h.mem_iff.1 List.mem_cons_self
  exact ⟨hi, (h.trans (wo_perm hR hi).symm).cons_inv⟩
theorem rbest_min {ok : Int → Prop} (hd : ∀ x y, ok x → ok y → 0 ≤ d x y) (hb : back < 0 ∨ ok back) : ∀ (n : Nat) (c : Int) (R : List Int), R.length = n → R.Nodup → ok c → (∀ i ∈ R, ok (tc i)) →
    (rbest d tc back n c R).1.Perm R ∧ (rbest d tc back n c R).2 = rcost d tc back c (rbest d tc back n c R).1 ∧ 0 ≤ (rbest d tc back n c R).2 ∧ ∀ O : List Int, O.Perm R → (rbest d tc back n c R).2 ≤ rcost d tc back c O
  | 0, c, R, hl, hn, hc, hR => by
    obtain rfl := List.eq_nil_of_length_eq_zero hl
    refine ⟨List.Perm.refl _, rfl, ?_, fun O hO => by rw [hO.eq_nil]; exact Int.le_refl _⟩
    show 0 ≤ if back < 0 then 0 else d c back
    split
    · exact Int.le_refl _
    · rename_i q; exact hd _ _ hc (hb.resolve_left q)
  | n + 1, c, R, hl, hn, hc, hR => by
    have ih := fun i (hi : i ∈ R) => rbest_min hd hb n (tc i) (wo R i) (by have := wo_length hn hi; omega) (wo_nodup hn) (hR i hi) fun j hj => hR j (mem_wo.1 hj).1
    have F := rfold_min d tc (c := c) (r := fun i => rbest d tc back n (tc i) (wo R i)) R ([], -1) fun i hi => ⟨hd _ _ hc (hR i hi), (ih i hi).2.2.1⟩
    show (R.foldl (rstep d tc c fun i => rbest d tc back n (tc i) (wo R i)) ([], -1)).1.Perm R ∧ _ = rcost d tc back c (R.foldl (rstep d tc c fun i => rbest d tc back n (tc i) (wo R i)) ([], -1)).1 ∧ 0 ≤ (R.foldl (rstep d tc c fun i => rbest d tc back n (tc i) (wo R i)) ([], -1)).2 ∧ ∀ O : List Int, O.Perm R → (R.foldl (rstep d tc c fun i => rbest d tc back n (tc i) (wo R i)) ([], -1)).2 ≤ rcost d tc back c O
    obtain ⟨h1, h2, _⟩ := F
    obtain ⟨z, hz⟩ : ∃ z, z ∈ R := by
      cases R with
      | nil => simp at hl
      | cons a R => exact ⟨a, List.mem_cons_self⟩
    have h0 := (h2 z hz).2
    rcases h1 with h1 | ⟨i, hi, h1⟩
    · rw [h1] at h0; simp at h0
    · rw [h1]
      obtain ⟨p1, p2, p3, p4⟩ := ih i hi
      refine ⟨(List.Perm.cons i p1).trans (wo_perm hn hi), ?_, by rw [h1] at h0; exact h0, fun O hO => ?_⟩
      · rw [show (rbest d tc back (n + 1) c R).2 = d c (tc i) + (rbest d tc back n (tc i) (wo R i)).2 from congrArg Prod.snd h1]
        show d c (tc i) + (rbest d tc back n (tc i) (wo R i)).2 = d c (tc i) + rcost d tc back (tc i) (rbest d tc back n (tc i) (wo R i)).1
        rw [← p2]
      · cases O with
        | nil => have := hO.length_eq; simp at this; omega
        | cons j O =>
          obtain ⟨hj, hO⟩ := wo_perm' hn hO
          have h3 := (h2 j hj).1
          rw [h1] at h3
          have h4 := (ih j hj).2.2.2 O hO
          show d c (tc i) + (rbest d tc back n (tc i) (wo R i)).2 ≤ d c (tc j) + rcost d tc back (tc j) O
          exact Int.le_trans h3 (Int.add_le_add_left h4 _)
end
def eds (w h o : Int) : List Int := ((List.range' 0 (gaps w h).toNat).map fun g : Nat => (g : Int)).filter (opn o)
theorem mem_eds {w h o g : Int} : g ∈ eds w h o ↔ igap w h g = true ∧ opn o g = true := by
  unfold eds
  rw [List.mem_filter, List.mem_map]
  have gb := gaps_bd w h
  constructor
  · rintro ⟨⟨i, hi, rfl⟩, ho⟩
    have := List.mem_range'_1.1 hi
    exact ⟨igap_iff.2 ⟨by omega, by omega⟩, ho⟩
  · rintro ⟨hi, ho⟩
    have := igap_iff.1 hi
    exact ⟨⟨g.toNat, List.mem_range'_1.2 ⟨by omega, by omega⟩, by omega⟩, ho⟩
theorem eds_nodup (w h o : Int) : (eds w h o).Nodup := by
  refine List.Pairwise.filter _ ?_
  rw [List.pairwise_map]
  exact (List.pairwise_lt_range' (s := 0) (n := (gaps w h).toNat)).imp fun h e => by omega
def sdE (w h o e c : Int) : Bool := decide (0 ≤ dst w h (cut o e) (ends w h e).1 c)
section
variable {w h o : Int}
theorem end_cells {e : Int} (P : prf w h o = true) (he : igap w h e = true) : icell w h (ends w h e).1 = true ∧ icell w h (ends w h e).2 = true := by
  have M := conn_mok (prf_conn P)
  have G : gok w h = true := (mok_iff.1 M).1
  obtain ⟨_, h1, h2, _⟩ := ends_spec G he
  exact ⟨h1, h2⟩
theorem sdE_true {e c : Int} (P : prf w h o = true) (he : igap w h e = true) (hc : icell w h c = true) : sdE w h o e c = true ↔ lnk w h (cut o e) (ends w h e).1 c := by
  unfold sdE
  rw [decide_eq_true_eq]
  exact dst_lnk (end_cells P he).1 hc
theorem side_or {e c : Int} (P : prf w h o = true) (he : igap w h e = true) (ho : opn o e = true) (hc : icell w h c = true) : lnk w h (cut o e) (ends w h e).1 c ∨ lnk w h (cut o e) (ends w h e).2 c := by
  have C := prf_conn P
  obtain ⟨h1, h2⟩ := end_cells P he
  have hd := (dst_lnk (o := o) h1 hc).2 (conn_lnk C h1 hc)
  by_cases q : e ∈ gpsW w h o (wayM w h o (ends w h e).1 (dst w h o (ends w h e).1 c).toNat c) c
  · obtain ⟨p, f, e1, h3, h4⟩ := way_on h1 he _ c hc (by omega) q
    have h3 := lnk_symm h3
    rw [e1]
    simp only
    rcases Int.le_total p f with z | z
    · rw [Int.min_eq_left z]; exact .inl h3
    · rw [Int.max_eq_left z]; exact .inr h3
  · exact .inl (lnk_symm (way_off h1 he _ c hc (by omega) q))
theorem sdE_iff {e a b : Int} (P : prf w h o = true) (he : igap w h e = true) (ho : opn o e = true) (ha : icell w h a = true) (hb : icell w h b = true) : sdE w h o e a = sdE w h o e b ↔ lnk w h (cut o e) a b := by
  constructor
  · intro hs
    rcases side_or P he ho ha with q1 | q1
    · have := (sdE_true P he ha).2 q1
      rw [hs] at this
      exact lnk_trans (lnk_symm q1) ((sdE_true P he hb).1 this)
    · rcases side_or P he ho hb with q2 | q2
      · have := (sdE_true P he hb).2 q2
        rw [← hs] at this
        exact lnk_trans (lnk_symm ((sdE_true P he ha).1 this)) q2
      · exact lnk_trans (lnk_symm q1) q2
  · intro L
    rw [Bool.eq_iff_iff, sdE_true P he ha, sdE_true P he hb]
    exact ⟨fun q => lnk_trans q L, fun q => lnk_trans q (lnk_symm L)⟩
theorem st_uncut {g c d : Int} (M : mok w h o = true) (hg : igap w h g = true) (H : 0 ≤ st w h (cut o g) c d) : st w h o c d = st w h (cut o g) c d ∧ gp w h c d ≠ g := by
  obtain ⟨e, p⟩ := st_nb H
  unfold psg at p
  simp only [Bool.and_eq_true] at p
  have g0 := (gaps_small hg).1
  have g1 := (gaps_small p.1.2).1
  rw [opn_cut g0 g1] at p
  have hne : gp w h c d ≠ g := fun q => by rw [if_pos q] at p; exact Bool.false_ne_true p.2
  rw [if_neg hne] at p
  refine ⟨?_, hne⟩
  rw [e]
  have : psg w h o (gp w h c d) = true := by
    unfold psg
    rw [M, p.1.2, p.2]; rfl
  unfold st
  rw [if_pos this]
theorem lnk_away {e f z a : Int} (P : prf w h o = true) (he : igap w h e = true) (hf : igap w h f = true) (of : opn o f = true) (hne : f ≠ e) (L : lnk w h (cut o e) z a) (N : ¬ lnk w h (cut o e) z (ends w h f).1) : lnk w h (cut o f) z a := by
  have M := conn_mok (prf_conn P)
  have g0 := (gaps_small he).1
  have g1 := (gaps_small hf).1
  have hfe : lnk w h (cut o e) (ends w h f).1 (ends w h f).2 := lnk_gap (mok_cut M he) hf (by rw [opn_cut g0 g1, if_neg hne]; exact of)
  obtain ⟨n, L⟩ := L
  induction L with
  | nil => exact lnk_refl _ _ _ _
  | @snoc n b d hw hd ih =>
    obtain ⟨e1, _⟩ := st_uncut M he hd
    have hd' : 0 ≤ st w h o b d := by rw [e1]; exact hd
    have hg : gp w h b d ≠ f := fun q => by
      have he' := st_ends hd'
      rw [q] at he'
      have hb : lnk w h (cut o e) z b := ⟨n, hw⟩
      rw [he'] at hfe N
      simp only at hfe N
      rcases Int.le_total b (st w h o b d) with x | x
      · rw [Int.min_eq_left x] at N; exact N hb
      · rw [Int.min_eq_right x, Int.max_eq_left x] at hfe; rw [Int.min_eq_right x] at N; exact N (lnk_trans hb (lnk_symm hfe))
    have := lnk_cut hf hd' hg
    rw [← e1]
    exact lnk_trans ih this
theorem sdE_lam (P : prf w h o = true) : lam (sdE w h o) (eds w h o) (fun c => icell w h c = true) := by
  intro e he f hf x a hx ha h1 h2
  obtain ⟨ie, oe⟩ := mem_eds.1 he
  obtain ⟨jf, of⟩ := mem_eds.1 hf
  by_cases q : f = e
  · subst q; exact .inl fun z _ h => h
  obtain ⟨p1, p2⟩ := end_cells P jf
  by_cases hs : sdE w h o e (ends w h f).1 = sdE w h o e x
  · refine .inl fun z hz hza => (sdE_iff P jf of hz ha).2 (lnk_away P ie jf of q ((sdE_iff P ie oe hz ha).1 hza) fun L => ?_)
    have := (sdE_iff P ie oe hz p1).2 L
    exact h1 (by rw [← hs, ← this, hza])
  · refine .inr fun z hz hza => ?_
    apply Classical.byContradiction
    intro hn
    have hzx : sdE w h o e z = sdE w h o e x := ne_ne hn h1
    have := (sdE_iff P jf of hz hx).2 (lnk_away P ie jf of q ((sdE_iff P ie oe hz hx).1 hzx) fun L => by
      have := (sdE_iff P ie oe hz p1).2 L
      exact hs (by rw [← this, hzx]))
    exact h2 (by rw [← this, hza])
theorem gpsW_nodup {b : Int} (hb : icell w h b = true) : ∀ (n : Nat) (c : Int), icell w h c = true → dst w h o b c = n → (gpsW w h o (wayM w h o b n c) c).Nodup
  | 0, c, _, _ => by simp [wayM, gpsW]
  | n + 1, c, hc, hd => by
    obtain ⟨_, f2, f3⟩ := fdir_some (n := n) hb hc (by rw [hd]; omega)
    have hp := (st_facts f2).2.2.1
    simp only [wayM, gpsW]
    refine List.nodup_cons.2 ⟨fun hm => ?_, gpsW_nodup hb n _ hp f3⟩
    obtain ⟨_, _, a3, a4⟩ := way_gap hb n _ hp f3 _ hm
    rw [st_ends f2] at a3 a4
    simp only at a3 a4
    rcases Int.le_total c (st w h o c (fdir w h o b c)) with q | q
    · rw [Int.min_eq_left q] at a3; omega
    · rw [Int.max_eq_left q] at a4; omega
theorem dst_sides {a b : Int} (P : prf w h o = true) (ha : icell w h a = true) (hb : icell w h b = true) : dd w h o a b = ((eds w h o).countP fun e => sdE w h o e a != sdE w h o e b : Nat) := by
  have C := prf_conn P
  have M := conn_mok C
  rw [dd_in M ha hb, dst_sym ha hb]
  have hd := (dst_lnk (o := o) hb ha).2 (conn_lnk C hb ha)
  have e : gpsOn w h o a b = gpsW w h o (wayM w h o b (dst w h o b a).toNat a) a := by
    unfold gpsOn wayOf
    rw [if_pos ⟨M, ha, hb, hd⟩]
  have hl : ((gpsOn w h o a b).length : Int) = dst w h o b a := by rw [e, gpsW_length, wayM_length]; omega
  have hn : (gpsOn w h o a b).Nodup := by rw [e]; exact gpsW_nodup hb _ a ha (by omega)
  rw [← hl, List.countP_eq_length_filter]
  have hm : ∀ g, g ∈ gpsOn w h o a b ↔ g ∈ (eds w h o).filter fun e => sdE w h o e a != sdE w h o e b := by
    intro g
    rw [List.mem_filter, mem_eds, bne_iff_ne]
    constructor
    · intro hg
      obtain ⟨ig, og⟩ := gpsOn_open hg
      exact ⟨⟨ig, og⟩, fun q => (gap_sep P ha hb ig og).1 hg ((sdE_iff P ig og ha hb).1 q)⟩
    · rintro ⟨⟨ig, og⟩, q⟩
      exact (gap_sep P ha hb ig og).2 fun L => q ((sdE_iff P ig og ha hb).2 L)
  have h1 := nodup_le' hn fun x hx => (hm x).1 hx
  have h2 := nodup_le' ((eds_nodup w h o).filter _) fun x hx => (hm x).2 hx
  omega
theorem tspan_sides {s : Int} {T : List Int} (P : prf w h o = true) (hs : icell w h s = true) (hT : ∀ c ∈ T, icell w h c = true) : tspan w h o (s :: T) = ((eds w h o).countP fun e => sepa (sdE w h o e) s T : Nat) := by
  unfold tspan eds
  rw [if_neg (by simp), List.countP_filter, List.countP_map]
  congr 1
  refine List.countP_congr fun g hg => ?_
  have hg := List.mem_range'_1.1 hg
  have gb := gaps_bd w h
  have ig : igap w h (g : Int) = true := igap_iff.2 ⟨by omega, by omega⟩
  show sepB w h o (s :: T) (g : Int) = true ↔ (sepa (sdE w h o (g : Int)) s T && opn o (g : Int)) = true
  unfold sepB sepa
  cases og : opn o (g : Int) with
  | false => simp
  | true =>
    rw [Bool.true_and, Bool.and_true, List.any_eq_true, List.any_eq_true]
    have key : ∀ c, icell w h c = true → (dst w h (cut o (g : Int)) s c < 0 ↔ sdE w h o (g : Int) c ≠ sdE w h o (g : Int) s) := by
      intro c hc
      rw [Ne, sdE_iff P ig og hc hs]
      have := dst_lnk (o := cut o (g : Int)) hs hc
      constructor
      · intro z L
        have := this.2 (lnk_symm L)
        omega
      · intro z
        have : ¬ 0 ≤ dst w h (cut o (g : Int)) s c := fun q => z (lnk_symm (this.1 q))
        omega
    constructor
    · rintro ⟨c, hc, hd⟩
      have hd : dst w h (cut o (g : Int)) s c < 0 := of_decide_eq_true hd
      rcases List.mem_cons.1 hc with rfl | hc
      · exact absurd rfl ((key c hs).1 hd)
      · exact ⟨c, hc, bne_iff_ne.2 ((key c (hT c hc)).1 hd)⟩
    · rintro ⟨c, hc, hd⟩
      exact ⟨c, List.mem_cons_of_mem _ hc, decide_eq_true ((key c (hT c hc)).2 (bne_iff_ne.1 hd))⟩
theorem sepa_perm {s : Int → Bool} {c : Int} {l m : List Int} (h : l.Perm m) : sepa s c l = sepa s c m := by
  unfold sepa
  rw [Bool.eq_iff_iff, List.any_eq_true, List.any_eq_true]
  exact ⟨fun ⟨x, hx, q⟩ => ⟨x, h.mem_iff.1 hx, q⟩, fun ⟨x, hx, q⟩ => ⟨x, h.mem_iff.2 hx, q⟩⟩
def farO (w h o s : Int) (T : List Int) : Int := T.foldl (fun m t => max m (dd w h o s t)) 0
theorem foldl_max (f : Int → Int) : ∀ (T : List Int) (m : Int), m ≤ T.foldl (fun m t => max m (f t)) m ∧ (∀ t ∈ T, f t ≤ T.foldl (fun m t => max m (f t)) m) ∧ (T.foldl (fun m t => max m (f t)) m = m ∨ ∃ t ∈ T, T.foldl (fun m t => max m (f t)) m = f t)
  | [], m => ⟨Int.le_refl _, fun t h => (List.not_mem_nil h).elim, .inl rfl⟩
  | t :: T, m => by
    rw [List.foldl_cons]
    obtain ⟨h1, h2, h3⟩ := foldl_max f T (max m (f t))
    refine ⟨by omega, fun x hx => ?_, ?_⟩
    · rcases List.mem_cons.1 hx with rfl | hx
      · omega
      · exact h2 x hx
    · rcases h3 with h3 | ⟨x, hx, h3⟩
      · rcases Int.le_total m (f t) with q | q
        · exact .inr ⟨t, List.mem_cons_self, by rw [h3]; omega⟩
        · exact .inl (by rw [h3]; omega)
      · exact .inr ⟨x, List.mem_cons_of_mem _ hx, h3⟩
theorem resc_tree {s : Int} {T : List Int} (P : prf w h o = true) (hs : icell w h s = true) (hT : ∀ c ∈ T, icell w h c = true) (h5 : T.length ≤ 5) (back : Int) (hb : back = -1 ∨ back = s) :
    (resc w h o s T back).1.Perm (ints T.length) ∧ (resc w h o s T back).2 = rcost (dd w h o) (rd T) back s (resc w h o s T back).1 ∧
    (resc w h o s T back).2 = if back < 0 then 2 * tspan w h o (s :: T) - farO w h o s T else 2 * tspan w h o (s :: T) := by
  have C := prf_conn P
  have M := conn_mok C
  have dnn : ∀ x y, icell w h x = true → icell w h y = true → 0 ≤ dd w h o x y := fun x y hx hy => by rw [dd_in M hx hy]; exact (dst_lnk hx hy).2 (conn_lnk C hx hy)
  have s0 := (icell_iff.1 hs).1
  have hti : ∀ i ∈ ints T.length, rd T i ∈ T := fun i hi => by
    have := mem_ints.1 hi
    exact rd_memI this.1 this.2
  have hbk : back < 0 ∨ icell w h back = true := by rcases hb with rfl | rfl; exact .inl (by decide); exact .inr hs
  have e : resc w h o s T back = rbest (dd w h o) (rd T) back T.length s (ints T.length) := by
    unfold resc
    rw [if_pos (resok_iff.2 ⟨M, hs, hT, h5⟩)]
  rw [e]
  obtain ⟨b1, b2, b3, b4⟩ := rbest_min (ok := fun c => icell w h c = true) (d := dd w h o) (tc := rd T) (back := back) dnn hbk T.length s (ints T.length) (ints_length _) (ints_nodup _) hs fun i hi => hT _ (hti i hi)
  refine ⟨b1, b2, ?_⟩
  have hmap : ∀ O : List Int, O.Perm (ints T.length) → (O.map (rd T)).Perm T := fun O hO => by
    have := hO.map (rd T)
    rwa [ints_map] at this
  have hsym : ∀ x, icell w h x = true → dd w h o x s = dd w h o s x := fun x hx => by rw [dd_in M hx hs, dd_in M hs hx]; exact dst_sym hx hs
  have hds : ∀ a b, icell w h a = true → icell w h b = true → dd w h o a b = ((eds w h o).countP fun e => sdE w h o e a != sdE w h o e b : Nat) := fun a b => dst_sides P
  have hsp := tspan_sides P hs hT
  have far := foldl_max (fun t => dd w h o s t) T 0
  have hcells : ∀ O : List Int, O.Perm (ints T.length) → ∀ z ∈ s :: O.map (rd T), icell w h z = true := fun O hO z hz => by
    rcases List.mem_cons.1 hz with rfl | hz
    · exact hs
    · exact hT z ((hmap O hO).mem_iff.1 hz)
  have hcnt : ∀ O : List Int, O.Perm (ints T.length) → ((eds w h o).countP fun e => sepa (sdE w h o e) s (O.map (rd T)) : Nat) = ((eds w h o).countP fun e => sepa (sdE w h o e) s T : Nat) := fun O hO => by
    congr 1
    funext e
    exact sepa_perm (hmap O hO)
  have low : ∀ O : List Int, O.Perm (ints T.length) → 2 * tspan w h o (s :: T) ≤ plen (dd w h o) s (O.map (rd T)) + dd w h o s (lst s (O.map (rd T))) ∧ dd w h o s (lst s (O.map (rd T))) ≤ farO w h o s T := by
    intro O hO
    have := plen_low (sdE := sdE w h o) (E := eds w h o) (ok := fun c => icell w h c = true) hds (hcells O hO)
    rw [hcnt O hO, ← hsp] at this
    refine ⟨this, ?_⟩
    rcases List.mem_cons.1 (lst_mem (O.map (rd T)) s) with q | q
    · rw [q, dd_in M hs hs, dst_self hs]; exact far.1
    · exact far.2.1 _ ((hmap O hO).mem_iff.1 q)
  have up : ∃ O : List Int, O.Perm (ints T.length) ∧ 2 * tspan w h o (s :: T) = plen (dd w h o) s (O.map (rd T)) + dd w h o s (lst s (O.map (rd T))) ∧ dd w h o s (lst s (O.map (rd T))) = farO w h o s T := by
    by_cases hne : T = []
    · subst hne
      refine ⟨[], List.Perm.refl _, ?_, ?_⟩
      · rw [hsp]
        have : dd w h o s s = 0 := by rw [dd_in M hs hs, dst_self hs]
        simp [plen, lst, sepa, this]
      · show dd w h o s s = 0
        rw [dd_in M hs hs, dst_self hs]
    · -- a farthest one
      obtain ⟨v, hv, hvf⟩ : ∃ v ∈ ints T.length, dd w h o s (rd T v) = farO w h o s T := by
        have pos : 0 < T.length := List.length_pos_iff.2 hne
        rcases far.2.2 with q | ⟨t, ht, q⟩
        · have h0 := far.2.1 (rd T 0) (rd_memI (by omega) (by omega))
          refine ⟨0, mem_ints.2 ⟨by omega, by omega⟩, ?_⟩
          have := dnn s (rd T 0) hs (hT _ (rd_memI (by omega) (by omega)))
          unfold farO
          omega
        · obtain ⟨j, hj, rfl⟩ := mem_rd ht
          exact ⟨j, mem_ints.2 ⟨by omega, by omega⟩, q.symm⟩
      obtain ⟨O, hp, ho, hl⟩ := opt_all (rd T) (sdE_lam P) (c := s) hs v (hT _ (hti v hv)) (wo (ints T.length) v) fun z hz => hT _ (hti z (mem_wo.1 hz).1)
      have hO : O.Perm (ints T.length) := hp.trans (wo_perm (ints_nodup _) hv)
      refine ⟨O, hO, ?_, by rw [hl]; exact hvf⟩
      have := plen_opt (sdE := sdE w h o) (E := eds w h o) (ok := fun c => icell w h c = true) hds (hcells O hO) ho
      rwa [hcnt O hO, ← hsp] at this
  obtain ⟨O, hO, u1, u2⟩ := up
  have hmin := b4 O hO
  have hlw := low _ b1
  rw [rcost_plen] at hmin b2
  by_cases hneg : back < 0
  · rw [if_pos hneg] at hmin b2 ⊢
    omega
  · obtain rfl : back = s := by rcases hb with rfl | rfl; exact absurd (by decide) hneg; rfl
    rw [if_neg hneg] at hmin b2 ⊢
    have l1 := hsym _ (hcells O hO _ (lst_mem _ _))
    have l2 := hsym _ (hcells _ b1 _ (lst_mem _ _))
    omega
end
end Go.Proofs.Ytccjanhdnheclaa.F
end

section
namespace Go.Proofs.Ytccjanhdnheclaa.F
open Go.RowKit Go.Proofs.YtccjanhdnheclaaW.PrintWords Go.Proofs.YtccjanhdnheclaaW.PrintLast Go.Proofs.YtccjanhdnheclaaW.PrintMore
set_option linter.unusedVariables false
set_option linter.unusedSimpArgs false
theorem laws_has_eq {l : List Int} {k : Nat} (hl : l.length ≤ 1000000000) (hk : l.length + 1 ≤ k) (c : Int) : laws_has.f k l c = some (l.contains c) := by
  unfold laws_has.f
  have key : ∀ (d i k : Nat), i + d = l.length → d + 1 ≤ k → laws_has.l0 k l c (i : Int) = some ((l.drop i).contains c) := by
    intro d
    induction d with
    | zero =>
      intro i k hi hk
      obtain ⟨m, rfl⟩ : ∃ m, k = m + 1 := ⟨k - 1, by omega⟩
      simp only [laws_has.l0]
      rw [if_neg (by omega), List.drop_of_length_le (by omega)]
      rfl
    | succ d ih =>
      intro i k hi hk
      obtain ⟨m, rfl⟩ : ∃ m, k = m + 1 := ⟨k - 1, by omega⟩
      have hil : i < l.length := by omega
      have e : rd l (i : Int) = l[i] := by rw [rd_nat, List.getD_eq_getElem?_getD, List.getElem?_eq_getElem hil]; rfl
      simp only [laws_has.l0]
      rw [if_pos (by omega), if_pos (by omega), e, w64_succ hil (by omega), List.drop_eq_getElem_cons hil, List.contains_cons]
      by_cases q : l[i] = c
      · rw [if_pos q]
        simp [q]
      · rw [if_neg q]
        have := ih (i + 1) m (by omega) (by omega)
        rw [Int.natCast_add] at this
        refine this.trans ?_
        have : (c == l[i]) = false := beq_eq_false_iff_ne.2 (fun e => q e.symm)
        rw [this, Bool.false_or]
  have := key l.length 0 k (by omega) (by omega)
  simpa using this
end Go.Proofs.Ytccjanhdnheclaa.F
end

section
namespace Go.Proofs.Ytccjanhdnheclaa.F
open Go.RowKit Go.Proofs.YtccjanhdnheclaaW.PrintWords Go.Proofs.YtccjanhdnheclaaW.PrintLast Go.Proofs.YtccjanhdnheclaaW.PrintMore
set_option linter.unusedVariables false
set_option linter.unusedSimpArgs false
theorem targets_draw {w h o : Int} {l : List Int} {n : Int} (G : gok w h = true) (hl : l.length ≤ 1048576) (hn : n ≤ 4) : ∀ (d k : Nat) (i : Int) (a s : Int) (acc : List Int), i + d = n → 0 ≤ i → d + 1 ≤ k → (acc.length : Int) = i → 0 ≤ a → (∀ c ∈ acc, icell w h c = true) →
    ∃ T a' s', spec_l34Targets.l0 k acc n i l a s w h o = some (T, a', s') ∧ (T.length : Int) = n ∧ ∀ c ∈ T, icell w h c = true
  | 0, k, i, a, s, acc, hi, h0, hk, ha, ja, hc => by
    obtain ⟨m, rfl⟩ : ∃ m, k = m + 1 := ⟨k - 1, by omega⟩
    refine ⟨acc, a, s, ?_, by omega, hc⟩
    simp only [spec_l34Targets.l0]
    rw [if_neg (by omega)]
  | d + 1, k, i, a, s, acc, hi, h0, hk, ha, ja, hc => by
    obtain ⟨m, rfl⟩ : ∃ m, k = m + 1 := ⟨k - 1, by omega⟩
    have gg := gok_iff.1 G
    have hN := stN_int w h
    have hN2 := stN_le w h
    have c1 : 1 ≤ cells w h := cells_pos G
    have hmx : mx 1 (cells w h) = cells w h := by rw [mx_max]; omega
    obtain ⟨b, i2, s2, e2, b0, b1, j2⟩ := below_draw (h := s) ja hl (n := cells w h) c1 (by omega)
    obtain ⟨T, a', s', e, h1, h2⟩ := targets_draw (o := o) G hl hn d m (i + 1) i2 s2 (acc ++ [b]) (by omega) (by omega) (by omega) (by simp; omega) j2 fun c hc' => by
      rcases List.mem_append.1 hc' with q | q
      · exact hc c q
      · obtain rfl := List.mem_singleton.1 q
        exact icell_iff.2 ⟨b0, b1⟩
    refine ⟨T, a', s', ?_, h1, h2⟩
    simp only [spec_l34Targets.l0]
    rw [if_pos (by omega), spec_CountCells_eq, Option.bind_some, hmx, e2, Option.bind_some]
    simp only
    rw [if_pos (by omega), w64 (by omega) (by omega)]
    exact e
theorem rescue_draw {k : Nat} {l : List Int} (hl : l.length ≤ 1048576) (hk : l.length + 1100 ≤ k) : ∃ w h o s T, spec_DrawRescue.f k l = some (w, h, o, s, T) ∧ prf w h o = true ∧ icell w h s = true ∧ T.length ≤ 4 ∧ ∀ c ∈ T, icell w h c = true := by
  obtain ⟨h0, e0⟩ := new_draw (k := k) hl (by omega)
  obtain ⟨w, h, i1, s1, e1, G, j1⟩ := grid_draw (s := h0) (i := 0) (by omega) hl
  obtain ⟨o, i2, s2, e2, j2, C, hp⟩ := tree_draw (k := k) (l := l) (i := i1) (s := s1) G j1 hl (by omega)
  have M := conn_mok C
  have P : prf w h o = true := by
    unfold prf cp
    rw [C, if_pos M, Bool.true_and]
    exact decide_eq_true hp
  have hN := stN_int w h
  have hN2 := stN_le w h
  have c1 : 1 ≤ cells w h := cells_pos G
  obtain ⟨s, i3, s3, e3, b0, b1, j3⟩ := below_draw (h := s2) j2 hl (n := cells w h) c1 (by omega)
  obtain ⟨n, i4, s4, e4, n0, n1, j4⟩ := below_draw (h := s3) j3 hl (n := 5) (by decide) (by decide)
  obtain ⟨T, i5, s5, e5, h1, h2⟩ := targets_draw (o := o) G hl (n := n) (by omega) n.toNat k 0 i4 s4 [] (by omega) (by omega) (by omega) rfl j4 (fun c hc => (List.not_mem_nil hc).elim)
  refine ⟨w, h, o, s, T, ?_, P, icell_iff.2 ⟨b0, b1⟩, by omega, h2⟩
  have et : spec_l05Tree.f k l 0 h0 = some (w, h, o, i2, s2) := by
    unfold spec_l05Tree.f
    rw [e1, Option.bind_some]
    simp only
    rw [e2, Option.bind_some]
  have eT : spec_l34Targets.f k l i3 s3 w h o 4 = some (T, i5, s5) := by
    unfold spec_l34Targets.f
    rw [w64 (by decide) (by decide), show (4 + 1 : Int) = 5 from rfl, e4, Option.bind_some]
    exact e5
  unfold spec_DrawRescue.f
  rw [e0, Option.bind_some]
  simp only
  rw [et, Option.bind_some]
  simp only
  rw [spec_CountCells_eq, Option.bind_some, e3, Option.bind_some]
  simp only
  rw [eT, Option.bind_some]
theorem plen_rng {w h o : Int} (M : mok w h o = true) : ∀ (l : List Int) (c : Int), icell w h c = true → (∀ x ∈ l, icell w h x = true) → -1 * (l.length : Int) ≤ plen (dd w h o) c l ∧ plen (dd w h o) c l ≤ 16 * (l.length : Int)
  | [], c, _, _ => by simp [plen]
  | x :: l, c, hc, hx => by
    have ih := plen_rng M l x (hx x List.mem_cons_self) fun y hy => hx y (List.mem_cons_of_mem _ hy)
    have h1 := dst_lt (o := o) (b := x) hc
    have h2 := dst_bd (o := o) hc (hx x List.mem_cons_self)
    show _ ≤ dd w h o c x + plen (dd w h o) x l ∧ dd w h o c x + plen (dd w h o) x l ≤ _
    rw [dd_in M hc (hx x List.mem_cons_self), List.length_cons]
    omega
theorem resc_l0 {w h o s : Int} {T : List Int} {span : Int} (P : prf w h o = true) (hs : icell w h s = true) (hT : ∀ c ∈ T, icell w h c = true) (h4 : T.length ≤ 4) (k0 : Nat) (hk0 : 300 ≤ k0)
    (hend : ∀ k, k0 ≤ k → ∀ far, far = farO w h o s T → laws_FnRescues.l0 (k + 1) s T span far (T.length : Int) w h o = some true) :
    ∀ (d i k : Nat), i + d = T.length → d + k0 + 1 ≤ k → laws_FnRescues.l0 k s T span ((T.take i).foldl (fun m t => max m (dd w h o s t)) 0) (i : Int) w h o = some true
  | 0, i, k, hi, hk => by
    obtain ⟨m, rfl⟩ : ∃ m, k = m + 1 := ⟨k - 1, by omega⟩
    obtain rfl : i = T.length := by omega
    exact hend m (by omega) _ (by rw [List.take_length]; rfl)
  | d + 1, i, k, hi, hk => by
    obtain ⟨m, rfl⟩ : ∃ m, k = m + 1 := ⟨k - 1, by omega⟩
    have hil : i < T.length := by omega
    have ih := resc_l0 P hs hT h4 k0 hk0 hend d (i + 1) m (by omega) (by omega)
    have e : (T.take (i + 1)).foldl (fun m t => max m (dd w h o s t)) 0 = max ((T.take i).foldl (fun m t => max m (dd w h o s t)) 0) (dd w h o s (rd T (i : Int))) := by
      rw [← List.take_append_getElem hil, List.foldl_append, List.foldl_cons, List.foldl_nil]
      congr 2
      rw [rd_nat, List.getD_eq_getElem?_getD, List.getElem?_eq_getElem hil]
      rfl
    simp only [laws_FnRescues.l0]
    rw [if_pos (by omega), if_pos (by omega), spec_DistanceOf_eq (by omega), Option.bind_some, w64_succ hil (by omega)]
    have hm : mx ((T.take i).foldl (fun m t => max m (dd w h o s t)) 0) (dd w h o s (rd T (i : Int))) = max ((T.take i).foldl (fun m t => max m (dd w h o s t)) 0) (dd w h o s (rd T (i : Int))) := by
      rw [mx_max]
    rw [hm, ← e]
    rw [Int.natCast_add] at ih
    exact ih
theorem resc_l1 {w h o s : Int} {T O : List Int} {span far n : Int} (M : mok w h o = true) (h4 : T.length ≤ 4) (hO : O.length ≤ 5) (hOT : ∀ c ∈ O, c ∈ T) (hT : ∀ c ∈ T, icell w h c = true) (k0 : Nat) (hk0 : 300 ≤ k0)
    (hend : ∀ k, k0 ≤ k → ∀ cell, laws_FnRescues.l1 (k + 1) s T span far n O n cell (O.length : Int) w h o = some true) (d : Nat) :
    ∀ (i k : Nat) (sum cell : Int), i + d = O.length → d + k0 + 1 ≤ k → icell w h cell = true → -(i : Int) ≤ sum → sum ≤ 1000 - 17 * (d : Int) → sum + plen (dd w h o) cell (O.drop i) = n → laws_FnRescues.l1 k s T span far n O sum cell (i : Int) w h o = some true := by
  induction d with
  | zero =>
    intro i k sum cell hi hk hc s0 s1 hs
    obtain ⟨m, rfl⟩ : ∃ m, k = m + 1 := ⟨k - 1, by omega⟩
    have e : i = O.length := by omega
    subst e
    rw [List.drop_length] at hs
    have e2 : sum = n := by
      have : plen (dd w h o) cell [] = 0 := rfl
      omega
    rw [e2]
    exact hend m (by omega) _
  | succ d ih =>
    intro i k sum cell hi hk hc s0 s1 hs
    obtain ⟨m, rfl⟩ : ∃ m, k = m + 1 := ⟨k - 1, by omega⟩
    have hil : i < O.length := by omega
    have hm : rd O (i : Int) ∈ O := rd_memI (by omega) (by omega)
    have hcell := hT _ (hOT _ hm)
    have hd : O.drop i = rd O (i : Int) :: O.drop (i + 1) := drop_rd hil
    rw [hd] at hs
    have hs : sum + (dd w h o cell (rd O (i : Int)) + plen (dd w h o) (rd O (i : Int)) (O.drop (i + 1))) = n := hs
    have q1 := dst_lt (o := o) (b := rd O (i : Int)) hc
    have q2 := dst_bd (o := o) hc hcell
    have q3 := dd_in (o := o) M hc hcell
    rw [← q3] at q1 q2
    clear q3
    have hh : T.contains (rd O (i : Int)) = true := by rw [List.contains_iff_mem]; exact hOT _ hm
    have c1 : (i : Int) < (O.length : Int) := by omega
    have c2 : (0 : Int) ≤ (i : Int) := by omega
    have ih' := ih (i + 1) m (sum + dd w h o cell (rd O (i : Int))) (rd O (i : Int)) (by omega) (by omega) hcell (by omega) (by omega) (by omega)
    have e1 := laws_has_eq (l := T) (k := m) (by omega) (by omega) (rd O (i : Int))
    have e2 := spec_DistanceOf_eq (w := w) (h := h) (o := o) (k := m) (by omega) cell (rd O (i : Int))
    have e3 : wrap64 (sum + dd w h o cell (rd O (i : Int))) = sum + dd w h o cell (rd O (i : Int)) := w64 (by omega) (by omega)
    have e4 := w64_succ hil (by omega)
    simp only [laws_FnRescues.l1]
    rw [if_pos c1, if_pos c2, e1, Option.bind_some, if_pos hh, e2, Option.bind_some, e3, e4]
    rw [Int.natCast_add] at ih'
    exact ih'
theorem FnRescues_pure : ∀ (l0 : List (Int)), ((l0).length ≤ 9223372036854775807 ∧ ∀ y ∈ l0, 0 ≤ y ∧ y ≤ 255) → ∃ k, laws_FnRescues.f k l0 = some true := by
  intro l hl
  obtain ⟨K, hK⟩ : ∃ K, K = l.length + 10000 := ⟨_, rfl⟩
  refine ⟨K, ?_⟩
  unfold laws_FnRescues.f laws_big.f
  rw [Option.bind_some]
  by_cases hbig : (l.length : Int) > 1048576
  · rw [if_pos (by simpa using hbig)]
  · rw [if_neg (by simpa using hbig)]
    obtain ⟨w, h, o, s, T, e, P, hs, h4, hT⟩ := rescue_draw (k := K) (l := l) (by omega) (by omega)
    have C := prf_conn P
    have M := conn_mok C
    rw [e, Option.bind_some]
    simp only [Option.bind_some]
    rw [if_pos (by simp; omega), impl_TreeSpan_eq (by simp; omega) (by simp only [List.length_append, List.length_singleton]; exact Nat.le_trans (Nat.mul_le_mul (show 1 + T.length + 1 ≤ 6 by omega) (show 1 + T.length + 403 ≤ 408 by omega)) (by omega)), Option.bind_some]
    have hall : prf w h o = true ∧ ([s] ++ T).all (icell w h) = true := ⟨P, by simp [hs]; exact hT⟩
    rw [if_pos hall]
    show laws_FnRescues.l0 K s T (tspan w h o (s :: T)) ((T.take 0).foldl (fun m t => max m (dd w h o s t)) 0) ((0 : Nat) : Int) w h o = some true
    obtain ⟨r1, r2, r3⟩ := resc_tree P hs hT (by omega) (-1) (.inl rfl)
    obtain ⟨t1, t2, t3⟩ := resc_tree P hs hT (by omega) s (.inr rfl)
    have s0 := (icell_iff.1 hs).1
    rw [if_pos (by decide)] at r3
    rw [if_neg (by omega)] at t3
    have hO : (rord w h o s T).Perm T := by
      have := r1.map (rd T)
      rwa [ints_map] at this
    have hOl := hO.length_eq
    have hpl : plen (dd w h o) s (rord w h o s T) = (resc w h o s T (-1)).2 := by
      rw [r2, rcost_plen, if_pos (by decide)]; unfold rord; omega
    have hrng := plen_rng M (rord w h o s T) s hs fun c hc => hT c (hO.mem_iff.1 hc)
    have hsp := tspan_sides P hs hT
    have hct : ((eds w h o).countP fun e => sepa (sdE w h o e) s T) ≤ (eds w h o).length := List.countP_le_length
    have hel : (eds w h o).length ≤ 24 := by
      have := nodup_le' (eds_nodup w h o) (L := gaps24) fun g hg => mem_gaps24 (mem_eds.1 hg).1
      exact this
    have t0 : 0 ≤ tspan w h o (s :: T) ∧ tspan w h o (s :: T) ≤ 24 := by rw [hsp]; omega
    have far := foldl_max (fun t => dd w h o s t) T 0
    have fr : farO w h o s T = T.foldl (fun m t => max m (dd w h o s t)) 0 := rfl
    have f16 : 0 ≤ farO w h o s T ∧ farO w h o s T ≤ 16 := by
      refine ⟨far.1, ?_⟩
      rcases far.2.2 with q | ⟨t, ht, q⟩
      · rw [fr, q]; decide
      · rw [fr, q, dd_in M hs (hT t ht)]
        have := dst_lt (o := o) (b := t) hs
        omega
    refine resc_l0 P hs hT h4 8000 (by omega) ?_ T.length 0 K (by omega) (by omega)
    intro k hk far' hfar
    simp only [laws_FnRescues.l0]
    have i1 : impl_RescueLength.f w h o s T = some (resc w h o s T (-1)).2 := by
      unfold impl_RescueLength.f
      rw [impl_rescue_eq, Option.bind_some, if_neg (by decide)]
    have i2 : impl_ReturnLength.f w h o s T = some (resc w h o s T s).2 := by
      unfold impl_ReturnLength.f
      rw [impl_rescue_eq, Option.bind_some, if_pos rfl]
    rw [if_neg (by omega), i1, Option.bind_some, impl_RescueOrder_eq (by omega), Option.bind_some, if_pos (by omega)]
    refine resc_l1 (span := tspan w h o (s :: T)) (far := far') (n := (resc w h o s T (-1)).2) M h4 (by omega) (fun c hc => hO.mem_iff.1 hc) hT 7000 (by omega) ?_ (rord w h o s T).length 0 k 0 s (by omega) (by omega) hs (by omega) (by omega) (by rw [List.drop_zero, hpl]; omega)
    intro k' hk' cell
    simp only [laws_FnRescues.l1]
    rw [if_neg (by omega), w64 (x := 2 * tspan w h o (s :: T)) (by omega) (by omega), w64 (x := 2 * tspan w h o (s :: T) - far') (by omega) (by omega), if_pos (by rw [r3, hfar]), i2, Option.bind_some, if_pos t3]
    simp
end Go.Proofs.Ytccjanhdnheclaa.F
end
