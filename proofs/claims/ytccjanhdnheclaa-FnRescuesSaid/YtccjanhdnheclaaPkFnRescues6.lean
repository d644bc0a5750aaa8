/- Packed by a program of the session (wip/tools/pack.py): what the claim's theorem reaches, of the texts that wip/ and the kit's printer lay. -/
import Derived.Test.YtccjanhdnheclaaPkFnRescues5
section
namespace Go.Proofs.Ytccjanhdnheclaa.F
open Go.RowKit Go.Proofs.YtccjanhdnheclaaW.PrintWords Go.Proofs.YtccjanhdnheclaaW.PrintLast Go.Proofs.YtccjanhdnheclaaW.PrintMore
set_option linter.unusedVariables false
set_option linter.unusedSimpArgs false
theorem W1 : (∀ x t, gT (x :: t) 0 = x) ∧ (∀ x t n, gT (x :: t) (n + 1) = gT t n) ∧ (∀ x t y, sT (x :: t) 0 y = y :: t) ∧ (∀ x t n y, sT (x :: t) (n + 1) y = x :: sT t n y) ∧
    (∀ t d y, pT t (some d) y = sT t d y) ∧ (∀ t y, pT t none y = t) ∧ (∀ t i, eT t (.tmp i) = gT t i) ∧ (∀ t x, eT t (.const x) = .v x) ∧
    (∀ i b s j, gS ((i, b) :: s) j = if i = j then some b else gS s j) ∧ (∀ j b, uS [] j b = [(j, b)]) ∧ (∀ i c s j b, uS ((i, c) :: s) j b = if i = j then (j, b) :: s else (i, c) :: uS s j b) ∧
    (∀ j, dS [] j = []) ∧ (∀ i c s j, dS ((i, c) :: s) j = if i = j then dS s j else (i, c) :: dS s j) ∧
    (∀ cs, AV.cells (.ag cs) = cs) ∧ (∀ x, AV.cells (.v x) = [.v x]) ∧ (∀ i, AV.cells (.lo i) = [.lo i]) ∧ (∀ i o, AV.cells (.bp i o) = [.bp i o]) ∧ (∀ z l, AV.cells (.pr z l) = [.pr z l]) ∧
    (∀ n x l, tk (n + 1) (x :: l) = x :: tk n l) ∧ (∀ l, tk 0 l = []) ∧ (∀ n x l, dp (n + 1) (x :: l) = dp n l) ∧ (∀ l, dp 0 l = l) ∧ (∀ x l, hd1 (x :: l) = x) ∧
    (∀ n cs, cutA true n cs = .ag (tk n cs)) ∧ (∀ n cs, cutA false n cs = hd1 cs) ∧ (∀ n l, putA n [] l = l) ∧ (∀ y ys x l, putA 0 (y :: ys) (x :: l) = y :: putA 0 ys l) ∧ (∀ n y ys x l, putA (n + 1) (y :: ys) (x :: l) = x :: putA n (y :: ys) l) ∧
    (vs [] = []) ∧ (∀ x l, vs (x :: l) = .v x :: vs l) ∧ (unv [] = []) ∧ (∀ x l, unv (.v x :: l) = x :: unv l) := by
  refine ⟨?_, ?_, ?_, ?_, ?_, ?_, ?_, ?_, ?_, ?_, ?_, ?_, ?_, ?_, ?_, ?_, ?_, ?_, ?_, ?_, ?_, ?_, ?_, ?_, ?_, ?_, ?_, ?_, ?_, ?_, ?_, ?_⟩ <;> intros <;> try rfl
  · rename_i n l; cases n <;> cases l <;> rfl
theorem W2 : (∀ s, toPL s [] = []) ∧ (∀ s c cs, toPL s (c :: cs) = toP s c :: toPL s cs) ∧ (∀ s cs, toP s (.ag cs) = .ag (toPL s cs)) ∧ (∀ s k n, toP s (.v (.int k n)) = .v (.int k n)) ∧ (∀ s b, toP s (.v (.bool b)) = .v (.bool b)) ∧
    (∀ s b, toP s (.v (.string b)) = .v (.string b)) ∧ (∀ s, toP s (.v (.slice none 0 0)) = .pr 1 []) ∧ (∀ s z x, toP s (.pr z x) = .pr z x) ∧
    (∀ s, toRL s [] = []) ∧ (∀ s c cs, toRL s (c :: cs) = toR s c :: toRL s cs) ∧ (∀ s cs, toR s (.ag cs) = .ag (toRL s cs)) ∧ (∀ s cs, toR s (.tu cs) = .tu (toRL s cs)) ∧ (∀ s x, toR s (.v x) = .v x) ∧
    (∀ n e z x, im n (.ow e z x) = (.lo n, [(n, .row e z x)], n + 1)) ∧ (∀ n x, im n (.v x) = (.v x, [], n)) ∧ (∀ n cs, im n (.ag cs) = (.ag (imL n cs).1, (imL n cs).2)) ∧ (∀ n cs, im n (.tu cs) = (.tu (imL n cs).1, (imL n cs).2)) ∧
    (∀ n, imL n [] = ([], [], n)) ∧ (∀ n c cs, imL n (c :: cs) = ((im n c).1 :: (imL (im n c).2.2 cs).1, (im n c).2.1 ++ (imL (im n c).2.2 cs).2.1, (imL (im n c).2.2 cs).2.2)) := by
  refine ⟨?_, ?_, ?_, ?_, ?_, ?_, ?_, ?_, ?_, ?_, ?_, ?_, ?_, ?_, ?_, ?_, ?_, ?_, ?_⟩ <;> intros <;> rfl
section
variable (P : Program) (ty : TypeId → Option TI)
theorem W3 : (∀ Q t s, EW P ty .skip Q t s = Q .normal t s) ∧ (∀ i l Q t s, EW P ty (.region i ⟨l⟩ false) Q t s = opsW P ty (gds l) false l t s (kN Q)) ∧ (∀ i l Q t s, EW P ty (.region i ⟨l⟩ true) Q t s = (dchk l t s = true ∧ opsW P ty (gds l) true l t s (kN Q))) ∧ (∀ a b Q t s, EW P ty (.seq a b) Q t s = EW P ty a (kS P ty b Q) t s) ∧
    (∀ c x y Q t s, EW P ty (.cond c x y) Q t s = cdK P ty (eT t c) x y Q t s) ∧ (∀ i b Q t s, EW P ty (.block i b) Q t s = EW P ty b (kB i Q) t s) ∧ (∀ i Q t s, EW P ty (.exit i) Q t s = Q (.exit i) t s) ∧ (∀ Q t s, EW P ty .ret Q t s = Q .ret t s) ∧
    (∀ b Q t s, EW P ty (.loop b) Q t s = loopK P ty b Q t s) ∧
    (∀ Q t s, kN Q t s = Q .normal t s) ∧ (∀ b Q t s, kS P ty b Q .normal t s = EW P ty b Q t s) ∧ (∀ b Q i t s, kS P ty b Q (.exit i) t s = Q (.exit i) t s) ∧ (∀ b Q t s, kS P ty b Q .ret t s = Q .ret t s) ∧
    (∀ j i Q t s, kB j Q (.exit i) t s = if i = j then Q .normal t s else Q (.exit i) t s) ∧ (∀ j Q t s, kB j Q .normal t s = Q .normal t s) ∧ (∀ j Q t s, kB j Q .ret t s = Q .ret t s) ∧
    (∀ x y Q t s, cdK P ty (.v (.bool true)) x y Q t s = EW P ty x Q t s) ∧ (∀ x y Q t s, cdK P ty (.v (.bool false)) x y Q t s = EW P ty y Q t s) ∧
    (∀ g q t s K, opsW P ty g q [] t s K = K t s) ∧ (∀ g q d op o p a r t s K, opsW P ty g q (⟨d, op, o, p, a, none⟩ :: r) t s K = opX P ty (q && rot (ty o) op) op o d t s (kO P ty g (q && rot (ty o) op) r K)) ∧
    (∀ g q d op o p a i b r t s K, opsW P ty g q (⟨d, op, o, p, a, some (i, b)⟩ :: r) t s K = gdK P ty (gV t (gG g i)) b (q && rot (ty o) op) op o d g r t s K) ∧ (∀ g q r K t s, kO P ty g q r K t s = opsW P ty g q r t s K) ∧
    (∀ b q op o d g r t s K, gdK P ty (.v undef) b q op o d g r t s K = opsW P ty g q r (pT t d (.v undef)) s K) ∧ (∀ t d, gV t (some d) = gT t d) ∧ (∀ x l, gG (x :: l) 0 = x) ∧ (∀ x l n, gG (x :: l) (n + 1) = gG l n) ∧ (gds [] = []) ∧ (∀ o l, gds (o :: l) = o.dst :: gds l) ∧
    (∀ q op o d g r t s K, gdK P ty (.v (.bool true)) true q op o d g r t s K = opX P ty q op o d t s (kO P ty g q r K)) ∧ (∀ q op o d g r t s K, gdK P ty (.v (.bool false)) false q op o d g r t s K = opX P ty q op o d t s (kO P ty g q r K)) ∧
    (∀ q op o d g r t s K, gdK P ty (.v (.bool true)) false q op o d g r t s K = opsW P ty g q r (pT t d (.v undef)) s K) ∧ (∀ q op o d g r t s K, gdK P ty (.v (.bool false)) true q op o d g r t s K = opsW P ty g q r (pT t d (.v undef)) s K) := by
  refine ⟨?_, ?_, ?_, ?_, ?_, ?_, ?_, ?_, ?_, ?_, ?_, ?_, ?_, ?_, ?_, ?_, ?_, ?_, ?_, ?_, ?_, ?_, ?_, ?_, ?_, ?_, ?_, ?_, ?_, ?_, ?_, ?_⟩ <;> intros <;> first | rfl | (simp only [EW]; simp)
theorem W4 : (∀ q x o d t s K, opX P ty q (.move x) o d t s K = K (pT t d (eT t x)) s) ∧ (∀ q o d t s K, opX P ty q (.assign (.const (.slice none 0 0))) o d t s K = nilW ty (ty o) d t s K) ∧ (∀ q i o d t s K, opX P ty q (.assign (.tmp i)) o d t s K = K (pT t d (gT t i)) s) ∧
    (∀ q k n o d t s K, opX P ty q (.assign (.const (.int k n))) o d t s K = K (pT t d (.v (.int k n))) s) ∧ (∀ q b o d t s K, opX P ty q (.assign (.const (.bool b))) o d t s K = K (pT t d (.v (.bool b))) s) ∧ (∀ q b o d t s K, opX P ty q (.assign (.const (.string b))) o d t s K = K (pT t d (.v (.string b))) s) ∧
    (∀ q c a b o d t s K, opX P ty q (.pick c a b) o d t s K = pickW (eT t c) (eT t a) (eT t b) d t s K) ∧ (∀ q b o d t s K, opX P ty q (.alloc b) o d t s K = alW b (ty b) d t s K) ∧ (∀ q b x o d t s K, opX P ty q (.box b x) o d t s K = boxW b (eT t x).cells d t s K) ∧
    (∀ q b x o d t s K, opX P ty q (.load b x) o d t s K = loadW ty (ty b) (eT t x) d t s K) ∧ (∀ q b a x o t s K, opX P ty q (.store b a x) o none t s K = (q = false ∧ storeW (ty b) (eT t a) (eT t x) t s K)) ∧ (∀ q b x f o d t s K, opX P ty q (.fieldAddr b x f) o d t s K = faW (((ty b).map (·.fs)).bind (nthN · f)) (eT t x) d t s K) ∧
    (∀ q b x i o d t s K, opX P ty q (.indexAddr b x i) o d t s K = idxW ty (ty b) (eT t x) (eT t i) d t s K) ∧ (∀ q op a x y b o d t s K, opX P ty q (.binOp op a x y b) o d t s K = binX P a (ty a) op (eT t x) (eT t y) d t s K) ∧ (∀ q a x o d t s K, opX P ty q (.unOp .not a x) o d t s K = notW (eT t x) d t s K) ∧
    (∀ q x n o d t s K, opX P ty q (.extract x n) o d t s K = extW (eT t x) n d t s K) ∧ (∀ q x o d t s K, opX P ty q (.nilCheck x) o d t s K = chkW (eT t x) d t s K) ∧ (∀ q b x y o d t s K, opX P ty q (.makeSlice b x y) o d t s K = mkW ty (ty b) (eT t x) (eT t y) d t s K) ∧
    (∀ q b ps o d t s K, opX P ty q (.build b ⟨ps⟩) o d t s K = bldW (ty b) t ps d t s K) ∧ (∀ q b n ps o d t s K, opX P ty q (.buildSlice b n ⟨ps⟩) o d t s K = litT ty (ty b) n ps d t s K) ∧ (∀ q f l a o d t s K, opX P ty q (.call ⟨.value (.func f), ⟨l⟩, a⟩) o d t s K = callW P q f (mapE t l) d t s K) ∧ (∀ q x b o d t s K, opX P ty q (.call ⟨.builtin .len, ⟨[x]⟩, ⟨[b]⟩⟩) o d t s K = (((ty b).bind fun i => ty i.el).isSome = true ∧ lenW (eT t x) d t s K)) ∧
    (∀ q x y t1 o d t s K, opX P ty q (.call ⟨.builtin .append, ⟨[x, y]⟩, ⟨[t1, t1]⟩⟩) o d t s K = (q = false ∧ appW ty (ty t1) (eT t x) (eT t y) d t s K)) ∧ (∀ q x y a o d t s K, opX P ty q (.call ⟨.builtin .min, ⟨[x, y]⟩, a⟩) o d t s K = mmW true (eT t x) (eT t y) d t s K) ∧ (∀ q x y a o d t s K, opX P ty q (.call ⟨.builtin .max, ⟨[x, y]⟩, a⟩) o d t s K = mmW false (eT t x) (eT t y) d t s K) ∧
    (∀ t, mapE t [] = []) ∧ (∀ t x l, mapE t (x :: l) = eT t x :: mapE t l) := by
  refine ⟨?_, ?_, ?_, ?_, ?_, ?_, ?_, ?_, ?_, ?_, ?_, ?_, ?_, ?_, ?_, ?_, ?_, ?_, ?_, ?_, ?_, ?_, ?_, ?_, ?_, ?_, ?_⟩ <;> intros <;> (first | rfl | (unfold opX cW; simp) | (unfold opX; simp))
theorem W5 : (∀ a b d t s K, pickW (.v (.bool true)) a b d t s K = K (pT t d a) s) ∧ (∀ a b d t s K, pickW (.v (.bool false)) a b d t s K = K (pT t d b) s) ∧ (∀ b i d t s K, alW b (some i) d t s K = boxW b (vs i.zero) d t s K) ∧
    (∀ i id off d t s K, loadW ty (some i) (.bp id off) d t s K = loadB (gS s id) i off d t s K) ∧ (∀ i cs d t s K, loadW ty (some i) (.pe cs) d t s K = (i.size ≤ cs.length ∧ K (pT t d (cutA i.agg i.size (vs cs))) s)) ∧ (∀ i id z n off d t s K, loadW ty (some i) (.le id z n off) d t s K = loadE ty (gS s id) i z n off d t s K) ∧
    (∀ b cs i off d t s K, loadB (some (.box b cs)) i off d t s K = (off + i.size ≤ cs.length ∧ K (pT t d (cutA i.agg i.size (dp off cs))) s)) ∧
    (∀ i id off x t s K, storeW (some i) (.bp id off) x t s K = storeB (gS s id) id i off x.cells t s K) ∧ (∀ i id z n off x t s K, storeW (some i) (.le id z n off) x t s K = storeE (gS s id) id i z n off x.cells t s K) ∧
    (∀ b cs id i off c t s K, storeB (some (.box b cs)) id i off c t s K = (c.length = i.size ∧ off + i.size ≤ cs.length ∧ cellsOk c = true ∧ K t (uS s id (.box b (putA off c cs))))) ∧
    (∀ e z xs id i z' n off c t s K, storeE (some (.row e z xs)) id i z' n off c t s K = (z' = z ∧ off = 0 ∧ i.size = z ∧ c.length = z ∧ plainOk c = true ∧ K t (uS s id (.row e z (sR xs n (unv c)))))) ∧
    (∀ o id off d t s K, faW (some o) (.bp id off) d t s K = K (pT t d (.bp id (off + o))) s) ∧ (∀ o cs d t s K, faW (some o) (.pe cs) d t s K = K (pT t d (.pe (cs.drop o))) s) ∧ (∀ o id z i off d t s K, faW (some o) (.le id z i off) d t s K = K (pT t d (.le id z i (off + o))) s) ∧
    (∀ ti z xs k n d t s K, idxW ty (some ti) (.pr z xs) (.v (.int k n)) d t s K = ∃ q, (ty ti.el).map (·.zero) = some q ∧ q.length = z ∧ 0 ≤ n ∧ n < (xs.length : Int) ∧ K (pT t d (.pe (gR q xs n))) s) ∧ (∀ ti id k n d t s K, idxW ty (some ti) (.lo id) (.v (.int k n)) d t s K = idxE ty ti.el (gS s id) id n d t s K) ∧
    (∀ el e z xs id n d t s K, idxE ty el (some (.row e z xs)) id n d t s K = ((∃ j, ty el = some j ∧ j.size = z) ∧ 0 ≤ n ∧ n < (xs.length : Int) ∧ K (pT t d (.le id z n 0)) s)) ∧
    (∀ z xs d t s K, lenW (.pr z xs) d t s K = K (pT t d (.v (.int .i64 (xs.length : Int)))) s) ∧ (∀ id d t s K, lenW (.lo id) d t s K = lenB (gS s id) d t s K) ∧ (∀ e z xs d t s K, lenB (some (.row e z xs)) d t s K = K (pT t d (.v (.int .i64 (xs.length : Int)))) s) ∧
    (∀ op a b d t s K, binW op (.v (.int .i64 a)) (.v (.int .i64 b)) d t s K = (kok op .i64 .i64 = true ∧ bok op b ∧ K (pT t d (.v (bval op .i64 a b))) s)) ∧ (∀ b d t s K, notW (.v (.bool b)) d t s K = K (pT t d (.v (.bool (!b)))) s) ∧
    (∀ cs n d t s K, extW (.tu cs) n d t s K = exW cs n d t s K) ∧ (∀ x l d t s K, exW (x :: l) 0 d t s K = K (pT t d x) s) ∧ (∀ x l n d t s K, exW (x :: l) (n + 1) d t s K = exW l n d t s K) ∧
    (∀ b c d t s K, boxW b c (some d) t s K = (cellsOk c = true ∧ free (16 * d) t s = true ∧ K (sT t d (.bp (16 * d) 0)) (uS s (16 * d) (.box b c)))) ∧ (∀ e z xs d t s K, rowW e z xs (some d) t s K = (free (16 * d) (sT t d .u) s = true ∧ K (sT t d (.lo (16 * d))) (uS s (16 * d) (.row e z xs)))) := by
  refine ⟨?_, ?_, ?_, ?_, ?_, ?_, ?_, ?_, ?_, ?_, ?_, ?_, ?_, ?_, ?_, ?_, ?_, ?_, ?_, ?_, ?_, ?_, ?_, ?_, ?_, ?_, ?_⟩ <;> intros <;> (first | rfl | (unfold binW; rfl) | (unfold idxW; simp only))
theorem W7 : (∀ i x, rot i (.move x) = true) ∧ (∀ i a b c, rot i (.pick a b c) = true) ∧ (∀ i a b, rot i (.load a b) = true) ∧ (∀ i a b c, rot i (.fieldAddr a b c) = true) ∧ (∀ i a b c, rot i (.indexAddr a b c) = true) ∧ (∀ i a b c d e, rot i (.binOp a b c d e) = true) ∧ (∀ i a b c, rot i (.unOp a b c) = true) ∧
    (∀ i a b, rot i (.extract a b) = true) ∧ (∀ i a, rot i (.nilCheck a) = true) ∧ (∀ i a b c, rot i (.assign (.const (.slice a b c))) = true) ∧ (∀ j i, rot j (.assign (.tmp i)) = true) ∧ (∀ j k n, rot j (.assign (.const (.int k n))) = true) ∧ (∀ j b, rot j (.assign (.const (.bool b))) = true) ∧ (∀ j b, rot j (.assign (.const (.string b))) = true) ∧
    (∀ i f a b, rot i (.call ⟨.value f, a, b⟩) = true) ∧ (∀ i a b, rot i (.call ⟨.builtin .len, a, b⟩) = true) ∧ (∀ i a b, rot i (.call ⟨.builtin .min, a, b⟩) = true) ∧ (∀ i a b, rot i (.call ⟨.builtin .max, a, b⟩) = true) ∧ (∀ i a b, rot i (.call ⟨.builtin .append, a, b⟩) = false) ∧
    (∀ i a b, rot i (.box a b) = true) ∧ (∀ i a, rot i (.alloc a) = true) ∧ (∀ i a b, rot i (.build a b) = true) ∧ (∀ i a b c, rot i (.store a b c) = false) ∧ (∀ i a b c, rot i (.makeSlice a b c) = true) ∧ (∀ i a b c, rot i (.buildSlice a b c) = true) ∧ (∀ b : Bool, (true && b) = b) ∧ (∀ b : Bool, (false && b) = false) := by
  refine ⟨?_, ?_, ?_, ?_, ?_, ?_, ?_, ?_, ?_, ?_, ?_, ?_, ?_, ?_, ?_, ?_, ?_, ?_, ?_, ?_, ?_, ?_, ?_, ?_, ?_, ?_, ?_⟩ <;> intros <;> first | rfl | (rename_i b; cases b <;> rfl)
theorem W6 : (kok .add .i64 .i64 = true) ∧ (kok .sub .i64 .i64 = true) ∧ (kok .mul .i64 .i64 = true) ∧ (kok .quo .i64 .i64 = true) ∧ (kok .rem .i64 .i64 = true) ∧ (kok .and .i64 .i64 = true) ∧ (kok .or .i64 .i64 = true) ∧ (kok .xor .i64 .i64 = true) ∧ (kok .andNot .i64 .i64 = true) ∧
    (kok .shl .i64 .i64 = true) ∧ (kok .shr .i64 .i64 = true) ∧ (kok .lss .i64 .i64 = true) ∧ (kok .leq .i64 .i64 = true) ∧ (kok .gtr .i64 .i64 = true) ∧ (kok .geq .i64 .i64 = true) ∧ (kok .eql .i64 .i64 = true) ∧ (kok .neq .i64 .i64 = true) ∧
    (∀ b, bok .add b = True) ∧ (∀ b, bok .sub b = True) ∧ (∀ b, bok .mul b = True) ∧ (∀ b, bok .and b = True) ∧ (∀ b, bok .or b = True) ∧ (∀ b, bok .xor b = True) ∧ (∀ b, bok .andNot b = True) ∧ (∀ b, bok .lss b = True) ∧ (∀ b, bok .leq b = True) ∧ (∀ b, bok .gtr b = True) ∧ (∀ b, bok .geq b = True) ∧ (∀ b, bok .eql b = True) ∧ (∀ b, bok .neq b = True) ∧
    (∀ b, bok .quo b = (b ≠ 0)) ∧ (∀ b, bok .rem b = (b ≠ 0)) ∧ (∀ b, bok .shl b = (0 ≤ b)) ∧ (∀ b, bok .shr b = (0 ≤ b)) ∧
    (∀ a b, bval .add .i64 a b = .int .i64 (wrap64 (a + b))) ∧ (∀ a b, bval .sub .i64 a b = .int .i64 (wrap64 (a - b))) ∧ (∀ a b, bval .mul .i64 a b = .int .i64 (wrap64 (a * b))) ∧ (∀ a b, bval .quo .i64 a b = .int .i64 (wrap64 (Int.tdiv a b))) ∧ (∀ a b, bval .rem .i64 a b = .int .i64 (Int.tmod a b)) ∧
    (∀ a b, bval .shl .i64 a b = .int .i64 (shl .i64 a b)) ∧ (∀ a b, bval .shr .i64 a b = .int .i64 (shr .i64 a b)) ∧ (∀ a b, bval .and .i64 a b = .int .i64 (Go.bits .and .i64 a b)) ∧ (∀ a b, bval .or .i64 a b = .int .i64 (Go.bits .or .i64 a b)) ∧ (∀ a b, bval .xor .i64 a b = .int .i64 (Go.bits .xor .i64 a b)) ∧ (∀ a b, bval .andNot .i64 a b = .int .i64 (Go.bits .andNot .i64 a b)) ∧
    (∀ a b, bval .lss .i64 a b = .bool (decide (a < b))) ∧ (∀ a b, bval .leq .i64 a b = .bool (decide (a ≤ b))) ∧ (∀ a b, bval .gtr .i64 a b = .bool (decide (a > b))) ∧ (∀ a b, bval .geq .i64 a b = .bool (decide (a ≥ b))) ∧ (∀ a b, bval .eql .i64 a b = .bool (a == b)) ∧ (∀ a b, bval .neq .i64 a b = .bool (a != b)) := by
  refine ⟨rfl, rfl, rfl, rfl, rfl, rfl, rfl, rfl, rfl, rfl, rfl, rfl, rfl, rfl, rfl, rfl, rfl, ?_⟩
  refine ⟨?_, ?_, ?_, ?_, ?_, ?_, ?_, ?_, ?_, ?_, ?_, ?_, ?_, ?_, ?_, ?_, ?_, ?_, ?_, ?_, ?_, ?_, ?_, ?_, ?_, ?_, ?_, ?_, ?_, ?_, ?_, ?_, ?_, ?_⟩ <;> intros <;> rfl
end
end Go.Proofs.Ytccjanhdnheclaa.F
end

section
namespace Go.Proofs.Ytccjanhdnheclaa.F
open Go.RowKit Go.Proofs.YtccjanhdnheclaaW.PrintWords Go.Proofs.YtccjanhdnheclaaW.PrintLast Go.Proofs.YtccjanhdnheclaaW.PrintMore
set_option linter.unusedVariables false
set_option linter.unusedSimpArgs false
def fsOk (P : Program) (fs : Array Field) : List Nat → Nat → Bool
  | [], _ => true
  | o :: l, k => (match fs[k]? with
    | some fl => fl.offset == o && (match P.info? fl.type with | some fi => fi.size != 0 | none => false)
    | none => false) && fsOk P fs l (k + 1)
def blB (P : Program) (t : TypeId) : List Value → Bool
  | [.bool false] => match P.underlying t with | some .bool => true | _ => false
  | _ => true
def itB (P : Program) (t : TypeId) : List Value → Bool
  | [.int k _] => match P.underlying t with | some (.int k') => k' == k | _ => false
  | _ => true
def plB (P : Program) (t : TypeId) (i : TI) : Bool := !i.agg || match P.underlying t with
  | some (.struct ⟨l⟩) => (l.map fun fl => (fl.offset, (P.info? fl.type).map (·.size))) == ((plc i.size i.fs).map fun p => (p.1, some p.2))
  | _ => false
def okT (P : Program) (ty : TypeId → Option TI) (t : TypeId) (i : TI) : Bool :=
  (match P.info? t with
  | some f => f.size == i.size && f.bytes == i.bytes && (i.agg || (match f.zero with | some (.agg _) => false | some (.tuple _) => false | some _ => true | none => false))
  | none => false) && i.zero.length == i.size && i.zero.all plainV &&
  (match P.underlying t with
  | some (.struct fs) => i.agg && fsOk P fs i.fs 0 && (ty i.el).isNone
  | some (.array _ _) => false
  | some (.slice e) => !i.agg && i.size == 1 && i.fs.isEmpty && ((ty i.el).isNone || i.el == e)
  | some _ => !i.agg && i.size == 1 && i.fs.isEmpty && (ty i.el).isNone
  | none => false) && blB P t i.zero && plB P t i && itB P t i.zero
theorem fsOk_at {P : Program} {fs : Array Field} : ∀ {l : List Nat} {k f o : Nat}, fsOk P fs l k = true → nthN l f = some o → ∃ fl, fs[k + f]? = some fl ∧ fl.offset = o ∧ ∃ fi, P.info? fl.type = some fi ∧ fi.size ≠ 0
  | [], k, f, o, _, h => by simp [nthN] at h
  | x :: l, k, 0, o, h, hf => by
    simp only [fsOk, Bool.and_eq_true] at h
    simp only [nthN, Option.some.injEq] at hf
    subst hf
    have h1 := h.1
    split at h1
    · rename_i fl e
      simp only [Bool.and_eq_true, beq_iff_eq] at h1
      obtain ⟨h1, h2⟩ := h1
      split at h2
      · rename_i fi e2
        exact ⟨fl, e, h1, fi, e2, by simpa using h2⟩
      · cases h2
    · cases h1
  | x :: l, k, f + 1, o, h, hf => by
    simp only [fsOk, Bool.and_eq_true] at h
    have := fsOk_at h.2 (f := f) (by simpa [nthN] using hf)
    rwa [show k + 1 + f = k + (f + 1) by omega] at this
theorem mkTI {P : Program} {ty : TypeId → Option TI} {t : TypeId} {i : TI} (h : okT P ty t i = true) (hz : ((P.info? t).bind (·.zero)).map (·.cells) = some (List.toArray i.zero)) : TIok P ty t i := by
  unfold okT at h
  simp only [Bool.and_eq_true, beq_iff_eq] at h
  obtain ⟨⟨⟨⟨⟨⟨h1, h2⟩, h3⟩, h4⟩, hbl⟩, hpl⟩, hit⟩ := h
  have hnf : ∃ f, P.info? t = some f ∧ f.size = i.size ∧ f.bytes = i.bytes ∧ ∃ z, f.zero = some z ∧ z.cells = List.toArray i.zero ∧ (i.agg = false → z.cells = #[z]) := by
    split at h1
    · rename_i f e
      simp only [Bool.and_eq_true, beq_iff_eq, Bool.or_eq_true] at h1
      rw [e] at hz
      simp only [Option.bind_some] at hz
      obtain ⟨z, e2, e3⟩ := Option.map_eq_some_iff.1 hz
      refine ⟨f, e, h1.1.1, h1.1.2, z, e2, e3, fun ha => ?_⟩
      rcases h1.2 with h5 | h5
      · rw [ha] at h5; cases h5
      · rw [e2] at h5
        cases z <;> first | rfl | (simp at h5)
    · cases h1
  have hit' : ∀ k, kindOf i.zero = some k → P.underlying t = some (.int k) := fun k hk => by
    unfold kindOf at hk
    unfold itB at hit
    split at hk
    · rename_i k0 n0 e
      obtain rfl := Option.some.inj hk
      rw [e] at hit
      simp only at hit
      split at hit
      · rename_i k1 e1; rw [e1, show k1 = _ from by simpa using hit]
      · cases hit
    · cases hk
  refine ⟨hnf, ⟨h2, h3⟩, ?_, fun j hj => ?_, fun hz => ?_, hit', fun hg => ?_⟩
  · split at h4
    · rename_i fs e
      simp only [Bool.and_eq_true] at h4
      refine .inl ⟨h4.1.1, fs, e, fun f o hf => ?_⟩
      have := fsOk_at h4.1.2 hf
      rwa [Nat.zero_add] at this
    · cases h4
    · rename_i e
      simp only [Bool.and_eq_true, Bool.not_eq_true', beq_iff_eq, List.isEmpty_iff] at h4
      exact .inr ⟨h4.1.1.1, h4.1.1.2, h4.1.2, _, e, ⟨fun x e' => TypeDesc.noConfusion e', fun x y e' => TypeDesc.noConfusion e'⟩⟩
    · rename_i d h5 h6 h7 e
      simp only [Bool.and_eq_true, Bool.not_eq_true', beq_iff_eq, List.isEmpty_iff] at h4
      exact .inr ⟨h4.1.1.1, h4.1.1.2, h4.1.2, d, e, fun x e' => h5 x (by rw [e']), fun x y e' => h6 x y (by rw [e'])⟩
    · cases h4
  · split at h4
    · simp only [Bool.and_eq_true, Option.isNone_iff_eq_none] at h4; rw [h4.2] at hj; cases hj
    · cases h4
    · rename_i e' e
      simp only [Bool.and_eq_true, Bool.or_eq_true, Option.isNone_iff_eq_none, beq_iff_eq] at h4
      rcases h4.2 with h5 | h5
      · rw [h5] at hj; cases hj
      · rw [e, h5]
    · simp only [Bool.and_eq_true, Option.isNone_iff_eq_none] at h4; rw [h4.2] at hj; cases hj
    · cases h4
  · rw [hz] at hbl
    unfold blB at hbl
    split at hbl
    · split at hbl
      · assumption
      · cases hbl
    · rename_i hne; exact absurd rfl hne
  · unfold plB at hpl
    rw [hg] at hpl
    simp only [Bool.not_true, Bool.false_or] at hpl
    split at hpl
    · rename_i l e
      exact ⟨l, e, by simpa using hpl⟩
    · cases hpl
theorem bnd {α β : Type} {x : Option α} {f : α → Option β} {r : β} (h : x.bind f = some r) : ∃ t, x = some t ∧ f t = some r := Option.bind_eq_some_iff.1 h
section
variable {P : Program} {ty : TypeId → Option TI}
theorem loopR {ι : Type} (T : ι → List AV) (S : ι → Sto) (F : Nat → ι → Prop) {n : Nat} (x : ι) {b : Code} {Q : Qt} {t : List AV} {s : Sto} (ρ : List (Nat × Nat)) (h : F n x) (h1 : EntT ρ t (T x)) (h2 : EntS ρ s (S x)) (h3 : inj ρ (S x) = true)
    (hr : ∀ n x, F n x → EW P ty b (kL T S F n Q) (T x) (S x)) : loopK P ty b Q t s := ⟨ι, T, S, F, ⟨n, x, h, ρ, h1, h2, h3⟩, hr⟩
theorem callR {q : Bool} {f : FuncId} {args : List AV} {d : Option Nat} {t : List AV} {s : Sto} {K : Kt} {res : AV} (h : Ctr P f (toPL s args) res) (hb : bindW q res d t s K) : callW P q f args d t s K := .inl ⟨res, h, hb⟩
theorem callT {f : FuncId} {id : Nat} {rest : List AV} {d : Option Nat} {t : List AV} {s : Sto} {K : Kt} {e : TypeId} {sz : Nat} {xs ys : List (List Value)} (hg : gS s id = some (.row e sz xs)) (hp : plnL rest = true) (h : CtrT P f e sz xs rest ys)
    (hb : ∃ d', d = some d' ∧ free (16 * d') t (dS s id) = true ∧ K (sT t d' (.lo (16 * d'))) (uS (dS s id) (16 * d') (.row e sz ys))) : callW P false f (.lo id :: rest) d t s K := by
  obtain ⟨d', rfl, h1, h2⟩ := hb
  refine .inr (.inl ⟨rfl, .inl ?_⟩)
  simp only [turnW, hg, turnR]
  exact ⟨hp, .inl ⟨ys, h, h1, h2⟩⟩
end
theorem W8 : (∀ ρ, EntT ρ [] [] = True) ∧ (∀ ρ x t T, EntT ρ (x :: t) (.u :: T) = EntT ρ t T) ∧ (∀ ρ x t y T, EntT ρ (x :: t) (.v y :: T) = (x = .v y ∧ EntT ρ t T)) ∧ (∀ ρ x t i T, EntT ρ (x :: t) (.lo i :: T) = (x = .lo (rn ρ i) ∧ EntT ρ t T)) ∧ (∀ ρ x t i o T, EntT ρ (x :: t) (.bp i o :: T) = (x = .bp (rn ρ i) o ∧ EntT ρ t T)) ∧
    (∀ ρ x t z l T, EntT ρ (x :: t) (.pr z l :: T) = (x = .pr z l ∧ EntT ρ t T)) ∧ (∀ ρ x t l T, EntT ρ (x :: t) (.ag l :: T) = (x = .ag (AV.renL ρ l) ∧ EntT ρ t T)) ∧
    (∀ ρ s, EntS ρ s [] = True) ∧ (∀ ρ s i t c S, EntS ρ s ((i, .box t c) :: S) = (gS s (rn ρ i) = some (.box t (AV.renL ρ c)) ∧ EntS ρ s S)) ∧ (∀ ρ s i e z l S, EntS ρ s ((i, .row e z l) :: S) = (gS s (rn ρ i) = some (.row e z l) ∧ EntS ρ s S)) ∧
    (∀ ρ, AV.renL ρ [] = []) ∧ (∀ ρ c cs, AV.renL ρ (c :: cs) = AV.ren ρ c :: AV.renL ρ cs) ∧ (∀ ρ x, AV.ren ρ (.v x) = .v x) ∧ (∀ ρ z l, AV.ren ρ (.pr z l) = .pr z l) ∧ (∀ ρ i, AV.ren ρ (.lo i) = .lo (rn ρ i)) ∧ (∀ ρ i o, AV.ren ρ (.bp i o) = .bp (rn ρ i) o) ∧ (∀ ρ l, AV.ren ρ (.ag l) = .ag (AV.renL ρ l)) := by
  refine ⟨?_, ?_, ?_, ?_, ?_, ?_, ?_, ?_, ?_, ?_, ?_, ?_, ?_, ?_, ?_, ?_, ?_⟩ <;> intros <;> rfl
theorem W9 : (∀ ty t s, resL ty t s [] = some []) ∧ (∀ ty t s i l, resL ty t s (.tmp i :: l) = (resL ty t s l).map (gT t i :: ·)) ∧ (∀ ty t s i b l, resL ty t s (.cell i b :: l) = (cellV (ty b) (gT t i) s).bind fun x => (resL ty t s l).map (x :: ·)) ∧ (∀ i id off s, cellV (some i) (.bp id off) s = cellB i off (gS s id)) ∧
    (∀ i off t cs, cellB i off (some (.box t cs)) = if off + i.size ≤ cs.length then some (cutA i.agg i.size (dp off cs)) else none) ∧ (∀ s x r, FitO s [x] r = FitR s x r) ∧ (∀ s rs, FitO s [] (.tu rs) = FitRL s [] rs) ∧ (∀ s x y l rs, FitO s (x :: y :: l) (.tu rs) = FitRL s (x :: y :: l) rs) ∧
    (∀ s x y, FitR s (.v x) (.v y) = (x = y)) ∧ (∀ s i e z l, FitR s (.lo i) (.ow e z l) = (gS s i = some (.row e z l))) ∧ (∀ s x e z l, FitR s (.v x) (.ow e z l) = (x = .slice none 0 0 ∧ l = [] ∧ 0 < z)) ∧ (∀ s l r, FitR s (.ag l) (.ag r) = FitRL s l r) ∧ (∀ s l r, FitR s (.tu l) (.tu r) = FitRL s l r) ∧
    (∀ s, FitRL s [] [] = True) ∧ (∀ s c cs d ds, FitRL s (c :: cs) (d :: ds) = (FitR s c d ∧ FitRL s cs ds)) ∧ (AV.idsL [] = []) ∧ (∀ c cs, AV.idsL (c :: cs) = AV.ids c ++ AV.idsL cs) ∧ (∀ x, AV.ids (.v x) = []) ∧ (∀ i, AV.ids (.lo i) = [i]) ∧ (∀ l, AV.ids (.ag l) = AV.idsL l) ∧ (∀ l, AV.ids (.tu l) = AV.idsL l) := by
  refine ⟨?_, ?_, ?_, ?_, ?_, ?_, ?_, ?_, ?_, ?_, ?_, ?_, ?_, ?_, ?_, ?_, ?_, ?_, ?_, ?_, ?_⟩ <;> intros <;> rfl
theorem W10 : (∀ ty rv res t s, QR ty rv res .ret t s = ∃ xs, resL ty t s rv = some xs ∧ nodB (AV.idsL xs) = true ∧ FitO s xs res) ∧ (∀ ty rv res t s, QR ty rv res .normal t s = ∃ xs, resL ty t s rv = some xs ∧ nodB (AV.idsL xs) = true ∧ FitO s xs res) ∧
    (nodB [] = true) ∧ (∀ i, nodB [i] = true) := by
  refine ⟨?_, ?_, ?_, ?_⟩ <;> intros <;> first | rfl | simp [nodB]
theorem W11 : (∀ {ι : Type} (T : ι → List AV) S F n Q i t s, kL T S F n Q (.exit i) t s = Q (.exit i) t s) ∧ (∀ {ι : Type} (T : ι → List AV) S F n Q t s, kL T S F n Q .ret t s = Q .ret t s) ∧ (∀ q x d t s K, bindW q (.v x) d t s K = K (pT t d (.v x)) s) := by
  refine ⟨?_, ?_, ?_⟩ <;> intros <;> rfl
theorem W12 : (∀ j, AV.frL j [] = true) ∧ (∀ j c cs, AV.frL j (c :: cs) = (AV.fr j c && AV.frL j cs)) ∧ (∀ j, AV.fr j .u = true) ∧ (∀ j x, AV.fr j (.v x) = true) ∧ (∀ j z x, AV.fr j (.pr z x) = true) ∧ (∀ j x, AV.fr j (.pe x) = true) ∧ (∀ j i, AV.fr j (.lo i) = (i != j)) ∧ (∀ j i o, AV.fr j (.bp i o) = (i != j)) ∧ (∀ j i z n o, AV.fr j (.le i z n o) = (i != j)) ∧ (∀ j l, AV.fr j (.ag l) = AV.frL j l) ∧ (∀ j l, AV.fr j (.tu l) = AV.frL j l) ∧
    (∀ j t s, free j t s = (AV.frL j t && s.all fun p => p.2.fr j)) ∧ (∀ j t c, Blk.fr j (.box t c) = AV.frL j c) ∧ (∀ j e z l, Blk.fr j (.row e z l) = true) ∧
    (cellsOk [] = true) ∧ (∀ x l, cellsOk (.v x :: l) = (plainV x && cellsOk l)) ∧ (∀ i l, cellsOk (.lo i :: l) = cellsOk l) ∧ (∀ i o l, cellsOk (.bp i o :: l) = cellsOk l) ∧ (∀ z x l, cellsOk (.pr z x :: l) = cellsOk l) ∧ (plainOk [] = true) ∧ (∀ x l, plainOk (.v x :: l) = (plainV x && plainOk l)) ∧
    (∀ k n, plainV (.int k n) = true) ∧ (∀ b, plainV (.bool b) = true) ∧ (∀ b, plainV (.string b) = true) ∧ (∀ a n c, plainV (.slice a n c) = true) := by
  refine ⟨?_, ?_, ?_, ?_, ?_, ?_, ?_, ?_, ?_, ?_, ?_, ?_, ?_, ?_, ?_, ?_, ?_, ?_, ?_, ?_, ?_, ?_, ?_, ?_, ?_⟩ <;> intros <;> rfl
theorem bAnd : (∀ b : Bool, (b && true) = b) ∧ (∀ b : Bool, (true && b) = b) ∧ (∀ b : Bool, (false && b) = false) ∧ (∀ b : Bool, (b && false) = false) := by
  refine ⟨?_, ?_, ?_, ?_⟩ <;> intro b <;> cases b <;> rfl
end Go.Proofs.Ytccjanhdnheclaa.F
end

section
namespace Go.Proofs.Ytccjanhdnheclaa.F
open Go.RowKit Go.Proofs.YtccjanhdnheclaaW.PrintWords Go.Proofs.YtccjanhdnheclaaW.PrintLast Go.Proofs.YtccjanhdnheclaaW.PrintMore
set_option linter.unusedVariables false
set_option linter.unusedSimpArgs false
theorem ifN {α : Type} {c : Prop} [Decidable c] {a : Option α} {r : α} (h : (if c then a else none) = some r) : c ∧ a = some r := by
  by_cases x : c
  · rw [if_pos x] at h; exact ⟨x, h⟩
  · rw [if_neg x] at h; cases h
theorem ifM {α : Type} {c : Prop} [Decidable c] {a : Option α} {r : α} (h : (if c then none else a) = some r) : ¬c ∧ a = some r := by
  by_cases x : c
  · rw [if_pos x] at h; cases h
  · rw [if_neg x] at h; exact ⟨x, h⟩
theorem ifS {α : Type} {c : Prop} [Decidable c] {a b : Option α} {r : α} (h : (if c then a else b) = some r) : (c ∧ a = some r) ∨ (¬c ∧ b = some r) := by
  by_cases x : c
  · rw [if_pos x] at h; exact .inl ⟨x, h⟩
  · rw [if_neg x] at h; exact .inr ⟨x, h⟩
theorem ifT {α : Type} {c : Bool} {a b : Option α} {r : α} (h : (if c = true then a else b) = some r) : (c = true ∧ a = some r) ∨ (c = false ∧ b = some r) := by
  cases c
  · exact .inr ⟨rfl, h⟩
  · exact .inl ⟨rfl, h⟩
section
variable {P : Program} {ty : TypeId → Option TI}
theorem loopN {ι : Type} (T : ι → List AV) (S : ι → Sto) (F : Nat → ι → Prop) {n : Nat} {b : Code} {Q : Qt} {t : List AV} {s : Sto} (x : ι) (ρ : List (Nat × Nat)) (h : F n x) (h1 : EntT ρ t (T x)) (h2 : EntS ρ s (S x)) (h3 : inj ρ (S x) = true)
    (hz : ∀ x, F 0 x → False) (hr : ∀ m x, m + 1 ≤ n → F (m + 1) x → EW P ty b (kL T S (fun m x => m ≤ n ∧ F m x) (m + 1) Q) (T x) (S x)) : loopK P ty b Q t s :=
  loopR T S (fun m x => m ≤ n ∧ F m x) x ρ ⟨Nat.le_refl _, h⟩ h1 h2 h3 fun m x h => by
    cases m with
    | zero => exact absurd h.2 (hz x)
    | succ m => exact hr m x h.1 h.2
theorem nextN {ι : Type} {T : ι → List AV} {S : ι → Sto} {F : Nat → ι → Prop} {n N : Nat} {Q : Qt} {t : List AV} {s : Sto} (x : ι) (ρ : List (Nat × Nat)) (m : Nat) (hm : m < n ∧ m ≤ N) (h : F m x) (h1 : EntT ρ t (T x)) (h2 : EntS ρ s (S x)) (h3 : inj ρ (S x) = true) : kL T S (fun m x => m ≤ N ∧ F m x) n Q .normal t s := ⟨m, x, hm.1, ⟨hm.2, h⟩, ρ, h1, h2, h3⟩
theorem rn_cons (a b : Nat) (ρ : List (Nat × Nat)) (j : Nat) : rn ((a, b) :: ρ) j = if a = j then b else rn ρ j := by
  unfold rn
  rw [List.find?_cons]
  by_cases e : a = j
  · subst e; simp
  · have : (a == j) = false := by simpa using e
    simp only [this, if_neg e]
variable (ty)
theorem W13 : (∀ i n ps d t s K, litT ty (some i) n ps d t s K = ∃ j, ty i.el = some j ∧ litW (litR t ps 0) n i.el j.size d t s K) ∧ (∀ t k, litR t [] k = some []) ∧ (∀ t i x l k, litR t ((i, x) :: l) k = if i = k ∧ plainOk (eT t x).cells = true then (litR t l (k + 1)).map fun r => unv (eT t x).cells :: r else none) ∧
    (∀ z, litOk z [] = true) ∧ (∀ z x l, litOk z (x :: l) = (x.length == z && litOk z l)) ∧ (∀ xs n e z d t s K, litW (some xs) n e z d t s K = (xs.length = n ∧ litOk z xs = true ∧ 0 < z ∧ n * z ≤ 1000 ∧ rowW e z xs d t s K)) ∧
    (∀ i id y d t s K, appW ty (some i) (.lo id) y d t s K = ∃ j, ty i.el = some j ∧ appR id (gS s id) (rdS j.size y s) j i.el d t s K) ∧
    (∀ z y xs s, rdS z (.pr y xs) s = if y = z then some xs else none) ∧ (∀ z i s, rdS z (.lo i) s = rdB z (gS s i)) ∧ (∀ z s, rdS z (.v (.slice none 0 0)) s = some []) ∧ (∀ z e y xs, rdB z (some (.row e y xs)) = if y = z then some xs else none) ∧
    (∀ i d t s K, nilW ty (some i) d t s K = ∃ j, ty i.el = some j ∧ 0 < j.size ∧ rowW i.el j.size [] d t s K) ∧
    (∀ e z xs i y n off d t s K, loadE ty (some (.row e z xs)) i y n off d t s K = ∃ q, (ty e).map (·.zero) = some q ∧ y = z ∧ q.length = z ∧ off + i.size ≤ z ∧ K (pT t d (cutA i.agg i.size (dp off (vs (gR q xs n))))) s) ∧
    (∀ a b d t s K, mmW true (.v (.int .i64 a)) (.v (.int .i64 b)) d t s K = K (pT t d (.v (.int .i64 (mn a b)))) s) ∧ (∀ a b d t s K, mmW false (.v (.int .i64 a)) (.v (.int .i64 b)) d t s K = K (pT t d (.v (.int .i64 (mx a b)))) s) ∧
    (∀ i o d t s K, chkW (.bp i o) d t s K = K (pT t d (.bp i o)) s) ∧ (∀ c d t s K, chkW (.pe c) d t s K = K (pT t d (.pe c)) s) ∧ (∀ i z n o d t s K, chkW (.le i z n o) d t s K = K (pT t d (.le i z n o)) s) ∧
    (∀ q l d t s K, bindW q (.ag l) (some d) t s K = ((q && !okRL l) = false ∧ ((im (16 * d) (.ag l)).2.1.all fun p => free p.1 t s) = true ∧ (im (16 * d) (.ag l)).2.2 ≤ 16 * d + 15 ∧ K (sT t d (im (16 * d) (.ag l)).1) ((im (16 * d) (.ag l)).2.1 ++ s))) ∧
    (∀ q l d t s K, bindW q (.tu l) (some d) t s K = ((q && !okRL l) = false ∧ ((im (16 * d) (.tu l)).2.1.all fun p => free p.1 t s) = true ∧ (im (16 * d) (.tu l)).2.2 ≤ 16 * d + 15 ∧ K (sT t d (im (16 * d) (.tu l)).1) ((im (16 * d) (.tu l)).2.1 ++ s))) ∧
    (∀ x l, nthN (x :: l) 0 = some x) ∧ (∀ x l n, nthN (x :: l) (n + 1) = nthN l n) ∧
    (∀ (P : Program) e o op k a k' b d t s K, binX P e o op (.v (.int k a)) (.v (.int k' b)) d t s K = binW op (.v (.int k a)) (.v (.int k' b)) d t s K) ∧ (∀ (P : Program) e i a b d t s K, binX P e (some i) .eql (.v (.bool a)) (.v (.bool b)) d t s K = (i.zero = [.bool false] ∧ K (pT t d (.v (.bool (a == b)))) s)) ∧ (∀ (P : Program) e i a b d t s K, binX P e (some i) .neq (.v (.bool a)) (.v (.bool b)) d t s K = (i.zero = [.bool false] ∧ K (pT t d (.v (.bool (a != b)))) s)) ∧ (∀ j, rn [] j = j) ∧ (∀ a b ρ j, rn ((a, b) :: ρ) j = if a = j then b else rn ρ j) ∧
    (∀ i u ps d t s K, bldW (some i) u ps d t s K = (i.agg = true ∧ ∃ cs, bldC (plc i.size i.fs) u ps (vs i.zero) = some cs ∧ K (pT t d (.ag cs)) s)) ∧ (∀ z, plc z [] = []) ∧ (∀ z o, plc z [o] = [(o, z - o)]) ∧ (∀ z o o2 l, plc z (o :: o2 :: l) = (o, o2 - o) :: plc z (o2 :: l)) ∧ (∀ x l, nthL (x :: l) 0 = some x) ∧ (∀ x l n, nthL (x :: l) (n + 1) = nthL l n) ∧ (∀ pl t cs, bldC pl t [] cs = some cs) ∧ (∀ pl t f x l cs, bldC pl t ((f, x) :: l) cs = (bldP (nthL pl f) (eT t x).cells cs).bind (bldC pl t l)) ∧ (∀ o z c cs, bldP (some (o, z)) c cs = if c.length = z ∧ o + c.length ≤ cs.length ∧ cellsOk c = true then some (putA o c cs) else none) ∧
    (okRL [] = true) ∧ (∀ c l, okRL (c :: l) = (okR c && okRL l)) ∧ (∀ x, okR (.v x) = true) ∧ (∀ l, okR (.ag l) = okRL l) ∧ (∀ l, okR (.tu l) = okRL l) ∧ (∀ e z l, okR (.ow e z l) = true) ∧ (plnL [] = true) ∧ (∀ c l, plnL (c :: l) = (pln c && plnL l)) ∧ (∀ x, pln (.v x) = true) ∧ (∀ l, pln (.ag l) = plnL l) ∧ (∀ l, pln (.tu l) = plnL l) ∧ (∀ e z l, pln (.ow e z l) = false) ∧
    (∀ q e z l d t s K, bindW q (.ow e z l) (some d) t s K = ((q && !true) = false ∧ ((im (16 * d) (.ow e z l)).2.1.all fun p => free p.1 t s) = true ∧ (im (16 * d) (.ow e z l)).2.2 ≤ 16 * d + 15 ∧ K (sT t d (im (16 * d) (.ow e z l)).1) ((im (16 * d) (.ow e z l)).2.1 ++ s))) := by
  refine ⟨?_, ?_, ?_, ?_, ?_, ?_, ?_, ?_, ?_, ?_, ?_, ?_, ?_, ?_, ?_, ?_, ?_, ?_, ?_, ?_, ?_, ?_, ?_, ?_, ?_, ?_, ?_, ?_, ?_, ?_, ?_, ?_, ?_, ?_, ?_, ?_, ?_, ?_, ?_, ?_, ?_, ?_, ?_, ?_, ?_, ?_, ?_, ?_, ?_⟩ <;> intros <;> first | rfl | (unfold binX; split <;> simp_all; done) | exact rn_cons _ _ _ _
theorem mkN {n : Int} {b : Nat} (h0 : 0 ≤ n) (hb : 0 < b) : (n * (b : Int) ≤ 281474976710656) = (n.toNat ≤ 281474976710656 / b) := by
  obtain ⟨m, rfl⟩ : ∃ m : Nat, n = m := ⟨n.toNat, by omega⟩
  rw [Int.toNat_natCast, Nat.le_div_iff_mul_le hb]
  exact propext (by omega)
theorem W14 : (∀ i n d t s K, mkW ty (some i) (.v (.int .i64 n)) (.v (.int .i64 n)) d t s K = ∃ j, ty i.el = some j ∧ 0 ≤ n ∧ n.toNat ≤ 281474976710656 / j.bytes ∧ 0 < j.bytes ∧ 0 < j.size ∧ rowW i.el j.size (List.replicate n.toNat j.zero) d t s K) ∧
    (∀ id e z xs ys j e' d t s K, appR id (some (.row e z xs)) (some ys) j e' (some d) t s K = (e = e' ∧ z = j.size ∧ 0 < j.bytes ∧ xs.length + ys.length ≤ 140737488355328 / j.bytes ∧ free (16 * d) t (dS s id) = true ∧ K (sT t d (.lo (16 * d))) (uS (dS s id) (16 * d) (.row e z (xs ++ ys))))) := by
  refine ⟨fun i n d t s K => ?_, fun id e z xs ys j e' d t s K => ?_⟩
  · show (∃ j, ty i.el = some j ∧ n = n ∧ 0 ≤ n ∧ n * (j.bytes : Int) ≤ 281474976710656 ∧ 0 < j.bytes ∧ 0 < j.size ∧ rowW i.el j.size (List.replicate n.toNat j.zero) d t s K) = _
    refine propext ⟨?_, ?_⟩
    · rintro ⟨j, h1, _, h2, h3, h4, h5⟩
      exact ⟨j, h1, h2, (mkN h2 h4) ▸ h3, h4, h5⟩
    · rintro ⟨j, h1, h2, h3, h4, h5⟩
      exact ⟨j, h1, rfl, h2, (mkN h2 h4) ▸ h3, h4, h5⟩
  · show (e = e' ∧ z = j.size ∧ 0 < j.bytes ∧ (xs.length + ys.length) * j.bytes ≤ 140737488355328 ∧ _) = _
    refine propext ⟨?_, ?_⟩
    · rintro ⟨h1, h2, h3, h4, h5⟩
      exact ⟨h1, h2, h3, (Nat.le_div_iff_mul_le h3).2 h4, h5⟩
    · rintro ⟨h1, h2, h3, h4, h5⟩
      exact ⟨h1, h2, h3, (Nat.le_div_iff_mul_le h3).1 h4, h5⟩
end
theorem eqRule {P : Program} {b : TypeId} {cs ds : List AV} {e : Bool} (hg : P.eqGuardType P.depth b = false) (hc : plnL cs = true) (hd : plnL ds = true) {dd : Nat} (hdd : dd = Op.maxDepth) (h0 : ∀ w, (Op.equalIn dd b (.agg (List.toArray (vluL cs))) (.agg (List.toArray (vluL ds)))).run P w = .ok e w) (i : TI) (d : Option Nat) (t : List AV) (s : Sto) (K : Kt) :
    binX P b (some i) .eql (.ag cs) (.ag ds) d t s K = K (pT t d (.v (.bool e))) s := by
  have h : ∀ w, (Op.equal b (.agg (List.toArray (vluL cs))) (.agg (List.toArray (vluL ds)))).run P w = .ok e w := fun w => by subst hdd; exact h0 w
  refine propext ⟨?_, fun hK => ⟨hc, hd, e, ⟨hg, h⟩, hK⟩⟩
  rintro ⟨_, _, r, h1, h2⟩
  have := h1.2 { (default : World) with }
  rw [h] at this
  injection this with this
  rw [this]; exact h2
theorem neRule {P : Program} {b : TypeId} {cs ds : List AV} {e : Bool} (hg : P.eqGuardType P.depth b = false) (hc : plnL cs = true) (hd : plnL ds = true) {dd : Nat} (hdd : dd = Op.maxDepth) (h0 : ∀ w, (Op.equalIn dd b (.agg (List.toArray (vluL cs))) (.agg (List.toArray (vluL ds)))).run P w = .ok e w) (i : TI) (d : Option Nat) (t : List AV) (s : Sto) (K : Kt) :
    binX P b (some i) .neq (.ag cs) (.ag ds) d t s K = K (pT t d (.v (.bool (!e)))) s := by
  have h : ∀ w, (Op.equal b (.agg (List.toArray (vluL cs))) (.agg (List.toArray (vluL ds)))).run P w = .ok e w := fun w => by subst hdd; exact h0 w
  refine propext ⟨?_, fun hK => ⟨hc, hd, e, ⟨hg, h⟩, hK⟩⟩
  rintro ⟨_, _, r, h1, h2⟩
  have := h1.2 { (default : World) with }
  rw [h] at this
  injection this with this
  rw [this]; exact h2
theorem W0 : (∀ (α : Type) (_ : Decidable True) (a b : α), (if True then a else b) = a) ∧ (∀ (α : Type) (_ : Decidable False) (a b : α), (if False then a else b) = b) ∧ (∀ (α β : Type) (f : α → β) (l : List α), (l.map f).length = l.length) ∧ (∀ (α β : Type) (x : α) (f : α → Option β), (some x).bind f = f x) ∧ (∀ (α β : Type) (x : α) (f : α → β), (some x).map f = some (f x)) ∧ (∀ (α : Type) (x : α), (some x).isSome = true) ∧
    (∀ p : Prop, (True ∧ p) = p) ∧ (∀ p : Prop, (p ∧ True) = p) ∧ (∀ p : Prop, (False ∧ p) = False) ∧ (∀ (α : Type) (x : α), (x = x) = True) ∧ (∀ (α : Type) (x : α) (l : List α), (x :: l).length = l.length + 1) ∧ (∀ α : Type, ([] : List α).length = 0) ∧ (∀ (α : Type) (p : α → Bool), ([] : List α).all p = true) ∧ (∀ (α : Type) (p : α → Bool) (x : α) (l : List α), (x :: l).all p = (p x && l.all p)) ∧
    (∀ h : Decidable True, @decide True h = true) ∧ (∀ h : Decidable False, @decide False h = false) ∧ (∀ (α : Type) (a : α) (p : α → Prop), (∃ x, some a = some x ∧ p x) = p a) ∧ (∀ (α : Type) (a : α) (p : α → Prop), (∃ x, some x = some a ∧ p x) = p a) ∧ (∀ a b : Nat, (a + 1 ≤ b) = (a < b)) ∧
    (∀ (α : Type) (l : List α), [] ++ l = l) ∧ (∀ (α : Type) (x : α) (l m : List α), (x :: l) ++ m = x :: (l ++ m)) ∧ (∀ (α : Type) (l : List α), l.drop 0 = l) ∧ (∀ (α : Type) (n : Nat) (x : α) (l : List α), (x :: l).drop (n + 1) = l.drop n) ∧ ((!true) = false) ∧ ((!false) = true) ∧ (∀ a b : Int, (a == b) = decide (a = b)) ∧ (∀ a b : Int, (a != b) = !decide (a = b)) ∧ ((¬True) = False) ∧ ((¬False) = True) ∧ (∀ (α : Type) (a b : α), (a ≠ b) = ¬(a = b)) ∧
    (∀ (α : Type) (l m : List α), (l ++ m).length = l.length + m.length) ∧ (∀ (α : Type) (l : List α) (i : Nat) (x : α), (l.set i x).length = l.length) ∧ (∀ (α : Type) (n : Nat) (x : α), (List.replicate n x).length = n) ∧ (∀ (α β : Type) (f : α → β) (l m : List α), l.map f ++ m.map f = (l ++ m).map f) ∧ (∀ (α β : Type) (f : α → β), [].map f = []) ∧ (∀ (α β : Type) (f : α → β) (x : α) (l : List α), (x :: l).map f = f x :: l.map f) := by
  refine ⟨?_, ?_, ?_, ?_, ?_, ?_, ?_, ?_, ?_, ?_, ?_, ?_, ?_, ?_, ?_, ?_, ?_, ?_, ?_, ?_, ?_, ?_, ?_, ?_, ?_, ?_, ?_, ?_, ?_, ?_, ?_, ?_, ?_, ?_, ?_, ?_⟩ <;> intros <;> first | rfl | simp | (exact propext Iff.rfl)
end Go.Proofs.Ytccjanhdnheclaa.F
end

section
namespace Go.Proofs.Ytccjanhdnheclaa.F
open Go.RowKit Go.Proofs.YtccjanhdnheclaaW.PrintWords Go.Proofs.YtccjanhdnheclaaW.PrintLast Go.Proofs.YtccjanhdnheclaaW.PrintMore
set_option linter.unusedVariables false
set_option linter.unusedSimpArgs false
theorem W15 (P : Program) (ty : TypeId → Option TI) : (∀ s id z lo hi, toP s (.vw id z lo hi) = tpV z lo hi (gS s id)) ∧ (∀ z lo hi e y xs, tpV z lo hi (some (.row e y xs)) = if z = y then .pr y ((xs.take hi).drop lo) else .u) ∧ (∀ s f a b, toP s (.v (.func f a b)) = .v (.func f a b)) ∧
    (∀ id z lo hi d t s K, lenW (.vw id z lo hi) d t s K = lenV (gS s id) lo hi d t s K) ∧ (∀ e z xs lo hi d t s K, lenV (some (.row e z xs)) lo hi d t s K = K (pT t d (.v (.int .i64 (((xs.take hi).drop lo).length : Int)))) s) ∧
    (∀ i id z lo hi k n d t s K, idxW ty (some i) (.vw id z lo hi) (.v (.int k n)) d t s K = idxV ty i.el (gS s id) id z lo hi n d t s K) ∧
    (∀ el e z xs id y lo hi n d t s K, idxV ty el (some (.row e z xs)) id y lo hi n d t s K = ((∃ j, ty el = some j ∧ j.size = z) ∧ y = z ∧ 0 ≤ n ∧ n < (((xs.take hi).drop lo).length : Int) ∧ K (pT t d (.le id z (n + (lo : Int)) 0)) s)) ∧
    (∀ z id y lo hi s, rdS z (.vw id y lo hi) s = if y = z then (rdB z (gS s id)).map fun xs => (xs.take hi).drop lo else none) ∧
    (∀ q b x lo hi o d t s K, opX P ty q (.slice b x lo hi none) o d t s K = slcW ty (ty b) (eT t x) (lo.map (eT t)) (hi.map (eT t)) d t s K) ∧
    (∀ i z xs lo hi d t s K, slcW ty (some i) (.pr z xs) lo hi d t s K = ∃ j, ty i.el = some j ∧ slcP z xs j (loN lo) hi d t s K) ∧
    (∀ i id lo hi d t s K, slcW ty (some i) (.lo id) lo hi d t s K = ∃ j, ty i.el = some j ∧ slcR id (gS s id) j (loN lo) hi d t s K) ∧
    (∀ z xs j l hi d t s K, slcP z xs j (some l) hi d t s K = ∃ h, hiN xs.length hi = some h ∧ j.size = z ∧ 0 ≤ l ∧ l ≤ h ∧ h ≤ (xs.length : Int) ∧ K (pT t d (.pr z ((xs.take h.toNat).drop l.toNat))) s) ∧
    (∀ id e z xs j l hi d t s K, slcR id (some (.row e z xs)) j (some l) hi d t s K = ∃ h, hiN xs.length hi = some h ∧ j.size = z ∧ 0 ≤ l ∧ l ≤ h ∧ h ≤ (xs.length : Int) ∧ K (pT t d (.vw id z l.toNat h.toNat)) s) ∧
    (loN none = some 0) ∧ (∀ k n, loN (some (.v (.int k n))) = some n) ∧ (∀ n, hiN n none = some (n : Int)) ∧ (∀ n k h, hiN n (some (.v (.int k h))) = some h) ∧
    (∀ i a b c d, rot i (.slice a b c d none) = true) ∧ (∀ (α β : Type) (f : α → β), (none : Option α).map f = none) ∧ (∀ (α : Type) (l : List α), l.drop (Int.toNat 0) = l) ∧ (∀ (α : Type) (l : List α), l.take ((l.length : Int)).toNat = l) ∧ (∀ i j, nodB [i, j] = (i != j)) ∧ (∀ i j k, nodB [i, j, k] = (i != j && (i != k && j != k))) ∧
    (∀ (α β : Type) (f : α → β) (l : List α) (n : Nat), (l.map f).take n = (l.take n).map f) ∧ (∀ (α β : Type) (f : α → β) (l : List α) (n : Nat), (l.map f).drop n = (l.drop n).map f) ∧ (∀ n : Int, n ≤ n) ∧ (∀ n : Int, n + ((0 : Nat) : Int) = n) ∧ (∀ t f, eT t (.func f) = .v (.func (.func f) #[] #[])) := by
  refine ⟨?_, ?_, ?_, ?_, ?_, ?_, ?_, ?_, ?_, ?_, ?_, ?_, ?_, ?_, ?_, ?_, ?_, ?_, ?_, ?_, ?_, ?_, ?_, ?_, ?_, ?_, ?_, ?_⟩ <;> intros <;> first | rfl | (rename_i i _ _ _ _; cases i <;> rfl) | (rw [Int.toNat_natCast]; exact List.take_length) | (rename_i i j; by_cases h : i = j <;> simp [nodB, h]; done) | (rename_i i j k; by_cases h : i = j <;> by_cases h2 : i = k <;> by_cases h3 : j = k <;> simp [nodB, h, h2, h3]; done) | exact List.map_take.symm | exact List.map_drop.symm | exact Int.le_refl _ | exact Int.add_zero _ | exact Nat.cast_ofNat | simp
theorem W16 : (∀ s, subS s [] = True) ∧ (∀ s i b S, subS s ((i, b) :: S) = (gS s i = some b ∧ subS s S)) ∧ (∀ s, uSL s [] = s) ∧ (∀ s i b S, uSL s ((i, b) :: S) = uSL (uS s i b) S) := by
  refine ⟨?_, ?_, ?_, ?_⟩ <;> intros <;> rfl
theorem W17 (ty : TypeId → Option TI) : (∀ rv res R t s, QB ty rv res R .ret t s = (subS s R ∧ ∃ xs, resL ty t s rv = some xs ∧ nodB (AV.idsL xs) = true ∧ ((AV.idsL xs).all fun i => (gS R i).isNone) = true ∧ FitO s xs res)) ∧ (∀ rv res R t s, QB ty rv res R .normal t s = (subS s R ∧ ∃ xs, resL ty t s rv = some xs ∧ nodB (AV.idsL xs) = true ∧ ((AV.idsL xs).all fun i => (gS R i).isNone) = true ∧ FitO s xs res)) ∧
    (∀ rv tb cs t s, QN ty rv tb cs .ret t s = ∃ xs, resL ty t s rv = some xs ∧ isN s tb cs xs) ∧ (∀ rv tb cs t s, QN ty rv tb cs .normal t s = ∃ xs, resL ty t s rv = some xs ∧ isN s tb cs xs) ∧ (∀ s tb cs id, isN s tb cs [.bp id 0] = (gS s id = some (.box tb cs))) ∧ (∀ α : Type, (none : Option α).isNone = true) ∧ (∀ j, gS [] j = none) := by
  refine ⟨?_, ?_, ?_, ?_, ?_, ?_, ?_⟩ <;> intros <;> rfl
theorem W18 (P : Program) (ty : TypeId → Option TI) : (∀ q b c x o d t s K, opX P ty q (.convert b c x) o d t s K = cnvW (ty b) (ty c) (eT t x) d t s K) ∧ (∀ i j k n d t s K, cnvW (some i) (some j) (.v (.int k n)) d t s K = ∃ k', kindOf j.zero = some k' ∧ K (pT t d (.v (.int k' (wr k' n)))) s) ∧ (∀ k n, kindOf [.int k n] = some k) ∧ (∀ n, wr .i64 n = wrap64 n) ∧ (∀ i a b c, rot i (.convert a b c) = true) ∧
    (∀ q o d t s K, opX P ty q (.assign (.const (.pointer none))) o d t s K = K (pT t d (.v (.pointer none))) s) ∧ (∀ j, rot j (.assign (.const (.pointer none))) = true) ∧ (∀ a b d t s K, binW .shr (.v (.int .i64 a)) (.v (.int .u64 b)) d t s K = (bok .shr b ∧ K (pT t d (.v (bval .shr .i64 a b))) s)) ∧ (∀ a b d t s K, binW .shl (.v (.int .i64 a)) (.v (.int .u64 b)) d t s K = (bok .shl b ∧ K (pT t d (.v (bval .shl .i64 a b))) s)) ∧
    (∀ a, shr .i64 a 33 = a / 8589934592) ∧ (∀ a, shr .i64 a 45 = a / 35184372088832) := by
  refine ⟨?_, ?_, ?_, ?_, ?_, ?_, ?_, ?_, ?_, ?_, ?_⟩ <;> intros <;> first | rfl | (unfold binW; simp [kok]) | (simp [shr, IntKind.bits]; done)
def rs2 : Bool → Sto → Bool
  | true, _ => true
  | false, s => rsv s
def dch2 : Bool → List Oper → List AV → Sto → Bool
  | false, _, _, _ => true
  | true, l, t, s => !hasC l || rchk l t s
def dch3 : Bool → List Oper → List AV → Sto → Bool
  | false, _, _, _ => true
  | true, l, t, s => rchk l t s
def hc2 : Bool → List Oper → Bool
  | true, _ => true
  | false, l => hasC l
theorem rsv_cons (i : Nat) (b : Blk) (s : Sto) : rsv ((i, b) :: s) = rs2 (i - i / 16 * 16 == 15) s := by
  have h : i % 16 = i - i / 16 * 16 := by omega
  show (i % 16 == 15 || rsv s) = _
  rw [h]; cases (i - i / 16 * 16 == 15) <;> rfl
theorem W19 : (∀ l t s, dchk l t s = dch2 (rsv s) l t s) ∧ (rsv [] = false) ∧ (∀ i b s, rsv ((i, b) :: s) = rs2 (i - i / 16 * 16 == 15) s) ∧ (∀ s, rs2 true s = true) ∧ (∀ s, rs2 false s = rsv s) ∧ (∀ l t s, dch2 false l t s = true) ∧ (∀ l t s, dch2 true l t s = dch3 (hasC l) l t s) ∧ (∀ l t s, dch3 false l t s = true) ∧ (∀ l t s, dch3 true l t s = rchk l t s) ∧
    (hasC [] = false) ∧ (∀ o l, hasC (o :: l) = hc2 (isC o.op) l) ∧ (∀ l, hc2 true l = true) ∧ (∀ l, hc2 false l = hasC l) ∧ (∀ o, isC o = match o with | .call ⟨.value _, _, _⟩ => true | _ => false) ∧ (∀ l, (true = true ∧ l) = l) := by
  refine ⟨?_, ?_, rsv_cons, ?_, ?_, ?_, ?_, ?_, ?_, ?_, ?_, ?_, ?_, ?_, ?_⟩ <;> intros <;> first | rfl | (simp; done) | (rename_i l t s; unfold dchk; cases rsv s <;> rfl) | (rename_i l t s; show (!hasC l || rchk l t s) = _; cases hasC l <;> rfl) | (rename_i o l; show (isC o.op || hasC l) = _; cases isC o.op <;> rfl)
theorem W20 : (∀ j i z lo hi, AV.fr j (.vw i z lo hi) = (i != j)) ∧ (Int.toNat 0 = 0) := ⟨fun _ _ _ _ _ => rfl, rfl⟩
end Go.Proofs.Ytccjanhdnheclaa.F
end

section
namespace Go.Proofs.Ytccjanhdnheclaa.F
open Go.RowKit Go.Proofs.YtccjanhdnheclaaW.PrintWords Go.Proofs.YtccjanhdnheclaaW.PrintLast Go.Proofs.YtccjanhdnheclaaW.PrintMore
set_option linter.unusedVariables false
set_option linter.unusedSimpArgs false
structure EncOk {α : Type} (d : Kd α) (sz : Nat) (enc : α → List Value) : Prop where
  hz : d.sz = sz
  pos : 0 < sz
  len : ∀ x, (enc x).length = sz
  pl : ∀ x, ∀ u ∈ enc x, plainV u = true
  K : ∀ {w x c}, d.K w x c ↔ c = enc x
  M : ∀ {w b ok x c}, d.M w b ok x c ↔ c = enc x
section
variable {α : Type} {d : Kd α} {sz : Nat} {enc : α → List Value}
theorem EncOk.all (E : EncOk d sz enc) {xs : List α} : ∀ x ∈ xs.map enc, x.length = sz := fun x hx => by
  obtain ⟨y, _, rfl⟩ := List.mem_map.1 hx
  exact E.len y
theorem EncOk.row (E : EncOk d sz enc) (xs : List α) : rowOk sz (xs.map enc) := fun x hx => by
  obtain ⟨y, _, rfl⟩ := List.mem_map.1 hx
  exact ⟨E.len y, E.pl y⟩
theorem EncOk.cell (E : EncOk d sz enc) {xs : List α} {i j : Nat} (hi : i < xs.length) (hj : j < sz) : (xs.map enc).flatten[i * sz + j]? = (enc xs[i])[j]? := by
  rw [flatten_at E.all (by simpa using hi) (z := []) hj]
  simp [List.getD_eq_getElem?_getD, hi]
theorem at_of_C (E : EncOk d sz enc) {w : World} {A : Option Addr} {c : Nat} {xs : List α} (h : d.C w A xs.length xs) (hc : xs.length ≤ c) : RowAt w.heap.size w sz (xs.map enc) (.slice A xs.length c) := by
  obtain ⟨h1, h2, h3⟩ := h
  have hs := E.hz
  refine ⟨A, c, by rw [List.length_map], by rw [List.length_map]; exact hc, by rw [List.length_map]; exact h2, E.pos, E.row xs, fun hne => ?_⟩
  have hp : 0 < xs.length := by
    cases xs with
    | nil => exact absurd rfl hne
    | cons x l => simp
  obtain ⟨ad, e, h3⟩ := h3 hp
  have key : ∀ j u, (xs.map enc).flatten[j]? = some u → w.cell? (ad.add j) = some u := fun j u hu => by
    have hl : j < (xs.map enc).flatten.length := (List.getElem?_eq_some_iff.1 hu).1
    rw [flatten_len E.all, List.length_map] at hl
    have hq : j / sz < xs.length := (Nat.div_lt_iff_lt_mul E.pos).2 hl
    have hr := Nat.mod_lt j E.pos
    have ej : j = j / sz * sz + j % sz := by rw [Nat.mul_comm]; exact (Nat.div_add_mod j sz).symm
    rw [ej, E.cell hq hr] at hu
    obtain ⟨cc, h4, h5, h6⟩ := h3 (j / sz) _ (List.getElem?_eq_getElem hq)
    rw [E.K.1 h5, hs] at h6
    rw [ej]
    exact h6 (j % sz) u hu
  refine ⟨ad, e, ?_, key⟩
  obtain ⟨u, hu⟩ : ∃ u, (xs.map enc).flatten[0]? = some u := by
    refine ⟨_, List.getElem?_eq_getElem (by rw [flatten_len E.all, List.length_map]; exact Nat.mul_pos hp E.pos)⟩
  have := key 0 u hu
  unfold World.cell? at this
  cases hb : w.heap[(ad.add 0).block]? with
  | none => rw [hb] at this; cases this
  | some b => exact (Array.getElem?_eq_some_iff.1 hb).1
theorem C_of_at (E : EncOk d sz enc) {B : Nat} {w : World} {xs : List α} {y : Value} (h : RowAt B w sz (xs.map enc) y) : ∃ A c, y = .slice A xs.length c ∧ d.C w A xs.length xs ∧ xs.length ≤ c := by
  obtain ⟨A, c, h1, h2, h3, _, _, h4⟩ := h
  rw [List.length_map] at h1 h2 h3
  refine ⟨A, c, h1, ⟨rfl, h3, fun hp => ?_⟩, h2⟩
  obtain ⟨ad, e, _, h5⟩ := h4 (fun e => by rw [List.map_eq_nil_iff] at e; rw [e] at hp; simp at hp)
  refine ⟨ad, e, fun j p hj => ⟨enc p, by rw [E.len, E.hz], E.K.2 rfl, fun i u hu => h5 _ u ?_⟩⟩
  obtain ⟨hl, rfl⟩ := List.getElem?_eq_some_iff.1 hj
  have hi : i < sz := by rw [← E.len xs[j]]; exact (List.getElem?_eq_some_iff.1 hu).1
  rw [E.hz, E.cell hl hi]
  exact hu
theorem R_of_rowO (E : EncOk d sz enc) {e B : Nat} {w : World} {v : Value} {xs : List α} {ok : Nat → Prop} (h : w.ownsRow B e sz v (xs.map enc).length (xs.map enc).flatten) (hok : ∀ k, bk v = some k → ok k) : d.R e w B ok v xs := by
  refine ⟨fun k hk => hok k (by rw [← bk_own h]; exact hk), (xs.map enc).flatten, by rw [E.hz]; rwa [List.length_map] at h, by rw [flatten_len E.all, List.length_map, E.hz], fun j p hj => E.M.2 ?_⟩
  obtain ⟨hl, rfl⟩ := List.getElem?_eq_some_iff.1 hj
  apply List.ext_getElem?
  intro i
  rw [E.hz]
  by_cases hi : i < sz
  · rw [List.getElem?_take, if_pos hi, List.getElem?_drop, E.cell hl hi]
  · rw [List.getElem?_take, if_neg hi, List.getElem?_eq_none (by rw [E.len]; omega)]
theorem R_of_row (E : EncOk d sz enc) {e B : Nat} {w : World} {v : Value} {xs : List α} (h : w.ownsRow B e sz v (xs.map enc).length (xs.map enc).flatten) : d.R e w B (fun _ => True) v xs := R_of_rowO E h fun _ _ => trivial
theorem row_of_R (E : EncOk d sz enc) {e B : Nat} {w : World} {ok : Nat → Prop} {v : Value} {xs : List α} (h : d.R e w B ok v xs) : w.ownsRow B e sz v (xs.map enc).length (xs.map enc).flatten := by
  obtain ⟨_, inner, ho, hr⟩ := h
  have hin : inner = (xs.map enc).flatten := by
    apply List.ext_getElem?
    intro j
    by_cases hj : j < xs.length * sz
    · have hq : j / sz < xs.length := (Nat.div_lt_iff_lt_mul E.pos).2 hj
      have hm := Nat.mod_lt j E.pos
      have ej : j = j / sz * sz + j % sz := by rw [Nat.mul_comm]; exact (Nat.div_add_mod j sz).symm
      have h2 := E.M.1 (hr.2 (j / sz) _ (List.getElem?_eq_getElem hq))
      rw [ej, E.cell hq hm, ← h2, E.hz, List.getElem?_take, if_pos hm, List.getElem?_drop]
    · rw [List.getElem?_eq_none (by have := hr.1; rw [E.hz] at this; omega), List.getElem?_eq_none (by rw [flatten_len E.all, List.length_map]; omega)]
  rw [← hin, List.length_map]
  rw [E.hz] at ho
  exact ho
end
end Go.Proofs.Ytccjanhdnheclaa.F
namespace Go.Proofs.Ytccjanhdnheclaa.F
open Go.RowKit Go.Proofs.YtccjanhdnheclaaW.PrintWords Go.Proofs.YtccjanhdnheclaaW.PrintLast Go.Proofs.YtccjanhdnheclaaW.PrintMore
end Go.Proofs.Ytccjanhdnheclaa.F
end

section
namespace Go.Proofs.Ytccjanhdnheclaa.F
open Go.RowKit Go.Proofs.YtccjanhdnheclaaW.PrintWords Go.Proofs.YtccjanhdnheclaaW.PrintLast Go.Proofs.YtccjanhdnheclaaW.PrintMore
set_option linter.unusedVariables false
set_option linter.unusedSimpArgs false
def spec_l04Has.f (a0_0 : Int) (a0_1 : Int) (a0_2 : Int) (a1 : Int) : Option (Bool) := (spec_MazeOk.f a0_0 a0_1 a0_2).bind fun t136 => (if t136 = true then ((spec_CountCells.f a0_0 a0_1).bind fun t137 => ((spec_l01In.f a1 0 (wrap64 (t137 - 1))).bind fun t138 => (some t138))) else (some false))
end Go.Proofs.Ytccjanhdnheclaa.F
end

section
namespace Go.Proofs.Ytccjanhdnheclaa.F
open Go.RowKit Go.Proofs.YtccjanhdnheclaaW.PrintWords Go.Proofs.YtccjanhdnheclaaW.PrintLast Go.Proofs.YtccjanhdnheclaaW.PrintMore
set_option linter.unusedVariables false
set_option linter.unusedSimpArgs false
def laws_big.f (l0 : List Int) : Option (Bool) := some (decide ((l0.length : Int) > 1048576))
def spec_l01New.l0 : Nat → List Int → Int → Int → Option (List Int × Int × Int)
  | 0, _, _, _ => none
  | k + 1, x0, x3, x4 => if x4 < (x0.length : Int) then (if x4 < 4000 then (if 0 ≤ x4 then (spec_l01New.l0 k x0 (Go.bits .and .i64 (wrap64 ((wrap64 ((wrap64 (x3 * 131)) + (wrap64 (rd x0 x4)))) + 7)) 1073741823) (wrap64 (x4 + 1))) else (none)) else (some (x0, 0, x3))) else (some (x0, 0, x3))
def spec_l01New.f (k : Nat) (l0 : List Int) : Option (List Int × Int × Int) := spec_l01New.l0 k l0 (wrap64 (99041 + (l0.length : Int))) 0
def spec_l01Byte.f (s0_0 : List Int) (s0_1 : Int) (s0_2 : Int) : Option (Int × Int × Int) := if s0_1 < (s0_0.length : Int) then (if 0 ≤ s0_1 then (some (Go.bits .and .i64 (wrap64 ((Go.bits .and .i64 (Go.bits .xor .i64 ((wrap64 ((wrap64 (s0_2 * 6364136223846793005)) + 1442695040888963407)) / 8589934592) ((wrap64 ((wrap64 (s0_2 * 6364136223846793005)) + 1442695040888963407)) / 35184372088832)) 255) + (wrap64 (rd s0_0 s0_1)))) 255, wrap64 (s0_1 + 1), wrap64 ((wrap64 (s0_2 * 6364136223846793005)) + 1442695040888963407))) else (none)) else (some (Go.bits .and .i64 (Go.bits .xor .i64 ((wrap64 ((wrap64 (s0_2 * 6364136223846793005)) + 1442695040888963407)) / 8589934592) ((wrap64 ((wrap64 (s0_2 * 6364136223846793005)) + 1442695040888963407)) / 35184372088832)) 255, s0_1, wrap64 ((wrap64 (s0_2 * 6364136223846793005)) + 1442695040888963407)))
def spec_l01Below.f (s0_0 : List Int) (s0_1 : Int) (s0_2 : Int) (a1 : Int) : Option (Int × Int × Int) := if a1 ≤ 0 then (some (0, s0_1, s0_2)) else (if a1 ≤ 256 then ((spec_l01Byte.f s0_0 s0_1 s0_2).bind fun bt351 => (if a1 = 0 then (none) else (some (Int.tmod bt351.1 a1, bt351.2.1, bt351.2.2)))) else ((spec_l01Byte.f s0_0 s0_1 s0_2).bind fun bt354 => ((spec_l01Byte.f s0_0 bt354.2.1 bt354.2.2).bind fun bt357 => ((spec_l01Byte.f s0_0 bt357.2.1 bt357.2.2).bind fun bt360 => ((spec_l01Byte.f s0_0 bt360.2.1 bt360.2.2).bind fun bt363 => (if a1 = 0 then (none) else (some (Int.tmod (wrap64 ((wrap64 ((wrap64 ((wrap64 (bt354.1 * 16777216)) + (wrap64 (bt357.1 * 65536)))) + (wrap64 (bt360.1 * 256)))) + bt363.1)) a1, bt363.2.1, bt363.2.2))))))))
def spec_l01PickInt.f (s0_0 : List Int) (s0_1 : Int) (s0_2 : Int) (l1 : List Int) : Option (Int × Int × Int) := (spec_l01Below.f s0_0 s0_1 s0_2 (l1.length : Int)).bind fun bt366 => (if 0 ≤ bt366.1 then (if bt366.1 < (l1.length : Int) then (some (rd l1 bt366.1, bt366.2.1, bt366.2.2)) else (none)) else (none))
def spec_l02Grid.f (s0_0 : List Int) (s0_1 : Int) (s0_2 : Int) : Option (Int × Int × Int × Int) := (spec_l01PickInt.f s0_0 s0_1 s0_2 (([1, 2, 3, 3, 4] : List Int))).bind fun bt374 => ((spec_l01PickInt.f s0_0 bt374.2.1 bt374.2.2 (([1, 2, 3, 3, 4] : List Int))).bind fun bt380 => (some (bt374.1, bt380.1, bt380.2.1, bt380.2.2)))
def spec_l03Common.l0 : Nat → Int → Int → Option (Bool)
  | 0, _, _ => none
  | k + 1, x0, x1 => if x1 > 0 then (if x1 = 0 then (none) else (spec_l03Common.l0 k x1 (Int.tmod x0 x1))) else (some (decide (x0 > 1)))
def spec_l03Common.f (k : Nat) (a0 : Int) (a1 : Int) : Option (Bool) := spec_l03Common.l0 k a0 a1
theorem spec_l03Common.mono_l : ∀ k, (∀ y0 y1, LeO (spec_l03Common.l0 k y0 y1) (spec_l03Common.l0 (k + 1) y0 y1))
  | 0 => fun _ _ r h => by simp [spec_l03Common.l0] at h
  | k + 1 => by
    have ih0 := spec_l03Common.mono_l k
    · intro y0 y1
      unfold spec_l03Common.l0
      repeat' first
      | (with_reducible exact ih0 _ _)
      | (with_reducible exact LeO.refl _)
      | (with_reducible exact LeO.none _)
      | (with_reducible refine LeO.ite ?_ ?_)
      | (with_reducible refine LeO.bind ?_ (fun _ => ?_))
      | exact ih0 _ _
      | exact LeO.none _
      | refine LeO.ite ?_ ?_
      | refine LeO.bind ?_ (fun _ => ?_)
theorem spec_l03Common.mono : ∀ a0 a1 k, LeO (spec_l03Common.f k a0 a1) (spec_l03Common.f (k + 1) a0 a1) := by
  intro a0 a1 k
  have ih0 := spec_l03Common.mono_l k
  unfold spec_l03Common.f
  repeat' first
      | (with_reducible exact ih0 _ _)
      | (with_reducible exact LeO.refl _)
      | (with_reducible exact LeO.none _)
      | (with_reducible refine LeO.ite ?_ ?_)
      | (with_reducible refine LeO.bind ?_ (fun _ => ?_))
      | exact ih0 _ _
      | exact LeO.none _
      | refine LeO.ite ?_ ?_
      | refine LeO.bind ?_ (fun _ => ?_)
def spec_EndsOf.f (a0_0 : Int) (a0_1 : Int) (a1 : Int) : Option (Int × Int) := (spec_CountGaps.f a0_0 a0_1).bind fun t384 => ((spec_l01In.f a1 0 (wrap64 (t384 - 1))).bind fun t385 => (if t385 = true then ((spec_l02East.f a0_0 a0_1).bind fun t386 => (if a1 < t386 then (if (wrap64 (a0_0 - 1)) = 0 then (none) else (some (wrap64 ((wrap64 ((wrap64 (Int.tdiv a1 (wrap64 (a0_0 - 1)))) * a0_0)) + (Int.tmod a1 (wrap64 (a0_0 - 1)))), wrap64 ((wrap64 ((wrap64 ((wrap64 (Int.tdiv a1 (wrap64 (a0_0 - 1)))) * a0_0)) + (Int.tmod a1 (wrap64 (a0_0 - 1))))) + 1)))) else ((spec_l02East.f a0_0 a0_1).bind fun t387 => (some (wrap64 (a1 - t387), wrap64 ((wrap64 (a1 - t387)) + a0_0)))))) else (some ((-1), (-1)))))
mutual
def spec_l03Tree.l0 : Nat → Int → List Int → Int → List Int → Int → Int → Int → Int → Int → Int → Int → Option (Int × Int × Int × Int × Int)
  | 0, _, _, _, _, _, _, _, _, _, _, _ => none
  | k + 1, x6, x7, x8, x1000, x1001, x1002, x389000, x389001, x391000, x391001, x391002 => if x8 < (x7.length : Int) then (if 0 ≤ x8 then (spec_l03Tree.l0 k x6 (x7.set (x8 : Int).toNat x8) (wrap64 (x8 + 1)) x1000 x1001 x1002 x389000 x389001 x391000 x391001 x391002) else (none)) else (if x6 = 0 then (some (x391000, x391001, x391002, x1001, x1002)) else ((spec_l01Below.f x1000 x1001 x1002 x6).bind fun bt397 => ((spec_l01Below.f x1000 bt397.2.1 bt397.2.2 x6).bind fun bt400 => (spec_l03Tree.l1 k x6 x7 bt397.1 (wrap64 (1 + bt400.1)) x1000 bt400.2.1 bt400.2.2 x389000 x389001 x391000 x391001 x391002))))
def spec_l03Tree.l1 : Nat → Int → List Int → Int → Int → List Int → Int → Int → Int → Int → Int → Int → Int → Option (Int × Int × Int × Int × Int)
  | 0, _, _, _, _, _, _, _, _, _, _, _, _ => none
  | k + 1, x6, x7, x9, x10, x1000, x1001, x1002, x389000, x389001, x391000, x391001, x391002 => (spec_l03Common.f k x10 x6).bind fun t403 => (if t403 = true then (spec_l03Tree.l1 k x6 x7 x9 (wrap64 (x10 + 1)) x1000 x1001 x1002 x389000 x389001 x391000 x391001 x391002) else (spec_l03Tree.l2 k x6 x7 x9 x10 0 x1000 x1001 x1002 x389000 x389001 x391000 x391001 x391002))
def spec_l03Tree.l2 : Nat → Int → List Int → Int → Int → Int → List Int → Int → Int → Int → Int → Int → Int → Int → Option (Int × Int × Int × Int × Int)
  | 0, _, _, _, _, _, _, _, _, _, _, _, _, _ => none
  | k + 1, x6, x7, x9, x10, x11, x1000, x1001, x1002, x389000, x389001, x391000, x391001, x391002 => if x11 < x6 then (if x6 = 0 then (none) else ((spec_EndsOf.f x389000 x389001 (Int.tmod (wrap64 (x9 + (wrap64 (x11 * x10)))) x6)).bind fun bt404 => (if 0 ≤ bt404.1 then (if bt404.1 < (x7.length : Int) then (if 0 ≤ bt404.2 then (if bt404.2 < (x7.length : Int) then (if (rd x7 bt404.1) = (rd x7 bt404.2) then (spec_l03Tree.l2 k x6 x7 x9 x10 (wrap64 (x11 + 1)) x1000 x1001 x1002 x389000 x389001 x391000 x391001 x391002) else (if 0 ≤ (Int.tmod (wrap64 (x9 + (wrap64 (x11 * x10)))) x6) then (spec_l03Tree.l3 k x6 x7 x9 x10 x11 bt404.1 (rd x7 bt404.2) 0 x1000 x1001 x1002 x389000 x389001 x391000 x391001 (Go.bits .or .i64 x391002 (shl .i64 1 (Int.tmod (wrap64 (x9 + (wrap64 (x11 * x10)))) x6)))) else (none))) else (none)) else (none)) else (none)) else (none)))) else (some (x391000, x391001, x391002, x1001, x1002))
def spec_l03Tree.l3 : Nat → Int → List Int → Int → Int → Int → Int → Int → Int → List Int → Int → Int → Int → Int → Int → Int → Int → Option (Int × Int × Int × Int × Int)
  | 0, _, _, _, _, _, _, _, _, _, _, _, _, _, _, _, _ => none
  | k + 1, x6, x7, x9, x10, x11, x13, x15, x16, x1000, x1001, x1002, x389000, x389001, x391000, x391001, x391002 => if x16 < (x7.length : Int) then (if 0 ≤ x16 then (if (rd x7 x16) = x15 then (if 0 ≤ x13 then (if x13 < (x7.length : Int) then (spec_l03Tree.l3 k x6 (x7.set (x16 : Int).toNat (rd x7 x13)) x9 x10 x11 x13 x15 (wrap64 (x16 + 1)) x1000 x1001 x1002 x389000 x389001 x391000 x391001 x391002) else (none)) else (none)) else (spec_l03Tree.l3 k x6 x7 x9 x10 x11 x13 x15 (wrap64 (x16 + 1)) x1000 x1001 x1002 x389000 x389001 x391000 x391001 x391002)) else (none)) else (spec_l03Tree.l2 k x6 x7 x9 x10 (wrap64 (x11 + 1)) x1000 x1001 x1002 x389000 x389001 x391000 x391001 x391002)
end
def spec_l03Tree.f (k : Nat) (s0_0 : List Int) (s0_1 : Int) (s0_2 : Int) (a1_0 : Int) (a1_1 : Int) : Option (Int × Int × Int × Int × Int) := (spec_CountGaps.f a1_0 a1_1).bind fun t391 => ((spec_CountCells.f a1_0 a1_1).bind fun t392 => (if 0 ≤ t392 then (if (t392 : Int).toNat ≤ 35184372088832 then (spec_l03Tree.l0 k t391 (List.replicate (t392 : Int).toNat 0) 0 s0_0 s0_1 s0_2 a1_0 a1_1 a1_0 a1_1 0) else (none)) else (none)))
end Go.Proofs.Ytccjanhdnheclaa.F
end

section
namespace Go.Proofs.Ytccjanhdnheclaa.F
open Go.RowKit Go.Proofs.YtccjanhdnheclaaW.PrintWords Go.Proofs.YtccjanhdnheclaaW.PrintLast Go.Proofs.YtccjanhdnheclaaW.PrintMore
set_option linter.unusedVariables false
set_option linter.unusedSimpArgs false
def spec_l05Tree.f (k : Nat) (s0_0 : List Int) (s0_1 : Int) (s0_2 : Int) : Option (Int × Int × Int × Int × Int) := (spec_l02Grid.f s0_0 s0_1 s0_2).bind fun bt581 => ((spec_l03Tree.f k s0_0 bt581.2.2.1 bt581.2.2.2 bt581.1 bt581.2.1).bind fun bt586 => (some (bt586.1, bt586.2.1, bt586.2.2.1, bt586.2.2.2.1, bt586.2.2.2.2)))
def spec_l34Targets.l0 : Nat → List Int → Int → Int → List Int → Int → Int → Int → Int → Int → Option (List Int × Int × Int)
  | 0, _, _, _, _, _, _, _, _, _ => none
  | k + 1, x7, x8, x9, x1000, x1001, x1002, x592000, x592001, x592002 => if x9 < x8 then ((spec_CountCells.f x592000 x592001).bind fun t598 => ((spec_l01Below.f x1000 x1001 x1002 (mx 1 t598)).bind fun bt599 => (if x7.length < 17592186044416 then (spec_l34Targets.l0 k (x7 ++ [bt599.1]) x8 (wrap64 (x9 + 1)) x1000 bt599.2.1 bt599.2.2 x592000 x592001 x592002) else (none)))) else (some (x7, x1001, x1002))
def spec_l34Targets.f (k : Nat) (s0_0 : List Int) (s0_1 : Int) (s0_2 : Int) (a1_0 : Int) (a1_1 : Int) (a1_2 : Int) (a2 : Int) : Option (List Int × Int × Int) := (spec_l01Below.f s0_0 s0_1 s0_2 (wrap64 (a2 + 1))).bind fun bt595 => (spec_l34Targets.l0 k (([] : List Int)) bt595.1 0 s0_0 bt595.2.1 bt595.2.2 a1_0 a1_1 a1_2)
def spec_DrawRescue.f (k : Nat) (l0 : List Int) : Option (Int × Int × Int × Int × List Int) := (spec_l01New.f k l0).bind fun bt606 => ((spec_l05Tree.f k bt606.1 bt606.2.1 bt606.2.2).bind fun bt610 => ((spec_CountCells.f bt610.1 bt610.2.1).bind fun t616 => ((spec_l01Below.f bt606.1 bt610.2.2.2.1 bt610.2.2.2.2 t616).bind fun bt617 => ((spec_l34Targets.f k bt606.1 bt617.2.1 bt617.2.2 bt610.1 bt610.2.1 bt610.2.2.1 4).bind fun bt620 => (some (bt610.1, bt610.2.1, bt610.2.2.1, bt617.1, bt620.1))))))
def impl_WaysFrom.l0 : Nat → Int → List Int → Int → Int → Int → Int → Option (List Int)
  | 0, _, _, _, _, _, _ => none
  | k + 1, x1, x5, x6, x626000, x626001, x626002 => if x6 ≤ 3 then ((impl_Step.f k x626000 x626001 x626002 x1 x6).bind fun t626 => (if t626 ≥ 0 then (if x5.length < 17592186044416 then (impl_WaysFrom.l0 k x1 (x5 ++ [x6]) (wrap64 (x6 + 1)) x626000 x626001 x626002) else (none)) else (impl_WaysFrom.l0 k x1 x5 (wrap64 (x6 + 1)) x626000 x626001 x626002))) else (some x5)
def impl_WaysFrom.f (k : Nat) (a0_0 : Int) (a0_1 : Int) (a0_2 : Int) (a1 : Int) : Option (List Int) := impl_WaysFrom.l0 k a1 ([] : List Int) 0 a0_0 a0_1 a0_2
theorem impl_WaysFrom.mono_l : ∀ k, (∀ y0 y1 y2 y3 y4 y5, LeO (impl_WaysFrom.l0 k y0 y1 y2 y3 y4 y5) (impl_WaysFrom.l0 (k + 1) y0 y1 y2 y3 y4 y5))
  | 0 => fun _ _ _ _ _ _ r h => by simp [impl_WaysFrom.l0] at h
  | k + 1 => by
    have ih0 := impl_WaysFrom.mono_l k
    · intro y0 y1 y2 y3 y4 y5
      unfold impl_WaysFrom.l0
      repeat' first
      | (with_reducible exact ih0 _ _ _ _ _ _)
      | (with_reducible exact impl_Step.mono _ _ _ _ _ _)
      | (with_reducible exact LeO.refl _)
      | (with_reducible exact LeO.none _)
      | (with_reducible refine LeO.ite ?_ ?_)
      | (with_reducible refine LeO.bind ?_ (fun _ => ?_))
      | exact ih0 _ _ _ _ _ _
      | exact impl_Step.mono _ _ _ _ _ _
      | exact LeO.none _
      | refine LeO.ite ?_ ?_
      | refine LeO.bind ?_ (fun _ => ?_)
theorem impl_WaysFrom.mono : ∀ a0 a1 a2 a3 k, LeO (impl_WaysFrom.f k a0 a1 a2 a3) (impl_WaysFrom.f (k + 1) a0 a1 a2 a3) := by
  intro a0 a1 a2 a3 k
  have ih0 := impl_WaysFrom.mono_l k
  unfold impl_WaysFrom.f
  repeat' first
      | (with_reducible exact ih0 _ _ _ _ _ _)
      | (with_reducible exact impl_Step.mono _ _ _ _ _ _)
      | (with_reducible exact LeO.refl _)
      | (with_reducible exact LeO.none _)
      | (with_reducible refine LeO.ite ?_ ?_)
      | (with_reducible refine LeO.bind ?_ (fun _ => ?_))
      | exact ih0 _ _ _ _ _ _
      | exact impl_Step.mono _ _ _ _ _ _
      | exact LeO.none _
      | refine LeO.ite ?_ ?_
      | refine LeO.bind ?_ (fun _ => ?_)
def math_bits_Mul64.f (a0 : Int) (a1 : Int) : Option (Int × Int) := some (IntKind.u64.wrap ((IntKind.u64.wrap ((IntKind.u64.wrap ((a0 / 4294967296) * (a1 / 4294967296))) + ((IntKind.u64.wrap ((IntKind.u64.wrap ((a0 / 4294967296) * (Go.bits .and .u64 a1 4294967295))) + ((IntKind.u64.wrap ((Go.bits .and .u64 a0 4294967295) * (Go.bits .and .u64 a1 4294967295))) / 4294967296))) / 4294967296))) + ((IntKind.u64.wrap ((Go.bits .and .u64 (IntKind.u64.wrap ((IntKind.u64.wrap ((a0 / 4294967296) * (Go.bits .and .u64 a1 4294967295))) + ((IntKind.u64.wrap ((Go.bits .and .u64 a0 4294967295) * (Go.bits .and .u64 a1 4294967295))) / 4294967296))) 4294967295) + (IntKind.u64.wrap ((Go.bits .and .u64 a0 4294967295) * (a1 / 4294967296))))) / 4294967296)), IntKind.u64.wrap (a0 * a1))
def math_bits_Mul.f (a0 : Int) (a1 : Int) : Option (Int × Int) := (math_bits_Mul64.f a0 a1).bind fun bt630 => (some (bt630.1, bt630.2))
def slices_Repeat_int.f (l0 : List Int) (a1 : Int) : Option (List Int) := if l0.length = 1 ∧ 1 ≤ a1 ∧ a1 ≤ 4096 then some (List.replicate a1.toNat (rd l0 0)) else none
mutual
def impl_distances.l0 : Nat → List Int → List Int → Int → Int → Int → Int → Option (List Int)
  | 0, _, _, _, _, _, _ => none
  | k + 1, x5, x6, x7, x633000, x633001, x633002 => if x7 < (x6.length : Int) then (if 0 ≤ x7 then ((impl_WaysFrom.f k x633000 x633001 x633002 (rd x6 x7)).bind fun t645 => (impl_distances.l1 k x5 x6 x7 t645 (t645.length : Int) 0 x633000 x633001 x633002)) else (none)) else (some x5)
def impl_distances.l1 : Nat → List Int → List Int → Int → List Int → Int → Int → Int → Int → Int → Option (List Int)
  | 0, _, _, _, _, _, _, _, _, _ => none
  | k + 1, x5, x6, x7, x32, x33, x34, x633000, x633001, x633002 => if x34 < x33 then (if 0 ≤ x34 then (if x34 < (x32.length : Int) then (if 0 ≤ x7 then (if x7 < (x6.length : Int) then ((impl_Step.f k x633000 x633001 x633002 (rd x6 x7) (rd x32 x34)).bind fun t650 => (if 0 ≤ t650 then (if t650 < (x5.length : Int) then (if (rd x5 t650) < 0 then (if 0 ≤ (rd x6 x7) then (if (rd x6 x7) < (x5.length : Int) then (if x6.length < 17592186044416 then (impl_distances.l1 k (x5.set (t650 : Int).toNat (wrap64 ((rd x5 (rd x6 x7)) + 1))) (x6 ++ [t650]) x7 x32 x33 (wrap64 (x34 + 1)) x633000 x633001 x633002) else (none)) else (none)) else (none)) else (impl_distances.l1 k x5 x6 x7 x32 x33 (wrap64 (x34 + 1)) x633000 x633001 x633002)) else (none)) else (none))) else (none)) else (none)) else (none)) else (none)) else (impl_distances.l0 k x5 x6 (wrap64 (x7 + 1)) x633000 x633001 x633002)
end
def impl_distances.f (k : Nat) (a0_0 : Int) (a0_1 : Int) (a0_2 : Int) (a1 : Int) : Option (List Int) := (impl_CountCells.f a0_0 a0_1).bind fun t636 => ((slices_Repeat_int.f (([(-1)] : List Int)) t636).bind fun t637 => (if 0 ≤ a1 then (if a1 < (t637.length : Int) then (impl_distances.l0 k (t637.set (a1 : Int).toNat 0) (([a1] : List Int)) 0 a0_0 a0_1 a0_2) else (none)) else (none)))
def impl_upTo.l0 : Nat → Int → List Int → Int → Option (List Int)
  | 0, _, _, _ => none
  | k + 1, x0, x3, x4 => if x4 < x0 then (if x3.length < 17592186044416 then (impl_upTo.l0 k x0 (x3 ++ [x4]) (wrap64 (x4 + 1))) else (none)) else (some x3)
def impl_upTo.f (k : Nat) (a0 : Int) : Option (List Int) := impl_upTo.l0 k a0 ([] : List Int) 0
def impl_Reached.f (a0_0 a0_1 a0_2 a1 : Int) : Option (List Int) := (impl_isIn.f a0_0 a0_1 a0_2 [a1]).bind fun b => if b = true then ((impl_distances.f 1000 a0_0 a0_1 a0_2 a1).bind fun far => if 0 < far.length then ((impl_upTo.f 1000 (far.length : Int)).bind fun u => if (u.all fun x => decide (0 ≤ x ∧ x < far.length)) = true ∧ 0 < u.length then some (u.filter fun c => !decide (rd far c < 0)) else none) else none) else some []
def impl_CountParts.l0 : Nat → Int → Int → Int → Int → Int → Option (Int)
  | 0, _, _, _, _, _ => none
  | k + 1, x3, x4, x662000, x662001, x662002 => (impl_isIn.f x662000 x662001 x662002 (([x4] : List Int))).bind fun t665 => (if t665 = true then ((impl_Reached.f x662000 x662001 x662002 x4).bind fun t666 => (if 0 < (t666.length : Int) then (if (rd t666 0) = x4 then (impl_CountParts.l0 k (wrap64 (x3 + 1)) (wrap64 (x4 + 1)) x662000 x662001 x662002) else (impl_CountParts.l0 k x3 (wrap64 (x4 + 1)) x662000 x662001 x662002)) else (none))) else (some x3))
def impl_CountParts.f (k : Nat) (a0_0 : Int) (a0_1 : Int) (a0_2 : Int) : Option (Int) := impl_CountParts.l0 k 0 0 a0_0 a0_1 a0_2
def impl_IsConnected.f (k : Nat) (a0_0 : Int) (a0_1 : Int) (a0_2 : Int) : Option (Bool) := (impl_CountParts.f k a0_0 a0_1 a0_2).bind fun t671 => (some (t671 == 1))
def math_bits_OnesCount64.f (a0 : Int) : Option (Int) := some (Go.bits .and .i64 (wrap64 (IntKind.u64.wrap ((IntKind.u64.wrap ((IntKind.u64.wrap ((Go.bits .and .u64 (IntKind.u64.wrap (((IntKind.u64.wrap ((Go.bits .and .u64 ((IntKind.u64.wrap ((Go.bits .and .u64 (a0 / 2) 6148914691236517205) + (Go.bits .and .u64 a0 6148914691236517205))) / 4) 3689348814741910323) + (Go.bits .and .u64 (IntKind.u64.wrap ((Go.bits .and .u64 (a0 / 2) 6148914691236517205) + (Go.bits .and .u64 a0 6148914691236517205))) 3689348814741910323))) / 16) + (IntKind.u64.wrap ((Go.bits .and .u64 ((IntKind.u64.wrap ((Go.bits .and .u64 (a0 / 2) 6148914691236517205) + (Go.bits .and .u64 a0 6148914691236517205))) / 4) 3689348814741910323) + (Go.bits .and .u64 (IntKind.u64.wrap ((Go.bits .and .u64 (a0 / 2) 6148914691236517205) + (Go.bits .and .u64 a0 6148914691236517205))) 3689348814741910323))))) 1085102592571150095) + ((Go.bits .and .u64 (IntKind.u64.wrap (((IntKind.u64.wrap ((Go.bits .and .u64 ((IntKind.u64.wrap ((Go.bits .and .u64 (a0 / 2) 6148914691236517205) + (Go.bits .and .u64 a0 6148914691236517205))) / 4) 3689348814741910323) + (Go.bits .and .u64 (IntKind.u64.wrap ((Go.bits .and .u64 (a0 / 2) 6148914691236517205) + (Go.bits .and .u64 a0 6148914691236517205))) 3689348814741910323))) / 16) + (IntKind.u64.wrap ((Go.bits .and .u64 ((IntKind.u64.wrap ((Go.bits .and .u64 (a0 / 2) 6148914691236517205) + (Go.bits .and .u64 a0 6148914691236517205))) / 4) 3689348814741910323) + (Go.bits .and .u64 (IntKind.u64.wrap ((Go.bits .and .u64 (a0 / 2) 6148914691236517205) + (Go.bits .and .u64 a0 6148914691236517205))) 3689348814741910323))))) 1085102592571150095) / 256))) + ((IntKind.u64.wrap ((Go.bits .and .u64 (IntKind.u64.wrap (((IntKind.u64.wrap ((Go.bits .and .u64 ((IntKind.u64.wrap ((Go.bits .and .u64 (a0 / 2) 6148914691236517205) + (Go.bits .and .u64 a0 6148914691236517205))) / 4) 3689348814741910323) + (Go.bits .and .u64 (IntKind.u64.wrap ((Go.bits .and .u64 (a0 / 2) 6148914691236517205) + (Go.bits .and .u64 a0 6148914691236517205))) 3689348814741910323))) / 16) + (IntKind.u64.wrap ((Go.bits .and .u64 ((IntKind.u64.wrap ((Go.bits .and .u64 (a0 / 2) 6148914691236517205) + (Go.bits .and .u64 a0 6148914691236517205))) / 4) 3689348814741910323) + (Go.bits .and .u64 (IntKind.u64.wrap ((Go.bits .and .u64 (a0 / 2) 6148914691236517205) + (Go.bits .and .u64 a0 6148914691236517205))) 3689348814741910323))))) 1085102592571150095) + ((Go.bits .and .u64 (IntKind.u64.wrap (((IntKind.u64.wrap ((Go.bits .and .u64 ((IntKind.u64.wrap ((Go.bits .and .u64 (a0 / 2) 6148914691236517205) + (Go.bits .and .u64 a0 6148914691236517205))) / 4) 3689348814741910323) + (Go.bits .and .u64 (IntKind.u64.wrap ((Go.bits .and .u64 (a0 / 2) 6148914691236517205) + (Go.bits .and .u64 a0 6148914691236517205))) 3689348814741910323))) / 16) + (IntKind.u64.wrap ((Go.bits .and .u64 ((IntKind.u64.wrap ((Go.bits .and .u64 (a0 / 2) 6148914691236517205) + (Go.bits .and .u64 a0 6148914691236517205))) / 4) 3689348814741910323) + (Go.bits .and .u64 (IntKind.u64.wrap ((Go.bits .and .u64 (a0 / 2) 6148914691236517205) + (Go.bits .and .u64 a0 6148914691236517205))) 3689348814741910323))))) 1085102592571150095) / 256))) / 65536))) + ((IntKind.u64.wrap ((IntKind.u64.wrap ((Go.bits .and .u64 (IntKind.u64.wrap (((IntKind.u64.wrap ((Go.bits .and .u64 ((IntKind.u64.wrap ((Go.bits .and .u64 (a0 / 2) 6148914691236517205) + (Go.bits .and .u64 a0 6148914691236517205))) / 4) 3689348814741910323) + (Go.bits .and .u64 (IntKind.u64.wrap ((Go.bits .and .u64 (a0 / 2) 6148914691236517205) + (Go.bits .and .u64 a0 6148914691236517205))) 3689348814741910323))) / 16) + (IntKind.u64.wrap ((Go.bits .and .u64 ((IntKind.u64.wrap ((Go.bits .and .u64 (a0 / 2) 6148914691236517205) + (Go.bits .and .u64 a0 6148914691236517205))) / 4) 3689348814741910323) + (Go.bits .and .u64 (IntKind.u64.wrap ((Go.bits .and .u64 (a0 / 2) 6148914691236517205) + (Go.bits .and .u64 a0 6148914691236517205))) 3689348814741910323))))) 1085102592571150095) + ((Go.bits .and .u64 (IntKind.u64.wrap (((IntKind.u64.wrap ((Go.bits .and .u64 ((IntKind.u64.wrap ((Go.bits .and .u64 (a0 / 2) 6148914691236517205) + (Go.bits .and .u64 a0 6148914691236517205))) / 4) 3689348814741910323) + (Go.bits .and .u64 (IntKind.u64.wrap ((Go.bits .and .u64 (a0 / 2) 6148914691236517205) + (Go.bits .and .u64 a0 6148914691236517205))) 3689348814741910323))) / 16) + (IntKind.u64.wrap ((Go.bits .and .u64 ((IntKind.u64.wrap ((Go.bits .and .u64 (a0 / 2) 6148914691236517205) + (Go.bits .and .u64 a0 6148914691236517205))) / 4) 3689348814741910323) + (Go.bits .and .u64 (IntKind.u64.wrap ((Go.bits .and .u64 (a0 / 2) 6148914691236517205) + (Go.bits .and .u64 a0 6148914691236517205))) 3689348814741910323))))) 1085102592571150095) / 256))) + ((IntKind.u64.wrap ((Go.bits .and .u64 (IntKind.u64.wrap (((IntKind.u64.wrap ((Go.bits .and .u64 ((IntKind.u64.wrap ((Go.bits .and .u64 (a0 / 2) 6148914691236517205) + (Go.bits .and .u64 a0 6148914691236517205))) / 4) 3689348814741910323) + (Go.bits .and .u64 (IntKind.u64.wrap ((Go.bits .and .u64 (a0 / 2) 6148914691236517205) + (Go.bits .and .u64 a0 6148914691236517205))) 3689348814741910323))) / 16) + (IntKind.u64.wrap ((Go.bits .and .u64 ((IntKind.u64.wrap ((Go.bits .and .u64 (a0 / 2) 6148914691236517205) + (Go.bits .and .u64 a0 6148914691236517205))) / 4) 3689348814741910323) + (Go.bits .and .u64 (IntKind.u64.wrap ((Go.bits .and .u64 (a0 / 2) 6148914691236517205) + (Go.bits .and .u64 a0 6148914691236517205))) 3689348814741910323))))) 1085102592571150095) + ((Go.bits .and .u64 (IntKind.u64.wrap (((IntKind.u64.wrap ((Go.bits .and .u64 ((IntKind.u64.wrap ((Go.bits .and .u64 (a0 / 2) 6148914691236517205) + (Go.bits .and .u64 a0 6148914691236517205))) / 4) 3689348814741910323) + (Go.bits .and .u64 (IntKind.u64.wrap ((Go.bits .and .u64 (a0 / 2) 6148914691236517205) + (Go.bits .and .u64 a0 6148914691236517205))) 3689348814741910323))) / 16) + (IntKind.u64.wrap ((Go.bits .and .u64 ((IntKind.u64.wrap ((Go.bits .and .u64 (a0 / 2) 6148914691236517205) + (Go.bits .and .u64 a0 6148914691236517205))) / 4) 3689348814741910323) + (Go.bits .and .u64 (IntKind.u64.wrap ((Go.bits .and .u64 (a0 / 2) 6148914691236517205) + (Go.bits .and .u64 a0 6148914691236517205))) 3689348814741910323))))) 1085102592571150095) / 256))) / 65536))) / 4294967296)))) 127)
def math_bits_OnesCount.f (a0 : Int) : Option (Int) := (math_bits_OnesCount64.f a0).bind fun t672 => (some t672)
def impl_CountPassages.f (a0_0 : Int) (a0_1 : Int) (a0_2 : Int) : Option (Int) := (impl_MazeOk.f a0_0 a0_1 a0_2).bind fun t674 => (if t674 = true then ((math_bits_OnesCount.f (IntKind.u64.wrap (a0_2))).bind fun t675 => (some t675)) else (some 0))
def impl_IsPerfect.f (k : Nat) (a0_0 : Int) (a0_1 : Int) (a0_2 : Int) : Option (Bool) := (impl_IsConnected.f k a0_0 a0_1 a0_2).bind fun t677 => (if t677 = true then ((impl_CountPassages.f a0_0 a0_1 a0_2).bind fun t678 => ((impl_CountCells.f a0_0 a0_1).bind fun t679 => (some (t678 == (wrap64 (t679 - 1)))))) else (some false))
def impl_DistanceOf.f (k : Nat) (a0_0 : Int) (a0_1 : Int) (a0_2 : Int) (a1 : Int) (a2 : Int) : Option (Int) := (impl_isIn.f a0_0 a0_1 a0_2 (([a1, a2] : List Int))).bind fun t684 => (if t684 = true then ((impl_distances.f k a0_0 a0_1 a0_2 a1).bind fun t685 => (if 0 ≤ a2 then (if a2 < (t685.length : Int) then (some (rd t685 a2)) else (none)) else (none))) else (some (-1)))
mutual
def impl_WayBetween.l0 : Nat → Int → List Int → List Int → Int → Int → Int → Int → Option (List Int × Bool)
  | 0, _, _, _, _, _, _, _ => none
  | k + 1, x2, x8, x9, x10, x690000, x690001, x690002 => if x10 = x2 then (some (x9, true)) else ((impl_WaysFrom.f k x690000 x690001 x690002 x10).bind fun t694 => (impl_WayBetween.l1 k x2 x8 x9 x10 t694 (t694.length : Int) 0 x690000 x690001 x690002))
def impl_WayBetween.l1 : Nat → Int → List Int → List Int → Int → List Int → Int → Int → Int → Int → Int → Option (List Int × Bool)
  | 0, _, _, _, _, _, _, _, _, _, _ => none
  | k + 1, x2, x8, x9, x10, x28, x29, x30, x690000, x690001, x690002 => if x30 < x29 then (if 0 ≤ x30 then (if x30 < (x28.length : Int) then ((impl_Step.f k x690000 x690001 x690002 x10 (rd x28 x30)).bind fun t698 => (if 0 ≤ t698 then (if t698 < (x8.length : Int) then (if 0 ≤ x10 then (if x10 < (x8.length : Int) then (if (rd x8 t698) < (rd x8 x10) then (if x9.length < 17592186044416 then (impl_WayBetween.l0 k x2 x8 (x9 ++ [rd x28 x30]) t698 x690000 x690001 x690002) else (none)) else (impl_WayBetween.l1 k x2 x8 x9 x10 x28 x29 (wrap64 (x30 + 1)) x690000 x690001 x690002)) else (none)) else (none)) else (none)) else (none))) else (none)) else (none)) else (impl_WayBetween.l0 k x2 x8 x9 x10 x690000 x690001 x690002)
end
def impl_WayBetween.f (k : Nat) (a0_0 : Int) (a0_1 : Int) (a0_2 : Int) (a1 : Int) (a2 : Int) : Option (List Int × Bool) := (impl_DistanceOf.f k a0_0 a0_1 a0_2 a1 a2).bind fun t690 => (if t690 < 0 then (some (([] : List Int), false)) else ((impl_distances.f k a0_0 a0_1 a0_2 a2).bind fun t691 => (impl_WayBetween.l0 k a2 t691 ([] : List Int) a1 a0_0 a0_1 a0_2)))
theorem impl_WayBetween.mono_l : ∀ k, (∀ y0 y1 y2 y3 y4 y5 y6, LeO (impl_WayBetween.l0 k y0 y1 y2 y3 y4 y5 y6) (impl_WayBetween.l0 (k + 1) y0 y1 y2 y3 y4 y5 y6)) ∧ (∀ y0 y1 y2 y3 y4 y5 y6 y7 y8 y9, LeO (impl_WayBetween.l1 k y0 y1 y2 y3 y4 y5 y6 y7 y8 y9) (impl_WayBetween.l1 (k + 1) y0 y1 y2 y3 y4 y5 y6 y7 y8 y9))
  | 0 => ⟨fun _ _ _ _ _ _ _ r h => by simp [impl_WayBetween.l0] at h, fun _ _ _ _ _ _ _ _ _ _ r h => by simp [impl_WayBetween.l1] at h⟩
  | k + 1 => by
    obtain ⟨ih0, ih1⟩ := impl_WayBetween.mono_l k
    refine ⟨?_, ?_⟩
    · intro y0 y1 y2 y3 y4 y5 y6
      unfold impl_WayBetween.l0
      repeat' first
      | (with_reducible exact ih0 _ _ _ _ _ _ _)
      | (with_reducible exact ih1 _ _ _ _ _ _ _ _ _ _)
      | (with_reducible exact impl_DistanceOf.mono _ _ _ _ _ _)
      | (with_reducible exact impl_Step.mono _ _ _ _ _ _)
      | (with_reducible exact impl_WaysFrom.mono _ _ _ _ _)
      | (with_reducible exact impl_distances.mono _ _ _ _ _)
      | (with_reducible exact LeO.refl _)
      | (with_reducible exact LeO.none _)
      | (with_reducible refine LeO.ite ?_ ?_)
      | (with_reducible refine LeO.bind ?_ (fun _ => ?_))
      | exact ih0 _ _ _ _ _ _ _
      | exact ih1 _ _ _ _ _ _ _ _ _ _
      | exact impl_DistanceOf.mono _ _ _ _ _ _
      | exact impl_Step.mono _ _ _ _ _ _
      | exact impl_WaysFrom.mono _ _ _ _ _
      | exact impl_distances.mono _ _ _ _ _
      | exact LeO.none _
      | refine LeO.ite ?_ ?_
      | refine LeO.bind ?_ (fun _ => ?_)
    · intro y0 y1 y2 y3 y4 y5 y6 y7 y8 y9
      unfold impl_WayBetween.l1
      repeat' first
      | (with_reducible exact ih0 _ _ _ _ _ _ _)
      | (with_reducible exact ih1 _ _ _ _ _ _ _ _ _ _)
      | (with_reducible exact impl_DistanceOf.mono _ _ _ _ _ _)
      | (with_reducible exact impl_Step.mono _ _ _ _ _ _)
      | (with_reducible exact impl_WaysFrom.mono _ _ _ _ _)
      | (with_reducible exact impl_distances.mono _ _ _ _ _)
      | (with_reducible exact LeO.refl _)
      | (with_reducible exact LeO.none _)
      | (with_reducible refine LeO.ite ?_ ?_)
      | (with_reducible refine LeO.bind ?_ (fun _ => ?_))
      | exact ih0 _ _ _ _ _ _ _
      | exact ih1 _ _ _ _ _ _ _ _ _ _
      | exact impl_DistanceOf.mono _ _ _ _ _ _
      | exact impl_Step.mono _ _ _ _ _ _
      | exact impl_WaysFrom.mono _ _ _ _ _
      | exact impl_distances.mono _ _ _ _ _
      | exact LeO.none _
      | refine LeO.ite ?_ ?_
      | refine LeO.bind ?_ (fun _ => ?_)
def impl_gapsOn.l0 : Nat → Int → List Int → List Int → Int → Int → Int → Int → Int → Option (List Int)
  | 0, _, _, _, _, _, _, _, _ => none
  | k + 1, x1, x9, x19, x20, x21, x705000, x705001, x705002 => if x21 < x20 then (if 0 ≤ x21 then (if x21 < (x19.length : Int) then ((impl_GapAt.f k x705000 x705001 x1 (rd x19 x21)).bind fun t710 => (if x9.length < 17592186044416 then ((impl_Step.f k x705000 x705001 x705002 x1 (rd x19 x21)).bind fun t714 => (impl_gapsOn.l0 k t714 (x9 ++ [t710]) x19 x20 (wrap64 (x21 + 1)) x705000 x705001 x705002)) else (none))) else (none)) else (none)) else (some x9)
def impl_gapsOn.f (k : Nat) (a0_0 : Int) (a0_1 : Int) (a0_2 : Int) (a1 : Int) (a2 : Int) : Option (List Int) := (impl_WayBetween.f k a0_0 a0_1 a0_2 a1 a2).bind fun bt705 => (impl_gapsOn.l0 k a1 ([] : List Int) bt705.1 (bt705.1.length : Int) 0 a0_0 a0_1 a0_2)
def impl_ordered.f (l0 : List Int) : Option (List Int) := if l0.length < 4611686018427387904 then some (Go.Lib.compact (l0.mergeSort fun x y => decide (x ≤ y))) else none
mutual
def impl_TreeSpan.l0 : Nat → List Int → List Int → List Int → Int → Int → Int → Int → Int → Option (Int)
  | 0, _, _, _, _, _, _, _, _ => none
  | k + 1, x1, x5, x19, x20, x21, x2000, x2001, x2002 => if x21 < x20 then (if 0 ≤ x21 then (if x21 < (x19.length : Int) then (if x21 ≤ (x1.length : Int) then (impl_TreeSpan.l1 k x1 x5 (rd x19 x21) x19 x20 x21 (x1.take (x21 : Int).toNat) ((x1.take (x21 : Int).toNat).length : Int) 0 x2000 x2001 x2002) else (none)) else (none)) else (none)) else (some (x5.length : Int))
def impl_TreeSpan.l1 : Nat → List Int → List Int → Int → List Int → Int → Int → List Int → Int → Int → Int → Int → Int → Option (Int)
  | 0, _, _, _, _, _, _, _, _, _, _, _, _ => none
  | k + 1, x1, x5, x7, x19, x20, x21, x28, x29, x30, x2000, x2001, x2002 => if x30 < x29 then (if 0 ≤ x30 then (if x30 < (x28.length : Int) then ((impl_gapsOn.f k x2000 x2001 x2002 x7 (rd x28 x30)).bind fun t1 => (if x5.length + t1.length ≤ 17592186044416 then (impl_TreeSpan.l1 k x1 (x5 ++ t1) x7 x19 x20 x21 x28 x29 (wrap64 (x30 + 1)) x2000 x2001 x2002) else (none))) else (none)) else (none)) else ((impl_ordered.f x5).bind fun t2 => (impl_TreeSpan.l0 k x1 t2 x19 x20 (wrap64 (x21 + 1)) x2000 x2001 x2002))
end
def impl_TreeSpan.f (k : Nat) (a0_0 : Int) (a0_1 : Int) (a0_2 : Int) (l1 : List Int) : Option (Int) := (impl_IsPerfect.f k a0_0 a0_1 a0_2).bind fun t1 => (if t1 = true then ((impl_isIn.f a0_0 a0_1 a0_2 l1).bind fun t2 => (if t2 = true then (impl_TreeSpan.l0 k l1 ([] : List Int) l1 (l1.length : Int) 0 a0_0 a0_1 a0_2) else (some (-1)))) else (some (-1)))
mutual
def spec_l04Distances.l0 : Nat → Int → List Int → Int → Int → Int → Int → Option (List Int)
  | 0, _, _, _, _, _, _ => none
  | k + 1, x1, x5, x6, x848000, x848001, x848002 => if x6 < (x5.length : Int) then (if 0 ≤ x6 then (spec_l04Distances.l0 k x1 (x5.set (x6 : Int).toNat (-1)) (wrap64 (x6 + 1)) x848000 x848001 x848002) else (none)) else (if 0 ≤ x1 then (if x1 < (x5.length : Int) then (spec_l04Distances.l1 k (x5.set (x1 : Int).toNat 0) (([x1] : List Int)) 0 x848000 x848001 x848002) else (none)) else (none))
def spec_l04Distances.l1 : Nat → List Int → List Int → Int → Int → Int → Int → Option (List Int)
  | 0, _, _, _, _, _, _ => none
  | k + 1, x5, x7, x8, x848000, x848001, x848002 => if x8 < (x7.length : Int) then (spec_l04Distances.l2 k x5 x7 x8 0 x848000 x848001 x848002) else (some x5)
def spec_l04Distances.l2 : Nat → List Int → List Int → Int → Int → Int → Int → Int → Option (List Int)
  | 0, _, _, _, _, _, _, _ => none
  | k + 1, x5, x7, x8, x9, x848000, x848001, x848002 => if x9 ≤ 3 then (if 0 ≤ x8 then (if x8 < (x7.length : Int) then ((spec_Step.f k x848000 x848001 x848002 (rd x7 x8) x9).bind fun t858 => (if t858 ≥ 0 then (if 0 ≤ t858 then (if t858 < (x5.length : Int) then (if (rd x5 t858) < 0 then (if 0 ≤ (rd x7 x8) then (if (rd x7 x8) < (x5.length : Int) then (if x7.length < 17592186044416 then (spec_l04Distances.l2 k (x5.set (t858 : Int).toNat (wrap64 ((rd x5 (rd x7 x8)) + 1))) (x7 ++ [t858]) x8 (wrap64 (x9 + 1)) x848000 x848001 x848002) else (none)) else (none)) else (none)) else (spec_l04Distances.l2 k x5 x7 x8 (wrap64 (x9 + 1)) x848000 x848001 x848002)) else (none)) else (none)) else (spec_l04Distances.l2 k x5 x7 x8 (wrap64 (x9 + 1)) x848000 x848001 x848002))) else (none)) else (none)) else (spec_l04Distances.l1 k x5 x7 (wrap64 (x8 + 1)) x848000 x848001 x848002)
end
def spec_l04Distances.f (k : Nat) (a0_0 : Int) (a0_1 : Int) (a0_2 : Int) (a1 : Int) : Option (List Int) := (spec_CountCells.f a0_0 a0_1).bind fun t848 => (if 0 ≤ t848 then (if (t848 : Int).toNat ≤ 35184372088832 then (spec_l04Distances.l0 k a1 (List.replicate (t848 : Int).toNat 0) 0 a0_0 a0_1 a0_2) else (none)) else (none))
def spec_DistanceOf.f (k : Nat) (a0_0 : Int) (a0_1 : Int) (a0_2 : Int) (a1 : Int) (a2 : Int) : Option (Int) := (spec_l04Has.f a0_0 a0_1 a0_2 a1).bind fun t867 => (if t867 = true then ((spec_l04Has.f a0_0 a0_1 a0_2 a2).bind fun t868 => (if t868 = true then ((spec_l04Distances.f k a0_0 a0_1 a0_2 a1).bind fun t869 => (if 0 ≤ a2 then (if a2 < (t869.length : Int) then (some (rd t869 a2)) else (none)) else (none))) else (some (-1)))) else (some (-1)))
def slices_Clone_int.f (l0 : List Int) : Option (List Int) := if l0.length < 17592186044416 then some l0 else none
def slices_Index_int.l0 : Nat → List Int → Int → Int → Int → Option (Int)
  | 0, _, _, _, _ => none
  | k + 1, x0, x1, x7, x8 => if x8 < x7 then (if 0 ≤ x8 then (if x8 < (x0.length : Int) then (if x1 = (rd x0 x8) then (some x8) else (slices_Index_int.l0 k x0 x1 x7 (wrap64 (x8 + 1)))) else (none)) else (none)) else (some (-1))
def slices_Index_int.f (k : Nat) (l0 : List Int) (a1 : Int) : Option (Int) := slices_Index_int.l0 k l0 a1 (l0.length : Int) 0
def slices_Contains_int.f (k : Nat) (l0 : List Int) (a1 : Int) : Option (Bool) := (slices_Index_int.f k l0 a1).bind fun t874 => (some (decide (t874 ≥ 0)))
def impl_rescue.l0 (w h o : Int) (ts : List Int) (start : Int) (back : Bool) : Nat → List Int → Int → Int → List Int × Int → Option (List Int × Int)
  | 0, _, _, _, _ => none
  | k + 1, order, at_, len, s =>
    if 5 < order.length then none
    else if order.length = ts.length then
      (if back = true then (impl_DistanceOf.f 1000 w h o at_ start).bind fun d => some (wrap64 (len + d)) else some len).bind fun len2 =>
        some (if s.2 < 0 ∨ len2 < s.2 then (order, len2) else s)
    else foldO (fun (i : Nat) s => (impl_DistanceOf.f 1000 w h o at_ (rd ts i)).bind fun d => if 0 ≤ d then (slices_Contains_int.f 1000 order i).bind fun b => if b = true then some s else impl_rescue.l0 w h o ts start back k (order ++ [(i : Int)]) (rd ts i) (wrap64 (len + d)) s else some s) ts.length 0 s
def impl_rescue.f (a0_0 a0_1 a0_2 a1 : Int) (l2 : List Int) (a3 : Bool) : Option (List Int × Int) := (impl_isIn.f a0_0 a0_1 a0_2 [a1]).bind fun b => if b = true then (impl_isIn.f a0_0 a0_1 a0_2 l2).bind fun c => if c = true then (if l2.length ≤ 5 then impl_rescue.l0 a0_0 a0_1 a0_2 l2 a1 a3 7 [] a1 0 ([], -1) else some ([], -1)) else some ([], -1) else some ([], -1)
def impl_RescueLength.f (a0_0 : Int) (a0_1 : Int) (a0_2 : Int) (a1 : Int) (l2 : List Int) : Option (Int) := (impl_rescue.f a0_0 a0_1 a0_2 a1 l2 false).bind fun bt876 => (some bt876.2)
def impl_RescueOrder.l0 : Nat → List Int → List Int → List Int → Int → Int → Option (List Int)
  | 0, _, _, _, _, _ => none
  | k + 1, x2, x9, x19, x20, x21 => if x21 < x20 then (if 0 ≤ x21 then (if x21 < (x19.length : Int) then (if 0 ≤ (rd x19 x21) then (if (rd x19 x21) < (x2.length : Int) then (if x9.length < 17592186044416 then (impl_RescueOrder.l0 k x2 (x9 ++ [rd x2 (rd x19 x21)]) x19 x20 (wrap64 (x21 + 1))) else (none)) else (none)) else (none)) else (none)) else (none)) else (some x9)
def impl_RescueOrder.f (k : Nat) (a0_0 : Int) (a0_1 : Int) (a0_2 : Int) (a1 : Int) (l2 : List Int) : Option (List Int) := (impl_rescue.f a0_0 a0_1 a0_2 a1 l2 false).bind fun bt881 => (impl_RescueOrder.l0 k l2 ([] : List Int) bt881.1 (bt881.1.length : Int) 0)
def laws_has.l0 : Nat → List Int → Int → Int → Option (Bool)
  | 0, _, _, _ => none
  | k + 1, x0, x1, x5 => if x5 < (x0.length : Int) then (if 0 ≤ x5 then (if (rd x0 x5) = x1 then (some true) else (laws_has.l0 k x0 x1 (wrap64 (x5 + 1)))) else (none)) else (some false)
def laws_has.f (k : Nat) (l0 : List Int) (a1 : Int) : Option (Bool) := laws_has.l0 k l0 a1 0
def impl_ReturnLength.f (a0_0 : Int) (a0_1 : Int) (a0_2 : Int) (a1 : Int) (l2 : List Int) : Option (Int) := (impl_rescue.f a0_0 a0_1 a0_2 a1 l2 true).bind fun bt892 => (some bt892.2)
end Go.Proofs.Ytccjanhdnheclaa.F
end

section
namespace Go.Proofs.Ytccjanhdnheclaa.F
open Go.RowKit Go.Proofs.YtccjanhdnheclaaW.PrintWords Go.Proofs.YtccjanhdnheclaaW.PrintLast Go.Proofs.YtccjanhdnheclaaW.PrintMore
set_option linter.unusedVariables false
set_option linter.unusedSimpArgs false
def eB (x : Bool) : List Value := [.bool x]
def eI (x : Int) : List Value := [.int .i64 x]
def eU8 (x : Int) : List Value := [.int .u8 x]
def eWalker (x : SWalker) : List Value := [.int .i64 x.f0, .int .i64 x.f1]
def ty : TypeId → Option TI
  | 3 => some ⟨false, 1, 8, [.int .i64 0], [], 0⟩
  | 4 => some ⟨false, 1, 1, [.bool false], [], 0⟩
  | 5 => some ⟨false, 1, 1, [.int .u8 0], [], 0⟩
  | 23 => some ⟨true, 2, 16, [.int .i64 0, .int .i64 0], [0, 1], 0⟩
  | 25 => some ⟨true, 3, 24, [.int .i64 0, .int .i64 0, .int .i64 0], [0, 2], 0⟩
  | 26 => some ⟨false, 1, 24, [.slice none 0 0], [], 3⟩
  | 28 => some ⟨true, 2, 16, [.int .i64 0, .int .i64 0], [0, 1], 0⟩
  | 30 => some ⟨true, 3, 24, [.int .i64 0, .int .i64 0, .int .i64 0], [0, 2], 0⟩
  | 35 => some ⟨false, 1, 24, [.slice none 0 0], [], 43⟩
  | 40 => some ⟨false, 1, 24, [.slice none 0 0], [], 5⟩
  | 43 => some ⟨true, 2, 16, [.int .i64 0, .int .i64 0], [0, 1], 0⟩
  | 62 => some ⟨false, 1, 24, [.slice none 0 0], [], 4⟩
  | 92 => some ⟨false, 1, 8, [.int .u64 0], [], 0⟩
  | 94 => some ⟨true, 3, 40, [.slice none 0 0, .int .i64 0, .int .i64 0], [0, 1, 2], 0⟩
  | _ => none
theorem tyOk : TyOk Try.prog ty := by
  intro t i h
  unfold ty at h
  split at h <;> first | (cases h; done) | (obtain rfl := Option.some.inj h; exact mkTI (by kernel_rfl) (by kernel_rfl))
theorem hm : Try.prog.follows .mixedOrders = true := by kernel_rfl
theorem gR_eB : (∀ (x : Bool), eB x = [.bool x]) ∧ (∀ (l : List Bool) (i : Int), gR [.bool false] (l.map eB) i = [.bool (rdOf false l i)]) ∧ (∀ (l : List Bool) (i : Int) (a0 : Bool), sR (l.map eB) i [.bool a0] = (l.set i.toNat a0).map eB) ∧ (∀ (l : List Bool) (a0 : Bool), l.map eB ++ [[.bool a0]] = (l ++ [a0]).map eB) ∧ (∀ n : Nat, List.replicate n [.bool false] = (List.replicate n false).map eB) := by
  refine ⟨fun _ => rfl, fun l i => ?_, fun l i a0 => ?_, fun l a0 => ?_, fun n => ?_⟩
  · unfold gR rdOf eB
    rw [List.getD_eq_getElem?_getD, List.getElem?_map, List.getD_eq_getElem?_getD]
    cases l[i.toNat]? <;> rfl
  · unfold sR; rw [List.map_set]; rfl
  · rw [List.map_append]; rfl
  · rw [List.map_replicate]; rfl
theorem gR_eI : (∀ (x : Int), eI x = [.int .i64 x]) ∧ (∀ (l : List Int) (i : Int), gR [.int .i64 0] (l.map eI) i = [.int .i64 (rd l i)]) ∧ (∀ (l : List Int) (i : Int) (a0 : Int), sR (l.map eI) i [.int .i64 a0] = (l.set i.toNat a0).map eI) ∧ (∀ (l : List Int) (a0 : Int), l.map eI ++ [[.int .i64 a0]] = (l ++ [a0]).map eI) ∧ (∀ n : Nat, List.replicate n [.int .i64 0] = (List.replicate n 0).map eI) := by
  refine ⟨fun _ => rfl, fun l i => ?_, fun l i a0 => ?_, fun l a0 => ?_, fun n => ?_⟩
  · unfold gR rd eI
    rw [List.getD_eq_getElem?_getD, List.getElem?_map, List.getD_eq_getElem?_getD]
    cases l[i.toNat]? <;> rfl
  · unfold sR; rw [List.map_set]; rfl
  · rw [List.map_append]; rfl
  · rw [List.map_replicate]; rfl
theorem gR_eU8 : (∀ (x : Int), eU8 x = [.int .u8 x]) ∧ (∀ (l : List Int) (i : Int), gR [.int .u8 0] (l.map eU8) i = [.int .u8 (rd l i)]) ∧ (∀ (l : List Int) (i : Int) (a0 : Int), sR (l.map eU8) i [.int .u8 a0] = (l.set i.toNat a0).map eU8) ∧ (∀ (l : List Int) (a0 : Int), l.map eU8 ++ [[.int .u8 a0]] = (l ++ [a0]).map eU8) ∧ (∀ n : Nat, List.replicate n [.int .u8 0] = (List.replicate n 0).map eU8) := by
  refine ⟨fun _ => rfl, fun l i => ?_, fun l i a0 => ?_, fun l a0 => ?_, fun n => ?_⟩
  · unfold gR rd eU8
    rw [List.getD_eq_getElem?_getD, List.getElem?_map, List.getD_eq_getElem?_getD]
    cases l[i.toNat]? <;> rfl
  · unfold sR; rw [List.map_set]; rfl
  · rw [List.map_append]; rfl
  · rw [List.map_replicate]; rfl
theorem gR_eWalker : (∀ (x : SWalker), eWalker x = [.int .i64 x.f0, .int .i64 x.f1]) ∧ (∀ (l : List SWalker) (i : Int), gR [.int .i64 0, .int .i64 0] (l.map eWalker) i = [.int .i64 (rd_Walker l i).f0, .int .i64 (rd_Walker l i).f1]) ∧ (∀ (l : List SWalker) (i : Int) (a0 : Int) (a1 : Int), sR (l.map eWalker) i [.int .i64 a0, .int .i64 a1] = (l.set i.toNat (⟨a0, a1⟩ : SWalker)).map eWalker) ∧ (∀ (l : List SWalker) (a0 : Int) (a1 : Int), l.map eWalker ++ [[.int .i64 a0, .int .i64 a1]] = (l ++ [(⟨a0, a1⟩ : SWalker)]).map eWalker) ∧ (∀ n : Nat, List.replicate n [.int .i64 0, .int .i64 0] = (List.replicate n zWalker).map eWalker) := by
  refine ⟨fun _ => rfl, fun l i => ?_, fun l i a0 a1 => ?_, fun l a0 a1 => ?_, fun n => ?_⟩
  · unfold gR rd_Walker eWalker
    rw [List.getD_eq_getElem?_getD, List.getElem?_map, List.getD_eq_getElem?_getD]
    cases l[i.toNat]? <;> rfl
  · unfold sR; rw [List.map_set]; rfl
  · rw [List.map_append]; rfl
  · rw [List.map_replicate]; rfl
theorem eqQ43 (x0 y0 : Int) (x1 y1 : Int) : ∀ w : World, (Op.equalIn 10000 43 (.agg (List.toArray (vluL [.v (.int .i64 x0), .v (.int .i64 x1)]))) (.agg (List.toArray (vluL [.v (.int .i64 y0), .v (.int .i64 y1)])))).run Try.prog w = .ok (x0 == y0 && (x1 == y1)) w := fun w => eqA43 9998 w _ _ _ _
theorem eqT43 : (∀ (x0 y0 : Int) (x1 y1 : Int) (i : TI) (d : Option Nat) (t : List AV) (s : Sto) (K : Kt), binX Try.prog 43 (some i) .eql (.ag [.v (.int .i64 x0), .v (.int .i64 x1)]) (.ag [.v (.int .i64 y0), .v (.int .i64 y1)]) d t s K = K (pT t d (.v (.bool (x0 == y0 && (x1 == y1))))) s) ∧ (∀ (x0 y0 : Int) (x1 y1 : Int) (i : TI) (d : Option Nat) (t : List AV) (s : Sto) (K : Kt), binX Try.prog 43 (some i) .neq (.ag [.v (.int .i64 x0), .v (.int .i64 x1)]) (.ag [.v (.int .i64 y0), .v (.int .i64 y1)]) d t s K = K (pT t d (.v (.bool ((!(x0 == y0) || (!(x1 == y1))))))) s) := by
  refine ⟨fun x0 y0 x1 y1 i d t s K => ?_, fun x0 y0 x1 y1 i d t s K => ?_⟩
  · refine eqRule (dd := 10000) ?_ ?_ ?_ ?_ (eqQ43 _ _ _ _) i d t s K <;> kernel_rfl
  · refine Eq.trans (b := K (pT t d (.v (.bool (!(x0 == y0 && (x1 == y1)))))) s) ?_ (by simp only [Bool.not_and])
    refine neRule (dd := 10000) ?_ ?_ ?_ ?_ (eqQ43 _ _ _ _) i d t s K <;> kernel_rfl
theorem Wt : ty 3 = some ⟨false, 1, 8, [.int .i64 0], [], 0⟩ ∧ ty 4 = some ⟨false, 1, 1, [.bool false], [], 0⟩ ∧ ty 5 = some ⟨false, 1, 1, [.int .u8 0], [], 0⟩ ∧ ty 23 = some ⟨true, 2, 16, [.int .i64 0, .int .i64 0], [0, 1], 0⟩ ∧ ty 25 = some ⟨true, 3, 24, [.int .i64 0, .int .i64 0, .int .i64 0], [0, 2], 0⟩ ∧ ty 26 = some ⟨false, 1, 24, [.slice none 0 0], [], 3⟩ ∧ ty 28 = some ⟨true, 2, 16, [.int .i64 0, .int .i64 0], [0, 1], 0⟩ ∧ ty 30 = some ⟨true, 3, 24, [.int .i64 0, .int .i64 0, .int .i64 0], [0, 2], 0⟩ ∧ ty 35 = some ⟨false, 1, 24, [.slice none 0 0], [], 43⟩ ∧ ty 40 = some ⟨false, 1, 24, [.slice none 0 0], [], 5⟩ ∧ ty 43 = some ⟨true, 2, 16, [.int .i64 0, .int .i64 0], [0, 1], 0⟩ ∧ ty 62 = some ⟨false, 1, 24, [.slice none 0 0], [], 4⟩ ∧ ty 92 = some ⟨false, 1, 8, [.int .u64 0], [], 0⟩ ∧ ty 94 = some ⟨true, 3, 40, [.slice none 0 0, .int .i64 0, .int .i64 0], [0, 1, 2], 0⟩ ∧ ty 0 = none ∧ ty 44 = none ∧ ty 46 = none ∧ ty 53 = none ∧ ty 63 = none ∧ ty 69 = none ∧ ty 83 = none ∧ ty 87 = none ∧ ty 104 = none ∧ ty 119 = none := ⟨rfl, rfl, rfl, rfl, rfl, rfl, rfl, rfl, rfl, rfl, rfl, rfl, rfl, rfl, rfl, rfl, rfl, rfl, rfl, rfl, rfl, rfl, rfl, rfl⟩
theorem W : type_of% (And.intro W1 (And.intro W2 (And.intro (W3 Try.prog ty) (And.intro (W4 Try.prog ty) (And.intro (W5 ty) (And.intro W6 (And.intro W7 (And.intro W8 (And.intro W9 (And.intro W10 (And.intro @W11 (And.intro W12 (And.intro (W13 ty) (And.intro (W14 ty) (And.intro (W15 Try.prog ty) (And.intro W16 (And.intro (W17 ty) (And.intro (W18 Try.prog ty) (And.intro W19 (And.intro W20 (And.intro bAnd (And.intro W0 (And.intro gR_eB (And.intro gR_eI (And.intro gR_eU8 (And.intro gR_eWalker (And.intro eqT43 Wt))))))))))))))))))))))))))) := (And.intro W1 (And.intro W2 (And.intro (W3 Try.prog ty) (And.intro (W4 Try.prog ty) (And.intro (W5 ty) (And.intro W6 (And.intro W7 (And.intro W8 (And.intro W9 (And.intro W10 (And.intro @W11 (And.intro W12 (And.intro (W13 ty) (And.intro (W14 ty) (And.intro (W15 Try.prog ty) (And.intro W16 (And.intro (W17 ty) (And.intro (W18 Try.prog ty) (And.intro W19 (And.intro W20 (And.intro bAnd (And.intro W0 (And.intro gR_eB (And.intro gR_eI (And.intro gR_eU8 (And.intro gR_eWalker (And.intro eqT43 Wt)))))))))))))))))))))))))))
theorem E_eI : EncOk (Kd.int .i64) 1 eI := ⟨rfl, by decide, fun _ => rfl, fun x u hu => by
  simp only [eI, List.mem_cons, List.not_mem_nil, or_false] at hu
  subst hu; rfl, Iff.rfl, Iff.rfl⟩
theorem E_eU8 : EncOk (Kd.int .u8) 1 eU8 := ⟨rfl, by decide, fun _ => rfl, fun x u hu => by
  simp only [eU8, List.mem_cons, List.not_mem_nil, or_false] at hu
  subst hu; rfl, Iff.rfl, Iff.rfl⟩
end Go.Proofs.Ytccjanhdnheclaa.F
end

section
namespace Go.Proofs.Ytccjanhdnheclaa.F
open Go.RowKit Go.Proofs.YtccjanhdnheclaaW.PrintWords Go.Proofs.YtccjanhdnheclaaW.PrintLast Go.Proofs.YtccjanhdnheclaaW.PrintMore
theorem bkb {w0 W w' : World} {g : Nat} {o : Obj} (A : Aside0 (w0.heap[g]? = some o)) (hb : Below W.heap.size W w') (h : w0.heap[g]? = some o → W.heap[g]? = some o) : Aside0 (w'.heap[g]? = some o) := ⟨blk_below (h A.out) hb⟩
theorem nbl {w0 W : World} {g gb : Nat} {o : Obj} (A : Aside0 (w0.heap[g]? = some o)) (hg : gb = W.heap.size) (h : w0.heap[g]? = some o → W.heap[g]? = some o) : Aside0 (g ≠ gb) := ⟨by rw [hg]; exact Nat.ne_of_lt (blk_lt (h A.out))⟩
theorem nbs {a b : Nat} (h : Aside0 (a ≠ b)) : Aside0 (b ≠ a) := ⟨h.out.symm⟩
theorem cl1 {w : World} {g : Nat} {t : TypeId} {c0 : Value} (h : w.heap[g]? = some (.cells #[c0] t (0, 0))) : w.cell? ⟨g, 0, none⟩ = some c0 ∧ w.frozen? ⟨g, 0, none⟩ = false := ⟨(blk_cell h 0).trans rfl, blk_frozen h 0⟩
theorem cl2 {w : World} {g : Nat} {t : TypeId} {c0 c1 : Value} (h : w.heap[g]? = some (.cells #[c0, c1] t (0, 0))) : w.cell? ⟨g, 0, none⟩ = some c0 ∧ w.cell? ⟨g, 1, none⟩ = some c1 ∧ w.frozen? ⟨g, 0, none⟩ = false ∧ w.frozen? ⟨g, 1, none⟩ = false := ⟨(blk_cell h 0).trans rfl, (blk_cell h 1).trans rfl, blk_frozen h 0, blk_frozen h 1⟩
theorem cl3 {w : World} {g : Nat} {t : TypeId} {c0 c1 c2 : Value} (h : w.heap[g]? = some (.cells #[c0, c1, c2] t (0, 0))) : w.cell? ⟨g, 0, none⟩ = some c0 ∧ w.cell? ⟨g, 1, none⟩ = some c1 ∧ w.cell? ⟨g, 2, none⟩ = some c2 ∧ w.frozen? ⟨g, 0, none⟩ = false ∧ w.frozen? ⟨g, 1, none⟩ = false ∧ w.frozen? ⟨g, 2, none⟩ = false := ⟨(blk_cell h 0).trans rfl, (blk_cell h 1).trans rfl, (blk_cell h 2).trans rfl, blk_frozen h 0, blk_frozen h 1, blk_frozen h 2⟩
theorem cl4 {w : World} {g : Nat} {t : TypeId} {c0 c1 c2 c3 : Value} (h : w.heap[g]? = some (.cells #[c0, c1, c2, c3] t (0, 0))) : w.cell? ⟨g, 0, none⟩ = some c0 ∧ w.cell? ⟨g, 1, none⟩ = some c1 ∧ w.cell? ⟨g, 2, none⟩ = some c2 ∧ w.cell? ⟨g, 3, none⟩ = some c3 ∧ w.frozen? ⟨g, 0, none⟩ = false ∧ w.frozen? ⟨g, 1, none⟩ = false ∧ w.frozen? ⟨g, 2, none⟩ = false ∧ w.frozen? ⟨g, 3, none⟩ = false := ⟨(blk_cell h 0).trans rfl, (blk_cell h 1).trans rfl, (blk_cell h 2).trans rfl, (blk_cell h 3).trans rfl, blk_frozen h 0, blk_frozen h 1, blk_frozen h 2, blk_frozen h 3⟩
theorem cl5 {w : World} {g : Nat} {t : TypeId} {c0 c1 c2 c3 c4 : Value} (h : w.heap[g]? = some (.cells #[c0, c1, c2, c3, c4] t (0, 0))) : w.cell? ⟨g, 0, none⟩ = some c0 ∧ w.cell? ⟨g, 1, none⟩ = some c1 ∧ w.cell? ⟨g, 2, none⟩ = some c2 ∧ w.cell? ⟨g, 3, none⟩ = some c3 ∧ w.cell? ⟨g, 4, none⟩ = some c4 ∧ w.frozen? ⟨g, 0, none⟩ = false ∧ w.frozen? ⟨g, 1, none⟩ = false ∧ w.frozen? ⟨g, 2, none⟩ = false ∧ w.frozen? ⟨g, 3, none⟩ = false ∧ w.frozen? ⟨g, 4, none⟩ = false := ⟨(blk_cell h 0).trans rfl, (blk_cell h 1).trans rfl, (blk_cell h 2).trans rfl, (blk_cell h 3).trans rfl, (blk_cell h 4).trans rfl, blk_frozen h 0, blk_frozen h 1, blk_frozen h 2, blk_frozen h 3, blk_frozen h 4⟩
theorem cl6 {w : World} {g : Nat} {t : TypeId} {c0 c1 c2 c3 c4 c5 : Value} (h : w.heap[g]? = some (.cells #[c0, c1, c2, c3, c4, c5] t (0, 0))) : w.cell? ⟨g, 0, none⟩ = some c0 ∧ w.cell? ⟨g, 1, none⟩ = some c1 ∧ w.cell? ⟨g, 2, none⟩ = some c2 ∧ w.cell? ⟨g, 3, none⟩ = some c3 ∧ w.cell? ⟨g, 4, none⟩ = some c4 ∧ w.cell? ⟨g, 5, none⟩ = some c5 ∧ w.frozen? ⟨g, 0, none⟩ = false ∧ w.frozen? ⟨g, 1, none⟩ = false ∧ w.frozen? ⟨g, 2, none⟩ = false ∧ w.frozen? ⟨g, 3, none⟩ = false ∧ w.frozen? ⟨g, 4, none⟩ = false ∧ w.frozen? ⟨g, 5, none⟩ = false := ⟨(blk_cell h 0).trans rfl, (blk_cell h 1).trans rfl, (blk_cell h 2).trans rfl, (blk_cell h 3).trans rfl, (blk_cell h 4).trans rfl, (blk_cell h 5).trans rfl, blk_frozen h 0, blk_frozen h 1, blk_frozen h 2, blk_frozen h 3, blk_frozen h 4, blk_frozen h 5⟩
theorem cl7 {w : World} {g : Nat} {t : TypeId} {c0 c1 c2 c3 c4 c5 c6 : Value} (h : w.heap[g]? = some (.cells #[c0, c1, c2, c3, c4, c5, c6] t (0, 0))) : w.cell? ⟨g, 0, none⟩ = some c0 ∧ w.cell? ⟨g, 1, none⟩ = some c1 ∧ w.cell? ⟨g, 2, none⟩ = some c2 ∧ w.cell? ⟨g, 3, none⟩ = some c3 ∧ w.cell? ⟨g, 4, none⟩ = some c4 ∧ w.cell? ⟨g, 5, none⟩ = some c5 ∧ w.cell? ⟨g, 6, none⟩ = some c6 ∧ w.frozen? ⟨g, 0, none⟩ = false ∧ w.frozen? ⟨g, 1, none⟩ = false ∧ w.frozen? ⟨g, 2, none⟩ = false ∧ w.frozen? ⟨g, 3, none⟩ = false ∧ w.frozen? ⟨g, 4, none⟩ = false ∧ w.frozen? ⟨g, 5, none⟩ = false ∧ w.frozen? ⟨g, 6, none⟩ = false := ⟨(blk_cell h 0).trans rfl, (blk_cell h 1).trans rfl, (blk_cell h 2).trans rfl, (blk_cell h 3).trans rfl, (blk_cell h 4).trans rfl, (blk_cell h 5).trans rfl, (blk_cell h 6).trans rfl, blk_frozen h 0, blk_frozen h 1, blk_frozen h 2, blk_frozen h 3, blk_frozen h 4, blk_frozen h 5, blk_frozen h 6⟩
theorem cl8 {w : World} {g : Nat} {t : TypeId} {c0 c1 c2 c3 c4 c5 c6 c7 : Value} (h : w.heap[g]? = some (.cells #[c0, c1, c2, c3, c4, c5, c6, c7] t (0, 0))) : w.cell? ⟨g, 0, none⟩ = some c0 ∧ w.cell? ⟨g, 1, none⟩ = some c1 ∧ w.cell? ⟨g, 2, none⟩ = some c2 ∧ w.cell? ⟨g, 3, none⟩ = some c3 ∧ w.cell? ⟨g, 4, none⟩ = some c4 ∧ w.cell? ⟨g, 5, none⟩ = some c5 ∧ w.cell? ⟨g, 6, none⟩ = some c6 ∧ w.cell? ⟨g, 7, none⟩ = some c7 ∧ w.frozen? ⟨g, 0, none⟩ = false ∧ w.frozen? ⟨g, 1, none⟩ = false ∧ w.frozen? ⟨g, 2, none⟩ = false ∧ w.frozen? ⟨g, 3, none⟩ = false ∧ w.frozen? ⟨g, 4, none⟩ = false ∧ w.frozen? ⟨g, 5, none⟩ = false ∧ w.frozen? ⟨g, 6, none⟩ = false ∧ w.frozen? ⟨g, 7, none⟩ = false := ⟨(blk_cell h 0).trans rfl, (blk_cell h 1).trans rfl, (blk_cell h 2).trans rfl, (blk_cell h 3).trans rfl, (blk_cell h 4).trans rfl, (blk_cell h 5).trans rfl, (blk_cell h 6).trans rfl, (blk_cell h 7).trans rfl, blk_frozen h 0, blk_frozen h 1, blk_frozen h 2, blk_frozen h 3, blk_frozen h 4, blk_frozen h 5, blk_frozen h 6, blk_frozen h 7⟩
theorem cl9 {w : World} {g : Nat} {t : TypeId} {c0 c1 c2 c3 c4 c5 c6 c7 c8 : Value} (h : w.heap[g]? = some (.cells #[c0, c1, c2, c3, c4, c5, c6, c7, c8] t (0, 0))) : w.cell? ⟨g, 0, none⟩ = some c0 ∧ w.cell? ⟨g, 1, none⟩ = some c1 ∧ w.cell? ⟨g, 2, none⟩ = some c2 ∧ w.cell? ⟨g, 3, none⟩ = some c3 ∧ w.cell? ⟨g, 4, none⟩ = some c4 ∧ w.cell? ⟨g, 5, none⟩ = some c5 ∧ w.cell? ⟨g, 6, none⟩ = some c6 ∧ w.cell? ⟨g, 7, none⟩ = some c7 ∧ w.cell? ⟨g, 8, none⟩ = some c8 ∧ w.frozen? ⟨g, 0, none⟩ = false ∧ w.frozen? ⟨g, 1, none⟩ = false ∧ w.frozen? ⟨g, 2, none⟩ = false ∧ w.frozen? ⟨g, 3, none⟩ = false ∧ w.frozen? ⟨g, 4, none⟩ = false ∧ w.frozen? ⟨g, 5, none⟩ = false ∧ w.frozen? ⟨g, 6, none⟩ = false ∧ w.frozen? ⟨g, 7, none⟩ = false ∧ w.frozen? ⟨g, 8, none⟩ = false := ⟨(blk_cell h 0).trans rfl, (blk_cell h 1).trans rfl, (blk_cell h 2).trans rfl, (blk_cell h 3).trans rfl, (blk_cell h 4).trans rfl, (blk_cell h 5).trans rfl, (blk_cell h 6).trans rfl, (blk_cell h 7).trans rfl, (blk_cell h 8).trans rfl, blk_frozen h 0, blk_frozen h 1, blk_frozen h 2, blk_frozen h 3, blk_frozen h 4, blk_frozen h 5, blk_frozen h 6, blk_frozen h 7, blk_frozen h 8⟩
theorem cl10 {w : World} {g : Nat} {t : TypeId} {c0 c1 c2 c3 c4 c5 c6 c7 c8 c9 : Value} (h : w.heap[g]? = some (.cells #[c0, c1, c2, c3, c4, c5, c6, c7, c8, c9] t (0, 0))) : w.cell? ⟨g, 0, none⟩ = some c0 ∧ w.cell? ⟨g, 1, none⟩ = some c1 ∧ w.cell? ⟨g, 2, none⟩ = some c2 ∧ w.cell? ⟨g, 3, none⟩ = some c3 ∧ w.cell? ⟨g, 4, none⟩ = some c4 ∧ w.cell? ⟨g, 5, none⟩ = some c5 ∧ w.cell? ⟨g, 6, none⟩ = some c6 ∧ w.cell? ⟨g, 7, none⟩ = some c7 ∧ w.cell? ⟨g, 8, none⟩ = some c8 ∧ w.cell? ⟨g, 9, none⟩ = some c9 ∧ w.frozen? ⟨g, 0, none⟩ = false ∧ w.frozen? ⟨g, 1, none⟩ = false ∧ w.frozen? ⟨g, 2, none⟩ = false ∧ w.frozen? ⟨g, 3, none⟩ = false ∧ w.frozen? ⟨g, 4, none⟩ = false ∧ w.frozen? ⟨g, 5, none⟩ = false ∧ w.frozen? ⟨g, 6, none⟩ = false ∧ w.frozen? ⟨g, 7, none⟩ = false ∧ w.frozen? ⟨g, 8, none⟩ = false ∧ w.frozen? ⟨g, 9, none⟩ = false := ⟨(blk_cell h 0).trans rfl, (blk_cell h 1).trans rfl, (blk_cell h 2).trans rfl, (blk_cell h 3).trans rfl, (blk_cell h 4).trans rfl, (blk_cell h 5).trans rfl, (blk_cell h 6).trans rfl, (blk_cell h 7).trans rfl, (blk_cell h 8).trans rfl, (blk_cell h 9).trans rfl, blk_frozen h 0, blk_frozen h 1, blk_frozen h 2, blk_frozen h 3, blk_frozen h 4, blk_frozen h 5, blk_frozen h 6, blk_frozen h 7, blk_frozen h 8, blk_frozen h 9⟩
theorem cl11 {w : World} {g : Nat} {t : TypeId} {c0 c1 c2 c3 c4 c5 c6 c7 c8 c9 c10 : Value} (h : w.heap[g]? = some (.cells #[c0, c1, c2, c3, c4, c5, c6, c7, c8, c9, c10] t (0, 0))) : w.cell? ⟨g, 0, none⟩ = some c0 ∧ w.cell? ⟨g, 1, none⟩ = some c1 ∧ w.cell? ⟨g, 2, none⟩ = some c2 ∧ w.cell? ⟨g, 3, none⟩ = some c3 ∧ w.cell? ⟨g, 4, none⟩ = some c4 ∧ w.cell? ⟨g, 5, none⟩ = some c5 ∧ w.cell? ⟨g, 6, none⟩ = some c6 ∧ w.cell? ⟨g, 7, none⟩ = some c7 ∧ w.cell? ⟨g, 8, none⟩ = some c8 ∧ w.cell? ⟨g, 9, none⟩ = some c9 ∧ w.cell? ⟨g, 10, none⟩ = some c10 ∧ w.frozen? ⟨g, 0, none⟩ = false ∧ w.frozen? ⟨g, 1, none⟩ = false ∧ w.frozen? ⟨g, 2, none⟩ = false ∧ w.frozen? ⟨g, 3, none⟩ = false ∧ w.frozen? ⟨g, 4, none⟩ = false ∧ w.frozen? ⟨g, 5, none⟩ = false ∧ w.frozen? ⟨g, 6, none⟩ = false ∧ w.frozen? ⟨g, 7, none⟩ = false ∧ w.frozen? ⟨g, 8, none⟩ = false ∧ w.frozen? ⟨g, 9, none⟩ = false ∧ w.frozen? ⟨g, 10, none⟩ = false := ⟨(blk_cell h 0).trans rfl, (blk_cell h 1).trans rfl, (blk_cell h 2).trans rfl, (blk_cell h 3).trans rfl, (blk_cell h 4).trans rfl, (blk_cell h 5).trans rfl, (blk_cell h 6).trans rfl, (blk_cell h 7).trans rfl, (blk_cell h 8).trans rfl, (blk_cell h 9).trans rfl, (blk_cell h 10).trans rfl, blk_frozen h 0, blk_frozen h 1, blk_frozen h 2, blk_frozen h 3, blk_frozen h 4, blk_frozen h 5, blk_frozen h 6, blk_frozen h 7, blk_frozen h 8, blk_frozen h 9, blk_frozen h 10⟩
theorem cl12 {w : World} {g : Nat} {t : TypeId} {c0 c1 c2 c3 c4 c5 c6 c7 c8 c9 c10 c11 : Value} (h : w.heap[g]? = some (.cells #[c0, c1, c2, c3, c4, c5, c6, c7, c8, c9, c10, c11] t (0, 0))) : w.cell? ⟨g, 0, none⟩ = some c0 ∧ w.cell? ⟨g, 1, none⟩ = some c1 ∧ w.cell? ⟨g, 2, none⟩ = some c2 ∧ w.cell? ⟨g, 3, none⟩ = some c3 ∧ w.cell? ⟨g, 4, none⟩ = some c4 ∧ w.cell? ⟨g, 5, none⟩ = some c5 ∧ w.cell? ⟨g, 6, none⟩ = some c6 ∧ w.cell? ⟨g, 7, none⟩ = some c7 ∧ w.cell? ⟨g, 8, none⟩ = some c8 ∧ w.cell? ⟨g, 9, none⟩ = some c9 ∧ w.cell? ⟨g, 10, none⟩ = some c10 ∧ w.cell? ⟨g, 11, none⟩ = some c11 ∧ w.frozen? ⟨g, 0, none⟩ = false ∧ w.frozen? ⟨g, 1, none⟩ = false ∧ w.frozen? ⟨g, 2, none⟩ = false ∧ w.frozen? ⟨g, 3, none⟩ = false ∧ w.frozen? ⟨g, 4, none⟩ = false ∧ w.frozen? ⟨g, 5, none⟩ = false ∧ w.frozen? ⟨g, 6, none⟩ = false ∧ w.frozen? ⟨g, 7, none⟩ = false ∧ w.frozen? ⟨g, 8, none⟩ = false ∧ w.frozen? ⟨g, 9, none⟩ = false ∧ w.frozen? ⟨g, 10, none⟩ = false ∧ w.frozen? ⟨g, 11, none⟩ = false := ⟨(blk_cell h 0).trans rfl, (blk_cell h 1).trans rfl, (blk_cell h 2).trans rfl, (blk_cell h 3).trans rfl, (blk_cell h 4).trans rfl, (blk_cell h 5).trans rfl, (blk_cell h 6).trans rfl, (blk_cell h 7).trans rfl, (blk_cell h 8).trans rfl, (blk_cell h 9).trans rfl, (blk_cell h 10).trans rfl, (blk_cell h 11).trans rfl, blk_frozen h 0, blk_frozen h 1, blk_frozen h 2, blk_frozen h 3, blk_frozen h 4, blk_frozen h 5, blk_frozen h 6, blk_frozen h 7, blk_frozen h 8, blk_frozen h 9, blk_frozen h 10, blk_frozen h 11⟩
theorem sTA {α : Type} (l : List α) (i : Nat) (a : α) : l.toArray.setIfInBounds i a = (l.set i a).toArray := List.setIfInBounds_toArray l i a
theorem sZ {α : Type} {x : α} {xs : List α} {a : α} : (x :: xs).set 0 a = a :: xs := List.set_cons_zero
theorem sS {α : Type} {x : α} {xs : List α} {i : Nat} {a : α} : (x :: xs).set (i + 1) a = x :: xs.set i a := List.set_cons_succ
theorem aK {p : Prop} (h : p) : Aside0 p := ⟨h⟩
theorem bDN {B : Nat} {w W : World} (h : Below B w W) (n : Nat) : Below B w (W.drewN n) := pw_below_drewN h n
theorem bD1 {base : Nat} {w W : World} (h : Below base w W) : Below base w W.drew := below_drew1 h
theorem bAl {w W : World} (h : Below w.heap.size w W) (o : Obj) : Below w.heap.size w (W.alloc o) := below_alloc h o
theorem bSt {w W : World} {g j : Nat} {v : Value} (h : Below w.heap.size w W) (hg : w.heap.size ≤ g) : Below w.heap.size w (W.setCell ⟨g, j, none⟩ v) := below_set h hg
theorem bSz {w W : World} (h : Below w.heap.size w W) : w.heap.size ≤ W.heap.size := below_size h
theorem bSp {w W w2 : World} (h : Below w.heap.size w W) (k : Below W.heap.size W w2) : Below w.heap.size w w2 := below_step h k
theorem kC {w : World} {g : Nat} {t : TypeId} {cs : Array Value} (h : w.heap[g]? = some (.cells cs t (0, 0))) (i : Nat) : w.cell? ⟨g, i, none⟩ = cs[i]? := blk_cell h i
theorem kF {w : World} {g : Nat} {t : TypeId} {cs : Array Value} (h : w.heap[g]? = some (.cells cs t (0, 0))) (i : Nat) : w.frozen? ⟨g, i, none⟩ = false := blk_frozen h i
theorem kA {w : World} {g : Nat} {o : Obj} (h : w.heap[g]? = some o) (o' : Obj) : (w.alloc o').heap[g]? = some o := blk_alloc h o'
theorem kDN {w : World} {g : Nat} {o : Obj} (h : w.heap[g]? = some o) (n : Nat) : (w.drewN n).heap[g]? = some o := blk_drewN h n
theorem kD {w : World} {g : Nat} {o : Obj} (h : w.heap[g]? = some o) : w.drew.heap[g]? = some o := blk_drew h
theorem zN {w0 W : World} {g gb : Nat} {o : Obj} (A : Aside0 (w0.heap[g]? = some o)) (hg : gb = W.heap.size) (h : w0.heap[g]? = some o → W.heap[g]? = some o := by intro z_; (with_reducible repeat (first | refine kDN ?_ _ | refine kD ?_ | refine kA ?_ _)); exact z_) : Aside0 (g ≠ gb) := ⟨by rw [hg]; exact Nat.ne_of_lt (blk_lt (h A.out))⟩
theorem zQ {w : World} {g : Nat} {t : TypeId} {cs : Array Value} {v : Value} (h : Aside0 (w.heap[g]? = some (.cells cs t (0, 0)))) (i : Nat) (e : cs[i]? = some v := by rfl) : w.cell? ⟨g, i, none⟩ = some v := (blk_cell h.out i).trans e
theorem zK {A B : Prop} (h : Aside0 A) (f : A → B := by intro z_; (with_reducible repeat (first | refine kDN ?_ _ | refine kD ?_ | refine kA ?_ _)); exact z_) : B := f h.out
theorem zA {A B : Prop} (h : Aside0 A) (f : A → B := by intro z_; (with_reducible repeat (first | apply Kd.R_alloc | apply Kd.R_drewN | apply Kd.R_drew)); exact z_) : B := f h.out
theorem zB {w0 W w' : World} {g : Nat} {o : Obj} (A : Aside0 (w0.heap[g]? = some o)) (hb : Below W.heap.size W w') (h : w0.heap[g]? = some o → W.heap[g]? = some o := by intro z_; (with_reducible repeat (first | refine kDN ?_ _ | refine kD ?_ | refine kA ?_ _)); exact z_) : Aside0 (w'.heap[g]? = some o) := ⟨blk_below (h A.out) hb⟩
theorem zC {A B : Prop} (h : A) (f : A → B := by intro z_; repeat (first | exact z_ | (with_reducible refine Kd.C_alloc ?_ _) | (with_reducible refine Kd.C_drewN ?_ _) | (with_reducible refine Kd.C_drew ?_))) : B := f h
theorem zD {A : Prop} (f : A := by (try simp only [List.map_toArray, List.map_cons, List.map_nil]); first | done | rfl | (simp only [List.length_drop, List.length_take]; rfl)) : A := f
theorem zH0 {A B : Prop} (h : Aside0 A) (f : A → B := by intro z_; repeat (first | (with_reducible first | exact z_ | apply bAl | apply bDN | apply bD1) | exact z_)) : B := f h.out
theorem zH1 {A B C0 : Prop} (h : Aside0 A) (g0 : Aside0 C0) (f : A → C0 → B := by intro z_ y0_; repeat (first | (with_reducible first | exact z_ | apply bAl | apply bDN | apply bD1 | refine bSt ?_ y0_) | exact z_)) : B := f h.out g0.out
theorem zG3 {B : Prop} {w0 W w' : World} {g : Nat} {o : Obj} (A : Aside0 (w0.heap[g]? = some o)) (N : Aside0 B) (hb : Below W.heap.size W w') (h : B → w0.heap[g]? = some o → W.heap[g]? = some o := by intro y_ z_; (with_reducible repeat (first | refine kDN ?_ _ | refine kD ?_ | refine kA ?_ _)); refine blk_far ?_ y_ _; (with_reducible repeat (first | refine kDN ?_ _ | refine kD ?_ | refine kA ?_ _)); refine blk_far ?_ y_ _; (with_reducible repeat (first | refine kDN ?_ _ | refine kD ?_ | refine kA ?_ _)); refine blk_far ?_ y_ _; (with_reducible repeat (first | refine kDN ?_ _ | refine kD ?_ | refine kA ?_ _)); exact z_) : Aside0 (w'.heap[g]? = some o) := ⟨blk_below (h N.out A.out) hb⟩
theorem zP3 {w : World} {g : Nat} {t : TypeId} {c0 c1 c2 : Value} (h : Aside0 (w.heap[g]? = some (.cells #[c0, c1, c2] t (0, 0)))) (v0 v1 v2 : Value) : Aside0 ((((w.setCell ⟨g, 0, none⟩ v0).setCell ⟨g, 1, none⟩ v1).setCell ⟨g, 2, none⟩ v2).heap[g]? = some (.cells #[v0, v1, v2] t (0, 0))) := ⟨(blk_put (cs := #[v0, v1, c2]) (blk_put (cs := #[v0, c1, c2]) (blk_put (cs := #[c0, c1, c2]) h.out 0 _ rfl) 1 _ rfl) 2 _ rfl)⟩
theorem zT3 {α : Type} {d : Kd α} {e t : TypeId} {w : World} {base g : Nat} {ok : Nat → Prop} {v : Value} {xs : List α} {cs : Array Value} (h : Aside0 (d.R e w base ok v xs)) (hb : Aside0 (w.heap[g]? = some (.cells cs t (0, 0)))) (v0 v1 v2 : Value) (ht : ∀ q, q ∈ e :: d.E → q ≠ t := by decide) : d.R e (((w.setCell ⟨g, 0, none⟩ v0).setCell ⟨g, 1, none⟩ v1).setCell ⟨g, 2, none⟩ v2) base (fun k => ok k ∧ k ≠ g) v xs := (Kd.R_far (p := ⟨g, 2, none⟩) (Kd.R_far (p := ⟨g, 1, none⟩) (Kd.R_far (p := ⟨g, 0, none⟩) (Kd.R_types h.out hb.out ht) (fun _ hk => hk.2) v0) (fun _ hk => hk.2) v1) (fun _ hk => hk.2) v2)

end Go.Proofs.Ytccjanhdnheclaa.F
end

section
namespace Go.Proofs.Ytccjanhdnheclaa.F
open Go.RowKit Go.Proofs.YtccjanhdnheclaaW.PrintWords Go.Proofs.YtccjanhdnheclaaW.PrintLast Go.Proofs.YtccjanhdnheclaaW.PrintMore
set_option linter.unusedVariables false
set_option linter.unusedSimpArgs false
attribute [local go_sem] max2_int min2_int max_two min_two
set_option maxRecDepth 20000
set_option maxHeartbeats 4000000
open Nat renaming reduceAdd → p1, reduceSub → p2, reduceMul → p3, reduceDiv → p4, reduceBNe → p5, reduceBEq → p6, reduceEqDiff → p7, reduceLeDiff → p8, reduceLT → p9
open Int renaming reduceLE → p10, reduceLT → p11, reduceEq → p12
theorem spec_l01In.ctr {a0 : Int} {a1 : Int} {a2 : Int} {r : Bool} (h : spec_l01In.f a0 a1 a2 = some r) : Ctr Try.prog 67 [.v (.int .i64 a0), .v (.int .i64 a1), .v (.int .i64 a2)] (.v (.bool r)) := by
  refine Ctr_of tyOk hm Try.func67 rfl rfl (by kernel_rfl) (n := 12) (rv := [.tmp 6]) rfl rfl ?_
  simp only [W, List.replicate]
  unfold spec_l01In.f at h
  replace h := ifS h; rcases h with ⟨c1, h⟩ | ⟨c1, h⟩
  · cases h
    try simp only [W, c1, p1, p2, p3, p4, p5, p6, p7, p8, p9, p10, p11, p12]
  · cases h
    try simp only [W, c1, p1, p2, p3, p4, p5, p6, p7, p8, p9, p10, p11, p12]
theorem spec_GridOk.ctr {a0_0 : Int} {a0_1 : Int} {r : Bool} (h : spec_GridOk.f a0_0 a0_1 = some r) : Ctr Try.prog 54 [.ag [.v (.int .i64 a0_0), .v (.int .i64 a0_1)]] (.v (.bool r)) := by
  refine Ctr_of tyOk hm Try.func54 rfl rfl (by kernel_rfl) (n := 10) (rv := [.tmp 2]) rfl rfl ?_
  simp only [W, List.replicate]
  unfold spec_GridOk.f at h
  replace h := bnd h; obtain ⟨t1, A, h⟩ := h
  try simp only [W, p1, p2, p3, p4, p5, p6, p7, p8, p9, p10, p11, p12]
  refine callR (spec_l01In.ctr A) ?_
  replace h := ifT h; rcases h with ⟨rfl, h⟩ | ⟨rfl, h⟩
  · replace h := bnd h; obtain ⟨t3, A, h⟩ := h
    try simp only [W, p1, p2, p3, p4, p5, p6, p7, p8, p9, p10, p11, p12]
    refine callR (spec_l01In.ctr A) ?_
    cases h
    try simp only [W, p1, p2, p3, p4, p5, p6, p7, p8, p9, p10, p11, p12]
  · cases h
    try simp only [W, p1, p2, p3, p4, p5, p6, p7, p8, p9, p10, p11, p12]
theorem spec_CountCells.ctr {a0_0 : Int} {a0_1 : Int} {r : Int} (h : spec_CountCells.f a0_0 a0_1 = some r) : Ctr Try.prog 22 [.ag [.v (.int .i64 a0_0), .v (.int .i64 a0_1)]] (.v (.int .i64 r)) := by
  refine Ctr_of tyOk hm Try.func22 rfl rfl (by kernel_rfl) (n := 10) (rv := [.tmp 2]) rfl rfl ?_
  simp only [W, List.replicate]
  unfold spec_CountCells.f at h
  replace h := bnd h; obtain ⟨t1, A, h⟩ := h
  try simp only [W, p1, p2, p3, p4, p5, p6, p7, p8, p9, p10, p11, p12]
  refine callR (spec_GridOk.ctr A) ?_
  replace h := ifT h; rcases h with ⟨rfl, h⟩ | ⟨rfl, h⟩
  · cases h
    try simp only [W, p1, p2, p3, p4, p5, p6, p7, p8, p9, p10, p11, p12]
  · cases h
    try simp only [W, p1, p2, p3, p4, p5, p6, p7, p8, p9, p10, p11, p12]
theorem spec_CountCells.calls (a0_0 : Int) (a0_1 : Int) (r : Int) (w : World) (h : spec_CountCells.f a0_0 a0_1 = some r) :
    Calls Try.prog 22 #[.agg #[.int .i64 a0_0, .int .i64 a0_1]] w fun e w' => e = .returned (.int .i64 r) ∧ Below w.heap.size w w' := by
  refine ((spec_CountCells.ctr h).2 w [.agg #[.int .i64 a0_0, .int .i64 a0_1]] (by simp only [RepL, Rep]; exact ⟨_, _, rfl, ⟨_, rfl, _, _, rfl, rfl, _, _, rfl, rfl, rfl⟩, rfl⟩)).mono ?_
  rintro _ _ ⟨y, L, rfl, hR, _, hb⟩
  exact ⟨congrArg Ending.returned (RepR_pln rfl hR).1, hb⟩
theorem spec_l02East.ctr {a0_0 : Int} {a0_1 : Int} {r : Int} (h : spec_l02East.f a0_0 a0_1 = some r) : Ctr Try.prog 85 [.ag [.v (.int .i64 a0_0), .v (.int .i64 a0_1)]] (.v (.int .i64 r)) := by
  refine Ctr_of tyOk hm Try.func85 rfl rfl (by kernel_rfl) (n := 8) (rv := [.tmp 2]) rfl rfl ?_
  simp only [W, List.replicate]
  unfold spec_l02East.f at h
  cases h
  try simp only [W, p1, p2, p3, p4, p5, p6, p7, p8, p9, p10, p11, p12]
theorem spec_CountGaps.ctr {a0_0 : Int} {a0_1 : Int} {r : Int} (h : spec_CountGaps.f a0_0 a0_1 = some r) : Ctr Try.prog 68 [.ag [.v (.int .i64 a0_0), .v (.int .i64 a0_1)]] (.v (.int .i64 r)) := by
  refine Ctr_of tyOk hm Try.func68 rfl rfl (by kernel_rfl) (n := 14) (rv := [.tmp 2]) rfl rfl ?_
  simp only [W, List.replicate]
  unfold spec_CountGaps.f at h
  replace h := bnd h; obtain ⟨t1, A, h⟩ := h
  try simp only [W, p1, p2, p3, p4, p5, p6, p7, p8, p9, p10, p11, p12]
  refine callR (spec_GridOk.ctr A) ?_
  replace h := ifT h; rcases h with ⟨rfl, h⟩ | ⟨rfl, h⟩
  · replace h := bnd h; obtain ⟨t3, A, h⟩ := h
    try simp only [W, p1, p2, p3, p4, p5, p6, p7, p8, p9, p10, p11, p12]
    refine callR (spec_l02East.ctr A) ?_
    cases h
    try simp only [W, p1, p2, p3, p4, p5, p6, p7, p8, p9, p10, p11, p12]
  · cases h
    try simp only [W, p1, p2, p3, p4, p5, p6, p7, p8, p9, p10, p11, p12]
theorem spec_CountGaps.calls (a0_0 : Int) (a0_1 : Int) (r : Int) (w : World) (h : spec_CountGaps.f a0_0 a0_1 = some r) :
    Calls Try.prog 68 #[.agg #[.int .i64 a0_0, .int .i64 a0_1]] w fun e w' => e = .returned (.int .i64 r) ∧ Below w.heap.size w w' := by
  refine ((spec_CountGaps.ctr h).2 w [.agg #[.int .i64 a0_0, .int .i64 a0_1]] (by simp only [RepL, Rep]; exact ⟨_, _, rfl, ⟨_, rfl, _, _, rfl, rfl, _, _, rfl, rfl, rfl⟩, rfl⟩)).mono ?_
  rintro _ _ ⟨y, L, rfl, hR, _, hb⟩
  exact ⟨congrArg Ending.returned (RepR_pln rfl hR).1, hb⟩
theorem spec_MazeOk.ctr {a0_0 : Int} {a0_1 : Int} {a0_2 : Int} {r : Bool} (h : spec_MazeOk.f a0_0 a0_1 a0_2 = some r) : Ctr Try.prog 34 [.ag [.v (.int .i64 a0_0), .v (.int .i64 a0_1), .v (.int .i64 a0_2)]] (.v (.bool r)) := by
  refine Ctr_of tyOk hm Try.func34 rfl rfl (by kernel_rfl) (n := 15) (rv := [.tmp 2]) rfl rfl ?_
  simp only [W, List.replicate]
  unfold spec_MazeOk.f at h
  replace h := bnd h; obtain ⟨t1, A, h⟩ := h
  try simp only [W, p1, p2, p3, p4, p5, p6, p7, p8, p9, p10, p11, p12]
  refine callR (spec_GridOk.ctr A) ?_
  replace h := ifT h; rcases h with ⟨rfl, h⟩ | ⟨rfl, h⟩
  · replace h := bnd h; obtain ⟨t3, A, h⟩ := h
    try simp only [W, p1, p2, p3, p4, p5, p6, p7, p8, p9, p10, p11, p12]
    refine callR (spec_CountGaps.ctr A) ?_
    replace h := ifN h; obtain ⟨c4, h⟩ := h
    replace h := bnd h; obtain ⟨t5, A, h⟩ := h
    try simp only [W, c4, p1, p2, p3, p4, p5, p6, p7, p8, p9, p10, p11, p12]
    refine callR (spec_l01In.ctr A) ?_
    cases h
    try simp only [W, c4, p1, p2, p3, p4, p5, p6, p7, p8, p9, p10, p11, p12]
  · cases h
    try simp only [W, p1, p2, p3, p4, p5, p6, p7, p8, p9, p10, p11, p12]
theorem spec_l03Bit.ctr {a0 : Int} {a1 : Int} {r : Bool} (h : spec_l03Bit.f a0 a1 = some r) : Ctr Try.prog 84 [.v (.int .i64 a0), .v (.int .i64 a1)] (.v (.bool r)) := by
  refine Ctr_of tyOk hm Try.func84 rfl rfl (by kernel_rfl) (n := 8) (rv := [.tmp 4]) rfl rfl ?_
  simp only [W, List.replicate]
  unfold spec_l03Bit.f at h
  replace h := ifN h; obtain ⟨c1, h⟩ := h
  cases h
  try simp only [W, c1, p1, p2, p3, p4, p5, p6, p7, p8, p9, p10, p11, p12]
theorem spec_IsPassage.ctr {a0_0 : Int} {a0_1 : Int} {a0_2 : Int} {a1 : Int} {r : Bool} (h : spec_IsPassage.f a0_0 a0_1 a0_2 a1 = some r) : Ctr Try.prog 51 [.ag [.v (.int .i64 a0_0), .v (.int .i64 a0_1), .v (.int .i64 a0_2)], .v (.int .i64 a1)] (.v (.bool r)) := by
  refine Ctr_of tyOk hm Try.func51 rfl rfl (by kernel_rfl) (n := 19) (rv := [.tmp 4]) rfl rfl ?_
  simp only [W, List.replicate]
  unfold spec_IsPassage.f at h
  replace h := bnd h; obtain ⟨t1, A, h⟩ := h
  try simp only [W, p1, p2, p3, p4, p5, p6, p7, p8, p9, p10, p11, p12]
  refine callR (spec_MazeOk.ctr A) ?_
  replace h := ifT h; rcases h with ⟨rfl, h⟩ | ⟨rfl, h⟩
  · replace h := bnd h; obtain ⟨t3, A, h⟩ := h
    try simp only [W, p1, p2, p3, p4, p5, p6, p7, p8, p9, p10, p11, p12]
    refine callR (spec_CountGaps.ctr A) ?_
    replace h := bnd h; obtain ⟨t4, A, h⟩ := h
    try simp only [W, p1, p2, p3, p4, p5, p6, p7, p8, p9, p10, p11, p12]
    refine callR (spec_l01In.ctr A) ?_
    replace h := ifT h; rcases h with ⟨rfl, h⟩ | ⟨rfl, h⟩
    · replace h := bnd h; obtain ⟨t6, A, h⟩ := h
      try simp only [W, p1, p2, p3, p4, p5, p6, p7, p8, p9, p10, p11, p12]
      refine callR (spec_l03Bit.ctr A) ?_
      cases h
      try simp only [W, p1, p2, p3, p4, p5, p6, p7, p8, p9, p10, p11, p12]
    · cases h
      try simp only [W, p1, p2, p3, p4, p5, p6, p7, p8, p9, p10, p11, p12]
  · cases h
    try simp only [W, p1, p2, p3, p4, p5, p6, p7, p8, p9, p10, p11, p12]
theorem spec_Neighbor.ctr {k : Nat} {a0_0 : Int} {a0_1 : Int} {a1 : Int} {a2 : Int} {r : Int} (h : spec_Neighbor.f k a0_0 a0_1 a1 a2 = some r) : Ctr Try.prog 53 [.ag [.v (.int .i64 a0_0), .v (.int .i64 a0_1)], .v (.int .i64 a1), .v (.int .i64 a2)] (.v (.int .i64 r)) := by
  refine Ctr_of tyOk hm Try.func53 rfl rfl (by kernel_rfl) (n := 57) (rv := [.tmp 6]) rfl rfl ?_
  simp only [W, List.replicate]
  unfold spec_Neighbor.f at h
  replace h := bnd h; obtain ⟨t1, A, h⟩ := h
  try simp only [W, p1, p2, p3, p4, p5, p6, p7, p8, p9, p10, p11, p12]
  refine callR (spec_CountCells.ctr A) ?_
  replace h := bnd h; obtain ⟨t2, A, h⟩ := h
  try simp only [W, p1, p2, p3, p4, p5, p6, p7, p8, p9, p10, p11, p12]
  refine callR (spec_l01In.ctr A) ?_
  replace h := ifT h; rcases h with ⟨rfl, h⟩ | ⟨rfl, h⟩
  · replace h := ifM h; obtain ⟨c4, h⟩ := h
    replace h := ifS h; rcases h with ⟨c5, h⟩ | ⟨c5, h⟩
    · rcases k with _ | m6; · cases h
      rw [spec_Neighbor.j0] at h
      replace h := bnd h; obtain ⟨t7, A, h⟩ := h
      try simp only [W, c4, eq_true c5, p1, p2, p3, p4, p5, p6, p7, p8, p9, p10, p11, p12]
      refine callR (spec_l01In.ctr A) ?_
      replace h := ifT h; rcases h with ⟨rfl, h⟩ | ⟨rfl, h⟩
      · replace h := bnd h; obtain ⟨t9, A, h⟩ := h
        try simp only [W, c4, eq_true c5, p1, p2, p3, p4, p5, p6, p7, p8, p9, p10, p11, p12]
        refine callR (spec_l01In.ctr A) ?_
        replace h := ifT h; rcases h with ⟨rfl, h⟩ | ⟨rfl, h⟩
        · cases h
          try simp only [W, c4, eq_true c5, p1, p2, p3, p4, p5, p6, p7, p8, p9, p10, p11, p12]
        · cases h
          try simp only [W, c4, eq_true c5, p1, p2, p3, p4, p5, p6, p7, p8, p9, p10, p11, p12]
      · cases h
        try simp only [W, c4, eq_true c5, p1, p2, p3, p4, p5, p6, p7, p8, p9, p10, p11, p12]
    · replace h := ifS h; rcases h with ⟨c6, h⟩ | ⟨c6, h⟩
      · rcases k with _ | m7; · cases h
        rw [spec_Neighbor.j0] at h
        replace h := bnd h; obtain ⟨t8, A, h⟩ := h
        try simp only [W, c4, c5, eq_true c6, p1, p2, p3, p4, p5, p6, p7, p8, p9, p10, p11, p12]
        refine callR (spec_l01In.ctr A) ?_
        replace h := ifT h; rcases h with ⟨rfl, h⟩ | ⟨rfl, h⟩
        · replace h := bnd h; obtain ⟨t10, A, h⟩ := h
          try simp only [W, c4, c5, eq_true c6, p1, p2, p3, p4, p5, p6, p7, p8, p9, p10, p11, p12]
          refine callR (spec_l01In.ctr A) ?_
          replace h := ifT h; rcases h with ⟨rfl, h⟩ | ⟨rfl, h⟩
          · cases h
            try simp only [W, c4, c5, eq_true c6, p1, p2, p3, p4, p5, p6, p7, p8, p9, p10, p11, p12]
          · cases h
            try simp only [W, c4, c5, eq_true c6, p1, p2, p3, p4, p5, p6, p7, p8, p9, p10, p11, p12]
        · cases h
          try simp only [W, c4, c5, eq_true c6, p1, p2, p3, p4, p5, p6, p7, p8, p9, p10, p11, p12]
      · replace h := ifS h; rcases h with ⟨c7, h⟩ | ⟨c7, h⟩
        · rcases k with _ | m8; · cases h
          rw [spec_Neighbor.j0] at h
          replace h := bnd h; obtain ⟨t9, A, h⟩ := h
          try simp only [W, c4, c5, c6, eq_true c7, p1, p2, p3, p4, p5, p6, p7, p8, p9, p10, p11, p12]
          refine callR (spec_l01In.ctr A) ?_
          replace h := ifT h; rcases h with ⟨rfl, h⟩ | ⟨rfl, h⟩
          · replace h := bnd h; obtain ⟨t11, A, h⟩ := h
            try simp only [W, c4, c5, c6, eq_true c7, p1, p2, p3, p4, p5, p6, p7, p8, p9, p10, p11, p12]
            refine callR (spec_l01In.ctr A) ?_
            replace h := ifT h; rcases h with ⟨rfl, h⟩ | ⟨rfl, h⟩
            · cases h
              try simp only [W, c4, c5, c6, eq_true c7, p1, p2, p3, p4, p5, p6, p7, p8, p9, p10, p11, p12]
            · cases h
              try simp only [W, c4, c5, c6, eq_true c7, p1, p2, p3, p4, p5, p6, p7, p8, p9, p10, p11, p12]
          · cases h
            try simp only [W, c4, c5, c6, eq_true c7, p1, p2, p3, p4, p5, p6, p7, p8, p9, p10, p11, p12]
        · replace h := ifS h; rcases h with ⟨c8, h⟩ | ⟨c8, h⟩
          · rcases k with _ | m9; · cases h
            rw [spec_Neighbor.j0] at h
            replace h := bnd h; obtain ⟨t10, A, h⟩ := h
            try simp only [W, c4, c5, c6, c7, eq_true c8, p1, p2, p3, p4, p5, p6, p7, p8, p9, p10, p11, p12]
            refine callR (spec_l01In.ctr A) ?_
            replace h := ifT h; rcases h with ⟨rfl, h⟩ | ⟨rfl, h⟩
            · replace h := bnd h; obtain ⟨t12, A, h⟩ := h
              try simp only [W, c4, c5, c6, c7, eq_true c8, p1, p2, p3, p4, p5, p6, p7, p8, p9, p10, p11, p12]
              refine callR (spec_l01In.ctr A) ?_
              replace h := ifT h; rcases h with ⟨rfl, h⟩ | ⟨rfl, h⟩
              · cases h
                try simp only [W, c4, c5, c6, c7, eq_true c8, p1, p2, p3, p4, p5, p6, p7, p8, p9, p10, p11, p12]
              · cases h
                try simp only [W, c4, c5, c6, c7, eq_true c8, p1, p2, p3, p4, p5, p6, p7, p8, p9, p10, p11, p12]
            · cases h
              try simp only [W, c4, c5, c6, c7, eq_true c8, p1, p2, p3, p4, p5, p6, p7, p8, p9, p10, p11, p12]
          · cases h
            try simp only [W, c4, c5, c6, c7, c8, p1, p2, p3, p4, p5, p6, p7, p8, p9, p10, p11, p12]
  · cases h
    try simp only [W, p1, p2, p3, p4, p5, p6, p7, p8, p9, p10, p11, p12]
end Go.Proofs.Ytccjanhdnheclaa.F
end

section
namespace Go.Proofs.Ytccjanhdnheclaa.F
open Go.RowKit Go.Proofs.YtccjanhdnheclaaW.PrintWords Go.Proofs.YtccjanhdnheclaaW.PrintLast Go.Proofs.YtccjanhdnheclaaW.PrintMore
set_option linter.unusedVariables false
set_option linter.unusedSimpArgs false
attribute [local go_sem] max2_int min2_int max_two min_two
set_option maxRecDepth 20000
set_option maxHeartbeats 4000000
open Nat renaming reduceAdd → p1, reduceSub → p2, reduceMul → p3, reduceDiv → p4, reduceBNe → p5, reduceBEq → p6, reduceEqDiff → p7, reduceLeDiff → p8, reduceLT → p9
open Int renaming reduceLE → p10, reduceLT → p11, reduceEq → p12
theorem laws_big.ctr {l0 : List Int} {r : Bool} (h : laws_big.f l0 = some r) : Ctr Try.prog 18 [.pr 1 (l0.map eU8)] (.v (.bool r)) := by
  refine Ctr_of tyOk hm Try.func18 rfl rfl (by kernel_rfl) (n := 5) (rv := [.tmp 2]) rfl rfl ?_
  simp only [W, List.replicate]
  unfold laws_big.f at h
  cases h
  try simp only [W, p1, p2, p3, p4, p5, p6, p7, p8, p9, p10, p11, p12]
def IsS94 (w0 W : World) (g : Nat) (f0 : List Int) (f1 : Int) (f2 : Int) : Prop := ∃ A0 c0, W.heap[g]? = some (.cells #[.slice A0 f0.length c0, .int .i64 f1, .int .i64 f2] 94 (0, 0)) ∧ w0.heap.size ≤ g ∧ Kd.C (Kd.int .u8) w0 A0 f0.length f0
theorem IsS94.grown {w0 W : World} {g : Nat} {f0 : List Int} {f1 : Int} {f2 : Int} {W1 : World} {row : Option Nat} (h : IsS94 w0 W g f0 f1 f2) (hw : W.grownBy W1 row) (hne : some g ≠ row) : IsS94 w0 W1 g f0 f1 f2 := by
  obtain ⟨A0, c0, hb, hg, hr0⟩ := h
  exact ⟨A0, c0, blk_grown hb hw hne, hg, hr0⟩
theorem IsS94.below {w0 W : World} {g : Nat} {f0 : List Int} {f1 : Int} {f2 : Int} {W1 : World} (h : IsS94 w0 W g f0 f1 f2) (hw : Below W.heap.size W W1) : IsS94 w0 W1 g f0 f1 f2 := h.grown (grown_of_below hw none) (by simp)
theorem IsS94.drewN {w0 W : World} {g : Nat} {f0 : List Int} {f1 : Int} {f2 : Int} (h : IsS94 w0 W g f0 f1 f2) (m : Nat) : IsS94 w0 (W.drewN m) g f0 f1 f2 := h
theorem IsS94.drew {w0 W : World} {g : Nat} {f0 : List Int} {f1 : Int} {f2 : Int} (h : IsS94 w0 W g f0 f1 f2) : IsS94 w0 W.drew g f0 f1 f2 := h
theorem IsS94.at_ {w0 W : World} {g : Nat} {f0 : List Int} {f1 : Int} {f2 : Int} {w' : World} {m : Nat} (hq : W.drewN m = w') (h : IsS94 w0 W g f0 f1 f2) : IsS94 w0 w' g f0 f1 f2 := by subst hq; exact IsS94.drewN h m
theorem IsS94.apart {w0 W : World} {g : Nat} {f0 : List Int} {f1 : Int} {f2 : Int} {α : Type} {d : Kd α} {e : Nat} {base : Nat} {ok : Nat → Prop} {v : Value} {xs : List α} (h : IsS94 w0 W g f0 f1 f2) (ho : d.R e W base ok v xs) (ht : ∀ q, q ∈ e :: d.E → q ≠ 94) : d.R e W base (fun k => ok k ∧ k ≠ g) v xs := by
  obtain ⟨A0, c0, hb, hg, hr0⟩ := h
  exact Kd.R_types ho hb ht
theorem IsS94.own_ne {w0 W : World} {g : Nat} {f0 : List Int} {f1 : Int} {f2 : Int} {α : Type} {d : Kd α} {e : Nat} {base : Nat} {ok : Nat → Prop} {v : Value} {xs : List α} (h : IsS94 w0 W g f0 f1 f2) (ho : d.R e W base ok v xs) (ht : e ≠ 94) : some g ≠ v.ownBlock := by
  obtain ⟨A0, c0, hb, hg, hr0⟩ := h
  exact Kd.R_ne ho hb ht
theorem IsS94.lt {w0 W : World} {g : Nat} {f0 : List Int} {f1 : Int} {f2 : Int} (h : IsS94 w0 W g f0 f1 f2) : g < W.heap.size := by
  obtain ⟨A0, c0, hb, hg, hr0⟩ := h
  exact blk_lt hb
theorem IsS94.ge {w0 W : World} {g : Nat} {f0 : List Int} {f1 : Int} {f2 : Int} (h : IsS94 w0 W g f0 f1 f2) : w0.heap.size ≤ g := by
  obtain ⟨A0, c0, hb, hg, hr0⟩ := h
  exact hg
theorem IsS94.ne_blk {w0 W : World} {g : Nat} {f0 : List Int} {f1 : Int} {f2 : Int} {a : Nat} {cs : Array Value} {t : TypeId} {fr : Nat × Nat} (h : IsS94 w0 W g f0 f1 f2) (hb2 : W.heap[a]? = some (.cells cs t fr)) (ht : t ≠ 94) : g ≠ a := by
  obtain ⟨A0, c0, hb, hg, hr0⟩ := h
  rintro rfl
  rw [hb] at hb2
  injection hb2 with hb2
  injection hb2 with _ ht2
  exact ht ht2.symm
theorem IsS94.far {w0 W : World} {g : Nat} {f0 : List Int} {f1 : Int} {f2 : Int} {p : Addr} (h : IsS94 w0 W g f0 f1 f2) (hne : g ≠ p.block) (u : Value) : IsS94 w0 (W.setCell p u) g f0 f1 f2 := by
  obtain ⟨A0, c0, hb, hg, hr0⟩ := h
  exact ⟨A0, c0, blk_far hb hne u, hg, hr0⟩
theorem cellS94_0 {W : World} {g : Nat} {A0 : Option Addr} {c0 : Nat} {f0 : List Int} {f1 : Int} {f2 : Int} (h : W.heap[g]? = some (.cells #[.slice A0 f0.length c0, .int .i64 f1, .int .i64 f2] 94 (0, 0))) : W.cell? ⟨g, 0, none⟩ = some (.slice A0 f0.length c0) := (kC h 0).trans rfl
theorem cellS94_1 {W : World} {g : Nat} {A0 : Option Addr} {c0 : Nat} {f0 : List Int} {f1 : Int} {f2 : Int} (h : W.heap[g]? = some (.cells #[.slice A0 f0.length c0, .int .i64 f1, .int .i64 f2] 94 (0, 0))) : W.cell? ⟨g, 1, none⟩ = some (.int .i64 f1) := (kC h 1).trans rfl
theorem IsS94.set_1 {w0 W : World} {g : Nat} {f0 : List Int} {f1 : Int} {f2 : Int} (h : IsS94 w0 W g f0 f1 f2) (x : Int) : IsS94 w0 (W.setCell ⟨g, 1, none⟩ (.int .i64 x)) g f0 x f2 := by
  obtain ⟨A0, c0, hb, hg, hr0⟩ := h
  exact ⟨A0, c0, by simpa using blk_set hb 1 (.int .i64 x), hg, hr0⟩
theorem cellS94_2 {W : World} {g : Nat} {A0 : Option Addr} {c0 : Nat} {f0 : List Int} {f1 : Int} {f2 : Int} (h : W.heap[g]? = some (.cells #[.slice A0 f0.length c0, .int .i64 f1, .int .i64 f2] 94 (0, 0))) : W.cell? ⟨g, 2, none⟩ = some (.int .i64 f2) := (kC h 2).trans rfl
theorem IsS94.set_2 {w0 W : World} {g : Nat} {f0 : List Int} {f1 : Int} {f2 : Int} (h : IsS94 w0 W g f0 f1 f2) (x : Int) : IsS94 w0 (W.setCell ⟨g, 2, none⟩ (.int .i64 x)) g f0 f1 x := by
  obtain ⟨A0, c0, hb, hg, hr0⟩ := h
  exact ⟨A0, c0, by simpa using blk_set hb 2 (.int .i64 x), hg, hr0⟩
set_option maxHeartbeats 8000000 in
set_option maxRecDepth 100000 in
theorem spec_l01New.calls (k : Nat) (A0 : Option Addr) (c0 : Nat) (l0 : List Int) (r1 : List Int) (r2 : Int) (r3 : Int) (w0 w : World) (hB : Below w0.heap.size w0 w) (hr0 : Kd.C (Kd.int .u8) w0 A0 l0.length l0) (hc0 : l0.length ≤ c0) (h : spec_l01New.f k l0 = some (r1, r2, r3)) :
  Calls Try.prog 46 #[.slice A0 l0.length c0] w fun e w' => ∃ g_ : Nat, e = .returned (.pointer (some ⟨g_, 0, none⟩)) ∧ IsS94 w0 w' g_ r1 r2 r3 ∧ Below w0.heap.size w0 w' ∧ Below w.heap.size w w' := by
 have hu94 := Try.underlying94
 have HR0 := aK hr0
 have HC0 := aK hc0
 clear hr0 hc0
 have HBW := aK (Below.refl w.heap.size w)
 have HW0 := aK hB.size
 have HB := aK hB
 clear hB
 have H : (spec_l01New.l0 k l0 (wrap64 (99041 + (l0.length : Int))) 0) = some (r1, r2, r3) := h
 clear h
 have H' := aK H
 clear H
 go_enter Try.func46, Try.ntmps46
 go_wp2
 go_loopg [3, 4] k (fun kq v3 v4 w' => ∃ (x3_1 : Int) (x4_1 : Int), v3 = .int .i64 x3_1 ∧ v4 = .int .i64 x4_1 ∧ Aside0 (spec_l01New.l0 kq l0 x3_1 x4_1 = some (r1, r2, r3)) ∧ Aside0 (kq ≤ k) ∧ Aside0 (Below w.heap.size w w') ∧ Aside0 (Below w0.heap.size w0 w'))
 case atStart => exact ⟨(wrap64 (99041 + (l0.length : Int))), (0), (by first | rfl | (simp; done) | (simp [*]; done)), (by first | rfl | (simp; done) | (simp [*]; done)), H', ⟨Nat.le_refl _⟩, ⟨zH0 HBW⟩, ⟨zH0 HB⟩⟩
 case round =>
  clear H'
  obtain ⟨x3_1, x4_1, rfl, rfl, HA, HK1, HBW, HB⟩ := hrel
  cases gk with
  | zero => exact absurd HA.out (by simp [spec_l01New.l0])
  | succ k1 =>
   have H := HA.out
   clear HA
   simp only [spec_l01New.l0] at H
   by_cases c2 : x4_1 < (l0.length : Int)
   ·rw [if_pos c2] at H
    have c2b0 : decide (x4_1 < (l0.length : Int)) = true := decide_eq_true c2
    clear c2
    by_cases c3 : x4_1 < 4000
    ·rw [if_pos c3] at H
     have c3b0 : decide (x4_1 < 4000) = true := decide_eq_true c3
     clear c3
     by_cases c4 : 0 ≤ x4_1
     ·rw [if_pos c4] at H
      have c4b0 : decide (0 ≤ x4_1) = true := decide_eq_true c4
      clear c4
      have H' := aK H
      clear H
      have p347 : 0 ≤ (x4_1 : Int) := of_decide_eq_true (by first | (with_reducible assumption) | assumption)
      have q347 : x4_1 < (l0.length : Int) := of_decide_eq_true (by first | (with_reducible assumption) | assumption)
      obtain ⟨ad347, e347, hx347_0⟩ := Kd.at_int HR0.out x4_1 p347 q347
      cases e347
      replace hx347_0 := pw_cell_below HB.out hx347_0
      replace p347 := eq_true p347
      replace q347 := eq_true q347
      go_wp2
      go_roundg k1
      case measure => have := HK1.out; omega
      case rel => exact ⟨(Go.bits .and .i64 (wrap64 ((wrap64 ((wrap64 (x3_1 * 131)) + (wrap64 (rd l0 x4_1)))) + 7)) 1073741823), (wrap64 (x4_1 + 1)), (by first | rfl | (simp; done) | (simp [*]; done)), (by first | rfl | (simp; done) | (simp [*]; done)), H', ⟨by have := HK1.out; omega⟩, ⟨zH0 HBW⟩, ⟨zH0 HB⟩⟩
     ·rw [if_neg c4] at H
      exact absurd H (by simp)
    ·rw [if_neg c3] at H
     have c3b0 : decide (x4_1 < 4000) = false := decide_eq_false c3
     clear c3
     simp only [Option.some.injEq, Prod.mk.injEq] at H
     obtain ⟨rfl, rfl, rfl⟩ := H
     go_wp2_with (first | ((with_reducible refine gate_dst (N := 31) rfl ?_); refine box_event ?hg (N := 31) ?hd (cs := #[.slice A0 l0.length c0, .int .i64 0, .int .i64 x3_1]) (t := 94) ?hr ?_; (case hd => rfl); (case hg => rfl); (case hr => first | (go_simp; done) | (go_simp; rfl)); intro gb348 hg w5 hbox hb; replace HB := aK (bSp (zH0 HB) hb); have BK348 := aK (hbox); have GW348 := aK ((by rw [hg]; exact (bSz (zH0 HBW)) : w.heap.size ≤ gb348)); have GE348 := aK ((Nat.le_trans HW0.out (by rw [hg]; exact (bSz (zH0 HBW)) : w.heap.size ≤ gb348) : w0.heap.size ≤ gb348)); replace HBW := aK (bSp HBW.out hb); clear hb hbox hg))
     go_ret
     exact ⟨_, rfl, (show IsS94 w0 _ gb348 l0 0 x3_1 from ⟨_, _, by (with_reducible repeat (first | refine kDN ?_ _ | refine kD ?_ | refine kA ?_ _)); exact BK348.out, GE348.out, HR0.out⟩), by repeat (first | (with_reducible first | exact HB.out | apply bAl | apply bDN | apply bD1 | refine bSt ?_ GE348.out) | exact HB.out), by repeat (first | (with_reducible first | exact HBW.out | apply bAl | apply bDN | apply bD1 | refine bSt ?_ GW348.out) | exact HBW.out)⟩
   ·rw [if_neg c2] at H
    have c2b0 : decide (x4_1 < (l0.length : Int)) = false := decide_eq_false c2
    clear c2
    simp only [Option.some.injEq, Prod.mk.injEq] at H
    obtain ⟨rfl, rfl, rfl⟩ := H
    go_wp2_with (first | ((with_reducible refine gate_dst (N := 31) rfl ?_); refine box_event ?hg (N := 31) ?hd (cs := #[.slice A0 l0.length c0, .int .i64 0, .int .i64 x3_1]) (t := 94) ?hr ?_; (case hd => rfl); (case hg => rfl); (case hr => first | (go_simp; done) | (go_simp; rfl)); intro gb349 hg w6 hbox hb; replace HB := aK (bSp (zH0 HB) hb); have BK349 := aK (hbox); have GW349 := aK ((by rw [hg]; exact (bSz (zH0 HBW)) : w.heap.size ≤ gb349)); have GE349 := aK ((Nat.le_trans HW0.out (by rw [hg]; exact (bSz (zH0 HBW)) : w.heap.size ≤ gb349) : w0.heap.size ≤ gb349)); replace HBW := aK (bSp HBW.out hb); clear hb hbox hg))
    go_ret
    exact ⟨_, rfl, (show IsS94 w0 _ gb349 l0 0 x3_1 from ⟨_, _, by (with_reducible repeat (first | refine kDN ?_ _ | refine kD ?_ | refine kA ?_ _)); exact BK349.out, GE349.out, HR0.out⟩), by repeat (first | (with_reducible first | exact HB.out | apply bAl | apply bDN | apply bD1 | refine bSt ?_ GE349.out) | exact HB.out), by repeat (first | (with_reducible first | exact HBW.out | apply bAl | apply bDN | apply bD1 | refine bSt ?_ GW349.out) | exact HBW.out)⟩
set_option maxHeartbeats 8000000 in
set_option maxRecDepth 100000 in
theorem spec_l01Byte.calls (g : Nat) (s0_0 : List Int) (s0_1 : Int) (s0_2 : Int) (r1 : Int) (r2 : Int) (r3 : Int) (w0 w : World) (hI : IsS94 w0 w g s0_0 s0_1 s0_2) (hB : Below w0.heap.size w0 w) (h : spec_l01Byte.f s0_0 s0_1 s0_2 = some (r1, r2, r3)) :
  Calls Try.prog 89 #[.pointer (some ⟨g, 0, none⟩)] w fun e w' => e = .returned (.int .i64 r1) ∧ IsS94 w0 w' g s0_0 r2 r3 ∧ Below w0.heap.size w0 w' ∧ KeepBut w w' g none := by
 have HI0 := aK hI
 have HK := aK (KeepBut.refl w g none)
 have HL := aK hB.size
 clear hI
 have HW0 := aK hB.size
 have HB := aK hB
 clear hB
 have H : (if s0_1 < (s0_0.length : Int) then (if 0 ≤ s0_1 then (some (Go.bits .and .i64 (wrap64 ((Go.bits .and .i64 (Go.bits .xor .i64 ((wrap64 ((wrap64 (s0_2 * 6364136223846793005)) + 1442695040888963407)) / 8589934592) ((wrap64 ((wrap64 (s0_2 * 6364136223846793005)) + 1442695040888963407)) / 35184372088832)) 255) + (wrap64 (rd s0_0 s0_1)))) 255, wrap64 (s0_1 + 1), wrap64 ((wrap64 (s0_2 * 6364136223846793005)) + 1442695040888963407))) else (none)) else (some (Go.bits .and .i64 (Go.bits .xor .i64 ((wrap64 ((wrap64 (s0_2 * 6364136223846793005)) + 1442695040888963407)) / 8589934592) ((wrap64 ((wrap64 (s0_2 * 6364136223846793005)) + 1442695040888963407)) / 35184372088832)) 255, s0_1, wrap64 ((wrap64 (s0_2 * 6364136223846793005)) + 1442695040888963407)))) = some (r1, r2, r3) := h
 clear h
 by_cases c2 : s0_1 < (s0_0.length : Int)
 ·rw [if_pos c2] at H
  have c2b0 : decide (s0_1 < (s0_0.length : Int)) = true := decide_eq_true c2
  clear c2
  by_cases c3 : 0 ≤ s0_1
  ·rw [if_pos c3] at H
   have c3b0 : decide (0 ≤ s0_1) = true := decide_eq_true c3
   clear c3
   simp only [Option.some.injEq, Prod.mk.injEq] at H
   obtain ⟨rfl, rfl, rfl⟩ := H
   obtain ⟨ASz4_0, cSz4_0, HGz4, hgz4, HSz4_0⟩ := HI0.out
   have hcz4_0 := cellS94_0 HGz4
   have hcz4_1 := cellS94_1 HGz4
   have hcz4_2 := cellS94_2 HGz4
   have hfz4_1 := kF HGz4 1
   have hfz4_2 := kF HGz4 2
   clear HGz4 hgz4
   have p350 : 0 ≤ (s0_1 : Int) := of_decide_eq_true (by first | (with_reducible assumption) | assumption)
   have q350 : s0_1 < (s0_0.length : Int) := of_decide_eq_true (by first | (with_reducible assumption) | assumption)
   obtain ⟨ad350, e350, hx350_0⟩ := Kd.at_int HSz4_0 s0_1 p350 q350
   cases e350
   have hn350_0 : ad350.block ≠ g := Nat.ne_of_lt (Nat.lt_of_lt_of_le (by have := World.block_lt_of_cell? _ _ hx350_0; first | rwa [add_block] at this | exact this) (IsS94.ge HI0.out))
   replace hx350_0 := pw_cell_below HB.out hx350_0
   replace hx350_0 := (cell_far (p := ⟨g, 2, none⟩) (by first | (rw [add_block]; exact hn350_0) | (show (Addr.add _ _).block ≠ _; rw [add_block]; exact hn350_0) | exact hn350_0) (.int .i64 (wrap64 ((wrap64 (s0_2 * 6364136223846793005)) + 1442695040888963407)))).trans hx350_0
   (try have hy350_0 := fun (n_ : Nat) => (show (((w.drewN n_).setCell ⟨g, 2, none⟩ (.int .i64 (wrap64 ((wrap64 (s0_2 * 6364136223846793005)) + 1442695040888963407))))).cell? _ = some _ from hx350_0))
   clear hn350_0
   replace p350 := eq_true p350
   replace q350 := eq_true q350
   go_enter Try.func89, Try.ntmps89
   go_wp2
   repeat (go_quiet (fail); try go_wp2)
   go_ret
   exact ⟨by first | rfl | (simp [errW_none, errW_some] <;> rfl) | (simp [*, errW_none, errW_some] <;> rfl), by repeat (first | (with_reducible first | exact HI0.out | apply IsS94.alloc | apply IsS94.drewN | apply IsS94.drew | apply IsS94.set_1 | apply IsS94.set_2) | exact HI0.out), by repeat (first | (with_reducible first | exact HB.out | apply bAl | apply bDN | apply bD1 | refine bSt ?_ (IsS94.ge HI0.out)) | exact HB.out), by repeat (first | (with_reducible first | exact HK.out | apply KeepBut.set_ | apply keep_drewN | apply keep_drew | apply keep_alloc) | exact HK.out)⟩
  ·rw [if_neg c3] at H
   exact absurd H (by simp)
 ·rw [if_neg c2] at H
  have c2b0 : decide (s0_1 < (s0_0.length : Int)) = false := decide_eq_false c2
  clear c2
  simp only [Option.some.injEq, Prod.mk.injEq] at H
  obtain ⟨rfl, rfl, rfl⟩ := H
  obtain ⟨ASz5_0, cSz5_0, HGz5, hgz5, HSz5_0⟩ := HI0.out
  have hcz5_0 := cellS94_0 HGz5
  have hcz5_1 := cellS94_1 HGz5
  have hcz5_2 := cellS94_2 HGz5
  have hfz5_1 := kF HGz5 1
  have hfz5_2 := kF HGz5 2
  clear HGz5 hgz5
  go_enter Try.func89, Try.ntmps89
  go_wp2
  repeat (go_quiet (fail); try go_wp2)
  go_ret
  exact ⟨by first | rfl | (simp [errW_none, errW_some] <;> rfl) | (simp [*, errW_none, errW_some] <;> rfl), by repeat (first | (with_reducible first | exact HI0.out | apply IsS94.alloc | apply IsS94.drewN | apply IsS94.drew | apply IsS94.set_1 | apply IsS94.set_2) | exact HI0.out), by repeat (first | (with_reducible first | exact HB.out | apply bAl | apply bDN | apply bD1 | refine bSt ?_ (IsS94.ge HI0.out)) | exact HB.out), by repeat (first | (with_reducible first | exact HK.out | apply KeepBut.set_ | apply keep_drewN | apply keep_drew | apply keep_alloc) | exact HK.out)⟩
set_option maxHeartbeats 8000000 in
set_option maxRecDepth 100000 in
theorem spec_l01Below.calls (g : Nat) (s0_0 : List Int) (s0_1 : Int) (s0_2 : Int) (a1 : Int) (r1 : Int) (r2 : Int) (r3 : Int) (w0 w : World) (hI : IsS94 w0 w g s0_0 s0_1 s0_2) (hB : Below w0.heap.size w0 w) (h : spec_l01Below.f s0_0 s0_1 s0_2 a1 = some (r1, r2, r3)) :
  Calls Try.prog 58 #[.pointer (some ⟨g, 0, none⟩), .int .i64 a1] w fun e w' => e = .returned (.int .i64 r1) ∧ IsS94 w0 w' g s0_0 r2 r3 ∧ Below w0.heap.size w0 w' ∧ KeepBut w w' g none := by
 have HI0 := aK hI
 have HK := aK (KeepBut.refl w g none)
 have HL := aK hB.size
 clear hI
 have HW0 := aK hB.size
 have HB := aK hB
 clear hB
 have H : (if a1 ≤ 0 then (some (0, s0_1, s0_2)) else (if a1 ≤ 256 then ((spec_l01Byte.f s0_0 s0_1 s0_2).bind fun bt351 => (if a1 = 0 then (none) else (some (Int.tmod bt351.1 a1, bt351.2.1, bt351.2.2)))) else ((spec_l01Byte.f s0_0 s0_1 s0_2).bind fun bt354 => ((spec_l01Byte.f s0_0 bt354.2.1 bt354.2.2).bind fun bt357 => ((spec_l01Byte.f s0_0 bt357.2.1 bt357.2.2).bind fun bt360 => ((spec_l01Byte.f s0_0 bt360.2.1 bt360.2.2).bind fun bt363 => (if a1 = 0 then (none) else (some (Int.tmod (wrap64 ((wrap64 ((wrap64 ((wrap64 (bt354.1 * 16777216)) + (wrap64 (bt357.1 * 65536)))) + (wrap64 (bt360.1 * 256)))) + bt363.1)) a1, bt363.2.1, bt363.2.2))))))))) = some (r1, r2, r3) := h
 clear h
 by_cases c3 : a1 ≤ 0
 ·rw [if_pos c3] at H
  have c3b0 : decide (a1 ≤ 0) = true := decide_eq_true c3
  clear c3
  simp only [Option.some.injEq, Prod.mk.injEq] at H
  obtain ⟨rfl, rfl, rfl⟩ := H
  go_enter Try.func58, Try.ntmps58
  go_wp2
  go_ret
  exact ⟨by first | rfl | (simp [errW_none, errW_some] <;> rfl) | (simp [*, errW_none, errW_some] <;> rfl), by repeat (first | (with_reducible first | exact HI0.out | apply IsS94.alloc | apply IsS94.drewN | apply IsS94.drew | apply IsS94.set_1 | apply IsS94.set_2) | exact HI0.out), by repeat (first | (with_reducible first | exact HB.out | apply bAl | apply bDN | apply bD1 | refine bSt ?_ (IsS94.ge HI0.out)) | exact HB.out), by repeat (first | (with_reducible first | exact HK.out | apply KeepBut.set_ | apply keep_drewN | apply keep_drew | apply keep_alloc) | exact HK.out)⟩
 ·rw [if_neg c3] at H
  have c3b0 : decide (a1 ≤ 0) = false := decide_eq_false c3
  clear c3
  by_cases c4 : a1 ≤ 256
  ·rw [if_pos c4] at H
   have c4b0 : decide (a1 ≤ 256) = true := decide_eq_true c4
   clear c4
   replace H := Option.bind_eq_some_iff.mp H
   obtain ⟨⟨t351, t352, t353⟩, A50, H⟩ := H
   replace H : (if a1 = 0 then (none) else (some (Int.tmod t351 a1, t352, t353))) = some (r1, r2, r3) := H
   have A5 := aK A50
   clear A50
   by_cases c6 : a1 = 0
   ·rw [if_pos c6] at H
    exact absurd H (by simp)
   ·rw [if_neg c6] at H
    have c6b0 : (a1 == 0) = false := beq_eq_false_iff_ne.mpr c6
    have c6b1 : (a1 != 0) = true := bne_iff_ne.mpr c6
    simp only [Option.some.injEq, Prod.mk.injEq] at H
    obtain ⟨rfl, rfl, rfl⟩ := H
    go_enter Try.func58, Try.ntmps58
    go_wp2_with (first | ((with_reducible refine gate_callee (f := 89) rfl ?_); refine goesL_ (some 14) rfl rfl Try.func89 (by kernel_rfl) rfl #[.pointer (some ⟨g, 0, none⟩)] rfl zD ?_; (with_reducible refine (spec_l01Byte.calls g s0_0 s0_1 s0_2 t351 t352 t353 w0 _ ?side1 ?side2 A5.out).mono ?_); (case side1 => repeat (first | (with_reducible first | exact HI0.out | apply IsS94.alloc | apply IsS94.drewN | apply IsS94.drew | apply IsS94.set_1 | apply IsS94.set_2) | exact HI0.out)); (case side2 => repeat (first | (with_reducible first | exact HB.out | apply bAl | apply bDN | apply bD1 | refine bSt ?_ (IsS94.ge HI0.out)) | exact HB.out)); rintro e w7 ⟨rfl, hi, hb, hk⟩; refine ⟨_, rfl, ?_⟩; replace HK := aK (KeepBut.trans (by repeat (first | (with_reducible first | exact HK.out | apply KeepBut.set_ | apply keep_drewN | apply keep_drew | apply keep_alloc) | exact HK.out)) hk (.inl rfl)); replace HB := aK (hb); replace HI0 := aK (hi); (try clear hb); (try clear hb2); (try clear hk); (try clear hi)))
    go_ret
    exact ⟨by first | rfl | (simp [errW_none, errW_some] <;> rfl) | (simp [*, errW_none, errW_some] <;> rfl), by repeat (first | (with_reducible first | exact HI0.out | apply IsS94.alloc | apply IsS94.drewN | apply IsS94.drew | apply IsS94.set_1 | apply IsS94.set_2) | exact HI0.out), by repeat (first | (with_reducible first | exact HB.out | apply bAl | apply bDN | apply bD1 | refine bSt ?_ (IsS94.ge HI0.out)) | exact HB.out), by repeat (first | (with_reducible first | exact HK.out | apply KeepBut.set_ | apply keep_drewN | apply keep_drew | apply keep_alloc) | exact HK.out)⟩
  ·rw [if_neg c4] at H
   have c4b0 : decide (a1 ≤ 256) = false := decide_eq_false c4
   clear c4
   replace H := Option.bind_eq_some_iff.mp H
   obtain ⟨⟨t354, t355, t356⟩, A80, H⟩ := H
   replace H : ((spec_l01Byte.f s0_0 t355 t356).bind fun bt357 => ((spec_l01Byte.f s0_0 bt357.2.1 bt357.2.2).bind fun bt360 => ((spec_l01Byte.f s0_0 bt360.2.1 bt360.2.2).bind fun bt363 => (if a1 = 0 then (none) else (some (Int.tmod (wrap64 ((wrap64 ((wrap64 ((wrap64 (t354 * 16777216)) + (wrap64 (bt357.1 * 65536)))) + (wrap64 (bt360.1 * 256)))) + bt363.1)) a1, bt363.2.1, bt363.2.2)))))) = some (r1, r2, r3) := H
   have A8 := aK A80
   clear A80
   replace H := Option.bind_eq_some_iff.mp H
   obtain ⟨⟨t357, t358, t359⟩, A90, H⟩ := H
   replace H : ((spec_l01Byte.f s0_0 t358 t359).bind fun bt360 => ((spec_l01Byte.f s0_0 bt360.2.1 bt360.2.2).bind fun bt363 => (if a1 = 0 then (none) else (some (Int.tmod (wrap64 ((wrap64 ((wrap64 ((wrap64 (t354 * 16777216)) + (wrap64 (t357 * 65536)))) + (wrap64 (bt360.1 * 256)))) + bt363.1)) a1, bt363.2.1, bt363.2.2))))) = some (r1, r2, r3) := H
   have A9 := aK A90
   clear A90
   replace H := Option.bind_eq_some_iff.mp H
   obtain ⟨⟨t360, t361, t362⟩, A100, H⟩ := H
   replace H : ((spec_l01Byte.f s0_0 t361 t362).bind fun bt363 => (if a1 = 0 then (none) else (some (Int.tmod (wrap64 ((wrap64 ((wrap64 ((wrap64 (t354 * 16777216)) + (wrap64 (t357 * 65536)))) + (wrap64 (t360 * 256)))) + bt363.1)) a1, bt363.2.1, bt363.2.2)))) = some (r1, r2, r3) := H
   have A10 := aK A100
   clear A100
   replace H := Option.bind_eq_some_iff.mp H
   obtain ⟨⟨t363, t364, t365⟩, A110, H⟩ := H
   replace H : (if a1 = 0 then (none) else (some (Int.tmod (wrap64 ((wrap64 ((wrap64 ((wrap64 (t354 * 16777216)) + (wrap64 (t357 * 65536)))) + (wrap64 (t360 * 256)))) + t363)) a1, t364, t365))) = some (r1, r2, r3) := H
   have A11 := aK A110
   clear A110
   by_cases c12 : a1 = 0
   ·rw [if_pos c12] at H
    exact absurd H (by simp)
   ·rw [if_neg c12] at H
    have c12b0 : (a1 == 0) = false := beq_eq_false_iff_ne.mpr c12
    have c12b1 : (a1 != 0) = true := bne_iff_ne.mpr c12
    simp only [Option.some.injEq, Prod.mk.injEq] at H
    obtain ⟨rfl, rfl, rfl⟩ := H
    go_enter Try.func58, Try.ntmps58
    go_wp2_with (first | ((with_reducible refine gate_callee (f := 89) rfl ?_); refine goesL_ (some 18) rfl rfl Try.func89 (by kernel_rfl) rfl #[.pointer (some ⟨g, 0, none⟩)] rfl zD ?_; (with_reducible refine (spec_l01Byte.calls g s0_0 s0_1 s0_2 t354 t355 t356 w0 _ ?side1 ?side2 A8.out).mono ?_); (case side1 => repeat (first | (with_reducible first | exact HI0.out | apply IsS94.alloc | apply IsS94.drewN | apply IsS94.drew | apply IsS94.set_1 | apply IsS94.set_2) | exact HI0.out)); (case side2 => repeat (first | (with_reducible first | exact HB.out | apply bAl | apply bDN | apply bD1 | refine bSt ?_ (IsS94.ge HI0.out)) | exact HB.out)); rintro e w13 ⟨rfl, hi, hb, hk⟩; refine ⟨_, rfl, ?_⟩; replace HK := aK (KeepBut.trans (by repeat (first | (with_reducible first | exact HK.out | apply KeepBut.set_ | apply keep_drewN | apply keep_drew | apply keep_alloc) | exact HK.out)) hk (.inl rfl)); replace HB := aK (hb); replace HI0 := aK (hi); (try clear hb); (try clear hb2); (try clear hk); (try clear hi)) | ((with_reducible refine gate_callee (f := 89) rfl ?_); refine goesL_ (some 20) rfl rfl Try.func89 (by kernel_rfl) rfl #[.pointer (some ⟨g, 0, none⟩)] rfl zD ?_; (with_reducible refine (spec_l01Byte.calls g s0_0 t355 t356 t357 t358 t359 w0 _ ?side1 ?side2 A9.out).mono ?_); (case side1 => repeat (first | (with_reducible first | exact HI0.out | apply IsS94.alloc | apply IsS94.drewN | apply IsS94.drew | apply IsS94.set_1 | apply IsS94.set_2) | exact HI0.out)); (case side2 => repeat (first | (with_reducible first | exact HB.out | apply bAl | apply bDN | apply bD1 | refine bSt ?_ (IsS94.ge HI0.out)) | exact HB.out)); rintro e w14 ⟨rfl, hi, hb, hk⟩; refine ⟨_, rfl, ?_⟩; replace HK := aK (KeepBut.trans (by repeat (first | (with_reducible first | exact HK.out | apply KeepBut.set_ | apply keep_drewN | apply keep_drew | apply keep_alloc) | exact HK.out)) hk (.inl rfl)); replace HB := aK (hb); replace HI0 := aK (hi); (try clear hb); (try clear hb2); (try clear hk); (try clear hi)) | ((with_reducible refine gate_callee (f := 89) rfl ?_); refine goesL_ (some 22) rfl rfl Try.func89 (by kernel_rfl) rfl #[.pointer (some ⟨g, 0, none⟩)] rfl zD ?_; (with_reducible refine (spec_l01Byte.calls g s0_0 t358 t359 t360 t361 t362 w0 _ ?side1 ?side2 A10.out).mono ?_); (case side1 => repeat (first | (with_reducible first | exact HI0.out | apply IsS94.alloc | apply IsS94.drewN | apply IsS94.drew | apply IsS94.set_1 | apply IsS94.set_2) | exact HI0.out)); (case side2 => repeat (first | (with_reducible first | exact HB.out | apply bAl | apply bDN | apply bD1 | refine bSt ?_ (IsS94.ge HI0.out)) | exact HB.out)); rintro e w15 ⟨rfl, hi, hb, hk⟩; refine ⟨_, rfl, ?_⟩; replace HK := aK (KeepBut.trans (by repeat (first | (with_reducible first | exact HK.out | apply KeepBut.set_ | apply keep_drewN | apply keep_drew | apply keep_alloc) | exact HK.out)) hk (.inl rfl)); replace HB := aK (hb); replace HI0 := aK (hi); (try clear hb); (try clear hb2); (try clear hk); (try clear hi)) | ((with_reducible refine gate_callee (f := 89) rfl ?_); refine goesL_ (some 24) rfl rfl Try.func89 (by kernel_rfl) rfl #[.pointer (some ⟨g, 0, none⟩)] rfl zD ?_; (with_reducible refine (spec_l01Byte.calls g s0_0 t361 t362 t363 t364 t365 w0 _ ?side1 ?side2 A11.out).mono ?_); (case side1 => repeat (first | (with_reducible first | exact HI0.out | apply IsS94.alloc | apply IsS94.drewN | apply IsS94.drew | apply IsS94.set_1 | apply IsS94.set_2) | exact HI0.out)); (case side2 => repeat (first | (with_reducible first | exact HB.out | apply bAl | apply bDN | apply bD1 | refine bSt ?_ (IsS94.ge HI0.out)) | exact HB.out)); rintro e w16 ⟨rfl, hi, hb, hk⟩; refine ⟨_, rfl, ?_⟩; replace HK := aK (KeepBut.trans (by repeat (first | (with_reducible first | exact HK.out | apply KeepBut.set_ | apply keep_drewN | apply keep_drew | apply keep_alloc) | exact HK.out)) hk (.inl rfl)); replace HB := aK (hb); replace HI0 := aK (hi); (try clear hb); (try clear hb2); (try clear hk); (try clear hi)))
    go_ret
    exact ⟨by first | rfl | (simp [errW_none, errW_some] <;> rfl) | (simp [*, errW_none, errW_some] <;> rfl), by repeat (first | (with_reducible first | exact HI0.out | apply IsS94.alloc | apply IsS94.drewN | apply IsS94.drew | apply IsS94.set_1 | apply IsS94.set_2) | exact HI0.out), by repeat (first | (with_reducible first | exact HB.out | apply bAl | apply bDN | apply bD1 | refine bSt ?_ (IsS94.ge HI0.out)) | exact HB.out), by repeat (first | (with_reducible first | exact HK.out | apply KeepBut.set_ | apply keep_drewN | apply keep_drew | apply keep_alloc) | exact HK.out)⟩
set_option maxHeartbeats 8000000 in
set_option maxRecDepth 100000 in
theorem spec_l01PickInt.calls (g : Nat) (s0_0 : List Int) (s0_1 : Int) (s0_2 : Int) (A1 : Option Addr) (c1 : Nat) (l1 : List Int) (r1 : Int) (r2 : Int) (r3 : Int) (w0 w : World) (hI : IsS94 w0 w g s0_0 s0_1 s0_2) (hB : Below w0.heap.size w0 w) (hr1 : Kd.C (Kd.int .i64) w A1 l1.length l1) (hc1 : l1.length ≤ c1) (hf1 : ∀ ad, A1 = some ad → 0 < l1.length → ad.block ≠ g) (h : spec_l01PickInt.f s0_0 s0_1 s0_2 l1 = some (r1, r2, r3)) :
  Calls Try.prog 112 #[.pointer (some ⟨g, 0, none⟩), .slice A1 l1.length c1] w fun e w' => e = .returned (.int .i64 r1) ∧ IsS94 w0 w' g s0_0 r2 r3 ∧ Below w0.heap.size w0 w' ∧ KeepBut w w' g none := by
 have HR1 := aK hr1
 have HC1 := aK hc1
 clear hr1 hc1
 have HI0 := aK hI
 have HK := aK (KeepBut.refl w g none)
 have HL := aK hB.size
 clear hI
 have HW0 := aK hB.size
 have HB := aK hB
 clear hB
 have H : ((spec_l01Below.f s0_0 s0_1 s0_2 (l1.length : Int)).bind fun bt366 => (if 0 ≤ bt366.1 then (if bt366.1 < (l1.length : Int) then (some (rd l1 bt366.1, bt366.2.1, bt366.2.2)) else (none)) else (none))) = some (r1, r2, r3) := h
 clear h
 replace H := Option.bind_eq_some_iff.mp H
 obtain ⟨⟨t366, t367, t368⟩, A30, H⟩ := H
 replace H : (if 0 ≤ t366 then (if t366 < (l1.length : Int) then (some (rd l1 t366, t367, t368)) else (none)) else (none)) = some (r1, r2, r3) := H
 have A3 := aK A30
 clear A30
 by_cases c4 : 0 ≤ t366
 ·rw [if_pos c4] at H
  have c4b0 : decide (0 ≤ t366) = true := decide_eq_true c4
  clear c4
  by_cases c5 : t366 < (l1.length : Int)
  ·rw [if_pos c5] at H
   have c5b0 : decide (t366 < (l1.length : Int)) = true := decide_eq_true c5
   clear c5
   simp only [Option.some.injEq, Prod.mk.injEq] at H
   obtain ⟨rfl, rfl, rfl⟩ := H
   go_enter Try.func112, Try.ntmps112
   go_wp2_with (first | ((with_reducible refine gate_callee (f := 58) rfl ?_); refine goesL_ (some 9) rfl rfl Try.func58 (by kernel_rfl) rfl #[.pointer (some ⟨g, 0, none⟩), .int .i64 (l1.length : Int)] rfl zD ?_; (with_reducible refine (spec_l01Below.calls g s0_0 s0_1 s0_2 (l1.length : Int) t366 t367 t368 w0 _ ?side1 ?side2 A3.out).mono ?_); (case side1 => repeat (first | (with_reducible first | exact HI0.out | apply IsS94.alloc | apply IsS94.drewN | apply IsS94.drew | apply IsS94.set_1 | apply IsS94.set_2) | exact HI0.out)); (case side2 => repeat (first | (with_reducible first | exact HB.out | apply bAl | apply bDN | apply bD1 | refine bSt ?_ (IsS94.ge HI0.out)) | exact HB.out)); rintro e w6 ⟨rfl, hi, hb, hk⟩; refine ⟨_, rfl, ?_⟩; replace HK := aK (KeepBut.trans (by repeat (first | (with_reducible first | exact HK.out | apply KeepBut.set_ | apply keep_drewN | apply keep_drew | apply keep_alloc) | exact HK.out)) hk (.inl rfl)); replace HB := aK (hb); replace HI0 := aK (hi); (try clear hb); (try clear hb2); (try clear hk); (try clear hi); have p369 : 0 ≤ (t366 : Int) := of_decide_eq_true (by first | (with_reducible assumption) | assumption); have q369 : t366 < (l1.length : Int) := of_decide_eq_true (by first | (with_reducible assumption) | assumption); obtain ⟨ad369, e369, hx369_0⟩ := Kd.at_int HR1.out t366 p369 q369; cases e369; replace hx369_0 := keep_cell HK.out hx369_0 (by first | (rw [add_block]; exact hf1 _ rfl (by omega)) | exact hf1 _ rfl (by omega) | exact hf1 ad369 rfl (by omega)); replace p369 := eq_true p369; replace q369 := eq_true q369))
   go_ret
   exact ⟨by first | rfl | (simp [errW_none, errW_some] <;> rfl) | (simp [*, errW_none, errW_some] <;> rfl), by repeat (first | (with_reducible first | exact HI0.out | apply IsS94.alloc | apply IsS94.drewN | apply IsS94.drew | apply IsS94.set_1 | apply IsS94.set_2) | exact HI0.out), by repeat (first | (with_reducible first | exact HB.out | apply bAl | apply bDN | apply bD1 | refine bSt ?_ (IsS94.ge HI0.out)) | exact HB.out), by repeat (first | (with_reducible first | exact HK.out | apply KeepBut.set_ | apply keep_drewN | apply keep_drew | apply keep_alloc) | exact HK.out)⟩
  ·rw [if_neg c5] at H
   exact absurd H (by simp)
 ·rw [if_neg c4] at H
  exact absurd H (by simp)
set_option maxHeartbeats 8000000 in
set_option maxRecDepth 100000 in
theorem spec_l02Grid.calls (g : Nat) (s0_0 : List Int) (s0_1 : Int) (s0_2 : Int) (r1 : Int) (r2 : Int) (r3 : Int) (r4 : Int) (w0 w : World) (hI : IsS94 w0 w g s0_0 s0_1 s0_2) (hB : Below w0.heap.size w0 w) (h : spec_l02Grid.f s0_0 s0_1 s0_2 = some (r1, r2, r3, r4)) :
  Calls Try.prog 79 #[.pointer (some ⟨g, 0, none⟩)] w fun e w' => e = .returned (.agg #[.int .i64 r1, .int .i64 r2]) ∧ IsS94 w0 w' g s0_0 r3 r4 ∧ Below w0.heap.size w0 w' ∧ KeepBut w w' g none := by
 have hu28 := Try.underlying28
 have HI0 := aK hI
 have HK := aK (KeepBut.refl w g none)
 have HL := aK hB.size
 clear hI
 have HW0 := aK hB.size
 have HB := aK hB
 clear hB
 have H : ((spec_l01PickInt.f s0_0 s0_1 s0_2 (([1, 2, 3, 3, 4] : List Int))).bind fun bt374 => ((spec_l01PickInt.f s0_0 bt374.2.1 bt374.2.2 (([1, 2, 3, 3, 4] : List Int))).bind fun bt380 => (some (bt374.1, bt380.1, bt380.2.1, bt380.2.2)))) = some (r1, r2, r3, r4) := h
 clear h
 obtain ⟨y371, hy371⟩ : ∃ y_ : List Int, y_ = (([1, 2, 3, 3, 4] : List Int)) := ⟨_, rfl⟩
 replace H : ((spec_l01PickInt.f s0_0 s0_1 s0_2 y371).bind fun bt374 => ((spec_l01PickInt.f s0_0 bt374.2.1 bt374.2.2 (([1, 2, 3, 3, 4] : List Int))).bind fun bt380 => (some (bt374.1, bt380.1, bt380.2.1, bt380.2.2)))) = some (r1, r2, r3, r4) := by first | (rw [hy371]; with_reducible exact H) | (have H2_ := (Option.bind_some _ _).symm.trans H; rw [hy371]; with_reducible exact H2_) | (have H2_ := (Option.bind_some _ _).symm.trans H; with_reducible exact H2_) | with_reducible exact H | (rw [hy371]; exact H) | exact H
 have Ny371 := aK hy371
 clear hy371
 replace H := Option.bind_eq_some_iff.mp H
 obtain ⟨⟨t374, t375, t376⟩, A20, H⟩ := H
 replace H : ((spec_l01PickInt.f s0_0 t375 t376 (([1, 2, 3, 3, 4] : List Int))).bind fun bt380 => (some (t374, bt380.1, bt380.2.1, bt380.2.2))) = some (r1, r2, r3, r4) := H
 have A2 := aK A20
 clear A20
 obtain ⟨y377, hy377⟩ : ∃ y_ : List Int, y_ = (([1, 2, 3, 3, 4] : List Int)) := ⟨_, rfl⟩
 replace H : ((spec_l01PickInt.f s0_0 t375 t376 y377).bind fun bt380 => (some (t374, bt380.1, bt380.2.1, bt380.2.2))) = some (r1, r2, r3, r4) := by first | (rw [hy377]; with_reducible exact H) | (have H2_ := (Option.bind_some _ _).symm.trans H; rw [hy377]; with_reducible exact H2_) | (have H2_ := (Option.bind_some _ _).symm.trans H; with_reducible exact H2_) | with_reducible exact H | (rw [hy377]; exact H) | exact H
 have Ny377 := aK hy377
 clear hy377
 replace H := Option.bind_eq_some_iff.mp H
 obtain ⟨⟨t380, t381, t382⟩, A30, H⟩ := H
 replace H : (some (t374, t380, t381, t382)) = some (r1, r2, r3, r4) := H
 have A3 := aK A30
 clear A30
 simp only [Option.some.injEq, Prod.mk.injEq] at H
 obtain ⟨rfl, rfl, rfl, rfl⟩ := H
 go_enter Try.func79, Try.ntmps79
 go_wp2_with (first | ((with_reducible refine gate_dst (N := 2) rfl ?_); refine box_event ?hg (N := 2) ?hd (cs := #[.int .i64 0, .int .i64 0]) (t := 28) ?hr ?_; (case hd => rfl); (case hg => rfl); (case hr => first | (go_simp; done) | (go_simp; rfl)); intro gb370 hg w4 hbox hb; replace HB := aK (bSp (by repeat (first | (with_reducible first | exact HB.out | apply bAl | apply bDN | apply bD1 | refine bSt ?_ (IsS94.ge HI0.out)) | exact HB.out)) hb); have BK370 := aK (hbox); have GW370 := aK ((by rw [hg]; exact (keep_size (w := w) (g := g) (row := none) (by repeat (first | (with_reducible first | exact HK.out | apply KeepBut.set_ | apply keep_drewN | apply keep_drew | apply keep_alloc) | exact HK.out))) : w.heap.size ≤ gb370)); have GE370 := aK ((Nat.le_trans HW0.out (by rw [hg]; exact (keep_size (w := w) (g := g) (row := none) (by repeat (first | (with_reducible first | exact HK.out | apply KeepBut.set_ | apply keep_drewN | apply keep_drew | apply keep_alloc) | exact HK.out))) : w.heap.size ≤ gb370) : w0.heap.size ≤ gb370)); replace HK := aK (KeepBut.trans (by repeat (first | (with_reducible first | exact HK.out | apply KeepBut.set_ | apply keep_drewN | apply keep_drew | apply keep_alloc) | exact HK.out)) (KeepBut.of_below hb g none) (.inl rfl)); have NB0_370 := aK ((by rw [hg]; exact Nat.ne_of_lt (IsS94.lt (show IsS94 w0 _ g s0_0 s0_1 s0_2 from by repeat (first | (with_reducible first | exact HI0.out | apply IsS94.alloc | apply IsS94.drewN | apply IsS94.drew | apply IsS94.set_1 | apply IsS94.set_2) | exact HI0.out))) : g ≠ gb370)); have NB370_0 := aK ((by rw [hg]; exact Nat.ne_of_gt (IsS94.lt (show IsS94 w0 _ g s0_0 s0_1 s0_2 from by repeat (first | (with_reducible first | exact HI0.out | apply IsS94.alloc | apply IsS94.drewN | apply IsS94.drew | apply IsS94.set_1 | apply IsS94.set_2) | exact HI0.out))) : gb370 ≠ g)); replace HI0 := aK (IsS94.below (by repeat (first | (with_reducible first | exact HI0.out | apply IsS94.alloc | apply IsS94.drewN | apply IsS94.drew | apply IsS94.set_1 | apply IsS94.set_2) | exact HI0.out)) hb); clear hb hbox hg) | ((with_reducible refine gate_dst (N := 5) rfl ?_); refine Kd.R_lit (Kd.int .i64) _ 3 ?hg (N := 5) ?hd (xs := ([1, 2, 3, 3, 4] : List Int)) (inner := [.int .i64 1, .int .i64 2, .int .i64 3, .int .i64 3, .int .i64 4]) (ok := fun _ => True) (okp := fun _ => True) ?hr ?hp (fun _ hk => hk) trivial (Below.refl _ _) (Nat.le_refl _) (by simp) ?_; (case hd => rfl); (case hg => rfl); (case hr => first | (go_simp; done) | (go_simp; rfl)); (case hp => exact (Reps.one (show Kd.M (Kd.int .i64) _ _ _ 1 [.int .i64 1] from rfl) (Reps.one (show Kd.M (Kd.int .i64) _ _ _ 2 [.int .i64 2] from rfl) (Reps.one (show Kd.M (Kd.int .i64) _ _ _ 3 [.int .i64 3] from rfl) (Reps.one (show Kd.M (Kd.int .i64) _ _ _ 3 [.int .i64 3] from rfl) (Reps.one (show Kd.M (Kd.int .i64) _ _ _ 4 [.int .i64 4] from rfl) (Reps.none _ _))))))); intro v372 w5 ho6 hb hg_ hnew_; clear hg_ hnew_; (first | rw [← Ny371.out] at ho6 | (simp only [Int.reduceToNat] at ho6; rw [← Ny371.out] at ho6)); have HO373 := aK (Kd.R_lower ho6 (keep_size (w := w) (g := g) (row := none) (by repeat (first | (with_reducible first | exact HK.out | apply KeepBut.set_ | apply keep_drewN | apply keep_drew | apply keep_alloc | refine keep_far ?_ GW370.out _) | exact HK.out)))); replace BK370 := zB BK370 hb; replace HK := aK (KeepBut.trans (by repeat (first | (with_reducible first | exact HK.out | apply KeepBut.set_ | apply keep_drewN | apply keep_drew | apply keep_alloc | refine keep_far ?_ GW370.out _) | exact HK.out)) (KeepBut.of_below hb g none) (.inl rfl)); replace HB := aK (bSp (by repeat (first | (with_reducible first | exact HB.out | apply bAl | apply bDN | apply bD1 | refine bSt ?_ (IsS94.ge HI0.out) | refine bSt ?_ GE370.out) | exact HB.out)) hb); replace HI0 := aK (IsS94.below (by repeat (first | (with_reducible first | exact HI0.out | apply IsS94.alloc | apply IsS94.drewN | apply IsS94.drew | apply IsS94.set_1 | apply IsS94.set_2 | refine IsS94.far ?_ NB0_370.out _) | exact HI0.out)) hb); clear hb ho6; obtain ⟨Ao7, co7, eo7⟩ := Kd.R_slice HO373.out; subst eo7) | ((with_reducible refine gate_callee (f := 112) rfl ?_); refine goesL_ (some 6) rfl rfl Try.func112 (by kernel_rfl) rfl #[.pointer (some ⟨g, 0, none⟩), .slice Ao7 y371.length co7] rfl zD ?_; (with_reducible refine (spec_l01PickInt.calls g s0_0 s0_1 s0_2 _ _ y371 t374 t375 t376 w0 _ ?side1 ?side2 ?side3 ?side4 ?side5 A2.out).mono ?_); (case side1 => repeat (first | (with_reducible first | exact HI0.out | apply IsS94.alloc | apply IsS94.drewN | apply IsS94.drew | apply IsS94.set_1 | apply IsS94.set_2 | refine IsS94.far ?_ NB0_370.out _) | exact HI0.out)); (case side2 => repeat (first | (with_reducible first | exact HB.out | apply bAl | apply bDN | apply bD1 | refine bSt ?_ (IsS94.ge HI0.out) | refine bSt ?_ GE370.out) | exact HB.out)); (case side3 => exact zC (Kd.R_reads' HO373.out).2.2); (case side4 => exact (Kd.R_reads' HO373.out).2.1); (case side5 => exact far_slice (IsS94.own_ne HI0.out HO373.out (by decide))); rintro e w8 ⟨rfl, hi, hb, hk⟩; refine ⟨_, rfl, ?_⟩; replace BK370 := aK (KeepBut.blk hk (g' := gb370) (o := .cells #[.int .i64 0, .int .i64 0] 28 (0, 0)) (zK BK370) NB370_0.out (by simp)); replace HO373 := aK (Kd.R_mono (Kd.R_keep (IsS94.apart (show IsS94 w0 _ g s0_0 s0_1 s0_2 from by repeat (first | (with_reducible first | exact HI0.out | apply IsS94.alloc | apply IsS94.drewN | apply IsS94.drew | apply IsS94.set_1 | apply IsS94.set_2 | refine IsS94.far ?_ NB0_370.out _) | exact HI0.out)) (zA HO373) (by decide)) hk (fun _ h => h.2)) (fun _ h => h.1)); replace HK := aK (KeepBut.trans (by repeat (first | (with_reducible first | exact HK.out | apply KeepBut.set_ | apply keep_drewN | apply keep_drew | apply keep_alloc | refine keep_far ?_ GW370.out _) | exact HK.out)) hk (.inl rfl)); replace HB := aK (hb); replace HI0 := aK (hi); (try clear hb); (try clear hb2); (try clear hk); (try clear hi)) | ((with_reducible refine gate_dst (N := 9) rfl ?_); refine Kd.R_lit (Kd.int .i64) _ 3 ?hg (N := 9) ?hd (xs := ([1, 2, 3, 3, 4] : List Int)) (inner := [.int .i64 1, .int .i64 2, .int .i64 3, .int .i64 3, .int .i64 4]) (ok := fun _ => True) (okp := fun _ => True) ?hr ?hp (fun _ hk => hk) trivial (Below.refl _ _) (Nat.le_refl _) (by simp) ?_; (case hd => rfl); (case hg => rfl); (case hr => first | (go_simp; done) | (go_simp; rfl)); (case hp => exact (Reps.one (show Kd.M (Kd.int .i64) _ _ _ 1 [.int .i64 1] from rfl) (Reps.one (show Kd.M (Kd.int .i64) _ _ _ 2 [.int .i64 2] from rfl) (Reps.one (show Kd.M (Kd.int .i64) _ _ _ 3 [.int .i64 3] from rfl) (Reps.one (show Kd.M (Kd.int .i64) _ _ _ 3 [.int .i64 3] from rfl) (Reps.one (show Kd.M (Kd.int .i64) _ _ _ 4 [.int .i64 4] from rfl) (Reps.none _ _))))))); intro v378 w9 ho10 hb hg_ hnew_; clear hg_ hnew_; (first | rw [← Ny377.out] at ho10 | (simp only [Int.reduceToNat] at ho10; rw [← Ny377.out] at ho10)); have HO379 := aK (Kd.R_lower (Kd.R_new' ho10 (Kd.R_lt (zA HO373))) (keep_size (w := w) (g := g) (row := none) (by repeat (first | (with_reducible first | exact HK.out | apply KeepBut.set_ | apply keep_drewN | apply keep_drew | apply keep_alloc | refine keep_far ?_ GW370.out _) | exact HK.out)))); replace HO373 := aK (Kd.R_elder' (zA HO373) (Kd.R_base ho10) hb); replace BK370 := zB BK370 hb; replace HK := aK (KeepBut.trans (by repeat (first | (with_reducible first | exact HK.out | apply KeepBut.set_ | apply keep_drewN | apply keep_drew | apply keep_alloc | refine keep_far ?_ GW370.out _) | exact HK.out)) (KeepBut.of_below hb g none) (.inl rfl)); replace HB := aK (bSp (by repeat (first | (with_reducible first | exact HB.out | apply bAl | apply bDN | apply bD1 | refine bSt ?_ (IsS94.ge HI0.out) | refine bSt ?_ GE370.out) | exact HB.out)) hb); replace HI0 := aK (IsS94.below (by repeat (first | (with_reducible first | exact HI0.out | apply IsS94.alloc | apply IsS94.drewN | apply IsS94.drew | apply IsS94.set_1 | apply IsS94.set_2 | refine IsS94.far ?_ NB0_370.out _) | exact HI0.out)) hb); clear hb ho10; obtain ⟨Ao11, co11, eo11⟩ := Kd.R_slice HO379.out; subst eo11) | ((with_reducible refine gate_callee (f := 112) rfl ?_); refine goesL_ (some 10) rfl rfl Try.func112 (by kernel_rfl) rfl #[.pointer (some ⟨g, 0, none⟩), .slice Ao11 y377.length co11] rfl zD ?_; (with_reducible refine (spec_l01PickInt.calls g s0_0 t375 t376 _ _ y377 t380 t381 t382 w0 _ ?side1 ?side2 ?side3 ?side4 ?side5 A3.out).mono ?_); (case side1 => repeat (first | (with_reducible first | exact HI0.out | apply IsS94.alloc | apply IsS94.drewN | apply IsS94.drew | apply IsS94.set_1 | apply IsS94.set_2 | refine IsS94.far ?_ NB0_370.out _) | exact HI0.out)); (case side2 => repeat (first | (with_reducible first | exact HB.out | apply bAl | apply bDN | apply bD1 | refine bSt ?_ (IsS94.ge HI0.out) | refine bSt ?_ GE370.out) | exact HB.out)); (case side3 => exact zC (Kd.R_reads' HO379.out).2.2); (case side4 => exact (Kd.R_reads' HO379.out).2.1); (case side5 => exact far_slice (IsS94.own_ne HI0.out HO379.out (by decide))); rintro e w12 ⟨rfl, hi, hb, hk⟩; refine ⟨_, rfl, ?_⟩; replace BK370 := aK (KeepBut.blk hk (g' := gb370) (o := .cells #[.int .i64 0, .int .i64 0] 28 (0, 0)) (zK BK370) NB370_0.out (by simp)); replace HO373 := aK (Kd.R_mono (Kd.R_keep (IsS94.apart (show IsS94 w0 _ g s0_0 t375 t376 from by repeat (first | (with_reducible first | exact HI0.out | apply IsS94.alloc | apply IsS94.drewN | apply IsS94.drew | apply IsS94.set_1 | apply IsS94.set_2 | refine IsS94.far ?_ NB0_370.out _) | exact HI0.out)) (zA HO373) (by decide)) hk (fun _ h => h.2)) (fun _ h => h.1)); replace HO379 := aK (Kd.R_mono (Kd.R_keep (IsS94.apart (show IsS94 w0 _ g s0_0 t375 t376 from by repeat (first | (with_reducible first | exact HI0.out | apply IsS94.alloc | apply IsS94.drewN | apply IsS94.drew | apply IsS94.set_1 | apply IsS94.set_2 | refine IsS94.far ?_ NB0_370.out _) | exact HI0.out)) (zA HO379) (by decide)) hk (fun _ h => h.2)) (fun _ h => h.1)); replace HK := aK (KeepBut.trans (by repeat (first | (with_reducible first | exact HK.out | apply KeepBut.set_ | apply keep_drewN | apply keep_drew | apply keep_alloc | refine keep_far ?_ GW370.out _) | exact HK.out)) hk (.inl rfl)); replace HB := aK (hb); replace HI0 := aK (hi); (try clear hb); (try clear hb2); (try clear hk); (try clear hi); have hnb13 := NB370_0.out; have hnc13 := NB0_370.out; obtain ⟨hcz14_0, hcz14_1, hfz14_0, hfz14_1⟩ := cl2 BK370.out))
 refine bodyPost_ret (results_cell_row rfl _ _ gb370 28 #[.int .i64 t374, .int .i64 t380] (0, 0) _ rfl (by (with_reducible repeat (first | refine kDN ?_ _ | refine kD ?_ | refine kA ?_ _)); refine blk_put (cs := #[.int .i64 t374, .int .i64 0]) ?_ 1 _ rfl; (with_reducible repeat (first | refine kDN ?_ _ | refine kD ?_ | refine kA ?_ _)); refine blk_put (cs := #[.int .i64 0, .int .i64 0]) ?_ 0 _ rfl; (with_reducible repeat (first | refine kDN ?_ _ | refine kD ?_ | refine kA ?_ _)); exact BK370.out) Try.underlying28 rfl (by kernel_rfl)) rfl ?_
 exact ⟨by first | rfl | (simp [errW_none, errW_some] <;> rfl) | (simp [*, errW_none, errW_some] <;> rfl), by repeat (first | (with_reducible first | exact HI0.out | apply IsS94.alloc | apply IsS94.drewN | apply IsS94.drew | apply IsS94.set_1 | apply IsS94.set_2 | refine IsS94.far ?_ NB0_370.out _) | exact HI0.out), by repeat (first | (with_reducible first | exact HB.out | apply bAl | apply bDN | apply bD1 | refine bSt ?_ (IsS94.ge HI0.out) | refine bSt ?_ GE370.out) | exact HB.out), by repeat (first | (with_reducible first | exact HK.out | apply KeepBut.set_ | apply keep_drewN | apply keep_drew | apply keep_alloc | refine keep_far ?_ GW370.out _) | exact HK.out)⟩
set_option maxHeartbeats 8000000 in
set_option maxRecDepth 100000 in
theorem spec_l03Common.calls (k : Nat) (a0 : Int) (a1 : Int) (r : Bool) (w : World) (h : spec_l03Common.f k a0 a1 = some r) :
  Calls Try.prog 113 #[.int .i64 a0, .int .i64 a1] w fun e w' => e = .returned (.bool r) ∧ Drawn0 w w' := by
 have H : (spec_l03Common.l0 k a0 a1) = some r := h
 clear h
 have H' := aK H
 clear H
 go_enter Try.func113, Try.ntmps113
 go_wp2
 repeat (go_quiet (fail); try go_wp2)
 go_loopg [0, 1] k (fun kq v0 v1 w' => ∃ (x0_1 : Int) (x1_1 : Int), v0 = .int .i64 x0_1 ∧ v1 = .int .i64 x1_1 ∧ Aside0 (spec_l03Common.l0 kq x0_1 x1_1 = some r) ∧ Aside0 (kq ≤ k) ∧ Drawn0 w w')
 case atStart => exact ⟨(a0), (a1), (by first | rfl | (simp; done) | (simp [*]; done)), (by first | rfl | (simp; done) | (simp [*]; done)), H', ⟨Nat.le_refl _⟩, by repeat (first | exact Drawn0.refl _ | apply Drawn0.step)⟩
 case round =>
  clear H'
  try clear c1
  try clear p2
  obtain ⟨x0_1, x1_1, rfl, rfl, HA, HK1, ⟨m1, rfl⟩⟩ := hrel
  cases gk with
  | zero => exact absurd HA.out (by simp [spec_l03Common.l0])
  | succ k1 =>
   have H := HA.out
   clear HA
   simp only [spec_l03Common.l0] at H
   by_cases c3 : x1_1 > 0
   ·rw [if_pos c3] at H
    have c3b0 : decide (0 < x1_1) = true := decide_eq_true c3
    clear c3
    by_cases c4 : x1_1 = 0
    ·rw [if_pos c4] at H
     exact absurd H (by simp)
    ·rw [if_neg c4] at H
     have c4b0 : (x1_1 == 0) = false := beq_eq_false_iff_ne.mpr c4
     have c4b1 : (x1_1 != 0) = true := bne_iff_ne.mpr c4
     have H' := aK H
     clear H
     go_wp2
     repeat (go_quiet (fail); try go_wp2)
     go_roundg k1
     case measure => have := HK1.out; omega
     case rel => exact ⟨(x1_1), (Int.tmod x0_1 x1_1), (by first | rfl | (simp; done) | (simp [*]; done)), (by first | rfl | (simp; done) | (simp [*]; done)), H', ⟨by have := HK1.out; omega⟩, by repeat (first | exact Drawn0.refl _ | apply Drawn0.step)⟩
   ·rw [if_neg c3] at H
    have c3b0 : decide (0 < x1_1) = false := decide_eq_false c3
    clear c3
    obtain rfl := Option.some.inj H
    go_wp2
    repeat (go_quiet (fail); try go_wp2)
    go_ret
    exact ⟨by first | rfl | (simp; done) | (simp [*]; done), by repeat (first | exact Drawn0.refl _ | apply Drawn0.step)⟩
theorem spec_EndsOf.ctr {a0_0 : Int} {a0_1 : Int} {a1 : Int} {r1 : Int} {r2 : Int} (h : spec_EndsOf.f a0_0 a0_1 a1 = some (r1, r2)) : Ctr Try.prog 114 [.ag [.v (.int .i64 a0_0), .v (.int .i64 a0_1)], .v (.int .i64 a1)] (.tu [.v (.int .i64 r1), .v (.int .i64 r2)]) := by
  refine Ctr_of tyOk hm Try.func114 rfl rfl (by kernel_rfl) (n := 42) (rv := [.tmp 4, .tmp 5]) rfl rfl ?_
  simp only [W, List.replicate]
  unfold spec_EndsOf.f at h
  replace h := bnd h; obtain ⟨t1, A, h⟩ := h
  try simp only [W, p1, p2, p3, p4, p5, p6, p7, p8, p9, p10, p11, p12]
  refine callR (spec_CountGaps.ctr A) ?_
  replace h := bnd h; obtain ⟨t2, A, h⟩ := h
  try simp only [W, p1, p2, p3, p4, p5, p6, p7, p8, p9, p10, p11, p12]
  refine callR (spec_l01In.ctr A) ?_
  replace h := ifT h; rcases h with ⟨rfl, h⟩ | ⟨rfl, h⟩
  · replace h := bnd h; obtain ⟨t4, A, h⟩ := h
    try simp only [W, p1, p2, p3, p4, p5, p6, p7, p8, p9, p10, p11, p12]
    refine callR (spec_l02East.ctr A) ?_
    replace h := ifS h; rcases h with ⟨c5, h⟩ | ⟨c5, h⟩
    · replace h := ifM h; obtain ⟨c6, h⟩ := h
      cases h
      try simp only [W, c5, c6, p1, p2, p3, p4, p5, p6, p7, p8, p9, p10, p11, p12]
    · replace h := bnd h; obtain ⟨t6, A, h⟩ := h
      try simp only [W, c5, p1, p2, p3, p4, p5, p6, p7, p8, p9, p10, p11, p12]
      refine callR (spec_l02East.ctr A) ?_
      cases h
      try simp only [W, c5, p1, p2, p3, p4, p5, p6, p7, p8, p9, p10, p11, p12]
  · cases h
    try simp only [W, p1, p2, p3, p4, p5, p6, p7, p8, p9, p10, p11, p12]
theorem spec_EndsOf.calls (a0_0 : Int) (a0_1 : Int) (a1 : Int) (r1 : Int) (r2 : Int) (w : World) (h : spec_EndsOf.f a0_0 a0_1 a1 = some (r1, r2)) :
    Calls Try.prog 114 #[.agg #[.int .i64 a0_0, .int .i64 a0_1], .int .i64 a1] w fun e w' => e = .returned (.tuple #[.int .i64 r1, .int .i64 r2]) ∧ Below w.heap.size w w' := by
  refine ((spec_EndsOf.ctr h).2 w [.agg #[.int .i64 a0_0, .int .i64 a0_1], .int .i64 a1] (by simp only [RepL, Rep]; exact ⟨_, _, rfl, ⟨_, rfl, _, _, rfl, rfl, _, _, rfl, rfl, rfl⟩, _, _, rfl, rfl, rfl⟩)).mono ?_
  rintro _ _ ⟨y, L, rfl, hR, _, hb⟩
  exact ⟨congrArg Ending.returned (RepR_pln rfl hR).1, hb⟩
end Go.Proofs.Ytccjanhdnheclaa.F
end
