/- Packed by a program of the session (wip/tools/pack.py): what the claim's theorem reaches, of the texts that wip/ and the kit's printer lay. -/
import Derived.Test.YtdjdleldocfpaaaDoorPkFnExactCanSwap3
import Derived.Test.YtdjdleldocfpaaaDoorPkFnExactCanSwap7
section
namespace Go.Proofs.YtdjdleldocfpaaaDoor.F
open Go.RowKit Go.Proofs.YtdjdleldocfpaaaDoorW.PrintWords Go.Proofs.YtdjdleldocfpaaaDoorW.PrintLast Go.Proofs.YtdjdleldocfpaaaDoorW.PrintMore
set_option linter.unusedVariables false
set_option linter.unusedSimpArgs false
theorem W1 : (∀ x t, gT (x :: t) 0 = x) ∧ (∀ x t n, gT (x :: t) (n + 1) = gT t n) ∧ (∀ x t y, sT (x :: t) 0 y = y :: t) ∧ (∀ x t n y, sT (x :: t) (n + 1) y = x :: sT t n y) ∧
    (∀ t d y, pT t (some d) y = sT t d y) ∧ (∀ t y, pT t none y = t) ∧ (∀ t i, eT t (.tmp i) = gT t i) ∧ (∀ t x, eT t (.const x) = .v x) ∧
    (∀ i b s j, gS ((i, b) :: s) j = if i = j then some b else gS s j) ∧ (∀ j b, uS [] j b = [(j, b)]) ∧ (∀ i c s j b, uS ((i, c) :: s) j b = if i = j then (j, b) :: s else (i, c) :: uS s j b) ∧
    (∀ j, dS [] j = []) ∧ (∀ i c s j, dS ((i, c) :: s) j = if i = j then dS s j else (i, c) :: dS s j) ∧
    (∀ cs, AV.cells (.ag cs) = cs) ∧ (∀ x, AV.cells (.v x) = [.v x]) ∧ (∀ i, AV.cells (.lo i) = [.lo i]) ∧ (∀ i o, AV.cells (.bp i o) = [.bp i o]) ∧ (∀ z l, AV.cells (.pr z l) = [.pr z l]) ∧
    (∀ n x l, tk (n + 1) (x :: l) = x :: tk n l) ∧ (∀ l, tk 0 l = []) ∧ (∀ n x l, dp (n + 1) (x :: l) = dp n l) ∧ (∀ l, dp 0 l = l) ∧ (∀ x l, hd1 (x :: l) = x) ∧
    (∀ n cs, cutA true n cs = .ag (tk n cs)) ∧ (∀ n cs, cutA false n cs = hd1 cs) ∧ (∀ n l, putA n [] l = l) ∧ (∀ y ys x l, putA 0 (y :: ys) (x :: l) = y :: putA 0 ys l) ∧ (∀ n y ys x l, putA (n + 1) (y :: ys) (x :: l) = x :: putA n (y :: ys) l) ∧
    (vs [] = []) ∧ (∀ x l, vs (x :: l) = .v x :: vs l) ∧ (unv [] = []) ∧ (∀ x l, unv (.v x :: l) = x :: unv l) := by
  refine ⟨?_, ?_, ?_, ?_, ?_, ?_, ?_, ?_, ?_, ?_, ?_, ?_, ?_, ?_, ?_, ?_, ?_, ?_, ?_, ?_, ?_, ?_, ?_, ?_, ?_, ?_, ?_, ?_, ?_, ?_, ?_, ?_⟩ <;> intros <;> try rfl
  · rename_i n l; cases n <;> cases l <;> rfl
theorem W2 : (∀ s, toPL s [] = []) ∧ (∀ s c cs, toPL s (c :: cs) = toP s c :: toPL s cs) ∧ (∀ s cs, toP s (.ag cs) = .ag (toPL s cs)) ∧ (∀ s k n, toP s (.v (.int k n)) = .v (.int k n)) ∧ (∀ s b, toP s (.v (.bool b)) = .v (.bool b)) ∧
    (∀ s b, toP s (.v (.string b)) = .v (.string b)) ∧ (∀ s, toP s (.v (.slice none 0 0)) = .pr 1 []) ∧ (∀ s z x, toP s (.pr z x) = .pr z x) ∧
    (∀ s, toRL s [] = []) ∧ (∀ s c cs, toRL s (c :: cs) = toR s c :: toRL s cs) ∧ (∀ s cs, toR s (.ag cs) = .ag (toRL s cs)) ∧ (∀ s cs, toR s (.tu cs) = .tu (toRL s cs)) ∧ (∀ s x, toR s (.v x) = .v x) ∧
    (∀ n e z x, im n (.ow e z x) = (.lo n, [(n, .row e z x)], n + 1)) ∧ (∀ n x, im n (.v x) = (.v x, [], n)) ∧ (∀ n cs, im n (.ag cs) = (.ag (imL n cs).1, (imL n cs).2)) ∧ (∀ n cs, im n (.tu cs) = (.tu (imL n cs).1, (imL n cs).2)) ∧
    (∀ n, imL n [] = ([], [], n)) ∧ (∀ n c cs, imL n (c :: cs) = ((im n c).1 :: (imL (im n c).2.2 cs).1, (im n c).2.1 ++ (imL (im n c).2.2 cs).2.1, (imL (im n c).2.2 cs).2.2)) := by
  refine ⟨?_, ?_, ?_, ?_, ?_, ?_, ?_, ?_, ?_, ?_, ?_, ?_, ?_, ?_, ?_, ?_, ?_, ?_, ?_⟩ <;> intros <;> rfl
section
variable (P : Program) (ty : TypeId → Option TI)
theorem W3 : (∀ Q t s, EW P ty .skip Q t s = Q .normal t s) ∧ (∀ i l Q t s, EW P ty (.region i ⟨l⟩ false) Q t s = opsW P ty (gds l) false l t s (kN Q)) ∧ (∀ i l Q t s, EW P ty (.region i ⟨l⟩ true) Q t s = (dchk l t s = true ∧ opsW P ty (gds l) true l t s (kN Q))) ∧ (∀ a b Q t s, EW P ty (.seq a b) Q t s = EW P ty a (kS P ty b Q) t s) ∧
    (∀ c x y Q t s, EW P ty (.cond c x y) Q t s = cdK P ty (eT t c) x y Q t s) ∧ (∀ i b Q t s, EW P ty (.block i b) Q t s = EW P ty b (kB i Q) t s) ∧ (∀ i Q t s, EW P ty (.exit i) Q t s = Q (.exit i) t s) ∧ (∀ Q t s, EW P ty .ret Q t s = Q .ret t s) ∧
    (∀ b Q t s, EW P ty (.loop b) Q t s = loopK P ty b Q t s) ∧
    (∀ Q t s, kN Q t s = Q .normal t s) ∧ (∀ b Q t s, kS P ty b Q .normal t s = EW P ty b Q t s) ∧ (∀ b Q i t s, kS P ty b Q (.exit i) t s = Q (.exit i) t s) ∧ (∀ b Q t s, kS P ty b Q .ret t s = Q .ret t s) ∧
    (∀ j i Q t s, kB j Q (.exit i) t s = if i = j then Q .normal t s else Q (.exit i) t s) ∧ (∀ j Q t s, kB j Q .normal t s = Q .normal t s) ∧ (∀ j Q t s, kB j Q .ret t s = Q .ret t s) ∧
    (∀ x y Q t s, cdK P ty (.v (.bool true)) x y Q t s = EW P ty x Q t s) ∧ (∀ x y Q t s, cdK P ty (.v (.bool false)) x y Q t s = EW P ty y Q t s) ∧
    (∀ g q t s K, opsW P ty g q [] t s K = K t s) ∧ (∀ g q d op o p a r t s K, opsW P ty g q (⟨d, op, o, p, a, none⟩ :: r) t s K = opX P ty (q && rot (ty o) op) op o d t s (kO P ty g (q && rot (ty o) op) r K)) ∧
    (∀ g q d op o p a i b r t s K, opsW P ty g q (⟨d, op, o, p, a, some (i, b)⟩ :: r) t s K = gdK P ty (gV t (gG g i)) b (q && rot (ty o) op) op o d g r t s K) ∧ (∀ g q r K t s, kO P ty g q r K t s = opsW P ty g q r t s K) ∧
    (∀ b q op o d g r t s K, gdK P ty (.v undef) b q op o d g r t s K = opsW P ty g q r (pT t d (.v undef)) s K) ∧ (∀ t d, gV t (some d) = gT t d) ∧ (∀ x l, gG (x :: l) 0 = x) ∧ (∀ x l n, gG (x :: l) (n + 1) = gG l n) ∧ (gds [] = []) ∧ (∀ o l, gds (o :: l) = o.dst :: gds l) ∧
    (∀ q op o d g r t s K, gdK P ty (.v (.bool true)) true q op o d g r t s K = opX P ty q op o d t s (kO P ty g q r K)) ∧ (∀ q op o d g r t s K, gdK P ty (.v (.bool false)) false q op o d g r t s K = opX P ty q op o d t s (kO P ty g q r K)) ∧
    (∀ q op o d g r t s K, gdK P ty (.v (.bool true)) false q op o d g r t s K = opsW P ty g q r (pT t d (.v undef)) s K) ∧ (∀ q op o d g r t s K, gdK P ty (.v (.bool false)) true q op o d g r t s K = opsW P ty g q r (pT t d (.v undef)) s K) := by
  refine ⟨?_, ?_, ?_, ?_, ?_, ?_, ?_, ?_, ?_, ?_, ?_, ?_, ?_, ?_, ?_, ?_, ?_, ?_, ?_, ?_, ?_, ?_, ?_, ?_, ?_, ?_, ?_, ?_, ?_, ?_, ?_, ?_⟩ <;> intros <;> first | rfl | (simp only [EW]; simp)
theorem W4 : (∀ q x o d t s K, opX P ty q (.move x) o d t s K = K (pT t d (eT t x)) s) ∧ (∀ q o d t s K, opX P ty q (.assign (.const (.slice none 0 0))) o d t s K = nilW ty (ty o) d t s K) ∧ (∀ q i o d t s K, opX P ty q (.assign (.tmp i)) o d t s K = K (pT t d (gT t i)) s) ∧
    (∀ q k n o d t s K, opX P ty q (.assign (.const (.int k n))) o d t s K = K (pT t d (.v (.int k n))) s) ∧ (∀ q b o d t s K, opX P ty q (.assign (.const (.bool b))) o d t s K = K (pT t d (.v (.bool b))) s) ∧ (∀ q b o d t s K, opX P ty q (.assign (.const (.string b))) o d t s K = K (pT t d (.v (.string b))) s) ∧
    (∀ q c a b o d t s K, opX P ty q (.pick c a b) o d t s K = pickW (eT t c) (eT t a) (eT t b) d t s K) ∧ (∀ q b o d t s K, opX P ty q (.alloc b) o d t s K = alW b (ty b) d t s K) ∧ (∀ q b x o d t s K, opX P ty q (.box b x) o d t s K = boxW b (eT t x).cells d t s K) ∧
    (∀ q b x o d t s K, opX P ty q (.load b x) o d t s K = loadW ty (ty b) (eT t x) d t s K) ∧ (∀ q b a x o t s K, opX P ty q (.store b a x) o none t s K = (q = false ∧ storeW (ty b) (eT t a) (eT t x) t s K)) ∧ (∀ q b x f o d t s K, opX P ty q (.fieldAddr b x f) o d t s K = faW (((ty b).map (·.fs)).bind (nthN · f)) (eT t x) d t s K) ∧
    (∀ q b x i o d t s K, opX P ty q (.indexAddr b x i) o d t s K = idxW ty (ty b) (eT t x) (eT t i) d t s K) ∧ (∀ q op a x y b o d t s K, opX P ty q (.binOp op a x y b) o d t s K = binX P a (ty a) op (eT t x) (eT t y) d t s K) ∧ (∀ q a x o d t s K, opX P ty q (.unOp .not a x) o d t s K = notW (eT t x) d t s K) ∧
    (∀ q x n o d t s K, opX P ty q (.extract x n) o d t s K = extW (eT t x) n d t s K) ∧ (∀ q x o d t s K, opX P ty q (.nilCheck x) o d t s K = chkW (eT t x) d t s K) ∧ (∀ q b x y o d t s K, opX P ty q (.makeSlice b x y) o d t s K = mkW ty (ty b) (eT t x) (eT t y) d t s K) ∧
    (∀ q b ps o d t s K, opX P ty q (.build b ⟨ps⟩) o d t s K = bldW (ty b) t ps d t s K) ∧ (∀ q b n ps o d t s K, opX P ty q (.buildSlice b n ⟨ps⟩) o d t s K = litT ty (ty b) n ps d t s K) ∧ (∀ q f l a o d t s K, opX P ty q (.call ⟨.value (.func f), ⟨l⟩, a⟩) o d t s K = callW P q f (mapE t l) d t s K) ∧ (∀ q x b o d t s K, opX P ty q (.call ⟨.builtin .len, ⟨[x]⟩, ⟨[b]⟩⟩) o d t s K = (lenT ty (ty b) (eT t x) = true ∧ lenW (eT t x) d t s K)) ∧
    (∀ q x y t1 t2 o d t s K, opX P ty q (.call ⟨.builtin .append, ⟨[x, y]⟩, ⟨[t1, t2]⟩⟩) o d t s K = (q = false ∧ appT t1 t2 ((ty t2).map (·.zero)) (eT t y) = true ∧ appW ty (ty t1) (eT t x) (eT t y) d t s K)) ∧ (∀ q x y a o d t s K, opX P ty q (.call ⟨.builtin .min, ⟨[x, y]⟩, a⟩) o d t s K = mmW true (eT t x) (eT t y) d t s K) ∧ (∀ q x y a o d t s K, opX P ty q (.call ⟨.builtin .max, ⟨[x, y]⟩, a⟩) o d t s K = mmW false (eT t x) (eT t y) d t s K) ∧
    (∀ t, mapE t [] = []) ∧ (∀ t x l, mapE t (x :: l) = eT t x :: mapE t l) := by
  refine ⟨?_, ?_, ?_, ?_, ?_, ?_, ?_, ?_, ?_, ?_, ?_, ?_, ?_, ?_, ?_, ?_, ?_, ?_, ?_, ?_, ?_, ?_, ?_, ?_, ?_, ?_, ?_⟩ <;> intros <;> (first | rfl | (unfold opX cW; simp) | (unfold opX; simp))
theorem W5 : (∀ a b d t s K, pickW (.v (.bool true)) a b d t s K = K (pT t d a) s) ∧ (∀ a b d t s K, pickW (.v (.bool false)) a b d t s K = K (pT t d b) s) ∧ (∀ b i d t s K, alW b (some i) d t s K = boxW b (vs i.zero) d t s K) ∧
    (∀ i id off d t s K, loadW ty (some i) (.bp id off) d t s K = loadB (gS s id) i off d t s K) ∧ (∀ i cs d t s K, loadW ty (some i) (.pe cs) d t s K = (i.size ≤ cs.length ∧ K (pT t d (cutA i.agg i.size (vs cs))) s)) ∧ (∀ i id z n off d t s K, loadW ty (some i) (.le id z n off) d t s K = loadE ty (gS s id) i z n off d t s K) ∧
    (∀ b cs i off d t s K, loadB (some (.box b cs)) i off d t s K = (off + i.size ≤ cs.length ∧ K (pT t d (cutA i.agg i.size (dp off cs))) s)) ∧
    (∀ i id off x t s K, storeW (some i) (.bp id off) x t s K = storeB (gS s id) id i off x.cells t s K) ∧ (∀ i id z n off x t s K, storeW (some i) (.le id z n off) x t s K = storeE (gS s id) id i z n off x.cells t s K) ∧
    (∀ b cs id i off c t s K, storeB (some (.box b cs)) id i off c t s K = (c.length = i.size ∧ off + i.size ≤ cs.length ∧ cellsOk c = true ∧ K t (uS s id (.box b (putA off c cs))))) ∧
    (∀ e z xs id i z' n off c t s K, storeE (some (.row e z xs)) id i z' n off c t s K = (z' = z ∧ off = 0 ∧ i.size = z ∧ c.length = z ∧ plainOk c = true ∧ K t (uS s id (.row e z (sR xs n (unv c)))))) ∧
    (∀ o id off d t s K, faW (some o) (.bp id off) d t s K = K (pT t d (.bp id (off + o))) s) ∧ (∀ o cs d t s K, faW (some o) (.pe cs) d t s K = K (pT t d (.pe (cs.drop o))) s) ∧ (∀ o id z i off d t s K, faW (some o) (.le id z i off) d t s K = K (pT t d (.le id z i (off + o))) s) ∧
    (∀ ti z xs k n d t s K, idxW ty (some ti) (.pr z xs) (.v (.int k n)) d t s K = ∃ q, (ty ti.el).map (·.zero) = some q ∧ q.length = z ∧ 0 ≤ n ∧ n < (xs.length : Int) ∧ K (pT t d (.pe (gR q xs n))) s) ∧ (∀ ti id k n d t s K, idxW ty (some ti) (.lo id) (.v (.int k n)) d t s K = idxE ty ti.el (gS s id) id n d t s K) ∧
    (∀ el e z xs id n d t s K, idxE ty el (some (.row e z xs)) id n d t s K = ((∃ j, ty el = some j ∧ j.size = z) ∧ 0 ≤ n ∧ n < (xs.length : Int) ∧ K (pT t d (.le id z n 0)) s)) ∧
    (∀ z xs d t s K, lenW (.pr z xs) d t s K = K (pT t d (.v (.int .i64 (xs.length : Int)))) s) ∧ (∀ id d t s K, lenW (.lo id) d t s K = lenB (gS s id) d t s K) ∧ (∀ e z xs d t s K, lenB (some (.row e z xs)) d t s K = K (pT t d (.v (.int .i64 (xs.length : Int)))) s) ∧
    (∀ op a b d t s K, binW op (.v (.int .i64 a)) (.v (.int .i64 b)) d t s K = (kok op .i64 .i64 = true ∧ bok op b ∧ K (pT t d (.v (bval op .i64 a b))) s)) ∧ (∀ b d t s K, notW (.v (.bool b)) d t s K = K (pT t d (.v (.bool (!b)))) s) ∧
    (∀ cs n d t s K, extW (.tu cs) n d t s K = exW cs n d t s K) ∧ (∀ x l d t s K, exW (x :: l) 0 d t s K = K (pT t d x) s) ∧ (∀ x l n d t s K, exW (x :: l) (n + 1) d t s K = exW l n d t s K) ∧
    (∀ b c d t s K, boxW b c (some d) t s K = (cellsOk c = true ∧ free (16 * d) t s = true ∧ K (sT t d (.bp (16 * d) 0)) (uS s (16 * d) (.box b c)))) ∧ (∀ e z xs d t s K, rowW e z xs (some d) t s K = (free (16 * d) (sT t d .u) s = true ∧ K (sT t d (.lo (16 * d))) (uS s (16 * d) (.row e z xs)))) := by
  refine ⟨?_, ?_, ?_, ?_, ?_, ?_, ?_, ?_, ?_, ?_, ?_, ?_, ?_, ?_, ?_, ?_, ?_, ?_, ?_, ?_, ?_, ?_, ?_, ?_, ?_, ?_, ?_⟩ <;> intros <;> (first | rfl | (unfold binW; rfl) | (unfold idxW; simp only))
theorem W7 : (∀ i x, rot i (.move x) = true) ∧ (∀ i a b c, rot i (.pick a b c) = true) ∧ (∀ i a b, rot i (.load a b) = true) ∧ (∀ i a b c, rot i (.fieldAddr a b c) = true) ∧ (∀ i a b c, rot i (.indexAddr a b c) = true) ∧ (∀ i a b c d e, rot i (.binOp a b c d e) = true) ∧ (∀ i a b c, rot i (.unOp a b c) = true) ∧
    (∀ i a b, rot i (.extract a b) = true) ∧ (∀ i a, rot i (.nilCheck a) = true) ∧ (∀ i a b c, rot i (.assign (.const (.slice a b c))) = true) ∧ (∀ j i, rot j (.assign (.tmp i)) = true) ∧ (∀ j k n, rot j (.assign (.const (.int k n))) = true) ∧ (∀ j b, rot j (.assign (.const (.bool b))) = true) ∧ (∀ j b, rot j (.assign (.const (.string b))) = true) ∧
    (∀ i f a b, rot i (.call ⟨.value f, a, b⟩) = true) ∧ (∀ i a b, rot i (.call ⟨.builtin .len, a, b⟩) = true) ∧ (∀ i a b, rot i (.call ⟨.builtin .min, a, b⟩) = true) ∧ (∀ i a b, rot i (.call ⟨.builtin .max, a, b⟩) = true) ∧ (∀ i a b, rot i (.call ⟨.builtin .append, a, b⟩) = false) ∧
    (∀ i a b, rot i (.box a b) = true) ∧ (∀ i a, rot i (.alloc a) = true) ∧ (∀ i a b, rot i (.build a b) = true) ∧ (∀ i a b c, rot i (.store a b c) = false) ∧ (∀ i a b c, rot i (.makeSlice a b c) = true) ∧ (∀ i a b c, rot i (.buildSlice a b c) = true) ∧ (∀ b : Bool, (true && b) = b) ∧ (∀ b : Bool, (false && b) = false) := by
  refine ⟨?_, ?_, ?_, ?_, ?_, ?_, ?_, ?_, ?_, ?_, ?_, ?_, ?_, ?_, ?_, ?_, ?_, ?_, ?_, ?_, ?_, ?_, ?_, ?_, ?_, ?_, ?_⟩ <;> intros <;> first | rfl | (rename_i b; cases b <;> rfl)
theorem W6 : (kok .add .i64 .i64 = true) ∧ (kok .sub .i64 .i64 = true) ∧ (kok .mul .i64 .i64 = true) ∧ (kok .quo .i64 .i64 = true) ∧ (kok .rem .i64 .i64 = true) ∧ (kok .and .i64 .i64 = true) ∧ (kok .or .i64 .i64 = true) ∧ (kok .xor .i64 .i64 = true) ∧ (kok .andNot .i64 .i64 = true) ∧
    (kok .shl .i64 .i64 = true) ∧ (kok .shr .i64 .i64 = true) ∧ (kok .lss .i64 .i64 = true) ∧ (kok .leq .i64 .i64 = true) ∧ (kok .gtr .i64 .i64 = true) ∧ (kok .geq .i64 .i64 = true) ∧ (kok .eql .i64 .i64 = true) ∧ (kok .neq .i64 .i64 = true) ∧
    (∀ b, bok .add b = True) ∧ (∀ b, bok .sub b = True) ∧ (∀ b, bok .mul b = True) ∧ (∀ b, bok .and b = True) ∧ (∀ b, bok .or b = True) ∧ (∀ b, bok .xor b = True) ∧ (∀ b, bok .andNot b = True) ∧ (∀ b, bok .lss b = True) ∧ (∀ b, bok .leq b = True) ∧ (∀ b, bok .gtr b = True) ∧ (∀ b, bok .geq b = True) ∧ (∀ b, bok .eql b = True) ∧ (∀ b, bok .neq b = True) ∧
    (∀ b, bok .quo b = (b ≠ 0)) ∧ (∀ b, bok .rem b = (b ≠ 0)) ∧ (∀ b, bok .shl b = (0 ≤ b)) ∧ (∀ b, bok .shr b = (0 ≤ b)) ∧
    (∀ a b, bval .add .i64 a b = .int .i64 (wrap64 (a + b))) ∧ (∀ a b, bval .sub .i64 a b = .int .i64 (wrap64 (a - b))) ∧ (∀ a b, bval .mul .i64 a b = .int .i64 (wrap64 (a * b))) ∧ (∀ a b, bval .quo .i64 a b = .int .i64 (wrap64 (Int.tdiv a b))) ∧ (∀ a b, bval .rem .i64 a b = .int .i64 (Int.tmod a b)) ∧
    (∀ a b, bval .shl .i64 a b = .int .i64 (shl .i64 a b)) ∧ (∀ a b, bval .shr .i64 a b = .int .i64 (shr .i64 a b)) ∧ (∀ a b, bval .and .i64 a b = .int .i64 (Go.bits .and .i64 a b)) ∧ (∀ a b, bval .or .i64 a b = .int .i64 (Go.bits .or .i64 a b)) ∧ (∀ a b, bval .xor .i64 a b = .int .i64 (Go.bits .xor .i64 a b)) ∧ (∀ a b, bval .andNot .i64 a b = .int .i64 (Go.bits .andNot .i64 a b)) ∧
    (∀ a b, bval .lss .i64 a b = .bool (decide (a < b))) ∧ (∀ a b, bval .leq .i64 a b = .bool (decide (a ≤ b))) ∧ (∀ a b, bval .gtr .i64 a b = .bool (decide (a > b))) ∧ (∀ a b, bval .geq .i64 a b = .bool (decide (a ≥ b))) ∧ (∀ a b, bval .eql .i64 a b = .bool (a == b)) ∧ (∀ a b, bval .neq .i64 a b = .bool (a != b)) := by
  refine ⟨rfl, rfl, rfl, rfl, rfl, rfl, rfl, rfl, rfl, rfl, rfl, rfl, rfl, rfl, rfl, rfl, rfl, ?_⟩
  refine ⟨?_, ?_, ?_, ?_, ?_, ?_, ?_, ?_, ?_, ?_, ?_, ?_, ?_, ?_, ?_, ?_, ?_, ?_, ?_, ?_, ?_, ?_, ?_, ?_, ?_, ?_, ?_, ?_, ?_, ?_, ?_, ?_, ?_, ?_⟩ <;> intros <;> rfl
end
end Go.Proofs.YtdjdleldocfpaaaDoor.F
end

section
namespace Go.Proofs.YtdjdleldocfpaaaDoor.F
open Go.RowKit Go.Proofs.YtdjdleldocfpaaaDoorW.PrintWords Go.Proofs.YtdjdleldocfpaaaDoorW.PrintLast Go.Proofs.YtdjdleldocfpaaaDoorW.PrintMore
set_option linter.unusedVariables false
set_option linter.unusedSimpArgs false
def fsOk (P : Program) (fs : Array Field) : List Nat → Nat → Bool
  | [], _ => true
  | o :: l, k => (match fs[k]? with
    | some fl => fl.offset == o && (match P.info? fl.type with | some fi => fi.size != 0 | none => false)
    | none => false) && fsOk P fs l (k + 1)
def blB (P : Program) (t : TypeId) : List Value → Bool
  | [.bool false] => match P.underlying t with | some .bool => true | _ => false
  | _ => true
def itB (P : Program) (t : TypeId) : List Value → Bool
  | [.int k _] => match P.underlying t with | some (.int k') => k' == k | _ => false
  | _ => true
def stB (P : Program) (t : TypeId) : List Value → Bool
  | [.string _] => match P.underlying t with | some .string => true | _ => false
  | _ => true
def plB (P : Program) (t : TypeId) (i : TI) : Bool := !i.agg || i.fs.isEmpty || match P.underlying t with
  | some (.struct ⟨l⟩) => (l.map fun fl => (fl.offset, (P.info? fl.type).map (·.size))) == ((plc i.size i.fs).map fun p => (p.1, some p.2))
  | _ => false
def okT (P : Program) (ty : TypeId → Option TI) (t : TypeId) (i : TI) : Bool :=
  (match P.info? t with
  | some f => f.size == i.size && f.bytes == i.bytes && (i.agg || (match f.zero with | some (.agg _) => false | some (.tuple _) => false | some _ => true | none => false))
  | none => false) && i.zero.length == i.size && i.zero.all plainV &&
  (match P.underlying t with
  | some (.struct fs) => i.agg && fsOk P fs i.fs 0 && (ty i.el).isNone && !i.fs.isEmpty
  | some (.array n e) => i.agg && i.fs.isEmpty && n == i.size && (match P.info? e with | some fe => fe.size == 1 | none => false) && (ty i.el).isNone
  | some (.slice e) => !i.agg && i.size == 1 && i.fs.isEmpty && ((ty i.el).isNone || i.el == e)
  | some _ => !i.agg && i.size == 1 && i.fs.isEmpty && (ty i.el).isNone
  | none => false) && blB P t i.zero && plB P t i && itB P t i.zero && stB P t i.zero
theorem fsOk_at {P : Program} {fs : Array Field} : ∀ {l : List Nat} {k f o : Nat}, fsOk P fs l k = true → nthN l f = some o → ∃ fl, fs[k + f]? = some fl ∧ fl.offset = o ∧ ∃ fi, P.info? fl.type = some fi ∧ fi.size ≠ 0
  | [], k, f, o, _, h => by simp [nthN] at h
  | x :: l, k, 0, o, h, hf => by
    simp only [fsOk, Bool.and_eq_true] at h
    simp only [nthN, Option.some.injEq] at hf
    subst hf
    have h1 := h.1
    split at h1
    · rename_i fl e
      simp only [Bool.and_eq_true, beq_iff_eq] at h1
      obtain ⟨h1, h2⟩ := h1
      split at h2
      · rename_i fi e2
        exact ⟨fl, e, h1, fi, e2, by simpa using h2⟩
      · cases h2
    · cases h1
  | x :: l, k, f + 1, o, h, hf => by
    simp only [fsOk, Bool.and_eq_true] at h
    have := fsOk_at h.2 (f := f) (by simpa [nthN] using hf)
    rwa [show k + 1 + f = k + (f + 1) by omega] at this
theorem mkTI {P : Program} {ty : TypeId → Option TI} {t : TypeId} {i : TI} (h : okT P ty t i = true) (hz : ((P.info? t).bind (·.zero)).map (·.cells) = some (List.toArray i.zero)) : TIok P ty t i := by
  unfold okT at h
  simp only [Bool.and_eq_true, beq_iff_eq] at h
  obtain ⟨⟨⟨⟨⟨⟨⟨h1, h2⟩, h3⟩, h4⟩, hbl⟩, hpl⟩, hit⟩, hst⟩ := h
  have hnf : ∃ f, P.info? t = some f ∧ f.size = i.size ∧ f.bytes = i.bytes ∧ ∃ z, f.zero = some z ∧ z.cells = List.toArray i.zero ∧ (i.agg = false → z.cells = #[z]) := by
    split at h1
    · rename_i f e
      simp only [Bool.and_eq_true, beq_iff_eq, Bool.or_eq_true] at h1
      rw [e] at hz
      simp only [Option.bind_some] at hz
      obtain ⟨z, e2, e3⟩ := Option.map_eq_some_iff.1 hz
      refine ⟨f, e, h1.1.1, h1.1.2, z, e2, e3, fun ha => ?_⟩
      rcases h1.2 with h5 | h5
      · rw [ha] at h5; cases h5
      · rw [e2] at h5
        cases z <;> first | rfl | (simp at h5)
    · cases h1
  have hit' : ∀ k, kindOf i.zero = some k → P.underlying t = some (.int k) := fun k hk => by
    unfold kindOf at hk
    unfold itB at hit
    split at hk
    · rename_i k0 n0 e
      obtain rfl := Option.some.inj hk
      rw [e] at hit
      simp only at hit
      split at hit
      · rename_i k1 e1; rw [e1, show k1 = _ from by simpa using hit]
      · cases hit
    · cases hk
  have hst' : strZ i.zero = true → P.underlying t = some .string := fun hk => by
    unfold strZ at hk
    unfold stB at hst
    split at hk
    · rename_i e
      rw [e] at hst
      simp only at hst
      split at hst
      · assumption
      · cases hst
    · cases hk
  refine ⟨hnf, ⟨h2, h3⟩, ?_, fun j hj => ?_, fun hz => ?_, hit', fun hg hf => ?_, hst', fun hg hne => ?_⟩
  · split at h4
    · rename_i fs e
      simp only [Bool.and_eq_true] at h4
      refine .inl ⟨h4.1.1.1, fs, e, fun f o hf => ?_⟩
      have := fsOk_at h4.1.1.2 hf
      rwa [Nat.zero_add] at this
    · rename_i n e hu
      simp only [Bool.and_eq_true, beq_iff_eq, List.isEmpty_iff] at h4
      obtain ⟨⟨⟨⟨a1, a2⟩, a3⟩, a4⟩, a5⟩ := h4
      split at a4
      · rename_i fe e1; exact .inr (.inr ⟨a1, a2, e, fe, by rw [hu, a3], e1, by simpa using a4⟩)
      · cases a4
    · rename_i e
      simp only [Bool.and_eq_true, Bool.not_eq_true', beq_iff_eq, List.isEmpty_iff] at h4
      exact .inr (.inl ⟨h4.1.1.1, h4.1.1.2, h4.1.2, _, e, ⟨fun x e' => TypeDesc.noConfusion e', fun x y e' => TypeDesc.noConfusion e'⟩⟩)
    · rename_i d h5 h6 h7 e
      simp only [Bool.and_eq_true, Bool.not_eq_true', beq_iff_eq, List.isEmpty_iff] at h4
      exact .inr (.inl ⟨h4.1.1.1, h4.1.1.2, h4.1.2, d, e, fun x e' => h5 x (by rw [e']), fun x y e' => h6 x y (by rw [e'])⟩)
    · cases h4
  · split at h4
    · simp only [Bool.and_eq_true, Option.isNone_iff_eq_none] at h4; rw [h4.1.2] at hj; cases hj
    · simp only [Bool.and_eq_true, Option.isNone_iff_eq_none] at h4; rw [h4.2] at hj; cases hj
    · rename_i e' e
      simp only [Bool.and_eq_true, Bool.or_eq_true, Option.isNone_iff_eq_none, beq_iff_eq] at h4
      rcases h4.2 with h5 | h5
      · rw [h5] at hj; cases hj
      · rw [e, h5]
    · simp only [Bool.and_eq_true, Option.isNone_iff_eq_none] at h4; rw [h4.2] at hj; cases hj
    · cases h4
  · rw [hz] at hbl
    unfold blB at hbl
    split at hbl
    · split at hbl
      · assumption
      · cases hbl
    · rename_i hne; exact absurd rfl hne
  · split at h4
    · simp only [Bool.and_eq_true, Bool.not_eq_true'] at h4; rw [hf] at h4; exact absurd h4.2 (by simp)
    · rename_i n e hu
      simp only [Bool.and_eq_true, beq_iff_eq, List.isEmpty_iff] at h4
      obtain ⟨⟨⟨⟨a1, a2⟩, a3⟩, a4⟩, a5⟩ := h4
      split at a4
      · rename_i fe e1; exact ⟨e, fe, by rw [hu, a3], e1, by simpa using a4⟩
      · cases a4
    · simp only [Bool.and_eq_true, Bool.not_eq_true'] at h4; rw [hg] at h4; exact absurd h4.1.1.1 (by simp)
    · simp only [Bool.and_eq_true, Bool.not_eq_true'] at h4; rw [hg] at h4; exact absurd h4.1.1.1 (by simp)
    · cases h4
  · unfold plB at hpl
    rw [hg, hne] at hpl
    simp only [Bool.not_true, Bool.false_or] at hpl
    split at hpl
    · rename_i l e
      exact ⟨l, e, by simpa using hpl⟩
    · cases hpl
theorem bnd {α β : Type} {x : Option α} {f : α → Option β} {r : β} (h : x.bind f = some r) : ∃ t, x = some t ∧ f t = some r := Option.bind_eq_some_iff.1 h
section
variable {P : Program} {ty : TypeId → Option TI}
theorem loopR {ι : Type} (T : ι → List AV) (S : ι → Sto) (F : Nat → ι → Prop) {n : Nat} (x : ι) {b : Code} {Q : Qt} {t : List AV} {s : Sto} (ρ : List (Nat × Nat)) (h : F n x) (h1 : EntT ρ t (T x)) (h2 : EntS ρ s (S x)) (h3 : inj ρ (S x) = true)
    (hr : ∀ n x, F n x → EW P ty b (kL T S F n Q) (T x) (S x)) : loopK P ty b Q t s := ⟨ι, T, S, F, ⟨n, x, h, ρ, h1, h2, h3⟩, hr⟩
theorem callR {q : Bool} {f : FuncId} {args : List AV} {d : Option Nat} {t : List AV} {s : Sto} {K : Kt} {res : AV} (h : Ctr P f (toPL s args) res) (hb : bindW q res d t s K) : callW P q f args d t s K := .inl ⟨res, h, hb⟩
theorem callT {f : FuncId} {id : Nat} {rest : List AV} {d : Option Nat} {t : List AV} {s : Sto} {K : Kt} {e : TypeId} {sz : Nat} {xs ys : List (List Value)} (hg : gS s id = some (.row e sz xs)) (hp : plnL rest = true) (h : CtrT P f e sz xs rest ys)
    (hb : ∃ d', d = some d' ∧ free (16 * d') t (dS s id) = true ∧ K (sT t d' (.lo (16 * d'))) (uS (dS s id) (16 * d') (.row e sz ys))) : callW P false f (.lo id :: rest) d t s K := by
  obtain ⟨d', rfl, h1, h2⟩ := hb
  refine .inr (.inl ⟨rfl, .inl ?_⟩)
  simp only [turnW, hg, turnR]
  exact ⟨hp, .inl ⟨ys, h, h1, h2⟩⟩
end
theorem W8 : (∀ ρ, EntT ρ [] [] = True) ∧ (∀ ρ x t T, EntT ρ (x :: t) (.u :: T) = EntT ρ t T) ∧ (∀ ρ x t y T, EntT ρ (x :: t) (.v y :: T) = (x = .v y ∧ EntT ρ t T)) ∧ (∀ ρ x t i T, EntT ρ (x :: t) (.lo i :: T) = (x = .lo (rn ρ i) ∧ EntT ρ t T)) ∧ (∀ ρ x t i o T, EntT ρ (x :: t) (.bp i o :: T) = (x = .bp (rn ρ i) o ∧ EntT ρ t T)) ∧
    (∀ ρ x t z l T, EntT ρ (x :: t) (.pr z l :: T) = (x = .pr z l ∧ EntT ρ t T)) ∧ (∀ ρ x t l T, EntT ρ (x :: t) (.ag l :: T) = (x = .ag (AV.renL ρ l) ∧ EntT ρ t T)) ∧
    (∀ ρ s, EntS ρ s [] = True) ∧ (∀ ρ s i t c S, EntS ρ s ((i, .box t c) :: S) = (gS s (rn ρ i) = some (.box t (AV.renL ρ c)) ∧ EntS ρ s S)) ∧ (∀ ρ s i e z l S, EntS ρ s ((i, .row e z l) :: S) = (gS s (rn ρ i) = some (.row e z l) ∧ EntS ρ s S)) ∧
    (∀ ρ, AV.renL ρ [] = []) ∧ (∀ ρ c cs, AV.renL ρ (c :: cs) = AV.ren ρ c :: AV.renL ρ cs) ∧ (∀ ρ x, AV.ren ρ (.v x) = .v x) ∧ (∀ ρ z l, AV.ren ρ (.pr z l) = .pr z l) ∧ (∀ ρ i, AV.ren ρ (.lo i) = .lo (rn ρ i)) ∧ (∀ ρ i o, AV.ren ρ (.bp i o) = .bp (rn ρ i) o) ∧ (∀ ρ l, AV.ren ρ (.ag l) = .ag (AV.renL ρ l)) := by
  refine ⟨?_, ?_, ?_, ?_, ?_, ?_, ?_, ?_, ?_, ?_, ?_, ?_, ?_, ?_, ?_, ?_, ?_⟩ <;> intros <;> rfl
theorem W9 : (∀ ty t s, resL ty t s [] = some []) ∧ (∀ ty t s i l, resL ty t s (.tmp i :: l) = (resL ty t s l).map (gT t i :: ·)) ∧ (∀ ty t s i b l, resL ty t s (.cell i b :: l) = (cellV (ty b) (gT t i) s).bind fun x => (resL ty t s l).map (x :: ·)) ∧ (∀ i id off s, cellV (some i) (.bp id off) s = cellB i off (gS s id)) ∧
    (∀ i off t cs, cellB i off (some (.box t cs)) = if off + i.size ≤ cs.length then some (cutA i.agg i.size (dp off cs)) else none) ∧ (∀ s x r, FitO s [x] r = FitR s x r) ∧ (∀ s rs, FitO s [] (.tu rs) = FitRL s [] rs) ∧ (∀ s x y l rs, FitO s (x :: y :: l) (.tu rs) = FitRL s (x :: y :: l) rs) ∧
    (∀ s x y, FitR s (.v x) (.v y) = (x = y)) ∧ (∀ s i e z l, FitR s (.lo i) (.ow e z l) = (gS s i = some (.row e z l))) ∧ (∀ s x e z l, FitR s (.v x) (.ow e z l) = (x = .slice none 0 0 ∧ l = [] ∧ 0 < z)) ∧ (∀ s l r, FitR s (.ag l) (.ag r) = FitRL s l r) ∧ (∀ s l r, FitR s (.tu l) (.tu r) = FitRL s l r) ∧
    (∀ s, FitRL s [] [] = True) ∧ (∀ s c cs d ds, FitRL s (c :: cs) (d :: ds) = (FitR s c d ∧ FitRL s cs ds)) ∧ (AV.idsL [] = []) ∧ (∀ c cs, AV.idsL (c :: cs) = AV.ids c ++ AV.idsL cs) ∧ (∀ x, AV.ids (.v x) = []) ∧ (∀ i, AV.ids (.lo i) = [i]) ∧ (∀ l, AV.ids (.ag l) = AV.idsL l) ∧ (∀ l, AV.ids (.tu l) = AV.idsL l) := by
  refine ⟨?_, ?_, ?_, ?_, ?_, ?_, ?_, ?_, ?_, ?_, ?_, ?_, ?_, ?_, ?_, ?_, ?_, ?_, ?_, ?_, ?_⟩ <;> intros <;> rfl
theorem W10 : (∀ ty rv res t s, QR ty rv res .ret t s = ∃ xs, resL ty t s rv = some xs ∧ nodB (AV.idsL xs) = true ∧ FitO s xs res) ∧ (∀ ty rv res t s, QR ty rv res .normal t s = ∃ xs, resL ty t s rv = some xs ∧ nodB (AV.idsL xs) = true ∧ FitO s xs res) ∧
    (nodB [] = true) ∧ (∀ i, nodB [i] = true) := by
  refine ⟨?_, ?_, ?_, ?_⟩ <;> intros <;> first | rfl | simp [nodB]
theorem W11 : (∀ {ι : Type} (T : ι → List AV) S F n Q i t s, kL T S F n Q (.exit i) t s = Q (.exit i) t s) ∧ (∀ {ι : Type} (T : ι → List AV) S F n Q t s, kL T S F n Q .ret t s = Q .ret t s) ∧ (∀ q x d t s K, bindW q (.v x) d t s K = K (pT t d (.v x)) s) := by
  refine ⟨?_, ?_, ?_⟩ <;> intros <;> rfl
theorem W12 : (∀ j, AV.frL j [] = true) ∧ (∀ j c cs, AV.frL j (c :: cs) = (AV.fr j c && AV.frL j cs)) ∧ (∀ j, AV.fr j .u = true) ∧ (∀ j x, AV.fr j (.v x) = true) ∧ (∀ j z x, AV.fr j (.pr z x) = true) ∧ (∀ j x, AV.fr j (.pe x) = true) ∧ (∀ j i, AV.fr j (.lo i) = (i != j)) ∧ (∀ j i o, AV.fr j (.bp i o) = (i != j)) ∧ (∀ j i z n o, AV.fr j (.le i z n o) = (i != j)) ∧ (∀ j l, AV.fr j (.ag l) = AV.frL j l) ∧ (∀ j l, AV.fr j (.tu l) = AV.frL j l) ∧
    (∀ j t s, free j t s = (AV.frL j t && s.all fun p => p.2.fr j)) ∧ (∀ j t c, Blk.fr j (.box t c) = AV.frL j c) ∧ (∀ j e z l, Blk.fr j (.row e z l) = true) ∧
    (cellsOk [] = true) ∧ (∀ x l, cellsOk (.v x :: l) = (plainV x && cellsOk l)) ∧ (∀ i l, cellsOk (.lo i :: l) = cellsOk l) ∧ (∀ i o l, cellsOk (.bp i o :: l) = cellsOk l) ∧ (∀ z x l, cellsOk (.pr z x :: l) = cellsOk l) ∧ (plainOk [] = true) ∧ (∀ x l, plainOk (.v x :: l) = (plainV x && plainOk l)) ∧
    (∀ k n, plainV (.int k n) = true) ∧ (∀ b, plainV (.bool b) = true) ∧ (∀ b, plainV (.string b) = true) ∧ (∀ a n c, plainV (.slice a n c) = true) := by
  refine ⟨?_, ?_, ?_, ?_, ?_, ?_, ?_, ?_, ?_, ?_, ?_, ?_, ?_, ?_, ?_, ?_, ?_, ?_, ?_, ?_, ?_, ?_, ?_, ?_, ?_⟩ <;> intros <;> rfl
theorem bAnd : (∀ b : Bool, (b && true) = b) ∧ (∀ b : Bool, (true && b) = b) ∧ (∀ b : Bool, (false && b) = false) ∧ (∀ b : Bool, (b && false) = false) := by
  refine ⟨?_, ?_, ?_, ?_⟩ <;> intro b <;> cases b <;> rfl
end Go.Proofs.YtdjdleldocfpaaaDoor.F
end

section
namespace Go.Proofs.YtdjdleldocfpaaaDoor.F
open Go.RowKit Go.Proofs.YtdjdleldocfpaaaDoorW.PrintWords Go.Proofs.YtdjdleldocfpaaaDoorW.PrintLast Go.Proofs.YtdjdleldocfpaaaDoorW.PrintMore
set_option linter.unusedVariables false
set_option linter.unusedSimpArgs false
theorem ifN {α : Type} {c : Prop} [Decidable c] {a : Option α} {r : α} (h : (if c then a else none) = some r) : c ∧ a = some r := by
  by_cases x : c
  · rw [if_pos x] at h; exact ⟨x, h⟩
  · rw [if_neg x] at h; cases h
theorem ifM {α : Type} {c : Prop} [Decidable c] {a : Option α} {r : α} (h : (if c then none else a) = some r) : ¬c ∧ a = some r := by
  by_cases x : c
  · rw [if_pos x] at h; cases h
  · rw [if_neg x] at h; exact ⟨x, h⟩
theorem ifS {α : Type} {c : Prop} [Decidable c] {a b : Option α} {r : α} (h : (if c then a else b) = some r) : (c ∧ a = some r) ∨ (¬c ∧ b = some r) := by
  by_cases x : c
  · rw [if_pos x] at h; exact .inl ⟨x, h⟩
  · rw [if_neg x] at h; exact .inr ⟨x, h⟩
theorem ifT {α : Type} {c : Bool} {a b : Option α} {r : α} (h : (if c = true then a else b) = some r) : (c = true ∧ a = some r) ∨ (c = false ∧ b = some r) := by
  cases c
  · exact .inr ⟨rfl, h⟩
  · exact .inl ⟨rfl, h⟩
section
variable {P : Program} {ty : TypeId → Option TI}
theorem loopN {ι : Type} (T : ι → List AV) (S : ι → Sto) (F : Nat → ι → Prop) {n : Nat} {b : Code} {Q : Qt} {t : List AV} {s : Sto} (x : ι) (ρ : List (Nat × Nat)) (h : F n x) (h1 : EntT ρ t (T x)) (h2 : EntS ρ s (S x)) (h3 : inj ρ (S x) = true)
    (hz : ∀ x, F 0 x → False) (hr : ∀ m x, m + 1 ≤ n → F (m + 1) x → EW P ty b (kL T S (fun m x => m ≤ n ∧ F m x) (m + 1) Q) (T x) (S x)) : loopK P ty b Q t s :=
  loopR T S (fun m x => m ≤ n ∧ F m x) x ρ ⟨Nat.le_refl _, h⟩ h1 h2 h3 fun m x h => by
    cases m with
    | zero => exact absurd h.2 (hz x)
    | succ m => exact hr m x h.1 h.2
theorem nextN {ι : Type} {T : ι → List AV} {S : ι → Sto} {F : Nat → ι → Prop} {n N : Nat} {Q : Qt} {t : List AV} {s : Sto} (x : ι) (ρ : List (Nat × Nat)) (m : Nat) (hm : m < n ∧ m ≤ N) (h : F m x) (h1 : EntT ρ t (T x)) (h2 : EntS ρ s (S x)) (h3 : inj ρ (S x) = true) : kL T S (fun m x => m ≤ N ∧ F m x) n Q .normal t s := ⟨m, x, hm.1, ⟨hm.2, h⟩, ρ, h1, h2, h3⟩
theorem rn_cons (a b : Nat) (ρ : List (Nat × Nat)) (j : Nat) : rn ((a, b) :: ρ) j = if a = j then b else rn ρ j := by
  unfold rn
  rw [List.find?_cons]
  by_cases e : a = j
  · subst e; simp
  · have : (a == j) = false := by simpa using e
    simp only [this, if_neg e]
variable (ty)
theorem W13 : (∀ i n ps d t s K, litT ty (some i) n ps d t s K = ∃ j, ty i.el = some j ∧ litW (litR t ps 0) n i.el j.size d t s K) ∧ (∀ t k, litR t [] k = some []) ∧ (∀ t i x l k, litR t ((i, x) :: l) k = if i = k ∧ plainOk (eT t x).cells = true then (litR t l (k + 1)).map fun r => unv (eT t x).cells :: r else none) ∧
    (∀ z, litOk z [] = true) ∧ (∀ z x l, litOk z (x :: l) = (x.length == z && litOk z l)) ∧ (∀ xs n e z d t s K, litW (some xs) n e z d t s K = (xs.length = n ∧ litOk z xs = true ∧ 0 < z ∧ n * z ≤ 1000 ∧ rowW e z xs d t s K)) ∧
    (∀ i id y d t s K, appW ty (some i) (.lo id) y d t s K = ∃ j, ty i.el = some j ∧ okA j y = true ∧ appR id (gS s id) (rdA j.size y s) j i.el d t s K) ∧
    (∀ z y xs s, rdS z (.pr y xs) s = if y = z then some xs else none) ∧ (∀ z i s, rdS z (.lo i) s = rdB z (gS s i)) ∧ (∀ z s, rdS z (.v (.slice none 0 0)) s = some []) ∧ (∀ z e y xs, rdB z (some (.row e y xs)) = if y = z then some xs else none) ∧
    (∀ i d t s K, nilW ty (some i) d t s K = ∃ j, ty i.el = some j ∧ 0 < j.size ∧ rowW i.el j.size [] d t s K) ∧
    (∀ e z xs i y n off d t s K, loadE ty (some (.row e z xs)) i y n off d t s K = ∃ q, (ty e).map (·.zero) = some q ∧ y = z ∧ q.length = z ∧ off + i.size ≤ z ∧ K (pT t d (cutA i.agg i.size (dp off (vs (gR q xs n))))) s) ∧
    (∀ a b d t s K, mmW true (.v (.int .i64 a)) (.v (.int .i64 b)) d t s K = K (pT t d (.v (.int .i64 (mn a b)))) s) ∧ (∀ a b d t s K, mmW false (.v (.int .i64 a)) (.v (.int .i64 b)) d t s K = K (pT t d (.v (.int .i64 (mx a b)))) s) ∧
    (∀ i o d t s K, chkW (.bp i o) d t s K = K (pT t d (.bp i o)) s) ∧ (∀ c d t s K, chkW (.pe c) d t s K = K (pT t d (.pe c)) s) ∧ (∀ i z n o d t s K, chkW (.le i z n o) d t s K = K (pT t d (.le i z n o)) s) ∧
    (∀ q l d t s K, bindW q (.ag l) (some d) t s K = ((q && !okRL l) = false ∧ ((im (16 * d) (.ag l)).2.1.all fun p => free p.1 t s) = true ∧ (im (16 * d) (.ag l)).2.2 ≤ 16 * d + 15 ∧ K (sT t d (im (16 * d) (.ag l)).1) ((im (16 * d) (.ag l)).2.1 ++ s))) ∧
    (∀ q l d t s K, bindW q (.tu l) (some d) t s K = ((q && !okRL l) = false ∧ ((im (16 * d) (.tu l)).2.1.all fun p => free p.1 t s) = true ∧ (im (16 * d) (.tu l)).2.2 ≤ 16 * d + 15 ∧ K (sT t d (im (16 * d) (.tu l)).1) ((im (16 * d) (.tu l)).2.1 ++ s))) ∧
    (∀ x l, nthN (x :: l) 0 = some x) ∧ (∀ x l n, nthN (x :: l) (n + 1) = nthN l n) ∧
    (∀ (P : Program) e o op k a k' b d t s K, binX P e o op (.v (.int k a)) (.v (.int k' b)) d t s K = binW op (.v (.int k a)) (.v (.int k' b)) d t s K) ∧ (∀ (P : Program) e i a b d t s K, binX P e (some i) .eql (.v (.bool a)) (.v (.bool b)) d t s K = (i.zero = [.bool false] ∧ K (pT t d (.v (.bool (a == b)))) s)) ∧ (∀ (P : Program) e i a b d t s K, binX P e (some i) .neq (.v (.bool a)) (.v (.bool b)) d t s K = (i.zero = [.bool false] ∧ K (pT t d (.v (.bool (a != b)))) s)) ∧ (∀ j, rn [] j = j) ∧ (∀ a b ρ j, rn ((a, b) :: ρ) j = if a = j then b else rn ρ j) ∧
    (∀ i u ps d t s K, bldW (some i) u ps d t s K = (i.agg = true ∧ i.fs.isEmpty = false ∧ ∃ cs, bldC (plc i.size i.fs) u ps (vs i.zero) = some cs ∧ K (pT t d (.ag cs)) s)) ∧ (∀ z, plc z [] = []) ∧ (∀ z o, plc z [o] = [(o, z - o)]) ∧ (∀ z o o2 l, plc z (o :: o2 :: l) = (o, o2 - o) :: plc z (o2 :: l)) ∧ (∀ x l, nthL (x :: l) 0 = some x) ∧ (∀ x l n, nthL (x :: l) (n + 1) = nthL l n) ∧ (∀ pl t cs, bldC pl t [] cs = some cs) ∧ (∀ pl t f x l cs, bldC pl t ((f, x) :: l) cs = (bldP (nthL pl f) (eT t x).cells cs).bind (bldC pl t l)) ∧ (∀ o z c cs, bldP (some (o, z)) c cs = if c.length = z ∧ o + c.length ≤ cs.length ∧ cellsOk c = true then some (putA o c cs) else none) ∧
    (okRL [] = true) ∧ (∀ c l, okRL (c :: l) = (okR c && okRL l)) ∧ (∀ x, okR (.v x) = true) ∧ (∀ l, okR (.ag l) = okRL l) ∧ (∀ l, okR (.tu l) = okRL l) ∧ (∀ e z l, okR (.ow e z l) = true) ∧ (plnL [] = true) ∧ (∀ c l, plnL (c :: l) = (pln c && plnL l)) ∧ (∀ x, pln (.v x) = true) ∧ (∀ l, pln (.ag l) = plnL l) ∧ (∀ l, pln (.tu l) = plnL l) ∧ (∀ e z l, pln (.ow e z l) = false) ∧
    (∀ q e z l d t s K, bindW q (.ow e z l) (some d) t s K = ((q && !true) = false ∧ ((im (16 * d) (.ow e z l)).2.1.all fun p => free p.1 t s) = true ∧ (im (16 * d) (.ow e z l)).2.2 ≤ 16 * d + 15 ∧ K (sT t d (im (16 * d) (.ow e z l)).1) ((im (16 * d) (.ow e z l)).2.1 ++ s))) := by
  refine ⟨?_, ?_, ?_, ?_, ?_, ?_, ?_, ?_, ?_, ?_, ?_, ?_, ?_, ?_, ?_, ?_, ?_, ?_, ?_, ?_, ?_, ?_, ?_, ?_, ?_, ?_, ?_, ?_, ?_, ?_, ?_, ?_, ?_, ?_, ?_, ?_, ?_, ?_, ?_, ?_, ?_, ?_, ?_, ?_, ?_, ?_, ?_, ?_, ?_⟩ <;> intros <;> first | rfl | (unfold binX; split <;> simp_all; done) | exact rn_cons _ _ _ _
theorem mkN {n : Int} {b : Nat} (h0 : 0 ≤ n) (hb : 0 < b) : (n * (b : Int) ≤ 281474976710656) = (n.toNat ≤ 281474976710656 / b) := by
  obtain ⟨m, rfl⟩ : ∃ m : Nat, n = m := ⟨n.toNat, by omega⟩
  rw [Int.toNat_natCast, Nat.le_div_iff_mul_le hb]
  exact propext (by omega)
theorem W14 : (∀ i n d t s K, mkW ty (some i) (.v (.int .i64 n)) (.v (.int .i64 n)) d t s K = ∃ j, ty i.el = some j ∧ 0 ≤ n ∧ n.toNat ≤ 281474976710656 / j.bytes ∧ 0 < j.bytes ∧ 0 < j.size ∧ rowW i.el j.size (List.replicate n.toNat j.zero) d t s K) ∧
    (∀ id e z xs ys j e' d t s K, appR id (some (.row e z xs)) (some ys) j e' (some d) t s K = (e = e' ∧ z = j.size ∧ 0 < j.bytes ∧ xs.length + ys.length ≤ 140737488355328 / j.bytes ∧ free (16 * d) t (dS s id) = true ∧ K (sT t d (.lo (16 * d))) (uS (dS s id) (16 * d) (.row e z (xs ++ ys))))) := by
  refine ⟨fun i n d t s K => ?_, fun id e z xs ys j e' d t s K => ?_⟩
  · show (∃ j, ty i.el = some j ∧ n = n ∧ 0 ≤ n ∧ n * (j.bytes : Int) ≤ 281474976710656 ∧ 0 < j.bytes ∧ 0 < j.size ∧ rowW i.el j.size (List.replicate n.toNat j.zero) d t s K) = _
    refine propext ⟨?_, ?_⟩
    · rintro ⟨j, h1, _, h2, h3, h4, h5⟩
      exact ⟨j, h1, h2, (mkN h2 h4) ▸ h3, h4, h5⟩
    · rintro ⟨j, h1, h2, h3, h4, h5⟩
      exact ⟨j, h1, rfl, h2, (mkN h2 h4) ▸ h3, h4, h5⟩
  · show (e = e' ∧ z = j.size ∧ 0 < j.bytes ∧ (xs.length + ys.length) * j.bytes ≤ 140737488355328 ∧ _) = _
    refine propext ⟨?_, ?_⟩
    · rintro ⟨h1, h2, h3, h4, h5⟩
      exact ⟨h1, h2, h3, (Nat.le_div_iff_mul_le h3).2 h4, h5⟩
    · rintro ⟨h1, h2, h3, h4, h5⟩
      exact ⟨h1, h2, h3, (Nat.le_div_iff_mul_le h3).1 h4, h5⟩
end
theorem eqRule {P : Program} {b : TypeId} {cs ds : List AV} {e : Bool} (hg : P.eqGuardType P.depth b = false) (hc : plnL cs = true) (hd : plnL ds = true) {dd : Nat} (hdd : dd = Op.maxDepth) (h0 : ∀ w, (Op.equalIn dd b (.agg (List.toArray (vluL cs))) (.agg (List.toArray (vluL ds)))).run P w = .ok e w) (i : TI) (d : Option Nat) (t : List AV) (s : Sto) (K : Kt) :
    binX P b (some i) .eql (.ag cs) (.ag ds) d t s K = K (pT t d (.v (.bool e))) s := by
  have h : ∀ w, (Op.equal b (.agg (List.toArray (vluL cs))) (.agg (List.toArray (vluL ds)))).run P w = .ok e w := fun w => by subst hdd; exact h0 w
  refine propext ⟨?_, fun hK => ⟨hc, hd, e, ⟨hg, h⟩, hK⟩⟩
  rintro ⟨_, _, r, h1, h2⟩
  have := h1.2 { (default : World) with }
  rw [h] at this
  injection this with this
  rw [this]; exact h2
theorem neRule {P : Program} {b : TypeId} {cs ds : List AV} {e : Bool} (hg : P.eqGuardType P.depth b = false) (hc : plnL cs = true) (hd : plnL ds = true) {dd : Nat} (hdd : dd = Op.maxDepth) (h0 : ∀ w, (Op.equalIn dd b (.agg (List.toArray (vluL cs))) (.agg (List.toArray (vluL ds)))).run P w = .ok e w) (i : TI) (d : Option Nat) (t : List AV) (s : Sto) (K : Kt) :
    binX P b (some i) .neq (.ag cs) (.ag ds) d t s K = K (pT t d (.v (.bool (!e)))) s := by
  have h : ∀ w, (Op.equal b (.agg (List.toArray (vluL cs))) (.agg (List.toArray (vluL ds)))).run P w = .ok e w := fun w => by subst hdd; exact h0 w
  refine propext ⟨?_, fun hK => ⟨hc, hd, e, ⟨hg, h⟩, hK⟩⟩
  rintro ⟨_, _, r, h1, h2⟩
  have := h1.2 { (default : World) with }
  rw [h] at this
  injection this with this
  rw [this]; exact h2
theorem bEq : (∀ a b : Int, (a == b) = decide (a = b)) ∧ (∀ a b : Int, (a != b) = !decide (a = b)) := ⟨fun a b => by by_cases h : a = b <;> simp [h], fun a b => by by_cases h : a = b <;> simp [h, bne]⟩
theorem W0b : (∀ (α : Type) (_ : Decidable True) (a b : α), (if True then a else b) = a) ∧ (∀ (α : Type) (_ : Decidable False) (a b : α), (if False then a else b) = b) ∧ (∀ (α β : Type) (f : α → β) (l : List α), (l.map f).length = l.length) ∧ (∀ (α β : Type) (x : α) (f : α → Option β), (some x).bind f = f x) ∧ (∀ (α β : Type) (x : α) (f : α → β), (some x).map f = some (f x)) ∧ (∀ (α : Type) (x : α), (some x).isSome = true) ∧
    (∀ p : Prop, (True ∧ p) = p) ∧ (∀ p : Prop, (p ∧ True) = p) ∧ (∀ p : Prop, (False ∧ p) = False) ∧ (∀ (α : Type) (x : α), (x = x) = True) ∧ (∀ (α : Type) (x : α) (l : List α), (x :: l).length = l.length + 1) ∧ (∀ α : Type, ([] : List α).length = 0) ∧ (∀ (α : Type) (p : α → Bool), ([] : List α).all p = true) ∧ (∀ (α : Type) (p : α → Bool) (x : α) (l : List α), (x :: l).all p = (p x && l.all p)) ∧
    (∀ h : Decidable True, @decide True h = true) ∧ (∀ h : Decidable False, @decide False h = false) ∧ (∀ (α : Type) (a : α) (p : α → Prop), (∃ x, some a = some x ∧ p x) = p a) ∧ (∀ (α : Type) (a : α) (p : α → Prop), (∃ x, some x = some a ∧ p x) = p a) ∧ (∀ a b : Nat, (a + 1 ≤ b) = (a < b)) ∧
    (∀ (α : Type) (l : List α), [] ++ l = l) ∧ (∀ (α : Type) (x : α) (l m : List α), (x :: l) ++ m = x :: (l ++ m)) ∧ (∀ (α : Type) (l : List α), l.drop 0 = l) ∧ (∀ (α : Type) (n : Nat) (x : α) (l : List α), (x :: l).drop (n + 1) = l.drop n) ∧ ((!true) = false) ∧ ((!false) = true) ∧ (∀ a b : Int, (a == b) = decide (a = b)) ∧ (∀ a b : Int, (a != b) = !decide (a = b)) ∧ ((¬True) = False) ∧ ((¬False) = True) ∧ (∀ (α : Type) (a b : α), (a ≠ b) = ¬(a = b)) ∧
    (∀ (α : Type) (l m : List α), (l ++ m).length = l.length + m.length) ∧ (∀ (α : Type) (l : List α) (i : Nat) (x : α), (l.set i x).length = l.length) ∧ (∀ (α : Type) (n : Nat) (x : α), (List.replicate n x).length = n) ∧ (∀ (α β : Type) (f : α → β) (l m : List α), l.map f ++ m.map f = (l ++ m).map f) ∧ (∀ (α β : Type) (f : α → β), [].map f = []) := by
  refine ⟨?_, ?_, ?_, ?_, ?_, ?_, ?_, ?_, ?_, ?_, ?_, ?_, ?_, ?_, ?_, ?_, ?_, ?_, ?_, ?_, ?_, ?_, ?_, ?_, ?_, ?_, ?_, ?_, ?_, ?_, ?_, ?_, ?_, ?_, ?_⟩ <;> intros <;> first | rfl | simp | (exact propext Iff.rfl)
end Go.Proofs.YtdjdleldocfpaaaDoor.F
end

section
namespace Go.Proofs.YtdjdleldocfpaaaDoor.F
open Go.RowKit Go.Proofs.YtdjdleldocfpaaaDoorW.PrintWords Go.Proofs.YtdjdleldocfpaaaDoorW.PrintLast Go.Proofs.YtdjdleldocfpaaaDoorW.PrintMore
set_option linter.unusedVariables false
set_option linter.unusedSimpArgs false
theorem W15 (P : Program) (ty : TypeId → Option TI) : (∀ s id z lo hi, toP s (.vw id z lo hi) = tpV z lo hi (gS s id)) ∧ (∀ z lo hi e y xs, tpV z lo hi (some (.row e y xs)) = if z = y then .pr y ((xs.take hi).drop lo) else .u) ∧ (∀ s f a b, toP s (.v (.func f a b)) = .v (.func f a b)) ∧
    (∀ id z lo hi d t s K, lenW (.vw id z lo hi) d t s K = lenV (gS s id) lo hi d t s K) ∧ (∀ e z xs lo hi d t s K, lenV (some (.row e z xs)) lo hi d t s K = K (pT t d (.v (.int .i64 (((xs.take hi).drop lo).length : Int)))) s) ∧
    (∀ i id z lo hi k n d t s K, idxW ty (some i) (.vw id z lo hi) (.v (.int k n)) d t s K = idxV ty i.el (gS s id) id z lo hi n d t s K) ∧
    (∀ el e z xs id y lo hi n d t s K, idxV ty el (some (.row e z xs)) id y lo hi n d t s K = ((∃ j, ty el = some j ∧ j.size = z) ∧ y = z ∧ 0 ≤ n ∧ n < (((xs.take hi).drop lo).length : Int) ∧ K (pT t d (.le id z (n + (lo : Int)) 0)) s)) ∧
    (∀ z id y lo hi s, rdS z (.vw id y lo hi) s = if y = z then (rdB z (gS s id)).map fun xs => (xs.take hi).drop lo else none) ∧
    (∀ q b x lo hi o d t s K, opX P ty q (.slice b x lo hi none) o d t s K = slcW ty (ty b) (eT t x) (lo.map (eT t)) (hi.map (eT t)) d t s K) ∧
    (∀ i z xs lo hi d t s K, slcW ty (some i) (.pr z xs) lo hi d t s K = ∃ j, ty i.el = some j ∧ slcP z xs j (loN lo) hi d t s K) ∧
    (∀ i id lo hi d t s K, slcW ty (some i) (.lo id) lo hi d t s K = ∃ j, ty i.el = some j ∧ slcR id (gS s id) j (loN lo) hi d t s K) ∧
    (∀ z xs j l hi d t s K, slcP z xs j (some l) hi d t s K = ∃ h, hiN xs.length hi = some h ∧ j.size = z ∧ 0 ≤ l ∧ l ≤ h ∧ h ≤ (xs.length : Int) ∧ K (pT t d (.pr z ((xs.take h.toNat).drop l.toNat))) s) ∧
    (∀ id e z xs j l hi d t s K, slcR id (some (.row e z xs)) j (some l) hi d t s K = ∃ h, hiN xs.length hi = some h ∧ j.size = z ∧ 0 ≤ l ∧ l ≤ h ∧ h ≤ (xs.length : Int) ∧ K (pT t d (.vw id z l.toNat h.toNat)) s) ∧
    (loN none = some 0) ∧ (∀ k n, loN (some (.v (.int k n))) = some n) ∧ (∀ n, hiN n none = some (n : Int)) ∧ (∀ n k h, hiN n (some (.v (.int k h))) = some h) ∧
    (∀ i a b c d, rot i (.slice a b c d none) = true) ∧ (∀ (α β : Type) (f : α → β), (none : Option α).map f = none) ∧ (∀ (α : Type) (l : List α), l.drop (Int.toNat 0) = l) ∧ (∀ (α : Type) (l : List α), l.take ((l.length : Int)).toNat = l) ∧ (∀ i j, nodB [i, j] = (i != j)) ∧ (∀ i j k, nodB [i, j, k] = (i != j && (i != k && j != k))) ∧
    (∀ (α β : Type) (f : α → β) (l : List α) (n : Nat), (l.map f).take n = (l.take n).map f) ∧ (∀ (α β : Type) (f : α → β) (l : List α) (n : Nat), (l.map f).drop n = (l.drop n).map f) ∧ (∀ n : Int, n ≤ n) ∧ (∀ n : Int, n + ((0 : Nat) : Int) = n) ∧ (∀ t f, eT t (.func f) = .v (.func (.func f) #[] #[])) := by
  refine ⟨?_, ?_, ?_, ?_, ?_, ?_, ?_, ?_, ?_, ?_, ?_, ?_, ?_, ?_, ?_, ?_, ?_, ?_, ?_, ?_, ?_, ?_, ?_, ?_, ?_, ?_, ?_, ?_⟩ <;> intros <;> first | rfl | (rename_i i _ _ _ _; cases i <;> rfl) | (rw [Int.toNat_natCast]; exact List.take_length) | (rename_i i j; by_cases h : i = j <;> simp [nodB, h]; done) | (rename_i i j k; by_cases h : i = j <;> by_cases h2 : i = k <;> by_cases h3 : j = k <;> simp [nodB, h, h2, h3]; done) | exact List.map_take.symm | exact List.map_drop.symm | exact Int.le_refl _ | exact Int.add_zero _ | exact Nat.cast_ofNat | simp
theorem W16 : (∀ s, subS s [] = True) ∧ (∀ s i b S, subS s ((i, b) :: S) = (gS s i = some b ∧ subS s S)) ∧ (∀ s, uSL s [] = s) ∧ (∀ s i b S, uSL s ((i, b) :: S) = uSL (uS s i b) S) := by
  refine ⟨?_, ?_, ?_, ?_⟩ <;> intros <;> rfl
theorem W17 (ty : TypeId → Option TI) : (∀ rv res R t s, QB ty rv res R .ret t s = (subS s R ∧ ∃ xs, resL ty t s rv = some xs ∧ nodB (AV.idsL xs) = true ∧ ((AV.idsL xs).all fun i => (gS R i).isNone) = true ∧ FitO s xs res)) ∧ (∀ rv res R t s, QB ty rv res R .normal t s = (subS s R ∧ ∃ xs, resL ty t s rv = some xs ∧ nodB (AV.idsL xs) = true ∧ ((AV.idsL xs).all fun i => (gS R i).isNone) = true ∧ FitO s xs res)) ∧
    (∀ rv tb cs t s, QN ty rv tb cs .ret t s = ∃ xs, resL ty t s rv = some xs ∧ isN s tb cs xs) ∧ (∀ rv tb cs t s, QN ty rv tb cs .normal t s = ∃ xs, resL ty t s rv = some xs ∧ isN s tb cs xs) ∧ (∀ s tb cs id, isN s tb cs [.bp id 0] = (gS s id = some (.box tb cs))) ∧ (∀ α : Type, (none : Option α).isNone = true) ∧ (∀ j, gS [] j = none) := by
  refine ⟨?_, ?_, ?_, ?_, ?_, ?_, ?_⟩ <;> intros <;> rfl
theorem W18 (P : Program) (ty : TypeId → Option TI) : (∀ q b c x o d t s K, opX P ty q (.convert b c x) o d t s K = cnvW ty (ty b) (ty c) (eT t x) d t s K) ∧ (∀ i j k n d t s K, cnvW ty (some i) (some j) (.v (.int k n)) d t s K = ∃ k', kindOf j.zero = some k' ∧ K (pT t d (.v (.int k' (wr k' n)))) s) ∧ (∀ k n, kindOf [.int k n] = some k) ∧ (∀ n, wr .i64 n = wrap64 n) ∧ (∀ i a b c, rot i (.convert a b c) = true) ∧
    (∀ q o d t s K, opX P ty q (.assign (.const (.pointer none))) o d t s K = K (pT t d (.v (.pointer none))) s) ∧ (∀ j, rot j (.assign (.const (.pointer none))) = true) ∧ (∀ a b d t s K, binW .shr (.v (.int .i64 a)) (.v (.int .u64 b)) d t s K = (bok .shr b ∧ K (pT t d (.v (bval .shr .i64 a b))) s)) ∧ (∀ a b d t s K, binW .shl (.v (.int .i64 a)) (.v (.int .u64 b)) d t s K = (bok .shl b ∧ K (pT t d (.v (bval .shl .i64 a b))) s)) ∧
    (∀ a, shr .i64 a 33 = a / 8589934592) ∧ (∀ a, shr .i64 a 45 = a / 35184372088832) := by
  refine ⟨?_, ?_, ?_, ?_, ?_, ?_, ?_, ?_, ?_, ?_, ?_⟩ <;> intros <;> first | rfl | (unfold binW; simp [kok]) | (simp [shr, IntKind.bits]; done)
def rs2 : Bool → Sto → Bool
  | true, _ => true
  | false, s => rsv s
def dch2 : Bool → List Oper → List AV → Sto → Bool
  | false, _, _, _ => true
  | true, l, t, s => !hasC l || rchk l t s
def dch3 : Bool → List Oper → List AV → Sto → Bool
  | false, _, _, _ => true
  | true, l, t, s => rchk l t s
def hc2 : Bool → List Oper → Bool
  | true, _ => true
  | false, l => hasC l
theorem rsv_cons (i : Nat) (b : Blk) (s : Sto) : rsv ((i, b) :: s) = rs2 (i - i / 16 * 16 == 15) s := by
  have h : i % 16 = i - i / 16 * 16 := by omega
  show (i % 16 == 15 || rsv s) = _
  rw [h]; cases (i - i / 16 * 16 == 15) <;> rfl
theorem W19 : (∀ l t s, dchk l t s = dch2 (rsv s) l t s) ∧ (rsv [] = false) ∧ (∀ i b s, rsv ((i, b) :: s) = rs2 (i - i / 16 * 16 == 15) s) ∧ (∀ s, rs2 true s = true) ∧ (∀ s, rs2 false s = rsv s) ∧ (∀ l t s, dch2 false l t s = true) ∧ (∀ l t s, dch2 true l t s = dch3 (hasC l) l t s) ∧ (∀ l t s, dch3 false l t s = true) ∧ (∀ l t s, dch3 true l t s = rchk l t s) ∧
    (hasC [] = false) ∧ (∀ o l, hasC (o :: l) = hc2 (isC o.op) l) ∧ (∀ l, hc2 true l = true) ∧ (∀ l, hc2 false l = hasC l) ∧ (∀ o, isC o = match o with | .call ⟨.value _, _, _⟩ => true | _ => false) ∧ (∀ l, (true = true ∧ l) = l) := by
  refine ⟨?_, ?_, rsv_cons, ?_, ?_, ?_, ?_, ?_, ?_, ?_, ?_, ?_, ?_, ?_, ?_⟩ <;> intros <;> first | rfl | (simp; done) | (rename_i l t s; unfold dchk; cases rsv s <;> rfl) | (rename_i l t s; show (!hasC l || rchk l t s) = _; cases hasC l <;> rfl) | (rename_i o l; show (isC o.op || hasC l) = _; cases isC o.op <;> rfl)
theorem W20 : (∀ j i z lo hi, AV.fr j (.vw i z lo hi) = (i != j)) ∧ (Int.toNat 0 = 0) := ⟨fun _ _ _ _ _ => rfl, rfl⟩
theorem W21 : (∀ (P : Program) e o op a b d t s K, binX P e o op (.v (.string a)) (.v (.string b)) d t s K = (sok op a b = true ∧ K (pT t d (.v (sval op a b))) s)) ∧ (∀ a b, (sok .add a b = true) = (a.size + b.size ≤ 9223372036854775807)) ∧ (∀ a b, sok .eql a b = true) ∧ (∀ a b, sok .neq a b = true) ∧
    (∀ a b, sval .add a b = .string (a ++ b)) ∧ (∀ a b, sval .eql a b = .bool (decide (a.toList = b.toList))) ∧ (∀ a b, sval .neq a b = .bool (decide (¬ a.toList = b.toList))) ∧ (∀ c, ByteArray.size ⟨#[c]⟩ = 1) := by
  refine ⟨?_, ?_, ?_, ?_, ?_, ?_, ?_, ?_⟩ <;> intros <;> first | rfl | (rename_i P_ e_ o_ op_ a_ b_ d_ t_ s_ K_; cases o_ <;> cases op_ <;> rfl) | simp [sok]
theorem W22 : (∀ ρ x t i z lo hi T, EntT ρ (x :: t) (.vw i z lo hi :: T) = (x = .vw (rn ρ i) z lo hi ∧ EntT ρ t T)) ∧ (∀ ρ i z lo hi, AV.ren ρ (.vw i z lo hi) = .vw (rn ρ i) z lo hi) ∧ (∀ n, wr .u8 n = n % 256) := by
  refine ⟨?_, ?_, ?_⟩ <;> intros <;> rfl
theorem W23 (ty : TypeId → Option TI) : (∀ i k, lenT ty (some i) (.lo k) = (ty i.el).isSome) ∧ (∀ i z l, lenT ty (some i) (.pr z l) = (ty i.el).isSome) ∧ (∀ i k z a b, lenT ty (some i) (.vw k z a b) = (ty i.el).isSome) ∧ (∀ i a n c, lenT ty (some i) (.v (.slice a n c)) = (ty i.el).isSome) ∧ (∀ i m, lenT ty (some i) (.v (.string m)) = strZ i.zero) ∧ (∀ m, strZ [.string m] = true) ∧
    (∀ a d t s K, lenW (.v (.string a)) d t s K = K (pT t d (.v (.int .i64 (a.size : Int)))) s) ∧
    (∀ a z i, appT a a z (.lo i) = true) ∧ (∀ a z y l, appT a a z (.pr y l) = true) ∧ (∀ a z k y p q, appT a a z (.vw k y p q) = true) ∧ (∀ a z p n c, appT a a z (.v (.slice p n c)) = true) ∧ (∀ a b z m, appT a b (some z) (.v (.string m)) = strZ z) ∧
    (∀ j i, okA j (.lo i) = true) ∧ (∀ j z l, okA j (.pr z l) = true) ∧ (∀ j k z a b, okA j (.vw k z a b) = true) ∧ (∀ j a n c, okA j (.v (.slice a n c)) = true) ∧ (∀ j m, okA j (.v (.string m)) = (u8Z j.zero && j.bytes == 1)) ∧ (u8Z [.int .u8 0] = true) ∧
    (∀ z i s, rdA z (.lo i) s = rdS z (.lo i) s) ∧ (∀ z y l s, rdA z (.pr y l) s = rdS z (.pr y l) s) ∧ (∀ z k y a b s, rdA z (.vw k y a b) s = rdS z (.vw k y a b) s) ∧ (∀ z a n c s, rdA z (.v (.slice a n c)) s = rdS z (.v (.slice a n c)) s) ∧ (∀ a s, rdA 1 (.v (.string a)) s = some ((bytesOf a).map fun n => [.int .u8 n])) := by
  refine ⟨?_, ?_, ?_, ?_, ?_, ?_, ?_, ?_, ?_, ?_, ?_, ?_, ?_, ?_, ?_, ?_, ?_, ?_, ?_, ?_, ?_, ?_, ?_⟩ <;> intros <;> first | rfl | (unfold appT; simp; done)
theorem W25 (ty : TypeId → Option TI) : (∀ i id off k n d t s K, idxW ty (some i) (.bp id off) (.v (.int k n)) d t s K = (i.agg = true ∧ i.fs.isEmpty = true ∧ 0 ≤ n ∧ n.toNat < i.size ∧ K (pT t d (.bp id (off + n.toNat))) s)) ∧ (∀ (x : Nat) l, (x :: l).isEmpty = false) ∧ (([] : List Nat).isEmpty = true) ∧ (∀ a b, ByteArray.size ⟨#[a, b]⟩ = 2) ∧ (∀ a b c d, ByteArray.size ⟨#[a, b, c, d]⟩ = 4) ∧ (∀ a b c d e, ByteArray.size ⟨#[a, b, c, d, e]⟩ = 5) ∧ (∀ a b c d e f g h, ByteArray.size ⟨#[a, b, c, d, e, f, g, h]⟩ = 8) := by
  refine ⟨?_, ?_, ?_, ?_, ?_, ?_, ?_⟩ <;> intros <;> rfl
theorem W24 (P : Program) (ty : TypeId → Option TI) : (∀ q b x i o d t s K, opX P ty q (.index b x i) o d t s K = idxS (ty b) (eT t x) (eT t i) d t s K) ∧ (∀ i a k n d t s K, idxS (some i) (.v (.string a)) (.v (.int k n)) d t s K = (strZ i.zero = true ∧ 0 ≤ n ∧ n < (a.size : Int) ∧ K (pT t d (.v (.int .u8 (bt a n)))) s)) ∧ (∀ i a b c, rot i (.index a b c) = true) ∧
    (∀ i a lo hi d t s K, slcW ty (some i) (.v (.string a)) lo hi d t s K = (strZ i.zero = true ∧ slcS a (loN lo) hi d t s K)) ∧ (∀ a l d t s K, slcS a (some l) none d t s K = (0 ≤ l ∧ l ≤ (a.size : Int) ∧ K (pT t d (.v (.string (a.extract l.toNat a.size)))) s)) ∧ (∀ a l k h d t s K, slcS a (some l) (some (.v (.int k h))) d t s K = (0 ≤ l ∧ l ≤ h ∧ h ≤ (a.size : Int) ∧ K (pT t d (.v (.string (a.extract l.toNat h.toNat)))) s)) ∧ (Int.toNat 1 = 1) ∧ (Int.toNat 2 = 2) ∧
    (∀ i j k d t s K, cnvW ty (some i) (some j) (.lo k) d t s K = cnvS ty i j (.lo k) d t s K) ∧ (∀ i j z l d t s K, cnvW ty (some i) (some j) (.pr z l) d t s K = cnvS ty i j (.pr z l) d t s K) ∧ (∀ i j k z a b d t s K, cnvW ty (some i) (some j) (.vw k z a b) d t s K = cnvS ty i j (.vw k z a b) d t s K) ∧ (∀ i j a n c d t s K, cnvW ty (some i) (some j) (.v (.slice a n c)) d t s K = cnvS ty i j (.v (.slice a n c)) d t s K) ∧
    (∀ i j x d t s K, cnvS ty i j x d t s K = (strZ j.zero = true ∧ (∃ e, ty i.el = some e ∧ u8Z e.zero = true) ∧ ∃ ns, (rdS 1 x s).bind bys = some ns ∧ K (pT t d (.v (.string (strOfNums ns)))) s)) ∧ (∀ (α β : Type) (f : α → Option β) (x : α), (some x).bind f = f x) ∧ (bys [] = some []) ∧ (∀ a, (bytesOf a).length = a.size) ∧
    (∀ q a x o d t s K, opX P ty q (.unOp .neg a x) o d t s K = negW (eT t x) d t s K) ∧ (∀ k n d t s K, negW (.v (.int k n)) d t s K = K (pT t d (.v (.int k (wr k (-n))))) s) ∧
    (∀ op a b d t s K, binW op (.v (.int .u8 a)) (.v (.int .u8 b)) d t s K = (kok op .u8 .u8 = true ∧ bok op b ∧ K (pT t d (.v (bval op .u8 a b))) s)) ∧ (kok .lss .u8 .u8 = true) ∧ (kok .leq .u8 .u8 = true) ∧ (kok .gtr .u8 .u8 = true) ∧ (kok .geq .u8 .u8 = true) ∧ (kok .eql .u8 .u8 = true) ∧ (kok .neq .u8 .u8 = true) ∧
    (∀ a b, bval .lss .u8 a b = .bool (decide (a < b))) ∧ (∀ a b, bval .leq .u8 a b = .bool (decide (a ≤ b))) ∧ (∀ a b, bval .gtr .u8 a b = .bool (decide (a > b))) ∧ (∀ a b, bval .geq .u8 a b = .bool (decide (a ≥ b))) ∧ (∀ a b, bval .eql .u8 a b = .bool (a == b)) ∧ (∀ a b, bval .neq .u8 a b = .bool (a != b)) ∧ (∀ n : Int, n ≤ n) := by
  refine ⟨?_, ?_, ?_, ?_, ?_, ?_, ?_, ?_, ?_, ?_, ?_, ?_, ?_, ?_, ?_, ?_, ?_, ?_, ?_, ?_, ?_, ?_, ?_, ?_, ?_, ?_, ?_, ?_, ?_, ?_, ?_, ?_⟩ <;> intros <;> first | rfl | exact Int.le_refl _ | exact bytesOf_length _ | (unfold binW; rfl) | (unfold slcS; simp [hiN]; done)
end Go.Proofs.YtdjdleldocfpaaaDoor.F
end

section
namespace Go.Proofs.YtdjdleldocfpaaaDoor.F
open Go.RowKit Go.Proofs.YtdjdleldocfpaaaDoorW.PrintWords Go.Proofs.YtdjdleldocfpaaaDoorW.PrintLast Go.Proofs.YtdjdleldocfpaaaDoorW.PrintMore
set_option linter.unusedVariables false
set_option linter.unusedSimpArgs false
structure EncOk {α : Type} (d : Kd α) (sz : Nat) (enc : α → List Value) : Prop where
  hz : d.sz = sz
  pos : 0 < sz
  len : ∀ x, (enc x).length = sz
  pl : ∀ x, ∀ u ∈ enc x, plainV u = true
  K : ∀ {w x c}, d.K w x c ↔ c = enc x
  M : ∀ {w b ok x c}, d.M w b ok x c ↔ c = enc x
section
variable {α : Type} {d : Kd α} {sz : Nat} {enc : α → List Value}
theorem EncOk.all (E : EncOk d sz enc) {xs : List α} : ∀ x ∈ xs.map enc, x.length = sz := fun x hx => by
  obtain ⟨y, _, rfl⟩ := List.mem_map.1 hx
  exact E.len y
theorem EncOk.row (E : EncOk d sz enc) (xs : List α) : rowOk sz (xs.map enc) := fun x hx => by
  obtain ⟨y, _, rfl⟩ := List.mem_map.1 hx
  exact ⟨E.len y, E.pl y⟩
theorem EncOk.cell (E : EncOk d sz enc) {xs : List α} {i j : Nat} (hi : i < xs.length) (hj : j < sz) : (xs.map enc).flatten[i * sz + j]? = (enc xs[i])[j]? := by
  rw [flatten_at E.all (by simpa using hi) (z := []) hj]
  simp [List.getD_eq_getElem?_getD, hi]
theorem at_of_C (E : EncOk d sz enc) {w : World} {A : Option Addr} {c : Nat} {xs : List α} (h : d.C w A xs.length xs) (hc : xs.length ≤ c) : RowAt w.heap.size w sz (xs.map enc) (.slice A xs.length c) := by
  obtain ⟨h1, h2, h3⟩ := h
  have hs := E.hz
  refine ⟨A, c, by rw [List.length_map], by rw [List.length_map]; exact hc, by rw [List.length_map]; exact h2, E.pos, E.row xs, fun hne => ?_⟩
  have hp : 0 < xs.length := by
    cases xs with
    | nil => exact absurd rfl hne
    | cons x l => simp
  obtain ⟨ad, e, h3⟩ := h3 hp
  have key : ∀ j u, (xs.map enc).flatten[j]? = some u → w.cell? (ad.add j) = some u := fun j u hu => by
    have hl : j < (xs.map enc).flatten.length := (List.getElem?_eq_some_iff.1 hu).1
    rw [flatten_len E.all, List.length_map] at hl
    have hq : j / sz < xs.length := (Nat.div_lt_iff_lt_mul E.pos).2 hl
    have hr := Nat.mod_lt j E.pos
    have ej : j = j / sz * sz + j % sz := by rw [Nat.mul_comm]; exact (Nat.div_add_mod j sz).symm
    rw [ej, E.cell hq hr] at hu
    obtain ⟨cc, h4, h5, h6⟩ := h3 (j / sz) _ (List.getElem?_eq_getElem hq)
    rw [E.K.1 h5, hs] at h6
    rw [ej]
    exact h6 (j % sz) u hu
  refine ⟨ad, e, ?_, key⟩
  obtain ⟨u, hu⟩ : ∃ u, (xs.map enc).flatten[0]? = some u := by
    refine ⟨_, List.getElem?_eq_getElem (by rw [flatten_len E.all, List.length_map]; exact Nat.mul_pos hp E.pos)⟩
  have := key 0 u hu
  unfold World.cell? at this
  cases hb : w.heap[(ad.add 0).block]? with
  | none => rw [hb] at this; cases this
  | some b => exact (Array.getElem?_eq_some_iff.1 hb).1
theorem C_of_at (E : EncOk d sz enc) {B : Nat} {w : World} {xs : List α} {y : Value} (h : RowAt B w sz (xs.map enc) y) : ∃ A c, y = .slice A xs.length c ∧ d.C w A xs.length xs ∧ xs.length ≤ c := by
  obtain ⟨A, c, h1, h2, h3, _, _, h4⟩ := h
  rw [List.length_map] at h1 h2 h3
  refine ⟨A, c, h1, ⟨rfl, h3, fun hp => ?_⟩, h2⟩
  obtain ⟨ad, e, _, h5⟩ := h4 (fun e => by rw [List.map_eq_nil_iff] at e; rw [e] at hp; simp at hp)
  refine ⟨ad, e, fun j p hj => ⟨enc p, by rw [E.len, E.hz], E.K.2 rfl, fun i u hu => h5 _ u ?_⟩⟩
  obtain ⟨hl, rfl⟩ := List.getElem?_eq_some_iff.1 hj
  have hi : i < sz := by rw [← E.len xs[j]]; exact (List.getElem?_eq_some_iff.1 hu).1
  rw [E.hz, E.cell hl hi]
  exact hu
theorem R_of_rowO (E : EncOk d sz enc) {e B : Nat} {w : World} {v : Value} {xs : List α} {ok : Nat → Prop} (h : w.ownsRow B e sz v (xs.map enc).length (xs.map enc).flatten) (hok : ∀ k, bk v = some k → ok k) : d.R e w B ok v xs := by
  refine ⟨fun k hk => hok k (by rw [← bk_own h]; exact hk), (xs.map enc).flatten, by rw [E.hz]; rwa [List.length_map] at h, by rw [flatten_len E.all, List.length_map, E.hz], fun j p hj => E.M.2 ?_⟩
  obtain ⟨hl, rfl⟩ := List.getElem?_eq_some_iff.1 hj
  apply List.ext_getElem?
  intro i
  rw [E.hz]
  by_cases hi : i < sz
  · rw [List.getElem?_take, if_pos hi, List.getElem?_drop, E.cell hl hi]
  · rw [List.getElem?_take, if_neg hi, List.getElem?_eq_none (by rw [E.len]; omega)]
theorem R_of_row (E : EncOk d sz enc) {e B : Nat} {w : World} {v : Value} {xs : List α} (h : w.ownsRow B e sz v (xs.map enc).length (xs.map enc).flatten) : d.R e w B (fun _ => True) v xs := R_of_rowO E h fun _ _ => trivial
theorem row_of_R (E : EncOk d sz enc) {e B : Nat} {w : World} {ok : Nat → Prop} {v : Value} {xs : List α} (h : d.R e w B ok v xs) : w.ownsRow B e sz v (xs.map enc).length (xs.map enc).flatten := by
  obtain ⟨_, inner, ho, hr⟩ := h
  have hin : inner = (xs.map enc).flatten := by
    apply List.ext_getElem?
    intro j
    by_cases hj : j < xs.length * sz
    · have hq : j / sz < xs.length := (Nat.div_lt_iff_lt_mul E.pos).2 hj
      have hm := Nat.mod_lt j E.pos
      have ej : j = j / sz * sz + j % sz := by rw [Nat.mul_comm]; exact (Nat.div_add_mod j sz).symm
      have h2 := E.M.1 (hr.2 (j / sz) _ (List.getElem?_eq_getElem hq))
      rw [ej, E.cell hq hm, ← h2, E.hz, List.getElem?_take, if_pos hm, List.getElem?_drop]
    · rw [List.getElem?_eq_none (by have := hr.1; rw [E.hz] at this; omega), List.getElem?_eq_none (by rw [flatten_len E.all, List.length_map]; omega)]
  rw [← hin, List.length_map]
  rw [E.hz] at ho
  exact ho
end
end Go.Proofs.YtdjdleldocfpaaaDoor.F
namespace Go.Proofs.YtdjdleldocfpaaaDoor.F
open Go.RowKit Go.Proofs.YtdjdleldocfpaaaDoorW.PrintWords Go.Proofs.YtdjdleldocfpaaaDoorW.PrintLast Go.Proofs.YtdjdleldocfpaaaDoorW.PrintMore
end Go.Proofs.YtdjdleldocfpaaaDoor.F
end

section
namespace Go.Proofs.YtdjdleldocfpaaaDoor.F
open Go.RowKit Go.Proofs.YtdjdleldocfpaaaDoorW.PrintWords Go.Proofs.YtdjdleldocfpaaaDoorW.PrintLast Go.Proofs.YtdjdleldocfpaaaDoorW.PrintMore
set_option linter.unusedVariables false
set_option linter.unusedSimpArgs false
def spec_l01In.f (a0 : Int) (a1 : Int) (a2 : Int) : Option (Bool) := if a0 ≥ a1 then (some (decide (a0 ≤ a2))) else (some false)
def strconv_Itoa.f (a0 : Int) : Option ByteArray := if 0 ≤ a0 ∧ a0 < 100 then some ⟨if a0.toNat < 10 then #[UInt8.ofNat (48 + a0.toNat)] else #[UInt8.ofNat (48 + a0.toNat / 10), UInt8.ofNat (48 + a0.toNat % 10)]⟩ else if -9223372036854775808 ≤ a0 ∧ a0 ≤ 9223372036854775807 then some ⟨(Go.Lib.itoa a0).toArray⟩ else none
def impl_FormatInt.f (a0 : Int) : Option (ByteArray) := (strconv_Itoa.f a0).bind fun t170 => (some t170)
end Go.Proofs.YtdjdleldocfpaaaDoor.F
end

section
namespace Go.Proofs.YtdjdleldocfpaaaDoor.F
open Go.RowKit Go.Proofs.YtdjdleldocfpaaaDoorW.PrintWords Go.Proofs.YtdjdleldocfpaaaDoorW.PrintLast Go.Proofs.YtdjdleldocfpaaaDoorW.PrintMore
set_option linter.unusedVariables false
set_option linter.unusedSimpArgs false
def spec_GridOk.f (a0_0 : Int) (a0_1 : Int) : Option (Bool) := (spec_l01In.f a0_0 1 4).bind fun t306 => (if t306 = true then ((spec_l01In.f a0_1 1 4).bind fun t307 => (some t307)) else (some false))
def spec_l02East.f (a0_0 : Int) (a0_1 : Int) : Option (Int) := some (wrap64 (a0_1 * (wrap64 (a0_0 - 1))))
def spec_CountGaps.f (a0_0 : Int) (a0_1 : Int) : Option (Int) := (spec_GridOk.f a0_0 a0_1).bind fun t310 => (if t310 = true then ((spec_l02East.f a0_0 a0_1).bind fun t311 => (some (wrap64 (t311 + (wrap64 (a0_0 * (wrap64 (a0_1 - 1)))))))) else (some 0))
def spec_MazeOk.f (a0_0 : Int) (a0_1 : Int) (a0_2 : Int) : Option (Bool) := (spec_GridOk.f a0_0 a0_1).bind fun t313 => (if t313 = true then ((spec_CountGaps.f a0_0 a0_1).bind fun t314 => (if 0 ≤ t314 then ((spec_l01In.f a0_2 0 (wrap64 ((shl .i64 1 t314) - 1))).bind fun t315 => (some t315)) else (none))) else (some false))
def spec_CountCells.f (a0_0 : Int) (a0_1 : Int) : Option (Int) := (spec_GridOk.f a0_0 a0_1).bind fun t317 => (if t317 = true then (some (wrap64 (a0_0 * a0_1))) else (some 0))
def spec_l04Has.f (a0_0 : Int) (a0_1 : Int) (a0_2 : Int) (a1 : Int) : Option (Bool) := (spec_MazeOk.f a0_0 a0_1 a0_2).bind fun t319 => (if t319 = true then ((spec_CountCells.f a0_0 a0_1).bind fun t320 => ((spec_l01In.f a1 0 (wrap64 (t320 - 1))).bind fun t321 => (some t321))) else (some false))
def spec_l07In.l0 : Nat → List Int → Int → Int → Option (Bool)
  | 0, _, _, _ => none
  | k + 1, x0, x1, x5 => if x5 < (x0.length : Int) then (if 0 ≤ x5 then (if (rd x0 x5) = x1 then (some true) else (spec_l07In.l0 k x0 x1 (wrap64 (x5 + 1)))) else (none)) else (some false)
def spec_l07In.f (k : Nat) (l0 : List Int) (a1 : Int) : Option (Bool) := spec_l07In.l0 k l0 a1 0
def spec_l03Bit.f (a0 : Int) (a1 : Int) : Option (Bool) := if 0 ≤ a1 then (some ((Go.bits .and .i64 (shr .i64 a0 a1) 1) == 1)) else (none)
def spec_IsPassage.f (a0_0 : Int) (a0_1 : Int) (a0_2 : Int) (a1 : Int) : Option (Bool) := (spec_MazeOk.f a0_0 a0_1 a0_2).bind fun t331 => (if t331 = true then ((spec_CountGaps.f a0_0 a0_1).bind fun t332 => ((spec_l01In.f a1 0 (wrap64 (t332 - 1))).bind fun t333 => (if t333 = true then ((spec_l03Bit.f a0_2 a1).bind fun t334 => (some t334)) else (some false)))) else (some false))
def spec_Neighbor.j0 : Nat → Int → Int → Int → Int → Option (Int)
  | 0, _, _, _, _ => none
  | k + 1, x7, x8, x336000, x336001 => (spec_l01In.f x7 0 (wrap64 (x336000 - 1))).bind fun t338 => (if t338 = true then ((spec_l01In.f x8 0 (wrap64 (x336001 - 1))).bind fun t339 => (if t339 = true then (some (wrap64 ((wrap64 (x8 * x336000)) + x7))) else (some (-1)))) else (some (-1)))
def spec_Neighbor.f (k : Nat) (a0_0 : Int) (a0_1 : Int) (a1 : Int) (a2 : Int) : Option (Int) := (spec_CountCells.f a0_0 a0_1).bind fun t336 => ((spec_l01In.f a1 0 (wrap64 (t336 - 1))).bind fun t337 => (if t337 = true then (if a0_0 = 0 then (none) else (if a2 = 0 then (spec_Neighbor.j0 k (Int.tmod a1 a0_0) (wrap64 ((wrap64 (Int.tdiv a1 a0_0)) - 1)) a0_0 a0_1) else (if a2 = 1 then (spec_Neighbor.j0 k (wrap64 ((Int.tmod a1 a0_0) + 1)) (wrap64 (Int.tdiv a1 a0_0)) a0_0 a0_1) else (if a2 = 2 then (spec_Neighbor.j0 k (Int.tmod a1 a0_0) (wrap64 ((wrap64 (Int.tdiv a1 a0_0)) + 1)) a0_0 a0_1) else (if a2 = 3 then (spec_Neighbor.j0 k (wrap64 ((Int.tmod a1 a0_0) - 1)) (wrap64 (Int.tdiv a1 a0_0)) a0_0 a0_1) else (some (-1))))))) else (some (-1))))
def spec_GapAt.f (k : Nat) (a0_0 : Int) (a0_1 : Int) (a1 : Int) (a2 : Int) : Option (Int) := (spec_Neighbor.f k a0_0 a0_1 a1 a2).bind fun t341 => (if t341 < 0 then (some (-1)) else (if a2 = 1 then (if a0_0 = 0 then (none) else (some (wrap64 ((wrap64 ((wrap64 (Int.tdiv (mn a1 t341) a0_0)) * (wrap64 (a0_0 - 1)))) + (Int.tmod (mn a1 t341) a0_0))))) else (if a2 = 3 then (if a0_0 = 0 then (none) else (some (wrap64 ((wrap64 ((wrap64 (Int.tdiv (mn a1 t341) a0_0)) * (wrap64 (a0_0 - 1)))) + (Int.tmod (mn a1 t341) a0_0))))) else ((spec_l02East.f a0_0 a0_1).bind fun t342 => (some (wrap64 (t342 + (mn a1 t341))))))))
def spec_Step.f (k : Nat) (a0_0 : Int) (a0_1 : Int) (a0_2 : Int) (a1 : Int) (a2 : Int) : Option (Int) := (spec_MazeOk.f a0_0 a0_1 a0_2).bind fun t344 => (if t344 = true then ((spec_GapAt.f k a0_0 a0_1 a1 a2).bind fun t345 => ((spec_IsPassage.f a0_0 a0_1 a0_2 t345).bind fun t346 => (if t346 = true then ((spec_Neighbor.f k a0_0 a0_1 a1 a2).bind fun t347 => (some t347)) else (some (-1))))) else (some (-1)))
end Go.Proofs.YtdjdleldocfpaaaDoor.F
end

section
namespace Go.Proofs.YtdjdleldocfpaaaDoor.F
open Go.RowKit Go.Proofs.YtdjdleldocfpaaaDoorW.PrintWords Go.Proofs.YtdjdleldocfpaaaDoorW.PrintLast Go.Proofs.YtdjdleldocfpaaaDoorW.PrintMore
set_option linter.unusedVariables false
set_option linter.unusedSimpArgs false
def slices_Clone_int.f (l0 : List Int) : Option (List Int) := if l0.length < 17592186044416 then some l0 else none
def impl_GridOk.f (a0_0 : Int) (a0_1 : Int) : Option (Bool) := if a0_0 ≥ 1 then (if a0_0 ≤ 4 then (if a0_1 ≥ 1 then (some (decide (a0_1 ≤ 4))) else (some false)) else (some false)) else (some false)
def impl_CountGaps.f (a0_0 : Int) (a0_1 : Int) : Option (Int) := (impl_GridOk.f a0_0 a0_1).bind fun t952 => (if t952 = true then (some (wrap64 ((wrap64 ((wrap64 (a0_0 - 1)) * a0_1)) + (wrap64 (a0_0 * (wrap64 (a0_1 - 1))))))) else (some 0))
def impl_MazeOk.f (a0_0 : Int) (a0_1 : Int) (a0_2 : Int) : Option (Bool) := (impl_GridOk.f a0_0 a0_1).bind fun t954 => (if t954 = true then (if a0_2 ≥ 0 then ((impl_CountGaps.f a0_0 a0_1).bind fun t955 => (if 0 ≤ t955 then (some (decide (a0_2 < (shl .i64 1 t955)))) else (none))) else (some false)) else (some false))
def impl_CountCells.f (a0_0 : Int) (a0_1 : Int) : Option (Int) := (impl_GridOk.f a0_0 a0_1).bind fun t957 => (if t957 = true then (some (wrap64 (a0_0 * a0_1))) else (some 0))
def impl_isCell.f (a0_0 : Int) (a0_1 : Int) (a1 : Int) : Option (Bool) := if a1 ≥ 0 then ((impl_CountCells.f a0_0 a0_1).bind fun t959 => (some (decide (a1 < t959)))) else (some false)
def impl_isIn.f (a0_0 a0_1 a0_2 : Int) (l1 : List Int) : Option Bool := (impl_MazeOk.f a0_0 a0_1 a0_2).bind fun b => if b = true then (allO (fun x => impl_isCell.f a0_0 a0_1 x) l1) else some false
def impl_ordered.f (l0 : List Int) : Option (List Int) := if l0.length < 4611686018427387904 then some (Go.Lib.compact (l0.mergeSort fun x y => decide (x ≤ y))) else none
def impl_IsSimple.f (l0 : List Int) : Option (Bool) := (slices_Clone_int.f l0).bind fun t1 => ((impl_ordered.f t1).bind fun t2 => (some ((t2.length : Int) == (l0.length : Int))))
def impl_CrowdOk.f (a0_0 : Int) (a0_1 : Int) (a0_2 : Int) (l1 : List Int) : Option (Bool) := if (l1.length : Int) ≤ 6 then ((impl_isIn.f a0_0 a0_1 a0_2 l1).bind fun t1095 => (if t1095 = true then ((impl_IsSimple.f l1).bind fun t1096 => (some t1096)) else (some false))) else (some false)
def impl_isOpen.f (a0_0 : Int) (a0_1 : Int) (a0_2 : Int) (a1 : Int) : Option (Bool) := if a1 ≥ 0 then (if 0 ≤ a1 then (some ((Go.bits .and .i64 (shr .i64 a0_2 a1) 1) == 1)) else (none)) else (some false)
mutual
def impl_Neighbor.j0 : Nat → Int → Int → Int → Int → Bool → Int → Int → Option (Int)
  | 0, _, _, _, _, _, _, _ => none
  | k + 1, x1, x2, x7, x8, x21, x1099000, x1099001 => if x21 = true then (some (wrap64 (x1 - x1099000))) else (if x2 = 1 then (impl_Neighbor.j1 k x1 x2 x7 x8 (decide (x7 < (wrap64 (x1099000 - 1)))) x1099000 x1099001) else (impl_Neighbor.j1 k x1 x2 x7 x8 false x1099000 x1099001))
def impl_Neighbor.j1 : Nat → Int → Int → Int → Int → Bool → Int → Int → Option (Int)
  | 0, _, _, _, _, _, _, _ => none
  | k + 1, x1, x2, x7, x8, x32, x1099000, x1099001 => if x32 = true then (some (wrap64 (x1 + 1))) else (if x2 = 2 then (impl_Neighbor.j2 k x1 x2 x7 (decide (x8 < (wrap64 (x1099001 - 1)))) x1099000 x1099001) else (impl_Neighbor.j2 k x1 x2 x7 false x1099000 x1099001))
def impl_Neighbor.j2 : Nat → Int → Int → Int → Bool → Int → Int → Option (Int)
  | 0, _, _, _, _, _, _ => none
  | k + 1, x1, x2, x7, x44, x1099000, x1099001 => if x44 = true then (some (wrap64 (x1 + x1099000))) else (if x2 = 3 then (if x7 > 0 then (some (wrap64 (x1 - 1))) else (some (-1))) else (some (-1)))
end
def impl_Neighbor.f (k : Nat) (a0_0 : Int) (a0_1 : Int) (a1 : Int) (a2 : Int) : Option (Int) := (impl_isCell.f a0_0 a0_1 a1).bind fun t1099 => (if t1099 = true then (if a0_0 = 0 then (none) else (if a2 = 0 then (impl_Neighbor.j0 k a1 a2 (Int.tmod a1 a0_0) (wrap64 (Int.tdiv a1 a0_0)) (decide ((wrap64 (Int.tdiv a1 a0_0)) > 0)) a0_0 a0_1) else (impl_Neighbor.j0 k a1 a2 (Int.tmod a1 a0_0) (wrap64 (Int.tdiv a1 a0_0)) false a0_0 a0_1))) else (some (-1)))
def impl_GapAt.f (k : Nat) (a0_0 : Int) (a0_1 : Int) (a1 : Int) (a2 : Int) : Option (Int) := (impl_Neighbor.f k a0_0 a0_1 a1 a2).bind fun t1101 => (if t1101 < 0 then (some (-1)) else (if a2 = 1 then (if a0_0 = 0 then (none) else (some (wrap64 ((wrap64 ((wrap64 (Int.tdiv (mn a1 t1101) a0_0)) * (wrap64 (a0_0 - 1)))) + (Int.tmod (mn a1 t1101) a0_0))))) else (if a2 = 3 then (if a0_0 = 0 then (none) else (some (wrap64 ((wrap64 ((wrap64 (Int.tdiv (mn a1 t1101) a0_0)) * (wrap64 (a0_0 - 1)))) + (Int.tmod (mn a1 t1101) a0_0))))) else (some (wrap64 ((wrap64 ((wrap64 (a0_0 - 1)) * a0_1)) + (mn a1 t1101)))))))
def impl_Step.f (k : Nat) (a0_0 : Int) (a0_1 : Int) (a0_2 : Int) (a1 : Int) (a2 : Int) : Option (Int) := (impl_MazeOk.f a0_0 a0_1 a0_2).bind fun t1103 => (if t1103 = true then ((impl_GapAt.f k a0_0 a0_1 a1 a2).bind fun t1104 => ((impl_isOpen.f a0_0 a0_1 a0_2 t1104).bind fun t1105 => (if t1105 = true then ((impl_Neighbor.f k a0_0 a0_1 a1 a2).bind fun t1106 => (some t1106)) else (some (-1))))) else (some (-1)))
def slices_Index_int.l0 : Nat → List Int → Int → Int → Int → Option (Int)
  | 0, _, _, _, _ => none
  | k + 1, x0, x1, x7, x8 => if x8 < x7 then (if 0 ≤ x8 then (if x8 < (x0.length : Int) then (if x1 = (rd x0 x8) then (some x8) else (slices_Index_int.l0 k x0 x1 x7 (wrap64 (x8 + 1)))) else (none)) else (none)) else (some (-1))
def slices_Index_int.f (k : Nat) (l0 : List Int) (a1 : Int) : Option (Int) := slices_Index_int.l0 k l0 a1 (l0.length : Int) 0
def slices_Contains_int.f (k : Nat) (l0 : List Int) (a1 : Int) : Option (Bool) := (slices_Index_int.f k l0 a1).bind fun t1108 => (some (decide (t1108 ≥ 0)))
def impl_MoveOne.j0 : Nat → List Int → Int → Int → List Int → Bool → Int → Int → Int → Option (List Int × Bool)
  | 0, _, _, _, _, _, _, _, _ => none
  | k + 1, x1, x2, x3, x10, x27, x1110000, x1110001, x1110002 => if x27 = true then (some (x10, false)) else (if 0 ≤ x2 then (if x2 < (x1.length : Int) then ((impl_Step.f k x1110000 x1110001 x1110002 (rd x1 x2) x3).bind fun t1115 => (if t1115 < 0 then (some (x10, false)) else ((slices_Contains_int.f k x1 t1115).bind fun t1116 => (if t1116 = true then (some (x10, false)) else (if x2 < (x10.length : Int) then (some ((x10.set (x2 : Int).toNat t1115), true)) else (none)))))) else (none)) else (none))
def impl_MoveOne.f (k : Nat) (a0_0 : Int) (a0_1 : Int) (a0_2 : Int) (l1 : List Int) (a2 : Int) (a3 : Int) : Option (List Int × Bool) := (slices_Clone_int.f l1).bind fun t1110 => ((impl_CrowdOk.f a0_0 a0_1 a0_2 l1).bind fun t1113 => (if t1113 = true then (if a2 < 0 then (impl_MoveOne.j0 k l1 a2 a3 t1110 true a0_0 a0_1 a0_2) else (impl_MoveOne.j0 k l1 a2 a3 t1110 (decide (a2 ≥ (l1.length : Int))) a0_0 a0_1 a0_2)) else (impl_MoveOne.j0 k l1 a2 a3 t1110 true a0_0 a0_1 a0_2)))
def impl_keyOf.l0 : Nat → ByteArray → List Int → Int → Int → Option (ByteArray)
  | 0, _, _, _, _ => none
  | k + 1, x3, x6, x7, x8 => if x8 < x7 then (if 0 ≤ x8 then (if x8 < (x6.length : Int) then ((impl_FormatInt.f (rd x6 x8)).bind fun t1119 => (if t1119.size + 1 ≤ 9223372036854775807 then (if x3.size + (t1119 ++ (⟨#[32]⟩ : ByteArray)).size ≤ 9223372036854775807 then (impl_keyOf.l0 k (x3 ++ (t1119 ++ (⟨#[32]⟩ : ByteArray))) x6 x7 (wrap64 (x8 + 1))) else (none)) else (none))) else (none)) else (none)) else (some x3)
def impl_keyOf.f (k : Nat) (l0 : List Int) : Option (ByteArray) := impl_keyOf.l0 k (⟨#[]⟩ : ByteArray) l0 (l0.length : Int) 0
def impl_lists.l1 (w h o : Int) (V : List Int) : Nat → Nat → List (List Int) → List ByteArray → Option (List (List Int) × List ByteArray)
  | 0, _, Q, K => some (Q, K)
  | r + 1, i, Q, K => (impl_MoveOne.f 1000 w h o V ((i / 4 : Nat) : Int) ((i % 4 : Nat) : Int)).bind fun m => if m.2 = true then (impl_keyOf.f 1000 m.1).bind fun s => if s.size ≤ 1000 then (if (K.any fun z => z.data.toList == s.data.toList) = true then impl_lists.l1 w h o V r (i + 1) Q K else if K.length < 100000 ∧ Q.length < 100000 then impl_lists.l1 w h o V r (i + 1) (Q ++ [m.1]) (K ++ [s]) else none) else none else impl_lists.l1 w h o V r (i + 1) Q K
def impl_lists.l0 (w h o : Int) (n : Nat) : Nat → List (List Int) → List ByteArray → Option (List ByteArray)
  | 0, _, _ => none
  | k + 1, [], K => some K
  | k + 1, V :: Q, K => (impl_lists.l1 w h o V n 0 (V :: Q) K).bind fun r => impl_lists.l0 w h o n k r.1.tail r.2
def impl_lists.f (a0_0 a0_1 a0_2 : Int) (l1 : List Int) : Option (List ByteArray) := (impl_CrowdOk.f a0_0 a0_1 a0_2 l1).bind fun b => if b = true then (if l1.length ≤ 3 then (impl_CountCells.f a0_0 a0_1).bind fun n => if n > 9 then some [] else (impl_keyOf.f 1000 l1).bind fun s => if s.size ≤ 1000 then impl_lists.l0 a0_0 a0_1 a0_2 (4 * l1.length) 8200 [l1] [s] else none else some []) else some []
def impl_CanSwap.j0 : Nat → List Int → Int → Int → Bool → Int → Int → Int → Option (Bool)
  | 0, _, _, _, _, _, _, _ => none
  | k + 1, x1, x2, x3, x32, x407000, x407001, x407002 => if x32 = true then (some false) else ((slices_Clone_int.f x1).bind fun t407 => (if 0 ≤ x3 then (if x3 < (x1.length : Int) then (if 0 ≤ x2 then (if x2 < (x1.length : Int) then (if x2 < (t407.length : Int) then (if x3 < (t407.length : Int) then ((impl_lists.f x407000 x407001 x407002 x1).bind fun t414 => ((impl_keyOf.f k ((t407.set (x2 : Int).toNat (rd x1 x3)).set (x3 : Int).toNat (rd x1 x2))).bind fun t415 => (if t415.size ≤ 281474976710656 then (some (t414.any fun z => z.data.toList == t415.data.toList)) else (none)))) else (none)) else (none)) else (none)) else (none)) else (none)) else (none)))
def impl_CanSwap.f (k : Nat) (a0_0 : Int) (a0_1 : Int) (a0_2 : Int) (l1 : List Int) (a2 : Int) (a3 : Int) : Option (Bool) := if a2 = a3 then (impl_CanSwap.j0 k l1 a2 a3 true a0_0 a0_1 a0_2) else (if a2 < 0 then (impl_CanSwap.j0 k l1 a2 a3 true a0_0 a0_1 a0_2) else (if a2 ≥ (l1.length : Int) then (impl_CanSwap.j0 k l1 a2 a3 true a0_0 a0_1 a0_2) else (if a3 < 0 then (impl_CanSwap.j0 k l1 a2 a3 true a0_0 a0_1 a0_2) else (impl_CanSwap.j0 k l1 a2 a3 (decide (a3 ≥ (l1.length : Int))) a0_0 a0_1 a0_2))))
end Go.Proofs.YtdjdleldocfpaaaDoor.F
end

section
namespace Go.Proofs.YtdjdleldocfpaaaDoor.F
open Go.RowKit Go.Proofs.YtdjdleldocfpaaaDoorW.PrintWords Go.Proofs.YtdjdleldocfpaaaDoorW.PrintLast Go.Proofs.YtdjdleldocfpaaaDoorW.PrintMore
set_option linter.unusedVariables false
set_option linter.unusedSimpArgs false
def spec_CrowdOk.l0 : Nat → List Int → Int → Int → Int → Int → Option (Bool)
  | 0, _, _, _, _, _ => none
  | k + 1, x1, x5, x324000, x324001, x324002 => if x5 < (x1.length : Int) then (if 0 ≤ x5 then ((spec_l04Has.f x324000 x324001 x324002 (rd x1 x5)).bind fun t326 => (if t326 = true then (if x5 ≤ (x1.length : Int) then ((spec_l07In.f k (x1.take (x5 : Int).toNat) (rd x1 x5)).bind fun t329 => (if t329 = true then (some false) else (spec_CrowdOk.l0 k x1 (wrap64 (x5 + 1)) x324000 x324001 x324002))) else (none)) else (some false))) else (none)) else ((spec_MazeOk.f x324000 x324001 x324002).bind fun t324 => (if t324 = true then (some (decide ((x1.length : Int) ≤ 6))) else (some false)))
def spec_CrowdOk.f (k : Nat) (a0_0 : Int) (a0_1 : Int) (a0_2 : Int) (l1 : List Int) : Option (Bool) := spec_CrowdOk.l0 k l1 0 a0_0 a0_1 a0_2
def spec_l28Copy.f (l0 : List Int) : Option (List Int) := (some (([] : List Int) : List Int)).bind fun y486 => (if y486.length + l0.length < 17592186044416 then (some (y486 ++ l0)) else (none))
def spec_MoveOne.j0 : Nat → List Int → Int → Int → List Int → Bool → Int → Int → Int → Option (List Int × Bool)
  | 0, _, _, _, _, _, _, _, _ => none
  | k + 1, x1, x2, x3, x10, x25, x649000, x649001, x649002 => if x25 = true then (some (x10, false)) else (if 0 ≤ x2 then (if x2 < (x1.length : Int) then ((spec_Step.f k x649000 x649001 x649002 (rd x1 x2) x3).bind fun t655 => (if t655 < 0 then (some (x10, false)) else ((spec_l07In.f k x1 t655).bind fun t656 => (if t656 = true then (some (x10, false)) else (if x2 < (x10.length : Int) then (some ((x10.set (x2 : Int).toNat t655), true)) else (none)))))) else (none)) else (none))
def spec_MoveOne.f (k : Nat) (a0_0 : Int) (a0_1 : Int) (a0_2 : Int) (l1 : List Int) (a2 : Int) (a3 : Int) : Option (List Int × Bool) := (spec_l28Copy.f l1).bind fun t649 => ((spec_CrowdOk.f k a0_0 a0_1 a0_2 l1).bind fun t652 => (if t652 = true then ((spec_l01In.f a2 0 (wrap64 ((l1.length : Int) - 1))).bind fun t653 => (spec_MoveOne.j0 k l1 a2 a3 t649 (!t653) a0_0 a0_1 a0_2)) else (spec_MoveOne.j0 k l1 a2 a3 t649 true a0_0 a0_1 a0_2)))
end Go.Proofs.YtdjdleldocfpaaaDoor.F
end

section
namespace Go.Proofs.YtdjdleldocfpaaaDoor.F
open Go.RowKit Go.Proofs.YtdjdleldocfpaaaDoorW.PrintWords Go.Proofs.YtdjdleldocfpaaaDoorW.PrintLast Go.Proofs.YtdjdleldocfpaaaDoorW.PrintMore
set_option linter.unusedVariables false
set_option linter.unusedSimpArgs false
def spec_l31Key.l0 : Nat → List Int → Int → Int → Option (Int)
  | 0, _, _, _ => none
  | k + 1, x0, x3, x4 => if x4 < (x0.length : Int) then (if 0 ≤ x4 then (spec_l31Key.l0 k x0 (wrap64 ((wrap64 (x3 * 16)) + (rd x0 x4))) (wrap64 (x4 + 1))) else (none)) else (some x3)
def spec_l31Key.f (k : Nat) (l0 : List Int) : Option (Int) := spec_l31Key.l0 k l0 1 0
mutual
def spec_l31Search.l0 : Nat → List Int → List (List Int) → List Bool → Int → Int → Int → Int → Option ((List (List Int)))
  | 0, _, _, _, _, _, _, _ => none
  | k + 1, x1, x5, x6, x7, x896000, x896001, x896002 => if x7 < (x5.length : Int) then (spec_l31Search.l1 k x1 x5 x6 x7 0 x896000 x896001 x896002) else (some x5)
def spec_l31Search.l1 : Nat → List Int → List (List Int) → List Bool → Int → Int → Int → Int → Int → Option ((List (List Int)))
  | 0, _, _, _, _, _, _, _, _ => none
  | k + 1, x1, x5, x6, x7, x8, x896000, x896001, x896002 => if x8 < (x1.length : Int) then (spec_l31Search.l2 k x1 x5 x6 x7 x8 0 x896000 x896001 x896002) else (spec_l31Search.l0 k x1 x5 x6 (wrap64 (x7 + 1)) x896000 x896001 x896002)
def spec_l31Search.l2 : Nat → List Int → List (List Int) → List Bool → Int → Int → Int → Int → Int → Int → Option ((List (List Int)))
  | 0, _, _, _, _, _, _, _, _, _ => none
  | k + 1, x1, x5, x6, x7, x8, x9, x896000, x896001, x896002 => if x9 ≤ 3 then (if 0 ≤ x7 then (if x7 < (x5.length : Int) then ((spec_MoveOne.f k x896000 x896001 x896002 (rd_LInt x5 x7) x8 x9).bind fun bt908 => (if bt908.2 = true then ((spec_l31Key.f k bt908.1).bind fun t912 => (if 0 ≤ t912 then (if t912 < (x6.length : Int) then (if rdOf false x6 t912 = true then (spec_l31Search.l2 k x1 x5 x6 x7 x8 (wrap64 (x9 + 1)) x896000 x896001 x896002) else ((spec_l31Key.f k bt908.1).bind fun t914 => (if 0 ≤ t914 then (if t914 < (x6.length : Int) then (if x5.length < 5864062014805 then (spec_l31Search.l2 k x1 (x5 ++ [bt908.1]) (x6.set (t914 : Int).toNat true) x7 x8 (wrap64 (x9 + 1)) x896000 x896001 x896002) else (none)) else (none)) else (none)))) else (none)) else (none))) else (spec_l31Search.l2 k x1 x5 x6 x7 x8 (wrap64 (x9 + 1)) x896000 x896001 x896002))) else (none)) else (none)) else (spec_l31Search.l1 k x1 x5 x6 x7 (wrap64 (x8 + 1)) x896000 x896001 x896002)
end
def spec_l31Search.f (k : Nat) (a0_0 : Int) (a0_1 : Int) (a0_2 : Int) (l1 : List Int) : Option ((List (List Int))) := (spec_l28Copy.f l1).bind fun t896 => (if 0 ≤ (wrap64 ((wrap64 (4 * (l1.length : Int))) + 1)) then (if 0 ≤ (shl .i64 1 (wrap64 ((wrap64 (4 * (l1.length : Int))) + 1))) then (if (shl .i64 1 (wrap64 ((wrap64 (4 * (l1.length : Int))) + 1)) : Int).toNat ≤ 281474976710656 then ((some (List.replicate (shl .i64 1 (wrap64 ((wrap64 (4 * (l1.length : Int))) + 1)) : Int).toNat false : List Bool)).bind fun y902 => ((spec_l31Key.f k l1).bind fun t905 => (if 0 ≤ t905 then (if t905 < (y902.length : Int) then (spec_l31Search.l0 k l1 (([t896] : List (List Int))) (y902.set (t905 : Int).toNat true) 0 a0_0 a0_1 a0_2) else (none)) else (none)))) else (none)) else (none)) else (none))
mutual
def spec_CanSwap.j0 : Nat → List Int → Int → Int → Bool → Int → Int → Int → Option (Bool)
  | 0, _, _, _, _, _, _, _ => none
  | k + 1, x1, x2, x3, x47, x920000, x920001, x920002 => if x47 = true then (some false) else ((spec_l28Copy.f x1).bind fun t924 => (if 0 ≤ x3 then (if x3 < (x1.length : Int) then (if 0 ≤ x2 then (if x2 < (t924.length : Int) then (if x2 < (x1.length : Int) then (if x3 < (t924.length : Int) then ((spec_l31Search.f k x920000 x920001 x920002 x1).bind fun t931 => (spec_CanSwap.l0 k ((t924.set (x2 : Int).toNat (rd x1 x3)).set (x3 : Int).toNat (rd x1 x2)) t931 0)) else (none)) else (none)) else (none)) else (none)) else (none)) else (none)))
def spec_CanSwap.l0 : Nat → List Int → List (List Int) → Int → Option (Bool)
  | 0, _, _, _ => none
  | k + 1, x9, x10, x11 => if x11 < (x10.length : Int) then (if 0 ≤ x11 then ((spec_l31Key.f k (rd_LInt x10 x11)).bind fun t935 => ((spec_l31Key.f k x9).bind fun t936 => (if t935 = t936 then (some true) else (spec_CanSwap.l0 k x9 x10 (wrap64 (x11 + 1)))))) else (none)) else (some false)
end
def spec_CanSwap.f (k : Nat) (a0_0 : Int) (a0_1 : Int) (a0_2 : Int) (l1 : List Int) (a2 : Int) (a3 : Int) : Option (Bool) := (spec_CrowdOk.f k a0_0 a0_1 a0_2 l1).bind fun t920 => (if t920 = true then ((spec_l01In.f a2 0 (wrap64 ((l1.length : Int) - 1))).bind fun t921 => (if t921 = true then ((spec_l01In.f a3 0 (wrap64 ((l1.length : Int) - 1))).bind fun t922 => (if t922 = true then (if a2 = a3 then (spec_CanSwap.j0 k l1 a2 a3 true a0_0 a0_1 a0_2) else (if (l1.length : Int) > 3 then (spec_CanSwap.j0 k l1 a2 a3 true a0_0 a0_1 a0_2) else ((spec_CountCells.f a0_0 a0_1).bind fun t923 => (spec_CanSwap.j0 k l1 a2 a3 (decide (t923 > 9)) a0_0 a0_1 a0_2)))) else (spec_CanSwap.j0 k l1 a2 a3 true a0_0 a0_1 a0_2))) else (spec_CanSwap.j0 k l1 a2 a3 true a0_0 a0_1 a0_2))) else (spec_CanSwap.j0 k l1 a2 a3 true a0_0 a0_1 a0_2))
def laws_toGrid.f (a0_0 : Int) (a0_1 : Int) : Option (Int × Int) := some (a0_0, a0_1)
def laws_toMaze.f (a0_0 : Int) (a0_1 : Int) (a0_2 : Int) : Option (Int × Int × Int) := (laws_toGrid.f a0_0 a0_1).bind fun bt943 => (some (bt943.1, bt943.2, a0_2))
def laws_toIntS.l0 : Nat → List Int → List Int → Int → Option (List Int)
  | 0, _, _, _ => none
  | k + 1, x0, x3, x4 => if x4 < (x0.length : Int) then (if 0 ≤ x4 then (if x4 < (x3.length : Int) then (laws_toIntS.l0 k x0 (x3.set (x4 : Int).toNat (rd x0 x4)) (wrap64 (x4 + 1))) else (none)) else (none)) else (some x3)
def laws_toIntS.f (k : Nat) (l0 : List Int) : Option (List Int) := if 0 ≤ (l0.length : Int) then (if ((l0.length : Int) : Int).toNat ≤ 35184372088832 then (laws_toIntS.l0 k l0 (List.replicate ((l0.length : Int) : Int).toNat 0) 0) else (none)) else (none)
def laws_eqIntS.l0 : Nat → List Int → List Int → Int → Option (Bool)
  | 0, _, _, _ => none
  | k + 1, x0, x1, x5 => if x5 < (x0.length : Int) then (if 0 ≤ x5 then (if x5 < (x1.length : Int) then (if (rd x0 x5) = (rd x1 x5) then (laws_eqIntS.l0 k x0 x1 (wrap64 (x5 + 1))) else (some false)) else (none)) else (none)) else (some true)
def laws_eqIntS.f (k : Nat) (l0 : List Int) (l1 : List Int) : Option (Bool) := if (l0.length : Int) = (l1.length : Int) then (laws_eqIntS.l0 k l0 l1 0) else (some false)
end Go.Proofs.YtdjdleldocfpaaaDoor.F
end

section
namespace Go.Proofs.YtdjdleldocfpaaaDoor.F
open Go.RowKit Go.Proofs.YtdjdleldocfpaaaDoorW.PrintWords Go.Proofs.YtdjdleldocfpaaaDoorW.PrintLast Go.Proofs.YtdjdleldocfpaaaDoorW.PrintMore
set_option linter.unusedVariables false
set_option linter.unusedSimpArgs false
def eB (x : Bool) : List Value := [.bool x]
def eI (x : Int) : List Value := [.int .i64 x]
def eU8 (x : Int) : List Value := [.int .u8 x]
def ty : TypeId → Option TI
  | 3 => some ⟨false, 1, 8, [.int .i64 0], [], 0⟩
  | 4 => some ⟨false, 1, 1, [.bool false], [], 0⟩
  | 5 => some ⟨false, 1, 1, [.int .u8 0], [], 0⟩
  | 9 => some ⟨false, 1, 16, [.string ⟨#[]⟩], [], 0⟩
  | 36 => some ⟨false, 1, 24, [.slice none 0 0], [], 5⟩
  | 39 => some ⟨true, 2, 16, [.int .i64 0, .int .i64 0], [0, 1], 0⟩
  | 41 => some ⟨true, 3, 24, [.int .i64 0, .int .i64 0, .int .i64 0], [0, 2], 0⟩
  | 42 => some ⟨false, 1, 24, [.slice none 0 0], [], 3⟩
  | 50 => some ⟨true, 2, 16, [.int .i64 0, .int .i64 0], [0, 1], 0⟩
  | 52 => some ⟨true, 3, 24, [.int .i64 0, .int .i64 0, .int .i64 0], [0, 2], 0⟩
  | 86 => some ⟨false, 1, 24, [.slice none 0 0], [], 42⟩
  | 103 => some ⟨true, 3, 40, [.slice none 0 0, .int .i64 0, .int .i64 0], [0, 1, 2], 0⟩
  | 110 => some ⟨false, 1, 24, [.slice none 0 0], [], 4⟩
  | 144 => some ⟨false, 1, 8, [.int .u64 0], [], 0⟩
  | _ => none
theorem tyOk : TyOk Tryd.prog ty := by
  intro t i h
  unfold ty at h
  split at h <;> first | (cases h; done) | (obtain rfl := Option.some.inj h; exact mkTI (by kernel_rfl) (by kernel_rfl))
theorem hm : Tryd.prog.follows .mixedOrders = true := by kernel_rfl
theorem gR_eB : (∀ (x : Bool), eB x = [.bool x]) ∧ (∀ (l : List Bool) (i : Int), gR [.bool false] (l.map eB) i = [.bool (rdOf false l i)]) ∧ (∀ (l : List Bool) (i : Int) (a0 : Bool), sR (l.map eB) i [.bool a0] = (l.set i.toNat a0).map eB) ∧ (∀ (l : List Bool) (a0 : Bool), l.map eB ++ [[.bool a0]] = (l ++ [a0]).map eB) ∧ (∀ n : Nat, List.replicate n [.bool false] = (List.replicate n false).map eB) := by
  refine ⟨fun _ => rfl, fun l i => ?_, fun l i a0 => ?_, fun l a0 => ?_, fun n => ?_⟩
  · unfold gR rdOf eB
    rw [List.getD_eq_getElem?_getD, List.getElem?_map, List.getD_eq_getElem?_getD]
    cases l[i.toNat]? <;> rfl
  · unfold sR; rw [List.map_set]; rfl
  · rw [List.map_append]; rfl
  · rw [List.map_replicate]; rfl
theorem L_eB : (∀ (a0 : Bool), ([[.bool a0]] : List (List Value)) = [a0].map eB) ∧ (∀ (l : List Bool) (a0 : Bool), [.bool a0] :: l.map eB = (a0 :: l).map eB) ∧ (∀ (k : Nat) (l : List Bool), ((l.map eB).take k).length = (l.take k).length) ∧ (∀ l m : List Bool, l.map eB ++ m.map eB = (l ++ m).map eB) ∧ (∀ l : List Bool, litOk 1 (l.map eB) = true) := by
  refine ⟨?_, ?_, ?_, ?_, ?_⟩ <;> intros <;> first | rfl | (rename_i l_; induction l_ with | nil => rfl | cons x l ih => exact ih) | (rw [List.length_take, List.length_map, List.length_take]; done) | exact (List.map_append).symm
theorem gR_eI : (∀ (x : Int), eI x = [.int .i64 x]) ∧ (∀ (l : List Int) (i : Int), gR [.int .i64 0] (l.map eI) i = [.int .i64 (rd l i)]) ∧ (∀ (l : List Int) (i : Int) (a0 : Int), sR (l.map eI) i [.int .i64 a0] = (l.set i.toNat a0).map eI) ∧ (∀ (l : List Int) (a0 : Int), l.map eI ++ [[.int .i64 a0]] = (l ++ [a0]).map eI) ∧ (∀ n : Nat, List.replicate n [.int .i64 0] = (List.replicate n 0).map eI) := by
  refine ⟨fun _ => rfl, fun l i => ?_, fun l i a0 => ?_, fun l a0 => ?_, fun n => ?_⟩
  · unfold gR rd eI
    rw [List.getD_eq_getElem?_getD, List.getElem?_map, List.getD_eq_getElem?_getD]
    cases l[i.toNat]? <;> rfl
  · unfold sR; rw [List.map_set]; rfl
  · rw [List.map_append]; rfl
  · rw [List.map_replicate]; rfl
theorem L_eI : (∀ (a0 : Int), ([[.int .i64 a0]] : List (List Value)) = [a0].map eI) ∧ (∀ (l : List Int) (a0 : Int), [.int .i64 a0] :: l.map eI = (a0 :: l).map eI) ∧ (∀ (k : Nat) (l : List Int), ((l.map eI).take k).length = (l.take k).length) ∧ (∀ l m : List Int, l.map eI ++ m.map eI = (l ++ m).map eI) ∧ (∀ l : List Int, litOk 1 (l.map eI) = true) := by
  refine ⟨?_, ?_, ?_, ?_, ?_⟩ <;> intros <;> first | rfl | (rename_i l_; induction l_ with | nil => rfl | cons x l ih => exact ih) | (rw [List.length_take, List.length_map, List.length_take]; done) | exact (List.map_append).symm
theorem gR_eU8 : (∀ (x : Int), eU8 x = [.int .u8 x]) ∧ (∀ (l : List Int) (i : Int), gR [.int .u8 0] (l.map eU8) i = [.int .u8 (rd l i)]) ∧ (∀ (l : List Int) (i : Int) (a0 : Int), sR (l.map eU8) i [.int .u8 a0] = (l.set i.toNat a0).map eU8) ∧ (∀ (l : List Int) (a0 : Int), l.map eU8 ++ [[.int .u8 a0]] = (l ++ [a0]).map eU8) ∧ (∀ n : Nat, List.replicate n [.int .u8 0] = (List.replicate n 0).map eU8) := by
  refine ⟨fun _ => rfl, fun l i => ?_, fun l i a0 => ?_, fun l a0 => ?_, fun n => ?_⟩
  · unfold gR rd eU8
    rw [List.getD_eq_getElem?_getD, List.getElem?_map, List.getD_eq_getElem?_getD]
    cases l[i.toNat]? <;> rfl
  · unfold sR; rw [List.map_set]; rfl
  · rw [List.map_append]; rfl
  · rw [List.map_replicate]; rfl
theorem B_eU8 : (∀ l : List Int, bys (l.map eU8) = some l) ∧ (∀ l : List Int, (l.map fun n => [Value.int .u8 n]) = l.map eU8) := by
  refine ⟨fun l => ?_, fun l => rfl⟩
  induction l with
  | nil => rfl
  | cons x l ih => show (bys (l.map eU8)).map (x :: ·) = _; rw [ih]; rfl
theorem L_eU8 : (∀ (a0 : Int), ([[.int .u8 a0]] : List (List Value)) = [a0].map eU8) ∧ (∀ (l : List Int) (a0 : Int), [.int .u8 a0] :: l.map eU8 = (a0 :: l).map eU8) ∧ (∀ (k : Nat) (l : List Int), ((l.map eU8).take k).length = (l.take k).length) ∧ (∀ l m : List Int, l.map eU8 ++ m.map eU8 = (l ++ m).map eU8) ∧ (∀ l : List Int, litOk 1 (l.map eU8) = true) := by
  refine ⟨?_, ?_, ?_, ?_, ?_⟩ <;> intros <;> first | rfl | (rename_i l_; induction l_ with | nil => rfl | cons x l ih => exact ih) | (rw [List.length_take, List.length_map, List.length_take]; done) | exact (List.map_append).symm
theorem eqQ31 (x0 y0 : Int) (x1 y1 : Int) (x2 y2 : Int) : ∀ w : World, (Op.equalIn 10000 31 (.agg (List.toArray (vluL [.v (.int .i64 x0), .v (.int .i64 x1), .v (.int .i64 x2)]))) (.agg (List.toArray (vluL [.v (.int .i64 y0), .v (.int .i64 y1), .v (.int .i64 y2)])))).run Tryd.prog w = .ok (x0 == y0 && (x1 == y1 && (x2 == y2))) w := fun w => eqA31 9998 w _ _ _ _ _ _
theorem eqT31 : (∀ (x0 y0 : Int) (x1 y1 : Int) (x2 y2 : Int) (i : TI) (d : Option Nat) (t : List AV) (s : Sto) (K : Kt), binX Tryd.prog 31 (some i) .eql (.ag [.v (.int .i64 x0), .v (.int .i64 x1), .v (.int .i64 x2)]) (.ag [.v (.int .i64 y0), .v (.int .i64 y1), .v (.int .i64 y2)]) d t s K = K (pT t d (.v (.bool (x0 == y0 && (x1 == y1 && (x2 == y2)))))) s) ∧ (∀ (x0 y0 : Int) (x1 y1 : Int) (x2 y2 : Int) (i : TI) (d : Option Nat) (t : List AV) (s : Sto) (K : Kt), binX Tryd.prog 31 (some i) .neq (.ag [.v (.int .i64 x0), .v (.int .i64 x1), .v (.int .i64 x2)]) (.ag [.v (.int .i64 y0), .v (.int .i64 y1), .v (.int .i64 y2)]) d t s K = K (pT t d (.v (.bool ((!(x0 == y0) || ((!(x1 == y1) || (!(x2 == y2))))))))) s) := by
  refine ⟨fun x0 y0 x1 y1 x2 y2 i d t s K => ?_, fun x0 y0 x1 y1 x2 y2 i d t s K => ?_⟩
  · refine eqRule (dd := 10000) ?_ ?_ ?_ ?_ (eqQ31 _ _ _ _ _ _) i d t s K <;> kernel_rfl
  · refine Eq.trans (b := K (pT t d (.v (.bool (!(x0 == y0 && (x1 == y1 && (x2 == y2))))))) s) ?_ (by simp only [Bool.not_and])
    refine neRule (dd := 10000) ?_ ?_ ?_ ?_ (eqQ31 _ _ _ _ _ _) i d t s K <;> kernel_rfl
theorem Wt : ty 3 = some ⟨false, 1, 8, [.int .i64 0], [], 0⟩ ∧ ty 4 = some ⟨false, 1, 1, [.bool false], [], 0⟩ ∧ ty 5 = some ⟨false, 1, 1, [.int .u8 0], [], 0⟩ ∧ ty 9 = some ⟨false, 1, 16, [.string ⟨#[]⟩], [], 0⟩ ∧ ty 36 = some ⟨false, 1, 24, [.slice none 0 0], [], 5⟩ ∧ ty 39 = some ⟨true, 2, 16, [.int .i64 0, .int .i64 0], [0, 1], 0⟩ ∧ ty 41 = some ⟨true, 3, 24, [.int .i64 0, .int .i64 0, .int .i64 0], [0, 2], 0⟩ ∧ ty 42 = some ⟨false, 1, 24, [.slice none 0 0], [], 3⟩ ∧ ty 50 = some ⟨true, 2, 16, [.int .i64 0, .int .i64 0], [0, 1], 0⟩ ∧ ty 52 = some ⟨true, 3, 24, [.int .i64 0, .int .i64 0, .int .i64 0], [0, 2], 0⟩ ∧ ty 86 = some ⟨false, 1, 24, [.slice none 0 0], [], 42⟩ ∧ ty 103 = some ⟨true, 3, 40, [.slice none 0 0, .int .i64 0, .int .i64 0], [0, 1, 2], 0⟩ ∧ ty 110 = some ⟨false, 1, 24, [.slice none 0 0], [], 4⟩ ∧ ty 144 = some ⟨false, 1, 8, [.int .u64 0], [], 0⟩ ∧ ty 0 = none ∧ ty 58 = none ∧ ty 62 = none ∧ ty 80 = none ∧ ty 90 = none ∧ ty 101 = none ∧ ty 112 = none ∧ ty 132 = none := ⟨rfl, rfl, rfl, rfl, rfl, rfl, rfl, rfl, rfl, rfl, rfl, rfl, rfl, rfl, rfl, rfl, rfl, rfl, rfl, rfl, rfl, rfl⟩
theorem W : type_of% (And.intro W1 (And.intro W2 (And.intro (W3 Tryd.prog ty) (And.intro (W4 Tryd.prog ty) (And.intro (W5 ty) (And.intro W6 (And.intro W7 (And.intro W8 (And.intro W9 (And.intro W10 (And.intro @W11 (And.intro W12 (And.intro (W13 ty) (And.intro (W14 ty) (And.intro (W15 Tryd.prog ty) (And.intro W16 (And.intro (W17 ty) (And.intro (W18 Tryd.prog ty) (And.intro W19 (And.intro W20 (And.intro W21 (And.intro W22 (And.intro (W23 ty) (And.intro (W25 ty) (And.intro (W24 Tryd.prog ty) (And.intro bAnd (And.intro W0b (And.intro gR_eB (And.intro L_eB (And.intro gR_eI (And.intro L_eI (And.intro gR_eU8 (And.intro B_eU8 (And.intro L_eU8 (And.intro eqT31 Wt))))))))))))))))))))))))))))))))))) := (And.intro W1 (And.intro W2 (And.intro (W3 Tryd.prog ty) (And.intro (W4 Tryd.prog ty) (And.intro (W5 ty) (And.intro W6 (And.intro W7 (And.intro W8 (And.intro W9 (And.intro W10 (And.intro @W11 (And.intro W12 (And.intro (W13 ty) (And.intro (W14 ty) (And.intro (W15 Tryd.prog ty) (And.intro W16 (And.intro (W17 ty) (And.intro (W18 Tryd.prog ty) (And.intro W19 (And.intro W20 (And.intro W21 (And.intro W22 (And.intro (W23 ty) (And.intro (W25 ty) (And.intro (W24 Tryd.prog ty) (And.intro bAnd (And.intro W0b (And.intro gR_eB (And.intro L_eB (And.intro gR_eI (And.intro L_eI (And.intro gR_eU8 (And.intro B_eU8 (And.intro L_eU8 (And.intro eqT31 Wt)))))))))))))))))))))))))))))))))))
theorem E_eI : EncOk (Kd.int .i64) 1 eI := ⟨rfl, by decide, fun _ => rfl, fun x u hu => by
  simp only [eI, List.mem_cons, List.not_mem_nil, or_false] at hu
  subst hu; rfl, Iff.rfl, Iff.rfl⟩
end Go.Proofs.YtdjdleldocfpaaaDoor.F
end

section
namespace Go.Proofs.YtdjdleldocfpaaaDoor.F
open Go.RowKit Go.Proofs.YtdjdleldocfpaaaDoorW.PrintWords Go.Proofs.YtdjdleldocfpaaaDoorW.PrintLast Go.Proofs.YtdjdleldocfpaaaDoorW.PrintMore
theorem bkb {w0 W w' : World} {g : Nat} {o : Obj} (A : Aside0 (w0.heap[g]? = some o)) (hb : Below W.heap.size W w') (h : w0.heap[g]? = some o → W.heap[g]? = some o) : Aside0 (w'.heap[g]? = some o) := ⟨blk_below (h A.out) hb⟩
theorem nbl {w0 W : World} {g gb : Nat} {o : Obj} (A : Aside0 (w0.heap[g]? = some o)) (hg : gb = W.heap.size) (h : w0.heap[g]? = some o → W.heap[g]? = some o) : Aside0 (g ≠ gb) := ⟨by rw [hg]; exact Nat.ne_of_lt (blk_lt (h A.out))⟩
theorem nbs {a b : Nat} (h : Aside0 (a ≠ b)) : Aside0 (b ≠ a) := ⟨h.out.symm⟩
theorem cl1 {w : World} {g : Nat} {t : TypeId} {c0 : Value} (h : w.heap[g]? = some (.cells #[c0] t (0, 0))) : w.cell? ⟨g, 0, none⟩ = some c0 ∧ w.frozen? ⟨g, 0, none⟩ = false := ⟨(blk_cell h 0).trans rfl, blk_frozen h 0⟩
theorem cl2 {w : World} {g : Nat} {t : TypeId} {c0 c1 : Value} (h : w.heap[g]? = some (.cells #[c0, c1] t (0, 0))) : w.cell? ⟨g, 0, none⟩ = some c0 ∧ w.cell? ⟨g, 1, none⟩ = some c1 ∧ w.frozen? ⟨g, 0, none⟩ = false ∧ w.frozen? ⟨g, 1, none⟩ = false := ⟨(blk_cell h 0).trans rfl, (blk_cell h 1).trans rfl, blk_frozen h 0, blk_frozen h 1⟩
theorem cl3 {w : World} {g : Nat} {t : TypeId} {c0 c1 c2 : Value} (h : w.heap[g]? = some (.cells #[c0, c1, c2] t (0, 0))) : w.cell? ⟨g, 0, none⟩ = some c0 ∧ w.cell? ⟨g, 1, none⟩ = some c1 ∧ w.cell? ⟨g, 2, none⟩ = some c2 ∧ w.frozen? ⟨g, 0, none⟩ = false ∧ w.frozen? ⟨g, 1, none⟩ = false ∧ w.frozen? ⟨g, 2, none⟩ = false := ⟨(blk_cell h 0).trans rfl, (blk_cell h 1).trans rfl, (blk_cell h 2).trans rfl, blk_frozen h 0, blk_frozen h 1, blk_frozen h 2⟩
theorem cl4 {w : World} {g : Nat} {t : TypeId} {c0 c1 c2 c3 : Value} (h : w.heap[g]? = some (.cells #[c0, c1, c2, c3] t (0, 0))) : w.cell? ⟨g, 0, none⟩ = some c0 ∧ w.cell? ⟨g, 1, none⟩ = some c1 ∧ w.cell? ⟨g, 2, none⟩ = some c2 ∧ w.cell? ⟨g, 3, none⟩ = some c3 ∧ w.frozen? ⟨g, 0, none⟩ = false ∧ w.frozen? ⟨g, 1, none⟩ = false ∧ w.frozen? ⟨g, 2, none⟩ = false ∧ w.frozen? ⟨g, 3, none⟩ = false := ⟨(blk_cell h 0).trans rfl, (blk_cell h 1).trans rfl, (blk_cell h 2).trans rfl, (blk_cell h 3).trans rfl, blk_frozen h 0, blk_frozen h 1, blk_frozen h 2, blk_frozen h 3⟩
theorem cl5 {w : World} {g : Nat} {t : TypeId} {c0 c1 c2 c3 c4 : Value} (h : w.heap[g]? = some (.cells #[c0, c1, c2, c3, c4] t (0, 0))) : w.cell? ⟨g, 0, none⟩ = some c0 ∧ w.cell? ⟨g, 1, none⟩ = some c1 ∧ w.cell? ⟨g, 2, none⟩ = some c2 ∧ w.cell? ⟨g, 3, none⟩ = some c3 ∧ w.cell? ⟨g, 4, none⟩ = some c4 ∧ w.frozen? ⟨g, 0, none⟩ = false ∧ w.frozen? ⟨g, 1, none⟩ = false ∧ w.frozen? ⟨g, 2, none⟩ = false ∧ w.frozen? ⟨g, 3, none⟩ = false ∧ w.frozen? ⟨g, 4, none⟩ = false := ⟨(blk_cell h 0).trans rfl, (blk_cell h 1).trans rfl, (blk_cell h 2).trans rfl, (blk_cell h 3).trans rfl, (blk_cell h 4).trans rfl, blk_frozen h 0, blk_frozen h 1, blk_frozen h 2, blk_frozen h 3, blk_frozen h 4⟩
theorem cl6 {w : World} {g : Nat} {t : TypeId} {c0 c1 c2 c3 c4 c5 : Value} (h : w.heap[g]? = some (.cells #[c0, c1, c2, c3, c4, c5] t (0, 0))) : w.cell? ⟨g, 0, none⟩ = some c0 ∧ w.cell? ⟨g, 1, none⟩ = some c1 ∧ w.cell? ⟨g, 2, none⟩ = some c2 ∧ w.cell? ⟨g, 3, none⟩ = some c3 ∧ w.cell? ⟨g, 4, none⟩ = some c4 ∧ w.cell? ⟨g, 5, none⟩ = some c5 ∧ w.frozen? ⟨g, 0, none⟩ = false ∧ w.frozen? ⟨g, 1, none⟩ = false ∧ w.frozen? ⟨g, 2, none⟩ = false ∧ w.frozen? ⟨g, 3, none⟩ = false ∧ w.frozen? ⟨g, 4, none⟩ = false ∧ w.frozen? ⟨g, 5, none⟩ = false := ⟨(blk_cell h 0).trans rfl, (blk_cell h 1).trans rfl, (blk_cell h 2).trans rfl, (blk_cell h 3).trans rfl, (blk_cell h 4).trans rfl, (blk_cell h 5).trans rfl, blk_frozen h 0, blk_frozen h 1, blk_frozen h 2, blk_frozen h 3, blk_frozen h 4, blk_frozen h 5⟩
theorem cl7 {w : World} {g : Nat} {t : TypeId} {c0 c1 c2 c3 c4 c5 c6 : Value} (h : w.heap[g]? = some (.cells #[c0, c1, c2, c3, c4, c5, c6] t (0, 0))) : w.cell? ⟨g, 0, none⟩ = some c0 ∧ w.cell? ⟨g, 1, none⟩ = some c1 ∧ w.cell? ⟨g, 2, none⟩ = some c2 ∧ w.cell? ⟨g, 3, none⟩ = some c3 ∧ w.cell? ⟨g, 4, none⟩ = some c4 ∧ w.cell? ⟨g, 5, none⟩ = some c5 ∧ w.cell? ⟨g, 6, none⟩ = some c6 ∧ w.frozen? ⟨g, 0, none⟩ = false ∧ w.frozen? ⟨g, 1, none⟩ = false ∧ w.frozen? ⟨g, 2, none⟩ = false ∧ w.frozen? ⟨g, 3, none⟩ = false ∧ w.frozen? ⟨g, 4, none⟩ = false ∧ w.frozen? ⟨g, 5, none⟩ = false ∧ w.frozen? ⟨g, 6, none⟩ = false := ⟨(blk_cell h 0).trans rfl, (blk_cell h 1).trans rfl, (blk_cell h 2).trans rfl, (blk_cell h 3).trans rfl, (blk_cell h 4).trans rfl, (blk_cell h 5).trans rfl, (blk_cell h 6).trans rfl, blk_frozen h 0, blk_frozen h 1, blk_frozen h 2, blk_frozen h 3, blk_frozen h 4, blk_frozen h 5, blk_frozen h 6⟩
theorem cl8 {w : World} {g : Nat} {t : TypeId} {c0 c1 c2 c3 c4 c5 c6 c7 : Value} (h : w.heap[g]? = some (.cells #[c0, c1, c2, c3, c4, c5, c6, c7] t (0, 0))) : w.cell? ⟨g, 0, none⟩ = some c0 ∧ w.cell? ⟨g, 1, none⟩ = some c1 ∧ w.cell? ⟨g, 2, none⟩ = some c2 ∧ w.cell? ⟨g, 3, none⟩ = some c3 ∧ w.cell? ⟨g, 4, none⟩ = some c4 ∧ w.cell? ⟨g, 5, none⟩ = some c5 ∧ w.cell? ⟨g, 6, none⟩ = some c6 ∧ w.cell? ⟨g, 7, none⟩ = some c7 ∧ w.frozen? ⟨g, 0, none⟩ = false ∧ w.frozen? ⟨g, 1, none⟩ = false ∧ w.frozen? ⟨g, 2, none⟩ = false ∧ w.frozen? ⟨g, 3, none⟩ = false ∧ w.frozen? ⟨g, 4, none⟩ = false ∧ w.frozen? ⟨g, 5, none⟩ = false ∧ w.frozen? ⟨g, 6, none⟩ = false ∧ w.frozen? ⟨g, 7, none⟩ = false := ⟨(blk_cell h 0).trans rfl, (blk_cell h 1).trans rfl, (blk_cell h 2).trans rfl, (blk_cell h 3).trans rfl, (blk_cell h 4).trans rfl, (blk_cell h 5).trans rfl, (blk_cell h 6).trans rfl, (blk_cell h 7).trans rfl, blk_frozen h 0, blk_frozen h 1, blk_frozen h 2, blk_frozen h 3, blk_frozen h 4, blk_frozen h 5, blk_frozen h 6, blk_frozen h 7⟩
theorem cl9 {w : World} {g : Nat} {t : TypeId} {c0 c1 c2 c3 c4 c5 c6 c7 c8 : Value} (h : w.heap[g]? = some (.cells #[c0, c1, c2, c3, c4, c5, c6, c7, c8] t (0, 0))) : w.cell? ⟨g, 0, none⟩ = some c0 ∧ w.cell? ⟨g, 1, none⟩ = some c1 ∧ w.cell? ⟨g, 2, none⟩ = some c2 ∧ w.cell? ⟨g, 3, none⟩ = some c3 ∧ w.cell? ⟨g, 4, none⟩ = some c4 ∧ w.cell? ⟨g, 5, none⟩ = some c5 ∧ w.cell? ⟨g, 6, none⟩ = some c6 ∧ w.cell? ⟨g, 7, none⟩ = some c7 ∧ w.cell? ⟨g, 8, none⟩ = some c8 ∧ w.frozen? ⟨g, 0, none⟩ = false ∧ w.frozen? ⟨g, 1, none⟩ = false ∧ w.frozen? ⟨g, 2, none⟩ = false ∧ w.frozen? ⟨g, 3, none⟩ = false ∧ w.frozen? ⟨g, 4, none⟩ = false ∧ w.frozen? ⟨g, 5, none⟩ = false ∧ w.frozen? ⟨g, 6, none⟩ = false ∧ w.frozen? ⟨g, 7, none⟩ = false ∧ w.frozen? ⟨g, 8, none⟩ = false := ⟨(blk_cell h 0).trans rfl, (blk_cell h 1).trans rfl, (blk_cell h 2).trans rfl, (blk_cell h 3).trans rfl, (blk_cell h 4).trans rfl, (blk_cell h 5).trans rfl, (blk_cell h 6).trans rfl, (blk_cell h 7).trans rfl, (blk_cell h 8).trans rfl, blk_frozen h 0, blk_frozen h 1, blk_frozen h 2, blk_frozen h 3, blk_frozen h 4, blk_frozen h 5, blk_frozen h 6, blk_frozen h 7, blk_frozen h 8⟩
theorem cl10 {w : World} {g : Nat} {t : TypeId} {c0 c1 c2 c3 c4 c5 c6 c7 c8 c9 : Value} (h : w.heap[g]? = some (.cells #[c0, c1, c2, c3, c4, c5, c6, c7, c8, c9] t (0, 0))) : w.cell? ⟨g, 0, none⟩ = some c0 ∧ w.cell? ⟨g, 1, none⟩ = some c1 ∧ w.cell? ⟨g, 2, none⟩ = some c2 ∧ w.cell? ⟨g, 3, none⟩ = some c3 ∧ w.cell? ⟨g, 4, none⟩ = some c4 ∧ w.cell? ⟨g, 5, none⟩ = some c5 ∧ w.cell? ⟨g, 6, none⟩ = some c6 ∧ w.cell? ⟨g, 7, none⟩ = some c7 ∧ w.cell? ⟨g, 8, none⟩ = some c8 ∧ w.cell? ⟨g, 9, none⟩ = some c9 ∧ w.frozen? ⟨g, 0, none⟩ = false ∧ w.frozen? ⟨g, 1, none⟩ = false ∧ w.frozen? ⟨g, 2, none⟩ = false ∧ w.frozen? ⟨g, 3, none⟩ = false ∧ w.frozen? ⟨g, 4, none⟩ = false ∧ w.frozen? ⟨g, 5, none⟩ = false ∧ w.frozen? ⟨g, 6, none⟩ = false ∧ w.frozen? ⟨g, 7, none⟩ = false ∧ w.frozen? ⟨g, 8, none⟩ = false ∧ w.frozen? ⟨g, 9, none⟩ = false := ⟨(blk_cell h 0).trans rfl, (blk_cell h 1).trans rfl, (blk_cell h 2).trans rfl, (blk_cell h 3).trans rfl, (blk_cell h 4).trans rfl, (blk_cell h 5).trans rfl, (blk_cell h 6).trans rfl, (blk_cell h 7).trans rfl, (blk_cell h 8).trans rfl, (blk_cell h 9).trans rfl, blk_frozen h 0, blk_frozen h 1, blk_frozen h 2, blk_frozen h 3, blk_frozen h 4, blk_frozen h 5, blk_frozen h 6, blk_frozen h 7, blk_frozen h 8, blk_frozen h 9⟩
theorem cl11 {w : World} {g : Nat} {t : TypeId} {c0 c1 c2 c3 c4 c5 c6 c7 c8 c9 c10 : Value} (h : w.heap[g]? = some (.cells #[c0, c1, c2, c3, c4, c5, c6, c7, c8, c9, c10] t (0, 0))) : w.cell? ⟨g, 0, none⟩ = some c0 ∧ w.cell? ⟨g, 1, none⟩ = some c1 ∧ w.cell? ⟨g, 2, none⟩ = some c2 ∧ w.cell? ⟨g, 3, none⟩ = some c3 ∧ w.cell? ⟨g, 4, none⟩ = some c4 ∧ w.cell? ⟨g, 5, none⟩ = some c5 ∧ w.cell? ⟨g, 6, none⟩ = some c6 ∧ w.cell? ⟨g, 7, none⟩ = some c7 ∧ w.cell? ⟨g, 8, none⟩ = some c8 ∧ w.cell? ⟨g, 9, none⟩ = some c9 ∧ w.cell? ⟨g, 10, none⟩ = some c10 ∧ w.frozen? ⟨g, 0, none⟩ = false ∧ w.frozen? ⟨g, 1, none⟩ = false ∧ w.frozen? ⟨g, 2, none⟩ = false ∧ w.frozen? ⟨g, 3, none⟩ = false ∧ w.frozen? ⟨g, 4, none⟩ = false ∧ w.frozen? ⟨g, 5, none⟩ = false ∧ w.frozen? ⟨g, 6, none⟩ = false ∧ w.frozen? ⟨g, 7, none⟩ = false ∧ w.frozen? ⟨g, 8, none⟩ = false ∧ w.frozen? ⟨g, 9, none⟩ = false ∧ w.frozen? ⟨g, 10, none⟩ = false := ⟨(blk_cell h 0).trans rfl, (blk_cell h 1).trans rfl, (blk_cell h 2).trans rfl, (blk_cell h 3).trans rfl, (blk_cell h 4).trans rfl, (blk_cell h 5).trans rfl, (blk_cell h 6).trans rfl, (blk_cell h 7).trans rfl, (blk_cell h 8).trans rfl, (blk_cell h 9).trans rfl, (blk_cell h 10).trans rfl, blk_frozen h 0, blk_frozen h 1, blk_frozen h 2, blk_frozen h 3, blk_frozen h 4, blk_frozen h 5, blk_frozen h 6, blk_frozen h 7, blk_frozen h 8, blk_frozen h 9, blk_frozen h 10⟩
theorem cl12 {w : World} {g : Nat} {t : TypeId} {c0 c1 c2 c3 c4 c5 c6 c7 c8 c9 c10 c11 : Value} (h : w.heap[g]? = some (.cells #[c0, c1, c2, c3, c4, c5, c6, c7, c8, c9, c10, c11] t (0, 0))) : w.cell? ⟨g, 0, none⟩ = some c0 ∧ w.cell? ⟨g, 1, none⟩ = some c1 ∧ w.cell? ⟨g, 2, none⟩ = some c2 ∧ w.cell? ⟨g, 3, none⟩ = some c3 ∧ w.cell? ⟨g, 4, none⟩ = some c4 ∧ w.cell? ⟨g, 5, none⟩ = some c5 ∧ w.cell? ⟨g, 6, none⟩ = some c6 ∧ w.cell? ⟨g, 7, none⟩ = some c7 ∧ w.cell? ⟨g, 8, none⟩ = some c8 ∧ w.cell? ⟨g, 9, none⟩ = some c9 ∧ w.cell? ⟨g, 10, none⟩ = some c10 ∧ w.cell? ⟨g, 11, none⟩ = some c11 ∧ w.frozen? ⟨g, 0, none⟩ = false ∧ w.frozen? ⟨g, 1, none⟩ = false ∧ w.frozen? ⟨g, 2, none⟩ = false ∧ w.frozen? ⟨g, 3, none⟩ = false ∧ w.frozen? ⟨g, 4, none⟩ = false ∧ w.frozen? ⟨g, 5, none⟩ = false ∧ w.frozen? ⟨g, 6, none⟩ = false ∧ w.frozen? ⟨g, 7, none⟩ = false ∧ w.frozen? ⟨g, 8, none⟩ = false ∧ w.frozen? ⟨g, 9, none⟩ = false ∧ w.frozen? ⟨g, 10, none⟩ = false ∧ w.frozen? ⟨g, 11, none⟩ = false := ⟨(blk_cell h 0).trans rfl, (blk_cell h 1).trans rfl, (blk_cell h 2).trans rfl, (blk_cell h 3).trans rfl, (blk_cell h 4).trans rfl, (blk_cell h 5).trans rfl, (blk_cell h 6).trans rfl, (blk_cell h 7).trans rfl, (blk_cell h 8).trans rfl, (blk_cell h 9).trans rfl, (blk_cell h 10).trans rfl, (blk_cell h 11).trans rfl, blk_frozen h 0, blk_frozen h 1, blk_frozen h 2, blk_frozen h 3, blk_frozen h 4, blk_frozen h 5, blk_frozen h 6, blk_frozen h 7, blk_frozen h 8, blk_frozen h 9, blk_frozen h 10, blk_frozen h 11⟩
theorem sTA {α : Type} (l : List α) (i : Nat) (a : α) : l.toArray.setIfInBounds i a = (l.set i a).toArray := List.setIfInBounds_toArray l i a
theorem sZ {α : Type} {x : α} {xs : List α} {a : α} : (x :: xs).set 0 a = a :: xs := List.set_cons_zero
theorem sS {α : Type} {x : α} {xs : List α} {i : Nat} {a : α} : (x :: xs).set (i + 1) a = x :: xs.set i a := List.set_cons_succ
theorem aK {p : Prop} (h : p) : Aside0 p := ⟨h⟩
theorem bDN {B : Nat} {w W : World} (h : Below B w W) (n : Nat) : Below B w (W.drewN n) := pw_below_drewN h n
theorem bD1 {base : Nat} {w W : World} (h : Below base w W) : Below base w W.drew := below_drew1 h
theorem bAl {w W : World} (h : Below w.heap.size w W) (o : Obj) : Below w.heap.size w (W.alloc o) := below_alloc h o
theorem bSt {w W : World} {g j : Nat} {v : Value} (h : Below w.heap.size w W) (hg : w.heap.size ≤ g) : Below w.heap.size w (W.setCell ⟨g, j, none⟩ v) := below_set h hg
theorem bSz {w W : World} (h : Below w.heap.size w W) : w.heap.size ≤ W.heap.size := below_size h
theorem bSp {w W w2 : World} (h : Below w.heap.size w W) (k : Below W.heap.size W w2) : Below w.heap.size w w2 := below_step h k
theorem kC {w : World} {g : Nat} {t : TypeId} {cs : Array Value} (h : w.heap[g]? = some (.cells cs t (0, 0))) (i : Nat) : w.cell? ⟨g, i, none⟩ = cs[i]? := blk_cell h i
theorem kF {w : World} {g : Nat} {t : TypeId} {cs : Array Value} (h : w.heap[g]? = some (.cells cs t (0, 0))) (i : Nat) : w.frozen? ⟨g, i, none⟩ = false := blk_frozen h i
theorem kA {w : World} {g : Nat} {o : Obj} (h : w.heap[g]? = some o) (o' : Obj) : (w.alloc o').heap[g]? = some o := blk_alloc h o'
theorem kDN {w : World} {g : Nat} {o : Obj} (h : w.heap[g]? = some o) (n : Nat) : (w.drewN n).heap[g]? = some o := blk_drewN h n
theorem kD {w : World} {g : Nat} {o : Obj} (h : w.heap[g]? = some o) : w.drew.heap[g]? = some o := blk_drew h
theorem zN {w0 W : World} {g gb : Nat} {o : Obj} (A : Aside0 (w0.heap[g]? = some o)) (hg : gb = W.heap.size) (h : w0.heap[g]? = some o → W.heap[g]? = some o := by intro z_; (with_reducible repeat (first | refine kDN ?_ _ | refine kD ?_ | refine kA ?_ _)); exact z_) : Aside0 (g ≠ gb) := ⟨by rw [hg]; exact Nat.ne_of_lt (blk_lt (h A.out))⟩
theorem zQ {w : World} {g : Nat} {t : TypeId} {cs : Array Value} {v : Value} (h : Aside0 (w.heap[g]? = some (.cells cs t (0, 0)))) (i : Nat) (e : cs[i]? = some v := by rfl) : w.cell? ⟨g, i, none⟩ = some v := (blk_cell h.out i).trans e
theorem zK {A B : Prop} (h : Aside0 A) (f : A → B := by intro z_; (with_reducible repeat (first | refine kDN ?_ _ | refine kD ?_ | refine kA ?_ _)); exact z_) : B := f h.out
theorem zA {A B : Prop} (h : Aside0 A) (f : A → B := by intro z_; (with_reducible repeat (first | apply Kd.R_alloc | apply Kd.R_drewN | apply Kd.R_drew)); exact z_) : B := f h.out
theorem zB {w0 W w' : World} {g : Nat} {o : Obj} (A : Aside0 (w0.heap[g]? = some o)) (hb : Below W.heap.size W w') (h : w0.heap[g]? = some o → W.heap[g]? = some o := by intro z_; (with_reducible repeat (first | refine kDN ?_ _ | refine kD ?_ | refine kA ?_ _)); exact z_) : Aside0 (w'.heap[g]? = some o) := ⟨blk_below (h A.out) hb⟩
theorem zC {A B : Prop} (h : A) (f : A → B := by intro z_; repeat (first | exact z_ | (with_reducible refine Kd.C_alloc ?_ _) | (with_reducible refine Kd.C_drewN ?_ _) | (with_reducible refine Kd.C_drew ?_))) : B := f h
theorem zD {A : Prop} (f : A := by (try simp only [List.map_toArray, List.map_cons, List.map_nil]); first | done | rfl | (simp only [List.length_drop, List.length_take]; rfl)) : A := f
theorem zH0 {A B : Prop} (h : Aside0 A) (f : A → B := by intro z_; repeat (first | (with_reducible first | exact z_ | apply bAl | apply bDN | apply bD1) | exact z_)) : B := f h.out
theorem zH1 {A B C0 : Prop} (h : Aside0 A) (g0 : Aside0 C0) (f : A → C0 → B := by intro z_ y0_; repeat (first | (with_reducible first | exact z_ | apply bAl | apply bDN | apply bD1 | refine bSt ?_ y0_) | exact z_)) : B := f h.out g0.out
theorem zH3 {A B C0 C1 C2 : Prop} (h : Aside0 A) (g0 : Aside0 C0) (g1 : Aside0 C1) (g2 : Aside0 C2) (f : A → C0 → C1 → C2 → B := by intro z_ y0_ y1_ y2_; repeat (first | (with_reducible first | exact z_ | apply bAl | apply bDN | apply bD1 | refine bSt ?_ y0_ | refine bSt ?_ y1_ | refine bSt ?_ y2_) | exact z_)) : B := f h.out g0.out g1.out g2.out

end Go.Proofs.YtdjdleldocfpaaaDoor.F
end

section
namespace Go.Proofs.YtdjdleldocfpaaaDoor.F
open Go.RowKit Go.Proofs.YtdjdleldocfpaaaDoorW.PrintWords Go.Proofs.YtdjdleldocfpaaaDoorW.PrintLast Go.Proofs.YtdjdleldocfpaaaDoorW.PrintMore
set_option linter.unusedVariables false
set_option linter.unusedSimpArgs false
attribute [local go_sem] max2_int min2_int max_two min_two
set_option maxHeartbeats 4000000 in
set_option maxRecDepth 100000 in
theorem slices_Clone_int.calls (A0 : Option Addr) (c0 : Nat) (l0 : List Int) (r : List Int) (w : World) (hr0 : Kd.C (Kd.int .i64) w A0 l0.length l0) (hc0 : l0.length ≤ c0) (h : slices_Clone_int.f l0 = some r) :
  Calls Tryd.prog 51 #[.slice A0 l0.length c0] w fun e w' => ∃ v0_ : Value, e = .returned (v0_) ∧ Kd.R (Kd.int .i64) 3 w' w.heap.size (fun _ => True) v0_ r ∧ Below w.heap.size w w' := by
 unfold slices_Clone_int.f at h
 by_cases hl : l0.length < 17592186044416
 ·rw [if_pos hl] at h
  obtain rfl := Option.some.inj h
  have hle := aK (show (([] : List Int).length + l0.length) * 8 ≤ 140737488355328 by simp; omega)
  clear h hl hc0
  have hnil : ∀ (w : World) (a : Option Addr) (n c n' c' : Nat), (binOp .eql 42 (.slice a n c) (.slice none n' c')).run Tryd.prog w = .ok (.bool a.isNone) w := fun w a n c n' c' => Go.Lib.run_eql_slice_nil w _ _ a n c n' c' Tryd.underlying42
  cases A0 with
  | none =>
   have h0 : l0 = [] := by
    rcases Nat.eq_zero_or_pos l0.length with h0 | h0
    ·exact List.eq_nil_of_length_eq_zero h0
    ·obtain ⟨ad, e, _⟩ := hr0.2.2 h0
     cases e
   subst h0
   clear hr0
   go_enter Tryd.func51, Tryd.ntmps51
   go_wp2
   go_ret
   exact ⟨_, rfl, Kd.R_nil _ _ _ _ _, Below.refl _ _⟩
  | some ad =>
   have HR := aK hr0
   clear hr0
   go_enter Tryd.func51, Tryd.ntmps51
   go_wp2_with (first | ((with_reducible refine gate_dst (N := 5) rfl ?_); refine Kd.R_lit (Kd.int .i64) (w0 := w) w.heap.size 3 ?hg (N := 5) ?hd (xs := ([] : List Int)) (inner := []) (ok := fun _ => True) (okp := fun _ => True) ?hr ?hp (fun _ hk => hk) trivial (Below.refl _ _) (Nat.le_refl _) (by simp) ?_; (case hd => rfl); (case hg => rfl); (case hr => first | (go_simp; done) | (go_simp; rfl)); (case hp => exact (Reps.none _ _)); intro v1 w1 ho hb hg_ hnew_; have HO := aK ho; have HB := aK hb; have HV := aK hnew_; clear hg_ hnew_ ho hb) | (at_builtin; refine Kd.R_append_rows (Kd.int .i64) (w0 := w) w.heap.size rfl (.tmp 5) (.tmp 6) 42 3 (.int .i64 0) 8 rfl Tryd.underlying42 info3 rfl (by decide) (by omega) v1 [] l0 (some ad) l0.length c0 (fun _ => True) (fun _ => False) rfl rfl HO.out (Kd.C_below HR.out HB.out) (fun _ _ h => h) (fun _ h => h.elim) (fun _ _ => trivial) HB.out HB.out.size hle.out ?_; intro v2 w2 ho2 hb2 hg2 hat2; rw [List.nil_append] at ho2; have HO2 := aK ho2; have HB2 := aK hb2; clear ho2 hb2 hg2 hat2))
   go_ret
   exact ⟨_, rfl, HO2.out, HB2.out⟩
 ·rw [if_neg hl] at h
  exact absurd h (by simp)
theorem slices_Clone_int.ctr {l0 : List Int} {r : List Int} (h : slices_Clone_int.f l0 = some r) : Ctr Tryd.prog 51 [.pr 1 (l0.map eI)] (.ow 3 1 (r.map eI)) := by
  refine ⟨enters_of Tryd.func51 rfl rfl, fun w ys _ hys => ?_⟩
  simp only [RepL, Rep] at hys
  obtain ⟨_, _, rfl, q1, rfl⟩ := hys
  obtain ⟨_, _, rfl, hr1, hc1⟩ := C_of_at E_eI q1
  refine (slices_Clone_int.calls _ _ _ _ w hr1 hc1 h).mono ?_
  rintro _ _ ⟨v, rfl, hv, hb⟩
  exact ⟨v, (bk v).toList, rfl, by simp only [RepR]; exact ⟨row_of_R E_eI hv, E_eI.row _, E_eI.pos, trivial⟩, by cases bk v <;> simp, (by first | exact hb | exact hb.below)⟩
set_option maxRecDepth 20000
set_option maxHeartbeats 4000000
open Nat renaming reduceAdd → p1, reduceSub → p2, reduceMul → p3, reduceDiv → p4, reduceBNe → p5, reduceBEq → p6, reduceEqDiff → p7, reduceLeDiff → p8, reduceLT → p9
open Int renaming reduceLE → p10, reduceLT → p11, reduceEq → p12
theorem impl_GridOk.ctr {a0_0 : Int} {a0_1 : Int} {r : Bool} (h : impl_GridOk.f a0_0 a0_1 = some r) : Ctr Tryd.prog 106 [.ag [.v (.int .i64 a0_0), .v (.int .i64 a0_1)]] (.v (.bool r)) := by
  refine Ctr_of tyOk hm Tryd.func106 rfl rfl (by kernel_rfl) (n := 20) (rv := [.tmp 2]) rfl rfl ?_
  simp only [W, List.replicate]
  unfold impl_GridOk.f at h
  replace h := ifS h; rcases h with ⟨c1, h⟩ | ⟨c1, h⟩
  · replace h := ifS h; rcases h with ⟨c2, h⟩ | ⟨c2, h⟩
    · replace h := ifS h; rcases h with ⟨c3, h⟩ | ⟨c3, h⟩
      · cases h
        try simp only [W, c1, c2, c3, p1, p2, p3, p4, p5, p6, p7, p8, p9, p10, p11, p12]
      · cases h
        try simp only [W, c1, c2, c3, p1, p2, p3, p4, p5, p6, p7, p8, p9, p10, p11, p12]
    · cases h
      try simp only [W, c1, c2, p1, p2, p3, p4, p5, p6, p7, p8, p9, p10, p11, p12]
  · cases h
    try simp only [W, c1, p1, p2, p3, p4, p5, p6, p7, p8, p9, p10, p11, p12]
set_option maxHeartbeats 8000000 in
set_option maxRecDepth 100000 in
theorem impl_GridOk.calls (a0_0 : Int) (a0_1 : Int) (r : Bool) (w : World) (h : impl_GridOk.f a0_0 a0_1 = some r) :
  Calls Tryd.prog 106 #[.agg #[.int .i64 a0_0, .int .i64 a0_1]] w fun e w' => e = .returned (.bool r) ∧ Below w.heap.size w w' := by
 have hu39 := Tryd.underlying39
 have HB := aK (Below.refl w.heap.size w)
 have H : (if a0_0 ≥ 1 then (if a0_0 ≤ 4 then (if a0_1 ≥ 1 then (some (decide (a0_1 ≤ 4))) else (some false)) else (some false)) else (some false)) = some r := h
 clear h
 by_cases c2 : a0_0 ≥ 1
 ·rw [if_pos c2] at H
  have c2b0 : decide (1 ≤ a0_0) = true := decide_eq_true c2
  clear c2
  by_cases c3 : a0_0 ≤ 4
  ·rw [if_pos c3] at H
   have c3b0 : decide (a0_0 ≤ 4) = true := decide_eq_true c3
   clear c3
   by_cases c4 : a0_1 ≥ 1
   ·rw [if_pos c4] at H
    have c4b0 : decide (1 ≤ a0_1) = true := decide_eq_true c4
    clear c4
    obtain rfl := Option.some.inj H
    go_enter Tryd.func106, Tryd.ntmps106
    go_wp2_with (first | ((with_reducible refine gate_dst (N := 1) rfl ?_); refine box_event ?hg (N := 1) ?hd (cs := #[.int .i64 a0_0, .int .i64 a0_1]) (t := 39) ?hr ?_; (case hd => rfl); (case hg => rfl); (case hr => first | (go_simp; done) | (go_simp; rfl)); intro gb950 hg w5 hbox hb; have BK950 := aK (hbox); have GW950 := aK ((by rw [hg]; exact (bSz (zH0 HB)) : w.heap.size ≤ gb950)); replace HB := aK (bSp (zH0 HB) hb); have GE950 := GW950; clear hb hbox hg; obtain ⟨hcz6_0, hcz6_1, hfz6_0, hfz6_1⟩ := cl2 BK950.out))
    go_ret
    exact ⟨by first | rfl | (simp [errW_none, errW_some] <;> rfl) | (simp [*, errW_none, errW_some] <;> rfl), by repeat (first | (with_reducible first | exact HB.out | apply bAl | apply bDN | apply bD1 | refine bSt ?_ GE950.out) | exact HB.out)⟩
   ·rw [if_neg c4] at H
    have c4b0 : decide (1 ≤ a0_1) = false := decide_eq_false c4
    clear c4
    obtain rfl := Option.some.inj H
    go_enter Tryd.func106, Tryd.ntmps106
    go_wp2_with (first | ((with_reducible refine gate_dst (N := 1) rfl ?_); refine box_event ?hg (N := 1) ?hd (cs := #[.int .i64 a0_0, .int .i64 a0_1]) (t := 39) ?hr ?_; (case hd => rfl); (case hg => rfl); (case hr => first | (go_simp; done) | (go_simp; rfl)); intro gb950 hg w7 hbox hb; have BK950 := aK (hbox); have GW950 := aK ((by rw [hg]; exact (bSz (zH0 HB)) : w.heap.size ≤ gb950)); replace HB := aK (bSp (zH0 HB) hb); have GE950 := GW950; clear hb hbox hg; obtain ⟨hcz8_0, hcz8_1, hfz8_0, hfz8_1⟩ := cl2 BK950.out))
    go_ret
    exact ⟨by first | rfl | (simp [errW_none, errW_some] <;> rfl) | (simp [*, errW_none, errW_some] <;> rfl), by repeat (first | (with_reducible first | exact HB.out | apply bAl | apply bDN | apply bD1 | refine bSt ?_ GE950.out) | exact HB.out)⟩
  ·rw [if_neg c3] at H
   have c3b0 : decide (a0_0 ≤ 4) = false := decide_eq_false c3
   clear c3
   obtain rfl := Option.some.inj H
   go_enter Tryd.func106, Tryd.ntmps106
   go_wp2_with (first | ((with_reducible refine gate_dst (N := 1) rfl ?_); refine box_event ?hg (N := 1) ?hd (cs := #[.int .i64 a0_0, .int .i64 a0_1]) (t := 39) ?hr ?_; (case hd => rfl); (case hg => rfl); (case hr => first | (go_simp; done) | (go_simp; rfl)); intro gb950 hg w9 hbox hb; have BK950 := aK (hbox); have GW950 := aK ((by rw [hg]; exact (bSz (zH0 HB)) : w.heap.size ≤ gb950)); replace HB := aK (bSp (zH0 HB) hb); have GE950 := GW950; clear hb hbox hg; obtain ⟨hcz10_0, hcz10_1, hfz10_0, hfz10_1⟩ := cl2 BK950.out))
   go_ret
   exact ⟨by first | rfl | (simp [errW_none, errW_some] <;> rfl) | (simp [*, errW_none, errW_some] <;> rfl), by repeat (first | (with_reducible first | exact HB.out | apply bAl | apply bDN | apply bD1 | refine bSt ?_ GE950.out) | exact HB.out)⟩
 ·rw [if_neg c2] at H
  have c2b0 : decide (1 ≤ a0_0) = false := decide_eq_false c2
  clear c2
  obtain rfl := Option.some.inj H
  go_enter Tryd.func106, Tryd.ntmps106
  go_wp2_with (first | ((with_reducible refine gate_dst (N := 1) rfl ?_); refine box_event ?hg (N := 1) ?hd (cs := #[.int .i64 a0_0, .int .i64 a0_1]) (t := 39) ?hr ?_; (case hd => rfl); (case hg => rfl); (case hr => first | (go_simp; done) | (go_simp; rfl)); intro gb950 hg w11 hbox hb; have BK950 := aK (hbox); have GW950 := aK ((by rw [hg]; exact (bSz (zH0 HB)) : w.heap.size ≤ gb950)); replace HB := aK (bSp (zH0 HB) hb); have GE950 := GW950; clear hb hbox hg; obtain ⟨hcz12_0, hcz12_1, hfz12_0, hfz12_1⟩ := cl2 BK950.out))
  go_ret
  exact ⟨by first | rfl | (simp [errW_none, errW_some] <;> rfl) | (simp [*, errW_none, errW_some] <;> rfl), by repeat (first | (with_reducible first | exact HB.out | apply bAl | apply bDN | apply bD1 | refine bSt ?_ GE950.out) | exact HB.out)⟩
theorem impl_CountGaps.ctr {a0_0 : Int} {a0_1 : Int} {r : Int} (h : impl_CountGaps.f a0_0 a0_1 = some r) : Ctr Tryd.prog 110 [.ag [.v (.int .i64 a0_0), .v (.int .i64 a0_1)]] (.v (.int .i64 r)) := by
  refine Ctr_of tyOk hm Tryd.func110 rfl rfl (by kernel_rfl) (n := 18) (rv := [.tmp 2]) rfl rfl ?_
  simp only [W, List.replicate]
  unfold impl_CountGaps.f at h
  replace h := bnd h; obtain ⟨t1, A, h⟩ := h
  try simp only [W, p1, p2, p3, p4, p5, p6, p7, p8, p9, p10, p11, p12]
  refine callR (impl_GridOk.ctr A) ?_
  replace h := ifT h; rcases h with ⟨rfl, h⟩ | ⟨rfl, h⟩
  · cases h
    try simp only [W, p1, p2, p3, p4, p5, p6, p7, p8, p9, p10, p11, p12]
  · cases h
    try simp only [W, p1, p2, p3, p4, p5, p6, p7, p8, p9, p10, p11, p12]
set_option maxHeartbeats 8000000 in
set_option maxRecDepth 100000 in
theorem impl_CountGaps.calls (a0_0 : Int) (a0_1 : Int) (r : Int) (w : World) (h : impl_CountGaps.f a0_0 a0_1 = some r) :
  Calls Tryd.prog 110 #[.agg #[.int .i64 a0_0, .int .i64 a0_1]] w fun e w' => e = .returned (.int .i64 r) ∧ Below w.heap.size w w' := by
 have hu39 := Tryd.underlying39
 have HB := aK (Below.refl w.heap.size w)
 have H : ((impl_GridOk.f a0_0 a0_1).bind fun t952 => (if t952 = true then (some (wrap64 ((wrap64 ((wrap64 (a0_0 - 1)) * a0_1)) + (wrap64 (a0_0 * (wrap64 (a0_1 - 1))))))) else (some 0))) = some r := h
 clear h
 replace H := Option.bind_eq_some_iff.mp H
 obtain ⟨t952, A20, H⟩ := H
 replace H : (if t952 = true then (some (wrap64 ((wrap64 ((wrap64 (a0_0 - 1)) * a0_1)) + (wrap64 (a0_0 * (wrap64 (a0_1 - 1))))))) else (some 0)) = some r := H
 have A2 := aK A20
 clear A20
 by_cases c3 : t952 = true
 ·subst c3
  have H1 : (some (wrap64 ((wrap64 ((wrap64 (a0_0 - 1)) * a0_1)) + (wrap64 (a0_0 * (wrap64 (a0_1 - 1))))))) = some r := by rw [if_pos rfl] at H; exact H
  clear H
  have H := H1
  clear H1
  obtain rfl := Option.some.inj H
  go_enter Tryd.func110, Tryd.ntmps110
  go_wp2_with (first | ((with_reducible refine gate_dst (N := 1) rfl ?_); refine box_event ?hg (N := 1) ?hd (cs := #[.int .i64 a0_0, .int .i64 a0_1]) (t := 39) ?hr ?_; (case hd => rfl); (case hg => rfl); (case hr => first | (go_simp; done) | (go_simp; rfl)); intro gb951 hg w4 hbox hb; have BK951 := aK (hbox); have GW951 := aK ((by rw [hg]; exact (bSz (zH0 HB)) : w.heap.size ≤ gb951)); replace HB := aK (bSp (zH0 HB) hb); have GE951 := GW951; clear hb hbox hg; obtain ⟨hcz5_0, hcz5_1, hfz5_0, hfz5_1⟩ := cl2 BK951.out) | ((with_reducible refine gate_callee (f := 106) rfl ?_); refine goesL_ (some 4) rfl rfl Tryd.func106 (by kernel_rfl) rfl #[.agg #[.int .i64 a0_0, .int .i64 a0_1]] rfl zD ?_; (with_reducible refine (impl_GridOk.calls a0_0 a0_1 true _ A2.out).mono ?_); rintro e w6 ⟨rfl, hb⟩; refine ⟨_, rfl, ?_⟩; replace BK951 := zB BK951 hb; replace HB := aK (bSp (zH1 HB GE951) hb); (try clear hb); (try clear hb2); (try clear hk); (try clear hi); obtain ⟨hcz7_0, hcz7_1, hfz7_0, hfz7_1⟩ := cl2 BK951.out))
  go_ret
  exact ⟨by first | rfl | (simp [errW_none, errW_some] <;> rfl) | (simp [*, errW_none, errW_some] <;> rfl), by repeat (first | (with_reducible first | exact HB.out | apply bAl | apply bDN | apply bD1 | refine bSt ?_ GE951.out) | exact HB.out)⟩
 ·replace c3 := Bool.eq_false_iff.mpr c3
  subst c3
  have H1 : (some 0) = some r := by rw [if_neg (show ¬ (false = true) by decide)] at H; exact H
  clear H
  have H := H1
  clear H1
  obtain rfl := Option.some.inj H
  go_enter Tryd.func110, Tryd.ntmps110
  go_wp2_with (first | ((with_reducible refine gate_dst (N := 1) rfl ?_); refine box_event ?hg (N := 1) ?hd (cs := #[.int .i64 a0_0, .int .i64 a0_1]) (t := 39) ?hr ?_; (case hd => rfl); (case hg => rfl); (case hr => first | (go_simp; done) | (go_simp; rfl)); intro gb951 hg w8 hbox hb; have BK951 := aK (hbox); have GW951 := aK ((by rw [hg]; exact (bSz (zH0 HB)) : w.heap.size ≤ gb951)); replace HB := aK (bSp (zH0 HB) hb); have GE951 := GW951; clear hb hbox hg; obtain ⟨hcz9_0, hcz9_1, hfz9_0, hfz9_1⟩ := cl2 BK951.out) | ((with_reducible refine gate_callee (f := 106) rfl ?_); refine goesL_ (some 4) rfl rfl Tryd.func106 (by kernel_rfl) rfl #[.agg #[.int .i64 a0_0, .int .i64 a0_1]] rfl zD ?_; (with_reducible refine (impl_GridOk.calls a0_0 a0_1 false _ A2.out).mono ?_); rintro e w10 ⟨rfl, hb⟩; refine ⟨_, rfl, ?_⟩; replace BK951 := zB BK951 hb; replace HB := aK (bSp (zH1 HB GE951) hb); (try clear hb); (try clear hb2); (try clear hk); (try clear hi)))
  go_ret
  exact ⟨by first | rfl | (simp [errW_none, errW_some] <;> rfl) | (simp [*, errW_none, errW_some] <;> rfl), by repeat (first | (with_reducible first | exact HB.out | apply bAl | apply bDN | apply bD1 | refine bSt ?_ GE951.out) | exact HB.out)⟩
def impl_MazeOk.T1 : Bool × List (List Nat × List Nat) := (true, [([], []), ([0], [0]), ([1], [1]), ([2, 2], [2]), ([3], [3]), ([4, 3], [3, 4]), ([5, 3], [3, 5]), ([3, 6], [3, 6]), ([7, 3], [7]), ([8], [8]), ([9, 8], [8, 9]), ([8], [8]), ([11, 8], [8, 11]), ([12, 8, 8], [8, 12]), ([13, 8], [8, 13]), ([10, 14, 8], [8, 10, 14]), ([8, 15], [8, 15]), ([16, 13, 0, 1, 2, 3, 4, 5, 6, 7, 8, 9, 10, 11, 12, 13, 14, 15, 16], [16])])
def impl_MazeOk.B1 : List Nat := [0, 1, 3, 7, 15, 31, 63, 127, 255, 511, 1023, 511, 2559, 6655, 14847, 32767, 65535, 131071]
theorem impl_MazeOk.tab1 : rtab .any (opsOf Tryd.f82 1) = impl_MazeOk.T1 := by kernel_rfl
theorem impl_MazeOk.bits1 : waitsOk impl_MazeOk.T1.2 impl_MazeOk.B1 = true := by kernel_rfl
theorem impl_MazeOk.ctr {a0_0 : Int} {a0_1 : Int} {a0_2 : Int} {r : Bool} (h : impl_MazeOk.f a0_0 a0_1 a0_2 = some r) : Ctr Tryd.prog 82 [.ag [.v (.int .i64 a0_0), .v (.int .i64 a0_1), .v (.int .i64 a0_2)]] (.v (.bool r)) := by
  refine Ctr_of tyOk hm Tryd.func82 rfl rfl (by kernel_rfl) (n := 19) (rv := [.tmp 2]) rfl rfl ?_
  simp only [W, List.replicate]
  unfold impl_MazeOk.f at h
  replace h := bnd h; obtain ⟨t1, A, h⟩ := h
  try simp only [W, p1, p2, p3, p4, p5, p6, p7, p8, p9, p10, p11, p12]
  refine callR (impl_GridOk.ctr A) ?_
  replace h := ifT h; rcases h with ⟨rfl, h⟩ | ⟨rfl, h⟩
  · replace h := ifS h; rcases h with ⟨c3, h⟩ | ⟨c3, h⟩
    · replace h := bnd h; obtain ⟨t4, A, h⟩ := h
      try simp only [W, c3, p1, p2, p3, p4, p5, p6, p7, p8, p9, p10, p11, p12]
      refine callR (impl_CountGaps.ctr A) ?_
      replace h := ifN h; obtain ⟨c5, h⟩ := h
      cases h
      try simp only [W, c3, c5, p1, p2, p3, p4, p5, p6, p7, p8, p9, p10, p11, p12]
    · cases h
      try simp only [W, c3, p1, p2, p3, p4, p5, p6, p7, p8, p9, p10, p11, p12]
  · cases h
    try simp only [W, p1, p2, p3, p4, p5, p6, p7, p8, p9, p10, p11, p12]
set_option maxHeartbeats 8000000 in
set_option maxRecDepth 100000 in
theorem impl_MazeOk.calls (a0_0 : Int) (a0_1 : Int) (a0_2 : Int) (r : Bool) (w : World) (h : impl_MazeOk.f a0_0 a0_1 a0_2 = some r) :
  Calls Tryd.prog 82 #[.agg #[.int .i64 a0_0, .int .i64 a0_1, .int .i64 a0_2]] w fun e w' => e = .returned (.bool r) ∧ Below w.heap.size w w' := by
 have hu41 := Tryd.underlying41
 have hu39 := Tryd.underlying39
 have HB := aK (Below.refl w.heap.size w)
 have H : ((impl_GridOk.f a0_0 a0_1).bind fun t954 => (if t954 = true then (if a0_2 ≥ 0 then ((impl_CountGaps.f a0_0 a0_1).bind fun t955 => (if 0 ≤ t955 then (some (decide (a0_2 < (shl .i64 1 t955)))) else (none))) else (some false)) else (some false))) = some r := h
 clear h
 replace H := Option.bind_eq_some_iff.mp H
 obtain ⟨t954, A20, H⟩ := H
 replace H : (if t954 = true then (if a0_2 ≥ 0 then ((impl_CountGaps.f a0_0 a0_1).bind fun t955 => (if 0 ≤ t955 then (some (decide (a0_2 < (shl .i64 1 t955)))) else (none))) else (some false)) else (some false)) = some r := H
 have A2 := aK A20
 clear A20
 by_cases c3 : t954 = true
 ·subst c3
  have H1 : (if a0_2 ≥ 0 then ((impl_CountGaps.f a0_0 a0_1).bind fun t955 => (if 0 ≤ t955 then (some (decide (a0_2 < (shl .i64 1 t955)))) else (none))) else (some false)) = some r := by rw [if_pos rfl] at H; exact H
  clear H
  have H := H1
  clear H1
  by_cases c4 : a0_2 ≥ 0
  ·rw [if_pos c4] at H
   have c4b0 : decide (0 ≤ a0_2) = true := decide_eq_true c4
   clear c4
   replace H := Option.bind_eq_some_iff.mp H
   obtain ⟨t955, A50, H⟩ := H
   replace H : (if 0 ≤ t955 then (some (decide (a0_2 < (shl .i64 1 t955)))) else (none)) = some r := H
   have A5 := aK A50
   clear A50
   by_cases c6 : 0 ≤ t955
   ·rw [if_pos c6] at H
    have c6b0 := eq_true c6
    have c6b1 : decide (0 ≤ t955) = true := decide_eq_true c6
    clear c6
    obtain ⟨ji7, hji7⟩ : ∃ j_ : Int, (shl .i64 1 t955) = j_ := ⟨_, rfl⟩
    replace H : (some (decide (a0_2 < (ji7)))) = some r := by first | (rw [hji7] at H; exact H) | (simp only [hji7] at H ⊢; exact H)
    (try rw [hji7] at A2)
    (try rw [hji7] at A5)
    have hji7_ : (IntKind.i64.wrap (1 * 2 ^ min t955.toNat 64)) = ji7 := hji7
    have hji7z : t955 ≤ 64 → (IntKind.i64.wrap (1 * 2 ^ t955.toNat)) = ji7 := shl_small hji7
    have hji7u : (IntKind.i64.wrap (2 ^ min t955.toNat 64)) = ji7 := by have h_ := hji7_; rw [Int.one_mul] at h_; exact h_
    have hji7v : t955 ≤ 64 → (IntKind.i64.wrap (2 ^ t955.toNat)) = ji7 := fun hle_ => by have h_ := hji7z hle_; rw [Int.one_mul] at h_; exact h_
    have hji7y : (wrap64 (1 * 2 ^ min t955.toNat 64)) = ji7 := (i64_w _).symm.trans hji7_
    have hji7x : t955 ≤ 64 → (wrap64 (1 * 2 ^ t955.toNat)) = ji7 := fun h_ => (i64_w _).symm.trans (hji7z h_)
    obtain rfl := Option.some.inj H
    go_enter Tryd.func82, Tryd.ntmps82
    try go_wp2_with (first | ((with_reducible refine gate_dst (N := 1) rfl ?_); refine box_event ?hg (N := 1) ?hd (cs := #[.int .i64 a0_0, .int .i64 a0_1, .int .i64 a0_2]) (t := 41) ?hr ?_; (case hd => rfl); (case hg => rfl); (case hr => first | (go_simp; done) | (go_simp; rfl)); intro gb953 hg w8 hbox hb; have BK953 := aK (hbox); have GW953 := aK ((by rw [hg]; exact (bSz (zH0 HB)) : w.heap.size ≤ gb953)); replace HB := aK (bSp (zH0 HB) hb); have GE953 := GW953; clear hb hbox hg))
    have n0_ := aK (kD BK953.out)
    have n1_ := aK (bD1 HB.out)
    clear BK953
    clear HB
    have BK953 := n0_
    have HB := n1_
    clear n0_ n1_
    refine start_ (n := 18) (S := fun w' => w'.cell? ⟨gb953, 0, none⟩ = some (.int .i64 a0_0) ∧ w'.cell? ⟨gb953, 1, none⟩ = some (.int .i64 a0_1) ∧ w'.cell? ⟨gb953, 2, none⟩ = some (.int .i64 a0_2)) (ds := []) #[bN,bN,bN,bN,bN,bN,bN,bN,bN,bN,bN,bN,bN,bN,bN,bN,bN,bN] (by kernel_rfl) rfl rfl ⟨zQ BK953 0, zQ BK953 1, zQ BK953 2⟩ (fun hHeld => ?_); refine with_tabW impl_MazeOk.tab1 impl_MazeOk.bits1 (fun HT_ HW_ => ?_)
    generalize w8.drew = w9 at BK953 HB hHeld ⊢
    refine pure_ (i := 0) (N := some 3) (v := ?_) (a' := ?_) #[bY,bN,bN,bN,bN,bN,bN,bN,bN,bN,bN,bN,bN,bN,bN,bN,bN,bN] rfl rfl (any_of HT_.out (by kernel_rfl)) (fun _ _ _ h => h) (Or.inl ⟨by rfl, ?_⟩) ?_ ?_
    rotate_left
    ·intro w'
     go_simp
     with_reducible rfl
    rotate_left
    ·simp only [Act.put, sTA, sZ, sS, i64_w, i32_w]
     rfl
    refine take_ (i := 1) (N := some 4) (v := ?_) (a' := ?_) #[bY,bY,bN,bN,bN,bN,bN,bN,bN,bN,bN,bN,bN,bN,bN,bN,bN,bN] rfl rfl (take_ofW HT_.out HW_.out (by kernel_rfl)) (fun _ _ _ h => h) (Or.inl ⟨by rfl, ?_⟩) hHeld ?_ ?_
    rotate_left
    ·rintro w' ⟨s0, s1, s2⟩
     go_simp
     with_reducible rfl
    rotate_left
    ·simp only [Act.put, sTA, sZ, sS, i64_w, i32_w]
     rfl
    refine one_ (i := 2) (N := some 5) #[bY,bY,bY,bN,bN,bN,bN,bN,bN,bN,bN,bN,bN,bN,bN,bN,bN,bN] rfl rfl (one_of HT_.out (by kernel_rfl)) (by decide) (fun K hK => ?_)
    refine goes_ Tryd.func106 (by kernel_rfl) rfl #[.agg #[.int .i64 a0_0, .int .i64 a0_1]] (by rfl) rfl rfl zD ?_
    with_reducible refine (impl_GridOk.calls a0_0 a0_1 true _ A2.out).mono ?_
    rintro e w10 ⟨rfl, hb⟩
    refine ⟨_, rfl, ?_⟩
    have n0_ := zB BK953 hb
    have n1_ := aK (bSp (zH1 HB GE953) hb)
    clear BK953
    clear HB
    have BK953 := n0_
    have HB := n1_
    clear n0_ n1_
    (try clear hb)
    (try clear hb2)
    (try clear hk)
    (try clear hi)
    refine hK.out _ _ ⟨zQ BK953 0, zQ BK953 1, zQ BK953 2⟩ (fun hHeld => ?_)
    clear hK K
    refine norm_ (a' := ?_) ?_ ?_
    rotate_left
    ·show Act.put _ (some 5) _ = _
     simp only [Act.put, sTA, sZ, sS, i64_w, i32_w]
     rfl
    refine pure_ (i := 3) (N := some 6) (v := ?_) (a' := ?_) #[bY,bY,bY,bY,bN,bN,bN,bN,bN,bN,bN,bN,bN,bN,bN,bN,bN,bN] rfl rfl (any_of HT_.out (by kernel_rfl)) (fun _ _ _ h => h) (Or.inl ⟨by rfl, ?_⟩) ?_ ?_
    rotate_left
    ·intro w'
     go_simp
     with_reducible rfl
    rotate_left
    ·simp only [Act.put, sTA, sZ, sS, i64_w, i32_w]
     rfl
    refine pure_ (i := 4) (N := some 7) (v := ?_) (a' := ?_) #[bY,bY,bY,bY,bY,bN,bN,bN,bN,bN,bN,bN,bN,bN,bN,bN,bN,bN] rfl rfl (any_of HT_.out (by kernel_rfl)) (fun _ _ _ h => h) (Or.inl ⟨by rfl, ?_⟩) ?_ ?_
    rotate_left
    ·intro w'
     go_simp
     with_reducible rfl
    rotate_left
    ·simp only [Act.put, sTA, sZ, sS, i64_w, i32_w]
     rfl
    refine take_ (i := 5) (N := some 8) (v := ?_) (a' := ?_) #[bY,bY,bY,bY,bY,bY,bN,bN,bN,bN,bN,bN,bN,bN,bN,bN,bN,bN] rfl rfl (take_ofW HT_.out HW_.out (by kernel_rfl)) (fun _ _ _ h => h) (Or.inl ⟨by rfl, ?_⟩) hHeld ?_ ?_
    rotate_left
    ·rintro w' ⟨s0, s1, s2⟩
     go_simp
     with_reducible rfl
    rotate_left
    ·simp only [Act.put, sTA, sZ, sS, i64_w, i32_w]
     rfl
    refine pure_ (i := 6) (N := some 9) (v := ?_) (a' := ?_) #[bY,bY,bY,bY,bY,bY,bY,bN,bN,bN,bN,bN,bN,bN,bN,bN,bN,bN] rfl rfl (any_of HT_.out (by kernel_rfl)) (fun _ _ _ h => h) (Or.inl ⟨by rfl, ?_⟩) ?_ ?_
    rotate_left
    ·intro w'
     go_simp
     with_reducible rfl
    rotate_left
    ·simp only [Act.put, sTA, sZ, sS, i64_w, i32_w]
     rfl
    refine pure_ (i := 7) (N := some 10) (v := ?_) (a' := ?_) #[bY,bY,bY,bY,bY,bY,bY,bY,bN,bN,bN,bN,bN,bN,bN,bN,bN,bN] rfl rfl (any_of HT_.out (by kernel_rfl)) (fun _ _ _ h => h) (Or.inl ⟨by rfl, ?_⟩) ?_ ?_
    rotate_left
    ·intro w'
     go_simp
     with_reducible rfl
    rotate_left
    ·simp only [Act.put, sTA, sZ, sS, i64_w, i32_w]
     rfl
    refine pure_ (i := 8) (N := some 11) (v := ?_) (a' := ?_) #[bY,bY,bY,bY,bY,bY,bY,bY,bY,bN,bN,bN,bN,bN,bN,bN,bN,bN] rfl rfl (any_of HT_.out (by kernel_rfl)) (fun _ _ _ h => h) (Or.inl ⟨by rfl, ?_⟩) ?_ ?_
    rotate_left
    ·intro w'
     go_simp
     with_reducible rfl
    rotate_left
    ·simp only [Act.put, sTA, sZ, sS, i64_w, i32_w]
     rfl
    refine pure_ (i := 9) (N := some 12) (v := ?_) (a' := ?_) #[bY,bY,bY,bY,bY,bY,bY,bY,bY,bY,bN,bN,bN,bN,bN,bN,bN,bN] rfl rfl (any_of HT_.out (by kernel_rfl)) (fun _ _ _ h => h) (Or.inl ⟨by rfl, ?_⟩) ?_ ?_
    rotate_left
    ·intro w'
     go_simp
     with_reducible rfl
    rotate_left
    ·simp only [Act.put, sTA, sZ, sS, i64_w, i32_w]
     rfl
    refine pure_ (i := 11) (N := some 14) (v := ?_) (a' := ?_) #[bY,bY,bY,bY,bY,bY,bY,bY,bY,bY,bN,bY,bN,bN,bN,bN,bN,bN] rfl rfl (any_of HT_.out (by kernel_rfl)) (fun _ _ _ h => h) (Or.inl ⟨by rfl, ?_⟩) ?_ ?_
    rotate_left
    ·intro w'
     go_simp
     with_reducible rfl
    rotate_left
    ·simp only [Act.put, sTA, sZ, sS, i64_w, i32_w]
     rfl
    refine take_ (i := 10) (N := some 13) (v := ?_) (a' := ?_) #[bY,bY,bY,bY,bY,bY,bY,bY,bY,bY,bY,bY,bN,bN,bN,bN,bN,bN] rfl rfl (take_ofW HT_.out HW_.out (by kernel_rfl)) (fun _ _ _ h => h) (Or.inl ⟨by rfl, ?_⟩) hHeld ?_ ?_
    rotate_left
    ·rintro w' ⟨s0, s1, s2⟩
     go_simp
     with_reducible rfl
    rotate_left
    ·simp only [Act.put, sTA, sZ, sS, i64_w, i32_w]
     rfl
    refine take_ (i := 12) (N := some 15) (v := ?_) (a' := ?_) #[bY,bY,bY,bY,bY,bY,bY,bY,bY,bY,bY,bY,bY,bN,bN,bN,bN,bN] rfl rfl (take_ofW HT_.out HW_.out (by kernel_rfl)) (fun _ _ _ h => h) (Or.inl ⟨by rfl, ?_⟩) hHeld ?_ ?_
    rotate_left
    ·rintro w' ⟨s0, s1, s2⟩
     go_simp
     with_reducible rfl
    rotate_left
    ·simp only [Act.put, sTA, sZ, sS, i64_w, i32_w]
     rfl
    refine one_ (i := 13) (N := some 16) #[bY,bY,bY,bY,bY,bY,bY,bY,bY,bY,bY,bY,bY,bY,bN,bN,bN,bN] rfl rfl (one_of HT_.out (by kernel_rfl)) (by decide) (fun K hK => ?_)
    refine goes_ Tryd.func110 (by kernel_rfl) rfl #[.agg #[.int .i64 a0_0, .int .i64 a0_1]] (by rfl) rfl rfl zD ?_
    with_reducible refine (impl_CountGaps.calls a0_0 a0_1 t955 _ A5.out).mono ?_
    rintro e w11 ⟨rfl, hb⟩
    refine ⟨_, rfl, ?_⟩
    have n0_ := zB BK953 hb
    have n1_ := aK (bSp (zH1 HB GE953) hb)
    clear BK953
    clear HB
    have BK953 := n0_
    have HB := n1_
    clear n0_ n1_
    (try clear hb)
    (try clear hb2)
    (try clear hk)
    (try clear hi)
    refine hK.out _ _ ⟨zQ BK953 0, zQ BK953 1, zQ BK953 2⟩ (fun hHeld => ?_)
    clear hK K
    refine norm_ (a' := ?_) ?_ ?_
    rotate_left
    ·show Act.put _ (some 16) _ = _
     simp only [Act.put, sTA, sZ, sS, i64_w, i32_w]
     rfl
    refine pure_ (i := 14) (N := some 17) (v := ?_) (a' := ?_) #[bY,bY,bY,bY,bY,bY,bY,bY,bY,bY,bY,bY,bY,bY,bY,bN,bN,bN] rfl rfl (any_of HT_.out (by kernel_rfl)) (fun _ _ _ h => h) (Or.inl ⟨by rfl, ?_⟩) ?_ ?_
    rotate_left
    ·intro w'
     go_simp
     with_reducible rfl
    rotate_left
    ·simp only [Act.put, sTA, sZ, sS, i64_w, i32_w]
     rfl
    refine pure_ (i := 15) (N := some 18) (v := ?_) (a' := ?_) #[bY,bY,bY,bY,bY,bY,bY,bY,bY,bY,bY,bY,bY,bY,bY,bY,bN,bN] rfl rfl (any_of HT_.out (by kernel_rfl)) (fun _ _ _ h => h) (Or.inl ⟨by rfl, ?_⟩) ?_ ?_
    rotate_left
    ·intro w'
     go_simp
     with_reducible rfl
    rotate_left
    ·simp only [Act.put, sTA, sZ, sS, i64_w, i32_w]
     rfl
    refine pure_ (i := 16) (N := some 19) (v := ?_) (a' := ?_) #[bY,bY,bY,bY,bY,bY,bY,bY,bY,bY,bY,bY,bY,bY,bY,bY,bY,bN] rfl rfl (any_of HT_.out (by kernel_rfl)) (fun _ _ _ h => h) (Or.inl ⟨by rfl, ?_⟩) ?_ ?_
    rotate_left
    ·intro w'
     go_simp
     with_reducible rfl
    rotate_left
    ·simp only [Act.put, sTA, sZ, sS, i64_w, i32_w]
     rfl
    refine pure_ (i := 17) (N := some 2) (v := ?_) (a' := ?_) #[bY,bY,bY,bY,bY,bY,bY,bY,bY,bY,bY,bY,bY,bY,bY,bY,bY,bY] rfl rfl (any_of HT_.out (by kernel_rfl)) (fun _ _ _ h => h) (Or.inl ⟨by rfl, ?_⟩) ?_ ?_
    rotate_left
    ·intro w'
     go_simp
     with_reducible rfl
    rotate_left
    ·simp only [Act.put, sTA, sZ, sS, i64_w, i32_w]
     rfl
    refine done_ (done_of HT_.out (by kernel_rfl)) ?_
    try go_wp2
    go_ret
    exact ⟨by first | rfl | (simp [errW_none, errW_some] <;> rfl) | (simp only [← hji7]; first | rfl | (simp [errW_none, errW_some] <;> rfl)) | (simp [*, errW_none, errW_some] <;> rfl), by repeat (first | (with_reducible first | exact HB.out | apply bAl | apply bDN | apply bD1 | refine bSt ?_ GE953.out) | exact HB.out)⟩
   ·rw [if_neg c6] at H
    exact absurd H (by simp)
  ·rw [if_neg c4] at H
   have c4b0 : decide (0 ≤ a0_2) = false := decide_eq_false c4
   clear c4
   obtain rfl := Option.some.inj H
   go_enter Tryd.func82, Tryd.ntmps82
   try go_wp2_with (first | ((with_reducible refine gate_dst (N := 1) rfl ?_); refine box_event ?hg (N := 1) ?hd (cs := #[.int .i64 a0_0, .int .i64 a0_1, .int .i64 a0_2]) (t := 41) ?hr ?_; (case hd => rfl); (case hg => rfl); (case hr => first | (go_simp; done) | (go_simp; rfl)); intro gb953 hg w12 hbox hb; have BK953 := aK (hbox); have GW953 := aK ((by rw [hg]; exact (bSz (zH0 HB)) : w.heap.size ≤ gb953)); replace HB := aK (bSp (zH0 HB) hb); have GE953 := GW953; clear hb hbox hg))
   have n0_ := aK (kD BK953.out)
   have n1_ := aK (bD1 HB.out)
   clear BK953
   clear HB
   have BK953 := n0_
   have HB := n1_
   clear n0_ n1_
   refine start_ (n := 18) (S := fun w' => w'.cell? ⟨gb953, 0, none⟩ = some (.int .i64 a0_0) ∧ w'.cell? ⟨gb953, 1, none⟩ = some (.int .i64 a0_1) ∧ w'.cell? ⟨gb953, 2, none⟩ = some (.int .i64 a0_2)) (ds := []) #[bN,bN,bN,bN,bN,bN,bN,bN,bN,bN,bN,bN,bN,bN,bN,bN,bN,bN] (by kernel_rfl) rfl rfl ⟨zQ BK953 0, zQ BK953 1, zQ BK953 2⟩ (fun hHeld => ?_); refine with_tabW impl_MazeOk.tab1 impl_MazeOk.bits1 (fun HT_ HW_ => ?_)
   generalize w12.drew = w13 at BK953 HB hHeld ⊢
   refine pure_ (i := 0) (N := some 3) (v := ?_) (a' := ?_) #[bY,bN,bN,bN,bN,bN,bN,bN,bN,bN,bN,bN,bN,bN,bN,bN,bN,bN] rfl rfl (any_of HT_.out (by kernel_rfl)) (fun _ _ _ h => h) (Or.inl ⟨by rfl, ?_⟩) ?_ ?_
   rotate_left
   ·intro w'
    go_simp
    with_reducible rfl
   rotate_left
   ·simp only [Act.put, sTA, sZ, sS, i64_w, i32_w]
    rfl
   refine take_ (i := 1) (N := some 4) (v := ?_) (a' := ?_) #[bY,bY,bN,bN,bN,bN,bN,bN,bN,bN,bN,bN,bN,bN,bN,bN,bN,bN] rfl rfl (take_ofW HT_.out HW_.out (by kernel_rfl)) (fun _ _ _ h => h) (Or.inl ⟨by rfl, ?_⟩) hHeld ?_ ?_
   rotate_left
   ·rintro w' ⟨s0, s1, s2⟩
    go_simp
    with_reducible rfl
   rotate_left
   ·simp only [Act.put, sTA, sZ, sS, i64_w, i32_w]
    rfl
   refine one_ (i := 2) (N := some 5) #[bY,bY,bY,bN,bN,bN,bN,bN,bN,bN,bN,bN,bN,bN,bN,bN,bN,bN] rfl rfl (one_of HT_.out (by kernel_rfl)) (by decide) (fun K hK => ?_)
   refine goes_ Tryd.func106 (by kernel_rfl) rfl #[.agg #[.int .i64 a0_0, .int .i64 a0_1]] (by rfl) rfl rfl zD ?_
   with_reducible refine (impl_GridOk.calls a0_0 a0_1 true _ A2.out).mono ?_
   rintro e w14 ⟨rfl, hb⟩
   refine ⟨_, rfl, ?_⟩
   have n0_ := zB BK953 hb
   have n1_ := aK (bSp (zH1 HB GE953) hb)
   clear BK953
   clear HB
   have BK953 := n0_
   have HB := n1_
   clear n0_ n1_
   (try clear hb)
   (try clear hb2)
   (try clear hk)
   (try clear hi)
   refine hK.out _ _ ⟨zQ BK953 0, zQ BK953 1, zQ BK953 2⟩ (fun hHeld => ?_)
   clear hK K
   refine norm_ (a' := ?_) ?_ ?_
   rotate_left
   ·show Act.put _ (some 5) _ = _
    simp only [Act.put, sTA, sZ, sS, i64_w, i32_w]
    rfl
   refine pure_ (i := 3) (N := some 6) (v := ?_) (a' := ?_) #[bY,bY,bY,bY,bN,bN,bN,bN,bN,bN,bN,bN,bN,bN,bN,bN,bN,bN] rfl rfl (any_of HT_.out (by kernel_rfl)) (fun _ _ _ h => h) (Or.inl ⟨by rfl, ?_⟩) ?_ ?_
   rotate_left
   ·intro w'
    go_simp
    with_reducible rfl
   rotate_left
   ·simp only [Act.put, sTA, sZ, sS, i64_w, i32_w]
    rfl
   refine pure_ (i := 4) (N := some 7) (v := ?_) (a' := ?_) #[bY,bY,bY,bY,bY,bN,bN,bN,bN,bN,bN,bN,bN,bN,bN,bN,bN,bN] rfl rfl (any_of HT_.out (by kernel_rfl)) (fun _ _ _ h => h) (Or.inl ⟨by rfl, ?_⟩) ?_ ?_
   rotate_left
   ·intro w'
    go_simp
    with_reducible rfl
   rotate_left
   ·simp only [Act.put, sTA, sZ, sS, i64_w, i32_w]
    rfl
   refine take_ (i := 5) (N := some 8) (v := ?_) (a' := ?_) #[bY,bY,bY,bY,bY,bY,bN,bN,bN,bN,bN,bN,bN,bN,bN,bN,bN,bN] rfl rfl (take_ofW HT_.out HW_.out (by kernel_rfl)) (fun _ _ _ h => h) (Or.inl ⟨by rfl, ?_⟩) hHeld ?_ ?_
   rotate_left
   ·rintro w' ⟨s0, s1, s2⟩
    go_simp
    with_reducible rfl
   rotate_left
   ·simp only [Act.put, sTA, sZ, sS, i64_w, i32_w]
    rfl
   refine pure_ (i := 6) (N := some 9) (v := ?_) (a' := ?_) #[bY,bY,bY,bY,bY,bY,bY,bN,bN,bN,bN,bN,bN,bN,bN,bN,bN,bN] rfl rfl (any_of HT_.out (by kernel_rfl)) (fun _ _ _ h => h) (Or.inl ⟨by rfl, ?_⟩) ?_ ?_
   rotate_left
   ·intro w'
    go_simp
    with_reducible rfl
   rotate_left
   ·simp only [Act.put, sTA, sZ, sS, i64_w, i32_w]
    rfl
   refine pure_ (i := 7) (N := some 10) (v := ?_) (a' := ?_) #[bY,bY,bY,bY,bY,bY,bY,bY,bN,bN,bN,bN,bN,bN,bN,bN,bN,bN] rfl rfl (any_of HT_.out (by kernel_rfl)) (fun _ _ _ h => h) (Or.inl ⟨by rfl, ?_⟩) ?_ ?_
   rotate_left
   ·intro w'
    go_simp
    with_reducible rfl
   rotate_left
   ·simp only [Act.put, sTA, sZ, sS, i64_w, i32_w]
    rfl
   refine pure_ (i := 8) (N := some 11) (v := ?_) (a' := ?_) #[bY,bY,bY,bY,bY,bY,bY,bY,bY,bN,bN,bN,bN,bN,bN,bN,bN,bN] rfl rfl (any_of HT_.out (by kernel_rfl)) (fun _ _ _ h => h) (Or.inl ⟨by rfl, ?_⟩) ?_ ?_
   rotate_left
   ·intro w'
    go_simp
    with_reducible rfl
   rotate_left
   ·simp only [Act.put, sTA, sZ, sS, i64_w, i32_w]
    rfl
   refine pure_ (i := 9) (N := some 12) (v := undef) (a' := ?_) #[bY,bY,bY,bY,bY,bY,bY,bY,bY,bY,bN,bN,bN,bN,bN,bN,bN,bN] rfl rfl (any_of HT_.out (by kernel_rfl)) (fun _ _ _ h => h) (Or.inr ⟨by rfl, rfl⟩) ?_ ?_
   rotate_left
   ·simp only [Act.put, sTA, sZ, sS, i64_w, i32_w]
    rfl
   refine pure_ (i := 10) (N := some 13) (v := undef) (a' := ?_) #[bY,bY,bY,bY,bY,bY,bY,bY,bY,bY,bY,bN,bN,bN,bN,bN,bN,bN] rfl rfl (any_of HT_.out (by kernel_rfl)) (fun _ _ _ h => h) (Or.inr ⟨by rfl, rfl⟩) ?_ ?_
   rotate_left
   ·simp only [Act.put, sTA, sZ, sS, i64_w, i32_w]
    rfl
   refine pure_ (i := 11) (N := some 14) (v := undef) (a' := ?_) #[bY,bY,bY,bY,bY,bY,bY,bY,bY,bY,bY,bY,bN,bN,bN,bN,bN,bN] rfl rfl (any_of HT_.out (by kernel_rfl)) (fun _ _ _ h => h) (Or.inr ⟨by rfl, rfl⟩) ?_ ?_
   rotate_left
   ·simp only [Act.put, sTA, sZ, sS, i64_w, i32_w]
    rfl
   refine pure_ (i := 12) (N := some 15) (v := undef) (a' := ?_) #[bY,bY,bY,bY,bY,bY,bY,bY,bY,bY,bY,bY,bY,bN,bN,bN,bN,bN] rfl rfl (any_of HT_.out (by kernel_rfl)) (fun _ _ _ h => h) (Or.inr ⟨by rfl, rfl⟩) ?_ ?_
   rotate_left
   ·simp only [Act.put, sTA, sZ, sS, i64_w, i32_w]
    rfl
   refine pure_ (i := 13) (N := some 16) (v := undef) (a' := ?_) #[bY,bY,bY,bY,bY,bY,bY,bY,bY,bY,bY,bY,bY,bY,bN,bN,bN,bN] rfl rfl (any_of HT_.out (by kernel_rfl)) (fun _ _ _ h => h) (Or.inr ⟨by rfl, rfl⟩) ?_ ?_
   rotate_left
   ·simp only [Act.put, sTA, sZ, sS, i64_w, i32_w]
    rfl
   refine pure_ (i := 14) (N := some 17) (v := undef) (a' := ?_) #[bY,bY,bY,bY,bY,bY,bY,bY,bY,bY,bY,bY,bY,bY,bY,bN,bN,bN] rfl rfl (any_of HT_.out (by kernel_rfl)) (fun _ _ _ h => h) (Or.inr ⟨by rfl, rfl⟩) ?_ ?_
   rotate_left
   ·simp only [Act.put, sTA, sZ, sS, i64_w, i32_w]
    rfl
   refine pure_ (i := 15) (N := some 18) (v := undef) (a' := ?_) #[bY,bY,bY,bY,bY,bY,bY,bY,bY,bY,bY,bY,bY,bY,bY,bY,bN,bN] rfl rfl (any_of HT_.out (by kernel_rfl)) (fun _ _ _ h => h) (Or.inr ⟨by rfl, rfl⟩) ?_ ?_
   rotate_left
   ·simp only [Act.put, sTA, sZ, sS, i64_w, i32_w]
    rfl
   refine pure_ (i := 16) (N := some 19) (v := ?_) (a' := ?_) #[bY,bY,bY,bY,bY,bY,bY,bY,bY,bY,bY,bY,bY,bY,bY,bY,bY,bN] rfl rfl (any_of HT_.out (by kernel_rfl)) (fun _ _ _ h => h) (Or.inl ⟨by rfl, ?_⟩) ?_ ?_
   rotate_left
   ·intro w'
    go_simp
    with_reducible rfl
   rotate_left
   ·simp only [Act.put, sTA, sZ, sS, i64_w, i32_w]
    rfl
   refine pure_ (i := 17) (N := some 2) (v := ?_) (a' := ?_) #[bY,bY,bY,bY,bY,bY,bY,bY,bY,bY,bY,bY,bY,bY,bY,bY,bY,bY] rfl rfl (any_of HT_.out (by kernel_rfl)) (fun _ _ _ h => h) (Or.inl ⟨by rfl, ?_⟩) ?_ ?_
   rotate_left
   ·intro w'
    go_simp
    with_reducible rfl
   rotate_left
   ·simp only [Act.put, sTA, sZ, sS, i64_w, i32_w]
    rfl
   refine done_ (done_of HT_.out (by kernel_rfl)) ?_
   try go_wp2
   go_ret
   exact ⟨by first | rfl | (simp [errW_none, errW_some] <;> rfl) | (simp [*, errW_none, errW_some] <;> rfl), by repeat (first | (with_reducible first | exact HB.out | apply bAl | apply bDN | apply bD1 | refine bSt ?_ GE953.out) | exact HB.out)⟩
 ·replace c3 := Bool.eq_false_iff.mpr c3
  subst c3
  have H1 : (some false) = some r := by rw [if_neg (show ¬ (false = true) by decide)] at H; exact H
  clear H
  have H := H1
  clear H1
  obtain rfl := Option.some.inj H
  go_enter Tryd.func82, Tryd.ntmps82
  try go_wp2_with (first | ((with_reducible refine gate_dst (N := 1) rfl ?_); refine box_event ?hg (N := 1) ?hd (cs := #[.int .i64 a0_0, .int .i64 a0_1, .int .i64 a0_2]) (t := 41) ?hr ?_; (case hd => rfl); (case hg => rfl); (case hr => first | (go_simp; done) | (go_simp; rfl)); intro gb953 hg w15 hbox hb; have BK953 := aK (hbox); have GW953 := aK ((by rw [hg]; exact (bSz (zH0 HB)) : w.heap.size ≤ gb953)); replace HB := aK (bSp (zH0 HB) hb); have GE953 := GW953; clear hb hbox hg))
  have n0_ := aK (kD BK953.out)
  have n1_ := aK (bD1 HB.out)
  clear BK953
  clear HB
  have BK953 := n0_
  have HB := n1_
  clear n0_ n1_
  refine start_ (n := 18) (S := fun w' => w'.cell? ⟨gb953, 0, none⟩ = some (.int .i64 a0_0) ∧ w'.cell? ⟨gb953, 1, none⟩ = some (.int .i64 a0_1) ∧ w'.cell? ⟨gb953, 2, none⟩ = some (.int .i64 a0_2)) (ds := []) #[bN,bN,bN,bN,bN,bN,bN,bN,bN,bN,bN,bN,bN,bN,bN,bN,bN,bN] (by kernel_rfl) rfl rfl ⟨zQ BK953 0, zQ BK953 1, zQ BK953 2⟩ (fun hHeld => ?_); refine with_tabW impl_MazeOk.tab1 impl_MazeOk.bits1 (fun HT_ HW_ => ?_)
  generalize w15.drew = w16 at BK953 HB hHeld ⊢
  refine pure_ (i := 0) (N := some 3) (v := ?_) (a' := ?_) #[bY,bN,bN,bN,bN,bN,bN,bN,bN,bN,bN,bN,bN,bN,bN,bN,bN,bN] rfl rfl (any_of HT_.out (by kernel_rfl)) (fun _ _ _ h => h) (Or.inl ⟨by rfl, ?_⟩) ?_ ?_
  rotate_left
  ·intro w'
   go_simp
   with_reducible rfl
  rotate_left
  ·simp only [Act.put, sTA, sZ, sS, i64_w, i32_w]
   rfl
  refine take_ (i := 1) (N := some 4) (v := ?_) (a' := ?_) #[bY,bY,bN,bN,bN,bN,bN,bN,bN,bN,bN,bN,bN,bN,bN,bN,bN,bN] rfl rfl (take_ofW HT_.out HW_.out (by kernel_rfl)) (fun _ _ _ h => h) (Or.inl ⟨by rfl, ?_⟩) hHeld ?_ ?_
  rotate_left
  ·rintro w' ⟨s0, s1, s2⟩
   go_simp
   with_reducible rfl
  rotate_left
  ·simp only [Act.put, sTA, sZ, sS, i64_w, i32_w]
   rfl
  refine one_ (i := 2) (N := some 5) #[bY,bY,bY,bN,bN,bN,bN,bN,bN,bN,bN,bN,bN,bN,bN,bN,bN,bN] rfl rfl (one_of HT_.out (by kernel_rfl)) (by decide) (fun K hK => ?_)
  refine goes_ Tryd.func106 (by kernel_rfl) rfl #[.agg #[.int .i64 a0_0, .int .i64 a0_1]] (by rfl) rfl rfl zD ?_
  with_reducible refine (impl_GridOk.calls a0_0 a0_1 false _ A2.out).mono ?_
  rintro e w17 ⟨rfl, hb⟩
  refine ⟨_, rfl, ?_⟩
  have n0_ := zB BK953 hb
  have n1_ := aK (bSp (zH1 HB GE953) hb)
  clear BK953
  clear HB
  have BK953 := n0_
  have HB := n1_
  clear n0_ n1_
  (try clear hb)
  (try clear hb2)
  (try clear hk)
  (try clear hi)
  refine hK.out _ _ ⟨zQ BK953 0, zQ BK953 1, zQ BK953 2⟩ (fun hHeld => ?_)
  clear hK K
  refine norm_ (a' := ?_) ?_ ?_
  rotate_left
  ·show Act.put _ (some 5) _ = _
   simp only [Act.put, sTA, sZ, sS, i64_w, i32_w]
   rfl
  refine pure_ (i := 3) (N := some 6) (v := ?_) (a' := ?_) #[bY,bY,bY,bY,bN,bN,bN,bN,bN,bN,bN,bN,bN,bN,bN,bN,bN,bN] rfl rfl (any_of HT_.out (by kernel_rfl)) (fun _ _ _ h => h) (Or.inl ⟨by rfl, ?_⟩) ?_ ?_
  rotate_left
  ·intro w'
   go_simp
   with_reducible rfl
  rotate_left
  ·simp only [Act.put, sTA, sZ, sS, i64_w, i32_w]
   rfl
  refine pure_ (i := 4) (N := some 7) (v := undef) (a' := ?_) #[bY,bY,bY,bY,bY,bN,bN,bN,bN,bN,bN,bN,bN,bN,bN,bN,bN,bN] rfl rfl (any_of HT_.out (by kernel_rfl)) (fun _ _ _ h => h) (Or.inr ⟨by rfl, rfl⟩) ?_ ?_
  rotate_left
  ·simp only [Act.put, sTA, sZ, sS, i64_w, i32_w]
   rfl
  refine pure_ (i := 5) (N := some 8) (v := undef) (a' := ?_) #[bY,bY,bY,bY,bY,bY,bN,bN,bN,bN,bN,bN,bN,bN,bN,bN,bN,bN] rfl rfl (any_of HT_.out (by kernel_rfl)) (fun _ _ _ h => h) (Or.inr ⟨by rfl, rfl⟩) ?_ ?_
  rotate_left
  ·simp only [Act.put, sTA, sZ, sS, i64_w, i32_w]
   rfl
  refine pure_ (i := 6) (N := some 9) (v := undef) (a' := ?_) #[bY,bY,bY,bY,bY,bY,bY,bN,bN,bN,bN,bN,bN,bN,bN,bN,bN,bN] rfl rfl (any_of HT_.out (by kernel_rfl)) (fun _ _ _ h => h) (Or.inr ⟨by rfl, rfl⟩) ?_ ?_
  rotate_left
  ·simp only [Act.put, sTA, sZ, sS, i64_w, i32_w]
   rfl
  refine pure_ (i := 7) (N := some 10) (v := ?_) (a' := ?_) #[bY,bY,bY,bY,bY,bY,bY,bY,bN,bN,bN,bN,bN,bN,bN,bN,bN,bN] rfl rfl (any_of HT_.out (by kernel_rfl)) (fun _ _ _ h => h) (Or.inl ⟨by rfl, ?_⟩) ?_ ?_
  rotate_left
  ·intro w'
   go_simp
   with_reducible rfl
  rotate_left
  ·simp only [Act.put, sTA, sZ, sS, i64_w, i32_w]
   rfl
  refine pure_ (i := 8) (N := some 11) (v := ?_) (a' := ?_) #[bY,bY,bY,bY,bY,bY,bY,bY,bY,bN,bN,bN,bN,bN,bN,bN,bN,bN] rfl rfl (any_of HT_.out (by kernel_rfl)) (fun _ _ _ h => h) (Or.inl ⟨by rfl, ?_⟩) ?_ ?_
  rotate_left
  ·intro w'
   go_simp
   with_reducible rfl
  rotate_left
  ·simp only [Act.put, sTA, sZ, sS, i64_w, i32_w]
   rfl
  refine pure_ (i := 9) (N := some 12) (v := undef) (a' := ?_) #[bY,bY,bY,bY,bY,bY,bY,bY,bY,bY,bN,bN,bN,bN,bN,bN,bN,bN] rfl rfl (any_of HT_.out (by kernel_rfl)) (fun _ _ _ h => h) (Or.inr ⟨by rfl, rfl⟩) ?_ ?_
  rotate_left
  ·simp only [Act.put, sTA, sZ, sS, i64_w, i32_w]
   rfl
  refine pure_ (i := 10) (N := some 13) (v := undef) (a' := ?_) #[bY,bY,bY,bY,bY,bY,bY,bY,bY,bY,bY,bN,bN,bN,bN,bN,bN,bN] rfl rfl (any_of HT_.out (by kernel_rfl)) (fun _ _ _ h => h) (Or.inr ⟨by rfl, rfl⟩) ?_ ?_
  rotate_left
  ·simp only [Act.put, sTA, sZ, sS, i64_w, i32_w]
   rfl
  refine pure_ (i := 11) (N := some 14) (v := undef) (a' := ?_) #[bY,bY,bY,bY,bY,bY,bY,bY,bY,bY,bY,bY,bN,bN,bN,bN,bN,bN] rfl rfl (any_of HT_.out (by kernel_rfl)) (fun _ _ _ h => h) (Or.inr ⟨by rfl, rfl⟩) ?_ ?_
  rotate_left
  ·simp only [Act.put, sTA, sZ, sS, i64_w, i32_w]
   rfl
  refine pure_ (i := 12) (N := some 15) (v := undef) (a' := ?_) #[bY,bY,bY,bY,bY,bY,bY,bY,bY,bY,bY,bY,bY,bN,bN,bN,bN,bN] rfl rfl (any_of HT_.out (by kernel_rfl)) (fun _ _ _ h => h) (Or.inr ⟨by rfl, rfl⟩) ?_ ?_
  rotate_left
  ·simp only [Act.put, sTA, sZ, sS, i64_w, i32_w]
   rfl
  refine pure_ (i := 13) (N := some 16) (v := undef) (a' := ?_) #[bY,bY,bY,bY,bY,bY,bY,bY,bY,bY,bY,bY,bY,bY,bN,bN,bN,bN] rfl rfl (any_of HT_.out (by kernel_rfl)) (fun _ _ _ h => h) (Or.inr ⟨by rfl, rfl⟩) ?_ ?_
  rotate_left
  ·simp only [Act.put, sTA, sZ, sS, i64_w, i32_w]
   rfl
  refine pure_ (i := 14) (N := some 17) (v := undef) (a' := ?_) #[bY,bY,bY,bY,bY,bY,bY,bY,bY,bY,bY,bY,bY,bY,bY,bN,bN,bN] rfl rfl (any_of HT_.out (by kernel_rfl)) (fun _ _ _ h => h) (Or.inr ⟨by rfl, rfl⟩) ?_ ?_
  rotate_left
  ·simp only [Act.put, sTA, sZ, sS, i64_w, i32_w]
   rfl
  refine pure_ (i := 15) (N := some 18) (v := undef) (a' := ?_) #[bY,bY,bY,bY,bY,bY,bY,bY,bY,bY,bY,bY,bY,bY,bY,bY,bN,bN] rfl rfl (any_of HT_.out (by kernel_rfl)) (fun _ _ _ h => h) (Or.inr ⟨by rfl, rfl⟩) ?_ ?_
  rotate_left
  ·simp only [Act.put, sTA, sZ, sS, i64_w, i32_w]
   rfl
  refine pure_ (i := 16) (N := some 19) (v := ?_) (a' := ?_) #[bY,bY,bY,bY,bY,bY,bY,bY,bY,bY,bY,bY,bY,bY,bY,bY,bY,bN] rfl rfl (any_of HT_.out (by kernel_rfl)) (fun _ _ _ h => h) (Or.inl ⟨by rfl, ?_⟩) ?_ ?_
  rotate_left
  ·intro w'
   go_simp
   with_reducible rfl
  rotate_left
  ·simp only [Act.put, sTA, sZ, sS, i64_w, i32_w]
   rfl
  refine pure_ (i := 17) (N := some 2) (v := ?_) (a' := ?_) #[bY,bY,bY,bY,bY,bY,bY,bY,bY,bY,bY,bY,bY,bY,bY,bY,bY,bY] rfl rfl (any_of HT_.out (by kernel_rfl)) (fun _ _ _ h => h) (Or.inl ⟨by rfl, ?_⟩) ?_ ?_
  rotate_left
  ·intro w'
   go_simp
   with_reducible rfl
  rotate_left
  ·simp only [Act.put, sTA, sZ, sS, i64_w, i32_w]
   rfl
  refine done_ (done_of HT_.out (by kernel_rfl)) ?_
  try go_wp2
  go_ret
  exact ⟨by first | rfl | (simp [errW_none, errW_some] <;> rfl) | (simp [*, errW_none, errW_some] <;> rfl), by repeat (first | (with_reducible first | exact HB.out | apply bAl | apply bDN | apply bD1 | refine bSt ?_ GE953.out) | exact HB.out)⟩
set_option maxHeartbeats 2000000 in
theorem slices_IndexFunc_int.calls (p : Int → Bool) (g : Nat) (lb : Array Value) (eg : ∀ args w, (callFunc g args).run Tryd.prog w = .ok (.enter g args) w) (A0 : Option Addr) (c0 : Nat) (l0 : List Int) (w : World) (hr0 : Kd.C (Kd.int .i64) w A0 l0.length l0)
  (hp : ∀ (W : World) (x : Int), x ∈ l0 → Below w.heap.size w W → Calls Tryd.prog g (#[.int .i64 x] ++ lb) W fun e w' => e = .returned (.bool (p x)) ∧ Below w.heap.size w w') :
  Calls Tryd.prog 111 #[.slice A0 l0.length c0, .func (.func g) #[] lb] w fun e w' => e = .returned (.int .i64 (idxF p l0)) ∧ Below w.heap.size w w' := by
 have hn : l0.length ≤ 9223372036854775807 := hr0.2.1
 go_enter Tryd.func111, Tryd.ntmps111
 go_wp2
 go_loopg [5, 8] l0.length (fun gg _ s8 wr => ∃ kk : Nat, kk ≤ l0.length ∧ l0.length - kk ≤ gg ∧ s8 = .int .i64 kk ∧ Aside0 (Below w.heap.size w wr) ∧ Aside0 (∀ j, j < kk → p (rd l0 (j : Int)) = false))
 case atStart => exact ⟨0, Nat.zero_le _, by omega, rfl, ⟨Below.refl _ w⟩, ⟨fun j hj => absurd hj (Nat.not_lt_zero _)⟩⟩
 case round =>
  obtain ⟨kk, hkk, hg, rfl, BW, Av⟩ := hrel
  by_cases hlt : kk < l0.length
  ·have hltz : (kk : Int) < (l0.length : Int) := by omega
   have hz : (0 : Int) ≤ (kk : Int) := by omega
   obtain ⟨ad, rfl, hx⟩ := Kd.at_int (Kd.C_below hr0 BW.out) (kk : Int) hz hltz
   rw [Int.toNat_natCast] at hx
   have hmem : rd l0 (kk : Int) ∈ l0 := rd_mem hlt
   have hcall := hp wr (rd l0 (kk : Int)) hmem BW.out
   have HM := aK hmem
   clear hmem hp
   generalize hy : rd l0 (kk : Int) = y at hx hcall
   have HY := aK hy
   clear hy
   cases hq : p y with
   | true =>
    rw [hq] at hcall
    have HQ := aK hq
    clear hq
    go_wp2_with (go_at_fn g; refine hcall.mono ?_; rintro e w' ⟨rfl, hb'⟩)
    go_ret
    refine ⟨?_, hb'⟩
    rw [idxF_hit p l0 kk hlt (by rw [rd_nat l0 kk] at HY; rw [HY.out]; exact HQ.out) (fun j hj => by have := Av.out j hj; rwa [rd_nat l0 j] at this)]
    all_goals rfl
   | false =>
    rw [hq] at hcall
    have HQ := aK hq
    clear hq
    go_wp2_with (go_at_fn g; refine hcall.mono ?_; rintro e w' ⟨rfl, hb'⟩)
    go_roundg (l0.length - (kk + 1))
    case measure => omega
    case rel =>
     refine ⟨kk + 1, by omega, by omega, by go_num, ⟨hb'⟩, ⟨fun j hj => ?_⟩⟩
     by_cases e : j = kk
     ·subst e
      rw [HY.out]; exact HQ.out
     ·exact Av.out j (by omega)
  ·have hltz : ¬ (kk : Int) < (l0.length : Int) := by omega
   have : kk = l0.length := by omega
   subst this
   go_wp2
   go_ret
   refine ⟨?_, BW.out⟩
   rw [idxF_miss p l0 (fun j hj => by have := Av.out j hj; rwa [rd_nat l0 j] at this)]
   all_goals rfl
set_option maxHeartbeats 2000000 in
theorem slices_ContainsFunc_int.calls (p : Int → Bool) (g : Nat) (lb : Array Value) (eg : ∀ args w, (callFunc g args).run Tryd.prog w = .ok (.enter g args) w) (A0 : Option Addr) (c0 : Nat) (l0 : List Int) (w : World) (hr0 : Kd.C (Kd.int .i64) w A0 l0.length l0)
  (hp : ∀ (W : World) (x : Int), x ∈ l0 → Below w.heap.size w W → Calls Tryd.prog g (#[.int .i64 x] ++ lb) W fun e w' => e = .returned (.bool (p x)) ∧ Below w.heap.size w w') :
  Calls Tryd.prog 87 #[.slice A0 l0.length c0, .func (.func g) #[] lb] w fun e w' => e = .returned (.bool (l0.any p)) ∧ Below w.heap.size w w' := by
 rw [show l0.any p = decide (0 ≤ idxF p l0) from (idxF_any p l0).symm]
 go_enter Tryd.func87, Tryd.ntmps87
 go_wp2_with (go_at_call 111; refine (slices_IndexFunc_int.calls p g lb eg A0 c0 l0 _ hr0 hp).mono ?_; rintro e w' ⟨rfl, hb'⟩)
 go_ret
 exact ⟨rfl, hb'⟩
theorem impl_CountCells.ctr {a0_0 : Int} {a0_1 : Int} {r : Int} (h : impl_CountCells.f a0_0 a0_1 = some r) : Ctr Tryd.prog 78 [.ag [.v (.int .i64 a0_0), .v (.int .i64 a0_1)]] (.v (.int .i64 r)) := by
  refine Ctr_of tyOk hm Tryd.func78 rfl rfl (by kernel_rfl) (n := 10) (rv := [.tmp 2]) rfl rfl ?_
  simp only [W, List.replicate]
  unfold impl_CountCells.f at h
  replace h := bnd h; obtain ⟨t1, A, h⟩ := h
  try simp only [W, p1, p2, p3, p4, p5, p6, p7, p8, p9, p10, p11, p12]
  refine callR (impl_GridOk.ctr A) ?_
  replace h := ifT h; rcases h with ⟨rfl, h⟩ | ⟨rfl, h⟩
  · cases h
    try simp only [W, p1, p2, p3, p4, p5, p6, p7, p8, p9, p10, p11, p12]
  · cases h
    try simp only [W, p1, p2, p3, p4, p5, p6, p7, p8, p9, p10, p11, p12]
theorem impl_CountCells.callsG (a0_0 : Int) (a0_1 : Int) (r : Int) (w : World) (hgl : Gl w) (h : impl_CountCells.f a0_0 a0_1 = some r) :
    Calls Tryd.prog 78 #[.agg #[.int .i64 a0_0, .int .i64 a0_1]] w fun e w' => e = .returned (.int .i64 r) ∧ Below w.heap.size w w' := by
  refine ((impl_CountCells.ctr h).2 w [.agg #[.int .i64 a0_0, .int .i64 a0_1]] hgl (by simp only [RepL, Rep]; exact ⟨_, _, rfl, ⟨_, rfl, _, _, rfl, rfl, _, _, rfl, rfl, rfl⟩, rfl⟩)).mono ?_
  rintro _ _ ⟨y, L, rfl, hR, _, hb⟩
  exact ⟨congrArg Ending.returned (RepR_pln rfl hR).1, hb⟩
set_option maxHeartbeats 8000000 in
set_option maxRecDepth 100000 in
theorem impl_CountCells.calls (a0_0 : Int) (a0_1 : Int) (r : Int) (w : World) (h : impl_CountCells.f a0_0 a0_1 = some r) :
  Calls Tryd.prog 78 #[.agg #[.int .i64 a0_0, .int .i64 a0_1]] w fun e w' => e = .returned (.int .i64 r) ∧ Below w.heap.size w w' := by
 have hu39 := Tryd.underlying39
 have HB := aK (Below.refl w.heap.size w)
 have H : ((impl_GridOk.f a0_0 a0_1).bind fun t957 => (if t957 = true then (some (wrap64 (a0_0 * a0_1))) else (some 0))) = some r := h
 clear h
 replace H := Option.bind_eq_some_iff.mp H
 obtain ⟨t957, A20, H⟩ := H
 replace H : (if t957 = true then (some (wrap64 (a0_0 * a0_1))) else (some 0)) = some r := H
 have A2 := aK A20
 clear A20
 by_cases c3 : t957 = true
 ·subst c3
  have H1 : (some (wrap64 (a0_0 * a0_1))) = some r := by rw [if_pos rfl] at H; exact H
  clear H
  have H := H1
  clear H1
  obtain rfl := Option.some.inj H
  go_enter Tryd.func78, Tryd.ntmps78
  go_wp2_with (first | ((with_reducible refine gate_dst (N := 1) rfl ?_); refine box_event ?hg (N := 1) ?hd (cs := #[.int .i64 a0_0, .int .i64 a0_1]) (t := 39) ?hr ?_; (case hd => rfl); (case hg => rfl); (case hr => first | (go_simp; done) | (go_simp; rfl)); intro gb956 hg w4 hbox hb; have BK956 := aK (hbox); have GW956 := aK ((by rw [hg]; exact (bSz (zH0 HB)) : w.heap.size ≤ gb956)); replace HB := aK (bSp (zH0 HB) hb); have GE956 := GW956; clear hb hbox hg; obtain ⟨hcz5_0, hcz5_1, hfz5_0, hfz5_1⟩ := cl2 BK956.out) | ((with_reducible refine gate_callee (f := 106) rfl ?_); refine goesL_ (some 4) rfl rfl Tryd.func106 (by kernel_rfl) rfl #[.agg #[.int .i64 a0_0, .int .i64 a0_1]] rfl zD ?_; (with_reducible refine (impl_GridOk.calls a0_0 a0_1 true _ A2.out).mono ?_); rintro e w6 ⟨rfl, hb⟩; refine ⟨_, rfl, ?_⟩; replace BK956 := zB BK956 hb; replace HB := aK (bSp (zH1 HB GE956) hb); (try clear hb); (try clear hb2); (try clear hk); (try clear hi); obtain ⟨hcz7_0, hcz7_1, hfz7_0, hfz7_1⟩ := cl2 BK956.out))
  go_ret
  exact ⟨by first | rfl | (simp [errW_none, errW_some] <;> rfl) | (simp [*, errW_none, errW_some] <;> rfl), by repeat (first | (with_reducible first | exact HB.out | apply bAl | apply bDN | apply bD1 | refine bSt ?_ GE956.out) | exact HB.out)⟩
 ·replace c3 := Bool.eq_false_iff.mpr c3
  subst c3
  have H1 : (some 0) = some r := by rw [if_neg (show ¬ (false = true) by decide)] at H; exact H
  clear H
  have H := H1
  clear H1
  obtain rfl := Option.some.inj H
  go_enter Tryd.func78, Tryd.ntmps78
  go_wp2_with (first | ((with_reducible refine gate_dst (N := 1) rfl ?_); refine box_event ?hg (N := 1) ?hd (cs := #[.int .i64 a0_0, .int .i64 a0_1]) (t := 39) ?hr ?_; (case hd => rfl); (case hg => rfl); (case hr => first | (go_simp; done) | (go_simp; rfl)); intro gb956 hg w8 hbox hb; have BK956 := aK (hbox); have GW956 := aK ((by rw [hg]; exact (bSz (zH0 HB)) : w.heap.size ≤ gb956)); replace HB := aK (bSp (zH0 HB) hb); have GE956 := GW956; clear hb hbox hg; obtain ⟨hcz9_0, hcz9_1, hfz9_0, hfz9_1⟩ := cl2 BK956.out) | ((with_reducible refine gate_callee (f := 106) rfl ?_); refine goesL_ (some 4) rfl rfl Tryd.func106 (by kernel_rfl) rfl #[.agg #[.int .i64 a0_0, .int .i64 a0_1]] rfl zD ?_; (with_reducible refine (impl_GridOk.calls a0_0 a0_1 false _ A2.out).mono ?_); rintro e w10 ⟨rfl, hb⟩; refine ⟨_, rfl, ?_⟩; replace BK956 := zB BK956 hb; replace HB := aK (bSp (zH1 HB GE956) hb); (try clear hb); (try clear hb2); (try clear hk); (try clear hi)))
  go_ret
  exact ⟨by first | rfl | (simp [errW_none, errW_some] <;> rfl) | (simp [*, errW_none, errW_some] <;> rfl), by repeat (first | (with_reducible first | exact HB.out | apply bAl | apply bDN | apply bD1 | refine bSt ?_ GE956.out) | exact HB.out)⟩
theorem impl_isCell.ctr {a0_0 : Int} {a0_1 : Int} {a1 : Int} {r : Bool} (h : impl_isCell.f a0_0 a0_1 a1 = some r) : Ctr Tryd.prog 89 [.ag [.v (.int .i64 a0_0), .v (.int .i64 a0_1)], .v (.int .i64 a1)] (.v (.bool r)) := by
  refine Ctr_of tyOk hm Tryd.func89 rfl rfl (by kernel_rfl) (n := 11) (rv := [.tmp 4]) rfl rfl ?_
  simp only [W, List.replicate]
  unfold impl_isCell.f at h
  replace h := ifS h; rcases h with ⟨c1, h⟩ | ⟨c1, h⟩
  · replace h := bnd h; obtain ⟨t2, A, h⟩ := h
    try simp only [W, c1, p1, p2, p3, p4, p5, p6, p7, p8, p9, p10, p11, p12]
    refine callR (impl_CountCells.ctr A) ?_
    cases h
    try simp only [W, c1, p1, p2, p3, p4, p5, p6, p7, p8, p9, p10, p11, p12]
  · cases h
    try simp only [W, c1, p1, p2, p3, p4, p5, p6, p7, p8, p9, p10, p11, p12]
set_option maxHeartbeats 8000000 in
set_option maxRecDepth 100000 in
theorem impl_isCell.calls (a0_0 : Int) (a0_1 : Int) (a1 : Int) (r : Bool) (w : World) (h : impl_isCell.f a0_0 a0_1 a1 = some r) :
  Calls Tryd.prog 89 #[.agg #[.int .i64 a0_0, .int .i64 a0_1], .int .i64 a1] w fun e w' => e = .returned (.bool r) ∧ Below w.heap.size w w' := by
 have hu39 := Tryd.underlying39
 have HB := aK (Below.refl w.heap.size w)
 have H : (if a1 ≥ 0 then ((impl_CountCells.f a0_0 a0_1).bind fun t959 => (some (decide (a1 < t959)))) else (some false)) = some r := h
 clear h
 by_cases c3 : a1 ≥ 0
 ·rw [if_pos c3] at H
  have c3b0 : decide (0 ≤ a1) = true := decide_eq_true c3
  clear c3
  replace H := Option.bind_eq_some_iff.mp H
  obtain ⟨t959, A40, H⟩ := H
  replace H : (some (decide (a1 < t959))) = some r := H
  have A4 := aK A40
  clear A40
  obtain rfl := Option.some.inj H
  go_enter Tryd.func89, Tryd.ntmps89
  go_wp2_with (first | ((with_reducible refine gate_dst (N := 2) rfl ?_); refine box_event ?hg (N := 2) ?hd (cs := #[.int .i64 a0_0, .int .i64 a0_1]) (t := 39) ?hr ?_; (case hd => rfl); (case hg => rfl); (case hr => first | (go_simp; done) | (go_simp; rfl)); intro gb958 hg w5 hbox hb; have BK958 := aK (hbox); have GW958 := aK ((by rw [hg]; exact (bSz (zH0 HB)) : w.heap.size ≤ gb958)); replace HB := aK (bSp (zH0 HB) hb); have GE958 := GW958; clear hb hbox hg; obtain ⟨hcz6_0, hcz6_1, hfz6_0, hfz6_1⟩ := cl2 BK958.out) | (go_at_call 78; (with_reducible refine (impl_CountCells.calls a0_0 a0_1 t959 _ A4.out).mono ?_); rintro e w7 ⟨rfl, hb⟩; replace BK958 := zB BK958 hb; replace HB := aK (bSp (zH1 HB GE958) hb); (try clear hb); (try clear hb2); (try clear hk); (try clear hi)))
  go_ret
  exact ⟨by first | rfl | (simp [errW_none, errW_some] <;> rfl) | (simp [*, errW_none, errW_some] <;> rfl), by repeat (first | (with_reducible first | exact HB.out | apply bAl | apply bDN | apply bD1 | refine bSt ?_ GE958.out) | exact HB.out)⟩
 ·rw [if_neg c3] at H
  have c3b0 : decide (0 ≤ a1) = false := decide_eq_false c3
  clear c3
  obtain rfl := Option.some.inj H
  go_enter Tryd.func89, Tryd.ntmps89
  go_wp2_with (first | ((with_reducible refine gate_dst (N := 2) rfl ?_); refine box_event ?hg (N := 2) ?hd (cs := #[.int .i64 a0_0, .int .i64 a0_1]) (t := 39) ?hr ?_; (case hd => rfl); (case hg => rfl); (case hr => first | (go_simp; done) | (go_simp; rfl)); intro gb958 hg w8 hbox hb; have BK958 := aK (hbox); have GW958 := aK ((by rw [hg]; exact (bSz (zH0 HB)) : w.heap.size ≤ gb958)); replace HB := aK (bSp (zH0 HB) hb); have GE958 := GW958; clear hb hbox hg))
  go_ret
  exact ⟨by first | rfl | (simp [errW_none, errW_some] <;> rfl) | (simp [*, errW_none, errW_some] <;> rfl), by repeat (first | (with_reducible first | exact HB.out | apply bAl | apply bDN | apply bD1 | refine bSt ?_ GE958.out) | exact HB.out)⟩
set_option maxHeartbeats 2000000 in
theorem impl_isIn_1.calls (a b o : Int) (B : Nat) (W : World) (hB : W.heap[B]? = some (.cells #[.int .i64 a, .int .i64 b, .int .i64 o] 41 (0, 0))) (x : Int) (r : Bool) (h : impl_isCell.f a b x = some r) :
  Calls Tryd.prog 88 #[.int .i64 x, .pointer (some ⟨B, 0, none⟩)] W fun e w' => e = .returned (.bool (!r)) ∧ Below W.heap.size W w' := by
 have hu := Tryd.underlying41
 have hug := Tryd.underlying39
 have h0 : W.cell? ⟨B, 0, none⟩ = some (.int .i64 a) := (kC hB 0).trans rfl
 have h1 : W.cell? ⟨B, 1, none⟩ = some (.int .i64 b) := (kC hB 1).trans rfl
 have h2 : W.cell? ⟨B, 2, none⟩ = some (.int .i64 o) := (kC hB 2).trans rfl
 clear hB
 go_enter Tryd.func88, Tryd.ntmps88
 go_wp2_with (go_at_call 89; refine (impl_isCell.calls a b x r _ h).mono ?_; rintro e w' ⟨rfl, hb⟩)
 go_ret
 exact ⟨rfl, hb⟩
set_option maxHeartbeats 4000000 in
theorem impl_isIn.calls (a0_0 : Int) (a0_1 : Int) (a0_2 : Int) (A1 : Option Addr) (c1 : Nat) (l1 : List Int) (r : Bool) (w : World) (hr1 : Kd.C (Kd.int .i64) w A1 l1.length l1) (hc1 : l1.length ≤ c1) (h : impl_isIn.f a0_0 a0_1 a0_2 l1 = some r) :
  Calls Tryd.prog 57 #[.agg #[.int .i64 a0_0, .int .i64 a0_1, .int .i64 a0_2], .slice A1 l1.length c1] w fun e w' => e = .returned (.bool r) ∧ Below w.heap.size w w' := by
 have hu := Tryd.underlying41
 obtain ⟨b, hm, H⟩ := Option.bind_eq_some_iff.mp h
 clear h
 cases b with
 | false =>
  rw [if_neg Bool.false_ne_true] at H
  obtain rfl := Option.some.inj H
  go_enter Tryd.func57, Tryd.ntmps57
  go_wp2_with (go_at_call 82; refine (impl_MazeOk.calls a0_0 a0_1 a0_2 false _ hm).mono ?_; rintro e w' ⟨rfl, hb⟩)
  go_ret
  exact ⟨rfl, ((Below.refl _ w).alloc (Nat.le_refl _) _).trans (hb.mono (by simp))⟩
 | true =>
  rw [if_pos rfl] at H
  obtain ⟨hx, hv⟩ := allO_some H
  have eg : ∀ args w, (callFunc 88 args).run Tryd.prog w = .ok (.enter 88 args) w := enters_of Tryd.func88 (by kernel_rfl) rfl
  have hcon := fun (W : World) (hb : Below (w.heap.size + 1) (w.alloc (.cells #[.int .i64 a0_0, .int .i64 a0_1, .int .i64 a0_2] 41)) W) =>
   slices_ContainsFunc_int.calls (fun x => !((impl_isCell.f a0_0 a0_1 x).getD false)) 88 #[.pointer (some ⟨w.heap.size, 0, none⟩)] eg A1 c1 l1 W (Kd.C_below hr1 (((Below.refl _ w).alloc (Nat.le_refl _) _).trans (hb.mono (by simp)))) (fun W' x hxm hb' => by
    have hW := hb.trans (hb'.mono (by have := hb.size; simpa using this))
    obtain ⟨v, hv'⟩ := hx x hxm
    have hB : W'.heap[w.heap.size]? = some (.cells #[.int .i64 a0_0, .int .i64 a0_1, .int .i64 a0_2] 41 (0, 0)) := (hW.block w.heap.size (by omega)).trans (heap_alloc_new w _)
    refine (impl_isIn_1.calls a0_0 a0_1 a0_2 w.heap.size W' hB x v hv').mono ?_
    rintro e w' ⟨rfl, hb2⟩
    exact ⟨by rw [hv']; rfl, hb'.trans (hb2.mono hb'.size)⟩)
  clear hr1
  rw [hv]
  clear hv H
  generalize hg : (l1.any fun x => !((impl_isCell.f a0_0 a0_1 x).getD false)) = q at hcon ⊢
  clear hg hx eg
  go_enter Tryd.func57, Tryd.ntmps57
  go_wp2_with (first | (go_at_call 82; refine (impl_MazeOk.calls a0_0 a0_1 a0_2 true _ hm).mono ?_; rintro e w' ⟨rfl, hb⟩) | (go_at_call 87; refine (hcon _ (by simpa using hb)).mono ?_; rintro e w2 ⟨rfl, hb2⟩))
  go_ret
  exact ⟨rfl, (((Below.refl _ w).alloc (Nat.le_refl _) _).trans (hb.mono (by simp))).trans (hb2.mono (by have := hb.size; simp at this; omega))⟩
theorem impl_isIn.ctr {a0_0 : Int} {a0_1 : Int} {a0_2 : Int} {l1 : List Int} {r : Bool} (h : impl_isIn.f a0_0 a0_1 a0_2 l1 = some r) : Ctr Tryd.prog 57 [.ag [.v (.int .i64 a0_0), .v (.int .i64 a0_1), .v (.int .i64 a0_2)], .pr 1 (l1.map eI)] (.v (.bool r)) := by
  refine ⟨enters_of Tryd.func57 rfl rfl, fun w ys _ hys => ?_⟩
  simp only [RepL, Rep] at hys
  obtain ⟨_, _, rfl, ⟨_, rfl, _, _, rfl, rfl, _, _, rfl, rfl, _, _, rfl, rfl, rfl⟩, _, _, rfl, q1, rfl⟩ := hys
  obtain ⟨_, _, rfl, hr1, hc1⟩ := C_of_at E_eI q1
  refine (impl_isIn.calls _ _ _ _ _ _ _ w hr1 hc1 h).mono ?_
  rintro _ _ ⟨rfl, hb⟩
  exact ⟨_, [], rfl, (by first | (simp [RepR, RepRL]; done) | exact repR_vlu _ _ _ rfl), List.nodup_nil, (by first | exact hb | exact hb.below)⟩
theorem grownBy_two {w w1 w2 : World} {g : Option Nat} (h : w.grownBy w1 g) (k : w1.grownBy w2 g) : w.grownBy w2 g :=
  ⟨k.os.trans h.os, k.tape.trans h.tape, k.output.trans h.output, Nat.le_trans h.size k.size, fun i hi hn => (k.block i (Nat.lt_of_lt_of_le hi h.size) hn).trans (h.block i hi hn)⟩
theorem flat_eI (l : List Int) : (l.map eI).flatten = l.map (Value.int .i64) := by
  induction l with
  | nil => rfl
  | cons x l ih => rw [List.map_cons, List.flatten_cons, ih]; rfl
theorem compact_le (zs : List Int) : (Go.Lib.compact zs).length ≤ zs.length := by
  unfold Go.Lib.compact Go.Lib.compactUpTo
  rw [List.length_map]
  exact Nat.le_trans (List.length_filter_le _ _) (by simp)
set_option maxHeartbeats 4000000 in
open Go.Sort in
theorem impl_ordered.turn {l0 r : List Int} (h : impl_ordered.f l0 = some r) : CtrT Tryd.prog 90 3 1 (l0.map eI) [] (r.map eI) := by
 unfold impl_ordered.f at h
 obtain ⟨hl, hr⟩ := ifN h
 injection hr with hr
 refine ⟨enters_of Tryd.func90 rfl rfl, fun x hx => ?_, fun w B y hB ho => ?_⟩
 ·obtain ⟨z, _, rfl⟩ := List.mem_map.1 hx
  exact ⟨rfl, fun u hu => by simp [eI] at hu; subst hu; rfl⟩
 simp only [vluL]
 rw [List.length_map, flat_eI] at ho
 rw [List.length_map, flat_eI]
 generalize hm : l0.mergeSort (fun x y => decide (x ≤ y)) = ms at hr
 have hml : ms.length = l0.length := by rw [← hm]; exact List.length_mergeSort l0
 rcases ho.2 with ⟨rfl, h0⟩ | ⟨g, cap, cur, rfl, h1, h2, h3, h4, h5, h6⟩
 ·obtain rfl : l0 = [] := List.eq_nil_of_length_eq_zero h0
  obtain rfl : ms = [] := List.eq_nil_of_length_eq_zero hml
  obtain rfl : r = [] := by rw [← hr]; rfl
  clear h hm ho hl
  go_enter Tryd.func90, Tryd.ntmps90
  go_wp2_with (first | (go_at_call 112; refine (Any.slices_Sort_int_none Tryd.lays189 none 0 _).mono ?_; rintro e w' ⟨rfl, rfl⟩) | (go_at_call 113; refine (Any.slices_Compact_int_empty Tryd.lays2020 none 0 _).mono ?_; rintro e w' ⟨rfl, rfl⟩))
  go_ret
  exact ⟨_, rfl, World.ownsRow_nil _ _ _ _, World.grownBy.refl _ _, fun k hk => by cases hk⟩
 ·rw [Nat.mul_one] at h6
  have hg : g < w.heap.size := (Array.getElem?_eq_some_iff.1 h2).1
  have hS := Any.slices_Sort_int Tryd.lays189 g 0 cap l0 w (holds_of_blockI h2 h6) hg hl
  rw [hm] at hS
  have hsz : ms.length ≤ cur.size := by rw [hml, h5, Nat.mul_one]; exact h3
  have hC : ∀ n os, Calls Tryd.prog 113 #[.slice (some ⟨g, 0, none⟩) l0.length cap] (grow (putRow (Value.int .i64) (Sort.ahead w n) g 0 ms.toArray) os) fun e w' => e = .returned (.slice (some ⟨g, 0, none⟩) r.length cap) ∧ w'.ownsRow B 3 1 (.slice (some ⟨g, 0, none⟩) r.length cap) r.length (r.map (Value.int .i64)) ∧ w.grownBy w' (some g) := by
   intro n os
   have hb := heap_sortedI (w := w) (g := g) (n := n) (os := os) ms.toArray h2
   have hk := Any.slices_Compact_int Tryd.lays2020 g 0 cap ms _ (holds_of_blockI hb (take_putCellsI cur ms hsz)) (by rw [hml]; omega) (by rw [hml]; exact h3)
   rw [hr, hml] at hk
   refine hk.mono ?_
   rintro e w' ⟨rfl, q, rfl⟩
   have hrl : r.length ≤ l0.length := by rw [← hr, ← hml]; exact compact_le ms
   have hg0 : ∀ (w : World) d, w.grownBy (putRow (Value.int .i64) (Sort.ahead w q) g 0 d) (some g) := fun w d => by
    have := grownBy_sortedI (w := w) (g := g) (n := q) (os := #[]) d
    rwa [grow_empty] at this
   refine ⟨rfl, ⟨by simp, .inr ⟨g, cap, _, rfl, h1, by have := heap_sortedI (n := q) (os := #[]) (r ++ List.replicate (l0.length - r.length) 0).toArray hb; rwa [grow_empty] at this, Nat.le_trans hrl h3, h4, by simp [putCells, h5], ?_⟩⟩, grownBy_two (grownBy_sortedI _) (hg0 _ _)⟩
   have ht := take_putCellsI (putCells (Value.int .i64) 0 ms.toArray cur) (r ++ List.replicate (l0.length - r.length) 0) (by simp [putCells]; omega)
   rw [Nat.mul_one]
   have h7 := congrArg (List.take r.length) ht
   rw [List.take_take, Nat.min_eq_left (by simp), List.map_append, List.take_append_of_le_length (by simp), List.take_of_length_le (l := List.map (Value.int .i64) r) (by simp)] at h7
   exact h7
  clear h hr h6 h5 ho
  go_enter Tryd.func90, Tryd.ntmps90
  go_wp2_with (first | (go_at_call 112; refine hS.mono ?_; rintro e w' ⟨rfl, n, os, rfl⟩) | (go_at_call 113; refine (hC n os).mono ?_; rintro e w' ⟨rfl, HO, HG⟩))
  go_ret
  exact ⟨_, rfl, HO, HG, fun k hk => .inl hk⟩
theorem impl_IsSimple.ctr {l0 : List Int} {r : Bool} (h : impl_IsSimple.f l0 = some r) : Ctr Tryd.prog 58 [.pr 1 (l0.map eI)] (.v (.bool r)) := by
  refine Ctr_of tyOk hm Tryd.func58 rfl rfl (by kernel_rfl) (n := 9) (rv := [.tmp 2]) rfl rfl ?_
  simp only [W, List.replicate]
  unfold impl_IsSimple.f at h
  replace h := bnd h; obtain ⟨t1, A, h⟩ := h
  try simp only [W, p1, p2, p3, p4, p5, p6, p7, p8, p9, p10, p11, p12]
  refine callR (slices_Clone_int.ctr A) ?_
  replace h := bnd h; obtain ⟨t2, A, h⟩ := h
  try simp only [W, p1, p2, p3, p4, p5, p6, p7, p8, p9, p10, p11, p12]
  refine callT (by simp only [W, p1, p2, p3, p4, p5, p6, p7, p8, p9, p10, p11, p12]) rfl (impl_ordered.turn A) ⟨_, rfl, ?_⟩
  cases h
  try simp only [W, p1, p2, p3, p4, p5, p6, p7, p8, p9, p10, p11, p12]
theorem impl_CrowdOk.ctr {a0_0 : Int} {a0_1 : Int} {a0_2 : Int} {l1 : List Int} {r : Bool} (h : impl_CrowdOk.f a0_0 a0_1 a0_2 l1 = some r) : Ctr Tryd.prog 29 [.ag [.v (.int .i64 a0_0), .v (.int .i64 a0_1), .v (.int .i64 a0_2)], .pr 1 (l1.map eI)] (.v (.bool r)) := by
  refine Ctr_of tyOk hm Tryd.func29 rfl rfl (by kernel_rfl) (n := 15) (rv := [.tmp 4]) rfl rfl ?_
  simp only [W, List.replicate]
  unfold impl_CrowdOk.f at h
  replace h := ifS h; rcases h with ⟨c1, h⟩ | ⟨c1, h⟩
  · replace h := bnd h; obtain ⟨t2, A, h⟩ := h
    try simp only [W, c1, p1, p2, p3, p4, p5, p6, p7, p8, p9, p10, p11, p12]
    refine callR (impl_isIn.ctr A) ?_
    replace h := ifT h; rcases h with ⟨rfl, h⟩ | ⟨rfl, h⟩
    · replace h := bnd h; obtain ⟨t4, A, h⟩ := h
      try simp only [W, c1, p1, p2, p3, p4, p5, p6, p7, p8, p9, p10, p11, p12]
      refine callR (impl_IsSimple.ctr A) ?_
      cases h
      try simp only [W, c1, p1, p2, p3, p4, p5, p6, p7, p8, p9, p10, p11, p12]
    · cases h
      try simp only [W, c1, p1, p2, p3, p4, p5, p6, p7, p8, p9, p10, p11, p12]
  · cases h
    try simp only [W, c1, p1, p2, p3, p4, p5, p6, p7, p8, p9, p10, p11, p12]
theorem impl_CrowdOk.callsG (a0_0 : Int) (a0_1 : Int) (a0_2 : Int) (A1 : Option Addr) (c1 : Nat) (l1 : List Int) (r : Bool) (w : World) (hgl : Gl w) (hr1 : Kd.C (Kd.int .i64) w A1 l1.length l1) (hc1 : l1.length ≤ c1) (h : impl_CrowdOk.f a0_0 a0_1 a0_2 l1 = some r) :
    Calls Tryd.prog 29 #[.agg #[.int .i64 a0_0, .int .i64 a0_1, .int .i64 a0_2], .slice A1 l1.length c1] w fun e w' => e = .returned (.bool r) ∧ Below w.heap.size w w' := by
  refine ((impl_CrowdOk.ctr h).2 w [.agg #[.int .i64 a0_0, .int .i64 a0_1, .int .i64 a0_2], .slice A1 l1.length c1] hgl (by simp only [RepL, Rep]; exact ⟨_, _, rfl, ⟨_, rfl, _, _, rfl, rfl, _, _, rfl, rfl, _, _, rfl, rfl, rfl⟩, _, _, rfl, at_of_C E_eI hr1 hc1, rfl⟩)).mono ?_
  rintro _ _ ⟨y, L, rfl, hR, _, hb⟩
  exact ⟨congrArg Ending.returned (RepR_pln rfl hR).1, hb⟩
theorem impl_isOpen.ctr {a0_0 : Int} {a0_1 : Int} {a0_2 : Int} {a1 : Int} {r : Bool} (h : impl_isOpen.f a0_0 a0_1 a0_2 a1 = some r) : Ctr Tryd.prog 83 [.ag [.v (.int .i64 a0_0), .v (.int .i64 a0_1), .v (.int .i64 a0_2)], .v (.int .i64 a1)] (.v (.bool r)) := by
  refine Ctr_of tyOk hm Tryd.func83 rfl rfl (by kernel_rfl) (n := 13) (rv := [.tmp 4]) rfl rfl ?_
  simp only [W, List.replicate]
  unfold impl_isOpen.f at h
  replace h := ifS h; rcases h with ⟨c1, h⟩ | ⟨c1, h⟩
  · replace h := ifN h; obtain ⟨c2, h⟩ := h
    cases h
    try simp only [W, c1, c2, p1, p2, p3, p4, p5, p6, p7, p8, p9, p10, p11, p12]
  · cases h
    try simp only [W, c1, p1, p2, p3, p4, p5, p6, p7, p8, p9, p10, p11, p12]
end Go.Proofs.YtdjdleldocfpaaaDoor.F
end

section
namespace Go.Proofs.YtdjdleldocfpaaaDoor.F
open Go.RowKit Go.Proofs.YtdjdleldocfpaaaDoorW.PrintWords Go.Proofs.YtdjdleldocfpaaaDoorW.PrintLast Go.Proofs.YtdjdleldocfpaaaDoorW.PrintMore
set_option linter.unusedVariables false
set_option linter.unusedSimpArgs false
attribute [local go_sem] max2_int min2_int max_two min_two
set_option maxRecDepth 20000
set_option maxHeartbeats 4000000
open Nat renaming reduceAdd → p1, reduceSub → p2, reduceMul → p3, reduceDiv → p4, reduceBNe → p5, reduceBEq → p6, reduceEqDiff → p7, reduceLeDiff → p8, reduceLT → p9
open Int renaming reduceLE → p10, reduceLT → p11, reduceEq → p12
theorem impl_Neighbor.ctr {k : Nat} {a0_0 : Int} {a0_1 : Int} {a1 : Int} {a2 : Int} {r : Int} (h : impl_Neighbor.f k a0_0 a0_1 a1 a2 = some r) : Ctr Tryd.prog 85 [.ag [.v (.int .i64 a0_0), .v (.int .i64 a0_1)], .v (.int .i64 a1), .v (.int .i64 a2)] (.v (.int .i64 r)) := by
  refine Ctr_of tyOk hm Tryd.func85 rfl rfl (by kernel_rfl) (n := 64) (rv := [.tmp 6]) rfl rfl ?_
  simp only [W, List.replicate]
  unfold impl_Neighbor.f at h
  replace h := bnd h; obtain ⟨t1, A, h⟩ := h
  try simp only [W, p1, p2, p3, p4, p5, p6, p7, p8, p9, p10, p11, p12]
  refine callR (impl_isCell.ctr A) ?_
  replace h := ifT h; rcases h with ⟨rfl, h⟩ | ⟨rfl, h⟩
  · replace h := ifM h; obtain ⟨c3, h⟩ := h
    replace h := ifS h; rcases h with ⟨c4, h⟩ | ⟨c4, h⟩
    · rcases k with _ | m5; · cases h
      rw [impl_Neighbor.j0] at h
      replace h := ifT h; rcases h with ⟨c6, h⟩ | ⟨c6, h⟩
      · cases h
        try simp only [W, c3, eq_true c4, c6, p1, p2, p3, p4, p5, p6, p7, p8, p9, p10, p11, p12]
      · replace h := ifS h; rcases h with ⟨c7, h⟩ | ⟨c7, h⟩
        · rcases m5 with _ | m8; · cases h
          rw [impl_Neighbor.j1] at h
          replace h := ifT h; rcases h with ⟨c9, h⟩ | ⟨c9, h⟩
          · cases h
            try simp only [W, c3, eq_true c4, c6, eq_true c7, c9, p1, p2, p3, p4, p5, p6, p7, p8, p9, p10, p11, p12]
          · replace h := ifS h; rcases h with ⟨c10, h⟩ | ⟨c10, h⟩
            · rcases m8 with _ | m11; · cases h
              rw [impl_Neighbor.j2] at h
              replace h := ifT h; rcases h with ⟨c12, h⟩ | ⟨c12, h⟩
              · cases h
                try simp only [W, c3, eq_true c4, c6, eq_true c7, c9, eq_true c10, c12, p1, p2, p3, p4, p5, p6, p7, p8, p9, p10, p11, p12]
              · replace h := ifS h; rcases h with ⟨c13, h⟩ | ⟨c13, h⟩
                · replace h := ifS h; rcases h with ⟨c14, h⟩ | ⟨c14, h⟩
                  · cases h
                    try simp only [W, c3, eq_true c4, c6, eq_true c7, c9, eq_true c10, c12, eq_true c13, c14, p1, p2, p3, p4, p5, p6, p7, p8, p9, p10, p11, p12]
                  · cases h
                    try simp only [W, c3, eq_true c4, c6, eq_true c7, c9, eq_true c10, c12, eq_true c13, c14, p1, p2, p3, p4, p5, p6, p7, p8, p9, p10, p11, p12]
                · cases h
                  try simp only [W, c3, eq_true c4, c6, eq_true c7, c9, eq_true c10, c12, c13, p1, p2, p3, p4, p5, p6, p7, p8, p9, p10, p11, p12]
            · rcases m8 with _ | m11; · cases h
              rw [impl_Neighbor.j2] at h
              rw [if_neg (by decide)] at h
              replace h := ifS h; rcases h with ⟨c13, h⟩ | ⟨c13, h⟩
              · replace h := ifS h; rcases h with ⟨c14, h⟩ | ⟨c14, h⟩
                · cases h
                  try simp only [W, c3, eq_true c4, c6, eq_true c7, c9, c10, eq_true c13, c14, p1, p2, p3, p4, p5, p6, p7, p8, p9, p10, p11, p12]
                · cases h
                  try simp only [W, c3, eq_true c4, c6, eq_true c7, c9, c10, eq_true c13, c14, p1, p2, p3, p4, p5, p6, p7, p8, p9, p10, p11, p12]
              · cases h
                try simp only [W, c3, eq_true c4, c6, eq_true c7, c9, c10, c13, p1, p2, p3, p4, p5, p6, p7, p8, p9, p10, p11, p12]
        · rcases m5 with _ | m8; · cases h
          rw [impl_Neighbor.j1] at h
          rw [if_neg (by decide)] at h
          replace h := ifS h; rcases h with ⟨c10, h⟩ | ⟨c10, h⟩
          · rcases m8 with _ | m11; · cases h
            rw [impl_Neighbor.j2] at h
            replace h := ifT h; rcases h with ⟨c12, h⟩ | ⟨c12, h⟩
            · cases h
              try simp only [W, c3, eq_true c4, c6, c7, eq_true c10, c12, p1, p2, p3, p4, p5, p6, p7, p8, p9, p10, p11, p12]
            · replace h := ifS h; rcases h with ⟨c13, h⟩ | ⟨c13, h⟩
              · replace h := ifS h; rcases h with ⟨c14, h⟩ | ⟨c14, h⟩
                · cases h
                  try simp only [W, c3, eq_true c4, c6, c7, eq_true c10, c12, eq_true c13, c14, p1, p2, p3, p4, p5, p6, p7, p8, p9, p10, p11, p12]
                · cases h
                  try simp only [W, c3, eq_true c4, c6, c7, eq_true c10, c12, eq_true c13, c14, p1, p2, p3, p4, p5, p6, p7, p8, p9, p10, p11, p12]
              · cases h
                try simp only [W, c3, eq_true c4, c6, c7, eq_true c10, c12, c13, p1, p2, p3, p4, p5, p6, p7, p8, p9, p10, p11, p12]
          · rcases m8 with _ | m11; · cases h
            rw [impl_Neighbor.j2] at h
            rw [if_neg (by decide)] at h
            replace h := ifS h; rcases h with ⟨c13, h⟩ | ⟨c13, h⟩
            · replace h := ifS h; rcases h with ⟨c14, h⟩ | ⟨c14, h⟩
              · cases h
                try simp only [W, c3, eq_true c4, c6, c7, c10, eq_true c13, c14, p1, p2, p3, p4, p5, p6, p7, p8, p9, p10, p11, p12]
              · cases h
                try simp only [W, c3, eq_true c4, c6, c7, c10, eq_true c13, c14, p1, p2, p3, p4, p5, p6, p7, p8, p9, p10, p11, p12]
            · cases h
              try simp only [W, c3, eq_true c4, c6, c7, c10, c13, p1, p2, p3, p4, p5, p6, p7, p8, p9, p10, p11, p12]
    · rcases k with _ | m5; · cases h
      rw [impl_Neighbor.j0] at h
      rw [if_neg (by decide)] at h
      replace h := ifS h; rcases h with ⟨c7, h⟩ | ⟨c7, h⟩
      · rcases m5 with _ | m8; · cases h
        rw [impl_Neighbor.j1] at h
        replace h := ifT h; rcases h with ⟨c9, h⟩ | ⟨c9, h⟩
        · cases h
          try simp only [W, c3, c4, eq_true c7, c9, p1, p2, p3, p4, p5, p6, p7, p8, p9, p10, p11, p12]
        · replace h := ifS h; rcases h with ⟨c10, h⟩ | ⟨c10, h⟩
          · rcases m8 with _ | m11; · cases h
            rw [impl_Neighbor.j2] at h
            replace h := ifT h; rcases h with ⟨c12, h⟩ | ⟨c12, h⟩
            · cases h
              try simp only [W, c3, c4, eq_true c7, c9, eq_true c10, c12, p1, p2, p3, p4, p5, p6, p7, p8, p9, p10, p11, p12]
            · replace h := ifS h; rcases h with ⟨c13, h⟩ | ⟨c13, h⟩
              · replace h := ifS h; rcases h with ⟨c14, h⟩ | ⟨c14, h⟩
                · cases h
                  try simp only [W, c3, c4, eq_true c7, c9, eq_true c10, c12, eq_true c13, c14, p1, p2, p3, p4, p5, p6, p7, p8, p9, p10, p11, p12]
                · cases h
                  try simp only [W, c3, c4, eq_true c7, c9, eq_true c10, c12, eq_true c13, c14, p1, p2, p3, p4, p5, p6, p7, p8, p9, p10, p11, p12]
              · cases h
                try simp only [W, c3, c4, eq_true c7, c9, eq_true c10, c12, c13, p1, p2, p3, p4, p5, p6, p7, p8, p9, p10, p11, p12]
          · rcases m8 with _ | m11; · cases h
            rw [impl_Neighbor.j2] at h
            rw [if_neg (by decide)] at h
            replace h := ifS h; rcases h with ⟨c13, h⟩ | ⟨c13, h⟩
            · replace h := ifS h; rcases h with ⟨c14, h⟩ | ⟨c14, h⟩
              · cases h
                try simp only [W, c3, c4, eq_true c7, c9, c10, eq_true c13, c14, p1, p2, p3, p4, p5, p6, p7, p8, p9, p10, p11, p12]
              · cases h
                try simp only [W, c3, c4, eq_true c7, c9, c10, eq_true c13, c14, p1, p2, p3, p4, p5, p6, p7, p8, p9, p10, p11, p12]
            · cases h
              try simp only [W, c3, c4, eq_true c7, c9, c10, c13, p1, p2, p3, p4, p5, p6, p7, p8, p9, p10, p11, p12]
      · rcases m5 with _ | m8; · cases h
        rw [impl_Neighbor.j1] at h
        rw [if_neg (by decide)] at h
        replace h := ifS h; rcases h with ⟨c10, h⟩ | ⟨c10, h⟩
        · rcases m8 with _ | m11; · cases h
          rw [impl_Neighbor.j2] at h
          replace h := ifT h; rcases h with ⟨c12, h⟩ | ⟨c12, h⟩
          · cases h
            try simp only [W, c3, c4, c7, eq_true c10, c12, p1, p2, p3, p4, p5, p6, p7, p8, p9, p10, p11, p12]
          · replace h := ifS h; rcases h with ⟨c13, h⟩ | ⟨c13, h⟩
            · replace h := ifS h; rcases h with ⟨c14, h⟩ | ⟨c14, h⟩
              · cases h
                try simp only [W, c3, c4, c7, eq_true c10, c12, eq_true c13, c14, p1, p2, p3, p4, p5, p6, p7, p8, p9, p10, p11, p12]
              · cases h
                try simp only [W, c3, c4, c7, eq_true c10, c12, eq_true c13, c14, p1, p2, p3, p4, p5, p6, p7, p8, p9, p10, p11, p12]
            · cases h
              try simp only [W, c3, c4, c7, eq_true c10, c12, c13, p1, p2, p3, p4, p5, p6, p7, p8, p9, p10, p11, p12]
        · rcases m8 with _ | m11; · cases h
          rw [impl_Neighbor.j2] at h
          rw [if_neg (by decide)] at h
          replace h := ifS h; rcases h with ⟨c13, h⟩ | ⟨c13, h⟩
          · replace h := ifS h; rcases h with ⟨c14, h⟩ | ⟨c14, h⟩
            · cases h
              try simp only [W, c3, c4, c7, c10, eq_true c13, c14, p1, p2, p3, p4, p5, p6, p7, p8, p9, p10, p11, p12]
            · cases h
              try simp only [W, c3, c4, c7, c10, eq_true c13, c14, p1, p2, p3, p4, p5, p6, p7, p8, p9, p10, p11, p12]
          · cases h
            try simp only [W, c3, c4, c7, c10, c13, p1, p2, p3, p4, p5, p6, p7, p8, p9, p10, p11, p12]
  · cases h
    try simp only [W, p1, p2, p3, p4, p5, p6, p7, p8, p9, p10, p11, p12]
theorem impl_GapAt.ctr {k : Nat} {a0_0 : Int} {a0_1 : Int} {a1 : Int} {a2 : Int} {r : Int} (h : impl_GapAt.f k a0_0 a0_1 a1 a2 = some r) : Ctr Tryd.prog 84 [.ag [.v (.int .i64 a0_0), .v (.int .i64 a0_1)], .v (.int .i64 a1), .v (.int .i64 a2)] (.v (.int .i64 r)) := by
  refine Ctr_of tyOk hm Tryd.func84 rfl rfl (by kernel_rfl) (n := 42) (rv := [.tmp 6]) rfl rfl ?_
  simp only [W, List.replicate]
  unfold impl_GapAt.f at h
  replace h := bnd h; obtain ⟨t1, A, h⟩ := h
  try simp only [W, p1, p2, p3, p4, p5, p6, p7, p8, p9, p10, p11, p12]
  refine callR (impl_Neighbor.ctr A) ?_
  replace h := ifS h; rcases h with ⟨c2, h⟩ | ⟨c2, h⟩
  · cases h
    try simp only [W, c2, p1, p2, p3, p4, p5, p6, p7, p8, p9, p10, p11, p12]
  · replace h := ifS h; rcases h with ⟨c3, h⟩ | ⟨c3, h⟩
    · replace h := ifM h; obtain ⟨c4, h⟩ := h
      cases h
      try simp only [W, c2, eq_true c3, c4, p1, p2, p3, p4, p5, p6, p7, p8, p9, p10, p11, p12]
    · replace h := ifS h; rcases h with ⟨c4, h⟩ | ⟨c4, h⟩
      · replace h := ifM h; obtain ⟨c5, h⟩ := h
        cases h
        try simp only [W, c2, c3, eq_true c4, c5, p1, p2, p3, p4, p5, p6, p7, p8, p9, p10, p11, p12]
      · cases h
        try simp only [W, c2, c3, c4, p1, p2, p3, p4, p5, p6, p7, p8, p9, p10, p11, p12]
theorem impl_Step.ctr {k : Nat} {a0_0 : Int} {a0_1 : Int} {a0_2 : Int} {a1 : Int} {a2 : Int} {r : Int} (h : impl_Step.f k a0_0 a0_1 a0_2 a1 a2 = some r) : Ctr Tryd.prog 55 [.ag [.v (.int .i64 a0_0), .v (.int .i64 a0_1), .v (.int .i64 a0_2)], .v (.int .i64 a1), .v (.int .i64 a2)] (.v (.int .i64 r)) := by
  refine Ctr_of tyOk hm Tryd.func55 rfl rfl (by kernel_rfl) (n := 22) (rv := [.tmp 6]) rfl rfl ?_
  simp only [W, List.replicate]
  unfold impl_Step.f at h
  replace h := bnd h; obtain ⟨t1, A, h⟩ := h
  try simp only [W, p1, p2, p3, p4, p5, p6, p7, p8, p9, p10, p11, p12]
  refine callR (impl_MazeOk.ctr A) ?_
  replace h := ifT h; rcases h with ⟨rfl, h⟩ | ⟨rfl, h⟩
  · replace h := bnd h; obtain ⟨t3, A, h⟩ := h
    try simp only [W, p1, p2, p3, p4, p5, p6, p7, p8, p9, p10, p11, p12]
    refine callR (impl_GapAt.ctr A) ?_
    replace h := bnd h; obtain ⟨t4, A, h⟩ := h
    try simp only [W, p1, p2, p3, p4, p5, p6, p7, p8, p9, p10, p11, p12]
    refine callR (impl_isOpen.ctr A) ?_
    replace h := ifT h; rcases h with ⟨rfl, h⟩ | ⟨rfl, h⟩
    · replace h := bnd h; obtain ⟨t6, A, h⟩ := h
      try simp only [W, p1, p2, p3, p4, p5, p6, p7, p8, p9, p10, p11, p12]
      refine callR (impl_Neighbor.ctr A) ?_
      cases h
      try simp only [W, p1, p2, p3, p4, p5, p6, p7, p8, p9, p10, p11, p12]
    · cases h
      try simp only [W, p1, p2, p3, p4, p5, p6, p7, p8, p9, p10, p11, p12]
  · cases h
    try simp only [W, p1, p2, p3, p4, p5, p6, p7, p8, p9, p10, p11, p12]
theorem slices_Index_int.ctr {k : Nat} {l0 : List Int} {a1 : Int} {r : Int} (h : slices_Index_int.f k l0 a1 = some r) : Ctr Tryd.prog 86 [.pr 1 (l0.map eI), .v (.int .i64 a1)] (.v (.int .i64 r)) := by
  refine Ctr_of tyOk hm Tryd.func86 rfl rfl (by kernel_rfl) (n := 17) (rv := [.tmp 4]) rfl rfl ?_
  simp only [W, List.replicate]
  unfold slices_Index_int.f at h
  try simp only [W, p1, p2, p3, p4, p5, p6, p7, p8, p9, p10, p11, p12]
  refine loopN (fun x : List Int × Int × Int × Int => [.pr 1 (List.map eI x.1), .v (.int .i64 x.2.1), .u, .u, .u, .u, .u, .v (.int .i64 x.2.2.1), .v (.int .i64 x.2.2.2), .u, .u, .u, .u, .u, .u, .u, .u, .u, .u]) (fun x => []) (fun n x => slices_Index_int.l0 n x.1 x.2.1 x.2.2.1 x.2.2.2 = some r) (l0, a1, (l0.length : Int), 0) [] h (by simp only [W, p1, p2, p3, p4, p5, p6, p7, p8, p9, p10, p11, p12] <;> trivial) (by simp only [W, p1, p2, p3, p4, p5, p6, p7, p8, p9, p10, p11, p12] <;> trivial) rfl (fun _ h => by cases h) ?_
  intro n1 ⟨x1, x2, x3, x4⟩ _ h
  simp only [slices_Index_int.l0] at h
  replace h := ifS h; rcases h with ⟨c5, h⟩ | ⟨c5, h⟩
  · replace h := ifN h; obtain ⟨c6, h⟩ := h
    replace h := ifN h; obtain ⟨c7, h⟩ := h
    replace h := ifS h; rcases h with ⟨c8, h⟩ | ⟨c8, h⟩
    · cases h
      try simp only [W, c5, c6, c7, eq_true c8, p1, p2, p3, p4, p5, p6, p7, p8, p9, p10, p11, p12]
    · try simp only [W, c5, c6, c7, c8, p1, p2, p3, p4, p5, p6, p7, p8, p9, p10, p11, p12]
      exact nextN (x1, x2, x3, (wrap64 (x4 + 1))) [] n1 (by omega) h (by simp only [W, p1, p2, p3, p4, p5, p6, p7, p8, p9, p10, p11, p12] <;> trivial) (by simp only [W, p1, p2, p3, p4, p5, p6, p7, p8, p9, p10, p11, p12] <;> trivial) rfl
  · cases h
    try simp only [W, c5, p1, p2, p3, p4, p5, p6, p7, p8, p9, p10, p11, p12]
theorem slices_Contains_int.ctr {k : Nat} {l0 : List Int} {a1 : Int} {r : Bool} (h : slices_Contains_int.f k l0 a1 = some r) : Ctr Tryd.prog 56 [.pr 1 (l0.map eI), .v (.int .i64 a1)] (.v (.bool r)) := by
  refine Ctr_of tyOk hm Tryd.func56 rfl rfl (by kernel_rfl) (n := 7) (rv := [.tmp 4]) rfl rfl ?_
  simp only [W, List.replicate]
  unfold slices_Contains_int.f at h
  replace h := bnd h; obtain ⟨t1, A, h⟩ := h
  try simp only [W, p1, p2, p3, p4, p5, p6, p7, p8, p9, p10, p11, p12]
  refine callR (slices_Index_int.ctr A) ?_
  cases h
  try simp only [W, p1, p2, p3, p4, p5, p6, p7, p8, p9, p10, p11, p12]
end Go.Proofs.YtdjdleldocfpaaaDoor.F
end
