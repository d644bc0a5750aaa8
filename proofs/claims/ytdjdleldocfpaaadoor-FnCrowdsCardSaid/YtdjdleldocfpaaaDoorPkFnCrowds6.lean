/- Packed by a program of the session (wip/tools/pack.py): what the claim's theorem reaches, of the texts that wip/ and the kit's printer lay. -/
import Derived.Test.YtdjdleldocfpaaaDoorPkFnCrowds5
import Derived.Lib.ItoaNum
import Derived.Lib.AtoiAll
import Derived.Lib.Split
section
namespace Go.Proofs.YtdjdleldocfpaaaDoor.F
open Go.RowKit Go.Proofs.YtdjdleldocfpaaaDoorW.PrintWords Go.Proofs.YtdjdleldocfpaaaDoorW.PrintLast Go.Proofs.YtdjdleldocfpaaaDoorW.PrintMore
set_option linter.unusedVariables false
set_option linter.unusedSimpArgs false
theorem W1 : (∀ x t, gT (x :: t) 0 = x) ∧ (∀ x t n, gT (x :: t) (n + 1) = gT t n) ∧ (∀ x t y, sT (x :: t) 0 y = y :: t) ∧ (∀ x t n y, sT (x :: t) (n + 1) y = x :: sT t n y) ∧
    (∀ t d y, pT t (some d) y = sT t d y) ∧ (∀ t y, pT t none y = t) ∧ (∀ t i, eT t (.tmp i) = gT t i) ∧ (∀ t x, eT t (.const x) = .v x) ∧
    (∀ i b s j, gS ((i, b) :: s) j = if i = j then some b else gS s j) ∧ (∀ j b, uS [] j b = [(j, b)]) ∧ (∀ i c s j b, uS ((i, c) :: s) j b = if i = j then (j, b) :: s else (i, c) :: uS s j b) ∧
    (∀ j, dS [] j = []) ∧ (∀ i c s j, dS ((i, c) :: s) j = if i = j then dS s j else (i, c) :: dS s j) ∧
    (∀ cs, AV.cells (.ag cs) = cs) ∧ (∀ x, AV.cells (.v x) = [.v x]) ∧ (∀ i, AV.cells (.lo i) = [.lo i]) ∧ (∀ i o, AV.cells (.bp i o) = [.bp i o]) ∧ (∀ z l, AV.cells (.pr z l) = [.pr z l]) ∧
    (∀ n x l, tk (n + 1) (x :: l) = x :: tk n l) ∧ (∀ l, tk 0 l = []) ∧ (∀ n x l, dp (n + 1) (x :: l) = dp n l) ∧ (∀ l, dp 0 l = l) ∧ (∀ x l, hd1 (x :: l) = x) ∧
    (∀ n cs, cutA true n cs = .ag (tk n cs)) ∧ (∀ n cs, cutA false n cs = hd1 cs) ∧ (∀ n l, putA n [] l = l) ∧ (∀ y ys x l, putA 0 (y :: ys) (x :: l) = y :: putA 0 ys l) ∧ (∀ n y ys x l, putA (n + 1) (y :: ys) (x :: l) = x :: putA n (y :: ys) l) ∧
    (vs [] = []) ∧ (∀ x l, vs (x :: l) = .v x :: vs l) ∧ (unv [] = []) ∧ (∀ x l, unv (.v x :: l) = x :: unv l) := by
  refine ⟨?_, ?_, ?_, ?_, ?_, ?_, ?_, ?_, ?_, ?_, ?_, ?_, ?_, ?_, ?_, ?_, ?_, ?_, ?_, ?_, ?_, ?_, ?_, ?_, ?_, ?_, ?_, ?_, ?_, ?_, ?_, ?_⟩ <;> intros <;> try rfl
  · rename_i n l; cases n <;> cases l <;> rfl
theorem W2 : (∀ s, toPL s [] = []) ∧ (∀ s c cs, toPL s (c :: cs) = toP s c :: toPL s cs) ∧ (∀ s cs, toP s (.ag cs) = .ag (toPL s cs)) ∧ (∀ s k n, toP s (.v (.int k n)) = .v (.int k n)) ∧ (∀ s b, toP s (.v (.bool b)) = .v (.bool b)) ∧
    (∀ s b, toP s (.v (.string b)) = .v (.string b)) ∧ (∀ s, toP s (.v (.slice none 0 0)) = .pr 1 []) ∧ (∀ s z x, toP s (.pr z x) = .pr z x) ∧
    (∀ s, toRL s [] = []) ∧ (∀ s c cs, toRL s (c :: cs) = toR s c :: toRL s cs) ∧ (∀ s cs, toR s (.ag cs) = .ag (toRL s cs)) ∧ (∀ s cs, toR s (.tu cs) = .tu (toRL s cs)) ∧ (∀ s x, toR s (.v x) = .v x) ∧
    (∀ n e z x, im n (.ow e z x) = (.lo n, [(n, .row e z x)], n + 1)) ∧ (∀ n x, im n (.v x) = (.v x, [], n)) ∧ (∀ n cs, im n (.ag cs) = (.ag (imL n cs).1, (imL n cs).2)) ∧ (∀ n cs, im n (.tu cs) = (.tu (imL n cs).1, (imL n cs).2)) ∧
    (∀ n, imL n [] = ([], [], n)) ∧ (∀ n c cs, imL n (c :: cs) = ((im n c).1 :: (imL (im n c).2.2 cs).1, (im n c).2.1 ++ (imL (im n c).2.2 cs).2.1, (imL (im n c).2.2 cs).2.2)) := by
  refine ⟨?_, ?_, ?_, ?_, ?_, ?_, ?_, ?_, ?_, ?_, ?_, ?_, ?_, ?_, ?_, ?_, ?_, ?_, ?_⟩ <;> intros <;> rfl
section
variable (P : Program) (ty : TypeId → Option TI)
theorem W3 : (∀ Q t s, EW P ty .skip Q t s = Q .normal t s) ∧ (∀ i l Q t s, EW P ty (.region i ⟨l⟩ false) Q t s = opsW P ty (gds l) false l t s (kN Q)) ∧ (∀ i l Q t s, EW P ty (.region i ⟨l⟩ true) Q t s = (dchk l t s = true ∧ opsW P ty (gds l) true l t s (kN Q))) ∧ (∀ a b Q t s, EW P ty (.seq a b) Q t s = EW P ty a (kS P ty b Q) t s) ∧
    (∀ c x y Q t s, EW P ty (.cond c x y) Q t s = cdK P ty (eT t c) x y Q t s) ∧ (∀ i b Q t s, EW P ty (.block i b) Q t s = EW P ty b (kB i Q) t s) ∧ (∀ i Q t s, EW P ty (.exit i) Q t s = Q (.exit i) t s) ∧ (∀ Q t s, EW P ty .ret Q t s = Q .ret t s) ∧
    (∀ b Q t s, EW P ty (.loop b) Q t s = loopK P ty b Q t s) ∧
    (∀ Q t s, kN Q t s = Q .normal t s) ∧ (∀ b Q t s, kS P ty b Q .normal t s = EW P ty b Q t s) ∧ (∀ b Q i t s, kS P ty b Q (.exit i) t s = Q (.exit i) t s) ∧ (∀ b Q t s, kS P ty b Q .ret t s = Q .ret t s) ∧
    (∀ j i Q t s, kB j Q (.exit i) t s = if i = j then Q .normal t s else Q (.exit i) t s) ∧ (∀ j Q t s, kB j Q .normal t s = Q .normal t s) ∧ (∀ j Q t s, kB j Q .ret t s = Q .ret t s) ∧
    (∀ x y Q t s, cdK P ty (.v (.bool true)) x y Q t s = EW P ty x Q t s) ∧ (∀ x y Q t s, cdK P ty (.v (.bool false)) x y Q t s = EW P ty y Q t s) ∧
    (∀ g q t s K, opsW P ty g q [] t s K = K t s) ∧ (∀ g q d op o p a r t s K, opsW P ty g q (⟨d, op, o, p, a, none⟩ :: r) t s K = opX P ty (q && rot (ty o) op) op o d t s (kO P ty g (q && rot (ty o) op) r K)) ∧
    (∀ g q d op o p a i b r t s K, opsW P ty g q (⟨d, op, o, p, a, some (i, b)⟩ :: r) t s K = gdK P ty (gV t (gG g i)) b (q && rot (ty o) op) op o d g r t s K) ∧ (∀ g q r K t s, kO P ty g q r K t s = opsW P ty g q r t s K) ∧
    (∀ b q op o d g r t s K, gdK P ty (.v undef) b q op o d g r t s K = opsW P ty g q r (pT t d (.v undef)) s K) ∧ (∀ t d, gV t (some d) = gT t d) ∧ (∀ x l, gG (x :: l) 0 = x) ∧ (∀ x l n, gG (x :: l) (n + 1) = gG l n) ∧ (gds [] = []) ∧ (∀ o l, gds (o :: l) = o.dst :: gds l) ∧
    (∀ q op o d g r t s K, gdK P ty (.v (.bool true)) true q op o d g r t s K = opX P ty q op o d t s (kO P ty g q r K)) ∧ (∀ q op o d g r t s K, gdK P ty (.v (.bool false)) false q op o d g r t s K = opX P ty q op o d t s (kO P ty g q r K)) ∧
    (∀ q op o d g r t s K, gdK P ty (.v (.bool true)) false q op o d g r t s K = opsW P ty g q r (pT t d (.v undef)) s K) ∧ (∀ q op o d g r t s K, gdK P ty (.v (.bool false)) true q op o d g r t s K = opsW P ty g q r (pT t d (.v undef)) s K) := by
  refine ⟨?_, ?_, ?_, ?_, ?_, ?_, ?_, ?_, ?_, ?_, ?_, ?_, ?_, ?_, ?_, ?_, ?_, ?_, ?_, ?_, ?_, ?_, ?_, ?_, ?_, ?_, ?_, ?_, ?_, ?_, ?_, ?_⟩ <;> intros <;> first | rfl | (simp only [EW]; simp)
theorem W4 : (∀ q x o d t s K, opX P ty q (.move x) o d t s K = K (pT t d (eT t x)) s) ∧ (∀ q o d t s K, opX P ty q (.assign (.const (.slice none 0 0))) o d t s K = nilW ty (ty o) d t s K) ∧ (∀ q i o d t s K, opX P ty q (.assign (.tmp i)) o d t s K = K (pT t d (gT t i)) s) ∧
    (∀ q k n o d t s K, opX P ty q (.assign (.const (.int k n))) o d t s K = K (pT t d (.v (.int k n))) s) ∧ (∀ q b o d t s K, opX P ty q (.assign (.const (.bool b))) o d t s K = K (pT t d (.v (.bool b))) s) ∧ (∀ q b o d t s K, opX P ty q (.assign (.const (.string b))) o d t s K = K (pT t d (.v (.string b))) s) ∧
    (∀ q c a b o d t s K, opX P ty q (.pick c a b) o d t s K = pickW (eT t c) (eT t a) (eT t b) d t s K) ∧ (∀ q b o d t s K, opX P ty q (.alloc b) o d t s K = alW b (ty b) d t s K) ∧ (∀ q b x o d t s K, opX P ty q (.box b x) o d t s K = boxW b (eT t x).cells d t s K) ∧
    (∀ q b x o d t s K, opX P ty q (.load b x) o d t s K = loadW ty (ty b) (eT t x) d t s K) ∧ (∀ q b a x o t s K, opX P ty q (.store b a x) o none t s K = (q = false ∧ storeW (ty b) (eT t a) (eT t x) t s K)) ∧ (∀ q b x f o d t s K, opX P ty q (.fieldAddr b x f) o d t s K = faW (((ty b).map (·.fs)).bind (nthN · f)) (eT t x) d t s K) ∧
    (∀ q b x i o d t s K, opX P ty q (.indexAddr b x i) o d t s K = idxW ty (ty b) (eT t x) (eT t i) d t s K) ∧ (∀ q op a x y b o d t s K, opX P ty q (.binOp op a x y b) o d t s K = binX P a (ty a) op (eT t x) (eT t y) d t s K) ∧ (∀ q a x o d t s K, opX P ty q (.unOp .not a x) o d t s K = notW (eT t x) d t s K) ∧
    (∀ q x n o d t s K, opX P ty q (.extract x n) o d t s K = extW (eT t x) n d t s K) ∧ (∀ q x o d t s K, opX P ty q (.nilCheck x) o d t s K = chkW (eT t x) d t s K) ∧ (∀ q b x y o d t s K, opX P ty q (.makeSlice b x y) o d t s K = mkW ty (ty b) (eT t x) (eT t y) d t s K) ∧
    (∀ q b ps o d t s K, opX P ty q (.build b ⟨ps⟩) o d t s K = bldW (ty b) t ps d t s K) ∧ (∀ q b n ps o d t s K, opX P ty q (.buildSlice b n ⟨ps⟩) o d t s K = litT ty (ty b) n ps d t s K) ∧ (∀ q f l a o d t s K, opX P ty q (.call ⟨.value (.func f), ⟨l⟩, a⟩) o d t s K = callW P q f (mapE t l) d t s K) ∧ (∀ q x b o d t s K, opX P ty q (.call ⟨.builtin .len, ⟨[x]⟩, ⟨[b]⟩⟩) o d t s K = (lenT ty (ty b) (eT t x) = true ∧ lenW (eT t x) d t s K)) ∧
    (∀ q x y t1 t2 o d t s K, opX P ty q (.call ⟨.builtin .append, ⟨[x, y]⟩, ⟨[t1, t2]⟩⟩) o d t s K = (q = false ∧ appT t1 t2 ((ty t2).map (·.zero)) (eT t y) = true ∧ appW ty (ty t1) (eT t x) (eT t y) d t s K)) ∧ (∀ q x y a o d t s K, opX P ty q (.call ⟨.builtin .min, ⟨[x, y]⟩, a⟩) o d t s K = mmW true (eT t x) (eT t y) d t s K) ∧ (∀ q x y a o d t s K, opX P ty q (.call ⟨.builtin .max, ⟨[x, y]⟩, a⟩) o d t s K = mmW false (eT t x) (eT t y) d t s K) ∧
    (∀ t, mapE t [] = []) ∧ (∀ t x l, mapE t (x :: l) = eT t x :: mapE t l) := by
  refine ⟨?_, ?_, ?_, ?_, ?_, ?_, ?_, ?_, ?_, ?_, ?_, ?_, ?_, ?_, ?_, ?_, ?_, ?_, ?_, ?_, ?_, ?_, ?_, ?_, ?_, ?_, ?_⟩ <;> intros <;> (first | rfl | (unfold opX cW; simp) | (unfold opX; simp))
theorem W5 : (∀ a b d t s K, pickW (.v (.bool true)) a b d t s K = K (pT t d a) s) ∧ (∀ a b d t s K, pickW (.v (.bool false)) a b d t s K = K (pT t d b) s) ∧ (∀ b i d t s K, alW b (some i) d t s K = boxW b (vs i.zero) d t s K) ∧
    (∀ i id off d t s K, loadW ty (some i) (.bp id off) d t s K = loadB (gS s id) i off d t s K) ∧ (∀ i cs d t s K, loadW ty (some i) (.pe cs) d t s K = (i.size ≤ cs.length ∧ K (pT t d (cutA i.agg i.size (vs cs))) s)) ∧ (∀ i id z n off d t s K, loadW ty (some i) (.le id z n off) d t s K = loadE ty (gS s id) i z n off d t s K) ∧
    (∀ b cs i off d t s K, loadB (some (.box b cs)) i off d t s K = (off + i.size ≤ cs.length ∧ K (pT t d (cutA i.agg i.size (dp off cs))) s)) ∧
    (∀ i id off x t s K, storeW (some i) (.bp id off) x t s K = storeB (gS s id) id i off x.cells t s K) ∧ (∀ i id z n off x t s K, storeW (some i) (.le id z n off) x t s K = storeE (gS s id) id i z n off x.cells t s K) ∧
    (∀ b cs id i off c t s K, storeB (some (.box b cs)) id i off c t s K = (c.length = i.size ∧ off + i.size ≤ cs.length ∧ cellsOk c = true ∧ K t (uS s id (.box b (putA off c cs))))) ∧
    (∀ e z xs id i z' n off c t s K, storeE (some (.row e z xs)) id i z' n off c t s K = (z' = z ∧ off = 0 ∧ i.size = z ∧ c.length = z ∧ plainOk c = true ∧ K t (uS s id (.row e z (sR xs n (unv c)))))) ∧
    (∀ o id off d t s K, faW (some o) (.bp id off) d t s K = K (pT t d (.bp id (off + o))) s) ∧ (∀ o cs d t s K, faW (some o) (.pe cs) d t s K = K (pT t d (.pe (cs.drop o))) s) ∧ (∀ o id z i off d t s K, faW (some o) (.le id z i off) d t s K = K (pT t d (.le id z i (off + o))) s) ∧
    (∀ ti z xs k n d t s K, idxW ty (some ti) (.pr z xs) (.v (.int k n)) d t s K = ∃ q, (ty ti.el).map (·.zero) = some q ∧ q.length = z ∧ 0 ≤ n ∧ n < (xs.length : Int) ∧ K (pT t d (.pe (gR q xs n))) s) ∧ (∀ ti id k n d t s K, idxW ty (some ti) (.lo id) (.v (.int k n)) d t s K = idxE ty ti.el (gS s id) id n d t s K) ∧
    (∀ el e z xs id n d t s K, idxE ty el (some (.row e z xs)) id n d t s K = ((∃ j, ty el = some j ∧ j.size = z) ∧ 0 ≤ n ∧ n < (xs.length : Int) ∧ K (pT t d (.le id z n 0)) s)) ∧
    (∀ z xs d t s K, lenW (.pr z xs) d t s K = K (pT t d (.v (.int .i64 (xs.length : Int)))) s) ∧ (∀ id d t s K, lenW (.lo id) d t s K = lenB (gS s id) d t s K) ∧ (∀ e z xs d t s K, lenB (some (.row e z xs)) d t s K = K (pT t d (.v (.int .i64 (xs.length : Int)))) s) ∧
    (∀ op a b d t s K, binW op (.v (.int .i64 a)) (.v (.int .i64 b)) d t s K = (kok op .i64 .i64 = true ∧ bok op b ∧ K (pT t d (.v (bval op .i64 a b))) s)) ∧ (∀ b d t s K, notW (.v (.bool b)) d t s K = K (pT t d (.v (.bool (!b)))) s) ∧
    (∀ cs n d t s K, extW (.tu cs) n d t s K = exW cs n d t s K) ∧ (∀ x l d t s K, exW (x :: l) 0 d t s K = K (pT t d x) s) ∧ (∀ x l n d t s K, exW (x :: l) (n + 1) d t s K = exW l n d t s K) ∧
    (∀ b c d t s K, boxW b c (some d) t s K = (cellsOk c = true ∧ free (16 * d) t s = true ∧ K (sT t d (.bp (16 * d) 0)) (uS s (16 * d) (.box b c)))) ∧ (∀ e z xs d t s K, rowW e z xs (some d) t s K = (free (16 * d) (sT t d .u) s = true ∧ K (sT t d (.lo (16 * d))) (uS s (16 * d) (.row e z xs)))) := by
  refine ⟨?_, ?_, ?_, ?_, ?_, ?_, ?_, ?_, ?_, ?_, ?_, ?_, ?_, ?_, ?_, ?_, ?_, ?_, ?_, ?_, ?_, ?_, ?_, ?_, ?_, ?_, ?_⟩ <;> intros <;> (first | rfl | (unfold binW; rfl) | (unfold idxW; simp only))
theorem W7 : (∀ i x, rot i (.move x) = true) ∧ (∀ i a b c, rot i (.pick a b c) = true) ∧ (∀ i a b, rot i (.load a b) = true) ∧ (∀ i a b c, rot i (.fieldAddr a b c) = true) ∧ (∀ i a b c, rot i (.indexAddr a b c) = true) ∧ (∀ i a b c d e, rot i (.binOp a b c d e) = true) ∧ (∀ i a b c, rot i (.unOp a b c) = true) ∧
    (∀ i a b, rot i (.extract a b) = true) ∧ (∀ i a, rot i (.nilCheck a) = true) ∧ (∀ i a b c, rot i (.assign (.const (.slice a b c))) = true) ∧ (∀ j i, rot j (.assign (.tmp i)) = true) ∧ (∀ j k n, rot j (.assign (.const (.int k n))) = true) ∧ (∀ j b, rot j (.assign (.const (.bool b))) = true) ∧ (∀ j b, rot j (.assign (.const (.string b))) = true) ∧
    (∀ i f a b, rot i (.call ⟨.value f, a, b⟩) = true) ∧ (∀ i a b, rot i (.call ⟨.builtin .len, a, b⟩) = true) ∧ (∀ i a b, rot i (.call ⟨.builtin .min, a, b⟩) = true) ∧ (∀ i a b, rot i (.call ⟨.builtin .max, a, b⟩) = true) ∧ (∀ i a b, rot i (.call ⟨.builtin .append, a, b⟩) = false) ∧
    (∀ i a b, rot i (.box a b) = true) ∧ (∀ i a, rot i (.alloc a) = true) ∧ (∀ i a b, rot i (.build a b) = true) ∧ (∀ i a b c, rot i (.store a b c) = false) ∧ (∀ i a b c, rot i (.makeSlice a b c) = true) ∧ (∀ i a b c, rot i (.buildSlice a b c) = true) ∧ (∀ b : Bool, (true && b) = b) ∧ (∀ b : Bool, (false && b) = false) := by
  refine ⟨?_, ?_, ?_, ?_, ?_, ?_, ?_, ?_, ?_, ?_, ?_, ?_, ?_, ?_, ?_, ?_, ?_, ?_, ?_, ?_, ?_, ?_, ?_, ?_, ?_, ?_, ?_⟩ <;> intros <;> first | rfl | (rename_i b; cases b <;> rfl)
theorem W6 : (kok .add .i64 .i64 = true) ∧ (kok .sub .i64 .i64 = true) ∧ (kok .mul .i64 .i64 = true) ∧ (kok .quo .i64 .i64 = true) ∧ (kok .rem .i64 .i64 = true) ∧ (kok .and .i64 .i64 = true) ∧ (kok .or .i64 .i64 = true) ∧ (kok .xor .i64 .i64 = true) ∧ (kok .andNot .i64 .i64 = true) ∧
    (kok .shl .i64 .i64 = true) ∧ (kok .shr .i64 .i64 = true) ∧ (kok .lss .i64 .i64 = true) ∧ (kok .leq .i64 .i64 = true) ∧ (kok .gtr .i64 .i64 = true) ∧ (kok .geq .i64 .i64 = true) ∧ (kok .eql .i64 .i64 = true) ∧ (kok .neq .i64 .i64 = true) ∧
    (∀ b, bok .add b = True) ∧ (∀ b, bok .sub b = True) ∧ (∀ b, bok .mul b = True) ∧ (∀ b, bok .and b = True) ∧ (∀ b, bok .or b = True) ∧ (∀ b, bok .xor b = True) ∧ (∀ b, bok .andNot b = True) ∧ (∀ b, bok .lss b = True) ∧ (∀ b, bok .leq b = True) ∧ (∀ b, bok .gtr b = True) ∧ (∀ b, bok .geq b = True) ∧ (∀ b, bok .eql b = True) ∧ (∀ b, bok .neq b = True) ∧
    (∀ b, bok .quo b = (b ≠ 0)) ∧ (∀ b, bok .rem b = (b ≠ 0)) ∧ (∀ b, bok .shl b = (0 ≤ b)) ∧ (∀ b, bok .shr b = (0 ≤ b)) ∧
    (∀ a b, bval .add .i64 a b = .int .i64 (wrap64 (a + b))) ∧ (∀ a b, bval .sub .i64 a b = .int .i64 (wrap64 (a - b))) ∧ (∀ a b, bval .mul .i64 a b = .int .i64 (wrap64 (a * b))) ∧ (∀ a b, bval .quo .i64 a b = .int .i64 (wrap64 (Int.tdiv a b))) ∧ (∀ a b, bval .rem .i64 a b = .int .i64 (Int.tmod a b)) ∧
    (∀ a b, bval .shl .i64 a b = .int .i64 (shl .i64 a b)) ∧ (∀ a b, bval .shr .i64 a b = .int .i64 (shr .i64 a b)) ∧ (∀ a b, bval .and .i64 a b = .int .i64 (Go.bits .and .i64 a b)) ∧ (∀ a b, bval .or .i64 a b = .int .i64 (Go.bits .or .i64 a b)) ∧ (∀ a b, bval .xor .i64 a b = .int .i64 (Go.bits .xor .i64 a b)) ∧ (∀ a b, bval .andNot .i64 a b = .int .i64 (Go.bits .andNot .i64 a b)) ∧
    (∀ a b, bval .lss .i64 a b = .bool (decide (a < b))) ∧ (∀ a b, bval .leq .i64 a b = .bool (decide (a ≤ b))) ∧ (∀ a b, bval .gtr .i64 a b = .bool (decide (a > b))) ∧ (∀ a b, bval .geq .i64 a b = .bool (decide (a ≥ b))) ∧ (∀ a b, bval .eql .i64 a b = .bool (a == b)) ∧ (∀ a b, bval .neq .i64 a b = .bool (a != b)) := by
  refine ⟨rfl, rfl, rfl, rfl, rfl, rfl, rfl, rfl, rfl, rfl, rfl, rfl, rfl, rfl, rfl, rfl, rfl, ?_⟩
  refine ⟨?_, ?_, ?_, ?_, ?_, ?_, ?_, ?_, ?_, ?_, ?_, ?_, ?_, ?_, ?_, ?_, ?_, ?_, ?_, ?_, ?_, ?_, ?_, ?_, ?_, ?_, ?_, ?_, ?_, ?_, ?_, ?_, ?_, ?_⟩ <;> intros <;> rfl
end
end Go.Proofs.YtdjdleldocfpaaaDoor.F
end

section
namespace Go.Proofs.YtdjdleldocfpaaaDoor.F
open Go.RowKit Go.Proofs.YtdjdleldocfpaaaDoorW.PrintWords Go.Proofs.YtdjdleldocfpaaaDoorW.PrintLast Go.Proofs.YtdjdleldocfpaaaDoorW.PrintMore
set_option linter.unusedVariables false
set_option linter.unusedSimpArgs false
def fsOk (P : Program) (fs : Array Field) : List Nat → Nat → Bool
  | [], _ => true
  | o :: l, k => (match fs[k]? with
    | some fl => fl.offset == o && (match P.info? fl.type with | some fi => fi.size != 0 | none => false)
    | none => false) && fsOk P fs l (k + 1)
def blB (P : Program) (t : TypeId) : List Value → Bool
  | [.bool false] => match P.underlying t with | some .bool => true | _ => false
  | _ => true
def itB (P : Program) (t : TypeId) : List Value → Bool
  | [.int k _] => match P.underlying t with | some (.int k') => k' == k | _ => false
  | _ => true
def stB (P : Program) (t : TypeId) : List Value → Bool
  | [.string _] => match P.underlying t with | some .string => true | _ => false
  | _ => true
def plB (P : Program) (t : TypeId) (i : TI) : Bool := !i.agg || i.fs.isEmpty || match P.underlying t with
  | some (.struct ⟨l⟩) => (l.map fun fl => (fl.offset, (P.info? fl.type).map (·.size))) == ((plc i.size i.fs).map fun p => (p.1, some p.2))
  | _ => false
def okT (P : Program) (ty : TypeId → Option TI) (t : TypeId) (i : TI) : Bool :=
  (match P.info? t with
  | some f => f.size == i.size && f.bytes == i.bytes && (i.agg || (match f.zero with | some (.agg _) => false | some (.tuple _) => false | some _ => true | none => false))
  | none => false) && i.zero.length == i.size && i.zero.all plainV &&
  (match P.underlying t with
  | some (.struct fs) => i.agg && fsOk P fs i.fs 0 && (ty i.el).isNone && !i.fs.isEmpty
  | some (.array n e) => i.agg && i.fs.isEmpty && n == i.size && (match P.info? e with | some fe => fe.size == 1 | none => false) && (ty i.el).isNone
  | some (.slice e) => !i.agg && i.size == 1 && i.fs.isEmpty && ((ty i.el).isNone || i.el == e)
  | some _ => !i.agg && i.size == 1 && i.fs.isEmpty && (ty i.el).isNone
  | none => false) && blB P t i.zero && plB P t i && itB P t i.zero && stB P t i.zero
theorem fsOk_at {P : Program} {fs : Array Field} : ∀ {l : List Nat} {k f o : Nat}, fsOk P fs l k = true → nthN l f = some o → ∃ fl, fs[k + f]? = some fl ∧ fl.offset = o ∧ ∃ fi, P.info? fl.type = some fi ∧ fi.size ≠ 0
  | [], k, f, o, _, h => by simp [nthN] at h
  | x :: l, k, 0, o, h, hf => by
    simp only [fsOk, Bool.and_eq_true] at h
    simp only [nthN, Option.some.injEq] at hf
    subst hf
    have h1 := h.1
    split at h1
    · rename_i fl e
      simp only [Bool.and_eq_true, beq_iff_eq] at h1
      obtain ⟨h1, h2⟩ := h1
      split at h2
      · rename_i fi e2
        exact ⟨fl, e, h1, fi, e2, by simpa using h2⟩
      · cases h2
    · cases h1
  | x :: l, k, f + 1, o, h, hf => by
    simp only [fsOk, Bool.and_eq_true] at h
    have := fsOk_at h.2 (f := f) (by simpa [nthN] using hf)
    rwa [show k + 1 + f = k + (f + 1) by omega] at this
theorem mkTI {P : Program} {ty : TypeId → Option TI} {t : TypeId} {i : TI} (h : okT P ty t i = true) (hz : ((P.info? t).bind (·.zero)).map (·.cells) = some (List.toArray i.zero)) : TIok P ty t i := by
  unfold okT at h
  simp only [Bool.and_eq_true, beq_iff_eq] at h
  obtain ⟨⟨⟨⟨⟨⟨⟨h1, h2⟩, h3⟩, h4⟩, hbl⟩, hpl⟩, hit⟩, hst⟩ := h
  have hnf : ∃ f, P.info? t = some f ∧ f.size = i.size ∧ f.bytes = i.bytes ∧ ∃ z, f.zero = some z ∧ z.cells = List.toArray i.zero ∧ (i.agg = false → z.cells = #[z]) := by
    split at h1
    · rename_i f e
      simp only [Bool.and_eq_true, beq_iff_eq, Bool.or_eq_true] at h1
      rw [e] at hz
      simp only [Option.bind_some] at hz
      obtain ⟨z, e2, e3⟩ := Option.map_eq_some_iff.1 hz
      refine ⟨f, e, h1.1.1, h1.1.2, z, e2, e3, fun ha => ?_⟩
      rcases h1.2 with h5 | h5
      · rw [ha] at h5; cases h5
      · rw [e2] at h5
        cases z <;> first | rfl | (simp at h5)
    · cases h1
  have hit' : ∀ k, kindOf i.zero = some k → P.underlying t = some (.int k) := fun k hk => by
    unfold kindOf at hk
    unfold itB at hit
    split at hk
    · rename_i k0 n0 e
      obtain rfl := Option.some.inj hk
      rw [e] at hit
      simp only at hit
      split at hit
      · rename_i k1 e1; rw [e1, show k1 = _ from by simpa using hit]
      · cases hit
    · cases hk
  have hst' : strZ i.zero = true → P.underlying t = some .string := fun hk => by
    unfold strZ at hk
    unfold stB at hst
    split at hk
    · rename_i e
      rw [e] at hst
      simp only at hst
      split at hst
      · assumption
      · cases hst
    · cases hk
  refine ⟨hnf, ⟨h2, h3⟩, ?_, fun j hj => ?_, fun hz => ?_, hit', fun hg hf => ?_, hst', fun hg hne => ?_⟩
  · split at h4
    · rename_i fs e
      simp only [Bool.and_eq_true] at h4
      refine .inl ⟨h4.1.1.1, fs, e, fun f o hf => ?_⟩
      have := fsOk_at h4.1.1.2 hf
      rwa [Nat.zero_add] at this
    · rename_i n e hu
      simp only [Bool.and_eq_true, beq_iff_eq, List.isEmpty_iff] at h4
      obtain ⟨⟨⟨⟨a1, a2⟩, a3⟩, a4⟩, a5⟩ := h4
      split at a4
      · rename_i fe e1; exact .inr (.inr ⟨a1, a2, e, fe, by rw [hu, a3], e1, by simpa using a4⟩)
      · cases a4
    · rename_i e
      simp only [Bool.and_eq_true, Bool.not_eq_true', beq_iff_eq, List.isEmpty_iff] at h4
      exact .inr (.inl ⟨h4.1.1.1, h4.1.1.2, h4.1.2, _, e, ⟨fun x e' => TypeDesc.noConfusion e', fun x y e' => TypeDesc.noConfusion e'⟩⟩)
    · rename_i d h5 h6 h7 e
      simp only [Bool.and_eq_true, Bool.not_eq_true', beq_iff_eq, List.isEmpty_iff] at h4
      exact .inr (.inl ⟨h4.1.1.1, h4.1.1.2, h4.1.2, d, e, fun x e' => h5 x (by rw [e']), fun x y e' => h6 x y (by rw [e'])⟩)
    · cases h4
  · split at h4
    · simp only [Bool.and_eq_true, Option.isNone_iff_eq_none] at h4; rw [h4.1.2] at hj; cases hj
    · simp only [Bool.and_eq_true, Option.isNone_iff_eq_none] at h4; rw [h4.2] at hj; cases hj
    · rename_i e' e
      simp only [Bool.and_eq_true, Bool.or_eq_true, Option.isNone_iff_eq_none, beq_iff_eq] at h4
      rcases h4.2 with h5 | h5
      · rw [h5] at hj; cases hj
      · rw [e, h5]
    · simp only [Bool.and_eq_true, Option.isNone_iff_eq_none] at h4; rw [h4.2] at hj; cases hj
    · cases h4
  · rw [hz] at hbl
    unfold blB at hbl
    split at hbl
    · split at hbl
      · assumption
      · cases hbl
    · rename_i hne; exact absurd rfl hne
  · split at h4
    · simp only [Bool.and_eq_true, Bool.not_eq_true'] at h4; rw [hf] at h4; exact absurd h4.2 (by simp)
    · rename_i n e hu
      simp only [Bool.and_eq_true, beq_iff_eq, List.isEmpty_iff] at h4
      obtain ⟨⟨⟨⟨a1, a2⟩, a3⟩, a4⟩, a5⟩ := h4
      split at a4
      · rename_i fe e1; exact ⟨e, fe, by rw [hu, a3], e1, by simpa using a4⟩
      · cases a4
    · simp only [Bool.and_eq_true, Bool.not_eq_true'] at h4; rw [hg] at h4; exact absurd h4.1.1.1 (by simp)
    · simp only [Bool.and_eq_true, Bool.not_eq_true'] at h4; rw [hg] at h4; exact absurd h4.1.1.1 (by simp)
    · cases h4
  · unfold plB at hpl
    rw [hg, hne] at hpl
    simp only [Bool.not_true, Bool.false_or] at hpl
    split at hpl
    · rename_i l e
      exact ⟨l, e, by simpa using hpl⟩
    · cases hpl
theorem bnd {α β : Type} {x : Option α} {f : α → Option β} {r : β} (h : x.bind f = some r) : ∃ t, x = some t ∧ f t = some r := Option.bind_eq_some_iff.1 h
section
variable {P : Program} {ty : TypeId → Option TI}
theorem loopR {ι : Type} (T : ι → List AV) (S : ι → Sto) (F : Nat → ι → Prop) {n : Nat} (x : ι) {b : Code} {Q : Qt} {t : List AV} {s : Sto} (ρ : List (Nat × Nat)) (h : F n x) (h1 : EntT ρ t (T x)) (h2 : EntS ρ s (S x)) (h3 : inj ρ (S x) = true)
    (hr : ∀ n x, F n x → EW P ty b (kL T S F n Q) (T x) (S x)) : loopK P ty b Q t s := ⟨ι, T, S, F, ⟨n, x, h, ρ, h1, h2, h3⟩, hr⟩
theorem callR {q : Bool} {f : FuncId} {args : List AV} {d : Option Nat} {t : List AV} {s : Sto} {K : Kt} {res : AV} (h : Ctr P f (toPL s args) res) (hb : bindW q res d t s K) : callW P q f args d t s K := .inl ⟨res, h, hb⟩
theorem callT {f : FuncId} {id : Nat} {rest : List AV} {d : Option Nat} {t : List AV} {s : Sto} {K : Kt} {e : TypeId} {sz : Nat} {xs ys : List (List Value)} (hg : gS s id = some (.row e sz xs)) (hp : plnL rest = true) (h : CtrT P f e sz xs rest ys)
    (hb : ∃ d', d = some d' ∧ free (16 * d') t (dS s id) = true ∧ K (sT t d' (.lo (16 * d'))) (uS (dS s id) (16 * d') (.row e sz ys))) : callW P false f (.lo id :: rest) d t s K := by
  obtain ⟨d', rfl, h1, h2⟩ := hb
  refine .inr (.inl ⟨rfl, .inl ?_⟩)
  simp only [turnW, hg, turnR]
  exact ⟨hp, .inl ⟨ys, h, h1, h2⟩⟩
end
theorem W8 : (∀ ρ, EntT ρ [] [] = True) ∧ (∀ ρ x t T, EntT ρ (x :: t) (.u :: T) = EntT ρ t T) ∧ (∀ ρ x t y T, EntT ρ (x :: t) (.v y :: T) = (x = .v y ∧ EntT ρ t T)) ∧ (∀ ρ x t i T, EntT ρ (x :: t) (.lo i :: T) = (x = .lo (rn ρ i) ∧ EntT ρ t T)) ∧ (∀ ρ x t i o T, EntT ρ (x :: t) (.bp i o :: T) = (x = .bp (rn ρ i) o ∧ EntT ρ t T)) ∧
    (∀ ρ x t z l T, EntT ρ (x :: t) (.pr z l :: T) = (x = .pr z l ∧ EntT ρ t T)) ∧ (∀ ρ x t l T, EntT ρ (x :: t) (.ag l :: T) = (x = .ag (AV.renL ρ l) ∧ EntT ρ t T)) ∧
    (∀ ρ s, EntS ρ s [] = True) ∧ (∀ ρ s i t c S, EntS ρ s ((i, .box t c) :: S) = (gS s (rn ρ i) = some (.box t (AV.renL ρ c)) ∧ EntS ρ s S)) ∧ (∀ ρ s i e z l S, EntS ρ s ((i, .row e z l) :: S) = (gS s (rn ρ i) = some (.row e z l) ∧ EntS ρ s S)) ∧
    (∀ ρ, AV.renL ρ [] = []) ∧ (∀ ρ c cs, AV.renL ρ (c :: cs) = AV.ren ρ c :: AV.renL ρ cs) ∧ (∀ ρ x, AV.ren ρ (.v x) = .v x) ∧ (∀ ρ z l, AV.ren ρ (.pr z l) = .pr z l) ∧ (∀ ρ i, AV.ren ρ (.lo i) = .lo (rn ρ i)) ∧ (∀ ρ i o, AV.ren ρ (.bp i o) = .bp (rn ρ i) o) ∧ (∀ ρ l, AV.ren ρ (.ag l) = .ag (AV.renL ρ l)) := by
  refine ⟨?_, ?_, ?_, ?_, ?_, ?_, ?_, ?_, ?_, ?_, ?_, ?_, ?_, ?_, ?_, ?_, ?_⟩ <;> intros <;> rfl
theorem W9 : (∀ ty t s, resL ty t s [] = some []) ∧ (∀ ty t s i l, resL ty t s (.tmp i :: l) = (resL ty t s l).map (gT t i :: ·)) ∧ (∀ ty t s i b l, resL ty t s (.cell i b :: l) = (cellV (ty b) (gT t i) s).bind fun x => (resL ty t s l).map (x :: ·)) ∧ (∀ i id off s, cellV (some i) (.bp id off) s = cellB i off (gS s id)) ∧
    (∀ i off t cs, cellB i off (some (.box t cs)) = if off + i.size ≤ cs.length then some (cutA i.agg i.size (dp off cs)) else none) ∧ (∀ s x r, FitO s [x] r = FitR s x r) ∧ (∀ s rs, FitO s [] (.tu rs) = FitRL s [] rs) ∧ (∀ s x y l rs, FitO s (x :: y :: l) (.tu rs) = FitRL s (x :: y :: l) rs) ∧
    (∀ s x y, FitR s (.v x) (.v y) = (x = y)) ∧ (∀ s i e z l, FitR s (.lo i) (.ow e z l) = (gS s i = some (.row e z l))) ∧ (∀ s x e z l, FitR s (.v x) (.ow e z l) = (x = .slice none 0 0 ∧ l = [] ∧ 0 < z)) ∧ (∀ s l r, FitR s (.ag l) (.ag r) = FitRL s l r) ∧ (∀ s l r, FitR s (.tu l) (.tu r) = FitRL s l r) ∧
    (∀ s, FitRL s [] [] = True) ∧ (∀ s c cs d ds, FitRL s (c :: cs) (d :: ds) = (FitR s c d ∧ FitRL s cs ds)) ∧ (AV.idsL [] = []) ∧ (∀ c cs, AV.idsL (c :: cs) = AV.ids c ++ AV.idsL cs) ∧ (∀ x, AV.ids (.v x) = []) ∧ (∀ i, AV.ids (.lo i) = [i]) ∧ (∀ l, AV.ids (.ag l) = AV.idsL l) ∧ (∀ l, AV.ids (.tu l) = AV.idsL l) := by
  refine ⟨?_, ?_, ?_, ?_, ?_, ?_, ?_, ?_, ?_, ?_, ?_, ?_, ?_, ?_, ?_, ?_, ?_, ?_, ?_, ?_, ?_⟩ <;> intros <;> rfl
theorem W10 : (∀ ty rv res t s, QR ty rv res .ret t s = ∃ xs, resL ty t s rv = some xs ∧ nodB (AV.idsL xs) = true ∧ FitO s xs res) ∧ (∀ ty rv res t s, QR ty rv res .normal t s = ∃ xs, resL ty t s rv = some xs ∧ nodB (AV.idsL xs) = true ∧ FitO s xs res) ∧
    (nodB [] = true) ∧ (∀ i, nodB [i] = true) := by
  refine ⟨?_, ?_, ?_, ?_⟩ <;> intros <;> first | rfl | simp [nodB]
theorem W11 : (∀ {ι : Type} (T : ι → List AV) S F n Q i t s, kL T S F n Q (.exit i) t s = Q (.exit i) t s) ∧ (∀ {ι : Type} (T : ι → List AV) S F n Q t s, kL T S F n Q .ret t s = Q .ret t s) ∧ (∀ q x d t s K, bindW q (.v x) d t s K = K (pT t d (.v x)) s) := by
  refine ⟨?_, ?_, ?_⟩ <;> intros <;> rfl
theorem W12 : (∀ j, AV.frL j [] = true) ∧ (∀ j c cs, AV.frL j (c :: cs) = (AV.fr j c && AV.frL j cs)) ∧ (∀ j, AV.fr j .u = true) ∧ (∀ j x, AV.fr j (.v x) = true) ∧ (∀ j z x, AV.fr j (.pr z x) = true) ∧ (∀ j x, AV.fr j (.pe x) = true) ∧ (∀ j i, AV.fr j (.lo i) = (i != j)) ∧ (∀ j i o, AV.fr j (.bp i o) = (i != j)) ∧ (∀ j i z n o, AV.fr j (.le i z n o) = (i != j)) ∧ (∀ j l, AV.fr j (.ag l) = AV.frL j l) ∧ (∀ j l, AV.fr j (.tu l) = AV.frL j l) ∧
    (∀ j t s, free j t s = (AV.frL j t && s.all fun p => p.2.fr j)) ∧ (∀ j t c, Blk.fr j (.box t c) = AV.frL j c) ∧ (∀ j e z l, Blk.fr j (.row e z l) = true) ∧
    (cellsOk [] = true) ∧ (∀ x l, cellsOk (.v x :: l) = (plainV x && cellsOk l)) ∧ (∀ i l, cellsOk (.lo i :: l) = cellsOk l) ∧ (∀ i o l, cellsOk (.bp i o :: l) = cellsOk l) ∧ (∀ z x l, cellsOk (.pr z x :: l) = cellsOk l) ∧ (plainOk [] = true) ∧ (∀ x l, plainOk (.v x :: l) = (plainV x && plainOk l)) ∧
    (∀ k n, plainV (.int k n) = true) ∧ (∀ b, plainV (.bool b) = true) ∧ (∀ b, plainV (.string b) = true) ∧ (∀ a n c, plainV (.slice a n c) = true) := by
  refine ⟨?_, ?_, ?_, ?_, ?_, ?_, ?_, ?_, ?_, ?_, ?_, ?_, ?_, ?_, ?_, ?_, ?_, ?_, ?_, ?_, ?_, ?_, ?_, ?_, ?_⟩ <;> intros <;> rfl
theorem bAnd : (∀ b : Bool, (b && true) = b) ∧ (∀ b : Bool, (true && b) = b) ∧ (∀ b : Bool, (false && b) = false) ∧ (∀ b : Bool, (b && false) = false) := by
  refine ⟨?_, ?_, ?_, ?_⟩ <;> intro b <;> cases b <;> rfl
end Go.Proofs.YtdjdleldocfpaaaDoor.F
end

section
namespace Go.Proofs.YtdjdleldocfpaaaDoor.F
open Go.RowKit Go.Proofs.YtdjdleldocfpaaaDoorW.PrintWords Go.Proofs.YtdjdleldocfpaaaDoorW.PrintLast Go.Proofs.YtdjdleldocfpaaaDoorW.PrintMore
set_option linter.unusedVariables false
set_option linter.unusedSimpArgs false
theorem ifN {α : Type} {c : Prop} [Decidable c] {a : Option α} {r : α} (h : (if c then a else none) = some r) : c ∧ a = some r := by
  by_cases x : c
  · rw [if_pos x] at h; exact ⟨x, h⟩
  · rw [if_neg x] at h; cases h
theorem ifM {α : Type} {c : Prop} [Decidable c] {a : Option α} {r : α} (h : (if c then none else a) = some r) : ¬c ∧ a = some r := by
  by_cases x : c
  · rw [if_pos x] at h; cases h
  · rw [if_neg x] at h; exact ⟨x, h⟩
theorem ifS {α : Type} {c : Prop} [Decidable c] {a b : Option α} {r : α} (h : (if c then a else b) = some r) : (c ∧ a = some r) ∨ (¬c ∧ b = some r) := by
  by_cases x : c
  · rw [if_pos x] at h; exact .inl ⟨x, h⟩
  · rw [if_neg x] at h; exact .inr ⟨x, h⟩
theorem ifT {α : Type} {c : Bool} {a b : Option α} {r : α} (h : (if c = true then a else b) = some r) : (c = true ∧ a = some r) ∨ (c = false ∧ b = some r) := by
  cases c
  · exact .inr ⟨rfl, h⟩
  · exact .inl ⟨rfl, h⟩
section
variable {P : Program} {ty : TypeId → Option TI}
theorem loopN {ι : Type} (T : ι → List AV) (S : ι → Sto) (F : Nat → ι → Prop) {n : Nat} {b : Code} {Q : Qt} {t : List AV} {s : Sto} (x : ι) (ρ : List (Nat × Nat)) (h : F n x) (h1 : EntT ρ t (T x)) (h2 : EntS ρ s (S x)) (h3 : inj ρ (S x) = true)
    (hz : ∀ x, F 0 x → False) (hr : ∀ m x, m + 1 ≤ n → F (m + 1) x → EW P ty b (kL T S (fun m x => m ≤ n ∧ F m x) (m + 1) Q) (T x) (S x)) : loopK P ty b Q t s :=
  loopR T S (fun m x => m ≤ n ∧ F m x) x ρ ⟨Nat.le_refl _, h⟩ h1 h2 h3 fun m x h => by
    cases m with
    | zero => exact absurd h.2 (hz x)
    | succ m => exact hr m x h.1 h.2
theorem nextN {ι : Type} {T : ι → List AV} {S : ι → Sto} {F : Nat → ι → Prop} {n N : Nat} {Q : Qt} {t : List AV} {s : Sto} (x : ι) (ρ : List (Nat × Nat)) (m : Nat) (hm : m < n ∧ m ≤ N) (h : F m x) (h1 : EntT ρ t (T x)) (h2 : EntS ρ s (S x)) (h3 : inj ρ (S x) = true) : kL T S (fun m x => m ≤ N ∧ F m x) n Q .normal t s := ⟨m, x, hm.1, ⟨hm.2, h⟩, ρ, h1, h2, h3⟩
theorem rn_cons (a b : Nat) (ρ : List (Nat × Nat)) (j : Nat) : rn ((a, b) :: ρ) j = if a = j then b else rn ρ j := by
  unfold rn
  rw [List.find?_cons]
  by_cases e : a = j
  · subst e; simp
  · have : (a == j) = false := by simpa using e
    simp only [this, if_neg e]
variable (ty)
theorem W13 : (∀ i n ps d t s K, litT ty (some i) n ps d t s K = ∃ j, ty i.el = some j ∧ litW (litR t ps 0) n i.el j.size d t s K) ∧ (∀ t k, litR t [] k = some []) ∧ (∀ t i x l k, litR t ((i, x) :: l) k = if i = k ∧ plainOk (eT t x).cells = true then (litR t l (k + 1)).map fun r => unv (eT t x).cells :: r else none) ∧
    (∀ z, litOk z [] = true) ∧ (∀ z x l, litOk z (x :: l) = (x.length == z && litOk z l)) ∧ (∀ xs n e z d t s K, litW (some xs) n e z d t s K = (xs.length = n ∧ litOk z xs = true ∧ 0 < z ∧ n * z ≤ 1000 ∧ rowW e z xs d t s K)) ∧
    (∀ i id y d t s K, appW ty (some i) (.lo id) y d t s K = ∃ j, ty i.el = some j ∧ okA j y = true ∧ appR id (gS s id) (rdA j.size y s) j i.el d t s K) ∧
    (∀ z y xs s, rdS z (.pr y xs) s = if y = z then some xs else none) ∧ (∀ z i s, rdS z (.lo i) s = rdB z (gS s i)) ∧ (∀ z s, rdS z (.v (.slice none 0 0)) s = some []) ∧ (∀ z e y xs, rdB z (some (.row e y xs)) = if y = z then some xs else none) ∧
    (∀ i d t s K, nilW ty (some i) d t s K = ∃ j, ty i.el = some j ∧ 0 < j.size ∧ rowW i.el j.size [] d t s K) ∧
    (∀ e z xs i y n off d t s K, loadE ty (some (.row e z xs)) i y n off d t s K = ∃ q, (ty e).map (·.zero) = some q ∧ y = z ∧ q.length = z ∧ off + i.size ≤ z ∧ K (pT t d (cutA i.agg i.size (dp off (vs (gR q xs n))))) s) ∧
    (∀ a b d t s K, mmW true (.v (.int .i64 a)) (.v (.int .i64 b)) d t s K = K (pT t d (.v (.int .i64 (mn a b)))) s) ∧ (∀ a b d t s K, mmW false (.v (.int .i64 a)) (.v (.int .i64 b)) d t s K = K (pT t d (.v (.int .i64 (mx a b)))) s) ∧
    (∀ i o d t s K, chkW (.bp i o) d t s K = K (pT t d (.bp i o)) s) ∧ (∀ c d t s K, chkW (.pe c) d t s K = K (pT t d (.pe c)) s) ∧ (∀ i z n o d t s K, chkW (.le i z n o) d t s K = K (pT t d (.le i z n o)) s) ∧
    (∀ q l d t s K, bindW q (.ag l) (some d) t s K = ((q && !okRL l) = false ∧ ((im (16 * d) (.ag l)).2.1.all fun p => free p.1 t s) = true ∧ (im (16 * d) (.ag l)).2.2 ≤ 16 * d + 15 ∧ K (sT t d (im (16 * d) (.ag l)).1) ((im (16 * d) (.ag l)).2.1 ++ s))) ∧
    (∀ q l d t s K, bindW q (.tu l) (some d) t s K = ((q && !okRL l) = false ∧ ((im (16 * d) (.tu l)).2.1.all fun p => free p.1 t s) = true ∧ (im (16 * d) (.tu l)).2.2 ≤ 16 * d + 15 ∧ K (sT t d (im (16 * d) (.tu l)).1) ((im (16 * d) (.tu l)).2.1 ++ s))) ∧
    (∀ x l, nthN (x :: l) 0 = some x) ∧ (∀ x l n, nthN (x :: l) (n + 1) = nthN l n) ∧
    (∀ (P : Program) e o op k a k' b d t s K, binX P e o op (.v (.int k a)) (.v (.int k' b)) d t s K = binW op (.v (.int k a)) (.v (.int k' b)) d t s K) ∧ (∀ (P : Program) e i a b d t s K, binX P e (some i) .eql (.v (.bool a)) (.v (.bool b)) d t s K = (i.zero = [.bool false] ∧ K (pT t d (.v (.bool (a == b)))) s)) ∧ (∀ (P : Program) e i a b d t s K, binX P e (some i) .neq (.v (.bool a)) (.v (.bool b)) d t s K = (i.zero = [.bool false] ∧ K (pT t d (.v (.bool (a != b)))) s)) ∧ (∀ j, rn [] j = j) ∧ (∀ a b ρ j, rn ((a, b) :: ρ) j = if a = j then b else rn ρ j) ∧
    (∀ i u ps d t s K, bldW (some i) u ps d t s K = (i.agg = true ∧ i.fs.isEmpty = false ∧ ∃ cs, bldC (plc i.size i.fs) u ps (vs i.zero) = some cs ∧ K (pT t d (.ag cs)) s)) ∧ (∀ z, plc z [] = []) ∧ (∀ z o, plc z [o] = [(o, z - o)]) ∧ (∀ z o o2 l, plc z (o :: o2 :: l) = (o, o2 - o) :: plc z (o2 :: l)) ∧ (∀ x l, nthL (x :: l) 0 = some x) ∧ (∀ x l n, nthL (x :: l) (n + 1) = nthL l n) ∧ (∀ pl t cs, bldC pl t [] cs = some cs) ∧ (∀ pl t f x l cs, bldC pl t ((f, x) :: l) cs = (bldP (nthL pl f) (eT t x).cells cs).bind (bldC pl t l)) ∧ (∀ o z c cs, bldP (some (o, z)) c cs = if c.length = z ∧ o + c.length ≤ cs.length ∧ cellsOk c = true then some (putA o c cs) else none) ∧
    (okRL [] = true) ∧ (∀ c l, okRL (c :: l) = (okR c && okRL l)) ∧ (∀ x, okR (.v x) = true) ∧ (∀ l, okR (.ag l) = okRL l) ∧ (∀ l, okR (.tu l) = okRL l) ∧ (∀ e z l, okR (.ow e z l) = true) ∧ (plnL [] = true) ∧ (∀ c l, plnL (c :: l) = (pln c && plnL l)) ∧ (∀ x, pln (.v x) = true) ∧ (∀ l, pln (.ag l) = plnL l) ∧ (∀ l, pln (.tu l) = plnL l) ∧ (∀ e z l, pln (.ow e z l) = false) ∧
    (∀ q e z l d t s K, bindW q (.ow e z l) (some d) t s K = ((q && !true) = false ∧ ((im (16 * d) (.ow e z l)).2.1.all fun p => free p.1 t s) = true ∧ (im (16 * d) (.ow e z l)).2.2 ≤ 16 * d + 15 ∧ K (sT t d (im (16 * d) (.ow e z l)).1) ((im (16 * d) (.ow e z l)).2.1 ++ s))) := by
  refine ⟨?_, ?_, ?_, ?_, ?_, ?_, ?_, ?_, ?_, ?_, ?_, ?_, ?_, ?_, ?_, ?_, ?_, ?_, ?_, ?_, ?_, ?_, ?_, ?_, ?_, ?_, ?_, ?_, ?_, ?_, ?_, ?_, ?_, ?_, ?_, ?_, ?_, ?_, ?_, ?_, ?_, ?_, ?_, ?_, ?_, ?_, ?_, ?_, ?_⟩ <;> intros <;> first | rfl | (unfold binX; split <;> simp_all; done) | exact rn_cons _ _ _ _
theorem mkN {n : Int} {b : Nat} (h0 : 0 ≤ n) (hb : 0 < b) : (n * (b : Int) ≤ 281474976710656) = (n.toNat ≤ 281474976710656 / b) := by
  obtain ⟨m, rfl⟩ : ∃ m : Nat, n = m := ⟨n.toNat, by omega⟩
  rw [Int.toNat_natCast, Nat.le_div_iff_mul_le hb]
  exact propext (by omega)
theorem W14 : (∀ i n d t s K, mkW ty (some i) (.v (.int .i64 n)) (.v (.int .i64 n)) d t s K = ∃ j, ty i.el = some j ∧ 0 ≤ n ∧ n.toNat ≤ 281474976710656 / j.bytes ∧ 0 < j.bytes ∧ 0 < j.size ∧ rowW i.el j.size (List.replicate n.toNat j.zero) d t s K) ∧
    (∀ id e z xs ys j e' d t s K, appR id (some (.row e z xs)) (some ys) j e' (some d) t s K = (e = e' ∧ z = j.size ∧ 0 < j.bytes ∧ xs.length + ys.length ≤ 140737488355328 / j.bytes ∧ free (16 * d) t (dS s id) = true ∧ K (sT t d (.lo (16 * d))) (uS (dS s id) (16 * d) (.row e z (xs ++ ys))))) := by
  refine ⟨fun i n d t s K => ?_, fun id e z xs ys j e' d t s K => ?_⟩
  · show (∃ j, ty i.el = some j ∧ n = n ∧ 0 ≤ n ∧ n * (j.bytes : Int) ≤ 281474976710656 ∧ 0 < j.bytes ∧ 0 < j.size ∧ rowW i.el j.size (List.replicate n.toNat j.zero) d t s K) = _
    refine propext ⟨?_, ?_⟩
    · rintro ⟨j, h1, _, h2, h3, h4, h5⟩
      exact ⟨j, h1, h2, (mkN h2 h4) ▸ h3, h4, h5⟩
    · rintro ⟨j, h1, h2, h3, h4, h5⟩
      exact ⟨j, h1, rfl, h2, (mkN h2 h4) ▸ h3, h4, h5⟩
  · show (e = e' ∧ z = j.size ∧ 0 < j.bytes ∧ (xs.length + ys.length) * j.bytes ≤ 140737488355328 ∧ _) = _
    refine propext ⟨?_, ?_⟩
    · rintro ⟨h1, h2, h3, h4, h5⟩
      exact ⟨h1, h2, h3, (Nat.le_div_iff_mul_le h3).2 h4, h5⟩
    · rintro ⟨h1, h2, h3, h4, h5⟩
      exact ⟨h1, h2, h3, (Nat.le_div_iff_mul_le h3).1 h4, h5⟩
end
theorem eqRule {P : Program} {b : TypeId} {cs ds : List AV} {e : Bool} (hg : P.eqGuardType P.depth b = false) (hc : plnL cs = true) (hd : plnL ds = true) {dd : Nat} (hdd : dd = Op.maxDepth) (h0 : ∀ w, (Op.equalIn dd b (.agg (List.toArray (vluL cs))) (.agg (List.toArray (vluL ds)))).run P w = .ok e w) (i : TI) (d : Option Nat) (t : List AV) (s : Sto) (K : Kt) :
    binX P b (some i) .eql (.ag cs) (.ag ds) d t s K = K (pT t d (.v (.bool e))) s := by
  have h : ∀ w, (Op.equal b (.agg (List.toArray (vluL cs))) (.agg (List.toArray (vluL ds)))).run P w = .ok e w := fun w => by subst hdd; exact h0 w
  refine propext ⟨?_, fun hK => ⟨hc, hd, e, ⟨hg, h⟩, hK⟩⟩
  rintro ⟨_, _, r, h1, h2⟩
  have := h1.2 { (default : World) with }
  rw [h] at this
  injection this with this
  rw [this]; exact h2
theorem neRule {P : Program} {b : TypeId} {cs ds : List AV} {e : Bool} (hg : P.eqGuardType P.depth b = false) (hc : plnL cs = true) (hd : plnL ds = true) {dd : Nat} (hdd : dd = Op.maxDepth) (h0 : ∀ w, (Op.equalIn dd b (.agg (List.toArray (vluL cs))) (.agg (List.toArray (vluL ds)))).run P w = .ok e w) (i : TI) (d : Option Nat) (t : List AV) (s : Sto) (K : Kt) :
    binX P b (some i) .neq (.ag cs) (.ag ds) d t s K = K (pT t d (.v (.bool (!e)))) s := by
  have h : ∀ w, (Op.equal b (.agg (List.toArray (vluL cs))) (.agg (List.toArray (vluL ds)))).run P w = .ok e w := fun w => by subst hdd; exact h0 w
  refine propext ⟨?_, fun hK => ⟨hc, hd, e, ⟨hg, h⟩, hK⟩⟩
  rintro ⟨_, _, r, h1, h2⟩
  have := h1.2 { (default : World) with }
  rw [h] at this
  injection this with this
  rw [this]; exact h2
theorem bEq : (∀ a b : Int, (a == b) = decide (a = b)) ∧ (∀ a b : Int, (a != b) = !decide (a = b)) := ⟨fun a b => by by_cases h : a = b <;> simp [h], fun a b => by by_cases h : a = b <;> simp [h, bne]⟩
theorem W0b : (∀ (α : Type) (_ : Decidable True) (a b : α), (if True then a else b) = a) ∧ (∀ (α : Type) (_ : Decidable False) (a b : α), (if False then a else b) = b) ∧ (∀ (α β : Type) (f : α → β) (l : List α), (l.map f).length = l.length) ∧ (∀ (α β : Type) (x : α) (f : α → Option β), (some x).bind f = f x) ∧ (∀ (α β : Type) (x : α) (f : α → β), (some x).map f = some (f x)) ∧ (∀ (α : Type) (x : α), (some x).isSome = true) ∧
    (∀ p : Prop, (True ∧ p) = p) ∧ (∀ p : Prop, (p ∧ True) = p) ∧ (∀ p : Prop, (False ∧ p) = False) ∧ (∀ (α : Type) (x : α), (x = x) = True) ∧ (∀ (α : Type) (x : α) (l : List α), (x :: l).length = l.length + 1) ∧ (∀ α : Type, ([] : List α).length = 0) ∧ (∀ (α : Type) (p : α → Bool), ([] : List α).all p = true) ∧ (∀ (α : Type) (p : α → Bool) (x : α) (l : List α), (x :: l).all p = (p x && l.all p)) ∧
    (∀ h : Decidable True, @decide True h = true) ∧ (∀ h : Decidable False, @decide False h = false) ∧ (∀ (α : Type) (a : α) (p : α → Prop), (∃ x, some a = some x ∧ p x) = p a) ∧ (∀ (α : Type) (a : α) (p : α → Prop), (∃ x, some x = some a ∧ p x) = p a) ∧ (∀ a b : Nat, (a + 1 ≤ b) = (a < b)) ∧
    (∀ (α : Type) (l : List α), [] ++ l = l) ∧ (∀ (α : Type) (x : α) (l m : List α), (x :: l) ++ m = x :: (l ++ m)) ∧ (∀ (α : Type) (l : List α), l.drop 0 = l) ∧ (∀ (α : Type) (n : Nat) (x : α) (l : List α), (x :: l).drop (n + 1) = l.drop n) ∧ ((!true) = false) ∧ ((!false) = true) ∧ (∀ a b : Int, (a == b) = decide (a = b)) ∧ (∀ a b : Int, (a != b) = !decide (a = b)) ∧ ((¬True) = False) ∧ ((¬False) = True) ∧ (∀ (α : Type) (a b : α), (a ≠ b) = ¬(a = b)) ∧
    (∀ (α : Type) (l m : List α), (l ++ m).length = l.length + m.length) ∧ (∀ (α : Type) (l : List α) (i : Nat) (x : α), (l.set i x).length = l.length) ∧ (∀ (α : Type) (n : Nat) (x : α), (List.replicate n x).length = n) ∧ (∀ (α β : Type) (f : α → β) (l m : List α), l.map f ++ m.map f = (l ++ m).map f) ∧ (∀ (α β : Type) (f : α → β), [].map f = []) := by
  refine ⟨?_, ?_, ?_, ?_, ?_, ?_, ?_, ?_, ?_, ?_, ?_, ?_, ?_, ?_, ?_, ?_, ?_, ?_, ?_, ?_, ?_, ?_, ?_, ?_, ?_, ?_, ?_, ?_, ?_, ?_, ?_, ?_, ?_, ?_, ?_⟩ <;> intros <;> first | rfl | simp | (exact propext Iff.rfl)
end Go.Proofs.YtdjdleldocfpaaaDoor.F
end

section
namespace Go.Proofs.YtdjdleldocfpaaaDoor.F
open Go.RowKit Go.Proofs.YtdjdleldocfpaaaDoorW.PrintWords Go.Proofs.YtdjdleldocfpaaaDoorW.PrintLast Go.Proofs.YtdjdleldocfpaaaDoorW.PrintMore
set_option linter.unusedVariables false
set_option linter.unusedSimpArgs false
theorem W15 (P : Program) (ty : TypeId → Option TI) : (∀ s id z lo hi, toP s (.vw id z lo hi) = tpV z lo hi (gS s id)) ∧ (∀ z lo hi e y xs, tpV z lo hi (some (.row e y xs)) = if z = y then .pr y ((xs.take hi).drop lo) else .u) ∧ (∀ s f a b, toP s (.v (.func f a b)) = .v (.func f a b)) ∧
    (∀ id z lo hi d t s K, lenW (.vw id z lo hi) d t s K = lenV (gS s id) lo hi d t s K) ∧ (∀ e z xs lo hi d t s K, lenV (some (.row e z xs)) lo hi d t s K = K (pT t d (.v (.int .i64 (((xs.take hi).drop lo).length : Int)))) s) ∧
    (∀ i id z lo hi k n d t s K, idxW ty (some i) (.vw id z lo hi) (.v (.int k n)) d t s K = idxV ty i.el (gS s id) id z lo hi n d t s K) ∧
    (∀ el e z xs id y lo hi n d t s K, idxV ty el (some (.row e z xs)) id y lo hi n d t s K = ((∃ j, ty el = some j ∧ j.size = z) ∧ y = z ∧ 0 ≤ n ∧ n < (((xs.take hi).drop lo).length : Int) ∧ K (pT t d (.le id z (n + (lo : Int)) 0)) s)) ∧
    (∀ z id y lo hi s, rdS z (.vw id y lo hi) s = if y = z then (rdB z (gS s id)).map fun xs => (xs.take hi).drop lo else none) ∧
    (∀ q b x lo hi o d t s K, opX P ty q (.slice b x lo hi none) o d t s K = slcW ty (ty b) (eT t x) (lo.map (eT t)) (hi.map (eT t)) d t s K) ∧
    (∀ i z xs lo hi d t s K, slcW ty (some i) (.pr z xs) lo hi d t s K = ∃ j, ty i.el = some j ∧ slcP z xs j (loN lo) hi d t s K) ∧
    (∀ i id lo hi d t s K, slcW ty (some i) (.lo id) lo hi d t s K = ∃ j, ty i.el = some j ∧ slcR id (gS s id) j (loN lo) hi d t s K) ∧
    (∀ z xs j l hi d t s K, slcP z xs j (some l) hi d t s K = ∃ h, hiN xs.length hi = some h ∧ j.size = z ∧ 0 ≤ l ∧ l ≤ h ∧ h ≤ (xs.length : Int) ∧ K (pT t d (.pr z ((xs.take h.toNat).drop l.toNat))) s) ∧
    (∀ id e z xs j l hi d t s K, slcR id (some (.row e z xs)) j (some l) hi d t s K = ∃ h, hiN xs.length hi = some h ∧ j.size = z ∧ 0 ≤ l ∧ l ≤ h ∧ h ≤ (xs.length : Int) ∧ K (pT t d (.vw id z l.toNat h.toNat)) s) ∧
    (loN none = some 0) ∧ (∀ k n, loN (some (.v (.int k n))) = some n) ∧ (∀ n, hiN n none = some (n : Int)) ∧ (∀ n k h, hiN n (some (.v (.int k h))) = some h) ∧
    (∀ i a b c d, rot i (.slice a b c d none) = true) ∧ (∀ (α β : Type) (f : α → β), (none : Option α).map f = none) ∧ (∀ (α : Type) (l : List α), l.drop (Int.toNat 0) = l) ∧ (∀ (α : Type) (l : List α), l.take ((l.length : Int)).toNat = l) ∧ (∀ i j, nodB [i, j] = (i != j)) ∧ (∀ i j k, nodB [i, j, k] = (i != j && (i != k && j != k))) ∧
    (∀ (α β : Type) (f : α → β) (l : List α) (n : Nat), (l.map f).take n = (l.take n).map f) ∧ (∀ (α β : Type) (f : α → β) (l : List α) (n : Nat), (l.map f).drop n = (l.drop n).map f) ∧ (∀ n : Int, n ≤ n) ∧ (∀ n : Int, n + ((0 : Nat) : Int) = n) ∧ (∀ t f, eT t (.func f) = .v (.func (.func f) #[] #[])) := by
  refine ⟨?_, ?_, ?_, ?_, ?_, ?_, ?_, ?_, ?_, ?_, ?_, ?_, ?_, ?_, ?_, ?_, ?_, ?_, ?_, ?_, ?_, ?_, ?_, ?_, ?_, ?_, ?_, ?_⟩ <;> intros <;> first | rfl | (rename_i i _ _ _ _; cases i <;> rfl) | (rw [Int.toNat_natCast]; exact List.take_length) | (rename_i i j; by_cases h : i = j <;> simp [nodB, h]; done) | (rename_i i j k; by_cases h : i = j <;> by_cases h2 : i = k <;> by_cases h3 : j = k <;> simp [nodB, h, h2, h3]; done) | exact List.map_take.symm | exact List.map_drop.symm | exact Int.le_refl _ | exact Int.add_zero _ | exact Nat.cast_ofNat | simp
theorem W16 : (∀ s, subS s [] = True) ∧ (∀ s i b S, subS s ((i, b) :: S) = (gS s i = some b ∧ subS s S)) ∧ (∀ s, uSL s [] = s) ∧ (∀ s i b S, uSL s ((i, b) :: S) = uSL (uS s i b) S) := by
  refine ⟨?_, ?_, ?_, ?_⟩ <;> intros <;> rfl
theorem W17 (ty : TypeId → Option TI) : (∀ rv res R t s, QB ty rv res R .ret t s = (subS s R ∧ ∃ xs, resL ty t s rv = some xs ∧ nodB (AV.idsL xs) = true ∧ ((AV.idsL xs).all fun i => (gS R i).isNone) = true ∧ FitO s xs res)) ∧ (∀ rv res R t s, QB ty rv res R .normal t s = (subS s R ∧ ∃ xs, resL ty t s rv = some xs ∧ nodB (AV.idsL xs) = true ∧ ((AV.idsL xs).all fun i => (gS R i).isNone) = true ∧ FitO s xs res)) ∧
    (∀ rv tb cs t s, QN ty rv tb cs .ret t s = ∃ xs, resL ty t s rv = some xs ∧ isN s tb cs xs) ∧ (∀ rv tb cs t s, QN ty rv tb cs .normal t s = ∃ xs, resL ty t s rv = some xs ∧ isN s tb cs xs) ∧ (∀ s tb cs id, isN s tb cs [.bp id 0] = (gS s id = some (.box tb cs))) ∧ (∀ α : Type, (none : Option α).isNone = true) ∧ (∀ j, gS [] j = none) := by
  refine ⟨?_, ?_, ?_, ?_, ?_, ?_, ?_⟩ <;> intros <;> rfl
theorem W18 (P : Program) (ty : TypeId → Option TI) : (∀ q b c x o d t s K, opX P ty q (.convert b c x) o d t s K = cnvW ty (ty b) (ty c) (eT t x) d t s K) ∧ (∀ i j k n d t s K, cnvW ty (some i) (some j) (.v (.int k n)) d t s K = ∃ k', kindOf j.zero = some k' ∧ K (pT t d (.v (.int k' (wr k' n)))) s) ∧ (∀ k n, kindOf [.int k n] = some k) ∧ (∀ n, wr .i64 n = wrap64 n) ∧ (∀ i a b c, rot i (.convert a b c) = true) ∧
    (∀ q o d t s K, opX P ty q (.assign (.const (.pointer none))) o d t s K = K (pT t d (.v (.pointer none))) s) ∧ (∀ j, rot j (.assign (.const (.pointer none))) = true) ∧ (∀ a b d t s K, binW .shr (.v (.int .i64 a)) (.v (.int .u64 b)) d t s K = (bok .shr b ∧ K (pT t d (.v (bval .shr .i64 a b))) s)) ∧ (∀ a b d t s K, binW .shl (.v (.int .i64 a)) (.v (.int .u64 b)) d t s K = (bok .shl b ∧ K (pT t d (.v (bval .shl .i64 a b))) s)) ∧
    (∀ a, shr .i64 a 33 = a / 8589934592) ∧ (∀ a, shr .i64 a 45 = a / 35184372088832) := by
  refine ⟨?_, ?_, ?_, ?_, ?_, ?_, ?_, ?_, ?_, ?_, ?_⟩ <;> intros <;> first | rfl | (unfold binW; simp [kok]) | (simp [shr, IntKind.bits]; done)
def rs2 : Bool → Sto → Bool
  | true, _ => true
  | false, s => rsv s
def dch2 : Bool → List Oper → List AV → Sto → Bool
  | false, _, _, _ => true
  | true, l, t, s => !hasC l || rchk l t s
def dch3 : Bool → List Oper → List AV → Sto → Bool
  | false, _, _, _ => true
  | true, l, t, s => rchk l t s
def hc2 : Bool → List Oper → Bool
  | true, _ => true
  | false, l => hasC l
theorem rsv_cons (i : Nat) (b : Blk) (s : Sto) : rsv ((i, b) :: s) = rs2 (i - i / 16 * 16 == 15) s := by
  have h : i % 16 = i - i / 16 * 16 := by omega
  show (i % 16 == 15 || rsv s) = _
  rw [h]; cases (i - i / 16 * 16 == 15) <;> rfl
theorem W19 : (∀ l t s, dchk l t s = dch2 (rsv s) l t s) ∧ (rsv [] = false) ∧ (∀ i b s, rsv ((i, b) :: s) = rs2 (i - i / 16 * 16 == 15) s) ∧ (∀ s, rs2 true s = true) ∧ (∀ s, rs2 false s = rsv s) ∧ (∀ l t s, dch2 false l t s = true) ∧ (∀ l t s, dch2 true l t s = dch3 (hasC l) l t s) ∧ (∀ l t s, dch3 false l t s = true) ∧ (∀ l t s, dch3 true l t s = rchk l t s) ∧
    (hasC [] = false) ∧ (∀ o l, hasC (o :: l) = hc2 (isC o.op) l) ∧ (∀ l, hc2 true l = true) ∧ (∀ l, hc2 false l = hasC l) ∧ (∀ o, isC o = match o with | .call ⟨.value _, _, _⟩ => true | _ => false) ∧ (∀ l, (true = true ∧ l) = l) := by
  refine ⟨?_, ?_, rsv_cons, ?_, ?_, ?_, ?_, ?_, ?_, ?_, ?_, ?_, ?_, ?_, ?_⟩ <;> intros <;> first | rfl | (simp; done) | (rename_i l t s; unfold dchk; cases rsv s <;> rfl) | (rename_i l t s; show (!hasC l || rchk l t s) = _; cases hasC l <;> rfl) | (rename_i o l; show (isC o.op || hasC l) = _; cases isC o.op <;> rfl)
theorem W20 : (∀ j i z lo hi, AV.fr j (.vw i z lo hi) = (i != j)) ∧ (Int.toNat 0 = 0) := ⟨fun _ _ _ _ _ => rfl, rfl⟩
theorem W21 : (∀ (P : Program) e o op a b d t s K, binX P e o op (.v (.string a)) (.v (.string b)) d t s K = (sok op a b = true ∧ K (pT t d (.v (sval op a b))) s)) ∧ (∀ a b, (sok .add a b = true) = (a.size + b.size ≤ 9223372036854775807)) ∧ (∀ a b, sok .eql a b = true) ∧ (∀ a b, sok .neq a b = true) ∧
    (∀ a b, sval .add a b = .string (a ++ b)) ∧ (∀ a b, sval .eql a b = .bool (decide (a.toList = b.toList))) ∧ (∀ a b, sval .neq a b = .bool (decide (¬ a.toList = b.toList))) ∧ (∀ c, ByteArray.size ⟨#[c]⟩ = 1) := by
  refine ⟨?_, ?_, ?_, ?_, ?_, ?_, ?_, ?_⟩ <;> intros <;> first | rfl | (rename_i P_ e_ o_ op_ a_ b_ d_ t_ s_ K_; cases o_ <;> cases op_ <;> rfl) | simp [sok]
theorem W22 : (∀ ρ x t i z lo hi T, EntT ρ (x :: t) (.vw i z lo hi :: T) = (x = .vw (rn ρ i) z lo hi ∧ EntT ρ t T)) ∧ (∀ ρ i z lo hi, AV.ren ρ (.vw i z lo hi) = .vw (rn ρ i) z lo hi) ∧ (∀ n, wr .u8 n = n % 256) := by
  refine ⟨?_, ?_, ?_⟩ <;> intros <;> rfl
theorem W23 (ty : TypeId → Option TI) : (∀ i k, lenT ty (some i) (.lo k) = (ty i.el).isSome) ∧ (∀ i z l, lenT ty (some i) (.pr z l) = (ty i.el).isSome) ∧ (∀ i k z a b, lenT ty (some i) (.vw k z a b) = (ty i.el).isSome) ∧ (∀ i a n c, lenT ty (some i) (.v (.slice a n c)) = (ty i.el).isSome) ∧ (∀ i m, lenT ty (some i) (.v (.string m)) = strZ i.zero) ∧ (∀ m, strZ [.string m] = true) ∧
    (∀ a d t s K, lenW (.v (.string a)) d t s K = K (pT t d (.v (.int .i64 (a.size : Int)))) s) ∧
    (∀ a z i, appT a a z (.lo i) = true) ∧ (∀ a z y l, appT a a z (.pr y l) = true) ∧ (∀ a z k y p q, appT a a z (.vw k y p q) = true) ∧ (∀ a z p n c, appT a a z (.v (.slice p n c)) = true) ∧ (∀ a b z m, appT a b (some z) (.v (.string m)) = strZ z) ∧
    (∀ j i, okA j (.lo i) = true) ∧ (∀ j z l, okA j (.pr z l) = true) ∧ (∀ j k z a b, okA j (.vw k z a b) = true) ∧ (∀ j a n c, okA j (.v (.slice a n c)) = true) ∧ (∀ j m, okA j (.v (.string m)) = (u8Z j.zero && j.bytes == 1)) ∧ (u8Z [.int .u8 0] = true) ∧
    (∀ z i s, rdA z (.lo i) s = rdS z (.lo i) s) ∧ (∀ z y l s, rdA z (.pr y l) s = rdS z (.pr y l) s) ∧ (∀ z k y a b s, rdA z (.vw k y a b) s = rdS z (.vw k y a b) s) ∧ (∀ z a n c s, rdA z (.v (.slice a n c)) s = rdS z (.v (.slice a n c)) s) ∧ (∀ a s, rdA 1 (.v (.string a)) s = some ((bytesOf a).map fun n => [.int .u8 n])) := by
  refine ⟨?_, ?_, ?_, ?_, ?_, ?_, ?_, ?_, ?_, ?_, ?_, ?_, ?_, ?_, ?_, ?_, ?_, ?_, ?_, ?_, ?_, ?_, ?_⟩ <;> intros <;> first | rfl | (unfold appT; simp; done)
theorem W25 (ty : TypeId → Option TI) : (∀ i id off k n d t s K, idxW ty (some i) (.bp id off) (.v (.int k n)) d t s K = (i.agg = true ∧ i.fs.isEmpty = true ∧ 0 ≤ n ∧ n.toNat < i.size ∧ K (pT t d (.bp id (off + n.toNat))) s)) ∧ (∀ (x : Nat) l, (x :: l).isEmpty = false) ∧ (([] : List Nat).isEmpty = true) ∧ (∀ a b, ByteArray.size ⟨#[a, b]⟩ = 2) ∧ (∀ a b c d, ByteArray.size ⟨#[a, b, c, d]⟩ = 4) ∧ (∀ a b c d e, ByteArray.size ⟨#[a, b, c, d, e]⟩ = 5) ∧ (∀ a b c d e f g h, ByteArray.size ⟨#[a, b, c, d, e, f, g, h]⟩ = 8) := by
  refine ⟨?_, ?_, ?_, ?_, ?_, ?_, ?_⟩ <;> intros <;> rfl
theorem W24 (P : Program) (ty : TypeId → Option TI) : (∀ q b x i o d t s K, opX P ty q (.index b x i) o d t s K = idxS (ty b) (eT t x) (eT t i) d t s K) ∧ (∀ i a k n d t s K, idxS (some i) (.v (.string a)) (.v (.int k n)) d t s K = (strZ i.zero = true ∧ 0 ≤ n ∧ n < (a.size : Int) ∧ K (pT t d (.v (.int .u8 (bt a n)))) s)) ∧ (∀ i a b c, rot i (.index a b c) = true) ∧
    (∀ i a lo hi d t s K, slcW ty (some i) (.v (.string a)) lo hi d t s K = (strZ i.zero = true ∧ slcS a (loN lo) hi d t s K)) ∧ (∀ a l d t s K, slcS a (some l) none d t s K = (0 ≤ l ∧ l ≤ (a.size : Int) ∧ K (pT t d (.v (.string (a.extract l.toNat a.size)))) s)) ∧ (∀ a l k h d t s K, slcS a (some l) (some (.v (.int k h))) d t s K = (0 ≤ l ∧ l ≤ h ∧ h ≤ (a.size : Int) ∧ K (pT t d (.v (.string (a.extract l.toNat h.toNat)))) s)) ∧ (Int.toNat 1 = 1) ∧ (Int.toNat 2 = 2) ∧
    (∀ i j k d t s K, cnvW ty (some i) (some j) (.lo k) d t s K = cnvS ty i j (.lo k) d t s K) ∧ (∀ i j z l d t s K, cnvW ty (some i) (some j) (.pr z l) d t s K = cnvS ty i j (.pr z l) d t s K) ∧ (∀ i j k z a b d t s K, cnvW ty (some i) (some j) (.vw k z a b) d t s K = cnvS ty i j (.vw k z a b) d t s K) ∧ (∀ i j a n c d t s K, cnvW ty (some i) (some j) (.v (.slice a n c)) d t s K = cnvS ty i j (.v (.slice a n c)) d t s K) ∧
    (∀ i j x d t s K, cnvS ty i j x d t s K = (strZ j.zero = true ∧ (∃ e, ty i.el = some e ∧ u8Z e.zero = true) ∧ ∃ ns, (rdS 1 x s).bind bys = some ns ∧ K (pT t d (.v (.string (strOfNums ns)))) s)) ∧ (∀ (α β : Type) (f : α → Option β) (x : α), (some x).bind f = f x) ∧ (bys [] = some []) ∧ (∀ a, (bytesOf a).length = a.size) ∧
    (∀ q a x o d t s K, opX P ty q (.unOp .neg a x) o d t s K = negW (eT t x) d t s K) ∧ (∀ k n d t s K, negW (.v (.int k n)) d t s K = K (pT t d (.v (.int k (wr k (-n))))) s) ∧
    (∀ op a b d t s K, binW op (.v (.int .u8 a)) (.v (.int .u8 b)) d t s K = (kok op .u8 .u8 = true ∧ bok op b ∧ K (pT t d (.v (bval op .u8 a b))) s)) ∧ (kok .lss .u8 .u8 = true) ∧ (kok .leq .u8 .u8 = true) ∧ (kok .gtr .u8 .u8 = true) ∧ (kok .geq .u8 .u8 = true) ∧ (kok .eql .u8 .u8 = true) ∧ (kok .neq .u8 .u8 = true) ∧
    (∀ a b, bval .lss .u8 a b = .bool (decide (a < b))) ∧ (∀ a b, bval .leq .u8 a b = .bool (decide (a ≤ b))) ∧ (∀ a b, bval .gtr .u8 a b = .bool (decide (a > b))) ∧ (∀ a b, bval .geq .u8 a b = .bool (decide (a ≥ b))) ∧ (∀ a b, bval .eql .u8 a b = .bool (a == b)) ∧ (∀ a b, bval .neq .u8 a b = .bool (a != b)) ∧ (∀ n : Int, n ≤ n) := by
  refine ⟨?_, ?_, ?_, ?_, ?_, ?_, ?_, ?_, ?_, ?_, ?_, ?_, ?_, ?_, ?_, ?_, ?_, ?_, ?_, ?_, ?_, ?_, ?_, ?_, ?_, ?_, ?_, ?_, ?_, ?_, ?_, ?_⟩ <;> intros <;> first | rfl | exact Int.le_refl _ | exact bytesOf_length _ | (unfold binW; rfl) | (unfold slcS; simp [hiN]; done)
end Go.Proofs.YtdjdleldocfpaaaDoor.F
end

section
namespace Go.Proofs.YtdjdleldocfpaaaDoor.F
open Go.RowKit Go.Proofs.YtdjdleldocfpaaaDoorW.PrintWords Go.Proofs.YtdjdleldocfpaaaDoorW.PrintLast Go.Proofs.YtdjdleldocfpaaaDoorW.PrintMore
set_option linter.unusedVariables false
set_option linter.unusedSimpArgs false
structure EncOk {α : Type} (d : Kd α) (sz : Nat) (enc : α → List Value) : Prop where
  hz : d.sz = sz
  pos : 0 < sz
  len : ∀ x, (enc x).length = sz
  pl : ∀ x, ∀ u ∈ enc x, plainV u = true
  K : ∀ {w x c}, d.K w x c ↔ c = enc x
  M : ∀ {w b ok x c}, d.M w b ok x c ↔ c = enc x
section
variable {α : Type} {d : Kd α} {sz : Nat} {enc : α → List Value}
theorem EncOk.all (E : EncOk d sz enc) {xs : List α} : ∀ x ∈ xs.map enc, x.length = sz := fun x hx => by
  obtain ⟨y, _, rfl⟩ := List.mem_map.1 hx
  exact E.len y
theorem EncOk.row (E : EncOk d sz enc) (xs : List α) : rowOk sz (xs.map enc) := fun x hx => by
  obtain ⟨y, _, rfl⟩ := List.mem_map.1 hx
  exact ⟨E.len y, E.pl y⟩
theorem EncOk.cell (E : EncOk d sz enc) {xs : List α} {i j : Nat} (hi : i < xs.length) (hj : j < sz) : (xs.map enc).flatten[i * sz + j]? = (enc xs[i])[j]? := by
  rw [flatten_at E.all (by simpa using hi) (z := []) hj]
  simp [List.getD_eq_getElem?_getD, hi]
theorem at_of_C (E : EncOk d sz enc) {w : World} {A : Option Addr} {c : Nat} {xs : List α} (h : d.C w A xs.length xs) (hc : xs.length ≤ c) : RowAt w.heap.size w sz (xs.map enc) (.slice A xs.length c) := by
  obtain ⟨h1, h2, h3⟩ := h
  have hs := E.hz
  refine ⟨A, c, by rw [List.length_map], by rw [List.length_map]; exact hc, by rw [List.length_map]; exact h2, E.pos, E.row xs, fun hne => ?_⟩
  have hp : 0 < xs.length := by
    cases xs with
    | nil => exact absurd rfl hne
    | cons x l => simp
  obtain ⟨ad, e, h3⟩ := h3 hp
  have key : ∀ j u, (xs.map enc).flatten[j]? = some u → w.cell? (ad.add j) = some u := fun j u hu => by
    have hl : j < (xs.map enc).flatten.length := (List.getElem?_eq_some_iff.1 hu).1
    rw [flatten_len E.all, List.length_map] at hl
    have hq : j / sz < xs.length := (Nat.div_lt_iff_lt_mul E.pos).2 hl
    have hr := Nat.mod_lt j E.pos
    have ej : j = j / sz * sz + j % sz := by rw [Nat.mul_comm]; exact (Nat.div_add_mod j sz).symm
    rw [ej, E.cell hq hr] at hu
    obtain ⟨cc, h4, h5, h6⟩ := h3 (j / sz) _ (List.getElem?_eq_getElem hq)
    rw [E.K.1 h5, hs] at h6
    rw [ej]
    exact h6 (j % sz) u hu
  refine ⟨ad, e, ?_, key⟩
  obtain ⟨u, hu⟩ : ∃ u, (xs.map enc).flatten[0]? = some u := by
    refine ⟨_, List.getElem?_eq_getElem (by rw [flatten_len E.all, List.length_map]; exact Nat.mul_pos hp E.pos)⟩
  have := key 0 u hu
  unfold World.cell? at this
  cases hb : w.heap[(ad.add 0).block]? with
  | none => rw [hb] at this; cases this
  | some b => exact (Array.getElem?_eq_some_iff.1 hb).1
theorem C_of_at (E : EncOk d sz enc) {B : Nat} {w : World} {xs : List α} {y : Value} (h : RowAt B w sz (xs.map enc) y) : ∃ A c, y = .slice A xs.length c ∧ d.C w A xs.length xs ∧ xs.length ≤ c := by
  obtain ⟨A, c, h1, h2, h3, _, _, h4⟩ := h
  rw [List.length_map] at h1 h2 h3
  refine ⟨A, c, h1, ⟨rfl, h3, fun hp => ?_⟩, h2⟩
  obtain ⟨ad, e, _, h5⟩ := h4 (fun e => by rw [List.map_eq_nil_iff] at e; rw [e] at hp; simp at hp)
  refine ⟨ad, e, fun j p hj => ⟨enc p, by rw [E.len, E.hz], E.K.2 rfl, fun i u hu => h5 _ u ?_⟩⟩
  obtain ⟨hl, rfl⟩ := List.getElem?_eq_some_iff.1 hj
  have hi : i < sz := by rw [← E.len xs[j]]; exact (List.getElem?_eq_some_iff.1 hu).1
  rw [E.hz, E.cell hl hi]
  exact hu
theorem R_of_rowO (E : EncOk d sz enc) {e B : Nat} {w : World} {v : Value} {xs : List α} {ok : Nat → Prop} (h : w.ownsRow B e sz v (xs.map enc).length (xs.map enc).flatten) (hok : ∀ k, bk v = some k → ok k) : d.R e w B ok v xs := by
  refine ⟨fun k hk => hok k (by rw [← bk_own h]; exact hk), (xs.map enc).flatten, by rw [E.hz]; rwa [List.length_map] at h, by rw [flatten_len E.all, List.length_map, E.hz], fun j p hj => E.M.2 ?_⟩
  obtain ⟨hl, rfl⟩ := List.getElem?_eq_some_iff.1 hj
  apply List.ext_getElem?
  intro i
  rw [E.hz]
  by_cases hi : i < sz
  · rw [List.getElem?_take, if_pos hi, List.getElem?_drop, E.cell hl hi]
  · rw [List.getElem?_take, if_neg hi, List.getElem?_eq_none (by rw [E.len]; omega)]
theorem R_of_row (E : EncOk d sz enc) {e B : Nat} {w : World} {v : Value} {xs : List α} (h : w.ownsRow B e sz v (xs.map enc).length (xs.map enc).flatten) : d.R e w B (fun _ => True) v xs := R_of_rowO E h fun _ _ => trivial
theorem row_of_R (E : EncOk d sz enc) {e B : Nat} {w : World} {ok : Nat → Prop} {v : Value} {xs : List α} (h : d.R e w B ok v xs) : w.ownsRow B e sz v (xs.map enc).length (xs.map enc).flatten := by
  obtain ⟨_, inner, ho, hr⟩ := h
  have hin : inner = (xs.map enc).flatten := by
    apply List.ext_getElem?
    intro j
    by_cases hj : j < xs.length * sz
    · have hq : j / sz < xs.length := (Nat.div_lt_iff_lt_mul E.pos).2 hj
      have hm := Nat.mod_lt j E.pos
      have ej : j = j / sz * sz + j % sz := by rw [Nat.mul_comm]; exact (Nat.div_add_mod j sz).symm
      have h2 := E.M.1 (hr.2 (j / sz) _ (List.getElem?_eq_getElem hq))
      rw [ej, E.cell hq hm, ← h2, E.hz, List.getElem?_take, if_pos hm, List.getElem?_drop]
    · rw [List.getElem?_eq_none (by have := hr.1; rw [E.hz] at this; omega), List.getElem?_eq_none (by rw [flatten_len E.all, List.length_map]; omega)]
  rw [← hin, List.length_map]
  rw [E.hz] at ho
  exact ho
end
end Go.Proofs.YtdjdleldocfpaaaDoor.F
namespace Go.Proofs.YtdjdleldocfpaaaDoor.F
open Go.RowKit Go.Proofs.YtdjdleldocfpaaaDoorW.PrintWords Go.Proofs.YtdjdleldocfpaaaDoorW.PrintLast Go.Proofs.YtdjdleldocfpaaaDoorW.PrintMore
end Go.Proofs.YtdjdleldocfpaaaDoor.F
end

section
namespace Go.Proofs.YtdjdleldocfpaaaDoor.F
open Go.RowKit Go.Proofs.YtdjdleldocfpaaaDoorW.PrintWords Go.Proofs.YtdjdleldocfpaaaDoorW.PrintLast Go.Proofs.YtdjdleldocfpaaaDoorW.PrintMore
set_option linter.unusedVariables false
set_option linter.unusedSimpArgs false
def spec_l01In.f (a0 : Int) (a1 : Int) (a2 : Int) : Option (Bool) := if a0 ≥ a1 then (some (decide (a0 ≤ a2))) else (some false)
def strconv_Itoa.f (a0 : Int) : Option ByteArray := if 0 ≤ a0 ∧ a0 < 100 then some ⟨if a0.toNat < 10 then #[UInt8.ofNat (48 + a0.toNat)] else #[UInt8.ofNat (48 + a0.toNat / 10), UInt8.ofNat (48 + a0.toNat % 10)]⟩ else if -9223372036854775808 ≤ a0 ∧ a0 ≤ 9223372036854775807 then some ⟨(Go.Lib.itoa a0).toArray⟩ else none
def impl_FormatInt.f (a0 : Int) : Option (ByteArray) := (strconv_Itoa.f a0).bind fun t170 => (some t170)
end Go.Proofs.YtdjdleldocfpaaaDoor.F
end

section
namespace Go.Proofs.YtdjdleldocfpaaaDoor.F
open Go.RowKit Go.Proofs.YtdjdleldocfpaaaDoorW.PrintWords Go.Proofs.YtdjdleldocfpaaaDoorW.PrintLast Go.Proofs.YtdjdleldocfpaaaDoorW.PrintMore
set_option linter.unusedVariables false
set_option linter.unusedSimpArgs false
def spec_GridOk.f (a0_0 : Int) (a0_1 : Int) : Option (Bool) := (spec_l01In.f a0_0 1 4).bind fun t306 => (if t306 = true then ((spec_l01In.f a0_1 1 4).bind fun t307 => (some t307)) else (some false))
def spec_l02East.f (a0_0 : Int) (a0_1 : Int) : Option (Int) := some (wrap64 (a0_1 * (wrap64 (a0_0 - 1))))
def spec_CountGaps.f (a0_0 : Int) (a0_1 : Int) : Option (Int) := (spec_GridOk.f a0_0 a0_1).bind fun t310 => (if t310 = true then ((spec_l02East.f a0_0 a0_1).bind fun t311 => (some (wrap64 (t311 + (wrap64 (a0_0 * (wrap64 (a0_1 - 1)))))))) else (some 0))
def spec_MazeOk.f (a0_0 : Int) (a0_1 : Int) (a0_2 : Int) : Option (Bool) := (spec_GridOk.f a0_0 a0_1).bind fun t313 => (if t313 = true then ((spec_CountGaps.f a0_0 a0_1).bind fun t314 => (if 0 ≤ t314 then ((spec_l01In.f a0_2 0 (wrap64 ((shl .i64 1 t314) - 1))).bind fun t315 => (some t315)) else (none))) else (some false))
def spec_CountCells.f (a0_0 : Int) (a0_1 : Int) : Option (Int) := (spec_GridOk.f a0_0 a0_1).bind fun t317 => (if t317 = true then (some (wrap64 (a0_0 * a0_1))) else (some 0))
def spec_l04Has.f (a0_0 : Int) (a0_1 : Int) (a0_2 : Int) (a1 : Int) : Option (Bool) := (spec_MazeOk.f a0_0 a0_1 a0_2).bind fun t319 => (if t319 = true then ((spec_CountCells.f a0_0 a0_1).bind fun t320 => ((spec_l01In.f a1 0 (wrap64 (t320 - 1))).bind fun t321 => (some t321))) else (some false))
def spec_l07In.l0 : Nat → List Int → Int → Int → Option (Bool)
  | 0, _, _, _ => none
  | k + 1, x0, x1, x5 => if x5 < (x0.length : Int) then (if 0 ≤ x5 then (if (rd x0 x5) = x1 then (some true) else (spec_l07In.l0 k x0 x1 (wrap64 (x5 + 1)))) else (none)) else (some false)
def spec_l07In.f (k : Nat) (l0 : List Int) (a1 : Int) : Option (Bool) := spec_l07In.l0 k l0 a1 0
def spec_l03Bit.f (a0 : Int) (a1 : Int) : Option (Bool) := if 0 ≤ a1 then (some ((Go.bits .and .i64 (shr .i64 a0 a1) 1) == 1)) else (none)
def spec_IsPassage.f (a0_0 : Int) (a0_1 : Int) (a0_2 : Int) (a1 : Int) : Option (Bool) := (spec_MazeOk.f a0_0 a0_1 a0_2).bind fun t331 => (if t331 = true then ((spec_CountGaps.f a0_0 a0_1).bind fun t332 => ((spec_l01In.f a1 0 (wrap64 (t332 - 1))).bind fun t333 => (if t333 = true then ((spec_l03Bit.f a0_2 a1).bind fun t334 => (some t334)) else (some false)))) else (some false))
def spec_Neighbor.j0 : Nat → Int → Int → Int → Int → Option (Int)
  | 0, _, _, _, _ => none
  | k + 1, x7, x8, x336000, x336001 => (spec_l01In.f x7 0 (wrap64 (x336000 - 1))).bind fun t338 => (if t338 = true then ((spec_l01In.f x8 0 (wrap64 (x336001 - 1))).bind fun t339 => (if t339 = true then (some (wrap64 ((wrap64 (x8 * x336000)) + x7))) else (some (-1)))) else (some (-1)))
def spec_Neighbor.f (k : Nat) (a0_0 : Int) (a0_1 : Int) (a1 : Int) (a2 : Int) : Option (Int) := (spec_CountCells.f a0_0 a0_1).bind fun t336 => ((spec_l01In.f a1 0 (wrap64 (t336 - 1))).bind fun t337 => (if t337 = true then (if a0_0 = 0 then (none) else (if a2 = 0 then (spec_Neighbor.j0 k (Int.tmod a1 a0_0) (wrap64 ((wrap64 (Int.tdiv a1 a0_0)) - 1)) a0_0 a0_1) else (if a2 = 1 then (spec_Neighbor.j0 k (wrap64 ((Int.tmod a1 a0_0) + 1)) (wrap64 (Int.tdiv a1 a0_0)) a0_0 a0_1) else (if a2 = 2 then (spec_Neighbor.j0 k (Int.tmod a1 a0_0) (wrap64 ((wrap64 (Int.tdiv a1 a0_0)) + 1)) a0_0 a0_1) else (if a2 = 3 then (spec_Neighbor.j0 k (wrap64 ((Int.tmod a1 a0_0) - 1)) (wrap64 (Int.tdiv a1 a0_0)) a0_0 a0_1) else (some (-1))))))) else (some (-1))))
theorem spec_Neighbor.mono_l : ∀ k, (∀ y0 y1 y2 y3, LeO (spec_Neighbor.j0 k y0 y1 y2 y3) (spec_Neighbor.j0 (k + 1) y0 y1 y2 y3))
  | 0 => fun _ _ _ _ r h => by simp [spec_Neighbor.j0] at h
  | k + 1 => by
    have ih0 := spec_Neighbor.mono_l k
    · intro y0 y1 y2 y3
      unfold spec_Neighbor.j0
      repeat' first
      | (with_reducible exact ih0 _ _ _ _)
      | (with_reducible exact LeO.refl _)
      | (with_reducible exact LeO.none _)
      | (with_reducible refine LeO.ite ?_ ?_)
      | (with_reducible refine LeO.bind ?_ (fun _ => ?_))
      | exact ih0 _ _ _ _
      | exact LeO.none _
      | refine LeO.ite ?_ ?_
      | refine LeO.bind ?_ (fun _ => ?_)
theorem spec_Neighbor.mono : ∀ a0 a1 a2 a3 k, LeO (spec_Neighbor.f k a0 a1 a2 a3) (spec_Neighbor.f (k + 1) a0 a1 a2 a3) := by
  intro a0 a1 a2 a3 k
  have ih0 := spec_Neighbor.mono_l k
  unfold spec_Neighbor.f
  repeat' first
      | (with_reducible exact ih0 _ _ _ _)
      | (with_reducible exact LeO.refl _)
      | (with_reducible exact LeO.none _)
      | (with_reducible refine LeO.ite ?_ ?_)
      | (with_reducible refine LeO.bind ?_ (fun _ => ?_))
      | exact ih0 _ _ _ _
      | exact LeO.none _
      | refine LeO.ite ?_ ?_
      | refine LeO.bind ?_ (fun _ => ?_)
def spec_GapAt.f (k : Nat) (a0_0 : Int) (a0_1 : Int) (a1 : Int) (a2 : Int) : Option (Int) := (spec_Neighbor.f k a0_0 a0_1 a1 a2).bind fun t341 => (if t341 < 0 then (some (-1)) else (if a2 = 1 then (if a0_0 = 0 then (none) else (some (wrap64 ((wrap64 ((wrap64 (Int.tdiv (mn a1 t341) a0_0)) * (wrap64 (a0_0 - 1)))) + (Int.tmod (mn a1 t341) a0_0))))) else (if a2 = 3 then (if a0_0 = 0 then (none) else (some (wrap64 ((wrap64 ((wrap64 (Int.tdiv (mn a1 t341) a0_0)) * (wrap64 (a0_0 - 1)))) + (Int.tmod (mn a1 t341) a0_0))))) else ((spec_l02East.f a0_0 a0_1).bind fun t342 => (some (wrap64 (t342 + (mn a1 t341))))))))
theorem spec_GapAt.mono : ∀ a0 a1 a2 a3 k, LeO (spec_GapAt.f k a0 a1 a2 a3) (spec_GapAt.f (k + 1) a0 a1 a2 a3) := by
  intro a0 a1 a2 a3 k
  unfold spec_GapAt.f
  repeat' first
      | (with_reducible exact spec_Neighbor.mono _ _ _ _ _)
      | (with_reducible exact LeO.refl _)
      | (with_reducible exact LeO.none _)
      | (with_reducible refine LeO.ite ?_ ?_)
      | (with_reducible refine LeO.bind ?_ (fun _ => ?_))
      | exact spec_Neighbor.mono _ _ _ _ _
      | exact LeO.none _
      | refine LeO.ite ?_ ?_
      | refine LeO.bind ?_ (fun _ => ?_)
def spec_Step.f (k : Nat) (a0_0 : Int) (a0_1 : Int) (a0_2 : Int) (a1 : Int) (a2 : Int) : Option (Int) := (spec_MazeOk.f a0_0 a0_1 a0_2).bind fun t344 => (if t344 = true then ((spec_GapAt.f k a0_0 a0_1 a1 a2).bind fun t345 => ((spec_IsPassage.f a0_0 a0_1 a0_2 t345).bind fun t346 => (if t346 = true then ((spec_Neighbor.f k a0_0 a0_1 a1 a2).bind fun t347 => (some t347)) else (some (-1))))) else (some (-1)))
theorem spec_Step.mono : ∀ a0 a1 a2 a3 a4 k, LeO (spec_Step.f k a0 a1 a2 a3 a4) (spec_Step.f (k + 1) a0 a1 a2 a3 a4) := by
  intro a0 a1 a2 a3 a4 k
  unfold spec_Step.f
  repeat' first
      | (with_reducible exact spec_GapAt.mono _ _ _ _ _)
      | (with_reducible exact spec_Neighbor.mono _ _ _ _ _)
      | (with_reducible exact LeO.refl _)
      | (with_reducible exact LeO.none _)
      | (with_reducible refine LeO.ite ?_ ?_)
      | (with_reducible refine LeO.bind ?_ (fun _ => ?_))
      | exact spec_GapAt.mono _ _ _ _ _
      | exact spec_Neighbor.mono _ _ _ _ _
      | exact LeO.none _
      | refine LeO.ite ?_ ?_
      | refine LeO.bind ?_ (fun _ => ?_)
end Go.Proofs.YtdjdleldocfpaaaDoor.F
end

section
namespace Go.Proofs.YtdjdleldocfpaaaDoor.F
open Go.RowKit Go.Proofs.YtdjdleldocfpaaaDoorW.PrintWords Go.Proofs.YtdjdleldocfpaaaDoorW.PrintLast Go.Proofs.YtdjdleldocfpaaaDoorW.PrintMore
set_option linter.unusedVariables false
set_option linter.unusedSimpArgs false
def laws_big.f (l0 : List Int) : Option (Bool) := some (decide ((l0.length : Int) > 1048576))
def spec_l01New.l0 : Nat → List Int → Int → Int → Option (List Int × Int × Int)
  | 0, _, _, _ => none
  | k + 1, x0, x3, x4 => if x4 < (x0.length : Int) then (if x4 < 4000 then (if 0 ≤ x4 then (spec_l01New.l0 k x0 (Go.bits .and .i64 (wrap64 ((wrap64 ((wrap64 (x3 * 131)) + (wrap64 (rd x0 x4)))) + 7)) 1073741823) (wrap64 (x4 + 1))) else (none)) else (some (x0, 0, x3))) else (some (x0, 0, x3))
def spec_l01New.f (k : Nat) (l0 : List Int) : Option (List Int × Int × Int) := spec_l01New.l0 k l0 (wrap64 (99041 + (l0.length : Int))) 0
def spec_l01Byte.f (s0_0 : List Int) (s0_1 : Int) (s0_2 : Int) : Option (Int × Int × Int) := if s0_1 < (s0_0.length : Int) then (if 0 ≤ s0_1 then (some (Go.bits .and .i64 (wrap64 ((Go.bits .and .i64 (Go.bits .xor .i64 ((wrap64 ((wrap64 (s0_2 * 6364136223846793005)) + 1442695040888963407)) / 8589934592) ((wrap64 ((wrap64 (s0_2 * 6364136223846793005)) + 1442695040888963407)) / 35184372088832)) 255) + (wrap64 (rd s0_0 s0_1)))) 255, wrap64 (s0_1 + 1), wrap64 ((wrap64 (s0_2 * 6364136223846793005)) + 1442695040888963407))) else (none)) else (some (Go.bits .and .i64 (Go.bits .xor .i64 ((wrap64 ((wrap64 (s0_2 * 6364136223846793005)) + 1442695040888963407)) / 8589934592) ((wrap64 ((wrap64 (s0_2 * 6364136223846793005)) + 1442695040888963407)) / 35184372088832)) 255, s0_1, wrap64 ((wrap64 (s0_2 * 6364136223846793005)) + 1442695040888963407)))
def spec_l01Below.f (s0_0 : List Int) (s0_1 : Int) (s0_2 : Int) (a1 : Int) : Option (Int × Int × Int) := if a1 ≤ 0 then (some (0, s0_1, s0_2)) else (if a1 ≤ 256 then ((spec_l01Byte.f s0_0 s0_1 s0_2).bind fun bt287 => (if a1 = 0 then (none) else (some (Int.tmod bt287.1 a1, bt287.2.1, bt287.2.2)))) else ((spec_l01Byte.f s0_0 s0_1 s0_2).bind fun bt290 => ((spec_l01Byte.f s0_0 bt290.2.1 bt290.2.2).bind fun bt293 => ((spec_l01Byte.f s0_0 bt293.2.1 bt293.2.2).bind fun bt296 => ((spec_l01Byte.f s0_0 bt296.2.1 bt296.2.2).bind fun bt299 => (if a1 = 0 then (none) else (some (Int.tmod (wrap64 ((wrap64 ((wrap64 ((wrap64 (bt290.1 * 16777216)) + (wrap64 (bt293.1 * 65536)))) + (wrap64 (bt296.1 * 256)))) + bt299.1)) a1, bt299.2.1, bt299.2.2))))))))
def spec_l01Once.f (s0_0 : List Int) (s0_1 : Int) (s0_2 : Int) (a1 : Int) : Option (Bool × Int × Int) := (spec_l01Below.f s0_0 s0_1 s0_2 a1).bind fun bt302 => (some ((bt302.1 == 0), bt302.2.1, bt302.2.2))
mutual
def spec_l04Distances.l0 : Nat → Int → List Int → Int → Int → Int → Int → Option (List Int)
  | 0, _, _, _, _, _, _ => none
  | k + 1, x1, x5, x6, x349000, x349001, x349002 => if x6 < (x5.length : Int) then (if 0 ≤ x6 then (spec_l04Distances.l0 k x1 (x5.set (x6 : Int).toNat (-1)) (wrap64 (x6 + 1)) x349000 x349001 x349002) else (none)) else (if 0 ≤ x1 then (if x1 < (x5.length : Int) then (spec_l04Distances.l1 k (x5.set (x1 : Int).toNat 0) (([x1] : List Int)) 0 x349000 x349001 x349002) else (none)) else (none))
def spec_l04Distances.l1 : Nat → List Int → List Int → Int → Int → Int → Int → Option (List Int)
  | 0, _, _, _, _, _, _ => none
  | k + 1, x5, x7, x8, x349000, x349001, x349002 => if x8 < (x7.length : Int) then (spec_l04Distances.l2 k x5 x7 x8 0 x349000 x349001 x349002) else (some x5)
def spec_l04Distances.l2 : Nat → List Int → List Int → Int → Int → Int → Int → Int → Option (List Int)
  | 0, _, _, _, _, _, _, _ => none
  | k + 1, x5, x7, x8, x9, x349000, x349001, x349002 => if x9 ≤ 3 then (if 0 ≤ x8 then (if x8 < (x7.length : Int) then ((spec_Step.f k x349000 x349001 x349002 (rd x7 x8) x9).bind fun t359 => (if t359 ≥ 0 then (if 0 ≤ t359 then (if t359 < (x5.length : Int) then (if (rd x5 t359) < 0 then (if 0 ≤ (rd x7 x8) then (if (rd x7 x8) < (x5.length : Int) then (if x7.length < 17592186044416 then (spec_l04Distances.l2 k (x5.set (t359 : Int).toNat (wrap64 ((rd x5 (rd x7 x8)) + 1))) (x7 ++ [t359]) x8 (wrap64 (x9 + 1)) x349000 x349001 x349002) else (none)) else (none)) else (none)) else (spec_l04Distances.l2 k x5 x7 x8 (wrap64 (x9 + 1)) x349000 x349001 x349002)) else (none)) else (none)) else (spec_l04Distances.l2 k x5 x7 x8 (wrap64 (x9 + 1)) x349000 x349001 x349002))) else (none)) else (none)) else (spec_l04Distances.l1 k x5 x7 (wrap64 (x8 + 1)) x349000 x349001 x349002)
end
def spec_l04Distances.f (k : Nat) (a0_0 : Int) (a0_1 : Int) (a0_2 : Int) (a1 : Int) : Option (List Int) := (spec_CountCells.f a0_0 a0_1).bind fun t349 => (if 0 ≤ t349 then (if (t349 : Int).toNat ≤ 35184372088832 then (spec_l04Distances.l0 k a1 (List.replicate (t349 : Int).toNat 0) 0 a0_0 a0_1 a0_2) else (none)) else (none))
theorem spec_l04Distances.mono_l : ∀ k, (∀ y0 y1 y2 y3 y4 y5, LeO (spec_l04Distances.l0 k y0 y1 y2 y3 y4 y5) (spec_l04Distances.l0 (k + 1) y0 y1 y2 y3 y4 y5)) ∧ (∀ y0 y1 y2 y3 y4 y5, LeO (spec_l04Distances.l1 k y0 y1 y2 y3 y4 y5) (spec_l04Distances.l1 (k + 1) y0 y1 y2 y3 y4 y5)) ∧ (∀ y0 y1 y2 y3 y4 y5 y6, LeO (spec_l04Distances.l2 k y0 y1 y2 y3 y4 y5 y6) (spec_l04Distances.l2 (k + 1) y0 y1 y2 y3 y4 y5 y6))
  | 0 => ⟨fun _ _ _ _ _ _ r h => by simp [spec_l04Distances.l0] at h, fun _ _ _ _ _ _ r h => by simp [spec_l04Distances.l1] at h, fun _ _ _ _ _ _ _ r h => by simp [spec_l04Distances.l2] at h⟩
  | k + 1 => by
    obtain ⟨ih0, ih1, ih2⟩ := spec_l04Distances.mono_l k
    refine ⟨?_, ?_, ?_⟩
    · intro y0 y1 y2 y3 y4 y5
      unfold spec_l04Distances.l0
      repeat' first
      | (with_reducible exact ih0 _ _ _ _ _ _)
      | (with_reducible exact ih1 _ _ _ _ _ _)
      | (with_reducible exact ih2 _ _ _ _ _ _ _)
      | (with_reducible exact spec_Step.mono _ _ _ _ _ _)
      | (with_reducible exact LeO.refl _)
      | (with_reducible exact LeO.none _)
      | (with_reducible refine LeO.ite ?_ ?_)
      | (with_reducible refine LeO.bind ?_ (fun _ => ?_))
      | exact ih0 _ _ _ _ _ _
      | exact ih1 _ _ _ _ _ _
      | exact ih2 _ _ _ _ _ _ _
      | exact spec_Step.mono _ _ _ _ _ _
      | exact LeO.none _
      | refine LeO.ite ?_ ?_
      | refine LeO.bind ?_ (fun _ => ?_)
    · intro y0 y1 y2 y3 y4 y5
      unfold spec_l04Distances.l1
      repeat' first
      | (with_reducible exact ih0 _ _ _ _ _ _)
      | (with_reducible exact ih1 _ _ _ _ _ _)
      | (with_reducible exact ih2 _ _ _ _ _ _ _)
      | (with_reducible exact spec_Step.mono _ _ _ _ _ _)
      | (with_reducible exact LeO.refl _)
      | (with_reducible exact LeO.none _)
      | (with_reducible refine LeO.ite ?_ ?_)
      | (with_reducible refine LeO.bind ?_ (fun _ => ?_))
      | exact ih0 _ _ _ _ _ _
      | exact ih1 _ _ _ _ _ _
      | exact ih2 _ _ _ _ _ _ _
      | exact spec_Step.mono _ _ _ _ _ _
      | exact LeO.none _
      | refine LeO.ite ?_ ?_
      | refine LeO.bind ?_ (fun _ => ?_)
    · intro y0 y1 y2 y3 y4 y5 y6
      unfold spec_l04Distances.l2
      repeat' first
      | (with_reducible exact ih0 _ _ _ _ _ _)
      | (with_reducible exact ih1 _ _ _ _ _ _)
      | (with_reducible exact ih2 _ _ _ _ _ _ _)
      | (with_reducible exact spec_Step.mono _ _ _ _ _ _)
      | (with_reducible exact LeO.refl _)
      | (with_reducible exact LeO.none _)
      | (with_reducible refine LeO.ite ?_ ?_)
      | (with_reducible refine LeO.bind ?_ (fun _ => ?_))
      | exact ih0 _ _ _ _ _ _
      | exact ih1 _ _ _ _ _ _
      | exact ih2 _ _ _ _ _ _ _
      | exact spec_Step.mono _ _ _ _ _ _
      | exact LeO.none _
      | refine LeO.ite ?_ ?_
      | refine LeO.bind ?_ (fun _ => ?_)
theorem spec_l04Distances.mono : ∀ a0 a1 a2 a3 k, LeO (spec_l04Distances.f k a0 a1 a2 a3) (spec_l04Distances.f (k + 1) a0 a1 a2 a3) := by
  intro a0 a1 a2 a3 k
  obtain ⟨ih0, ih1, ih2⟩ := spec_l04Distances.mono_l k
  unfold spec_l04Distances.f
  repeat' first
      | (with_reducible exact ih0 _ _ _ _ _ _)
      | (with_reducible exact ih1 _ _ _ _ _ _)
      | (with_reducible exact ih2 _ _ _ _ _ _ _)
      | (with_reducible exact spec_Step.mono _ _ _ _ _ _)
      | (with_reducible exact LeO.refl _)
      | (with_reducible exact LeO.none _)
      | (with_reducible refine LeO.ite ?_ ?_)
      | (with_reducible refine LeO.bind ?_ (fun _ => ?_))
      | exact ih0 _ _ _ _ _ _
      | exact ih1 _ _ _ _ _ _
      | exact ih2 _ _ _ _ _ _ _
      | exact spec_Step.mono _ _ _ _ _ _
      | exact LeO.none _
      | refine LeO.ite ?_ ?_
      | refine LeO.bind ?_ (fun _ => ?_)
def spec_Reached.l0 : Nat → List Int → List Int → Int → Option (List Int)
  | 0, _, _, _ => none
  | k + 1, x5, x6, x7 => if x7 < (x6.length : Int) then (if 0 ≤ x7 then (if (rd x6 x7) ≥ 0 then (if x5.length < 17592186044416 then (spec_Reached.l0 k (x5 ++ [x7]) x6 (wrap64 (x7 + 1))) else (none)) else (spec_Reached.l0 k x5 x6 (wrap64 (x7 + 1)))) else (none)) else (some x5)
def spec_Reached.f (k : Nat) (a0_0 : Int) (a0_1 : Int) (a0_2 : Int) (a1 : Int) : Option (List Int) := (some (([] : List Int) : List Int)).bind fun y368 => ((spec_l04Has.f a0_0 a0_1 a0_2 a1).bind fun t371 => (if t371 = true then ((spec_l04Distances.f k a0_0 a0_1 a0_2 a1).bind fun t372 => (spec_Reached.l0 k y368 t372 0)) else (some y368)))
theorem spec_Reached.mono_l : ∀ k, (∀ y0 y1 y2, LeO (spec_Reached.l0 k y0 y1 y2) (spec_Reached.l0 (k + 1) y0 y1 y2))
  | 0 => fun _ _ _ r h => by simp [spec_Reached.l0] at h
  | k + 1 => by
    have ih0 := spec_Reached.mono_l k
    · intro y0 y1 y2
      unfold spec_Reached.l0
      repeat' first
      | (with_reducible exact ih0 _ _ _)
      | (with_reducible exact spec_l04Distances.mono _ _ _ _ _)
      | (with_reducible exact LeO.refl _)
      | (with_reducible exact LeO.none _)
      | (with_reducible refine LeO.ite ?_ ?_)
      | (with_reducible refine LeO.bind ?_ (fun _ => ?_))
      | exact ih0 _ _ _
      | exact spec_l04Distances.mono _ _ _ _ _
      | exact LeO.none _
      | refine LeO.ite ?_ ?_
      | refine LeO.bind ?_ (fun _ => ?_)
theorem spec_Reached.mono : ∀ a0 a1 a2 a3 k, LeO (spec_Reached.f k a0 a1 a2 a3) (spec_Reached.f (k + 1) a0 a1 a2 a3) := by
  intro a0 a1 a2 a3 k
  have ih0 := spec_Reached.mono_l k
  unfold spec_Reached.f
  repeat' first
      | (with_reducible exact ih0 _ _ _)
      | (with_reducible exact spec_l04Distances.mono _ _ _ _ _)
      | (with_reducible exact LeO.refl _)
      | (with_reducible exact LeO.none _)
      | (with_reducible refine LeO.ite ?_ ?_)
      | (with_reducible refine LeO.bind ?_ (fun _ => ?_))
      | exact ih0 _ _ _
      | exact spec_l04Distances.mono _ _ _ _ _
      | exact LeO.none _
      | refine LeO.ite ?_ ?_
      | refine LeO.bind ?_ (fun _ => ?_)
mutual
def spec_CountParts.l0 : Nat → Int → Int → Int → Int → Int → Option (Int)
  | 0, _, _, _, _, _ => none
  | k + 1, x3, x4, x380000, x380001, x380002 => (spec_CountCells.f x380000 x380001).bind fun t380 => (if x4 < t380 then ((spec_MazeOk.f x380000 x380001 x380002).bind fun t381 => (spec_CountParts.j1 k x3 x4 t381 x380000 x380001 x380002)) else (spec_CountParts.j1 k x3 x4 false x380000 x380001 x380002))
def spec_CountParts.j1 : Nat → Int → Int → Bool → Int → Int → Int → Option (Int)
  | 0, _, _, _, _, _, _ => none
  | k + 1, x3, x4, x13, x380000, x380001, x380002 => if x13 = true then ((spec_Reached.f k x380000 x380001 x380002 x4).bind fun t382 => (if 0 < (t382.length : Int) then (if (rd t382 0) = x4 then (spec_CountParts.l0 k (wrap64 (x3 + 1)) (wrap64 (x4 + 1)) x380000 x380001 x380002) else (spec_CountParts.l0 k x3 (wrap64 (x4 + 1)) x380000 x380001 x380002)) else (none))) else (some x3)
end
def spec_CountParts.f (k : Nat) (a0_0 : Int) (a0_1 : Int) (a0_2 : Int) : Option (Int) := spec_CountParts.l0 k 0 0 a0_0 a0_1 a0_2
theorem spec_CountParts.mono_l : ∀ k, (∀ y0 y1 y2 y3 y4, LeO (spec_CountParts.l0 k y0 y1 y2 y3 y4) (spec_CountParts.l0 (k + 1) y0 y1 y2 y3 y4)) ∧ (∀ y0 y1 y2 y3 y4 y5, LeO (spec_CountParts.j1 k y0 y1 y2 y3 y4 y5) (spec_CountParts.j1 (k + 1) y0 y1 y2 y3 y4 y5))
  | 0 => ⟨fun _ _ _ _ _ r h => by simp [spec_CountParts.l0] at h, fun _ _ _ _ _ _ r h => by simp [spec_CountParts.j1] at h⟩
  | k + 1 => by
    obtain ⟨ih0, ih1⟩ := spec_CountParts.mono_l k
    refine ⟨?_, ?_⟩
    · intro y0 y1 y2 y3 y4
      unfold spec_CountParts.l0
      repeat' first
      | (with_reducible exact ih0 _ _ _ _ _)
      | (with_reducible exact ih1 _ _ _ _ _ _)
      | (with_reducible exact spec_Reached.mono _ _ _ _ _)
      | (with_reducible exact LeO.refl _)
      | (with_reducible exact LeO.none _)
      | (with_reducible refine LeO.ite ?_ ?_)
      | (with_reducible refine LeO.bind ?_ (fun _ => ?_))
      | exact ih0 _ _ _ _ _
      | exact ih1 _ _ _ _ _ _
      | exact spec_Reached.mono _ _ _ _ _
      | exact LeO.none _
      | refine LeO.ite ?_ ?_
      | refine LeO.bind ?_ (fun _ => ?_)
    · intro y0 y1 y2 y3 y4 y5
      unfold spec_CountParts.j1
      repeat' first
      | (with_reducible exact ih0 _ _ _ _ _)
      | (with_reducible exact ih1 _ _ _ _ _ _)
      | (with_reducible exact spec_Reached.mono _ _ _ _ _)
      | (with_reducible exact LeO.refl _)
      | (with_reducible exact LeO.none _)
      | (with_reducible refine LeO.ite ?_ ?_)
      | (with_reducible refine LeO.bind ?_ (fun _ => ?_))
      | exact ih0 _ _ _ _ _
      | exact ih1 _ _ _ _ _ _
      | exact spec_Reached.mono _ _ _ _ _
      | exact LeO.none _
      | refine LeO.ite ?_ ?_
      | refine LeO.bind ?_ (fun _ => ?_)
theorem spec_CountParts.mono : ∀ a0 a1 a2 k, LeO (spec_CountParts.f k a0 a1 a2) (spec_CountParts.f (k + 1) a0 a1 a2) := by
  intro a0 a1 a2 k
  obtain ⟨ih0, ih1⟩ := spec_CountParts.mono_l k
  unfold spec_CountParts.f
  repeat' first
      | (with_reducible exact ih0 _ _ _ _ _)
      | (with_reducible exact ih1 _ _ _ _ _ _)
      | (with_reducible exact spec_Reached.mono _ _ _ _ _)
      | (with_reducible exact LeO.refl _)
      | (with_reducible exact LeO.none _)
      | (with_reducible refine LeO.ite ?_ ?_)
      | (with_reducible refine LeO.bind ?_ (fun _ => ?_))
      | exact ih0 _ _ _ _ _
      | exact ih1 _ _ _ _ _ _
      | exact spec_Reached.mono _ _ _ _ _
      | exact LeO.none _
      | refine LeO.ite ?_ ?_
      | refine LeO.bind ?_ (fun _ => ?_)
def spec_SetGap.j0 : Nat → Int → Bool → Bool → Int → Int → Int → Option (Int × Int × Int × Bool)
  | 0, _, _, _, _, _, _ => none
  | k + 1, x1, x2, x19, x389000, x389001, x389002 => if x19 = true then (some (x389000, x389001, x389002, false)) else ((spec_l03Bit.f x389002 x1).bind fun t393 => (if (t393 != x2) = true then (if 0 ≤ x1 then (some (x389000, x389001, Go.bits .xor .i64 x389002 (shl .i64 1 x1), true)) else (none)) else (some (x389000, x389001, x389002, true))))
def spec_SetGap.f (k : Nat) (a0_0 : Int) (a0_1 : Int) (a0_2 : Int) (a1 : Int) (a2 : Bool) : Option (Int × Int × Int × Bool) := (spec_MazeOk.f a0_0 a0_1 a0_2).bind fun t390 => (if t390 = true then ((spec_CountGaps.f a0_0 a0_1).bind fun t391 => ((spec_l01In.f a1 0 (wrap64 (t391 - 1))).bind fun t392 => (spec_SetGap.j0 k a1 a2 (!t392) a0_0 a0_1 a0_2))) else (spec_SetGap.j0 k a1 a2 true a0_0 a0_1 a0_2))
end Go.Proofs.YtdjdleldocfpaaaDoor.F
end

section
namespace Go.Proofs.YtdjdleldocfpaaaDoor.F
open Go.RowKit Go.Proofs.YtdjdleldocfpaaaDoorW.PrintWords Go.Proofs.YtdjdleldocfpaaaDoorW.PrintLast Go.Proofs.YtdjdleldocfpaaaDoorW.PrintMore
set_option linter.unusedVariables false
set_option linter.unusedSimpArgs false
def slices_Clone_int.f (l0 : List Int) : Option (List Int) := if l0.length < 17592186044416 then some l0 else none
def impl_GridOk.f (a0_0 : Int) (a0_1 : Int) : Option (Bool) := if a0_0 ≥ 1 then (if a0_0 ≤ 4 then (if a0_1 ≥ 1 then (some (decide (a0_1 ≤ 4))) else (some false)) else (some false)) else (some false)
def impl_CountGaps.f (a0_0 : Int) (a0_1 : Int) : Option (Int) := (impl_GridOk.f a0_0 a0_1).bind fun t952 => (if t952 = true then (some (wrap64 ((wrap64 ((wrap64 (a0_0 - 1)) * a0_1)) + (wrap64 (a0_0 * (wrap64 (a0_1 - 1))))))) else (some 0))
def impl_MazeOk.f (a0_0 : Int) (a0_1 : Int) (a0_2 : Int) : Option (Bool) := (impl_GridOk.f a0_0 a0_1).bind fun t954 => (if t954 = true then (if a0_2 ≥ 0 then ((impl_CountGaps.f a0_0 a0_1).bind fun t955 => (if 0 ≤ t955 then (some (decide (a0_2 < (shl .i64 1 t955)))) else (none))) else (some false)) else (some false))
def impl_CountCells.f (a0_0 : Int) (a0_1 : Int) : Option (Int) := (impl_GridOk.f a0_0 a0_1).bind fun t957 => (if t957 = true then (some (wrap64 (a0_0 * a0_1))) else (some 0))
def impl_isCell.f (a0_0 : Int) (a0_1 : Int) (a1 : Int) : Option (Bool) := if a1 ≥ 0 then ((impl_CountCells.f a0_0 a0_1).bind fun t959 => (some (decide (a1 < t959)))) else (some false)
def impl_isIn.f (a0_0 a0_1 a0_2 : Int) (l1 : List Int) : Option Bool := (impl_MazeOk.f a0_0 a0_1 a0_2).bind fun b => if b = true then (allO (fun x => impl_isCell.f a0_0 a0_1 x) l1) else some false
def impl_ordered.f (l0 : List Int) : Option (List Int) := if l0.length < 4611686018427387904 then some (Go.Lib.compact (l0.mergeSort fun x y => decide (x ≤ y))) else none
def impl_IsSimple.f (l0 : List Int) : Option (Bool) := (slices_Clone_int.f l0).bind fun t1 => ((impl_ordered.f t1).bind fun t2 => (some ((t2.length : Int) == (l0.length : Int))))
def impl_CrowdOk.f (a0_0 : Int) (a0_1 : Int) (a0_2 : Int) (l1 : List Int) : Option (Bool) := if (l1.length : Int) ≤ 6 then ((impl_isIn.f a0_0 a0_1 a0_2 l1).bind fun t1095 => (if t1095 = true then ((impl_IsSimple.f l1).bind fun t1096 => (some t1096)) else (some false))) else (some false)
def impl_isOpen.f (a0_0 : Int) (a0_1 : Int) (a0_2 : Int) (a1 : Int) : Option (Bool) := if a1 ≥ 0 then (if 0 ≤ a1 then (some ((Go.bits .and .i64 (shr .i64 a0_2 a1) 1) == 1)) else (none)) else (some false)
mutual
def impl_Neighbor.j0 : Nat → Int → Int → Int → Int → Bool → Int → Int → Option (Int)
  | 0, _, _, _, _, _, _, _ => none
  | k + 1, x1, x2, x7, x8, x21, x1099000, x1099001 => if x21 = true then (some (wrap64 (x1 - x1099000))) else (if x2 = 1 then (impl_Neighbor.j1 k x1 x2 x7 x8 (decide (x7 < (wrap64 (x1099000 - 1)))) x1099000 x1099001) else (impl_Neighbor.j1 k x1 x2 x7 x8 false x1099000 x1099001))
def impl_Neighbor.j1 : Nat → Int → Int → Int → Int → Bool → Int → Int → Option (Int)
  | 0, _, _, _, _, _, _, _ => none
  | k + 1, x1, x2, x7, x8, x32, x1099000, x1099001 => if x32 = true then (some (wrap64 (x1 + 1))) else (if x2 = 2 then (impl_Neighbor.j2 k x1 x2 x7 (decide (x8 < (wrap64 (x1099001 - 1)))) x1099000 x1099001) else (impl_Neighbor.j2 k x1 x2 x7 false x1099000 x1099001))
def impl_Neighbor.j2 : Nat → Int → Int → Int → Bool → Int → Int → Option (Int)
  | 0, _, _, _, _, _, _ => none
  | k + 1, x1, x2, x7, x44, x1099000, x1099001 => if x44 = true then (some (wrap64 (x1 + x1099000))) else (if x2 = 3 then (if x7 > 0 then (some (wrap64 (x1 - 1))) else (some (-1))) else (some (-1)))
end
def impl_Neighbor.f (k : Nat) (a0_0 : Int) (a0_1 : Int) (a1 : Int) (a2 : Int) : Option (Int) := (impl_isCell.f a0_0 a0_1 a1).bind fun t1099 => (if t1099 = true then (if a0_0 = 0 then (none) else (if a2 = 0 then (impl_Neighbor.j0 k a1 a2 (Int.tmod a1 a0_0) (wrap64 (Int.tdiv a1 a0_0)) (decide ((wrap64 (Int.tdiv a1 a0_0)) > 0)) a0_0 a0_1) else (impl_Neighbor.j0 k a1 a2 (Int.tmod a1 a0_0) (wrap64 (Int.tdiv a1 a0_0)) false a0_0 a0_1))) else (some (-1)))
def impl_GapAt.f (k : Nat) (a0_0 : Int) (a0_1 : Int) (a1 : Int) (a2 : Int) : Option (Int) := (impl_Neighbor.f k a0_0 a0_1 a1 a2).bind fun t1101 => (if t1101 < 0 then (some (-1)) else (if a2 = 1 then (if a0_0 = 0 then (none) else (some (wrap64 ((wrap64 ((wrap64 (Int.tdiv (mn a1 t1101) a0_0)) * (wrap64 (a0_0 - 1)))) + (Int.tmod (mn a1 t1101) a0_0))))) else (if a2 = 3 then (if a0_0 = 0 then (none) else (some (wrap64 ((wrap64 ((wrap64 (Int.tdiv (mn a1 t1101) a0_0)) * (wrap64 (a0_0 - 1)))) + (Int.tmod (mn a1 t1101) a0_0))))) else (some (wrap64 ((wrap64 ((wrap64 (a0_0 - 1)) * a0_1)) + (mn a1 t1101)))))))
def impl_Step.f (k : Nat) (a0_0 : Int) (a0_1 : Int) (a0_2 : Int) (a1 : Int) (a2 : Int) : Option (Int) := (impl_MazeOk.f a0_0 a0_1 a0_2).bind fun t1103 => (if t1103 = true then ((impl_GapAt.f k a0_0 a0_1 a1 a2).bind fun t1104 => ((impl_isOpen.f a0_0 a0_1 a0_2 t1104).bind fun t1105 => (if t1105 = true then ((impl_Neighbor.f k a0_0 a0_1 a1 a2).bind fun t1106 => (some t1106)) else (some (-1))))) else (some (-1)))
def slices_Index_int.l0 : Nat → List Int → Int → Int → Int → Option (Int)
  | 0, _, _, _, _ => none
  | k + 1, x0, x1, x7, x8 => if x8 < x7 then (if 0 ≤ x8 then (if x8 < (x0.length : Int) then (if x1 = (rd x0 x8) then (some x8) else (slices_Index_int.l0 k x0 x1 x7 (wrap64 (x8 + 1)))) else (none)) else (none)) else (some (-1))
def slices_Index_int.f (k : Nat) (l0 : List Int) (a1 : Int) : Option (Int) := slices_Index_int.l0 k l0 a1 (l0.length : Int) 0
def slices_Contains_int.f (k : Nat) (l0 : List Int) (a1 : Int) : Option (Bool) := (slices_Index_int.f k l0 a1).bind fun t1108 => (some (decide (t1108 ≥ 0)))
def impl_MoveOne.j0 : Nat → List Int → Int → Int → List Int → Bool → Int → Int → Int → Option (List Int × Bool)
  | 0, _, _, _, _, _, _, _, _ => none
  | k + 1, x1, x2, x3, x10, x27, x1110000, x1110001, x1110002 => if x27 = true then (some (x10, false)) else (if 0 ≤ x2 then (if x2 < (x1.length : Int) then ((impl_Step.f k x1110000 x1110001 x1110002 (rd x1 x2) x3).bind fun t1115 => (if t1115 < 0 then (some (x10, false)) else ((slices_Contains_int.f k x1 t1115).bind fun t1116 => (if t1116 = true then (some (x10, false)) else (if x2 < (x10.length : Int) then (some ((x10.set (x2 : Int).toNat t1115), true)) else (none)))))) else (none)) else (none))
def impl_MoveOne.f (k : Nat) (a0_0 : Int) (a0_1 : Int) (a0_2 : Int) (l1 : List Int) (a2 : Int) (a3 : Int) : Option (List Int × Bool) := (slices_Clone_int.f l1).bind fun t1110 => ((impl_CrowdOk.f a0_0 a0_1 a0_2 l1).bind fun t1113 => (if t1113 = true then (if a2 < 0 then (impl_MoveOne.j0 k l1 a2 a3 t1110 true a0_0 a0_1 a0_2) else (impl_MoveOne.j0 k l1 a2 a3 t1110 (decide (a2 ≥ (l1.length : Int))) a0_0 a0_1 a0_2)) else (impl_MoveOne.j0 k l1 a2 a3 t1110 true a0_0 a0_1 a0_2)))
def impl_keyOf.l0 : Nat → ByteArray → List Int → Int → Int → Option (ByteArray)
  | 0, _, _, _, _ => none
  | k + 1, x3, x6, x7, x8 => if x8 < x7 then (if 0 ≤ x8 then (if x8 < (x6.length : Int) then ((impl_FormatInt.f (rd x6 x8)).bind fun t1119 => (if t1119.size + 1 ≤ 9223372036854775807 then (if x3.size + (t1119 ++ (⟨#[32]⟩ : ByteArray)).size ≤ 9223372036854775807 then (impl_keyOf.l0 k (x3 ++ (t1119 ++ (⟨#[32]⟩ : ByteArray))) x6 x7 (wrap64 (x8 + 1))) else (none)) else (none))) else (none)) else (none)) else (some x3)
def impl_keyOf.f (k : Nat) (l0 : List Int) : Option (ByteArray) := impl_keyOf.l0 k (⟨#[]⟩ : ByteArray) l0 (l0.length : Int) 0
def impl_lists.l1 (w h o : Int) (V : List Int) : Nat → Nat → List (List Int) → List ByteArray → Option (List (List Int) × List ByteArray)
  | 0, _, Q, K => some (Q, K)
  | r + 1, i, Q, K => (impl_MoveOne.f 1000 w h o V ((i / 4 : Nat) : Int) ((i % 4 : Nat) : Int)).bind fun m => if m.2 = true then (impl_keyOf.f 1000 m.1).bind fun s => if s.size ≤ 1000 then (if (K.any fun z => z.data.toList == s.data.toList) = true then impl_lists.l1 w h o V r (i + 1) Q K else if K.length < 100000 ∧ Q.length < 100000 then impl_lists.l1 w h o V r (i + 1) (Q ++ [m.1]) (K ++ [s]) else none) else none else impl_lists.l1 w h o V r (i + 1) Q K
def impl_lists.l0 (w h o : Int) (n : Nat) : Nat → List (List Int) → List ByteArray → Option (List ByteArray)
  | 0, _, _ => none
  | k + 1, [], K => some K
  | k + 1, V :: Q, K => (impl_lists.l1 w h o V n 0 (V :: Q) K).bind fun r => impl_lists.l0 w h o n k r.1.tail r.2
def impl_lists.f (a0_0 a0_1 a0_2 : Int) (l1 : List Int) : Option (List ByteArray) := (impl_CrowdOk.f a0_0 a0_1 a0_2 l1).bind fun b => if b = true then (if l1.length ≤ 3 then (impl_CountCells.f a0_0 a0_1).bind fun n => if n > 9 then some [] else (impl_keyOf.f 1000 l1).bind fun s => if s.size ≤ 1000 then impl_lists.l0 a0_0 a0_1 a0_2 (4 * l1.length) 8200 [l1] [s] else none else some []) else some []
def impl_CanSwap.j0 : Nat → List Int → Int → Int → Bool → Int → Int → Int → Option (Bool)
  | 0, _, _, _, _, _, _, _ => none
  | k + 1, x1, x2, x3, x32, x407000, x407001, x407002 => if x32 = true then (some false) else ((slices_Clone_int.f x1).bind fun t407 => (if 0 ≤ x3 then (if x3 < (x1.length : Int) then (if 0 ≤ x2 then (if x2 < (x1.length : Int) then (if x2 < (t407.length : Int) then (if x3 < (t407.length : Int) then ((impl_lists.f x407000 x407001 x407002 x1).bind fun t414 => ((impl_keyOf.f k ((t407.set (x2 : Int).toNat (rd x1 x3)).set (x3 : Int).toNat (rd x1 x2))).bind fun t415 => (if t415.size ≤ 281474976710656 then (some (t414.any fun z => z.data.toList == t415.data.toList)) else (none)))) else (none)) else (none)) else (none)) else (none)) else (none)) else (none)))
def impl_CanSwap.f (k : Nat) (a0_0 : Int) (a0_1 : Int) (a0_2 : Int) (l1 : List Int) (a2 : Int) (a3 : Int) : Option (Bool) := if a2 = a3 then (impl_CanSwap.j0 k l1 a2 a3 true a0_0 a0_1 a0_2) else (if a2 < 0 then (impl_CanSwap.j0 k l1 a2 a3 true a0_0 a0_1 a0_2) else (if a2 ≥ (l1.length : Int) then (impl_CanSwap.j0 k l1 a2 a3 true a0_0 a0_1 a0_2) else (if a3 < 0 then (impl_CanSwap.j0 k l1 a2 a3 true a0_0 a0_1 a0_2) else (impl_CanSwap.j0 k l1 a2 a3 (decide (a3 ≥ (l1.length : Int))) a0_0 a0_1 a0_2))))
end Go.Proofs.YtdjdleldocfpaaaDoor.F
end

section
namespace Go.Proofs.YtdjdleldocfpaaaDoor.F
open Go.RowKit Go.Proofs.YtdjdleldocfpaaaDoorW.PrintWords Go.Proofs.YtdjdleldocfpaaaDoorW.PrintLast Go.Proofs.YtdjdleldocfpaaaDoorW.PrintMore
set_option linter.unusedVariables false
set_option linter.unusedSimpArgs false
def spec_l03Common.l0 : Nat → Int → Int → Option (Bool)
  | 0, _, _ => none
  | k + 1, x0, x1 => if x1 > 0 then (if x1 = 0 then (none) else (spec_l03Common.l0 k x1 (Int.tmod x0 x1))) else (some (decide (x0 > 1)))
def spec_l03Common.f (k : Nat) (a0 : Int) (a1 : Int) : Option (Bool) := spec_l03Common.l0 k a0 a1
theorem spec_l03Common.mono_l : ∀ k, (∀ y0 y1, LeO (spec_l03Common.l0 k y0 y1) (spec_l03Common.l0 (k + 1) y0 y1))
  | 0 => fun _ _ r h => by simp [spec_l03Common.l0] at h
  | k + 1 => by
    have ih0 := spec_l03Common.mono_l k
    · intro y0 y1
      unfold spec_l03Common.l0
      repeat' first
      | (with_reducible exact ih0 _ _)
      | (with_reducible exact LeO.refl _)
      | (with_reducible exact LeO.none _)
      | (with_reducible refine LeO.ite ?_ ?_)
      | (with_reducible refine LeO.bind ?_ (fun _ => ?_))
      | exact ih0 _ _
      | exact LeO.none _
      | refine LeO.ite ?_ ?_
      | refine LeO.bind ?_ (fun _ => ?_)
theorem spec_l03Common.mono : ∀ a0 a1 k, LeO (spec_l03Common.f k a0 a1) (spec_l03Common.f (k + 1) a0 a1) := by
  intro a0 a1 k
  have ih0 := spec_l03Common.mono_l k
  unfold spec_l03Common.f
  repeat' first
      | (with_reducible exact ih0 _ _)
      | (with_reducible exact LeO.refl _)
      | (with_reducible exact LeO.none _)
      | (with_reducible refine LeO.ite ?_ ?_)
      | (with_reducible refine LeO.bind ?_ (fun _ => ?_))
      | exact ih0 _ _
      | exact LeO.none _
      | refine LeO.ite ?_ ?_
      | refine LeO.bind ?_ (fun _ => ?_)
def spec_EndsOf.f (a0_0 : Int) (a0_1 : Int) (a1 : Int) : Option (Int × Int) := (spec_CountGaps.f a0_0 a0_1).bind fun t1142 => ((spec_l01In.f a1 0 (wrap64 (t1142 - 1))).bind fun t1143 => (if t1143 = true then ((spec_l02East.f a0_0 a0_1).bind fun t1144 => (if a1 < t1144 then (if (wrap64 (a0_0 - 1)) = 0 then (none) else (some (wrap64 ((wrap64 ((wrap64 (Int.tdiv a1 (wrap64 (a0_0 - 1)))) * a0_0)) + (Int.tmod a1 (wrap64 (a0_0 - 1)))), wrap64 ((wrap64 ((wrap64 ((wrap64 (Int.tdiv a1 (wrap64 (a0_0 - 1)))) * a0_0)) + (Int.tmod a1 (wrap64 (a0_0 - 1))))) + 1)))) else ((spec_l02East.f a0_0 a0_1).bind fun t1145 => (some (wrap64 (a1 - t1145), wrap64 ((wrap64 (a1 - t1145)) + a0_0)))))) else (some ((-1), (-1)))))
mutual
def spec_l03Tree.l0 : Nat → Int → List Int → Int → List Int → Int → Int → Int → Int → Int → Int → Int → Option (Int × Int × Int × Int × Int)
  | 0, _, _, _, _, _, _, _, _, _, _, _ => none
  | k + 1, x6, x7, x8, x1000, x1001, x1002, x1147000, x1147001, x1149000, x1149001, x1149002 => if x8 < (x7.length : Int) then (if 0 ≤ x8 then (spec_l03Tree.l0 k x6 (x7.set (x8 : Int).toNat x8) (wrap64 (x8 + 1)) x1000 x1001 x1002 x1147000 x1147001 x1149000 x1149001 x1149002) else (none)) else (if x6 = 0 then (some (x1149000, x1149001, x1149002, x1001, x1002)) else ((spec_l01Below.f x1000 x1001 x1002 x6).bind fun bt1155 => ((spec_l01Below.f x1000 bt1155.2.1 bt1155.2.2 x6).bind fun bt1158 => (spec_l03Tree.l1 k x6 x7 bt1155.1 (wrap64 (1 + bt1158.1)) x1000 bt1158.2.1 bt1158.2.2 x1147000 x1147001 x1149000 x1149001 x1149002))))
def spec_l03Tree.l1 : Nat → Int → List Int → Int → Int → List Int → Int → Int → Int → Int → Int → Int → Int → Option (Int × Int × Int × Int × Int)
  | 0, _, _, _, _, _, _, _, _, _, _, _, _ => none
  | k + 1, x6, x7, x9, x10, x1000, x1001, x1002, x1147000, x1147001, x1149000, x1149001, x1149002 => (spec_l03Common.f k x10 x6).bind fun t1161 => (if t1161 = true then (spec_l03Tree.l1 k x6 x7 x9 (wrap64 (x10 + 1)) x1000 x1001 x1002 x1147000 x1147001 x1149000 x1149001 x1149002) else (spec_l03Tree.l2 k x6 x7 x9 x10 0 x1000 x1001 x1002 x1147000 x1147001 x1149000 x1149001 x1149002))
def spec_l03Tree.l2 : Nat → Int → List Int → Int → Int → Int → List Int → Int → Int → Int → Int → Int → Int → Int → Option (Int × Int × Int × Int × Int)
  | 0, _, _, _, _, _, _, _, _, _, _, _, _, _ => none
  | k + 1, x6, x7, x9, x10, x11, x1000, x1001, x1002, x1147000, x1147001, x1149000, x1149001, x1149002 => if x11 < x6 then (if x6 = 0 then (none) else ((spec_EndsOf.f x1147000 x1147001 (Int.tmod (wrap64 (x9 + (wrap64 (x11 * x10)))) x6)).bind fun bt1162 => (if 0 ≤ bt1162.1 then (if bt1162.1 < (x7.length : Int) then (if 0 ≤ bt1162.2 then (if bt1162.2 < (x7.length : Int) then (if (rd x7 bt1162.1) = (rd x7 bt1162.2) then (spec_l03Tree.l2 k x6 x7 x9 x10 (wrap64 (x11 + 1)) x1000 x1001 x1002 x1147000 x1147001 x1149000 x1149001 x1149002) else (if 0 ≤ (Int.tmod (wrap64 (x9 + (wrap64 (x11 * x10)))) x6) then (spec_l03Tree.l3 k x6 x7 x9 x10 x11 bt1162.1 (rd x7 bt1162.2) 0 x1000 x1001 x1002 x1147000 x1147001 x1149000 x1149001 (Go.bits .or .i64 x1149002 (shl .i64 1 (Int.tmod (wrap64 (x9 + (wrap64 (x11 * x10)))) x6)))) else (none))) else (none)) else (none)) else (none)) else (none)))) else (some (x1149000, x1149001, x1149002, x1001, x1002))
def spec_l03Tree.l3 : Nat → Int → List Int → Int → Int → Int → Int → Int → Int → List Int → Int → Int → Int → Int → Int → Int → Int → Option (Int × Int × Int × Int × Int)
  | 0, _, _, _, _, _, _, _, _, _, _, _, _, _, _, _, _ => none
  | k + 1, x6, x7, x9, x10, x11, x13, x15, x16, x1000, x1001, x1002, x1147000, x1147001, x1149000, x1149001, x1149002 => if x16 < (x7.length : Int) then (if 0 ≤ x16 then (if (rd x7 x16) = x15 then (if 0 ≤ x13 then (if x13 < (x7.length : Int) then (spec_l03Tree.l3 k x6 (x7.set (x16 : Int).toNat (rd x7 x13)) x9 x10 x11 x13 x15 (wrap64 (x16 + 1)) x1000 x1001 x1002 x1147000 x1147001 x1149000 x1149001 x1149002) else (none)) else (none)) else (spec_l03Tree.l3 k x6 x7 x9 x10 x11 x13 x15 (wrap64 (x16 + 1)) x1000 x1001 x1002 x1147000 x1147001 x1149000 x1149001 x1149002)) else (none)) else (spec_l03Tree.l2 k x6 x7 x9 x10 (wrap64 (x11 + 1)) x1000 x1001 x1002 x1147000 x1147001 x1149000 x1149001 x1149002)
end
def spec_l03Tree.f (k : Nat) (s0_0 : List Int) (s0_1 : Int) (s0_2 : Int) (a1_0 : Int) (a1_1 : Int) : Option (Int × Int × Int × Int × Int) := (spec_CountGaps.f a1_0 a1_1).bind fun t1149 => ((spec_CountCells.f a1_0 a1_1).bind fun t1150 => (if 0 ≤ t1150 then (if (t1150 : Int).toNat ≤ 35184372088832 then (spec_l03Tree.l0 k t1149 (List.replicate (t1150 : Int).toNat 0) 0 s0_0 s0_1 s0_2 a1_0 a1_1 a1_0 a1_1 0) else (none)) else (none)))
mutual
def spec_l31Crowd.j0 : Nat → Int → Bool → List Int → Int → Int → Int → Int → Int → Int → Int → Option (Int × Int × Int × List Int × Int × Int)
  | 0, _, _, _, _, _, _, _, _, _, _ => none
  | k + 1, x1, x28, x1000, x1001, x1002, x1178000, x1178001, x1184000, x1184001, x1184002 => if x28 = true then ((spec_CountGaps.f x1178000 x1178001).bind fun t1188 => ((spec_l01Below.f x1000 x1001 x1002 t1188).bind fun bt1189 => ((spec_SetGap.f k x1184000 x1184001 x1184002 bt1189.1 true).bind fun bt1192 => (spec_l31Crowd.j1 k x1 x1000 bt1189.2.1 bt1189.2.2 x1178000 x1178001 bt1192.1 bt1192.2.1 bt1192.2.2.1)))) else (spec_l31Crowd.j1 k x1 x1000 x1001 x1002 x1178000 x1178001 x1184000 x1184001 x1184002)
def spec_l31Crowd.j1 : Nat → Int → List Int → Int → Int → Int → Int → Int → Int → Int → Option (Int × Int × Int × List Int × Int × Int)
  | 0, _, _, _, _, _, _, _, _, _ => none
  | k + 1, x1, x1000, x1001, x1002, x1178000, x1178001, x1184000, x1184001, x1184002 => (spec_l01Below.f x1000 x1001 x1002 (wrap64 (x1 + 1))).bind fun bt1199 => (spec_l31Crowd.l0 k (([] : List Int)) bt1199.1 0 x1000 bt1199.2.1 bt1199.2.2 x1178000 x1178001 x1184000 x1184001 x1184002)
def spec_l31Crowd.l0 : Nat → List Int → Int → Int → List Int → Int → Int → Int → Int → Int → Int → Int → Option (Int × Int × Int × List Int × Int × Int)
  | 0, _, _, _, _, _, _, _, _, _, _, _ => none
  | k + 1, x8, x9, x10, x1000, x1001, x1002, x1178000, x1178001, x1184000, x1184001, x1184002 => if x10 < x9 then ((spec_CountCells.f x1178000 x1178001).bind fun t1202 => ((spec_l01Below.f x1000 x1001 x1002 t1202).bind fun bt1203 => ((spec_l07In.f k x8 bt1203.1).bind fun t1206 => (if t1206 = true then (spec_l31Crowd.l0 k x8 x9 (wrap64 (x10 + 1)) x1000 bt1203.2.1 bt1203.2.2 x1178000 x1178001 x1184000 x1184001 x1184002) else (if x8.length < 17592186044416 then (spec_l31Crowd.l0 k (x8 ++ [bt1203.1]) x9 (wrap64 (x10 + 1)) x1000 bt1203.2.1 bt1203.2.2 x1178000 x1178001 x1184000 x1184001 x1184002) else (none)))))) else (some (x1184000, x1184001, x1184002, x8, x1001, x1002))
end
def spec_l31Crowd.f (k : Nat) (s0_0 : List Int) (s0_1 : Int) (s0_2 : Int) (a1 : Int) : Option (Int × Int × Int × List Int × Int × Int) := (spec_l01Below.f s0_0 s0_1 s0_2 3).bind fun bt1171 => ((spec_l01Below.f s0_0 bt1171.2.1 bt1171.2.2 3).bind fun bt1174 => ((spec_l03Tree.f k s0_0 bt1174.2.1 bt1174.2.2 (wrap64 (1 + bt1171.1)) (wrap64 (1 + bt1174.1))).bind fun bt1178 => ((spec_CountGaps.f (wrap64 (1 + bt1171.1)) (wrap64 (1 + bt1174.1))).bind fun t1184 => (if t1184 > 0 then ((spec_l01Once.f s0_0 bt1178.2.2.2.1 bt1178.2.2.2.2 2).bind fun bt1185 => (spec_l31Crowd.j0 k a1 bt1185.1 s0_0 bt1185.2.1 bt1185.2.2 (wrap64 (1 + bt1171.1)) (wrap64 (1 + bt1174.1)) bt1178.1 bt1178.2.1 bt1178.2.2.1)) else (spec_l31Crowd.j0 k a1 false s0_0 bt1178.2.2.2.1 bt1178.2.2.2.2 (wrap64 (1 + bt1171.1)) (wrap64 (1 + bt1174.1)) bt1178.1 bt1178.2.1 bt1178.2.2.1)))))
def spec_DrawCrowd.f (k : Nat) (l0 : List Int) : Option (Int × Int × Int × List Int) := (spec_l01New.f k l0).bind fun bt1211 => ((spec_l31Crowd.f k bt1211.1 bt1211.2.1 bt1211.2.2 3).bind fun bt1215 => (some (bt1215.1, bt1215.2.1, bt1215.2.2.1, bt1215.2.2.2.1)))
def impl_CountReached.f (a0_0 a0_1 a0_2 : Int) (l1 : List Int) : Option Int := (impl_lists.f a0_0 a0_1 a0_2 l1).bind fun K => if K.length ≤ 100001 then some (K.length : Int) else none
def impl_FreeNeighbors.l0 : Nat → List Int → Int → List Int → Int → Int → Int → Int → Option (List Int)
  | 0, _, _, _, _, _, _, _ => none
  | k + 1, x1, x2, x7, x8, x1225000, x1225001, x1225002 => if x8 ≤ 3 then ((impl_MoveOne.f k x1225000 x1225001 x1225002 x1 x2 x8).bind fun bt1225 => (if bt1225.2 = true then (if x7.length < 17592186044416 then (impl_FreeNeighbors.l0 k x1 x2 (x7 ++ [x8]) (wrap64 (x8 + 1)) x1225000 x1225001 x1225002) else (none)) else (impl_FreeNeighbors.l0 k x1 x2 x7 (wrap64 (x8 + 1)) x1225000 x1225001 x1225002))) else (some x7)
def impl_FreeNeighbors.f (k : Nat) (a0_0 : Int) (a0_1 : Int) (a0_2 : Int) (l1 : List Int) (a2 : Int) : Option (List Int) := impl_FreeNeighbors.l0 k l1 a2 ([] : List Int) 0 a0_0 a0_1 a0_2
def laws_sameInts.l0 : Nat → List Int → List Int → Int → Option (Bool)
  | 0, _, _, _ => none
  | k + 1, x0, x1, x5 => if x5 < (x0.length : Int) then (if 0 ≤ x5 then (if x5 < (x1.length : Int) then (if (rd x0 x5) = (rd x1 x5) then (laws_sameInts.l0 k x0 x1 (wrap64 (x5 + 1))) else (some false)) else (none)) else (none)) else (some true)
def laws_sameInts.f (k : Nat) (l0 : List Int) (l1 : List Int) : Option (Bool) := if (l0.length : Int) = (l1.length : Int) then (laws_sameInts.l0 k l0 l1 0) else (some false)
def spec_WaysFrom.l0 : Nat → Int → List Int → Int → Int → Int → Int → Option (List Int)
  | 0, _, _, _, _, _, _ => none
  | k + 1, x1, x5, x6, x1235000, x1235001, x1235002 => if x6 ≤ 3 then ((spec_Step.f k x1235000 x1235001 x1235002 x1 x6).bind fun t1238 => (if t1238 ≥ 0 then (if x5.length < 17592186044416 then (spec_WaysFrom.l0 k x1 (x5 ++ [x6]) (wrap64 (x6 + 1)) x1235000 x1235001 x1235002) else (none)) else (spec_WaysFrom.l0 k x1 x5 (wrap64 (x6 + 1)) x1235000 x1235001 x1235002))) else (some x5)
def spec_WaysFrom.f (k : Nat) (a0_0 : Int) (a0_1 : Int) (a0_2 : Int) (a1 : Int) : Option (List Int) := spec_WaysFrom.l0 k a1 (([] : List Int)) 0 a0_0 a0_1 a0_2
mutual
def spec_Junctions.l0 : Nat → List Int → Int → Int → Int → Int → Option (List Int)
  | 0, _, _, _, _, _ => none
  | k + 1, x3, x4, x1243000, x1243001, x1243002 => (spec_CountCells.f x1243000 x1243001).bind fun t1246 => (if x4 < t1246 then ((spec_MazeOk.f x1243000 x1243001 x1243002).bind fun t1247 => (spec_Junctions.j1 k x3 x4 t1247 x1243000 x1243001 x1243002)) else (spec_Junctions.j1 k x3 x4 false x1243000 x1243001 x1243002))
def spec_Junctions.j1 : Nat → List Int → Int → Bool → Int → Int → Int → Option (List Int)
  | 0, _, _, _, _, _, _ => none
  | k + 1, x3, x4, x14, x1243000, x1243001, x1243002 => if x14 = true then ((spec_WaysFrom.f k x1243000 x1243001 x1243002 x4).bind fun t1248 => (if (t1248.length : Int) ≥ 3 then (if x3.length < 17592186044416 then (spec_Junctions.l0 k (x3 ++ [x4]) (wrap64 (x4 + 1)) x1243000 x1243001 x1243002) else (none)) else (spec_Junctions.l0 k x3 (wrap64 (x4 + 1)) x1243000 x1243001 x1243002))) else (some x3)
end
def spec_Junctions.f (k : Nat) (a0_0 : Int) (a0_1 : Int) (a0_2 : Int) : Option (List Int) := spec_Junctions.l0 k (([] : List Int)) 0 a0_0 a0_1 a0_2
mutual
def spec_CountPassages.l0 : Nat → Int → Int → Int → Int → Int → Option (Int)
  | 0, _, _, _, _, _ => none
  | k + 1, x3, x4, x1255000, x1255001, x1255002 => (spec_CountGaps.f x1255000 x1255001).bind fun t1255 => (if x4 < t1255 then ((spec_MazeOk.f x1255000 x1255001 x1255002).bind fun t1256 => (spec_CountPassages.j1 k x3 x4 t1256 x1255000 x1255001 x1255002)) else (spec_CountPassages.j1 k x3 x4 false x1255000 x1255001 x1255002))
def spec_CountPassages.j1 : Nat → Int → Int → Bool → Int → Int → Int → Option (Int)
  | 0, _, _, _, _, _, _ => none
  | k + 1, x3, x4, x13, x1255000, x1255001, x1255002 => if x13 = true then ((spec_l03Bit.f x1255002 x4).bind fun t1257 => (if t1257 = true then (spec_CountPassages.l0 k (wrap64 (x3 + 1)) (wrap64 (x4 + 1)) x1255000 x1255001 x1255002) else (spec_CountPassages.l0 k x3 (wrap64 (x4 + 1)) x1255000 x1255001 x1255002))) else (some x3)
end
def spec_CountPassages.f (k : Nat) (a0_0 : Int) (a0_1 : Int) (a0_2 : Int) : Option (Int) := spec_CountPassages.l0 k 0 0 a0_0 a0_1 a0_2
theorem spec_CountPassages.mono_l : ∀ k, (∀ y0 y1 y2 y3 y4, LeO (spec_CountPassages.l0 k y0 y1 y2 y3 y4) (spec_CountPassages.l0 (k + 1) y0 y1 y2 y3 y4)) ∧ (∀ y0 y1 y2 y3 y4 y5, LeO (spec_CountPassages.j1 k y0 y1 y2 y3 y4 y5) (spec_CountPassages.j1 (k + 1) y0 y1 y2 y3 y4 y5))
  | 0 => ⟨fun _ _ _ _ _ r h => by simp [spec_CountPassages.l0] at h, fun _ _ _ _ _ _ r h => by simp [spec_CountPassages.j1] at h⟩
  | k + 1 => by
    obtain ⟨ih0, ih1⟩ := spec_CountPassages.mono_l k
    refine ⟨?_, ?_⟩
    · intro y0 y1 y2 y3 y4
      unfold spec_CountPassages.l0
      repeat' first
      | (with_reducible exact ih0 _ _ _ _ _)
      | (with_reducible exact ih1 _ _ _ _ _ _)
      | (with_reducible exact LeO.refl _)
      | (with_reducible exact LeO.none _)
      | (with_reducible refine LeO.ite ?_ ?_)
      | (with_reducible refine LeO.bind ?_ (fun _ => ?_))
      | exact ih0 _ _ _ _ _
      | exact ih1 _ _ _ _ _ _
      | exact LeO.none _
      | refine LeO.ite ?_ ?_
      | refine LeO.bind ?_ (fun _ => ?_)
    · intro y0 y1 y2 y3 y4 y5
      unfold spec_CountPassages.j1
      repeat' first
      | (with_reducible exact ih0 _ _ _ _ _)
      | (with_reducible exact ih1 _ _ _ _ _ _)
      | (with_reducible exact LeO.refl _)
      | (with_reducible exact LeO.none _)
      | (with_reducible refine LeO.ite ?_ ?_)
      | (with_reducible refine LeO.bind ?_ (fun _ => ?_))
      | exact ih0 _ _ _ _ _
      | exact ih1 _ _ _ _ _ _
      | exact LeO.none _
      | refine LeO.ite ?_ ?_
      | refine LeO.bind ?_ (fun _ => ?_)
theorem spec_CountPassages.mono : ∀ a0 a1 a2 k, LeO (spec_CountPassages.f k a0 a1 a2) (spec_CountPassages.f (k + 1) a0 a1 a2) := by
  intro a0 a1 a2 k
  obtain ⟨ih0, ih1⟩ := spec_CountPassages.mono_l k
  unfold spec_CountPassages.f
  repeat' first
      | (with_reducible exact ih0 _ _ _ _ _)
      | (with_reducible exact ih1 _ _ _ _ _ _)
      | (with_reducible exact LeO.refl _)
      | (with_reducible exact LeO.none _)
      | (with_reducible refine LeO.ite ?_ ?_)
      | (with_reducible refine LeO.bind ?_ (fun _ => ?_))
      | exact ih0 _ _ _ _ _
      | exact ih1 _ _ _ _ _ _
      | exact LeO.none _
      | refine LeO.ite ?_ ?_
      | refine LeO.bind ?_ (fun _ => ?_)
def spec_CountLoops.f (k : Nat) (a0_0 : Int) (a0_1 : Int) (a0_2 : Int) : Option (Int) := (spec_MazeOk.f a0_0 a0_1 a0_2).bind fun t1259 => (if t1259 = true then ((spec_CountPassages.f k a0_0 a0_1 a0_2).bind fun t1260 => ((spec_CountCells.f a0_0 a0_1).bind fun t1261 => ((spec_CountParts.f k a0_0 a0_1 a0_2).bind fun t1262 => (some (wrap64 ((wrap64 (t1260 - t1261)) + t1262)))))) else (some 0))
end Go.Proofs.YtdjdleldocfpaaaDoor.F
end

section
namespace Go.Proofs.YtdjdleldocfpaaaDoor.F
open Go.RowKit Go.Proofs.YtdjdleldocfpaaaDoorW.PrintWords Go.Proofs.YtdjdleldocfpaaaDoorW.PrintLast Go.Proofs.YtdjdleldocfpaaaDoorW.PrintMore
set_option linter.unusedVariables false
set_option linter.unusedSimpArgs false
def eB (x : Bool) : List Value := [.bool x]
def eI (x : Int) : List Value := [.int .i64 x]
def eU8 (x : Int) : List Value := [.int .u8 x]
def ty : TypeId → Option TI
  | 3 => some ⟨false, 1, 8, [.int .i64 0], [], 0⟩
  | 4 => some ⟨false, 1, 1, [.bool false], [], 0⟩
  | 5 => some ⟨false, 1, 1, [.int .u8 0], [], 0⟩
  | 9 => some ⟨false, 1, 16, [.string ⟨#[]⟩], [], 0⟩
  | 36 => some ⟨false, 1, 24, [.slice none 0 0], [], 5⟩
  | 39 => some ⟨true, 2, 16, [.int .i64 0, .int .i64 0], [0, 1], 0⟩
  | 41 => some ⟨true, 3, 24, [.int .i64 0, .int .i64 0, .int .i64 0], [0, 2], 0⟩
  | 42 => some ⟨false, 1, 24, [.slice none 0 0], [], 3⟩
  | 50 => some ⟨true, 2, 16, [.int .i64 0, .int .i64 0], [0, 1], 0⟩
  | 52 => some ⟨true, 3, 24, [.int .i64 0, .int .i64 0, .int .i64 0], [0, 2], 0⟩
  | 86 => some ⟨false, 1, 24, [.slice none 0 0], [], 42⟩
  | 103 => some ⟨true, 3, 40, [.slice none 0 0, .int .i64 0, .int .i64 0], [0, 1, 2], 0⟩
  | 110 => some ⟨false, 1, 24, [.slice none 0 0], [], 4⟩
  | 144 => some ⟨false, 1, 8, [.int .u64 0], [], 0⟩
  | _ => none
theorem tyOk : TyOk Tryd.prog ty := by
  intro t i h
  unfold ty at h
  split at h <;> first | (cases h; done) | (obtain rfl := Option.some.inj h; exact mkTI (by kernel_rfl) (by kernel_rfl))
theorem hm : Tryd.prog.follows .mixedOrders = true := by kernel_rfl
theorem gR_eB : (∀ (x : Bool), eB x = [.bool x]) ∧ (∀ (l : List Bool) (i : Int), gR [.bool false] (l.map eB) i = [.bool (rdOf false l i)]) ∧ (∀ (l : List Bool) (i : Int) (a0 : Bool), sR (l.map eB) i [.bool a0] = (l.set i.toNat a0).map eB) ∧ (∀ (l : List Bool) (a0 : Bool), l.map eB ++ [[.bool a0]] = (l ++ [a0]).map eB) ∧ (∀ n : Nat, List.replicate n [.bool false] = (List.replicate n false).map eB) := by
  refine ⟨fun _ => rfl, fun l i => ?_, fun l i a0 => ?_, fun l a0 => ?_, fun n => ?_⟩
  · unfold gR rdOf eB
    rw [List.getD_eq_getElem?_getD, List.getElem?_map, List.getD_eq_getElem?_getD]
    cases l[i.toNat]? <;> rfl
  · unfold sR; rw [List.map_set]; rfl
  · rw [List.map_append]; rfl
  · rw [List.map_replicate]; rfl
theorem L_eB : (∀ (a0 : Bool), ([[.bool a0]] : List (List Value)) = [a0].map eB) ∧ (∀ (l : List Bool) (a0 : Bool), [.bool a0] :: l.map eB = (a0 :: l).map eB) ∧ (∀ (k : Nat) (l : List Bool), ((l.map eB).take k).length = (l.take k).length) ∧ (∀ l m : List Bool, l.map eB ++ m.map eB = (l ++ m).map eB) ∧ (∀ l : List Bool, litOk 1 (l.map eB) = true) := by
  refine ⟨?_, ?_, ?_, ?_, ?_⟩ <;> intros <;> first | rfl | (rename_i l_; induction l_ with | nil => rfl | cons x l ih => exact ih) | (rw [List.length_take, List.length_map, List.length_take]; done) | exact (List.map_append).symm
theorem gR_eI : (∀ (x : Int), eI x = [.int .i64 x]) ∧ (∀ (l : List Int) (i : Int), gR [.int .i64 0] (l.map eI) i = [.int .i64 (rd l i)]) ∧ (∀ (l : List Int) (i : Int) (a0 : Int), sR (l.map eI) i [.int .i64 a0] = (l.set i.toNat a0).map eI) ∧ (∀ (l : List Int) (a0 : Int), l.map eI ++ [[.int .i64 a0]] = (l ++ [a0]).map eI) ∧ (∀ n : Nat, List.replicate n [.int .i64 0] = (List.replicate n 0).map eI) := by
  refine ⟨fun _ => rfl, fun l i => ?_, fun l i a0 => ?_, fun l a0 => ?_, fun n => ?_⟩
  · unfold gR rd eI
    rw [List.getD_eq_getElem?_getD, List.getElem?_map, List.getD_eq_getElem?_getD]
    cases l[i.toNat]? <;> rfl
  · unfold sR; rw [List.map_set]; rfl
  · rw [List.map_append]; rfl
  · rw [List.map_replicate]; rfl
theorem L_eI : (∀ (a0 : Int), ([[.int .i64 a0]] : List (List Value)) = [a0].map eI) ∧ (∀ (l : List Int) (a0 : Int), [.int .i64 a0] :: l.map eI = (a0 :: l).map eI) ∧ (∀ (k : Nat) (l : List Int), ((l.map eI).take k).length = (l.take k).length) ∧ (∀ l m : List Int, l.map eI ++ m.map eI = (l ++ m).map eI) ∧ (∀ l : List Int, litOk 1 (l.map eI) = true) := by
  refine ⟨?_, ?_, ?_, ?_, ?_⟩ <;> intros <;> first | rfl | (rename_i l_; induction l_ with | nil => rfl | cons x l ih => exact ih) | (rw [List.length_take, List.length_map, List.length_take]; done) | exact (List.map_append).symm
theorem gR_eU8 : (∀ (x : Int), eU8 x = [.int .u8 x]) ∧ (∀ (l : List Int) (i : Int), gR [.int .u8 0] (l.map eU8) i = [.int .u8 (rd l i)]) ∧ (∀ (l : List Int) (i : Int) (a0 : Int), sR (l.map eU8) i [.int .u8 a0] = (l.set i.toNat a0).map eU8) ∧ (∀ (l : List Int) (a0 : Int), l.map eU8 ++ [[.int .u8 a0]] = (l ++ [a0]).map eU8) ∧ (∀ n : Nat, List.replicate n [.int .u8 0] = (List.replicate n 0).map eU8) := by
  refine ⟨fun _ => rfl, fun l i => ?_, fun l i a0 => ?_, fun l a0 => ?_, fun n => ?_⟩
  · unfold gR rd eU8
    rw [List.getD_eq_getElem?_getD, List.getElem?_map, List.getD_eq_getElem?_getD]
    cases l[i.toNat]? <;> rfl
  · unfold sR; rw [List.map_set]; rfl
  · rw [List.map_append]; rfl
  · rw [List.map_replicate]; rfl
theorem B_eU8 : (∀ l : List Int, bys (l.map eU8) = some l) ∧ (∀ l : List Int, (l.map fun n => [Value.int .u8 n]) = l.map eU8) := by
  refine ⟨fun l => ?_, fun l => rfl⟩
  induction l with
  | nil => rfl
  | cons x l ih => show (bys (l.map eU8)).map (x :: ·) = _; rw [ih]; rfl
theorem L_eU8 : (∀ (a0 : Int), ([[.int .u8 a0]] : List (List Value)) = [a0].map eU8) ∧ (∀ (l : List Int) (a0 : Int), [.int .u8 a0] :: l.map eU8 = (a0 :: l).map eU8) ∧ (∀ (k : Nat) (l : List Int), ((l.map eU8).take k).length = (l.take k).length) ∧ (∀ l m : List Int, l.map eU8 ++ m.map eU8 = (l ++ m).map eU8) ∧ (∀ l : List Int, litOk 1 (l.map eU8) = true) := by
  refine ⟨?_, ?_, ?_, ?_, ?_⟩ <;> intros <;> first | rfl | (rename_i l_; induction l_ with | nil => rfl | cons x l ih => exact ih) | (rw [List.length_take, List.length_map, List.length_take]; done) | exact (List.map_append).symm
theorem eqQ31 (x0 y0 : Int) (x1 y1 : Int) (x2 y2 : Int) : ∀ w : World, (Op.equalIn 10000 31 (.agg (List.toArray (vluL [.v (.int .i64 x0), .v (.int .i64 x1), .v (.int .i64 x2)]))) (.agg (List.toArray (vluL [.v (.int .i64 y0), .v (.int .i64 y1), .v (.int .i64 y2)])))).run Tryd.prog w = .ok (x0 == y0 && (x1 == y1 && (x2 == y2))) w := fun w => eqA31 9998 w _ _ _ _ _ _
theorem eqT31 : (∀ (x0 y0 : Int) (x1 y1 : Int) (x2 y2 : Int) (i : TI) (d : Option Nat) (t : List AV) (s : Sto) (K : Kt), binX Tryd.prog 31 (some i) .eql (.ag [.v (.int .i64 x0), .v (.int .i64 x1), .v (.int .i64 x2)]) (.ag [.v (.int .i64 y0), .v (.int .i64 y1), .v (.int .i64 y2)]) d t s K = K (pT t d (.v (.bool (x0 == y0 && (x1 == y1 && (x2 == y2)))))) s) ∧ (∀ (x0 y0 : Int) (x1 y1 : Int) (x2 y2 : Int) (i : TI) (d : Option Nat) (t : List AV) (s : Sto) (K : Kt), binX Tryd.prog 31 (some i) .neq (.ag [.v (.int .i64 x0), .v (.int .i64 x1), .v (.int .i64 x2)]) (.ag [.v (.int .i64 y0), .v (.int .i64 y1), .v (.int .i64 y2)]) d t s K = K (pT t d (.v (.bool ((!(x0 == y0) || ((!(x1 == y1) || (!(x2 == y2))))))))) s) := by
  refine ⟨fun x0 y0 x1 y1 x2 y2 i d t s K => ?_, fun x0 y0 x1 y1 x2 y2 i d t s K => ?_⟩
  · refine eqRule (dd := 10000) ?_ ?_ ?_ ?_ (eqQ31 _ _ _ _ _ _) i d t s K <;> kernel_rfl
  · refine Eq.trans (b := K (pT t d (.v (.bool (!(x0 == y0 && (x1 == y1 && (x2 == y2))))))) s) ?_ (by simp only [Bool.not_and])
    refine neRule (dd := 10000) ?_ ?_ ?_ ?_ (eqQ31 _ _ _ _ _ _) i d t s K <;> kernel_rfl
theorem Wt : ty 3 = some ⟨false, 1, 8, [.int .i64 0], [], 0⟩ ∧ ty 4 = some ⟨false, 1, 1, [.bool false], [], 0⟩ ∧ ty 5 = some ⟨false, 1, 1, [.int .u8 0], [], 0⟩ ∧ ty 9 = some ⟨false, 1, 16, [.string ⟨#[]⟩], [], 0⟩ ∧ ty 36 = some ⟨false, 1, 24, [.slice none 0 0], [], 5⟩ ∧ ty 39 = some ⟨true, 2, 16, [.int .i64 0, .int .i64 0], [0, 1], 0⟩ ∧ ty 41 = some ⟨true, 3, 24, [.int .i64 0, .int .i64 0, .int .i64 0], [0, 2], 0⟩ ∧ ty 42 = some ⟨false, 1, 24, [.slice none 0 0], [], 3⟩ ∧ ty 50 = some ⟨true, 2, 16, [.int .i64 0, .int .i64 0], [0, 1], 0⟩ ∧ ty 52 = some ⟨true, 3, 24, [.int .i64 0, .int .i64 0, .int .i64 0], [0, 2], 0⟩ ∧ ty 86 = some ⟨false, 1, 24, [.slice none 0 0], [], 42⟩ ∧ ty 103 = some ⟨true, 3, 40, [.slice none 0 0, .int .i64 0, .int .i64 0], [0, 1, 2], 0⟩ ∧ ty 110 = some ⟨false, 1, 24, [.slice none 0 0], [], 4⟩ ∧ ty 144 = some ⟨false, 1, 8, [.int .u64 0], [], 0⟩ ∧ ty 0 = none ∧ ty 58 = none ∧ ty 62 = none ∧ ty 80 = none ∧ ty 90 = none ∧ ty 101 = none ∧ ty 112 = none ∧ ty 132 = none := ⟨rfl, rfl, rfl, rfl, rfl, rfl, rfl, rfl, rfl, rfl, rfl, rfl, rfl, rfl, rfl, rfl, rfl, rfl, rfl, rfl, rfl, rfl⟩
theorem W : type_of% (And.intro W1 (And.intro W2 (And.intro (W3 Tryd.prog ty) (And.intro (W4 Tryd.prog ty) (And.intro (W5 ty) (And.intro W6 (And.intro W7 (And.intro W8 (And.intro W9 (And.intro W10 (And.intro @W11 (And.intro W12 (And.intro (W13 ty) (And.intro (W14 ty) (And.intro (W15 Tryd.prog ty) (And.intro W16 (And.intro (W17 ty) (And.intro (W18 Tryd.prog ty) (And.intro W19 (And.intro W20 (And.intro W21 (And.intro W22 (And.intro (W23 ty) (And.intro (W25 ty) (And.intro (W24 Tryd.prog ty) (And.intro bAnd (And.intro W0b (And.intro gR_eB (And.intro L_eB (And.intro gR_eI (And.intro L_eI (And.intro gR_eU8 (And.intro B_eU8 (And.intro L_eU8 (And.intro eqT31 Wt))))))))))))))))))))))))))))))))))) := (And.intro W1 (And.intro W2 (And.intro (W3 Tryd.prog ty) (And.intro (W4 Tryd.prog ty) (And.intro (W5 ty) (And.intro W6 (And.intro W7 (And.intro W8 (And.intro W9 (And.intro W10 (And.intro @W11 (And.intro W12 (And.intro (W13 ty) (And.intro (W14 ty) (And.intro (W15 Tryd.prog ty) (And.intro W16 (And.intro (W17 ty) (And.intro (W18 Tryd.prog ty) (And.intro W19 (And.intro W20 (And.intro W21 (And.intro W22 (And.intro (W23 ty) (And.intro (W25 ty) (And.intro (W24 Tryd.prog ty) (And.intro bAnd (And.intro W0b (And.intro gR_eB (And.intro L_eB (And.intro gR_eI (And.intro L_eI (And.intro gR_eU8 (And.intro B_eU8 (And.intro L_eU8 (And.intro eqT31 Wt)))))))))))))))))))))))))))))))))))
theorem E_eI : EncOk (Kd.int .i64) 1 eI := ⟨rfl, by decide, fun _ => rfl, fun x u hu => by
  simp only [eI, List.mem_cons, List.not_mem_nil, or_false] at hu
  subst hu; rfl, Iff.rfl, Iff.rfl⟩
theorem E_eU8 : EncOk (Kd.int .u8) 1 eU8 := ⟨rfl, by decide, fun _ => rfl, fun x u hu => by
  simp only [eU8, List.mem_cons, List.not_mem_nil, or_false] at hu
  subst hu; rfl, Iff.rfl, Iff.rfl⟩
end Go.Proofs.YtdjdleldocfpaaaDoor.F
end

section
namespace Go.Proofs.YtdjdleldocfpaaaDoor.F
open Go.RowKit Go.Proofs.YtdjdleldocfpaaaDoorW.PrintWords Go.Proofs.YtdjdleldocfpaaaDoorW.PrintLast Go.Proofs.YtdjdleldocfpaaaDoorW.PrintMore
theorem bkb {w0 W w' : World} {g : Nat} {o : Obj} (A : Aside0 (w0.heap[g]? = some o)) (hb : Below W.heap.size W w') (h : w0.heap[g]? = some o → W.heap[g]? = some o) : Aside0 (w'.heap[g]? = some o) := ⟨blk_below (h A.out) hb⟩
theorem nbl {w0 W : World} {g gb : Nat} {o : Obj} (A : Aside0 (w0.heap[g]? = some o)) (hg : gb = W.heap.size) (h : w0.heap[g]? = some o → W.heap[g]? = some o) : Aside0 (g ≠ gb) := ⟨by rw [hg]; exact Nat.ne_of_lt (blk_lt (h A.out))⟩
theorem nbs {a b : Nat} (h : Aside0 (a ≠ b)) : Aside0 (b ≠ a) := ⟨h.out.symm⟩
theorem cl1 {w : World} {g : Nat} {t : TypeId} {c0 : Value} (h : w.heap[g]? = some (.cells #[c0] t (0, 0))) : w.cell? ⟨g, 0, none⟩ = some c0 ∧ w.frozen? ⟨g, 0, none⟩ = false := ⟨(blk_cell h 0).trans rfl, blk_frozen h 0⟩
theorem cl2 {w : World} {g : Nat} {t : TypeId} {c0 c1 : Value} (h : w.heap[g]? = some (.cells #[c0, c1] t (0, 0))) : w.cell? ⟨g, 0, none⟩ = some c0 ∧ w.cell? ⟨g, 1, none⟩ = some c1 ∧ w.frozen? ⟨g, 0, none⟩ = false ∧ w.frozen? ⟨g, 1, none⟩ = false := ⟨(blk_cell h 0).trans rfl, (blk_cell h 1).trans rfl, blk_frozen h 0, blk_frozen h 1⟩
theorem cl3 {w : World} {g : Nat} {t : TypeId} {c0 c1 c2 : Value} (h : w.heap[g]? = some (.cells #[c0, c1, c2] t (0, 0))) : w.cell? ⟨g, 0, none⟩ = some c0 ∧ w.cell? ⟨g, 1, none⟩ = some c1 ∧ w.cell? ⟨g, 2, none⟩ = some c2 ∧ w.frozen? ⟨g, 0, none⟩ = false ∧ w.frozen? ⟨g, 1, none⟩ = false ∧ w.frozen? ⟨g, 2, none⟩ = false := ⟨(blk_cell h 0).trans rfl, (blk_cell h 1).trans rfl, (blk_cell h 2).trans rfl, blk_frozen h 0, blk_frozen h 1, blk_frozen h 2⟩
theorem cl4 {w : World} {g : Nat} {t : TypeId} {c0 c1 c2 c3 : Value} (h : w.heap[g]? = some (.cells #[c0, c1, c2, c3] t (0, 0))) : w.cell? ⟨g, 0, none⟩ = some c0 ∧ w.cell? ⟨g, 1, none⟩ = some c1 ∧ w.cell? ⟨g, 2, none⟩ = some c2 ∧ w.cell? ⟨g, 3, none⟩ = some c3 ∧ w.frozen? ⟨g, 0, none⟩ = false ∧ w.frozen? ⟨g, 1, none⟩ = false ∧ w.frozen? ⟨g, 2, none⟩ = false ∧ w.frozen? ⟨g, 3, none⟩ = false := ⟨(blk_cell h 0).trans rfl, (blk_cell h 1).trans rfl, (blk_cell h 2).trans rfl, (blk_cell h 3).trans rfl, blk_frozen h 0, blk_frozen h 1, blk_frozen h 2, blk_frozen h 3⟩
theorem cl5 {w : World} {g : Nat} {t : TypeId} {c0 c1 c2 c3 c4 : Value} (h : w.heap[g]? = some (.cells #[c0, c1, c2, c3, c4] t (0, 0))) : w.cell? ⟨g, 0, none⟩ = some c0 ∧ w.cell? ⟨g, 1, none⟩ = some c1 ∧ w.cell? ⟨g, 2, none⟩ = some c2 ∧ w.cell? ⟨g, 3, none⟩ = some c3 ∧ w.cell? ⟨g, 4, none⟩ = some c4 ∧ w.frozen? ⟨g, 0, none⟩ = false ∧ w.frozen? ⟨g, 1, none⟩ = false ∧ w.frozen? ⟨g, 2, none⟩ = false ∧ w.frozen? ⟨g, 3, none⟩ = false ∧ w.frozen? ⟨g, 4, none⟩ = false := ⟨(blk_cell h 0).trans rfl, (blk_cell h 1).trans rfl, (blk_cell h 2).trans rfl, (blk_cell h 3).trans rfl, (blk_cell h 4).trans rfl, blk_frozen h 0, blk_frozen h 1, blk_frozen h 2, blk_frozen h 3, blk_frozen h 4⟩
theorem cl6 {w : World} {g : Nat} {t : TypeId} {c0 c1 c2 c3 c4 c5 : Value} (h : w.heap[g]? = some (.cells #[c0, c1, c2, c3, c4, c5] t (0, 0))) : w.cell? ⟨g, 0, none⟩ = some c0 ∧ w.cell? ⟨g, 1, none⟩ = some c1 ∧ w.cell? ⟨g, 2, none⟩ = some c2 ∧ w.cell? ⟨g, 3, none⟩ = some c3 ∧ w.cell? ⟨g, 4, none⟩ = some c4 ∧ w.cell? ⟨g, 5, none⟩ = some c5 ∧ w.frozen? ⟨g, 0, none⟩ = false ∧ w.frozen? ⟨g, 1, none⟩ = false ∧ w.frozen? ⟨g, 2, none⟩ = false ∧ w.frozen? ⟨g, 3, none⟩ = false ∧ w.frozen? ⟨g, 4, none⟩ = false ∧ w.frozen? ⟨g, 5, none⟩ = false := ⟨(blk_cell h 0).trans rfl, (blk_cell h 1).trans rfl, (blk_cell h 2).trans rfl, (blk_cell h 3).trans rfl, (blk_cell h 4).trans rfl, (blk_cell h 5).trans rfl, blk_frozen h 0, blk_frozen h 1, blk_frozen h 2, blk_frozen h 3, blk_frozen h 4, blk_frozen h 5⟩
theorem cl7 {w : World} {g : Nat} {t : TypeId} {c0 c1 c2 c3 c4 c5 c6 : Value} (h : w.heap[g]? = some (.cells #[c0, c1, c2, c3, c4, c5, c6] t (0, 0))) : w.cell? ⟨g, 0, none⟩ = some c0 ∧ w.cell? ⟨g, 1, none⟩ = some c1 ∧ w.cell? ⟨g, 2, none⟩ = some c2 ∧ w.cell? ⟨g, 3, none⟩ = some c3 ∧ w.cell? ⟨g, 4, none⟩ = some c4 ∧ w.cell? ⟨g, 5, none⟩ = some c5 ∧ w.cell? ⟨g, 6, none⟩ = some c6 ∧ w.frozen? ⟨g, 0, none⟩ = false ∧ w.frozen? ⟨g, 1, none⟩ = false ∧ w.frozen? ⟨g, 2, none⟩ = false ∧ w.frozen? ⟨g, 3, none⟩ = false ∧ w.frozen? ⟨g, 4, none⟩ = false ∧ w.frozen? ⟨g, 5, none⟩ = false ∧ w.frozen? ⟨g, 6, none⟩ = false := ⟨(blk_cell h 0).trans rfl, (blk_cell h 1).trans rfl, (blk_cell h 2).trans rfl, (blk_cell h 3).trans rfl, (blk_cell h 4).trans rfl, (blk_cell h 5).trans rfl, (blk_cell h 6).trans rfl, blk_frozen h 0, blk_frozen h 1, blk_frozen h 2, blk_frozen h 3, blk_frozen h 4, blk_frozen h 5, blk_frozen h 6⟩
theorem cl8 {w : World} {g : Nat} {t : TypeId} {c0 c1 c2 c3 c4 c5 c6 c7 : Value} (h : w.heap[g]? = some (.cells #[c0, c1, c2, c3, c4, c5, c6, c7] t (0, 0))) : w.cell? ⟨g, 0, none⟩ = some c0 ∧ w.cell? ⟨g, 1, none⟩ = some c1 ∧ w.cell? ⟨g, 2, none⟩ = some c2 ∧ w.cell? ⟨g, 3, none⟩ = some c3 ∧ w.cell? ⟨g, 4, none⟩ = some c4 ∧ w.cell? ⟨g, 5, none⟩ = some c5 ∧ w.cell? ⟨g, 6, none⟩ = some c6 ∧ w.cell? ⟨g, 7, none⟩ = some c7 ∧ w.frozen? ⟨g, 0, none⟩ = false ∧ w.frozen? ⟨g, 1, none⟩ = false ∧ w.frozen? ⟨g, 2, none⟩ = false ∧ w.frozen? ⟨g, 3, none⟩ = false ∧ w.frozen? ⟨g, 4, none⟩ = false ∧ w.frozen? ⟨g, 5, none⟩ = false ∧ w.frozen? ⟨g, 6, none⟩ = false ∧ w.frozen? ⟨g, 7, none⟩ = false := ⟨(blk_cell h 0).trans rfl, (blk_cell h 1).trans rfl, (blk_cell h 2).trans rfl, (blk_cell h 3).trans rfl, (blk_cell h 4).trans rfl, (blk_cell h 5).trans rfl, (blk_cell h 6).trans rfl, (blk_cell h 7).trans rfl, blk_frozen h 0, blk_frozen h 1, blk_frozen h 2, blk_frozen h 3, blk_frozen h 4, blk_frozen h 5, blk_frozen h 6, blk_frozen h 7⟩
theorem cl9 {w : World} {g : Nat} {t : TypeId} {c0 c1 c2 c3 c4 c5 c6 c7 c8 : Value} (h : w.heap[g]? = some (.cells #[c0, c1, c2, c3, c4, c5, c6, c7, c8] t (0, 0))) : w.cell? ⟨g, 0, none⟩ = some c0 ∧ w.cell? ⟨g, 1, none⟩ = some c1 ∧ w.cell? ⟨g, 2, none⟩ = some c2 ∧ w.cell? ⟨g, 3, none⟩ = some c3 ∧ w.cell? ⟨g, 4, none⟩ = some c4 ∧ w.cell? ⟨g, 5, none⟩ = some c5 ∧ w.cell? ⟨g, 6, none⟩ = some c6 ∧ w.cell? ⟨g, 7, none⟩ = some c7 ∧ w.cell? ⟨g, 8, none⟩ = some c8 ∧ w.frozen? ⟨g, 0, none⟩ = false ∧ w.frozen? ⟨g, 1, none⟩ = false ∧ w.frozen? ⟨g, 2, none⟩ = false ∧ w.frozen? ⟨g, 3, none⟩ = false ∧ w.frozen? ⟨g, 4, none⟩ = false ∧ w.frozen? ⟨g, 5, none⟩ = false ∧ w.frozen? ⟨g, 6, none⟩ = false ∧ w.frozen? ⟨g, 7, none⟩ = false ∧ w.frozen? ⟨g, 8, none⟩ = false := ⟨(blk_cell h 0).trans rfl, (blk_cell h 1).trans rfl, (blk_cell h 2).trans rfl, (blk_cell h 3).trans rfl, (blk_cell h 4).trans rfl, (blk_cell h 5).trans rfl, (blk_cell h 6).trans rfl, (blk_cell h 7).trans rfl, (blk_cell h 8).trans rfl, blk_frozen h 0, blk_frozen h 1, blk_frozen h 2, blk_frozen h 3, blk_frozen h 4, blk_frozen h 5, blk_frozen h 6, blk_frozen h 7, blk_frozen h 8⟩
theorem cl10 {w : World} {g : Nat} {t : TypeId} {c0 c1 c2 c3 c4 c5 c6 c7 c8 c9 : Value} (h : w.heap[g]? = some (.cells #[c0, c1, c2, c3, c4, c5, c6, c7, c8, c9] t (0, 0))) : w.cell? ⟨g, 0, none⟩ = some c0 ∧ w.cell? ⟨g, 1, none⟩ = some c1 ∧ w.cell? ⟨g, 2, none⟩ = some c2 ∧ w.cell? ⟨g, 3, none⟩ = some c3 ∧ w.cell? ⟨g, 4, none⟩ = some c4 ∧ w.cell? ⟨g, 5, none⟩ = some c5 ∧ w.cell? ⟨g, 6, none⟩ = some c6 ∧ w.cell? ⟨g, 7, none⟩ = some c7 ∧ w.cell? ⟨g, 8, none⟩ = some c8 ∧ w.cell? ⟨g, 9, none⟩ = some c9 ∧ w.frozen? ⟨g, 0, none⟩ = false ∧ w.frozen? ⟨g, 1, none⟩ = false ∧ w.frozen? ⟨g, 2, none⟩ = false ∧ w.frozen? ⟨g, 3, none⟩ = false ∧ w.frozen? ⟨g, 4, none⟩ = false ∧ w.frozen? ⟨g, 5, none⟩ = false ∧ w.frozen? ⟨g, 6, none⟩ = false ∧ w.frozen? ⟨g, 7, none⟩ = false ∧ w.frozen? ⟨g, 8, none⟩ = false ∧ w.frozen? ⟨g, 9, none⟩ = false := ⟨(blk_cell h 0).trans rfl, (blk_cell h 1).trans rfl, (blk_cell h 2).trans rfl, (blk_cell h 3).trans rfl, (blk_cell h 4).trans rfl, (blk_cell h 5).trans rfl, (blk_cell h 6).trans rfl, (blk_cell h 7).trans rfl, (blk_cell h 8).trans rfl, (blk_cell h 9).trans rfl, blk_frozen h 0, blk_frozen h 1, blk_frozen h 2, blk_frozen h 3, blk_frozen h 4, blk_frozen h 5, blk_frozen h 6, blk_frozen h 7, blk_frozen h 8, blk_frozen h 9⟩
theorem cl11 {w : World} {g : Nat} {t : TypeId} {c0 c1 c2 c3 c4 c5 c6 c7 c8 c9 c10 : Value} (h : w.heap[g]? = some (.cells #[c0, c1, c2, c3, c4, c5, c6, c7, c8, c9, c10] t (0, 0))) : w.cell? ⟨g, 0, none⟩ = some c0 ∧ w.cell? ⟨g, 1, none⟩ = some c1 ∧ w.cell? ⟨g, 2, none⟩ = some c2 ∧ w.cell? ⟨g, 3, none⟩ = some c3 ∧ w.cell? ⟨g, 4, none⟩ = some c4 ∧ w.cell? ⟨g, 5, none⟩ = some c5 ∧ w.cell? ⟨g, 6, none⟩ = some c6 ∧ w.cell? ⟨g, 7, none⟩ = some c7 ∧ w.cell? ⟨g, 8, none⟩ = some c8 ∧ w.cell? ⟨g, 9, none⟩ = some c9 ∧ w.cell? ⟨g, 10, none⟩ = some c10 ∧ w.frozen? ⟨g, 0, none⟩ = false ∧ w.frozen? ⟨g, 1, none⟩ = false ∧ w.frozen? ⟨g, 2, none⟩ = false ∧ w.frozen? ⟨g, 3, none⟩ = false ∧ w.frozen? ⟨g, 4, none⟩ = false ∧ w.frozen? ⟨g, 5, none⟩ = false ∧ w.frozen? ⟨g, 6, none⟩ = false ∧ w.frozen? ⟨g, 7, none⟩ = false ∧ w.frozen? ⟨g, 8, none⟩ = false ∧ w.frozen? ⟨g, 9, none⟩ = false ∧ w.frozen? ⟨g, 10, none⟩ = false := ⟨(blk_cell h 0).trans rfl, (blk_cell h 1).trans rfl, (blk_cell h 2).trans rfl, (blk_cell h 3).trans rfl, (blk_cell h 4).trans rfl, (blk_cell h 5).trans rfl, (blk_cell h 6).trans rfl, (blk_cell h 7).trans rfl, (blk_cell h 8).trans rfl, (blk_cell h 9).trans rfl, (blk_cell h 10).trans rfl, blk_frozen h 0, blk_frozen h 1, blk_frozen h 2, blk_frozen h 3, blk_frozen h 4, blk_frozen h 5, blk_frozen h 6, blk_frozen h 7, blk_frozen h 8, blk_frozen h 9, blk_frozen h 10⟩
theorem cl12 {w : World} {g : Nat} {t : TypeId} {c0 c1 c2 c3 c4 c5 c6 c7 c8 c9 c10 c11 : Value} (h : w.heap[g]? = some (.cells #[c0, c1, c2, c3, c4, c5, c6, c7, c8, c9, c10, c11] t (0, 0))) : w.cell? ⟨g, 0, none⟩ = some c0 ∧ w.cell? ⟨g, 1, none⟩ = some c1 ∧ w.cell? ⟨g, 2, none⟩ = some c2 ∧ w.cell? ⟨g, 3, none⟩ = some c3 ∧ w.cell? ⟨g, 4, none⟩ = some c4 ∧ w.cell? ⟨g, 5, none⟩ = some c5 ∧ w.cell? ⟨g, 6, none⟩ = some c6 ∧ w.cell? ⟨g, 7, none⟩ = some c7 ∧ w.cell? ⟨g, 8, none⟩ = some c8 ∧ w.cell? ⟨g, 9, none⟩ = some c9 ∧ w.cell? ⟨g, 10, none⟩ = some c10 ∧ w.cell? ⟨g, 11, none⟩ = some c11 ∧ w.frozen? ⟨g, 0, none⟩ = false ∧ w.frozen? ⟨g, 1, none⟩ = false ∧ w.frozen? ⟨g, 2, none⟩ = false ∧ w.frozen? ⟨g, 3, none⟩ = false ∧ w.frozen? ⟨g, 4, none⟩ = false ∧ w.frozen? ⟨g, 5, none⟩ = false ∧ w.frozen? ⟨g, 6, none⟩ = false ∧ w.frozen? ⟨g, 7, none⟩ = false ∧ w.frozen? ⟨g, 8, none⟩ = false ∧ w.frozen? ⟨g, 9, none⟩ = false ∧ w.frozen? ⟨g, 10, none⟩ = false ∧ w.frozen? ⟨g, 11, none⟩ = false := ⟨(blk_cell h 0).trans rfl, (blk_cell h 1).trans rfl, (blk_cell h 2).trans rfl, (blk_cell h 3).trans rfl, (blk_cell h 4).trans rfl, (blk_cell h 5).trans rfl, (blk_cell h 6).trans rfl, (blk_cell h 7).trans rfl, (blk_cell h 8).trans rfl, (blk_cell h 9).trans rfl, (blk_cell h 10).trans rfl, (blk_cell h 11).trans rfl, blk_frozen h 0, blk_frozen h 1, blk_frozen h 2, blk_frozen h 3, blk_frozen h 4, blk_frozen h 5, blk_frozen h 6, blk_frozen h 7, blk_frozen h 8, blk_frozen h 9, blk_frozen h 10, blk_frozen h 11⟩
theorem sTA {α : Type} (l : List α) (i : Nat) (a : α) : l.toArray.setIfInBounds i a = (l.set i a).toArray := List.setIfInBounds_toArray l i a
theorem sZ {α : Type} {x : α} {xs : List α} {a : α} : (x :: xs).set 0 a = a :: xs := List.set_cons_zero
theorem sS {α : Type} {x : α} {xs : List α} {i : Nat} {a : α} : (x :: xs).set (i + 1) a = x :: xs.set i a := List.set_cons_succ
theorem aK {p : Prop} (h : p) : Aside0 p := ⟨h⟩
theorem bDN {B : Nat} {w W : World} (h : Below B w W) (n : Nat) : Below B w (W.drewN n) := pw_below_drewN h n
theorem bD1 {base : Nat} {w W : World} (h : Below base w W) : Below base w W.drew := below_drew1 h
theorem bAl {w W : World} (h : Below w.heap.size w W) (o : Obj) : Below w.heap.size w (W.alloc o) := below_alloc h o
theorem bSt {w W : World} {g j : Nat} {v : Value} (h : Below w.heap.size w W) (hg : w.heap.size ≤ g) : Below w.heap.size w (W.setCell ⟨g, j, none⟩ v) := below_set h hg
theorem bSz {w W : World} (h : Below w.heap.size w W) : w.heap.size ≤ W.heap.size := below_size h
theorem bSp {w W w2 : World} (h : Below w.heap.size w W) (k : Below W.heap.size W w2) : Below w.heap.size w w2 := below_step h k
theorem kC {w : World} {g : Nat} {t : TypeId} {cs : Array Value} (h : w.heap[g]? = some (.cells cs t (0, 0))) (i : Nat) : w.cell? ⟨g, i, none⟩ = cs[i]? := blk_cell h i
theorem kF {w : World} {g : Nat} {t : TypeId} {cs : Array Value} (h : w.heap[g]? = some (.cells cs t (0, 0))) (i : Nat) : w.frozen? ⟨g, i, none⟩ = false := blk_frozen h i
theorem kA {w : World} {g : Nat} {o : Obj} (h : w.heap[g]? = some o) (o' : Obj) : (w.alloc o').heap[g]? = some o := blk_alloc h o'
theorem kDN {w : World} {g : Nat} {o : Obj} (h : w.heap[g]? = some o) (n : Nat) : (w.drewN n).heap[g]? = some o := blk_drewN h n
theorem kD {w : World} {g : Nat} {o : Obj} (h : w.heap[g]? = some o) : w.drew.heap[g]? = some o := blk_drew h
theorem zN {w0 W : World} {g gb : Nat} {o : Obj} (A : Aside0 (w0.heap[g]? = some o)) (hg : gb = W.heap.size) (h : w0.heap[g]? = some o → W.heap[g]? = some o := by intro z_; (with_reducible repeat (first | refine kDN ?_ _ | refine kD ?_ | refine kA ?_ _)); exact z_) : Aside0 (g ≠ gb) := ⟨by rw [hg]; exact Nat.ne_of_lt (blk_lt (h A.out))⟩
theorem zQ {w : World} {g : Nat} {t : TypeId} {cs : Array Value} {v : Value} (h : Aside0 (w.heap[g]? = some (.cells cs t (0, 0)))) (i : Nat) (e : cs[i]? = some v := by rfl) : w.cell? ⟨g, i, none⟩ = some v := (blk_cell h.out i).trans e
theorem zK {A B : Prop} (h : Aside0 A) (f : A → B := by intro z_; (with_reducible repeat (first | refine kDN ?_ _ | refine kD ?_ | refine kA ?_ _)); exact z_) : B := f h.out
theorem zA {A B : Prop} (h : Aside0 A) (f : A → B := by intro z_; (with_reducible repeat (first | apply Kd.R_alloc | apply Kd.R_drewN | apply Kd.R_drew)); exact z_) : B := f h.out
theorem zB {w0 W w' : World} {g : Nat} {o : Obj} (A : Aside0 (w0.heap[g]? = some o)) (hb : Below W.heap.size W w') (h : w0.heap[g]? = some o → W.heap[g]? = some o := by intro z_; (with_reducible repeat (first | refine kDN ?_ _ | refine kD ?_ | refine kA ?_ _)); exact z_) : Aside0 (w'.heap[g]? = some o) := ⟨blk_below (h A.out) hb⟩
theorem zC {A B : Prop} (h : A) (f : A → B := by intro z_; repeat (first | exact z_ | (with_reducible refine Kd.C_alloc ?_ _) | (with_reducible refine Kd.C_drewN ?_ _) | (with_reducible refine Kd.C_drew ?_))) : B := f h
theorem zD {A : Prop} (f : A := by (try simp only [List.map_toArray, List.map_cons, List.map_nil]); first | done | rfl | (simp only [List.length_drop, List.length_take]; rfl)) : A := f
theorem zH0 {A B : Prop} (h : Aside0 A) (f : A → B := by intro z_; repeat (first | (with_reducible first | exact z_ | apply bAl | apply bDN | apply bD1) | exact z_)) : B := f h.out
theorem zH1 {A B C0 : Prop} (h : Aside0 A) (g0 : Aside0 C0) (f : A → C0 → B := by intro z_ y0_; repeat (first | (with_reducible first | exact z_ | apply bAl | apply bDN | apply bD1 | refine bSt ?_ y0_) | exact z_)) : B := f h.out g0.out
theorem zH2 {A B C0 C1 : Prop} (h : Aside0 A) (g0 : Aside0 C0) (g1 : Aside0 C1) (f : A → C0 → C1 → B := by intro z_ y0_ y1_; repeat (first | (with_reducible first | exact z_ | apply bAl | apply bDN | apply bD1 | refine bSt ?_ y0_ | refine bSt ?_ y1_) | exact z_)) : B := f h.out g0.out g1.out
theorem zH3 {A B C0 C1 C2 : Prop} (h : Aside0 A) (g0 : Aside0 C0) (g1 : Aside0 C1) (g2 : Aside0 C2) (f : A → C0 → C1 → C2 → B := by intro z_ y0_ y1_ y2_; repeat (first | (with_reducible first | exact z_ | apply bAl | apply bDN | apply bD1 | refine bSt ?_ y0_ | refine bSt ?_ y1_ | refine bSt ?_ y2_) | exact z_)) : B := f h.out g0.out g1.out g2.out
theorem zG3 {B : Prop} {w0 W w' : World} {g : Nat} {o : Obj} (A : Aside0 (w0.heap[g]? = some o)) (N : Aside0 B) (hb : Below W.heap.size W w') (h : B → w0.heap[g]? = some o → W.heap[g]? = some o := by intro y_ z_; (with_reducible repeat (first | refine kDN ?_ _ | refine kD ?_ | refine kA ?_ _)); refine blk_far ?_ y_ _; (with_reducible repeat (first | refine kDN ?_ _ | refine kD ?_ | refine kA ?_ _)); refine blk_far ?_ y_ _; (with_reducible repeat (first | refine kDN ?_ _ | refine kD ?_ | refine kA ?_ _)); refine blk_far ?_ y_ _; (with_reducible repeat (first | refine kDN ?_ _ | refine kD ?_ | refine kA ?_ _)); exact z_) : Aside0 (w'.heap[g]? = some o) := ⟨blk_below (h N.out A.out) hb⟩
theorem zT3 {α : Type} {d : Kd α} {e t : TypeId} {w : World} {base g : Nat} {ok : Nat → Prop} {v : Value} {xs : List α} {cs : Array Value} (h : Aside0 (d.R e w base ok v xs)) (hb : Aside0 (w.heap[g]? = some (.cells cs t (0, 0)))) (v0 v1 v2 : Value) (ht : ∀ q, q ∈ e :: d.E → q ≠ t := by decide) : d.R e (((w.setCell ⟨g, 0, none⟩ v0).setCell ⟨g, 1, none⟩ v1).setCell ⟨g, 2, none⟩ v2) base (fun k => ok k ∧ k ≠ g) v xs := (Kd.R_far (p := ⟨g, 2, none⟩) (Kd.R_far (p := ⟨g, 1, none⟩) (Kd.R_far (p := ⟨g, 0, none⟩) (Kd.R_types h.out hb.out ht) (fun _ hk => hk.2) v0) (fun _ hk => hk.2) v1) (fun _ hk => hk.2) v2)

end Go.Proofs.YtdjdleldocfpaaaDoor.F
end

section
namespace Go.Proofs.YtdjdleldocfpaaaDoor.F
open Go.RowKit Go.Proofs.YtdjdleldocfpaaaDoorW.PrintWords Go.Proofs.YtdjdleldocfpaaaDoorW.PrintLast Go.Proofs.YtdjdleldocfpaaaDoorW.PrintMore
set_option linter.unusedVariables false
set_option linter.unusedSimpArgs false
attribute [local go_sem] max2_int min2_int max_two min_two
set_option maxRecDepth 20000
set_option maxHeartbeats 4000000
open Nat renaming reduceAdd → p1, reduceSub → p2, reduceMul → p3, reduceDiv → p4, reduceBNe → p5, reduceBEq → p6, reduceEqDiff → p7, reduceLeDiff → p8, reduceLT → p9
open Int renaming reduceLE → p10, reduceLT → p11, reduceEq → p12
theorem spec_l01In.ctr {a0 : Int} {a1 : Int} {a2 : Int} {r : Bool} (h : spec_l01In.f a0 a1 a2 = some r) : Ctr Tryd.prog 35 [.v (.int .i64 a0), .v (.int .i64 a1), .v (.int .i64 a2)] (.v (.bool r)) := by
  refine Ctr_of tyOk hm Tryd.func35 rfl rfl (by kernel_rfl) (n := 12) (rv := [.tmp 6]) rfl rfl ?_
  simp only [W, List.replicate]
  unfold spec_l01In.f at h
  replace h := ifS h; rcases h with ⟨c1, h⟩ | ⟨c1, h⟩
  · cases h
    try simp only [W, c1, p1, p2, p3, p4, p5, p6, p7, p8, p9, p10, p11, p12]
  · cases h
    try simp only [W, c1, p1, p2, p3, p4, p5, p6, p7, p8, p9, p10, p11, p12]
set_option maxHeartbeats 8000000 in
set_option maxRecDepth 100000 in
theorem spec_l01In.calls (a0 : Int) (a1 : Int) (a2 : Int) (r : Bool) (w : World) (h : spec_l01In.f a0 a1 a2 = some r) :
  Calls Tryd.prog 35 #[.int .i64 a0, .int .i64 a1, .int .i64 a2] w fun e w' => e = .returned (.bool r) ∧ Drawn0 w w' := by
 have H : (if a0 ≥ a1 then (some (decide (a0 ≤ a2))) else (some false)) = some r := h
 clear h
 by_cases c4 : a0 ≥ a1
 ·rw [if_pos c4] at H
  have c4b0 : decide (a1 ≤ a0) = true := decide_eq_true c4
  clear c4
  obtain rfl := Option.some.inj H
  go_enter Tryd.func35, Tryd.ntmps35
  go_wp2
  go_ret
  exact ⟨by first | rfl | (simp; done) | (simp [*]; done), by repeat (first | exact Drawn0.refl _ | apply Drawn0.step)⟩
 ·rw [if_neg c4] at H
  have c4b0 : decide (a1 ≤ a0) = false := decide_eq_false c4
  clear c4
  obtain rfl := Option.some.inj H
  go_enter Tryd.func35, Tryd.ntmps35
  go_wp2
  go_ret
  exact ⟨by first | rfl | (simp; done) | (simp [*]; done), by repeat (first | exact Drawn0.refl _ | apply Drawn0.step)⟩
theorem dec_two {i : Nat} (h : i < 100) : (Go.Lib.decDigits i).toArray = if i < 10 then #[UInt8.ofNat (48 + i)] else #[UInt8.ofNat (48 + i / 10), UInt8.ofNat (48 + i % 10)] := by
  rw [Go.Lib.decDigits]
  by_cases q : i < 10
  · rw [dif_pos q, if_pos q]
  · rw [dif_neg q, if_neg q, Go.Lib.decDigits, dif_pos (by omega)]
    rfl
theorem strconv_Itoa.ctr {a0 : Int} {r : ByteArray} (h : strconv_Itoa.f a0 = some r) : Ctr Tryd.prog 73 [.v (.int .i64 a0)] (.v (.string r)) := by
  refine ⟨enters_of Tryd.func73 rfl rfl, fun w ys hgl hys => ?_⟩
  simp only [RepL, Rep] at hys
  obtain ⟨_, _, rfl, rfl, rfl⟩ := hys
  unfold strconv_Itoa.f at h
  split at h
  · rename_i q
    obtain rfl := Option.some.inj h
    obtain ⟨i, rfl⟩ : ∃ i : Nat, a0 = i := ⟨a0.toNat, by omega⟩
    refine (Any.strconv_Itoa_small { Tryd.laysIt with } i (by omega) w).mono ?_
    rintro e w' ⟨rfl, rfl⟩
    rw [dec_two (by omega), Int.toNat_natCast]
    exact ⟨_, [], rfl, by unfold RepR; exact ⟨rfl, rfl⟩, List.nodup_nil, Below.refl _ _⟩
  · split at h
    · rename_i q
      obtain rfl := Option.some.inj h
      refine (Any.strconv_Itoa Tryd.laysIt a0 q.1 q.2 w (Gl_tab hgl)).mono ?_
      rintro e w' ⟨rfl, k, os, rfl⟩
      exact ⟨_, [], rfl, by unfold RepR; exact ⟨rfl, rfl⟩, List.nodup_nil, Go.Lib.below_grow _ _ (Nat.le_refl _) _ _⟩
    · cases h
theorem impl_FormatInt.ctr {a0 : Int} {r : ByteArray} (h : impl_FormatInt.f a0 = some r) : Ctr Tryd.prog 44 [.v (.int .i64 a0)] (.v (.string r)) := by
  refine Ctr_of tyOk hm Tryd.func44 rfl rfl (by kernel_rfl) (n := 4) (rv := [.tmp 2]) rfl rfl ?_
  simp only [W, List.replicate]
  unfold impl_FormatInt.f at h
  replace h := bnd h; obtain ⟨t1, A, h⟩ := h
  try simp only [W, p1, p2, p3, p4, p5, p6, p7, p8, p9, p10, p11, p12]
  refine callR (strconv_Itoa.ctr A) ?_
  cases h
  try simp only [W, p1, p2, p3, p4, p5, p6, p7, p8, p9, p10, p11, p12]
end Go.Proofs.YtdjdleldocfpaaaDoor.F
end
