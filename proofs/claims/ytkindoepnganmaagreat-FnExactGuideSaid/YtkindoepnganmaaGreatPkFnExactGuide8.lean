/- Packed by a program of the session (wip/tools/pack.py): what the claim's theorem reaches, of the texts that wip/ and the kit's printer lay. -/
import Derived.Test.YtkindoepnganmaaGreatPkFnExactGuide7
import Derived.Laws.StructEq
section
namespace Go.Proofs.YtkindoepnganmaaGreat.F
open Go.RowKit Go.Proofs.YtkindoepnganmaaGreatW.PrintWords Go.Proofs.YtkindoepnganmaaGreatW.PrintLast Go.Proofs.YtkindoepnganmaaGreatW.PrintMore
set_option linter.unusedVariables false
set_option linter.unusedSimpArgs false
mutual
def laws_FnExactGuide.j0 : Nat → Int → Bool → Bool → Bool → Int → Int → Int → List Int → Int → Int → List Int → Int → Int → Int → Int → List Int → Int → Int → List Int → Int → Int → Int → Int → List Int → Int → Int → List Int → Int → Int → Int → Int → List Int → Int → Int → List Int → Int → Option (Bool)
  | 0, _, _, _, _, _, _, _, _, _, _, _, _, _, _, _, _, _, _, _, _, _, _, _, _, _, _, _, _, _, _, _, _, _, _, _, _ => none
  | k + 1, x1, x7, x10, x44, x1418000, x1418001, x1418002, x1418003, x1418004, x1418005, x1418006, x1418007, x1445000, x1445001, x1445002, x1445003, x1445004, x1445005, x1445006, x1445007, x1458000, x1458001, x1458002, x1458003, x1458004, x1458005, x1458006, x1458007, x1472000, x1472001, x1472002, x1472003, x1472004, x1472005, x1472006, x1472007 => if x44 = true then (some false) else ((laws_toGarden.f k x1418000 x1418001 x1418002 x1418003 x1418004 x1418005 x1418006 x1418007).bind fun bt1473 => ((laws_eqGarden.f k x1458000 x1458001 x1458002 x1458003 x1458004 x1458005 x1458006 x1458007 bt1473.1 bt1473.2.1 bt1473.2.2.1 bt1473.2.2.2.1 bt1473.2.2.2.2.1 bt1473.2.2.2.2.2.1 bt1473.2.2.2.2.2.2.1 bt1473.2.2.2.2.2.2.2).bind fun t1485 => (if t1485 = true then ((laws_markGarden.f k x1458000 x1458001 x1458002 x1458003 x1458004 x1458005 x1458006 x1458007 1).bind fun bt1486 => (if bt1486.1 < 0 then (laws_FnExactGuide.j1 k x1 x7 true x1418000 x1418001 x1418002 x1418003 x1418004 x1418005 x1418006 x1418007 x1445000 x1445001 x1445002 x1445003 x1445004 x1445005 x1445006 x1445007 x1472000 x1472001 x1472002 x1472003 x1472004 x1472005 x1472006 x1472007) else ((laws_eqGarden.f k x1472000 x1472001 x1472002 x1472003 x1472004 x1472005 x1472006 x1472007 x1445000 x1445001 x1445002 x1445003 x1445004 x1445005 x1445006 x1445007).bind fun t1489 => (if t1489 = true then (laws_FnExactGuide.j1 k x1 x7 (x10 != x7) x1418000 x1418001 x1418002 x1418003 x1418004 x1418005 x1418006 x1418007 x1445000 x1445001 x1445002 x1445003 x1445004 x1445005 x1445006 x1445007 x1472000 x1472001 x1472002 x1472003 x1472004 x1472005 x1472006 x1472007) else (laws_FnExactGuide.j1 k x1 x7 true x1418000 x1418001 x1418002 x1418003 x1418004 x1418005 x1418006 x1418007 x1445000 x1445001 x1445002 x1445003 x1445004 x1445005 x1445006 x1445007 x1472000 x1472001 x1472002 x1472003 x1472004 x1472005 x1472006 x1472007))))) else (some false))))
def laws_FnExactGuide.j1 : Nat → Int → Bool → Bool → Int → Int → Int → List Int → Int → Int → List Int → Int → Int → Int → Int → List Int → Int → Int → List Int → Int → Int → Int → Int → List Int → Int → Int → List Int → Int → Option (Bool)
  | 0, _, _, _, _, _, _, _, _, _, _, _, _, _, _, _, _, _, _, _, _, _, _, _, _, _, _, _ => none
  | k + 1, x1, x7, x65, x1418000, x1418001, x1418002, x1418003, x1418004, x1418005, x1418006, x1418007, x1445000, x1445001, x1445002, x1445003, x1445004, x1445005, x1445006, x1445007, x1472000, x1472001, x1472002, x1472003, x1472004, x1472005, x1472006, x1472007 => if x65 = true then (some false) else ((laws_markGarden.f k x1472000 x1472001 x1472002 x1472003 x1472004 x1472005 x1472006 x1472007 1).bind fun bt1490 => ((laws_heldGarden.f k x1472000 x1472001 x1472002 bt1490.2.1 x1472004 x1472005 bt1490.2.2 x1472007 1).bind fun t1493 => (if t1493 < 0 then (some false) else (if t1493 = bt1490.1 then ((laws_toGarden.f k x1418000 x1418001 x1418002 x1418003 x1418004 x1418005 x1418006 x1418007).bind fun bt1494 => ((impl_Guide.f k bt1494.1 bt1494.2.1 bt1494.2.2.1 bt1494.2.2.2.1 bt1494.2.2.2.2.1 bt1494.2.2.2.2.2.1 bt1494.2.2.2.2.2.2.1 bt1494.2.2.2.2.2.2.2 x1).bind fun bt1506 => ((laws_eqGarden.f k bt1506.1 bt1506.2.1 bt1506.2.2.1 bt1506.2.2.2.1 bt1506.2.2.2.2.1 bt1506.2.2.2.2.2.1 bt1506.2.2.2.2.2.2.1 bt1506.2.2.2.2.2.2.2.1 x1445000 x1445001 x1445002 x1445003 x1445004 x1445005 x1445006 x1445007).bind fun t1520 => (if t1520 = true then (laws_FnExactGuide.j2 k bt1490.1 (bt1506.2.2.2.2.2.2.2.2 != x7) x1472000 x1472001 x1472002 bt1490.2.1 x1472004 x1472005 bt1490.2.2 x1472007) else (laws_FnExactGuide.j2 k bt1490.1 true x1472000 x1472001 x1472002 bt1490.2.1 x1472004 x1472005 bt1490.2.2 x1472007))))) else (some false)))))
def laws_FnExactGuide.j2 : Nat → Int → Bool → Int → Int → Int → List Int → Int → Int → List Int → Int → Option (Bool)
  | 0, _, _, _, _, _, _, _, _, _, _ => none
  | k + 1, x12, x92, x1472000, x1472001, x1472002, x1472003, x1472004, x1472005, x1472006, x1472007 => if x92 = true then (some false) else ((laws_heldGarden.f k x1472000 x1472001 x1472002 x1472003 x1472004 x1472005 x1472006 x1472007 1).bind fun t1521 => (if t1521 < 0 then (some false) else (if t1521 = x12 then (some true) else (some false))))
end
def laws_FnExactGuide.f (k : Nat) (a0_0 : Int) (a0_1 : Int) (a0_2 : Int) (l0_3 : List Int) (a0_4 : Int) (a0_5 : Int) (l0_6 : List Int) (a0_7 : Int) (a1 : Int) : Option (Bool) := (laws_szGarden.f a0_0 a0_1 a0_2 l0_3 a0_4 a0_5 l0_6 a0_7 1048576).bind fun t1418 => (if t1418 < 0 then (some true) else ((laws_toGarden.f k a0_0 a0_1 a0_2 l0_3 a0_4 a0_5 l0_6 a0_7).bind fun bt1419 => ((spec_Guide.f k bt1419.1 bt1419.2.1 bt1419.2.2.1 bt1419.2.2.2.1 bt1419.2.2.2.2.1 bt1419.2.2.2.2.2.1 bt1419.2.2.2.2.2.2.1 bt1419.2.2.2.2.2.2.2 a1).bind fun bt1431 => ((laws_toGarden.f k a0_0 a0_1 a0_2 l0_3 a0_4 a0_5 l0_6 a0_7).bind fun bt1445 => ((impl_Guide.f k bt1445.1 bt1445.2.1 bt1445.2.2.1 bt1445.2.2.2.1 bt1445.2.2.2.2.1 bt1445.2.2.2.2.2.1 bt1445.2.2.2.2.2.2.1 bt1445.2.2.2.2.2.2.2 a1).bind fun bt1458 => ((laws_eqGarden.f k bt1458.1 bt1458.2.1 bt1458.2.2.1 bt1458.2.2.2.1 bt1458.2.2.2.2.1 bt1458.2.2.2.2.2.1 bt1458.2.2.2.2.2.2.1 bt1458.2.2.2.2.2.2.2.1 bt1431.1 bt1431.2.1 bt1431.2.2.1 bt1431.2.2.2.1 bt1431.2.2.2.2.1 bt1431.2.2.2.2.2.1 bt1431.2.2.2.2.2.2.1 bt1431.2.2.2.2.2.2.2.1).bind fun t1472 => (if t1472 = true then (laws_FnExactGuide.j0 k a1 bt1431.2.2.2.2.2.2.2.2 bt1458.2.2.2.2.2.2.2.2 (bt1458.2.2.2.2.2.2.2.2 != bt1431.2.2.2.2.2.2.2.2) a0_0 a0_1 a0_2 l0_3 a0_4 a0_5 l0_6 a0_7 bt1431.1 bt1431.2.1 bt1431.2.2.1 bt1431.2.2.2.1 bt1431.2.2.2.2.1 bt1431.2.2.2.2.2.1 bt1431.2.2.2.2.2.2.1 bt1431.2.2.2.2.2.2.2.1 bt1445.1 bt1445.2.1 bt1445.2.2.1 bt1445.2.2.2.1 bt1445.2.2.2.2.1 bt1445.2.2.2.2.2.1 bt1445.2.2.2.2.2.2.1 bt1445.2.2.2.2.2.2.2 bt1458.1 bt1458.2.1 bt1458.2.2.1 bt1458.2.2.2.1 bt1458.2.2.2.2.1 bt1458.2.2.2.2.2.1 bt1458.2.2.2.2.2.2.1 bt1458.2.2.2.2.2.2.2.1) else (laws_FnExactGuide.j0 k a1 bt1431.2.2.2.2.2.2.2.2 bt1458.2.2.2.2.2.2.2.2 true a0_0 a0_1 a0_2 l0_3 a0_4 a0_5 l0_6 a0_7 bt1431.1 bt1431.2.1 bt1431.2.2.1 bt1431.2.2.2.1 bt1431.2.2.2.2.1 bt1431.2.2.2.2.2.1 bt1431.2.2.2.2.2.2.1 bt1431.2.2.2.2.2.2.2.1 bt1445.1 bt1445.2.1 bt1445.2.2.1 bt1445.2.2.2.1 bt1445.2.2.2.2.1 bt1445.2.2.2.2.2.1 bt1445.2.2.2.2.2.2.1 bt1445.2.2.2.2.2.2.2 bt1458.1 bt1458.2.1 bt1458.2.2.1 bt1458.2.2.2.1 bt1458.2.2.2.2.1 bt1458.2.2.2.2.2.1 bt1458.2.2.2.2.2.2.1 bt1458.2.2.2.2.2.2.2.1))))))))
end Go.Proofs.YtkindoepnganmaaGreat.F
end

section
namespace Go.Proofs.YtkindoepnganmaaGreat.F
open Go.RowKit Go.Proofs.YtkindoepnganmaaGreatW.PrintWords Go.Proofs.YtkindoepnganmaaGreatW.PrintLast Go.Proofs.YtkindoepnganmaaGreatW.PrintMore
set_option linter.unusedVariables false
set_option linter.unusedSimpArgs false
attribute [local go_sem] max2_int min2_int max_two min_two
set_option maxHeartbeats 8000000 in
set_option maxRecDepth 100000 in
theorem laws_FnExactGuide.calls (k : Nat) (a0_0 : Int) (a0_1 : Int) (a0_2 : Int) (A0_3 : Option Addr) (c0_3 : Nat) (l0_3 : List Int) (a0_4 : Int) (a0_5 : Int) (A0_6 : Option Addr) (c0_6 : Nat) (l0_6 : List Int) (a0_7 : Int) (a1 : Int) (w : World) (hr0_3 : Kd.C (Kd.int .i64) w A0_3 l0_3.length l0_3) (hc0_3 : l0_3.length ≤ c0_3) (hr0_6 : Kd.C (Kd.int .i64) w A0_6 l0_6.length l0_6) (hc0_6 : l0_6.length ≤ c0_6) (h : laws_FnExactGuide.f k a0_0 a0_1 a0_2 l0_3 a0_4 a0_5 l0_6 a0_7 a1 = some true) :
  Calls Tryz.prog 7 #[.agg #[.int .i64 a0_0, .int .i64 a0_1, .int .i64 a0_2, .slice A0_3 l0_3.length c0_3, .int .i64 a0_4, .int .i64 a0_5, .slice A0_6 l0_6.length c0_6, .int .i64 a0_7], .int .i64 a1] w fun e w' => e = .returned (.bool true) ∧ Below w.heap.size w w' := by
 have hu30 := Tryz.underlying30
 have hu38 := Tryz.underlying38
 have HR0_3 := aK hr0_3
 have HC0_3 := aK hc0_3
 clear hr0_3 hc0_3
 have HR0_6 := aK hr0_6
 have HC0_6 := aK hc0_6
 clear hr0_6 hc0_6
 have HB := aK (Below.refl w.heap.size w)
 have H : ((laws_szGarden.f a0_0 a0_1 a0_2 l0_3 a0_4 a0_5 l0_6 a0_7 1048576).bind fun t1418 => (if t1418 < 0 then (some true) else ((laws_toGarden.f k a0_0 a0_1 a0_2 l0_3 a0_4 a0_5 l0_6 a0_7).bind fun bt1419 => ((spec_Guide.f k bt1419.1 bt1419.2.1 bt1419.2.2.1 bt1419.2.2.2.1 bt1419.2.2.2.2.1 bt1419.2.2.2.2.2.1 bt1419.2.2.2.2.2.2.1 bt1419.2.2.2.2.2.2.2 a1).bind fun bt1431 => ((laws_toGarden.f k a0_0 a0_1 a0_2 l0_3 a0_4 a0_5 l0_6 a0_7).bind fun bt1445 => ((impl_Guide.f k bt1445.1 bt1445.2.1 bt1445.2.2.1 bt1445.2.2.2.1 bt1445.2.2.2.2.1 bt1445.2.2.2.2.2.1 bt1445.2.2.2.2.2.2.1 bt1445.2.2.2.2.2.2.2 a1).bind fun bt1458 => ((laws_eqGarden.f k bt1458.1 bt1458.2.1 bt1458.2.2.1 bt1458.2.2.2.1 bt1458.2.2.2.2.1 bt1458.2.2.2.2.2.1 bt1458.2.2.2.2.2.2.1 bt1458.2.2.2.2.2.2.2.1 bt1431.1 bt1431.2.1 bt1431.2.2.1 bt1431.2.2.2.1 bt1431.2.2.2.2.1 bt1431.2.2.2.2.2.1 bt1431.2.2.2.2.2.2.1 bt1431.2.2.2.2.2.2.2.1).bind fun t1472 => (if t1472 = true then (laws_FnExactGuide.j0 k a1 bt1431.2.2.2.2.2.2.2.2 bt1458.2.2.2.2.2.2.2.2 (bt1458.2.2.2.2.2.2.2.2 != bt1431.2.2.2.2.2.2.2.2) a0_0 a0_1 a0_2 l0_3 a0_4 a0_5 l0_6 a0_7 bt1431.1 bt1431.2.1 bt1431.2.2.1 bt1431.2.2.2.1 bt1431.2.2.2.2.1 bt1431.2.2.2.2.2.1 bt1431.2.2.2.2.2.2.1 bt1431.2.2.2.2.2.2.2.1 bt1445.1 bt1445.2.1 bt1445.2.2.1 bt1445.2.2.2.1 bt1445.2.2.2.2.1 bt1445.2.2.2.2.2.1 bt1445.2.2.2.2.2.2.1 bt1445.2.2.2.2.2.2.2 bt1458.1 bt1458.2.1 bt1458.2.2.1 bt1458.2.2.2.1 bt1458.2.2.2.2.1 bt1458.2.2.2.2.2.1 bt1458.2.2.2.2.2.2.1 bt1458.2.2.2.2.2.2.2.1) else (laws_FnExactGuide.j0 k a1 bt1431.2.2.2.2.2.2.2.2 bt1458.2.2.2.2.2.2.2.2 true a0_0 a0_1 a0_2 l0_3 a0_4 a0_5 l0_6 a0_7 bt1431.1 bt1431.2.1 bt1431.2.2.1 bt1431.2.2.2.1 bt1431.2.2.2.2.1 bt1431.2.2.2.2.2.1 bt1431.2.2.2.2.2.2.1 bt1431.2.2.2.2.2.2.2.1 bt1445.1 bt1445.2.1 bt1445.2.2.1 bt1445.2.2.2.1 bt1445.2.2.2.2.1 bt1445.2.2.2.2.2.1 bt1445.2.2.2.2.2.2.1 bt1445.2.2.2.2.2.2.2 bt1458.1 bt1458.2.1 bt1458.2.2.1 bt1458.2.2.2.1 bt1458.2.2.2.2.1 bt1458.2.2.2.2.2.1 bt1458.2.2.2.2.2.2.1 bt1458.2.2.2.2.2.2.2.1))))))))) = some true := h
 clear h
 replace H := Option.bind_eq_some_iff.mp H
 obtain ⟨t1418, A30, H⟩ := H
 replace H : (if t1418 < 0 then (some true) else ((laws_toGarden.f k a0_0 a0_1 a0_2 l0_3 a0_4 a0_5 l0_6 a0_7).bind fun bt1419 => ((spec_Guide.f k bt1419.1 bt1419.2.1 bt1419.2.2.1 bt1419.2.2.2.1 bt1419.2.2.2.2.1 bt1419.2.2.2.2.2.1 bt1419.2.2.2.2.2.2.1 bt1419.2.2.2.2.2.2.2 a1).bind fun bt1431 => ((laws_toGarden.f k a0_0 a0_1 a0_2 l0_3 a0_4 a0_5 l0_6 a0_7).bind fun bt1445 => ((impl_Guide.f k bt1445.1 bt1445.2.1 bt1445.2.2.1 bt1445.2.2.2.1 bt1445.2.2.2.2.1 bt1445.2.2.2.2.2.1 bt1445.2.2.2.2.2.2.1 bt1445.2.2.2.2.2.2.2 a1).bind fun bt1458 => ((laws_eqGarden.f k bt1458.1 bt1458.2.1 bt1458.2.2.1 bt1458.2.2.2.1 bt1458.2.2.2.2.1 bt1458.2.2.2.2.2.1 bt1458.2.2.2.2.2.2.1 bt1458.2.2.2.2.2.2.2.1 bt1431.1 bt1431.2.1 bt1431.2.2.1 bt1431.2.2.2.1 bt1431.2.2.2.2.1 bt1431.2.2.2.2.2.1 bt1431.2.2.2.2.2.2.1 bt1431.2.2.2.2.2.2.2.1).bind fun t1472 => (if t1472 = true then (laws_FnExactGuide.j0 k a1 bt1431.2.2.2.2.2.2.2.2 bt1458.2.2.2.2.2.2.2.2 (bt1458.2.2.2.2.2.2.2.2 != bt1431.2.2.2.2.2.2.2.2) a0_0 a0_1 a0_2 l0_3 a0_4 a0_5 l0_6 a0_7 bt1431.1 bt1431.2.1 bt1431.2.2.1 bt1431.2.2.2.1 bt1431.2.2.2.2.1 bt1431.2.2.2.2.2.1 bt1431.2.2.2.2.2.2.1 bt1431.2.2.2.2.2.2.2.1 bt1445.1 bt1445.2.1 bt1445.2.2.1 bt1445.2.2.2.1 bt1445.2.2.2.2.1 bt1445.2.2.2.2.2.1 bt1445.2.2.2.2.2.2.1 bt1445.2.2.2.2.2.2.2 bt1458.1 bt1458.2.1 bt1458.2.2.1 bt1458.2.2.2.1 bt1458.2.2.2.2.1 bt1458.2.2.2.2.2.1 bt1458.2.2.2.2.2.2.1 bt1458.2.2.2.2.2.2.2.1) else (laws_FnExactGuide.j0 k a1 bt1431.2.2.2.2.2.2.2.2 bt1458.2.2.2.2.2.2.2.2 true a0_0 a0_1 a0_2 l0_3 a0_4 a0_5 l0_6 a0_7 bt1431.1 bt1431.2.1 bt1431.2.2.1 bt1431.2.2.2.1 bt1431.2.2.2.2.1 bt1431.2.2.2.2.2.1 bt1431.2.2.2.2.2.2.1 bt1431.2.2.2.2.2.2.2.1 bt1445.1 bt1445.2.1 bt1445.2.2.1 bt1445.2.2.2.1 bt1445.2.2.2.2.1 bt1445.2.2.2.2.2.1 bt1445.2.2.2.2.2.2.1 bt1445.2.2.2.2.2.2.2 bt1458.1 bt1458.2.1 bt1458.2.2.1 bt1458.2.2.2.1 bt1458.2.2.2.2.1 bt1458.2.2.2.2.2.1 bt1458.2.2.2.2.2.2.1 bt1458.2.2.2.2.2.2.2.1)))))))) = some true := H
 have A3 := aK A30
 clear A30
 by_cases c4 : t1418 < 0
 ·rw [if_pos c4] at H
  have c4b0 : decide (t1418 < 0) = true := decide_eq_true c4
  clear c4
  go_enter Tryz.func7, Tryz.ntmps7
  go_wp2_with (first | ((with_reducible refine gate_dst (N := 2) rfl ?_); refine box_event ?hg (N := 2) ?hd (cs := #[.int .i64 a0_0, .int .i64 a0_1, .int .i64 a0_2, .slice A0_3 l0_3.length c0_3, .int .i64 a0_4, .int .i64 a0_5, .slice A0_6 l0_6.length c0_6, .int .i64 a0_7]) (t := 30) ?hr ?_; (case hd => rfl); (case hg => rfl); (case hr => first | (go_simp; done) | (go_simp; rfl)); intro gb1417 hg w5 hbox hb; have BK1417 := aK (hbox); have GW1417 := aK ((by rw [hg]; exact (bSz (zH0 HB)) : w.heap.size ≤ gb1417)); replace HB := aK (bSp (zH0 HB) hb); have GE1417 := GW1417; clear hb hbox hg; obtain ⟨hcz6_0, hcz6_1, hcz6_2, hcz6_3, hcz6_4, hcz6_5, hcz6_6, hcz6_7, hfz6_0, hfz6_1, hfz6_2, hfz6_3, hfz6_4, hfz6_5, hfz6_6, hfz6_7⟩ := cl8 BK1417.out) | ((with_reducible refine gate_callee (f := 15) rfl ?_); refine goesL_ (some 18) rfl rfl Tryz.func15 (by kernel_rfl) rfl #[.agg #[.int .i64 a0_0, .int .i64 a0_1, .int .i64 a0_2, .slice A0_3 l0_3.length c0_3, .int .i64 a0_4, .int .i64 a0_5, .slice A0_6 l0_6.length c0_6, .int .i64 a0_7], .int .i64 1048576] rfl zD ?_; (with_reducible refine (laws_szGarden.calls a0_0 a0_1 a0_2 _ _ l0_3 a0_4 a0_5 _ _ l0_6 a0_7 1048576 t1418 _ ?side1 ?side2 ?side3 ?side4 A3.out).mono ?_); (case side1 => exact zC (Kd.C_below HR0_3.out HB.out)); (case side2 => exact HC0_3.out); (case side3 => exact zC (Kd.C_below HR0_6.out HB.out)); (case side4 => exact HC0_6.out); rintro e w7 ⟨rfl, hb⟩; refine ⟨_, rfl, ?_⟩; replace BK1417 := zB BK1417 hb; replace HB := aK (bSp (zH1 HB GE1417) hb); (try clear hb); (try clear hb2); (try clear hk); (try clear hi)))
  go_ret
  exact ⟨by first | rfl | (simp [errW_none, errW_some] <;> rfl) | (simp [*, errW_none, errW_some] <;> rfl), by repeat (first | (with_reducible first | exact HB.out | apply bAl | apply bDN | apply bD1 | refine bSt ?_ GE1417.out) | exact HB.out)⟩
 ·rw [if_neg c4] at H
  have c4b0 : decide (t1418 < 0) = false := decide_eq_false c4
  clear c4
  replace H := Option.bind_eq_some_iff.mp H
  obtain ⟨⟨t1419, t1420, t1421, t1422, t1425, t1426, t1427, t1430⟩, A80, H⟩ := H
  replace H : ((spec_Guide.f k t1419 t1420 t1421 t1422 t1425 t1426 t1427 t1430 a1).bind fun bt1431 => ((laws_toGarden.f k a0_0 a0_1 a0_2 l0_3 a0_4 a0_5 l0_6 a0_7).bind fun bt1445 => ((impl_Guide.f k bt1445.1 bt1445.2.1 bt1445.2.2.1 bt1445.2.2.2.1 bt1445.2.2.2.2.1 bt1445.2.2.2.2.2.1 bt1445.2.2.2.2.2.2.1 bt1445.2.2.2.2.2.2.2 a1).bind fun bt1458 => ((laws_eqGarden.f k bt1458.1 bt1458.2.1 bt1458.2.2.1 bt1458.2.2.2.1 bt1458.2.2.2.2.1 bt1458.2.2.2.2.2.1 bt1458.2.2.2.2.2.2.1 bt1458.2.2.2.2.2.2.2.1 bt1431.1 bt1431.2.1 bt1431.2.2.1 bt1431.2.2.2.1 bt1431.2.2.2.2.1 bt1431.2.2.2.2.2.1 bt1431.2.2.2.2.2.2.1 bt1431.2.2.2.2.2.2.2.1).bind fun t1472 => (if t1472 = true then (laws_FnExactGuide.j0 k a1 bt1431.2.2.2.2.2.2.2.2 bt1458.2.2.2.2.2.2.2.2 (bt1458.2.2.2.2.2.2.2.2 != bt1431.2.2.2.2.2.2.2.2) a0_0 a0_1 a0_2 l0_3 a0_4 a0_5 l0_6 a0_7 bt1431.1 bt1431.2.1 bt1431.2.2.1 bt1431.2.2.2.1 bt1431.2.2.2.2.1 bt1431.2.2.2.2.2.1 bt1431.2.2.2.2.2.2.1 bt1431.2.2.2.2.2.2.2.1 bt1445.1 bt1445.2.1 bt1445.2.2.1 bt1445.2.2.2.1 bt1445.2.2.2.2.1 bt1445.2.2.2.2.2.1 bt1445.2.2.2.2.2.2.1 bt1445.2.2.2.2.2.2.2 bt1458.1 bt1458.2.1 bt1458.2.2.1 bt1458.2.2.2.1 bt1458.2.2.2.2.1 bt1458.2.2.2.2.2.1 bt1458.2.2.2.2.2.2.1 bt1458.2.2.2.2.2.2.2.1) else (laws_FnExactGuide.j0 k a1 bt1431.2.2.2.2.2.2.2.2 bt1458.2.2.2.2.2.2.2.2 true a0_0 a0_1 a0_2 l0_3 a0_4 a0_5 l0_6 a0_7 bt1431.1 bt1431.2.1 bt1431.2.2.1 bt1431.2.2.2.1 bt1431.2.2.2.2.1 bt1431.2.2.2.2.2.1 bt1431.2.2.2.2.2.2.1 bt1431.2.2.2.2.2.2.2.1 bt1445.1 bt1445.2.1 bt1445.2.2.1 bt1445.2.2.2.1 bt1445.2.2.2.2.1 bt1445.2.2.2.2.2.1 bt1445.2.2.2.2.2.2.1 bt1445.2.2.2.2.2.2.2 bt1458.1 bt1458.2.1 bt1458.2.2.1 bt1458.2.2.2.1 bt1458.2.2.2.2.1 bt1458.2.2.2.2.2.1 bt1458.2.2.2.2.2.2.1 bt1458.2.2.2.2.2.2.2.1)))))) = some true := H
  have A8 := aK A80
  clear A80
  replace H := Option.bind_eq_some_iff.mp H
  obtain ⟨⟨t1431, t1432, t1433, t1434, t1437, t1438, t1439, t1442, t1443⟩, A90, H⟩ := H
  replace H : ((laws_toGarden.f k a0_0 a0_1 a0_2 l0_3 a0_4 a0_5 l0_6 a0_7).bind fun bt1445 => ((impl_Guide.f k bt1445.1 bt1445.2.1 bt1445.2.2.1 bt1445.2.2.2.1 bt1445.2.2.2.2.1 bt1445.2.2.2.2.2.1 bt1445.2.2.2.2.2.2.1 bt1445.2.2.2.2.2.2.2 a1).bind fun bt1458 => ((laws_eqGarden.f k bt1458.1 bt1458.2.1 bt1458.2.2.1 bt1458.2.2.2.1 bt1458.2.2.2.2.1 bt1458.2.2.2.2.2.1 bt1458.2.2.2.2.2.2.1 bt1458.2.2.2.2.2.2.2.1 t1431 t1432 t1433 t1434 t1437 t1438 t1439 t1442).bind fun t1472 => (if t1472 = true then (laws_FnExactGuide.j0 k a1 t1443 bt1458.2.2.2.2.2.2.2.2 (bt1458.2.2.2.2.2.2.2.2 != t1443) a0_0 a0_1 a0_2 l0_3 a0_4 a0_5 l0_6 a0_7 t1431 t1432 t1433 t1434 t1437 t1438 t1439 t1442 bt1445.1 bt1445.2.1 bt1445.2.2.1 bt1445.2.2.2.1 bt1445.2.2.2.2.1 bt1445.2.2.2.2.2.1 bt1445.2.2.2.2.2.2.1 bt1445.2.2.2.2.2.2.2 bt1458.1 bt1458.2.1 bt1458.2.2.1 bt1458.2.2.2.1 bt1458.2.2.2.2.1 bt1458.2.2.2.2.2.1 bt1458.2.2.2.2.2.2.1 bt1458.2.2.2.2.2.2.2.1) else (laws_FnExactGuide.j0 k a1 t1443 bt1458.2.2.2.2.2.2.2.2 true a0_0 a0_1 a0_2 l0_3 a0_4 a0_5 l0_6 a0_7 t1431 t1432 t1433 t1434 t1437 t1438 t1439 t1442 bt1445.1 bt1445.2.1 bt1445.2.2.1 bt1445.2.2.2.1 bt1445.2.2.2.2.1 bt1445.2.2.2.2.2.1 bt1445.2.2.2.2.2.2.1 bt1445.2.2.2.2.2.2.2 bt1458.1 bt1458.2.1 bt1458.2.2.1 bt1458.2.2.2.1 bt1458.2.2.2.2.1 bt1458.2.2.2.2.2.1 bt1458.2.2.2.2.2.2.1 bt1458.2.2.2.2.2.2.2.1))))) = some true := H
  have A9 := aK A90
  clear A90
  replace H := Option.bind_eq_some_iff.mp H
  obtain ⟨⟨t1445, t1446, t1447, t1448, t1451, t1452, t1453, t1456⟩, A100, H⟩ := H
  replace H : ((impl_Guide.f k t1445 t1446 t1447 t1448 t1451 t1452 t1453 t1456 a1).bind fun bt1458 => ((laws_eqGarden.f k bt1458.1 bt1458.2.1 bt1458.2.2.1 bt1458.2.2.2.1 bt1458.2.2.2.2.1 bt1458.2.2.2.2.2.1 bt1458.2.2.2.2.2.2.1 bt1458.2.2.2.2.2.2.2.1 t1431 t1432 t1433 t1434 t1437 t1438 t1439 t1442).bind fun t1472 => (if t1472 = true then (laws_FnExactGuide.j0 k a1 t1443 bt1458.2.2.2.2.2.2.2.2 (bt1458.2.2.2.2.2.2.2.2 != t1443) a0_0 a0_1 a0_2 l0_3 a0_4 a0_5 l0_6 a0_7 t1431 t1432 t1433 t1434 t1437 t1438 t1439 t1442 t1445 t1446 t1447 t1448 t1451 t1452 t1453 t1456 bt1458.1 bt1458.2.1 bt1458.2.2.1 bt1458.2.2.2.1 bt1458.2.2.2.2.1 bt1458.2.2.2.2.2.1 bt1458.2.2.2.2.2.2.1 bt1458.2.2.2.2.2.2.2.1) else (laws_FnExactGuide.j0 k a1 t1443 bt1458.2.2.2.2.2.2.2.2 true a0_0 a0_1 a0_2 l0_3 a0_4 a0_5 l0_6 a0_7 t1431 t1432 t1433 t1434 t1437 t1438 t1439 t1442 t1445 t1446 t1447 t1448 t1451 t1452 t1453 t1456 bt1458.1 bt1458.2.1 bt1458.2.2.1 bt1458.2.2.2.1 bt1458.2.2.2.2.1 bt1458.2.2.2.2.2.1 bt1458.2.2.2.2.2.2.1 bt1458.2.2.2.2.2.2.2.1)))) = some true := H
  have A10 := aK A100
  clear A100
  replace H := Option.bind_eq_some_iff.mp H
  obtain ⟨⟨t1458, t1459, t1460, t1461, t1464, t1465, t1466, t1469, t1470⟩, A110, H⟩ := H
  replace H : ((laws_eqGarden.f k t1458 t1459 t1460 t1461 t1464 t1465 t1466 t1469 t1431 t1432 t1433 t1434 t1437 t1438 t1439 t1442).bind fun t1472 => (if t1472 = true then (laws_FnExactGuide.j0 k a1 t1443 t1470 (t1470 != t1443) a0_0 a0_1 a0_2 l0_3 a0_4 a0_5 l0_6 a0_7 t1431 t1432 t1433 t1434 t1437 t1438 t1439 t1442 t1445 t1446 t1447 t1448 t1451 t1452 t1453 t1456 t1458 t1459 t1460 t1461 t1464 t1465 t1466 t1469) else (laws_FnExactGuide.j0 k a1 t1443 t1470 true a0_0 a0_1 a0_2 l0_3 a0_4 a0_5 l0_6 a0_7 t1431 t1432 t1433 t1434 t1437 t1438 t1439 t1442 t1445 t1446 t1447 t1448 t1451 t1452 t1453 t1456 t1458 t1459 t1460 t1461 t1464 t1465 t1466 t1469))) = some true := H
  have A11 := aK A110
  clear A110
  have HC12 := aK H
  clear H
  go_enter Tryz.func7, Tryz.ntmps7
  go_upto_region 8 with (first | ((with_reducible refine gate_dst (N := 2) rfl ?_); refine box_event ?hg (N := 2) ?hd (cs := #[.int .i64 a0_0, .int .i64 a0_1, .int .i64 a0_2, .slice A0_3 l0_3.length c0_3, .int .i64 a0_4, .int .i64 a0_5, .slice A0_6 l0_6.length c0_6, .int .i64 a0_7]) (t := 30) ?hr ?_; (case hd => rfl); (case hg => rfl); (case hr => first | (go_simp; done) | (go_simp; rfl)); intro gb1417 hg w13 hbox hb; have BK1417 := aK (hbox); have GW1417 := aK ((by rw [hg]; exact (bSz (zH0 HB)) : w.heap.size ≤ gb1417)); replace HB := aK (bSp (zH0 HB) hb); have GE1417 := GW1417; clear hb hbox hg; obtain ⟨hcz14_0, hcz14_1, hcz14_2, hcz14_3, hcz14_4, hcz14_5, hcz14_6, hcz14_7, hfz14_0, hfz14_1, hfz14_2, hfz14_3, hfz14_4, hfz14_5, hfz14_6, hfz14_7⟩ := cl8 BK1417.out) | ((with_reducible refine gate_callee (f := 15) rfl ?_); refine goesL_ (some 18) rfl rfl Tryz.func15 (by kernel_rfl) rfl #[.agg #[.int .i64 a0_0, .int .i64 a0_1, .int .i64 a0_2, .slice A0_3 l0_3.length c0_3, .int .i64 a0_4, .int .i64 a0_5, .slice A0_6 l0_6.length c0_6, .int .i64 a0_7], .int .i64 1048576] rfl zD ?_; (with_reducible refine (laws_szGarden.calls a0_0 a0_1 a0_2 _ _ l0_3 a0_4 a0_5 _ _ l0_6 a0_7 1048576 t1418 _ ?side1 ?side2 ?side3 ?side4 A3.out).mono ?_); (case side1 => exact zC (Kd.C_below HR0_3.out HB.out)); (case side2 => exact HC0_3.out); (case side3 => exact zC (Kd.C_below HR0_6.out HB.out)); (case side4 => exact HC0_6.out); rintro e w15 ⟨rfl, hb⟩; refine ⟨_, rfl, ?_⟩; replace BK1417 := zB BK1417 hb; replace HB := aK (bSp (zH1 HB GE1417) hb); (try clear hb); (try clear hb2); (try clear hk); (try clear hi); obtain ⟨hcz16_0, hcz16_1, hcz16_2, hcz16_3, hcz16_4, hcz16_5, hcz16_6, hcz16_7, hfz16_0, hfz16_1, hfz16_2, hfz16_3, hfz16_4, hfz16_5, hfz16_6, hfz16_7⟩ := cl8 BK1417.out) | ((with_reducible refine gate_callee (f := 17) rfl ?_); refine goesL_ (some 23) rfl rfl Tryz.func17 (by kernel_rfl) rfl #[.agg #[.int .i64 a0_0, .int .i64 a0_1, .int .i64 a0_2, .slice A0_3 l0_3.length c0_3, .int .i64 a0_4, .int .i64 a0_5, .slice A0_6 l0_6.length c0_6, .int .i64 a0_7]] rfl zD ?_; (with_reducible refine (laws_toGarden.calls k a0_0 a0_1 a0_2 _ _ l0_3 a0_4 a0_5 _ _ l0_6 a0_7 t1419 t1420 t1421 t1422 t1425 t1426 t1427 t1430 _ ?side1 ?side2 ?side3 ?side4 A8.out).mono ?_); (case side1 => exact zC (Kd.C_below HR0_3.out HB.out)); (case side2 => exact HC0_3.out); (case side3 => exact zC (Kd.C_below HR0_6.out HB.out)); (case side4 => exact HC0_6.out); rintro e w17 ⟨v1423, v1428, rfl, ho0, ho1, hb⟩; refine ⟨_, rfl, ?_⟩; have HO1424 := aK (Kd.R_lower ho0 (bSz (zH1 HB GE1417))); have HO1429 := aK (Kd.R_lower ho1 (bSz (zH1 HB GE1417))); replace BK1417 := zB BK1417 hb; replace HB := aK (bSp (zH1 HB GE1417) hb); (try clear hb); (try clear hb2); (try clear hk); (try clear hi); (try clear ho0); (try clear ho1); obtain ⟨Ao18, co18, eo18⟩ := Kd.R_slice HO1424.out; subst eo18; obtain ⟨Ao19, co19, eo19⟩ := Kd.R_slice HO1429.out; subst eo19) | ((with_reducible refine gate_callee (f := 28) rfl ?_); refine goesL_ (some 25) rfl rfl Tryz.func28 (by kernel_rfl) rfl #[.agg #[.int .i64 t1419, .int .i64 t1420, .int .i64 t1421, .slice Ao18 t1422.length co18, .int .i64 t1425, .int .i64 t1426, .slice Ao19 t1427.length co19, .int .i64 t1430], .int .i64 a1] rfl zD ?_; (with_reducible refine (spec_Guide.calls k t1419 t1420 t1421 _ _ t1422 t1425 t1426 _ _ t1427 t1430 a1 t1431 t1432 t1433 t1434 t1437 t1438 t1439 t1442 t1443 _ ?side1 ?side2 ?side3 ?side4 A9.out).mono ?_); (case side1 => exact zC (Kd.R_reads' HO1424.out).2.2); (case side2 => exact (Kd.R_reads' HO1424.out).2.1); (case side3 => exact zC (Kd.R_reads' HO1429.out).2.2); (case side4 => exact (Kd.R_reads' HO1429.out).2.1); rintro e w20 ⟨v1435, v1440, rfl, ho0, ho1, hb⟩; refine ⟨_, rfl, ?_⟩; have HO1436 := aK (Kd.R_lower (Kd.R_new' (Kd.R_new' ho0 (Kd.R_lt (zA HO1424))) (Kd.R_lt (zA HO1429))) (bSz (zH1 HB GE1417))); have HO1441 := aK (Kd.R_lower (Kd.R_new' (Kd.R_new' ho1 (Kd.R_lt (zA HO1424))) (Kd.R_lt (zA HO1429))) (bSz (zH1 HB GE1417))); replace HO1424 := aK (Kd.R_mono (Kd.R_told (Kd.R_told (Kd.R_old (zA HO1424) hb) (Kd.R_base ho0)) (Kd.R_base ho1)) (fun _ h_ => h_.1)); replace HO1429 := aK (Kd.R_mono (Kd.R_told (Kd.R_told (Kd.R_old (zA HO1429) hb) (Kd.R_base ho0)) (Kd.R_base ho1)) (fun _ h_ => h_.1)); replace BK1417 := zB BK1417 hb; replace HB := aK (bSp (zH1 HB GE1417) hb); (try clear hb); (try clear hb2); (try clear hk); (try clear hi); (try clear ho0); (try clear ho1)) | ((with_reducible refine gate_dst (N := 6) rfl ?_); refine box_event ?hg (N := 6) ?hd (cs := #[.int .i64 0, .int .i64 0, .int .i64 0, .slice none 0 0, .int .i64 0, .int .i64 0, .slice none 0 0, .int .i64 0]) (t := 38) ?hr ?_; (case hd => rfl); (case hg => rfl); (case hr => first | (go_simp; done) | (go_simp; rfl)); intro gb1444 hg w21 hbox hb; replace HO1424 := aK (Kd.R_below (zA HO1424) hb); replace HO1429 := aK (Kd.R_below (zA HO1429) hb); replace HO1436 := aK (Kd.R_below (zA HO1436) hb); replace HO1441 := aK (Kd.R_below (zA HO1441) hb); have BK1444 := aK (hbox); have GW1444 := aK ((by rw [hg]; exact (bSz (zH1 HB GE1417)) : w.heap.size ≤ gb1444)); replace HB := aK (bSp (zH1 HB GE1417) hb); have GE1444 := GW1444; have NB1417_1444 := nbl BK1417 hg (by intro z_; (with_reducible repeat (first | refine blk_drewN ?_ _ | refine kD ?_ | refine kA ?_ _)); exact z_); replace BK1417 := zB BK1417 hb; have NB1444_1417 := nbs NB1417_1444; clear hb hbox hg; have hnb22 := NB1444_1417.out; have hnc22 := NB1417_1444.out; obtain ⟨hcz23_0, hcz23_1, hcz23_2, hcz23_3, hcz23_4, hcz23_5, hcz23_6, hcz23_7, hfz23_0, hfz23_1, hfz23_2, hfz23_3, hfz23_4, hfz23_5, hfz23_6, hfz23_7⟩ := cl8 BK1444.out; obtain ⟨Ao24, co24, eo24⟩ := Kd.R_slice HO1436.out; subst eo24; obtain ⟨Ao25, co25, eo25⟩ := Kd.R_slice HO1441.out; subst eo25; obtain ⟨hcz26_0, hcz26_1, hcz26_2, hcz26_3, hcz26_4, hcz26_5, hcz26_6, hcz26_7, hfz26_0, hfz26_1, hfz26_2, hfz26_3, hfz26_4, hfz26_5, hfz26_6, hfz26_7⟩ := cl8 BK1417.out) | ((with_reducible refine gate_callee (f := 17) rfl ?_); refine goesL_ (some 29) rfl rfl Tryz.func17 (by kernel_rfl) rfl #[.agg #[.int .i64 a0_0, .int .i64 a0_1, .int .i64 a0_2, .slice A0_3 l0_3.length c0_3, .int .i64 a0_4, .int .i64 a0_5, .slice A0_6 l0_6.length c0_6, .int .i64 a0_7]] rfl zD ?_; (with_reducible refine (laws_toGarden.calls k a0_0 a0_1 a0_2 _ _ l0_3 a0_4 a0_5 _ _ l0_6 a0_7 t1445 t1446 t1447 t1448 t1451 t1452 t1453 t1456 _ ?side1 ?side2 ?side3 ?side4 A10.out).mono ?_); (case side1 => exact Kd.C_below HR0_3.out (zH2 HB GE1417 GE1444)); (case side2 => exact HC0_3.out); (case side3 => exact Kd.C_below HR0_6.out (zH2 HB GE1417 GE1444)); (case side4 => exact HC0_6.out); rintro e w27 ⟨v1449, v1454, rfl, ho0, ho1, hb⟩; refine ⟨_, rfl, ?_⟩; have HO1450 := aK (Kd.R_lower (Kd.R_new' (Kd.R_new' (Kd.R_new' (Kd.R_new' ho0 (Kd.R_lt (zF8 HO1424 BK1444))) (Kd.R_lt (zF8 HO1429 BK1444))) (Kd.R_lt (zF8 HO1436 BK1444))) (Kd.R_lt (zF8 HO1441 BK1444))) (bSz (zH2 HB GE1417 GE1444))); have HO1455 := aK (Kd.R_lower (Kd.R_new' (Kd.R_new' (Kd.R_new' (Kd.R_new' ho1 (Kd.R_lt (zF8 HO1424 BK1444))) (Kd.R_lt (zF8 HO1429 BK1444))) (Kd.R_lt (zF8 HO1436 BK1444))) (Kd.R_lt (zF8 HO1441 BK1444))) (bSz (zH2 HB GE1417 GE1444))); replace HO1424 := aK (Kd.R_mono (Kd.R_told (Kd.R_told (Kd.R_old (zF8 HO1424 BK1444) hb) (Kd.R_base ho0)) (Kd.R_base ho1)) (fun _ h_ => h_.1)); replace HO1429 := aK (Kd.R_mono (Kd.R_told (Kd.R_told (Kd.R_old (zF8 HO1429 BK1444) hb) (Kd.R_base ho0)) (Kd.R_base ho1)) (fun _ h_ => h_.1)); replace HO1436 := aK (Kd.R_mono (Kd.R_told (Kd.R_told (Kd.R_old (zF8 HO1436 BK1444) hb) (Kd.R_base ho0)) (Kd.R_base ho1)) (fun _ h_ => h_.1)); replace HO1441 := aK (Kd.R_mono (Kd.R_told (Kd.R_told (Kd.R_old (zF8 HO1441 BK1444) hb) (Kd.R_base ho0)) (Kd.R_base ho1)) (fun _ h_ => h_.1)); replace BK1417 := zG8 BK1417 NB1417_1444 hb; replace BK1444 := aK (blk_below (g := gb1444) (o := .cells #[.int .i64 t1431, .int .i64 t1432, .int .i64 t1433, .slice Ao24 t1434.length co24, .int .i64 t1437, .int .i64 t1438, .slice Ao25 t1439.length co25, .int .i64 t1442] 38 (0, 0)) (by (with_reducible repeat (first | refine blk_drewN ?_ _ | refine kD ?_ | refine kA ?_ _)); refine blk_put (cs := #[.int .i64 t1431, .int .i64 t1432, .int .i64 t1433, .slice Ao24 t1434.length co24, .int .i64 t1437, .int .i64 t1438, .slice Ao25 t1439.length co25, .int .i64 0]) ?_ 7 _ rfl; (with_reducible repeat (first | refine blk_drewN ?_ _ | refine kD ?_ | refine kA ?_ _)); refine blk_put (cs := #[.int .i64 t1431, .int .i64 t1432, .int .i64 t1433, .slice Ao24 t1434.length co24, .int .i64 t1437, .int .i64 t1438, .slice none 0 0, .int .i64 0]) ?_ 6 _ rfl; (with_reducible repeat (first | refine blk_drewN ?_ _ | refine kD ?_ | refine kA ?_ _)); refine blk_put (cs := #[.int .i64 t1431, .int .i64 t1432, .int .i64 t1433, .slice Ao24 t1434.length co24, .int .i64 t1437, .int .i64 0, .slice none 0 0, .int .i64 0]) ?_ 5 _ rfl; (with_reducible repeat (first | refine blk_drewN ?_ _ | refine kD ?_ | refine kA ?_ _)); refine blk_put (cs := #[.int .i64 t1431, .int .i64 t1432, .int .i64 t1433, .slice Ao24 t1434.length co24, .int .i64 0, .int .i64 0, .slice none 0 0, .int .i64 0]) ?_ 4 _ rfl; (with_reducible repeat (first | refine blk_drewN ?_ _ | refine kD ?_ | refine kA ?_ _)); refine blk_put (cs := #[.int .i64 t1431, .int .i64 t1432, .int .i64 t1433, .slice none 0 0, .int .i64 0, .int .i64 0, .slice none 0 0, .int .i64 0]) ?_ 3 _ rfl; (with_reducible repeat (first | refine blk_drewN ?_ _ | refine kD ?_ | refine kA ?_ _)); refine blk_put (cs := #[.int .i64 t1431, .int .i64 t1432, .int .i64 0, .slice none 0 0, .int .i64 0, .int .i64 0, .slice none 0 0, .int .i64 0]) ?_ 2 _ rfl; (with_reducible repeat (first | refine blk_drewN ?_ _ | refine kD ?_ | refine kA ?_ _)); refine blk_put (cs := #[.int .i64 t1431, .int .i64 0, .int .i64 0, .slice none 0 0, .int .i64 0, .int .i64 0, .slice none 0 0, .int .i64 0]) ?_ 1 _ rfl; (with_reducible repeat (first | refine blk_drewN ?_ _ | refine kD ?_ | refine kA ?_ _)); refine blk_put (cs := #[.int .i64 0, .int .i64 0, .int .i64 0, .slice none 0 0, .int .i64 0, .int .i64 0, .slice none 0 0, .int .i64 0]) ?_ 0 _ rfl; (with_reducible repeat (first | refine blk_drewN ?_ _ | refine kD ?_ | refine kA ?_ _)); exact BK1444.out) hb); replace HB := aK (bSp (zH2 HB GE1417 GE1444) hb); (try clear hb); (try clear hb2); (try clear hk); (try clear hi); (try clear ho0); (try clear ho1)) | ((with_reducible refine gate_dst (N := 8) rfl ?_); refine box_event ?hg (N := 8) ?hd (cs := #[.int .i64 0, .int .i64 0, .int .i64 0, .slice none 0 0, .int .i64 0, .int .i64 0, .slice none 0 0, .int .i64 0]) (t := 38) ?hr ?_; (case hd => rfl); (case hg => rfl); (case hr => first | (go_simp; done) | (go_simp; rfl)); intro gb1457 hg w28 hbox hb; replace HO1424 := aK (Kd.R_below (zA HO1424) hb); replace HO1429 := aK (Kd.R_below (zA HO1429) hb); replace HO1436 := aK (Kd.R_below (zA HO1436) hb); replace HO1441 := aK (Kd.R_below (zA HO1441) hb); replace HO1450 := aK (Kd.R_below (zA HO1450) hb); replace HO1455 := aK (Kd.R_below (zA HO1455) hb); have BK1457 := aK (hbox); have GW1457 := aK ((by rw [hg]; exact (bSz (zH2 HB GE1417 GE1444)) : w.heap.size ≤ gb1457)); replace HB := aK (bSp (zH2 HB GE1417 GE1444) hb); have GE1457 := GW1457; have NB1417_1457 := nbl BK1417 hg (by intro z_; (with_reducible repeat (first | refine blk_drewN ?_ _ | refine kD ?_ | refine kA ?_ _)); exact z_); replace BK1417 := zB BK1417 hb; have NB1457_1417 := nbs NB1417_1457; have NB1444_1457 := nbl BK1444 hg (by intro z_; (with_reducible repeat (first | refine blk_drewN ?_ _ | refine kD ?_ | refine kA ?_ _)); exact z_); replace BK1444 := zB BK1444 hb; have NB1457_1444 := nbs NB1444_1457; clear hb hbox hg; have hnb29 := NB1457_1417.out; have hnc29 := NB1417_1457.out; have hnb30 := NB1457_1444.out; have hnc30 := NB1444_1457.out; obtain ⟨hcz31_0, hcz31_1, hcz31_2, hcz31_3, hcz31_4, hcz31_5, hcz31_6, hcz31_7, hfz31_0, hfz31_1, hfz31_2, hfz31_3, hfz31_4, hfz31_5, hfz31_6, hfz31_7⟩ := cl8 BK1457.out; obtain ⟨Ao32, co32, eo32⟩ := Kd.R_slice HO1450.out; subst eo32; obtain ⟨Ao33, co33, eo33⟩ := Kd.R_slice HO1455.out; subst eo33) | ((with_reducible refine gate_callee (f := 29) rfl ?_); refine goesL_ (some 33) rfl rfl Tryz.func29 (by kernel_rfl) rfl #[.agg #[.int .i64 t1445, .int .i64 t1446, .int .i64 t1447, .slice Ao32 t1448.length co32, .int .i64 t1451, .int .i64 t1452, .slice Ao33 t1453.length co33, .int .i64 t1456], .int .i64 a1] rfl zD ?_; (with_reducible refine (impl_Guide.calls k t1445 t1446 t1447 _ _ t1448 t1451 t1452 _ _ t1453 t1456 a1 t1458 t1459 t1460 t1461 t1464 t1465 t1466 t1469 t1470 _ ?side1 ?side2 ?side3 ?side4 A11.out).mono ?_); (case side1 => refine (Kd.R_reads' (e := 3) (base := w.heap.size) (ok := fun k_ => ((((some k_ ≠ (.slice Ao33 t1453.length co33 : Value).ownBlock ∧ some k_ ≠ (.slice Ao18 t1422.length co18 : Value).ownBlock) ∧ some k_ ≠ (.slice Ao19 t1427.length co19 : Value).ownBlock) ∧ some k_ ≠ (.slice Ao24 t1434.length co24 : Value).ownBlock) ∧ some k_ ≠ (.slice Ao25 t1439.length co25 : Value).ownBlock)) (n := t1448.length) (c := co32) ?_).2.2; exact (zF8 HO1450 BK1457)); (case side2 => exact (Kd.R_reads' HO1450.out).2.1); (case side3 => refine (Kd.R_reads' (e := 3) (base := w.heap.size) (ok := fun k_ => ((((some k_ ≠ (.slice Ao32 t1448.length co32 : Value).ownBlock ∧ some k_ ≠ (.slice Ao18 t1422.length co18 : Value).ownBlock) ∧ some k_ ≠ (.slice Ao19 t1427.length co19 : Value).ownBlock) ∧ some k_ ≠ (.slice Ao24 t1434.length co24 : Value).ownBlock) ∧ some k_ ≠ (.slice Ao25 t1439.length co25 : Value).ownBlock)) (n := t1453.length) (c := co33) ?_).2.2; exact (zF8 HO1455 BK1457)); (case side4 => exact (Kd.R_reads' HO1455.out).2.1); rintro e w34 ⟨v1462, v1467, rfl, ho0, ho1, hb⟩; refine ⟨_, rfl, ?_⟩; have HO1463 := aK (Kd.R_lower (Kd.R_new' (Kd.R_new' (Kd.R_new' (Kd.R_new' (Kd.R_new' (Kd.R_new' ho0 (Kd.R_lt (zF8 HO1424 BK1457))) (Kd.R_lt (zF8 HO1429 BK1457))) (Kd.R_lt (zF8 HO1436 BK1457))) (Kd.R_lt (zF8 HO1441 BK1457))) (Kd.R_lt (zF8 HO1450 BK1457))) (Kd.R_lt (zF8 HO1455 BK1457))) (bSz (zH3 HB GE1417 GE1444 GE1457))); have HO1468 := aK (Kd.R_lower (Kd.R_new' (Kd.R_new' (Kd.R_new' (Kd.R_new' (Kd.R_new' (Kd.R_new' ho1 (Kd.R_lt (zF8 HO1424 BK1457))) (Kd.R_lt (zF8 HO1429 BK1457))) (Kd.R_lt (zF8 HO1436 BK1457))) (Kd.R_lt (zF8 HO1441 BK1457))) (Kd.R_lt (zF8 HO1450 BK1457))) (Kd.R_lt (zF8 HO1455 BK1457))) (bSz (zH3 HB GE1417 GE1444 GE1457))); replace HO1424 := aK (Kd.R_mono (Kd.R_told (Kd.R_told (Kd.R_old (zF8 HO1424 BK1457) hb) (Kd.R_base ho0)) (Kd.R_base ho1)) (fun _ h_ => h_.1)); replace HO1429 := aK (Kd.R_mono (Kd.R_told (Kd.R_told (Kd.R_old (zF8 HO1429 BK1457) hb) (Kd.R_base ho0)) (Kd.R_base ho1)) (fun _ h_ => h_.1)); replace HO1436 := aK (Kd.R_mono (Kd.R_told (Kd.R_told (Kd.R_old (zF8 HO1436 BK1457) hb) (Kd.R_base ho0)) (Kd.R_base ho1)) (fun _ h_ => h_.1)); replace HO1441 := aK (Kd.R_mono (Kd.R_told (Kd.R_told (Kd.R_old (zF8 HO1441 BK1457) hb) (Kd.R_base ho0)) (Kd.R_base ho1)) (fun _ h_ => h_.1)); replace HO1450 := aK (Kd.R_mono (Kd.R_told (Kd.R_told (Kd.R_old (zF8 HO1450 BK1457) hb) (Kd.R_base ho0)) (Kd.R_base ho1)) (fun _ h_ => h_.1)); replace HO1455 := aK (Kd.R_mono (Kd.R_told (Kd.R_told (Kd.R_old (zF8 HO1455 BK1457) hb) (Kd.R_base ho0)) (Kd.R_base ho1)) (fun _ h_ => h_.1)); replace BK1417 := zG8 BK1417 NB1417_1457 hb; replace BK1444 := zG8 BK1444 NB1444_1457 hb; replace BK1457 := aK (blk_below (g := gb1457) (o := .cells #[.int .i64 t1445, .int .i64 t1446, .int .i64 t1447, .slice Ao32 t1448.length co32, .int .i64 t1451, .int .i64 t1452, .slice Ao33 t1453.length co33, .int .i64 t1456] 38 (0, 0)) (by (with_reducible repeat (first | refine blk_drewN ?_ _ | refine kD ?_ | refine kA ?_ _)); refine blk_put (cs := #[.int .i64 t1445, .int .i64 t1446, .int .i64 t1447, .slice Ao32 t1448.length co32, .int .i64 t1451, .int .i64 t1452, .slice Ao33 t1453.length co33, .int .i64 0]) ?_ 7 _ rfl; (with_reducible repeat (first | refine blk_drewN ?_ _ | refine kD ?_ | refine kA ?_ _)); refine blk_put (cs := #[.int .i64 t1445, .int .i64 t1446, .int .i64 t1447, .slice Ao32 t1448.length co32, .int .i64 t1451, .int .i64 t1452, .slice none 0 0, .int .i64 0]) ?_ 6 _ rfl; (with_reducible repeat (first | refine blk_drewN ?_ _ | refine kD ?_ | refine kA ?_ _)); refine blk_put (cs := #[.int .i64 t1445, .int .i64 t1446, .int .i64 t1447, .slice Ao32 t1448.length co32, .int .i64 t1451, .int .i64 0, .slice none 0 0, .int .i64 0]) ?_ 5 _ rfl; (with_reducible repeat (first | refine blk_drewN ?_ _ | refine kD ?_ | refine kA ?_ _)); refine blk_put (cs := #[.int .i64 t1445, .int .i64 t1446, .int .i64 t1447, .slice Ao32 t1448.length co32, .int .i64 0, .int .i64 0, .slice none 0 0, .int .i64 0]) ?_ 4 _ rfl; (with_reducible repeat (first | refine blk_drewN ?_ _ | refine kD ?_ | refine kA ?_ _)); refine blk_put (cs := #[.int .i64 t1445, .int .i64 t1446, .int .i64 t1447, .slice none 0 0, .int .i64 0, .int .i64 0, .slice none 0 0, .int .i64 0]) ?_ 3 _ rfl; (with_reducible repeat (first | refine blk_drewN ?_ _ | refine kD ?_ | refine kA ?_ _)); refine blk_put (cs := #[.int .i64 t1445, .int .i64 t1446, .int .i64 0, .slice none 0 0, .int .i64 0, .int .i64 0, .slice none 0 0, .int .i64 0]) ?_ 2 _ rfl; (with_reducible repeat (first | refine blk_drewN ?_ _ | refine kD ?_ | refine kA ?_ _)); refine blk_put (cs := #[.int .i64 t1445, .int .i64 0, .int .i64 0, .slice none 0 0, .int .i64 0, .int .i64 0, .slice none 0 0, .int .i64 0]) ?_ 1 _ rfl; (with_reducible repeat (first | refine blk_drewN ?_ _ | refine kD ?_ | refine kA ?_ _)); refine blk_put (cs := #[.int .i64 0, .int .i64 0, .int .i64 0, .slice none 0 0, .int .i64 0, .int .i64 0, .slice none 0 0, .int .i64 0]) ?_ 0 _ rfl; (with_reducible repeat (first | refine blk_drewN ?_ _ | refine kD ?_ | refine kA ?_ _)); exact BK1457.out) hb); replace HB := aK (bSp (zH3 HB GE1417 GE1444 GE1457) hb); (try clear hb); (try clear hb2); (try clear hk); (try clear hi); (try clear ho0); (try clear ho1)) | ((with_reducible refine gate_dst (N := 9) rfl ?_); refine box_event ?hg (N := 9) ?hd (cs := #[.int .i64 0, .int .i64 0, .int .i64 0, .slice none 0 0, .int .i64 0, .int .i64 0, .slice none 0 0, .int .i64 0]) (t := 38) ?hr ?_; (case hd => rfl); (case hg => rfl); (case hr => first | (go_simp; done) | (go_simp; rfl)); intro gb1471 hg w35 hbox hb; replace HO1424 := aK (Kd.R_below (zA HO1424) hb); replace HO1429 := aK (Kd.R_below (zA HO1429) hb); replace HO1436 := aK (Kd.R_below (zA HO1436) hb); replace HO1441 := aK (Kd.R_below (zA HO1441) hb); replace HO1450 := aK (Kd.R_below (zA HO1450) hb); replace HO1455 := aK (Kd.R_below (zA HO1455) hb); replace HO1463 := aK (Kd.R_below (zA HO1463) hb); replace HO1468 := aK (Kd.R_below (zA HO1468) hb); have BK1471 := aK (hbox); have GW1471 := aK ((by rw [hg]; exact (bSz (zH3 HB GE1417 GE1444 GE1457)) : w.heap.size ≤ gb1471)); replace HB := aK (bSp (zH3 HB GE1417 GE1444 GE1457) hb); have GE1471 := GW1471; have NB1417_1471 := nbl BK1417 hg (by intro z_; (with_reducible repeat (first | refine blk_drewN ?_ _ | refine kD ?_ | refine kA ?_ _)); exact z_); replace BK1417 := zB BK1417 hb; have NB1471_1417 := nbs NB1417_1471; have NB1444_1471 := nbl BK1444 hg (by intro z_; (with_reducible repeat (first | refine blk_drewN ?_ _ | refine kD ?_ | refine kA ?_ _)); exact z_); replace BK1444 := zB BK1444 hb; have NB1471_1444 := nbs NB1444_1471; have NB1457_1471 := nbl BK1457 hg (by intro z_; (with_reducible repeat (first | refine blk_drewN ?_ _ | refine kD ?_ | refine kA ?_ _)); exact z_); replace BK1457 := zB BK1457 hb; have NB1471_1457 := nbs NB1457_1471; clear hb hbox hg; have hnb36 := NB1471_1417.out; have hnc36 := NB1417_1471.out; have hnb37 := NB1471_1444.out; have hnc37 := NB1444_1471.out; have hnb38 := NB1471_1457.out; have hnc38 := NB1457_1471.out; obtain ⟨hcz39_0, hcz39_1, hcz39_2, hcz39_3, hcz39_4, hcz39_5, hcz39_6, hcz39_7, hfz39_0, hfz39_1, hfz39_2, hfz39_3, hfz39_4, hfz39_5, hfz39_6, hfz39_7⟩ := cl8 BK1471.out; obtain ⟨Ao40, co40, eo40⟩ := Kd.R_slice HO1463.out; subst eo40; obtain ⟨Ao41, co41, eo41⟩ := Kd.R_slice HO1468.out; subst eo41))
  (try simp only [Act.put, sTA, sZ, sS])
  go_cut [44] (fun v44 wc => ∃ (kq : Nat) (x44_11 : Bool), v44 = .bool x44_11 ∧ Aside0 (laws_FnExactGuide.j0 kq a1 t1443 t1470 x44_11 a0_0 a0_1 a0_2 l0_3 a0_4 a0_5 l0_6 a0_7 t1431 t1432 t1433 t1434 t1437 t1438 t1439 t1442 t1445 t1446 t1447 t1448 t1451 t1452 t1453 t1456 t1458 t1459 t1460 t1461 t1464 t1465 t1466 t1469 = some true) ∧ Aside0 (kq ≤ k) ∧ Aside0 (Kd.R (Kd.int .i64) 3 wc w.heap.size (fun k_ => some k_ ≠ ((.slice Ao25 t1439.length co25) : Value).ownBlock ∧ some k_ ≠ ((.slice Ao32 t1448.length co32) : Value).ownBlock ∧ some k_ ≠ ((.slice Ao33 t1453.length co33) : Value).ownBlock ∧ some k_ ≠ ((.slice Ao40 t1461.length co40) : Value).ownBlock ∧ some k_ ≠ ((.slice Ao41 t1466.length co41) : Value).ownBlock) (.slice Ao24 t1434.length co24) t1434) ∧ Aside0 (Kd.R (Kd.int .i64) 3 wc w.heap.size (fun k_ => some k_ ≠ ((.slice Ao24 t1434.length co24) : Value).ownBlock ∧ some k_ ≠ ((.slice Ao32 t1448.length co32) : Value).ownBlock ∧ some k_ ≠ ((.slice Ao33 t1453.length co33) : Value).ownBlock ∧ some k_ ≠ ((.slice Ao40 t1461.length co40) : Value).ownBlock ∧ some k_ ≠ ((.slice Ao41 t1466.length co41) : Value).ownBlock) (.slice Ao25 t1439.length co25) t1439) ∧ Aside0 (Kd.R (Kd.int .i64) 3 wc w.heap.size (fun k_ => some k_ ≠ ((.slice Ao24 t1434.length co24) : Value).ownBlock ∧ some k_ ≠ ((.slice Ao25 t1439.length co25) : Value).ownBlock ∧ some k_ ≠ ((.slice Ao33 t1453.length co33) : Value).ownBlock ∧ some k_ ≠ ((.slice Ao40 t1461.length co40) : Value).ownBlock ∧ some k_ ≠ ((.slice Ao41 t1466.length co41) : Value).ownBlock) (.slice Ao32 t1448.length co32) t1448) ∧ Aside0 (Kd.R (Kd.int .i64) 3 wc w.heap.size (fun k_ => some k_ ≠ ((.slice Ao24 t1434.length co24) : Value).ownBlock ∧ some k_ ≠ ((.slice Ao25 t1439.length co25) : Value).ownBlock ∧ some k_ ≠ ((.slice Ao32 t1448.length co32) : Value).ownBlock ∧ some k_ ≠ ((.slice Ao40 t1461.length co40) : Value).ownBlock ∧ some k_ ≠ ((.slice Ao41 t1466.length co41) : Value).ownBlock) (.slice Ao33 t1453.length co33) t1453) ∧ Aside0 (Kd.R (Kd.int .i64) 3 wc w.heap.size (fun k_ => some k_ ≠ ((.slice Ao24 t1434.length co24) : Value).ownBlock ∧ some k_ ≠ ((.slice Ao25 t1439.length co25) : Value).ownBlock ∧ some k_ ≠ ((.slice Ao32 t1448.length co32) : Value).ownBlock ∧ some k_ ≠ ((.slice Ao33 t1453.length co33) : Value).ownBlock ∧ some k_ ≠ ((.slice Ao41 t1466.length co41) : Value).ownBlock) (.slice Ao40 t1461.length co40) t1461) ∧ Aside0 (Kd.R (Kd.int .i64) 3 wc w.heap.size (fun k_ => some k_ ≠ ((.slice Ao24 t1434.length co24) : Value).ownBlock ∧ some k_ ≠ ((.slice Ao25 t1439.length co25) : Value).ownBlock ∧ some k_ ≠ ((.slice Ao32 t1448.length co32) : Value).ownBlock ∧ some k_ ≠ ((.slice Ao33 t1453.length co33) : Value).ownBlock ∧ some k_ ≠ ((.slice Ao40 t1461.length co40) : Value).ownBlock) (.slice Ao41 t1466.length co41) t1466) ∧ Aside0 (wc.heap[gb1417]? = some (.cells #[.int .i64 a0_0, .int .i64 a0_1, .int .i64 a0_2, (.slice A0_3 l0_3.length c0_3), .int .i64 a0_4, .int .i64 a0_5, (.slice A0_6 l0_6.length c0_6), .int .i64 a0_7] 30 (0, 0))) ∧ Aside0 (wc.heap[gb1444]? = some (.cells #[.int .i64 t1431, .int .i64 t1432, .int .i64 t1433, (.slice Ao24 t1434.length co24), .int .i64 t1437, .int .i64 t1438, (.slice Ao25 t1439.length co25), .int .i64 t1442] 38 (0, 0))) ∧ Aside0 (wc.heap[gb1457]? = some (.cells #[.int .i64 t1445, .int .i64 t1446, .int .i64 t1447, (.slice Ao32 t1448.length co32), .int .i64 t1451, .int .i64 t1452, (.slice Ao33 t1453.length co33), .int .i64 t1456] 38 (0, 0))) ∧ Aside0 (wc.heap[gb1471]? = some (.cells #[.int .i64 t1458, .int .i64 t1459, .int .i64 t1460, (.slice Ao40 t1461.length co40), .int .i64 t1464, .int .i64 t1465, (.slice Ao41 t1466.length co41), .int .i64 t1469] 38 (0, 0))) ∧ Aside0 (Below w.heap.size w wc))
  case first =>
   have H := HC12.out
   clear HC12
   replace H := Option.bind_eq_some_iff.mp H
   obtain ⟨t1472, A420, H⟩ := H
   replace H : (if t1472 = true then (laws_FnExactGuide.j0 k a1 t1443 t1470 (t1470 != t1443) a0_0 a0_1 a0_2 l0_3 a0_4 a0_5 l0_6 a0_7 t1431 t1432 t1433 t1434 t1437 t1438 t1439 t1442 t1445 t1446 t1447 t1448 t1451 t1452 t1453 t1456 t1458 t1459 t1460 t1461 t1464 t1465 t1466 t1469) else (laws_FnExactGuide.j0 k a1 t1443 t1470 true a0_0 a0_1 a0_2 l0_3 a0_4 a0_5 l0_6 a0_7 t1431 t1432 t1433 t1434 t1437 t1438 t1439 t1442 t1445 t1446 t1447 t1448 t1451 t1452 t1453 t1456 t1458 t1459 t1460 t1461 t1464 t1465 t1466 t1469)) = some true := H
   have A42 := aK A420
   clear A420
   by_cases c43 : t1472 = true
   ·subst c43
    have H1 : (laws_FnExactGuide.j0 k a1 t1443 t1470 (t1470 != t1443) a0_0 a0_1 a0_2 l0_3 a0_4 a0_5 l0_6 a0_7 t1431 t1432 t1433 t1434 t1437 t1438 t1439 t1442 t1445 t1446 t1447 t1448 t1451 t1452 t1453 t1456 t1458 t1459 t1460 t1461 t1464 t1465 t1466 t1469) = some true := by first | (rw [if_pos rfl] at H; exact H) | rfl
    clear H
    have H := H1
    clear H1
    have H' := aK H
    clear H
    have hnb44 := NB1471_1417.out
    have hnc44 := NB1417_1471.out
    have hnb45 := NB1471_1444.out
    have hnc45 := NB1444_1471.out
    have hnb46 := NB1471_1457.out
    have hnc46 := NB1457_1471.out
    obtain ⟨hcz47_0, hcz47_1, hcz47_2, hcz47_3, hcz47_4, hcz47_5, hcz47_6, hcz47_7, hfz47_0, hfz47_1, hfz47_2, hfz47_3, hfz47_4, hfz47_5, hfz47_6, hfz47_7⟩ := cl8 BK1471.out
    have hnb48 := NB1444_1417.out
    have hnc48 := NB1417_1444.out
    have hnb49 := NB1444_1457.out
    have hnc49 := NB1457_1444.out
    obtain ⟨hcz50_0, hcz50_1, hcz50_2, hcz50_3, hcz50_4, hcz50_5, hcz50_6, hcz50_7, hfz50_0, hfz50_1, hfz50_2, hfz50_3, hfz50_4, hfz50_5, hfz50_6, hfz50_7⟩ := cl8 BK1444.out
    go_wp2_with (first | ((with_reducible refine gate_callee (f := 19) rfl ?_); refine goesL_ (some 38) rfl rfl Tryz.func19 (by kernel_rfl) rfl #[.agg #[.int .i64 t1458, .int .i64 t1459, .int .i64 t1460, .slice Ao40 t1461.length co40, .int .i64 t1464, .int .i64 t1465, .slice Ao41 t1466.length co41, .int .i64 t1469], .agg #[.int .i64 t1431, .int .i64 t1432, .int .i64 t1433, .slice Ao24 t1434.length co24, .int .i64 t1437, .int .i64 t1438, .slice Ao25 t1439.length co25, .int .i64 t1442]] rfl zD ?_; (with_reducible refine (laws_eqGarden.calls k t1458 t1459 t1460 _ _ t1461 t1464 t1465 _ _ t1466 t1469 t1431 t1432 t1433 _ _ t1434 t1437 t1438 _ _ t1439 t1442 true _ ?side1 ?side2 ?side3 ?side4 ?side5 ?side6 ?side7 ?side8 A42.out).mono ?_); (case side1 => refine (Kd.R_reads' (e := 3) (base := w.heap.size) (ok := fun k_ => ((((((some k_ ≠ (.slice Ao41 t1466.length co41 : Value).ownBlock ∧ some k_ ≠ (.slice Ao18 t1422.length co18 : Value).ownBlock) ∧ some k_ ≠ (.slice Ao19 t1427.length co19 : Value).ownBlock) ∧ some k_ ≠ (.slice Ao24 t1434.length co24 : Value).ownBlock) ∧ some k_ ≠ (.slice Ao25 t1439.length co25 : Value).ownBlock) ∧ some k_ ≠ (.slice Ao32 t1448.length co32 : Value).ownBlock) ∧ some k_ ≠ (.slice Ao33 t1453.length co33 : Value).ownBlock)) (n := t1461.length) (c := co40) ?_).2.2; exact (zF8 HO1463 BK1471)); (case side2 => exact (Kd.R_reads' HO1463.out).2.1); (case side3 => refine (Kd.R_reads' (e := 3) (base := w.heap.size) (ok := fun k_ => ((((((some k_ ≠ (.slice Ao40 t1461.length co40 : Value).ownBlock ∧ some k_ ≠ (.slice Ao18 t1422.length co18 : Value).ownBlock) ∧ some k_ ≠ (.slice Ao19 t1427.length co19 : Value).ownBlock) ∧ some k_ ≠ (.slice Ao24 t1434.length co24 : Value).ownBlock) ∧ some k_ ≠ (.slice Ao25 t1439.length co25 : Value).ownBlock) ∧ some k_ ≠ (.slice Ao32 t1448.length co32 : Value).ownBlock) ∧ some k_ ≠ (.slice Ao33 t1453.length co33 : Value).ownBlock)) (n := t1466.length) (c := co41) ?_).2.2; exact (zF8 HO1468 BK1471)); (case side4 => exact (Kd.R_reads' HO1468.out).2.1); (case side5 => refine (Kd.R_reads' (e := 3) (base := w.heap.size) (ok := fun k_ => ((((((some k_ ≠ (.slice Ao25 t1439.length co25 : Value).ownBlock ∧ some k_ ≠ (.slice Ao18 t1422.length co18 : Value).ownBlock) ∧ some k_ ≠ (.slice Ao19 t1427.length co19 : Value).ownBlock) ∧ some k_ ≠ (.slice Ao32 t1448.length co32 : Value).ownBlock) ∧ some k_ ≠ (.slice Ao33 t1453.length co33 : Value).ownBlock) ∧ some k_ ≠ (.slice Ao40 t1461.length co40 : Value).ownBlock) ∧ some k_ ≠ (.slice Ao41 t1466.length co41 : Value).ownBlock)) (n := t1434.length) (c := co24) ?_).2.2; exact (zF8 HO1436 BK1471)); (case side6 => exact (Kd.R_reads' HO1436.out).2.1); (case side7 => refine (Kd.R_reads' (e := 3) (base := w.heap.size) (ok := fun k_ => ((((((some k_ ≠ (.slice Ao24 t1434.length co24 : Value).ownBlock ∧ some k_ ≠ (.slice Ao18 t1422.length co18 : Value).ownBlock) ∧ some k_ ≠ (.slice Ao19 t1427.length co19 : Value).ownBlock) ∧ some k_ ≠ (.slice Ao32 t1448.length co32 : Value).ownBlock) ∧ some k_ ≠ (.slice Ao33 t1453.length co33 : Value).ownBlock) ∧ some k_ ≠ (.slice Ao40 t1461.length co40 : Value).ownBlock) ∧ some k_ ≠ (.slice Ao41 t1466.length co41 : Value).ownBlock)) (n := t1439.length) (c := co25) ?_).2.2; exact (zF8 HO1441 BK1471)); (case side8 => exact (Kd.R_reads' HO1441.out).2.1); rintro e w51 ⟨rfl, hb⟩; refine ⟨_, rfl, ?_⟩; replace HO1424 := aK (Kd.R_below (zF8 HO1424 BK1471) hb); replace HO1429 := aK (Kd.R_below (zF8 HO1429 BK1471) hb); replace HO1436 := aK (Kd.R_below (zF8 HO1436 BK1471) hb); replace HO1441 := aK (Kd.R_below (zF8 HO1441 BK1471) hb); replace HO1450 := aK (Kd.R_below (zF8 HO1450 BK1471) hb); replace HO1455 := aK (Kd.R_below (zF8 HO1455 BK1471) hb); replace HO1463 := aK (Kd.R_below (zF8 HO1463 BK1471) hb); replace HO1468 := aK (Kd.R_below (zF8 HO1468 BK1471) hb); replace BK1417 := zG8 BK1417 NB1417_1471 hb; replace BK1444 := zG8 BK1444 NB1444_1471 hb; replace BK1457 := zG8 BK1457 NB1457_1471 hb; replace BK1471 := aK (blk_below (g := gb1471) (o := .cells #[.int .i64 t1458, .int .i64 t1459, .int .i64 t1460, .slice Ao40 t1461.length co40, .int .i64 t1464, .int .i64 t1465, .slice Ao41 t1466.length co41, .int .i64 t1469] 38 (0, 0)) (by (with_reducible repeat (first | refine blk_drewN ?_ _ | refine kD ?_ | refine kA ?_ _)); refine blk_put (cs := #[.int .i64 t1458, .int .i64 t1459, .int .i64 t1460, .slice Ao40 t1461.length co40, .int .i64 t1464, .int .i64 t1465, .slice Ao41 t1466.length co41, .int .i64 0]) ?_ 7 _ rfl; (with_reducible repeat (first | refine blk_drewN ?_ _ | refine kD ?_ | refine kA ?_ _)); refine blk_put (cs := #[.int .i64 t1458, .int .i64 t1459, .int .i64 t1460, .slice Ao40 t1461.length co40, .int .i64 t1464, .int .i64 t1465, .slice none 0 0, .int .i64 0]) ?_ 6 _ rfl; (with_reducible repeat (first | refine blk_drewN ?_ _ | refine kD ?_ | refine kA ?_ _)); refine blk_put (cs := #[.int .i64 t1458, .int .i64 t1459, .int .i64 t1460, .slice Ao40 t1461.length co40, .int .i64 t1464, .int .i64 0, .slice none 0 0, .int .i64 0]) ?_ 5 _ rfl; (with_reducible repeat (first | refine blk_drewN ?_ _ | refine kD ?_ | refine kA ?_ _)); refine blk_put (cs := #[.int .i64 t1458, .int .i64 t1459, .int .i64 t1460, .slice Ao40 t1461.length co40, .int .i64 0, .int .i64 0, .slice none 0 0, .int .i64 0]) ?_ 4 _ rfl; (with_reducible repeat (first | refine blk_drewN ?_ _ | refine kD ?_ | refine kA ?_ _)); refine blk_put (cs := #[.int .i64 t1458, .int .i64 t1459, .int .i64 t1460, .slice none 0 0, .int .i64 0, .int .i64 0, .slice none 0 0, .int .i64 0]) ?_ 3 _ rfl; (with_reducible repeat (first | refine blk_drewN ?_ _ | refine kD ?_ | refine kA ?_ _)); refine blk_put (cs := #[.int .i64 t1458, .int .i64 t1459, .int .i64 0, .slice none 0 0, .int .i64 0, .int .i64 0, .slice none 0 0, .int .i64 0]) ?_ 2 _ rfl; (with_reducible repeat (first | refine blk_drewN ?_ _ | refine kD ?_ | refine kA ?_ _)); refine blk_put (cs := #[.int .i64 t1458, .int .i64 0, .int .i64 0, .slice none 0 0, .int .i64 0, .int .i64 0, .slice none 0 0, .int .i64 0]) ?_ 1 _ rfl; (with_reducible repeat (first | refine blk_drewN ?_ _ | refine kD ?_ | refine kA ?_ _)); refine blk_put (cs := #[.int .i64 0, .int .i64 0, .int .i64 0, .slice none 0 0, .int .i64 0, .int .i64 0, .slice none 0 0, .int .i64 0]) ?_ 0 _ rfl; (with_reducible repeat (first | refine blk_drewN ?_ _ | refine kD ?_ | refine kA ?_ _)); exact BK1471.out) hb); replace HB := aK (bSp (zH4 HB GE1417 GE1444 GE1457 GE1471) hb); (try clear hb); (try clear hb2); (try clear hk); (try clear hi)))
    go_meet
    case rel => exact ⟨_, ((t1470 != t1443)), (by first | rfl | (simp; done) | (simp [*]; done)), H', ⟨by first | omega | exact Nat.le_refl _⟩, ⟨by (with_reducible repeat (first | apply Kd.R_alloc | apply Kd.R_drewN | apply Kd.R_drew)); exact Kd.R_mono HO1436.out (fun _ hk => ⟨hk.1.1.1.1.1.1, ⟨hk.1.1.1.2, ⟨hk.1.1.2, ⟨hk.1.2, hk.2⟩⟩⟩⟩)⟩, ⟨by (with_reducible repeat (first | apply Kd.R_alloc | apply Kd.R_drewN | apply Kd.R_drew)); exact Kd.R_mono HO1441.out (fun _ hk => ⟨hk.1.1.1.1.1.1, ⟨hk.1.1.1.2, ⟨hk.1.1.2, ⟨hk.1.2, hk.2⟩⟩⟩⟩)⟩, ⟨by (with_reducible repeat (first | apply Kd.R_alloc | apply Kd.R_drewN | apply Kd.R_drew)); exact Kd.R_mono HO1450.out (fun _ hk => ⟨hk.1.1.1.2, ⟨hk.1.1.2, ⟨hk.1.1.1.1.1.1, ⟨hk.1.2, hk.2⟩⟩⟩⟩)⟩, ⟨by (with_reducible repeat (first | apply Kd.R_alloc | apply Kd.R_drewN | apply Kd.R_drew)); exact Kd.R_mono HO1455.out (fun _ hk => ⟨hk.1.1.1.2, ⟨hk.1.1.2, ⟨hk.1.1.1.1.1.1, ⟨hk.1.2, hk.2⟩⟩⟩⟩)⟩, ⟨by (with_reducible repeat (first | apply Kd.R_alloc | apply Kd.R_drewN | apply Kd.R_drew)); exact Kd.R_mono HO1463.out (fun _ hk => ⟨hk.1.1.1.2, ⟨hk.1.1.2, ⟨hk.1.2, ⟨hk.2, hk.1.1.1.1.1.1⟩⟩⟩⟩)⟩, ⟨by (with_reducible repeat (first | apply Kd.R_alloc | apply Kd.R_drewN | apply Kd.R_drew)); exact Kd.R_mono HO1468.out (fun _ hk => ⟨hk.1.1.1.2, ⟨hk.1.1.2, ⟨hk.1.2, ⟨hk.2, hk.1.1.1.1.1.1⟩⟩⟩⟩)⟩, ⟨zK BK1417⟩, ⟨zK BK1444⟩, ⟨zK BK1457⟩, ⟨zK BK1471⟩, ⟨zH4 HB GE1417 GE1444 GE1457 GE1471⟩⟩
   ·replace c43 := Bool.eq_false_iff.mpr c43
    subst c43
    have H1 : (laws_FnExactGuide.j0 k a1 t1443 t1470 true a0_0 a0_1 a0_2 l0_3 a0_4 a0_5 l0_6 a0_7 t1431 t1432 t1433 t1434 t1437 t1438 t1439 t1442 t1445 t1446 t1447 t1448 t1451 t1452 t1453 t1456 t1458 t1459 t1460 t1461 t1464 t1465 t1466 t1469) = some true := by rw [if_neg (show ¬ (false = true) by decide)] at H; exact H
    clear H
    have H := H1
    clear H1
    have H' := aK H
    clear H
    have hnb52 := NB1471_1417.out
    have hnc52 := NB1417_1471.out
    have hnb53 := NB1471_1444.out
    have hnc53 := NB1444_1471.out
    have hnb54 := NB1471_1457.out
    have hnc54 := NB1457_1471.out
    obtain ⟨hcz55_0, hcz55_1, hcz55_2, hcz55_3, hcz55_4, hcz55_5, hcz55_6, hcz55_7, hfz55_0, hfz55_1, hfz55_2, hfz55_3, hfz55_4, hfz55_5, hfz55_6, hfz55_7⟩ := cl8 BK1471.out
    have hnb56 := NB1444_1417.out
    have hnc56 := NB1417_1444.out
    have hnb57 := NB1444_1457.out
    have hnc57 := NB1457_1444.out
    obtain ⟨hcz58_0, hcz58_1, hcz58_2, hcz58_3, hcz58_4, hcz58_5, hcz58_6, hcz58_7, hfz58_0, hfz58_1, hfz58_2, hfz58_3, hfz58_4, hfz58_5, hfz58_6, hfz58_7⟩ := cl8 BK1444.out
    go_wp2_with (first | ((with_reducible refine gate_callee (f := 19) rfl ?_); refine goesL_ (some 38) rfl rfl Tryz.func19 (by kernel_rfl) rfl #[.agg #[.int .i64 t1458, .int .i64 t1459, .int .i64 t1460, .slice Ao40 t1461.length co40, .int .i64 t1464, .int .i64 t1465, .slice Ao41 t1466.length co41, .int .i64 t1469], .agg #[.int .i64 t1431, .int .i64 t1432, .int .i64 t1433, .slice Ao24 t1434.length co24, .int .i64 t1437, .int .i64 t1438, .slice Ao25 t1439.length co25, .int .i64 t1442]] rfl zD ?_; (with_reducible refine (laws_eqGarden.calls k t1458 t1459 t1460 _ _ t1461 t1464 t1465 _ _ t1466 t1469 t1431 t1432 t1433 _ _ t1434 t1437 t1438 _ _ t1439 t1442 false _ ?side1 ?side2 ?side3 ?side4 ?side5 ?side6 ?side7 ?side8 A42.out).mono ?_); (case side1 => refine (Kd.R_reads' (e := 3) (base := w.heap.size) (ok := fun k_ => ((((((some k_ ≠ (.slice Ao41 t1466.length co41 : Value).ownBlock ∧ some k_ ≠ (.slice Ao18 t1422.length co18 : Value).ownBlock) ∧ some k_ ≠ (.slice Ao19 t1427.length co19 : Value).ownBlock) ∧ some k_ ≠ (.slice Ao24 t1434.length co24 : Value).ownBlock) ∧ some k_ ≠ (.slice Ao25 t1439.length co25 : Value).ownBlock) ∧ some k_ ≠ (.slice Ao32 t1448.length co32 : Value).ownBlock) ∧ some k_ ≠ (.slice Ao33 t1453.length co33 : Value).ownBlock)) (n := t1461.length) (c := co40) ?_).2.2; exact (zF8 HO1463 BK1471)); (case side2 => exact (Kd.R_reads' HO1463.out).2.1); (case side3 => refine (Kd.R_reads' (e := 3) (base := w.heap.size) (ok := fun k_ => ((((((some k_ ≠ (.slice Ao40 t1461.length co40 : Value).ownBlock ∧ some k_ ≠ (.slice Ao18 t1422.length co18 : Value).ownBlock) ∧ some k_ ≠ (.slice Ao19 t1427.length co19 : Value).ownBlock) ∧ some k_ ≠ (.slice Ao24 t1434.length co24 : Value).ownBlock) ∧ some k_ ≠ (.slice Ao25 t1439.length co25 : Value).ownBlock) ∧ some k_ ≠ (.slice Ao32 t1448.length co32 : Value).ownBlock) ∧ some k_ ≠ (.slice Ao33 t1453.length co33 : Value).ownBlock)) (n := t1466.length) (c := co41) ?_).2.2; exact (zF8 HO1468 BK1471)); (case side4 => exact (Kd.R_reads' HO1468.out).2.1); (case side5 => refine (Kd.R_reads' (e := 3) (base := w.heap.size) (ok := fun k_ => ((((((some k_ ≠ (.slice Ao25 t1439.length co25 : Value).ownBlock ∧ some k_ ≠ (.slice Ao18 t1422.length co18 : Value).ownBlock) ∧ some k_ ≠ (.slice Ao19 t1427.length co19 : Value).ownBlock) ∧ some k_ ≠ (.slice Ao32 t1448.length co32 : Value).ownBlock) ∧ some k_ ≠ (.slice Ao33 t1453.length co33 : Value).ownBlock) ∧ some k_ ≠ (.slice Ao40 t1461.length co40 : Value).ownBlock) ∧ some k_ ≠ (.slice Ao41 t1466.length co41 : Value).ownBlock)) (n := t1434.length) (c := co24) ?_).2.2; exact (zF8 HO1436 BK1471)); (case side6 => exact (Kd.R_reads' HO1436.out).2.1); (case side7 => refine (Kd.R_reads' (e := 3) (base := w.heap.size) (ok := fun k_ => ((((((some k_ ≠ (.slice Ao24 t1434.length co24 : Value).ownBlock ∧ some k_ ≠ (.slice Ao18 t1422.length co18 : Value).ownBlock) ∧ some k_ ≠ (.slice Ao19 t1427.length co19 : Value).ownBlock) ∧ some k_ ≠ (.slice Ao32 t1448.length co32 : Value).ownBlock) ∧ some k_ ≠ (.slice Ao33 t1453.length co33 : Value).ownBlock) ∧ some k_ ≠ (.slice Ao40 t1461.length co40 : Value).ownBlock) ∧ some k_ ≠ (.slice Ao41 t1466.length co41 : Value).ownBlock)) (n := t1439.length) (c := co25) ?_).2.2; exact (zF8 HO1441 BK1471)); (case side8 => exact (Kd.R_reads' HO1441.out).2.1); rintro e w59 ⟨rfl, hb⟩; refine ⟨_, rfl, ?_⟩; replace HO1424 := aK (Kd.R_below (zF8 HO1424 BK1471) hb); replace HO1429 := aK (Kd.R_below (zF8 HO1429 BK1471) hb); replace HO1436 := aK (Kd.R_below (zF8 HO1436 BK1471) hb); replace HO1441 := aK (Kd.R_below (zF8 HO1441 BK1471) hb); replace HO1450 := aK (Kd.R_below (zF8 HO1450 BK1471) hb); replace HO1455 := aK (Kd.R_below (zF8 HO1455 BK1471) hb); replace HO1463 := aK (Kd.R_below (zF8 HO1463 BK1471) hb); replace HO1468 := aK (Kd.R_below (zF8 HO1468 BK1471) hb); replace BK1417 := zG8 BK1417 NB1417_1471 hb; replace BK1444 := zG8 BK1444 NB1444_1471 hb; replace BK1457 := zG8 BK1457 NB1457_1471 hb; replace BK1471 := aK (blk_below (g := gb1471) (o := .cells #[.int .i64 t1458, .int .i64 t1459, .int .i64 t1460, .slice Ao40 t1461.length co40, .int .i64 t1464, .int .i64 t1465, .slice Ao41 t1466.length co41, .int .i64 t1469] 38 (0, 0)) (by (with_reducible repeat (first | refine blk_drewN ?_ _ | refine kD ?_ | refine kA ?_ _)); refine blk_put (cs := #[.int .i64 t1458, .int .i64 t1459, .int .i64 t1460, .slice Ao40 t1461.length co40, .int .i64 t1464, .int .i64 t1465, .slice Ao41 t1466.length co41, .int .i64 0]) ?_ 7 _ rfl; (with_reducible repeat (first | refine blk_drewN ?_ _ | refine kD ?_ | refine kA ?_ _)); refine blk_put (cs := #[.int .i64 t1458, .int .i64 t1459, .int .i64 t1460, .slice Ao40 t1461.length co40, .int .i64 t1464, .int .i64 t1465, .slice none 0 0, .int .i64 0]) ?_ 6 _ rfl; (with_reducible repeat (first | refine blk_drewN ?_ _ | refine kD ?_ | refine kA ?_ _)); refine blk_put (cs := #[.int .i64 t1458, .int .i64 t1459, .int .i64 t1460, .slice Ao40 t1461.length co40, .int .i64 t1464, .int .i64 0, .slice none 0 0, .int .i64 0]) ?_ 5 _ rfl; (with_reducible repeat (first | refine blk_drewN ?_ _ | refine kD ?_ | refine kA ?_ _)); refine blk_put (cs := #[.int .i64 t1458, .int .i64 t1459, .int .i64 t1460, .slice Ao40 t1461.length co40, .int .i64 0, .int .i64 0, .slice none 0 0, .int .i64 0]) ?_ 4 _ rfl; (with_reducible repeat (first | refine blk_drewN ?_ _ | refine kD ?_ | refine kA ?_ _)); refine blk_put (cs := #[.int .i64 t1458, .int .i64 t1459, .int .i64 t1460, .slice none 0 0, .int .i64 0, .int .i64 0, .slice none 0 0, .int .i64 0]) ?_ 3 _ rfl; (with_reducible repeat (first | refine blk_drewN ?_ _ | refine kD ?_ | refine kA ?_ _)); refine blk_put (cs := #[.int .i64 t1458, .int .i64 t1459, .int .i64 0, .slice none 0 0, .int .i64 0, .int .i64 0, .slice none 0 0, .int .i64 0]) ?_ 2 _ rfl; (with_reducible repeat (first | refine blk_drewN ?_ _ | refine kD ?_ | refine kA ?_ _)); refine blk_put (cs := #[.int .i64 t1458, .int .i64 0, .int .i64 0, .slice none 0 0, .int .i64 0, .int .i64 0, .slice none 0 0, .int .i64 0]) ?_ 1 _ rfl; (with_reducible repeat (first | refine blk_drewN ?_ _ | refine kD ?_ | refine kA ?_ _)); refine blk_put (cs := #[.int .i64 0, .int .i64 0, .int .i64 0, .slice none 0 0, .int .i64 0, .int .i64 0, .slice none 0 0, .int .i64 0]) ?_ 0 _ rfl; (with_reducible repeat (first | refine blk_drewN ?_ _ | refine kD ?_ | refine kA ?_ _)); exact BK1471.out) hb); replace HB := aK (bSp (zH4 HB GE1417 GE1444 GE1457 GE1471) hb); (try clear hb); (try clear hb2); (try clear hk); (try clear hi)))
    go_meet
    case rel => exact ⟨_, (true), (by first | rfl | (simp; done) | (simp [*]; done)), H', ⟨by first | omega | exact Nat.le_refl _⟩, ⟨by (with_reducible repeat (first | apply Kd.R_alloc | apply Kd.R_drewN | apply Kd.R_drew)); exact Kd.R_mono HO1436.out (fun _ hk => ⟨hk.1.1.1.1.1.1, ⟨hk.1.1.1.2, ⟨hk.1.1.2, ⟨hk.1.2, hk.2⟩⟩⟩⟩)⟩, ⟨by (with_reducible repeat (first | apply Kd.R_alloc | apply Kd.R_drewN | apply Kd.R_drew)); exact Kd.R_mono HO1441.out (fun _ hk => ⟨hk.1.1.1.1.1.1, ⟨hk.1.1.1.2, ⟨hk.1.1.2, ⟨hk.1.2, hk.2⟩⟩⟩⟩)⟩, ⟨by (with_reducible repeat (first | apply Kd.R_alloc | apply Kd.R_drewN | apply Kd.R_drew)); exact Kd.R_mono HO1450.out (fun _ hk => ⟨hk.1.1.1.2, ⟨hk.1.1.2, ⟨hk.1.1.1.1.1.1, ⟨hk.1.2, hk.2⟩⟩⟩⟩)⟩, ⟨by (with_reducible repeat (first | apply Kd.R_alloc | apply Kd.R_drewN | apply Kd.R_drew)); exact Kd.R_mono HO1455.out (fun _ hk => ⟨hk.1.1.1.2, ⟨hk.1.1.2, ⟨hk.1.1.1.1.1.1, ⟨hk.1.2, hk.2⟩⟩⟩⟩)⟩, ⟨by (with_reducible repeat (first | apply Kd.R_alloc | apply Kd.R_drewN | apply Kd.R_drew)); exact Kd.R_mono HO1463.out (fun _ hk => ⟨hk.1.1.1.2, ⟨hk.1.1.2, ⟨hk.1.2, ⟨hk.2, hk.1.1.1.1.1.1⟩⟩⟩⟩)⟩, ⟨by (with_reducible repeat (first | apply Kd.R_alloc | apply Kd.R_drewN | apply Kd.R_drew)); exact Kd.R_mono HO1468.out (fun _ hk => ⟨hk.1.1.1.2, ⟨hk.1.1.2, ⟨hk.1.2, ⟨hk.2, hk.1.1.1.1.1.1⟩⟩⟩⟩)⟩, ⟨zK BK1417⟩, ⟨zK BK1444⟩, ⟨zK BK1457⟩, ⟨zK BK1471⟩, ⟨zH4 HB GE1417 GE1444 GE1457 GE1471⟩⟩
  case rest =>
   clear HC12
   try clear c1
   try clear c2
   try clear p2
   try clear c3
   try clear c4
   try clear c4b0
   try clear c5
   try clear c7
   try clear c15
   try clear c17
   try clear c19
   try clear c22
   try clear c28
   try clear c29
   try clear c30
   try clear c36
   try clear c37
   try clear c38
   try clear c43
   try clear c44
   try clear c45
   try clear c46
   try clear c48
   try clear c49
   try clear c52
   try clear c53
   try clear c54
   try clear c56
   try clear c57
   try clear hcz14_0
   try clear hcz14_1
   try clear hcz14_2
   try clear hcz14_3
   try clear hcz14_4
   try clear hcz14_5
   try clear hcz14_6
   try clear hcz14_7
   try clear hcz16_0
   try clear hcz16_1
   try clear hcz16_2
   try clear hcz16_3
   try clear hcz16_4
   try clear hcz16_5
   try clear hcz16_6
   try clear hcz16_7
   try clear hcz23_0
   try clear hcz23_1
   try clear hcz23_2
   try clear hcz23_3
   try clear hcz23_4
   try clear hcz23_5
   try clear hcz23_6
   try clear hcz23_7
   try clear hcz26_0
   try clear hcz26_1
   try clear hcz26_2
   try clear hcz26_3
   try clear hcz26_4
   try clear hcz26_5
   try clear hcz26_6
   try clear hcz26_7
   try clear hcz31_0
   try clear hcz31_1
   try clear hcz31_2
   try clear hcz31_3
   try clear hcz31_4
   try clear hcz31_5
   try clear hcz31_6
   try clear hcz31_7
   try clear hcz39_0
   try clear hcz39_1
   try clear hcz39_2
   try clear hcz39_3
   try clear hcz39_4
   try clear hcz39_5
   try clear hcz39_6
   try clear hcz39_7
   try clear hcz47_0
   try clear hcz47_1
   try clear hcz47_2
   try clear hcz47_3
   try clear hcz47_4
   try clear hcz47_5
   try clear hcz47_6
   try clear hcz47_7
   try clear hcz50_0
   try clear hcz50_1
   try clear hcz50_2
   try clear hcz50_3
   try clear hcz50_4
   try clear hcz50_5
   try clear hcz50_6
   try clear hcz50_7
   try clear hcz55_0
   try clear hcz55_1
   try clear hcz55_2
   try clear hcz55_3
   try clear hcz55_4
   try clear hcz55_5
   try clear hcz55_6
   try clear hcz55_7
   try clear hcz58_0
   try clear hcz58_1
   try clear hcz58_2
   try clear hcz58_3
   try clear hcz58_4
   try clear hcz58_5
   try clear hcz58_6
   try clear hcz58_7
   try clear hcz6_0
   try clear hcz6_1
   try clear hcz6_2
   try clear hcz6_3
   try clear hcz6_4
   try clear hcz6_5
   try clear hcz6_6
   try clear hcz6_7
   try clear hfz14_0
   try clear hfz14_1
   try clear hfz14_2
   try clear hfz14_3
   try clear hfz14_4
   try clear hfz14_5
   try clear hfz14_6
   try clear hfz14_7
   try clear hfz16_0
   try clear hfz16_1
   try clear hfz16_2
   try clear hfz16_3
   try clear hfz16_4
   try clear hfz16_5
   try clear hfz16_6
   try clear hfz16_7
   try clear hfz23_0
   try clear hfz23_1
   try clear hfz23_2
   try clear hfz23_3
   try clear hfz23_4
   try clear hfz23_5
   try clear hfz23_6
   try clear hfz23_7
   try clear hfz26_0
   try clear hfz26_1
   try clear hfz26_2
   try clear hfz26_3
   try clear hfz26_4
   try clear hfz26_5
   try clear hfz26_6
   try clear hfz26_7
   try clear hfz31_0
   try clear hfz31_1
   try clear hfz31_2
   try clear hfz31_3
   try clear hfz31_4
   try clear hfz31_5
   try clear hfz31_6
   try clear hfz31_7
   try clear hfz39_0
   try clear hfz39_1
   try clear hfz39_2
   try clear hfz39_3
   try clear hfz39_4
   try clear hfz39_5
   try clear hfz39_6
   try clear hfz39_7
   try clear hfz47_0
   try clear hfz47_1
   try clear hfz47_2
   try clear hfz47_3
   try clear hfz47_4
   try clear hfz47_5
   try clear hfz47_6
   try clear hfz47_7
   try clear hfz50_0
   try clear hfz50_1
   try clear hfz50_2
   try clear hfz50_3
   try clear hfz50_4
   try clear hfz50_5
   try clear hfz50_6
   try clear hfz50_7
   try clear hfz55_0
   try clear hfz55_1
   try clear hfz55_2
   try clear hfz55_3
   try clear hfz55_4
   try clear hfz55_5
   try clear hfz55_6
   try clear hfz55_7
   try clear hfz58_0
   try clear hfz58_1
   try clear hfz58_2
   try clear hfz58_3
   try clear hfz58_4
   try clear hfz58_5
   try clear hfz58_6
   try clear hfz58_7
   try clear hfz6_0
   try clear hfz6_1
   try clear hfz6_2
   try clear hfz6_3
   try clear hfz6_4
   try clear hfz6_5
   try clear hfz6_6
   try clear hfz6_7
   obtain ⟨kq, x44_11, rfl, HA, HJ11, HO_1445003, HO_1445006, HO_1458003, HO_1458006, HO_1472003, HO_1472006, BK1417, BK1444, BK1457, BK1471, HB⟩ := hcut
   cases kq with
   | zero => exact absurd HA.out (by simp [laws_FnExactGuide.j0])
   | succ kj11 =>
    have H := HA.out
    clear HA
    simp only [laws_FnExactGuide.j0] at H
    by_cases c60 : x44_11 = true
    ·subst c60
     have H1 : (some false) = some true := by first | (rw [if_pos rfl] at H; exact H) | rfl
     clear H
     have H := H1
     clear H1
     exact absurd (Option.some.inj H) Bool.false_ne_true
    ·replace c60 := Bool.eq_false_iff.mpr c60
     subst c60
     have H1 : ((laws_toGarden.f kj11 a0_0 a0_1 a0_2 l0_3 a0_4 a0_5 l0_6 a0_7).bind fun bt1473 => ((laws_eqGarden.f kj11 t1445 t1446 t1447 t1448 t1451 t1452 t1453 t1456 bt1473.1 bt1473.2.1 bt1473.2.2.1 bt1473.2.2.2.1 bt1473.2.2.2.2.1 bt1473.2.2.2.2.2.1 bt1473.2.2.2.2.2.2.1 bt1473.2.2.2.2.2.2.2).bind fun t1485 => (if t1485 = true then ((laws_markGarden.f kj11 t1445 t1446 t1447 t1448 t1451 t1452 t1453 t1456 1).bind fun bt1486 => (if bt1486.1 < 0 then (laws_FnExactGuide.j1 kj11 a1 t1443 true a0_0 a0_1 a0_2 l0_3 a0_4 a0_5 l0_6 a0_7 t1431 t1432 t1433 t1434 t1437 t1438 t1439 t1442 t1458 t1459 t1460 t1461 t1464 t1465 t1466 t1469) else ((laws_eqGarden.f kj11 t1458 t1459 t1460 t1461 t1464 t1465 t1466 t1469 t1431 t1432 t1433 t1434 t1437 t1438 t1439 t1442).bind fun t1489 => (if t1489 = true then (laws_FnExactGuide.j1 kj11 a1 t1443 (t1470 != t1443) a0_0 a0_1 a0_2 l0_3 a0_4 a0_5 l0_6 a0_7 t1431 t1432 t1433 t1434 t1437 t1438 t1439 t1442 t1458 t1459 t1460 t1461 t1464 t1465 t1466 t1469) else (laws_FnExactGuide.j1 kj11 a1 t1443 true a0_0 a0_1 a0_2 l0_3 a0_4 a0_5 l0_6 a0_7 t1431 t1432 t1433 t1434 t1437 t1438 t1439 t1442 t1458 t1459 t1460 t1461 t1464 t1465 t1466 t1469))))) else (some false)))) = some true := by rw [if_neg (show ¬ (false = true) by decide)] at H; exact H
     clear H
     have H := H1
     clear H1
     replace H := Option.bind_eq_some_iff.mp H
     obtain ⟨⟨t1473, t1474, t1475, t1476, t1479, t1480, t1481, t1484⟩, A610, H⟩ := H
     replace H : ((laws_eqGarden.f kj11 t1445 t1446 t1447 t1448 t1451 t1452 t1453 t1456 t1473 t1474 t1475 t1476 t1479 t1480 t1481 t1484).bind fun t1485 => (if t1485 = true then ((laws_markGarden.f kj11 t1445 t1446 t1447 t1448 t1451 t1452 t1453 t1456 1).bind fun bt1486 => (if bt1486.1 < 0 then (laws_FnExactGuide.j1 kj11 a1 t1443 true a0_0 a0_1 a0_2 l0_3 a0_4 a0_5 l0_6 a0_7 t1431 t1432 t1433 t1434 t1437 t1438 t1439 t1442 t1458 t1459 t1460 t1461 t1464 t1465 t1466 t1469) else ((laws_eqGarden.f kj11 t1458 t1459 t1460 t1461 t1464 t1465 t1466 t1469 t1431 t1432 t1433 t1434 t1437 t1438 t1439 t1442).bind fun t1489 => (if t1489 = true then (laws_FnExactGuide.j1 kj11 a1 t1443 (t1470 != t1443) a0_0 a0_1 a0_2 l0_3 a0_4 a0_5 l0_6 a0_7 t1431 t1432 t1433 t1434 t1437 t1438 t1439 t1442 t1458 t1459 t1460 t1461 t1464 t1465 t1466 t1469) else (laws_FnExactGuide.j1 kj11 a1 t1443 true a0_0 a0_1 a0_2 l0_3 a0_4 a0_5 l0_6 a0_7 t1431 t1432 t1433 t1434 t1437 t1438 t1439 t1442 t1458 t1459 t1460 t1461 t1464 t1465 t1466 t1469))))) else (some false))) = some true := H
     have A61 := aK A610
     clear A610
     replace H := Option.bind_eq_some_iff.mp H
     obtain ⟨t1485, A620, H⟩ := H
     replace H : (if t1485 = true then ((laws_markGarden.f kj11 t1445 t1446 t1447 t1448 t1451 t1452 t1453 t1456 1).bind fun bt1486 => (if bt1486.1 < 0 then (laws_FnExactGuide.j1 kj11 a1 t1443 true a0_0 a0_1 a0_2 l0_3 a0_4 a0_5 l0_6 a0_7 t1431 t1432 t1433 t1434 t1437 t1438 t1439 t1442 t1458 t1459 t1460 t1461 t1464 t1465 t1466 t1469) else ((laws_eqGarden.f kj11 t1458 t1459 t1460 t1461 t1464 t1465 t1466 t1469 t1431 t1432 t1433 t1434 t1437 t1438 t1439 t1442).bind fun t1489 => (if t1489 = true then (laws_FnExactGuide.j1 kj11 a1 t1443 (t1470 != t1443) a0_0 a0_1 a0_2 l0_3 a0_4 a0_5 l0_6 a0_7 t1431 t1432 t1433 t1434 t1437 t1438 t1439 t1442 t1458 t1459 t1460 t1461 t1464 t1465 t1466 t1469) else (laws_FnExactGuide.j1 kj11 a1 t1443 true a0_0 a0_1 a0_2 l0_3 a0_4 a0_5 l0_6 a0_7 t1431 t1432 t1433 t1434 t1437 t1438 t1439 t1442 t1458 t1459 t1460 t1461 t1464 t1465 t1466 t1469))))) else (some false)) = some true := H
     have A62 := aK A620
     clear A620
     by_cases c63 : t1485 = true
     ·subst c63
      have H1 : ((laws_markGarden.f kj11 t1445 t1446 t1447 t1448 t1451 t1452 t1453 t1456 1).bind fun bt1486 => (if bt1486.1 < 0 then (laws_FnExactGuide.j1 kj11 a1 t1443 true a0_0 a0_1 a0_2 l0_3 a0_4 a0_5 l0_6 a0_7 t1431 t1432 t1433 t1434 t1437 t1438 t1439 t1442 t1458 t1459 t1460 t1461 t1464 t1465 t1466 t1469) else ((laws_eqGarden.f kj11 t1458 t1459 t1460 t1461 t1464 t1465 t1466 t1469 t1431 t1432 t1433 t1434 t1437 t1438 t1439 t1442).bind fun t1489 => (if t1489 = true then (laws_FnExactGuide.j1 kj11 a1 t1443 (t1470 != t1443) a0_0 a0_1 a0_2 l0_3 a0_4 a0_5 l0_6 a0_7 t1431 t1432 t1433 t1434 t1437 t1438 t1439 t1442 t1458 t1459 t1460 t1461 t1464 t1465 t1466 t1469) else (laws_FnExactGuide.j1 kj11 a1 t1443 true a0_0 a0_1 a0_2 l0_3 a0_4 a0_5 l0_6 a0_7 t1431 t1432 t1433 t1434 t1437 t1438 t1439 t1442 t1458 t1459 t1460 t1461 t1464 t1465 t1466 t1469))))) = some true := by first | (rw [if_pos rfl] at H; exact H) | rfl
      clear H
      have H := H1
      clear H1
      replace H := Option.bind_eq_some_iff.mp H
      obtain ⟨⟨t1486, t1487, t1488⟩, A640, H⟩ := H
      replace H : (if t1486 < 0 then (laws_FnExactGuide.j1 kj11 a1 t1443 true a0_0 a0_1 a0_2 l0_3 a0_4 a0_5 l0_6 a0_7 t1431 t1432 t1433 t1434 t1437 t1438 t1439 t1442 t1458 t1459 t1460 t1461 t1464 t1465 t1466 t1469) else ((laws_eqGarden.f kj11 t1458 t1459 t1460 t1461 t1464 t1465 t1466 t1469 t1431 t1432 t1433 t1434 t1437 t1438 t1439 t1442).bind fun t1489 => (if t1489 = true then (laws_FnExactGuide.j1 kj11 a1 t1443 (t1470 != t1443) a0_0 a0_1 a0_2 l0_3 a0_4 a0_5 l0_6 a0_7 t1431 t1432 t1433 t1434 t1437 t1438 t1439 t1442 t1458 t1459 t1460 t1461 t1464 t1465 t1466 t1469) else (laws_FnExactGuide.j1 kj11 a1 t1443 true a0_0 a0_1 a0_2 l0_3 a0_4 a0_5 l0_6 a0_7 t1431 t1432 t1433 t1434 t1437 t1438 t1439 t1442 t1458 t1459 t1460 t1461 t1464 t1465 t1466 t1469)))) = some true := H
      have A64 := aK A640
      clear A640
      have HC65 := aK H
      clear H
      try go_wp2
      have n0_ := aK (Kd.R_drew HO_1445003.out)
      have n1_ := aK (Kd.R_drew HO_1445006.out)
      have n2_ := aK (Kd.R_drew HO_1458003.out)
      have n3_ := aK (Kd.R_drew HO_1458006.out)
      have n4_ := aK (Kd.R_drew HO_1472003.out)
      have n5_ := aK (Kd.R_drew HO_1472006.out)
      have n6_ := aK (kD BK1417.out)
      have n7_ := aK (kD BK1444.out)
      have n8_ := aK (kD BK1457.out)
      have n9_ := aK (kD BK1471.out)
      have n10_ := aK (bD1 HB.out)
      clear HO_1445003
      clear HO_1445006
      clear HO_1458003
      clear HO_1458006
      clear HO_1472003
      clear HO_1472006
      clear BK1417
      clear BK1444
      clear BK1457
      clear BK1471
      clear HB
      have HO_1445003 := n0_
      have HO_1445006 := n1_
      have HO_1458003 := n2_
      have HO_1458006 := n3_
      have HO_1472003 := n4_
      have HO_1472006 := n5_
      have BK1417 := n6_
      have BK1444 := n7_
      have BK1457 := n8_
      have BK1471 := n9_
      have HB := n10_
      clear n0_ n1_ n2_ n3_ n4_ n5_ n6_ n7_ n8_ n9_ n10_
      refine start_ (n := 5) (S := fun w' => w'.cell? ⟨gb1457, 0, none⟩ = some (.int .i64 t1445) ∧ w'.cell? ⟨gb1457, 1, none⟩ = some (.int .i64 t1446) ∧ w'.cell? ⟨gb1457, 2, none⟩ = some (.int .i64 t1447) ∧ w'.cell? ⟨gb1457, 3, none⟩ = some (.slice Ao32 t1448.length co32) ∧ w'.cell? ⟨gb1457, 4, none⟩ = some (.int .i64 t1451) ∧ w'.cell? ⟨gb1457, 5, none⟩ = some (.int .i64 t1452) ∧ w'.cell? ⟨gb1457, 6, none⟩ = some (.slice Ao33 t1453.length co33) ∧ w'.cell? ⟨gb1457, 7, none⟩ = some (.int .i64 t1456) ∧ w'.cell? ⟨gb1417, 0, none⟩ = some (.int .i64 a0_0) ∧ w'.cell? ⟨gb1417, 1, none⟩ = some (.int .i64 a0_1) ∧ w'.cell? ⟨gb1417, 2, none⟩ = some (.int .i64 a0_2) ∧ w'.cell? ⟨gb1417, 3, none⟩ = some (.slice A0_3 l0_3.length c0_3) ∧ w'.cell? ⟨gb1417, 4, none⟩ = some (.int .i64 a0_4) ∧ w'.cell? ⟨gb1417, 5, none⟩ = some (.int .i64 a0_5) ∧ w'.cell? ⟨gb1417, 6, none⟩ = some (.slice A0_6 l0_6.length c0_6) ∧ w'.cell? ⟨gb1417, 7, none⟩ = some (.int .i64 a0_7)) (ds := []) #[bN,bN,bN,bN,bN] (by kernel_rfl) rfl rfl ⟨zQ BK1457 0, zQ BK1457 1, zQ BK1457 2, zQ BK1457 3, zQ BK1457 4, zQ BK1457 5, zQ BK1457 6, zQ BK1457 7, zQ BK1417 0, zQ BK1417 1, zQ BK1417 2, zQ BK1417 3, zQ BK1417 4, zQ BK1417 5, zQ BK1417 6, zQ BK1417 7⟩ (fun hHeld => ?_)
      generalize wc.drew = w66 at HO_1445003 HO_1445006 HO_1458003 HO_1458006 HO_1472003 HO_1472006 BK1417 BK1444 BK1457 BK1471 HB hHeld ⊢
      refine take_ (i := 0) (N := some 45) (v := ?_) (a' := ?_) #[bY,bN,bN,bN,bN] rfl rfl (by kernel_rfl) (fun _ _ _ h => h) (Or.inl ⟨by rfl, ?_⟩) hHeld ?_ ?_
      rotate_left
      ·rintro w' ⟨s0, s1, s2, s3, s4, s5, s6, s7, s8, s9, s10, s11, s12, s13, s14, s15⟩
       go_simp
       with_reducible rfl
      rotate_left
      ·simp only [Act.put, sTA, sZ, sS, i64_w, i32_w]
       rfl
      refine take_ (i := 1) (N := some 46) (v := ?_) (a' := ?_) #[bY,bY,bN,bN,bN] rfl rfl (by kernel_rfl) (fun _ _ _ h => h) (Or.inl ⟨by rfl, ?_⟩) hHeld ?_ ?_
      rotate_left
      ·rintro w' ⟨s0, s1, s2, s3, s4, s5, s6, s7, s8, s9, s10, s11, s12, s13, s14, s15⟩
       go_simp
       with_reducible rfl
      rotate_left
      ·simp only [Act.put, sTA, sZ, sS, i64_w, i32_w]
       rfl
      refine one_ (i := 2) (N := some 47) #[bY,bY,bY,bN,bN] rfl rfl (by kernel_rfl) (by decide) (fun K hK => ?_)
      refine goes_ Tryz.func17 (by kernel_rfl) rfl #[.agg #[.int .i64 a0_0, .int .i64 a0_1, .int .i64 a0_2, .slice A0_3 l0_3.length c0_3, .int .i64 a0_4, .int .i64 a0_5, .slice A0_6 l0_6.length c0_6, .int .i64 a0_7]] (by rfl) rfl rfl zD ?_
      with_reducible refine (laws_toGarden.calls kj11 a0_0 a0_1 a0_2 _ _ l0_3 a0_4 a0_5 _ _ l0_6 a0_7 t1473 t1474 t1475 t1476 t1479 t1480 t1481 t1484 _ ?side1 ?side2 ?side3 ?side4 A61.out).mono ?_
      (case side1 => exact zC (Kd.C_below HR0_3.out HB.out))
      (case side2 => exact HC0_3.out)
      (case side3 => exact zC (Kd.C_below HR0_6.out HB.out))
      (case side4 => exact HC0_6.out)
      rintro e w67 ⟨v1477, v1482, rfl, ho0, ho1, hb⟩
      refine ⟨_, rfl, ?_⟩
      have n0_ := aK (Kd.R_mono (Kd.R_told (Kd.R_told (Kd.R_old (zA HO_1445003) hb) (Kd.R_base ho0)) (Kd.R_base ho1)) (fun _ h_ => h_.1))
      have n1_ := aK (Kd.R_mono (Kd.R_told (Kd.R_told (Kd.R_old (zA HO_1445006) hb) (Kd.R_base ho0)) (Kd.R_base ho1)) (fun _ h_ => h_.1))
      have n2_ := aK (Kd.R_mono (Kd.R_told (Kd.R_told (Kd.R_old (zA HO_1458003) hb) (Kd.R_base ho0)) (Kd.R_base ho1)) (fun _ h_ => h_.1))
      have n3_ := aK (Kd.R_mono (Kd.R_told (Kd.R_told (Kd.R_old (zA HO_1458006) hb) (Kd.R_base ho0)) (Kd.R_base ho1)) (fun _ h_ => h_.1))
      have n4_ := aK (Kd.R_mono (Kd.R_told (Kd.R_told (Kd.R_old (zA HO_1472003) hb) (Kd.R_base ho0)) (Kd.R_base ho1)) (fun _ h_ => h_.1))
      have n5_ := aK (Kd.R_mono (Kd.R_told (Kd.R_told (Kd.R_old (zA HO_1472006) hb) (Kd.R_base ho0)) (Kd.R_base ho1)) (fun _ h_ => h_.1))
      have n6_ := aK (Kd.R_lower (Kd.R_new' (Kd.R_new' (Kd.R_new' (Kd.R_new' (Kd.R_new' (Kd.R_new' ho0 (Kd.R_lt (zA HO_1445003))) (Kd.R_lt (zA HO_1445006))) (Kd.R_lt (zA HO_1458003))) (Kd.R_lt (zA HO_1458006))) (Kd.R_lt (zA HO_1472003))) (Kd.R_lt (zA HO_1472006))) (bSz (zH4 HB GE1417 GE1444 GE1457 GE1471)))
      have n7_ := aK (Kd.R_lower (Kd.R_new' (Kd.R_new' (Kd.R_new' (Kd.R_new' (Kd.R_new' (Kd.R_new' ho1 (Kd.R_lt (zA HO_1445003))) (Kd.R_lt (zA HO_1445006))) (Kd.R_lt (zA HO_1458003))) (Kd.R_lt (zA HO_1458006))) (Kd.R_lt (zA HO_1472003))) (Kd.R_lt (zA HO_1472006))) (bSz (zH4 HB GE1417 GE1444 GE1457 GE1471)))
      have n8_ := zB BK1417 hb
      have n9_ := zB BK1444 hb
      have n10_ := zB BK1457 hb
      have n11_ := zB BK1471 hb
      have n12_ := aK (bSp (zH4 HB GE1417 GE1444 GE1457 GE1471) hb)
      clear HO_1445003
      clear HO_1445006
      clear HO_1458003
      clear HO_1458006
      clear HO_1472003
      clear HO_1472006
      clear BK1417
      clear BK1444
      clear BK1457
      clear BK1471
      clear HB
      have HO_1445003 := n0_
      have HO_1445006 := n1_
      have HO_1458003 := n2_
      have HO_1458006 := n3_
      have HO_1472003 := n4_
      have HO_1472006 := n5_
      have HO1478 := n6_
      have HO1483 := n7_
      have BK1417 := n8_
      have BK1444 := n9_
      have BK1457 := n10_
      have BK1471 := n11_
      have HB := n12_
      clear n0_ n1_ n2_ n3_ n4_ n5_ n6_ n7_ n8_ n9_ n10_ n11_ n12_
      (try clear hb)
      (try clear hb2)
      (try clear hk)
      (try clear hi)
      (try clear ho0)
      (try clear ho1)
      obtain ⟨Ao68, co68, eo68⟩ := Kd.R_slice HO1478.out
      (first | subst eo68 | (injection eo68 with f1_ f2_ f3_; have f4_ := f1_.symm; have f5_ := f3_.symm; clear f1_ f2_ f3_; subst f4_; subst f5_))
      obtain ⟨Ao69, co69, eo69⟩ := Kd.R_slice HO1483.out
      (first | subst eo69 | (injection eo69 with f1_ f2_ f3_; have f4_ := f1_.symm; have f5_ := f3_.symm; clear f1_ f2_ f3_; subst f4_; subst f5_))
      refine hK.out _ _ ⟨zQ BK1457 0, zQ BK1457 1, zQ BK1457 2, zQ BK1457 3, zQ BK1457 4, zQ BK1457 5, zQ BK1457 6, zQ BK1457 7, zQ BK1417 0, zQ BK1417 1, zQ BK1417 2, zQ BK1417 3, zQ BK1417 4, zQ BK1417 5, zQ BK1417 6, zQ BK1417 7⟩ (fun hHeld => ?_)
      clear hK K
      refine norm_ (a' := ?_) ?_ ?_
      rotate_left
      ·show Act.put _ (some 47) _ = _
       simp only [Act.put, sTA, sZ, sS, i64_w, i32_w]
       rfl
      refine one_ (i := 3) (N := some 48) #[bY,bY,bY,bY,bN] rfl rfl (by kernel_rfl) (by decide) (fun K hK => ?_)
      refine goes_ Tryz.func19 (by kernel_rfl) rfl #[.agg #[.int .i64 t1445, .int .i64 t1446, .int .i64 t1447, .slice Ao32 t1448.length co32, .int .i64 t1451, .int .i64 t1452, .slice Ao33 t1453.length co33, .int .i64 t1456], .agg #[.int .i64 t1473, .int .i64 t1474, .int .i64 t1475, .slice Ao68 t1476.length co68, .int .i64 t1479, .int .i64 t1480, .slice Ao69 t1481.length co69, .int .i64 t1484]] (by rfl) rfl rfl zD ?_
      with_reducible refine (laws_eqGarden.calls kj11 t1445 t1446 t1447 _ _ t1448 t1451 t1452 _ _ t1453 t1456 t1473 t1474 t1475 _ _ t1476 t1479 t1480 _ _ t1481 t1484 true _ ?side1 ?side2 ?side3 ?side4 ?side5 ?side6 ?side7 ?side8 A62.out).mono ?_
      (case side1 => exact zC (Kd.R_reads' HO_1458003.out).2.2)
      (case side2 => exact (Kd.R_reads' HO_1458003.out).2.1)
      (case side3 => exact zC (Kd.R_reads' HO_1458006.out).2.2)
      (case side4 => exact (Kd.R_reads' HO_1458006.out).2.1)
      (case side5 => exact zC (Kd.R_reads' HO1478.out).2.2)
      (case side6 => exact (Kd.R_reads' HO1478.out).2.1)
      (case side7 => exact zC (Kd.R_reads' HO1483.out).2.2)
      (case side8 => exact (Kd.R_reads' HO1483.out).2.1)
      rintro e w70 ⟨rfl, hb⟩
      refine ⟨_, rfl, ?_⟩
      have n0_ := aK (Kd.R_below (zA HO_1445003) hb)
      have n1_ := aK (Kd.R_below (zA HO_1445006) hb)
      have n2_ := aK (Kd.R_below (zA HO_1458003) hb)
      have n3_ := aK (Kd.R_below (zA HO_1458006) hb)
      have n4_ := aK (Kd.R_below (zA HO_1472003) hb)
      have n5_ := aK (Kd.R_below (zA HO_1472006) hb)
      have n6_ := aK (Kd.R_below (zA HO1478) hb)
      have n7_ := aK (Kd.R_below (zA HO1483) hb)
      have n8_ := zB BK1417 hb
      have n9_ := zB BK1444 hb
      have n10_ := zB BK1457 hb
      have n11_ := zB BK1471 hb
      have n12_ := aK (bSp (zH4 HB GE1417 GE1444 GE1457 GE1471) hb)
      clear HO_1445003
      clear HO_1445006
      clear HO_1458003
      clear HO_1458006
      clear HO_1472003
      clear HO_1472006
      clear HO1478
      clear HO1483
      clear BK1417
      clear BK1444
      clear BK1457
      clear BK1471
      clear HB
      have HO_1445003 := n0_
      have HO_1445006 := n1_
      have HO_1458003 := n2_
      have HO_1458006 := n3_
      have HO_1472003 := n4_
      have HO_1472006 := n5_
      have HO1478 := n6_
      have HO1483 := n7_
      have BK1417 := n8_
      have BK1444 := n9_
      have BK1457 := n10_
      have BK1471 := n11_
      have HB := n12_
      clear n0_ n1_ n2_ n3_ n4_ n5_ n6_ n7_ n8_ n9_ n10_ n11_ n12_
      (try clear hb)
      (try clear hb2)
      (try clear hk)
      (try clear hi)
      refine hK.out _ _ ⟨zQ BK1457 0, zQ BK1457 1, zQ BK1457 2, zQ BK1457 3, zQ BK1457 4, zQ BK1457 5, zQ BK1457 6, zQ BK1457 7, zQ BK1417 0, zQ BK1417 1, zQ BK1417 2, zQ BK1417 3, zQ BK1417 4, zQ BK1417 5, zQ BK1417 6, zQ BK1417 7⟩ (fun hHeld => ?_)
      clear hK K
      refine norm_ (a' := ?_) ?_ ?_
      rotate_left
      ·show Act.put _ (some 48) _ = _
       simp only [Act.put, sTA, sZ, sS, i64_w, i32_w]
       rfl
      refine pure_ (i := 4) (N := some 49) (v := ?_) (a' := ?_) #[bY,bY,bY,bY,bY] rfl rfl (by kernel_rfl) (fun _ _ _ h => h) (Or.inl ⟨by rfl, ?_⟩) ?_ ?_
      rotate_left
      ·intro w'
       go_simp
       with_reducible rfl
      rotate_left
      ·simp only [Act.put, sTA, sZ, sS, i64_w, i32_w]
       rfl
      refine done_ (by kernel_rfl) ?_
      have hnb71 := NB1457_1417.out
      have hnc71 := NB1417_1457.out
      have hnb72 := NB1457_1444.out
      have hnc72 := NB1444_1457.out
      have hnb73 := NB1457_1471.out
      have hnc73 := NB1471_1457.out
      obtain ⟨hcz74_0, hcz74_1, hcz74_2, hcz74_3, hcz74_4, hcz74_5, hcz74_6, hcz74_7, hfz74_0, hfz74_1, hfz74_2, hfz74_3, hfz74_4, hfz74_5, hfz74_6, hfz74_7⟩ := cl8 BK1457.out
      go_upto_region 14 with (first | ((with_reducible refine gate_callee (f := 20) rfl ?_); refine goesL_ (some 52) rfl rfl Tryz.func20 (by kernel_rfl) rfl #[.agg #[.int .i64 t1445, .int .i64 t1446, .int .i64 t1447, .slice Ao32 t1448.length co32, .int .i64 t1451, .int .i64 t1452, .slice Ao33 t1453.length co33, .int .i64 t1456], .int .i64 1] rfl zD ?_; (with_reducible refine (laws_markGarden.calls kj11 t1445 t1446 t1447 (fun k_ => some k_ = (.slice Ao32 t1448.length co32 : Value).ownBlock) (.slice Ao32 t1448.length co32) t1448 t1451 t1452 (fun k_ => some k_ = (.slice Ao33 t1453.length co33 : Value).ownBlock) (.slice Ao33 t1453.length co33) t1453 t1456 1 t1486 t1487 t1488 w _ ?side1 ?side2 ?side3 ?side4 ?side5 A64.out).mono ?_); (case side1 => exact (zH4 HB GE1417 GE1444 GE1457 GE1471)); (case side2 => exact Kd.R_tight rfl HO_1458003.out); (case side3 => exact fun k_ e_ => (HO_1458003.out.1 k_ e_.symm).1.1.2.2.1); (case side4 => exact Kd.R_tight rfl HO_1458006.out); (case side5 => exact fun k_ e_ => (HO_1458006.out.1 k_ e_.symm).1.1.2.2.1); rintro e w75 ⟨rfl, hy0, hy1, hb, hkp⟩; refine ⟨_, rfl, ?_⟩; replace HO_1445003 := aK (Kd.R_mono (ok' := fun k_ => some k_ ≠ (.slice Ao25 t1439.length co25 : Value).ownBlock ∧ some k_ ≠ (.slice Ao32 t1448.length co32 : Value).ownBlock ∧ some k_ ≠ (.slice Ao33 t1453.length co33 : Value).ownBlock ∧ some k_ ≠ (.slice Ao40 t1461.length co40 : Value).ownBlock ∧ some k_ ≠ (.slice Ao41 t1466.length co41 : Value).ownBlock ∧ some k_ ≠ (.slice Ao68 t1476.length co68 : Value).ownBlock ∧ some k_ ≠ (.slice Ao69 t1481.length co69 : Value).ownBlock) (Kd.R_keptB (HO_1445003.out) hkp (fun k_ hk_ hs_ => Or.elim hs_ (hk_.1.1.2.1) (hk_.1.1.2.2.1))) (fun k_ hk_ => ⟨hk_.1.1.1.1, hk_.1.1.1.2.1, hk_.1.1.1.2.2.1, hk_.1.1.1.2.2.2.1, hk_.1.1.1.2.2.2.2, hk_.1.1.2, hk_.1.2⟩)); replace HO_1445006 := aK (Kd.R_mono (ok' := fun k_ => some k_ ≠ (.slice Ao24 t1434.length co24 : Value).ownBlock ∧ some k_ ≠ (.slice Ao32 t1448.length co32 : Value).ownBlock ∧ some k_ ≠ (.slice Ao33 t1453.length co33 : Value).ownBlock ∧ some k_ ≠ (.slice Ao40 t1461.length co40 : Value).ownBlock ∧ some k_ ≠ (.slice Ao41 t1466.length co41 : Value).ownBlock ∧ some k_ ≠ (.slice Ao68 t1476.length co68 : Value).ownBlock ∧ some k_ ≠ (.slice Ao69 t1481.length co69 : Value).ownBlock) (Kd.R_keptB (HO_1445006.out) hkp (fun k_ hk_ hs_ => Or.elim hs_ (hk_.1.1.2.1) (hk_.1.1.2.2.1))) (fun k_ hk_ => ⟨hk_.1.1.1.1, hk_.1.1.1.2.1, hk_.1.1.1.2.2.1, hk_.1.1.1.2.2.2.1, hk_.1.1.1.2.2.2.2, hk_.1.1.2, hk_.1.2⟩)); replace HO_1472003 := aK (Kd.R_mono (ok' := fun k_ => some k_ ≠ (.slice Ao24 t1434.length co24 : Value).ownBlock ∧ some k_ ≠ (.slice Ao25 t1439.length co25 : Value).ownBlock ∧ some k_ ≠ (.slice Ao32 t1448.length co32 : Value).ownBlock ∧ some k_ ≠ (.slice Ao33 t1453.length co33 : Value).ownBlock ∧ some k_ ≠ (.slice Ao41 t1466.length co41 : Value).ownBlock ∧ some k_ ≠ (.slice Ao68 t1476.length co68 : Value).ownBlock ∧ some k_ ≠ (.slice Ao69 t1481.length co69 : Value).ownBlock) (Kd.R_keptB (HO_1472003.out) hkp (fun k_ hk_ hs_ => Or.elim hs_ (hk_.1.1.2.2.1) (hk_.1.1.2.2.2.1))) (fun k_ hk_ => ⟨hk_.1.1.1.1, hk_.1.1.1.2.1, hk_.1.1.1.2.2.1, hk_.1.1.1.2.2.2.1, hk_.1.1.1.2.2.2.2, hk_.1.1.2, hk_.1.2⟩)); replace HO_1472006 := aK (Kd.R_mono (ok' := fun k_ => some k_ ≠ (.slice Ao24 t1434.length co24 : Value).ownBlock ∧ some k_ ≠ (.slice Ao25 t1439.length co25 : Value).ownBlock ∧ some k_ ≠ (.slice Ao32 t1448.length co32 : Value).ownBlock ∧ some k_ ≠ (.slice Ao33 t1453.length co33 : Value).ownBlock ∧ some k_ ≠ (.slice Ao40 t1461.length co40 : Value).ownBlock ∧ some k_ ≠ (.slice Ao68 t1476.length co68 : Value).ownBlock ∧ some k_ ≠ (.slice Ao69 t1481.length co69 : Value).ownBlock) (Kd.R_keptB (HO_1472006.out) hkp (fun k_ hk_ hs_ => Or.elim hs_ (hk_.1.1.2.2.1) (hk_.1.1.2.2.2.1))) (fun k_ hk_ => ⟨hk_.1.1.1.1, hk_.1.1.1.2.1, hk_.1.1.1.2.2.1, hk_.1.1.1.2.2.2.1, hk_.1.1.1.2.2.2.2, hk_.1.1.2, hk_.1.2⟩)); replace BK1417 := aK (blk_kept (zK BK1417) hkp (fun hs_ => Or.elim hs_ (Kd.R_ne HO_1458003.out BK1417.out (by decide)) (Kd.R_ne HO_1458006.out BK1417.out (by decide)))); replace BK1444 := aK (blk_kept (zK BK1444) hkp (fun hs_ => Or.elim hs_ (Kd.R_ne HO_1458003.out BK1444.out (by decide)) (Kd.R_ne HO_1458006.out BK1444.out (by decide)))); replace BK1457 := aK (blk_kept (zK BK1457) hkp (fun hs_ => Or.elim hs_ (Kd.R_ne HO_1458003.out BK1457.out (by decide)) (Kd.R_ne HO_1458006.out BK1457.out (by decide)))); replace BK1471 := aK (blk_kept (zK BK1471) hkp (fun hs_ => Or.elim hs_ (Kd.R_ne HO_1458003.out BK1471.out (by decide)) (Kd.R_ne HO_1458006.out BK1471.out (by decide)))); replace HO_1458003 := aK (Kd.R_reok rfl hy0 (fun k_ e_ => HO_1458003.out.1 k_ e_)); replace HO_1458006 := aK (Kd.R_reok rfl hy1 (fun k_ e_ => HO_1458006.out.1 k_ e_)); replace HO1478 := aK (Kd.R_mono (ok' := fun k_ => some k_ ≠ (.slice Ao24 t1434.length co24 : Value).ownBlock ∧ some k_ ≠ (.slice Ao25 t1439.length co25 : Value).ownBlock ∧ some k_ ≠ (.slice Ao32 t1448.length co32 : Value).ownBlock ∧ some k_ ≠ (.slice Ao33 t1453.length co33 : Value).ownBlock ∧ some k_ ≠ (.slice Ao40 t1461.length co40 : Value).ownBlock ∧ some k_ ≠ (.slice Ao41 t1466.length co41 : Value).ownBlock ∧ some k_ ≠ (.slice Ao69 t1481.length co69 : Value).ownBlock) (Kd.R_keptB (HO1478.out) hkp (fun k_ hk_ hs_ => Or.elim hs_ (hk_.1.1.1.2) (hk_.1.1.2))) (fun k_ hk_ => ⟨hk_.1.1.1.1.1.1.2, hk_.1.1.1.1.1.2, hk_.1.1.1.1.2, hk_.1.1.1.2, hk_.1.1.2, hk_.1.2, hk_.1.1.1.1.1.1.1⟩)); replace HO1483 := aK (Kd.R_mono (ok' := fun k_ => some k_ ≠ (.slice Ao24 t1434.length co24 : Value).ownBlock ∧ some k_ ≠ (.slice Ao25 t1439.length co25 : Value).ownBlock ∧ some k_ ≠ (.slice Ao32 t1448.length co32 : Value).ownBlock ∧ some k_ ≠ (.slice Ao33 t1453.length co33 : Value).ownBlock ∧ some k_ ≠ (.slice Ao40 t1461.length co40 : Value).ownBlock ∧ some k_ ≠ (.slice Ao41 t1466.length co41 : Value).ownBlock ∧ some k_ ≠ (.slice Ao68 t1476.length co68 : Value).ownBlock) (Kd.R_keptB (HO1483.out) hkp (fun k_ hk_ hs_ => Or.elim hs_ (hk_.1.1.1.2) (hk_.1.1.2))) (fun k_ hk_ => ⟨hk_.1.1.1.1.1.1.2, hk_.1.1.1.1.1.2, hk_.1.1.1.1.2, hk_.1.1.1.2, hk_.1.1.2, hk_.1.2, hk_.1.1.1.1.1.1.1⟩)); replace HB := aK (hb); (try clear hb); (try clear hkp); (try clear hy0); (try clear hy1)))
      (try simp only [Act.put, sTA, sZ, sS])
      go_cut [65] (fun v65 wc => ∃ (kq : Nat) (x65_64 : Bool), v65 = .bool x65_64 ∧ Aside0 (laws_FnExactGuide.j1 kq a1 t1443 x65_64 a0_0 a0_1 a0_2 l0_3 a0_4 a0_5 l0_6 a0_7 t1431 t1432 t1433 t1434 t1437 t1438 t1439 t1442 t1458 t1459 t1460 t1461 t1464 t1465 t1466 t1469 = some true) ∧ Aside0 (kq ≤ kj11) ∧ Aside0 (Kd.R (Kd.int .i64) 3 wc w.heap.size (fun k_ => some k_ ≠ ((.slice Ao25 t1439.length co25) : Value).ownBlock ∧ some k_ ≠ ((.slice Ao32 t1448.length co32) : Value).ownBlock ∧ some k_ ≠ ((.slice Ao33 t1453.length co33) : Value).ownBlock ∧ some k_ ≠ ((.slice Ao40 t1461.length co40) : Value).ownBlock ∧ some k_ ≠ ((.slice Ao41 t1466.length co41) : Value).ownBlock) (.slice Ao24 t1434.length co24) t1434) ∧ Aside0 (Kd.R (Kd.int .i64) 3 wc w.heap.size (fun k_ => some k_ ≠ ((.slice Ao24 t1434.length co24) : Value).ownBlock ∧ some k_ ≠ ((.slice Ao32 t1448.length co32) : Value).ownBlock ∧ some k_ ≠ ((.slice Ao33 t1453.length co33) : Value).ownBlock ∧ some k_ ≠ ((.slice Ao40 t1461.length co40) : Value).ownBlock ∧ some k_ ≠ ((.slice Ao41 t1466.length co41) : Value).ownBlock) (.slice Ao25 t1439.length co25) t1439) ∧ Aside0 (Kd.R (Kd.int .i64) 3 wc w.heap.size (fun k_ => some k_ ≠ ((.slice Ao24 t1434.length co24) : Value).ownBlock ∧ some k_ ≠ ((.slice Ao25 t1439.length co25) : Value).ownBlock ∧ some k_ ≠ ((.slice Ao33 t1453.length co33) : Value).ownBlock ∧ some k_ ≠ ((.slice Ao40 t1461.length co40) : Value).ownBlock ∧ some k_ ≠ ((.slice Ao41 t1466.length co41) : Value).ownBlock) (.slice Ao32 t1448.length co32) t1487) ∧ Aside0 (Kd.R (Kd.int .i64) 3 wc w.heap.size (fun k_ => some k_ ≠ ((.slice Ao24 t1434.length co24) : Value).ownBlock ∧ some k_ ≠ ((.slice Ao25 t1439.length co25) : Value).ownBlock ∧ some k_ ≠ ((.slice Ao32 t1448.length co32) : Value).ownBlock ∧ some k_ ≠ ((.slice Ao40 t1461.length co40) : Value).ownBlock ∧ some k_ ≠ ((.slice Ao41 t1466.length co41) : Value).ownBlock) (.slice Ao33 t1453.length co33) t1488) ∧ Aside0 (Kd.R (Kd.int .i64) 3 wc w.heap.size (fun k_ => some k_ ≠ ((.slice Ao24 t1434.length co24) : Value).ownBlock ∧ some k_ ≠ ((.slice Ao25 t1439.length co25) : Value).ownBlock ∧ some k_ ≠ ((.slice Ao32 t1448.length co32) : Value).ownBlock ∧ some k_ ≠ ((.slice Ao33 t1453.length co33) : Value).ownBlock ∧ some k_ ≠ ((.slice Ao41 t1466.length co41) : Value).ownBlock) (.slice Ao40 t1461.length co40) t1461) ∧ Aside0 (Kd.R (Kd.int .i64) 3 wc w.heap.size (fun k_ => some k_ ≠ ((.slice Ao24 t1434.length co24) : Value).ownBlock ∧ some k_ ≠ ((.slice Ao25 t1439.length co25) : Value).ownBlock ∧ some k_ ≠ ((.slice Ao32 t1448.length co32) : Value).ownBlock ∧ some k_ ≠ ((.slice Ao33 t1453.length co33) : Value).ownBlock ∧ some k_ ≠ ((.slice Ao40 t1461.length co40) : Value).ownBlock) (.slice Ao41 t1466.length co41) t1466) ∧ Aside0 (wc.heap[gb1417]? = some (.cells #[.int .i64 a0_0, .int .i64 a0_1, .int .i64 a0_2, (.slice A0_3 l0_3.length c0_3), .int .i64 a0_4, .int .i64 a0_5, (.slice A0_6 l0_6.length c0_6), .int .i64 a0_7] 30 (0, 0))) ∧ Aside0 (wc.heap[gb1444]? = some (.cells #[.int .i64 t1431, .int .i64 t1432, .int .i64 t1433, (.slice Ao24 t1434.length co24), .int .i64 t1437, .int .i64 t1438, (.slice Ao25 t1439.length co25), .int .i64 t1442] 38 (0, 0))) ∧ Aside0 (wc.heap[gb1457]? = some (.cells #[.int .i64 t1445, .int .i64 t1446, .int .i64 t1447, (.slice Ao32 t1448.length co32), .int .i64 t1451, .int .i64 t1452, (.slice Ao33 t1453.length co33), .int .i64 t1456] 38 (0, 0))) ∧ Aside0 (wc.heap[gb1471]? = some (.cells #[.int .i64 t1458, .int .i64 t1459, .int .i64 t1460, (.slice Ao40 t1461.length co40), .int .i64 t1464, .int .i64 t1465, (.slice Ao41 t1466.length co41), .int .i64 t1469] 38 (0, 0))) ∧ Aside0 (Below w.heap.size w wc))
      case first =>
       have H := HC65.out
       clear HC65
       by_cases c76 : t1486 < 0
       ·rw [if_pos c76] at H
        have c76b0 : decide (t1486 < 0) = true := decide_eq_true c76
        clear c76
        (first | rw [c76b0] | (simp only [i64_w, i32_w]; rw [c76b0]) | skip)
        have H' := aK H
        clear H
        go_wp2
        go_meet
        case rel => exact ⟨_, (true), (by first | rfl | (simp; done) | (simp [*]; done)), H', ⟨by have := HJ11.out; first | omega | exact Nat.le_refl _⟩, ⟨by (with_reducible repeat (first | apply Kd.R_alloc | apply Kd.R_drewN | apply Kd.R_drew)); exact Kd.R_mono HO_1445003.out (fun _ hk => ⟨hk.1, ⟨hk.2.1, ⟨hk.2.2.1, ⟨hk.2.2.2.1, hk.2.2.2.2.1⟩⟩⟩⟩)⟩, ⟨by (with_reducible repeat (first | apply Kd.R_alloc | apply Kd.R_drewN | apply Kd.R_drew)); exact Kd.R_mono HO_1445006.out (fun _ hk => ⟨hk.1, ⟨hk.2.1, ⟨hk.2.2.1, ⟨hk.2.2.2.1, hk.2.2.2.2.1⟩⟩⟩⟩)⟩, ⟨by (with_reducible repeat (first | apply Kd.R_alloc | apply Kd.R_drewN | apply Kd.R_drew)); exact Kd.R_mono HO_1458003.out (fun _ hk => ⟨hk.1.1.1, ⟨hk.1.1.2.1, ⟨hk.1.1.2.2.1, ⟨hk.1.1.2.2.2.1, hk.1.1.2.2.2.2⟩⟩⟩⟩)⟩, ⟨by (with_reducible repeat (first | apply Kd.R_alloc | apply Kd.R_drewN | apply Kd.R_drew)); exact Kd.R_mono HO_1458006.out (fun _ hk => ⟨hk.1.1.1, ⟨hk.1.1.2.1, ⟨hk.1.1.2.2.1, ⟨hk.1.1.2.2.2.1, hk.1.1.2.2.2.2⟩⟩⟩⟩)⟩, ⟨by (with_reducible repeat (first | apply Kd.R_alloc | apply Kd.R_drewN | apply Kd.R_drew)); exact Kd.R_mono HO_1472003.out (fun _ hk => ⟨hk.1, ⟨hk.2.1, ⟨hk.2.2.1, ⟨hk.2.2.2.1, hk.2.2.2.2.1⟩⟩⟩⟩)⟩, ⟨by (with_reducible repeat (first | apply Kd.R_alloc | apply Kd.R_drewN | apply Kd.R_drew)); exact Kd.R_mono HO_1472006.out (fun _ hk => ⟨hk.1, ⟨hk.2.1, ⟨hk.2.2.1, ⟨hk.2.2.2.1, hk.2.2.2.2.1⟩⟩⟩⟩)⟩, ⟨zK BK1417⟩, ⟨zK BK1444⟩, ⟨zK BK1457⟩, ⟨zK BK1471⟩, ⟨zH4 HB GE1417 GE1444 GE1457 GE1471⟩⟩
       ·rw [if_neg c76] at H
        have c76b0 : decide (t1486 < 0) = false := decide_eq_false c76
        clear c76
        (first | rw [c76b0] | (simp only [i64_w, i32_w]; rw [c76b0]) | skip)
        replace H := Option.bind_eq_some_iff.mp H
        obtain ⟨t1489, A770, H⟩ := H
        replace H : (if t1489 = true then (laws_FnExactGuide.j1 kj11 a1 t1443 (t1470 != t1443) a0_0 a0_1 a0_2 l0_3 a0_4 a0_5 l0_6 a0_7 t1431 t1432 t1433 t1434 t1437 t1438 t1439 t1442 t1458 t1459 t1460 t1461 t1464 t1465 t1466 t1469) else (laws_FnExactGuide.j1 kj11 a1 t1443 true a0_0 a0_1 a0_2 l0_3 a0_4 a0_5 l0_6 a0_7 t1431 t1432 t1433 t1434 t1437 t1438 t1439 t1442 t1458 t1459 t1460 t1461 t1464 t1465 t1466 t1469)) = some true := H
        have A77 := aK A770
        clear A770
        by_cases c78 : t1489 = true
        ·subst c78
         have H1 : (laws_FnExactGuide.j1 kj11 a1 t1443 (t1470 != t1443) a0_0 a0_1 a0_2 l0_3 a0_4 a0_5 l0_6 a0_7 t1431 t1432 t1433 t1434 t1437 t1438 t1439 t1442 t1458 t1459 t1460 t1461 t1464 t1465 t1466 t1469) = some true := by first | (rw [if_pos rfl] at H; exact H) | rfl
         clear H
         have H := H1
         clear H1
         have H' := aK H
         clear H
         have hnb79 := NB1471_1417.out
         have hnc79 := NB1417_1471.out
         have hnb80 := NB1471_1444.out
         have hnc80 := NB1444_1471.out
         have hnb81 := NB1471_1457.out
         have hnc81 := NB1457_1471.out
         obtain ⟨hcz82_0, hcz82_1, hcz82_2, hcz82_3, hcz82_4, hcz82_5, hcz82_6, hcz82_7, hfz82_0, hfz82_1, hfz82_2, hfz82_3, hfz82_4, hfz82_5, hfz82_6, hfz82_7⟩ := cl8 BK1471.out
         have hnb83 := NB1444_1417.out
         have hnc83 := NB1417_1444.out
         have hnb84 := NB1444_1457.out
         have hnc84 := NB1457_1444.out
         obtain ⟨hcz85_0, hcz85_1, hcz85_2, hcz85_3, hcz85_4, hcz85_5, hcz85_6, hcz85_7, hfz85_0, hfz85_1, hfz85_2, hfz85_3, hfz85_4, hfz85_5, hfz85_6, hfz85_7⟩ := cl8 BK1444.out
         go_wp2_with (first | (go_at_call 19; (with_reducible refine (laws_eqGarden.calls kj11 t1458 t1459 t1460 _ _ t1461 t1464 t1465 _ _ t1466 t1469 t1431 t1432 t1433 _ _ t1434 t1437 t1438 _ _ t1439 t1442 true _ ?side1 ?side2 ?side3 ?side4 ?side5 ?side6 ?side7 ?side8 A77.out).mono ?_); (case side1 => exact zC (Kd.R_reads' HO_1472003.out).2.2); (case side2 => exact (Kd.R_reads' HO_1472003.out).2.1); (case side3 => exact zC (Kd.R_reads' HO_1472006.out).2.2); (case side4 => exact (Kd.R_reads' HO_1472006.out).2.1); (case side5 => exact zC (Kd.R_reads' HO_1445003.out).2.2); (case side6 => exact (Kd.R_reads' HO_1445003.out).2.1); (case side7 => exact zC (Kd.R_reads' HO_1445006.out).2.2); (case side8 => exact (Kd.R_reads' HO_1445006.out).2.1); rintro e w86 ⟨rfl, hb⟩; replace HO_1445003 := aK (Kd.R_below (zA HO_1445003) hb); replace HO_1445006 := aK (Kd.R_below (zA HO_1445006) hb); replace HO_1458003 := aK (Kd.R_below (zA HO_1458003) hb); replace HO_1458006 := aK (Kd.R_below (zA HO_1458006) hb); replace HO_1472003 := aK (Kd.R_below (zA HO_1472003) hb); replace HO_1472006 := aK (Kd.R_below (zA HO_1472006) hb); replace HO1478 := aK (Kd.R_below (zA HO1478) hb); replace HO1483 := aK (Kd.R_below (zA HO1483) hb); replace BK1417 := zB BK1417 hb; replace BK1444 := zB BK1444 hb; replace BK1457 := zB BK1457 hb; replace BK1471 := zB BK1471 hb; replace HB := aK (bSp (zH4 HB GE1417 GE1444 GE1457 GE1471) hb); (try clear hb); (try clear hb2); (try clear hk); (try clear hi)))
         go_meet
         case rel => exact ⟨_, ((t1470 != t1443)), (by first | rfl | (simp; done) | (simp [*]; done)), H', ⟨by have := HJ11.out; first | omega | exact Nat.le_refl _⟩, ⟨by (with_reducible repeat (first | apply Kd.R_alloc | apply Kd.R_drewN | apply Kd.R_drew)); exact Kd.R_mono HO_1445003.out (fun _ hk => ⟨hk.1, ⟨hk.2.1, ⟨hk.2.2.1, ⟨hk.2.2.2.1, hk.2.2.2.2.1⟩⟩⟩⟩)⟩, ⟨by (with_reducible repeat (first | apply Kd.R_alloc | apply Kd.R_drewN | apply Kd.R_drew)); exact Kd.R_mono HO_1445006.out (fun _ hk => ⟨hk.1, ⟨hk.2.1, ⟨hk.2.2.1, ⟨hk.2.2.2.1, hk.2.2.2.2.1⟩⟩⟩⟩)⟩, ⟨by (with_reducible repeat (first | apply Kd.R_alloc | apply Kd.R_drewN | apply Kd.R_drew)); exact Kd.R_mono HO_1458003.out (fun _ hk => ⟨hk.1.1.1, ⟨hk.1.1.2.1, ⟨hk.1.1.2.2.1, ⟨hk.1.1.2.2.2.1, hk.1.1.2.2.2.2⟩⟩⟩⟩)⟩, ⟨by (with_reducible repeat (first | apply Kd.R_alloc | apply Kd.R_drewN | apply Kd.R_drew)); exact Kd.R_mono HO_1458006.out (fun _ hk => ⟨hk.1.1.1, ⟨hk.1.1.2.1, ⟨hk.1.1.2.2.1, ⟨hk.1.1.2.2.2.1, hk.1.1.2.2.2.2⟩⟩⟩⟩)⟩, ⟨by (with_reducible repeat (first | apply Kd.R_alloc | apply Kd.R_drewN | apply Kd.R_drew)); exact Kd.R_mono HO_1472003.out (fun _ hk => ⟨hk.1, ⟨hk.2.1, ⟨hk.2.2.1, ⟨hk.2.2.2.1, hk.2.2.2.2.1⟩⟩⟩⟩)⟩, ⟨by (with_reducible repeat (first | apply Kd.R_alloc | apply Kd.R_drewN | apply Kd.R_drew)); exact Kd.R_mono HO_1472006.out (fun _ hk => ⟨hk.1, ⟨hk.2.1, ⟨hk.2.2.1, ⟨hk.2.2.2.1, hk.2.2.2.2.1⟩⟩⟩⟩)⟩, ⟨zK BK1417⟩, ⟨zK BK1444⟩, ⟨zK BK1457⟩, ⟨zK BK1471⟩, ⟨zH4 HB GE1417 GE1444 GE1457 GE1471⟩⟩
        ·replace c78 := Bool.eq_false_iff.mpr c78
         subst c78
         have H1 : (laws_FnExactGuide.j1 kj11 a1 t1443 true a0_0 a0_1 a0_2 l0_3 a0_4 a0_5 l0_6 a0_7 t1431 t1432 t1433 t1434 t1437 t1438 t1439 t1442 t1458 t1459 t1460 t1461 t1464 t1465 t1466 t1469) = some true := by rw [if_neg (show ¬ (false = true) by decide)] at H; exact H
         clear H
         have H := H1
         clear H1
         have H' := aK H
         clear H
         have hnb87 := NB1471_1417.out
         have hnc87 := NB1417_1471.out
         have hnb88 := NB1471_1444.out
         have hnc88 := NB1444_1471.out
         have hnb89 := NB1471_1457.out
         have hnc89 := NB1457_1471.out
         obtain ⟨hcz90_0, hcz90_1, hcz90_2, hcz90_3, hcz90_4, hcz90_5, hcz90_6, hcz90_7, hfz90_0, hfz90_1, hfz90_2, hfz90_3, hfz90_4, hfz90_5, hfz90_6, hfz90_7⟩ := cl8 BK1471.out
         have hnb91 := NB1444_1417.out
         have hnc91 := NB1417_1444.out
         have hnb92 := NB1444_1457.out
         have hnc92 := NB1457_1444.out
         obtain ⟨hcz93_0, hcz93_1, hcz93_2, hcz93_3, hcz93_4, hcz93_5, hcz93_6, hcz93_7, hfz93_0, hfz93_1, hfz93_2, hfz93_3, hfz93_4, hfz93_5, hfz93_6, hfz93_7⟩ := cl8 BK1444.out
         go_wp2_with (first | (go_at_call 19; (with_reducible refine (laws_eqGarden.calls kj11 t1458 t1459 t1460 _ _ t1461 t1464 t1465 _ _ t1466 t1469 t1431 t1432 t1433 _ _ t1434 t1437 t1438 _ _ t1439 t1442 false _ ?side1 ?side2 ?side3 ?side4 ?side5 ?side6 ?side7 ?side8 A77.out).mono ?_); (case side1 => exact zC (Kd.R_reads' HO_1472003.out).2.2); (case side2 => exact (Kd.R_reads' HO_1472003.out).2.1); (case side3 => exact zC (Kd.R_reads' HO_1472006.out).2.2); (case side4 => exact (Kd.R_reads' HO_1472006.out).2.1); (case side5 => exact zC (Kd.R_reads' HO_1445003.out).2.2); (case side6 => exact (Kd.R_reads' HO_1445003.out).2.1); (case side7 => exact zC (Kd.R_reads' HO_1445006.out).2.2); (case side8 => exact (Kd.R_reads' HO_1445006.out).2.1); rintro e w94 ⟨rfl, hb⟩; replace HO_1445003 := aK (Kd.R_below (zA HO_1445003) hb); replace HO_1445006 := aK (Kd.R_below (zA HO_1445006) hb); replace HO_1458003 := aK (Kd.R_below (zA HO_1458003) hb); replace HO_1458006 := aK (Kd.R_below (zA HO_1458006) hb); replace HO_1472003 := aK (Kd.R_below (zA HO_1472003) hb); replace HO_1472006 := aK (Kd.R_below (zA HO_1472006) hb); replace HO1478 := aK (Kd.R_below (zA HO1478) hb); replace HO1483 := aK (Kd.R_below (zA HO1483) hb); replace BK1417 := zB BK1417 hb; replace BK1444 := zB BK1444 hb; replace BK1457 := zB BK1457 hb; replace BK1471 := zB BK1471 hb; replace HB := aK (bSp (zH4 HB GE1417 GE1444 GE1457 GE1471) hb); (try clear hb); (try clear hb2); (try clear hk); (try clear hi)))
         go_meet
         case rel => exact ⟨_, (true), (by first | rfl | (simp; done) | (simp [*]; done)), H', ⟨by have := HJ11.out; first | omega | exact Nat.le_refl _⟩, ⟨by (with_reducible repeat (first | apply Kd.R_alloc | apply Kd.R_drewN | apply Kd.R_drew)); exact Kd.R_mono HO_1445003.out (fun _ hk => ⟨hk.1, ⟨hk.2.1, ⟨hk.2.2.1, ⟨hk.2.2.2.1, hk.2.2.2.2.1⟩⟩⟩⟩)⟩, ⟨by (with_reducible repeat (first | apply Kd.R_alloc | apply Kd.R_drewN | apply Kd.R_drew)); exact Kd.R_mono HO_1445006.out (fun _ hk => ⟨hk.1, ⟨hk.2.1, ⟨hk.2.2.1, ⟨hk.2.2.2.1, hk.2.2.2.2.1⟩⟩⟩⟩)⟩, ⟨by (with_reducible repeat (first | apply Kd.R_alloc | apply Kd.R_drewN | apply Kd.R_drew)); exact Kd.R_mono HO_1458003.out (fun _ hk => ⟨hk.1.1.1, ⟨hk.1.1.2.1, ⟨hk.1.1.2.2.1, ⟨hk.1.1.2.2.2.1, hk.1.1.2.2.2.2⟩⟩⟩⟩)⟩, ⟨by (with_reducible repeat (first | apply Kd.R_alloc | apply Kd.R_drewN | apply Kd.R_drew)); exact Kd.R_mono HO_1458006.out (fun _ hk => ⟨hk.1.1.1, ⟨hk.1.1.2.1, ⟨hk.1.1.2.2.1, ⟨hk.1.1.2.2.2.1, hk.1.1.2.2.2.2⟩⟩⟩⟩)⟩, ⟨by (with_reducible repeat (first | apply Kd.R_alloc | apply Kd.R_drewN | apply Kd.R_drew)); exact Kd.R_mono HO_1472003.out (fun _ hk => ⟨hk.1, ⟨hk.2.1, ⟨hk.2.2.1, ⟨hk.2.2.2.1, hk.2.2.2.2.1⟩⟩⟩⟩)⟩, ⟨by (with_reducible repeat (first | apply Kd.R_alloc | apply Kd.R_drewN | apply Kd.R_drew)); exact Kd.R_mono HO_1472006.out (fun _ hk => ⟨hk.1, ⟨hk.2.1, ⟨hk.2.2.1, ⟨hk.2.2.2.1, hk.2.2.2.2.1⟩⟩⟩⟩)⟩, ⟨zK BK1417⟩, ⟨zK BK1444⟩, ⟨zK BK1457⟩, ⟨zK BK1471⟩, ⟨zH4 HB GE1417 GE1444 GE1457 GE1471⟩⟩
      case rest =>
       clear HC65
       try clear c1
       try clear c2
       try clear p2
       try clear c3
       try clear c4
       try clear c4b0
       try clear c5
       try clear c6
       try clear c7
       try clear c8
       try clear c9
       try clear c15
       try clear c17
       try clear c19
       try clear c20
       try clear c22
       try clear c28
       try clear c29
       try clear c30
       try clear c36
       try clear c37
       try clear c38
       try clear c43
       try clear c44
       try clear c45
       try clear c46
       try clear c48
       try clear c49
       try clear c52
       try clear c53
       try clear c54
       try clear c56
       try clear c57
       try clear c60
       try clear c63
       try clear c71
       try clear c72
       try clear c73
       try clear c76
       try clear c76b0
       try clear c78
       try clear c79
       try clear c80
       try clear c81
       try clear c83
       try clear c84
       try clear c87
       try clear c88
       try clear c89
       try clear c91
       try clear c92
       try clear hcz14_0
       try clear hcz14_1
       try clear hcz14_2
       try clear hcz14_3
       try clear hcz14_4
       try clear hcz14_5
       try clear hcz14_6
       try clear hcz14_7
       try clear hcz16_0
       try clear hcz16_1
       try clear hcz16_2
       try clear hcz16_3
       try clear hcz16_4
       try clear hcz16_5
       try clear hcz16_6
       try clear hcz16_7
       try clear hcz23_0
       try clear hcz23_1
       try clear hcz23_2
       try clear hcz23_3
       try clear hcz23_4
       try clear hcz23_5
       try clear hcz23_6
       try clear hcz23_7
       try clear hcz26_0
       try clear hcz26_1
       try clear hcz26_2
       try clear hcz26_3
       try clear hcz26_4
       try clear hcz26_5
       try clear hcz26_6
       try clear hcz26_7
       try clear hcz31_0
       try clear hcz31_1
       try clear hcz31_2
       try clear hcz31_3
       try clear hcz31_4
       try clear hcz31_5
       try clear hcz31_6
       try clear hcz31_7
       try clear hcz39_0
       try clear hcz39_1
       try clear hcz39_2
       try clear hcz39_3
       try clear hcz39_4
       try clear hcz39_5
       try clear hcz39_6
       try clear hcz39_7
       try clear hcz47_0
       try clear hcz47_1
       try clear hcz47_2
       try clear hcz47_3
       try clear hcz47_4
       try clear hcz47_5
       try clear hcz47_6
       try clear hcz47_7
       try clear hcz50_0
       try clear hcz50_1
       try clear hcz50_2
       try clear hcz50_3
       try clear hcz50_4
       try clear hcz50_5
       try clear hcz50_6
       try clear hcz50_7
       try clear hcz55_0
       try clear hcz55_1
       try clear hcz55_2
       try clear hcz55_3
       try clear hcz55_4
       try clear hcz55_5
       try clear hcz55_6
       try clear hcz55_7
       try clear hcz58_0
       try clear hcz58_1
       try clear hcz58_2
       try clear hcz58_3
       try clear hcz58_4
       try clear hcz58_5
       try clear hcz58_6
       try clear hcz58_7
       try clear hcz6_0
       try clear hcz6_1
       try clear hcz6_2
       try clear hcz6_3
       try clear hcz6_4
       try clear hcz6_5
       try clear hcz6_6
       try clear hcz6_7
       try clear hcz74_0
       try clear hcz74_1
       try clear hcz74_2
       try clear hcz74_3
       try clear hcz74_4
       try clear hcz74_5
       try clear hcz74_6
       try clear hcz74_7
       try clear hcz82_0
       try clear hcz82_1
       try clear hcz82_2
       try clear hcz82_3
       try clear hcz82_4
       try clear hcz82_5
       try clear hcz82_6
       try clear hcz82_7
       try clear hcz85_0
       try clear hcz85_1
       try clear hcz85_2
       try clear hcz85_3
       try clear hcz85_4
       try clear hcz85_5
       try clear hcz85_6
       try clear hcz85_7
       try clear hcz90_0
       try clear hcz90_1
       try clear hcz90_2
       try clear hcz90_3
       try clear hcz90_4
       try clear hcz90_5
       try clear hcz90_6
       try clear hcz90_7
       try clear hcz93_0
       try clear hcz93_1
       try clear hcz93_2
       try clear hcz93_3
       try clear hcz93_4
       try clear hcz93_5
       try clear hcz93_6
       try clear hcz93_7
       try clear hfz14_0
       try clear hfz14_1
       try clear hfz14_2
       try clear hfz14_3
       try clear hfz14_4
       try clear hfz14_5
       try clear hfz14_6
       try clear hfz14_7
       try clear hfz16_0
       try clear hfz16_1
       try clear hfz16_2
       try clear hfz16_3
       try clear hfz16_4
       try clear hfz16_5
       try clear hfz16_6
       try clear hfz16_7
       try clear hfz23_0
       try clear hfz23_1
       try clear hfz23_2
       try clear hfz23_3
       try clear hfz23_4
       try clear hfz23_5
       try clear hfz23_6
       try clear hfz23_7
       try clear hfz26_0
       try clear hfz26_1
       try clear hfz26_2
       try clear hfz26_3
       try clear hfz26_4
       try clear hfz26_5
       try clear hfz26_6
       try clear hfz26_7
       try clear hfz31_0
       try clear hfz31_1
       try clear hfz31_2
       try clear hfz31_3
       try clear hfz31_4
       try clear hfz31_5
       try clear hfz31_6
       try clear hfz31_7
       try clear hfz39_0
       try clear hfz39_1
       try clear hfz39_2
       try clear hfz39_3
       try clear hfz39_4
       try clear hfz39_5
       try clear hfz39_6
       try clear hfz39_7
       try clear hfz47_0
       try clear hfz47_1
       try clear hfz47_2
       try clear hfz47_3
       try clear hfz47_4
       try clear hfz47_5
       try clear hfz47_6
       try clear hfz47_7
       try clear hfz50_0
       try clear hfz50_1
       try clear hfz50_2
       try clear hfz50_3
       try clear hfz50_4
       try clear hfz50_5
       try clear hfz50_6
       try clear hfz50_7
       try clear hfz55_0
       try clear hfz55_1
       try clear hfz55_2
       try clear hfz55_3
       try clear hfz55_4
       try clear hfz55_5
       try clear hfz55_6
       try clear hfz55_7
       try clear hfz58_0
       try clear hfz58_1
       try clear hfz58_2
       try clear hfz58_3
       try clear hfz58_4
       try clear hfz58_5
       try clear hfz58_6
       try clear hfz58_7
       try clear hfz6_0
       try clear hfz6_1
       try clear hfz6_2
       try clear hfz6_3
       try clear hfz6_4
       try clear hfz6_5
       try clear hfz6_6
       try clear hfz6_7
       try clear hfz74_0
       try clear hfz74_1
       try clear hfz74_2
       try clear hfz74_3
       try clear hfz74_4
       try clear hfz74_5
       try clear hfz74_6
       try clear hfz74_7
       try clear hfz82_0
       try clear hfz82_1
       try clear hfz82_2
       try clear hfz82_3
       try clear hfz82_4
       try clear hfz82_5
       try clear hfz82_6
       try clear hfz82_7
       try clear hfz85_0
       try clear hfz85_1
       try clear hfz85_2
       try clear hfz85_3
       try clear hfz85_4
       try clear hfz85_5
       try clear hfz85_6
       try clear hfz85_7
       try clear hfz90_0
       try clear hfz90_1
       try clear hfz90_2
       try clear hfz90_3
       try clear hfz90_4
       try clear hfz90_5
       try clear hfz90_6
       try clear hfz90_7
       try clear hfz93_0
       try clear hfz93_1
       try clear hfz93_2
       try clear hfz93_3
       try clear hfz93_4
       try clear hfz93_5
       try clear hfz93_6
       try clear hfz93_7
       try clear p2
       obtain ⟨kq, x65_64, rfl, HA, HJ64, HO_1445003, HO_1445006, HO_1458003, HO_1458006, HO_1472003, HO_1472006, BK1417, BK1444, BK1457, BK1471, HB⟩ := hcut
       have hl1458003_64 := (Kd.R_reads' HO_1458003.out).1
       rw [hl1458003_64] at HO_1458003
       (try simp only [hl1458003_64])
       (try simp only [hl1458003_64] at BK1417)
       (try simp only [hl1458003_64] at BK1444)
       (try simp only [hl1458003_64] at BK1457)
       (try simp only [hl1458003_64] at BK1471)
       (try simp only [hl1458003_64] at HO_1445003)
       (try simp only [hl1458003_64] at HO_1445006)
       (try simp only [hl1458003_64] at HO_1458006)
       (try simp only [hl1458003_64] at HO_1472003)
       (try simp only [hl1458003_64] at HO_1472006)
       have hl1458006_64 := (Kd.R_reads' HO_1458006.out).1
       rw [hl1458006_64] at HO_1458006
       (try simp only [hl1458006_64])
       (try simp only [hl1458006_64] at BK1417)
       (try simp only [hl1458006_64] at BK1444)
       (try simp only [hl1458006_64] at BK1457)
       (try simp only [hl1458006_64] at BK1471)
       (try simp only [hl1458006_64] at HO_1445003)
       (try simp only [hl1458006_64] at HO_1445006)
       (try simp only [hl1458006_64] at HO_1458003)
       (try simp only [hl1458006_64] at HO_1472003)
       (try simp only [hl1458006_64] at HO_1472006)
       cases kq with
       | zero => exact absurd HA.out (by simp [laws_FnExactGuide.j1])
       | succ kj64 =>
        have H := HA.out
        clear HA
        simp only [laws_FnExactGuide.j1] at H
        by_cases c95 : x65_64 = true
        ·subst c95
         have H1 : (some false) = some true := by first | (rw [if_pos rfl] at H; exact H) | rfl
         clear H
         have H := H1
         clear H1
         exact absurd (Option.some.inj H) Bool.false_ne_true
        ·replace c95 := Bool.eq_false_iff.mpr c95
         subst c95
         have H1 : ((laws_markGarden.f kj64 t1458 t1459 t1460 t1461 t1464 t1465 t1466 t1469 1).bind fun bt1490 => ((laws_heldGarden.f kj64 t1458 t1459 t1460 bt1490.2.1 t1464 t1465 bt1490.2.2 t1469 1).bind fun t1493 => (if t1493 < 0 then (some false) else (if t1493 = bt1490.1 then ((laws_toGarden.f kj64 a0_0 a0_1 a0_2 l0_3 a0_4 a0_5 l0_6 a0_7).bind fun bt1494 => ((impl_Guide.f kj64 bt1494.1 bt1494.2.1 bt1494.2.2.1 bt1494.2.2.2.1 bt1494.2.2.2.2.1 bt1494.2.2.2.2.2.1 bt1494.2.2.2.2.2.2.1 bt1494.2.2.2.2.2.2.2 a1).bind fun bt1506 => ((laws_eqGarden.f kj64 bt1506.1 bt1506.2.1 bt1506.2.2.1 bt1506.2.2.2.1 bt1506.2.2.2.2.1 bt1506.2.2.2.2.2.1 bt1506.2.2.2.2.2.2.1 bt1506.2.2.2.2.2.2.2.1 t1431 t1432 t1433 t1434 t1437 t1438 t1439 t1442).bind fun t1520 => (if t1520 = true then (laws_FnExactGuide.j2 kj64 bt1490.1 (bt1506.2.2.2.2.2.2.2.2 != t1443) t1458 t1459 t1460 bt1490.2.1 t1464 t1465 bt1490.2.2 t1469) else (laws_FnExactGuide.j2 kj64 bt1490.1 true t1458 t1459 t1460 bt1490.2.1 t1464 t1465 bt1490.2.2 t1469))))) else (some false))))) = some true := by rw [if_neg (show ¬ (false = true) by decide)] at H; exact H
         clear H
         have H := H1
         clear H1
         replace H := Option.bind_eq_some_iff.mp H
         obtain ⟨⟨t1490, t1491, t1492⟩, A960, H⟩ := H
         replace H : ((laws_heldGarden.f kj64 t1458 t1459 t1460 t1491 t1464 t1465 t1492 t1469 1).bind fun t1493 => (if t1493 < 0 then (some false) else (if t1493 = t1490 then ((laws_toGarden.f kj64 a0_0 a0_1 a0_2 l0_3 a0_4 a0_5 l0_6 a0_7).bind fun bt1494 => ((impl_Guide.f kj64 bt1494.1 bt1494.2.1 bt1494.2.2.1 bt1494.2.2.2.1 bt1494.2.2.2.2.1 bt1494.2.2.2.2.2.1 bt1494.2.2.2.2.2.2.1 bt1494.2.2.2.2.2.2.2 a1).bind fun bt1506 => ((laws_eqGarden.f kj64 bt1506.1 bt1506.2.1 bt1506.2.2.1 bt1506.2.2.2.1 bt1506.2.2.2.2.1 bt1506.2.2.2.2.2.1 bt1506.2.2.2.2.2.2.1 bt1506.2.2.2.2.2.2.2.1 t1431 t1432 t1433 t1434 t1437 t1438 t1439 t1442).bind fun t1520 => (if t1520 = true then (laws_FnExactGuide.j2 kj64 t1490 (bt1506.2.2.2.2.2.2.2.2 != t1443) t1458 t1459 t1460 t1491 t1464 t1465 t1492 t1469) else (laws_FnExactGuide.j2 kj64 t1490 true t1458 t1459 t1460 t1491 t1464 t1465 t1492 t1469))))) else (some false)))) = some true := H
         have A96 := aK A960
         clear A960
         replace H := Option.bind_eq_some_iff.mp H
         obtain ⟨t1493, A970, H⟩ := H
         replace H : (if t1493 < 0 then (some false) else (if t1493 = t1490 then ((laws_toGarden.f kj64 a0_0 a0_1 a0_2 l0_3 a0_4 a0_5 l0_6 a0_7).bind fun bt1494 => ((impl_Guide.f kj64 bt1494.1 bt1494.2.1 bt1494.2.2.1 bt1494.2.2.2.1 bt1494.2.2.2.2.1 bt1494.2.2.2.2.2.1 bt1494.2.2.2.2.2.2.1 bt1494.2.2.2.2.2.2.2 a1).bind fun bt1506 => ((laws_eqGarden.f kj64 bt1506.1 bt1506.2.1 bt1506.2.2.1 bt1506.2.2.2.1 bt1506.2.2.2.2.1 bt1506.2.2.2.2.2.1 bt1506.2.2.2.2.2.2.1 bt1506.2.2.2.2.2.2.2.1 t1431 t1432 t1433 t1434 t1437 t1438 t1439 t1442).bind fun t1520 => (if t1520 = true then (laws_FnExactGuide.j2 kj64 t1490 (bt1506.2.2.2.2.2.2.2.2 != t1443) t1458 t1459 t1460 t1491 t1464 t1465 t1492 t1469) else (laws_FnExactGuide.j2 kj64 t1490 true t1458 t1459 t1460 t1491 t1464 t1465 t1492 t1469))))) else (some false))) = some true := H
         have A97 := aK A970
         clear A970
         by_cases c98 : t1493 < 0
         ·rw [if_pos c98] at H
          have c98b0 : decide (t1493 < 0) = true := decide_eq_true c98
          clear c98
          exact absurd (Option.some.inj H) Bool.false_ne_true
         ·rw [if_neg c98] at H
          have c98b0 : decide (t1493 < 0) = false := decide_eq_false c98
          clear c98
          by_cases c99 : t1493 = t1490
          ·rw [if_pos c99] at H
           have c99b0 : (t1493 == t1490) = true := beq_iff_eq.mpr c99
           have c99b1 : (t1493 != t1490) = false := bne_eq_false_iff_eq.mpr c99
           clear c99
           replace H := Option.bind_eq_some_iff.mp H
           obtain ⟨⟨t1494, t1495, t1496, t1497, t1500, t1501, t1502, t1505⟩, A1000, H⟩ := H
           replace H : ((impl_Guide.f kj64 t1494 t1495 t1496 t1497 t1500 t1501 t1502 t1505 a1).bind fun bt1506 => ((laws_eqGarden.f kj64 bt1506.1 bt1506.2.1 bt1506.2.2.1 bt1506.2.2.2.1 bt1506.2.2.2.2.1 bt1506.2.2.2.2.2.1 bt1506.2.2.2.2.2.2.1 bt1506.2.2.2.2.2.2.2.1 t1431 t1432 t1433 t1434 t1437 t1438 t1439 t1442).bind fun t1520 => (if t1520 = true then (laws_FnExactGuide.j2 kj64 t1490 (bt1506.2.2.2.2.2.2.2.2 != t1443) t1458 t1459 t1460 t1491 t1464 t1465 t1492 t1469) else (laws_FnExactGuide.j2 kj64 t1490 true t1458 t1459 t1460 t1491 t1464 t1465 t1492 t1469)))) = some true := H
           have A100 := aK A1000
           clear A1000
           replace H := Option.bind_eq_some_iff.mp H
           obtain ⟨⟨t1506, t1507, t1508, t1509, t1512, t1513, t1514, t1517, t1518⟩, A1010, H⟩ := H
           replace H : ((laws_eqGarden.f kj64 t1506 t1507 t1508 t1509 t1512 t1513 t1514 t1517 t1431 t1432 t1433 t1434 t1437 t1438 t1439 t1442).bind fun t1520 => (if t1520 = true then (laws_FnExactGuide.j2 kj64 t1490 (t1518 != t1443) t1458 t1459 t1460 t1491 t1464 t1465 t1492 t1469) else (laws_FnExactGuide.j2 kj64 t1490 true t1458 t1459 t1460 t1491 t1464 t1465 t1492 t1469))) = some true := H
           have A101 := aK A1010
           clear A1010
           have HC102 := aK H
           clear H
           have hnb103 := NB1471_1417.out
           have hnc103 := NB1417_1471.out
           have hnb104 := NB1471_1444.out
           have hnc104 := NB1444_1471.out
           have hnb105 := NB1471_1457.out
           have hnc105 := NB1457_1471.out
           obtain ⟨hcz106_0, hcz106_1, hcz106_2, hcz106_3, hcz106_4, hcz106_5, hcz106_6, hcz106_7, hfz106_0, hfz106_1, hfz106_2, hfz106_3, hfz106_4, hfz106_5, hfz106_6, hfz106_7⟩ := cl8 BK1471.out
           go_upto_region 25 with (first | ((with_reducible refine gate_callee (f := 20) rfl ?_); refine goesL_ (some 68) rfl rfl Tryz.func20 (by kernel_rfl) rfl #[.agg #[.int .i64 t1458, .int .i64 t1459, .int .i64 t1460, .slice Ao40 t1461.length co40, .int .i64 t1464, .int .i64 t1465, .slice Ao41 t1466.length co41, .int .i64 t1469], .int .i64 1] rfl zD ?_; (with_reducible refine (laws_markGarden.calls kj64 t1458 t1459 t1460 (fun k_ => some k_ = (.slice Ao40 t1461.length co40 : Value).ownBlock) (.slice Ao40 t1461.length co40) t1461 t1464 t1465 (fun k_ => some k_ = (.slice Ao41 t1466.length co41 : Value).ownBlock) (.slice Ao41 t1466.length co41) t1466 t1469 1 t1490 t1491 t1492 w _ ?side1 ?side2 ?side3 ?side4 ?side5 A96.out).mono ?_); (case side1 => exact (zH4 HB GE1417 GE1444 GE1457 GE1471)); (case side2 => exact Kd.R_tight rfl HO_1472003.out); (case side3 => exact fun k_ e_ => (HO_1472003.out.1 k_ e_.symm).2.2.2.2); (case side4 => exact Kd.R_tight rfl HO_1472006.out); (case side5 => exact fun k_ e_ => (HO_1472006.out.1 k_ e_.symm).2.2.2.2); rintro e w107 ⟨rfl, hy0, hy1, hb, hkp⟩; refine ⟨_, rfl, ?_⟩; replace HO_1445003 := aK (Kd.R_mono (ok' := fun k_ => some k_ ≠ (.slice Ao25 t1439.length co25 : Value).ownBlock ∧ some k_ ≠ (.slice Ao32 t1487.length co32 : Value).ownBlock ∧ some k_ ≠ (.slice Ao33 t1488.length co33 : Value).ownBlock ∧ some k_ ≠ (.slice Ao40 t1461.length co40 : Value).ownBlock ∧ some k_ ≠ (.slice Ao41 t1466.length co41 : Value).ownBlock) (Kd.R_keptB (HO_1445003.out) hkp (fun k_ hk_ hs_ => Or.elim hs_ (hk_.2.2.2.1) (hk_.2.2.2.2))) (fun k_ hk_ => ⟨hk_.1.1, hk_.1.2.1, hk_.1.2.2.1, hk_.1.2.2.2.1, hk_.1.2.2.2.2⟩)); replace HO_1445006 := aK (Kd.R_mono (ok' := fun k_ => some k_ ≠ (.slice Ao24 t1434.length co24 : Value).ownBlock ∧ some k_ ≠ (.slice Ao32 t1487.length co32 : Value).ownBlock ∧ some k_ ≠ (.slice Ao33 t1488.length co33 : Value).ownBlock ∧ some k_ ≠ (.slice Ao40 t1461.length co40 : Value).ownBlock ∧ some k_ ≠ (.slice Ao41 t1466.length co41 : Value).ownBlock) (Kd.R_keptB (HO_1445006.out) hkp (fun k_ hk_ hs_ => Or.elim hs_ (hk_.2.2.2.1) (hk_.2.2.2.2))) (fun k_ hk_ => ⟨hk_.1.1, hk_.1.2.1, hk_.1.2.2.1, hk_.1.2.2.2.1, hk_.1.2.2.2.2⟩)); replace HO_1458003 := aK (Kd.R_mono (ok' := fun k_ => some k_ ≠ (.slice Ao24 t1434.length co24 : Value).ownBlock ∧ some k_ ≠ (.slice Ao25 t1439.length co25 : Value).ownBlock ∧ some k_ ≠ (.slice Ao33 t1488.length co33 : Value).ownBlock ∧ some k_ ≠ (.slice Ao40 t1461.length co40 : Value).ownBlock ∧ some k_ ≠ (.slice Ao41 t1466.length co41 : Value).ownBlock) (Kd.R_keptB (HO_1458003.out) hkp (fun k_ hk_ hs_ => Or.elim hs_ (hk_.2.2.2.1) (hk_.2.2.2.2))) (fun k_ hk_ => ⟨hk_.1.1, hk_.1.2.1, hk_.1.2.2.1, hk_.1.2.2.2.1, hk_.1.2.2.2.2⟩)); replace HO_1458006 := aK (Kd.R_mono (ok' := fun k_ => some k_ ≠ (.slice Ao24 t1434.length co24 : Value).ownBlock ∧ some k_ ≠ (.slice Ao25 t1439.length co25 : Value).ownBlock ∧ some k_ ≠ (.slice Ao32 t1487.length co32 : Value).ownBlock ∧ some k_ ≠ (.slice Ao40 t1461.length co40 : Value).ownBlock ∧ some k_ ≠ (.slice Ao41 t1466.length co41 : Value).ownBlock) (Kd.R_keptB (HO_1458006.out) hkp (fun k_ hk_ hs_ => Or.elim hs_ (hk_.2.2.2.1) (hk_.2.2.2.2))) (fun k_ hk_ => ⟨hk_.1.1, hk_.1.2.1, hk_.1.2.2.1, hk_.1.2.2.2.1, hk_.1.2.2.2.2⟩)); replace BK1417 := aK (blk_kept (zK BK1417) hkp (fun hs_ => Or.elim hs_ (Kd.R_ne HO_1472003.out BK1417.out (by decide)) (Kd.R_ne HO_1472006.out BK1417.out (by decide)))); replace BK1444 := aK (blk_kept (zK BK1444) hkp (fun hs_ => Or.elim hs_ (Kd.R_ne HO_1472003.out BK1444.out (by decide)) (Kd.R_ne HO_1472006.out BK1444.out (by decide)))); replace BK1457 := aK (blk_kept (zK BK1457) hkp (fun hs_ => Or.elim hs_ (Kd.R_ne HO_1472003.out BK1457.out (by decide)) (Kd.R_ne HO_1472006.out BK1457.out (by decide)))); replace BK1471 := aK (blk_kept (zK BK1471) hkp (fun hs_ => Or.elim hs_ (Kd.R_ne HO_1472003.out BK1471.out (by decide)) (Kd.R_ne HO_1472006.out BK1471.out (by decide)))); replace HO_1472003 := aK (Kd.R_reok rfl hy0 (fun k_ e_ => HO_1472003.out.1 k_ e_)); replace HO_1472006 := aK (Kd.R_reok rfl hy1 (fun k_ e_ => HO_1472006.out.1 k_ e_)); replace HB := aK (hb); (try clear hb); (try clear hkp); (try clear hy0); (try clear hy1); obtain ⟨hcz108_0, hcz108_1, hcz108_2, hcz108_3, hcz108_4, hcz108_5, hcz108_6, hcz108_7, hfz108_0, hfz108_1, hfz108_2, hfz108_3, hfz108_4, hfz108_5, hfz108_6, hfz108_7⟩ := cl8 BK1471.out) | ((with_reducible refine gate_callee (f := 21) rfl ?_); refine goesL_ (some 71) rfl rfl Tryz.func21 (by kernel_rfl) rfl #[.agg #[.int .i64 t1458, .int .i64 t1459, .int .i64 t1460, .slice Ao40 t1491.length co40, .int .i64 t1464, .int .i64 t1465, .slice Ao41 t1492.length co41, .int .i64 t1469], .int .i64 1] rfl (by (try simp only [List.map_toArray, List.map_cons, List.map_nil]); first | done | (rw [show t1491.length = t1461.length from (Kd.R_reads' HO_1472003.out).1.symm, show t1492.length = t1466.length from (Kd.R_reads' HO_1472006.out).1.symm] <;> rfl) | rfl | (simp only [List.length_drop, List.length_take]; rfl)) ?_; (with_reducible refine (laws_heldGarden.calls kj64 t1458 t1459 t1460 _ _ t1491 t1464 t1465 _ _ t1492 t1469 1 t1493 _ ?side1 ?side2 ?side3 ?side4 A97.out).mono ?_); (case side1 => exact zC (Kd.R_reads' HO_1472003.out).2.2); (case side2 => rw [show t1491.length = t1461.length from (Kd.R_reads' HO_1472003.out).1.symm]; exact (Kd.R_reads' HO_1472003.out).2.1); (case side3 => exact zC (Kd.R_reads' HO_1472006.out).2.2); (case side4 => rw [show t1492.length = t1466.length from (Kd.R_reads' HO_1472006.out).1.symm]; exact (Kd.R_reads' HO_1472006.out).2.1); rintro e w109 ⟨rfl, hb⟩; refine ⟨_, rfl, ?_⟩; replace HO_1445003 := aK (Kd.R_below (zA HO_1445003) hb); replace HO_1445006 := aK (Kd.R_below (zA HO_1445006) hb); replace HO_1458003 := aK (Kd.R_below (zA HO_1458003) hb); replace HO_1458006 := aK (Kd.R_below (zA HO_1458006) hb); replace HO_1472003 := aK (Kd.R_below (zA HO_1472003) hb); replace HO_1472006 := aK (Kd.R_below (zA HO_1472006) hb); replace BK1417 := zB BK1417 hb; replace BK1444 := zB BK1444 hb; replace BK1457 := zB BK1457 hb; replace BK1471 := zB BK1471 hb; replace HB := aK (bSp (zH4 HB GE1417 GE1444 GE1457 GE1471) hb); (try clear hb); (try clear hb2); (try clear hk); (try clear hi); have hnb110 := NB1417_1444.out; have hnc110 := NB1444_1417.out; have hnb111 := NB1417_1457.out; have hnc111 := NB1457_1417.out; obtain ⟨hcz112_0, hcz112_1, hcz112_2, hcz112_3, hcz112_4, hcz112_5, hcz112_6, hcz112_7, hfz112_0, hfz112_1, hfz112_2, hfz112_3, hfz112_4, hfz112_5, hfz112_6, hfz112_7⟩ := cl8 BK1417.out) | ((with_reducible refine gate_callee (f := 17) rfl ?_); refine goesL_ (some 79) rfl rfl Tryz.func17 (by kernel_rfl) rfl #[.agg #[.int .i64 a0_0, .int .i64 a0_1, .int .i64 a0_2, .slice A0_3 l0_3.length c0_3, .int .i64 a0_4, .int .i64 a0_5, .slice A0_6 l0_6.length c0_6, .int .i64 a0_7]] rfl zD ?_; (with_reducible refine (laws_toGarden.calls kj64 a0_0 a0_1 a0_2 _ _ l0_3 a0_4 a0_5 _ _ l0_6 a0_7 t1494 t1495 t1496 t1497 t1500 t1501 t1502 t1505 _ ?side1 ?side2 ?side3 ?side4 A100.out).mono ?_); (case side1 => exact zC (Kd.C_below HR0_3.out HB.out)); (case side2 => exact HC0_3.out); (case side3 => exact zC (Kd.C_below HR0_6.out HB.out)); (case side4 => exact HC0_6.out); rintro e w113 ⟨v1498, v1503, rfl, ho0, ho1, hb⟩; refine ⟨_, rfl, ?_⟩; have HO1499 := aK (Kd.R_lower (Kd.R_new' (Kd.R_new' (Kd.R_new' (Kd.R_new' (Kd.R_new' (Kd.R_new' ho0 (Kd.R_lt (zA HO_1445003))) (Kd.R_lt (zA HO_1445006))) (Kd.R_lt (zA HO_1458003))) (Kd.R_lt (zA HO_1458006))) (Kd.R_lt (zA HO_1472003))) (Kd.R_lt (zA HO_1472006))) (bSz (zH4 HB GE1417 GE1444 GE1457 GE1471))); have HO1504 := aK (Kd.R_lower (Kd.R_new' (Kd.R_new' (Kd.R_new' (Kd.R_new' (Kd.R_new' (Kd.R_new' ho1 (Kd.R_lt (zA HO_1445003))) (Kd.R_lt (zA HO_1445006))) (Kd.R_lt (zA HO_1458003))) (Kd.R_lt (zA HO_1458006))) (Kd.R_lt (zA HO_1472003))) (Kd.R_lt (zA HO_1472006))) (bSz (zH4 HB GE1417 GE1444 GE1457 GE1471))); replace HO_1445003 := aK (Kd.R_mono (Kd.R_told (Kd.R_told (Kd.R_old (zA HO_1445003) hb) (Kd.R_base ho0)) (Kd.R_base ho1)) (fun _ h_ => h_.1)); replace HO_1445006 := aK (Kd.R_mono (Kd.R_told (Kd.R_told (Kd.R_old (zA HO_1445006) hb) (Kd.R_base ho0)) (Kd.R_base ho1)) (fun _ h_ => h_.1)); replace HO_1458003 := aK (Kd.R_mono (Kd.R_told (Kd.R_told (Kd.R_old (zA HO_1458003) hb) (Kd.R_base ho0)) (Kd.R_base ho1)) (fun _ h_ => h_.1)); replace HO_1458006 := aK (Kd.R_mono (Kd.R_told (Kd.R_told (Kd.R_old (zA HO_1458006) hb) (Kd.R_base ho0)) (Kd.R_base ho1)) (fun _ h_ => h_.1)); replace HO_1472003 := aK (Kd.R_mono (Kd.R_told (Kd.R_told (Kd.R_old (zA HO_1472003) hb) (Kd.R_base ho0)) (Kd.R_base ho1)) (fun _ h_ => h_.1)); replace HO_1472006 := aK (Kd.R_mono (Kd.R_told (Kd.R_told (Kd.R_old (zA HO_1472006) hb) (Kd.R_base ho0)) (Kd.R_base ho1)) (fun _ h_ => h_.1)); replace BK1417 := zB BK1417 hb; replace BK1444 := zB BK1444 hb; replace BK1457 := zB BK1457 hb; replace BK1471 := zB BK1471 hb; replace HB := aK (bSp (zH4 HB GE1417 GE1444 GE1457 GE1471) hb); (try clear hb); (try clear hb2); (try clear hk); (try clear hi); (try clear ho0); (try clear ho1); obtain ⟨Ao114, co114, eo114⟩ := Kd.R_slice HO1499.out; subst eo114; obtain ⟨Ao115, co115, eo115⟩ := Kd.R_slice HO1504.out; subst eo115) | ((with_reducible refine gate_callee (f := 29) rfl ?_); refine goesL_ (some 81) rfl rfl Tryz.func29 (by kernel_rfl) rfl #[.agg #[.int .i64 t1494, .int .i64 t1495, .int .i64 t1496, .slice Ao114 t1497.length co114, .int .i64 t1500, .int .i64 t1501, .slice Ao115 t1502.length co115, .int .i64 t1505], .int .i64 a1] rfl zD ?_; (with_reducible refine (impl_Guide.calls kj64 t1494 t1495 t1496 _ _ t1497 t1500 t1501 _ _ t1502 t1505 a1 t1506 t1507 t1508 t1509 t1512 t1513 t1514 t1517 t1518 _ ?side1 ?side2 ?side3 ?side4 A101.out).mono ?_); (case side1 => exact zC (Kd.R_reads' HO1499.out).2.2); (case side2 => exact (Kd.R_reads' HO1499.out).2.1); (case side3 => exact zC (Kd.R_reads' HO1504.out).2.2); (case side4 => exact (Kd.R_reads' HO1504.out).2.1); rintro e w116 ⟨v1510, v1515, rfl, ho0, ho1, hb⟩; refine ⟨_, rfl, ?_⟩; have HO1511 := aK (Kd.R_lower (Kd.R_new' (Kd.R_new' (Kd.R_new' (Kd.R_new' (Kd.R_new' (Kd.R_new' (Kd.R_new' (Kd.R_new' ho0 (Kd.R_lt (zA HO_1445003))) (Kd.R_lt (zA HO_1445006))) (Kd.R_lt (zA HO_1458003))) (Kd.R_lt (zA HO_1458006))) (Kd.R_lt (zA HO_1472003))) (Kd.R_lt (zA HO_1472006))) (Kd.R_lt (zA HO1499))) (Kd.R_lt (zA HO1504))) (bSz (zH4 HB GE1417 GE1444 GE1457 GE1471))); have HO1516 := aK (Kd.R_lower (Kd.R_new' (Kd.R_new' (Kd.R_new' (Kd.R_new' (Kd.R_new' (Kd.R_new' (Kd.R_new' (Kd.R_new' ho1 (Kd.R_lt (zA HO_1445003))) (Kd.R_lt (zA HO_1445006))) (Kd.R_lt (zA HO_1458003))) (Kd.R_lt (zA HO_1458006))) (Kd.R_lt (zA HO_1472003))) (Kd.R_lt (zA HO_1472006))) (Kd.R_lt (zA HO1499))) (Kd.R_lt (zA HO1504))) (bSz (zH4 HB GE1417 GE1444 GE1457 GE1471))); replace HO_1445003 := aK (Kd.R_mono (Kd.R_told (Kd.R_told (Kd.R_old (zA HO_1445003) hb) (Kd.R_base ho0)) (Kd.R_base ho1)) (fun _ h_ => h_.1)); replace HO_1445006 := aK (Kd.R_mono (Kd.R_told (Kd.R_told (Kd.R_old (zA HO_1445006) hb) (Kd.R_base ho0)) (Kd.R_base ho1)) (fun _ h_ => h_.1)); replace HO_1458003 := aK (Kd.R_mono (Kd.R_told (Kd.R_told (Kd.R_old (zA HO_1458003) hb) (Kd.R_base ho0)) (Kd.R_base ho1)) (fun _ h_ => h_.1)); replace HO_1458006 := aK (Kd.R_mono (Kd.R_told (Kd.R_told (Kd.R_old (zA HO_1458006) hb) (Kd.R_base ho0)) (Kd.R_base ho1)) (fun _ h_ => h_.1)); replace HO_1472003 := aK (Kd.R_mono (Kd.R_told (Kd.R_told (Kd.R_old (zA HO_1472003) hb) (Kd.R_base ho0)) (Kd.R_base ho1)) (fun _ h_ => h_.1)); replace HO_1472006 := aK (Kd.R_mono (Kd.R_told (Kd.R_told (Kd.R_old (zA HO_1472006) hb) (Kd.R_base ho0)) (Kd.R_base ho1)) (fun _ h_ => h_.1)); replace HO1499 := aK (Kd.R_mono (Kd.R_told (Kd.R_told (Kd.R_old (zA HO1499) hb) (Kd.R_base ho0)) (Kd.R_base ho1)) (fun _ h_ => h_.1)); replace HO1504 := aK (Kd.R_mono (Kd.R_told (Kd.R_told (Kd.R_old (zA HO1504) hb) (Kd.R_base ho0)) (Kd.R_base ho1)) (fun _ h_ => h_.1)); replace BK1417 := zB BK1417 hb; replace BK1444 := zB BK1444 hb; replace BK1457 := zB BK1457 hb; replace BK1471 := zB BK1471 hb; replace HB := aK (bSp (zH4 HB GE1417 GE1444 GE1457 GE1471) hb); (try clear hb); (try clear hb2); (try clear hk); (try clear hi); (try clear ho0); (try clear ho1)) | ((with_reducible refine gate_dst (N := 14) rfl ?_); refine box_event ?hg (N := 14) ?hd (cs := #[.int .i64 0, .int .i64 0, .int .i64 0, .slice none 0 0, .int .i64 0, .int .i64 0, .slice none 0 0, .int .i64 0]) (t := 38) ?hr ?_; (case hd => rfl); (case hg => rfl); (case hr => first | (go_simp; done) | (go_simp; rfl)); intro gb1519 hg w117 hbox hb; replace HO_1445003 := aK (Kd.R_below (zA HO_1445003) hb); replace HO_1445006 := aK (Kd.R_below (zA HO_1445006) hb); replace HO_1458003 := aK (Kd.R_below (zA HO_1458003) hb); replace HO_1458006 := aK (Kd.R_below (zA HO_1458006) hb); replace HO_1472003 := aK (Kd.R_below (zA HO_1472003) hb); replace HO_1472006 := aK (Kd.R_below (zA HO_1472006) hb); replace HO1499 := aK (Kd.R_below (zA HO1499) hb); replace HO1504 := aK (Kd.R_below (zA HO1504) hb); replace HO1511 := aK (Kd.R_below (zA HO1511) hb); replace HO1516 := aK (Kd.R_below (zA HO1516) hb); have BK1519 := aK (hbox); have GW1519 := aK ((by rw [hg]; exact (bSz (zH4 HB GE1417 GE1444 GE1457 GE1471)) : w.heap.size ≤ gb1519)); replace HB := aK (bSp (zH4 HB GE1417 GE1444 GE1457 GE1471) hb); have GE1519 := GW1519; have NB1417_1519 := nbl BK1417 hg (by intro z_; (with_reducible repeat (first | refine blk_drewN ?_ _ | refine kD ?_ | refine kA ?_ _)); exact z_); replace BK1417 := zB BK1417 hb; have NB1519_1417 := nbs NB1417_1519; have NB1444_1519 := nbl BK1444 hg (by intro z_; (with_reducible repeat (first | refine blk_drewN ?_ _ | refine kD ?_ | refine kA ?_ _)); exact z_); replace BK1444 := zB BK1444 hb; have NB1519_1444 := nbs NB1444_1519; have NB1457_1519 := nbl BK1457 hg (by intro z_; (with_reducible repeat (first | refine blk_drewN ?_ _ | refine kD ?_ | refine kA ?_ _)); exact z_); replace BK1457 := zB BK1457 hb; have NB1519_1457 := nbs NB1457_1519; have NB1471_1519 := nbl BK1471 hg (by intro z_; (with_reducible repeat (first | refine blk_drewN ?_ _ | refine kD ?_ | refine kA ?_ _)); exact z_); replace BK1471 := zB BK1471 hb; have NB1519_1471 := nbs NB1471_1519; clear hb hbox hg; have hnb118 := NB1519_1417.out; have hnc118 := NB1417_1519.out; have hnb119 := NB1519_1444.out; have hnc119 := NB1444_1519.out; have hnb120 := NB1519_1457.out; have hnc120 := NB1457_1519.out; have hnb121 := NB1519_1471.out; have hnc121 := NB1471_1519.out; obtain ⟨hcz122_0, hcz122_1, hcz122_2, hcz122_3, hcz122_4, hcz122_5, hcz122_6, hcz122_7, hfz122_0, hfz122_1, hfz122_2, hfz122_3, hfz122_4, hfz122_5, hfz122_6, hfz122_7⟩ := cl8 BK1519.out; obtain ⟨Ao123, co123, eo123⟩ := Kd.R_slice HO1511.out; subst eo123; obtain ⟨Ao124, co124, eo124⟩ := Kd.R_slice HO1516.out; subst eo124))
           (try simp only [Act.put, sTA, sZ, sS])
           go_cut [92] (fun v92 wc => ∃ (kq : Nat) (x92_101 : Bool), v92 = .bool x92_101 ∧ Aside0 (laws_FnExactGuide.j2 kq t1490 x92_101 t1458 t1459 t1460 t1491 t1464 t1465 t1492 t1469 = some true) ∧ Aside0 (kq ≤ kj64) ∧ Aside0 (Kd.R (Kd.int .i64) 3 wc w.heap.size (fun k_ => some k_ ≠ ((.slice Ao25 t1439.length co25) : Value).ownBlock ∧ some k_ ≠ ((.slice Ao32 t1487.length co32) : Value).ownBlock ∧ some k_ ≠ ((.slice Ao33 t1488.length co33) : Value).ownBlock ∧ some k_ ≠ ((.slice Ao40 t1461.length co40) : Value).ownBlock ∧ some k_ ≠ ((.slice Ao41 t1466.length co41) : Value).ownBlock ∧ some k_ ≠ ((.slice Ao123 t1509.length co123) : Value).ownBlock ∧ some k_ ≠ ((.slice Ao124 t1514.length co124) : Value).ownBlock) (.slice Ao24 t1434.length co24) t1434) ∧ Aside0 (Kd.R (Kd.int .i64) 3 wc w.heap.size (fun k_ => some k_ ≠ ((.slice Ao24 t1434.length co24) : Value).ownBlock ∧ some k_ ≠ ((.slice Ao32 t1487.length co32) : Value).ownBlock ∧ some k_ ≠ ((.slice Ao33 t1488.length co33) : Value).ownBlock ∧ some k_ ≠ ((.slice Ao40 t1461.length co40) : Value).ownBlock ∧ some k_ ≠ ((.slice Ao41 t1466.length co41) : Value).ownBlock ∧ some k_ ≠ ((.slice Ao123 t1509.length co123) : Value).ownBlock ∧ some k_ ≠ ((.slice Ao124 t1514.length co124) : Value).ownBlock) (.slice Ao25 t1439.length co25) t1439) ∧ Aside0 (Kd.R (Kd.int .i64) 3 wc w.heap.size (fun k_ => some k_ ≠ ((.slice Ao24 t1434.length co24) : Value).ownBlock ∧ some k_ ≠ ((.slice Ao25 t1439.length co25) : Value).ownBlock ∧ some k_ ≠ ((.slice Ao33 t1488.length co33) : Value).ownBlock ∧ some k_ ≠ ((.slice Ao40 t1461.length co40) : Value).ownBlock ∧ some k_ ≠ ((.slice Ao41 t1466.length co41) : Value).ownBlock ∧ some k_ ≠ ((.slice Ao123 t1509.length co123) : Value).ownBlock ∧ some k_ ≠ ((.slice Ao124 t1514.length co124) : Value).ownBlock) (.slice Ao32 t1487.length co32) t1487) ∧ Aside0 (Kd.R (Kd.int .i64) 3 wc w.heap.size (fun k_ => some k_ ≠ ((.slice Ao24 t1434.length co24) : Value).ownBlock ∧ some k_ ≠ ((.slice Ao25 t1439.length co25) : Value).ownBlock ∧ some k_ ≠ ((.slice Ao32 t1487.length co32) : Value).ownBlock ∧ some k_ ≠ ((.slice Ao40 t1461.length co40) : Value).ownBlock ∧ some k_ ≠ ((.slice Ao41 t1466.length co41) : Value).ownBlock ∧ some k_ ≠ ((.slice Ao123 t1509.length co123) : Value).ownBlock ∧ some k_ ≠ ((.slice Ao124 t1514.length co124) : Value).ownBlock) (.slice Ao33 t1488.length co33) t1488) ∧ Aside0 (Kd.R (Kd.int .i64) 3 wc w.heap.size (fun k_ => some k_ ≠ ((.slice Ao24 t1434.length co24) : Value).ownBlock ∧ some k_ ≠ ((.slice Ao25 t1439.length co25) : Value).ownBlock ∧ some k_ ≠ ((.slice Ao32 t1487.length co32) : Value).ownBlock ∧ some k_ ≠ ((.slice Ao33 t1488.length co33) : Value).ownBlock ∧ some k_ ≠ ((.slice Ao41 t1466.length co41) : Value).ownBlock ∧ some k_ ≠ ((.slice Ao123 t1509.length co123) : Value).ownBlock ∧ some k_ ≠ ((.slice Ao124 t1514.length co124) : Value).ownBlock) (.slice Ao40 t1461.length co40) t1491) ∧ Aside0 (Kd.R (Kd.int .i64) 3 wc w.heap.size (fun k_ => some k_ ≠ ((.slice Ao24 t1434.length co24) : Value).ownBlock ∧ some k_ ≠ ((.slice Ao25 t1439.length co25) : Value).ownBlock ∧ some k_ ≠ ((.slice Ao32 t1487.length co32) : Value).ownBlock ∧ some k_ ≠ ((.slice Ao33 t1488.length co33) : Value).ownBlock ∧ some k_ ≠ ((.slice Ao40 t1461.length co40) : Value).ownBlock ∧ some k_ ≠ ((.slice Ao123 t1509.length co123) : Value).ownBlock ∧ some k_ ≠ ((.slice Ao124 t1514.length co124) : Value).ownBlock) (.slice Ao41 t1466.length co41) t1492) ∧ Aside0 (Kd.R (Kd.int .i64) 3 wc w.heap.size (fun k_ => some k_ ≠ ((.slice Ao24 t1434.length co24) : Value).ownBlock ∧ some k_ ≠ ((.slice Ao25 t1439.length co25) : Value).ownBlock ∧ some k_ ≠ ((.slice Ao32 t1487.length co32) : Value).ownBlock ∧ some k_ ≠ ((.slice Ao33 t1488.length co33) : Value).ownBlock ∧ some k_ ≠ ((.slice Ao40 t1461.length co40) : Value).ownBlock ∧ some k_ ≠ ((.slice Ao41 t1466.length co41) : Value).ownBlock ∧ some k_ ≠ ((.slice Ao124 t1514.length co124) : Value).ownBlock) (.slice Ao123 t1509.length co123) t1509) ∧ Aside0 (Kd.R (Kd.int .i64) 3 wc w.heap.size (fun k_ => some k_ ≠ ((.slice Ao24 t1434.length co24) : Value).ownBlock ∧ some k_ ≠ ((.slice Ao25 t1439.length co25) : Value).ownBlock ∧ some k_ ≠ ((.slice Ao32 t1487.length co32) : Value).ownBlock ∧ some k_ ≠ ((.slice Ao33 t1488.length co33) : Value).ownBlock ∧ some k_ ≠ ((.slice Ao40 t1461.length co40) : Value).ownBlock ∧ some k_ ≠ ((.slice Ao41 t1466.length co41) : Value).ownBlock ∧ some k_ ≠ ((.slice Ao123 t1509.length co123) : Value).ownBlock) (.slice Ao124 t1514.length co124) t1514) ∧ Aside0 (wc.heap[gb1417]? = some (.cells #[.int .i64 a0_0, .int .i64 a0_1, .int .i64 a0_2, (.slice A0_3 l0_3.length c0_3), .int .i64 a0_4, .int .i64 a0_5, (.slice A0_6 l0_6.length c0_6), .int .i64 a0_7] 30 (0, 0))) ∧ Aside0 (wc.heap[gb1444]? = some (.cells #[.int .i64 t1431, .int .i64 t1432, .int .i64 t1433, (.slice Ao24 t1434.length co24), .int .i64 t1437, .int .i64 t1438, (.slice Ao25 t1439.length co25), .int .i64 t1442] 38 (0, 0))) ∧ Aside0 (wc.heap[gb1457]? = some (.cells #[.int .i64 t1445, .int .i64 t1446, .int .i64 t1447, (.slice Ao32 t1487.length co32), .int .i64 t1451, .int .i64 t1452, (.slice Ao33 t1488.length co33), .int .i64 t1456] 38 (0, 0))) ∧ Aside0 (wc.heap[gb1471]? = some (.cells #[.int .i64 t1458, .int .i64 t1459, .int .i64 t1460, (.slice Ao40 t1461.length co40), .int .i64 t1464, .int .i64 t1465, (.slice Ao41 t1466.length co41), .int .i64 t1469] 38 (0, 0))) ∧ Aside0 (wc.heap[gb1519]? = some (.cells #[.int .i64 t1506, .int .i64 t1507, .int .i64 t1508, (.slice Ao123 t1509.length co123), .int .i64 t1512, .int .i64 t1513, (.slice Ao124 t1514.length co124), .int .i64 t1517] 38 (0, 0))) ∧ Aside0 (Below w.heap.size w wc))
           case first =>
            have H := HC102.out
            clear HC102
            replace H := Option.bind_eq_some_iff.mp H
            obtain ⟨t1520, A1250, H⟩ := H
            replace H : (if t1520 = true then (laws_FnExactGuide.j2 kj64 t1490 (t1518 != t1443) t1458 t1459 t1460 t1491 t1464 t1465 t1492 t1469) else (laws_FnExactGuide.j2 kj64 t1490 true t1458 t1459 t1460 t1491 t1464 t1465 t1492 t1469)) = some true := H
            have A125 := aK A1250
            clear A1250
            by_cases c126 : t1520 = true
            ·subst c126
             have H1 : (laws_FnExactGuide.j2 kj64 t1490 (t1518 != t1443) t1458 t1459 t1460 t1491 t1464 t1465 t1492 t1469) = some true := by first | (rw [if_pos rfl] at H; exact H) | rfl
             clear H
             have H := H1
             clear H1
             have H' := aK H
             clear H
             have hnb127 := NB1519_1417.out
             have hnc127 := NB1417_1519.out
             have hnb128 := NB1519_1444.out
             have hnc128 := NB1444_1519.out
             have hnb129 := NB1519_1457.out
             have hnc129 := NB1457_1519.out
             have hnb130 := NB1519_1471.out
             have hnc130 := NB1471_1519.out
             obtain ⟨hcz131_0, hcz131_1, hcz131_2, hcz131_3, hcz131_4, hcz131_5, hcz131_6, hcz131_7, hfz131_0, hfz131_1, hfz131_2, hfz131_3, hfz131_4, hfz131_5, hfz131_6, hfz131_7⟩ := cl8 BK1519.out
             have hnb132 := NB1444_1417.out
             have hnc132 := NB1417_1444.out
             have hnb133 := NB1444_1457.out
             have hnc133 := NB1457_1444.out
             have hnb134 := NB1444_1471.out
             have hnc134 := NB1471_1444.out
             obtain ⟨hcz135_0, hcz135_1, hcz135_2, hcz135_3, hcz135_4, hcz135_5, hcz135_6, hcz135_7, hfz135_0, hfz135_1, hfz135_2, hfz135_3, hfz135_4, hfz135_5, hfz135_6, hfz135_7⟩ := cl8 BK1444.out
             go_wp2_with (first | ((with_reducible refine gate_callee (f := 19) rfl ?_); refine goesL_ (some 86) rfl rfl Tryz.func19 (by kernel_rfl) rfl #[.agg #[.int .i64 t1506, .int .i64 t1507, .int .i64 t1508, .slice Ao123 t1509.length co123, .int .i64 t1512, .int .i64 t1513, .slice Ao124 t1514.length co124, .int .i64 t1517], .agg #[.int .i64 t1431, .int .i64 t1432, .int .i64 t1433, .slice Ao24 t1434.length co24, .int .i64 t1437, .int .i64 t1438, .slice Ao25 t1439.length co25, .int .i64 t1442]] rfl zD ?_; (with_reducible refine (laws_eqGarden.calls kj64 t1506 t1507 t1508 _ _ t1509 t1512 t1513 _ _ t1514 t1517 t1431 t1432 t1433 _ _ t1434 t1437 t1438 _ _ t1439 t1442 true _ ?side1 ?side2 ?side3 ?side4 ?side5 ?side6 ?side7 ?side8 A125.out).mono ?_); (case side1 => refine (Kd.R_reads' (e := 3) (base := w.heap.size) (ok := fun k_ => ((((((((some k_ ≠ (.slice Ao124 t1514.length co124 : Value).ownBlock ∧ some k_ ≠ (.slice Ao24 t1434.length co24 : Value).ownBlock) ∧ some k_ ≠ (.slice Ao25 t1439.length co25 : Value).ownBlock) ∧ some k_ ≠ (.slice Ao32 t1487.length co32 : Value).ownBlock) ∧ some k_ ≠ (.slice Ao33 t1488.length co33 : Value).ownBlock) ∧ some k_ ≠ (.slice Ao40 t1461.length co40 : Value).ownBlock) ∧ some k_ ≠ (.slice Ao41 t1466.length co41 : Value).ownBlock) ∧ some k_ ≠ (.slice Ao114 t1497.length co114 : Value).ownBlock) ∧ some k_ ≠ (.slice Ao115 t1502.length co115 : Value).ownBlock)) (n := t1509.length) (c := co123) ?_).2.2; exact (zF8 HO1511 BK1519)); (case side2 => exact (Kd.R_reads' HO1511.out).2.1); (case side3 => refine (Kd.R_reads' (e := 3) (base := w.heap.size) (ok := fun k_ => ((((((((some k_ ≠ (.slice Ao123 t1509.length co123 : Value).ownBlock ∧ some k_ ≠ (.slice Ao24 t1434.length co24 : Value).ownBlock) ∧ some k_ ≠ (.slice Ao25 t1439.length co25 : Value).ownBlock) ∧ some k_ ≠ (.slice Ao32 t1487.length co32 : Value).ownBlock) ∧ some k_ ≠ (.slice Ao33 t1488.length co33 : Value).ownBlock) ∧ some k_ ≠ (.slice Ao40 t1461.length co40 : Value).ownBlock) ∧ some k_ ≠ (.slice Ao41 t1466.length co41 : Value).ownBlock) ∧ some k_ ≠ (.slice Ao114 t1497.length co114 : Value).ownBlock) ∧ some k_ ≠ (.slice Ao115 t1502.length co115 : Value).ownBlock)) (n := t1514.length) (c := co124) ?_).2.2; exact (zF8 HO1516 BK1519)); (case side4 => exact (Kd.R_reads' HO1516.out).2.1); (case side5 => refine (Kd.R_reads' (e := 3) (base := w.heap.size) (ok := fun k_ => (((((some k_ ≠ (.slice Ao25 t1439.length co25 : Value).ownBlock ∧ (some k_ ≠ (.slice Ao32 t1487.length co32 : Value).ownBlock ∧ (some k_ ≠ (.slice Ao33 t1488.length co33 : Value).ownBlock ∧ (some k_ ≠ (.slice Ao40 t1461.length co40 : Value).ownBlock ∧ some k_ ≠ (.slice Ao41 t1466.length co41 : Value).ownBlock)))) ∧ some k_ ≠ (.slice Ao114 t1497.length co114 : Value).ownBlock) ∧ some k_ ≠ (.slice Ao115 t1502.length co115 : Value).ownBlock) ∧ some k_ ≠ (.slice Ao123 t1509.length co123 : Value).ownBlock) ∧ some k_ ≠ (.slice Ao124 t1514.length co124 : Value).ownBlock)) (n := t1434.length) (c := co24) ?_).2.2; exact (zF8 HO_1445003 BK1519)); (case side6 => exact (Kd.R_reads' HO_1445003.out).2.1); (case side7 => refine (Kd.R_reads' (e := 3) (base := w.heap.size) (ok := fun k_ => (((((some k_ ≠ (.slice Ao24 t1434.length co24 : Value).ownBlock ∧ (some k_ ≠ (.slice Ao32 t1487.length co32 : Value).ownBlock ∧ (some k_ ≠ (.slice Ao33 t1488.length co33 : Value).ownBlock ∧ (some k_ ≠ (.slice Ao40 t1461.length co40 : Value).ownBlock ∧ some k_ ≠ (.slice Ao41 t1466.length co41 : Value).ownBlock)))) ∧ some k_ ≠ (.slice Ao114 t1497.length co114 : Value).ownBlock) ∧ some k_ ≠ (.slice Ao115 t1502.length co115 : Value).ownBlock) ∧ some k_ ≠ (.slice Ao123 t1509.length co123 : Value).ownBlock) ∧ some k_ ≠ (.slice Ao124 t1514.length co124 : Value).ownBlock)) (n := t1439.length) (c := co25) ?_).2.2; exact (zF8 HO_1445006 BK1519)); (case side8 => exact (Kd.R_reads' HO_1445006.out).2.1); rintro e w136 ⟨rfl, hb⟩; refine ⟨_, rfl, ?_⟩; replace HO_1445003 := aK (Kd.R_below (zF8 HO_1445003 BK1519) hb); replace HO_1445006 := aK (Kd.R_below (zF8 HO_1445006 BK1519) hb); replace HO_1458003 := aK (Kd.R_below (zF8 HO_1458003 BK1519) hb); replace HO_1458006 := aK (Kd.R_below (zF8 HO_1458006 BK1519) hb); replace HO_1472003 := aK (Kd.R_below (zF8 HO_1472003 BK1519) hb); replace HO_1472006 := aK (Kd.R_below (zF8 HO_1472006 BK1519) hb); replace HO1499 := aK (Kd.R_below (zF8 HO1499 BK1519) hb); replace HO1504 := aK (Kd.R_below (zF8 HO1504 BK1519) hb); replace HO1511 := aK (Kd.R_below (zF8 HO1511 BK1519) hb); replace HO1516 := aK (Kd.R_below (zF8 HO1516 BK1519) hb); replace BK1417 := zG8 BK1417 NB1417_1519 hb; replace BK1444 := zG8 BK1444 NB1444_1519 hb; replace BK1457 := zG8 BK1457 NB1457_1519 hb; replace BK1471 := zG8 BK1471 NB1471_1519 hb; replace BK1519 := aK (blk_below (g := gb1519) (o := .cells #[.int .i64 t1506, .int .i64 t1507, .int .i64 t1508, .slice Ao123 t1509.length co123, .int .i64 t1512, .int .i64 t1513, .slice Ao124 t1514.length co124, .int .i64 t1517] 38 (0, 0)) (by (with_reducible repeat (first | refine blk_drewN ?_ _ | refine kD ?_ | refine kA ?_ _)); refine blk_put (cs := #[.int .i64 t1506, .int .i64 t1507, .int .i64 t1508, .slice Ao123 t1509.length co123, .int .i64 t1512, .int .i64 t1513, .slice Ao124 t1514.length co124, .int .i64 0]) ?_ 7 _ rfl; (with_reducible repeat (first | refine blk_drewN ?_ _ | refine kD ?_ | refine kA ?_ _)); refine blk_put (cs := #[.int .i64 t1506, .int .i64 t1507, .int .i64 t1508, .slice Ao123 t1509.length co123, .int .i64 t1512, .int .i64 t1513, .slice none 0 0, .int .i64 0]) ?_ 6 _ rfl; (with_reducible repeat (first | refine blk_drewN ?_ _ | refine kD ?_ | refine kA ?_ _)); refine blk_put (cs := #[.int .i64 t1506, .int .i64 t1507, .int .i64 t1508, .slice Ao123 t1509.length co123, .int .i64 t1512, .int .i64 0, .slice none 0 0, .int .i64 0]) ?_ 5 _ rfl; (with_reducible repeat (first | refine blk_drewN ?_ _ | refine kD ?_ | refine kA ?_ _)); refine blk_put (cs := #[.int .i64 t1506, .int .i64 t1507, .int .i64 t1508, .slice Ao123 t1509.length co123, .int .i64 0, .int .i64 0, .slice none 0 0, .int .i64 0]) ?_ 4 _ rfl; (with_reducible repeat (first | refine blk_drewN ?_ _ | refine kD ?_ | refine kA ?_ _)); refine blk_put (cs := #[.int .i64 t1506, .int .i64 t1507, .int .i64 t1508, .slice none 0 0, .int .i64 0, .int .i64 0, .slice none 0 0, .int .i64 0]) ?_ 3 _ rfl; (with_reducible repeat (first | refine blk_drewN ?_ _ | refine kD ?_ | refine kA ?_ _)); refine blk_put (cs := #[.int .i64 t1506, .int .i64 t1507, .int .i64 0, .slice none 0 0, .int .i64 0, .int .i64 0, .slice none 0 0, .int .i64 0]) ?_ 2 _ rfl; (with_reducible repeat (first | refine blk_drewN ?_ _ | refine kD ?_ | refine kA ?_ _)); refine blk_put (cs := #[.int .i64 t1506, .int .i64 0, .int .i64 0, .slice none 0 0, .int .i64 0, .int .i64 0, .slice none 0 0, .int .i64 0]) ?_ 1 _ rfl; (with_reducible repeat (first | refine blk_drewN ?_ _ | refine kD ?_ | refine kA ?_ _)); refine blk_put (cs := #[.int .i64 0, .int .i64 0, .int .i64 0, .slice none 0 0, .int .i64 0, .int .i64 0, .slice none 0 0, .int .i64 0]) ?_ 0 _ rfl; (with_reducible repeat (first | refine blk_drewN ?_ _ | refine kD ?_ | refine kA ?_ _)); exact BK1519.out) hb); replace HB := aK (bSp (zH5 HB GE1417 GE1444 GE1457 GE1471 GE1519) hb); (try clear hb); (try clear hb2); (try clear hk); (try clear hi)))
             go_meet
             case rel => exact ⟨_, ((t1518 != t1443)), (by first | rfl | (simp; done) | (simp [*]; done)), H', ⟨by have := HJ11.out; have := HJ64.out; first | omega | exact Nat.le_refl _⟩, ⟨by (try simp only [hl1458003_64]); (try simp only [hl1458006_64]); (with_reducible repeat (first | apply Kd.R_alloc | apply Kd.R_drewN | apply Kd.R_drew)); exact Kd.R_mono HO_1445003.out (fun _ hk => ⟨hk.1.1.1.1.1, ⟨hk.1.1.1.1.2.1, ⟨hk.1.1.1.1.2.2.1, ⟨hk.1.1.1.1.2.2.2.1, ⟨hk.1.1.1.1.2.2.2.2, ⟨hk.1.2, hk.2⟩⟩⟩⟩⟩⟩)⟩, ⟨by (try simp only [hl1458003_64]); (try simp only [hl1458006_64]); (with_reducible repeat (first | apply Kd.R_alloc | apply Kd.R_drewN | apply Kd.R_drew)); exact Kd.R_mono HO_1445006.out (fun _ hk => ⟨hk.1.1.1.1.1, ⟨hk.1.1.1.1.2.1, ⟨hk.1.1.1.1.2.2.1, ⟨hk.1.1.1.1.2.2.2.1, ⟨hk.1.1.1.1.2.2.2.2, ⟨hk.1.2, hk.2⟩⟩⟩⟩⟩⟩)⟩, ⟨by (try simp only [hl1458003_64]); (try simp only [hl1458006_64]); (with_reducible repeat (first | apply Kd.R_alloc | apply Kd.R_drewN | apply Kd.R_drew)); exact Kd.R_mono HO_1458003.out (fun _ hk => ⟨hk.1.1.1.1.1, ⟨hk.1.1.1.1.2.1, ⟨hk.1.1.1.1.2.2.1, ⟨hk.1.1.1.1.2.2.2.1, ⟨hk.1.1.1.1.2.2.2.2, ⟨hk.1.2, hk.2⟩⟩⟩⟩⟩⟩)⟩, ⟨by (try simp only [hl1458003_64]); (try simp only [hl1458006_64]); (with_reducible repeat (first | apply Kd.R_alloc | apply Kd.R_drewN | apply Kd.R_drew)); exact Kd.R_mono HO_1458006.out (fun _ hk => ⟨hk.1.1.1.1.1, ⟨hk.1.1.1.1.2.1, ⟨hk.1.1.1.1.2.2.1, ⟨hk.1.1.1.1.2.2.2.1, ⟨hk.1.1.1.1.2.2.2.2, ⟨hk.1.2, hk.2⟩⟩⟩⟩⟩⟩)⟩, ⟨by (try simp only [hl1458003_64]); (try simp only [hl1458006_64]); (with_reducible repeat (first | apply Kd.R_alloc | apply Kd.R_drewN | apply Kd.R_drew)); exact Kd.R_mono HO_1472003.out (fun _ hk => ⟨hk.1.1.1.1.1, ⟨hk.1.1.1.1.2.1, ⟨hk.1.1.1.1.2.2.1, ⟨hk.1.1.1.1.2.2.2.1, ⟨hk.1.1.1.1.2.2.2.2, ⟨hk.1.2, hk.2⟩⟩⟩⟩⟩⟩)⟩, ⟨by (try simp only [hl1458003_64]); (try simp only [hl1458006_64]); (with_reducible repeat (first | apply Kd.R_alloc | apply Kd.R_drewN | apply Kd.R_drew)); exact Kd.R_mono HO_1472006.out (fun _ hk => ⟨hk.1.1.1.1.1, ⟨hk.1.1.1.1.2.1, ⟨hk.1.1.1.1.2.2.1, ⟨hk.1.1.1.1.2.2.2.1, ⟨hk.1.1.1.1.2.2.2.2, ⟨hk.1.2, hk.2⟩⟩⟩⟩⟩⟩)⟩, ⟨by (try simp only [hl1458003_64]); (try simp only [hl1458006_64]); (with_reducible repeat (first | apply Kd.R_alloc | apply Kd.R_drewN | apply Kd.R_drew)); exact Kd.R_mono HO1511.out (fun _ hk => ⟨hk.1.1.1.1.1.1.1.2, ⟨hk.1.1.1.1.1.1.2, ⟨hk.1.1.1.1.1.2, ⟨hk.1.1.1.1.2, ⟨hk.1.1.1.2, ⟨hk.1.1.2, hk.1.1.1.1.1.1.1.1⟩⟩⟩⟩⟩⟩)⟩, ⟨by (try simp only [hl1458003_64]); (try simp only [hl1458006_64]); (with_reducible repeat (first | apply Kd.R_alloc | apply Kd.R_drewN | apply Kd.R_drew)); exact Kd.R_mono HO1516.out (fun _ hk => ⟨hk.1.1.1.1.1.1.1.2, ⟨hk.1.1.1.1.1.1.2, ⟨hk.1.1.1.1.1.2, ⟨hk.1.1.1.1.2, ⟨hk.1.1.1.2, ⟨hk.1.1.2, hk.1.1.1.1.1.1.1.1⟩⟩⟩⟩⟩⟩)⟩, ⟨by (try simp only [hl1458003_64]); (try simp only [hl1458006_64]); (with_reducible repeat (first | refine blk_drewN ?_ _ | refine kD ?_ | refine kA ?_ _)); exact BK1417.out⟩, ⟨by (try simp only [hl1458003_64]); (try simp only [hl1458006_64]); (with_reducible repeat (first | refine blk_drewN ?_ _ | refine kD ?_ | refine kA ?_ _)); exact BK1444.out⟩, ⟨by (try simp only [hl1458003_64]); (try simp only [hl1458006_64]); (with_reducible repeat (first | refine blk_drewN ?_ _ | refine kD ?_ | refine kA ?_ _)); exact BK1457.out⟩, ⟨by (try simp only [hl1458003_64]); (try simp only [hl1458006_64]); (with_reducible repeat (first | refine blk_drewN ?_ _ | refine kD ?_ | refine kA ?_ _)); exact BK1471.out⟩, ⟨by (try simp only [hl1458003_64]); (try simp only [hl1458006_64]); (with_reducible repeat (first | refine blk_drewN ?_ _ | refine kD ?_ | refine kA ?_ _)); exact BK1519.out⟩, ⟨zH5 HB GE1417 GE1444 GE1457 GE1471 GE1519⟩⟩
            ·replace c126 := Bool.eq_false_iff.mpr c126
             subst c126
             have H1 : (laws_FnExactGuide.j2 kj64 t1490 true t1458 t1459 t1460 t1491 t1464 t1465 t1492 t1469) = some true := by rw [if_neg (show ¬ (false = true) by decide)] at H; exact H
             clear H
             have H := H1
             clear H1
             have H' := aK H
             clear H
             have hnb137 := NB1519_1417.out
             have hnc137 := NB1417_1519.out
             have hnb138 := NB1519_1444.out
             have hnc138 := NB1444_1519.out
             have hnb139 := NB1519_1457.out
             have hnc139 := NB1457_1519.out
             have hnb140 := NB1519_1471.out
             have hnc140 := NB1471_1519.out
             obtain ⟨hcz141_0, hcz141_1, hcz141_2, hcz141_3, hcz141_4, hcz141_5, hcz141_6, hcz141_7, hfz141_0, hfz141_1, hfz141_2, hfz141_3, hfz141_4, hfz141_5, hfz141_6, hfz141_7⟩ := cl8 BK1519.out
             have hnb142 := NB1444_1417.out
             have hnc142 := NB1417_1444.out
             have hnb143 := NB1444_1457.out
             have hnc143 := NB1457_1444.out
             have hnb144 := NB1444_1471.out
             have hnc144 := NB1471_1444.out
             obtain ⟨hcz145_0, hcz145_1, hcz145_2, hcz145_3, hcz145_4, hcz145_5, hcz145_6, hcz145_7, hfz145_0, hfz145_1, hfz145_2, hfz145_3, hfz145_4, hfz145_5, hfz145_6, hfz145_7⟩ := cl8 BK1444.out
             go_wp2_with (first | ((with_reducible refine gate_callee (f := 19) rfl ?_); refine goesL_ (some 86) rfl rfl Tryz.func19 (by kernel_rfl) rfl #[.agg #[.int .i64 t1506, .int .i64 t1507, .int .i64 t1508, .slice Ao123 t1509.length co123, .int .i64 t1512, .int .i64 t1513, .slice Ao124 t1514.length co124, .int .i64 t1517], .agg #[.int .i64 t1431, .int .i64 t1432, .int .i64 t1433, .slice Ao24 t1434.length co24, .int .i64 t1437, .int .i64 t1438, .slice Ao25 t1439.length co25, .int .i64 t1442]] rfl zD ?_; (with_reducible refine (laws_eqGarden.calls kj64 t1506 t1507 t1508 _ _ t1509 t1512 t1513 _ _ t1514 t1517 t1431 t1432 t1433 _ _ t1434 t1437 t1438 _ _ t1439 t1442 false _ ?side1 ?side2 ?side3 ?side4 ?side5 ?side6 ?side7 ?side8 A125.out).mono ?_); (case side1 => refine (Kd.R_reads' (e := 3) (base := w.heap.size) (ok := fun k_ => ((((((((some k_ ≠ (.slice Ao124 t1514.length co124 : Value).ownBlock ∧ some k_ ≠ (.slice Ao24 t1434.length co24 : Value).ownBlock) ∧ some k_ ≠ (.slice Ao25 t1439.length co25 : Value).ownBlock) ∧ some k_ ≠ (.slice Ao32 t1487.length co32 : Value).ownBlock) ∧ some k_ ≠ (.slice Ao33 t1488.length co33 : Value).ownBlock) ∧ some k_ ≠ (.slice Ao40 t1461.length co40 : Value).ownBlock) ∧ some k_ ≠ (.slice Ao41 t1466.length co41 : Value).ownBlock) ∧ some k_ ≠ (.slice Ao114 t1497.length co114 : Value).ownBlock) ∧ some k_ ≠ (.slice Ao115 t1502.length co115 : Value).ownBlock)) (n := t1509.length) (c := co123) ?_).2.2; exact (zF8 HO1511 BK1519)); (case side2 => exact (Kd.R_reads' HO1511.out).2.1); (case side3 => refine (Kd.R_reads' (e := 3) (base := w.heap.size) (ok := fun k_ => ((((((((some k_ ≠ (.slice Ao123 t1509.length co123 : Value).ownBlock ∧ some k_ ≠ (.slice Ao24 t1434.length co24 : Value).ownBlock) ∧ some k_ ≠ (.slice Ao25 t1439.length co25 : Value).ownBlock) ∧ some k_ ≠ (.slice Ao32 t1487.length co32 : Value).ownBlock) ∧ some k_ ≠ (.slice Ao33 t1488.length co33 : Value).ownBlock) ∧ some k_ ≠ (.slice Ao40 t1461.length co40 : Value).ownBlock) ∧ some k_ ≠ (.slice Ao41 t1466.length co41 : Value).ownBlock) ∧ some k_ ≠ (.slice Ao114 t1497.length co114 : Value).ownBlock) ∧ some k_ ≠ (.slice Ao115 t1502.length co115 : Value).ownBlock)) (n := t1514.length) (c := co124) ?_).2.2; exact (zF8 HO1516 BK1519)); (case side4 => exact (Kd.R_reads' HO1516.out).2.1); (case side5 => refine (Kd.R_reads' (e := 3) (base := w.heap.size) (ok := fun k_ => (((((some k_ ≠ (.slice Ao25 t1439.length co25 : Value).ownBlock ∧ (some k_ ≠ (.slice Ao32 t1487.length co32 : Value).ownBlock ∧ (some k_ ≠ (.slice Ao33 t1488.length co33 : Value).ownBlock ∧ (some k_ ≠ (.slice Ao40 t1461.length co40 : Value).ownBlock ∧ some k_ ≠ (.slice Ao41 t1466.length co41 : Value).ownBlock)))) ∧ some k_ ≠ (.slice Ao114 t1497.length co114 : Value).ownBlock) ∧ some k_ ≠ (.slice Ao115 t1502.length co115 : Value).ownBlock) ∧ some k_ ≠ (.slice Ao123 t1509.length co123 : Value).ownBlock) ∧ some k_ ≠ (.slice Ao124 t1514.length co124 : Value).ownBlock)) (n := t1434.length) (c := co24) ?_).2.2; exact (zF8 HO_1445003 BK1519)); (case side6 => exact (Kd.R_reads' HO_1445003.out).2.1); (case side7 => refine (Kd.R_reads' (e := 3) (base := w.heap.size) (ok := fun k_ => (((((some k_ ≠ (.slice Ao24 t1434.length co24 : Value).ownBlock ∧ (some k_ ≠ (.slice Ao32 t1487.length co32 : Value).ownBlock ∧ (some k_ ≠ (.slice Ao33 t1488.length co33 : Value).ownBlock ∧ (some k_ ≠ (.slice Ao40 t1461.length co40 : Value).ownBlock ∧ some k_ ≠ (.slice Ao41 t1466.length co41 : Value).ownBlock)))) ∧ some k_ ≠ (.slice Ao114 t1497.length co114 : Value).ownBlock) ∧ some k_ ≠ (.slice Ao115 t1502.length co115 : Value).ownBlock) ∧ some k_ ≠ (.slice Ao123 t1509.length co123 : Value).ownBlock) ∧ some k_ ≠ (.slice Ao124 t1514.length co124 : Value).ownBlock)) (n := t1439.length) (c := co25) ?_).2.2; exact (zF8 HO_1445006 BK1519)); (case side8 => exact (Kd.R_reads' HO_1445006.out).2.1); rintro e w146 ⟨rfl, hb⟩; refine ⟨_, rfl, ?_⟩; replace HO_1445003 := aK (Kd.R_below (zF8 HO_1445003 BK1519) hb); replace HO_1445006 := aK (Kd.R_below (zF8 HO_1445006 BK1519) hb); replace HO_1458003 := aK (Kd.R_below (zF8 HO_1458003 BK1519) hb); replace HO_1458006 := aK (Kd.R_below (zF8 HO_1458006 BK1519) hb); replace HO_1472003 := aK (Kd.R_below (zF8 HO_1472003 BK1519) hb); replace HO_1472006 := aK (Kd.R_below (zF8 HO_1472006 BK1519) hb); replace HO1499 := aK (Kd.R_below (zF8 HO1499 BK1519) hb); replace HO1504 := aK (Kd.R_below (zF8 HO1504 BK1519) hb); replace HO1511 := aK (Kd.R_below (zF8 HO1511 BK1519) hb); replace HO1516 := aK (Kd.R_below (zF8 HO1516 BK1519) hb); replace BK1417 := zG8 BK1417 NB1417_1519 hb; replace BK1444 := zG8 BK1444 NB1444_1519 hb; replace BK1457 := zG8 BK1457 NB1457_1519 hb; replace BK1471 := zG8 BK1471 NB1471_1519 hb; replace BK1519 := aK (blk_below (g := gb1519) (o := .cells #[.int .i64 t1506, .int .i64 t1507, .int .i64 t1508, .slice Ao123 t1509.length co123, .int .i64 t1512, .int .i64 t1513, .slice Ao124 t1514.length co124, .int .i64 t1517] 38 (0, 0)) (by (with_reducible repeat (first | refine blk_drewN ?_ _ | refine kD ?_ | refine kA ?_ _)); refine blk_put (cs := #[.int .i64 t1506, .int .i64 t1507, .int .i64 t1508, .slice Ao123 t1509.length co123, .int .i64 t1512, .int .i64 t1513, .slice Ao124 t1514.length co124, .int .i64 0]) ?_ 7 _ rfl; (with_reducible repeat (first | refine blk_drewN ?_ _ | refine kD ?_ | refine kA ?_ _)); refine blk_put (cs := #[.int .i64 t1506, .int .i64 t1507, .int .i64 t1508, .slice Ao123 t1509.length co123, .int .i64 t1512, .int .i64 t1513, .slice none 0 0, .int .i64 0]) ?_ 6 _ rfl; (with_reducible repeat (first | refine blk_drewN ?_ _ | refine kD ?_ | refine kA ?_ _)); refine blk_put (cs := #[.int .i64 t1506, .int .i64 t1507, .int .i64 t1508, .slice Ao123 t1509.length co123, .int .i64 t1512, .int .i64 0, .slice none 0 0, .int .i64 0]) ?_ 5 _ rfl; (with_reducible repeat (first | refine blk_drewN ?_ _ | refine kD ?_ | refine kA ?_ _)); refine blk_put (cs := #[.int .i64 t1506, .int .i64 t1507, .int .i64 t1508, .slice Ao123 t1509.length co123, .int .i64 0, .int .i64 0, .slice none 0 0, .int .i64 0]) ?_ 4 _ rfl; (with_reducible repeat (first | refine blk_drewN ?_ _ | refine kD ?_ | refine kA ?_ _)); refine blk_put (cs := #[.int .i64 t1506, .int .i64 t1507, .int .i64 t1508, .slice none 0 0, .int .i64 0, .int .i64 0, .slice none 0 0, .int .i64 0]) ?_ 3 _ rfl; (with_reducible repeat (first | refine blk_drewN ?_ _ | refine kD ?_ | refine kA ?_ _)); refine blk_put (cs := #[.int .i64 t1506, .int .i64 t1507, .int .i64 0, .slice none 0 0, .int .i64 0, .int .i64 0, .slice none 0 0, .int .i64 0]) ?_ 2 _ rfl; (with_reducible repeat (first | refine blk_drewN ?_ _ | refine kD ?_ | refine kA ?_ _)); refine blk_put (cs := #[.int .i64 t1506, .int .i64 0, .int .i64 0, .slice none 0 0, .int .i64 0, .int .i64 0, .slice none 0 0, .int .i64 0]) ?_ 1 _ rfl; (with_reducible repeat (first | refine blk_drewN ?_ _ | refine kD ?_ | refine kA ?_ _)); refine blk_put (cs := #[.int .i64 0, .int .i64 0, .int .i64 0, .slice none 0 0, .int .i64 0, .int .i64 0, .slice none 0 0, .int .i64 0]) ?_ 0 _ rfl; (with_reducible repeat (first | refine blk_drewN ?_ _ | refine kD ?_ | refine kA ?_ _)); exact BK1519.out) hb); replace HB := aK (bSp (zH5 HB GE1417 GE1444 GE1457 GE1471 GE1519) hb); (try clear hb); (try clear hb2); (try clear hk); (try clear hi)))
             go_meet
             case rel => exact ⟨_, (true), (by first | rfl | (simp; done) | (simp [*]; done)), H', ⟨by have := HJ11.out; have := HJ64.out; first | omega | exact Nat.le_refl _⟩, ⟨by (try simp only [hl1458003_64]); (try simp only [hl1458006_64]); (with_reducible repeat (first | apply Kd.R_alloc | apply Kd.R_drewN | apply Kd.R_drew)); exact Kd.R_mono HO_1445003.out (fun _ hk => ⟨hk.1.1.1.1.1, ⟨hk.1.1.1.1.2.1, ⟨hk.1.1.1.1.2.2.1, ⟨hk.1.1.1.1.2.2.2.1, ⟨hk.1.1.1.1.2.2.2.2, ⟨hk.1.2, hk.2⟩⟩⟩⟩⟩⟩)⟩, ⟨by (try simp only [hl1458003_64]); (try simp only [hl1458006_64]); (with_reducible repeat (first | apply Kd.R_alloc | apply Kd.R_drewN | apply Kd.R_drew)); exact Kd.R_mono HO_1445006.out (fun _ hk => ⟨hk.1.1.1.1.1, ⟨hk.1.1.1.1.2.1, ⟨hk.1.1.1.1.2.2.1, ⟨hk.1.1.1.1.2.2.2.1, ⟨hk.1.1.1.1.2.2.2.2, ⟨hk.1.2, hk.2⟩⟩⟩⟩⟩⟩)⟩, ⟨by (try simp only [hl1458003_64]); (try simp only [hl1458006_64]); (with_reducible repeat (first | apply Kd.R_alloc | apply Kd.R_drewN | apply Kd.R_drew)); exact Kd.R_mono HO_1458003.out (fun _ hk => ⟨hk.1.1.1.1.1, ⟨hk.1.1.1.1.2.1, ⟨hk.1.1.1.1.2.2.1, ⟨hk.1.1.1.1.2.2.2.1, ⟨hk.1.1.1.1.2.2.2.2, ⟨hk.1.2, hk.2⟩⟩⟩⟩⟩⟩)⟩, ⟨by (try simp only [hl1458003_64]); (try simp only [hl1458006_64]); (with_reducible repeat (first | apply Kd.R_alloc | apply Kd.R_drewN | apply Kd.R_drew)); exact Kd.R_mono HO_1458006.out (fun _ hk => ⟨hk.1.1.1.1.1, ⟨hk.1.1.1.1.2.1, ⟨hk.1.1.1.1.2.2.1, ⟨hk.1.1.1.1.2.2.2.1, ⟨hk.1.1.1.1.2.2.2.2, ⟨hk.1.2, hk.2⟩⟩⟩⟩⟩⟩)⟩, ⟨by (try simp only [hl1458003_64]); (try simp only [hl1458006_64]); (with_reducible repeat (first | apply Kd.R_alloc | apply Kd.R_drewN | apply Kd.R_drew)); exact Kd.R_mono HO_1472003.out (fun _ hk => ⟨hk.1.1.1.1.1, ⟨hk.1.1.1.1.2.1, ⟨hk.1.1.1.1.2.2.1, ⟨hk.1.1.1.1.2.2.2.1, ⟨hk.1.1.1.1.2.2.2.2, ⟨hk.1.2, hk.2⟩⟩⟩⟩⟩⟩)⟩, ⟨by (try simp only [hl1458003_64]); (try simp only [hl1458006_64]); (with_reducible repeat (first | apply Kd.R_alloc | apply Kd.R_drewN | apply Kd.R_drew)); exact Kd.R_mono HO_1472006.out (fun _ hk => ⟨hk.1.1.1.1.1, ⟨hk.1.1.1.1.2.1, ⟨hk.1.1.1.1.2.2.1, ⟨hk.1.1.1.1.2.2.2.1, ⟨hk.1.1.1.1.2.2.2.2, ⟨hk.1.2, hk.2⟩⟩⟩⟩⟩⟩)⟩, ⟨by (try simp only [hl1458003_64]); (try simp only [hl1458006_64]); (with_reducible repeat (first | apply Kd.R_alloc | apply Kd.R_drewN | apply Kd.R_drew)); exact Kd.R_mono HO1511.out (fun _ hk => ⟨hk.1.1.1.1.1.1.1.2, ⟨hk.1.1.1.1.1.1.2, ⟨hk.1.1.1.1.1.2, ⟨hk.1.1.1.1.2, ⟨hk.1.1.1.2, ⟨hk.1.1.2, hk.1.1.1.1.1.1.1.1⟩⟩⟩⟩⟩⟩)⟩, ⟨by (try simp only [hl1458003_64]); (try simp only [hl1458006_64]); (with_reducible repeat (first | apply Kd.R_alloc | apply Kd.R_drewN | apply Kd.R_drew)); exact Kd.R_mono HO1516.out (fun _ hk => ⟨hk.1.1.1.1.1.1.1.2, ⟨hk.1.1.1.1.1.1.2, ⟨hk.1.1.1.1.1.2, ⟨hk.1.1.1.1.2, ⟨hk.1.1.1.2, ⟨hk.1.1.2, hk.1.1.1.1.1.1.1.1⟩⟩⟩⟩⟩⟩)⟩, ⟨by (try simp only [hl1458003_64]); (try simp only [hl1458006_64]); (with_reducible repeat (first | refine blk_drewN ?_ _ | refine kD ?_ | refine kA ?_ _)); exact BK1417.out⟩, ⟨by (try simp only [hl1458003_64]); (try simp only [hl1458006_64]); (with_reducible repeat (first | refine blk_drewN ?_ _ | refine kD ?_ | refine kA ?_ _)); exact BK1444.out⟩, ⟨by (try simp only [hl1458003_64]); (try simp only [hl1458006_64]); (with_reducible repeat (first | refine blk_drewN ?_ _ | refine kD ?_ | refine kA ?_ _)); exact BK1457.out⟩, ⟨by (try simp only [hl1458003_64]); (try simp only [hl1458006_64]); (with_reducible repeat (first | refine blk_drewN ?_ _ | refine kD ?_ | refine kA ?_ _)); exact BK1471.out⟩, ⟨by (try simp only [hl1458003_64]); (try simp only [hl1458006_64]); (with_reducible repeat (first | refine blk_drewN ?_ _ | refine kD ?_ | refine kA ?_ _)); exact BK1519.out⟩, ⟨zH5 HB GE1417 GE1444 GE1457 GE1471 GE1519⟩⟩
           case rest =>
            clear HC102
            try clear c1
            try clear c2
            try clear p2
            try clear c3
            try clear c4
            try clear c4b0
            try clear c5
            try clear c6
            try clear c7
            try clear c8
            try clear c9
            try clear c10
            try clear c11
            try clear c12
            try clear c13
            try clear c14
            try clear c15
            try clear c17
            try clear c19
            try clear c20
            try clear c21
            try clear c22
            try clear c28
            try clear c29
            try clear c30
            try clear c36
            try clear c37
            try clear c38
            try clear c43
            try clear c44
            try clear c45
            try clear c46
            try clear c48
            try clear c49
            try clear c52
            try clear c53
            try clear c54
            try clear c56
            try clear c57
            try clear c60
            try clear c63
            try clear c71
            try clear c72
            try clear c73
            try clear c76
            try clear c76b0
            try clear c78
            try clear c79
            try clear c80
            try clear c81
            try clear c83
            try clear c84
            try clear c87
            try clear c88
            try clear c89
            try clear c91
            try clear c92
            try clear c95
            try clear c98
            try clear c98b0
            try clear c99
            try clear c99b0
            try clear c99b1
            try clear c103
            try clear c104
            try clear c105
            try clear c110
            try clear c111
            try clear c118
            try clear c119
            try clear c120
            try clear c121
            try clear c126
            try clear c127
            try clear c128
            try clear c129
            try clear c130
            try clear c132
            try clear c133
            try clear c134
            try clear c137
            try clear c138
            try clear c139
            try clear c140
            try clear c142
            try clear c143
            try clear c144
            try clear hcz106_0
            try clear hcz106_1
            try clear hcz106_2
            try clear hcz106_3
            try clear hcz106_4
            try clear hcz106_5
            try clear hcz106_6
            try clear hcz106_7
            try clear hcz108_0
            try clear hcz108_1
            try clear hcz108_2
            try clear hcz108_3
            try clear hcz108_4
            try clear hcz108_5
            try clear hcz108_6
            try clear hcz108_7
            try clear hcz112_0
            try clear hcz112_1
            try clear hcz112_2
            try clear hcz112_3
            try clear hcz112_4
            try clear hcz112_5
            try clear hcz112_6
            try clear hcz112_7
            try clear hcz122_0
            try clear hcz122_1
            try clear hcz122_2
            try clear hcz122_3
            try clear hcz122_4
            try clear hcz122_5
            try clear hcz122_6
            try clear hcz122_7
            try clear hcz131_0
            try clear hcz131_1
            try clear hcz131_2
            try clear hcz131_3
            try clear hcz131_4
            try clear hcz131_5
            try clear hcz131_6
            try clear hcz131_7
            try clear hcz135_0
            try clear hcz135_1
            try clear hcz135_2
            try clear hcz135_3
            try clear hcz135_4
            try clear hcz135_5
            try clear hcz135_6
            try clear hcz135_7
            try clear hcz141_0
            try clear hcz141_1
            try clear hcz141_2
            try clear hcz141_3
            try clear hcz141_4
            try clear hcz141_5
            try clear hcz141_6
            try clear hcz141_7
            try clear hcz145_0
            try clear hcz145_1
            try clear hcz145_2
            try clear hcz145_3
            try clear hcz145_4
            try clear hcz145_5
            try clear hcz145_6
            try clear hcz145_7
            try clear hcz14_0
            try clear hcz14_1
            try clear hcz14_2
            try clear hcz14_3
            try clear hcz14_4
            try clear hcz14_5
            try clear hcz14_6
            try clear hcz14_7
            try clear hcz16_0
            try clear hcz16_1
            try clear hcz16_2
            try clear hcz16_3
            try clear hcz16_4
            try clear hcz16_5
            try clear hcz16_6
            try clear hcz16_7
            try clear hcz23_0
            try clear hcz23_1
            try clear hcz23_2
            try clear hcz23_3
            try clear hcz23_4
            try clear hcz23_5
            try clear hcz23_6
            try clear hcz23_7
            try clear hcz26_0
            try clear hcz26_1
            try clear hcz26_2
            try clear hcz26_3
            try clear hcz26_4
            try clear hcz26_5
            try clear hcz26_6
            try clear hcz26_7
            try clear hcz31_0
            try clear hcz31_1
            try clear hcz31_2
            try clear hcz31_3
            try clear hcz31_4
            try clear hcz31_5
            try clear hcz31_6
            try clear hcz31_7
            try clear hcz39_0
            try clear hcz39_1
            try clear hcz39_2
            try clear hcz39_3
            try clear hcz39_4
            try clear hcz39_5
            try clear hcz39_6
            try clear hcz39_7
            try clear hcz47_0
            try clear hcz47_1
            try clear hcz47_2
            try clear hcz47_3
            try clear hcz47_4
            try clear hcz47_5
            try clear hcz47_6
            try clear hcz47_7
            try clear hcz50_0
            try clear hcz50_1
            try clear hcz50_2
            try clear hcz50_3
            try clear hcz50_4
            try clear hcz50_5
            try clear hcz50_6
            try clear hcz50_7
            try clear hcz55_0
            try clear hcz55_1
            try clear hcz55_2
            try clear hcz55_3
            try clear hcz55_4
            try clear hcz55_5
            try clear hcz55_6
            try clear hcz55_7
            try clear hcz58_0
            try clear hcz58_1
            try clear hcz58_2
            try clear hcz58_3
            try clear hcz58_4
            try clear hcz58_5
            try clear hcz58_6
            try clear hcz58_7
            try clear hcz6_0
            try clear hcz6_1
            try clear hcz6_2
            try clear hcz6_3
            try clear hcz6_4
            try clear hcz6_5
            try clear hcz6_6
            try clear hcz6_7
            try clear hcz74_0
            try clear hcz74_1
            try clear hcz74_2
            try clear hcz74_3
            try clear hcz74_4
            try clear hcz74_5
            try clear hcz74_6
            try clear hcz74_7
            try clear hcz82_0
            try clear hcz82_1
            try clear hcz82_2
            try clear hcz82_3
            try clear hcz82_4
            try clear hcz82_5
            try clear hcz82_6
            try clear hcz82_7
            try clear hcz85_0
            try clear hcz85_1
            try clear hcz85_2
            try clear hcz85_3
            try clear hcz85_4
            try clear hcz85_5
            try clear hcz85_6
            try clear hcz85_7
            try clear hcz90_0
            try clear hcz90_1
            try clear hcz90_2
            try clear hcz90_3
            try clear hcz90_4
            try clear hcz90_5
            try clear hcz90_6
            try clear hcz90_7
            try clear hcz93_0
            try clear hcz93_1
            try clear hcz93_2
            try clear hcz93_3
            try clear hcz93_4
            try clear hcz93_5
            try clear hcz93_6
            try clear hcz93_7
            try clear hfz106_0
            try clear hfz106_1
            try clear hfz106_2
            try clear hfz106_3
            try clear hfz106_4
            try clear hfz106_5
            try clear hfz106_6
            try clear hfz106_7
            try clear hfz108_0
            try clear hfz108_1
            try clear hfz108_2
            try clear hfz108_3
            try clear hfz108_4
            try clear hfz108_5
            try clear hfz108_6
            try clear hfz108_7
            try clear hfz112_0
            try clear hfz112_1
            try clear hfz112_2
            try clear hfz112_3
            try clear hfz112_4
            try clear hfz112_5
            try clear hfz112_6
            try clear hfz112_7
            try clear hfz122_0
            try clear hfz122_1
            try clear hfz122_2
            try clear hfz122_3
            try clear hfz122_4
            try clear hfz122_5
            try clear hfz122_6
            try clear hfz122_7
            try clear hfz131_0
            try clear hfz131_1
            try clear hfz131_2
            try clear hfz131_3
            try clear hfz131_4
            try clear hfz131_5
            try clear hfz131_6
            try clear hfz131_7
            try clear hfz135_0
            try clear hfz135_1
            try clear hfz135_2
            try clear hfz135_3
            try clear hfz135_4
            try clear hfz135_5
            try clear hfz135_6
            try clear hfz135_7
            try clear hfz141_0
            try clear hfz141_1
            try clear hfz141_2
            try clear hfz141_3
            try clear hfz141_4
            try clear hfz141_5
            try clear hfz141_6
            try clear hfz141_7
            try clear hfz145_0
            try clear hfz145_1
            try clear hfz145_2
            try clear hfz145_3
            try clear hfz145_4
            try clear hfz145_5
            try clear hfz145_6
            try clear hfz145_7
            try clear hfz14_0
            try clear hfz14_1
            try clear hfz14_2
            try clear hfz14_3
            try clear hfz14_4
            try clear hfz14_5
            try clear hfz14_6
            try clear hfz14_7
            try clear hfz16_0
            try clear hfz16_1
            try clear hfz16_2
            try clear hfz16_3
            try clear hfz16_4
            try clear hfz16_5
            try clear hfz16_6
            try clear hfz16_7
            try clear hfz23_0
            try clear hfz23_1
            try clear hfz23_2
            try clear hfz23_3
            try clear hfz23_4
            try clear hfz23_5
            try clear hfz23_6
            try clear hfz23_7
            try clear hfz26_0
            try clear hfz26_1
            try clear hfz26_2
            try clear hfz26_3
            try clear hfz26_4
            try clear hfz26_5
            try clear hfz26_6
            try clear hfz26_7
            try clear hfz31_0
            try clear hfz31_1
            try clear hfz31_2
            try clear hfz31_3
            try clear hfz31_4
            try clear hfz31_5
            try clear hfz31_6
            try clear hfz31_7
            try clear hfz39_0
            try clear hfz39_1
            try clear hfz39_2
            try clear hfz39_3
            try clear hfz39_4
            try clear hfz39_5
            try clear hfz39_6
            try clear hfz39_7
            try clear hfz47_0
            try clear hfz47_1
            try clear hfz47_2
            try clear hfz47_3
            try clear hfz47_4
            try clear hfz47_5
            try clear hfz47_6
            try clear hfz47_7
            try clear hfz50_0
            try clear hfz50_1
            try clear hfz50_2
            try clear hfz50_3
            try clear hfz50_4
            try clear hfz50_5
            try clear hfz50_6
            try clear hfz50_7
            try clear hfz55_0
            try clear hfz55_1
            try clear hfz55_2
            try clear hfz55_3
            try clear hfz55_4
            try clear hfz55_5
            try clear hfz55_6
            try clear hfz55_7
            try clear hfz58_0
            try clear hfz58_1
            try clear hfz58_2
            try clear hfz58_3
            try clear hfz58_4
            try clear hfz58_5
            try clear hfz58_6
            try clear hfz58_7
            try clear hfz6_0
            try clear hfz6_1
            try clear hfz6_2
            try clear hfz6_3
            try clear hfz6_4
            try clear hfz6_5
            try clear hfz6_6
            try clear hfz6_7
            try clear hfz74_0
            try clear hfz74_1
            try clear hfz74_2
            try clear hfz74_3
            try clear hfz74_4
            try clear hfz74_5
            try clear hfz74_6
            try clear hfz74_7
            try clear hfz82_0
            try clear hfz82_1
            try clear hfz82_2
            try clear hfz82_3
            try clear hfz82_4
            try clear hfz82_5
            try clear hfz82_6
            try clear hfz82_7
            try clear hfz85_0
            try clear hfz85_1
            try clear hfz85_2
            try clear hfz85_3
            try clear hfz85_4
            try clear hfz85_5
            try clear hfz85_6
            try clear hfz85_7
            try clear hfz90_0
            try clear hfz90_1
            try clear hfz90_2
            try clear hfz90_3
            try clear hfz90_4
            try clear hfz90_5
            try clear hfz90_6
            try clear hfz90_7
            try clear hfz93_0
            try clear hfz93_1
            try clear hfz93_2
            try clear hfz93_3
            try clear hfz93_4
            try clear hfz93_5
            try clear hfz93_6
            try clear hfz93_7
            try clear p2
            obtain ⟨kq, x92_101, rfl, HA, HJ101, HO_1445003, HO_1445006, HO_1458003, HO_1458006, HO_1472003, HO_1472006, HO_1520003, HO_1520006, BK1417, BK1444, BK1457, BK1471, BK1519, HB⟩ := hcut
            have hl1472003_101 := (Kd.R_reads' HO_1472003.out).1
            rw [hl1472003_101] at HO_1472003
            (try simp only [hl1472003_101])
            (try simp only [hl1472003_101] at BK1417)
            (try simp only [hl1472003_101] at BK1444)
            (try simp only [hl1472003_101] at BK1457)
            (try simp only [hl1472003_101] at BK1471)
            (try simp only [hl1472003_101] at BK1519)
            (try simp only [hl1472003_101] at HO_1445003)
            (try simp only [hl1472003_101] at HO_1445006)
            (try simp only [hl1472003_101] at HO_1458003)
            (try simp only [hl1472003_101] at HO_1458006)
            (try simp only [hl1472003_101] at HO_1472006)
            (try simp only [hl1472003_101] at HO_1520003)
            (try simp only [hl1472003_101] at HO_1520006)
            have hl1472006_101 := (Kd.R_reads' HO_1472006.out).1
            rw [hl1472006_101] at HO_1472006
            (try simp only [hl1472006_101])
            (try simp only [hl1472006_101] at BK1417)
            (try simp only [hl1472006_101] at BK1444)
            (try simp only [hl1472006_101] at BK1457)
            (try simp only [hl1472006_101] at BK1471)
            (try simp only [hl1472006_101] at BK1519)
            (try simp only [hl1472006_101] at HO_1445003)
            (try simp only [hl1472006_101] at HO_1445006)
            (try simp only [hl1472006_101] at HO_1458003)
            (try simp only [hl1472006_101] at HO_1458006)
            (try simp only [hl1472006_101] at HO_1472003)
            (try simp only [hl1472006_101] at HO_1520003)
            (try simp only [hl1472006_101] at HO_1520006)
            cases kq with
            | zero => exact absurd HA.out (by simp [laws_FnExactGuide.j2])
            | succ kj101 =>
             have H := HA.out
             clear HA
             simp only [laws_FnExactGuide.j2] at H
             by_cases c147 : x92_101 = true
             ·subst c147
              have H1 : (some false) = some true := by first | (rw [if_pos rfl] at H; exact H) | rfl
              clear H
              have H := H1
              clear H1
              exact absurd (Option.some.inj H) Bool.false_ne_true
             ·replace c147 := Bool.eq_false_iff.mpr c147
              subst c147
              have H1 : ((laws_heldGarden.f kj101 t1458 t1459 t1460 t1491 t1464 t1465 t1492 t1469 1).bind fun t1521 => (if t1521 < 0 then (some false) else (if t1521 = t1490 then (some true) else (some false)))) = some true := by rw [if_neg (show ¬ (false = true) by decide)] at H; exact H
              clear H
              have H := H1
              clear H1
              replace H := Option.bind_eq_some_iff.mp H
              obtain ⟨t1521, A1480, H⟩ := H
              replace H : (if t1521 < 0 then (some false) else (if t1521 = t1490 then (some true) else (some false))) = some true := H
              have A148 := aK A1480
              clear A1480
              by_cases c149 : t1521 < 0
              ·rw [if_pos c149] at H
               have c149b0 : decide (t1521 < 0) = true := decide_eq_true c149
               clear c149
               exact absurd (Option.some.inj H) Bool.false_ne_true
              ·rw [if_neg c149] at H
               have c149b0 : decide (t1521 < 0) = false := decide_eq_false c149
               clear c149
               by_cases c150 : t1521 = t1490
               ·rw [if_pos c150] at H
                have c150b0 : (t1521 == t1490) = true := beq_iff_eq.mpr c150
                have c150b1 : (t1521 != t1490) = false := bne_eq_false_iff_eq.mpr c150
                clear c150
                have hnb151 := NB1471_1417.out
                have hnc151 := NB1417_1471.out
                have hnb152 := NB1471_1444.out
                have hnc152 := NB1444_1471.out
                have hnb153 := NB1471_1457.out
                have hnc153 := NB1457_1471.out
                have hnb154 := NB1471_1519.out
                have hnc154 := NB1519_1471.out
                obtain ⟨hcz155_0, hcz155_1, hcz155_2, hcz155_3, hcz155_4, hcz155_5, hcz155_6, hcz155_7, hfz155_0, hfz155_1, hfz155_2, hfz155_3, hfz155_4, hfz155_5, hfz155_6, hfz155_7⟩ := cl8 BK1471.out
                go_wp2_with (first | ((with_reducible refine gate_callee (f := 21) rfl ?_); refine goesL_ (some 95) rfl rfl Tryz.func21 (by kernel_rfl) rfl #[.agg #[.int .i64 t1458, .int .i64 t1459, .int .i64 t1460, .slice Ao40 t1491.length co40, .int .i64 t1464, .int .i64 t1465, .slice Ao41 t1492.length co41, .int .i64 t1469], .int .i64 1] rfl zD ?_; (with_reducible refine (laws_heldGarden.calls kj101 t1458 t1459 t1460 _ _ t1491 t1464 t1465 _ _ t1492 t1469 1 t1521 _ ?side1 ?side2 ?side3 ?side4 A148.out).mono ?_); (case side1 => exact zC (Kd.R_reads' HO_1472003.out).2.2); (case side2 => exact (Kd.R_reads' HO_1472003.out).2.1); (case side3 => exact zC (Kd.R_reads' HO_1472006.out).2.2); (case side4 => exact (Kd.R_reads' HO_1472006.out).2.1); rintro e w156 ⟨rfl, hb⟩; refine ⟨_, rfl, ?_⟩; replace HO_1445003 := aK (Kd.R_below (zA HO_1445003) hb); replace HO_1445006 := aK (Kd.R_below (zA HO_1445006) hb); replace HO_1458003 := aK (Kd.R_below (zA HO_1458003) hb); replace HO_1458006 := aK (Kd.R_below (zA HO_1458006) hb); replace HO_1472003 := aK (Kd.R_below (zA HO_1472003) hb); replace HO_1472006 := aK (Kd.R_below (zA HO_1472006) hb); replace HO_1520003 := aK (Kd.R_below (zA HO_1520003) hb); replace HO_1520006 := aK (Kd.R_below (zA HO_1520006) hb); replace BK1417 := zB BK1417 hb; replace BK1444 := zB BK1444 hb; replace BK1457 := zB BK1457 hb; replace BK1471 := zB BK1471 hb; replace BK1519 := zB BK1519 hb; replace HB := aK (bSp (zH5 HB GE1417 GE1444 GE1457 GE1471 GE1519) hb); (try clear hb); (try clear hb2); (try clear hk); (try clear hi)))
                go_ret
                exact ⟨by first | rfl | (simp [errW_none, errW_some] <;> rfl) | (simp [*, errW_none, errW_some] <;> rfl), by repeat (first | (with_reducible first | exact HB.out | apply bAl | apply bDN | apply bD1 | refine bSt ?_ GE1417.out | refine bSt ?_ GE1444.out | refine bSt ?_ GE1457.out | refine bSt ?_ GE1471.out | refine bSt ?_ GE1519.out) | exact HB.out)⟩
               ·rw [if_neg c150] at H
                have c150b0 : (t1521 == t1490) = false := beq_eq_false_iff_ne.mpr c150
                have c150b1 : (t1521 != t1490) = true := bne_iff_ne.mpr c150
                exact absurd (Option.some.inj H) Bool.false_ne_true
          ·rw [if_neg c99] at H
           have c99b0 : (t1493 == t1490) = false := beq_eq_false_iff_ne.mpr c99
           have c99b1 : (t1493 != t1490) = true := bne_iff_ne.mpr c99
           exact absurd (Option.some.inj H) Bool.false_ne_true
     ·replace c63 := Bool.eq_false_iff.mpr c63
      subst c63
      have H1 : (some false) = some true := by rw [if_neg (show ¬ (false = true) by decide)] at H; exact H
      clear H
      have H := H1
      clear H1
      exact absurd (Option.some.inj H) Bool.false_ne_true
end Go.Proofs.YtkindoepnganmaaGreat.F
end
