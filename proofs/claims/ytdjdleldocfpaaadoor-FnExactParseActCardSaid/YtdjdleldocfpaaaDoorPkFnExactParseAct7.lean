/- Packed by a program of the session (wip/tools/pack.py): what the claim's theorem reaches, of the texts that wip/ and the kit's printer lay. -/
import Derived.Test.YtdjdleldocfpaaaDoorPkFnExactParseAct6
import Derived.Shelf.Strconv.AtoiAll
import Derived.Test.YtdjdleldocfpaaaDoorProg
import Derived.Lib.SlicesCompact
import Derived.Deep.QuietTactic
import Derived.BigQuiet
import Derived.StillTailTactics
section
namespace Go.Proofs
def Tryd.laysAt_ren : Go.Shelf.Ren := ⟨fun | 172 => 95 | 244 => 118 | 245 => 119 | 247 => 130 | 279 => 131 | 280 => 132 | 281 => 133 | 282 => 134 | 287 => 153 | 316 => 154 | 171 => 73 | 205 => 155 | 321 => 166 | 322 => 167 | 243 => 105 | 246 => 127 | 283 => 138 | 284 => 139 | 285 => 140 | 286 => 141 | 129 => 152 | 317 => 156 | 318 => 157 | 319 => 158 | 320 => 159 | 337 => 168 | 338 => 169 | n => n, fun | 9 => 9 | 3 => 3 | 75 => 121 | 76 => 122 | 4 => 4 | 5 => 5 | 167 => 148 | 37 => 36 | 0 => 0 | 85 => 149 | 2 => 2 | 168 => 151 | 53 => 158 | 175 => 172 | 46 => 144 | 210 => 176 | 127 => 189 | 145 => 192 | 143 => 190 | 21 => 21 | 171 => 157 | 173 => 161 | 212 => 180 | 51 => 171 | 20 => 20 | 213 => 181 | 232 => 195 | 233 => 196 | 80 => 197 | n => n, fun | 15 => 0 | 16 => 1 | 17 => 2 | 18 => 3 | 19 => 4 | n => n⟩
theorem Tryd.laysAt : LaysC.n172 Tryd.prog Tryd.laysAt_ren := { mixed := by kernel_rfl, f129 := Tryd.func152.trans (congrArg some (by kernel_rfl)), f171 := Tryd.func73.trans (congrArg some (by kernel_rfl)), f172 := Tryd.func95.trans (congrArg some (by kernel_rfl)), f205 := Tryd.func155.trans (congrArg some (by kernel_rfl)), f243 := Tryd.func105.trans (congrArg some (by kernel_rfl)), f244 := Tryd.func118.trans (congrArg some (by kernel_rfl)), f245 := Tryd.func119.trans (congrArg some (by kernel_rfl)), f246 := Tryd.func127.trans (congrArg some (by kernel_rfl)), f247 := Tryd.func130.trans (congrArg some (by kernel_rfl)), f279 := Tryd.func131.trans (congrArg some (by kernel_rfl)), f280 := Tryd.func132.trans (congrArg some (by kernel_rfl)), f281 := Tryd.func133.trans (congrArg some (by kernel_rfl)), f282 := Tryd.func134.trans (congrArg some (by kernel_rfl)), f283 := Tryd.func138.trans (congrArg some (by kernel_rfl)), f284 := Tryd.func139.trans (congrArg some (by kernel_rfl)), f285 := Tryd.func140.trans (congrArg some (by kernel_rfl)), f286 := Tryd.func141.trans (congrArg some (by kernel_rfl)), f287 := Tryd.func153.trans (congrArg some (by kernel_rfl)), f316 := Tryd.func154.trans (congrArg some (by kernel_rfl)), f317 := Tryd.func156.trans (congrArg some (by kernel_rfl)), f318 := Tryd.func157.trans (congrArg some (by kernel_rfl)), f319 := Tryd.func158.trans (congrArg some (by kernel_rfl)), f320 := Tryd.func159.trans (congrArg some (by kernel_rfl)), f321 := Tryd.func166.trans (congrArg some (by kernel_rfl)), f322 := Tryd.func167.trans (congrArg some (by kernel_rfl)), f337 := Tryd.func168.trans (congrArg some (by kernel_rfl)), f338 := Tryd.func169.trans (congrArg some (by kernel_rfl)), t0 := Tryd.underlying0, a0 := Tryd.isAgg0, z0 := Tryd.sizeOf0, v0 := Tryd.zeroValue0, t2 := Tryd.underlying2, a2 := Tryd.isAgg2, z2 := Tryd.sizeOf2, v2 := Tryd.zeroValue2, t3 := Tryd.underlying3, a3 := Tryd.isAgg3, z3 := Tryd.sizeOf3, v3 := Tryd.zeroValue3, t4 := Tryd.underlying4, a4 := Tryd.isAgg4, z4 := Tryd.sizeOf4, v4 := Tryd.zeroValue4, t5 := Tryd.underlying5, a5 := Tryd.isAgg5, z5 := Tryd.sizeOf5, v5 := Tryd.zeroValue5, t9 := Tryd.underlying9, a9 := Tryd.isAgg9, z9 := Tryd.sizeOf9, v9 := Tryd.zeroValue9, t20 := Tryd.underlying20, a20 := Tryd.isAgg20, z20 := Tryd.sizeOf20, v20 := Tryd.zeroValue20, t21 := Tryd.underlying21, a21 := Tryd.isAgg21, z21 := Tryd.sizeOf21, v21 := Tryd.zeroValue21, t37 := Tryd.underlying36, a37 := Tryd.isAgg36, z37 := Tryd.sizeOf36, v37 := Tryd.zeroValue36, t46 := Tryd.underlying144, a46 := Tryd.isAgg144, z46 := Tryd.sizeOf144, v46 := Tryd.zeroValue144, t51 := Tryd.underlying171, a51 := Tryd.isAgg171, z51 := Tryd.sizeOf171, v51 := Tryd.zeroValue171, t53 := Tryd.underlying158, a53 := Tryd.isAgg158, z53 := Tryd.sizeOf158, v53 := Tryd.zeroValue158, t75 := Tryd.underlying121, a75 := Tryd.isAgg121, z75 := Tryd.sizeOf121, v75 := Tryd.zeroValue121, t76 := Tryd.underlying122, a76 := Tryd.isAgg122, z76 := Tryd.sizeOf122, v76 := Tryd.zeroValue122, t85 := Tryd.underlying149, a85 := Tryd.isAgg149, z85 := Tryd.sizeOf149, v85 := Tryd.zeroValue149, t127 := Tryd.underlying189, a127 := Tryd.isAgg189, z127 := Tryd.sizeOf189, v127 := Tryd.zeroValue189, t143 := Tryd.underlying190, a143 := Tryd.isAgg190, z143 := Tryd.sizeOf190, v143 := Tryd.zeroValue190, t145 := Tryd.underlying192, a145 := Tryd.isAgg192, z145 := Tryd.sizeOf192, v145 := Tryd.zeroValue192, t167 := Tryd.underlying148, a167 := Tryd.isAgg148, z167 := Tryd.sizeOf148, v167 := Tryd.zeroValue148, t168 := Tryd.underlying151, a168 := Tryd.isAgg151, z168 := Tryd.sizeOf151, v168 := Tryd.zeroValue151, t171 := Tryd.underlying157, a171 := Tryd.isAgg157, z171 := Tryd.sizeOf157, v171 := Tryd.zeroValue157, t173 := Tryd.underlying161, a173 := Tryd.isAgg161, z173 := Tryd.sizeOf161, v173 := Tryd.zeroValue161, t175 := Tryd.underlying172, a175 := Tryd.isAgg172, z175 := Tryd.sizeOf172, v175 := Tryd.zeroValue172, t210 := Tryd.underlying176, a210 := Tryd.isAgg176, z210 := Tryd.sizeOf176, v210 := Tryd.zeroValue176, t212 := Tryd.underlying180, a212 := Tryd.isAgg180, z212 := Tryd.sizeOf180, v212 := Tryd.zeroValue180, t213 := Tryd.underlying181, a213 := Tryd.isAgg181, z213 := Tryd.sizeOf181, t232 := Tryd.underlying195, a232 := Tryd.isAgg195, z232 := Tryd.sizeOf195, v232 := Tryd.zeroValue195, t233 := Tryd.underlying196, a233 := Tryd.isAgg196, z233 := Tryd.sizeOf196, v233 := Tryd.zeroValue196, g15 := by kernel_rfl, g16 := by kernel_rfl, g17 := by kernel_rfl, g18 := by kernel_rfl, g19 := by kernel_rfl, t80 := Tryd.underlying197, a80 := Tryd.isAgg197, z80 := Tryd.sizeOf197, v80 := Tryd.zeroValue197, i0 := by kernel_rfl, i2 := by kernel_rfl, i3 := by kernel_rfl, i4 := by kernel_rfl, i5 := by kernel_rfl, i9 := by kernel_rfl, i20 := by kernel_rfl, i21 := by kernel_rfl, i37 := by kernel_rfl, i46 := by kernel_rfl, i51 := by kernel_rfl, i53 := by kernel_rfl, i75 := by kernel_rfl, i76 := by kernel_rfl, i80 := by kernel_rfl, i85 := by kernel_rfl, i127 := by kernel_rfl, i143 := by kernel_rfl, i145 := by kernel_rfl, i167 := by kernel_rfl, i168 := by kernel_rfl, i171 := by kernel_rfl, i173 := by kernel_rfl, i175 := by kernel_rfl, i210 := by kernel_rfl, i212 := by kernel_rfl, i232 := by kernel_rfl, i233 := by kernel_rfl, m15 := by kernel_rfl, m16 := by kernel_rfl, m17 := by kernel_rfl, m18 := by kernel_rfl, m19 := by kernel_rfl, c0 := by kernel_rfl, c2 := by kernel_rfl, c3 := by kernel_rfl, c4 := by kernel_rfl, c5 := by kernel_rfl, c9 := by kernel_rfl, c20 := by kernel_rfl, c21 := by kernel_rfl, c37 := by kernel_rfl, c46 := by kernel_rfl, c51 := by kernel_rfl, c53 := by kernel_rfl, c75 := by kernel_rfl, c76 := by kernel_rfl, c80 := by kernel_rfl, c85 := by kernel_rfl, c127 := by kernel_rfl, c143 := by kernel_rfl, c145 := by kernel_rfl, c167 := by kernel_rfl, c168 := by kernel_rfl, c171 := by kernel_rfl, c173 := by kernel_rfl, c175 := by kernel_rfl, c210 := by kernel_rfl, c212 := by kernel_rfl, c213 := by kernel_rfl, c232 := by kernel_rfl, c233 := by kernel_rfl }
end Go.Proofs
end

section
namespace Go.Proofs.YtdjdleldocfpaaaDoor.F
open Go.RowKit Go.Proofs.YtdjdleldocfpaaaDoorW.PrintWords Go.Proofs.YtdjdleldocfpaaaDoorW.PrintLast Go.Proofs.YtdjdleldocfpaaaDoorW.PrintMore
set_option linter.unusedVariables false
set_option linter.unusedSimpArgs false
attribute [local go_sem] max2_int min2_int max_two min_two
set_option maxRecDepth 20000 in set_option maxHeartbeats 4000000 in open Nat renaming reduceAdd → p1, reduceSub → p2, reduceMul → p3, reduceDiv → p4, reduceBNe → p5, reduceBEq → p6, reduceEqDiff → p7, reduceLeDiff → p8, reduceLT → p9 in open Int renaming reduceLE → p10, reduceLT → p11, reduceEq → p12 in
theorem impl_wordOf.ctr {a0 : Int} {r1 : ByteArray} {r2 : Int} (h : impl_wordOf.f a0 = some (r1, r2)) : Ctr Tryd.prog 38 [.v (.int .i64 a0)] (.tu [.v (.string r1), .v (.int .i64 r2)]) := by
  refine Ctr_of tyOk hm Tryd.func38 rfl rfl (by kernel_rfl) (n := 14) (rv := [.tmp 2, .tmp 3]) rfl rfl ?_
  simp only [W, List.replicate]
  unfold impl_wordOf.f at h
  replace h := ifS h; rcases h with ⟨c1, h⟩ | ⟨c1, h⟩
  · cases h
    try simp only [W, eq_true c1, p1, p2, p3, p4, p5, p6, p7, p8, p9, p10, p11, p12]
  · replace h := ifS h; rcases h with ⟨c2, h⟩ | ⟨c2, h⟩
    · cases h
      try simp only [W, c1, eq_true c2, p1, p2, p3, p4, p5, p6, p7, p8, p9, p10, p11, p12]
    · replace h := ifS h; rcases h with ⟨c3, h⟩ | ⟨c3, h⟩
      · cases h
        try simp only [W, c1, c2, eq_true c3, p1, p2, p3, p4, p5, p6, p7, p8, p9, p10, p11, p12]
      · replace h := ifS h; rcases h with ⟨c4, h⟩ | ⟨c4, h⟩
        · cases h
          try simp only [W, c1, c2, c3, eq_true c4, p1, p2, p3, p4, p5, p6, p7, p8, p9, p10, p11, p12]
        · replace h := ifS h; rcases h with ⟨c5, h⟩ | ⟨c5, h⟩
          · cases h
            try simp only [W, c1, c2, c3, c4, eq_true c5, p1, p2, p3, p4, p5, p6, p7, p8, p9, p10, p11, p12]
          · cases h
            try simp only [W, c1, c2, c3, c4, c5, p1, p2, p3, p4, p5, p6, p7, p8, p9, p10, p11, p12]
set_option maxRecDepth 20000 in set_option maxHeartbeats 4000000 in open Nat renaming reduceAdd → p1, reduceSub → p2, reduceMul → p3, reduceDiv → p4, reduceBNe → p5, reduceBEq → p6, reduceEqDiff → p7, reduceLeDiff → p8, reduceLT → p9 in open Int renaming reduceLE → p10, reduceLT → p11, reduceEq → p12 in
theorem impl_isDirection.ctr {a0 : Int} {r : Bool} (h : impl_isDirection.f a0 = some r) : Ctr Tryd.prog 67 [.v (.int .i64 a0)] (.v (.bool r)) := by
  refine Ctr_of tyOk hm Tryd.func67 rfl rfl (by kernel_rfl) (n := 8) (rv := [.tmp 2]) rfl rfl ?_
  simp only [W, List.replicate]
  unfold impl_isDirection.f at h
  replace h := ifS h; rcases h with ⟨c1, h⟩ | ⟨c1, h⟩
  · cases h
    try simp only [W, c1, p1, p2, p3, p4, p5, p6, p7, p8, p9, p10, p11, p12]
  · cases h
    try simp only [W, c1, p1, p2, p3, p4, p5, p6, p7, p8, p9, p10, p11, p12]
set_option maxRecDepth 20000 in set_option maxHeartbeats 4000000 in open Nat renaming reduceAdd → p1, reduceSub → p2, reduceMul → p3, reduceDiv → p4, reduceBNe → p5, reduceBEq → p6, reduceEqDiff → p7, reduceLeDiff → p8, reduceLT → p9 in open Int renaming reduceLE → p10, reduceLT → p11, reduceEq → p12 in
theorem impl_ActOk.ctr {k : Nat} {a0_0 : Int} {a0_1 : Int} {a0_2 : Int} {r : Bool} (h : impl_ActOk.f k a0_0 a0_1 a0_2 = some r) : Ctr Tryd.prog 40 [.ag [.v (.int .i64 a0_0), .v (.int .i64 a0_1), .v (.int .i64 a0_2)]] (.v (.bool r)) := by
  refine Ctr_of tyOk hm Tryd.func40 rfl rfl (by kernel_rfl) (n := 56) (rv := [.tmp 2]) rfl rfl ?_
  simp only [W, List.replicate]
  unfold impl_ActOk.f at h
  replace h := ifS h; rcases h with ⟨c1, h⟩ | ⟨c1, h⟩
  · rcases k with _ | m2; · cases h
    rw [impl_ActOk.j0] at h
    replace h := ifS h; rcases h with ⟨c3, h⟩ | ⟨c3, h⟩
    · replace h := ifS h; rcases h with ⟨c4, h⟩ | ⟨c4, h⟩
      · replace h := ifS h; rcases h with ⟨c5, h⟩ | ⟨c5, h⟩
        · cases h
          try simp only [W, c1, eq_true c3, c4, c5, p1, p2, p3, p4, p5, p6, p7, p8, p9, p10, p11, p12]
        · cases h
          try simp only [W, c1, eq_true c3, c4, c5, p1, p2, p3, p4, p5, p6, p7, p8, p9, p10, p11, p12]
      · cases h
        try simp only [W, c1, eq_true c3, c4, p1, p2, p3, p4, p5, p6, p7, p8, p9, p10, p11, p12]
    · replace h := ifS h; rcases h with ⟨c4, h⟩ | ⟨c4, h⟩
      · replace h := ifT h; rcases h with ⟨c5, h⟩ | ⟨c5, h⟩
        · replace h := bnd h; obtain ⟨t6, A, h⟩ := h
          try simp only [W, c1, c3, eq_true c4, c5, p1, p2, p3, p4, p5, p6, p7, p8, p9, p10, p11, p12]
          refine callR (impl_isDirection.ctr A) ?_
          cases h
          try simp only [W, c1, c3, eq_true c4, c5, p1, p2, p3, p4, p5, p6, p7, p8, p9, p10, p11, p12]
        · cases h
          try simp only [W, c1, c3, eq_true c4, c5, p1, p2, p3, p4, p5, p6, p7, p8, p9, p10, p11, p12]
      · replace h := ifS h; rcases h with ⟨c5, h⟩ | ⟨c5, h⟩
        · replace h := ifT h; rcases h with ⟨c6, h⟩ | ⟨c6, h⟩
          · cases h
            try simp only [W, c1, c3, c4, eq_true c5, c6, p1, p2, p3, p4, p5, p6, p7, p8, p9, p10, p11, p12]
          · cases h
            try simp only [W, c1, c3, c4, eq_true c5, c6, p1, p2, p3, p4, p5, p6, p7, p8, p9, p10, p11, p12]
        · replace h := ifS h; rcases h with ⟨c6, h⟩ | ⟨c6, h⟩
          · replace h := ifS h; rcases h with ⟨c7, h⟩ | ⟨c7, h⟩
            · cases h
              try simp only [W, c1, c3, c4, c5, eq_true c6, eq_true c7, p1, p2, p3, p4, p5, p6, p7, p8, p9, p10, p11, p12]
            · cases h
              try simp only [W, c1, c3, c4, c5, eq_true c6, c7, p1, p2, p3, p4, p5, p6, p7, p8, p9, p10, p11, p12]
          · replace h := ifS h; rcases h with ⟨c7, h⟩ | ⟨c7, h⟩
            · replace h := ifS h; rcases h with ⟨c8, h⟩ | ⟨c8, h⟩
              · cases h
                try simp only [W, c1, c3, c4, c5, c6, eq_true c7, eq_true c8, p1, p2, p3, p4, p5, p6, p7, p8, p9, p10, p11, p12]
              · cases h
                try simp only [W, c1, c3, c4, c5, c6, eq_true c7, c8, p1, p2, p3, p4, p5, p6, p7, p8, p9, p10, p11, p12]
            · replace h := ifS h; rcases h with ⟨c8, h⟩ | ⟨c8, h⟩
              · replace h := ifS h; rcases h with ⟨c9, h⟩ | ⟨c9, h⟩
                · cases h
                  try simp only [W, c1, c3, c4, c5, c6, c7, eq_true c8, eq_true c9, p1, p2, p3, p4, p5, p6, p7, p8, p9, p10, p11, p12]
                · cases h
                  try simp only [W, c1, c3, c4, c5, c6, c7, eq_true c8, c9, p1, p2, p3, p4, p5, p6, p7, p8, p9, p10, p11, p12]
              · cases h
                try simp only [W, c1, c3, c4, c5, c6, c7, c8, p1, p2, p3, p4, p5, p6, p7, p8, p9, p10, p11, p12]
  · rcases k with _ | m2; · cases h
    rw [impl_ActOk.j0] at h
    replace h := ifS h; rcases h with ⟨c3, h⟩ | ⟨c3, h⟩
    · replace h := ifS h; rcases h with ⟨c4, h⟩ | ⟨c4, h⟩
      · replace h := ifS h; rcases h with ⟨c5, h⟩ | ⟨c5, h⟩
        · cases h
          try simp only [W, c1, eq_true c3, c4, c5, p1, p2, p3, p4, p5, p6, p7, p8, p9, p10, p11, p12]
        · cases h
          try simp only [W, c1, eq_true c3, c4, c5, p1, p2, p3, p4, p5, p6, p7, p8, p9, p10, p11, p12]
      · cases h
        try simp only [W, c1, eq_true c3, c4, p1, p2, p3, p4, p5, p6, p7, p8, p9, p10, p11, p12]
    · replace h := ifS h; rcases h with ⟨c4, h⟩ | ⟨c4, h⟩
      · rw [if_neg (by decide)] at h
        cases h
        try simp only [W, c1, c3, eq_true c4, p1, p2, p3, p4, p5, p6, p7, p8, p9, p10, p11, p12]
      · replace h := ifS h; rcases h with ⟨c5, h⟩ | ⟨c5, h⟩
        · rw [if_neg (by decide)] at h
          cases h
          try simp only [W, c1, c3, c4, eq_true c5, p1, p2, p3, p4, p5, p6, p7, p8, p9, p10, p11, p12]
        · replace h := ifS h; rcases h with ⟨c6, h⟩ | ⟨c6, h⟩
          · replace h := ifS h; rcases h with ⟨c7, h⟩ | ⟨c7, h⟩
            · cases h
              try simp only [W, c1, c3, c4, c5, eq_true c6, eq_true c7, p1, p2, p3, p4, p5, p6, p7, p8, p9, p10, p11, p12]
            · cases h
              try simp only [W, c1, c3, c4, c5, eq_true c6, c7, p1, p2, p3, p4, p5, p6, p7, p8, p9, p10, p11, p12]
          · replace h := ifS h; rcases h with ⟨c7, h⟩ | ⟨c7, h⟩
            · replace h := ifS h; rcases h with ⟨c8, h⟩ | ⟨c8, h⟩
              · cases h
                try simp only [W, c1, c3, c4, c5, c6, eq_true c7, eq_true c8, p1, p2, p3, p4, p5, p6, p7, p8, p9, p10, p11, p12]
              · cases h
                try simp only [W, c1, c3, c4, c5, c6, eq_true c7, c8, p1, p2, p3, p4, p5, p6, p7, p8, p9, p10, p11, p12]
            · replace h := ifS h; rcases h with ⟨c8, h⟩ | ⟨c8, h⟩
              · replace h := ifS h; rcases h with ⟨c9, h⟩ | ⟨c9, h⟩
                · cases h
                  try simp only [W, c1, c3, c4, c5, c6, c7, eq_true c8, eq_true c9, p1, p2, p3, p4, p5, p6, p7, p8, p9, p10, p11, p12]
                · cases h
                  try simp only [W, c1, c3, c4, c5, c6, c7, eq_true c8, c9, p1, p2, p3, p4, p5, p6, p7, p8, p9, p10, p11, p12]
              · cases h
                try simp only [W, c1, c3, c4, c5, c6, c7, c8, p1, p2, p3, p4, p5, p6, p7, p8, p9, p10, p11, p12]
end Go.Proofs.YtdjdleldocfpaaaDoor.F
end

section
namespace Go.Proofs.YtdjdleldocfpaaaDoor.F
open Go.RowKit Go.Proofs.YtdjdleldocfpaaaDoorW.PrintWords Go.Proofs.YtdjdleldocfpaaaDoorW.PrintLast Go.Proofs.YtdjdleldocfpaaaDoorW.PrintMore
set_option linter.unusedVariables false
set_option linter.unusedSimpArgs false
attribute [local go_sem] max2_int min2_int max_two min_two
set_option maxRecDepth 20000 in set_option maxHeartbeats 4000000 in open Nat renaming reduceAdd → p1, reduceSub → p2, reduceMul → p3, reduceDiv → p4, reduceBNe → p5, reduceBEq → p6, reduceEqDiff → p7, reduceLeDiff → p8, reduceLT → p9 in open Int renaming reduceLE → p10, reduceLT → p11, reduceEq → p12 in
theorem impl_SplitFields.ctr {k : Nat} {a0 : ByteArray} {r1 : List ByteArray} {r2 : Bool} (h : impl_SplitFields.f k a0 = some (r1, r2)) : Ctr Tryd.prog 37 [.v (.string a0)] (.tu [.ow 9 1 (r1.map eS), .v (.bool r2)]) := by
  refine Ctr_of tyOk hm Tryd.func37 rfl rfl (by kernel_rfl) (n := 57) (rv := [.tmp 2, .tmp 3]) rfl rfl ?_
  simp only [W, List.replicate]
  unfold impl_SplitFields.f at h
  replace h := ifS h; rcases h with ⟨c1, h⟩ | ⟨c1, h⟩
  · cases h
    try simp only [W, c1, p1, p2, p3, p4, p5, p6, p7, p8, p9, p10, p11, p12]
  · try simp only [W, c1, p1, p2, p3, p4, p5, p6, p7, p8, p9, p10, p11, p12]
    refine loopN (fun x : ByteArray × List ByteArray × Int × Int => [.v (.string x.1), .u, .u, .u, .lo 64, .v (.int .i64 x.2.2.1), .v (.int .i64 x.2.2.2), .u, .u, .u, .u, .u, .u, .u, .u, .u, .u, .u, .u, .u, .u, .u, .u, .u, .u, .u, .u, .u, .u, .u, .u, .u, .u, .u, .u, .u, .u, .u, .u, .u, .u, .u, .u, .u, .u, .u, .u, .u, .u, .u, .u, .u, .u, .u, .u, .u, .u, .u]) (fun x => [(64, .row 9 1 (List.map eS x.2.1))]) (fun n x => impl_SplitFields.l0 n x.1 x.2.1 x.2.2.1 x.2.2.2 = some (r1, r2)) (a0, ([] : List ByteArray), 0, 0) [] h (by simp only [W, p1, p2, p3, p4, p5, p6, p7, p8, p9, p10, p11, p12] <;> trivial) (by simp only [W, p1, p2, p3, p4, p5, p6, p7, p8, p9, p10, p11, p12] <;> trivial) rfl (fun _ h => by cases h) ?_
    intro n1 ⟨x2, x3, x4, x5⟩ _ h
    simp only [impl_SplitFields.l0] at h
    replace h := ifS h; rcases h with ⟨c6, h⟩ | ⟨c6, h⟩
    · replace h := ifS h; rcases h with ⟨c7, h⟩ | ⟨c7, h⟩
      · replace h := ifN h; obtain ⟨c8, h⟩ := h
        replace h := ifS h; rcases h with ⟨c9, h⟩ | ⟨c9, h⟩
        · rcases n1 with _ | m10; · cases h
          rw [impl_SplitFields.j1] at h
          rw [if_pos rfl] at h
          cases h
          try simp only [W, c6, c7, c8, c9, p1, p2, p3, p4, p5, p6, p7, p8, p9, p10, p11, p12]
        · rcases n1 with _ | m10; · cases h
          rw [impl_SplitFields.j1] at h
          replace h := ifT h; rcases h with ⟨c11, h⟩ | ⟨c11, h⟩
          · cases h
            try simp only [W, c6, c7, c8, c9, c11, p1, p2, p3, p4, p5, p6, p7, p8, p9, p10, p11, p12]
          · rw [if_pos c7] at h
            replace h := ifN h; obtain ⟨c12, h⟩ := h
            rcases m10 with _ | m13; · cases h
            rw [impl_SplitFields.j2] at h
            replace h := ifT h; rcases h with ⟨c14, h⟩ | ⟨c14, h⟩ <;> try simp only [bEq] at c14
            · try simp only [W, c6, c7, c8, c9, c11, c12, c14, p1, p2, p3, p4, p5, p6, p7, p8, p9, p10, p11, p12]
              exact nextN (x2, x3, x4, (wrap64 (x5 + 1))) [] m13 (by omega) h (by simp only [W, p1, p2, p3, p4, p5, p6, p7, p8, p9, p10, p11, p12] <;> trivial) (by simp only [W, p1, p2, p3, p4, p5, p6, p7, p8, p9, p10, p11, p12] <;> trivial) rfl
            · replace h := ifS h; rcases h with ⟨c15, h⟩ | ⟨c15, h⟩
              · replace h := ifN h; obtain ⟨c16, h⟩ := h
                replace h := ifN h; obtain ⟨c17, h⟩ := h
                rw [if_pos c6] at h
                replace h := ifN h; obtain ⟨c18, h⟩ := h
                try simp only [W, c6, c7, c8, c9, c11, c12, c14, c15, c16, c17, c18, p1, p2, p3, p4, p5, p6, p7, p8, p9, p10, p11, p12]
                exact nextN (x2, (x3 ++ [x2.extract (x4 : Int).toNat (x5 : Int).toNat]), (wrap64 (x5 + 1)), (wrap64 (x5 + 1))) [(64, 816)] m13 (by omega) h (by simp only [W, p1, p2, p3, p4, p5, p6, p7, p8, p9, p10, p11, p12] <;> trivial) (by simp only [W, p1, p2, p3, p4, p5, p6, p7, p8, p9, p10, p11, p12] <;> trivial) rfl
              · try simp only [W, c6, c7, c8, c9, c11, c12, c14, c15, p1, p2, p3, p4, p5, p6, p7, p8, p9, p10, p11, p12]
                exact nextN (x2, x3, (wrap64 (x5 + 1)), (wrap64 (x5 + 1))) [] m13 (by omega) h (by simp only [W, p1, p2, p3, p4, p5, p6, p7, p8, p9, p10, p11, p12] <;> trivial) (by simp only [W, p1, p2, p3, p4, p5, p6, p7, p8, p9, p10, p11, p12] <;> trivial) rfl
      · rcases n1 with _ | m8; · cases h
        rw [impl_SplitFields.j1] at h
        rw [if_neg (by decide)] at h
        rw [if_neg c7] at h
        rcases m8 with _ | m10; · cases h
        rw [impl_SplitFields.j2] at h
        rw [if_neg (by decide)] at h
        replace h := ifS h; rcases h with ⟨c12, h⟩ | ⟨c12, h⟩
        · replace h := ifN h; obtain ⟨c13, h⟩ := h
          replace h := ifN h; obtain ⟨c14, h⟩ := h
          rw [if_pos c6] at h
          replace h := ifN h; obtain ⟨c15, h⟩ := h
          try simp only [W, c6, c7, c12, c13, c14, c15, p1, p2, p3, p4, p5, p6, p7, p8, p9, p10, p11, p12]
          exact nextN (x2, (x3 ++ [x2.extract (x4 : Int).toNat (x5 : Int).toNat]), (wrap64 (x5 + 1)), (wrap64 (x5 + 1))) [(64, 816)] m10 (by omega) h (by simp only [W, p1, p2, p3, p4, p5, p6, p7, p8, p9, p10, p11, p12] <;> trivial) (by simp only [W, p1, p2, p3, p4, p5, p6, p7, p8, p9, p10, p11, p12] <;> trivial) rfl
        · try simp only [W, c6, c7, c12, p1, p2, p3, p4, p5, p6, p7, p8, p9, p10, p11, p12]
          exact nextN (x2, x3, (wrap64 (x5 + 1)), (wrap64 (x5 + 1))) [] m10 (by omega) h (by simp only [W, p1, p2, p3, p4, p5, p6, p7, p8, p9, p10, p11, p12] <;> trivial) (by simp only [W, p1, p2, p3, p4, p5, p6, p7, p8, p9, p10, p11, p12] <;> trivial) rfl
    · replace h := ifS h; rcases h with ⟨c7, h⟩ | ⟨c7, h⟩
      · cases h
        try simp only [W, c6, c7, p1, p2, p3, p4, p5, p6, p7, p8, p9, p10, p11, p12]
      · cases h
        try simp only [W, c6, c7, p1, p2, p3, p4, p5, p6, p7, p8, p9, p10, p11, p12]
theorem impl_signed.ctr {a0 : ByteArray} {a1 a2 : Int} {r1 : Int} {r2 : Bool} (h : impl_signed.f a0 a1 a2 = some (r1, r2)) : Ctr Tryd.prog 66 [.v (.string a0), .v (.int .i64 a1), .v (.int .i64 a2)] (.tu [.v (.int .i64 r1), .v (.bool r2)]) := by
  refine ⟨enters_of Tryd.func66 rfl rfl, fun w ys hgl hys => ?_⟩
  simp only [RepL, Rep] at hys
  obtain ⟨_, _, rfl, rfl, _, _, rfl, rfl, _, _, rfl, rfl, rfl⟩ := hys
  suffices key : Calls Tryd.prog 66 #[.string a0, .int .i64 a1, .int .i64 a2] w fun e w' => e = .returned (.tuple #[.int .i64 r1, .bool r2]) ∧ Below w.heap.size w w' from
    key.mono fun e w' ⟨he, hb⟩ => ⟨_, [], he, by exact repR_vlu _ _ (.tu [.v (.int .i64 r1), .v (.bool r2)]) rfl, List.nodup_nil, hb⟩
  unfold impl_signed.f at h
  split at h
  rotate_left
  · cases h
  rename_i hs
  have hbw : ∀ {W1 : World}, (W1 = w ∨ ∃ t, W1 = Go.Lib.bytesWorld w (Tryd.laysAt_ren.t 5) t) → Below w.heap.size w W1 := by
    rintro W1 (rfl | ⟨t, rfl⟩)
    · exact Below.refl _ _
    · exact Go.Lib.bytesWorld_below _ _ _
  have mixed := Tryd.laysAt.mixed
  have eA : ∀ args w, (callFunc 95 args).run Tryd.prog w = .ok (.enter 95 args) w := enters_of Tryd.func95 rfl rfl
  have eF : ∀ args w, (callFunc 44 args).run Tryd.prog w = .ok (.enter 44 args) w := enters_of Tryd.func44 rfl rfl
  cases e : Go.Lib.atoiAll a0.data.toList with
  | ok v =>
    rw [e] at h
    simp only at h
    have hA : Calls Tryd.prog 95 #[.string a0] w fun e w' => e = .returned (.tuple #[.int .i64 v, .nilIface]) ∧ (w' = w ∨ ∃ t, w' = Go.Lib.bytesWorld w (Tryd.laysAt_ren.t 5) t) := Any.strconv_Atoi_ok Tryd.laysAt a0 (by omega) v e w
    clear e
    by_cases c1 : v < a1
    · rw [if_pos c1] at h
      cases h
      have d1 : decide (v < a1) = true := decide_eq_true c1
      clear c1
      go_enter Tryd.func66, Tryd.ntmps66
      go_wp2_with (go_at_fn 95; refine hA.mono ?_; rintro e W1 ⟨rfl, hW⟩)
      go_wp2
      go_ret2
      exact ⟨rfl, hbw hW⟩
    rw [if_neg c1] at h
    have d1 : decide (v < a1) = false := decide_eq_false c1
    clear c1
    by_cases c2 : v > a2
    · rw [if_pos c2] at h
      cases h
      have d2 : decide (a2 < v) = true := decide_eq_true c2
      clear c2
      go_enter Tryd.func66, Tryd.ntmps66
      go_wp2_with (go_at_fn 95; refine hA.mono ?_; rintro e W1 ⟨rfl, hW⟩)
      go_wp2
      go_ret2
      exact ⟨rfl, hbw hW⟩
    rw [if_neg c2] at h
    have d2 : decide (a2 < v) = false := decide_eq_false c2
    clear c2
    obtain ⟨t, A, h⟩ := bnd h
    have hF : ∀ W1, Below w.heap.size w W1 → Calls Tryd.prog 44 #[.int .i64 v] W1 fun e w' => e = .returned (.string t) ∧ Below W1.heap.size W1 w' := fun W1 hb => by
      refine ((impl_FormatInt.ctr A).2 W1 [.int .i64 v] (Gl_below hb hgl) (by simp [RepL, Rep])).mono ?_
      rintro e w' ⟨y, L, rfl, hR, _, hb⟩
      simp only [RepR] at hR
      exact ⟨congrArg _ hR.1, hb⟩
    by_cases c3 : t.toList = a0.toList
    · rw [if_pos c3] at h
      cases h
      have d3 : (t.toList == a0.toList) = true := by simpa using c3
      clear c3
      go_enter Tryd.func66, Tryd.ntmps66
      go_wp2_with (go_at_fn 95; refine hA.mono ?_; rintro e W1 ⟨rfl, hW⟩)
      have hb1 := hbw hW
      clear hW
      go_wp2_with (go_at_fn 44; refine (hF _ hb1).mono ?_; rintro e W2 ⟨rfl, hb2⟩)
      go_wp2
      go_ret2
      exact ⟨rfl, hb1.trans (hb2.mono hb1.size)⟩
    · rw [if_neg c3] at h
      cases h
      have d3 : (t.toList == a0.toList) = false := by simpa using c3
      clear c3
      go_enter Tryd.func66, Tryd.ntmps66
      go_wp2_with (go_at_fn 95; refine hA.mono ?_; rintro e W1 ⟨rfl, hW⟩)
      have hb1 := hbw hW
      clear hW
      go_wp2_with (go_at_fn 44; refine (hF _ hb1).mono ?_; rintro e W2 ⟨rfl, hb2⟩)
      go_wp2
      go_ret2
      exact ⟨rfl, hb1.trans (hb2.mono hb1.size)⟩
  | «syntax» =>
    rw [e] at h
    cases h
    obtain ⟨t1, p1, q1⟩ := Gl_syn hgl
    have hv : w.cell? ⟨Tryd.laysAt_ren.g 15, 0, none⟩ = some (.iface t1 p1) := var_cell (by kernel_rfl) q1
    have hA := Any.strconv_Atoi_syntax Tryd.laysAt a0 hs e _ w hv (.inr ⟨_, _, rfl⟩)
    go_enter Tryd.func66, Tryd.ntmps66
    go_wp2_with (go_at_fn 95; refine hA.mono ?_; rintro e W1 ⟨N, rfl, h1, h2, hb⟩)
    go_wp2
    go_ret2
    exact ⟨rfl, hb⟩
  | range =>
    rw [e] at h
    cases h
    obtain ⟨t1, p1, q1⟩ := Gl_rng hgl
    have hv : w.cell? ⟨Tryd.laysAt_ren.g 16, 0, none⟩ = some (.iface t1 p1) := var_cell (by kernel_rfl) q1
    have hA := Any.strconv_Atoi_range Tryd.laysAt a0 hs e _ w hv (.inr ⟨_, _, rfl⟩)
    go_enter Tryd.func66, Tryd.ntmps66
    go_wp2_with (go_at_fn 95; refine hA.mono ?_; rintro e W1 ⟨N, rfl, h1, h2, hb⟩)
    go_wp2
    go_ret2
    exact ⟨rfl, hb⟩
set_option maxRecDepth 20000 in set_option maxHeartbeats 4000000 in open Nat renaming reduceAdd → p1, reduceSub → p2, reduceMul → p3, reduceDiv → p4, reduceBNe → p5, reduceBEq → p6, reduceEqDiff → p7, reduceLeDiff → p8, reduceLT → p9 in open Int renaming reduceLE → p10, reduceLT → p11, reduceEq → p12 in
theorem impl_ParseUint.ctr {a0 : ByteArray} {r1 : Int} {r2 : Bool} (h : impl_ParseUint.f a0 = some (r1, r2)) : Ctr Tryd.prog 39 [.v (.string a0)] (.tu [.v (.int .i64 r1), .v (.bool r2)]) := by
  refine Ctr_of tyOk hm Tryd.func39 rfl rfl (by kernel_rfl) (n := 7) (rv := [.tmp 2, .tmp 3]) rfl rfl ?_
  simp only [W, List.replicate]
  unfold impl_ParseUint.f at h
  replace h := bnd h; obtain ⟨⟨t1_1, t1_2⟩, A, h⟩ := h
  dsimp only at h
  try simp only [W, p1, p2, p3, p4, p5, p6, p7, p8, p9, p10, p11, p12]
  refine callR (impl_signed.ctr A) ?_
  cases h
  try simp only [W, p1, p2, p3, p4, p5, p6, p7, p8, p9, p10, p11, p12]
set_option maxRecDepth 20000 in set_option maxHeartbeats 4000000 in open Nat renaming reduceAdd → p1, reduceSub → p2, reduceMul → p3, reduceDiv → p4, reduceBNe → p5, reduceBEq → p6, reduceEqDiff → p7, reduceLeDiff → p8, reduceLT → p9 in open Int renaming reduceLE → p10, reduceLT → p11, reduceEq → p12 in
theorem impl_ParseAct.ctr {k : Nat} {a0 : ByteArray} {r1 : Int} {r2 : Int} {r3 : Int} {r4 : Bool} (h : impl_ParseAct.f k a0 = some (r1, r2, r3, r4)) : Ctr Tryd.prog 14 [.v (.string a0)] (.tu [.ag [.v (.int .i64 r1), .v (.int .i64 r2), .v (.int .i64 r3)], .v (.bool r4)]) := by
  refine Ctr_of tyOk hm Tryd.func14 rfl rfl (by kernel_rfl) (n := 75) (rv := [.cell 2 31, .tmp 3]) rfl rfl ?_
  simp only [W, List.replicate]
  unfold impl_ParseAct.f at h
  replace h := bnd h; obtain ⟨⟨t1_1, t1_2⟩, A, h⟩ := h
  dsimp only at h
  try simp only [W, p1, p2, p3, p4, p5, p6, p7, p8, p9, p10, p11, p12]
  refine callR (impl_SplitFields.ctr A) ?_
  replace h := ifT h; rcases h with ⟨rfl, h⟩ | ⟨rfl, h⟩
  · replace h := ifS h; rcases h with ⟨c3, h⟩ | ⟨c3, h⟩
    · cases h
      try simp only [W, eq_true c3, p1, p2, p3, p4, p5, p6, p7, p8, p9, p10, p11, p12]
    · try simp only [W, c3, p1, p2, p3, p4, p5, p6, p7, p8, p9, p10, p11, p12]
      refine loopN (fun x : List ByteArray × Int × Int × Int × Int => [.u, .u, .bp 32 0, .u, .lo 240, .u, .v (.int .i64 x.2.1), .u, .u, .u, .u, .u, .u, .u, .u, .u, .u, .u, .u, .u, .u, .u, .u, .u, .u, .u, .u, .u, .u, .u, .u, .u, .u, .u, .u, .u, .u, .u, .u, .u, .u, .u, .u, .u, .u, .u, .u, .u, .u, .u, .u, .u, .u, .u, .u, .u, .u, .u, .u, .u, .u, .u, .u, .u, .u, .u, .u, .u, .u, .u, .u, .u, .u, .u, .u, .u]) (fun x => [(32, .box 31 [.v (.int .i64 x.2.2.1), .v (.int .i64 x.2.2.2.1), .v (.int .i64 x.2.2.2.2)]), (240, .row 9 1 (List.map eS x.1))]) (fun n x => impl_ParseAct.l0 n x.1 x.2.1 = some (r1, r2, r3, r4)) (t1_1, 1, 0, 0, 0) [] h (by simp only [W, p1, p2, p3, p4, p5, p6, p7, p8, p9, p10, p11, p12] <;> trivial) (by simp only [W, p1, p2, p3, p4, p5, p6, p7, p8, p9, p10, p11, p12] <;> trivial) rfl (fun _ h => by cases h) ?_
      intro n1 ⟨x4, x5, y6, y7, y8⟩ _ h
      simp only [impl_ParseAct.l0] at h
      replace h := ifS h; rcases h with ⟨c9, h⟩ | ⟨c9, h⟩
      · replace h := bnd h; obtain ⟨⟨t10_1, t10_2⟩, A, h⟩ := h
        dsimp only at h
        try simp only [W, c9, p1, p2, p3, p4, p5, p6, p7, p8, p9, p10, p11, p12]
        refine callR (impl_wordOf.ctr A) ?_
        replace h := ifN h; obtain ⟨c11, h⟩ := h
        replace h := ifS h; rcases h with ⟨c12, h⟩ | ⟨c12, h⟩
        · replace h := ifS h; rcases h with ⟨c13, h⟩ | ⟨c13, h⟩
          · replace h := ifN h; obtain ⟨c14, h⟩ := h
            try simp only [W, c9, c11, eq_true c12, eq_true c13, c14, p1, p2, p3, p4, p5, p6, p7, p8, p9, p10, p11, p12]
            refine loopN (fun x : Int × Int × Int × Int × Int × Int × Int × Int => [.u, .u, .bp 32 0, .u, .lo 240, .u, .v (.int .i64 x.1), .u, .u, .bp 144 0, .u, .u, .u, .u, .u, .u, .u, .u, .u, .u, .u, .u, .u, .u, .u, .u, .u, .u, .u, .u, .u, .u, .u, .u, .u, .u, .u, .u, .u, .u, .u, .u, .u, .u, .u, .u, .u, .u, .vw 240 1 1 (x4.length : Int).toNat, .v (.int .i64 x.2.1), .v (.int .i64 x.2.2.1), .u, .u, .u, .u, .u, .u, .u, .u, .u, .u, .u, .u, .u, .u, .u, .u, .u, .u, .u, .u, .u, .u, .u, .u, .u]) (fun x => [(32, .box 31 [.v (.int .i64 x.2.2.2.2.2.1), .v (.int .i64 x.2.2.2.2.2.2.1), .v (.int .i64 x.2.2.2.2.2.2.2)]), (144, .box 76 [.v (.int .i64 x.2.2.2.1), .v (.int .i64 x.2.2.2.2.1)]), (240, .row 9 1 (List.map eS x4))]) (fun n x => impl_ParseAct.l1 n x4 x.1 (x4.drop 1) x.2.1 x.2.2.1 x.2.2.2.1 x.2.2.2.2.1 = some (r1, r2, r3, r4)) (x5, ((x4.drop 1).length : Int), 0, 0, 0, y6, y7, y8) [] h (by simp only [W, p1, p2, p3, p4, p5, p6, p7, p8, p9, p10, p11, p12] <;> trivial) (by simp only [W, p1, p2, p3, p4, p5, p6, p7, p8, p9, p10, p11, p12] <;> trivial) rfl (fun _ h => by cases h) ?_
            intro n2 ⟨x15, x16, x17, x18, x19, y20, y21, y22⟩ _ h
            simp only [impl_ParseAct.l1] at h
            replace h := ifS h; rcases h with ⟨c23, h⟩ | ⟨c23, h⟩
            · replace h := ifN h; obtain ⟨c24, h⟩ := h
              replace h := ifN h; obtain ⟨c25, h⟩ := h
              replace h := bnd h; obtain ⟨⟨t26_1, t26_2⟩, A, h⟩ := h
              dsimp only at h
              try simp only [W, c23, c24, c25, p1, p2, p3, p4, p5, p6, p7, p8, p9, p10, p11, p12]
              refine callR (impl_ParseUint.ctr A) ?_
              replace h := ifS h; rcases h with ⟨c27, h⟩ | ⟨c27, h⟩
              · replace h := ifT h; rcases h with ⟨rfl, h⟩ | ⟨rfl, h⟩
                · try simp only [W, c23, c24, c25, eq_true c27, c27, p1, p2, p3, p4, p5, p6, p7, p8, p9, p10, p11, p12]
                  exact nextN (x15, x16, (wrap64 (0 + 1)), t26_1, x19, y20, y21, y22) [] n2 (by omega) h (by simp only [W, p1, p2, p3, p4, p5, p6, p7, p8, p9, p10, p11, p12] <;> trivial) (by simp only [W, p1, p2, p3, p4, p5, p6, p7, p8, p9, p10, p11, p12] <;> trivial) rfl
                · cases h
                  try simp only [W, c23, c24, c25, eq_true c27, c27, p1, p2, p3, p4, p5, p6, p7, p8, p9, p10, p11, p12]
              · replace h := ifN h; obtain ⟨c28, h⟩ := h
                replace h := ifT h; rcases h with ⟨rfl, h⟩ | ⟨rfl, h⟩
                · try simp only [W, c23, c24, c25, c27, eq_true c28, c28, p1, p2, p3, p4, p5, p6, p7, p8, p9, p10, p11, p12]
                  exact nextN (x15, x16, (wrap64 (1 + 1)), x18, t26_1, y20, y21, y22) [] n2 (by omega) h (by simp only [W, p1, p2, p3, p4, p5, p6, p7, p8, p9, p10, p11, p12] <;> trivial) (by simp only [W, p1, p2, p3, p4, p5, p6, p7, p8, p9, p10, p11, p12] <;> trivial) rfl
                · cases h
                  try simp only [W, c23, c24, c25, c27, eq_true c28, c28, p1, p2, p3, p4, p5, p6, p7, p8, p9, p10, p11, p12]
            · replace h := bnd h; obtain ⟨t24, A, h⟩ := h
              try simp only [W, c23, p1, p2, p3, p4, p5, p6, p7, p8, p9, p10, p11, p12]
              refine callR (impl_ActOk.ctr A) ?_
              replace h := ifT h; rcases h with ⟨rfl, h⟩ | ⟨rfl, h⟩
              · cases h
                try simp only [W, c23, p1, p2, p3, p4, p5, p6, p7, p8, p9, p10, p11, p12]
              · try simp only [W, c23, p1, p2, p3, p4, p5, p6, p7, p8, p9, p10, p11, p12]
                exact nextN (x4, (wrap64 (x15 + 1)), y20, y21, y22) [] n2 (by omega) h (by simp only [W, p1, p2, p3, p4, p5, p6, p7, p8, p9, p10, p11, p12] <;> trivial) (by simp only [W, p1, p2, p3, p4, p5, p6, p7, p8, p9, p10, p11, p12] <;> trivial) rfl
          · try simp only [W, c9, c11, eq_true c12, c13, p1, p2, p3, p4, p5, p6, p7, p8, p9, p10, p11, p12]
            exact nextN (x4, (wrap64 (x5 + 1)), y6, y7, y8) [] n1 (by omega) h (by simp only [W, p1, p2, p3, p4, p5, p6, p7, p8, p9, p10, p11, p12] <;> trivial) (by simp only [W, p1, p2, p3, p4, p5, p6, p7, p8, p9, p10, p11, p12] <;> trivial) rfl
        · try simp only [W, c9, c11, c12, p1, p2, p3, p4, p5, p6, p7, p8, p9, p10, p11, p12]
          exact nextN (x4, (wrap64 (x5 + 1)), y6, y7, y8) [] n1 (by omega) h (by simp only [W, p1, p2, p3, p4, p5, p6, p7, p8, p9, p10, p11, p12] <;> trivial) (by simp only [W, p1, p2, p3, p4, p5, p6, p7, p8, p9, p10, p11, p12] <;> trivial) rfl
      · cases h
        try simp only [W, c9, p1, p2, p3, p4, p5, p6, p7, p8, p9, p10, p11, p12]
  · cases h
    try simp only [W, p1, p2, p3, p4, p5, p6, p7, p8, p9, p10, p11, p12]
end Go.Proofs.YtdjdleldocfpaaaDoor.F
end

section
namespace Go.Proofs.YtdjdleldocfpaaaDoor.F
open Go.RowKit Go.Proofs.YtdjdleldocfpaaaDoorW.PrintWords Go.Proofs.YtdjdleldocfpaaaDoorW.PrintLast Go.Proofs.YtdjdleldocfpaaaDoorW.PrintMore
set_option linter.unusedVariables false
set_option linter.unusedSimpArgs false
def laws_FnExactParseAct.f (k : Nat) (a0 : ByteArray) : Option (Bool) := if (a0.size : Int) > 1048576 then (some true) else ((spec_ParseAct.f k a0).bind fun bt272 => ((impl_ParseAct.f k a0).bind fun bt277 => ((laws_eqAct.f bt277.1 bt277.2.1 bt277.2.2.1 bt272.1 bt272.2.1 bt272.2.2.1).bind fun t282 => (if t282 = true then (if (bt277.2.2.2 != bt272.2.2.2) = true then (some false) else (some true)) else (some false)))))
end Go.Proofs.YtdjdleldocfpaaaDoor.F
end

section
namespace Go.Proofs.YtdjdleldocfpaaaDoor.F
open Go.RowKit Go.Proofs.YtdjdleldocfpaaaDoorW.PrintWords Go.Proofs.YtdjdleldocfpaaaDoorW.PrintLast Go.Proofs.YtdjdleldocfpaaaDoorW.PrintMore
set_option linter.unusedVariables false
set_option linter.unusedSimpArgs false
attribute [local go_sem] max2_int min2_int max_two min_two
set_option maxRecDepth 20000 in set_option maxHeartbeats 4000000 in open Nat renaming reduceAdd → p1, reduceSub → p2, reduceMul → p3, reduceDiv → p4, reduceBNe → p5, reduceBEq → p6, reduceEqDiff → p7, reduceLeDiff → p8, reduceLT → p9 in open Int renaming reduceLE → p10, reduceLT → p11, reduceEq → p12 in
theorem laws_FnExactParseAct.ctr {k : Nat} {a0 : ByteArray} {r : Bool} (h : laws_FnExactParseAct.f k a0 = some r) : Ctr Tryd.prog 4 [.v (.string a0)] (.v (.bool r)) := by
  refine Ctr_of tyOk hm Tryd.func4 rfl rfl (by kernel_rfl) (n := 28) (rv := [.tmp 2]) rfl rfl ?_
  simp only [W, List.replicate]
  unfold laws_FnExactParseAct.f at h
  replace h := ifS h; rcases h with ⟨c1, h⟩ | ⟨c1, h⟩
  · cases h
    try simp only [W, c1, p1, p2, p3, p4, p5, p6, p7, p8, p9, p10, p11, p12]
  · replace h := bnd h; obtain ⟨⟨t2_1, t2_2, t2_3, t2_4⟩, A, h⟩ := h
    dsimp only at h
    try simp only [W, c1, p1, p2, p3, p4, p5, p6, p7, p8, p9, p10, p11, p12]
    refine callR (spec_ParseAct.ctr A) ?_
    replace h := bnd h; obtain ⟨⟨t3_1, t3_2, t3_3, t3_4⟩, A, h⟩ := h
    dsimp only at h
    try simp only [W, c1, p1, p2, p3, p4, p5, p6, p7, p8, p9, p10, p11, p12]
    refine callR (impl_ParseAct.ctr A) ?_
    replace h := bnd h; obtain ⟨t4, A, h⟩ := h
    try simp only [W, c1, p1, p2, p3, p4, p5, p6, p7, p8, p9, p10, p11, p12]
    refine callR (laws_eqAct.ctr A) ?_
    replace h := ifT h; rcases h with ⟨rfl, h⟩ | ⟨rfl, h⟩
    · replace h := ifT h; rcases h with ⟨c6, h⟩ | ⟨c6, h⟩ <;> try simp only [bEq] at c6
      · cases h
        try simp only [W, c1, c6, p1, p2, p3, p4, p5, p6, p7, p8, p9, p10, p11, p12]
      · cases h
        try simp only [W, c1, c6, p1, p2, p3, p4, p5, p6, p7, p8, p9, p10, p11, p12]
    · cases h
      try simp only [W, c1, p1, p2, p3, p4, p5, p6, p7, p8, p9, p10, p11, p12]
theorem laws_FnExactParseAct.calls (k : Nat) (a0 : ByteArray) (w : World) (hgl : Gl w) (h : laws_FnExactParseAct.f k a0 = some true) :
    Calls Tryd.prog 4 #[.string a0] w fun e w' => e = .returned (.bool true) ∧ Below w.heap.size w w' := by
  refine ((laws_FnExactParseAct.ctr h).2 w [.string a0] hgl (by simp only [RepL, Rep]; exact ⟨_, _, rfl, rfl, rfl⟩)).mono ?_
  rintro _ _ ⟨y, L, rfl, hR, _, hb⟩
  exact ⟨congrArg Ending.returned (RepR_pln rfl hR).1, hb⟩
end Go.Proofs.YtdjdleldocfpaaaDoor.F
end

section
namespace Go.Proofs.YtdjdleldocfpaaaDoor.F
open Go.RowKit Go.Proofs.YtdjdleldocfpaaaDoorW.PrintWords Go.Proofs.YtdjdleldocfpaaaDoorW.PrintLast Go.Proofs.YtdjdleldocfpaaaDoorW.PrintMore
set_option linter.unusedVariables false
set_option linter.unusedSimpArgs false
theorem w64 {x : Int} (h1 : -9223372036854775808 ≤ x) (h2 : x ≤ 9223372036854775807) : wrap64 x = x := by unfold wrap64; omega
end Go.Proofs.YtdjdleldocfpaaaDoor.F
end

section
namespace Go.Proofs.YtdjdleldocfpaaaDoor.F
open Go.RowKit Go.Proofs.YtdjdleldocfpaaaDoorW.PrintWords Go.Proofs.YtdjdleldocfpaaaDoorW.PrintLast Go.Proofs.YtdjdleldocfpaaaDoorW.PrintMore
set_option linter.unusedVariables false
set_option linter.unusedSimpArgs false
def aok (t a b : Int) : Bool :=
  if t = 1 then decide (1 ≤ a ∧ a ≤ 20 ∧ b = 0) else if t = 3 then decide (0 ≤ a ∧ a ≤ 5 ∧ 0 ≤ b ∧ b ≤ 3) else if t = 5 then decide (0 ≤ a ∧ a ≤ 5 ∧ b = 0) else if t = 2 ∨ t = 4 ∨ t = 6 then decide (a = 0 ∧ b = 0) else false
theorem impl_isDirection_eq (d : Int) : impl_isDirection.f d = some (decide (0 ≤ d ∧ d ≤ 3)) := by
  unfold impl_isDirection.f
  by_cases h1 : d ≥ 0 <;> simp [h1] <;> omega
theorem spec_l01In_eqA (x a b : Int) : spec_l01In.f x a b = some (decide (a ≤ x ∧ x ≤ b)) := by
  unfold spec_l01In.f
  by_cases h1 : x ≥ a
  · simp [h1]
  · rw [if_neg h1]; simp; omega
theorem impl_ActOk_eq {k : Nat} (hk : 1 ≤ k) (t a b : Int) : impl_ActOk.f k t a b = some (aok t a b) := by
  obtain ⟨m, rfl⟩ : ∃ m, k = m + 1 := ⟨k - 1, by omega⟩
  have e : impl_ActOk.f (m + 1) t a b = impl_ActOk.j0 (m + 1) (decide (0 ≤ a ∧ a ≤ 5)) t a b := by
    unfold impl_ActOk.f
    by_cases h : a ≥ 0
    · rw [if_pos h]; congr 1; rw [Bool.eq_iff_iff]; simp; omega
    · rw [if_neg h]; congr 1; symm; simp; omega
  rw [e]
  simp only [impl_ActOk.j0, impl_isDirection_eq, Option.bind_some]
  unfold aok
  by_cases t1 : t = 1
  · simp only [t1, if_true]
    by_cases h1 : a ≥ 1
    · rw [if_pos h1]
      by_cases h2 : a ≤ 20
      · rw [if_pos h2]; congr 1; rw [Bool.eq_iff_iff]; simp; omega
      · rw [if_neg h2]; congr 1; symm; simp; omega
    · rw [if_neg h1]; congr 1; symm; simp; omega
  by_cases t3 : t = 3
  · simp only [t3]
    by_cases h1 : 0 ≤ a ∧ a ≤ 5
    · simp [h1]
    · simp [h1]; omega
  by_cases t5 : t = 5
  · simp only [t5]
    by_cases h1 : 0 ≤ a ∧ a ≤ 5
    · simp [h1]; rw [Bool.eq_iff_iff]; simp
    · simp [h1]; omega
  by_cases t2 : t = 2
  · simp only [t2]
    by_cases h1 : a = 0
    · simp [h1]; rw [Bool.eq_iff_iff]; simp
    · simp [h1]
  by_cases t4 : t = 4
  · simp only [t4]
    by_cases h1 : a = 0
    · simp [h1]; rw [Bool.eq_iff_iff]; simp
    · simp [h1]
  by_cases t6 : t = 6
  · simp only [t6]
    by_cases h1 : a = 0
    · simp [h1]; rw [Bool.eq_iff_iff]; simp
    · simp [h1]
  simp [t1, t2, t3, t4, t5, t6]
theorem spec_ActOk_eq {k : Nat} (hk : 1 ≤ k) (t a b : Int) : spec_ActOk.f k t a b = some (aok t a b) := by
  obtain ⟨m, rfl⟩ : ∃ m, k = m + 1 := ⟨k - 1, by omega⟩
  have e : spec_ActOk.f (m + 1) t a b = spec_ActOk.j0 (m + 1) t (decide (t = 2 ∨ t = 4 ∨ t = 6)) t a b := by
    unfold spec_ActOk.f
    by_cases h : t = 2
    · subst h; rfl
    · by_cases h4 : t = 4
      · subst h4; rfl
      · rw [if_neg h, if_neg h4]
        congr 1
        rw [Bool.eq_iff_iff]; simp [h, h4]
  rw [e]
  simp only [spec_ActOk.j0, spec_l01In_eqA, Option.bind_some]
  unfold aok
  by_cases t1 : t = 1
  · simp only [t1]
    by_cases h1 : 1 ≤ a ∧ a ≤ 20
    · simp [h1]; rw [Bool.eq_iff_iff]; simp
    · simp [h1]; omega
  by_cases t3 : t = 3
  · simp only [t3]
    by_cases h1 : 0 ≤ a ∧ a ≤ 5
    · simp [h1]
    · simp [h1]; omega
  by_cases t5 : t = 5
  · simp only [t5]
    by_cases h1 : 0 ≤ a ∧ a ≤ 5
    · simp [h1]; rw [Bool.eq_iff_iff]; simp
    · simp [h1]; omega
  by_cases t2 : t = 2 ∨ t = 4 ∨ t = 6
  · simp only [t2, t1, t3, t5]
    by_cases h1 : a = 0
    · simp [h1]; rw [Bool.eq_iff_iff]; simp
    · simp [h1]
  simp [t1, t2, t3, t5]
end Go.Proofs.YtdjdleldocfpaaaDoor.F
end

section
namespace Go.Proofs.YtdjdleldocfpaaaDoor.F
open Go.RowKit Go.Proofs.YtdjdleldocfpaaaDoorW.PrintWords Go.Proofs.YtdjdleldocfpaaaDoorW.PrintLast Go.Proofs.YtdjdleldocfpaaaDoorW.PrintMore
set_option linter.unusedVariables false
set_option linter.unusedSimpArgs false
theorem LeO_ge {α : Type} {F : Nat → Option α} (hm : ∀ k, LeO (F k) (F (k + 1))) {k0 : Nat} {r : α} (h : F k0 = some r) : ∀ k, k0 ≤ k → F k = some r := by
  intro k hk
  induction k with
  | zero => obtain rfl : k0 = 0 := by omega
            exact h
  | succ k ih =>
    by_cases e : k0 = k + 1
    · subst e; exact h
    · exact hm k r (ih (by omega))
def atx (t a b : Int) : ByteArray := match impl_FormatAct.f 20 t a b with
  | some (s, _) => s
  | none => ByteArray.empty
def fck (t a b : Int) : Bool := match impl_FormatAct.f 20 t a b, spec_FormatAct.f 20 t a b with
  | some (s, u), some (s', u') => u && u' && decide (s.data.toList = s'.data.toList) && decide (s.size ≤ 12) && decide (1 ≤ s.size) && s.data.toList.all fun c => decide (32 ≤ c) && decide (c ≤ 126)
  | _, _ => false
def six' : List Int := [0, 1, 2, 3, 4, 5]
def upto20' : List Int := [1, 2, 3, 4, 5, 6, 7, 8, 9, 10, 11, 12, 13, 14, 15, 16, 17, 18, 19, 20]
theorem aok_cases {Q : Int → Int → Int → Bool} (h1 : ∀ b ∈ upto20', Q 1 b 0 = true) (h2 : ∀ a ∈ ([2, 4, 6] : List Int), Q a 0 0 = true) (h3 : ∀ b ∈ six', ∀ c ∈ ([0, 1, 2, 3] : List Int), Q 3 b c = true) (h4 : ∀ b ∈ six', Q 5 b 0 = true) {t a b : Int} (h : aok t a b = true) : Q t a b = true := by
  unfold aok at h
  split at h
  · rename_i e
    have h := of_decide_eq_true h
    obtain ⟨q1, q2, rfl⟩ := h
    subst e
    exact h1 a (by simp only [upto20', List.mem_cons, List.not_mem_nil, or_false]; omega)
  · split at h
    · rename_i e
      have h := of_decide_eq_true h
      subst e
      exact h3 a (by simp only [six', List.mem_cons, List.not_mem_nil, or_false]; omega) b (by simp only [List.mem_cons, List.not_mem_nil, or_false]; omega)
    · split at h
      · rename_i e
        have h := of_decide_eq_true h
        obtain ⟨q1, q2, rfl⟩ := h
        subst e
        exact h4 a (by simp only [six', List.mem_cons, List.not_mem_nil, or_false]; omega)
      · split at h
        · rename_i e
          have h := of_decide_eq_true h
          obtain ⟨rfl, rfl⟩ := h
          exact h2 t (by simp only [List.mem_cons, List.not_mem_nil, or_false]; exact e)
        · cases h
theorem fck_ok {t a b : Int} (h : aok t a b = true) : fck t a b = true :=
  aok_cases (Q := fck) (by decide +kernel) (by decide +kernel) (by decide +kernel) (by decide +kernel) h
theorem FormatAct_ok {t a b : Int} (h : aok t a b = true) {k : Nat} (hk : 20 ≤ k) : impl_FormatAct.f k t a b = some (atx t a b, true) ∧ spec_FormatAct.f k t a b = some (atx t a b, true) ∧ (atx t a b).size ≤ 12 ∧ 1 ≤ (atx t a b).size ∧ ∀ c ∈ (atx t a b).data.toList, 32 ≤ c ∧ c ≤ 126 := by
  have hf := fck_ok h
  unfold fck at hf
  split at hf
  · rename_i s u s' u' e1 e2
    simp only [Bool.and_eq_true, decide_eq_true_eq, List.all_eq_true] at hf
    obtain ⟨⟨⟨⟨⟨rfl, rfl⟩, h3⟩, h4⟩, h5⟩, h6⟩ := hf
    have hs : s' = s := by
      cases s; cases s'
      simp only [ByteArray.mk.injEq]
      exact Array.ext' h3.symm
    have ha : atx t a b = s := by unfold atx; rw [e1]
    rw [ha]
    refine ⟨LeO_ge (F := fun k => impl_FormatAct.f k t a b) (fun k => impl_FormatAct.mono _ _ _ k) e1 k hk, ?_, h4, h5, h6⟩
    rw [← hs]
    exact LeO_ge (F := fun k => spec_FormatAct.f k t a b) (fun k => spec_FormatAct.mono _ _ _ k) e2 k hk
  · cases hf
theorem FormatAct_no {t a b : Int} (h : aok t a b = false) {k : Nat} (hk : 1 ≤ k) : impl_FormatAct.f k t a b = some (⟨#[]⟩, false) ∧ spec_FormatAct.f k t a b = some (⟨#[]⟩, false) := by
  unfold impl_FormatAct.f spec_FormatAct.f
  rw [spec_ActOk_eq hk, h, Option.bind_some, if_neg Bool.false_ne_true, impl_ActOk_eq hk, h, Option.bind_some, if_neg Bool.false_ne_true]
  exact ⟨rfl, rfl⟩
theorem ba_size_app (a b : ByteArray) : (a ++ b).size = a.size + b.size := by simp
end Go.Proofs.YtdjdleldocfpaaaDoor.F
end

section
namespace Go.Proofs.YtdjdleldocfpaaaDoor.F
open Go.RowKit Go.Proofs.YtdjdleldocfpaaaDoorW.PrintWords Go.Proofs.YtdjdleldocfpaaaDoorW.PrintLast Go.Proofs.YtdjdleldocfpaaaDoorW.PrintMore
set_option linter.unusedVariables false
set_option linter.unusedSimpArgs false
theorem ba_inj {a b : ByteArray} (h : a.data.toList = b.data.toList) : a = b := by
  cases a; cases b
  simp only [ByteArray.mk.injEq]
  exact Array.ext' h
theorem toL_inj {a b : ByteArray} (h : a.toList = b.toList) : a = b := by
  rw [ByteArray.toList_eq, ByteArray.toList_eq] at h
  exact ba_inj h
def digB (n : Nat) : ByteArray := ⟨(Go.Lib.decDigits n).toArray⟩
theorem digB_small {n : Nat} (h : n < 10) : digB n = ⟨#[UInt8.ofNat (48 + n)]⟩ := by
  unfold digB; rw [Go.Lib.decDigits, dif_pos h]
theorem digB_big {n : Nat} (h : ¬ n < 10) : digB n = digB (n / 10) ++ ⟨#[UInt8.ofNat (48 + n % 10)]⟩ := by
  refine ba_inj ?_
  unfold digB
  rw [Go.Lib.decDigits, dif_neg h, ByteArray.data_append, Array.toList_append]
theorem impl_FormatInt_eq {n : Nat} (h : n ≤ 9223372036854775807) : impl_FormatInt.f (n : Int) = some (digB n) := by
  unfold impl_FormatInt.f strconv_Itoa.f
  by_cases h1 : n < 100
  · rw [if_pos (by omega), Option.bind_some, Int.toNat_natCast]
    congr 1
    by_cases h2 : n < 10
    · rw [if_pos h2, digB_small h2]
    · rw [if_neg h2, digB_big h2, digB_small (by omega)]
      rfl
  · rw [if_neg (by omega), if_pos (by omega), Option.bind_some]
    unfold digB Go.Lib.itoa
    rw [if_neg (by omega), Int.toNat_natCast]
theorem fig_eq {d : Nat} (h : d < 10) : spec_l01Figure.f (d : Int) = some ((48 + d : Nat) : Int) := by
  unfold spec_l01Figure.f
  rw [if_pos (by omega), w64 (by omega) (by omega)]
  congr 1
  omega
theorem spec_fmt : ∀ (m n : Nat) (acc : ByteArray) (k : Nat), 0 < n → n < 10 ^ m → m ≤ 18 → acc.size + m ≤ 100 → m + 1 ≤ k → spec_FormatInt.l0 k (n : Int) false acc = some (digB n ++ acc)
  | 0, n, acc, k, h0, h1, _, _, _ => by simp at h1; omega
  | m + 1, n, acc, k, h0, h1, hm, ha, hk => by
    obtain ⟨k, rfl⟩ : ∃ q, k = q + 1 := ⟨k - 1, by omega⟩
    have h18 : n < 1000000000000000000 := Nat.lt_of_lt_of_le h1 (Nat.pow_le_pow_right (by decide) hm)
    simp only [spec_FormatInt.l0]
    have e1 : Int.tmod (n : Int) 10 = ((n % 10 : Nat) : Int) := by rw [Int.tmod_eq_emod_of_nonneg (by omega)]; omega
    have e2 : Int.tdiv (n : Int) 10 = ((n / 10 : Nat) : Int) := by rw [Int.tdiv_eq_ediv_of_nonneg (by omega)]; omega
    rw [if_neg (by omega), e1, if_neg (by omega), fig_eq (by omega), Option.bind_some, Option.bind_some, e2, w64 (by omega) (by omega)]
    have e3 : strOfNums [((48 + n % 10 : Nat) : Int)] = ⟨#[UInt8.ofNat (48 + n % 10)]⟩ := by
      unfold strOfNums
      rw [List.map_cons, List.map_nil, Int.toNat_natCast]
    rw [e3]
    have e4 : ByteArray.size ⟨#[UInt8.ofNat (48 + n % 10)]⟩ = 1 := rfl
    rw [if_pos (by rw [e4]; omega)]
    by_cases h2 : n < 10
    · have : n / 10 = 0 := by omega
      rw [this, digB_small h2, show n % 10 = n by omega]
      obtain ⟨k, rfl⟩ : ∃ q, k = q + 1 := ⟨k - 1, by omega⟩
      simp [spec_FormatInt.l0]
    · rw [spec_fmt m (n / 10) _ k (by omega) (by have : 10 ^ (m + 1) = 10 ^ m * 10 := rfl; omega) (by omega) (by rw [ba_size_app, e4]; omega) (by omega), digB_big h2]
      congr 1
      refine ba_inj ?_
      simp [ByteArray.data_append, Array.toList_append, List.append_assoc]
theorem spec_FormatInt_eq {n k : Nat} (h : n < 10 ^ 18) (hk : 20 ≤ k) : spec_FormatInt.f k (n : Int) = some (digB n) := by
  unfold spec_FormatInt.f
  by_cases h0 : n = 0
  · subst h0; rw [digB_small (by omega)]; exact if_pos rfl
  · rw [if_neg (by omega), show decide ((n : Int) < 0) = false from decide_eq_false (by omega), spec_fmt 18 n ⟨#[]⟩ k (by omega) h (by omega) (by decide) (by omega)]
    congr 1
    refine ba_inj ?_
    simp [ByteArray.data_append]
theorem bt_range (s : ByteArray) (i : Int) : 0 ≤ bt s i ∧ bt s i ≤ 255 := by
  unfold bt
  split
  · rename_i h
    have := (s[i.toNat]'h).toNat_lt
    omega
  · omega
theorem spec_pu : ∀ (m i : Nat) (s : ByteArray) (v k : Nat), i + m = s.size → s.size ≤ 10 → v < 10 ^ i → 30 + m ≤ k → ∃ r q, spec_ParseUint.l0 k s (v : Int) (i : Int) = some (r, q)
  | 0, i, s, v, k, hi, hs, hv, hk => by
    obtain ⟨k, rfl⟩ : ∃ q, k = q + 1 := ⟨k - 1, by omega⟩
    simp only [spec_ParseUint.l0]
    rw [if_neg (by omega)]
    have : v < 10 ^ 18 := Nat.lt_of_lt_of_le hv (Nat.pow_le_pow_right (by decide) (by omega))
    rw [spec_FormatInt_eq this (by omega), Option.bind_some]
    split
    · exact ⟨_, _, rfl⟩
    · split <;> exact ⟨_, _, rfl⟩
  | m + 1, i, s, v, k, hi, hs, hv, hk => by
    obtain ⟨k, rfl⟩ : ∃ q, k = q + 1 := ⟨k - 1, by omega⟩
    simp only [spec_ParseUint.l0]
    rw [if_pos (by omega), if_pos (by omega)]
    obtain ⟨b0, b1⟩ := bt_range s (i : Int)
    have hv9 : v < 10 ^ 10 := Nat.lt_of_lt_of_le hv (Nat.pow_le_pow_right (by decide) (by omega))
    have hv10 : v < 10000000000 := hv9
    split
    · exact ⟨_, _, rfl⟩
    · split
      · exact ⟨_, _, rfl⟩
      · rename_i c1 c2
        rw [w64 (x := 10 * (v : Int)) (by omega) (by omega), w64 (x := bt s i) (by omega) (by omega), w64 (x := 10 * (v : Int) + bt s i) (by omega) (by omega), w64 (x := 10 * (v : Int) + bt s i - 48) (by omega) (by omega), w64 (x := (i : Int) + 1) (by omega) (by omega)]
        obtain ⟨d, hd⟩ : ∃ d : Nat, bt s i - 48 = (d : Int) := ⟨(bt s i - 48).toNat, by omega⟩
        have := spec_pu m (i + 1) s (10 * v + d) k (by omega) hs (by have : 10 ^ (i + 1) = 10 ^ i * 10 := rfl; omega) (by omega)
        rw [show 10 * (v : Int) + bt s i - 48 = ((10 * v + d : Nat) : Int) by omega, show (i : Int) + 1 = ((i + 1 : Nat) : Int) by omega]
        exact this
theorem spec_ParseUint_tot (s : ByteArray) {k : Nat} (hk : 50 ≤ k) : ∃ r q, spec_ParseUint.f k s = some (r, q) := by
  unfold spec_ParseUint.f
  split
  · exact ⟨_, _, rfl⟩
  · exact spec_pu s.size 0 s 0 k (by omega) (by omega) (by decide) (by omega)
theorem spec_l40_tot (s : ByteArray) {k : Nat} (hk : 52 ≤ k) : ∃ r, spec_l40Number.f k s = some r := by
  have j : ∀ b, (b = true → 1 ≤ s.size) → ∃ r, spec_l40Number.j0 k s b = some r := fun b hb => by
    obtain ⟨k, rfl⟩ : ∃ q, k = q + 1 := ⟨k - 1, by omega⟩
    simp only [spec_l40Number.j0]
    split
    · rename_i c
      rw [if_pos (by have := hb c; omega)]
      obtain ⟨r, q, e⟩ := spec_ParseUint_tot (s.extract 1 s.size) (k := k) (by omega)
      rw [e, Option.bind_some]; exact ⟨_, rfl⟩
    · obtain ⟨r, q, e⟩ := spec_ParseUint_tot s (k := k) (by omega)
      rw [e, Option.bind_some]; exact ⟨_, rfl⟩
  unfold spec_l40Number.f
  split
  · rw [if_pos (by omega)]; exact j _ fun _ => by omega
  · exact j _ fun h => by cases h
theorem impl_ParseUint_tot {s : ByteArray} (hs : s.size ≤ 281474976710656) : ∃ r q, impl_ParseUint.f s = some (r, q) ∧ (q = true → ∃ n : Nat, r = (n : Int) ∧ s = digB n) := by
  unfold impl_ParseUint.f impl_signed.f
  rw [if_pos hs]
  split
  · rename_i v e
    split
    · exact ⟨_, _, rfl, fun h => by cases h⟩
    · split
      · exact ⟨_, _, rfl, fun h => by cases h⟩
      · rename_i c1 c2
        obtain ⟨n, rfl⟩ : ∃ n : Nat, v = n := ⟨v.toNat, by omega⟩
        rw [impl_FormatInt_eq (by omega), Option.bind_some]
        split
        · rename_i c; exact ⟨_, _, rfl, fun _ => ⟨n, rfl, (toL_inj c).symm⟩⟩
        · exact ⟨_, _, rfl, fun h => by cases h⟩
  · exact ⟨_, _, rfl, fun h => by cases h⟩
end Go.Proofs.YtdjdleldocfpaaaDoor.F
end

section
namespace Go.Proofs.YtdjdleldocfpaaaDoor.F
open Go.RowKit Go.Proofs.YtdjdleldocfpaaaDoorW.PrintWords Go.Proofs.YtdjdleldocfpaaaDoorW.PrintLast Go.Proofs.YtdjdleldocfpaaaDoorW.PrintMore
set_option linter.unusedVariables false
set_option linter.unusedSimpArgs false
theorem split_same : ∀ k x0 x4 x5 x6, impl_SplitFields.l0 k x0 x4 x5 x6 = spec_SplitFields.l0 k x0 x4 x5 x6 ∧ (∀ b, impl_SplitFields.j1 k x0 x4 x5 x6 b = spec_SplitFields.j1 k x0 x4 x5 x6 b) ∧ ∀ b, impl_SplitFields.j2 k x0 x4 x5 x6 b = spec_SplitFields.j2 k x0 x4 x5 x6 b
  | 0, _, _, _, _ => ⟨rfl, fun _ => rfl, fun _ => rfl⟩
  | k + 1, x0, x4, x5, x6 => by
    have ih := split_same k
    refine ⟨?_, fun b => ?_, fun b => ?_⟩
    · simp only [impl_SplitFields.l0, spec_SplitFields.l0, fun a b c d e => (ih a b c d).2.1 e]
    · simp only [impl_SplitFields.j1, spec_SplitFields.j1, fun a b c d e => (ih a b c d).2.2 e]
    · simp only [impl_SplitFields.j2, spec_SplitFields.j2, fun a b c d => (ih a b c d).1, gt_iff_lt]
theorem split_eq (k : Nat) (a0 : ByteArray) : impl_SplitFields.f k a0 = spec_SplitFields.f k a0 := by
  unfold impl_SplitFields.f spec_SplitFields.f
  rw [Option.bind_some]
  split
  · rfl
  · exact (split_same k a0 [] 0 0).1
def Fld (s : ByteArray) : Prop := 1 ≤ s.size ∧ s.size ≤ 600 ∧ (32 : UInt8) ∉ s.data.toList
theorem extract_mem {s : ByteArray} {a b : Nat} (hb : b ≤ s.size) (h : ∀ j, a ≤ j → j < b → bt s (j : Int) ≠ 32) : (32 : UInt8) ∉ (s.extract a b).data.toList := by
  intro hm
  obtain ⟨i, hi, e⟩ := List.mem_iff_getElem.1 hm
  have hl : i < b - a := by
    have h1 : (s.extract a b).size = min b s.size - a := by rw [ByteArray.size_extract]
    have h2 : (s.extract a b).data.toList.length = (s.extract a b).size := rfl
    rw [h2, h1] at hi
    omega
  have e2 : (s.extract a b).data.toList[i]? = some (32 : UInt8) := by rw [List.getElem?_eq_getElem hi, e]
  have e3 : s.data.toList[a + i]? = some (32 : UInt8) := by
    have e7 : (List.take (b - a) (List.drop a s.data.toList))[i]? = some (32 : UInt8) := by simpa [ByteArray.data_extract] using e2
    rw [List.getElem?_take, List.getElem?_drop, if_pos hl] at e7
    exact e7
  refine h (a + i) (by omega) (by omega) ?_
  unfold bt
  have hlt : ((a + i : Nat) : Int).toNat < s.size := by omega
  rw [dif_pos hlt]
  have : s[((a + i : Nat) : Int).toNat]'hlt = 32 := by
    have e4 : s.data[a + i]? = some (32 : UInt8) := by simpa using e3
    have hq : a + i < s.data.size := by
      have : s.data.size = s.size := rfl
      omega
    rw [Array.getElem?_eq_getElem hq] at e4
    have e5 : s.data[a + i] = 32 := Option.some.inj e4
    have e6 : ∀ (j : Nat) (hj : j < s.size), j = a + i → s[j]'hj = 32 := fun j hj e => by subst e; exact e5
    exact e6 _ _ (by omega)
  rw [this]; rfl
theorem split_tot {s : ByteArray} (hs : s.size ≤ 600) : ∀ (m i from_ : Nat) (acc : List ByteArray) (k : Nat), i + m = s.size + 1 → from_ ≤ i → acc.length ≤ i → (∀ f ∈ acc, Fld f) → (∀ j, from_ ≤ j → j < i → j < s.size → bt s (j : Int) ≠ 32) → (i = s.size + 1 → True) → 3 * m + 1 ≤ k →
    ∃ r q, spec_SplitFields.l0 k s acc (from_ : Int) (i : Int) = some (r, q) ∧ (q = true → ∀ f ∈ r, Fld f)
  | 0, i, fr, acc, k, hi, hf, ha, hg, hb, _, hk => by
    obtain ⟨k, rfl⟩ : ∃ q, k = q + 1 := ⟨k - 1, by omega⟩
    simp only [spec_SplitFields.l0]
    rw [if_neg (by omega)]
    split
    · exact ⟨_, _, rfl, fun h => by cases h⟩
    · exact ⟨_, _, rfl, fun _ => hg⟩
  | m + 1, i, fr, acc, k, hi, hf, ha, hg, hb, _, hk => by
    obtain ⟨k, rfl⟩ : ∃ q, k = q + 3 := ⟨k - 3, by omega⟩
    have hin : i ≤ s.size := by omega
    have cut : spec_SplitFields.j2 (k + 1) s acc (fr : Int) (i : Int) false = if fr < i then spec_SplitFields.l0 k s (acc ++ [s.extract fr i]) ((i + 1 : Nat) : Int) ((i + 1 : Nat) : Int) else spec_SplitFields.l0 k s acc ((i + 1 : Nat) : Int) ((i + 1 : Nat) : Int) := by
      simp only [spec_SplitFields.j2]
      rw [if_neg Bool.false_ne_true, w64 (by omega) (by omega)]
      by_cases c : fr < i
      · rw [if_pos (by omega), if_pos (by omega), if_pos (by omega), if_pos (by omega), if_pos (by omega), if_pos c, Int.toNat_natCast, Int.toNat_natCast]; rfl
      · rw [if_neg (by omega), if_neg c]; rfl
    have go2 : (i = s.size ∨ bt s (i : Int) = 32) → ∃ r q, spec_SplitFields.j2 (k + 1) s acc (fr : Int) (i : Int) false = some (r, q) ∧ (q = true → ∀ f ∈ r, Fld f) := fun hi2 => by
      rw [cut]
      by_cases c : fr < i
      · rw [if_pos c]
        refine split_tot hs m (i + 1) (i + 1) _ k (by omega) (by omega) (by simp; omega) (fun f hf => ?_) (fun j h1 h2 _ => by omega) (fun _ => trivial) (by omega)
        rcases List.mem_append.1 hf with hf | hf
        · exact hg f hf
        · obtain rfl := List.mem_singleton.1 hf
          refine ⟨?_, ?_, extract_mem hin fun j h1 h2 => hb j h1 h2 (by omega)⟩ <;> rw [ByteArray.size_extract] <;> omega
      · rw [if_neg c]
        exact split_tot hs m (i + 1) (i + 1) _ k (by omega) (by omega) (by omega) hg (fun j h1 h2 _ => by omega) (fun _ => trivial) (by omega)
    have go1 : ∃ r q, spec_SplitFields.j1 (k + 2) s acc (fr : Int) (i : Int) false = some (r, q) ∧ (q = true → ∀ f ∈ r, Fld f) := by
      simp only [spec_SplitFields.j1]
      rw [if_neg Bool.false_ne_true]
      by_cases c : i < s.size
      · rw [if_pos (by omega), if_pos (by omega)]
        by_cases c2 : bt s (i : Int) = 32
        · rw [c2]; exact go2 (.inr c2)
        · rw [show (bt s (i : Int) != 32) = true from bne_iff_ne.2 c2]
          simp only [spec_SplitFields.j2, if_true]
          rw [w64 (by omega) (by omega)]
          exact split_tot hs m (i + 1) fr acc k (by omega) (by omega) (by omega) hg (fun j h1 h2 h3 => by
            by_cases e : j = i
            · subst e; exact c2
            · exact hb j h1 (by omega) h3) (fun _ => trivial) (by omega)
      · rw [if_neg (by omega)]; exact go2 (.inl (by omega))
    have bad : ∃ r q, spec_SplitFields.j1 (k + 2) s acc (fr : Int) (i : Int) true = some (r, q) ∧ (q = true → ∀ f ∈ r, Fld f) := by
      simp only [spec_SplitFields.j1, if_true]
      exact ⟨_, _, rfl, fun h => by cases h⟩
    show ∃ r q, spec_SplitFields.l0 (k + 2 + 1) s acc (fr : Int) (i : Int) = some (r, q) ∧ _
    simp only [spec_SplitFields.l0]
    rw [if_pos (by omega)]
    by_cases c : i < s.size
    · rw [if_pos (by omega), if_pos (by omega)]
      by_cases c1 : bt s (i : Int) < 32
      · rw [if_pos c1]; exact bad
      · rw [if_neg c1]
        by_cases c2 : bt s (i : Int) > 126
        · rw [decide_eq_true c2]; exact bad
        · rw [decide_eq_false c2]; exact go1
    · rw [if_neg (by omega)]; exact go1
theorem SplitFields_tot (s : ByteArray) {k : Nat} (hk : 2000 ≤ k) : ∃ r q, spec_SplitFields.f k s = some (r, q) ∧ (q = true → ∀ f ∈ r, Fld f) := by
  unfold spec_SplitFields.f
  rw [Option.bind_some]
  split
  · exact ⟨_, _, rfl, fun h => by cases h⟩
  · exact split_tot (by omega) (s.size + 1) 0 0 [] k (by omega) (by omega) (by simp) (fun f hf => by simp at hf) (fun j _ h _ => by omega) (fun _ => trivial) (by omega)
def jn : List (List UInt8) → List UInt8
  | [] => []
  | [f] => f
  | f :: g :: r => f ++ 32 :: jn (g :: r)
theorem cut_one {x y p q : List UInt8} (hx : (32 : UInt8) ∉ x) (hy : (32 : UInt8) ∉ y) (h : x ++ 32 :: p = y ++ 32 :: q) : x = y ∧ p = q := by
  induction x generalizing y with
  | nil =>
    cases y with
    | nil => simpa using h
    | cons c y => simp only [List.nil_append, List.cons_append, List.cons.injEq] at h; exact absurd (by rw [h.1]; simp) hy
  | cons a x ih =>
    cases y with
    | nil => simp only [List.nil_append, List.cons_append, List.cons.injEq] at h; exact absurd (by rw [h.1]; simp) hx
    | cons c y =>
      simp only [List.cons_append, List.cons.injEq] at h
      obtain ⟨h1, h2⟩ := ih (fun h => hx (by simp [h])) (fun h => hy (by simp [h])) h.2
      exact ⟨by rw [h.1, h1], h2⟩
theorem jn_inj : ∀ {a b : List (List UInt8)}, a ≠ [] → b ≠ [] → (∀ x ∈ a, (32 : UInt8) ∉ x) → (∀ x ∈ b, (32 : UInt8) ∉ x) → jn a = jn b → a = b
  | [], _, h, _, _, _, _ => absurd rfl h
  | _ :: _, [], _, h, _, _, _ => absurd rfl h
  | [x], [y], _, _, _, _, h => by simpa [jn] using h
  | [x], y :: z :: r, _, _, hx, _, h => by
    simp only [jn] at h
    exact absurd (by rw [h]; simp) (hx x (by simp))
  | x :: z :: r, [y], _, _, _, hy, h => by
    simp only [jn] at h
    exact absurd (by rw [← h]; simp) (hy y (by simp))
  | x :: x2 :: r, y :: y2 :: q, _, _, hx, hy, h => by
    simp only [jn] at h
    obtain ⟨h1, h2⟩ := cut_one (hx x (by simp)) (hy y (by simp)) h
    rw [h1, jn_inj (a := x2 :: r) (b := y2 :: q) (by simp) (by simp) (fun z hz => hx z (by simp [hz])) (fun z hz => hy z (by simp [hz])) h2]
def wrd (t : Int) : ByteArray := if t = 1 then ⟨#[100, 97, 121]⟩ else if t = 2 then ⟨#[101, 110, 116, 101, 114]⟩ else if t = 3 then ⟨#[119, 97, 108, 107]⟩ else if t = 4 then ⟨#[108, 101, 97, 118, 101]⟩ else if t = 5 then ⟨#[103, 117, 105, 100, 101]⟩ else ⟨#[102, 97, 114]⟩
def dgt (a : Int) : ByteArray := ⟨if a.toNat < 10 then #[UInt8.ofNat (48 + a.toNat)] else #[UInt8.ofNat (48 + a.toNat / 10), UInt8.ofNat (48 + a.toNat % 10)]⟩
def nums (t : Int) : Nat := if t = 3 then 2 else if t = 1 ∨ t = 5 then 1 else 0
def pcs (t a b : Int) : List ByteArray := if t = 3 then [wrd t, dgt a, dgt b] else if t = 1 ∨ t = 5 then [wrd t, dgt a] else [wrd t]
theorem dgt_dec {n : Nat} (h : n < 100) : dgt (n : Int) = digB n := by
  unfold dgt
  rw [Int.toNat_natCast]
  by_cases h2 : n < 10
  · rw [if_pos h2, digB_small h2]
  · rw [if_neg h2, digB_big h2, digB_small (by omega)]
    rfl
def pck (t a b : Int) : Bool := decide (jn ((pcs t a b).map (·.data.toList)) = (atx t a b).data.toList) && (pcs t a b).all fun f => !f.data.toList.contains 32
theorem pck_ok {t a b : Int} (h : aok t a b = true) : pck t a b = true :=
  aok_cases (Q := pck) (by decide +kernel) (by decide +kernel) (by decide +kernel) (by decide +kernel) h
theorem pcs_jn {t a b : Int} (h : aok t a b = true) : jn ((pcs t a b).map (·.data.toList)) = (atx t a b).data.toList ∧ ∀ f ∈ pcs t a b, (32 : UInt8) ∉ f.data.toList := by
  have := pck_ok h
  unfold pck at this
  simp only [Bool.and_eq_true, decide_eq_true_eq, List.all_eq_true, Bool.not_eq_true'] at this
  exact ⟨this.1, fun f hf h => by have := this.2 f hf; simp [h] at this⟩
def same4 (x : Option (Int × Int × Int × Bool)) (t a b : Int) : Bool := match x with
  | some (t', a', b', q) => decide (t' = t) && decide (a' = a) && decide (b' = b) && q
  | none => false
def ick (t a b : Int) : Bool := same4 (impl_ParseAct.l0 60 (pcs t a b) 1) t a b
theorem ick_ok {t a b : Int} (h : aok t a b = true) : ick t a b = true :=
  aok_cases (Q := ick) (by decide +kernel) (by decide +kernel) (by decide +kernel) (by decide +kernel) h
def sck (t a b : Int) : Bool := same4 (spec_ParseAct.j0 90 (pcs t a b) false) t a b
theorem sck_ok {t a b : Int} (h : aok t a b = true) : sck t a b = true :=
  aok_cases (Q := sck) (by decide +kernel) (by decide +kernel) (by decide +kernel) (by decide +kernel) h
theorem same4_eq {x : Option (Int × Int × Int × Bool)} {t a b : Int} (h : same4 x t a b = true) : x = some (t, a, b, true) := by
  unfold same4 at h
  split at h
  · simp only [Bool.and_eq_true, decide_eq_true_eq] at h
    obtain ⟨⟨⟨rfl, rfl⟩, rfl⟩, rfl⟩ := h
    rfl
  · cases h
def IsP (fs : List ByteArray) : Prop := ∃ t a b, aok t a b = true ∧ fs = pcs t a b
theorem impl_yes {t a b : Int} (h : aok t a b = true) {k : Nat} (hk : 60 ≤ k) : impl_ParseAct.l0 k (pcs t a b) 1 = some (t, a, b, true) :=
  LeO_ge (F := fun k => impl_ParseAct.l0 k (pcs t a b) 1) (fun k => (impl_ParseAct.mono_l k).1 _ _) (same4_eq (ick_ok h)) k hk
theorem spec_yes {t a b : Int} (h : aok t a b = true) {k : Nat} (hk : 90 ≤ k) : spec_ParseAct.j0 k (pcs t a b) false = some (t, a, b, true) :=
  LeO_ge (F := fun k => spec_ParseAct.j0 k (pcs t a b) false) (fun k => (spec_ParseAct.mono_l k).1 _ _) (same4_eq (sck_ok h)) k hk
theorem aok_small {t a b : Int} (h : aok t a b = true) : 1 ≤ t ∧ t ≤ 6 ∧ 0 ≤ a ∧ a < 100 ∧ 0 ≤ b ∧ b < 100 ∧ (t ≠ 3 → b = 0) ∧ (t ≠ 3 → t ≠ 1 → t ≠ 5 → a = 0) := by
  unfold aok at h
  split at h
  · have := of_decide_eq_true h; omega
  · split at h
    · have := of_decide_eq_true h; omega
    · split at h
      · have := of_decide_eq_true h; omega
      · split at h
        · have := of_decide_eq_true h; omega
        · cases h
theorem wordOf_eq (t : Int) (h1 : 1 ≤ t) (h2 : t ≤ 6) : impl_wordOf.f t = some (wrd t, (nums t : Int)) := by
  have : t = 1 ∨ t = 2 ∨ t = 3 ∨ t = 4 ∨ t = 5 ∨ t = 6 := by omega
  rcases this with rfl | rfl | rfl | rfl | rfl | rfl <;> rfl
theorem impl_no {fs : List ByteArray} (hF : ∀ f ∈ fs, Fld f) (h0 : fs ≠ []) (hn : ¬ IsP fs) : ∀ (n : Nat) (t : Int) (k : Nat), 1 ≤ t → t + n = 7 → 10 * n + 2 ≤ k → impl_ParseAct.l0 k fs t = some (0, 0, 0, false)
  | 0, t, k, ht, hm, hk => by
    obtain ⟨k, rfl⟩ : ∃ q, k = q + 1 := ⟨k - 1, by omega⟩
    simp only [impl_ParseAct.l0]
    rw [if_neg (by omega)]
  | n + 1, t, k, ht, hm, hk => by
    obtain ⟨k, rfl⟩ : ∃ q, k = q + 1 := ⟨k - 1, by omega⟩
    have nx : ∀ q, 10 * n + 2 ≤ q → impl_ParseAct.l0 q fs (wrap64 (t + 1)) = some (0, 0, 0, false) := fun q hq => by
      rw [w64 (by omega) (by omega)]; exact impl_no hF h0 hn n (t + 1) q (by omega) (by omega) hq
    have hpos : 0 < fs.length := List.length_pos_iff.2 h0
    simp only [impl_ParseAct.l0]
    rw [if_pos (by omega), wordOf_eq t ht (by omega), Option.bind_some, if_pos (by omega)]
    simp only
    split
    rotate_left
    · exact nx k (by omega)
    rename_i cw
    have hw := toL_inj cw
    have hn6 : nums t ≤ 2 := by unfold nums; split <;> first | omega | (split <;> omega)
    rw [w64 (by omega) (by omega)]
    split
    rotate_left
    · exact nx k (by omega)
    rename_i cl
    rw [if_pos (by omega)]
    have fin : ∀ (a b : Int) (q : Nat), 10 * n + 3 ≤ q → (aok t a b = true → IsP fs) → (impl_ActOk.f q t a b).bind (fun u => if u = true then some (t, a, b, true) else impl_ParseAct.l0 q fs (wrap64 (t + 1))) = some (0, 0, 0, false) := fun a b q hq hp => by
      rw [impl_ActOk_eq (by omega), Option.bind_some]
      split
      · rename_i c; exact absurd (hp c) hn
      · exact nx q (by omega)
    obtain ⟨k, rfl⟩ : ∃ q, k = q + 3 := ⟨k - 3, by omega⟩
    have pu : ∀ i, 1 ≤ i → i < fs.length → ∃ r q, impl_ParseUint.f (rdOf ByteArray.empty fs ((i : Nat) : Int)) = some (r, q) ∧ (q = true → ∃ n : Nat, r = (n : Int) ∧ rdOf ByteArray.empty fs ((i : Nat) : Int) = digB n) := fun i _ hi => by
      have hm : rdOf ByteArray.empty fs ((i : Nat) : Int) ∈ fs := by
        unfold rdOf; rw [Int.toNat_natCast, List.getD_eq_getElem?_getD, List.getElem?_eq_getElem hi]; exact List.getElem_mem hi
      exact impl_ParseUint_tot (by have := (hF _ hm).2.1; omega)
    have t6 : t = 1 ∨ t = 2 ∨ t = 3 ∨ t = 4 ∨ t = 5 ∨ t = 6 := by omega
    match fs, h0, hpos, cl, hw, pu with
    | [f0], _, _, cl, hw, pu =>
      have hnum : nums t = 0 := by simp at cl; omega
      simp only [impl_ParseAct.l1, List.drop_succ_cons, List.drop_zero, List.length_nil]
      rw [if_neg (by decide)]
      refine fin 0 0 _ (by omega) fun hp => ⟨t, 0, 0, hp, ?_⟩
      have hw : wrd t = f0 := hw
      rcases t6 with rfl | rfl | rfl | rfl | rfl | rfl <;> first | (exact absurd hnum (by decide)) | (rw [← hw]; rfl)
    | [f0, f1], _, _, cl, hw, pu =>
      have hnum : nums t = 1 := by simp at cl; omega
      obtain ⟨r, q, e, hq⟩ := pu 1 (by omega) (by simp)
      have e' : impl_ParseUint.f f1 = some (r, q) := e
      simp only [impl_ParseAct.l1, List.drop_succ_cons, List.drop_zero, List.length_cons, List.length_nil]
      rw [if_pos (by decide), if_pos (by decide), if_pos (by decide), show rdOf ByteArray.empty [f0, f1] (0 + 1) = f1 from rfl, e', Option.bind_some, if_pos trivial]
      simp only
      cases q with
      | false => rw [if_neg Bool.false_ne_true]
      | true =>
        rw [if_pos rfl, show wrap64 (0 + 1) = 1 from by rw [w64 (by decide) (by decide)]; rfl, if_neg (by decide)]
        obtain ⟨m, rfl, hm2⟩ := hq rfl
        have hm2 : f1 = digB m := hm2
        refine fin (m : Int) 0 _ (by omega) fun hp => ⟨t, m, 0, hp, ?_⟩
        have hw : wrd t = f0 := hw
        have sm := aok_small hp
        rw [hm2, ← dgt_dec (by omega), ← hw]
        rcases t6 with rfl | rfl | rfl | rfl | rfl | rfl <;> first | (exact absurd hnum (by decide)) | rfl
    | [f0, f1, f2], _, _, cl, hw, pu =>
      have hnum : nums t = 2 := by simp at cl; omega
      obtain ⟨r, q, e, hq⟩ := pu 1 (by omega) (by simp)
      have e' : impl_ParseUint.f f1 = some (r, q) := e
      obtain ⟨r2, q2, e2, hq2⟩ := pu 2 (by omega) (by simp)
      have e2' : impl_ParseUint.f f2 = some (r2, q2) := e2
      simp only [impl_ParseAct.l1, List.drop_succ_cons, List.drop_zero, List.length_cons, List.length_nil]
      rw [if_pos (by decide), if_pos (by decide), if_pos (by decide), show rdOf ByteArray.empty [f0, f1, f2] (0 + 1) = f1 from rfl, e', Option.bind_some, if_pos trivial]
      simp only
      cases q with
      | false => rw [if_neg Bool.false_ne_true]
      | true =>
        rw [if_pos rfl, show wrap64 (0 + 1) = 1 from by rw [w64 (by decide) (by decide)]; rfl, if_pos (by decide), if_pos (by decide), if_pos (by decide), show rdOf ByteArray.empty [f0, f1, f2] (1 + 1) = f2 from rfl, e2', Option.bind_some, if_neg (by decide), if_pos rfl]
        simp only
        cases q2 with
        | false => rw [if_neg Bool.false_ne_true]
        | true =>
          rw [if_pos rfl, show wrap64 (1 + 1) = 2 from by rw [w64 (by decide) (by decide)]; rfl, if_neg (by decide)]
          obtain ⟨m, rfl, hm2⟩ := hq rfl
          obtain ⟨m', rfl, hm3⟩ := hq2 rfl
          have hm2 : f1 = digB m := hm2
          have hm3 : f2 = digB m' := hm3
          refine fin (m : Int) (m' : Int) _ (by omega) fun hp => ⟨t, m, m', hp, ?_⟩
          have hw : wrd t = f0 := hw
          have sm := aok_small hp
          rw [hm2, hm3, ← dgt_dec (by omega), ← dgt_dec (n := m') (by omega), ← hw]
          rcases t6 with rfl | rfl | rfl | rfl | rfl | rfl <;> first | (exact absurd hnum (by decide)) | rfl
    | _ :: _ :: _ :: _ :: _, _, _, cl, _, _ => simp at cl; omega
theorem spec_no1 {s : ByteArray} {n0 n1 : Int} {r : List Int} (h : ∀ t, aok t n0 n1 = true → atx t n0 n1 ≠ s) : ∀ (n : Nat) (t : Int) (k : Nat), 1 ≤ t → t + n = 7 → 30 + n ≤ k → spec_ParseAct.l1 k s (n0 :: n1 :: r) t = some (0, 0, 0, false)
  | 0, t, k, ht, hm, hk => by
    obtain ⟨k, rfl⟩ : ∃ q, k = q + 1 := ⟨k - 1, by omega⟩
    simp only [spec_ParseAct.l1]
    rw [if_neg (by omega)]
  | n + 1, t, k, ht, hm, hk => by
    obtain ⟨k, rfl⟩ : ∃ q, k = q + 1 := ⟨k - 1, by omega⟩
    have nx := spec_no1 (r := r) h n (t + 1) k (by omega) (by omega) (by omega)
    simp only [spec_ParseAct.l1]
    rw [if_pos (by omega), if_pos (by simp; omega), if_pos (by simp; omega), show rd (n0 :: n1 :: r) 0 = n0 from rfl, show rd (n0 :: n1 :: r) 1 = n1 from rfl, w64 (by omega) (by omega), nx]
    cases ha : aok t n0 n1 with
    | false => rw [(FormatAct_no ha (by omega)).2, Option.bind_some, if_neg Bool.false_ne_true]
    | true =>
      obtain ⟨_, f2, _⟩ := FormatAct_ok ha (k := k) (by omega)
      rw [f2, Option.bind_some, if_pos rfl, if_neg fun e => h t ha (toL_inj e)]
theorem spec_no {fs : List ByteArray} (hF : ∀ f ∈ fs, Fld f) (h0 : fs ≠ []) (h3 : fs.length ≤ 3) (hn : ¬ IsP fs) {k : Nat} (hk : 90 ≤ k) : spec_ParseAct.j0 k fs false = some (0, 0, 0, false) := by
  have key : ∀ (s : ByteArray) (n0 n1 : Int) (r : List Int) (q : Nat), 60 ≤ q → s.data.toList = jn (fs.map (·.data.toList)) → spec_ParseAct.l1 q s (n0 :: n1 :: r) 1 = some (0, 0, 0, false) := fun s n0 n1 r q hq hs => by
    refine spec_no1 (fun t ha e => hn ⟨t, n0, n1, ha, ?_⟩) 6 1 q (by omega) (by omega) (by omega)
    obtain ⟨p1, p2⟩ := pcs_jn ha
    have hne : pcs t n0 n1 ≠ [] := by unfold pcs; split <;> first | (simp; done) | (split <;> simp)
    have := jn_inj (a := fs.map (·.data.toList)) (b := (pcs t n0 n1).map (·.data.toList)) (by simpa using h0) (by simpa using hne) (fun x hx => by
      obtain ⟨f, hf, rfl⟩ := List.mem_map.1 hx
      exact (hF f hf).2.2) (fun x hx => by
      obtain ⟨f, hf, rfl⟩ := List.mem_map.1 hx
      exact p2 f hf) (by rw [← hs, p1, e])
    exact (List.map_inj_right (fun x y h => ba_inj h)).1 this
  obtain ⟨k, rfl⟩ : ∃ q, k = q + 5 := ⟨k - 5, by omega⟩
  have sp : ByteArray.size ⟨#[32]⟩ = 1 := rfl
  match fs, h0, h3, hF, key with
  | [f0], _, _, hF, key =>
    simp only [spec_ParseAct.j0, spec_ParseAct.l0, List.length_cons, List.length_nil]
    rw [if_neg Bool.false_ne_true, if_pos (by decide), if_neg (by decide), Option.bind_some, if_pos (by decide)]
    exact key _ 0 0 [] _ (by omega) rfl
  | [f0, f1], _, _, hF, key =>
    have s0 := (hF f0 (by simp)).2.1; have s1 := (hF f1 (by simp)).2.1
    obtain ⟨n, e⟩ := spec_l40_tot f1 (k := k + 3) (by omega)
    simp only [spec_ParseAct.j0, spec_ParseAct.l0, List.length_cons, List.length_nil]
    rw [if_neg Bool.false_ne_true, if_pos (by decide), if_pos (by decide), show rdOf ByteArray.empty [f0, f1] 0 = f0 from rfl, show rdOf ByteArray.empty [f0, f1] 1 = f1 from rfl, if_pos (by omega), if_pos (by decide), if_pos (by rw [ba_size_app, sp]; omega), e, Option.bind_some, if_pos (by simp),
      show wrap64 (1 + 1) = 2 from by rw [w64 (by decide) (by decide)]; rfl, if_neg (by decide), Option.bind_some, if_pos (by simp)]
    exact key _ n 0 [0] _ (by omega) (by simp [jn, ByteArray.data_append])
  | [f0, f1, f2], _, _, hF, key =>
    have s0 := (hF f0 (by simp)).2.1; have s1 := (hF f1 (by simp)).2.1; have s2 := (hF f2 (by simp)).2.1
    obtain ⟨n, e⟩ := spec_l40_tot f1 (k := k + 3) (by omega)
    obtain ⟨n2, e2⟩ := spec_l40_tot f2 (k := k + 2) (by omega)
    simp only [spec_ParseAct.j0, spec_ParseAct.l0, List.length_cons, List.length_nil]
    rw [if_neg Bool.false_ne_true, if_pos (by decide), if_pos (by decide), show rdOf ByteArray.empty [f0, f1, f2] 0 = f0 from rfl, show rdOf ByteArray.empty [f0, f1, f2] 1 = f1 from rfl, if_pos (by omega), if_pos (by decide), if_pos (by rw [ba_size_app, sp]; omega), e, Option.bind_some, if_pos (by simp),
      show wrap64 (1 + 1) = 2 from by rw [w64 (by decide) (by decide)]; rfl, if_pos (by decide), show rdOf ByteArray.empty [f0, f1, f2] 2 = f2 from rfl, if_pos (by rw [ba_size_app, ba_size_app, sp]; omega), if_pos (by decide), if_pos (by rw [ba_size_app, ba_size_app, ba_size_app, sp]; omega), e2, Option.bind_some, if_pos (by simp),
      show wrap64 (2 + 1) = 3 from by rw [w64 (by decide) (by decide)]; rfl, if_neg (by decide), Option.bind_some, if_pos (by simp)]
    exact key _ n n2 [0, 0] _ (by omega) (by simp [jn, ByteArray.data_append])
  | _ :: _ :: _ :: _ :: _, _, h3, _, _ => simp at h3
theorem pcs_len (t a b : Int) : 1 ≤ (pcs t a b).length ∧ (pcs t a b).length ≤ 3 := by
  unfold pcs; split <;> first | (simp; done) | (split <;> simp)
theorem ParseAct_eq (s : ByteArray) {k : Nat} (hk : 2000 ≤ k) : ∃ t a b q, impl_ParseAct.f k s = some (t, a, b, q) ∧ spec_ParseAct.f k s = some (t, a, b, q) := by
  obtain ⟨fs, q, e, hF⟩ := SplitFields_tot s (k := k) hk
  unfold impl_ParseAct.f spec_ParseAct.f
  rw [split_eq, e, Option.bind_some, Option.bind_some]
  obtain ⟨k, rfl⟩ : ∃ q, k = q + 1 := ⟨k - 1, by omega⟩
  have none_ : spec_ParseAct.j0 (k + 1) fs true = some (0, 0, 0, false) := by simp only [spec_ParseAct.j0, if_true]
  cases q with
  | false =>
    rw [if_neg Bool.false_ne_true, if_neg Bool.false_ne_true]
    dsimp only
    rw [none_]
    exact ⟨_, _, _, _, rfl, rfl⟩
  | true =>
    have hF := hF rfl
    rw [if_pos rfl, if_pos rfl, spec_l01In_eqA, Option.bind_some]
    dsimp only
    by_cases h0 : fs = []
    · subst h0
      rw [if_pos (show (([] : List ByteArray).length : Int) = 0 from rfl), show (!decide ((1 : Int) ≤ (([] : List ByteArray).length : Int) ∧ (([] : List ByteArray).length : Int) ≤ 3)) = true from by simp, none_]
      exact ⟨_, _, _, _, rfl, rfl⟩
    · have hpos := List.length_pos_iff.2 h0
      rw [if_neg (by omega)]
      by_cases hp : IsP fs
      · obtain ⟨t, a, b, ha, rfl⟩ := hp
        have hl := pcs_len t a b
        rw [impl_yes ha (by omega), show (!decide ((1 : Int) ≤ ((pcs t a b).length : Int) ∧ ((pcs t a b).length : Int) ≤ 3)) = false from by simp; omega, spec_yes ha (by omega)]
        exact ⟨_, _, _, _, rfl, rfl⟩
      · rw [impl_no hF h0 hp 6 1 (k + 1) (by omega) (by omega) (by omega)]
        by_cases h3 : fs.length ≤ 3
        · rw [show (!decide ((1 : Int) ≤ (fs.length : Int) ∧ (fs.length : Int) ≤ 3)) = false from by simp; omega, spec_no hF h0 h3 hp (by omega)]
          exact ⟨_, _, _, _, rfl, rfl⟩
        · rw [show (!decide ((1 : Int) ≤ (fs.length : Int) ∧ (fs.length : Int) ≤ 3)) = true from by simp; omega, none_]
          exact ⟨_, _, _, _, rfl, rfl⟩
end Go.Proofs.YtdjdleldocfpaaaDoor.F
end

section
namespace Go.Proofs.YtdjdleldocfpaaaDoor.F
open Go.RowKit Go.Proofs.YtdjdleldocfpaaaDoorW.PrintWords Go.Proofs.YtdjdleldocfpaaaDoorW.PrintLast Go.Proofs.YtdjdleldocfpaaaDoorW.PrintMore
set_option linter.unusedVariables false
set_option linter.unusedSimpArgs false
theorem FnExactParseAct_pure : ∀ (a0 : ByteArray), ((a0).size ≤ 9223372036854775807) → ∃ k, laws_FnExactParseAct.f k a0 = some true := by
  intro s _
  refine ⟨2000, ?_⟩
  unfold laws_FnExactParseAct.f
  split
  · rfl
  · obtain ⟨t, a, b, q, e1, e2⟩ := ParseAct_eq s (k := 2000) (by omega)
    rw [e2, Option.bind_some, e1, Option.bind_some]
    simp [laws_eqAct.f]
end Go.Proofs.YtdjdleldocfpaaaDoor.F
end
