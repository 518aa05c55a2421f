/- What functions of the given program come to, by the abstract machine: one text of a proof. -/
import Derived.Test.YtkbfjfookfmobaaDoorDD5
set_option linter.unusedVariables false
set_option linter.unusedSimpArgs false
set_option maxRecDepth 8000
set_option maxHeartbeats 4000000
namespace Go.Abs
open Go.Proofs Go.Proofs.Tryd
/-! ### the document's sum -/
/-! width 32 -/
def FO36_32 (gs : Nat) (cs : Option Nat) (i : Nat) : Fm := [(2, .var 5 0), (7, .slice 1 8 gs 0 8 cs), (11, .slice 1 9 (4 * i) 0 (4 * i) none), (12, .int .i64 i)]
def TO36_32 (zs kk xs ss : List Int) (g4 g6 g7 gs : Nat) (o4 o6 o7 : Bool) (ys : List Int) (g9 : Nat) : Tab := [some ⟨.ints .i64 [7, 18, 3], 0, false, 3⟩, some ⟨.ints .i64 [17, 19, 10], 0, false, 3⟩, some ⟨.ints .i64 [2, 13, 22], 0, false, 3⟩, some ⟨.ints .i64 [6, 11, 25], 0, false, 3⟩, some ⟨.ints .u8 zs, g4, o4, 5⟩, some ⟨.agg [.int .i64 32, .int .i64 64, .int .i64 64, .slice 1 0 0 0 3 (some 3), .slice 1 1 0 0 3 (some 3), .slice 1 2 0 0 3 (some 3), .slice 1 3 0 0 3 (some 3)], 0, true, 54⟩, some ⟨.ints .u64 kk, g6, o6, 56⟩, some ⟨.ints .u8 xs, g7, o7, 5⟩, some ⟨.ints .u64 ss, gs, true, 56⟩, some ⟨.ints .u8 ys, g9, true, 5⟩]
theorem loopO36_32 {zs kk xs ss : List Int} {g4 g6 g7 gs : Nat} {o4 o6 o7 : Bool} {cs : Option Nat} (hs : ss.length = 8) :
    To eW32 77 9 (.block 4 (.loop (roundOf 4 f36))) (FO36_32 gs cs 0) (TO36_32 zs kk xs ss g4 g6 g7 gs o4 o6 o7 (bysLaw 4 ss 0) 0) .normal [(11, .slice 1 9 32 0 32 none)] (TO36_32 zs kk xs ss g4 g6 g7 gs o4 o6 o7 (bysLaw 4 ss 8) 32) := by
  have hO : OrcOk eW32 77 ⟨10, [(6, blkS 10 [2,7,11,12,13] gC36_32)]⟩ (roundOf 4 f36) := OrcOk.cons (fn := f36) gC36_32_ok (by kernel_rfl) OrcOk.nil
  refine To.rounds (FO36_32 gs cs) (fun i => TO36_32 zs kk xs ss g4 g6 g7 gs o4 o6 o7 (bysLaw 4 ss i) (4 * i)) 8 (fun i hi => ?_)
    (To.of (o := P36_32 (8 : Nat) 32 cs (bysLaw 4 ss 8) 32 zs kk xs ss g4 g6 g7 gs o4 o6 o7) eW32_ok hmS (by decide) hO rfl (P36_32_ok (by simp [allP, Con.h])) P36_32_ex P36_32_fm P36_32_tab)
  have hl := bys_len 4 ss i
  refine To.of (o := O36_32 i (4 * i) cs (bysLaw 4 ss i) (4 * i) zs kk xs ss g4 g6 g7 gs o4 o6 o7) eW32_ok hmS (by decide) hO rfl (O36_32_ok ?_) O36_32_ex (by rw [O36_32_fm]; rfl) ?_
  · simp only [allP, Con.h, hl, hs, decide_eq_true_eq, eq_self, true_and, and_true]
    omega
  · rw [O36_32_tab, Int.toNat_natCast]
    rfl
noncomputable def gO36_32c (vs : List AVal) (T : Tab) (zs : List Int) (kk : List Int) (xs : List Int) (ss : List Int) (g4 : Nat) (g6 : Nat) (g7 : Nat) (gs : Nat) (o4 : Bool) (o6 : Bool) (o7 : Bool) (cs : Option Nat) : Out := ⟨[.tab T [some ⟨.ints .i64 [7, 18, 3], 0, false, 3⟩, some ⟨.ints .i64 [17, 19, 10], 0, false, 3⟩, some ⟨.ints .i64 [2, 13, 22], 0, false, 3⟩, some ⟨.ints .i64 [6, 11, 25], 0, false, 3⟩, some ⟨.ints .u8 zs, g4, o4, 5⟩, some ⟨.agg [.int .i64 32, .int .i64 64, .int .i64 64, .slice 1 0 0 0 3 (some 3), .slice 1 1 0 0 3 (some 3), .slice 1 2 0 0 3 (some 3), .slice 1 3 0 0 3 (some 3)], 0, true, 54⟩, some ⟨.ints .u64 kk, g6, o6, 56⟩, some ⟨.ints .u8 xs, g7, o7, 5⟩, some ⟨.ints .u64 ss, gs, true, 56⟩], .val (.tuple vs) (.tuple [.var 5 0, .slice 1 8 gs 0 8 cs, .nilSlice, .int .i64 0]), .eqN ss.length 8], .normal, [(11, .slice 1 9 32 0 32 none)], [some ⟨.ints .i64 [7, 18, 3], 0, false, 3⟩, some ⟨.ints .i64 [17, 19, 10], 0, false, 3⟩, some ⟨.ints .i64 [2, 13, 22], 0, false, 3⟩, some ⟨.ints .i64 [6, 11, 25], 0, false, 3⟩, some ⟨.ints .u8 zs, g4, o4, 5⟩, some ⟨.agg [.int .i64 32, .int .i64 64, .int .i64 64, .slice 1 0 0 0 3 (some 3), .slice 1 1 0 0 3 (some 3), .slice 1 2 0 0 3 (some 3), .slice 1 3 0 0 3 (some 3)], 0, true, 54⟩, some ⟨.ints .u64 kk, g6, o6, 56⟩, some ⟨.ints .u8 xs, g7, o7, 5⟩, some ⟨.ints .u64 ss, gs, true, 56⟩, some ⟨.ints .u8 (bysLaw 4 ss 8), 32, true, 5⟩], []⟩
theorem gO36_32c_ok {vs : List AVal} {T : Tab} {zs : List Int} {kk : List Int} {xs : List Int} {ss : List Int} {g4 : Nat} {g6 : Nat} {g7 : Nat} {gs : Nat} {o4 : Bool} {o6 : Bool} {o7 : Bool} {cs : Option Nat} (h : Ok (gO36_32c vs T zs kk xs ss g4 g6 g7 gs o4 o6 o7 cs)) : To eW32 77 9 (.block 4 (.loop (roundOf 4 f36))) (zipF [2,7,11,12] vs) T (gO36_32c vs T zs kk xs ss g4 g6 g7 gs o4 o6 o7 cs).ex (gO36_32c vs T zs kk xs ss g4 g6 g7 gs o4 o6 o7 cs).fm (gO36_32c vs T zs kk xs ss g4 g6 g7 gs o4 o6 o7 cs).tab := by
  obtain ⟨hT, hv, h1, _⟩ := h.h
  simp only [Con.h] at hT hv h1
  injection hv with hv
  subst hT hv
  refine AWp.nilTo (FO36_32 gs cs 0) .u8 5 (fun t v hv => ?_) (loopO36_32 h1)
  simp only [FO36_32, look, zipF] at hv ⊢
  repeat' split at hv
  all_goals first | cases hv | skip
  all_goals first | rfl | simp_all [look]
noncomputable def gO36_32 : List AVal → Tab → Out := fun vs T => gO36_32c vs T (xsAt T 4) (xsAt T 6) (xsAt T 7) (xsAt T 8) (gAt T 4) (gAt T 6) (gAt T 7) (gAt T 8) (owAt T 4) (owAt T 6) (owAt T 7) (capOf (vAt vs 1))
theorem gO36_32_ok : BlkOk eW32 f36 4 (.loop (roundOf 4 f36)) (blkS 9 [2,7,11,12] gO36_32) := blkS_ok fun vs T h => gO36_32c_ok h
noncomputable def orc36_32 : OrcL := [(2, blkGC 5 [0,1,2,3,4,5,6,17,9] [2,5,7,9,10] gA36_32), (4, blkS 9 [2,7,11,12] gO36_32)]
theorem orc36_32_ok : FnOrc eW32 f36 orc36_32 := FnOrc.cons gA36_32_ok (by kernel_rfl) (FnOrc.cons gO36_32_ok (by kernel_rfl) FnOrc.nil)
noncomputable def R36_32 (zs : List Int) (g4 off n : Nat) (cp : Option Nat) : Res := resG 5 [0, 1, 2, 3, 4, 9] (runF eW32 f36 orc36_32 1000 [.agg [.int .i64 32, .int .i64 64, .int .i64 64, .slice 1 0 0 0 3 (some 3), .slice 1 1 0 0 3 (some 3), .slice 1 2 0 0 3 (some 3), .slice 1 3 0 0 3 (some 3)], .slice 1 4 g4 off n cp] [some ⟨.ints .i64 [7, 18, 3], 0, false, 3⟩, some ⟨.ints .i64 [17, 19, 10], 0, false, 3⟩, some ⟨.ints .i64 [2, 13, 22], 0, false, 3⟩, some ⟨.ints .i64 [6, 11, 25], 0, false, 3⟩, some ⟨.ints .u8 zs, g4, false, 5⟩] [])
theorem R36_32_ok {zs : List Int} {g4 off n : Nat} {cp : Option Nat} (h : allP [.eqN g4 g4, .leN (off + n) zs.length, .leN n 140737488355000, .eqN (n + 1 + padLaw 64 (n + 1) + 8) (fillLaw 64 (subLaw zs off n)).length, .p (isCubesLaw [4794697086780616226, 8158064640168781261, 13096744586834688815, 16840607885511220156, 4131703408338449720, 6480981068601479193, 10538285296894168987,
 12329834152419229976, 15566598209576043074, 1334009975649890238, 2608012711638119052, 6128411473006802146, 8268148722764581231, 9286055187155687089, 11230858885718282805, 13951009754708518548, 16472876342353939154, 17275323862435702243, 1135362057144423861, 2597628984639134821, 3308224258029322869, 5365058923640841347, 6679025012923562964, 8573033837759648693, 10970295158949994411,
 12119686244451234320, 12683024718118986047, 13788192230050041572, 14330467153632333762, 15395433587784984357, 489312712824947311, 1452737877330783856, 2861767655752347644, 3322285676063803686, 5560940570517711597, 5996557281743188959, 7280758554555802590, 8532644243296465576, 9350256976987008742, 10552545826968843579, 11727347734174303076, 12113106623233404929, 14000437183269869457,
 14369950271660146224, 15101387698204529176, 15463397548674623760, 17586052441742319658, 1182934255886127544, 1847814050463011016, 2177327727835720531, 2830643537854262169, 3796741975233480872, 4115178125766777443, 5681478168544905931, 6601373596472566643, 7507060721942968483, 8399075790359081724, 8693463985226723168, 9568029438360202098, 10144078919501101548, 10430055236837252648,
 11840083180663258601, 13761210420658862357, 14299343276471374635, 14566680578165727644, 15097957966210449927, 16922976911328602910, 17689382322260857208, 500013540394364858, 748580250866718886, 1242879168328830382, 1977374033974150939, 2944078676154940804, 3659926193048069267, 4368137639120453308, 4836135668995329356, 5532061633213252278, 6448918945643986474, 6902733635092675308,
 7801388544844847127]), .eqN ((fillLaw 64 (subLaw zs off n)).length % 64) 0, .leN 1 (fillLaw 64 (subLaw zs off n)).length, .leN (fillLaw 64 (subLaw zs off n)).length 140737488355328, .p (BsLaw (fillLaw 64 (subLaw zs off n))), .p (WdsLaw 32 [1779033703, 3144134277, 1013904242, 2773480762, 1359893119, 2600822924, 528734635, 1541459225]), .eqN (stl32Law (fillLaw 64 (subLaw zs off n)) [1779033703,
 3144134277, 1013904242, 2773480762, 1359893119, 2600822924, 528734635, 1541459225]).length 8]) : OkR (R36_32 zs g4 off n cp) := OkR.dem (fl := bitsF 392 315254376611790546380053958235182707860228557227515329200735770823137957719279333810317123054630908859391962330955775) (by kernel_rfl) (by kernel_rfl) (by kernel_rfl) h
theorem R36_32_val {zs : List Int} {g4 off n : Nat} {cp : Option Nat} : (R36_32 zs g4 off n cp).val = .slice 1 5 32 0 32 none := by kernel_rfl
theorem R36_32_tab {zs : List Int} {g4 off n : Nat} {cp : Option Nat} : (R36_32 zs g4 off n cp).tab = [some ⟨.ints .i64 [7, 18, 3], 0, false, 3⟩, some ⟨.ints .i64 [17, 19, 10], 0, false, 3⟩, some ⟨.ints .i64 [2, 13, 22], 0, false, 3⟩, some ⟨.ints .i64 [6, 11, 25], 0, false, 3⟩, some ⟨.ints .u8 zs, g4, false, 5⟩, some ⟨.ints .u8 (bysLaw 4 (stl32Law (fillLaw 64 (subLaw zs off n)) [1779033703,
 3144134277, 1013904242, 2773480762, 1359893119, 2600822924, 528734635, 1541459225]) 8), 32, true, 5⟩] := by kernel_rfl
/-! width 64 -/
def FO36_64 (gs : Nat) (cs : Option Nat) (i : Nat) : Fm := [(2, .var 5 0), (7, .slice 1 8 gs 0 8 cs), (11, .slice 1 9 (8 * i) 0 (8 * i) none), (12, .int .i64 i)]
def TO36_64 (zs kk xs ss : List Int) (g4 g6 g7 gs : Nat) (o4 o6 o7 : Bool) (ys : List Int) (g9 : Nat) : Tab := [some ⟨.ints .i64 [1, 8, 7], 0, false, 3⟩, some ⟨.ints .i64 [19, 61, 6], 0, false, 3⟩, some ⟨.ints .i64 [28, 34, 39], 0, false, 3⟩, some ⟨.ints .i64 [14, 18, 41], 0, false, 3⟩, some ⟨.ints .u8 zs, g4, o4, 5⟩, some ⟨.agg [.int .i64 64, .int .i64 128, .int .i64 80, .slice 1 0 0 0 3 (some 3), .slice 1 1 0 0 3 (some 3), .slice 1 2 0 0 3 (some 3), .slice 1 3 0 0 3 (some 3)], 0, true, 54⟩, some ⟨.ints .u64 kk, g6, o6, 56⟩, some ⟨.ints .u8 xs, g7, o7, 5⟩, some ⟨.ints .u64 ss, gs, true, 56⟩, some ⟨.ints .u8 ys, g9, true, 5⟩]
theorem loopO36_64 {zs kk xs ss : List Int} {g4 g6 g7 gs : Nat} {o4 o6 o7 : Bool} {cs : Option Nat} (hs : ss.length = 8) :
    To eW64 77 9 (.block 4 (.loop (roundOf 4 f36))) (FO36_64 gs cs 0) (TO36_64 zs kk xs ss g4 g6 g7 gs o4 o6 o7 (bysLaw 8 ss 0) 0) .normal [(11, .slice 1 9 64 0 64 none)] (TO36_64 zs kk xs ss g4 g6 g7 gs o4 o6 o7 (bysLaw 8 ss 8) 64) := by
  have hO : OrcOk eW64 77 ⟨10, [(6, blkS 10 [2,7,11,12,13] gC36_64)]⟩ (roundOf 4 f36) := OrcOk.cons (fn := f36) gC36_64_ok (by kernel_rfl) OrcOk.nil
  refine To.rounds (FO36_64 gs cs) (fun i => TO36_64 zs kk xs ss g4 g6 g7 gs o4 o6 o7 (bysLaw 8 ss i) (8 * i)) 8 (fun i hi => ?_)
    (To.of (o := P36_64 (8 : Nat) 64 cs (bysLaw 8 ss 8) 64 zs kk xs ss g4 g6 g7 gs o4 o6 o7) eW64_ok hmS (by decide) hO rfl (P36_64_ok (by simp [allP, Con.h])) P36_64_ex P36_64_fm P36_64_tab)
  have hl := bys_len 8 ss i
  refine To.of (o := O36_64 i (8 * i) cs (bysLaw 8 ss i) (8 * i) zs kk xs ss g4 g6 g7 gs o4 o6 o7) eW64_ok hmS (by decide) hO rfl (O36_64_ok ?_) O36_64_ex (by rw [O36_64_fm]; rfl) ?_
  · simp only [allP, Con.h, hl, hs, decide_eq_true_eq, eq_self, true_and, and_true]
    omega
  · rw [O36_64_tab, Int.toNat_natCast]
    rfl
noncomputable def gO36_64c (vs : List AVal) (T : Tab) (zs : List Int) (kk : List Int) (xs : List Int) (ss : List Int) (g4 : Nat) (g6 : Nat) (g7 : Nat) (gs : Nat) (o4 : Bool) (o6 : Bool) (o7 : Bool) (cs : Option Nat) : Out := ⟨[.tab T [some ⟨.ints .i64 [1, 8, 7], 0, false, 3⟩, some ⟨.ints .i64 [19, 61, 6], 0, false, 3⟩, some ⟨.ints .i64 [28, 34, 39], 0, false, 3⟩, some ⟨.ints .i64 [14, 18, 41], 0, false, 3⟩, some ⟨.ints .u8 zs, g4, o4, 5⟩, some ⟨.agg [.int .i64 64, .int .i64 128, .int .i64 80, .slice 1 0 0 0 3 (some 3), .slice 1 1 0 0 3 (some 3), .slice 1 2 0 0 3 (some 3), .slice 1 3 0 0 3 (some 3)], 0, true, 54⟩, some ⟨.ints .u64 kk, g6, o6, 56⟩, some ⟨.ints .u8 xs, g7, o7, 5⟩, some ⟨.ints .u64 ss, gs, true, 56⟩], .val (.tuple vs) (.tuple [.var 5 0, .slice 1 8 gs 0 8 cs, .nilSlice, .int .i64 0]), .eqN ss.length 8], .normal, [(11, .slice 1 9 64 0 64 none)], [some ⟨.ints .i64 [1, 8, 7], 0, false, 3⟩, some ⟨.ints .i64 [19, 61, 6], 0, false, 3⟩, some ⟨.ints .i64 [28, 34, 39], 0, false, 3⟩, some ⟨.ints .i64 [14, 18, 41], 0, false, 3⟩, some ⟨.ints .u8 zs, g4, o4, 5⟩, some ⟨.agg [.int .i64 64, .int .i64 128, .int .i64 80, .slice 1 0 0 0 3 (some 3), .slice 1 1 0 0 3 (some 3), .slice 1 2 0 0 3 (some 3), .slice 1 3 0 0 3 (some 3)], 0, true, 54⟩, some ⟨.ints .u64 kk, g6, o6, 56⟩, some ⟨.ints .u8 xs, g7, o7, 5⟩, some ⟨.ints .u64 ss, gs, true, 56⟩, some ⟨.ints .u8 (bysLaw 8 ss 8), 64, true, 5⟩], []⟩
theorem gO36_64c_ok {vs : List AVal} {T : Tab} {zs : List Int} {kk : List Int} {xs : List Int} {ss : List Int} {g4 : Nat} {g6 : Nat} {g7 : Nat} {gs : Nat} {o4 : Bool} {o6 : Bool} {o7 : Bool} {cs : Option Nat} (h : Ok (gO36_64c vs T zs kk xs ss g4 g6 g7 gs o4 o6 o7 cs)) : To eW64 77 9 (.block 4 (.loop (roundOf 4 f36))) (zipF [2,7,11,12] vs) T (gO36_64c vs T zs kk xs ss g4 g6 g7 gs o4 o6 o7 cs).ex (gO36_64c vs T zs kk xs ss g4 g6 g7 gs o4 o6 o7 cs).fm (gO36_64c vs T zs kk xs ss g4 g6 g7 gs o4 o6 o7 cs).tab := by
  obtain ⟨hT, hv, h1, _⟩ := h.h
  simp only [Con.h] at hT hv h1
  injection hv with hv
  subst hT hv
  refine AWp.nilTo (FO36_64 gs cs 0) .u8 5 (fun t v hv => ?_) (loopO36_64 h1)
  simp only [FO36_64, look, zipF] at hv ⊢
  repeat' split at hv
  all_goals first | cases hv | skip
  all_goals first | rfl | simp_all [look]
noncomputable def gO36_64 : List AVal → Tab → Out := fun vs T => gO36_64c vs T (xsAt T 4) (xsAt T 6) (xsAt T 7) (xsAt T 8) (gAt T 4) (gAt T 6) (gAt T 7) (gAt T 8) (owAt T 4) (owAt T 6) (owAt T 7) (capOf (vAt vs 1))
theorem gO36_64_ok : BlkOk eW64 f36 4 (.loop (roundOf 4 f36)) (blkS 9 [2,7,11,12] gO36_64) := blkS_ok fun vs T h => gO36_64c_ok h
noncomputable def orc36_64 : OrcL := [(2, blkGC 5 [0,1,2,3,4,5,6,17,9] [2,5,7,9,10] gA36_64), (4, blkS 9 [2,7,11,12] gO36_64)]
theorem orc36_64_ok : FnOrc eW64 f36 orc36_64 := FnOrc.cons gA36_64_ok (by kernel_rfl) (FnOrc.cons gO36_64_ok (by kernel_rfl) FnOrc.nil)
noncomputable def R36_64 (zs : List Int) (g4 off n : Nat) (cp : Option Nat) : Res := resG 5 [0, 1, 2, 3, 4, 9] (runF eW64 f36 orc36_64 1000 [.agg [.int .i64 64, .int .i64 128, .int .i64 80, .slice 1 0 0 0 3 (some 3), .slice 1 1 0 0 3 (some 3), .slice 1 2 0 0 3 (some 3), .slice 1 3 0 0 3 (some 3)], .slice 1 4 g4 off n cp] [some ⟨.ints .i64 [1, 8, 7], 0, false, 3⟩, some ⟨.ints .i64 [19, 61, 6], 0, false, 3⟩, some ⟨.ints .i64 [28, 34, 39], 0, false, 3⟩, some ⟨.ints .i64 [14, 18, 41], 0, false, 3⟩, some ⟨.ints .u8 zs, g4, false, 5⟩] [])
theorem R36_64_ok {zs : List Int} {g4 off n : Nat} {cp : Option Nat} (h : allP [.eqN g4 g4, .leN (off + n) zs.length, .leN n 140737488355000, .eqN (n + 1 + padLaw 128 (n + 1) + 16) (fillLaw 128 (subLaw zs off n)).length, .p (isCubesLaw [4794697086780616226, 8158064640168781261, 13096744586834688815, 16840607885511220156, 4131703408338449720, 6480981068601479193, 10538285296894168987,
 12329834152419229976, 15566598209576043074, 1334009975649890238, 2608012711638119052, 6128411473006802146, 8268148722764581231, 9286055187155687089, 11230858885718282805, 13951009754708518548, 16472876342353939154, 17275323862435702243, 1135362057144423861, 2597628984639134821, 3308224258029322869, 5365058923640841347, 6679025012923562964, 8573033837759648693, 10970295158949994411,
 12119686244451234320, 12683024718118986047, 13788192230050041572, 14330467153632333762, 15395433587784984357, 489312712824947311, 1452737877330783856, 2861767655752347644, 3322285676063803686, 5560940570517711597, 5996557281743188959, 7280758554555802590, 8532644243296465576, 9350256976987008742, 10552545826968843579, 11727347734174303076, 12113106623233404929, 14000437183269869457,
 14369950271660146224, 15101387698204529176, 15463397548674623760, 17586052441742319658, 1182934255886127544, 1847814050463011016, 2177327727835720531, 2830643537854262169, 3796741975233480872, 4115178125766777443, 5681478168544905931, 6601373596472566643, 7507060721942968483, 8399075790359081724, 8693463985226723168, 9568029438360202098, 10144078919501101548, 10430055236837252648,
 11840083180663258601, 13761210420658862357, 14299343276471374635, 14566680578165727644, 15097957966210449927, 16922976911328602910, 17689382322260857208, 500013540394364858, 748580250866718886, 1242879168328830382, 1977374033974150939, 2944078676154940804, 3659926193048069267, 4368137639120453308, 4836135668995329356, 5532061633213252278, 6448918945643986474, 6902733635092675308,
 7801388544844847127]), .eqN ((fillLaw 128 (subLaw zs off n)).length % 128) 0, .leN 1 (fillLaw 128 (subLaw zs off n)).length, .leN (fillLaw 128 (subLaw zs off n)).length 140737488355328, .p (BsLaw (fillLaw 128 (subLaw zs off n))), .p (WdsLaw 64 [7640891576956012808, 13503953896175478587, 4354685564936845355, 11912009170470909681, 5840696475078001361, 11170449401992604703, 2270897969802886507,
 6620516959819538809]), .eqN (stl64Law (fillLaw 128 (subLaw zs off n)) [7640891576956012808, 13503953896175478587, 4354685564936845355, 11912009170470909681, 5840696475078001361, 11170449401992604703, 2270897969802886507, 6620516959819538809]).length 8]) : OkR (R36_64 zs g4 off n cp) := OkR.dem (fl := bitsF 392
 315254376611790546380053958235182707860228557227515329200735770823137957719279333810317123054630908859391962330955775) (by kernel_rfl) (by kernel_rfl) (by kernel_rfl) h
theorem R36_64_val {zs : List Int} {g4 off n : Nat} {cp : Option Nat} : (R36_64 zs g4 off n cp).val = .slice 1 5 64 0 64 none := by kernel_rfl
theorem R36_64_tab {zs : List Int} {g4 off n : Nat} {cp : Option Nat} : (R36_64 zs g4 off n cp).tab = [some ⟨.ints .i64 [1, 8, 7], 0, false, 3⟩, some ⟨.ints .i64 [19, 61, 6], 0, false, 3⟩, some ⟨.ints .i64 [28, 34, 39], 0, false, 3⟩, some ⟨.ints .i64 [14, 18, 41], 0, false, 3⟩, some ⟨.ints .u8 zs, g4, false, 5⟩, some ⟨.ints .u8 (bysLaw 8 (stl64Law (fillLaw 128 (subLaw zs off n))
 [7640891576956012808, 13503953896175478587, 4354685564936845355, 11912009170470909681, 5840696475078001361, 11170449401992604703, 2270897969802886507, 6620516959819538809]) 8), 64, true, 5⟩] := by kernel_rfl
end Go.Abs
