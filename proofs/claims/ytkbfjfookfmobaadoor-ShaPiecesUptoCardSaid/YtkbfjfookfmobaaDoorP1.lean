/- What functions of the given program come to, by the abstract machine: texts of a proof. -/
import Derived.Test.YtkbfjfookfmobaaDoorP0
set_option linter.unusedVariables false
set_option linter.unusedSimpArgs false
set_option maxRecDepth 8000
set_option maxHeartbeats 2000000
namespace Go.Abs
open Go.Proofs Go.Proofs.Tryd
/-! ### bytes of a word, behind others -/
def beLaw : Nat → Int → List Int
  | 0, _ => []
  | n + 1, x => x / 256 ^ n % 256 :: beLaw n x
theorem beLaw_len (x : Int) : ∀ n, (beLaw n x).length = n
  | 0 => rfl
  | n + 1 => by simp [beLaw, beLaw_len x n]
theorem take_snoc {α : Type} {l : List α} {n : Nat} {b : α} (h : l.length = n) : List.take (n + 1) (l ++ [b]) = l ++ [b] := by
  rw [List.take_of_length_le (by simp [h])]
/-- two tellings of a block: where a slot holds nothing, and where not -/
def blkAlt (t : Nat) (A B : Nat → Fm → Tab → List (Option Bool) → Out) : Nat → Fm → Tab → List (Option Bool) → Out := fun kb fm T ds =>
  match look fm t with
  | some .nilSlice => A kb fm T ds
  | _ => B kb fm T ds
theorem blkAlt_ok {E : Env} {fn : Func} {id : Nat} {c : Code} {t : Nat} {A B : Nat → Fm → Tab → List (Option Bool) → Out} (hA : BlkOk E fn id c A) (hB : BlkOk E fn id c B) : BlkOk E fn id c (blkAlt t A B) := by
  intro kb fm T ds h
  unfold blkAlt at h ⊢
  split at h
  · exact hA kb fm T ds h
  · exact hB kb fm T ds h
/-! width 32 -/
noncomputable def PL33 (x : Int) (x0 x1 x2 x3 x4 x5 x6 x7 : Int) (zs xs : List Int) (g g4 : Nat) (ow : Bool) : Out := trim 5 5 [1,2,5,6] (run eX32 89 ⟨5, []⟩ 400 (.block 2 (.loop (roundOf 2 f33))) [(1, .slice 1 4 g4 0 xs.length none), (2, .var 1 0), (5, .var 2 0), (6, .int .i64 64), (7, .int .u64 x), (8, .int .i64 56)] [some ⟨.ints .u8 zs, g, ow, 5⟩, some ⟨.ints .i64 [32, 64, 7, 18, 3, 17, 19, 10, 2, 13, 22, 6, 11, 25], 0, true, 50⟩, some ⟨.agg [.int .i64 32, .int .i64 64, .int .i64 7, .int .i64 18, .int .i64 3, .int .i64 17, .int .i64 19, .int .i64 10, .int .i64 2, .int .i64 13, .int .i64 22, .int .i64 6, .int .i64 11, .int .i64 25, .int .u32 x0, .int .u32 x1, .int .u32 x2, .int .u32 x3, .int .u32 x4, .int .u32 x5, .int .u32 x6, .int .u32 x7], 0, true, 64⟩, some ⟨.ints .u8 [128], 0, true, 5⟩, some ⟨.ints .u8 xs, g4, true, 5⟩] [])
theorem PL33_ok {x : Int} {x0 x1 x2 x3 x4 x5 x6 x7 : Int} {zs xs : List Int} {g g4 : Nat} {ow : Bool} (h : allP [.eqN g4 g4, .leN (0 + xs.length) xs.length, .leN (addO xs.length 1) 140737488355328, .eqN (g4 + 1) (g4 + 1), .leN (0 + addO xs.length 1) (List.take xs.length xs ++ [x / 72057594037927936 % 256]).length, .leN (addO (addO xs.length 1) 1) 140737488355328, .eqN (g4 + 1 + 1) (g4 + 1 + 1),
 .leN (0 + addO (addO xs.length 1) 1) (List.take (addO xs.length 1) (List.take xs.length xs ++ [x / 72057594037927936 % 256]) ++ [x / 281474976710656 % 256]).length, .leN (addO (addO (addO xs.length 1) 1) 1) 140737488355328, .eqN (g4 + 1 + 1 + 1) (g4 + 1 + 1 + 1), .leN (0 + addO (addO (addO xs.length 1) 1) 1) (List.take (addO (addO xs.length 1) 1) (List.take (addO xs.length 1) (List.take xs.length
 xs ++ [x / 72057594037927936 % 256]) ++ [x / 281474976710656 % 256]) ++ [x / 1099511627776 % 256]).length, .leN (addO (addO (addO (addO xs.length 1) 1) 1) 1) 140737488355328, .eqN (g4 + 1 + 1 + 1 + 1) (g4 + 1 + 1 + 1 + 1), .leN (0 + addO (addO (addO (addO xs.length 1) 1) 1) 1) (List.take (addO (addO (addO xs.length 1) 1) 1) (List.take (addO (addO xs.length 1) 1) (List.take (addO xs.length 1)
 (List.take xs.length xs ++ [x / 72057594037927936 % 256]) ++ [x / 281474976710656 % 256]) ++ [x / 1099511627776 % 256]) ++ [x / 4294967296 % 256]).length, .leN (addO (addO (addO (addO (addO xs.length 1) 1) 1) 1) 1) 140737488355328, .eqN (g4 + 1 + 1 + 1 + 1 + 1) (g4 + 1 + 1 + 1 + 1 + 1), .leN (0 + addO (addO (addO (addO (addO xs.length 1) 1) 1) 1) 1) (List.take (addO (addO (addO (addO xs.length 1)
 1) 1) 1) (List.take (addO (addO (addO xs.length 1) 1) 1) (List.take (addO (addO xs.length 1) 1) (List.take (addO xs.length 1) (List.take xs.length xs ++ [x / 72057594037927936 % 256]) ++ [x / 281474976710656 % 256]) ++ [x / 1099511627776 % 256]) ++ [x / 4294967296 % 256]) ++ [x / 16777216 % 256]).length, .leN (addO (addO (addO (addO (addO (addO xs.length 1) 1) 1) 1) 1) 1) 140737488355328, .eqN (g4
 + 1 + 1 + 1 + 1 + 1 + 1) (g4 + 1 + 1 + 1 + 1 + 1 + 1), .leN (0 + addO (addO (addO (addO (addO (addO xs.length 1) 1) 1) 1) 1) 1) (List.take (addO (addO (addO (addO (addO xs.length 1) 1) 1) 1) 1) (List.take (addO (addO (addO (addO xs.length 1) 1) 1) 1) (List.take (addO (addO (addO xs.length 1) 1) 1) (List.take (addO (addO xs.length 1) 1) (List.take (addO xs.length 1) (List.take xs.length xs ++ [x /
 72057594037927936 % 256]) ++ [x / 281474976710656 % 256]) ++ [x / 1099511627776 % 256]) ++ [x / 4294967296 % 256]) ++ [x / 16777216 % 256]) ++ [x / 65536 % 256]).length, .leN (addO (addO (addO (addO (addO (addO (addO xs.length 1) 1) 1) 1) 1) 1) 1) 140737488355328, .eqN (g4 + 1 + 1 + 1 + 1 + 1 + 1 + 1) (g4 + 1 + 1 + 1 + 1 + 1 + 1 + 1), .leN (0 + addO (addO (addO (addO (addO (addO (addO xs.length 1)
 1) 1) 1) 1) 1) 1) (List.take (addO (addO (addO (addO (addO (addO xs.length 1) 1) 1) 1) 1) 1) (List.take (addO (addO (addO (addO (addO xs.length 1) 1) 1) 1) 1) (List.take (addO (addO (addO (addO xs.length 1) 1) 1) 1) (List.take (addO (addO (addO xs.length 1) 1) 1) (List.take (addO (addO xs.length 1) 1) (List.take (addO xs.length 1) (List.take xs.length xs ++ [x / 72057594037927936 % 256]) ++ [x /
 281474976710656 % 256]) ++ [x / 1099511627776 % 256]) ++ [x / 4294967296 % 256]) ++ [x / 16777216 % 256]) ++ [x / 65536 % 256]) ++ [x / 256 % 256]).length, .leN (addO (addO (addO (addO (addO (addO (addO (addO xs.length 1) 1) 1) 1) 1) 1) 1) 1) 140737488355328]) : Ok (PL33 x x0 x1 x2 x3 x4 x5 x6 x7 zs xs g g4 ow) := Ok.dem (fl := bitsF 88 292551780168198684896165775) (by kernel_rfl) (by kernel_rfl)
 (by kernel_rfl) h
theorem PL33_ex {x : Int} {x0 x1 x2 x3 x4 x5 x6 x7 : Int} {zs xs : List Int} {g g4 : Nat} {ow : Bool} : (PL33 x x0 x1 x2 x3 x4 x5 x6 x7 zs xs g g4 ow).ex = .normal := by kernel_rfl
theorem PL33_fm {x : Int} {x0 x1 x2 x3 x4 x5 x6 x7 : Int} {zs xs : List Int} {g g4 : Nat} {ow : Bool} : (PL33 x x0 x1 x2 x3 x4 x5 x6 x7 zs xs g g4 ow).fm = [(1, .slice 1 4 (g4 + 1 + 1 + 1 + 1 + 1 + 1 + 1 + 1) 0 (addO (addO (addO (addO (addO (addO (addO (addO xs.length 1) 1) 1) 1) 1) 1) 1) 1) none), (2, .var 1 0), (5, .var 2 0), (6, .int .i64 64)] := by kernel_rfl
theorem PL33_tab {x : Int} {x0 x1 x2 x3 x4 x5 x6 x7 : Int} {zs xs : List Int} {g g4 : Nat} {ow : Bool} : (PL33 x x0 x1 x2 x3 x4 x5 x6 x7 zs xs g g4 ow).tab = [some ⟨.ints .u8 zs, g, ow, 5⟩, some ⟨.ints .i64 [32, 64, 7, 18, 3, 17, 19, 10, 2, 13, 22, 6, 11, 25], 0, true, 50⟩, some ⟨.agg [.int .i64 32, .int .i64 64, .int .i64 7, .int .i64 18, .int .i64 3, .int .i64 17, .int .i64 19, .int .i64 10, .int
 .i64 2, .int .i64 13, .int .i64 22, .int .i64 6, .int .i64 11, .int .i64 25, .int .u32 x0, .int .u32 x1, .int .u32 x2, .int .u32 x3, .int .u32 x4, .int .u32 x5, .int .u32 x6, .int .u32 x7], 0, true, 64⟩, some ⟨.ints .u8 [128], 0, true, 5⟩, some ⟨.ints .u8 (List.take (addO (addO (addO (addO (addO (addO (addO xs.length 1) 1) 1) 1) 1) 1) 1) (List.take (addO (addO (addO (addO (addO (addO xs.length 1)
 1) 1) 1) 1) 1) (List.take (addO (addO (addO (addO (addO xs.length 1) 1) 1) 1) 1) (List.take (addO (addO (addO (addO xs.length 1) 1) 1) 1) (List.take (addO (addO (addO xs.length 1) 1) 1) (List.take (addO (addO xs.length 1) 1) (List.take (addO xs.length 1) (List.take xs.length xs ++ [x / 72057594037927936 % 256]) ++ [x / 281474976710656 % 256]) ++ [x / 1099511627776 % 256]) ++ [x / 4294967296 % 256])
 ++ [x / 16777216 % 256]) ++ [x / 65536 % 256]) ++ [x / 256 % 256]) ++ [x / 1 % 256]), g4 + 1 + 1 + 1 + 1 + 1 + 1 + 1 + 1, true, 5⟩] := by kernel_rfl
noncomputable def PI33 (x r y0 y1 y2 y3 y4 y5 y6 y7 : Int) (ys : List Int) (g5 : Nat) (x0 x1 x2 x3 x4 x5 x6 x7 : Int) (zs xs : List Int) (g g4 : Nat) (ow : Bool) : Out := trim 6 6 [2,9,69,70] (run eX32 89 ⟨6, []⟩ 400 (.block 8 (.loop (roundOf 8 f33))) [(2, .var 1 0), (9, .slice 1 5 g5 0 ys.length none), (11, .int .u32 x), (12, .int .i64 24), (69, .agg [.int .u32 y0, .int .u32 y1, .int .u32 y2, .int .u32 y3, .int .u32 y4, .int .u32 y5, .int .u32 y6, .int .u32 y7]), (70, .int .i64 r)] [some ⟨.ints .u8 zs, g, ow, 5⟩, some ⟨.ints .i64 [32, 64, 7, 18, 3, 17, 19, 10, 2, 13, 22, 6, 11, 25], 0, true, 50⟩, some ⟨.agg [.int .i64 32, .int .i64 64, .int .i64 7, .int .i64 18, .int .i64 3, .int .i64 17, .int .i64 19, .int .i64 10, .int .i64 2, .int .i64 13, .int .i64 22, .int .i64 6, .int .i64 11, .int .i64 25, .int .u32 x0, .int .u32 x1, .int .u32 x2, .int .u32 x3, .int .u32 x4, .int .u32 x5, .int .u32 x6, .int .u32 x7], 0, true, 64⟩, some ⟨.ints .u8 [128], 0, true, 5⟩, some ⟨.ints .u8 xs, g4, true, 5⟩, some ⟨.ints .u8 ys, g5, true, 5⟩] [])
theorem PI33_ok {x r y0 y1 y2 y3 y4 y5 y6 y7 : Int} {ys : List Int} {g5 : Nat} {x0 x1 x2 x3 x4 x5 x6 x7 : Int} {zs xs : List Int} {g g4 : Nat} {ow : Bool} (h : allP [.eqN g5 g5, .leN (0 + ys.length) ys.length, .leN (addO ys.length 1) 140737488355328, .eqN (g5 + 1) (g5 + 1), .leN (0 + addO ys.length 1) (List.take ys.length ys ++ [x / 16777216 % 256]).length, .leN (addO (addO ys.length 1) 1)
 140737488355328, .eqN (g5 + 1 + 1) (g5 + 1 + 1), .leN (0 + addO (addO ys.length 1) 1) (List.take (addO ys.length 1) (List.take ys.length ys ++ [x / 16777216 % 256]) ++ [x / 65536 % 256]).length, .leN (addO (addO (addO ys.length 1) 1) 1) 140737488355328, .eqN (g5 + 1 + 1 + 1) (g5 + 1 + 1 + 1), .leN (0 + addO (addO (addO ys.length 1) 1) 1) (List.take (addO (addO ys.length 1) 1) (List.take (addO
 ys.length 1) (List.take ys.length ys ++ [x / 16777216 % 256]) ++ [x / 65536 % 256]) ++ [x / 256 % 256]).length, .leN (addO (addO (addO (addO ys.length 1) 1) 1) 1) 140737488355328]) : Ok (PI33 x r y0 y1 y2 y3 y4 y5 y6 y7 ys g5 x0 x1 x2 x3 x4 x5 x6 x7 zs xs g g4 ow) := Ok.dem (fl := bitsF 44 16629643378575) (by kernel_rfl) (by kernel_rfl) (by kernel_rfl) h
theorem PI33_ex {x r y0 y1 y2 y3 y4 y5 y6 y7 : Int} {ys : List Int} {g5 : Nat} {x0 x1 x2 x3 x4 x5 x6 x7 : Int} {zs xs : List Int} {g g4 : Nat} {ow : Bool} : (PI33 x r y0 y1 y2 y3 y4 y5 y6 y7 ys g5 x0 x1 x2 x3 x4 x5 x6 x7 zs xs g g4 ow).ex = .normal := by kernel_rfl
theorem PI33_fm {x r y0 y1 y2 y3 y4 y5 y6 y7 : Int} {ys : List Int} {g5 : Nat} {x0 x1 x2 x3 x4 x5 x6 x7 : Int} {zs xs : List Int} {g g4 : Nat} {ow : Bool} : (PI33 x r y0 y1 y2 y3 y4 y5 y6 y7 ys g5 x0 x1 x2 x3 x4 x5 x6 x7 zs xs g g4 ow).fm = [(2, .var 1 0), (9, .slice 1 5 (g5 + 1 + 1 + 1 + 1) 0 (addO (addO (addO (addO ys.length 1) 1) 1) 1) none), (69, .agg [.int .u32 y0, .int .u32 y1, .int .u32 y2,
 .int .u32 y3, .int .u32 y4, .int .u32 y5, .int .u32 y6, .int .u32 y7]), (70, .int .i64 r)] := by kernel_rfl
theorem PI33_tab {x r y0 y1 y2 y3 y4 y5 y6 y7 : Int} {ys : List Int} {g5 : Nat} {x0 x1 x2 x3 x4 x5 x6 x7 : Int} {zs xs : List Int} {g g4 : Nat} {ow : Bool} : (PI33 x r y0 y1 y2 y3 y4 y5 y6 y7 ys g5 x0 x1 x2 x3 x4 x5 x6 x7 zs xs g g4 ow).tab = [some ⟨.ints .u8 zs, g, ow, 5⟩, some ⟨.ints .i64 [32, 64, 7, 18, 3, 17, 19, 10, 2, 13, 22, 6, 11, 25], 0, true, 50⟩, some ⟨.agg [.int .i64 32, .int .i64 64,
 .int .i64 7, .int .i64 18, .int .i64 3, .int .i64 17, .int .i64 19, .int .i64 10, .int .i64 2, .int .i64 13, .int .i64 22, .int .i64 6, .int .i64 11, .int .i64 25, .int .u32 x0, .int .u32 x1, .int .u32 x2, .int .u32 x3, .int .u32 x4, .int .u32 x5, .int .u32 x6, .int .u32 x7], 0, true, 64⟩, some ⟨.ints .u8 [128], 0, true, 5⟩, some ⟨.ints .u8 xs, g4, true, 5⟩, some ⟨.ints .u8 (List.take (addO (addO
 (addO ys.length 1) 1) 1) (List.take (addO (addO ys.length 1) 1) (List.take (addO ys.length 1) (List.take ys.length ys ++ [x / 16777216 % 256]) ++ [x / 65536 % 256]) ++ [x / 256 % 256]) ++ [x / 1 % 256]), g5 + 1 + 1 + 1 + 1, true, 5⟩] := by kernel_rfl
noncomputable def PN33 (x r y0 y1 y2 y3 y4 y5 y6 y7 : Int) (x0 x1 x2 x3 x4 x5 x6 x7 : Int) (zs xs : List Int) (g g4 : Nat) (ow : Bool) : Out := trimG 5 [0,1,2,3,4,6] [2,9,69,70] (run eX32 89 ⟨5, []⟩ 400 (.block 8 (.loop (roundOf 8 f33))) [(2, .var 1 0), (9, .nilSlice), (11, .int .u32 x), (12, .int .i64 24), (69, .agg [.int .u32 y0, .int .u32 y1, .int .u32 y2, .int .u32 y3, .int .u32 y4, .int .u32 y5, .int .u32 y6, .int .u32 y7]), (70, .int .i64 r)] [some ⟨.ints .u8 zs, g, ow, 5⟩, some ⟨.ints .i64 [32, 64, 7, 18, 3, 17, 19, 10, 2, 13, 22, 6, 11, 25], 0, true, 50⟩, some ⟨.agg [.int .i64 32, .int .i64 64, .int .i64 7, .int .i64 18, .int .i64 3, .int .i64 17, .int .i64 19, .int .i64 10, .int .i64 2, .int .i64 13, .int .i64 22, .int .i64 6, .int .i64 11, .int .i64 25, .int .u32 x0, .int .u32 x1, .int .u32 x2, .int .u32 x3, .int .u32 x4, .int .u32 x5, .int .u32 x6, .int .u32 x7], 0, true, 64⟩, some ⟨.ints .u8 [128], 0, true, 5⟩, some ⟨.ints .u8 xs, g4, true, 5⟩] [])
theorem PN33_ok {x r y0 y1 y2 y3 y4 y5 y6 y7 : Int} {x0 x1 x2 x3 x4 x5 x6 x7 : Int} {zs xs : List Int} {g g4 : Nat} {ow : Bool} (h : allP []) : Ok (PN33 x r y0 y1 y2 y3 y4 y5 y6 y7 x0 x1 x2 x3 x4 x5 x6 x7 zs xs g g4 ow) := Ok.dem (fl := bitsF 42 4398046511103) (by kernel_rfl) (by kernel_rfl) (by kernel_rfl) h
theorem PN33_ex {x r y0 y1 y2 y3 y4 y5 y6 y7 : Int} {x0 x1 x2 x3 x4 x5 x6 x7 : Int} {zs xs : List Int} {g g4 : Nat} {ow : Bool} : (PN33 x r y0 y1 y2 y3 y4 y5 y6 y7 x0 x1 x2 x3 x4 x5 x6 x7 zs xs g g4 ow).ex = .normal := by kernel_rfl
theorem PN33_fm {x r y0 y1 y2 y3 y4 y5 y6 y7 : Int} {x0 x1 x2 x3 x4 x5 x6 x7 : Int} {zs xs : List Int} {g g4 : Nat} {ow : Bool} : (PN33 x r y0 y1 y2 y3 y4 y5 y6 y7 x0 x1 x2 x3 x4 x5 x6 x7 zs xs g g4 ow).fm = [(2, .var 1 0), (9, .slice 1 5 3 0 4 none), (69, .agg [.int .u32 y0, .int .u32 y1, .int .u32 y2, .int .u32 y3, .int .u32 y4, .int .u32 y5, .int .u32 y6, .int .u32 y7]), (70, .int .i64 r)] := by
 kernel_rfl
theorem PN33_tab {x r y0 y1 y2 y3 y4 y5 y6 y7 : Int} {x0 x1 x2 x3 x4 x5 x6 x7 : Int} {zs xs : List Int} {g g4 : Nat} {ow : Bool} : (PN33 x r y0 y1 y2 y3 y4 y5 y6 y7 x0 x1 x2 x3 x4 x5 x6 x7 zs xs g g4 ow).tab = [some ⟨.ints .u8 zs, g, ow, 5⟩, some ⟨.ints .i64 [32, 64, 7, 18, 3, 17, 19, 10, 2, 13, 22, 6, 11, 25], 0, true, 50⟩, some ⟨.agg [.int .i64 32, .int .i64 64, .int .i64 7, .int .i64 18, .int
 .i64 3, .int .i64 17, .int .i64 19, .int .i64 10, .int .i64 2, .int .i64 13, .int .i64 22, .int .i64 6, .int .i64 11, .int .i64 25, .int .u32 x0, .int .u32 x1, .int .u32 x2, .int .u32 x3, .int .u32 x4, .int .u32 x5, .int .u32 x6, .int .u32 x7], 0, true, 64⟩, some ⟨.ints .u8 [128], 0, true, 5⟩, some ⟨.ints .u8 xs, g4, true, 5⟩, some ⟨.ints .u8 [x / 16777216 % 256, x / 65536 % 256, x / 256 % 256, x /
 1 % 256], 3, true, 5⟩] := by kernel_rfl
noncomputable def gL33 : List AVal → Tab → Out := fun vs T => match vs, T with
  | [.slice 1 4 g4' 0 m none, .var 1 0, .var 2 0, .int .i64 b, .int .u64 x, .int .i64 s], [some ⟨.ints .u8 zs, g, ow, 5⟩, some ⟨.ints .i64 [32, 64, 7, 18, 3, 17, 19, 10, 2, 13, 22, 6, 11, 25], 0, true, 50⟩, some ⟨.agg [.int .i64 32, .int .i64 64, .int .i64 7, .int .i64 18, .int .i64 3, .int .i64 17, .int .i64 19, .int .i64 10, .int .i64 2, .int .i64 13, .int .i64 22, .int .i64 6, .int .i64 11, .int .i64 25, .int .u32 x0, .int .u32 x1, .int .u32 x2, .int .u32 x3, .int .u32 x4, .int .u32 x5, .int .u32 x6, .int .u32 x7], 0, true, 64⟩, some ⟨.ints .u8 [128], 0, true, 5⟩, some ⟨.ints .u8 xs, g4, true, 5⟩] =>
    ⟨[.eqN g4' g4, .eqN m xs.length, .rng 64 b 64, .rng 56 s 56, .leN (xs.length + 8) 140737488355328], .normal, [(1, .slice 1 4 (g4 + 8) 0 (m + 8) none), (2, .var 1 0), (5, .var 2 0), (6, .int .i64 64)],
      [some ⟨.ints .u8 zs, g, ow, 5⟩, some ⟨.ints .i64 [32, 64, 7, 18, 3, 17, 19, 10, 2, 13, 22, 6, 11, 25], 0, true, 50⟩, some ⟨.agg [.int .i64 32, .int .i64 64, .int .i64 7, .int .i64 18, .int .i64 3, .int .i64 17, .int .i64 19, .int .i64 10, .int .i64 2, .int .i64 13, .int .i64 22, .int .i64 6, .int .i64 11, .int .i64 25, .int .u32 x0, .int .u32 x1, .int .u32 x2, .int .u32 x3, .int .u32 x4, .int .u32 x5, .int .u32 x6, .int .u32 x7], 0, true, 64⟩, some ⟨.ints .u8 [128], 0, true, 5⟩, some ⟨.ints .u8 (xs ++ beLaw 8 x), g4 + 8, true, 5⟩], []⟩
  | _, _ => failO
theorem gL33_ok : BlkOk eX32 f33 2 (.loop (roundOf 2 f33)) (blkS 5 [1,2,5,6,7,8] gL33) := by
  refine blkS_ok fun vs T h => ?_
  unfold gL33 at h ⊢
  split at h
  · rename_i g4' m b x s zs g ow x0 x1 x2 x3 x4 x5 x6 x7 xs g4
    obtain ⟨h1, h2, h3, h4, h5, _⟩ := h.h
    simp only [Con.h] at h1 h2 h3 h4 h5
    obtain rfl : b = 64 := by omega
    obtain rfl : s = 56 := by omega
    subst h1 h2
    refine To.of (o := PL33 x x0 x1 x2 x3 x4 x5 x6 x7 zs xs g g4' ow) eX32_ok hmS (Nat.le_refl 5) OrcOk.nil rfl (PL33_ok ?_) PL33_ex (by rw [PL33_fm]; simp only [addO_eq]) ?_
    · simp only [allP, Con.h, addO_eq, List.take_length, take_snoc, List.length_append, List.length_cons, List.length_nil, Nat.zero_add, Nat.le_refl, eq_self, true_and, and_true]
      omega
    · rw [PL33_tab]
      simp only [addO_eq, List.take_length, take_snoc, List.length_append, List.length_cons, List.length_nil, Nat.zero_add]
      simp only [List.append_assoc]
      rfl
  · exact absurd h nofailO
noncomputable def gI33 : List AVal → Tab → Out := fun vs T => match vs, T with
  | [.var 1 0, .slice 1 5 g5' 0 m none, .int .u32 x, .int .i64 s, .agg [.int .u32 y0, .int .u32 y1, .int .u32 y2, .int .u32 y3, .int .u32 y4, .int .u32 y5, .int .u32 y6, .int .u32 y7], .int .i64 r], [some ⟨.ints .u8 zs, g, ow, 5⟩, some ⟨.ints .i64 [32, 64, 7, 18, 3, 17, 19, 10, 2, 13, 22, 6, 11, 25], 0, true, 50⟩, some ⟨.agg [.int .i64 32, .int .i64 64, .int .i64 7, .int .i64 18, .int .i64 3, .int .i64 17, .int .i64 19, .int .i64 10, .int .i64 2, .int .i64 13, .int .i64 22, .int .i64 6, .int .i64 11, .int .i64 25, .int .u32 x0, .int .u32 x1, .int .u32 x2, .int .u32 x3, .int .u32 x4, .int .u32 x5, .int .u32 x6, .int .u32 x7], 0, true, 64⟩, some ⟨.ints .u8 [128], 0, true, 5⟩, some ⟨.ints .u8 xs, g4, true, 5⟩, some ⟨.ints .u8 ys, g5, true, 5⟩] =>
    ⟨[.eqN g5' g5, .eqN m ys.length, .rng 24 s 24, .leN (ys.length + 4) 140737488355328], .normal, [(2, .var 1 0), (9, .slice 1 5 (g5 + 4) 0 (m + 4) none), (69, .agg [.int .u32 y0, .int .u32 y1, .int .u32 y2, .int .u32 y3, .int .u32 y4, .int .u32 y5, .int .u32 y6, .int .u32 y7]), (70, .int .i64 r)],
      [some ⟨.ints .u8 zs, g, ow, 5⟩, some ⟨.ints .i64 [32, 64, 7, 18, 3, 17, 19, 10, 2, 13, 22, 6, 11, 25], 0, true, 50⟩, some ⟨.agg [.int .i64 32, .int .i64 64, .int .i64 7, .int .i64 18, .int .i64 3, .int .i64 17, .int .i64 19, .int .i64 10, .int .i64 2, .int .i64 13, .int .i64 22, .int .i64 6, .int .i64 11, .int .i64 25, .int .u32 x0, .int .u32 x1, .int .u32 x2, .int .u32 x3, .int .u32 x4, .int .u32 x5, .int .u32 x6, .int .u32 x7], 0, true, 64⟩, some ⟨.ints .u8 [128], 0, true, 5⟩, some ⟨.ints .u8 xs, g4, true, 5⟩, some ⟨.ints .u8 (ys ++ beLaw 4 x), g5 + 4, true, 5⟩], []⟩
  | _, _ => failO
theorem gI33_ok : BlkOk eX32 f33 8 (.loop (roundOf 8 f33)) (blkS 6 [2,9,11,12,69,70] gI33) := by
  refine blkS_ok fun vs T h => ?_
  unfold gI33 at h ⊢
  split at h
  · rename_i g5' m x s y0 y1 y2 y3 y4 y5 y6 y7 r zs g ow x0 x1 x2 x3 x4 x5 x6 x7 xs g4 ys g5
    obtain ⟨h1, h2, h3, h4, _⟩ := h.h
    simp only [Con.h] at h1 h2 h3 h4
    obtain rfl : s = 24 := by omega
    subst h1 h2
    refine To.of (o := PI33 x r y0 y1 y2 y3 y4 y5 y6 y7 ys g5' x0 x1 x2 x3 x4 x5 x6 x7 zs xs g g4 ow) eX32_ok hmS (Nat.le_refl 6) OrcOk.nil rfl (PI33_ok ?_) PI33_ex (by rw [PI33_fm]; simp only [addO_eq]) ?_
    · simp only [allP, Con.h, addO_eq, List.take_length, take_snoc, List.length_append, List.length_cons, List.length_nil, Nat.zero_add, Nat.le_refl, eq_self, true_and, and_true]
      omega
    · rw [PI33_tab]
      simp only [addO_eq, List.take_length, take_snoc, List.length_append, List.length_cons, List.length_nil, Nat.zero_add]
      simp only [List.append_assoc]
      rfl
  · exact absurd h nofailO
noncomputable def gN33 : List AVal → Tab → Out := fun vs T => match vs, T with
  | [.var 1 0, .nilSlice, .int .u32 x, .int .i64 s, .agg [.int .u32 y0, .int .u32 y1, .int .u32 y2, .int .u32 y3, .int .u32 y4, .int .u32 y5, .int .u32 y6, .int .u32 y7], .int .i64 r], [some ⟨.ints .u8 zs, g, ow, 5⟩, some ⟨.ints .i64 [32, 64, 7, 18, 3, 17, 19, 10, 2, 13, 22, 6, 11, 25], 0, true, 50⟩, some ⟨.agg [.int .i64 32, .int .i64 64, .int .i64 7, .int .i64 18, .int .i64 3, .int .i64 17, .int .i64 19, .int .i64 10, .int .i64 2, .int .i64 13, .int .i64 22, .int .i64 6, .int .i64 11, .int .i64 25, .int .u32 x0, .int .u32 x1, .int .u32 x2, .int .u32 x3, .int .u32 x4, .int .u32 x5, .int .u32 x6, .int .u32 x7], 0, true, 64⟩, some ⟨.ints .u8 [128], 0, true, 5⟩, some ⟨.ints .u8 xs, g4, true, 5⟩] =>
    ⟨[.rng 24 s 24], .normal, [(2, .var 1 0), (9, .slice 1 5 3 0 4 none), (69, .agg [.int .u32 y0, .int .u32 y1, .int .u32 y2, .int .u32 y3, .int .u32 y4, .int .u32 y5, .int .u32 y6, .int .u32 y7]), (70, .int .i64 r)], [some ⟨.ints .u8 zs, g, ow, 5⟩, some ⟨.ints .i64 [32, 64, 7, 18, 3, 17, 19, 10, 2, 13, 22, 6, 11, 25], 0, true, 50⟩, some ⟨.agg [.int .i64 32, .int .i64 64, .int .i64 7, .int .i64 18, .int .i64 3, .int .i64 17, .int .i64 19, .int .i64 10, .int .i64 2, .int .i64 13, .int .i64 22, .int .i64 6, .int .i64 11, .int .i64 25, .int .u32 x0, .int .u32 x1, .int .u32 x2, .int .u32 x3, .int .u32 x4, .int .u32 x5, .int .u32 x6, .int .u32 x7], 0, true, 64⟩, some ⟨.ints .u8 [128], 0, true, 5⟩, some ⟨.ints .u8 xs, g4, true, 5⟩, some ⟨.ints .u8 (beLaw 4 x), 3, true, 5⟩], []⟩
  | _, _ => failO
theorem gN33_ok : BlkOk eX32 f33 8 (.loop (roundOf 8 f33)) (blkS2 5 5 [2,9,11,12,69,70] gN33) := by
  refine blkS2_ok fun vs T h => ?_
  unfold gN33 at h ⊢
  split at h
  · rename_i x s y0 y1 y2 y3 y4 y5 y6 y7 r zs g ow x0 x1 x2 x3 x4 x5 x6 x7 xs g4
    obtain ⟨h1, _⟩ := h.h
    simp only [Con.h] at h1
    obtain rfl : s = 24 := by omega
    exact To.ofG (o := PN33 x r y0 y1 y2 y3 y4 y5 y6 y7 x0 x1 x2 x3 x4 x5 x6 x7 zs xs g g4 ow) eX32_ok hmS (Nat.le_refl 5) OrcOk.nil rfl (PN33_ok (by simp [allP])) PN33_ex PN33_fm PN33_tab
  · exact absurd h nofailO
noncomputable def orc33 : OrcL := [(0, blkS 5 [1,2,5,6,7] gP33), (2, blkS 5 [1,2,5,6,7,8] gL33), (4, blkS 5 [1,2,5,6] gE33), (8, blkAlt 9 (blkS2 5 5 [2,9,11,12,69,70] gN33) (blkS 6 [2,9,11,12,69,70] gI33))]
theorem orc33_ok : FnOrc eX32 f33 orc33 := FnOrc.cons gP33_ok (by kernel_rfl) (FnOrc.cons gL33_ok (by kernel_rfl) (FnOrc.cons gE33_ok (by kernel_rfl) (FnOrc.cons (blkAlt_ok gN33_ok gI33_ok) (by kernel_rfl) FnOrc.nil)))
/-! width 64 -/
noncomputable def PL37 (x : Int) (x0 x1 x2 x3 x4 x5 x6 x7 : Int) (zs xs : List Int) (g g4 : Nat) (ow : Bool) : Out := trim 5 5 [1,2,5,6] (run eX64 89 ⟨5, []⟩ 400 (.block 2 (.loop (roundOf 2 f37))) [(1, .slice 1 4 g4 0 xs.length none), (2, .var 1 0), (5, .var 2 0), (6, .int .i64 128), (7, .int .u64 x), (8, .int .i64 56)] [some ⟨.ints .u8 zs, g, ow, 5⟩, some ⟨.ints .i64 [64, 80, 1, 8, 7, 19, 61, 6, 28, 34, 39, 14, 18, 41], 0, true, 50⟩, some ⟨.agg [.int .i64 64, .int .i64 80, .int .i64 1, .int .i64 8, .int .i64 7, .int .i64 19, .int .i64 61, .int .i64 6, .int .i64 28, .int .i64 34, .int .i64 39, .int .i64 14, .int .i64 18, .int .i64 41, .int .u64 x0, .int .u64 x1, .int .u64 x2, .int .u64 x3, .int .u64 x4, .int .u64 x5, .int .u64 x6, .int .u64 x7], 0, true, 73⟩, some ⟨.ints .u8 [128], 0, true, 5⟩, some ⟨.ints .u8 xs, g4, true, 5⟩] [])
theorem PL37_ok {x : Int} {x0 x1 x2 x3 x4 x5 x6 x7 : Int} {zs xs : List Int} {g g4 : Nat} {ow : Bool} (h : allP [.eqN g4 g4, .leN (0 + xs.length) xs.length, .leN (addO xs.length 1) 140737488355328, .eqN (g4 + 1) (g4 + 1), .leN (0 + addO xs.length 1) (List.take xs.length xs ++ [x / 72057594037927936 % 256]).length, .leN (addO (addO xs.length 1) 1) 140737488355328, .eqN (g4 + 1 + 1) (g4 + 1 + 1),
 .leN (0 + addO (addO xs.length 1) 1) (List.take (addO xs.length 1) (List.take xs.length xs ++ [x / 72057594037927936 % 256]) ++ [x / 281474976710656 % 256]).length, .leN (addO (addO (addO xs.length 1) 1) 1) 140737488355328, .eqN (g4 + 1 + 1 + 1) (g4 + 1 + 1 + 1), .leN (0 + addO (addO (addO xs.length 1) 1) 1) (List.take (addO (addO xs.length 1) 1) (List.take (addO xs.length 1) (List.take xs.length
 xs ++ [x / 72057594037927936 % 256]) ++ [x / 281474976710656 % 256]) ++ [x / 1099511627776 % 256]).length, .leN (addO (addO (addO (addO xs.length 1) 1) 1) 1) 140737488355328, .eqN (g4 + 1 + 1 + 1 + 1) (g4 + 1 + 1 + 1 + 1), .leN (0 + addO (addO (addO (addO xs.length 1) 1) 1) 1) (List.take (addO (addO (addO xs.length 1) 1) 1) (List.take (addO (addO xs.length 1) 1) (List.take (addO xs.length 1)
 (List.take xs.length xs ++ [x / 72057594037927936 % 256]) ++ [x / 281474976710656 % 256]) ++ [x / 1099511627776 % 256]) ++ [x / 4294967296 % 256]).length, .leN (addO (addO (addO (addO (addO xs.length 1) 1) 1) 1) 1) 140737488355328, .eqN (g4 + 1 + 1 + 1 + 1 + 1) (g4 + 1 + 1 + 1 + 1 + 1), .leN (0 + addO (addO (addO (addO (addO xs.length 1) 1) 1) 1) 1) (List.take (addO (addO (addO (addO xs.length 1)
 1) 1) 1) (List.take (addO (addO (addO xs.length 1) 1) 1) (List.take (addO (addO xs.length 1) 1) (List.take (addO xs.length 1) (List.take xs.length xs ++ [x / 72057594037927936 % 256]) ++ [x / 281474976710656 % 256]) ++ [x / 1099511627776 % 256]) ++ [x / 4294967296 % 256]) ++ [x / 16777216 % 256]).length, .leN (addO (addO (addO (addO (addO (addO xs.length 1) 1) 1) 1) 1) 1) 140737488355328, .eqN (g4
 + 1 + 1 + 1 + 1 + 1 + 1) (g4 + 1 + 1 + 1 + 1 + 1 + 1), .leN (0 + addO (addO (addO (addO (addO (addO xs.length 1) 1) 1) 1) 1) 1) (List.take (addO (addO (addO (addO (addO xs.length 1) 1) 1) 1) 1) (List.take (addO (addO (addO (addO xs.length 1) 1) 1) 1) (List.take (addO (addO (addO xs.length 1) 1) 1) (List.take (addO (addO xs.length 1) 1) (List.take (addO xs.length 1) (List.take xs.length xs ++ [x /
 72057594037927936 % 256]) ++ [x / 281474976710656 % 256]) ++ [x / 1099511627776 % 256]) ++ [x / 4294967296 % 256]) ++ [x / 16777216 % 256]) ++ [x / 65536 % 256]).length, .leN (addO (addO (addO (addO (addO (addO (addO xs.length 1) 1) 1) 1) 1) 1) 1) 140737488355328, .eqN (g4 + 1 + 1 + 1 + 1 + 1 + 1 + 1) (g4 + 1 + 1 + 1 + 1 + 1 + 1 + 1), .leN (0 + addO (addO (addO (addO (addO (addO (addO xs.length 1)
 1) 1) 1) 1) 1) 1) (List.take (addO (addO (addO (addO (addO (addO xs.length 1) 1) 1) 1) 1) 1) (List.take (addO (addO (addO (addO (addO xs.length 1) 1) 1) 1) 1) (List.take (addO (addO (addO (addO xs.length 1) 1) 1) 1) (List.take (addO (addO (addO xs.length 1) 1) 1) (List.take (addO (addO xs.length 1) 1) (List.take (addO xs.length 1) (List.take xs.length xs ++ [x / 72057594037927936 % 256]) ++ [x /
 281474976710656 % 256]) ++ [x / 1099511627776 % 256]) ++ [x / 4294967296 % 256]) ++ [x / 16777216 % 256]) ++ [x / 65536 % 256]) ++ [x / 256 % 256]).length, .leN (addO (addO (addO (addO (addO (addO (addO (addO xs.length 1) 1) 1) 1) 1) 1) 1) 1) 140737488355328]) : Ok (PL37 x x0 x1 x2 x3 x4 x5 x6 x7 zs xs g g4 ow) := Ok.dem (fl := bitsF 88 292551780168198684896165775) (by kernel_rfl) (by kernel_rfl)
 (by kernel_rfl) h
theorem PL37_ex {x : Int} {x0 x1 x2 x3 x4 x5 x6 x7 : Int} {zs xs : List Int} {g g4 : Nat} {ow : Bool} : (PL37 x x0 x1 x2 x3 x4 x5 x6 x7 zs xs g g4 ow).ex = .normal := by kernel_rfl
theorem PL37_fm {x : Int} {x0 x1 x2 x3 x4 x5 x6 x7 : Int} {zs xs : List Int} {g g4 : Nat} {ow : Bool} : (PL37 x x0 x1 x2 x3 x4 x5 x6 x7 zs xs g g4 ow).fm = [(1, .slice 1 4 (g4 + 1 + 1 + 1 + 1 + 1 + 1 + 1 + 1) 0 (addO (addO (addO (addO (addO (addO (addO (addO xs.length 1) 1) 1) 1) 1) 1) 1) 1) none), (2, .var 1 0), (5, .var 2 0), (6, .int .i64 128)] := by kernel_rfl
theorem PL37_tab {x : Int} {x0 x1 x2 x3 x4 x5 x6 x7 : Int} {zs xs : List Int} {g g4 : Nat} {ow : Bool} : (PL37 x x0 x1 x2 x3 x4 x5 x6 x7 zs xs g g4 ow).tab = [some ⟨.ints .u8 zs, g, ow, 5⟩, some ⟨.ints .i64 [64, 80, 1, 8, 7, 19, 61, 6, 28, 34, 39, 14, 18, 41], 0, true, 50⟩, some ⟨.agg [.int .i64 64, .int .i64 80, .int .i64 1, .int .i64 8, .int .i64 7, .int .i64 19, .int .i64 61, .int .i64 6, .int
 .i64 28, .int .i64 34, .int .i64 39, .int .i64 14, .int .i64 18, .int .i64 41, .int .u64 x0, .int .u64 x1, .int .u64 x2, .int .u64 x3, .int .u64 x4, .int .u64 x5, .int .u64 x6, .int .u64 x7], 0, true, 73⟩, some ⟨.ints .u8 [128], 0, true, 5⟩, some ⟨.ints .u8 (List.take (addO (addO (addO (addO (addO (addO (addO xs.length 1) 1) 1) 1) 1) 1) 1) (List.take (addO (addO (addO (addO (addO (addO xs.length 1)
 1) 1) 1) 1) 1) (List.take (addO (addO (addO (addO (addO xs.length 1) 1) 1) 1) 1) (List.take (addO (addO (addO (addO xs.length 1) 1) 1) 1) (List.take (addO (addO (addO xs.length 1) 1) 1) (List.take (addO (addO xs.length 1) 1) (List.take (addO xs.length 1) (List.take xs.length xs ++ [x / 72057594037927936 % 256]) ++ [x / 281474976710656 % 256]) ++ [x / 1099511627776 % 256]) ++ [x / 4294967296 % 256])
 ++ [x / 16777216 % 256]) ++ [x / 65536 % 256]) ++ [x / 256 % 256]) ++ [x / 1 % 256]), g4 + 1 + 1 + 1 + 1 + 1 + 1 + 1 + 1, true, 5⟩] := by kernel_rfl
noncomputable def PI37 (x r y0 y1 y2 y3 y4 y5 y6 y7 : Int) (ys : List Int) (g5 : Nat) (x0 x1 x2 x3 x4 x5 x6 x7 : Int) (zs xs : List Int) (g g4 : Nat) (ow : Bool) : Out := trim 6 6 [2,9,69,70] (run eX64 89 ⟨6, []⟩ 400 (.block 8 (.loop (roundOf 8 f37))) [(2, .var 1 0), (9, .slice 1 5 g5 0 ys.length none), (11, .int .u64 x), (12, .int .i64 56), (69, .agg [.int .u64 y0, .int .u64 y1, .int .u64 y2, .int .u64 y3, .int .u64 y4, .int .u64 y5, .int .u64 y6, .int .u64 y7]), (70, .int .i64 r)] [some ⟨.ints .u8 zs, g, ow, 5⟩, some ⟨.ints .i64 [64, 80, 1, 8, 7, 19, 61, 6, 28, 34, 39, 14, 18, 41], 0, true, 50⟩, some ⟨.agg [.int .i64 64, .int .i64 80, .int .i64 1, .int .i64 8, .int .i64 7, .int .i64 19, .int .i64 61, .int .i64 6, .int .i64 28, .int .i64 34, .int .i64 39, .int .i64 14, .int .i64 18, .int .i64 41, .int .u64 x0, .int .u64 x1, .int .u64 x2, .int .u64 x3, .int .u64 x4, .int .u64 x5, .int .u64 x6, .int .u64 x7], 0, true, 73⟩, some ⟨.ints .u8 [128], 0, true, 5⟩, some ⟨.ints .u8 xs, g4, true, 5⟩, some ⟨.ints .u8 ys, g5, true, 5⟩] [])
theorem PI37_ok {x r y0 y1 y2 y3 y4 y5 y6 y7 : Int} {ys : List Int} {g5 : Nat} {x0 x1 x2 x3 x4 x5 x6 x7 : Int} {zs xs : List Int} {g g4 : Nat} {ow : Bool} (h : allP [.eqN g5 g5, .leN (0 + ys.length) ys.length, .leN (addO ys.length 1) 140737488355328, .eqN (g5 + 1) (g5 + 1), .leN (0 + addO ys.length 1) (List.take ys.length ys ++ [x / 72057594037927936 % 256]).length, .leN (addO (addO ys.length 1) 1)
 140737488355328, .eqN (g5 + 1 + 1) (g5 + 1 + 1), .leN (0 + addO (addO ys.length 1) 1) (List.take (addO ys.length 1) (List.take ys.length ys ++ [x / 72057594037927936 % 256]) ++ [x / 281474976710656 % 256]).length, .leN (addO (addO (addO ys.length 1) 1) 1) 140737488355328, .eqN (g5 + 1 + 1 + 1) (g5 + 1 + 1 + 1), .leN (0 + addO (addO (addO ys.length 1) 1) 1) (List.take (addO (addO ys.length 1) 1)
 (List.take (addO ys.length 1) (List.take ys.length ys ++ [x / 72057594037927936 % 256]) ++ [x / 281474976710656 % 256]) ++ [x / 1099511627776 % 256]).length, .leN (addO (addO (addO (addO ys.length 1) 1) 1) 1) 140737488355328, .eqN (g5 + 1 + 1 + 1 + 1) (g5 + 1 + 1 + 1 + 1), .leN (0 + addO (addO (addO (addO ys.length 1) 1) 1) 1) (List.take (addO (addO (addO ys.length 1) 1) 1) (List.take (addO (addO
 ys.length 1) 1) (List.take (addO ys.length 1) (List.take ys.length ys ++ [x / 72057594037927936 % 256]) ++ [x / 281474976710656 % 256]) ++ [x / 1099511627776 % 256]) ++ [x / 4294967296 % 256]).length, .leN (addO (addO (addO (addO (addO ys.length 1) 1) 1) 1) 1) 140737488355328, .eqN (g5 + 1 + 1 + 1 + 1 + 1) (g5 + 1 + 1 + 1 + 1 + 1), .leN (0 + addO (addO (addO (addO (addO ys.length 1) 1) 1) 1) 1)
 (List.take (addO (addO (addO (addO ys.length 1) 1) 1) 1) (List.take (addO (addO (addO ys.length 1) 1) 1) (List.take (addO (addO ys.length 1) 1) (List.take (addO ys.length 1) (List.take ys.length ys ++ [x / 72057594037927936 % 256]) ++ [x / 281474976710656 % 256]) ++ [x / 1099511627776 % 256]) ++ [x / 4294967296 % 256]) ++ [x / 16777216 % 256]).length, .leN (addO (addO (addO (addO (addO (addO
 ys.length 1) 1) 1) 1) 1) 1) 140737488355328, .eqN (g5 + 1 + 1 + 1 + 1 + 1 + 1) (g5 + 1 + 1 + 1 + 1 + 1 + 1), .leN (0 + addO (addO (addO (addO (addO (addO ys.length 1) 1) 1) 1) 1) 1) (List.take (addO (addO (addO (addO (addO ys.length 1) 1) 1) 1) 1) (List.take (addO (addO (addO (addO ys.length 1) 1) 1) 1) (List.take (addO (addO (addO ys.length 1) 1) 1) (List.take (addO (addO ys.length 1) 1)
 (List.take (addO ys.length 1) (List.take ys.length ys ++ [x / 72057594037927936 % 256]) ++ [x / 281474976710656 % 256]) ++ [x / 1099511627776 % 256]) ++ [x / 4294967296 % 256]) ++ [x / 16777216 % 256]) ++ [x / 65536 % 256]).length, .leN (addO (addO (addO (addO (addO (addO (addO ys.length 1) 1) 1) 1) 1) 1) 1) 140737488355328, .eqN (g5 + 1 + 1 + 1 + 1 + 1 + 1 + 1) (g5 + 1 + 1 + 1 + 1 + 1 + 1 + 1),
 .leN (0 + addO (addO (addO (addO (addO (addO (addO ys.length 1) 1) 1) 1) 1) 1) 1) (List.take (addO (addO (addO (addO (addO (addO ys.length 1) 1) 1) 1) 1) 1) (List.take (addO (addO (addO (addO (addO ys.length 1) 1) 1) 1) 1) (List.take (addO (addO (addO (addO ys.length 1) 1) 1) 1) (List.take (addO (addO (addO ys.length 1) 1) 1) (List.take (addO (addO ys.length 1) 1) (List.take (addO ys.length 1)
 (List.take ys.length ys ++ [x / 72057594037927936 % 256]) ++ [x / 281474976710656 % 256]) ++ [x / 1099511627776 % 256]) ++ [x / 4294967296 % 256]) ++ [x / 16777216 % 256]) ++ [x / 65536 % 256]) ++ [x / 256 % 256]).length, .leN (addO (addO (addO (addO (addO (addO (addO (addO ys.length 1) 1) 1) 1) 1) 1) 1) 1) 140737488355328]) : Ok (PI37 x r y0 y1 y2 y3 y4 y5 y6 y7 ys g5 x0 x1 x2 x3 x4 x5 x6 x7 zs xs
 g g4 ow) := Ok.dem (fl := bitsF 88 292551780168198684896165775) (by kernel_rfl) (by kernel_rfl) (by kernel_rfl) h
theorem PI37_ex {x r y0 y1 y2 y3 y4 y5 y6 y7 : Int} {ys : List Int} {g5 : Nat} {x0 x1 x2 x3 x4 x5 x6 x7 : Int} {zs xs : List Int} {g g4 : Nat} {ow : Bool} : (PI37 x r y0 y1 y2 y3 y4 y5 y6 y7 ys g5 x0 x1 x2 x3 x4 x5 x6 x7 zs xs g g4 ow).ex = .normal := by kernel_rfl
theorem PI37_fm {x r y0 y1 y2 y3 y4 y5 y6 y7 : Int} {ys : List Int} {g5 : Nat} {x0 x1 x2 x3 x4 x5 x6 x7 : Int} {zs xs : List Int} {g g4 : Nat} {ow : Bool} : (PI37 x r y0 y1 y2 y3 y4 y5 y6 y7 ys g5 x0 x1 x2 x3 x4 x5 x6 x7 zs xs g g4 ow).fm = [(2, .var 1 0), (9, .slice 1 5 (g5 + 1 + 1 + 1 + 1 + 1 + 1 + 1 + 1) 0 (addO (addO (addO (addO (addO (addO (addO (addO ys.length 1) 1) 1) 1) 1) 1) 1) 1) none),
 (69, .agg [.int .u64 y0, .int .u64 y1, .int .u64 y2, .int .u64 y3, .int .u64 y4, .int .u64 y5, .int .u64 y6, .int .u64 y7]), (70, .int .i64 r)] := by kernel_rfl
theorem PI37_tab {x r y0 y1 y2 y3 y4 y5 y6 y7 : Int} {ys : List Int} {g5 : Nat} {x0 x1 x2 x3 x4 x5 x6 x7 : Int} {zs xs : List Int} {g g4 : Nat} {ow : Bool} : (PI37 x r y0 y1 y2 y3 y4 y5 y6 y7 ys g5 x0 x1 x2 x3 x4 x5 x6 x7 zs xs g g4 ow).tab = [some ⟨.ints .u8 zs, g, ow, 5⟩, some ⟨.ints .i64 [64, 80, 1, 8, 7, 19, 61, 6, 28, 34, 39, 14, 18, 41], 0, true, 50⟩, some ⟨.agg [.int .i64 64, .int .i64 80,
 .int .i64 1, .int .i64 8, .int .i64 7, .int .i64 19, .int .i64 61, .int .i64 6, .int .i64 28, .int .i64 34, .int .i64 39, .int .i64 14, .int .i64 18, .int .i64 41, .int .u64 x0, .int .u64 x1, .int .u64 x2, .int .u64 x3, .int .u64 x4, .int .u64 x5, .int .u64 x6, .int .u64 x7], 0, true, 73⟩, some ⟨.ints .u8 [128], 0, true, 5⟩, some ⟨.ints .u8 xs, g4, true, 5⟩, some ⟨.ints .u8 (List.take (addO (addO
 (addO (addO (addO (addO (addO ys.length 1) 1) 1) 1) 1) 1) 1) (List.take (addO (addO (addO (addO (addO (addO ys.length 1) 1) 1) 1) 1) 1) (List.take (addO (addO (addO (addO (addO ys.length 1) 1) 1) 1) 1) (List.take (addO (addO (addO (addO ys.length 1) 1) 1) 1) (List.take (addO (addO (addO ys.length 1) 1) 1) (List.take (addO (addO ys.length 1) 1) (List.take (addO ys.length 1) (List.take ys.length ys
 ++ [x / 72057594037927936 % 256]) ++ [x / 281474976710656 % 256]) ++ [x / 1099511627776 % 256]) ++ [x / 4294967296 % 256]) ++ [x / 16777216 % 256]) ++ [x / 65536 % 256]) ++ [x / 256 % 256]) ++ [x / 1 % 256]), g5 + 1 + 1 + 1 + 1 + 1 + 1 + 1 + 1, true, 5⟩] := by kernel_rfl
noncomputable def PN37 (x r y0 y1 y2 y3 y4 y5 y6 y7 : Int) (x0 x1 x2 x3 x4 x5 x6 x7 : Int) (zs xs : List Int) (g g4 : Nat) (ow : Bool) : Out := trimG 5 [0,1,2,3,4,6] [2,9,69,70] (run eX64 89 ⟨5, []⟩ 400 (.block 8 (.loop (roundOf 8 f37))) [(2, .var 1 0), (9, .nilSlice), (11, .int .u64 x), (12, .int .i64 56), (69, .agg [.int .u64 y0, .int .u64 y1, .int .u64 y2, .int .u64 y3, .int .u64 y4, .int .u64 y5, .int .u64 y6, .int .u64 y7]), (70, .int .i64 r)] [some ⟨.ints .u8 zs, g, ow, 5⟩, some ⟨.ints .i64 [64, 80, 1, 8, 7, 19, 61, 6, 28, 34, 39, 14, 18, 41], 0, true, 50⟩, some ⟨.agg [.int .i64 64, .int .i64 80, .int .i64 1, .int .i64 8, .int .i64 7, .int .i64 19, .int .i64 61, .int .i64 6, .int .i64 28, .int .i64 34, .int .i64 39, .int .i64 14, .int .i64 18, .int .i64 41, .int .u64 x0, .int .u64 x1, .int .u64 x2, .int .u64 x3, .int .u64 x4, .int .u64 x5, .int .u64 x6, .int .u64 x7], 0, true, 73⟩, some ⟨.ints .u8 [128], 0, true, 5⟩, some ⟨.ints .u8 xs, g4, true, 5⟩] [])
theorem PN37_ok {x r y0 y1 y2 y3 y4 y5 y6 y7 : Int} {x0 x1 x2 x3 x4 x5 x6 x7 : Int} {zs xs : List Int} {g g4 : Nat} {ow : Bool} (h : allP []) : Ok (PN37 x r y0 y1 y2 y3 y4 y5 y6 y7 x0 x1 x2 x3 x4 x5 x6 x7 zs xs g g4 ow) := Ok.dem (fl := bitsF 86 77371252455336267181195263) (by kernel_rfl) (by kernel_rfl) (by kernel_rfl) h
theorem PN37_ex {x r y0 y1 y2 y3 y4 y5 y6 y7 : Int} {x0 x1 x2 x3 x4 x5 x6 x7 : Int} {zs xs : List Int} {g g4 : Nat} {ow : Bool} : (PN37 x r y0 y1 y2 y3 y4 y5 y6 y7 x0 x1 x2 x3 x4 x5 x6 x7 zs xs g g4 ow).ex = .normal := by kernel_rfl
theorem PN37_fm {x r y0 y1 y2 y3 y4 y5 y6 y7 : Int} {x0 x1 x2 x3 x4 x5 x6 x7 : Int} {zs xs : List Int} {g g4 : Nat} {ow : Bool} : (PN37 x r y0 y1 y2 y3 y4 y5 y6 y7 x0 x1 x2 x3 x4 x5 x6 x7 zs xs g g4 ow).fm = [(2, .var 1 0), (9, .slice 1 5 7 0 8 none), (69, .agg [.int .u64 y0, .int .u64 y1, .int .u64 y2, .int .u64 y3, .int .u64 y4, .int .u64 y5, .int .u64 y6, .int .u64 y7]), (70, .int .i64 r)] := by
 kernel_rfl
theorem PN37_tab {x r y0 y1 y2 y3 y4 y5 y6 y7 : Int} {x0 x1 x2 x3 x4 x5 x6 x7 : Int} {zs xs : List Int} {g g4 : Nat} {ow : Bool} : (PN37 x r y0 y1 y2 y3 y4 y5 y6 y7 x0 x1 x2 x3 x4 x5 x6 x7 zs xs g g4 ow).tab = [some ⟨.ints .u8 zs, g, ow, 5⟩, some ⟨.ints .i64 [64, 80, 1, 8, 7, 19, 61, 6, 28, 34, 39, 14, 18, 41], 0, true, 50⟩, some ⟨.agg [.int .i64 64, .int .i64 80, .int .i64 1, .int .i64 8, .int
 .i64 7, .int .i64 19, .int .i64 61, .int .i64 6, .int .i64 28, .int .i64 34, .int .i64 39, .int .i64 14, .int .i64 18, .int .i64 41, .int .u64 x0, .int .u64 x1, .int .u64 x2, .int .u64 x3, .int .u64 x4, .int .u64 x5, .int .u64 x6, .int .u64 x7], 0, true, 73⟩, some ⟨.ints .u8 [128], 0, true, 5⟩, some ⟨.ints .u8 xs, g4, true, 5⟩, some ⟨.ints .u8 [x / 72057594037927936 % 256, x / 281474976710656 %
 256, x / 1099511627776 % 256, x / 4294967296 % 256, x / 16777216 % 256, x / 65536 % 256, x / 256 % 256, x / 1 % 256], 7, true, 5⟩] := by kernel_rfl
noncomputable def gL37 : List AVal → Tab → Out := fun vs T => match vs, T with
  | [.slice 1 4 g4' 0 m none, .var 1 0, .var 2 0, .int .i64 b, .int .u64 x, .int .i64 s], [some ⟨.ints .u8 zs, g, ow, 5⟩, some ⟨.ints .i64 [64, 80, 1, 8, 7, 19, 61, 6, 28, 34, 39, 14, 18, 41], 0, true, 50⟩, some ⟨.agg [.int .i64 64, .int .i64 80, .int .i64 1, .int .i64 8, .int .i64 7, .int .i64 19, .int .i64 61, .int .i64 6, .int .i64 28, .int .i64 34, .int .i64 39, .int .i64 14, .int .i64 18, .int .i64 41, .int .u64 x0, .int .u64 x1, .int .u64 x2, .int .u64 x3, .int .u64 x4, .int .u64 x5, .int .u64 x6, .int .u64 x7], 0, true, 73⟩, some ⟨.ints .u8 [128], 0, true, 5⟩, some ⟨.ints .u8 xs, g4, true, 5⟩] =>
    ⟨[.eqN g4' g4, .eqN m xs.length, .rng 128 b 128, .rng 56 s 56, .leN (xs.length + 8) 140737488355328], .normal, [(1, .slice 1 4 (g4 + 8) 0 (m + 8) none), (2, .var 1 0), (5, .var 2 0), (6, .int .i64 128)],
      [some ⟨.ints .u8 zs, g, ow, 5⟩, some ⟨.ints .i64 [64, 80, 1, 8, 7, 19, 61, 6, 28, 34, 39, 14, 18, 41], 0, true, 50⟩, some ⟨.agg [.int .i64 64, .int .i64 80, .int .i64 1, .int .i64 8, .int .i64 7, .int .i64 19, .int .i64 61, .int .i64 6, .int .i64 28, .int .i64 34, .int .i64 39, .int .i64 14, .int .i64 18, .int .i64 41, .int .u64 x0, .int .u64 x1, .int .u64 x2, .int .u64 x3, .int .u64 x4, .int .u64 x5, .int .u64 x6, .int .u64 x7], 0, true, 73⟩, some ⟨.ints .u8 [128], 0, true, 5⟩, some ⟨.ints .u8 (xs ++ beLaw 8 x), g4 + 8, true, 5⟩], []⟩
  | _, _ => failO
theorem gL37_ok : BlkOk eX64 f37 2 (.loop (roundOf 2 f37)) (blkS 5 [1,2,5,6,7,8] gL37) := by
  refine blkS_ok fun vs T h => ?_
  unfold gL37 at h ⊢
  split at h
  · rename_i g4' m b x s zs g ow x0 x1 x2 x3 x4 x5 x6 x7 xs g4
    obtain ⟨h1, h2, h3, h4, h5, _⟩ := h.h
    simp only [Con.h] at h1 h2 h3 h4 h5
    obtain rfl : b = 128 := by omega
    obtain rfl : s = 56 := by omega
    subst h1 h2
    refine To.of (o := PL37 x x0 x1 x2 x3 x4 x5 x6 x7 zs xs g g4' ow) eX64_ok hmS (Nat.le_refl 5) OrcOk.nil rfl (PL37_ok ?_) PL37_ex (by rw [PL37_fm]; simp only [addO_eq]) ?_
    · simp only [allP, Con.h, addO_eq, List.take_length, take_snoc, List.length_append, List.length_cons, List.length_nil, Nat.zero_add, Nat.le_refl, eq_self, true_and, and_true]
      omega
    · rw [PL37_tab]
      simp only [addO_eq, List.take_length, take_snoc, List.length_append, List.length_cons, List.length_nil, Nat.zero_add]
      simp only [List.append_assoc]
      rfl
  · exact absurd h nofailO
noncomputable def gI37 : List AVal → Tab → Out := fun vs T => match vs, T with
  | [.var 1 0, .slice 1 5 g5' 0 m none, .int .u64 x, .int .i64 s, .agg [.int .u64 y0, .int .u64 y1, .int .u64 y2, .int .u64 y3, .int .u64 y4, .int .u64 y5, .int .u64 y6, .int .u64 y7], .int .i64 r], [some ⟨.ints .u8 zs, g, ow, 5⟩, some ⟨.ints .i64 [64, 80, 1, 8, 7, 19, 61, 6, 28, 34, 39, 14, 18, 41], 0, true, 50⟩, some ⟨.agg [.int .i64 64, .int .i64 80, .int .i64 1, .int .i64 8, .int .i64 7, .int .i64 19, .int .i64 61, .int .i64 6, .int .i64 28, .int .i64 34, .int .i64 39, .int .i64 14, .int .i64 18, .int .i64 41, .int .u64 x0, .int .u64 x1, .int .u64 x2, .int .u64 x3, .int .u64 x4, .int .u64 x5, .int .u64 x6, .int .u64 x7], 0, true, 73⟩, some ⟨.ints .u8 [128], 0, true, 5⟩, some ⟨.ints .u8 xs, g4, true, 5⟩, some ⟨.ints .u8 ys, g5, true, 5⟩] =>
    ⟨[.eqN g5' g5, .eqN m ys.length, .rng 56 s 56, .leN (ys.length + 8) 140737488355328], .normal, [(2, .var 1 0), (9, .slice 1 5 (g5 + 8) 0 (m + 8) none), (69, .agg [.int .u64 y0, .int .u64 y1, .int .u64 y2, .int .u64 y3, .int .u64 y4, .int .u64 y5, .int .u64 y6, .int .u64 y7]), (70, .int .i64 r)],
      [some ⟨.ints .u8 zs, g, ow, 5⟩, some ⟨.ints .i64 [64, 80, 1, 8, 7, 19, 61, 6, 28, 34, 39, 14, 18, 41], 0, true, 50⟩, some ⟨.agg [.int .i64 64, .int .i64 80, .int .i64 1, .int .i64 8, .int .i64 7, .int .i64 19, .int .i64 61, .int .i64 6, .int .i64 28, .int .i64 34, .int .i64 39, .int .i64 14, .int .i64 18, .int .i64 41, .int .u64 x0, .int .u64 x1, .int .u64 x2, .int .u64 x3, .int .u64 x4, .int .u64 x5, .int .u64 x6, .int .u64 x7], 0, true, 73⟩, some ⟨.ints .u8 [128], 0, true, 5⟩, some ⟨.ints .u8 xs, g4, true, 5⟩, some ⟨.ints .u8 (ys ++ beLaw 8 x), g5 + 8, true, 5⟩], []⟩
  | _, _ => failO
theorem gI37_ok : BlkOk eX64 f37 8 (.loop (roundOf 8 f37)) (blkS 6 [2,9,11,12,69,70] gI37) := by
  refine blkS_ok fun vs T h => ?_
  unfold gI37 at h ⊢
  split at h
  · rename_i g5' m x s y0 y1 y2 y3 y4 y5 y6 y7 r zs g ow x0 x1 x2 x3 x4 x5 x6 x7 xs g4 ys g5
    obtain ⟨h1, h2, h3, h4, _⟩ := h.h
    simp only [Con.h] at h1 h2 h3 h4
    obtain rfl : s = 56 := by omega
    subst h1 h2
    refine To.of (o := PI37 x r y0 y1 y2 y3 y4 y5 y6 y7 ys g5' x0 x1 x2 x3 x4 x5 x6 x7 zs xs g g4 ow) eX64_ok hmS (Nat.le_refl 6) OrcOk.nil rfl (PI37_ok ?_) PI37_ex (by rw [PI37_fm]; simp only [addO_eq]) ?_
    · simp only [allP, Con.h, addO_eq, List.take_length, take_snoc, List.length_append, List.length_cons, List.length_nil, Nat.zero_add, Nat.le_refl, eq_self, true_and, and_true]
      omega
    · rw [PI37_tab]
      simp only [addO_eq, List.take_length, take_snoc, List.length_append, List.length_cons, List.length_nil, Nat.zero_add]
      simp only [List.append_assoc]
      rfl
  · exact absurd h nofailO
noncomputable def gN37 : List AVal → Tab → Out := fun vs T => match vs, T with
  | [.var 1 0, .nilSlice, .int .u64 x, .int .i64 s, .agg [.int .u64 y0, .int .u64 y1, .int .u64 y2, .int .u64 y3, .int .u64 y4, .int .u64 y5, .int .u64 y6, .int .u64 y7], .int .i64 r], [some ⟨.ints .u8 zs, g, ow, 5⟩, some ⟨.ints .i64 [64, 80, 1, 8, 7, 19, 61, 6, 28, 34, 39, 14, 18, 41], 0, true, 50⟩, some ⟨.agg [.int .i64 64, .int .i64 80, .int .i64 1, .int .i64 8, .int .i64 7, .int .i64 19, .int .i64 61, .int .i64 6, .int .i64 28, .int .i64 34, .int .i64 39, .int .i64 14, .int .i64 18, .int .i64 41, .int .u64 x0, .int .u64 x1, .int .u64 x2, .int .u64 x3, .int .u64 x4, .int .u64 x5, .int .u64 x6, .int .u64 x7], 0, true, 73⟩, some ⟨.ints .u8 [128], 0, true, 5⟩, some ⟨.ints .u8 xs, g4, true, 5⟩] =>
    ⟨[.rng 56 s 56], .normal, [(2, .var 1 0), (9, .slice 1 5 7 0 8 none), (69, .agg [.int .u64 y0, .int .u64 y1, .int .u64 y2, .int .u64 y3, .int .u64 y4, .int .u64 y5, .int .u64 y6, .int .u64 y7]), (70, .int .i64 r)], [some ⟨.ints .u8 zs, g, ow, 5⟩, some ⟨.ints .i64 [64, 80, 1, 8, 7, 19, 61, 6, 28, 34, 39, 14, 18, 41], 0, true, 50⟩, some ⟨.agg [.int .i64 64, .int .i64 80, .int .i64 1, .int .i64 8, .int .i64 7, .int .i64 19, .int .i64 61, .int .i64 6, .int .i64 28, .int .i64 34, .int .i64 39, .int .i64 14, .int .i64 18, .int .i64 41, .int .u64 x0, .int .u64 x1, .int .u64 x2, .int .u64 x3, .int .u64 x4, .int .u64 x5, .int .u64 x6, .int .u64 x7], 0, true, 73⟩, some ⟨.ints .u8 [128], 0, true, 5⟩, some ⟨.ints .u8 xs, g4, true, 5⟩, some ⟨.ints .u8 (beLaw 8 x), 7, true, 5⟩], []⟩
  | _, _ => failO
theorem gN37_ok : BlkOk eX64 f37 8 (.loop (roundOf 8 f37)) (blkS2 5 5 [2,9,11,12,69,70] gN37) := by
  refine blkS2_ok fun vs T h => ?_
  unfold gN37 at h ⊢
  split at h
  · rename_i x s y0 y1 y2 y3 y4 y5 y6 y7 r zs g ow x0 x1 x2 x3 x4 x5 x6 x7 xs g4
    obtain ⟨h1, _⟩ := h.h
    simp only [Con.h] at h1
    obtain rfl : s = 56 := by omega
    exact To.ofG (o := PN37 x r y0 y1 y2 y3 y4 y5 y6 y7 x0 x1 x2 x3 x4 x5 x6 x7 zs xs g g4 ow) eX64_ok hmS (Nat.le_refl 5) OrcOk.nil rfl (PN37_ok (by simp [allP])) PN37_ex PN37_fm PN37_tab
  · exact absurd h nofailO
noncomputable def orc37 : OrcL := [(0, blkS 5 [1,2,5,6,7] gP37), (2, blkS 5 [1,2,5,6,7,8] gL37), (4, blkS 5 [1,2,5,6] gE37), (8, blkAlt 9 (blkS2 5 5 [2,9,11,12,69,70] gN37) (blkS 6 [2,9,11,12,69,70] gI37))]
theorem orc37_ok : FnOrc eX64 f37 orc37 := FnOrc.cons gP37_ok (by kernel_rfl) (FnOrc.cons gL37_ok (by kernel_rfl) (FnOrc.cons gE37_ok (by kernel_rfl) (FnOrc.cons (blkAlt_ok gN37_ok gI37_ok) (by kernel_rfl) FnOrc.nil)))
end Go.Abs

set_option linter.unusedVariables false
set_option linter.unusedSimpArgs false
set_option maxRecDepth 8000
namespace Go.Abs
open Go.Proofs Go.Proofs.Tryd
noncomputable def R33n (off n c g : Nat) (zs : List Int) : Res := resG 1 [0, 5] (runF eX32 f33 orc33 2000 [.ints .i64 [32, 64, 7, 18, 3, 17, 19, 10, 2, 13, 22, 6, 11, 25], .slice 1 0 g off n none] [some ⟨.ints .u8 zs, g, false, 5⟩] [])
theorem R33n_ok {off n c g : Nat} {zs : List Int} (h : allP [.eqN g g, .rng 0 (↑n : Int) 18446744073709551615, .eqN g g, .eqN g g, .leI 0 (↑n : Int), .leI 0 (↑n : Int), .eqN g g, .leN 0 n, .leN n n, .orN n n (off + n) zs.length, .eqN g g, .leN (addO off 0 + n) zs.length, .p (n < addO n 1 ∨ n = 0 ∧ n = 0), .leN (addO n 1) 140737488355328, .eqN (addO n 1) (List.take n (dropO (addO off 0) zs) ++
 [128]).length, .leN ((List.take n (dropO (addO off 0) zs) ++ [128]).length + 64) 140737488355328, .eqN (0 + padLaw 64 (addO n 1)) (0 + padLaw 64 (addO n 1)), .leN (0 + (addO n 1 + padLaw 64 (addO n 1))) (List.take n (dropO (addO off 0) zs) ++ [128] ++ zeroLaw (padLaw 64 (addO n 1))).length, .leN (addO (addO n 1 + padLaw 64 (addO n 1)) 0) 140737488355328, .eqN (0 + padLaw 64 (addO n 1) + 1) (0 +
 padLaw 64 (addO n 1) + 1), .eqN (addO (addO n 1 + padLaw 64 (addO n 1)) 0) (List.take (addO n 1 + padLaw 64 (addO n 1)) (List.take n (dropO (addO off 0) zs) ++ [128] ++ zeroLaw (padLaw 64 (addO n 1))) ++ []).length, .leN ((List.take (addO n 1 + padLaw 64 (addO n 1)) (List.take n (dropO (addO off 0) zs) ++ [128] ++ zeroLaw (padLaw 64 (addO n 1))) ++ []).length + 8) 140737488355328, .eqN (0 + padLaw
 64 (addO n 1) + 1 + 8) (0 + padLaw 64 (addO n 1) + 1 + 8), .eqN (addO (addO n 1 + padLaw 64 (addO n 1)) 0 + 8) (List.take (addO n 1 + padLaw 64 (addO n 1)) (List.take n (dropO (addO off 0) zs) ++ [128] ++ zeroLaw (padLaw 64 (addO n 1))) ++ [] ++ beLaw 8 ((↑n : Int) * 8 % 18446744073709551616)).length, .p ((List.take (addO n 1 + padLaw 64 (addO n 1)) (List.take n (dropO (addO off 0) zs) ++ [128] ++
 zeroLaw (padLaw 64 (addO n 1))) ++ [] ++ beLaw 8 ((↑n : Int) * 8 % 18446744073709551616)).length % 64 = 0), .p (BsLaw (List.take (addO n 1 + padLaw 64 (addO n 1)) (List.take n (dropO (addO off 0) zs) ++ [128] ++ zeroLaw (padLaw 64 (addO n 1))) ++ [] ++ beLaw 8 ((↑n : Int) * 8 % 18446744073709551616))), .p (WdsLaw 32 [1779033703, 3144134277, 1013904242, 2773480762, 1359893119, 2600822924, 528734635,
 1541459225])]) : OkR (R33n off n c g zs) := OkR.dem (fl := bitsF 304 32592575621351777380295131014166985611546901796798532500923640474228542869073824391091978239) (by kernel_rfl) (by kernel_rfl) (by kernel_rfl) h
theorem R33n_val {off n c g : Nat} {zs : List Int} : (R33n off n c g zs).val = .slice 1 1 31 0 32 none := by kernel_rfl
theorem R33n_tab {off n c g : Nat} {zs : List Int} : (R33n off n c g zs).tab = [some ⟨.ints .u8 zs, g, false, 5⟩, some ⟨.ints .u8 (beLaw 4 (stAt32Law (List.take (addO n 1 + padLaw 64 (addO n 1)) (List.take n (dropO (addO off 0) zs) ++ [128] ++ zeroLaw (padLaw 64 (addO n 1))) ++ [] ++ beLaw 8 ((↑n : Int) * 8 % 18446744073709551616)) [1779033703, 3144134277, 1013904242, 2773480762, 1359893119,
 2600822924, 528734635, 1541459225] ((List.take (addO n 1 + padLaw 64 (addO n 1)) (List.take n (dropO (addO off 0) zs) ++ [128] ++ zeroLaw (padLaw 64 (addO n 1))) ++ [] ++ beLaw 8 ((↑n : Int) * 8 % 18446744073709551616)).length / 64) 0) ++ beLaw 4 (stAt32Law (List.take (addO n 1 + padLaw 64 (addO n 1)) (List.take n (dropO (addO off 0) zs) ++ [128] ++ zeroLaw (padLaw 64 (addO n 1))) ++ [] ++ beLaw 8
 ((↑n : Int) * 8 % 18446744073709551616)) [1779033703, 3144134277, 1013904242, 2773480762, 1359893119, 2600822924, 528734635, 1541459225] ((List.take (addO n 1 + padLaw 64 (addO n 1)) (List.take n (dropO (addO off 0) zs) ++ [128] ++ zeroLaw (padLaw 64 (addO n 1))) ++ [] ++ beLaw 8 ((↑n : Int) * 8 % 18446744073709551616)).length / 64) 1) ++ beLaw 4 (stAt32Law (List.take (addO n 1 + padLaw 64 (addO n
 1)) (List.take n (dropO (addO off 0) zs) ++ [128] ++ zeroLaw (padLaw 64 (addO n 1))) ++ [] ++ beLaw 8 ((↑n : Int) * 8 % 18446744073709551616)) [1779033703, 3144134277, 1013904242, 2773480762, 1359893119, 2600822924, 528734635, 1541459225] ((List.take (addO n 1 + padLaw 64 (addO n 1)) (List.take n (dropO (addO off 0) zs) ++ [128] ++ zeroLaw (padLaw 64 (addO n 1))) ++ [] ++ beLaw 8 ((↑n : Int) * 8 %
 18446744073709551616)).length / 64) 2) ++ beLaw 4 (stAt32Law (List.take (addO n 1 + padLaw 64 (addO n 1)) (List.take n (dropO (addO off 0) zs) ++ [128] ++ zeroLaw (padLaw 64 (addO n 1))) ++ [] ++ beLaw 8 ((↑n : Int) * 8 % 18446744073709551616)) [1779033703, 3144134277, 1013904242, 2773480762, 1359893119, 2600822924, 528734635, 1541459225] ((List.take (addO n 1 + padLaw 64 (addO n 1)) (List.take n
 (dropO (addO off 0) zs) ++ [128] ++ zeroLaw (padLaw 64 (addO n 1))) ++ [] ++ beLaw 8 ((↑n : Int) * 8 % 18446744073709551616)).length / 64) 3) ++ beLaw 4 (stAt32Law (List.take (addO n 1 + padLaw 64 (addO n 1)) (List.take n (dropO (addO off 0) zs) ++ [128] ++ zeroLaw (padLaw 64 (addO n 1))) ++ [] ++ beLaw 8 ((↑n : Int) * 8 % 18446744073709551616)) [1779033703, 3144134277, 1013904242, 2773480762,
 1359893119, 2600822924, 528734635, 1541459225] ((List.take (addO n 1 + padLaw 64 (addO n 1)) (List.take n (dropO (addO off 0) zs) ++ [128] ++ zeroLaw (padLaw 64 (addO n 1))) ++ [] ++ beLaw 8 ((↑n : Int) * 8 % 18446744073709551616)).length / 64) 4) ++ beLaw 4 (stAt32Law (List.take (addO n 1 + padLaw 64 (addO n 1)) (List.take n (dropO (addO off 0) zs) ++ [128] ++ zeroLaw (padLaw 64 (addO n 1))) ++ []
 ++ beLaw 8 ((↑n : Int) * 8 % 18446744073709551616)) [1779033703, 3144134277, 1013904242, 2773480762, 1359893119, 2600822924, 528734635, 1541459225] ((List.take (addO n 1 + padLaw 64 (addO n 1)) (List.take n (dropO (addO off 0) zs) ++ [128] ++ zeroLaw (padLaw 64 (addO n 1))) ++ [] ++ beLaw 8 ((↑n : Int) * 8 % 18446744073709551616)).length / 64) 5) ++ beLaw 4 (stAt32Law (List.take (addO n 1 + padLaw
 64 (addO n 1)) (List.take n (dropO (addO off 0) zs) ++ [128] ++ zeroLaw (padLaw 64 (addO n 1))) ++ [] ++ beLaw 8 ((↑n : Int) * 8 % 18446744073709551616)) [1779033703, 3144134277, 1013904242, 2773480762, 1359893119, 2600822924, 528734635, 1541459225] ((List.take (addO n 1 + padLaw 64 (addO n 1)) (List.take n (dropO (addO off 0) zs) ++ [128] ++ zeroLaw (padLaw 64 (addO n 1))) ++ [] ++ beLaw 8 ((↑n :
 Int) * 8 % 18446744073709551616)).length / 64) 6) ++ beLaw 4 (stAt32Law (List.take (addO n 1 + padLaw 64 (addO n 1)) (List.take n (dropO (addO off 0) zs) ++ [128] ++ zeroLaw (padLaw 64 (addO n 1))) ++ [] ++ beLaw 8 ((↑n : Int) * 8 % 18446744073709551616)) [1779033703, 3144134277, 1013904242, 2773480762, 1359893119, 2600822924, 528734635, 1541459225] ((List.take (addO n 1 + padLaw 64 (addO n 1))
 (List.take n (dropO (addO off 0) zs) ++ [128] ++ zeroLaw (padLaw 64 (addO n 1))) ++ [] ++ beLaw 8 ((↑n : Int) * 8 % 18446744073709551616)).length / 64) 7)), 31, true, 5⟩] := by kernel_rfl
noncomputable def R33s (off n c g : Nat) (zs : List Int) : Res := resG 1 [0, 5] (runF eX32 f33 orc33 2000 [.ints .i64 [32, 64, 7, 18, 3, 17, 19, 10, 2, 13, 22, 6, 11, 25], .slice 1 0 g off n (some c)] [some ⟨.ints .u8 zs, g, false, 5⟩] [])
theorem R33s_ok {off n c g : Nat} {zs : List Int} (h : allP [.eqN g g, .rng 0 (↑n : Int) 18446744073709551615, .eqN g g, .eqN g g, .leI 0 (↑n : Int), .leI 0 (↑n : Int), .eqN g g, .leN 0 n, .leN n n, .leN n c, .eqN g g, .leN (addO off 0 + n) zs.length, .p (n < addO n 1 ∨ n = 0 ∧ n = 0), .leN (addO n 1) 140737488355328, .eqN (addO n 1) (List.take n (dropO (addO off 0) zs) ++ [128]).length, .leN
 ((List.take n (dropO (addO off 0) zs) ++ [128]).length + 64) 140737488355328, .eqN (0 + padLaw 64 (addO n 1)) (0 + padLaw 64 (addO n 1)), .leN (0 + (addO n 1 + padLaw 64 (addO n 1))) (List.take n (dropO (addO off 0) zs) ++ [128] ++ zeroLaw (padLaw 64 (addO n 1))).length, .leN (addO (addO n 1 + padLaw 64 (addO n 1)) 0) 140737488355328, .eqN (0 + padLaw 64 (addO n 1) + 1) (0 + padLaw 64 (addO n 1) +
 1), .eqN (addO (addO n 1 + padLaw 64 (addO n 1)) 0) (List.take (addO n 1 + padLaw 64 (addO n 1)) (List.take n (dropO (addO off 0) zs) ++ [128] ++ zeroLaw (padLaw 64 (addO n 1))) ++ []).length, .leN ((List.take (addO n 1 + padLaw 64 (addO n 1)) (List.take n (dropO (addO off 0) zs) ++ [128] ++ zeroLaw (padLaw 64 (addO n 1))) ++ []).length + 8) 140737488355328, .eqN (0 + padLaw 64 (addO n 1) + 1 + 8)
 (0 + padLaw 64 (addO n 1) + 1 + 8), .eqN (addO (addO n 1 + padLaw 64 (addO n 1)) 0 + 8) (List.take (addO n 1 + padLaw 64 (addO n 1)) (List.take n (dropO (addO off 0) zs) ++ [128] ++ zeroLaw (padLaw 64 (addO n 1))) ++ [] ++ beLaw 8 ((↑n : Int) * 8 % 18446744073709551616)).length, .p ((List.take (addO n 1 + padLaw 64 (addO n 1)) (List.take n (dropO (addO off 0) zs) ++ [128] ++ zeroLaw (padLaw 64
 (addO n 1))) ++ [] ++ beLaw 8 ((↑n : Int) * 8 % 18446744073709551616)).length % 64 = 0), .p (BsLaw (List.take (addO n 1 + padLaw 64 (addO n 1)) (List.take n (dropO (addO off 0) zs) ++ [128] ++ zeroLaw (padLaw 64 (addO n 1))) ++ [] ++ beLaw 8 ((↑n : Int) * 8 % 18446744073709551616))), .p (WdsLaw 32 [1779033703, 3144134277, 1013904242, 2773480762, 1359893119, 2600822924, 528734635, 1541459225])]) :
 OkR (R33s off n c g zs) := OkR.dem (fl := bitsF 304 32592575621351777380295131014166985611546901796798532500923640474228542869073824391091978239) (by kernel_rfl) (by kernel_rfl) (by kernel_rfl) h
theorem R33s_val {off n c g : Nat} {zs : List Int} : (R33s off n c g zs).val = .slice 1 1 31 0 32 none := by kernel_rfl
theorem R33s_tab {off n c g : Nat} {zs : List Int} : (R33s off n c g zs).tab = [some ⟨.ints .u8 zs, g, false, 5⟩, some ⟨.ints .u8 (beLaw 4 (stAt32Law (List.take (addO n 1 + padLaw 64 (addO n 1)) (List.take n (dropO (addO off 0) zs) ++ [128] ++ zeroLaw (padLaw 64 (addO n 1))) ++ [] ++ beLaw 8 ((↑n : Int) * 8 % 18446744073709551616)) [1779033703, 3144134277, 1013904242, 2773480762, 1359893119,
 2600822924, 528734635, 1541459225] ((List.take (addO n 1 + padLaw 64 (addO n 1)) (List.take n (dropO (addO off 0) zs) ++ [128] ++ zeroLaw (padLaw 64 (addO n 1))) ++ [] ++ beLaw 8 ((↑n : Int) * 8 % 18446744073709551616)).length / 64) 0) ++ beLaw 4 (stAt32Law (List.take (addO n 1 + padLaw 64 (addO n 1)) (List.take n (dropO (addO off 0) zs) ++ [128] ++ zeroLaw (padLaw 64 (addO n 1))) ++ [] ++ beLaw 8
 ((↑n : Int) * 8 % 18446744073709551616)) [1779033703, 3144134277, 1013904242, 2773480762, 1359893119, 2600822924, 528734635, 1541459225] ((List.take (addO n 1 + padLaw 64 (addO n 1)) (List.take n (dropO (addO off 0) zs) ++ [128] ++ zeroLaw (padLaw 64 (addO n 1))) ++ [] ++ beLaw 8 ((↑n : Int) * 8 % 18446744073709551616)).length / 64) 1) ++ beLaw 4 (stAt32Law (List.take (addO n 1 + padLaw 64 (addO n
 1)) (List.take n (dropO (addO off 0) zs) ++ [128] ++ zeroLaw (padLaw 64 (addO n 1))) ++ [] ++ beLaw 8 ((↑n : Int) * 8 % 18446744073709551616)) [1779033703, 3144134277, 1013904242, 2773480762, 1359893119, 2600822924, 528734635, 1541459225] ((List.take (addO n 1 + padLaw 64 (addO n 1)) (List.take n (dropO (addO off 0) zs) ++ [128] ++ zeroLaw (padLaw 64 (addO n 1))) ++ [] ++ beLaw 8 ((↑n : Int) * 8 %
 18446744073709551616)).length / 64) 2) ++ beLaw 4 (stAt32Law (List.take (addO n 1 + padLaw 64 (addO n 1)) (List.take n (dropO (addO off 0) zs) ++ [128] ++ zeroLaw (padLaw 64 (addO n 1))) ++ [] ++ beLaw 8 ((↑n : Int) * 8 % 18446744073709551616)) [1779033703, 3144134277, 1013904242, 2773480762, 1359893119, 2600822924, 528734635, 1541459225] ((List.take (addO n 1 + padLaw 64 (addO n 1)) (List.take n
 (dropO (addO off 0) zs) ++ [128] ++ zeroLaw (padLaw 64 (addO n 1))) ++ [] ++ beLaw 8 ((↑n : Int) * 8 % 18446744073709551616)).length / 64) 3) ++ beLaw 4 (stAt32Law (List.take (addO n 1 + padLaw 64 (addO n 1)) (List.take n (dropO (addO off 0) zs) ++ [128] ++ zeroLaw (padLaw 64 (addO n 1))) ++ [] ++ beLaw 8 ((↑n : Int) * 8 % 18446744073709551616)) [1779033703, 3144134277, 1013904242, 2773480762,
 1359893119, 2600822924, 528734635, 1541459225] ((List.take (addO n 1 + padLaw 64 (addO n 1)) (List.take n (dropO (addO off 0) zs) ++ [128] ++ zeroLaw (padLaw 64 (addO n 1))) ++ [] ++ beLaw 8 ((↑n : Int) * 8 % 18446744073709551616)).length / 64) 4) ++ beLaw 4 (stAt32Law (List.take (addO n 1 + padLaw 64 (addO n 1)) (List.take n (dropO (addO off 0) zs) ++ [128] ++ zeroLaw (padLaw 64 (addO n 1))) ++ []
 ++ beLaw 8 ((↑n : Int) * 8 % 18446744073709551616)) [1779033703, 3144134277, 1013904242, 2773480762, 1359893119, 2600822924, 528734635, 1541459225] ((List.take (addO n 1 + padLaw 64 (addO n 1)) (List.take n (dropO (addO off 0) zs) ++ [128] ++ zeroLaw (padLaw 64 (addO n 1))) ++ [] ++ beLaw 8 ((↑n : Int) * 8 % 18446744073709551616)).length / 64) 5) ++ beLaw 4 (stAt32Law (List.take (addO n 1 + padLaw
 64 (addO n 1)) (List.take n (dropO (addO off 0) zs) ++ [128] ++ zeroLaw (padLaw 64 (addO n 1))) ++ [] ++ beLaw 8 ((↑n : Int) * 8 % 18446744073709551616)) [1779033703, 3144134277, 1013904242, 2773480762, 1359893119, 2600822924, 528734635, 1541459225] ((List.take (addO n 1 + padLaw 64 (addO n 1)) (List.take n (dropO (addO off 0) zs) ++ [128] ++ zeroLaw (padLaw 64 (addO n 1))) ++ [] ++ beLaw 8 ((↑n :
 Int) * 8 % 18446744073709551616)).length / 64) 6) ++ beLaw 4 (stAt32Law (List.take (addO n 1 + padLaw 64 (addO n 1)) (List.take n (dropO (addO off 0) zs) ++ [128] ++ zeroLaw (padLaw 64 (addO n 1))) ++ [] ++ beLaw 8 ((↑n : Int) * 8 % 18446744073709551616)) [1779033703, 3144134277, 1013904242, 2773480762, 1359893119, 2600822924, 528734635, 1541459225] ((List.take (addO n 1 + padLaw 64 (addO n 1))
 (List.take n (dropO (addO off 0) zs) ++ [128] ++ zeroLaw (padLaw 64 (addO n 1))) ++ [] ++ beLaw 8 ((↑n : Int) * 8 % 18446744073709551616)).length / 64) 7)), 31, true, 5⟩] := by kernel_rfl
noncomputable def R37n (off n c g : Nat) (zs : List Int) : Res := resG 1 [0, 5] (runF eX64 f37 orc37 2000 [.ints .i64 [64, 80, 1, 8, 7, 19, 61, 6, 28, 34, 39, 14, 18, 41], .slice 1 0 g off n none] [some ⟨.ints .u8 zs, g, false, 5⟩] [])
theorem R37n_ok {off n c g : Nat} {zs : List Int} (h : allP [.eqN g g, .rng 0 (↑n : Int) 18446744073709551615, .eqN g g, .eqN g g, .leI 0 (↑n : Int), .leI 0 (↑n : Int), .eqN g g, .leN 0 n, .leN n n, .orN n n (off + n) zs.length, .eqN g g, .leN (addO off 0 + n) zs.length, .p (n < addO n 1 ∨ n = 0 ∧ n = 0), .leN (addO n 1) 140737488355328, .eqN (addO n 1) (List.take n (dropO (addO off 0) zs) ++
 [128]).length, .leN ((List.take n (dropO (addO off 0) zs) ++ [128]).length + 128) 140737488355328, .eqN (0 + padLaw 128 (addO n 1)) (0 + padLaw 128 (addO n 1)), .leN (0 + (addO n 1 + padLaw 128 (addO n 1))) (List.take n (dropO (addO off 0) zs) ++ [128] ++ zeroLaw (padLaw 128 (addO n 1))).length, .leN (addO (addO n 1 + padLaw 128 (addO n 1)) 8) 140737488355328, .eqN (0 + padLaw 128 (addO n 1) + 1)
 (0 + padLaw 128 (addO n 1) + 1), .eqN (addO (addO n 1 + padLaw 128 (addO n 1)) 8) (List.take (addO n 1 + padLaw 128 (addO n 1)) (List.take n (dropO (addO off 0) zs) ++ [128] ++ zeroLaw (padLaw 128 (addO n 1))) ++ [0, 0, 0, 0, 0, 0, 0, 0]).length, .leN ((List.take (addO n 1 + padLaw 128 (addO n 1)) (List.take n (dropO (addO off 0) zs) ++ [128] ++ zeroLaw (padLaw 128 (addO n 1))) ++ [0, 0, 0, 0, 0,
 0, 0, 0]).length + 8) 140737488355328, .eqN (0 + padLaw 128 (addO n 1) + 1 + 8) (0 + padLaw 128 (addO n 1) + 1 + 8), .eqN (addO (addO n 1 + padLaw 128 (addO n 1)) 8 + 8) (List.take (addO n 1 + padLaw 128 (addO n 1)) (List.take n (dropO (addO off 0) zs) ++ [128] ++ zeroLaw (padLaw 128 (addO n 1))) ++ [0, 0, 0, 0, 0, 0, 0, 0] ++ beLaw 8 ((↑n : Int) * 8 % 18446744073709551616)).length, .p ((List.take
 (addO n 1 + padLaw 128 (addO n 1)) (List.take n (dropO (addO off 0) zs) ++ [128] ++ zeroLaw (padLaw 128 (addO n 1))) ++ [0, 0, 0, 0, 0, 0, 0, 0] ++ beLaw 8 ((↑n : Int) * 8 % 18446744073709551616)).length % 128 = 0), .p (BsLaw (List.take (addO n 1 + padLaw 128 (addO n 1)) (List.take n (dropO (addO off 0) zs) ++ [128] ++ zeroLaw (padLaw 128 (addO n 1))) ++ [0, 0, 0, 0, 0, 0, 0, 0] ++ beLaw 8 ((↑n :
 Int) * 8 % 18446744073709551616))), .p (WdsLaw 64 [7640891576956012808, 13503953896175478587, 4354685564936845355, 11912009170470909681, 5840696475078001361, 11170449401992604703, 2270897969802886507, 6620516959819538809])]) : OkR (R37n off n c g zs) := OkR.dem (fl := bitsF 304 32592575621351777380295131014166985611546901796798532500923640474228542869073824391091978239) (by kernel_rfl) (by
 kernel_rfl) (by kernel_rfl) h
theorem R37n_val {off n c g : Nat} {zs : List Int} : (R37n off n c g zs).val = .slice 1 1 63 0 64 none := by kernel_rfl
theorem R37n_tab {off n c g : Nat} {zs : List Int} : (R37n off n c g zs).tab = [some ⟨.ints .u8 zs, g, false, 5⟩, some ⟨.ints .u8 (beLaw 8 (stAt64Law (List.take (addO n 1 + padLaw 128 (addO n 1)) (List.take n (dropO (addO off 0) zs) ++ [128] ++ zeroLaw (padLaw 128 (addO n 1))) ++ [0, 0, 0, 0, 0, 0, 0, 0] ++ beLaw 8 ((↑n : Int) * 8 % 18446744073709551616)) [7640891576956012808, 13503953896175478587,
 4354685564936845355, 11912009170470909681, 5840696475078001361, 11170449401992604703, 2270897969802886507, 6620516959819538809] ((List.take (addO n 1 + padLaw 128 (addO n 1)) (List.take n (dropO (addO off 0) zs) ++ [128] ++ zeroLaw (padLaw 128 (addO n 1))) ++ [0, 0, 0, 0, 0, 0, 0, 0] ++ beLaw 8 ((↑n : Int) * 8 % 18446744073709551616)).length / 128) 0) ++ beLaw 8 (stAt64Law (List.take (addO n 1 +
 padLaw 128 (addO n 1)) (List.take n (dropO (addO off 0) zs) ++ [128] ++ zeroLaw (padLaw 128 (addO n 1))) ++ [0, 0, 0, 0, 0, 0, 0, 0] ++ beLaw 8 ((↑n : Int) * 8 % 18446744073709551616)) [7640891576956012808, 13503953896175478587, 4354685564936845355, 11912009170470909681, 5840696475078001361, 11170449401992604703, 2270897969802886507, 6620516959819538809] ((List.take (addO n 1 + padLaw 128 (addO n
 1)) (List.take n (dropO (addO off 0) zs) ++ [128] ++ zeroLaw (padLaw 128 (addO n 1))) ++ [0, 0, 0, 0, 0, 0, 0, 0] ++ beLaw 8 ((↑n : Int) * 8 % 18446744073709551616)).length / 128) 1) ++ beLaw 8 (stAt64Law (List.take (addO n 1 + padLaw 128 (addO n 1)) (List.take n (dropO (addO off 0) zs) ++ [128] ++ zeroLaw (padLaw 128 (addO n 1))) ++ [0, 0, 0, 0, 0, 0, 0, 0] ++ beLaw 8 ((↑n : Int) * 8 %
 18446744073709551616)) [7640891576956012808, 13503953896175478587, 4354685564936845355, 11912009170470909681, 5840696475078001361, 11170449401992604703, 2270897969802886507, 6620516959819538809] ((List.take (addO n 1 + padLaw 128 (addO n 1)) (List.take n (dropO (addO off 0) zs) ++ [128] ++ zeroLaw (padLaw 128 (addO n 1))) ++ [0, 0, 0, 0, 0, 0, 0, 0] ++ beLaw 8 ((↑n : Int) * 8 %
 18446744073709551616)).length / 128) 2) ++ beLaw 8 (stAt64Law (List.take (addO n 1 + padLaw 128 (addO n 1)) (List.take n (dropO (addO off 0) zs) ++ [128] ++ zeroLaw (padLaw 128 (addO n 1))) ++ [0, 0, 0, 0, 0, 0, 0, 0] ++ beLaw 8 ((↑n : Int) * 8 % 18446744073709551616)) [7640891576956012808, 13503953896175478587, 4354685564936845355, 11912009170470909681, 5840696475078001361, 11170449401992604703,
 2270897969802886507, 6620516959819538809] ((List.take (addO n 1 + padLaw 128 (addO n 1)) (List.take n (dropO (addO off 0) zs) ++ [128] ++ zeroLaw (padLaw 128 (addO n 1))) ++ [0, 0, 0, 0, 0, 0, 0, 0] ++ beLaw 8 ((↑n : Int) * 8 % 18446744073709551616)).length / 128) 3) ++ beLaw 8 (stAt64Law (List.take (addO n 1 + padLaw 128 (addO n 1)) (List.take n (dropO (addO off 0) zs) ++ [128] ++ zeroLaw (padLaw
 128 (addO n 1))) ++ [0, 0, 0, 0, 0, 0, 0, 0] ++ beLaw 8 ((↑n : Int) * 8 % 18446744073709551616)) [7640891576956012808, 13503953896175478587, 4354685564936845355, 11912009170470909681, 5840696475078001361, 11170449401992604703, 2270897969802886507, 6620516959819538809] ((List.take (addO n 1 + padLaw 128 (addO n 1)) (List.take n (dropO (addO off 0) zs) ++ [128] ++ zeroLaw (padLaw 128 (addO n 1))) ++
 [0, 0, 0, 0, 0, 0, 0, 0] ++ beLaw 8 ((↑n : Int) * 8 % 18446744073709551616)).length / 128) 4) ++ beLaw 8 (stAt64Law (List.take (addO n 1 + padLaw 128 (addO n 1)) (List.take n (dropO (addO off 0) zs) ++ [128] ++ zeroLaw (padLaw 128 (addO n 1))) ++ [0, 0, 0, 0, 0, 0, 0, 0] ++ beLaw 8 ((↑n : Int) * 8 % 18446744073709551616)) [7640891576956012808, 13503953896175478587, 4354685564936845355,
 11912009170470909681, 5840696475078001361, 11170449401992604703, 2270897969802886507, 6620516959819538809] ((List.take (addO n 1 + padLaw 128 (addO n 1)) (List.take n (dropO (addO off 0) zs) ++ [128] ++ zeroLaw (padLaw 128 (addO n 1))) ++ [0, 0, 0, 0, 0, 0, 0, 0] ++ beLaw 8 ((↑n : Int) * 8 % 18446744073709551616)).length / 128) 5) ++ beLaw 8 (stAt64Law (List.take (addO n 1 + padLaw 128 (addO n 1))
 (List.take n (dropO (addO off 0) zs) ++ [128] ++ zeroLaw (padLaw 128 (addO n 1))) ++ [0, 0, 0, 0, 0, 0, 0, 0] ++ beLaw 8 ((↑n : Int) * 8 % 18446744073709551616)) [7640891576956012808, 13503953896175478587, 4354685564936845355, 11912009170470909681, 5840696475078001361, 11170449401992604703, 2270897969802886507, 6620516959819538809] ((List.take (addO n 1 + padLaw 128 (addO n 1)) (List.take n (dropO
 (addO off 0) zs) ++ [128] ++ zeroLaw (padLaw 128 (addO n 1))) ++ [0, 0, 0, 0, 0, 0, 0, 0] ++ beLaw 8 ((↑n : Int) * 8 % 18446744073709551616)).length / 128) 6) ++ beLaw 8 (stAt64Law (List.take (addO n 1 + padLaw 128 (addO n 1)) (List.take n (dropO (addO off 0) zs) ++ [128] ++ zeroLaw (padLaw 128 (addO n 1))) ++ [0, 0, 0, 0, 0, 0, 0, 0] ++ beLaw 8 ((↑n : Int) * 8 % 18446744073709551616))
 [7640891576956012808, 13503953896175478587, 4354685564936845355, 11912009170470909681, 5840696475078001361, 11170449401992604703, 2270897969802886507, 6620516959819538809] ((List.take (addO n 1 + padLaw 128 (addO n 1)) (List.take n (dropO (addO off 0) zs) ++ [128] ++ zeroLaw (padLaw 128 (addO n 1))) ++ [0, 0, 0, 0, 0, 0, 0, 0] ++ beLaw 8 ((↑n : Int) * 8 % 18446744073709551616)).length / 128) 7)),
 63, true, 5⟩] := by kernel_rfl
noncomputable def R37s (off n c g : Nat) (zs : List Int) : Res := resG 1 [0, 5] (runF eX64 f37 orc37 2000 [.ints .i64 [64, 80, 1, 8, 7, 19, 61, 6, 28, 34, 39, 14, 18, 41], .slice 1 0 g off n (some c)] [some ⟨.ints .u8 zs, g, false, 5⟩] [])
theorem R37s_ok {off n c g : Nat} {zs : List Int} (h : allP [.eqN g g, .rng 0 (↑n : Int) 18446744073709551615, .eqN g g, .eqN g g, .leI 0 (↑n : Int), .leI 0 (↑n : Int), .eqN g g, .leN 0 n, .leN n n, .leN n c, .eqN g g, .leN (addO off 0 + n) zs.length, .p (n < addO n 1 ∨ n = 0 ∧ n = 0), .leN (addO n 1) 140737488355328, .eqN (addO n 1) (List.take n (dropO (addO off 0) zs) ++ [128]).length, .leN
 ((List.take n (dropO (addO off 0) zs) ++ [128]).length + 128) 140737488355328, .eqN (0 + padLaw 128 (addO n 1)) (0 + padLaw 128 (addO n 1)), .leN (0 + (addO n 1 + padLaw 128 (addO n 1))) (List.take n (dropO (addO off 0) zs) ++ [128] ++ zeroLaw (padLaw 128 (addO n 1))).length, .leN (addO (addO n 1 + padLaw 128 (addO n 1)) 8) 140737488355328, .eqN (0 + padLaw 128 (addO n 1) + 1) (0 + padLaw 128 (addO
 n 1) + 1), .eqN (addO (addO n 1 + padLaw 128 (addO n 1)) 8) (List.take (addO n 1 + padLaw 128 (addO n 1)) (List.take n (dropO (addO off 0) zs) ++ [128] ++ zeroLaw (padLaw 128 (addO n 1))) ++ [0, 0, 0, 0, 0, 0, 0, 0]).length, .leN ((List.take (addO n 1 + padLaw 128 (addO n 1)) (List.take n (dropO (addO off 0) zs) ++ [128] ++ zeroLaw (padLaw 128 (addO n 1))) ++ [0, 0, 0, 0, 0, 0, 0, 0]).length + 8)
 140737488355328, .eqN (0 + padLaw 128 (addO n 1) + 1 + 8) (0 + padLaw 128 (addO n 1) + 1 + 8), .eqN (addO (addO n 1 + padLaw 128 (addO n 1)) 8 + 8) (List.take (addO n 1 + padLaw 128 (addO n 1)) (List.take n (dropO (addO off 0) zs) ++ [128] ++ zeroLaw (padLaw 128 (addO n 1))) ++ [0, 0, 0, 0, 0, 0, 0, 0] ++ beLaw 8 ((↑n : Int) * 8 % 18446744073709551616)).length, .p ((List.take (addO n 1 + padLaw 128
 (addO n 1)) (List.take n (dropO (addO off 0) zs) ++ [128] ++ zeroLaw (padLaw 128 (addO n 1))) ++ [0, 0, 0, 0, 0, 0, 0, 0] ++ beLaw 8 ((↑n : Int) * 8 % 18446744073709551616)).length % 128 = 0), .p (BsLaw (List.take (addO n 1 + padLaw 128 (addO n 1)) (List.take n (dropO (addO off 0) zs) ++ [128] ++ zeroLaw (padLaw 128 (addO n 1))) ++ [0, 0, 0, 0, 0, 0, 0, 0] ++ beLaw 8 ((↑n : Int) * 8 %
 18446744073709551616))), .p (WdsLaw 64 [7640891576956012808, 13503953896175478587, 4354685564936845355, 11912009170470909681, 5840696475078001361, 11170449401992604703, 2270897969802886507, 6620516959819538809])]) : OkR (R37s off n c g zs) := OkR.dem (fl := bitsF 304 32592575621351777380295131014166985611546901796798532500923640474228542869073824391091978239) (by kernel_rfl) (by kernel_rfl) (by
 kernel_rfl) h
theorem R37s_val {off n c g : Nat} {zs : List Int} : (R37s off n c g zs).val = .slice 1 1 63 0 64 none := by kernel_rfl
theorem R37s_tab {off n c g : Nat} {zs : List Int} : (R37s off n c g zs).tab = [some ⟨.ints .u8 zs, g, false, 5⟩, some ⟨.ints .u8 (beLaw 8 (stAt64Law (List.take (addO n 1 + padLaw 128 (addO n 1)) (List.take n (dropO (addO off 0) zs) ++ [128] ++ zeroLaw (padLaw 128 (addO n 1))) ++ [0, 0, 0, 0, 0, 0, 0, 0] ++ beLaw 8 ((↑n : Int) * 8 % 18446744073709551616)) [7640891576956012808, 13503953896175478587,
 4354685564936845355, 11912009170470909681, 5840696475078001361, 11170449401992604703, 2270897969802886507, 6620516959819538809] ((List.take (addO n 1 + padLaw 128 (addO n 1)) (List.take n (dropO (addO off 0) zs) ++ [128] ++ zeroLaw (padLaw 128 (addO n 1))) ++ [0, 0, 0, 0, 0, 0, 0, 0] ++ beLaw 8 ((↑n : Int) * 8 % 18446744073709551616)).length / 128) 0) ++ beLaw 8 (stAt64Law (List.take (addO n 1 +
 padLaw 128 (addO n 1)) (List.take n (dropO (addO off 0) zs) ++ [128] ++ zeroLaw (padLaw 128 (addO n 1))) ++ [0, 0, 0, 0, 0, 0, 0, 0] ++ beLaw 8 ((↑n : Int) * 8 % 18446744073709551616)) [7640891576956012808, 13503953896175478587, 4354685564936845355, 11912009170470909681, 5840696475078001361, 11170449401992604703, 2270897969802886507, 6620516959819538809] ((List.take (addO n 1 + padLaw 128 (addO n
 1)) (List.take n (dropO (addO off 0) zs) ++ [128] ++ zeroLaw (padLaw 128 (addO n 1))) ++ [0, 0, 0, 0, 0, 0, 0, 0] ++ beLaw 8 ((↑n : Int) * 8 % 18446744073709551616)).length / 128) 1) ++ beLaw 8 (stAt64Law (List.take (addO n 1 + padLaw 128 (addO n 1)) (List.take n (dropO (addO off 0) zs) ++ [128] ++ zeroLaw (padLaw 128 (addO n 1))) ++ [0, 0, 0, 0, 0, 0, 0, 0] ++ beLaw 8 ((↑n : Int) * 8 %
 18446744073709551616)) [7640891576956012808, 13503953896175478587, 4354685564936845355, 11912009170470909681, 5840696475078001361, 11170449401992604703, 2270897969802886507, 6620516959819538809] ((List.take (addO n 1 + padLaw 128 (addO n 1)) (List.take n (dropO (addO off 0) zs) ++ [128] ++ zeroLaw (padLaw 128 (addO n 1))) ++ [0, 0, 0, 0, 0, 0, 0, 0] ++ beLaw 8 ((↑n : Int) * 8 %
 18446744073709551616)).length / 128) 2) ++ beLaw 8 (stAt64Law (List.take (addO n 1 + padLaw 128 (addO n 1)) (List.take n (dropO (addO off 0) zs) ++ [128] ++ zeroLaw (padLaw 128 (addO n 1))) ++ [0, 0, 0, 0, 0, 0, 0, 0] ++ beLaw 8 ((↑n : Int) * 8 % 18446744073709551616)) [7640891576956012808, 13503953896175478587, 4354685564936845355, 11912009170470909681, 5840696475078001361, 11170449401992604703,
 2270897969802886507, 6620516959819538809] ((List.take (addO n 1 + padLaw 128 (addO n 1)) (List.take n (dropO (addO off 0) zs) ++ [128] ++ zeroLaw (padLaw 128 (addO n 1))) ++ [0, 0, 0, 0, 0, 0, 0, 0] ++ beLaw 8 ((↑n : Int) * 8 % 18446744073709551616)).length / 128) 3) ++ beLaw 8 (stAt64Law (List.take (addO n 1 + padLaw 128 (addO n 1)) (List.take n (dropO (addO off 0) zs) ++ [128] ++ zeroLaw (padLaw
 128 (addO n 1))) ++ [0, 0, 0, 0, 0, 0, 0, 0] ++ beLaw 8 ((↑n : Int) * 8 % 18446744073709551616)) [7640891576956012808, 13503953896175478587, 4354685564936845355, 11912009170470909681, 5840696475078001361, 11170449401992604703, 2270897969802886507, 6620516959819538809] ((List.take (addO n 1 + padLaw 128 (addO n 1)) (List.take n (dropO (addO off 0) zs) ++ [128] ++ zeroLaw (padLaw 128 (addO n 1))) ++
 [0, 0, 0, 0, 0, 0, 0, 0] ++ beLaw 8 ((↑n : Int) * 8 % 18446744073709551616)).length / 128) 4) ++ beLaw 8 (stAt64Law (List.take (addO n 1 + padLaw 128 (addO n 1)) (List.take n (dropO (addO off 0) zs) ++ [128] ++ zeroLaw (padLaw 128 (addO n 1))) ++ [0, 0, 0, 0, 0, 0, 0, 0] ++ beLaw 8 ((↑n : Int) * 8 % 18446744073709551616)) [7640891576956012808, 13503953896175478587, 4354685564936845355,
 11912009170470909681, 5840696475078001361, 11170449401992604703, 2270897969802886507, 6620516959819538809] ((List.take (addO n 1 + padLaw 128 (addO n 1)) (List.take n (dropO (addO off 0) zs) ++ [128] ++ zeroLaw (padLaw 128 (addO n 1))) ++ [0, 0, 0, 0, 0, 0, 0, 0] ++ beLaw 8 ((↑n : Int) * 8 % 18446744073709551616)).length / 128) 5) ++ beLaw 8 (stAt64Law (List.take (addO n 1 + padLaw 128 (addO n 1))
 (List.take n (dropO (addO off 0) zs) ++ [128] ++ zeroLaw (padLaw 128 (addO n 1))) ++ [0, 0, 0, 0, 0, 0, 0, 0] ++ beLaw 8 ((↑n : Int) * 8 % 18446744073709551616)) [7640891576956012808, 13503953896175478587, 4354685564936845355, 11912009170470909681, 5840696475078001361, 11170449401992604703, 2270897969802886507, 6620516959819538809] ((List.take (addO n 1 + padLaw 128 (addO n 1)) (List.take n (dropO
 (addO off 0) zs) ++ [128] ++ zeroLaw (padLaw 128 (addO n 1))) ++ [0, 0, 0, 0, 0, 0, 0, 0] ++ beLaw 8 ((↑n : Int) * 8 % 18446744073709551616)).length / 128) 6) ++ beLaw 8 (stAt64Law (List.take (addO n 1 + padLaw 128 (addO n 1)) (List.take n (dropO (addO off 0) zs) ++ [128] ++ zeroLaw (padLaw 128 (addO n 1))) ++ [0, 0, 0, 0, 0, 0, 0, 0] ++ beLaw 8 ((↑n : Int) * 8 % 18446744073709551616))
 [7640891576956012808, 13503953896175478587, 4354685564936845355, 11912009170470909681, 5840696475078001361, 11170449401992604703, 2270897969802886507, 6620516959819538809] ((List.take (addO n 1 + padLaw 128 (addO n 1)) (List.take n (dropO (addO off 0) zs) ++ [128] ++ zeroLaw (padLaw 128 (addO n 1))) ++ [0, 0, 0, 0, 0, 0, 0, 0] ++ beLaw 8 ((↑n : Int) * 8 % 18446744073709551616)).length / 128) 7)),
 63, true, 5⟩] := by kernel_rfl
end Go.Abs

set_option linter.unusedVariables false
set_option linter.unusedSimpArgs false
set_option maxRecDepth 8000
namespace Go.Abs
open Go.Proofs Go.Proofs.Tryd
/-! ### the program's sums -/
def subLaw (zs : List Int) (off n : Nat) : List Int := (zs.drop off).take n
theorem subLaw_len {zs : List Int} {off n : Nat} (h : off + n ≤ zs.length) : (subLaw zs off n).length = n := by simp [subLaw]; omega
theorem BsLaw.sub {zs : List Int} (h : BsLaw zs) (off n : Nat) : BsLaw (subLaw zs off n) := by
  intro i
  unfold subLaw
  rw [List.getD_eq_getElem?_getD, List.getElem?_take]
  split
  · rw [List.getElem?_drop]
    have := h (off + i)
    rwa [List.getD_eq_getElem?_getD] at this
  · exact ⟨by decide, by decide⟩
theorem BsLaw.append {a b : List Int} (ha : BsLaw a) (hb : BsLaw b) : BsLaw (a ++ b) := fun i => by
  rcases Nat.lt_or_ge i a.length with h | h
  · rw [getD_left h]; exact ha i
  · rw [List.getD_eq_getElem?_getD, List.getElem?_append_right h, ← List.getD_eq_getElem?_getD]; exact hb _
theorem BsLaw.cons {a : Int} {l : List Int} (ha : 0 ≤ a ∧ a < 256) (hl : BsLaw l) : BsLaw (a :: l) := fun i => match i with
  | 0 => ha
  | i + 1 => hl i
theorem BsLaw.nil : BsLaw [] := fun i => ⟨by simp, by simp⟩
theorem BsLaw.zeros : ∀ n, BsLaw (zeroLaw n)
  | 0 => .nil
  | n + 1 => .cons (by decide) (BsLaw.zeros n)
theorem BsLaw.be (x : Int) : ∀ n, BsLaw (beLaw n x)
  | 0 => .nil
  | n + 1 => .cons (by omega) (BsLaw.be x n)
def capLaw (n : Nat) (cp : Option Nat) : Prop := ∀ c, cp = some c → n ≤ c
def fillLaw (B : Nat) (xs : List Int) : List Int := xs ++ [128] ++ zeroLaw (padLaw B (xs.length + 1)) ++ zeroLaw (B / 8 - 8) ++ beLaw 8 ((xs.length : Int) * 8 % 18446744073709551616)
theorem fill_bs {B : Nat} {xs : List Int} (h : BsLaw xs) : BsLaw (fillLaw B xs) := (((h.append (.cons (by decide) .nil)).append (.zeros _)).append (.zeros _)).append (.be _ _)
theorem fill_len (B : Nat) (xs : List Int) : (fillLaw B xs).length = xs.length + 1 + padLaw B (xs.length + 1) + (B / 8 - 8) + 8 := by
  simp [fillLaw, zero_len, beLaw_len]; omega
/-! width 32 -/
def isPl32Law (pl : List Int) : Prop := pl = [32, 64, 7, 18, 3, 17, 19, 10, 2, 13, 22, 6, 11, 25]
def sum32Law (xs : List Int) : List Int := beLaw 4 (stAt32Law (fillLaw 64 xs) [1779033703, 3144134277, 1013904242, 2773480762, 1359893119, 2600822924, 528734635, 1541459225] ((fillLaw 64 xs).length / 64) 0) ++ beLaw 4 (stAt32Law (fillLaw 64 xs) [1779033703, 3144134277, 1013904242, 2773480762, 1359893119, 2600822924, 528734635, 1541459225] ((fillLaw 64 xs).length / 64) 1) ++ beLaw 4 (stAt32Law (fillLaw 64 xs) [1779033703, 3144134277, 1013904242, 2773480762, 1359893119, 2600822924, 528734635, 1541459225] ((fillLaw 64 xs).length / 64) 2) ++ beLaw 4 (stAt32Law (fillLaw 64 xs) [1779033703, 3144134277, 1013904242, 2773480762, 1359893119, 2600822924, 528734635, 1541459225] ((fillLaw 64 xs).length / 64) 3) ++ beLaw 4 (stAt32Law (fillLaw 64 xs) [1779033703, 3144134277, 1013904242, 2773480762, 1359893119, 2600822924, 528734635, 1541459225] ((fillLaw 64 xs).length / 64) 4) ++ beLaw 4 (stAt32Law (fillLaw 64 xs) [1779033703, 3144134277, 1013904242, 2773480762, 1359893119, 2600822924, 528734635, 1541459225] ((fillLaw 64 xs).length / 64) 5) ++ beLaw 4 (stAt32Law (fillLaw 64 xs) [1779033703, 3144134277, 1013904242, 2773480762, 1359893119, 2600822924, 528734635, 1541459225] ((fillLaw 64 xs).length / 64) 6) ++ beLaw 4 (stAt32Law (fillLaw 64 xs) [1779033703, 3144134277, 1013904242, 2773480762, 1359893119, 2600822924, 528734635, 1541459225] ((fillLaw 64 xs).length / 64) 7)
noncomputable def sm33 : Summary := fun args T => match args, T with
  | [.ints .i64 pl, .slice 1 0 g off n cp], [some ⟨.ints .u8 zs, g', false, 5⟩] => ⟨[.p (isPl32Law pl), .eqN g g', .leN (off + n) zs.length, .p (BsLaw zs), .leN n 140737488355000, .p (capLaw n cp)], .slice 1 1 31 0 32 none, [some ⟨.ints .u8 zs, g', false, 5⟩, some ⟨.ints .u8 (sum32Law (subLaw zs off n)), 31, true, 5⟩]⟩
  | _, _ => fail
theorem sum32_dem {zs : List Int} {off n : Nat} (h3 : off + n ≤ zs.length) (h5 : n ≤ 140737488355000) : (List.take (n + 1 + padLaw 64 (n + 1)) (List.take n (List.drop off zs) ++ [128] ++ zeroLaw (padLaw 64 (n + 1))) ++ ([] : List Int) ++ beLaw 8 ((n : Int) * 8 % 18446744073709551616)) = fillLaw 64 (subLaw zs off n) := by
  have hl := subLaw_len h3
  unfold fillLaw
  rw [hl, List.take_of_length_le]
  · rfl
  · rw [List.length_append, List.length_append, zero_len]
    show (subLaw zs off n).length + 1 + _ ≤ _
    omega
theorem sm33_ok : SmOk prog glS 33 sm33 := by
  intro args T hc
  unfold sm33 at hc ⊢
  split at hc
  · rename_i pl g off n cp zs g'
    obtain ⟨h1, h2, h3, h4, h5, h6, _⟩ := hc
    simp only [Con.h] at h1 h2 h3 h4 h5 h6
    have h1 : pl = [32, 64, 7, 18, 3, 17, 19, 10, 2, 13, 22, 6, 11, 25] := h1
    subst h1 h2
    have hd := sum32_dem h3 h5
    have hl := subLaw_len h3
    have hl' : (List.take n (List.drop off zs)).length = n := hl
    have hb : BsLaw (fillLaw 64 (subLaw zs off n)) := fill_bs (h4.sub off n)
    have hf := fill_len 64 (subLaw zs off n)
    have hp := pad64_at (n + 1)
    have hq := pad64_le (n + 1)
    rw [hl] at hf
    have hws : WdsLaw 32 [1779033703, 3144134277, 1013904242, 2773480762, 1359893119, 2600822924, 528734635, 1541459225] := .cons ⟨by decide, by decide⟩ (.cons ⟨by decide, by decide⟩ (.cons ⟨by decide, by decide⟩ (.cons ⟨by decide, by decide⟩ (.cons ⟨by decide, by decide⟩ (.cons ⟨by decide, by decide⟩ (.cons ⟨by decide, by decide⟩ (.cons ⟨by decide, by decide⟩ (.nil 32))))))))
    cases cp with
    | none =>
      refine small_ofG (R := R33n off n 0 g zs) (keep := [0, 5]) eX32_ok hmS (f := 33) (fn := f33) (by kernel_rfl) (by kernel_rfl) orc33_ok rfl (R33n_ok ?_) R33n_val ?_
      · simp only [addO_eq, dropO_eq, Nat.add_zero, hd]
        simp only [allP, Con.h, List.length_append, List.length_take, List.length_drop, zero_len, hf, hb, hws, List.length_cons, List.length_nil, eq_self, true_and, and_true]
        omega
      · rw [R33n_tab]
        simp only [addO_eq, dropO_eq, Nat.add_zero, hd]
        rfl
    | some c =>
      have h7 := h6 c rfl
      refine small_ofG (R := R33s off n c g zs) (keep := [0, 5]) eX32_ok hmS (f := 33) (fn := f33) (by kernel_rfl) (by kernel_rfl) orc33_ok rfl (R33s_ok ?_) R33s_val ?_
      · simp only [addO_eq, dropO_eq, Nat.add_zero, hd]
        simp only [allP, Con.h, List.length_append, List.length_take, List.length_drop, zero_len, hf, hb, hws, List.length_cons, List.length_nil, eq_self, true_and, and_true]
        omega
      · rw [R33s_tab]
        simp only [addO_eq, dropO_eq, Nat.add_zero, hd]
        rfl
  · exact absurd hc nofail
/-! width 64 -/
def isPl64Law (pl : List Int) : Prop := pl = [64, 80, 1, 8, 7, 19, 61, 6, 28, 34, 39, 14, 18, 41]
def sum64Law (xs : List Int) : List Int := beLaw 8 (stAt64Law (fillLaw 128 xs) [7640891576956012808, 13503953896175478587, 4354685564936845355, 11912009170470909681, 5840696475078001361, 11170449401992604703, 2270897969802886507, 6620516959819538809] ((fillLaw 128 xs).length / 128) 0) ++ beLaw 8 (stAt64Law (fillLaw 128 xs) [7640891576956012808, 13503953896175478587, 4354685564936845355, 11912009170470909681, 5840696475078001361, 11170449401992604703, 2270897969802886507, 6620516959819538809] ((fillLaw 128 xs).length / 128) 1) ++ beLaw 8 (stAt64Law (fillLaw 128 xs) [7640891576956012808, 13503953896175478587, 4354685564936845355, 11912009170470909681, 5840696475078001361, 11170449401992604703, 2270897969802886507, 6620516959819538809] ((fillLaw 128 xs).length / 128) 2) ++ beLaw 8 (stAt64Law (fillLaw 128 xs) [7640891576956012808, 13503953896175478587, 4354685564936845355, 11912009170470909681, 5840696475078001361, 11170449401992604703, 2270897969802886507, 6620516959819538809] ((fillLaw 128 xs).length / 128) 3) ++ beLaw 8 (stAt64Law (fillLaw 128 xs) [7640891576956012808, 13503953896175478587, 4354685564936845355, 11912009170470909681, 5840696475078001361, 11170449401992604703, 2270897969802886507, 6620516959819538809] ((fillLaw 128 xs).length / 128) 4) ++ beLaw 8 (stAt64Law (fillLaw 128 xs) [7640891576956012808, 13503953896175478587, 4354685564936845355, 11912009170470909681, 5840696475078001361, 11170449401992604703, 2270897969802886507, 6620516959819538809] ((fillLaw 128 xs).length / 128) 5) ++ beLaw 8 (stAt64Law (fillLaw 128 xs) [7640891576956012808, 13503953896175478587, 4354685564936845355, 11912009170470909681, 5840696475078001361, 11170449401992604703, 2270897969802886507, 6620516959819538809] ((fillLaw 128 xs).length / 128) 6) ++ beLaw 8 (stAt64Law (fillLaw 128 xs) [7640891576956012808, 13503953896175478587, 4354685564936845355, 11912009170470909681, 5840696475078001361, 11170449401992604703, 2270897969802886507, 6620516959819538809] ((fillLaw 128 xs).length / 128) 7)
noncomputable def sm37 : Summary := fun args T => match args, T with
  | [.ints .i64 pl, .slice 1 0 g off n cp], [some ⟨.ints .u8 zs, g', false, 5⟩] => ⟨[.p (isPl64Law pl), .eqN g g', .leN (off + n) zs.length, .p (BsLaw zs), .leN n 140737488355000, .p (capLaw n cp)], .slice 1 1 63 0 64 none, [some ⟨.ints .u8 zs, g', false, 5⟩, some ⟨.ints .u8 (sum64Law (subLaw zs off n)), 63, true, 5⟩]⟩
  | _, _ => fail
theorem sum64_dem {zs : List Int} {off n : Nat} (h3 : off + n ≤ zs.length) (h5 : n ≤ 140737488355000) : (List.take (n + 1 + padLaw 128 (n + 1)) (List.take n (List.drop off zs) ++ [128] ++ zeroLaw (padLaw 128 (n + 1))) ++ ([0, 0, 0, 0, 0, 0, 0, 0] : List Int) ++ beLaw 8 ((n : Int) * 8 % 18446744073709551616)) = fillLaw 128 (subLaw zs off n) := by
  have hl := subLaw_len h3
  unfold fillLaw
  rw [hl, List.take_of_length_le]
  · rfl
  · rw [List.length_append, List.length_append, zero_len]
    show (subLaw zs off n).length + 1 + _ ≤ _
    omega
theorem sm37_ok : SmOk prog glS 37 sm37 := by
  intro args T hc
  unfold sm37 at hc ⊢
  split at hc
  · rename_i pl g off n cp zs g'
    obtain ⟨h1, h2, h3, h4, h5, h6, _⟩ := hc
    simp only [Con.h] at h1 h2 h3 h4 h5 h6
    have h1 : pl = [64, 80, 1, 8, 7, 19, 61, 6, 28, 34, 39, 14, 18, 41] := h1
    subst h1 h2
    have hd := sum64_dem h3 h5
    have hl := subLaw_len h3
    have hl' : (List.take n (List.drop off zs)).length = n := hl
    have hb : BsLaw (fillLaw 128 (subLaw zs off n)) := fill_bs (h4.sub off n)
    have hf := fill_len 128 (subLaw zs off n)
    have hp := pad128_at (n + 1)
    have hq := pad128_le (n + 1)
    rw [hl] at hf
    have hws : WdsLaw 64 [7640891576956012808, 13503953896175478587, 4354685564936845355, 11912009170470909681, 5840696475078001361, 11170449401992604703, 2270897969802886507, 6620516959819538809] := .cons ⟨by decide, by decide⟩ (.cons ⟨by decide, by decide⟩ (.cons ⟨by decide, by decide⟩ (.cons ⟨by decide, by decide⟩ (.cons ⟨by decide, by decide⟩ (.cons ⟨by decide, by decide⟩ (.cons ⟨by decide, by decide⟩ (.cons ⟨by decide, by decide⟩ (.nil 64))))))))
    cases cp with
    | none =>
      refine small_ofG (R := R37n off n 0 g zs) (keep := [0, 5]) eX64_ok hmS (f := 37) (fn := f37) (by kernel_rfl) (by kernel_rfl) orc37_ok rfl (R37n_ok ?_) R37n_val ?_
      · simp only [addO_eq, dropO_eq, Nat.add_zero, hd]
        simp only [allP, Con.h, List.length_append, List.length_take, List.length_drop, zero_len, hf, hb, hws, List.length_cons, List.length_nil, eq_self, true_and, and_true]
        omega
      · rw [R37n_tab]
        simp only [addO_eq, dropO_eq, Nat.add_zero, hd]
        rfl
    | some c =>
      have h7 := h6 c rfl
      refine small_ofG (R := R37s off n c g zs) (keep := [0, 5]) eX64_ok hmS (f := 37) (fn := f37) (by kernel_rfl) (by kernel_rfl) orc37_ok rfl (R37s_ok ?_) R37s_val ?_
      · simp only [addO_eq, dropO_eq, Nat.add_zero, hd]
        simp only [allP, Con.h, List.length_append, List.length_take, List.length_drop, zero_len, hf, hb, hws, List.length_cons, List.length_nil, eq_self, true_and, and_true]
        omega
      · rw [R37s_tab]
        simp only [addO_eq, dropO_eq, Nat.add_zero, hd]
        rfl
  · exact absurd hc nofail
end Go.Abs

set_option linter.unusedVariables false
set_option linter.unusedSimpArgs false
set_option maxRecDepth 8000
namespace Go.Abs
open Go.Proofs Go.Proofs.Tryd
/-! ### the document's words -/
theorem iand_mask {x : Int} (h : 0 ≤ x) : iand x 4294967295 = x % 4294967296 := by
  obtain ⟨n, rfl⟩ := Int.eq_ofNat_of_zero_le h
  unfold iand
  rw [Int.toNat_natCast]
  have := Nat.and_two_pow_sub_one_eq_mod n 32
  rw [show (4294967295 : Int).toNat = 2 ^ 32 - 1 by decide, this]
  omega
theorem ior_mod32 (a b : Int) (ha : 0 ≤ a) (hb : 0 ≤ b) : ior a b % 4294967296 = ior (a % 4294967296) (b % 4294967296) := by
  obtain ⟨n, rfl⟩ := Int.eq_ofNat_of_zero_le ha
  obtain ⟨m, rfl⟩ := Int.eq_ofNat_of_zero_le hb
  unfold ior
  rw [Int.toNat_natCast, Int.toNat_natCast, show ((n : Int) % 4294967296).toNat = n % 2 ^ 32 by omega, show ((m : Int) % 4294967296).toNat = m % 2 ^ 32 by omega, ← Nat.or_mod_two_pow]
  omega
theorem rot32 {x : Int} (hx : Wd 32 x) (n : Nat) (d e : Int) (hd : d = 2 ^ n) (he : e = 2 ^ (32 - n)) : iand (ior (x / d) (x * e % 18446744073709551616)) 4294967295 = rotrLaw 32 x n := by
  have hdp : (0 : Int) < d := by rw [hd, pow_nat]; exact_mod_cast Nat.two_pow_pos n
  have h1 : 0 ≤ x / d := Int.ediv_nonneg hx.1 (by omega)
  have h2 : x / d < 4294967296 := (hx.divk hdp).2
  rw [iand_mask (by unfold ior; omega), ior_mod32 _ _ h1 (by omega)]
  unfold rotrLaw
  rw [Int.emod_eq_of_lt h1 h2, ← hd, ← he, show (2 : Int) ^ 32 = 4294967296 by decide]
  congr 1
  generalize x * e = y
  omega
theorem rot64 {x : Int} (n : Nat) (d e : Int) (hd : d = 2 ^ n) (he : e = 2 ^ (64 - n)) : ior (x / d) (x * e % 18446744073709551616) = rotrLaw 64 x n := by
  unfold rotrLaw
  rw [← hd, ← he, show (2 : Int) ^ 64 = 18446744073709551616 by decide]
theorem Wd.up {x : Int} (h : Wd 32 x) : Wd 64 x := ⟨h.1, by have := h.2; rw [show (2 : Int) ^ 32 = 4294967296 by decide] at this; rw [show (2 : Int) ^ 64 = 18446744073709551616 by decide]; omega⟩
def zz32Law (a0 a1 a2 a3 : List Int) : Prop := a0 = [7, 18, 3] ∧ a1 = [17, 19, 10] ∧ a2 = [2, 13, 22] ∧ a3 = [6, 11, 25]
theorem zz32 : zz32Law [7, 18, 3] [17, 19, 10] [2, 13, 22] [6, 11, 25] := ⟨rfl, rfl, rfl, rfl⟩
/-! width 32 -/
noncomputable def S57_32 : Summary := sumI modeO (eS0 []) f57 [] 100 [] []
theorem S57_32_ok : SumOk prog glS 57 S57_32 := sumI_ok eS0_ok hmS (fn := f57) (by kernel_rfl) (by kernel_rfl) [] FnOrc.nil 100 [] []
noncomputable def eP32 : Env := eS0 [(57, S57_32)]
theorem eP32_ok : EnvOk eP32 := envOf_ok tysS_ok (SumsOk.cons (fn := f57) S57_32_ok (by kernel_rfl) (by kernel_rfl) (by kernel_rfl) trivial)
noncomputable def S64_32 : Summary := sumI modeO eP32 f64 [] 100 [] []
theorem S64_32_ok : SumOk prog glS 64 S64_32 := sumI_ok eP32_ok hmS (fn := f64) (by kernel_rfl) (by kernel_rfl) [] FnOrc.nil 100 [] []
noncomputable def eQ32 : Env := eS0 [(57, S57_32), (64, S64_32)]
theorem eQ32_ok : EnvOk eQ32 := envOf_ok tysS_ok (SumsOk.cons (fn := f57) S57_32_ok (by kernel_rfl) (by kernel_rfl) (by kernel_rfl) (SumsOk.cons (fn := f64) S64_32_ok (by kernel_rfl) (by kernel_rfl) (by kernel_rfl) trivial))
noncomputable def R63_32a (x : Int) : Res := runF eQ32 f63 [] 400 [.agg [.int .i64 32, .int .i64 64, .int .i64 64, .slice 1 0 0 0 3 (some 3), .slice 1 1 0 0 3 (some 3), .slice 1 2 0 0 3 (some 3), .slice 1 3 0 0 3 (some 3)], .int .u64 x, .slice 1 0 0 0 3 (some 3)] [some ⟨.ints .i64 [7, 18, 3], 0, false, 3⟩, some ⟨.ints .i64 [17, 19, 10], 0, false, 3⟩, some ⟨.ints .i64 [2, 13, 22], 0, false, 3⟩, some ⟨.ints .i64 [6, 11, 25], 0, false, 3⟩] []
theorem R63_32a_ok {x : Int} (h : allP [.nn .u64 (x / 128), .nn .u64 (x * 33554432 % 18446744073709551616), .nn .u64 (ior (x / 128) (x * 33554432 % 18446744073709551616)), .nn .u64 (x / 262144), .nn .u64 (x * 16384 % 18446744073709551616), .nn .u64 (ior (x / 262144) (x * 16384 % 18446744073709551616)), .nn .u64 (iand (ior (x / 128) (x * 33554432 % 18446744073709551616)) 4294967295), .nn .u64 (iand
 (ior (x / 262144) (x * 16384 % 18446744073709551616)) 4294967295), .nn .u64 (ixor (iand (ior (x / 128) (x * 33554432 % 18446744073709551616)) 4294967295) (iand (ior (x / 262144) (x * 16384 % 18446744073709551616)) 4294967295)), .nn .u64 (x / 8)]) : OkR (R63_32a x) := OkR.dem (fl := bitsF 116 7371346111906422903779550908383230) (by kernel_rfl) (by kernel_rfl) (by kernel_rfl) h
theorem R63_32a_val {x : Int} : (R63_32a x).val = .int .u64 (ixor (ixor (iand (ior (x / 128) (x * 33554432 % 18446744073709551616)) 4294967295) (iand (ior (x / 262144) (x * 16384 % 18446744073709551616)) 4294967295)) (x / 8)) := by kernel_rfl
theorem R63_32a_tab {x : Int} : (R63_32a x).tab = [some ⟨.ints .i64 [7, 18, 3], 0, false, 3⟩, some ⟨.ints .i64 [17, 19, 10], 0, false, 3⟩, some ⟨.ints .i64 [2, 13, 22], 0, false, 3⟩, some ⟨.ints .i64 [6, 11, 25], 0, false, 3⟩, some ⟨.agg [.int .i64 32, .int .i64 64, .int .i64 64, .slice 1 0 0 0 3 (some 3), .slice 1 1 0 0 3 (some 3), .slice 1 2 0 0 3 (some 3), .slice 1 3 0 0 3 (some 3)], 0, true,
 54⟩] := by kernel_rfl
noncomputable def R63_32b (x : Int) : Res := runF eQ32 f63 [] 400 [.agg [.int .i64 32, .int .i64 64, .int .i64 64, .slice 1 0 0 0 3 (some 3), .slice 1 1 0 0 3 (some 3), .slice 1 2 0 0 3 (some 3), .slice 1 3 0 0 3 (some 3)], .int .u64 x, .slice 1 1 0 0 3 (some 3)] [some ⟨.ints .i64 [7, 18, 3], 0, false, 3⟩, some ⟨.ints .i64 [17, 19, 10], 0, false, 3⟩, some ⟨.ints .i64 [2, 13, 22], 0, false, 3⟩, some ⟨.ints .i64 [6, 11, 25], 0, false, 3⟩] []
theorem R63_32b_ok {x : Int} (h : allP [.nn .u64 (x / 131072), .nn .u64 (x * 32768 % 18446744073709551616), .nn .u64 (ior (x / 131072) (x * 32768 % 18446744073709551616)), .nn .u64 (x / 524288), .nn .u64 (x * 8192 % 18446744073709551616), .nn .u64 (ior (x / 524288) (x * 8192 % 18446744073709551616)), .nn .u64 (iand (ior (x / 131072) (x * 32768 % 18446744073709551616)) 4294967295), .nn .u64 (iand
 (ior (x / 524288) (x * 8192 % 18446744073709551616)) 4294967295), .nn .u64 (ixor (iand (ior (x / 131072) (x * 32768 % 18446744073709551616)) 4294967295) (iand (ior (x / 524288) (x * 8192 % 18446744073709551616)) 4294967295)), .nn .u64 (x / 1024)]) : OkR (R63_32b x) := OkR.dem (fl := bitsF 116 7371346111906422903779550908383230) (by kernel_rfl) (by kernel_rfl) (by kernel_rfl) h
theorem R63_32b_val {x : Int} : (R63_32b x).val = .int .u64 (ixor (ixor (iand (ior (x / 131072) (x * 32768 % 18446744073709551616)) 4294967295) (iand (ior (x / 524288) (x * 8192 % 18446744073709551616)) 4294967295)) (x / 1024)) := by kernel_rfl
theorem R63_32b_tab {x : Int} : (R63_32b x).tab = [some ⟨.ints .i64 [7, 18, 3], 0, false, 3⟩, some ⟨.ints .i64 [17, 19, 10], 0, false, 3⟩, some ⟨.ints .i64 [2, 13, 22], 0, false, 3⟩, some ⟨.ints .i64 [6, 11, 25], 0, false, 3⟩, some ⟨.agg [.int .i64 32, .int .i64 64, .int .i64 64, .slice 1 0 0 0 3 (some 3), .slice 1 1 0 0 3 (some 3), .slice 1 2 0 0 3 (some 3), .slice 1 3 0 0 3 (some 3)], 0, true,
 54⟩] := by kernel_rfl
noncomputable def R58_32a (x : Int) : Res := runF eQ32 f58 [] 400 [.agg [.int .i64 32, .int .i64 64, .int .i64 64, .slice 1 0 0 0 3 (some 3), .slice 1 1 0 0 3 (some 3), .slice 1 2 0 0 3 (some 3), .slice 1 3 0 0 3 (some 3)], .int .u64 x, .slice 1 2 0 0 3 (some 3)] [some ⟨.ints .i64 [7, 18, 3], 0, false, 3⟩, some ⟨.ints .i64 [17, 19, 10], 0, false, 3⟩, some ⟨.ints .i64 [2, 13, 22], 0, false, 3⟩, some ⟨.ints .i64 [6, 11, 25], 0, false, 3⟩] []
theorem R58_32a_ok {x : Int} (h : allP [.nn .u64 (x / 4), .nn .u64 (x * 1073741824 % 18446744073709551616), .nn .u64 (ior (x / 4) (x * 1073741824 % 18446744073709551616)), .nn .u64 (x / 8192), .nn .u64 (x * 524288 % 18446744073709551616), .nn .u64 (ior (x / 8192) (x * 524288 % 18446744073709551616)), .nn .u64 (iand (ior (x / 4) (x * 1073741824 % 18446744073709551616)) 4294967295), .nn .u64 (iand
 (ior (x / 8192) (x * 524288 % 18446744073709551616)) 4294967295), .nn .u64 (iand (ior (x / 4) (x * 1073741824 % 18446744073709551616)) 4294967295), .nn .u64 (iand (ior (x / 8192) (x * 524288 % 18446744073709551616)) 4294967295), .nn .u64 (x / 4194304), .nn .u64 (x * 1024 % 18446744073709551616), .nn .u64 (ior (x / 4194304) (x * 1024 % 18446744073709551616)), .nn .u64 (ixor (iand (ior (x / 4) (x *
 1073741824 % 18446744073709551616)) 4294967295) (iand (ior (x / 8192) (x * 524288 % 18446744073709551616)) 4294967295)), .nn .u64 (iand (ior (x / 4194304) (x * 1024 % 18446744073709551616)) 4294967295)]) : OkR (R58_32a x) := OkR.dem (fl := bitsF 143 1043305713527984143872434854614314701029374) (by kernel_rfl) (by kernel_rfl) (by kernel_rfl) h
theorem R58_32a_val {x : Int} : (R58_32a x).val = .int .u64 (ixor (ixor (iand (ior (x / 4) (x * 1073741824 % 18446744073709551616)) 4294967295) (iand (ior (x / 8192) (x * 524288 % 18446744073709551616)) 4294967295)) (iand (ior (x / 4194304) (x * 1024 % 18446744073709551616)) 4294967295)) := by kernel_rfl
theorem R58_32a_tab {x : Int} : (R58_32a x).tab = [some ⟨.ints .i64 [7, 18, 3], 0, false, 3⟩, some ⟨.ints .i64 [17, 19, 10], 0, false, 3⟩, some ⟨.ints .i64 [2, 13, 22], 0, false, 3⟩, some ⟨.ints .i64 [6, 11, 25], 0, false, 3⟩, some ⟨.agg [.int .i64 32, .int .i64 64, .int .i64 64, .slice 1 0 0 0 3 (some 3), .slice 1 1 0 0 3 (some 3), .slice 1 2 0 0 3 (some 3), .slice 1 3 0 0 3 (some 3)], 0, true,
 54⟩] := by kernel_rfl
noncomputable def R58_32b (x : Int) : Res := runF eQ32 f58 [] 400 [.agg [.int .i64 32, .int .i64 64, .int .i64 64, .slice 1 0 0 0 3 (some 3), .slice 1 1 0 0 3 (some 3), .slice 1 2 0 0 3 (some 3), .slice 1 3 0 0 3 (some 3)], .int .u64 x, .slice 1 3 0 0 3 (some 3)] [some ⟨.ints .i64 [7, 18, 3], 0, false, 3⟩, some ⟨.ints .i64 [17, 19, 10], 0, false, 3⟩, some ⟨.ints .i64 [2, 13, 22], 0, false, 3⟩, some ⟨.ints .i64 [6, 11, 25], 0, false, 3⟩] []
theorem R58_32b_ok {x : Int} (h : allP [.nn .u64 (x / 64), .nn .u64 (x * 67108864 % 18446744073709551616), .nn .u64 (ior (x / 64) (x * 67108864 % 18446744073709551616)), .nn .u64 (x / 2048), .nn .u64 (x * 2097152 % 18446744073709551616), .nn .u64 (ior (x / 2048) (x * 2097152 % 18446744073709551616)), .nn .u64 (iand (ior (x / 64) (x * 67108864 % 18446744073709551616)) 4294967295), .nn .u64 (iand
 (ior (x / 2048) (x * 2097152 % 18446744073709551616)) 4294967295), .nn .u64 (iand (ior (x / 64) (x * 67108864 % 18446744073709551616)) 4294967295), .nn .u64 (iand (ior (x / 2048) (x * 2097152 % 18446744073709551616)) 4294967295), .nn .u64 (x / 33554432), .nn .u64 (x * 128 % 18446744073709551616), .nn .u64 (ior (x / 33554432) (x * 128 % 18446744073709551616)), .nn .u64 (ixor (iand (ior (x / 64) (x *
 67108864 % 18446744073709551616)) 4294967295) (iand (ior (x / 2048) (x * 2097152 % 18446744073709551616)) 4294967295)), .nn .u64 (iand (ior (x / 33554432) (x * 128 % 18446744073709551616)) 4294967295)]) : OkR (R58_32b x) := OkR.dem (fl := bitsF 143 1043305713527984143872434854614314701029374) (by kernel_rfl) (by kernel_rfl) (by kernel_rfl) h
theorem R58_32b_val {x : Int} : (R58_32b x).val = .int .u64 (ixor (ixor (iand (ior (x / 64) (x * 67108864 % 18446744073709551616)) 4294967295) (iand (ior (x / 2048) (x * 2097152 % 18446744073709551616)) 4294967295)) (iand (ior (x / 33554432) (x * 128 % 18446744073709551616)) 4294967295)) := by kernel_rfl
theorem R58_32b_tab {x : Int} : (R58_32b x).tab = [some ⟨.ints .i64 [7, 18, 3], 0, false, 3⟩, some ⟨.ints .i64 [17, 19, 10], 0, false, 3⟩, some ⟨.ints .i64 [2, 13, 22], 0, false, 3⟩, some ⟨.ints .i64 [6, 11, 25], 0, false, 3⟩, some ⟨.agg [.int .i64 32, .int .i64 64, .int .i64 64, .slice 1 0 0 0 3 (some 3), .slice 1 1 0 0 3 (some 3), .slice 1 2 0 0 3 (some 3), .slice 1 3 0 0 3 (some 3)], 0, true,
 54⟩] := by kernel_rfl
def zz64Law (a0 a1 a2 a3 : List Int) : Prop := a0 = [1, 8, 7] ∧ a1 = [19, 61, 6] ∧ a2 = [28, 34, 39] ∧ a3 = [14, 18, 41]
theorem zz64 : zz64Law [1, 8, 7] [19, 61, 6] [28, 34, 39] [14, 18, 41] := ⟨rfl, rfl, rfl, rfl⟩
/-! width 64 -/
noncomputable def S57_64 : Summary := sumI modeO (eS0 []) f57 [] 100 [] []
theorem S57_64_ok : SumOk prog glS 57 S57_64 := sumI_ok eS0_ok hmS (fn := f57) (by kernel_rfl) (by kernel_rfl) [] FnOrc.nil 100 [] []
noncomputable def eP64 : Env := eS0 [(57, S57_64)]
theorem eP64_ok : EnvOk eP64 := envOf_ok tysS_ok (SumsOk.cons (fn := f57) S57_64_ok (by kernel_rfl) (by kernel_rfl) (by kernel_rfl) trivial)
noncomputable def S64_64 : Summary := sumI modeO eP64 f64 [] 100 [] []
theorem S64_64_ok : SumOk prog glS 64 S64_64 := sumI_ok eP64_ok hmS (fn := f64) (by kernel_rfl) (by kernel_rfl) [] FnOrc.nil 100 [] []
noncomputable def eQ64 : Env := eS0 [(57, S57_64), (64, S64_64)]
theorem eQ64_ok : EnvOk eQ64 := envOf_ok tysS_ok (SumsOk.cons (fn := f57) S57_64_ok (by kernel_rfl) (by kernel_rfl) (by kernel_rfl) (SumsOk.cons (fn := f64) S64_64_ok (by kernel_rfl) (by kernel_rfl) (by kernel_rfl) trivial))
noncomputable def R63_64a (x : Int) : Res := runF eQ64 f63 [] 400 [.agg [.int .i64 64, .int .i64 128, .int .i64 80, .slice 1 0 0 0 3 (some 3), .slice 1 1 0 0 3 (some 3), .slice 1 2 0 0 3 (some 3), .slice 1 3 0 0 3 (some 3)], .int .u64 x, .slice 1 0 0 0 3 (some 3)] [some ⟨.ints .i64 [1, 8, 7], 0, false, 3⟩, some ⟨.ints .i64 [19, 61, 6], 0, false, 3⟩, some ⟨.ints .i64 [28, 34, 39], 0, false, 3⟩, some ⟨.ints .i64 [14, 18, 41], 0, false, 3⟩] []
theorem R63_64a_ok {x : Int} (h : allP [.nn .u64 (x / 2), .nn .u64 (x * 9223372036854775808 % 18446744073709551616), .nn .u64 (x / 256), .nn .u64 (x * 72057594037927936 % 18446744073709551616), .nn .u64 (ior (x / 2) (x * 9223372036854775808 % 18446744073709551616)), .nn .u64 (ior (x / 256) (x * 72057594037927936 % 18446744073709551616)), .nn .u64 (ixor (ior (x / 2) (x * 9223372036854775808 %
 18446744073709551616)) (ior (x / 256) (x * 72057594037927936 % 18446744073709551616))), .nn .u64 (x / 128)]) : OkR (R63_64a x) := OkR.dem (fl := bitsF 112 460709131998790786749584409362430) (by kernel_rfl) (by kernel_rfl) (by kernel_rfl) h
theorem R63_64a_val {x : Int} : (R63_64a x).val = .int .u64 (ixor (ixor (ior (x / 2) (x * 9223372036854775808 % 18446744073709551616)) (ior (x / 256) (x * 72057594037927936 % 18446744073709551616))) (x / 128)) := by kernel_rfl
theorem R63_64a_tab {x : Int} : (R63_64a x).tab = [some ⟨.ints .i64 [1, 8, 7], 0, false, 3⟩, some ⟨.ints .i64 [19, 61, 6], 0, false, 3⟩, some ⟨.ints .i64 [28, 34, 39], 0, false, 3⟩, some ⟨.ints .i64 [14, 18, 41], 0, false, 3⟩, some ⟨.agg [.int .i64 64, .int .i64 128, .int .i64 80, .slice 1 0 0 0 3 (some 3), .slice 1 1 0 0 3 (some 3), .slice 1 2 0 0 3 (some 3), .slice 1 3 0 0 3 (some 3)], 0, true,
 54⟩] := by kernel_rfl
noncomputable def R63_64b (x : Int) : Res := runF eQ64 f63 [] 400 [.agg [.int .i64 64, .int .i64 128, .int .i64 80, .slice 1 0 0 0 3 (some 3), .slice 1 1 0 0 3 (some 3), .slice 1 2 0 0 3 (some 3), .slice 1 3 0 0 3 (some 3)], .int .u64 x, .slice 1 1 0 0 3 (some 3)] [some ⟨.ints .i64 [1, 8, 7], 0, false, 3⟩, some ⟨.ints .i64 [19, 61, 6], 0, false, 3⟩, some ⟨.ints .i64 [28, 34, 39], 0, false, 3⟩, some ⟨.ints .i64 [14, 18, 41], 0, false, 3⟩] []
theorem R63_64b_ok {x : Int} (h : allP [.nn .u64 (x / 524288), .nn .u64 (x * 35184372088832 % 18446744073709551616), .nn .u64 (x / 2305843009213693952), .nn .u64 (x * 8 % 18446744073709551616), .nn .u64 (ior (x / 524288) (x * 35184372088832 % 18446744073709551616)), .nn .u64 (ior (x / 2305843009213693952) (x * 8 % 18446744073709551616)), .nn .u64 (ixor (ior (x / 524288) (x * 35184372088832 %
 18446744073709551616)) (ior (x / 2305843009213693952) (x * 8 % 18446744073709551616))), .nn .u64 (x / 64)]) : OkR (R63_64b x) := OkR.dem (fl := bitsF 112 460709131998790786749584409362430) (by kernel_rfl) (by kernel_rfl) (by kernel_rfl) h
theorem R63_64b_val {x : Int} : (R63_64b x).val = .int .u64 (ixor (ixor (ior (x / 524288) (x * 35184372088832 % 18446744073709551616)) (ior (x / 2305843009213693952) (x * 8 % 18446744073709551616))) (x / 64)) := by kernel_rfl
theorem R63_64b_tab {x : Int} : (R63_64b x).tab = [some ⟨.ints .i64 [1, 8, 7], 0, false, 3⟩, some ⟨.ints .i64 [19, 61, 6], 0, false, 3⟩, some ⟨.ints .i64 [28, 34, 39], 0, false, 3⟩, some ⟨.ints .i64 [14, 18, 41], 0, false, 3⟩, some ⟨.agg [.int .i64 64, .int .i64 128, .int .i64 80, .slice 1 0 0 0 3 (some 3), .slice 1 1 0 0 3 (some 3), .slice 1 2 0 0 3 (some 3), .slice 1 3 0 0 3 (some 3)], 0, true,
 54⟩] := by kernel_rfl
noncomputable def R58_64a (x : Int) : Res := runF eQ64 f58 [] 400 [.agg [.int .i64 64, .int .i64 128, .int .i64 80, .slice 1 0 0 0 3 (some 3), .slice 1 1 0 0 3 (some 3), .slice 1 2 0 0 3 (some 3), .slice 1 3 0 0 3 (some 3)], .int .u64 x, .slice 1 2 0 0 3 (some 3)] [some ⟨.ints .i64 [1, 8, 7], 0, false, 3⟩, some ⟨.ints .i64 [19, 61, 6], 0, false, 3⟩, some ⟨.ints .i64 [28, 34, 39], 0, false, 3⟩, some ⟨.ints .i64 [14, 18, 41], 0, false, 3⟩] []
theorem R58_64a_ok {x : Int} (h : allP [.nn .u64 (x / 268435456), .nn .u64 (x * 68719476736 % 18446744073709551616), .nn .u64 (x / 17179869184), .nn .u64 (x * 1073741824 % 18446744073709551616), .nn .u64 (ior (x / 268435456) (x * 68719476736 % 18446744073709551616)), .nn .u64 (ior (x / 17179869184) (x * 1073741824 % 18446744073709551616)), .nn .u64 (ior (x / 268435456) (x * 68719476736 %
 18446744073709551616)), .nn .u64 (ior (x / 17179869184) (x * 1073741824 % 18446744073709551616)), .nn .u64 (x / 549755813888), .nn .u64 (x * 33554432 % 18446744073709551616), .nn .u64 (ixor (ior (x / 268435456) (x * 68719476736 % 18446744073709551616)) (ior (x / 17179869184) (x * 1073741824 % 18446744073709551616))), .nn .u64 (ior (x / 549755813888) (x * 33554432 % 18446744073709551616))]) : OkR
 (R58_64a x) := OkR.dem (fl := bitsF 137 21650464129618885673354583925490815336446) (by kernel_rfl) (by kernel_rfl) (by kernel_rfl) h
theorem R58_64a_val {x : Int} : (R58_64a x).val = .int .u64 (ixor (ixor (ior (x / 268435456) (x * 68719476736 % 18446744073709551616)) (ior (x / 17179869184) (x * 1073741824 % 18446744073709551616))) (ior (x / 549755813888) (x * 33554432 % 18446744073709551616))) := by kernel_rfl
theorem R58_64a_tab {x : Int} : (R58_64a x).tab = [some ⟨.ints .i64 [1, 8, 7], 0, false, 3⟩, some ⟨.ints .i64 [19, 61, 6], 0, false, 3⟩, some ⟨.ints .i64 [28, 34, 39], 0, false, 3⟩, some ⟨.ints .i64 [14, 18, 41], 0, false, 3⟩, some ⟨.agg [.int .i64 64, .int .i64 128, .int .i64 80, .slice 1 0 0 0 3 (some 3), .slice 1 1 0 0 3 (some 3), .slice 1 2 0 0 3 (some 3), .slice 1 3 0 0 3 (some 3)], 0, true,
 54⟩] := by kernel_rfl
noncomputable def R58_64b (x : Int) : Res := runF eQ64 f58 [] 400 [.agg [.int .i64 64, .int .i64 128, .int .i64 80, .slice 1 0 0 0 3 (some 3), .slice 1 1 0 0 3 (some 3), .slice 1 2 0 0 3 (some 3), .slice 1 3 0 0 3 (some 3)], .int .u64 x, .slice 1 3 0 0 3 (some 3)] [some ⟨.ints .i64 [1, 8, 7], 0, false, 3⟩, some ⟨.ints .i64 [19, 61, 6], 0, false, 3⟩, some ⟨.ints .i64 [28, 34, 39], 0, false, 3⟩, some ⟨.ints .i64 [14, 18, 41], 0, false, 3⟩] []
theorem R58_64b_ok {x : Int} (h : allP [.nn .u64 (x / 16384), .nn .u64 (x * 1125899906842624 % 18446744073709551616), .nn .u64 (x / 262144), .nn .u64 (x * 70368744177664 % 18446744073709551616), .nn .u64 (ior (x / 16384) (x * 1125899906842624 % 18446744073709551616)), .nn .u64 (ior (x / 262144) (x * 70368744177664 % 18446744073709551616)), .nn .u64 (ior (x / 16384) (x * 1125899906842624 %
 18446744073709551616)), .nn .u64 (ior (x / 262144) (x * 70368744177664 % 18446744073709551616)), .nn .u64 (x / 2199023255552), .nn .u64 (x * 8388608 % 18446744073709551616), .nn .u64 (ixor (ior (x / 16384) (x * 1125899906842624 % 18446744073709551616)) (ior (x / 262144) (x * 70368744177664 % 18446744073709551616))), .nn .u64 (ior (x / 2199023255552) (x * 8388608 % 18446744073709551616))]) : OkR
 (R58_64b x) := OkR.dem (fl := bitsF 137 21650464129618885673354583925490815336446) (by kernel_rfl) (by kernel_rfl) (by kernel_rfl) h
theorem R58_64b_val {x : Int} : (R58_64b x).val = .int .u64 (ixor (ixor (ior (x / 16384) (x * 1125899906842624 % 18446744073709551616)) (ior (x / 262144) (x * 70368744177664 % 18446744073709551616))) (ior (x / 2199023255552) (x * 8388608 % 18446744073709551616))) := by kernel_rfl
theorem R58_64b_tab {x : Int} : (R58_64b x).tab = [some ⟨.ints .i64 [1, 8, 7], 0, false, 3⟩, some ⟨.ints .i64 [19, 61, 6], 0, false, 3⟩, some ⟨.ints .i64 [28, 34, 39], 0, false, 3⟩, some ⟨.ints .i64 [14, 18, 41], 0, false, 3⟩, some ⟨.agg [.int .i64 64, .int .i64 128, .int .i64 80, .slice 1 0 0 0 3 (some 3), .slice 1 1 0 0 3 (some 3), .slice 1 2 0 0 3 (some 3), .slice 1 3 0 0 3 (some 3)], 0, true,
 54⟩] := by kernel_rfl
end Go.Abs

set_option linter.unusedVariables false
set_option linter.unusedSimpArgs false
set_option maxRecDepth 8000
namespace Go.Abs
open Go.Proofs Go.Proofs.Tryd
/-! ### the document's words: contracts -/
def selLow (i : Nat) (a b : List Int) : List Int := match i with | 0 => a | _ => b
def lowIxLaw (i : Nat) : Prop := i = 0 ∨ i = 1
def highIxLaw (i : Nat) : Prop := i = 2 ∨ i = 3
def selHigh (i : Nat) (a b : List Int) : List Int := match i with | 2 => a | _ => b
noncomputable def sm63_32 : Summary := fun args T => match args, T with
  | [.agg [.int .i64 bb, .int .i64 bk, .int .i64 br, .slice 1 0 0 0 3 (some 3), .slice 1 1 0 0 3 (some 3), .slice 1 2 0 0 3 (some 3), .slice 1 3 0 0 3 (some 3)], .int .u64 x, .slice 1 i 0 0 3 (some 3)], [some ⟨.ints .i64 a0, 0, false, 3⟩, some ⟨.ints .i64 a1, 0, false, 3⟩, some ⟨.ints .i64 a2, 0, false, 3⟩, some ⟨.ints .i64 a3, 0, false, 3⟩] => ⟨[.rng 32 bb 32, .rng 64 bk 64, .rng 64 br 64, .p (zz32Law a0 a1 a2 a3), .p (lowIxLaw i), .p (Wd 32 x)], .int .u64 (lowLaw 32 (selLow i [7, 18, 3] [17, 19, 10]) x), [some ⟨.ints .i64 a0, 0, false, 3⟩, some ⟨.ints .i64 a1, 0, false, 3⟩, some ⟨.ints .i64 a2, 0, false, 3⟩, some ⟨.ints .i64 a3, 0, false, 3⟩]⟩
  | _, _ => fail
theorem sm63_32_ok : SmOk prog glS 63 sm63_32 := by
  intro args T hc
  unfold sm63_32 at hc ⊢
  split at hc
  · rename_i bb bk br x i a0 a1 a2 a3
    obtain ⟨z1, z2, z3, z4, hi, hx, _⟩ := hc
    simp only [Con.h] at z1 z2 z3 z4 hi hx
    obtain rfl : bb = 32 := by omega
    obtain rfl : bk = 64 := by omega
    obtain rfl : br = 64 := by omega
    obtain ⟨z4, z5, z6, z7⟩ := z4
    subst z4 z5 z6 z7
    have hu : Wd 64 x := hx.up
    have hd : ∀ d : Int, 0 < d → Wd 64 (x / d) := fun d h => hu.divk h
    have hm : ∀ y : Int, Wd 64 (y % 18446744073709551616) := fun y => Wd.mod 64 y
    rcases hi with rfl | rfl
    · refine small_drop (small_of (R := R63_32a x) eQ32_ok hmS (f := 63) (fn := f63) (by kernel_rfl) (by kernel_rfl) FnOrc.nil rfl (R63_32a_ok ?_) ?_ R63_32a_tab)
      · simp only [allP, Con.h, nn_64, eq_self, true_and, and_true]
        repeat' with_reducible apply And.intro
        all_goals repeat' (first | exact hd _ (by decide) | exact hm _ | apply Wd.ixor | apply Wd.ior | apply Wd.iand)
      · rw [R63_32a_val, rot32 hx 7 128 33554432 (by decide) (by decide), rot32 hx 18 262144 16384 (by decide) (by decide)]
        rfl
    · refine small_drop (small_of (R := R63_32b x) eQ32_ok hmS (f := 63) (fn := f63) (by kernel_rfl) (by kernel_rfl) FnOrc.nil rfl (R63_32b_ok ?_) ?_ R63_32b_tab)
      · simp only [allP, Con.h, nn_64, eq_self, true_and, and_true]
        repeat' with_reducible apply And.intro
        all_goals repeat' (first | exact hd _ (by decide) | exact hm _ | apply Wd.ixor | apply Wd.ior | apply Wd.iand)
      · rw [R63_32b_val, rot32 hx 17 131072 32768 (by decide) (by decide), rot32 hx 19 524288 8192 (by decide) (by decide)]
        rfl
  · exact absurd hc nofail
noncomputable def S63_32 : Summary := callR sm63_32 []
theorem S63_32_ok : SumOk prog glS 63 S63_32 := callR_ok sm63_32_ok []
noncomputable def sm58_32 : Summary := fun args T => match args, T with
  | [.agg [.int .i64 bb, .int .i64 bk, .int .i64 br, .slice 1 0 0 0 3 (some 3), .slice 1 1 0 0 3 (some 3), .slice 1 2 0 0 3 (some 3), .slice 1 3 0 0 3 (some 3)], .int .u64 x, .slice 1 i 0 0 3 (some 3)], [some ⟨.ints .i64 a0, 0, false, 3⟩, some ⟨.ints .i64 a1, 0, false, 3⟩, some ⟨.ints .i64 a2, 0, false, 3⟩, some ⟨.ints .i64 a3, 0, false, 3⟩] => ⟨[.rng 32 bb 32, .rng 64 bk 64, .rng 64 br 64, .p (zz32Law a0 a1 a2 a3), .p (highIxLaw i), .p (Wd 32 x)], .int .u64 (highLaw 32 (selHigh i [2, 13, 22] [6, 11, 25]) x), [some ⟨.ints .i64 a0, 0, false, 3⟩, some ⟨.ints .i64 a1, 0, false, 3⟩, some ⟨.ints .i64 a2, 0, false, 3⟩, some ⟨.ints .i64 a3, 0, false, 3⟩]⟩
  | _, _ => fail
theorem sm58_32_ok : SmOk prog glS 58 sm58_32 := by
  intro args T hc
  unfold sm58_32 at hc ⊢
  split at hc
  · rename_i bb bk br x i a0 a1 a2 a3
    obtain ⟨z1, z2, z3, z4, hi, hx, _⟩ := hc
    simp only [Con.h] at z1 z2 z3 z4 hi hx
    obtain rfl : bb = 32 := by omega
    obtain rfl : bk = 64 := by omega
    obtain rfl : br = 64 := by omega
    obtain ⟨z4, z5, z6, z7⟩ := z4
    subst z4 z5 z6 z7
    have hu : Wd 64 x := hx.up
    have hd : ∀ d : Int, 0 < d → Wd 64 (x / d) := fun d h => hu.divk h
    have hm : ∀ y : Int, Wd 64 (y % 18446744073709551616) := fun y => Wd.mod 64 y
    rcases hi with rfl | rfl
    · refine small_drop (small_of (R := R58_32a x) eQ32_ok hmS (f := 58) (fn := f58) (by kernel_rfl) (by kernel_rfl) FnOrc.nil rfl (R58_32a_ok ?_) ?_ R58_32a_tab)
      · simp only [allP, Con.h, nn_64, eq_self, true_and, and_true]
        repeat' with_reducible apply And.intro
        all_goals repeat' (first | exact hd _ (by decide) | exact hm _ | apply Wd.ixor | apply Wd.ior | apply Wd.iand)
      · rw [R58_32a_val, rot32 hx 2 4 1073741824 (by decide) (by decide), rot32 hx 13 8192 524288 (by decide) (by decide), rot32 hx 22 4194304 1024 (by decide) (by decide)]
        rfl
    · refine small_drop (small_of (R := R58_32b x) eQ32_ok hmS (f := 58) (fn := f58) (by kernel_rfl) (by kernel_rfl) FnOrc.nil rfl (R58_32b_ok ?_) ?_ R58_32b_tab)
      · simp only [allP, Con.h, nn_64, eq_self, true_and, and_true]
        repeat' with_reducible apply And.intro
        all_goals repeat' (first | exact hd _ (by decide) | exact hm _ | apply Wd.ixor | apply Wd.ior | apply Wd.iand)
      · rw [R58_32b_val, rot32 hx 6 64 67108864 (by decide) (by decide), rot32 hx 11 2048 2097152 (by decide) (by decide), rot32 hx 25 33554432 128 (by decide) (by decide)]
        rfl
  · exact absurd hc nofail
noncomputable def S58_32 : Summary := callR sm58_32 []
theorem S58_32_ok : SumOk prog glS 58 S58_32 := callR_ok sm58_32_ok []
noncomputable def sm63_64 : Summary := fun args T => match args, T with
  | [.agg [.int .i64 bb, .int .i64 bk, .int .i64 br, .slice 1 0 0 0 3 (some 3), .slice 1 1 0 0 3 (some 3), .slice 1 2 0 0 3 (some 3), .slice 1 3 0 0 3 (some 3)], .int .u64 x, .slice 1 i 0 0 3 (some 3)], [some ⟨.ints .i64 a0, 0, false, 3⟩, some ⟨.ints .i64 a1, 0, false, 3⟩, some ⟨.ints .i64 a2, 0, false, 3⟩, some ⟨.ints .i64 a3, 0, false, 3⟩] => ⟨[.rng 64 bb 64, .rng 128 bk 128, .rng 80 br 80, .p (zz64Law a0 a1 a2 a3), .p (lowIxLaw i), .p (Wd 64 x)], .int .u64 (lowLaw 64 (selLow i [1, 8, 7] [19, 61, 6]) x), [some ⟨.ints .i64 a0, 0, false, 3⟩, some ⟨.ints .i64 a1, 0, false, 3⟩, some ⟨.ints .i64 a2, 0, false, 3⟩, some ⟨.ints .i64 a3, 0, false, 3⟩]⟩
  | _, _ => fail
theorem sm63_64_ok : SmOk prog glS 63 sm63_64 := by
  intro args T hc
  unfold sm63_64 at hc ⊢
  split at hc
  · rename_i bb bk br x i a0 a1 a2 a3
    obtain ⟨z1, z2, z3, z4, hi, hx, _⟩ := hc
    simp only [Con.h] at z1 z2 z3 z4 hi hx
    obtain rfl : bb = 64 := by omega
    obtain rfl : bk = 128 := by omega
    obtain rfl : br = 80 := by omega
    obtain ⟨z4, z5, z6, z7⟩ := z4
    subst z4 z5 z6 z7
    have hu : Wd 64 x := hx
    have hd : ∀ d : Int, 0 < d → Wd 64 (x / d) := fun d h => hu.divk h
    have hm : ∀ y : Int, Wd 64 (y % 18446744073709551616) := fun y => Wd.mod 64 y
    rcases hi with rfl | rfl
    · refine small_drop (small_of (R := R63_64a x) eQ64_ok hmS (f := 63) (fn := f63) (by kernel_rfl) (by kernel_rfl) FnOrc.nil rfl (R63_64a_ok ?_) ?_ R63_64a_tab)
      · simp only [allP, Con.h, nn_64, eq_self, true_and, and_true]
        repeat' with_reducible apply And.intro
        all_goals repeat' (first | exact hd _ (by decide) | exact hm _ | apply Wd.ixor | apply Wd.ior | apply Wd.iand)
      · rw [R63_64a_val, rot64 1 2 9223372036854775808 (by decide) (by decide), rot64 8 256 72057594037927936 (by decide) (by decide)]
        rfl
    · refine small_drop (small_of (R := R63_64b x) eQ64_ok hmS (f := 63) (fn := f63) (by kernel_rfl) (by kernel_rfl) FnOrc.nil rfl (R63_64b_ok ?_) ?_ R63_64b_tab)
      · simp only [allP, Con.h, nn_64, eq_self, true_and, and_true]
        repeat' with_reducible apply And.intro
        all_goals repeat' (first | exact hd _ (by decide) | exact hm _ | apply Wd.ixor | apply Wd.ior | apply Wd.iand)
      · rw [R63_64b_val, rot64 19 524288 35184372088832 (by decide) (by decide), rot64 61 2305843009213693952 8 (by decide) (by decide)]
        rfl
  · exact absurd hc nofail
noncomputable def S63_64 : Summary := callR sm63_64 []
theorem S63_64_ok : SumOk prog glS 63 S63_64 := callR_ok sm63_64_ok []
noncomputable def sm58_64 : Summary := fun args T => match args, T with
  | [.agg [.int .i64 bb, .int .i64 bk, .int .i64 br, .slice 1 0 0 0 3 (some 3), .slice 1 1 0 0 3 (some 3), .slice 1 2 0 0 3 (some 3), .slice 1 3 0 0 3 (some 3)], .int .u64 x, .slice 1 i 0 0 3 (some 3)], [some ⟨.ints .i64 a0, 0, false, 3⟩, some ⟨.ints .i64 a1, 0, false, 3⟩, some ⟨.ints .i64 a2, 0, false, 3⟩, some ⟨.ints .i64 a3, 0, false, 3⟩] => ⟨[.rng 64 bb 64, .rng 128 bk 128, .rng 80 br 80, .p (zz64Law a0 a1 a2 a3), .p (highIxLaw i), .p (Wd 64 x)], .int .u64 (highLaw 64 (selHigh i [28, 34, 39] [14, 18, 41]) x), [some ⟨.ints .i64 a0, 0, false, 3⟩, some ⟨.ints .i64 a1, 0, false, 3⟩, some ⟨.ints .i64 a2, 0, false, 3⟩, some ⟨.ints .i64 a3, 0, false, 3⟩]⟩
  | _, _ => fail
theorem sm58_64_ok : SmOk prog glS 58 sm58_64 := by
  intro args T hc
  unfold sm58_64 at hc ⊢
  split at hc
  · rename_i bb bk br x i a0 a1 a2 a3
    obtain ⟨z1, z2, z3, z4, hi, hx, _⟩ := hc
    simp only [Con.h] at z1 z2 z3 z4 hi hx
    obtain rfl : bb = 64 := by omega
    obtain rfl : bk = 128 := by omega
    obtain rfl : br = 80 := by omega
    obtain ⟨z4, z5, z6, z7⟩ := z4
    subst z4 z5 z6 z7
    have hu : Wd 64 x := hx
    have hd : ∀ d : Int, 0 < d → Wd 64 (x / d) := fun d h => hu.divk h
    have hm : ∀ y : Int, Wd 64 (y % 18446744073709551616) := fun y => Wd.mod 64 y
    rcases hi with rfl | rfl
    · refine small_drop (small_of (R := R58_64a x) eQ64_ok hmS (f := 58) (fn := f58) (by kernel_rfl) (by kernel_rfl) FnOrc.nil rfl (R58_64a_ok ?_) ?_ R58_64a_tab)
      · simp only [allP, Con.h, nn_64, eq_self, true_and, and_true]
        repeat' with_reducible apply And.intro
        all_goals repeat' (first | exact hd _ (by decide) | exact hm _ | apply Wd.ixor | apply Wd.ior | apply Wd.iand)
      · rw [R58_64a_val, rot64 28 268435456 68719476736 (by decide) (by decide), rot64 34 17179869184 1073741824 (by decide) (by decide), rot64 39 549755813888 33554432 (by decide) (by decide)]
        rfl
    · refine small_drop (small_of (R := R58_64b x) eQ64_ok hmS (f := 58) (fn := f58) (by kernel_rfl) (by kernel_rfl) FnOrc.nil rfl (R58_64b_ok ?_) ?_ R58_64b_tab)
      · simp only [allP, Con.h, nn_64, eq_self, true_and, and_true]
        repeat' with_reducible apply And.intro
        all_goals repeat' (first | exact hd _ (by decide) | exact hm _ | apply Wd.ixor | apply Wd.ior | apply Wd.iand)
      · rw [R58_64b_val, rot64 14 16384 1125899906842624 (by decide) (by decide), rot64 18 262144 70368744177664 (by decide) (by decide), rot64 41 2199023255552 8388608 (by decide) (by decide)]
        rfl
  · exact absurd hc nofail
noncomputable def S58_64 : Summary := callR sm58_64 []
theorem S58_64_ok : SumOk prog glS 58 S58_64 := callR_ok sm58_64_ok []
end Go.Abs

set_option linter.unusedVariables false
set_option linter.unusedSimpArgs false
set_option maxRecDepth 8000
namespace Go.Abs
open Go.Proofs Go.Proofs.Tryd
/-! ### the document's words of a block -/
noncomputable def eR32 : Env := eS0 [(57, S57_32), (63, S63_32)]
theorem eR32_ok : EnvOk eR32 := envOf_ok tysS_ok (SumsOk.cons (fn := f57) S57_32_ok (by kernel_rfl) (by kernel_rfl) (by kernel_rfl) (SumsOk.cons (fn := f63) S63_32_ok (by kernel_rfl) (by kernel_rfl) (by kernel_rfl) trivial))
noncomputable def C56_32 (i k x : Int) (off m : Nat) (zs ws : List Int) (g4 g6 : Nat) (ow : Bool) : Out := trim 7 7 [1,2,5,6,7,8,9] (run eR32 82 ⟨7, []⟩ 400 (roundOf 2 f56) [(1, .slice 1 4 g4 off 64 none), (2, .var 5 0), (5, .int .i64 4), (6, .slice 1 6 g6 0 m none), (7, .int .i64 i), (8, .int .u64 x), (9, .int .i64 k)] [some ⟨.ints .i64 [7, 18, 3], 0, false, 3⟩, some ⟨.ints .i64 [17, 19, 10], 0, false, 3⟩, some ⟨.ints .i64 [2, 13, 22], 0, false, 3⟩, some ⟨.ints .i64 [6, 11, 25], 0, false, 3⟩, some ⟨.ints .u8 zs, g4, ow, 5⟩, some ⟨.agg [.int .i64 32, .int .i64 64, .int .i64 64, .slice 1 0 0 0 3 (some 3), .slice 1 1 0 0 3 (some 3), .slice 1 2 0 0 3 (some 3), .slice 1 3 0 0 3 (some 3)], 0, true, 54⟩, some ⟨.ints .u64 ws, g6, true, 56⟩] [some true])
theorem C56_32_ok {i k x : Int} {off m : Nat} {zs ws : List Int} {g4 g6 : Nat} {ow : Bool} (h : allP [.p (decide (k < 4) = true), .rng (-9223372036854775808) (4 * i) 9223372036854775807, .rng (-9223372036854775808) (4 * i + k) 9223372036854775807, .eqN g4 g4, .leI 0 (4 * i + k), .leI (4 * i + k + 1) 64, .eqN g4 g4, .leN (addO off (4 * i + k).toNat + 1) zs.length, .rng 0 (zs.getD (addO off (4 * i +
 k).toNat) 0) 18446744073709551615, .nn .u64 (x * 256 % 18446744073709551616), .nn .u64 (zs.getD (addO off (4 * i + k).toNat) 0), .rng (-9223372036854775808) (k + 1) 9223372036854775807]) : Ok (C56_32 i k x off m zs ws g4 g6 ow) := Ok.dem (fl := bitsF 13 2) (by kernel_rfl) (by kernel_rfl) (by kernel_rfl) h
theorem C56_32_ex {i k x : Int} {off m : Nat} {zs ws : List Int} {g4 g6 : Nat} {ow : Bool} : (C56_32 i k x off m zs ws g4 g6 ow).ex = .normal := by kernel_rfl
theorem C56_32_fm {i k x : Int} {off m : Nat} {zs ws : List Int} {g4 g6 : Nat} {ow : Bool} : (C56_32 i k x off m zs ws g4 g6 ow).fm = [(1, .slice 1 4 g4 off 64 none), (2, .var 5 0), (5, .int .i64 4), (6, .slice 1 6 g6 0 m none), (7, .int .i64 i), (8, .int .u64 (ior (x * 256 % 18446744073709551616) (zs.getD (addO off (4 * i + k).toNat) 0))), (9, .int .i64 (k + 1))] := by kernel_rfl
theorem C56_32_tab {i k x : Int} {off m : Nat} {zs ws : List Int} {g4 g6 : Nat} {ow : Bool} : (C56_32 i k x off m zs ws g4 g6 ow).tab = [some ⟨.ints .i64 [7, 18, 3], 0, false, 3⟩, some ⟨.ints .i64 [17, 19, 10], 0, false, 3⟩, some ⟨.ints .i64 [2, 13, 22], 0, false, 3⟩, some ⟨.ints .i64 [6, 11, 25], 0, false, 3⟩, some ⟨.ints .u8 zs, g4, ow, 5⟩, some ⟨.agg [.int .i64 32, .int .i64 64, .int .i64 64,
 .slice 1 0 0 0 3 (some 3), .slice 1 1 0 0 3 (some 3), .slice 1 2 0 0 3 (some 3), .slice 1 3 0 0 3 (some 3)], 0, true, 54⟩, some ⟨.ints .u64 ws, g6, true, 56⟩] := by kernel_rfl
noncomputable def D56_32 (i k x : Int) (off m : Nat) (zs ws : List Int) (g4 g6 : Nat) (ow : Bool) : Out := trim 7 7 [1,2,5,6,7,8] (run eR32 82 ⟨7, []⟩ 400 (roundOf 2 f56) [(1, .slice 1 4 g4 off 64 none), (2, .var 5 0), (5, .int .i64 4), (6, .slice 1 6 g6 0 m none), (7, .int .i64 i), (8, .int .u64 x), (9, .int .i64 k)] [some ⟨.ints .i64 [7, 18, 3], 0, false, 3⟩, some ⟨.ints .i64 [17, 19, 10], 0, false, 3⟩, some ⟨.ints .i64 [2, 13, 22], 0, false, 3⟩, some ⟨.ints .i64 [6, 11, 25], 0, false, 3⟩, some ⟨.ints .u8 zs, g4, ow, 5⟩, some ⟨.agg [.int .i64 32, .int .i64 64, .int .i64 64, .slice 1 0 0 0 3 (some 3), .slice 1 1 0 0 3 (some 3), .slice 1 2 0 0 3 (some 3), .slice 1 3 0 0 3 (some 3)], 0, true, 54⟩, some ⟨.ints .u64 ws, g6, true, 56⟩] [some false])
theorem D56_32_ok {i k x : Int} {off m : Nat} {zs ws : List Int} {g4 g6 : Nat} {ow : Bool} (h : allP [.p (decide (k < 4) = false)]) : Ok (D56_32 i k x off m zs ws g4 g6 ow) := Ok.dem (fl := [false]) (by kernel_rfl) (by kernel_rfl) (by kernel_rfl) h
theorem D56_32_ex {i k x : Int} {off m : Nat} {zs ws : List Int} {g4 g6 : Nat} {ow : Bool} : (D56_32 i k x off m zs ws g4 g6 ow).ex = .exit 2 := by kernel_rfl
theorem D56_32_fm {i k x : Int} {off m : Nat} {zs ws : List Int} {g4 g6 : Nat} {ow : Bool} : (D56_32 i k x off m zs ws g4 g6 ow).fm = [(1, .slice 1 4 g4 off 64 none), (2, .var 5 0), (5, .int .i64 4), (6, .slice 1 6 g6 0 m none), (7, .int .i64 i), (8, .int .u64 x)] := by kernel_rfl
theorem D56_32_tab {i k x : Int} {off m : Nat} {zs ws : List Int} {g4 g6 : Nat} {ow : Bool} : (D56_32 i k x off m zs ws g4 g6 ow).tab = [some ⟨.ints .i64 [7, 18, 3], 0, false, 3⟩, some ⟨.ints .i64 [17, 19, 10], 0, false, 3⟩, some ⟨.ints .i64 [2, 13, 22], 0, false, 3⟩, some ⟨.ints .i64 [6, 11, 25], 0, false, 3⟩, some ⟨.ints .u8 zs, g4, ow, 5⟩, some ⟨.agg [.int .i64 32, .int .i64 64, .int .i64 64,
 .slice 1 0 0 0 3 (some 3), .slice 1 1 0 0 3 (some 3), .slice 1 2 0 0 3 (some 3), .slice 1 3 0 0 3 (some 3)], 0, true, 54⟩, some ⟨.ints .u64 ws, g6, true, 56⟩] := by kernel_rfl
noncomputable def E56_32 (t : Int) (m : Nat) (zs ws : List Int) (g4 g6 : Nat) (ow : Bool) : Out := trim 7 7 [2,6,10] (run eR32 82 ⟨7, []⟩ 400 (roundOf 4 f56) [(2, .var 5 0), (6, .slice 1 6 g6 0 m none), (10, .int .i64 t)] [some ⟨.ints .i64 [7, 18, 3], 0, false, 3⟩, some ⟨.ints .i64 [17, 19, 10], 0, false, 3⟩, some ⟨.ints .i64 [2, 13, 22], 0, false, 3⟩, some ⟨.ints .i64 [6, 11, 25], 0, false, 3⟩, some ⟨.ints .u8 zs, g4, ow, 5⟩, some ⟨.agg [.int .i64 32, .int .i64 64, .int .i64 64, .slice 1 0 0 0 3 (some 3), .slice 1 1 0 0 3 (some 3), .slice 1 2 0 0 3 (some 3), .slice 1 3 0 0 3 (some 3)], 0, true, 54⟩, some ⟨.ints .u64 ws, g6, true, 56⟩] [some true])
theorem E56_32_ok {t : Int} {m : Nat} {zs ws : List Int} {g4 g6 : Nat} {ow : Bool} (h : allP [.p (decide (t < 64) = true), .rng (-9223372036854775808) (t - 2) 9223372036854775807, .eqN g6 g6, .leI 0 (t - 2), .leI (t - 2 + 1) (↑m : Int), .eqN g6 g6, .leN ((t - 2).toNat + 1) ws.length, .p (zz32Law [7, 18, 3] [17, 19, 10] [2, 13, 22] [6, 11, 25]), .p (lowIxLaw 1), .p (0 ≤ ws.getD (t - 2).toNat 0 ∧
 ws.getD (t - 2).toNat 0 < 4294967296), .rng (-9223372036854775808) (t - 7) 9223372036854775807, .rng (-9223372036854775808) (t - 7) 9223372036854775807, .rng (-9223372036854775808) (t - 7) 9223372036854775807, .eqN g6 g6, .leI 0 (t - 7), .leI (t - 7 + 1) (↑m : Int), .eqN g6 g6, .leI 0 (t - 7), .leI (t - 7 + 1) (↑m : Int), .eqN g6 g6, .leI 0 (t - 7), .leI (t - 7 + 1) (↑m : Int), .eqN g6 g6, .leN ((t
 - 7).toNat + 1) ws.length, .eqN g6 g6, .leN ((t - 7).toNat + 1) ws.length, .eqN g6 g6, .leN ((t - 7).toNat + 1) ws.length, .rng (-9223372036854775808) (t - 15) 9223372036854775807, .rng (-9223372036854775808) (t - 15) 9223372036854775807, .eqN g6 g6, .leI 0 (t - 15), .leI (t - 15 + 1) (↑m : Int), .eqN g6 g6, .leI 0 (t - 15), .leI (t - 15 + 1) (↑m : Int), .eqN g6 g6, .leN ((t - 15).toNat + 1)
 ws.length, .eqN g6 g6, .leN ((t - 15).toNat + 1) ws.length, .p (zz32Law [7, 18, 3] [17, 19, 10] [2, 13, 22] [6, 11, 25]), .p (lowIxLaw 0), .p (0 ≤ ws.getD (t - 15).toNat 0 ∧ ws.getD (t - 15).toNat 0 < 4294967296), .rng (-9223372036854775808) (t - 16) 9223372036854775807, .rng (-9223372036854775808) (t - 16) 9223372036854775807, .rng (-9223372036854775808) (t - 16) 9223372036854775807, .eqN g6 g6,
 .leI 0 (t - 16), .leI (t - 16 + 1) (↑m : Int), .eqN g6 g6, .leI 0 (t - 16), .leI (t - 16 + 1) (↑m : Int), .eqN g6 g6, .leI 0 (t - 16), .leI (t - 16 + 1) (↑m : Int), .eqN g6 g6, .leN ((t - 16).toNat + 1) ws.length, .eqN g6 g6, .leN ((t - 16).toNat + 1) ws.length, .eqN g6 g6, .leN ((t - 16).toNat + 1) ws.length, .nn .u64 ((((lowLaw 32 [17, 19, 10] (ws.getD (t - 2).toNat 0) + ws.getD (t - 7).toNat 0)
 % 18446744073709551616 + lowLaw 32 [7, 18, 3] (ws.getD (t - 15).toNat 0)) % 18446744073709551616 + ws.getD (t - 16).toNat 0) % 18446744073709551616), .eqN g6 g6, .leN (0 + m) ws.length, .leN (addO m 1 * 8) 140737488355328, .rng (-9223372036854775808) (t + 1) 9223372036854775807]) : Ok (E56_32 t m zs ws g4 g6 ow) := Ok.dem (fl := bitsF 158 80583655662604495161779264607117276297967136519) (by
 kernel_rfl) (by kernel_rfl) (by kernel_rfl) h
theorem E56_32_ex {t : Int} {m : Nat} {zs ws : List Int} {g4 g6 : Nat} {ow : Bool} : (E56_32 t m zs ws g4 g6 ow).ex = .normal := by kernel_rfl
theorem E56_32_fm {t : Int} {m : Nat} {zs ws : List Int} {g4 g6 : Nat} {ow : Bool} : (E56_32 t m zs ws g4 g6 ow).fm = [(2, .var 5 0), (6, .slice 1 6 (g6 + 1) 0 (addO m 1) none), (10, .int .i64 (t + 1))] := by kernel_rfl
theorem E56_32_tab {t : Int} {m : Nat} {zs ws : List Int} {g4 g6 : Nat} {ow : Bool} : (E56_32 t m zs ws g4 g6 ow).tab = [some ⟨.ints .i64 [7, 18, 3], 0, false, 3⟩, some ⟨.ints .i64 [17, 19, 10], 0, false, 3⟩, some ⟨.ints .i64 [2, 13, 22], 0, false, 3⟩, some ⟨.ints .i64 [6, 11, 25], 0, false, 3⟩, some ⟨.ints .u8 zs, g4, ow, 5⟩, some ⟨.agg [.int .i64 32, .int .i64 64, .int .i64 64, .slice 1 0 0 0 3
 (some 3), .slice 1 1 0 0 3 (some 3), .slice 1 2 0 0 3 (some 3), .slice 1 3 0 0 3 (some 3)], 0, true, 54⟩, some ⟨.ints .u64 (List.take m ws ++ List.take 1 ([0].set 0 (iand ((((lowLaw 32 [17, 19, 10] (ws.getD (t - 2).toNat 0) + ws.getD (t - 7).toNat 0) % 18446744073709551616 + lowLaw 32 [7, 18, 3] (ws.getD (t - 15).toNat 0)) % 18446744073709551616 + ws.getD (t - 16).toNat 0) % 18446744073709551616)
 4294967295))), g6 + 1, true, 56⟩] := by kernel_rfl
noncomputable def F56_32 (t : Int) (m : Nat) (zs ws : List Int) (g4 g6 : Nat) (ow : Bool) : Out := trim 7 7 [2,6] (run eR32 82 ⟨7, []⟩ 400 (roundOf 4 f56) [(2, .var 5 0), (6, .slice 1 6 g6 0 m none), (10, .int .i64 t)] [some ⟨.ints .i64 [7, 18, 3], 0, false, 3⟩, some ⟨.ints .i64 [17, 19, 10], 0, false, 3⟩, some ⟨.ints .i64 [2, 13, 22], 0, false, 3⟩, some ⟨.ints .i64 [6, 11, 25], 0, false, 3⟩, some ⟨.ints .u8 zs, g4, ow, 5⟩, some ⟨.agg [.int .i64 32, .int .i64 64, .int .i64 64, .slice 1 0 0 0 3 (some 3), .slice 1 1 0 0 3 (some 3), .slice 1 2 0 0 3 (some 3), .slice 1 3 0 0 3 (some 3)], 0, true, 54⟩, some ⟨.ints .u64 ws, g6, true, 56⟩] [some false])
theorem F56_32_ok {t : Int} {m : Nat} {zs ws : List Int} {g4 g6 : Nat} {ow : Bool} (h : allP [.p (decide (t < 64) = false)]) : Ok (F56_32 t m zs ws g4 g6 ow) := Ok.dem (fl := [true, true, true, false]) (by kernel_rfl) (by kernel_rfl) (by kernel_rfl) h
theorem F56_32_ex {t : Int} {m : Nat} {zs ws : List Int} {g4 g6 : Nat} {ow : Bool} : (F56_32 t m zs ws g4 g6 ow).ex = .exit 4 := by kernel_rfl
theorem F56_32_fm {t : Int} {m : Nat} {zs ws : List Int} {g4 g6 : Nat} {ow : Bool} : (F56_32 t m zs ws g4 g6 ow).fm = [(2, .var 5 0), (6, .slice 1 6 g6 0 m none)] := by kernel_rfl
theorem F56_32_tab {t : Int} {m : Nat} {zs ws : List Int} {g4 g6 : Nat} {ow : Bool} : (F56_32 t m zs ws g4 g6 ow).tab = [some ⟨.ints .i64 [7, 18, 3], 0, false, 3⟩, some ⟨.ints .i64 [17, 19, 10], 0, false, 3⟩, some ⟨.ints .i64 [2, 13, 22], 0, false, 3⟩, some ⟨.ints .i64 [6, 11, 25], 0, false, 3⟩, some ⟨.ints .u8 zs, g4, ow, 5⟩, some ⟨.agg [.int .i64 32, .int .i64 64, .int .i64 64, .slice 1 0 0 0 3
 (some 3), .slice 1 1 0 0 3 (some 3), .slice 1 2 0 0 3 (some 3), .slice 1 3 0 0 3 (some 3)], 0, true, 54⟩, some ⟨.ints .u64 ws, g6, true, 56⟩] := by kernel_rfl
noncomputable def eR64 : Env := eS0 [(57, S57_64), (63, S63_64)]
theorem eR64_ok : EnvOk eR64 := envOf_ok tysS_ok (SumsOk.cons (fn := f57) S57_64_ok (by kernel_rfl) (by kernel_rfl) (by kernel_rfl) (SumsOk.cons (fn := f63) S63_64_ok (by kernel_rfl) (by kernel_rfl) (by kernel_rfl) trivial))
noncomputable def C56_64 (i k x : Int) (off m : Nat) (zs ws : List Int) (g4 g6 : Nat) (ow : Bool) : Out := trim 7 7 [1,2,5,6,7,8,9] (run eR64 82 ⟨7, []⟩ 400 (roundOf 2 f56) [(1, .slice 1 4 g4 off 128 none), (2, .var 5 0), (5, .int .i64 8), (6, .slice 1 6 g6 0 m none), (7, .int .i64 i), (8, .int .u64 x), (9, .int .i64 k)] [some ⟨.ints .i64 [1, 8, 7], 0, false, 3⟩, some ⟨.ints .i64 [19, 61, 6], 0, false, 3⟩, some ⟨.ints .i64 [28, 34, 39], 0, false, 3⟩, some ⟨.ints .i64 [14, 18, 41], 0, false, 3⟩, some ⟨.ints .u8 zs, g4, ow, 5⟩, some ⟨.agg [.int .i64 64, .int .i64 128, .int .i64 80, .slice 1 0 0 0 3 (some 3), .slice 1 1 0 0 3 (some 3), .slice 1 2 0 0 3 (some 3), .slice 1 3 0 0 3 (some 3)], 0, true, 54⟩, some ⟨.ints .u64 ws, g6, true, 56⟩] [some true])
theorem C56_64_ok {i k x : Int} {off m : Nat} {zs ws : List Int} {g4 g6 : Nat} {ow : Bool} (h : allP [.p (decide (k < 8) = true), .rng (-9223372036854775808) (8 * i) 9223372036854775807, .rng (-9223372036854775808) (8 * i + k) 9223372036854775807, .eqN g4 g4, .leI 0 (8 * i + k), .leI (8 * i + k + 1) 128, .eqN g4 g4, .leN (addO off (8 * i + k).toNat + 1) zs.length, .rng 0 (zs.getD (addO off (8 * i +
 k).toNat) 0) 18446744073709551615, .nn .u64 (x * 256 % 18446744073709551616), .nn .u64 (zs.getD (addO off (8 * i + k).toNat) 0), .rng (-9223372036854775808) (k + 1) 9223372036854775807]) : Ok (C56_64 i k x off m zs ws g4 g6 ow) := Ok.dem (fl := bitsF 13 2) (by kernel_rfl) (by kernel_rfl) (by kernel_rfl) h
theorem C56_64_ex {i k x : Int} {off m : Nat} {zs ws : List Int} {g4 g6 : Nat} {ow : Bool} : (C56_64 i k x off m zs ws g4 g6 ow).ex = .normal := by kernel_rfl
theorem C56_64_fm {i k x : Int} {off m : Nat} {zs ws : List Int} {g4 g6 : Nat} {ow : Bool} : (C56_64 i k x off m zs ws g4 g6 ow).fm = [(1, .slice 1 4 g4 off 128 none), (2, .var 5 0), (5, .int .i64 8), (6, .slice 1 6 g6 0 m none), (7, .int .i64 i), (8, .int .u64 (ior (x * 256 % 18446744073709551616) (zs.getD (addO off (8 * i + k).toNat) 0))), (9, .int .i64 (k + 1))] := by kernel_rfl
theorem C56_64_tab {i k x : Int} {off m : Nat} {zs ws : List Int} {g4 g6 : Nat} {ow : Bool} : (C56_64 i k x off m zs ws g4 g6 ow).tab = [some ⟨.ints .i64 [1, 8, 7], 0, false, 3⟩, some ⟨.ints .i64 [19, 61, 6], 0, false, 3⟩, some ⟨.ints .i64 [28, 34, 39], 0, false, 3⟩, some ⟨.ints .i64 [14, 18, 41], 0, false, 3⟩, some ⟨.ints .u8 zs, g4, ow, 5⟩, some ⟨.agg [.int .i64 64, .int .i64 128, .int .i64 80,
 .slice 1 0 0 0 3 (some 3), .slice 1 1 0 0 3 (some 3), .slice 1 2 0 0 3 (some 3), .slice 1 3 0 0 3 (some 3)], 0, true, 54⟩, some ⟨.ints .u64 ws, g6, true, 56⟩] := by kernel_rfl
noncomputable def D56_64 (i k x : Int) (off m : Nat) (zs ws : List Int) (g4 g6 : Nat) (ow : Bool) : Out := trim 7 7 [1,2,5,6,7,8] (run eR64 82 ⟨7, []⟩ 400 (roundOf 2 f56) [(1, .slice 1 4 g4 off 128 none), (2, .var 5 0), (5, .int .i64 8), (6, .slice 1 6 g6 0 m none), (7, .int .i64 i), (8, .int .u64 x), (9, .int .i64 k)] [some ⟨.ints .i64 [1, 8, 7], 0, false, 3⟩, some ⟨.ints .i64 [19, 61, 6], 0, false, 3⟩, some ⟨.ints .i64 [28, 34, 39], 0, false, 3⟩, some ⟨.ints .i64 [14, 18, 41], 0, false, 3⟩, some ⟨.ints .u8 zs, g4, ow, 5⟩, some ⟨.agg [.int .i64 64, .int .i64 128, .int .i64 80, .slice 1 0 0 0 3 (some 3), .slice 1 1 0 0 3 (some 3), .slice 1 2 0 0 3 (some 3), .slice 1 3 0 0 3 (some 3)], 0, true, 54⟩, some ⟨.ints .u64 ws, g6, true, 56⟩] [some false])
theorem D56_64_ok {i k x : Int} {off m : Nat} {zs ws : List Int} {g4 g6 : Nat} {ow : Bool} (h : allP [.p (decide (k < 8) = false)]) : Ok (D56_64 i k x off m zs ws g4 g6 ow) := Ok.dem (fl := [false]) (by kernel_rfl) (by kernel_rfl) (by kernel_rfl) h
theorem D56_64_ex {i k x : Int} {off m : Nat} {zs ws : List Int} {g4 g6 : Nat} {ow : Bool} : (D56_64 i k x off m zs ws g4 g6 ow).ex = .exit 2 := by kernel_rfl
theorem D56_64_fm {i k x : Int} {off m : Nat} {zs ws : List Int} {g4 g6 : Nat} {ow : Bool} : (D56_64 i k x off m zs ws g4 g6 ow).fm = [(1, .slice 1 4 g4 off 128 none), (2, .var 5 0), (5, .int .i64 8), (6, .slice 1 6 g6 0 m none), (7, .int .i64 i), (8, .int .u64 x)] := by kernel_rfl
theorem D56_64_tab {i k x : Int} {off m : Nat} {zs ws : List Int} {g4 g6 : Nat} {ow : Bool} : (D56_64 i k x off m zs ws g4 g6 ow).tab = [some ⟨.ints .i64 [1, 8, 7], 0, false, 3⟩, some ⟨.ints .i64 [19, 61, 6], 0, false, 3⟩, some ⟨.ints .i64 [28, 34, 39], 0, false, 3⟩, some ⟨.ints .i64 [14, 18, 41], 0, false, 3⟩, some ⟨.ints .u8 zs, g4, ow, 5⟩, some ⟨.agg [.int .i64 64, .int .i64 128, .int .i64 80,
 .slice 1 0 0 0 3 (some 3), .slice 1 1 0 0 3 (some 3), .slice 1 2 0 0 3 (some 3), .slice 1 3 0 0 3 (some 3)], 0, true, 54⟩, some ⟨.ints .u64 ws, g6, true, 56⟩] := by kernel_rfl
noncomputable def E56_64 (t : Int) (m : Nat) (zs ws : List Int) (g4 g6 : Nat) (ow : Bool) : Out := trim 7 7 [2,6,10] (run eR64 82 ⟨7, []⟩ 400 (roundOf 4 f56) [(2, .var 5 0), (6, .slice 1 6 g6 0 m none), (10, .int .i64 t)] [some ⟨.ints .i64 [1, 8, 7], 0, false, 3⟩, some ⟨.ints .i64 [19, 61, 6], 0, false, 3⟩, some ⟨.ints .i64 [28, 34, 39], 0, false, 3⟩, some ⟨.ints .i64 [14, 18, 41], 0, false, 3⟩, some ⟨.ints .u8 zs, g4, ow, 5⟩, some ⟨.agg [.int .i64 64, .int .i64 128, .int .i64 80, .slice 1 0 0 0 3 (some 3), .slice 1 1 0 0 3 (some 3), .slice 1 2 0 0 3 (some 3), .slice 1 3 0 0 3 (some 3)], 0, true, 54⟩, some ⟨.ints .u64 ws, g6, true, 56⟩] [some true])
theorem E56_64_ok {t : Int} {m : Nat} {zs ws : List Int} {g4 g6 : Nat} {ow : Bool} (h : allP [.p (decide (t < 80) = true), .rng (-9223372036854775808) (t - 2) 9223372036854775807, .eqN g6 g6, .leI 0 (t - 2), .leI (t - 2 + 1) (↑m : Int), .eqN g6 g6, .leN ((t - 2).toNat + 1) ws.length, .p (zz64Law [1, 8, 7] [19, 61, 6] [28, 34, 39] [14, 18, 41]), .p (lowIxLaw 1), .p (0 ≤ ws.getD (t - 2).toNat 0 ∧
 ws.getD (t - 2).toNat 0 < 18446744073709551616), .rng (-9223372036854775808) (t - 7) 9223372036854775807, .rng (-9223372036854775808) (t - 7) 9223372036854775807, .rng (-9223372036854775808) (t - 7) 9223372036854775807, .eqN g6 g6, .leI 0 (t - 7), .leI (t - 7 + 1) (↑m : Int), .eqN g6 g6, .leI 0 (t - 7), .leI (t - 7 + 1) (↑m : Int), .eqN g6 g6, .leI 0 (t - 7), .leI (t - 7 + 1) (↑m : Int), .eqN g6
 g6, .leN ((t - 7).toNat + 1) ws.length, .eqN g6 g6, .leN ((t - 7).toNat + 1) ws.length, .eqN g6 g6, .leN ((t - 7).toNat + 1) ws.length, .rng (-9223372036854775808) (t - 15) 9223372036854775807, .rng (-9223372036854775808) (t - 15) 9223372036854775807, .eqN g6 g6, .leI 0 (t - 15), .leI (t - 15 + 1) (↑m : Int), .eqN g6 g6, .leI 0 (t - 15), .leI (t - 15 + 1) (↑m : Int), .eqN g6 g6, .leN ((t -
 15).toNat + 1) ws.length, .eqN g6 g6, .leN ((t - 15).toNat + 1) ws.length, .p (zz64Law [1, 8, 7] [19, 61, 6] [28, 34, 39] [14, 18, 41]), .p (lowIxLaw 0), .p (0 ≤ ws.getD (t - 15).toNat 0 ∧ ws.getD (t - 15).toNat 0 < 18446744073709551616), .rng (-9223372036854775808) (t - 16) 9223372036854775807, .rng (-9223372036854775808) (t - 16) 9223372036854775807, .rng (-9223372036854775808) (t - 16)
 9223372036854775807, .eqN g6 g6, .leI 0 (t - 16), .leI (t - 16 + 1) (↑m : Int), .eqN g6 g6, .leI 0 (t - 16), .leI (t - 16 + 1) (↑m : Int), .eqN g6 g6, .leI 0 (t - 16), .leI (t - 16 + 1) (↑m : Int), .eqN g6 g6, .leN ((t - 16).toNat + 1) ws.length, .eqN g6 g6, .leN ((t - 16).toNat + 1) ws.length, .eqN g6 g6, .leN ((t - 16).toNat + 1) ws.length, .eqN g6 g6, .leN (0 + m) ws.length, .leN (addO m 1 * 8)
 140737488355328, .rng (-9223372036854775808) (t + 1) 9223372036854775807]) : Ok (E56_64 t m zs ws g4 g6 ow) := Ok.dem (fl := bitsF 156 20148636174586506448217468088240216616760209159) (by kernel_rfl) (by kernel_rfl) (by kernel_rfl) h
theorem E56_64_ex {t : Int} {m : Nat} {zs ws : List Int} {g4 g6 : Nat} {ow : Bool} : (E56_64 t m zs ws g4 g6 ow).ex = .normal := by kernel_rfl
theorem E56_64_fm {t : Int} {m : Nat} {zs ws : List Int} {g4 g6 : Nat} {ow : Bool} : (E56_64 t m zs ws g4 g6 ow).fm = [(2, .var 5 0), (6, .slice 1 6 (g6 + 1) 0 (addO m 1) none), (10, .int .i64 (t + 1))] := by kernel_rfl
theorem E56_64_tab {t : Int} {m : Nat} {zs ws : List Int} {g4 g6 : Nat} {ow : Bool} : (E56_64 t m zs ws g4 g6 ow).tab = [some ⟨.ints .i64 [1, 8, 7], 0, false, 3⟩, some ⟨.ints .i64 [19, 61, 6], 0, false, 3⟩, some ⟨.ints .i64 [28, 34, 39], 0, false, 3⟩, some ⟨.ints .i64 [14, 18, 41], 0, false, 3⟩, some ⟨.ints .u8 zs, g4, ow, 5⟩, some ⟨.agg [.int .i64 64, .int .i64 128, .int .i64 80, .slice 1 0 0 0 3
 (some 3), .slice 1 1 0 0 3 (some 3), .slice 1 2 0 0 3 (some 3), .slice 1 3 0 0 3 (some 3)], 0, true, 54⟩, some ⟨.ints .u64 (List.take m ws ++ List.take 1 ([0].set 0 ((((lowLaw 64 [19, 61, 6] (ws.getD (t - 2).toNat 0) + ws.getD (t - 7).toNat 0) % 18446744073709551616 + lowLaw 64 [1, 8, 7] (ws.getD (t - 15).toNat 0)) % 18446744073709551616 + ws.getD (t - 16).toNat 0) % 18446744073709551616))), g6 +
 1, true, 56⟩] := by kernel_rfl
noncomputable def F56_64 (t : Int) (m : Nat) (zs ws : List Int) (g4 g6 : Nat) (ow : Bool) : Out := trim 7 7 [2,6] (run eR64 82 ⟨7, []⟩ 400 (roundOf 4 f56) [(2, .var 5 0), (6, .slice 1 6 g6 0 m none), (10, .int .i64 t)] [some ⟨.ints .i64 [1, 8, 7], 0, false, 3⟩, some ⟨.ints .i64 [19, 61, 6], 0, false, 3⟩, some ⟨.ints .i64 [28, 34, 39], 0, false, 3⟩, some ⟨.ints .i64 [14, 18, 41], 0, false, 3⟩, some ⟨.ints .u8 zs, g4, ow, 5⟩, some ⟨.agg [.int .i64 64, .int .i64 128, .int .i64 80, .slice 1 0 0 0 3 (some 3), .slice 1 1 0 0 3 (some 3), .slice 1 2 0 0 3 (some 3), .slice 1 3 0 0 3 (some 3)], 0, true, 54⟩, some ⟨.ints .u64 ws, g6, true, 56⟩] [some false])
theorem F56_64_ok {t : Int} {m : Nat} {zs ws : List Int} {g4 g6 : Nat} {ow : Bool} (h : allP [.p (decide (t < 80) = false)]) : Ok (F56_64 t m zs ws g4 g6 ow) := Ok.dem (fl := [true, true, true, false]) (by kernel_rfl) (by kernel_rfl) (by kernel_rfl) h
theorem F56_64_ex {t : Int} {m : Nat} {zs ws : List Int} {g4 g6 : Nat} {ow : Bool} : (F56_64 t m zs ws g4 g6 ow).ex = .exit 4 := by kernel_rfl
theorem F56_64_fm {t : Int} {m : Nat} {zs ws : List Int} {g4 g6 : Nat} {ow : Bool} : (F56_64 t m zs ws g4 g6 ow).fm = [(2, .var 5 0), (6, .slice 1 6 g6 0 m none)] := by kernel_rfl
theorem F56_64_tab {t : Int} {m : Nat} {zs ws : List Int} {g4 g6 : Nat} {ow : Bool} : (F56_64 t m zs ws g4 g6 ow).tab = [some ⟨.ints .i64 [1, 8, 7], 0, false, 3⟩, some ⟨.ints .i64 [19, 61, 6], 0, false, 3⟩, some ⟨.ints .i64 [28, 34, 39], 0, false, 3⟩, some ⟨.ints .i64 [14, 18, 41], 0, false, 3⟩, some ⟨.ints .u8 zs, g4, ow, 5⟩, some ⟨.agg [.int .i64 64, .int .i64 128, .int .i64 80, .slice 1 0 0 0 3
 (some 3), .slice 1 1 0 0 3 (some 3), .slice 1 2 0 0 3 (some 3), .slice 1 3 0 0 3 (some 3)], 0, true, 54⟩, some ⟨.ints .u64 ws, g6, true, 56⟩] := by kernel_rfl
end Go.Abs

set_option linter.unusedVariables false
set_option linter.unusedSimpArgs false
set_option maxRecDepth 8000
set_option maxHeartbeats 2000000
namespace Go.Abs
open Go.Proofs Go.Proofs.Tryd
/-! ### the document's words of a block: loops -/
def FC56_32 (g4 off g6 m i : Nat) (x : Int) (k : Nat) : Fm := [(1, .slice 1 4 g4 off 64 none), (2, .var 5 0), (5, .int .i64 4), (6, .slice 1 6 g6 0 m none), (7, .int .i64 i), (8, .int .u64 x), (9, .int .i64 k)]
def TC56_32 (zs ws : List Int) (g4 g6 : Nat) (ow : Bool) : Tab := [some ⟨.ints .i64 [7, 18, 3], 0, false, 3⟩, some ⟨.ints .i64 [17, 19, 10], 0, false, 3⟩, some ⟨.ints .i64 [2, 13, 22], 0, false, 3⟩, some ⟨.ints .i64 [6, 11, 25], 0, false, 3⟩, some ⟨.ints .u8 zs, g4, ow, 5⟩, some ⟨.agg [.int .i64 32, .int .i64 64, .int .i64 64, .slice 1 0 0 0 3 (some 3), .slice 1 1 0 0 3 (some 3), .slice 1 2 0 0 3 (some 3), .slice 1 3 0 0 3 (some 3)], 0, true, 54⟩, some ⟨.ints .u64 ws, g6, true, 56⟩]
theorem loopC56_32 {zs ws : List Int} {g4 g6 : Nat} {ow : Bool} {off m i : Nat} (hi : i < 16) (hz : off + 64 ≤ zs.length) (hb : BsLaw zs) :
    To eR32 82 7 (.block 2 (.loop (roundOf 2 f56))) (FC56_32 g4 off g6 m i 0 0) (TC56_32 zs ws g4 g6 ow) .normal [(1, .slice 1 4 g4 off 64 none), (2, .var 5 0), (5, .int .i64 4), (6, .slice 1 6 g6 0 m none), (7, .int .i64 i), (8, .int .u64 (wdLaw zs (off + 4 * i) 4))] (TC56_32 zs ws g4 g6 ow) := by
  refine To.rounds (fun k => FC56_32 g4 off g6 m i (wdLaw zs (off + 4 * i) k) k) (fun k => TC56_32 zs ws g4 g6 ow) 4 (fun k hk => ?_)
    (To.of (o := D56_32 i (4 : Nat) (wdLaw zs (off + 4 * i) 4) off m zs ws g4 g6 ow) eR32_ok hmS (Nat.le_refl 7) OrcOk.nil rfl (D56_32_ok (by simp [allP, Con.h])) D56_32_ex D56_32_fm D56_32_tab)
  have hw := wdLaw_rng hb (off + 4 * i) k
  have hq := hb (off + (4 * i + k))
  have hp : (256 : Int) ^ k * 256 ≤ 18446744073709551616 := by
    have : ∀ k, k < 4 → (256 : Int) ^ k * 256 ≤ 18446744073709551616 := by decide
    exact this k hk
  have hmul : 0 ≤ wdLaw zs (off + 4 * i) k * 256 ∧ wdLaw zs (off + 4 * i) k * 256 < 18446744073709551616 := by
    generalize (256 : Int) ^ k = p at hp hw; omega
  have hmd : wdLaw zs (off + 4 * i) k * 256 % 18446744073709551616 = wdLaw zs (off + 4 * i) k * 256 := Int.emod_eq_of_lt hmul.1 hmul.2
  have hix : (4 * (i : Int) + (k : Int)).toNat = 4 * i + k := by omega
  refine To.of (o := C56_32 i k (wdLaw zs (off + 4 * i) k) off m zs ws g4 g6 ow) eR32_ok hmS (Nat.le_refl 7) OrcOk.nil rfl (C56_32_ok ?_) C56_32_ex ?_ C56_32_tab
  · simp only [addO_eq, hix, hmd]
    have n1 : nonneg .u64 (wdLaw zs (off + 4 * i) k * 256) := hmul
    have n2 : nonneg .u64 (zs.getD (off + (4 * i + k)) 0) := ⟨hq.1, by have := hq.2; show _ < (18446744073709551616 : Int); omega⟩
    simp only [allP, Con.h, n1, n2, decide_eq_true_eq, eq_self, true_and, and_true]
    omega
  · rw [C56_32_fm]
    simp only [addO_eq, hix, hmd]
    rw [ior_add8 hw.1 hq]
    show _ = FC56_32 g4 off g6 m i (wdLaw zs (off + 4 * i) k * 256 + zs.getD (off + 4 * i + k) 0) (k + 1)
    rw [Nat.add_assoc off]
    rfl
noncomputable def gC56_32 : List AVal → Tab → Out := fun vs T => match vs, T with
  | [.slice 1 4 g4' off b none, .var 5 0, .int .i64 c, .slice 1 6 g6' 0 m none, .int .i64 i, .int .u64 x, .int .i64 k], [some ⟨.ints .i64 a0, 0, false, 3⟩, some ⟨.ints .i64 a1, 0, false, 3⟩, some ⟨.ints .i64 a2, 0, false, 3⟩, some ⟨.ints .i64 a3, 0, false, 3⟩, some ⟨.ints .u8 zs, g4, ow, 5⟩, some ⟨.agg [.int .i64 bb, .int .i64 bk, .int .i64 br, .slice 1 0 0 0 3 (some 3), .slice 1 1 0 0 3 (some 3), .slice 1 2 0 0 3 (some 3), .slice 1 3 0 0 3 (some 3)], 0, true, 54⟩, some ⟨.ints .u64 ws, g6, true, 56⟩] =>
    ⟨[.rng 32 bb 32, .rng 64 bk 64, .rng 64 br 64, .p (zz32Law a0 a1 a2 a3), .eqN g4' g4, .eqN g6' g6, .eqN b 64, .rng 4 c 4, .rng 0 i 15, .rng 0 x 0, .rng 0 k 0, .leN (off + 64) zs.length, .p (BsLaw zs)], .normal,
      [(1, .slice 1 4 g4 off 64 none), (2, .var 5 0), (5, .int .i64 4), (6, .slice 1 6 g6 0 m none), (7, .int .i64 i), (8, .int .u64 (wdLaw zs (off + 4 * i.toNat) 4))], [some ⟨.ints .i64 a0, 0, false, 3⟩, some ⟨.ints .i64 a1, 0, false, 3⟩, some ⟨.ints .i64 a2, 0, false, 3⟩, some ⟨.ints .i64 a3, 0, false, 3⟩, some ⟨.ints .u8 zs, g4, ow, 5⟩, some ⟨.agg [.int .i64 bb, .int .i64 bk, .int .i64 br, .slice 1 0 0 0 3 (some 3), .slice 1 1 0 0 3 (some 3), .slice 1 2 0 0 3 (some 3), .slice 1 3 0 0 3 (some 3)], 0, true, 54⟩, some ⟨.ints .u64 ws, g6, true, 56⟩], []⟩
  | _, _ => failO
theorem gC56_32_ok : BlkOk eR32 f56 2 (.loop (roundOf 2 f56)) (blkS 7 [1,2,5,6,7,8,9] gC56_32) := by
  refine blkS_ok fun vs T h => ?_
  unfold gC56_32 at h ⊢
  split at h
  · rename_i g4' off b c g6' m i x k a0 a1 a2 a3 zs g4 ow bb bk br ws g6
    obtain ⟨z1, z2, z3, z4, h1, h2, h3, h4, h5, h6, h7, h8, h9, _⟩ := h.h
    simp only [Con.h] at z1 z2 z3 z4 h1 h2 h3 h4 h5 h6 h7 h8 h9
    obtain rfl : bb = 32 := by omega
    obtain rfl : bk = 64 := by omega
    obtain rfl : br = 64 := by omega
    obtain ⟨z4, z5, z6, z7⟩ := z4
    subst z4 z5 z6 z7
    obtain rfl : c = 4 := by omega
    obtain rfl : x = 0 := by omega
    obtain rfl : k = 0 := by omega
    obtain ⟨q, rfl⟩ : ∃ q : Nat, i = q := ⟨i.toNat, by omega⟩
    subst h1 h2 h3
    exact loopC56_32 (by omega) h8 h9
  · exact absurd h nofailO
noncomputable def O56_32 (i : Int) (off m : Nat) (zs ws : List Int) (g4 g6 : Nat) (ow : Bool) : Out := trim 7 7 [1,2,5,6,7] (run eR32 82 ⟨7, [(2, blkS 7 [1,2,5,6,7,8,9] gC56_32)]⟩ 400 (roundOf 0 f56) [(1, .slice 1 4 g4 off 64 none), (2, .var 5 0), (5, .int .i64 4), (6, .slice 1 6 g6 0 m none), (7, .int .i64 i)] [some ⟨.ints .i64 [7, 18, 3], 0, false, 3⟩, some ⟨.ints .i64 [17, 19, 10], 0, false, 3⟩, some ⟨.ints .i64 [2, 13, 22], 0, false, 3⟩, some ⟨.ints .i64 [6, 11, 25], 0, false, 3⟩, some ⟨.ints .u8 zs, g4, ow, 5⟩, some ⟨.agg [.int .i64 32, .int .i64 64, .int .i64 64, .slice 1 0 0 0 3 (some 3), .slice 1 1 0 0 3 (some 3), .slice 1 2 0 0 3 (some 3), .slice 1 3 0 0 3 (some 3)], 0, true, 54⟩, some ⟨.ints .u64 ws, g6, true, 56⟩] [some true])
theorem O56_32_ok {i : Int} {off m : Nat} {zs ws : List Int} {g4 g6 : Nat} {ow : Bool} (h : allP [.p (decide (i < 16) = true), .p (zz32Law [7, 18, 3] [17, 19, 10] [2, 13, 22] [6, 11, 25]), .eqN g4 g4, .eqN g6 g6, .rng 0 i 15, .leN (off + 64) zs.length, .p (BsLaw zs), .eqN g6 g6, .leN (0 + m) ws.length, .leN (addO m 1 * 8) 140737488355328, .rng (-9223372036854775808) (i + 1) 9223372036854775807]) :
 Ok (O56_32 i off m zs ws g4 g6 ow) := Ok.dem (fl := bitsF 24 7458190) (by kernel_rfl) (by kernel_rfl) (by kernel_rfl) h
theorem O56_32_ex {i : Int} {off m : Nat} {zs ws : List Int} {g4 g6 : Nat} {ow : Bool} : (O56_32 i off m zs ws g4 g6 ow).ex = .normal := by kernel_rfl
theorem O56_32_fm {i : Int} {off m : Nat} {zs ws : List Int} {g4 g6 : Nat} {ow : Bool} : (O56_32 i off m zs ws g4 g6 ow).fm = [(1, .slice 1 4 g4 off 64 none), (2, .var 5 0), (5, .int .i64 4), (6, .slice 1 6 (g6 + 1) 0 (addO m 1) none), (7, .int .i64 (i + 1))] := by kernel_rfl
theorem O56_32_tab {i : Int} {off m : Nat} {zs ws : List Int} {g4 g6 : Nat} {ow : Bool} : (O56_32 i off m zs ws g4 g6 ow).tab = [some ⟨.ints .i64 [7, 18, 3], 0, false, 3⟩, some ⟨.ints .i64 [17, 19, 10], 0, false, 3⟩, some ⟨.ints .i64 [2, 13, 22], 0, false, 3⟩, some ⟨.ints .i64 [6, 11, 25], 0, false, 3⟩, some ⟨.ints .u8 zs, g4, ow, 5⟩, some ⟨.agg [.int .i64 32, .int .i64 64, .int .i64 64, .slice 1 0
 0 0 3 (some 3), .slice 1 1 0 0 3 (some 3), .slice 1 2 0 0 3 (some 3), .slice 1 3 0 0 3 (some 3)], 0, true, 54⟩, some ⟨.ints .u64 (List.take m ws ++ List.take 1 ([0].set 0 (wdLaw zs (off + 4 * i.toNat) 4))), g6 + 1, true, 56⟩] := by kernel_rfl
noncomputable def P56_32 (i : Int) (off m : Nat) (zs ws : List Int) (g4 g6 : Nat) (ow : Bool) : Out := trim 7 7 [2,6] (run eR32 82 ⟨7, [(2, blkS 7 [1,2,5,6,7,8,9] gC56_32)]⟩ 400 (roundOf 0 f56) [(1, .slice 1 4 g4 off 64 none), (2, .var 5 0), (5, .int .i64 4), (6, .slice 1 6 g6 0 m none), (7, .int .i64 i)] [some ⟨.ints .i64 [7, 18, 3], 0, false, 3⟩, some ⟨.ints .i64 [17, 19, 10], 0, false, 3⟩, some ⟨.ints .i64 [2, 13, 22], 0, false, 3⟩, some ⟨.ints .i64 [6, 11, 25], 0, false, 3⟩, some ⟨.ints .u8 zs, g4, ow, 5⟩, some ⟨.agg [.int .i64 32, .int .i64 64, .int .i64 64, .slice 1 0 0 0 3 (some 3), .slice 1 1 0 0 3 (some 3), .slice 1 2 0 0 3 (some 3), .slice 1 3 0 0 3 (some 3)], 0, true, 54⟩, some ⟨.ints .u64 ws, g6, true, 56⟩] [some false])
theorem P56_32_ok {i : Int} {off m : Nat} {zs ws : List Int} {g4 g6 : Nat} {ow : Bool} (h : allP [.p (decide (i < 16) = false)]) : Ok (P56_32 i off m zs ws g4 g6 ow) := Ok.dem (fl := [false]) (by kernel_rfl) (by kernel_rfl) (by kernel_rfl) h
theorem P56_32_ex {i : Int} {off m : Nat} {zs ws : List Int} {g4 g6 : Nat} {ow : Bool} : (P56_32 i off m zs ws g4 g6 ow).ex = .exit 0 := by kernel_rfl
theorem P56_32_fm {i : Int} {off m : Nat} {zs ws : List Int} {g4 g6 : Nat} {ow : Bool} : (P56_32 i off m zs ws g4 g6 ow).fm = [(2, .var 5 0), (6, .slice 1 6 g6 0 m none)] := by kernel_rfl
theorem P56_32_tab {i : Int} {off m : Nat} {zs ws : List Int} {g4 g6 : Nat} {ow : Bool} : (P56_32 i off m zs ws g4 g6 ow).tab = [some ⟨.ints .i64 [7, 18, 3], 0, false, 3⟩, some ⟨.ints .i64 [17, 19, 10], 0, false, 3⟩, some ⟨.ints .i64 [2, 13, 22], 0, false, 3⟩, some ⟨.ints .i64 [6, 11, 25], 0, false, 3⟩, some ⟨.ints .u8 zs, g4, ow, 5⟩, some ⟨.agg [.int .i64 32, .int .i64 64, .int .i64 64, .slice 1 0
 0 0 3 (some 3), .slice 1 1 0 0 3 (some 3), .slice 1 2 0 0 3 (some 3), .slice 1 3 0 0 3 (some 3)], 0, true, 54⟩, some ⟨.ints .u64 ws, g6, true, 56⟩] := by kernel_rfl
def FC56_64 (g4 off g6 m i : Nat) (x : Int) (k : Nat) : Fm := [(1, .slice 1 4 g4 off 128 none), (2, .var 5 0), (5, .int .i64 8), (6, .slice 1 6 g6 0 m none), (7, .int .i64 i), (8, .int .u64 x), (9, .int .i64 k)]
def TC56_64 (zs ws : List Int) (g4 g6 : Nat) (ow : Bool) : Tab := [some ⟨.ints .i64 [1, 8, 7], 0, false, 3⟩, some ⟨.ints .i64 [19, 61, 6], 0, false, 3⟩, some ⟨.ints .i64 [28, 34, 39], 0, false, 3⟩, some ⟨.ints .i64 [14, 18, 41], 0, false, 3⟩, some ⟨.ints .u8 zs, g4, ow, 5⟩, some ⟨.agg [.int .i64 64, .int .i64 128, .int .i64 80, .slice 1 0 0 0 3 (some 3), .slice 1 1 0 0 3 (some 3), .slice 1 2 0 0 3 (some 3), .slice 1 3 0 0 3 (some 3)], 0, true, 54⟩, some ⟨.ints .u64 ws, g6, true, 56⟩]
theorem loopC56_64 {zs ws : List Int} {g4 g6 : Nat} {ow : Bool} {off m i : Nat} (hi : i < 16) (hz : off + 128 ≤ zs.length) (hb : BsLaw zs) :
    To eR64 82 7 (.block 2 (.loop (roundOf 2 f56))) (FC56_64 g4 off g6 m i 0 0) (TC56_64 zs ws g4 g6 ow) .normal [(1, .slice 1 4 g4 off 128 none), (2, .var 5 0), (5, .int .i64 8), (6, .slice 1 6 g6 0 m none), (7, .int .i64 i), (8, .int .u64 (wdLaw zs (off + 8 * i) 8))] (TC56_64 zs ws g4 g6 ow) := by
  refine To.rounds (fun k => FC56_64 g4 off g6 m i (wdLaw zs (off + 8 * i) k) k) (fun k => TC56_64 zs ws g4 g6 ow) 8 (fun k hk => ?_)
    (To.of (o := D56_64 i (8 : Nat) (wdLaw zs (off + 8 * i) 8) off m zs ws g4 g6 ow) eR64_ok hmS (Nat.le_refl 7) OrcOk.nil rfl (D56_64_ok (by simp [allP, Con.h])) D56_64_ex D56_64_fm D56_64_tab)
  have hw := wdLaw_rng hb (off + 8 * i) k
  have hq := hb (off + (8 * i + k))
  have hp : (256 : Int) ^ k * 256 ≤ 18446744073709551616 := by
    have : ∀ k, k < 8 → (256 : Int) ^ k * 256 ≤ 18446744073709551616 := by decide
    exact this k hk
  have hmul : 0 ≤ wdLaw zs (off + 8 * i) k * 256 ∧ wdLaw zs (off + 8 * i) k * 256 < 18446744073709551616 := by
    generalize (256 : Int) ^ k = p at hp hw; omega
  have hmd : wdLaw zs (off + 8 * i) k * 256 % 18446744073709551616 = wdLaw zs (off + 8 * i) k * 256 := Int.emod_eq_of_lt hmul.1 hmul.2
  have hix : (8 * (i : Int) + (k : Int)).toNat = 8 * i + k := by omega
  refine To.of (o := C56_64 i k (wdLaw zs (off + 8 * i) k) off m zs ws g4 g6 ow) eR64_ok hmS (Nat.le_refl 7) OrcOk.nil rfl (C56_64_ok ?_) C56_64_ex ?_ C56_64_tab
  · simp only [addO_eq, hix, hmd]
    have n1 : nonneg .u64 (wdLaw zs (off + 8 * i) k * 256) := hmul
    have n2 : nonneg .u64 (zs.getD (off + (8 * i + k)) 0) := ⟨hq.1, by have := hq.2; show _ < (18446744073709551616 : Int); omega⟩
    simp only [allP, Con.h, n1, n2, decide_eq_true_eq, eq_self, true_and, and_true]
    omega
  · rw [C56_64_fm]
    simp only [addO_eq, hix, hmd]
    rw [ior_add8 hw.1 hq]
    show _ = FC56_64 g4 off g6 m i (wdLaw zs (off + 8 * i) k * 256 + zs.getD (off + 8 * i + k) 0) (k + 1)
    rw [Nat.add_assoc off]
    rfl
noncomputable def gC56_64 : List AVal → Tab → Out := fun vs T => match vs, T with
  | [.slice 1 4 g4' off b none, .var 5 0, .int .i64 c, .slice 1 6 g6' 0 m none, .int .i64 i, .int .u64 x, .int .i64 k], [some ⟨.ints .i64 a0, 0, false, 3⟩, some ⟨.ints .i64 a1, 0, false, 3⟩, some ⟨.ints .i64 a2, 0, false, 3⟩, some ⟨.ints .i64 a3, 0, false, 3⟩, some ⟨.ints .u8 zs, g4, ow, 5⟩, some ⟨.agg [.int .i64 bb, .int .i64 bk, .int .i64 br, .slice 1 0 0 0 3 (some 3), .slice 1 1 0 0 3 (some 3), .slice 1 2 0 0 3 (some 3), .slice 1 3 0 0 3 (some 3)], 0, true, 54⟩, some ⟨.ints .u64 ws, g6, true, 56⟩] =>
    ⟨[.rng 64 bb 64, .rng 128 bk 128, .rng 80 br 80, .p (zz64Law a0 a1 a2 a3), .eqN g4' g4, .eqN g6' g6, .eqN b 128, .rng 8 c 8, .rng 0 i 15, .rng 0 x 0, .rng 0 k 0, .leN (off + 128) zs.length, .p (BsLaw zs)], .normal,
      [(1, .slice 1 4 g4 off 128 none), (2, .var 5 0), (5, .int .i64 8), (6, .slice 1 6 g6 0 m none), (7, .int .i64 i), (8, .int .u64 (wdLaw zs (off + 8 * i.toNat) 8))], [some ⟨.ints .i64 a0, 0, false, 3⟩, some ⟨.ints .i64 a1, 0, false, 3⟩, some ⟨.ints .i64 a2, 0, false, 3⟩, some ⟨.ints .i64 a3, 0, false, 3⟩, some ⟨.ints .u8 zs, g4, ow, 5⟩, some ⟨.agg [.int .i64 bb, .int .i64 bk, .int .i64 br, .slice 1 0 0 0 3 (some 3), .slice 1 1 0 0 3 (some 3), .slice 1 2 0 0 3 (some 3), .slice 1 3 0 0 3 (some 3)], 0, true, 54⟩, some ⟨.ints .u64 ws, g6, true, 56⟩], []⟩
  | _, _ => failO
theorem gC56_64_ok : BlkOk eR64 f56 2 (.loop (roundOf 2 f56)) (blkS 7 [1,2,5,6,7,8,9] gC56_64) := by
  refine blkS_ok fun vs T h => ?_
  unfold gC56_64 at h ⊢
  split at h
  · rename_i g4' off b c g6' m i x k a0 a1 a2 a3 zs g4 ow bb bk br ws g6
    obtain ⟨z1, z2, z3, z4, h1, h2, h3, h4, h5, h6, h7, h8, h9, _⟩ := h.h
    simp only [Con.h] at z1 z2 z3 z4 h1 h2 h3 h4 h5 h6 h7 h8 h9
    obtain rfl : bb = 64 := by omega
    obtain rfl : bk = 128 := by omega
    obtain rfl : br = 80 := by omega
    obtain ⟨z4, z5, z6, z7⟩ := z4
    subst z4 z5 z6 z7
    obtain rfl : c = 8 := by omega
    obtain rfl : x = 0 := by omega
    obtain rfl : k = 0 := by omega
    obtain ⟨q, rfl⟩ : ∃ q : Nat, i = q := ⟨i.toNat, by omega⟩
    subst h1 h2 h3
    exact loopC56_64 (by omega) h8 h9
  · exact absurd h nofailO
noncomputable def O56_64 (i : Int) (off m : Nat) (zs ws : List Int) (g4 g6 : Nat) (ow : Bool) : Out := trim 7 7 [1,2,5,6,7] (run eR64 82 ⟨7, [(2, blkS 7 [1,2,5,6,7,8,9] gC56_64)]⟩ 400 (roundOf 0 f56) [(1, .slice 1 4 g4 off 128 none), (2, .var 5 0), (5, .int .i64 8), (6, .slice 1 6 g6 0 m none), (7, .int .i64 i)] [some ⟨.ints .i64 [1, 8, 7], 0, false, 3⟩, some ⟨.ints .i64 [19, 61, 6], 0, false, 3⟩, some ⟨.ints .i64 [28, 34, 39], 0, false, 3⟩, some ⟨.ints .i64 [14, 18, 41], 0, false, 3⟩, some ⟨.ints .u8 zs, g4, ow, 5⟩, some ⟨.agg [.int .i64 64, .int .i64 128, .int .i64 80, .slice 1 0 0 0 3 (some 3), .slice 1 1 0 0 3 (some 3), .slice 1 2 0 0 3 (some 3), .slice 1 3 0 0 3 (some 3)], 0, true, 54⟩, some ⟨.ints .u64 ws, g6, true, 56⟩] [some true])
theorem O56_64_ok {i : Int} {off m : Nat} {zs ws : List Int} {g4 g6 : Nat} {ow : Bool} (h : allP [.p (decide (i < 16) = true), .p (zz64Law [1, 8, 7] [19, 61, 6] [28, 34, 39] [14, 18, 41]), .eqN g4 g4, .eqN g6 g6, .rng 0 i 15, .leN (off + 128) zs.length, .p (BsLaw zs), .eqN g6 g6, .leN (0 + m) ws.length, .leN (addO m 1 * 8) 140737488355328, .rng (-9223372036854775808) (i + 1) 9223372036854775807]) :
 Ok (O56_64 i off m zs ws g4 g6 ow) := Ok.dem (fl := bitsF 24 7458190) (by kernel_rfl) (by kernel_rfl) (by kernel_rfl) h
theorem O56_64_ex {i : Int} {off m : Nat} {zs ws : List Int} {g4 g6 : Nat} {ow : Bool} : (O56_64 i off m zs ws g4 g6 ow).ex = .normal := by kernel_rfl
theorem O56_64_fm {i : Int} {off m : Nat} {zs ws : List Int} {g4 g6 : Nat} {ow : Bool} : (O56_64 i off m zs ws g4 g6 ow).fm = [(1, .slice 1 4 g4 off 128 none), (2, .var 5 0), (5, .int .i64 8), (6, .slice 1 6 (g6 + 1) 0 (addO m 1) none), (7, .int .i64 (i + 1))] := by kernel_rfl
theorem O56_64_tab {i : Int} {off m : Nat} {zs ws : List Int} {g4 g6 : Nat} {ow : Bool} : (O56_64 i off m zs ws g4 g6 ow).tab = [some ⟨.ints .i64 [1, 8, 7], 0, false, 3⟩, some ⟨.ints .i64 [19, 61, 6], 0, false, 3⟩, some ⟨.ints .i64 [28, 34, 39], 0, false, 3⟩, some ⟨.ints .i64 [14, 18, 41], 0, false, 3⟩, some ⟨.ints .u8 zs, g4, ow, 5⟩, some ⟨.agg [.int .i64 64, .int .i64 128, .int .i64 80, .slice 1
 0 0 0 3 (some 3), .slice 1 1 0 0 3 (some 3), .slice 1 2 0 0 3 (some 3), .slice 1 3 0 0 3 (some 3)], 0, true, 54⟩, some ⟨.ints .u64 (List.take m ws ++ List.take 1 ([0].set 0 (wdLaw zs (off + 8 * i.toNat) 8))), g6 + 1, true, 56⟩] := by kernel_rfl
noncomputable def P56_64 (i : Int) (off m : Nat) (zs ws : List Int) (g4 g6 : Nat) (ow : Bool) : Out := trim 7 7 [2,6] (run eR64 82 ⟨7, [(2, blkS 7 [1,2,5,6,7,8,9] gC56_64)]⟩ 400 (roundOf 0 f56) [(1, .slice 1 4 g4 off 128 none), (2, .var 5 0), (5, .int .i64 8), (6, .slice 1 6 g6 0 m none), (7, .int .i64 i)] [some ⟨.ints .i64 [1, 8, 7], 0, false, 3⟩, some ⟨.ints .i64 [19, 61, 6], 0, false, 3⟩, some ⟨.ints .i64 [28, 34, 39], 0, false, 3⟩, some ⟨.ints .i64 [14, 18, 41], 0, false, 3⟩, some ⟨.ints .u8 zs, g4, ow, 5⟩, some ⟨.agg [.int .i64 64, .int .i64 128, .int .i64 80, .slice 1 0 0 0 3 (some 3), .slice 1 1 0 0 3 (some 3), .slice 1 2 0 0 3 (some 3), .slice 1 3 0 0 3 (some 3)], 0, true, 54⟩, some ⟨.ints .u64 ws, g6, true, 56⟩] [some false])
theorem P56_64_ok {i : Int} {off m : Nat} {zs ws : List Int} {g4 g6 : Nat} {ow : Bool} (h : allP [.p (decide (i < 16) = false)]) : Ok (P56_64 i off m zs ws g4 g6 ow) := Ok.dem (fl := [false]) (by kernel_rfl) (by kernel_rfl) (by kernel_rfl) h
theorem P56_64_ex {i : Int} {off m : Nat} {zs ws : List Int} {g4 g6 : Nat} {ow : Bool} : (P56_64 i off m zs ws g4 g6 ow).ex = .exit 0 := by kernel_rfl
theorem P56_64_fm {i : Int} {off m : Nat} {zs ws : List Int} {g4 g6 : Nat} {ow : Bool} : (P56_64 i off m zs ws g4 g6 ow).fm = [(2, .var 5 0), (6, .slice 1 6 g6 0 m none)] := by kernel_rfl
theorem P56_64_tab {i : Int} {off m : Nat} {zs ws : List Int} {g4 g6 : Nat} {ow : Bool} : (P56_64 i off m zs ws g4 g6 ow).tab = [some ⟨.ints .i64 [1, 8, 7], 0, false, 3⟩, some ⟨.ints .i64 [19, 61, 6], 0, false, 3⟩, some ⟨.ints .i64 [28, 34, 39], 0, false, 3⟩, some ⟨.ints .i64 [14, 18, 41], 0, false, 3⟩, some ⟨.ints .u8 zs, g4, ow, 5⟩, some ⟨.agg [.int .i64 64, .int .i64 128, .int .i64 80, .slice 1
 0 0 0 3 (some 3), .slice 1 1 0 0 3 (some 3), .slice 1 2 0 0 3 (some 3), .slice 1 3 0 0 3 (some 3)], 0, true, 54⟩, some ⟨.ints .u64 ws, g6, true, 56⟩] := by kernel_rfl
end Go.Abs

set_option linter.unusedVariables false
set_option linter.unusedSimpArgs false
set_option maxRecDepth 8000
set_option maxHeartbeats 2000000
namespace Go.Abs
open Go.Proofs Go.Proofs.Tryd
/-! width 32 -/
def FO56_32 (g4 off : Nat) (i : Nat) : Fm := [(1, .slice 1 4 g4 off 64 none), (2, .var 5 0), (5, .int .i64 4), (6, .slice 1 6 i 0 i none), (7, .int .i64 i)]
theorem loopO56_32 {zs : List Int} {g4 : Nat} {ow : Bool} {off : Nat} (hz : off + 64 ≤ zs.length) (hb : BsLaw zs) :
    To eR32 82 7 (.block 0 (.loop (roundOf 0 f56))) (FO56_32 g4 off 0) (TC56_32 zs (wordsLaw 4 zs off 0) g4 0 ow) .normal [(2, .var 5 0), (6, .slice 1 6 16 0 16 none)] (TC56_32 zs (wordsLaw 4 zs off 16) g4 16 ow) := by
  have hO : OrcOk eR32 82 ⟨7, [(2, blkS 7 [1,2,5,6,7,8,9] gC56_32)]⟩ (roundOf 0 f56) := OrcOk.cons (fn := f56) gC56_32_ok (by kernel_rfl) OrcOk.nil
  refine To.rounds (FO56_32 g4 off) (fun i => TC56_32 zs (wordsLaw 4 zs off i) g4 i ow) 16 (fun i hi => ?_)
    (To.of (o := P56_32 (16 : Nat) off 16 zs (wordsLaw 4 zs off 16) g4 16 ow) eR32_ok hmS (Nat.le_refl 7) hO rfl (P56_32_ok (by simp [allP, Con.h])) P56_32_ex P56_32_fm P56_32_tab)
  have hl := wordsLaw_len 4 zs off i
  refine To.of (o := O56_32 i off i zs (wordsLaw 4 zs off i) g4 i ow) eR32_ok hmS (Nat.le_refl 7) hO rfl (O56_32_ok ?_) O56_32_ex ?_ ?_
  · have hz' := zz32
    simp only [allP, Con.h, addO_eq, hl, hb, hz', decide_eq_true_eq, eq_self, true_and, and_true]
    omega
  · rw [O56_32_fm]
    simp only [addO_eq]
    rfl
  · rw [O56_32_tab, Int.toNat_natCast, List.take_of_length_le (by omega), wordsLaw_succ]
    rfl
noncomputable def gO56_32 : List AVal → Tab → Out := fun vs T => match vs, T with
  | [.slice 1 4 g4' off b none, .var 5 0, .int .i64 c, .nilSlice, .int .i64 i], [some ⟨.ints .i64 a0, 0, false, 3⟩, some ⟨.ints .i64 a1, 0, false, 3⟩, some ⟨.ints .i64 a2, 0, false, 3⟩, some ⟨.ints .i64 a3, 0, false, 3⟩, some ⟨.ints .u8 zs, g4, ow, 5⟩, some ⟨.agg [.int .i64 bb, .int .i64 bk, .int .i64 br, .slice 1 0 0 0 3 (some 3), .slice 1 1 0 0 3 (some 3), .slice 1 2 0 0 3 (some 3), .slice 1 3 0 0 3 (some 3)], 0, true, 54⟩] =>
    ⟨[.rng 32 bb 32, .rng 64 bk 64, .rng 64 br 64, .p (zz32Law a0 a1 a2 a3), .eqN g4' g4, .eqN b 64, .rng 4 c 4, .rng 0 i 0, .leN (off + 64) zs.length, .p (BsLaw zs)], .normal,
      [(2, .var 5 0), (6, .slice 1 6 16 0 16 none)], [some ⟨.ints .i64 a0, 0, false, 3⟩, some ⟨.ints .i64 a1, 0, false, 3⟩, some ⟨.ints .i64 a2, 0, false, 3⟩, some ⟨.ints .i64 a3, 0, false, 3⟩, some ⟨.ints .u8 zs, g4, ow, 5⟩, some ⟨.agg [.int .i64 bb, .int .i64 bk, .int .i64 br, .slice 1 0 0 0 3 (some 3), .slice 1 1 0 0 3 (some 3), .slice 1 2 0 0 3 (some 3), .slice 1 3 0 0 3 (some 3)], 0, true, 54⟩, some ⟨.ints .u64 (wordsLaw 4 zs off 16), 16, true, 56⟩], []⟩
  | _, _ => failO
theorem gO56_32_ok : BlkOk eR32 f56 0 (.loop (roundOf 0 f56)) (blkS 6 [1,2,5,6,7] gO56_32) := by
  refine blkS_ok fun vs T h => ?_
  unfold gO56_32 at h ⊢
  split at h
  · rename_i g4' off b c i a0 a1 a2 a3 zs g4 ow bb bk br
    obtain ⟨z1, z2, z3, z4, h1, h2, h3, h4, h5, h6, _⟩ := h.h
    simp only [Con.h] at z1 z2 z3 z4 h1 h2 h3 h4 h5 h6
    obtain rfl : bb = 32 := by omega
    obtain rfl : bk = 64 := by omega
    obtain rfl : br = 64 := by omega
    obtain ⟨z4, z5, z6, z7⟩ := z4
    subst z4 z5 z6 z7
    obtain rfl : c = 4 := by omega
    obtain rfl : i = 0 := by omega
    subst h1 h2
    refine AWp.nilTo (FO56_32 g4' off 0) .u64 56 (fun t v hv => ?_) (To.base (by decide) (loopO56_32 h5 h6))
    simp only [FO56_32, look, zipF] at hv ⊢
    repeat' split at hv
    all_goals first | cases hv | skip
    all_goals first | rfl | simp_all [look]
  · exact absurd h nofailO
def FE56_32 (g6 m : Nat) (t : Nat) : Fm := [(2, .var 5 0), (6, .slice 1 6 g6 0 m none), (10, .int .i64 t)]
theorem next32_eq {a b c e : Int} : iand (((((a + b) % 18446744073709551616 + c) % 18446744073709551616) + e) % 18446744073709551616) 4294967295 = (((a + b) % 4294967296 + c) % 4294967296 + e) % 4294967296 := by rw [iand_mask (by omega)]; omega
theorem loopE56_32 {zs ws : List Int} {g4 g6 : Nat} {ow : Bool} (hl : ws.length = 16) (hw : Wds 32 ws) :
    To eR32 82 7 (.block 4 (.loop (roundOf 4 f56))) (FE56_32 g6 16 16) (TC56_32 zs ws g4 g6 ow) .normal [(2, .var 5 0), (6, .slice 1 6 (g6 + 48) 0 64 none)] (TC56_32 zs (schLaw 32 4294967296 [7, 18, 3] [17, 19, 10] ws 48) g4 (g6 + 48) ow) := by
  refine To.rounds (fun i => FE56_32 (g6 + i) (16 + i) (16 + i)) (fun i => TC56_32 zs (schLaw 32 4294967296 [7, 18, 3] [17, 19, 10] ws i) g4 (g6 + i) ow) 48 (fun i hi => ?_)
    (To.of (o := F56_32 (64 : Nat) 64 zs (schLaw 32 4294967296 [7, 18, 3] [17, 19, 10] ws 48) g4 (g6 + 48) ow) eR32_ok hmS (Nat.le_refl 7) OrcOk.nil rfl (F56_32_ok (by simp [allP, Con.h])) F56_32_ex F56_32_fm F56_32_tab)
  have hsl := schLaw_len (W := 32) (m := 4294967296) (l0 := [7, 18, 3]) (l1 := [17, 19, 10]) hl i
  have hsw := schLaw_wds (W := 32) (m := 4294967296) (by decide) (l0 := [7, 18, 3]) (l1 := [17, 19, 10]) hw i
  have e2 : (((16 + i : Nat) : Int) - 2).toNat = 16 + i - 2 := by omega
  have e7 : (((16 + i : Nat) : Int) - 7).toNat = 16 + i - 7 := by omega
  have e15 : (((16 + i : Nat) : Int) - 15).toNat = 16 + i - 15 := by omega
  have e16 : (((16 + i : Nat) : Int) - 16).toNat = 16 + i - 16 := by omega
  refine To.of (o := E56_32 (16 + i : Nat) (16 + i) zs (schLaw 32 4294967296 [7, 18, 3] [17, 19, 10] ws i) g4 (g6 + i) ow) eR32_ok hmS (Nat.le_refl 7) OrcOk.nil rfl (E56_32_ok ?_) E56_32_ex ?_ ?_
  · simp only [e2, e7, e15, e16]
    have q2 := hsw (16 + i - 2)
    have q15 := hsw (16 + i - 15)
    have hz' := zz32
    have i0 : lowIxLaw 0 := .inl rfl
    have i1 : lowIxLaw 1 := .inr rfl
    simp only [allP, Con.h, addO_eq, hsl, hz', i0, i1, decide_eq_true_eq, eq_self, true_and, and_true]
    have hm := fun y => Wd.mod 64 y
    rw [show (2 : Int) ^ 64 = 18446744073709551616 by decide] at hm
    repeat' with_reducible apply And.intro
    all_goals first | omega | exact q2 | exact q15 | exact q2.1 | exact q2.2 | exact q15.1 | exact q15.2 | exact hm _ | skip
  · rw [E56_32_fm]
    simp only [addO_eq]
    rfl
  · rw [E56_32_tab]
    simp only [e2, e7, e15, e16]
    rw [List.take_of_length_le (by omega)]
    show _ = TC56_32 zs (schLaw 32 4294967296 [7, 18, 3] [17, 19, 10] ws i ++ [nextLaw 32 4294967296 [7, 18, 3] [17, 19, 10] (schLaw 32 4294967296 [7, 18, 3] [17, 19, 10] ws i) (16 + i)]) g4 (g6 + i + 1) ow
    rw [show nextLaw _ _ _ _ _ _ = _ from (next32_eq).symm]
    rfl
noncomputable def gE56_32 : List AVal → Tab → Out := fun vs T => match vs, T with
  | [.var 5 0, .slice 1 6 g6' 0 m none, .int .i64 t], [some ⟨.ints .i64 a0, 0, false, 3⟩, some ⟨.ints .i64 a1, 0, false, 3⟩, some ⟨.ints .i64 a2, 0, false, 3⟩, some ⟨.ints .i64 a3, 0, false, 3⟩, some ⟨.ints .u8 zs, g4, ow, 5⟩, some ⟨.agg [.int .i64 bb, .int .i64 bk, .int .i64 br, .slice 1 0 0 0 3 (some 3), .slice 1 1 0 0 3 (some 3), .slice 1 2 0 0 3 (some 3), .slice 1 3 0 0 3 (some 3)], 0, true, 54⟩, some ⟨.ints .u64 ws, g6, true, 56⟩] =>
    ⟨[.rng 32 bb 32, .rng 64 bk 64, .rng 64 br 64, .p (zz32Law a0 a1 a2 a3), .eqN g6' g6, .eqN m 16, .rng 16 t 16, .eqN ws.length 16, .p (WdsLaw 32 ws)], .normal,
      [(2, .var 5 0), (6, .slice 1 6 (g6 + 48) 0 64 none)], [some ⟨.ints .i64 a0, 0, false, 3⟩, some ⟨.ints .i64 a1, 0, false, 3⟩, some ⟨.ints .i64 a2, 0, false, 3⟩, some ⟨.ints .i64 a3, 0, false, 3⟩, some ⟨.ints .u8 zs, g4, ow, 5⟩, some ⟨.agg [.int .i64 bb, .int .i64 bk, .int .i64 br, .slice 1 0 0 0 3 (some 3), .slice 1 1 0 0 3 (some 3), .slice 1 2 0 0 3 (some 3), .slice 1 3 0 0 3 (some 3)], 0, true, 54⟩, some ⟨.ints .u64 (schLaw 32 4294967296 [7, 18, 3] [17, 19, 10] ws 48), g6 + 48, true, 56⟩], []⟩
  | _, _ => failO
theorem gE56_32_ok : BlkOk eR32 f56 4 (.loop (roundOf 4 f56)) (blkS 7 [2,6,10] gE56_32) := by
  refine blkS_ok fun vs T h => ?_
  unfold gE56_32 at h ⊢
  split at h
  · rename_i g6' m t a0 a1 a2 a3 zs g4 ow bb bk br ws g6
    obtain ⟨z1, z2, z3, z4, h1, h2, h3, h4, h5, _⟩ := h.h
    simp only [Con.h] at z1 z2 z3 z4 h1 h2 h3 h4 h5
    obtain rfl : bb = 32 := by omega
    obtain rfl : bk = 64 := by omega
    obtain rfl : br = 64 := by omega
    obtain ⟨z4, z5, z6, z7⟩ := z4
    subst z4 z5 z6 z7
    obtain rfl : t = 16 := by omega
    subst h1 h2
    exact loopE56_32 h4 h5
  · exact absurd h nofailO
noncomputable def orc56_32 : OrcL := [(0, blkS 6 [1,2,5,6,7] gO56_32), (4, blkS 7 [2,6,10] gE56_32)]
theorem orc56_32_ok : FnOrc eR32 f56 orc56_32 := FnOrc.cons gO56_32_ok (by kernel_rfl) (FnOrc.cons gE56_32_ok (by kernel_rfl) FnOrc.nil)
noncomputable def R56_32 (off : Nat) (zs : List Int) (g4 : Nat) (ow : Bool) : Res := resG 5 [0, 1, 2, 3, 4, 6] (runF eR32 f56 orc56_32 1000 [.agg [.int .i64 32, .int .i64 64, .int .i64 64, .slice 1 0 0 0 3 (some 3), .slice 1 1 0 0 3 (some 3), .slice 1 2 0 0 3 (some 3), .slice 1 3 0 0 3 (some 3)], .slice 1 4 g4 off 64 none] [some ⟨.ints .i64 [7, 18, 3], 0, false, 3⟩, some ⟨.ints .i64 [17, 19, 10], 0, false, 3⟩, some ⟨.ints .i64 [2, 13, 22], 0, false, 3⟩, some ⟨.ints .i64 [6, 11, 25], 0, false, 3⟩, some ⟨.ints .u8 zs, g4, ow, 5⟩] [])
theorem R56_32_ok {off : Nat} {zs : List Int} {g4 : Nat} {ow : Bool} (h : allP [.p (zz32Law [7, 18, 3] [17, 19, 10] [2, 13, 22] [6, 11, 25]), .eqN g4 g4, .leN (off + 64) zs.length, .p (BsLaw zs), .p (zz32Law [7, 18, 3] [17, 19, 10] [2, 13, 22] [6, 11, 25]), .p (WdsLaw 32 (wordsLaw 4 zs off 16))]) : OkR (R56_32 off zs g4 ow) := OkR.dem (fl := bitsF 24 8101119) (by kernel_rfl) (by kernel_rfl) (by
 kernel_rfl) h
theorem R56_32_val {off : Nat} {zs : List Int} {g4 : Nat} {ow : Bool} : (R56_32 off zs g4 ow).val = .slice 1 5 64 0 64 none := by kernel_rfl
theorem R56_32_tab {off : Nat} {zs : List Int} {g4 : Nat} {ow : Bool} : (R56_32 off zs g4 ow).tab = [some ⟨.ints .i64 [7, 18, 3], 0, false, 3⟩, some ⟨.ints .i64 [17, 19, 10], 0, false, 3⟩, some ⟨.ints .i64 [2, 13, 22], 0, false, 3⟩, some ⟨.ints .i64 [6, 11, 25], 0, false, 3⟩, some ⟨.ints .u8 zs, g4, ow, 5⟩, some ⟨.ints .u64 (schLaw 32 4294967296 [7, 18, 3] [17, 19, 10] (wordsLaw 4 zs off 16) 48),
 64, true, 56⟩] := by kernel_rfl
/-! width 64 -/
def FO56_64 (g4 off : Nat) (i : Nat) : Fm := [(1, .slice 1 4 g4 off 128 none), (2, .var 5 0), (5, .int .i64 8), (6, .slice 1 6 i 0 i none), (7, .int .i64 i)]
theorem loopO56_64 {zs : List Int} {g4 : Nat} {ow : Bool} {off : Nat} (hz : off + 128 ≤ zs.length) (hb : BsLaw zs) :
    To eR64 82 7 (.block 0 (.loop (roundOf 0 f56))) (FO56_64 g4 off 0) (TC56_64 zs (wordsLaw 8 zs off 0) g4 0 ow) .normal [(2, .var 5 0), (6, .slice 1 6 16 0 16 none)] (TC56_64 zs (wordsLaw 8 zs off 16) g4 16 ow) := by
  have hO : OrcOk eR64 82 ⟨7, [(2, blkS 7 [1,2,5,6,7,8,9] gC56_64)]⟩ (roundOf 0 f56) := OrcOk.cons (fn := f56) gC56_64_ok (by kernel_rfl) OrcOk.nil
  refine To.rounds (FO56_64 g4 off) (fun i => TC56_64 zs (wordsLaw 8 zs off i) g4 i ow) 16 (fun i hi => ?_)
    (To.of (o := P56_64 (16 : Nat) off 16 zs (wordsLaw 8 zs off 16) g4 16 ow) eR64_ok hmS (Nat.le_refl 7) hO rfl (P56_64_ok (by simp [allP, Con.h])) P56_64_ex P56_64_fm P56_64_tab)
  have hl := wordsLaw_len 8 zs off i
  refine To.of (o := O56_64 i off i zs (wordsLaw 8 zs off i) g4 i ow) eR64_ok hmS (Nat.le_refl 7) hO rfl (O56_64_ok ?_) O56_64_ex ?_ ?_
  · have hz' := zz64
    simp only [allP, Con.h, addO_eq, hl, hb, hz', decide_eq_true_eq, eq_self, true_and, and_true]
    omega
  · rw [O56_64_fm]
    simp only [addO_eq]
    rfl
  · rw [O56_64_tab, Int.toNat_natCast, List.take_of_length_le (by omega), wordsLaw_succ]
    rfl
noncomputable def gO56_64 : List AVal → Tab → Out := fun vs T => match vs, T with
  | [.slice 1 4 g4' off b none, .var 5 0, .int .i64 c, .nilSlice, .int .i64 i], [some ⟨.ints .i64 a0, 0, false, 3⟩, some ⟨.ints .i64 a1, 0, false, 3⟩, some ⟨.ints .i64 a2, 0, false, 3⟩, some ⟨.ints .i64 a3, 0, false, 3⟩, some ⟨.ints .u8 zs, g4, ow, 5⟩, some ⟨.agg [.int .i64 bb, .int .i64 bk, .int .i64 br, .slice 1 0 0 0 3 (some 3), .slice 1 1 0 0 3 (some 3), .slice 1 2 0 0 3 (some 3), .slice 1 3 0 0 3 (some 3)], 0, true, 54⟩] =>
    ⟨[.rng 64 bb 64, .rng 128 bk 128, .rng 80 br 80, .p (zz64Law a0 a1 a2 a3), .eqN g4' g4, .eqN b 128, .rng 8 c 8, .rng 0 i 0, .leN (off + 128) zs.length, .p (BsLaw zs)], .normal,
      [(2, .var 5 0), (6, .slice 1 6 16 0 16 none)], [some ⟨.ints .i64 a0, 0, false, 3⟩, some ⟨.ints .i64 a1, 0, false, 3⟩, some ⟨.ints .i64 a2, 0, false, 3⟩, some ⟨.ints .i64 a3, 0, false, 3⟩, some ⟨.ints .u8 zs, g4, ow, 5⟩, some ⟨.agg [.int .i64 bb, .int .i64 bk, .int .i64 br, .slice 1 0 0 0 3 (some 3), .slice 1 1 0 0 3 (some 3), .slice 1 2 0 0 3 (some 3), .slice 1 3 0 0 3 (some 3)], 0, true, 54⟩, some ⟨.ints .u64 (wordsLaw 8 zs off 16), 16, true, 56⟩], []⟩
  | _, _ => failO
theorem gO56_64_ok : BlkOk eR64 f56 0 (.loop (roundOf 0 f56)) (blkS 6 [1,2,5,6,7] gO56_64) := by
  refine blkS_ok fun vs T h => ?_
  unfold gO56_64 at h ⊢
  split at h
  · rename_i g4' off b c i a0 a1 a2 a3 zs g4 ow bb bk br
    obtain ⟨z1, z2, z3, z4, h1, h2, h3, h4, h5, h6, _⟩ := h.h
    simp only [Con.h] at z1 z2 z3 z4 h1 h2 h3 h4 h5 h6
    obtain rfl : bb = 64 := by omega
    obtain rfl : bk = 128 := by omega
    obtain rfl : br = 80 := by omega
    obtain ⟨z4, z5, z6, z7⟩ := z4
    subst z4 z5 z6 z7
    obtain rfl : c = 8 := by omega
    obtain rfl : i = 0 := by omega
    subst h1 h2
    refine AWp.nilTo (FO56_64 g4' off 0) .u64 56 (fun t v hv => ?_) (To.base (by decide) (loopO56_64 h5 h6))
    simp only [FO56_64, look, zipF] at hv ⊢
    repeat' split at hv
    all_goals first | cases hv | skip
    all_goals first | rfl | simp_all [look]
  · exact absurd h nofailO
def FE56_64 (g6 m : Nat) (t : Nat) : Fm := [(2, .var 5 0), (6, .slice 1 6 g6 0 m none), (10, .int .i64 t)]
theorem loopE56_64 {zs ws : List Int} {g4 g6 : Nat} {ow : Bool} (hl : ws.length = 16) (hw : Wds 64 ws) :
    To eR64 82 7 (.block 4 (.loop (roundOf 4 f56))) (FE56_64 g6 16 16) (TC56_64 zs ws g4 g6 ow) .normal [(2, .var 5 0), (6, .slice 1 6 (g6 + 64) 0 80 none)] (TC56_64 zs (schLaw 64 18446744073709551616 [1, 8, 7] [19, 61, 6] ws 64) g4 (g6 + 64) ow) := by
  refine To.rounds (fun i => FE56_64 (g6 + i) (16 + i) (16 + i)) (fun i => TC56_64 zs (schLaw 64 18446744073709551616 [1, 8, 7] [19, 61, 6] ws i) g4 (g6 + i) ow) 64 (fun i hi => ?_)
    (To.of (o := F56_64 (80 : Nat) 80 zs (schLaw 64 18446744073709551616 [1, 8, 7] [19, 61, 6] ws 64) g4 (g6 + 64) ow) eR64_ok hmS (Nat.le_refl 7) OrcOk.nil rfl (F56_64_ok (by simp [allP, Con.h])) F56_64_ex F56_64_fm F56_64_tab)
  have hsl := schLaw_len (W := 64) (m := 18446744073709551616) (l0 := [1, 8, 7]) (l1 := [19, 61, 6]) hl i
  have hsw := schLaw_wds (W := 64) (m := 18446744073709551616) (by decide) (l0 := [1, 8, 7]) (l1 := [19, 61, 6]) hw i
  have e2 : (((16 + i : Nat) : Int) - 2).toNat = 16 + i - 2 := by omega
  have e7 : (((16 + i : Nat) : Int) - 7).toNat = 16 + i - 7 := by omega
  have e15 : (((16 + i : Nat) : Int) - 15).toNat = 16 + i - 15 := by omega
  have e16 : (((16 + i : Nat) : Int) - 16).toNat = 16 + i - 16 := by omega
  refine To.of (o := E56_64 (16 + i : Nat) (16 + i) zs (schLaw 64 18446744073709551616 [1, 8, 7] [19, 61, 6] ws i) g4 (g6 + i) ow) eR64_ok hmS (Nat.le_refl 7) OrcOk.nil rfl (E56_64_ok ?_) E56_64_ex ?_ ?_
  · simp only [e2, e7, e15, e16]
    have q2 := hsw (16 + i - 2)
    have q15 := hsw (16 + i - 15)
    have hz' := zz64
    have i0 : lowIxLaw 0 := .inl rfl
    have i1 : lowIxLaw 1 := .inr rfl
    simp only [allP, Con.h, addO_eq, hsl, hz', i0, i1, decide_eq_true_eq, eq_self, true_and, and_true]
    have hm := fun y => Wd.mod 64 y
    rw [show (2 : Int) ^ 64 = 18446744073709551616 by decide] at hm
    repeat' with_reducible apply And.intro
    all_goals first | omega | exact q2 | exact q15 | exact q2.1 | exact q2.2 | exact q15.1 | exact q15.2 | exact hm _ | skip
  · rw [E56_64_fm]
    simp only [addO_eq]
    rfl
  · rw [E56_64_tab]
    simp only [e2, e7, e15, e16]
    rw [List.take_of_length_le (by omega)]
    show _ = TC56_64 zs (schLaw 64 18446744073709551616 [1, 8, 7] [19, 61, 6] ws i ++ [nextLaw 64 18446744073709551616 [1, 8, 7] [19, 61, 6] (schLaw 64 18446744073709551616 [1, 8, 7] [19, 61, 6] ws i) (16 + i)]) g4 (g6 + i + 1) ow
    skip
    rfl
noncomputable def gE56_64 : List AVal → Tab → Out := fun vs T => match vs, T with
  | [.var 5 0, .slice 1 6 g6' 0 m none, .int .i64 t], [some ⟨.ints .i64 a0, 0, false, 3⟩, some ⟨.ints .i64 a1, 0, false, 3⟩, some ⟨.ints .i64 a2, 0, false, 3⟩, some ⟨.ints .i64 a3, 0, false, 3⟩, some ⟨.ints .u8 zs, g4, ow, 5⟩, some ⟨.agg [.int .i64 bb, .int .i64 bk, .int .i64 br, .slice 1 0 0 0 3 (some 3), .slice 1 1 0 0 3 (some 3), .slice 1 2 0 0 3 (some 3), .slice 1 3 0 0 3 (some 3)], 0, true, 54⟩, some ⟨.ints .u64 ws, g6, true, 56⟩] =>
    ⟨[.rng 64 bb 64, .rng 128 bk 128, .rng 80 br 80, .p (zz64Law a0 a1 a2 a3), .eqN g6' g6, .eqN m 16, .rng 16 t 16, .eqN ws.length 16, .p (WdsLaw 64 ws)], .normal,
      [(2, .var 5 0), (6, .slice 1 6 (g6 + 64) 0 80 none)], [some ⟨.ints .i64 a0, 0, false, 3⟩, some ⟨.ints .i64 a1, 0, false, 3⟩, some ⟨.ints .i64 a2, 0, false, 3⟩, some ⟨.ints .i64 a3, 0, false, 3⟩, some ⟨.ints .u8 zs, g4, ow, 5⟩, some ⟨.agg [.int .i64 bb, .int .i64 bk, .int .i64 br, .slice 1 0 0 0 3 (some 3), .slice 1 1 0 0 3 (some 3), .slice 1 2 0 0 3 (some 3), .slice 1 3 0 0 3 (some 3)], 0, true, 54⟩, some ⟨.ints .u64 (schLaw 64 18446744073709551616 [1, 8, 7] [19, 61, 6] ws 64), g6 + 64, true, 56⟩], []⟩
  | _, _ => failO
theorem gE56_64_ok : BlkOk eR64 f56 4 (.loop (roundOf 4 f56)) (blkS 7 [2,6,10] gE56_64) := by
  refine blkS_ok fun vs T h => ?_
  unfold gE56_64 at h ⊢
  split at h
  · rename_i g6' m t a0 a1 a2 a3 zs g4 ow bb bk br ws g6
    obtain ⟨z1, z2, z3, z4, h1, h2, h3, h4, h5, _⟩ := h.h
    simp only [Con.h] at z1 z2 z3 z4 h1 h2 h3 h4 h5
    obtain rfl : bb = 64 := by omega
    obtain rfl : bk = 128 := by omega
    obtain rfl : br = 80 := by omega
    obtain ⟨z4, z5, z6, z7⟩ := z4
    subst z4 z5 z6 z7
    obtain rfl : t = 16 := by omega
    subst h1 h2
    exact loopE56_64 h4 h5
  · exact absurd h nofailO
noncomputable def orc56_64 : OrcL := [(0, blkS 6 [1,2,5,6,7] gO56_64), (4, blkS 7 [2,6,10] gE56_64)]
theorem orc56_64_ok : FnOrc eR64 f56 orc56_64 := FnOrc.cons gO56_64_ok (by kernel_rfl) (FnOrc.cons gE56_64_ok (by kernel_rfl) FnOrc.nil)
noncomputable def R56_64 (off : Nat) (zs : List Int) (g4 : Nat) (ow : Bool) : Res := resG 5 [0, 1, 2, 3, 4, 6] (runF eR64 f56 orc56_64 1000 [.agg [.int .i64 64, .int .i64 128, .int .i64 80, .slice 1 0 0 0 3 (some 3), .slice 1 1 0 0 3 (some 3), .slice 1 2 0 0 3 (some 3), .slice 1 3 0 0 3 (some 3)], .slice 1 4 g4 off 128 none] [some ⟨.ints .i64 [1, 8, 7], 0, false, 3⟩, some ⟨.ints .i64 [19, 61, 6], 0, false, 3⟩, some ⟨.ints .i64 [28, 34, 39], 0, false, 3⟩, some ⟨.ints .i64 [14, 18, 41], 0, false, 3⟩, some ⟨.ints .u8 zs, g4, ow, 5⟩] [])
theorem R56_64_ok {off : Nat} {zs : List Int} {g4 : Nat} {ow : Bool} (h : allP [.p (zz64Law [1, 8, 7] [19, 61, 6] [28, 34, 39] [14, 18, 41]), .eqN g4 g4, .leN (off + 128) zs.length, .p (BsLaw zs), .p (zz64Law [1, 8, 7] [19, 61, 6] [28, 34, 39] [14, 18, 41]), .p (WdsLaw 64 (wordsLaw 8 zs off 16))]) : OkR (R56_64 off zs g4 ow) := OkR.dem (fl := bitsF 24 8101119) (by kernel_rfl) (by kernel_rfl) (by
 kernel_rfl) h
theorem R56_64_val {off : Nat} {zs : List Int} {g4 : Nat} {ow : Bool} : (R56_64 off zs g4 ow).val = .slice 1 5 80 0 80 none := by kernel_rfl
theorem R56_64_tab {off : Nat} {zs : List Int} {g4 : Nat} {ow : Bool} : (R56_64 off zs g4 ow).tab = [some ⟨.ints .i64 [1, 8, 7], 0, false, 3⟩, some ⟨.ints .i64 [19, 61, 6], 0, false, 3⟩, some ⟨.ints .i64 [28, 34, 39], 0, false, 3⟩, some ⟨.ints .i64 [14, 18, 41], 0, false, 3⟩, some ⟨.ints .u8 zs, g4, ow, 5⟩, some ⟨.ints .u64 (schLaw 64 18446744073709551616 [1, 8, 7] [19, 61, 6] (wordsLaw 8 zs off
 16) 64), 80, true, 56⟩] := by kernel_rfl
end Go.Abs

set_option linter.unusedVariables false
set_option linter.unusedSimpArgs false
set_option maxRecDepth 8000
set_option maxHeartbeats 2000000
namespace Go.Abs
open Go.Proofs Go.Proofs.Tryd
noncomputable def sm56_32 : Summary := fun args T => match args, T with
  | [.agg [.int .i64 bb, .int .i64 bk, .int .i64 br, .slice 1 0 0 0 3 (some 3), .slice 1 1 0 0 3 (some 3), .slice 1 2 0 0 3 (some 3), .slice 1 3 0 0 3 (some 3)], .slice 1 4 g4 off b none], [some ⟨.ints .i64 a0, 0, false, 3⟩, some ⟨.ints .i64 a1, 0, false, 3⟩, some ⟨.ints .i64 a2, 0, false, 3⟩, some ⟨.ints .i64 a3, 0, false, 3⟩, some ⟨.ints .u8 zs, g4', ow, 5⟩] => ⟨[.rng 32 bb 32, .rng 64 bk 64, .rng 64 br 64, .p (zz32Law a0 a1 a2 a3), .eqN g4 g4', .eqN b 64, .leN (off + 64) zs.length, .p (BsLaw zs)], .slice 1 5 64 0 64 none,
      [some ⟨.ints .i64 a0, 0, false, 3⟩, some ⟨.ints .i64 a1, 0, false, 3⟩, some ⟨.ints .i64 a2, 0, false, 3⟩, some ⟨.ints .i64 a3, 0, false, 3⟩, some ⟨.ints .u8 zs, g4', ow, 5⟩, some ⟨.ints .u64 (schLaw 32 4294967296 [7, 18, 3] [17, 19, 10] (wordsLaw 4 zs off 16) 48), 64, true, 56⟩]⟩
  | _, _ => fail
theorem words32_wds {zs : List Int} {off : Nat} (hb : BsLaw zs) : Wds 32 (wordsLaw 4 zs off 16) := by
  intro i
  have h := arr_wds (W := 32) (n := 4) (by decide) hb (off := off) i
  rcases Nat.lt_or_ge i 16 with hi | hi
  · rw [arrLaw_end, getD_left (by rw [wordsLaw_len]; exact hi)] at h; exact h
  · rw [List.getD_eq_getElem?_getD, List.getElem?_eq_none (by rw [wordsLaw_len]; exact hi)]; exact Wd.zero _
theorem sm56_32_ok : SmOk prog glS 56 sm56_32 := by
  intro args T hc
  unfold sm56_32 at hc ⊢
  split at hc
  · rename_i bb bk br g4 off b a0 a1 a2 a3 zs g4' ow
    obtain ⟨z1, z2, z3, z4, h1, h2, h3, h4, _⟩ := hc
    simp only [Con.h] at z1 z2 z3 z4 h1 h2 h3 h4
    obtain rfl : bb = 32 := by omega
    obtain rfl : bk = 64 := by omega
    obtain rfl : br = 64 := by omega
    obtain ⟨z4, z5, z6, z7⟩ := z4
    subst z4 z5 z6 z7
    subst h1 h2
    refine small_ofG (R := R56_32 off zs g4 ow) (keep := [0, 1, 2, 3, 4, 6]) eR32_ok hmS (f := 56) (fn := f56) (by kernel_rfl) (by kernel_rfl) orc56_32_ok rfl (R56_32_ok ?_) R56_32_val R56_32_tab
    have hz' := zz32
    have hw : WdsLaw 32 (wordsLaw 4 zs off 16) := words32_wds h4
    simp only [allP, Con.h, hz', hw, h3, h4, eq_self, true_and, and_true]
  · exact absurd hc nofail
noncomputable def S56_32 : Summary := callR sm56_32 []
theorem S56_32_ok : SumOk prog glS 56 S56_32 := callR_ok sm56_32_ok []
noncomputable def eT32 : Env := eS0 [(57, S57_32), (58, S58_32), (56, S56_32)]
theorem eT32_ok : EnvOk eT32 := envOf_ok tysS_ok (SumsOk.cons (fn := f57) S57_32_ok (by kernel_rfl) (by kernel_rfl) (by kernel_rfl) (SumsOk.cons (fn := f58) S58_32_ok (by kernel_rfl) (by kernel_rfl) (by kernel_rfl) (SumsOk.cons (fn := f56) S56_32_ok (by kernel_rfl) (by kernel_rfl) (by kernel_rfl) trivial)))
noncomputable def sm56_64 : Summary := fun args T => match args, T with
  | [.agg [.int .i64 bb, .int .i64 bk, .int .i64 br, .slice 1 0 0 0 3 (some 3), .slice 1 1 0 0 3 (some 3), .slice 1 2 0 0 3 (some 3), .slice 1 3 0 0 3 (some 3)], .slice 1 4 g4 off b none], [some ⟨.ints .i64 a0, 0, false, 3⟩, some ⟨.ints .i64 a1, 0, false, 3⟩, some ⟨.ints .i64 a2, 0, false, 3⟩, some ⟨.ints .i64 a3, 0, false, 3⟩, some ⟨.ints .u8 zs, g4', ow, 5⟩] => ⟨[.rng 64 bb 64, .rng 128 bk 128, .rng 80 br 80, .p (zz64Law a0 a1 a2 a3), .eqN g4 g4', .eqN b 128, .leN (off + 128) zs.length, .p (BsLaw zs)], .slice 1 5 80 0 80 none,
      [some ⟨.ints .i64 a0, 0, false, 3⟩, some ⟨.ints .i64 a1, 0, false, 3⟩, some ⟨.ints .i64 a2, 0, false, 3⟩, some ⟨.ints .i64 a3, 0, false, 3⟩, some ⟨.ints .u8 zs, g4', ow, 5⟩, some ⟨.ints .u64 (schLaw 64 18446744073709551616 [1, 8, 7] [19, 61, 6] (wordsLaw 8 zs off 16) 64), 80, true, 56⟩]⟩
  | _, _ => fail
theorem words64_wds {zs : List Int} {off : Nat} (hb : BsLaw zs) : Wds 64 (wordsLaw 8 zs off 16) := by
  intro i
  have h := arr_wds (W := 64) (n := 8) (by decide) hb (off := off) i
  rcases Nat.lt_or_ge i 16 with hi | hi
  · rw [arrLaw_end, getD_left (by rw [wordsLaw_len]; exact hi)] at h; exact h
  · rw [List.getD_eq_getElem?_getD, List.getElem?_eq_none (by rw [wordsLaw_len]; exact hi)]; exact Wd.zero _
theorem sm56_64_ok : SmOk prog glS 56 sm56_64 := by
  intro args T hc
  unfold sm56_64 at hc ⊢
  split at hc
  · rename_i bb bk br g4 off b a0 a1 a2 a3 zs g4' ow
    obtain ⟨z1, z2, z3, z4, h1, h2, h3, h4, _⟩ := hc
    simp only [Con.h] at z1 z2 z3 z4 h1 h2 h3 h4
    obtain rfl : bb = 64 := by omega
    obtain rfl : bk = 128 := by omega
    obtain rfl : br = 80 := by omega
    obtain ⟨z4, z5, z6, z7⟩ := z4
    subst z4 z5 z6 z7
    subst h1 h2
    refine small_ofG (R := R56_64 off zs g4 ow) (keep := [0, 1, 2, 3, 4, 6]) eR64_ok hmS (f := 56) (fn := f56) (by kernel_rfl) (by kernel_rfl) orc56_64_ok rfl (R56_64_ok ?_) R56_64_val R56_64_tab
    have hz' := zz64
    have hw : WdsLaw 64 (wordsLaw 8 zs off 16) := words64_wds h4
    simp only [allP, Con.h, hz', hw, h3, h4, eq_self, true_and, and_true]
  · exact absurd hc nofail
noncomputable def S56_64 : Summary := callR sm56_64 []
theorem S56_64_ok : SumOk prog glS 56 S56_64 := callR_ok sm56_64_ok []
noncomputable def eT64 : Env := eS0 [(57, S57_64), (58, S58_64), (56, S56_64)]
theorem eT64_ok : EnvOk eT64 := envOf_ok tysS_ok (SumsOk.cons (fn := f57) S57_64_ok (by kernel_rfl) (by kernel_rfl) (by kernel_rfl) (SumsOk.cons (fn := f58) S58_64_ok (by kernel_rfl) (by kernel_rfl) (by kernel_rfl) (SumsOk.cons (fn := f56) S56_64_ok (by kernel_rfl) (by kernel_rfl) (by kernel_rfl) trivial)))
end Go.Abs

set_option linter.unusedVariables false
set_option linter.unusedSimpArgs false
set_option maxRecDepth 8000
set_option maxHeartbeats 2000000
namespace Go.Abs
open Go.Proofs Go.Proofs.Tryd
/-! ### the document's block: pieces -/
noncomputable def G49_32 (t y0 y1 y2 y3 y4 y5 y6 y7 : Int) (ss kk zs ws : List Int) (g4 g5 g6 gw gx : Nat) (cp ck cx : Option Nat) (o4 o5 o6 ow : Bool) : Out := trimG 9 [0,1,2,3,4,5,6,7,8,10] [1,2,4,9,10,11] (run eT32 157 ⟨9, []⟩ 400 (roundOf 0 f49) [(1, .slice 1 4 g4 0 8 cp), (2, .slice 1 5 g5 0 80 ck), (4, .var 7 0), (9, .slice 1 8 gw 0 64 none), (10, .slice 1 9 gx 0 8 cx), (11, .int .i64 t)] [some ⟨.ints .i64 [7, 18, 3], 0, false, 3⟩, some ⟨.ints .i64 [17, 19, 10], 0, false, 3⟩, some ⟨.ints .i64 [2, 13, 22], 0, false, 3⟩, some ⟨.ints .i64 [6, 11, 25], 0, false, 3⟩, some ⟨.ints .u64 ss, g4, o4, 56⟩, some ⟨.ints .u64 kk, g5, o5, 56⟩, some ⟨.ints .u8 zs, g6, o6, 5⟩, some ⟨.agg [.int .i64 32, .int .i64 64, .int .i64 64, .slice 1 0 0 0 3 (some 3), .slice 1 1 0 0 3 (some 3), .slice 1 2 0 0 3 (some 3), .slice 1 3 0 0 3 (some 3)], 0, true, 54⟩, some ⟨.ints .u64 ws, gw, ow, 56⟩, some ⟨.ints .u64 [y0, y1, y2, y3, y4, y5, y6, y7], gx, true, 56⟩] [some true])
theorem G49_32_ok {t y0 y1 y2 y3 y4 y5 y6 y7 : Int} {ss kk zs ws : List Int} {g4 g5 g6 gw gx : Nat} {cp ck cx : Option Nat} {o4 o5 o6 ow : Bool} (h : allP [.p (decide (t < 64) = true), .eqN g5 g5, .leI 0 t, .leI (t + 1) 80, .eqN g5 g5, .leN (t.toNat + 1) kk.length, .eqN gx gx, .eqN gx gx, .eqN gx gx, .eqN gx gx, .eqN gx gx, .eqN gx gx, .p (zz32Law [7, 18, 3] [17, 19, 10] [2, 13, 22] [6, 11, 25]),
 .p (highIxLaw 3), .p (0 ≤ y4 ∧ y4 < 4294967296), .eqN gx gx, .eqN gx gx, .eqN gx gx, .eqN gx gx, .eqN gx gx, .eqN gx gx, .eqN gx gx, .eqN gx gx, .nn .u64 y4, .nn .u64 y5, .nn .u64 y4, .nn .u64 y5, .eqN gx gx, .eqN gx gx, .eqN gx gx, .eqN gx gx, .nn .u64 y4, .nn .u64 y4, .eqN gx gx, .eqN gx gx, .eqN gx gx, .eqN gx gx, .nn .u64 (18446744073709551615 - y4), .nn .u64 y6, .nn .u64 (18446744073709551615
 - y4), .nn .u64 y6, .nn .u64 (iand y4 y5), .nn .u64 (iand (18446744073709551615 - y4) y6), .nn .u64 (iand y4 y5), .nn .u64 (iand (18446744073709551615 - y4) y6), .eqN gw gw, .leI 0 t, .leI (t + 1) 64, .eqN gw gw, .leI 0 t, .leI (t + 1) 64, .eqN gw gw, .leN (t.toNat + 1) ws.length, .eqN gw gw, .leN (t.toNat + 1) ws.length, .nn .u64 (((((y7 + highLaw 32 [6, 11, 25] y4) % 18446744073709551616 + ixor
 (iand y4 y5) (iand (18446744073709551615 - y4) y6)) % 18446744073709551616 + kk.getD t.toNat 0 / 4294967296) % 18446744073709551616 + ws.getD t.toNat 0) % 18446744073709551616), .eqN gx gx, .eqN gx gx, .p (zz32Law [7, 18, 3] [17, 19, 10] [2, 13, 22] [6, 11, 25]), .p (highIxLaw 2), .p (0 ≤ y0 ∧ y0 < 4294967296), .eqN gx gx, .eqN gx gx, .eqN gx gx, .eqN gx gx, .eqN gx gx, .eqN gx gx, .eqN gx gx, .eqN
 gx gx, .nn .u64 y0, .nn .u64 y1, .nn .u64 y0, .nn .u64 y1, .eqN gx gx, .eqN gx gx, .eqN gx gx, .eqN gx gx, .eqN gx gx, .eqN gx gx, .eqN gx gx, .eqN gx gx, .nn .u64 y0, .nn .u64 y2, .nn .u64 y0, .nn .u64 y2, .nn .u64 (iand y0 y1), .nn .u64 (iand y0 y2), .nn .u64 (iand y0 y1), .nn .u64 (iand y0 y2), .eqN gx gx, .eqN gx gx, .eqN gx gx, .eqN gx gx, .eqN gx gx, .eqN gx gx, .eqN gx gx, .eqN gx gx, .nn
 .u64 y1, .nn .u64 y2, .nn .u64 y1, .nn .u64 y2, .nn .u64 (ixor (iand y0 y1) (iand y0 y2)), .nn .u64 (iand y1 y2), .nn .u64 (ixor (iand y0 y1) (iand y0 y2)), .nn .u64 (iand y1 y2), .nn .u64 ((highLaw 32 [2, 13, 22] y0 + ixor (ixor (iand y0 y1) (iand y0 y2)) (iand y1 y2)) % 18446744073709551616), .nn .u64 ((iand (((((y7 + highLaw 32 [6, 11, 25] y4) % 18446744073709551616 + ixor (iand y4 y5) (iand
 (18446744073709551615 - y4) y6)) % 18446744073709551616 + kk.getD t.toNat 0 / 4294967296) % 18446744073709551616 + ws.getD t.toNat 0) % 18446744073709551616) 4294967295 + iand ((highLaw 32 [2, 13, 22] y0 + ixor (ixor (iand y0 y1) (iand y0 y2)) (iand y1 y2)) % 18446744073709551616) 4294967295) % 18446744073709551616), .eqN gx gx, .eqN gx gx, .eqN gx gx, .eqN gx gx, .eqN gx gx, .eqN gx gx, .eqN gx
 gx, .eqN gx gx, .eqN gx gx, .eqN gx gx, .eqN gx gx, .eqN gx gx, .eqN gx gx, .eqN gx gx, .eqN gx gx, .eqN gx gx, .eqN gx gx, .eqN gx gx, .eqN gx gx, .eqN gx gx, .eqN gx gx, .eqN gx gx, .nn .u64 ((y3 + iand (((((y7 + highLaw 32 [6, 11, 25] y4) % 18446744073709551616 + ixor (iand y4 y5) (iand (18446744073709551615 - y4) y6)) % 18446744073709551616 + kk.getD t.toNat 0 / 4294967296) %
 18446744073709551616 + ws.getD t.toNat 0) % 18446744073709551616) 4294967295) % 18446744073709551616), .eqN gx gx, .eqN gx gx, .eqN gx gx, .eqN gx gx, .eqN gx gx, .eqN gx gx, .eqN gx gx, .eqN gx gx, .eqN gx gx, .eqN gx gx, .eqN gx gx, .eqN gx gx, .eqN gx gx, .eqN gx gx, .eqN gx gx, .eqN gx gx, .eqN gx gx, .eqN gx gx, .rng (-9223372036854775808) (t + 1) 9223372036854775807]) : Ok (G49_32 t y0 y1 y2
 y3 y4 y5 y6 y7 ss kk zs ws g4 g5 g6 gw gx cp ck cx o4 o5 o6 ow) := Ok.dem (fl := bitsF 479 390216456903213893730022738667588507820469603663681268165297903595747297517566434057746024743070331296152096236531912002504009041119582758042631) (by kernel_rfl) (by kernel_rfl) (by kernel_rfl) h
theorem G49_32_ex {t y0 y1 y2 y3 y4 y5 y6 y7 : Int} {ss kk zs ws : List Int} {g4 g5 g6 gw gx : Nat} {cp ck cx : Option Nat} {o4 o5 o6 ow : Bool} : (G49_32 t y0 y1 y2 y3 y4 y5 y6 y7 ss kk zs ws g4 g5 g6 gw gx cp ck cx o4 o5 o6 ow).ex = .normal := by kernel_rfl
theorem G49_32_fm {t y0 y1 y2 y3 y4 y5 y6 y7 : Int} {ss kk zs ws : List Int} {g4 g5 g6 gw gx : Nat} {cp ck cx : Option Nat} {o4 o5 o6 ow : Bool} : (G49_32 t y0 y1 y2 y3 y4 y5 y6 y7 ss kk zs ws g4 g5 g6 gw gx cp ck cx o4 o5 o6 ow).fm = [(1, .slice 1 4 g4 0 8 cp), (2, .slice 1 5 g5 0 80 ck), (4, .var 7 0), (9, .slice 1 8 gw 0 64 none), (10, .slice 1 9 0 0 8 (some 8)), (11, .int .i64 (t + 1))] := by
 kernel_rfl
theorem G49_32_tab {t y0 y1 y2 y3 y4 y5 y6 y7 : Int} {ss kk zs ws : List Int} {g4 g5 g6 gw gx : Nat} {cp ck cx : Option Nat} {o4 o5 o6 ow : Bool} : (G49_32 t y0 y1 y2 y3 y4 y5 y6 y7 ss kk zs ws g4 g5 g6 gw gx cp ck cx o4 o5 o6 ow).tab = [some ⟨.ints .i64 [7, 18, 3], 0, false, 3⟩, some ⟨.ints .i64 [17, 19, 10], 0, false, 3⟩, some ⟨.ints .i64 [2, 13, 22], 0, false, 3⟩, some ⟨.ints .i64 [6, 11, 25],
 0, false, 3⟩, some ⟨.ints .u64 ss, g4, o4, 56⟩, some ⟨.ints .u64 kk, g5, o5, 56⟩, some ⟨.ints .u8 zs, g6, o6, 5⟩, some ⟨.agg [.int .i64 32, .int .i64 64, .int .i64 64, .slice 1 0 0 0 3 (some 3), .slice 1 1 0 0 3 (some 3), .slice 1 2 0 0 3 (some 3), .slice 1 3 0 0 3 (some 3)], 0, true, 54⟩, some ⟨.ints .u64 ws, gw, ow, 56⟩, some ⟨.ints .u64 (((((((([0, 0, 0, 0, 0, 0, 0, 0].set 0 (iand ((iand (((((y7
 + highLaw 32 [6, 11, 25] y4) % 18446744073709551616 + ixor (iand y4 y5) (iand (18446744073709551615 - y4) y6)) % 18446744073709551616 + kk.getD t.toNat 0 / 4294967296) % 18446744073709551616 + ws.getD t.toNat 0) % 18446744073709551616) 4294967295 + iand ((highLaw 32 [2, 13, 22] y0 + ixor (ixor (iand y0 y1) (iand y0 y2)) (iand y1 y2)) % 18446744073709551616) 4294967295) % 18446744073709551616)
 4294967295)).set 1 y0).set 2 y1).set 3 y2).set 4 (iand ((y3 + iand (((((y7 + highLaw 32 [6, 11, 25] y4) % 18446744073709551616 + ixor (iand y4 y5) (iand (18446744073709551615 - y4) y6)) % 18446744073709551616 + kk.getD t.toNat 0 / 4294967296) % 18446744073709551616 + ws.getD t.toNat 0) % 18446744073709551616) 4294967295) % 18446744073709551616) 4294967295)).set 5 y4).set 6 y5).set 7 y6), 0, true,
 56⟩] := by kernel_rfl
noncomputable def H49_32 (t : Int) (ss kk zs ws xs : List Int) (g4 g5 g6 gw gx : Nat) (cp ck cx : Option Nat) (o4 o5 o6 ow : Bool) : Out := trim 9 10 [1,4,10] (run eT32 157 ⟨9, []⟩ 400 (roundOf 0 f49) [(1, .slice 1 4 g4 0 8 cp), (2, .slice 1 5 g5 0 80 ck), (4, .var 7 0), (9, .slice 1 8 gw 0 64 none), (10, .slice 1 9 gx 0 8 cx), (11, .int .i64 t)] [some ⟨.ints .i64 [7, 18, 3], 0, false, 3⟩, some ⟨.ints .i64 [17, 19, 10], 0, false, 3⟩, some ⟨.ints .i64 [2, 13, 22], 0, false, 3⟩, some ⟨.ints .i64 [6, 11, 25], 0, false, 3⟩, some ⟨.ints .u64 ss, g4, o4, 56⟩, some ⟨.ints .u64 kk, g5, o5, 56⟩, some ⟨.ints .u8 zs, g6, o6, 5⟩, some ⟨.agg [.int .i64 32, .int .i64 64, .int .i64 64, .slice 1 0 0 0 3 (some 3), .slice 1 1 0 0 3 (some 3), .slice 1 2 0 0 3 (some 3), .slice 1 3 0 0 3 (some 3)], 0, true, 54⟩, some ⟨.ints .u64 ws, gw, ow, 56⟩, some ⟨.ints .u64 xs, gx, true, 56⟩] [some false])
theorem H49_32_ok {t : Int} {ss kk zs ws xs : List Int} {g4 g5 g6 gw gx : Nat} {cp ck cx : Option Nat} {o4 o5 o6 ow : Bool} (h : allP [.p (decide (t < 64) = false)]) : Ok (H49_32 t ss kk zs ws xs g4 g5 g6 gw gx cp ck cx o4 o5 o6 ow) := Ok.dem (fl := [true, true, true, false]) (by kernel_rfl) (by kernel_rfl) (by kernel_rfl) h
theorem H49_32_ex {t : Int} {ss kk zs ws xs : List Int} {g4 g5 g6 gw gx : Nat} {cp ck cx : Option Nat} {o4 o5 o6 ow : Bool} : (H49_32 t ss kk zs ws xs g4 g5 g6 gw gx cp ck cx o4 o5 o6 ow).ex = .exit 0 := by kernel_rfl
theorem H49_32_fm {t : Int} {ss kk zs ws xs : List Int} {g4 g5 g6 gw gx : Nat} {cp ck cx : Option Nat} {o4 o5 o6 ow : Bool} : (H49_32 t ss kk zs ws xs g4 g5 g6 gw gx cp ck cx o4 o5 o6 ow).fm = [(1, .slice 1 4 g4 0 8 cp), (4, .var 7 0), (10, .slice 1 9 gx 0 8 cx)] := by kernel_rfl
theorem H49_32_tab {t : Int} {ss kk zs ws xs : List Int} {g4 g5 g6 gw gx : Nat} {cp ck cx : Option Nat} {o4 o5 o6 ow : Bool} : (H49_32 t ss kk zs ws xs g4 g5 g6 gw gx cp ck cx o4 o5 o6 ow).tab = [some ⟨.ints .i64 [7, 18, 3], 0, false, 3⟩, some ⟨.ints .i64 [17, 19, 10], 0, false, 3⟩, some ⟨.ints .i64 [2, 13, 22], 0, false, 3⟩, some ⟨.ints .i64 [6, 11, 25], 0, false, 3⟩, some ⟨.ints .u64 ss, g4, o4,
 56⟩, some ⟨.ints .u64 kk, g5, o5, 56⟩, some ⟨.ints .u8 zs, g6, o6, 5⟩, some ⟨.agg [.int .i64 32, .int .i64 64, .int .i64 64, .slice 1 0 0 0 3 (some 3), .slice 1 1 0 0 3 (some 3), .slice 1 2 0 0 3 (some 3), .slice 1 3 0 0 3 (some 3)], 0, true, 54⟩, some ⟨.ints .u64 ws, gw, ow, 56⟩, some ⟨.ints .u64 xs, gx, true, 56⟩] := by kernel_rfl
noncomputable def I49_32 (i : Int) (ss kk zs ws xs : List Int) (g4 g5 g6 gw gx : Nat) (cp ck cx : Option Nat) (o4 o5 o6 ow : Bool) : Out := trim 10 10 [1,4,10,15] (run eT32 157 ⟨10, []⟩ 400 (roundOf 2 f49) [(1, .slice 1 4 g4 0 8 cp), (4, .var 7 0), (10, .slice 1 9 gx 0 8 cx), (15, .int .i64 i)] [some ⟨.ints .i64 [7, 18, 3], 0, false, 3⟩, some ⟨.ints .i64 [17, 19, 10], 0, false, 3⟩, some ⟨.ints .i64 [2, 13, 22], 0, false, 3⟩, some ⟨.ints .i64 [6, 11, 25], 0, false, 3⟩, some ⟨.ints .u64 ss, g4, o4, 56⟩, some ⟨.ints .u64 kk, g5, o5, 56⟩, some ⟨.ints .u8 zs, g6, o6, 5⟩, some ⟨.agg [.int .i64 32, .int .i64 64, .int .i64 64, .slice 1 0 0 0 3 (some 3), .slice 1 1 0 0 3 (some 3), .slice 1 2 0 0 3 (some 3), .slice 1 3 0 0 3 (some 3)], 0, true, 54⟩, some ⟨.ints .u64 ws, gw, ow, 56⟩, some ⟨.ints .u64 xs, gx, true, 56⟩] [some true])
theorem I49_32_ok {i : Int} {ss kk zs ws xs : List Int} {g4 g5 g6 gw gx : Nat} {cp ck cx : Option Nat} {o4 o5 o6 ow : Bool} (h : allP [.p (decide (i < 8) = true), .eqN gx gx, .leI 0 i, .leI (i + 1) 8, .eqN gx gx, .leN (i.toNat + 1) xs.length, .eqN g4 g4, .leI 0 i, .leI (i + 1) 8, .eqN g4 g4, .leN (i.toNat + 1) ss.length, .nn .u64 ((xs.getD i.toNat 0 + ss.getD i.toNat 0) % 18446744073709551616),
 .eqN gx gx, .leI 0 i, .leI (i + 1) 8, .eqN gx gx, .leN (i.toNat + 1) xs.length, .rng (-9223372036854775808) (i + 1) 9223372036854775807]) : Ok (I49_32 i ss kk zs ws xs g4 g5 g6 gw gx cp ck cx o4 o5 o6 ow) := Ok.dem (fl := bitsF 35 5393809456) (by kernel_rfl) (by kernel_rfl) (by kernel_rfl) h
theorem I49_32_ex {i : Int} {ss kk zs ws xs : List Int} {g4 g5 g6 gw gx : Nat} {cp ck cx : Option Nat} {o4 o5 o6 ow : Bool} : (I49_32 i ss kk zs ws xs g4 g5 g6 gw gx cp ck cx o4 o5 o6 ow).ex = .normal := by kernel_rfl
theorem I49_32_fm {i : Int} {ss kk zs ws xs : List Int} {g4 g5 g6 gw gx : Nat} {cp ck cx : Option Nat} {o4 o5 o6 ow : Bool} : (I49_32 i ss kk zs ws xs g4 g5 g6 gw gx cp ck cx o4 o5 o6 ow).fm = [(1, .slice 1 4 g4 0 8 cp), (4, .var 7 0), (10, .slice 1 9 gx 0 8 cx), (15, .int .i64 (i + 1))] := by kernel_rfl
theorem I49_32_tab {i : Int} {ss kk zs ws xs : List Int} {g4 g5 g6 gw gx : Nat} {cp ck cx : Option Nat} {o4 o5 o6 ow : Bool} : (I49_32 i ss kk zs ws xs g4 g5 g6 gw gx cp ck cx o4 o5 o6 ow).tab = [some ⟨.ints .i64 [7, 18, 3], 0, false, 3⟩, some ⟨.ints .i64 [17, 19, 10], 0, false, 3⟩, some ⟨.ints .i64 [2, 13, 22], 0, false, 3⟩, some ⟨.ints .i64 [6, 11, 25], 0, false, 3⟩, some ⟨.ints .u64 ss, g4, o4,
 56⟩, some ⟨.ints .u64 kk, g5, o5, 56⟩, some ⟨.ints .u8 zs, g6, o6, 5⟩, some ⟨.agg [.int .i64 32, .int .i64 64, .int .i64 64, .slice 1 0 0 0 3 (some 3), .slice 1 1 0 0 3 (some 3), .slice 1 2 0 0 3 (some 3), .slice 1 3 0 0 3 (some 3)], 0, true, 54⟩, some ⟨.ints .u64 ws, gw, ow, 56⟩, some ⟨.ints .u64 (xs.set i.toNat (iand ((xs.getD i.toNat 0 + ss.getD i.toNat 0) % 18446744073709551616) 4294967295)),
 gx, true, 56⟩] := by kernel_rfl
noncomputable def J49_32 (i : Int) (ss kk zs ws xs : List Int) (g4 g5 g6 gw gx : Nat) (cp ck cx : Option Nat) (o4 o5 o6 ow : Bool) : Out := trim 10 10 [10] (run eT32 157 ⟨10, []⟩ 400 (roundOf 2 f49) [(1, .slice 1 4 g4 0 8 cp), (4, .var 7 0), (10, .slice 1 9 gx 0 8 cx), (15, .int .i64 i)] [some ⟨.ints .i64 [7, 18, 3], 0, false, 3⟩, some ⟨.ints .i64 [17, 19, 10], 0, false, 3⟩, some ⟨.ints .i64 [2, 13, 22], 0, false, 3⟩, some ⟨.ints .i64 [6, 11, 25], 0, false, 3⟩, some ⟨.ints .u64 ss, g4, o4, 56⟩, some ⟨.ints .u64 kk, g5, o5, 56⟩, some ⟨.ints .u8 zs, g6, o6, 5⟩, some ⟨.agg [.int .i64 32, .int .i64 64, .int .i64 64, .slice 1 0 0 0 3 (some 3), .slice 1 1 0 0 3 (some 3), .slice 1 2 0 0 3 (some 3), .slice 1 3 0 0 3 (some 3)], 0, true, 54⟩, some ⟨.ints .u64 ws, gw, ow, 56⟩, some ⟨.ints .u64 xs, gx, true, 56⟩] [some false])
theorem J49_32_ok {i : Int} {ss kk zs ws xs : List Int} {g4 g5 g6 gw gx : Nat} {cp ck cx : Option Nat} {o4 o5 o6 ow : Bool} (h : allP [.p (decide (i < 8) = false)]) : Ok (J49_32 i ss kk zs ws xs g4 g5 g6 gw gx cp ck cx o4 o5 o6 ow) := Ok.dem (fl := [false]) (by kernel_rfl) (by kernel_rfl) (by kernel_rfl) h
theorem J49_32_ex {i : Int} {ss kk zs ws xs : List Int} {g4 g5 g6 gw gx : Nat} {cp ck cx : Option Nat} {o4 o5 o6 ow : Bool} : (J49_32 i ss kk zs ws xs g4 g5 g6 gw gx cp ck cx o4 o5 o6 ow).ex = .exit 2 := by kernel_rfl
theorem J49_32_fm {i : Int} {ss kk zs ws xs : List Int} {g4 g5 g6 gw gx : Nat} {cp ck cx : Option Nat} {o4 o5 o6 ow : Bool} : (J49_32 i ss kk zs ws xs g4 g5 g6 gw gx cp ck cx o4 o5 o6 ow).fm = [(10, .slice 1 9 gx 0 8 cx)] := by kernel_rfl
theorem J49_32_tab {i : Int} {ss kk zs ws xs : List Int} {g4 g5 g6 gw gx : Nat} {cp ck cx : Option Nat} {o4 o5 o6 ow : Bool} : (J49_32 i ss kk zs ws xs g4 g5 g6 gw gx cp ck cx o4 o5 o6 ow).tab = [some ⟨.ints .i64 [7, 18, 3], 0, false, 3⟩, some ⟨.ints .i64 [17, 19, 10], 0, false, 3⟩, some ⟨.ints .i64 [2, 13, 22], 0, false, 3⟩, some ⟨.ints .i64 [6, 11, 25], 0, false, 3⟩, some ⟨.ints .u64 ss, g4, o4,
 56⟩, some ⟨.ints .u64 kk, g5, o5, 56⟩, some ⟨.ints .u8 zs, g6, o6, 5⟩, some ⟨.agg [.int .i64 32, .int .i64 64, .int .i64 64, .slice 1 0 0 0 3 (some 3), .slice 1 1 0 0 3 (some 3), .slice 1 2 0 0 3 (some 3), .slice 1 3 0 0 3 (some 3)], 0, true, 54⟩, some ⟨.ints .u64 ws, gw, ow, 56⟩, some ⟨.ints .u64 xs, gx, true, 56⟩] := by kernel_rfl
noncomputable def G49_64 (t y0 y1 y2 y3 y4 y5 y6 y7 : Int) (ss kk zs ws : List Int) (g4 g5 g6 gw gx : Nat) (cp ck cx : Option Nat) (o4 o5 o6 ow : Bool) : Out := trimG 9 [0,1,2,3,4,5,6,7,8,10] [1,2,4,9,10,11] (run eT64 157 ⟨9, []⟩ 400 (roundOf 0 f49) [(1, .slice 1 4 g4 0 8 cp), (2, .slice 1 5 g5 0 80 ck), (4, .var 7 0), (9, .slice 1 8 gw 0 80 none), (10, .slice 1 9 gx 0 8 cx), (11, .int .i64 t)] [some ⟨.ints .i64 [1, 8, 7], 0, false, 3⟩, some ⟨.ints .i64 [19, 61, 6], 0, false, 3⟩, some ⟨.ints .i64 [28, 34, 39], 0, false, 3⟩, some ⟨.ints .i64 [14, 18, 41], 0, false, 3⟩, some ⟨.ints .u64 ss, g4, o4, 56⟩, some ⟨.ints .u64 kk, g5, o5, 56⟩, some ⟨.ints .u8 zs, g6, o6, 5⟩, some ⟨.agg [.int .i64 64, .int .i64 128, .int .i64 80, .slice 1 0 0 0 3 (some 3), .slice 1 1 0 0 3 (some 3), .slice 1 2 0 0 3 (some 3), .slice 1 3 0 0 3 (some 3)], 0, true, 54⟩, some ⟨.ints .u64 ws, gw, ow, 56⟩, some ⟨.ints .u64 [y0, y1, y2, y3, y4, y5, y6, y7], gx, true, 56⟩] [some true])
theorem G49_64_ok {t y0 y1 y2 y3 y4 y5 y6 y7 : Int} {ss kk zs ws : List Int} {g4 g5 g6 gw gx : Nat} {cp ck cx : Option Nat} {o4 o5 o6 ow : Bool} (h : allP [.p (decide (t < 80) = true), .eqN g5 g5, .leI 0 t, .leI (t + 1) 80, .eqN g5 g5, .leN (t.toNat + 1) kk.length, .eqN gx gx, .eqN gx gx, .eqN gx gx, .eqN gx gx, .eqN gx gx, .eqN gx gx, .p (zz64Law [1, 8, 7] [19, 61, 6] [28, 34, 39] [14, 18, 41]),
 .p (highIxLaw 3), .p (0 ≤ y4 ∧ y4 < 18446744073709551616), .eqN gx gx, .eqN gx gx, .eqN gx gx, .eqN gx gx, .eqN gx gx, .eqN gx gx, .eqN gx gx, .eqN gx gx, .nn .u64 y4, .nn .u64 y5, .nn .u64 y4, .nn .u64 y5, .eqN gx gx, .eqN gx gx, .eqN gx gx, .eqN gx gx, .nn .u64 y4, .nn .u64 y4, .eqN gx gx, .eqN gx gx, .eqN gx gx, .eqN gx gx, .nn .u64 (18446744073709551615 - y4), .nn .u64 y6, .nn .u64
 (18446744073709551615 - y4), .nn .u64 y6, .nn .u64 (iand y4 y5), .nn .u64 (iand (18446744073709551615 - y4) y6), .nn .u64 (iand y4 y5), .nn .u64 (iand (18446744073709551615 - y4) y6), .eqN gw gw, .leI 0 t, .leI (t + 1) 80, .eqN gw gw, .leI 0 t, .leI (t + 1) 80, .eqN gw gw, .leN (t.toNat + 1) ws.length, .eqN gw gw, .leN (t.toNat + 1) ws.length, .eqN gx gx, .eqN gx gx, .p (zz64Law [1, 8, 7] [19, 61,
 6] [28, 34, 39] [14, 18, 41]), .p (highIxLaw 2), .p (0 ≤ y0 ∧ y0 < 18446744073709551616), .eqN gx gx, .eqN gx gx, .eqN gx gx, .eqN gx gx, .eqN gx gx, .eqN gx gx, .eqN gx gx, .eqN gx gx, .nn .u64 y0, .nn .u64 y1, .nn .u64 y0, .nn .u64 y1, .eqN gx gx, .eqN gx gx, .eqN gx gx, .eqN gx gx, .eqN gx gx, .eqN gx gx, .eqN gx gx, .eqN gx gx, .nn .u64 y0, .nn .u64 y2, .nn .u64 y0, .nn .u64 y2, .nn .u64 (iand
 y0 y1), .nn .u64 (iand y0 y2), .nn .u64 (iand y0 y1), .nn .u64 (iand y0 y2), .eqN gx gx, .eqN gx gx, .eqN gx gx, .eqN gx gx, .eqN gx gx, .eqN gx gx, .eqN gx gx, .eqN gx gx, .nn .u64 y1, .nn .u64 y2, .nn .u64 y1, .nn .u64 y2, .nn .u64 (ixor (iand y0 y1) (iand y0 y2)), .nn .u64 (iand y1 y2), .nn .u64 (ixor (iand y0 y1) (iand y0 y2)), .nn .u64 (iand y1 y2), .eqN gx gx, .eqN gx gx, .eqN gx gx, .eqN gx
 gx, .eqN gx gx, .eqN gx gx, .eqN gx gx, .eqN gx gx, .eqN gx gx, .eqN gx gx, .eqN gx gx, .eqN gx gx, .eqN gx gx, .eqN gx gx, .eqN gx gx, .eqN gx gx, .eqN gx gx, .eqN gx gx, .eqN gx gx, .eqN gx gx, .eqN gx gx, .eqN gx gx, .eqN gx gx, .eqN gx gx, .eqN gx gx, .eqN gx gx, .eqN gx gx, .eqN gx gx, .eqN gx gx, .eqN gx gx, .eqN gx gx, .eqN gx gx, .eqN gx gx, .eqN gx gx, .eqN gx gx, .eqN gx gx, .eqN gx gx,
 .eqN gx gx, .eqN gx gx, .eqN gx gx, .rng (-9223372036854775808) (t + 1) 9223372036854775807]) : Ok (G49_64 t y0 y1 y2 y3 y4 y5 y6 y7 ss kk zs ws g4 g5 g6 gw gx cp ck cx o4 o5 o6 ow) := Ok.dem (fl := bitsF 471 1524283034778179272382901477135171936705188639388248455417082244477723990679080203246919063356173128019045639029566361783507165353672299183111) (by kernel_rfl) (by kernel_rfl) (by kernel_rfl)
 h
theorem G49_64_ex {t y0 y1 y2 y3 y4 y5 y6 y7 : Int} {ss kk zs ws : List Int} {g4 g5 g6 gw gx : Nat} {cp ck cx : Option Nat} {o4 o5 o6 ow : Bool} : (G49_64 t y0 y1 y2 y3 y4 y5 y6 y7 ss kk zs ws g4 g5 g6 gw gx cp ck cx o4 o5 o6 ow).ex = .normal := by kernel_rfl
theorem G49_64_fm {t y0 y1 y2 y3 y4 y5 y6 y7 : Int} {ss kk zs ws : List Int} {g4 g5 g6 gw gx : Nat} {cp ck cx : Option Nat} {o4 o5 o6 ow : Bool} : (G49_64 t y0 y1 y2 y3 y4 y5 y6 y7 ss kk zs ws g4 g5 g6 gw gx cp ck cx o4 o5 o6 ow).fm = [(1, .slice 1 4 g4 0 8 cp), (2, .slice 1 5 g5 0 80 ck), (4, .var 7 0), (9, .slice 1 8 gw 0 80 none), (10, .slice 1 9 0 0 8 (some 8)), (11, .int .i64 (t + 1))] := by
 kernel_rfl
theorem G49_64_tab {t y0 y1 y2 y3 y4 y5 y6 y7 : Int} {ss kk zs ws : List Int} {g4 g5 g6 gw gx : Nat} {cp ck cx : Option Nat} {o4 o5 o6 ow : Bool} : (G49_64 t y0 y1 y2 y3 y4 y5 y6 y7 ss kk zs ws g4 g5 g6 gw gx cp ck cx o4 o5 o6 ow).tab = [some ⟨.ints .i64 [1, 8, 7], 0, false, 3⟩, some ⟨.ints .i64 [19, 61, 6], 0, false, 3⟩, some ⟨.ints .i64 [28, 34, 39], 0, false, 3⟩, some ⟨.ints .i64 [14, 18, 41],
 0, false, 3⟩, some ⟨.ints .u64 ss, g4, o4, 56⟩, some ⟨.ints .u64 kk, g5, o5, 56⟩, some ⟨.ints .u8 zs, g6, o6, 5⟩, some ⟨.agg [.int .i64 64, .int .i64 128, .int .i64 80, .slice 1 0 0 0 3 (some 3), .slice 1 1 0 0 3 (some 3), .slice 1 2 0 0 3 (some 3), .slice 1 3 0 0 3 (some 3)], 0, true, 54⟩, some ⟨.ints .u64 ws, gw, ow, 56⟩, some ⟨.ints .u64 (((((((([0, 0, 0, 0, 0, 0, 0, 0].set 0 ((((((y7 + highLaw
 64 [14, 18, 41] y4) % 18446744073709551616 + ixor (iand y4 y5) (iand (18446744073709551615 - y4) y6)) % 18446744073709551616 + kk.getD t.toNat 0 / 1) % 18446744073709551616 + ws.getD t.toNat 0) % 18446744073709551616 + (highLaw 64 [28, 34, 39] y0 + ixor (ixor (iand y0 y1) (iand y0 y2)) (iand y1 y2)) % 18446744073709551616) % 18446744073709551616)).set 1 y0).set 2 y1).set 3 y2).set 4 ((y3 + ((((y7 +
 highLaw 64 [14, 18, 41] y4) % 18446744073709551616 + ixor (iand y4 y5) (iand (18446744073709551615 - y4) y6)) % 18446744073709551616 + kk.getD t.toNat 0 / 1) % 18446744073709551616 + ws.getD t.toNat 0) % 18446744073709551616) % 18446744073709551616)).set 5 y4).set 6 y5).set 7 y6), 0, true, 56⟩] := by kernel_rfl
noncomputable def H49_64 (t : Int) (ss kk zs ws xs : List Int) (g4 g5 g6 gw gx : Nat) (cp ck cx : Option Nat) (o4 o5 o6 ow : Bool) : Out := trim 9 10 [1,4,10] (run eT64 157 ⟨9, []⟩ 400 (roundOf 0 f49) [(1, .slice 1 4 g4 0 8 cp), (2, .slice 1 5 g5 0 80 ck), (4, .var 7 0), (9, .slice 1 8 gw 0 80 none), (10, .slice 1 9 gx 0 8 cx), (11, .int .i64 t)] [some ⟨.ints .i64 [1, 8, 7], 0, false, 3⟩, some ⟨.ints .i64 [19, 61, 6], 0, false, 3⟩, some ⟨.ints .i64 [28, 34, 39], 0, false, 3⟩, some ⟨.ints .i64 [14, 18, 41], 0, false, 3⟩, some ⟨.ints .u64 ss, g4, o4, 56⟩, some ⟨.ints .u64 kk, g5, o5, 56⟩, some ⟨.ints .u8 zs, g6, o6, 5⟩, some ⟨.agg [.int .i64 64, .int .i64 128, .int .i64 80, .slice 1 0 0 0 3 (some 3), .slice 1 1 0 0 3 (some 3), .slice 1 2 0 0 3 (some 3), .slice 1 3 0 0 3 (some 3)], 0, true, 54⟩, some ⟨.ints .u64 ws, gw, ow, 56⟩, some ⟨.ints .u64 xs, gx, true, 56⟩] [some false])
theorem H49_64_ok {t : Int} {ss kk zs ws xs : List Int} {g4 g5 g6 gw gx : Nat} {cp ck cx : Option Nat} {o4 o5 o6 ow : Bool} (h : allP [.p (decide (t < 80) = false)]) : Ok (H49_64 t ss kk zs ws xs g4 g5 g6 gw gx cp ck cx o4 o5 o6 ow) := Ok.dem (fl := [true, true, true, false]) (by kernel_rfl) (by kernel_rfl) (by kernel_rfl) h
theorem H49_64_ex {t : Int} {ss kk zs ws xs : List Int} {g4 g5 g6 gw gx : Nat} {cp ck cx : Option Nat} {o4 o5 o6 ow : Bool} : (H49_64 t ss kk zs ws xs g4 g5 g6 gw gx cp ck cx o4 o5 o6 ow).ex = .exit 0 := by kernel_rfl
theorem H49_64_fm {t : Int} {ss kk zs ws xs : List Int} {g4 g5 g6 gw gx : Nat} {cp ck cx : Option Nat} {o4 o5 o6 ow : Bool} : (H49_64 t ss kk zs ws xs g4 g5 g6 gw gx cp ck cx o4 o5 o6 ow).fm = [(1, .slice 1 4 g4 0 8 cp), (4, .var 7 0), (10, .slice 1 9 gx 0 8 cx)] := by kernel_rfl
theorem H49_64_tab {t : Int} {ss kk zs ws xs : List Int} {g4 g5 g6 gw gx : Nat} {cp ck cx : Option Nat} {o4 o5 o6 ow : Bool} : (H49_64 t ss kk zs ws xs g4 g5 g6 gw gx cp ck cx o4 o5 o6 ow).tab = [some ⟨.ints .i64 [1, 8, 7], 0, false, 3⟩, some ⟨.ints .i64 [19, 61, 6], 0, false, 3⟩, some ⟨.ints .i64 [28, 34, 39], 0, false, 3⟩, some ⟨.ints .i64 [14, 18, 41], 0, false, 3⟩, some ⟨.ints .u64 ss, g4, o4,
 56⟩, some ⟨.ints .u64 kk, g5, o5, 56⟩, some ⟨.ints .u8 zs, g6, o6, 5⟩, some ⟨.agg [.int .i64 64, .int .i64 128, .int .i64 80, .slice 1 0 0 0 3 (some 3), .slice 1 1 0 0 3 (some 3), .slice 1 2 0 0 3 (some 3), .slice 1 3 0 0 3 (some 3)], 0, true, 54⟩, some ⟨.ints .u64 ws, gw, ow, 56⟩, some ⟨.ints .u64 xs, gx, true, 56⟩] := by kernel_rfl
noncomputable def I49_64 (i : Int) (ss kk zs ws xs : List Int) (g4 g5 g6 gw gx : Nat) (cp ck cx : Option Nat) (o4 o5 o6 ow : Bool) : Out := trim 10 10 [1,4,10,15] (run eT64 157 ⟨10, []⟩ 400 (roundOf 2 f49) [(1, .slice 1 4 g4 0 8 cp), (4, .var 7 0), (10, .slice 1 9 gx 0 8 cx), (15, .int .i64 i)] [some ⟨.ints .i64 [1, 8, 7], 0, false, 3⟩, some ⟨.ints .i64 [19, 61, 6], 0, false, 3⟩, some ⟨.ints .i64 [28, 34, 39], 0, false, 3⟩, some ⟨.ints .i64 [14, 18, 41], 0, false, 3⟩, some ⟨.ints .u64 ss, g4, o4, 56⟩, some ⟨.ints .u64 kk, g5, o5, 56⟩, some ⟨.ints .u8 zs, g6, o6, 5⟩, some ⟨.agg [.int .i64 64, .int .i64 128, .int .i64 80, .slice 1 0 0 0 3 (some 3), .slice 1 1 0 0 3 (some 3), .slice 1 2 0 0 3 (some 3), .slice 1 3 0 0 3 (some 3)], 0, true, 54⟩, some ⟨.ints .u64 ws, gw, ow, 56⟩, some ⟨.ints .u64 xs, gx, true, 56⟩] [some true])
theorem I49_64_ok {i : Int} {ss kk zs ws xs : List Int} {g4 g5 g6 gw gx : Nat} {cp ck cx : Option Nat} {o4 o5 o6 ow : Bool} (h : allP [.p (decide (i < 8) = true), .eqN gx gx, .leI 0 i, .leI (i + 1) 8, .eqN gx gx, .leN (i.toNat + 1) xs.length, .eqN g4 g4, .leI 0 i, .leI (i + 1) 8, .eqN g4 g4, .leN (i.toNat + 1) ss.length, .eqN gx gx, .leI 0 i, .leI (i + 1) 8, .eqN gx gx, .leN (i.toNat + 1)
 xs.length, .rng (-9223372036854775808) (i + 1) 9223372036854775807]) : Ok (I49_64 i ss kk zs ws xs g4 g5 g6 gw gx cp ck cx o4 o5 o6 ow) := Ok.dem (fl := bitsF 33 1350500400) (by kernel_rfl) (by kernel_rfl) (by kernel_rfl) h
theorem I49_64_ex {i : Int} {ss kk zs ws xs : List Int} {g4 g5 g6 gw gx : Nat} {cp ck cx : Option Nat} {o4 o5 o6 ow : Bool} : (I49_64 i ss kk zs ws xs g4 g5 g6 gw gx cp ck cx o4 o5 o6 ow).ex = .normal := by kernel_rfl
theorem I49_64_fm {i : Int} {ss kk zs ws xs : List Int} {g4 g5 g6 gw gx : Nat} {cp ck cx : Option Nat} {o4 o5 o6 ow : Bool} : (I49_64 i ss kk zs ws xs g4 g5 g6 gw gx cp ck cx o4 o5 o6 ow).fm = [(1, .slice 1 4 g4 0 8 cp), (4, .var 7 0), (10, .slice 1 9 gx 0 8 cx), (15, .int .i64 (i + 1))] := by kernel_rfl
theorem I49_64_tab {i : Int} {ss kk zs ws xs : List Int} {g4 g5 g6 gw gx : Nat} {cp ck cx : Option Nat} {o4 o5 o6 ow : Bool} : (I49_64 i ss kk zs ws xs g4 g5 g6 gw gx cp ck cx o4 o5 o6 ow).tab = [some ⟨.ints .i64 [1, 8, 7], 0, false, 3⟩, some ⟨.ints .i64 [19, 61, 6], 0, false, 3⟩, some ⟨.ints .i64 [28, 34, 39], 0, false, 3⟩, some ⟨.ints .i64 [14, 18, 41], 0, false, 3⟩, some ⟨.ints .u64 ss, g4, o4,
 56⟩, some ⟨.ints .u64 kk, g5, o5, 56⟩, some ⟨.ints .u8 zs, g6, o6, 5⟩, some ⟨.agg [.int .i64 64, .int .i64 128, .int .i64 80, .slice 1 0 0 0 3 (some 3), .slice 1 1 0 0 3 (some 3), .slice 1 2 0 0 3 (some 3), .slice 1 3 0 0 3 (some 3)], 0, true, 54⟩, some ⟨.ints .u64 ws, gw, ow, 56⟩, some ⟨.ints .u64 (xs.set i.toNat ((xs.getD i.toNat 0 + ss.getD i.toNat 0) % 18446744073709551616)), gx, true, 56⟩] :=
 by kernel_rfl
noncomputable def J49_64 (i : Int) (ss kk zs ws xs : List Int) (g4 g5 g6 gw gx : Nat) (cp ck cx : Option Nat) (o4 o5 o6 ow : Bool) : Out := trim 10 10 [10] (run eT64 157 ⟨10, []⟩ 400 (roundOf 2 f49) [(1, .slice 1 4 g4 0 8 cp), (4, .var 7 0), (10, .slice 1 9 gx 0 8 cx), (15, .int .i64 i)] [some ⟨.ints .i64 [1, 8, 7], 0, false, 3⟩, some ⟨.ints .i64 [19, 61, 6], 0, false, 3⟩, some ⟨.ints .i64 [28, 34, 39], 0, false, 3⟩, some ⟨.ints .i64 [14, 18, 41], 0, false, 3⟩, some ⟨.ints .u64 ss, g4, o4, 56⟩, some ⟨.ints .u64 kk, g5, o5, 56⟩, some ⟨.ints .u8 zs, g6, o6, 5⟩, some ⟨.agg [.int .i64 64, .int .i64 128, .int .i64 80, .slice 1 0 0 0 3 (some 3), .slice 1 1 0 0 3 (some 3), .slice 1 2 0 0 3 (some 3), .slice 1 3 0 0 3 (some 3)], 0, true, 54⟩, some ⟨.ints .u64 ws, gw, ow, 56⟩, some ⟨.ints .u64 xs, gx, true, 56⟩] [some false])
theorem J49_64_ok {i : Int} {ss kk zs ws xs : List Int} {g4 g5 g6 gw gx : Nat} {cp ck cx : Option Nat} {o4 o5 o6 ow : Bool} (h : allP [.p (decide (i < 8) = false)]) : Ok (J49_64 i ss kk zs ws xs g4 g5 g6 gw gx cp ck cx o4 o5 o6 ow) := Ok.dem (fl := [false]) (by kernel_rfl) (by kernel_rfl) (by kernel_rfl) h
theorem J49_64_ex {i : Int} {ss kk zs ws xs : List Int} {g4 g5 g6 gw gx : Nat} {cp ck cx : Option Nat} {o4 o5 o6 ow : Bool} : (J49_64 i ss kk zs ws xs g4 g5 g6 gw gx cp ck cx o4 o5 o6 ow).ex = .exit 2 := by kernel_rfl
theorem J49_64_fm {i : Int} {ss kk zs ws xs : List Int} {g4 g5 g6 gw gx : Nat} {cp ck cx : Option Nat} {o4 o5 o6 ow : Bool} : (J49_64 i ss kk zs ws xs g4 g5 g6 gw gx cp ck cx o4 o5 o6 ow).fm = [(10, .slice 1 9 gx 0 8 cx)] := by kernel_rfl
theorem J49_64_tab {i : Int} {ss kk zs ws xs : List Int} {g4 g5 g6 gw gx : Nat} {cp ck cx : Option Nat} {o4 o5 o6 ow : Bool} : (J49_64 i ss kk zs ws xs g4 g5 g6 gw gx cp ck cx o4 o5 o6 ow).tab = [some ⟨.ints .i64 [1, 8, 7], 0, false, 3⟩, some ⟨.ints .i64 [19, 61, 6], 0, false, 3⟩, some ⟨.ints .i64 [28, 34, 39], 0, false, 3⟩, some ⟨.ints .i64 [14, 18, 41], 0, false, 3⟩, some ⟨.ints .u64 ss, g4, o4,
 56⟩, some ⟨.ints .u64 kk, g5, o5, 56⟩, some ⟨.ints .u8 zs, g6, o6, 5⟩, some ⟨.agg [.int .i64 64, .int .i64 128, .int .i64 80, .slice 1 0 0 0 3 (some 3), .slice 1 1 0 0 3 (some 3), .slice 1 2 0 0 3 (some 3), .slice 1 3 0 0 3 (some 3)], 0, true, 54⟩, some ⟨.ints .u64 ws, gw, ow, 56⟩, some ⟨.ints .u64 xs, gx, true, 56⟩] := by kernel_rfl
end Go.Abs
