/- What functions of the given program come to, by the abstract machine: texts of a proof. -/
import Derived.Test.YtlnflmjgnmljeaaP1
import Derived.Test.YtlnflmjgnmljeaaAbs2
import Derived.Test.YtlnflmjgnmljeaaP0
set_option linter.unusedVariables false
set_option linter.unusedSimpArgs false
set_option maxRecDepth 8000
namespace Go.Abs
open Go.Proofs.Try
structure Exc (z0 z1 z2 : List Int) (g0 n0 g1 n1 g2 n2 ga : Nat) (kx : List Int) : Prop where
  pz0 : n0 ≤ z0.length
  pm0 : n0 ≤ 140737488352000
  pb0 : Bytes z0
  pz1 : n1 ≤ z1.length
  pm1 : n1 ≤ 140737488352000
  pb1 : Bytes z1
  pz2 : n2 ≤ z2.length
  pm2 : n2 ≤ 140737488352000
  pb2 : Bytes z2
  pk : WpLaw kx
noncomputable def H1c : Host := ⟨#[9], as63, bd63, [(2, .var 4 0), (4, .var 5 0), (5, .var 6 0), (8, .func (.func 79) [] [.var 7 0])], 16⟩
noncomputable def H2c0 (z0 z1 z2 : List Int) (g0 n0 g1 n1 g2 n2 ga : Nat) (kx : List Int) : Host := ⟨#[14], as79, bd79, [(1, .var 7 0), (2, .var 8 0), (6, .slice 1 0 ga 0 3 (some 3)), (7, .int .i64 3), (8, .int .i64 0), (13, .func (.func 81) [] [.var 9 0, .var 10 0])], 30⟩
theorem ambc0 (z0 z1 z2 : List Int) (g0 n0 g1 n1 g2 n2 ga : Nat) (kx : List Int) (l1 l2 : Nat) : ambIn 11 [(l2, H2c0 z0 z1 z2 g0 n0 g1 n1 g2 n2 ga kx), (l1, H1c)] := fun x hx => by
  rcases List.mem_cons.1 hx with rfl | hx
  · exact fmIn_of rfl
  · exact ambIn_one rfl x hx
theorem ambMc0 (z0 z1 z2 : List Int) (g0 n0 g1 n1 g2 n2 ga : Nat) (kx : List Int) (l1 l2 : Nat) : ambIn 12 [(l2, H2c0 z0 z1 z2 g0 n0 g1 n1 g2 n2 ga kx), (l1, H1c)] := fun x hx => by
  rcases List.mem_cons.1 hx with rfl | hx
  · exact fmIn_of rfl
  · exact ambIn_one rfl x hx
theorem chfc0 {z0 z1 z2 : List Int} {g0 n0 g1 n1 g2 n2 ga : Nat} {kx : List Int} (e : Exc z0 z1 z2 g0 n0 g1 n1 g2 n2 ga kx) {y : List Int} (hy : WpLaw y) (l1 l2 : Nat) {j : Nat} (hj : 16 * j + 16 ≤ n0) :
    YWp eGh 30 11 [(l2, H2c0 z0 z1 z2 g0 n0 g1 n1 g2 n2 ga kx), (l1, H1c)] bd79 [(2, .var 8 0), (5, .slice 1 1 g0 (16 * j) 16 (some 16))] (TNc0 z0 z1 z2 g0 n0 g1 n1 g2 n2 ga kx y l1) [(.busy, none), (.ready, none)] fun ex fm T σ => ex = .normal ∧ T = ((TNc0 z0 z1 z2 g0 n0 g1 n1 g2 n2 ga kx (mwLaw (xwLaw y (gwLaw (ckLaw z0 n0 j))) kx) l1) : Tab) ∧ σ = [(.busy, none), (.ready, none)] := by
  have hamb := ambc0 z0 z1 z2 g0 n0 g1 n1 g2 n2 ga kx l1 l2
  have hambM := ambMc0 z0 z1 z2 g0 n0 g1 n1 g2 n2 ga kx l1 l2
  have hz := e.pz0
  have hbz := e.pb0
  have hcl := ck_len hz j
  have hcb := ck_bytes hbz n0 j
  have eb : (subLaw z0 (addO (16 * j) 0) 16) = (ckLaw z0 n0 j) := by rw [addO_eq, Nat.add_zero, ck_full hj]
  have hw : WpLaw (gwLaw (subLaw z0 (addO (16 * j) 0) 16)) := by rw [eb]; exact .gw hcb hcl
  rw [bd79_eq]
  refine YWp.block (YWp.seq (YWp.yieldDrawn eGh_ok hmA (l1 := ops79.toList.take 12) (oy := ops79.toList.getD 12 default) (o2 := ops79.toList.getD 13 default) (by kernel_rfl) (ds1 := [some true]) (o1 := Dfc0 z0 z1 z2 g0 n0 g1 n1 g2 n2 ga kx y l1 l2 (16 * j)) (by kernel_rfl) (by kernel_rfl) (by kernel_rfl) (by kernel_rfl) (by kernel_rfl) (by kernel_rfl) (Dfc0_ok ?_) (f := .tmp 15) (x := .tmp 26) (t := 27) (c := theCall (ops79.toList.getD 12 default)) (by kernel_rfl) (by kernel_rfl) (by kernel_rfl) (by kernel_rfl) (by kernel_rfl) (by kernel_rfl) (by decide) (i := 1) (l := l1) (H := H1c) (by rw [Dfc0_fm]; rfl) (v := .ints .u64 (gwLaw (subLaw z0 (addO (16 * j) 0) 16))) (by rw [Dfc0_fm]; rfl) rfl rfl (p := 9) rfl (by decide) (kk := 11) (by decide) (by rw [Dfc0_fm]; exact fmIn_of rfl) hamb ?_))
  · simp only [allP, Con.h, addO_eq, Nat.add_zero, hbz, eq_self, true_and, and_true]
    omega
  rw [Dfc0_tab]
  refine YWp.ofTo (To.of (o := A6fc0 z0 z1 z2 g0 n0 g1 n1 g2 n2 ga kx y l1 (gwLaw (subLaw z0 (addO (16 * j) 0) 16))) eGh_ok hmA (Nat.le_refl 11) OrcOk.nil rfl (A6fc0_ok ⟨hw.len, trivial⟩) A6fc0_ex A6fc0_fm A6fc0_tab) hamb ⟨rfl, rfl, ?_⟩
  refine YWp.ofTo (To.of (o := B6fc0 z0 z1 z2 g0 n0 g1 n1 g2 n2 ga kx y l1 (gwLaw (subLaw z0 (addO (16 * j) 0) 16))) eGh_ok hmA (Nat.le_refl 11) OrcOk.nil rfl (B6fc0_ok ?_) B6fc0_ex B6fc0_fm B6fc0_tab) hamb ⟨by decide, [], Ntc0 z0 z1 z2 g0 n0 g1 n1 g2 n2 ga kx (mwLaw (xwLaw y (gwLaw (subLaw z0 (addO (16 * j) 0) 16))) kx) l1 _, rfl, Ntc0_ok trivial, ?_⟩
  · have h1 := hy.len
    have h2 := hw.len
    have h3 := e.pk.len
    have h4 := hy.xw hw
    simp only [allP, Con.h, h1, h2, h3, h4, hy, hw, e.pk, and_true, true_and]
  rw [Ntc0_fm, Ntc0_tab, eb]
  show YWp eGh 30 11 [(l2, H2c0 z0 z1 z2 g0 n0 g1 n1 g2 n2 ga kx), (l1, H1c)] cnd79 _ _ _ _
  rw [cnd79_eq]
  exact YWp.cond (b := false) rfl (fun h => by cases h) (fun _ => YWp.skip hamb ⟨rfl, rfl, rfl⟩)
theorem chpc0 {z0 z1 z2 : List Int} {g0 n0 g1 n1 g2 n2 ga : Nat} {kx : List Int} (e : Exc z0 z1 z2 g0 n0 g1 n1 g2 n2 ga kx) {y : List Int} (hy : WpLaw y) (l1 l2 : Nat) {j r : Nat} (hr : r < 16) (hj : 16 * j + r = n0) :
    YWp eGh 30 11 [(l2, H2c0 z0 z1 z2 g0 n0 g1 n1 g2 n2 ga kx), (l1, H1c)] bd79 [(2, .var 8 0), (5, .slice 1 1 g0 (16 * j) r (some r))] (TNc0 z0 z1 z2 g0 n0 g1 n1 g2 n2 ga kx y l1) [(.busy, none), (.ready, none)] fun ex fm T σ => ex = .normal ∧ T = ((TNc0 z0 z1 z2 g0 n0 g1 n1 g2 n2 ga kx (mwLaw (xwLaw y (gwLaw (ckLaw z0 n0 j))) kx) l1) : Tab) ∧ σ = [(.busy, none), (.ready, none)] := by
  have hamb := ambc0 z0 z1 z2 g0 n0 g1 n1 g2 n2 ga kx l1 l2
  have hambM := ambMc0 z0 z1 z2 g0 n0 g1 n1 g2 n2 ga kx l1 l2
  have hz := e.pz0
  have hbz := e.pb0
  have hcl := ck_len hz j
  have hcb := ck_bytes hbz n0 j
  have ex0 : (List.take r (dropO (addO (16 * j) 0) z0) ++ List.replicate (16 - (r : Int)).toNat 0) = (ckLaw z0 n0 j) := by
    rw [addO_eq, Nat.add_zero, dropO_eq, ck_part (by omega), show n0 - 16 * j = r by omega, show (16 - (r : Int)).toNat = 16 - r by omega]
  have eb : (subLaw (List.take r (dropO (addO (16 * j) 0) z0) ++ List.replicate (16 - (r : Int)).toNat 0) 0 16) = (ckLaw z0 n0 j) := by
    rw [ex0, take_sub, List.take_of_length_le (by omega)]
  have hw : WpLaw (gwLaw (subLaw (List.take r (dropO (addO (16 * j) 0) z0) ++ List.replicate (16 - (r : Int)).toNat 0) 0 16)) := by rw [eb]; exact .gw hcb hcl
  rw [bd79_eq]
  refine YWp.block (YWp.seq (YWp.yieldDrawn eGh_ok hmA (l1 := ops79.toList.take 12) (oy := ops79.toList.getD 12 default) (o2 := ops79.toList.getD 13 default) (by kernel_rfl) (ds1 := [some false]) (o1 := Dpc0 z0 z1 z2 g0 n0 g1 n1 g2 n2 ga kx y l1 l2 (16 * j) r) (by kernel_rfl) (by kernel_rfl) (by kernel_rfl) (by kernel_rfl) (by kernel_rfl) (by kernel_rfl) (Dpc0_ok ?_) (f := .tmp 15) (x := .tmp 26) (t := 27) (c := theCall (ops79.toList.getD 12 default)) (by kernel_rfl) (by kernel_rfl) (by kernel_rfl) (by kernel_rfl) (by kernel_rfl) (by kernel_rfl) (by decide) (i := 1) (l := l1) (H := H1c) (by rw [Dpc0_fm]; rfl) (v := .ints .u64 (gwLaw (subLaw (List.take r (dropO (addO (16 * j) 0) z0) ++ List.replicate (16 - (r : Int)).toNat 0) 0 16))) (by rw [Dpc0_fm]; rfl) rfl rfl (p := 9) rfl (by decide) (kk := 12) (by decide) (by rw [Dpc0_fm]; exact fmIn_of rfl) hamb ?_))
  · rw [ex0]
    simp only [allP, Con.h, addO_eq, Nat.add_zero, hcl, hcb, eq_self, true_and, and_true]
    omega
  rw [Dpc0_tab]
  refine YWp.ofTo (To.of (o := A6pc0 z0 z1 z2 g0 n0 g1 n1 g2 n2 ga kx y l1 (List.take r (dropO (addO (16 * j) 0) z0) ++ List.replicate (16 - (r : Int)).toNat 0) (gwLaw (subLaw (List.take r (dropO (addO (16 * j) 0) z0) ++ List.replicate (16 - (r : Int)).toNat 0) 0 16))) eGh_ok hmA (Nat.le_refl 12) OrcOk.nil rfl (A6pc0_ok ⟨hw.len, trivial⟩) A6pc0_ex A6pc0_fm A6pc0_tab) hambM ⟨rfl, rfl, ?_⟩
  refine YWp.ofTo (To.of (o := B6pc0 z0 z1 z2 g0 n0 g1 n1 g2 n2 ga kx y l1 (List.take r (dropO (addO (16 * j) 0) z0) ++ List.replicate (16 - (r : Int)).toNat 0) (gwLaw (subLaw (List.take r (dropO (addO (16 * j) 0) z0) ++ List.replicate (16 - (r : Int)).toNat 0) 0 16))) eGh_ok hmA (Nat.le_refl 12) OrcOk.nil rfl (B6pc0_ok ?_) B6pc0_ex B6pc0_fm B6pc0_tab) hambM ⟨by decide, [], Nqc0 z0 z1 z2 g0 n0 g1 n1 g2 n2 ga kx (mwLaw (xwLaw y (gwLaw (subLaw (List.take r (dropO (addO (16 * j) 0) z0) ++ List.replicate (16 - (r : Int)).toNat 0) 0 16))) kx) l1 (List.take r (dropO (addO (16 * j) 0) z0) ++ List.replicate (16 - (r : Int)).toNat 0) _, rfl, Nqc0_ok trivial, ?_⟩
  · have h1 := hy.len
    have h2 := hw.len
    have h3 := e.pk.len
    have h4 := hy.xw hw
    simp only [allP, Con.h, h1, h2, h3, h4, hy, hw, e.pk, and_true, true_and]
  rw [Nqc0_fm, Nqc0_tab, eb]
  show YWp eGh 30 11 [(l2, H2c0 z0 z1 z2 g0 n0 g1 n1 g2 n2 ga kx), (l1, H1c)] cnd79 _ _ _ _
  refine YWp.sub (f := [(28, .bool false)]) ⟨rfl, trivial⟩ ?_
  exact YWp.ofTo (To.of (k := 11) (o := Cpc0 z0 z1 z2 g0 n0 g1 n1 g2 n2 ga kx (mwLaw (xwLaw y (gwLaw (ckLaw z0 n0 j))) kx) l1 (List.take r (dropO (addO (16 * j) 0) z0) ++ List.replicate (16 - (r : Int)).toNat 0)) eGh_ok hmA (Nat.le_refl 11) OrcOk.nil rfl (Cpc0_ok trivial) Cpc0_ex Cpc0_fm Cpc0_tab) hamb ⟨rfl, rfl, rfl⟩
theorem chc0 {z0 z1 z2 : List Int} {g0 n0 g1 n1 g2 n2 ga : Nat} {kx : List Int} (e : Exc z0 z1 z2 g0 n0 g1 n1 g2 n2 ga kx) {y : List Int} (hy : WpLaw y) (l1 l2 : Nat) {j : Nat} (hj : 16 * j < n0) :
    YWp eGh 30 11 [(l2, H2c0 z0 z1 z2 g0 n0 g1 n1 g2 n2 ga kx), (l1, H1c)] bd79 [(2, .var 8 0), (5, .slice 1 1 g0 (16 * j) (min 16 (n0 - 16 * j)) (some (min 16 (n0 - 16 * j))))] (TNc0 z0 z1 z2 g0 n0 g1 n1 g2 n2 ga kx y l1) [(.busy, none), (.ready, none)] fun ex fm T σ => ex = .normal ∧ T = ((TNc0 z0 z1 z2 g0 n0 g1 n1 g2 n2 ga kx (mwLaw (xwLaw y (gwLaw (ckLaw z0 n0 j))) kx) l1) : Tab) ∧ σ = [(.busy, none), (.ready, none)] := by
  by_cases h : 16 * j + 16 ≤ n0
  · rw [show min 16 (n0 - 16 * j) = 16 by omega]
    exact chfc0 e hy l1 l2 h
  · exact chpc0 e hy l1 l2 (by omega) (by omega)
theorem rdc0 {z0 z1 z2 : List Int} {g0 n0 g1 n1 g2 n2 ga : Nat} {kx : List Int} (e : Exc z0 z1 z2 g0 n0 g1 n1 g2 n2 ga kx) {y : List Int} (hy : WpLaw y) (l1 l2 : Nat) {j : Nat} (hj : 16 * j < n0) :
    YWp eGh 31 11 [(l2, H2c0 z0 z1 z2 g0 n0 g1 n1 g2 n2 ga kx), (l1, H1c)] (roundOf 0 f81) [(0, .func (.yield l2) [] []), (1, .var 9 0), (2, .var 10 0), (4, .int .i64 ((16 * j : Nat) : Int))] (TNc0 z0 z1 z2 g0 n0 g1 n1 g2 n2 ga kx y l1) [(.ready, none), (.ready, none)] fun ex fm T σ => ex = .normal ∧ fm = [(0, .func (.yield l2) [] []), (1, .var 9 0), (2, .var 10 0), (4, .int .i64 ((16 * (j + 1) : Nat) : Int))] ∧ T = ((TNc0 z0 z1 z2 g0 n0 g1 n1 g2 n2 ga kx (mwLaw (xwLaw y (gwLaw (ckLaw z0 n0 j))) kx) l1) : Tab) ∧ σ = [(.ready, none), (.ready, none)] := by
  have hamb := ambc0 z0 z1 z2 g0 n0 g1 n1 g2 n2 ga kx l1 l2
  have hz := e.pz0
  have hm := e.pm0
  skip
  have er : (if (↑(subO n0 ((16 * j : Nat) : Int).toNat) : Int) < 16 then (↑(subO n0 ((16 * j : Nat) : Int).toNat) : Int) else 16) = ((min 16 (n0 - 16 * j) : Nat) : Int) := by
    rw [Int.toNat_natCast, subO_eq, min16]
  have e1 : ((16 * j : Nat) : Int).toNat = 16 * j := Int.toNat_natCast _
  have e2 : subO (((16 * j : Nat) : Int) + ((min 16 (n0 - 16 * j) : Nat) : Int)).toNat (16 * j) = min 16 (n0 - 16 * j) := by rw [subO_eq]; omega
  rw [split81]
  refine YWp.seq (YWp.ofTo (To.of (o := Hyc0 z0 z1 z2 g0 n0 g1 n1 g2 n2 ga kx y l1 l2 ((16 * j : Nat) : Int)) eGh_ok hmA (Nat.le_refl 11) OrcOk.nil rfl (Hyc0_ok ?_) Hyc0_ex Hyc0_fm Hyc0_tab) hamb ?_)
  · simp only [allP, Con.h, decide_eq_true_eq, eq_self, true_and, and_true]; omega
  refine YWp.seq (YWp.block (YWp.seq (YWp.ofTo (To.of (o := Msc0 z0 z1 z2 g0 n0 g1 n1 g2 n2 ga kx y l1 l2 ((16 * j : Nat) : Int)) (fm' := [(0, .func (.yield l2) [] []), (1, .var 9 0), (2, .var 10 0), (4, .int .i64 ((16 * j : Nat) : Int))] ++ [(5, .int .i64 ((min 16 (n0 - 16 * j) : Nat) : Int))]) eGh_ok hmA (Nat.le_refl 11) OrcOk.nil rfl (Msc0_ok ?_) Msc0_ex (by rw [Msc0_fm, er]; rfl) Msc0_tab) hamb ?_)))
  · simp only [allP, Con.h, eq_self, true_and, and_true]; omega
  refine YWp.seq (YWp.yieldRegion eGh_ok (l1 := ops81.toList.take 10) (l2 := ops81.toList.drop 11) (oy := ops81.toList.getD 10 default) (by kernel_rfl) (ds1 := []) (o1 := Yac0 z0 z1 z2 g0 n0 g1 n1 g2 n2 ga kx y l1 l2 ((16 * j : Nat) : Int) ((min 16 (n0 - 16 * j) : Nat) : Int)) (by kernel_rfl) (Yac0_ok ?_) (f := .tmp 19) (x := .tmp 28) (t := 29) (c := theCall (ops81.toList.getD 10 default)) (by kernel_rfl) (by kernel_rfl) (by kernel_rfl) (by kernel_rfl) (by kernel_rfl) (by decide) (i := 0) (l := l2) (H := H2c0 z0 z1 z2 g0 n0 g1 n1 g2 n2 ga kx) (by rw [Yac0_fm]; rfl) (v := .slice 1 1 g0 (16 * j) (min 16 (n0 - 16 * j)) (some (min 16 (n0 - 16 * j)))) (by rw [Yac0_fm, e1, e2]; rfl) rfl rfl (p := 14) rfl (show 14 < 30 by decide) (kk := 11) (Nat.le_refl _) (by rw [Yac0_fm]; exact fmIn_of rfl) hamb ?_)
  · simp only [allP, Con.h, eq_self, true_and, and_true]; omega
  rw [Yac0_tab]
  refine YWp.ofTo (To.of (o := Asc0 z0 z1 z2 g0 n0 g1 n1 g2 n2 ga kx y l1 l2 (16 * j) (min 16 (n0 - 16 * j))) eGh_ok hmA (Nat.le_refl 11) OrcOk.nil rfl (Asc0_ok trivial) Asc0_ex Asc0_fm Asc0_tab) hamb ⟨rfl, rfl, ?_⟩
  refine YWp.mono (chc0 e hy l1 l2 hj) fun ex fm T σ hP => ?_
  obtain ⟨rfl, rfl, rfl⟩ := hP
  refine ⟨by decide, [], Nuc0 z0 z1 z2 g0 n0 g1 n1 g2 n2 ga kx (mwLaw (xwLaw y (gwLaw (ckLaw z0 n0 j))) kx) l1 _, rfl, Nuc0_ok trivial, ?_⟩
  rw [Nuc0_fm, Nuc0_tab, Yac0_fm]
  show YWp eGh 31 11 [(l2, H2c0 z0 z1 z2 g0 n0 g1 n1 g2 n2 ga kx), (l1, H1c)] cnd81 _ _ _ _
  rw [cnd81_eq]
  refine YWp.cond (b := false) rfl (fun h => by cases h) (fun _ => YWp.skip hamb ?_)
  show YWp eGh 31 11 [(l2, H2c0 z0 z1 z2 g0 n0 g1 n1 g2 n2 ga kx), (l1, H1c)] r81 _ _ _ _
  refine YWp.sub (f := [(0, .func (.yield l2) [] []), (1, .var 9 0), (2, .var 10 0), (4, .int .i64 ((16 * j : Nat) : Int))]) ⟨rfl, rfl, rfl, rfl, trivial⟩ ?_
  refine YWp.ofTo (To.of (o := Rbc0 z0 z1 z2 g0 n0 g1 n1 g2 n2 ga kx _ l1 l2 ((16 * j : Nat) : Int)) eGh_ok hmA (Nat.le_refl 11) OrcOk.nil rfl (Rbc0_ok ?_) Rbc0_ex Rbc0_fm Rbc0_tab) hamb ⟨rfl, ?_, rfl, rfl⟩
  · simp only [allP, Con.h, and_true]; omega
  · rw [show ((16 * j : Nat) : Int) + 16 = ((16 * (j + 1) : Nat) : Int) by omega]
theorem inc0 {z0 z1 z2 : List Int} {g0 n0 g1 n1 g2 n2 ga : Nat} {kx : List Int} (e : Exc z0 z1 z2 g0 n0 g1 n1 g2 n2 ga kx) {y : List Int} (hy : WpLaw y) (l1 l2 : Nat) :
    YWp eGh 31 11 [(l2, H2c0 z0 z1 z2 g0 n0 g1 n1 g2 n2 ga kx), (l1, H1c)] (bodyOf f81) (argF ([] ++ (.func (.yield l2) [] [] :: [.var 9 0, .var 10 0])) 0) (TNc0 z0 z1 z2 g0 n0 g1 n1 g2 n2 ga kx y l1) [(.ready, none), (.ready, none)] fun ex fm' T' σ' =>
      (ex = .normal ∨ ex = .ret) ∧ (∃ cs us, aRes eGh fm' T' f81.results.toList = some (cs, us) ∧ allP cs) ∧ ∃ st σ2, σ' = st :: σ2 ∧ st.1 ≠ .busy ∧
        match st.2 with
        | none => AExit.normal = .normal ∧ [(1, .var 7 0), (2, .var 8 0), (6, .slice 1 0 ga 0 3 (some 3)), (7, .int .i64 3), (8, .int .i64 0), (13, .func (.func 81) [] [.var 9 0, .var 10 0])] = (H2c0 z0 z1 z2 g0 n0 g1 n1 g2 n2 ga kx).fm ∧ T' = (TNc0 z0 z1 z2 g0 n0 g1 n1 g2 n2 ga kx (hsLaw kx y z0 n0) l1) ∧ σ2 = [(.ready, none)]
        | some (.exit id) => AExit.exit id = .normal ∧ [(1, .var 7 0), (2, .var 8 0), (6, .slice 1 0 ga 0 3 (some 3)), (7, .int .i64 3), (8, .int .i64 0), (13, .func (.func 81) [] [.var 9 0, .var 10 0])] = (H2c0 z0 z1 z2 g0 n0 g1 n1 g2 n2 ga kx).fm ∧ T' = (TNc0 z0 z1 z2 g0 n0 g1 n1 g2 n2 ga kx (hsLaw kx y z0 n0) l1) ∧ σ2 = [(.ready, none)]
        | some .ret => AExit.ret = .normal ∧ [(1, .var 7 0), (2, .var 8 0), (6, .slice 1 0 ga 0 3 (some 3)), (7, .int .i64 3), (8, .int .i64 0), (13, .func (.func 81) [] [.var 9 0, .var 10 0])] = (H2c0 z0 z1 z2 g0 n0 g1 n1 g2 n2 ga kx).fm ∧ T' = (TNc0 z0 z1 z2 g0 n0 g1 n1 g2 n2 ga kx (hsLaw kx y z0 n0) l1) ∧ σ2 = [(.ready, none)]
        | _ => False := by
  have hamb := ambc0 z0 z1 z2 g0 n0 g1 n1 g2 n2 ga kx l1 l2
  rw [splitb81, res81]
  refine YWp.seq (YWp.ofTo (To.of (o := Zsc0 z0 z1 z2 g0 n0 g1 n1 g2 n2 ga kx y l1 l2) eGh_ok hmA (Nat.le_refl 11) OrcOk.nil rfl (Zsc0_ok trivial) Zsc0_ex Zsc0_fm Zsc0_tab) hamb ?_)
  refine YWp.block (YWp.loop (fun fm T σ μ => ∃ j, 16 * j < n0 + 16 ∧ μ = n0 + 16 - j ∧ fm = [(0, .func (.yield l2) [] []), (1, .var 9 0), (2, .var 10 0), (4, .int .i64 ((16 * j : Nat) : Int))] ∧ T = (TNc0 z0 z1 z2 g0 n0 g1 n1 g2 n2 ga kx (hyLaw kx y z0 n0 j) l1) ∧ σ = [(.ready, none), (.ready, none)]) (n0 + 16) ⟨0, by omega, rfl, rfl, rfl, rfl⟩ ?_)
  rintro fm T σ μ ⟨j, hj, rfl, rfl, rfl, rfl⟩
  by_cases h : 16 * j < n0
  · refine YWp.mono (rdc0 e (hy_wp hy e.pz0 e.pb0 j) l1 l2 h) fun ex fm T σ hP => ?_
    obtain ⟨rfl, rfl, rfl, rfl⟩ := hP
    exact ⟨n0 + 16 - (j + 1), by omega, j + 1, by omega, rfl, rfl, rfl, rfl⟩
  · rw [split81]
    refine YWp.seq (YWp.ofTo (To.of (o := Hnc0 z0 z1 z2 g0 n0 g1 n1 g2 n2 ga kx (hyLaw kx y z0 n0 j) l1 l2 ((16 * j : Nat) : Int)) eGh_ok hmA (Nat.le_refl 11) OrcOk.nil rfl (Hnc0_ok ?_) Hnc0_ex Hnc0_fm Hnc0_tab) hamb ?_)
    · simp only [allP, Con.h, decide_eq_false_iff_not, eq_self, true_and, and_true]; omega
    obtain rfl : j = (n0 + 15) / 16 := by omega
    exact ⟨.inl rfl, ⟨[], [], rfl, trivial⟩, (.ready, none), _, rfl, by decide, rfl, rfl, rfl, rfl⟩
theorem roc0 {z0 z1 z2 : List Int} {g0 n0 g1 n1 g2 n2 ga : Nat} {kx : List Int} (e : Exc z0 z1 z2 g0 n0 g1 n1 g2 n2 ga kx) {y : List Int} (hy : WpLaw y) (l1 : Nat) :
    YWp eGh 30 8 [(l1, H1c)] (roundOf 0 f79) [(1, .var 7 0), (2, .var 8 0), (6, .slice 1 0 ga 0 3 (some 3)), (7, .int .i64 3), (8, .int .i64 0)] (TPc z0 z1 z2 g0 n0 g1 n1 g2 n2 ga kx y l1) [(.ready, none)] fun ex fm T σ => ex = .normal ∧ fm = [(1, .var 7 0), (2, .var 8 0), (6, .slice 1 0 ga 0 3 (some 3)), (7, .int .i64 3), (8, .int .i64 1)] ∧ T = ((TPc z0 z1 z2 g0 n0 g1 n1 g2 n2 ga kx (hsLaw kx y z0 n0) l1) : Tab) ∧ σ = [(.ready, none)] := by
  have hamb : ambIn 8 [(l1, H1c)] := ambIn_one rfl
  rw [split79]
  refine YWp.seq (YWp.ofTo (To.base (by decide) (To.of (o := Hdc0 z0 z1 z2 g0 n0 g1 n1 g2 n2 ga kx y l1) eGh_ok hmA (Nat.le_refl 9) OrcOk.nil rfl (Hdc0_ok trivial) Hdc0_ex Hdc0_fm Hdc0_tab)) hamb ?_)
  refine YWp.seq ?_
  rw [c79_eq]
  refine YWp.cond (b := true) rfl (fun _ => YWp.skip hamb ?_) (fun h => by cases h)
  refine YWp.sub (f := [(1, .var 7 0), (2, .var 8 0), (6, .slice 1 0 ga 0 3 (some 3)), (7, .int .i64 3), (8, .int .i64 0)]) ⟨rfl, rfl, rfl, rfl, rfl, trivial⟩ ?_
  refine YWp.seq (YWp.block (YWp.seq (YWp.ofTo (To.base (by decide) (To.of (o := Pac0 z0 z1 z2 g0 n0 g1 n1 g2 n2 ga kx y l1) eGh_ok hmA (Nat.le_refl 9) OrcOk.nil rfl (Pac0_ok ⟨rfl, rfl, trivial⟩) Pac0_ex Pac0_fm Pac0_tab)) hamb ?_)))
  refine YWp.sub (f := ((4, .slice 1 1 g0 0 n0 none) :: [(1, .var 7 0), (2, .var 8 0), (6, .slice 1 0 ga 0 3 (some 3)), (7, .int .i64 3), (8, .int .i64 0)])) ⟨rfl, rfl, rfl, rfl, rfl, rfl, trivial⟩ ?_
  refine YWp.seq (YWp.ofTo (To.base (by decide) (To.of (k := 9) (o := Pbc0 z0 z1 z2 g0 n0 g1 n1 g2 n2 ga kx y l1) eGh_ok hmA (Nat.le_refl 9) OrcOk.nil rfl (Pbc0_ok ⟨rfl, trivial⟩) Pbc0_ex Pbc0_fm Pbc0_tab)) hamb ?_)
  refine YWp.block ?_
  rw [rf79_eq]
  refine YWp.mono (YWp.rangeFunc (post := fun ex fm T' σ' => ex = .normal ∧ fm = (H2c0 z0 z1 z2 g0 n0 g1 n1 g2 n2 ga kx).fm ∧ T' = (TNc0 z0 z1 z2 g0 n0 g1 n1 g2 n2 ga kx (hsLaw kx y z0 n0) l1) ∧ σ' = [(.ready, none)]) eGh_ok (gf := 81) (gfn := f81) (c := bodyOf f81) (first := []) (caps := [.var 9 0, .var 10 0]) rfl (by kernel_rfl) (by kernel_rfl) (by kernel_rfl) (kk := 11) (by decide) (fmIn_of rfl) (by kernel_rfl) (fun l2 => inc0 e hy l1 l2)) fun ex fm T σ hP => ?_
  obtain ⟨rfl, rfl, rfl, rfl⟩ := hP
  show YWp eGh 30 8 [(l1, H1c)] r79 _ _ _ _
  exact YWp.ofTo (To.base (by decide) (To.of (k := 9) (o := Rrc0 z0 z1 z2 g0 n0 g1 n1 g2 n2 ga kx (hsLaw kx y z0 n0) l1) eGh_ok hmA (Nat.le_refl 9) OrcOk.nil rfl (Rrc0_ok trivial) Rrc0_ex Rrc0_fm Rrc0_tab)) hamb ⟨rfl, rfl, rfl, rfl⟩
noncomputable def H2c1 (z0 z1 z2 : List Int) (g0 n0 g1 n1 g2 n2 ga : Nat) (kx : List Int) : Host := ⟨#[14], as79, bd79, [(1, .var 7 0), (2, .var 8 0), (6, .slice 1 0 ga 0 3 (some 3)), (7, .int .i64 3), (8, .int .i64 1), (13, .func (.func 81) [] [.var 9 0, .var 10 0])], 30⟩
theorem ambc1 (z0 z1 z2 : List Int) (g0 n0 g1 n1 g2 n2 ga : Nat) (kx : List Int) (l1 l2 : Nat) : ambIn 11 [(l2, H2c1 z0 z1 z2 g0 n0 g1 n1 g2 n2 ga kx), (l1, H1c)] := fun x hx => by
  rcases List.mem_cons.1 hx with rfl | hx
  · exact fmIn_of rfl
  · exact ambIn_one rfl x hx
theorem ambMc1 (z0 z1 z2 : List Int) (g0 n0 g1 n1 g2 n2 ga : Nat) (kx : List Int) (l1 l2 : Nat) : ambIn 12 [(l2, H2c1 z0 z1 z2 g0 n0 g1 n1 g2 n2 ga kx), (l1, H1c)] := fun x hx => by
  rcases List.mem_cons.1 hx with rfl | hx
  · exact fmIn_of rfl
  · exact ambIn_one rfl x hx
theorem chfc1 {z0 z1 z2 : List Int} {g0 n0 g1 n1 g2 n2 ga : Nat} {kx : List Int} (e : Exc z0 z1 z2 g0 n0 g1 n1 g2 n2 ga kx) {y : List Int} (hy : WpLaw y) (l1 l2 : Nat) {j : Nat} (hj : 16 * j + 16 ≤ n1) :
    YWp eGh 30 11 [(l2, H2c1 z0 z1 z2 g0 n0 g1 n1 g2 n2 ga kx), (l1, H1c)] bd79 [(2, .var 8 0), (5, .slice 1 2 g1 (16 * j) 16 (some 16))] (TNc1 z0 z1 z2 g0 n0 g1 n1 g2 n2 ga kx y l1) [(.busy, none), (.ready, none)] fun ex fm T σ => ex = .normal ∧ T = ((TNc1 z0 z1 z2 g0 n0 g1 n1 g2 n2 ga kx (mwLaw (xwLaw y (gwLaw (ckLaw z1 n1 j))) kx) l1) : Tab) ∧ σ = [(.busy, none), (.ready, none)] := by
  have hamb := ambc1 z0 z1 z2 g0 n0 g1 n1 g2 n2 ga kx l1 l2
  have hambM := ambMc1 z0 z1 z2 g0 n0 g1 n1 g2 n2 ga kx l1 l2
  have hz := e.pz1
  have hbz := e.pb1
  have hcl := ck_len hz j
  have hcb := ck_bytes hbz n1 j
  have eb : (subLaw z1 (addO (16 * j) 0) 16) = (ckLaw z1 n1 j) := by rw [addO_eq, Nat.add_zero, ck_full hj]
  have hw : WpLaw (gwLaw (subLaw z1 (addO (16 * j) 0) 16)) := by rw [eb]; exact .gw hcb hcl
  rw [bd79_eq]
  refine YWp.block (YWp.seq (YWp.yieldDrawn eGh_ok hmA (l1 := ops79.toList.take 12) (oy := ops79.toList.getD 12 default) (o2 := ops79.toList.getD 13 default) (by kernel_rfl) (ds1 := [some true]) (o1 := Dfc1 z0 z1 z2 g0 n0 g1 n1 g2 n2 ga kx y l1 l2 (16 * j)) (by kernel_rfl) (by kernel_rfl) (by kernel_rfl) (by kernel_rfl) (by kernel_rfl) (by kernel_rfl) (Dfc1_ok ?_) (f := .tmp 15) (x := .tmp 26) (t := 27) (c := theCall (ops79.toList.getD 12 default)) (by kernel_rfl) (by kernel_rfl) (by kernel_rfl) (by kernel_rfl) (by kernel_rfl) (by kernel_rfl) (by decide) (i := 1) (l := l1) (H := H1c) (by rw [Dfc1_fm]; rfl) (v := .ints .u64 (gwLaw (subLaw z1 (addO (16 * j) 0) 16))) (by rw [Dfc1_fm]; rfl) rfl rfl (p := 9) rfl (by decide) (kk := 11) (by decide) (by rw [Dfc1_fm]; exact fmIn_of rfl) hamb ?_))
  · simp only [allP, Con.h, addO_eq, Nat.add_zero, hbz, eq_self, true_and, and_true]
    omega
  rw [Dfc1_tab]
  refine YWp.ofTo (To.of (o := A6fc1 z0 z1 z2 g0 n0 g1 n1 g2 n2 ga kx y l1 (gwLaw (subLaw z1 (addO (16 * j) 0) 16))) eGh_ok hmA (Nat.le_refl 11) OrcOk.nil rfl (A6fc1_ok ⟨hw.len, trivial⟩) A6fc1_ex A6fc1_fm A6fc1_tab) hamb ⟨rfl, rfl, ?_⟩
  refine YWp.ofTo (To.of (o := B6fc1 z0 z1 z2 g0 n0 g1 n1 g2 n2 ga kx y l1 (gwLaw (subLaw z1 (addO (16 * j) 0) 16))) eGh_ok hmA (Nat.le_refl 11) OrcOk.nil rfl (B6fc1_ok ?_) B6fc1_ex B6fc1_fm B6fc1_tab) hamb ⟨by decide, [], Ntc1 z0 z1 z2 g0 n0 g1 n1 g2 n2 ga kx (mwLaw (xwLaw y (gwLaw (subLaw z1 (addO (16 * j) 0) 16))) kx) l1 _, rfl, Ntc1_ok trivial, ?_⟩
  · have h1 := hy.len
    have h2 := hw.len
    have h3 := e.pk.len
    have h4 := hy.xw hw
    simp only [allP, Con.h, h1, h2, h3, h4, hy, hw, e.pk, and_true, true_and]
  rw [Ntc1_fm, Ntc1_tab, eb]
  show YWp eGh 30 11 [(l2, H2c1 z0 z1 z2 g0 n0 g1 n1 g2 n2 ga kx), (l1, H1c)] cnd79 _ _ _ _
  rw [cnd79_eq]
  exact YWp.cond (b := false) rfl (fun h => by cases h) (fun _ => YWp.skip hamb ⟨rfl, rfl, rfl⟩)
theorem chpc1 {z0 z1 z2 : List Int} {g0 n0 g1 n1 g2 n2 ga : Nat} {kx : List Int} (e : Exc z0 z1 z2 g0 n0 g1 n1 g2 n2 ga kx) {y : List Int} (hy : WpLaw y) (l1 l2 : Nat) {j r : Nat} (hr : r < 16) (hj : 16 * j + r = n1) :
    YWp eGh 30 11 [(l2, H2c1 z0 z1 z2 g0 n0 g1 n1 g2 n2 ga kx), (l1, H1c)] bd79 [(2, .var 8 0), (5, .slice 1 2 g1 (16 * j) r (some r))] (TNc1 z0 z1 z2 g0 n0 g1 n1 g2 n2 ga kx y l1) [(.busy, none), (.ready, none)] fun ex fm T σ => ex = .normal ∧ T = ((TNc1 z0 z1 z2 g0 n0 g1 n1 g2 n2 ga kx (mwLaw (xwLaw y (gwLaw (ckLaw z1 n1 j))) kx) l1) : Tab) ∧ σ = [(.busy, none), (.ready, none)] := by
  have hamb := ambc1 z0 z1 z2 g0 n0 g1 n1 g2 n2 ga kx l1 l2
  have hambM := ambMc1 z0 z1 z2 g0 n0 g1 n1 g2 n2 ga kx l1 l2
  have hz := e.pz1
  have hbz := e.pb1
  have hcl := ck_len hz j
  have hcb := ck_bytes hbz n1 j
  have ex0 : (List.take r (dropO (addO (16 * j) 0) z1) ++ List.replicate (16 - (r : Int)).toNat 0) = (ckLaw z1 n1 j) := by
    rw [addO_eq, Nat.add_zero, dropO_eq, ck_part (by omega), show n1 - 16 * j = r by omega, show (16 - (r : Int)).toNat = 16 - r by omega]
  have eb : (subLaw (List.take r (dropO (addO (16 * j) 0) z1) ++ List.replicate (16 - (r : Int)).toNat 0) 0 16) = (ckLaw z1 n1 j) := by
    rw [ex0, take_sub, List.take_of_length_le (by omega)]
  have hw : WpLaw (gwLaw (subLaw (List.take r (dropO (addO (16 * j) 0) z1) ++ List.replicate (16 - (r : Int)).toNat 0) 0 16)) := by rw [eb]; exact .gw hcb hcl
  rw [bd79_eq]
  refine YWp.block (YWp.seq (YWp.yieldDrawn eGh_ok hmA (l1 := ops79.toList.take 12) (oy := ops79.toList.getD 12 default) (o2 := ops79.toList.getD 13 default) (by kernel_rfl) (ds1 := [some false]) (o1 := Dpc1 z0 z1 z2 g0 n0 g1 n1 g2 n2 ga kx y l1 l2 (16 * j) r) (by kernel_rfl) (by kernel_rfl) (by kernel_rfl) (by kernel_rfl) (by kernel_rfl) (by kernel_rfl) (Dpc1_ok ?_) (f := .tmp 15) (x := .tmp 26) (t := 27) (c := theCall (ops79.toList.getD 12 default)) (by kernel_rfl) (by kernel_rfl) (by kernel_rfl) (by kernel_rfl) (by kernel_rfl) (by kernel_rfl) (by decide) (i := 1) (l := l1) (H := H1c) (by rw [Dpc1_fm]; rfl) (v := .ints .u64 (gwLaw (subLaw (List.take r (dropO (addO (16 * j) 0) z1) ++ List.replicate (16 - (r : Int)).toNat 0) 0 16))) (by rw [Dpc1_fm]; rfl) rfl rfl (p := 9) rfl (by decide) (kk := 12) (by decide) (by rw [Dpc1_fm]; exact fmIn_of rfl) hamb ?_))
  · rw [ex0]
    simp only [allP, Con.h, addO_eq, Nat.add_zero, hcl, hcb, eq_self, true_and, and_true]
    omega
  rw [Dpc1_tab]
  refine YWp.ofTo (To.of (o := A6pc1 z0 z1 z2 g0 n0 g1 n1 g2 n2 ga kx y l1 (List.take r (dropO (addO (16 * j) 0) z1) ++ List.replicate (16 - (r : Int)).toNat 0) (gwLaw (subLaw (List.take r (dropO (addO (16 * j) 0) z1) ++ List.replicate (16 - (r : Int)).toNat 0) 0 16))) eGh_ok hmA (Nat.le_refl 12) OrcOk.nil rfl (A6pc1_ok ⟨hw.len, trivial⟩) A6pc1_ex A6pc1_fm A6pc1_tab) hambM ⟨rfl, rfl, ?_⟩
  refine YWp.ofTo (To.of (o := B6pc1 z0 z1 z2 g0 n0 g1 n1 g2 n2 ga kx y l1 (List.take r (dropO (addO (16 * j) 0) z1) ++ List.replicate (16 - (r : Int)).toNat 0) (gwLaw (subLaw (List.take r (dropO (addO (16 * j) 0) z1) ++ List.replicate (16 - (r : Int)).toNat 0) 0 16))) eGh_ok hmA (Nat.le_refl 12) OrcOk.nil rfl (B6pc1_ok ?_) B6pc1_ex B6pc1_fm B6pc1_tab) hambM ⟨by decide, [], Nqc1 z0 z1 z2 g0 n0 g1 n1 g2 n2 ga kx (mwLaw (xwLaw y (gwLaw (subLaw (List.take r (dropO (addO (16 * j) 0) z1) ++ List.replicate (16 - (r : Int)).toNat 0) 0 16))) kx) l1 (List.take r (dropO (addO (16 * j) 0) z1) ++ List.replicate (16 - (r : Int)).toNat 0) _, rfl, Nqc1_ok trivial, ?_⟩
  · have h1 := hy.len
    have h2 := hw.len
    have h3 := e.pk.len
    have h4 := hy.xw hw
    simp only [allP, Con.h, h1, h2, h3, h4, hy, hw, e.pk, and_true, true_and]
  rw [Nqc1_fm, Nqc1_tab, eb]
  show YWp eGh 30 11 [(l2, H2c1 z0 z1 z2 g0 n0 g1 n1 g2 n2 ga kx), (l1, H1c)] cnd79 _ _ _ _
  refine YWp.sub (f := [(28, .bool false)]) ⟨rfl, trivial⟩ ?_
  exact YWp.ofTo (To.of (k := 11) (o := Cpc1 z0 z1 z2 g0 n0 g1 n1 g2 n2 ga kx (mwLaw (xwLaw y (gwLaw (ckLaw z1 n1 j))) kx) l1 (List.take r (dropO (addO (16 * j) 0) z1) ++ List.replicate (16 - (r : Int)).toNat 0)) eGh_ok hmA (Nat.le_refl 11) OrcOk.nil rfl (Cpc1_ok trivial) Cpc1_ex Cpc1_fm Cpc1_tab) hamb ⟨rfl, rfl, rfl⟩
theorem chc1 {z0 z1 z2 : List Int} {g0 n0 g1 n1 g2 n2 ga : Nat} {kx : List Int} (e : Exc z0 z1 z2 g0 n0 g1 n1 g2 n2 ga kx) {y : List Int} (hy : WpLaw y) (l1 l2 : Nat) {j : Nat} (hj : 16 * j < n1) :
    YWp eGh 30 11 [(l2, H2c1 z0 z1 z2 g0 n0 g1 n1 g2 n2 ga kx), (l1, H1c)] bd79 [(2, .var 8 0), (5, .slice 1 2 g1 (16 * j) (min 16 (n1 - 16 * j)) (some (min 16 (n1 - 16 * j))))] (TNc1 z0 z1 z2 g0 n0 g1 n1 g2 n2 ga kx y l1) [(.busy, none), (.ready, none)] fun ex fm T σ => ex = .normal ∧ T = ((TNc1 z0 z1 z2 g0 n0 g1 n1 g2 n2 ga kx (mwLaw (xwLaw y (gwLaw (ckLaw z1 n1 j))) kx) l1) : Tab) ∧ σ = [(.busy, none), (.ready, none)] := by
  by_cases h : 16 * j + 16 ≤ n1
  · rw [show min 16 (n1 - 16 * j) = 16 by omega]
    exact chfc1 e hy l1 l2 h
  · exact chpc1 e hy l1 l2 (by omega) (by omega)
theorem rdc1 {z0 z1 z2 : List Int} {g0 n0 g1 n1 g2 n2 ga : Nat} {kx : List Int} (e : Exc z0 z1 z2 g0 n0 g1 n1 g2 n2 ga kx) {y : List Int} (hy : WpLaw y) (l1 l2 : Nat) {j : Nat} (hj : 16 * j < n1) :
    YWp eGh 31 11 [(l2, H2c1 z0 z1 z2 g0 n0 g1 n1 g2 n2 ga kx), (l1, H1c)] (roundOf 0 f81) [(0, .func (.yield l2) [] []), (1, .var 9 0), (2, .var 10 0), (4, .int .i64 ((16 * j : Nat) : Int))] (TNc1 z0 z1 z2 g0 n0 g1 n1 g2 n2 ga kx y l1) [(.ready, none), (.ready, none)] fun ex fm T σ => ex = .normal ∧ fm = [(0, .func (.yield l2) [] []), (1, .var 9 0), (2, .var 10 0), (4, .int .i64 ((16 * (j + 1) : Nat) : Int))] ∧ T = ((TNc1 z0 z1 z2 g0 n0 g1 n1 g2 n2 ga kx (mwLaw (xwLaw y (gwLaw (ckLaw z1 n1 j))) kx) l1) : Tab) ∧ σ = [(.ready, none), (.ready, none)] := by
  have hamb := ambc1 z0 z1 z2 g0 n0 g1 n1 g2 n2 ga kx l1 l2
  have hz := e.pz1
  have hm := e.pm1
  skip
  have er : (if (↑(subO n1 ((16 * j : Nat) : Int).toNat) : Int) < 16 then (↑(subO n1 ((16 * j : Nat) : Int).toNat) : Int) else 16) = ((min 16 (n1 - 16 * j) : Nat) : Int) := by
    rw [Int.toNat_natCast, subO_eq, min16]
  have e1 : ((16 * j : Nat) : Int).toNat = 16 * j := Int.toNat_natCast _
  have e2 : subO (((16 * j : Nat) : Int) + ((min 16 (n1 - 16 * j) : Nat) : Int)).toNat (16 * j) = min 16 (n1 - 16 * j) := by rw [subO_eq]; omega
  rw [split81]
  refine YWp.seq (YWp.ofTo (To.of (o := Hyc1 z0 z1 z2 g0 n0 g1 n1 g2 n2 ga kx y l1 l2 ((16 * j : Nat) : Int)) eGh_ok hmA (Nat.le_refl 11) OrcOk.nil rfl (Hyc1_ok ?_) Hyc1_ex Hyc1_fm Hyc1_tab) hamb ?_)
  · simp only [allP, Con.h, decide_eq_true_eq, eq_self, true_and, and_true]; omega
  refine YWp.seq (YWp.block (YWp.seq (YWp.ofTo (To.of (o := Msc1 z0 z1 z2 g0 n0 g1 n1 g2 n2 ga kx y l1 l2 ((16 * j : Nat) : Int)) (fm' := [(0, .func (.yield l2) [] []), (1, .var 9 0), (2, .var 10 0), (4, .int .i64 ((16 * j : Nat) : Int))] ++ [(5, .int .i64 ((min 16 (n1 - 16 * j) : Nat) : Int))]) eGh_ok hmA (Nat.le_refl 11) OrcOk.nil rfl (Msc1_ok ?_) Msc1_ex (by rw [Msc1_fm, er]; rfl) Msc1_tab) hamb ?_)))
  · simp only [allP, Con.h, eq_self, true_and, and_true]; omega
  refine YWp.seq (YWp.yieldRegion eGh_ok (l1 := ops81.toList.take 10) (l2 := ops81.toList.drop 11) (oy := ops81.toList.getD 10 default) (by kernel_rfl) (ds1 := []) (o1 := Yac1 z0 z1 z2 g0 n0 g1 n1 g2 n2 ga kx y l1 l2 ((16 * j : Nat) : Int) ((min 16 (n1 - 16 * j) : Nat) : Int)) (by kernel_rfl) (Yac1_ok ?_) (f := .tmp 19) (x := .tmp 28) (t := 29) (c := theCall (ops81.toList.getD 10 default)) (by kernel_rfl) (by kernel_rfl) (by kernel_rfl) (by kernel_rfl) (by kernel_rfl) (by decide) (i := 0) (l := l2) (H := H2c1 z0 z1 z2 g0 n0 g1 n1 g2 n2 ga kx) (by rw [Yac1_fm]; rfl) (v := .slice 1 2 g1 (16 * j) (min 16 (n1 - 16 * j)) (some (min 16 (n1 - 16 * j)))) (by rw [Yac1_fm, e1, e2]; rfl) rfl rfl (p := 14) rfl (show 14 < 30 by decide) (kk := 11) (Nat.le_refl _) (by rw [Yac1_fm]; exact fmIn_of rfl) hamb ?_)
  · simp only [allP, Con.h, eq_self, true_and, and_true]; omega
  rw [Yac1_tab]
  refine YWp.ofTo (To.of (o := Asc1 z0 z1 z2 g0 n0 g1 n1 g2 n2 ga kx y l1 l2 (16 * j) (min 16 (n1 - 16 * j))) eGh_ok hmA (Nat.le_refl 11) OrcOk.nil rfl (Asc1_ok trivial) Asc1_ex Asc1_fm Asc1_tab) hamb ⟨rfl, rfl, ?_⟩
  refine YWp.mono (chc1 e hy l1 l2 hj) fun ex fm T σ hP => ?_
  obtain ⟨rfl, rfl, rfl⟩ := hP
  refine ⟨by decide, [], Nuc1 z0 z1 z2 g0 n0 g1 n1 g2 n2 ga kx (mwLaw (xwLaw y (gwLaw (ckLaw z1 n1 j))) kx) l1 _, rfl, Nuc1_ok trivial, ?_⟩
  rw [Nuc1_fm, Nuc1_tab, Yac1_fm]
  show YWp eGh 31 11 [(l2, H2c1 z0 z1 z2 g0 n0 g1 n1 g2 n2 ga kx), (l1, H1c)] cnd81 _ _ _ _
  rw [cnd81_eq]
  refine YWp.cond (b := false) rfl (fun h => by cases h) (fun _ => YWp.skip hamb ?_)
  show YWp eGh 31 11 [(l2, H2c1 z0 z1 z2 g0 n0 g1 n1 g2 n2 ga kx), (l1, H1c)] r81 _ _ _ _
  refine YWp.sub (f := [(0, .func (.yield l2) [] []), (1, .var 9 0), (2, .var 10 0), (4, .int .i64 ((16 * j : Nat) : Int))]) ⟨rfl, rfl, rfl, rfl, trivial⟩ ?_
  refine YWp.ofTo (To.of (o := Rbc1 z0 z1 z2 g0 n0 g1 n1 g2 n2 ga kx _ l1 l2 ((16 * j : Nat) : Int)) eGh_ok hmA (Nat.le_refl 11) OrcOk.nil rfl (Rbc1_ok ?_) Rbc1_ex Rbc1_fm Rbc1_tab) hamb ⟨rfl, ?_, rfl, rfl⟩
  · simp only [allP, Con.h, and_true]; omega
  · rw [show ((16 * j : Nat) : Int) + 16 = ((16 * (j + 1) : Nat) : Int) by omega]
theorem inc1 {z0 z1 z2 : List Int} {g0 n0 g1 n1 g2 n2 ga : Nat} {kx : List Int} (e : Exc z0 z1 z2 g0 n0 g1 n1 g2 n2 ga kx) {y : List Int} (hy : WpLaw y) (l1 l2 : Nat) :
    YWp eGh 31 11 [(l2, H2c1 z0 z1 z2 g0 n0 g1 n1 g2 n2 ga kx), (l1, H1c)] (bodyOf f81) (argF ([] ++ (.func (.yield l2) [] [] :: [.var 9 0, .var 10 0])) 0) (TNc1 z0 z1 z2 g0 n0 g1 n1 g2 n2 ga kx y l1) [(.ready, none), (.ready, none)] fun ex fm' T' σ' =>
      (ex = .normal ∨ ex = .ret) ∧ (∃ cs us, aRes eGh fm' T' f81.results.toList = some (cs, us) ∧ allP cs) ∧ ∃ st σ2, σ' = st :: σ2 ∧ st.1 ≠ .busy ∧
        match st.2 with
        | none => AExit.normal = .normal ∧ [(1, .var 7 0), (2, .var 8 0), (6, .slice 1 0 ga 0 3 (some 3)), (7, .int .i64 3), (8, .int .i64 1), (13, .func (.func 81) [] [.var 9 0, .var 10 0])] = (H2c1 z0 z1 z2 g0 n0 g1 n1 g2 n2 ga kx).fm ∧ T' = (TNc1 z0 z1 z2 g0 n0 g1 n1 g2 n2 ga kx (hsLaw kx y z1 n1) l1) ∧ σ2 = [(.ready, none)]
        | some (.exit id) => AExit.exit id = .normal ∧ [(1, .var 7 0), (2, .var 8 0), (6, .slice 1 0 ga 0 3 (some 3)), (7, .int .i64 3), (8, .int .i64 1), (13, .func (.func 81) [] [.var 9 0, .var 10 0])] = (H2c1 z0 z1 z2 g0 n0 g1 n1 g2 n2 ga kx).fm ∧ T' = (TNc1 z0 z1 z2 g0 n0 g1 n1 g2 n2 ga kx (hsLaw kx y z1 n1) l1) ∧ σ2 = [(.ready, none)]
        | some .ret => AExit.ret = .normal ∧ [(1, .var 7 0), (2, .var 8 0), (6, .slice 1 0 ga 0 3 (some 3)), (7, .int .i64 3), (8, .int .i64 1), (13, .func (.func 81) [] [.var 9 0, .var 10 0])] = (H2c1 z0 z1 z2 g0 n0 g1 n1 g2 n2 ga kx).fm ∧ T' = (TNc1 z0 z1 z2 g0 n0 g1 n1 g2 n2 ga kx (hsLaw kx y z1 n1) l1) ∧ σ2 = [(.ready, none)]
        | _ => False := by
  have hamb := ambc1 z0 z1 z2 g0 n0 g1 n1 g2 n2 ga kx l1 l2
  rw [splitb81, res81]
  refine YWp.seq (YWp.ofTo (To.of (o := Zsc1 z0 z1 z2 g0 n0 g1 n1 g2 n2 ga kx y l1 l2) eGh_ok hmA (Nat.le_refl 11) OrcOk.nil rfl (Zsc1_ok trivial) Zsc1_ex Zsc1_fm Zsc1_tab) hamb ?_)
  refine YWp.block (YWp.loop (fun fm T σ μ => ∃ j, 16 * j < n1 + 16 ∧ μ = n1 + 16 - j ∧ fm = [(0, .func (.yield l2) [] []), (1, .var 9 0), (2, .var 10 0), (4, .int .i64 ((16 * j : Nat) : Int))] ∧ T = (TNc1 z0 z1 z2 g0 n0 g1 n1 g2 n2 ga kx (hyLaw kx y z1 n1 j) l1) ∧ σ = [(.ready, none), (.ready, none)]) (n1 + 16) ⟨0, by omega, rfl, rfl, rfl, rfl⟩ ?_)
  rintro fm T σ μ ⟨j, hj, rfl, rfl, rfl, rfl⟩
  by_cases h : 16 * j < n1
  · refine YWp.mono (rdc1 e (hy_wp hy e.pz1 e.pb1 j) l1 l2 h) fun ex fm T σ hP => ?_
    obtain ⟨rfl, rfl, rfl, rfl⟩ := hP
    exact ⟨n1 + 16 - (j + 1), by omega, j + 1, by omega, rfl, rfl, rfl, rfl⟩
  · rw [split81]
    refine YWp.seq (YWp.ofTo (To.of (o := Hnc1 z0 z1 z2 g0 n0 g1 n1 g2 n2 ga kx (hyLaw kx y z1 n1 j) l1 l2 ((16 * j : Nat) : Int)) eGh_ok hmA (Nat.le_refl 11) OrcOk.nil rfl (Hnc1_ok ?_) Hnc1_ex Hnc1_fm Hnc1_tab) hamb ?_)
    · simp only [allP, Con.h, decide_eq_false_iff_not, eq_self, true_and, and_true]; omega
    obtain rfl : j = (n1 + 15) / 16 := by omega
    exact ⟨.inl rfl, ⟨[], [], rfl, trivial⟩, (.ready, none), _, rfl, by decide, rfl, rfl, rfl, rfl⟩
theorem roc1 {z0 z1 z2 : List Int} {g0 n0 g1 n1 g2 n2 ga : Nat} {kx : List Int} (e : Exc z0 z1 z2 g0 n0 g1 n1 g2 n2 ga kx) {y : List Int} (hy : WpLaw y) (l1 : Nat) :
    YWp eGh 30 8 [(l1, H1c)] (roundOf 0 f79) [(1, .var 7 0), (2, .var 8 0), (6, .slice 1 0 ga 0 3 (some 3)), (7, .int .i64 3), (8, .int .i64 1)] (TPc z0 z1 z2 g0 n0 g1 n1 g2 n2 ga kx y l1) [(.ready, none)] fun ex fm T σ => ex = .normal ∧ fm = [(1, .var 7 0), (2, .var 8 0), (6, .slice 1 0 ga 0 3 (some 3)), (7, .int .i64 3), (8, .int .i64 2)] ∧ T = ((TPc z0 z1 z2 g0 n0 g1 n1 g2 n2 ga kx (hsLaw kx y z1 n1) l1) : Tab) ∧ σ = [(.ready, none)] := by
  have hamb : ambIn 8 [(l1, H1c)] := ambIn_one rfl
  rw [split79]
  refine YWp.seq (YWp.ofTo (To.base (by decide) (To.of (o := Hdc1 z0 z1 z2 g0 n0 g1 n1 g2 n2 ga kx y l1) eGh_ok hmA (Nat.le_refl 9) OrcOk.nil rfl (Hdc1_ok trivial) Hdc1_ex Hdc1_fm Hdc1_tab)) hamb ?_)
  refine YWp.seq ?_
  rw [c79_eq]
  refine YWp.cond (b := true) rfl (fun _ => YWp.skip hamb ?_) (fun h => by cases h)
  refine YWp.sub (f := [(1, .var 7 0), (2, .var 8 0), (6, .slice 1 0 ga 0 3 (some 3)), (7, .int .i64 3), (8, .int .i64 1)]) ⟨rfl, rfl, rfl, rfl, rfl, trivial⟩ ?_
  refine YWp.seq (YWp.block (YWp.seq (YWp.ofTo (To.base (by decide) (To.of (o := Pac1 z0 z1 z2 g0 n0 g1 n1 g2 n2 ga kx y l1) eGh_ok hmA (Nat.le_refl 9) OrcOk.nil rfl (Pac1_ok ⟨rfl, rfl, trivial⟩) Pac1_ex Pac1_fm Pac1_tab)) hamb ?_)))
  refine YWp.sub (f := ((4, .slice 1 2 g1 0 n1 none) :: [(1, .var 7 0), (2, .var 8 0), (6, .slice 1 0 ga 0 3 (some 3)), (7, .int .i64 3), (8, .int .i64 1)])) ⟨rfl, rfl, rfl, rfl, rfl, rfl, trivial⟩ ?_
  refine YWp.seq (YWp.ofTo (To.base (by decide) (To.of (k := 9) (o := Pbc1 z0 z1 z2 g0 n0 g1 n1 g2 n2 ga kx y l1) eGh_ok hmA (Nat.le_refl 9) OrcOk.nil rfl (Pbc1_ok ⟨rfl, trivial⟩) Pbc1_ex Pbc1_fm Pbc1_tab)) hamb ?_)
  refine YWp.block ?_
  rw [rf79_eq]
  refine YWp.mono (YWp.rangeFunc (post := fun ex fm T' σ' => ex = .normal ∧ fm = (H2c1 z0 z1 z2 g0 n0 g1 n1 g2 n2 ga kx).fm ∧ T' = (TNc1 z0 z1 z2 g0 n0 g1 n1 g2 n2 ga kx (hsLaw kx y z1 n1) l1) ∧ σ' = [(.ready, none)]) eGh_ok (gf := 81) (gfn := f81) (c := bodyOf f81) (first := []) (caps := [.var 9 0, .var 10 0]) rfl (by kernel_rfl) (by kernel_rfl) (by kernel_rfl) (kk := 11) (by decide) (fmIn_of rfl) (by kernel_rfl) (fun l2 => inc1 e hy l1 l2)) fun ex fm T σ hP => ?_
  obtain ⟨rfl, rfl, rfl, rfl⟩ := hP
  show YWp eGh 30 8 [(l1, H1c)] r79 _ _ _ _
  exact YWp.ofTo (To.base (by decide) (To.of (k := 9) (o := Rrc1 z0 z1 z2 g0 n0 g1 n1 g2 n2 ga kx (hsLaw kx y z1 n1) l1) eGh_ok hmA (Nat.le_refl 9) OrcOk.nil rfl (Rrc1_ok trivial) Rrc1_ex Rrc1_fm Rrc1_tab)) hamb ⟨rfl, rfl, rfl, rfl⟩
noncomputable def H2c2 (z0 z1 z2 : List Int) (g0 n0 g1 n1 g2 n2 ga : Nat) (kx : List Int) : Host := ⟨#[14], as79, bd79, [(1, .var 7 0), (2, .var 8 0), (6, .slice 1 0 ga 0 3 (some 3)), (7, .int .i64 3), (8, .int .i64 2), (13, .func (.func 81) [] [.var 9 0, .var 10 0])], 30⟩
theorem ambc2 (z0 z1 z2 : List Int) (g0 n0 g1 n1 g2 n2 ga : Nat) (kx : List Int) (l1 l2 : Nat) : ambIn 11 [(l2, H2c2 z0 z1 z2 g0 n0 g1 n1 g2 n2 ga kx), (l1, H1c)] := fun x hx => by
  rcases List.mem_cons.1 hx with rfl | hx
  · exact fmIn_of rfl
  · exact ambIn_one rfl x hx
theorem ambMc2 (z0 z1 z2 : List Int) (g0 n0 g1 n1 g2 n2 ga : Nat) (kx : List Int) (l1 l2 : Nat) : ambIn 12 [(l2, H2c2 z0 z1 z2 g0 n0 g1 n1 g2 n2 ga kx), (l1, H1c)] := fun x hx => by
  rcases List.mem_cons.1 hx with rfl | hx
  · exact fmIn_of rfl
  · exact ambIn_one rfl x hx
theorem chfc2 {z0 z1 z2 : List Int} {g0 n0 g1 n1 g2 n2 ga : Nat} {kx : List Int} (e : Exc z0 z1 z2 g0 n0 g1 n1 g2 n2 ga kx) {y : List Int} (hy : WpLaw y) (l1 l2 : Nat) {j : Nat} (hj : 16 * j + 16 ≤ n2) :
    YWp eGh 30 11 [(l2, H2c2 z0 z1 z2 g0 n0 g1 n1 g2 n2 ga kx), (l1, H1c)] bd79 [(2, .var 8 0), (5, .slice 1 3 g2 (16 * j) 16 (some 16))] (TNc2 z0 z1 z2 g0 n0 g1 n1 g2 n2 ga kx y l1) [(.busy, none), (.ready, none)] fun ex fm T σ => ex = .normal ∧ T = ((TNc2 z0 z1 z2 g0 n0 g1 n1 g2 n2 ga kx (mwLaw (xwLaw y (gwLaw (ckLaw z2 n2 j))) kx) l1) : Tab) ∧ σ = [(.busy, none), (.ready, none)] := by
  have hamb := ambc2 z0 z1 z2 g0 n0 g1 n1 g2 n2 ga kx l1 l2
  have hambM := ambMc2 z0 z1 z2 g0 n0 g1 n1 g2 n2 ga kx l1 l2
  have hz := e.pz2
  have hbz := e.pb2
  have hcl := ck_len hz j
  have hcb := ck_bytes hbz n2 j
  have eb : (subLaw z2 (addO (16 * j) 0) 16) = (ckLaw z2 n2 j) := by rw [addO_eq, Nat.add_zero, ck_full hj]
  have hw : WpLaw (gwLaw (subLaw z2 (addO (16 * j) 0) 16)) := by rw [eb]; exact .gw hcb hcl
  rw [bd79_eq]
  refine YWp.block (YWp.seq (YWp.yieldDrawn eGh_ok hmA (l1 := ops79.toList.take 12) (oy := ops79.toList.getD 12 default) (o2 := ops79.toList.getD 13 default) (by kernel_rfl) (ds1 := [some true]) (o1 := Dfc2 z0 z1 z2 g0 n0 g1 n1 g2 n2 ga kx y l1 l2 (16 * j)) (by kernel_rfl) (by kernel_rfl) (by kernel_rfl) (by kernel_rfl) (by kernel_rfl) (by kernel_rfl) (Dfc2_ok ?_) (f := .tmp 15) (x := .tmp 26) (t := 27) (c := theCall (ops79.toList.getD 12 default)) (by kernel_rfl) (by kernel_rfl) (by kernel_rfl) (by kernel_rfl) (by kernel_rfl) (by kernel_rfl) (by decide) (i := 1) (l := l1) (H := H1c) (by rw [Dfc2_fm]; rfl) (v := .ints .u64 (gwLaw (subLaw z2 (addO (16 * j) 0) 16))) (by rw [Dfc2_fm]; rfl) rfl rfl (p := 9) rfl (by decide) (kk := 11) (by decide) (by rw [Dfc2_fm]; exact fmIn_of rfl) hamb ?_))
  · simp only [allP, Con.h, addO_eq, Nat.add_zero, hbz, eq_self, true_and, and_true]
    omega
  rw [Dfc2_tab]
  refine YWp.ofTo (To.of (o := A6fc2 z0 z1 z2 g0 n0 g1 n1 g2 n2 ga kx y l1 (gwLaw (subLaw z2 (addO (16 * j) 0) 16))) eGh_ok hmA (Nat.le_refl 11) OrcOk.nil rfl (A6fc2_ok ⟨hw.len, trivial⟩) A6fc2_ex A6fc2_fm A6fc2_tab) hamb ⟨rfl, rfl, ?_⟩
  refine YWp.ofTo (To.of (o := B6fc2 z0 z1 z2 g0 n0 g1 n1 g2 n2 ga kx y l1 (gwLaw (subLaw z2 (addO (16 * j) 0) 16))) eGh_ok hmA (Nat.le_refl 11) OrcOk.nil rfl (B6fc2_ok ?_) B6fc2_ex B6fc2_fm B6fc2_tab) hamb ⟨by decide, [], Ntc2 z0 z1 z2 g0 n0 g1 n1 g2 n2 ga kx (mwLaw (xwLaw y (gwLaw (subLaw z2 (addO (16 * j) 0) 16))) kx) l1 _, rfl, Ntc2_ok trivial, ?_⟩
  · have h1 := hy.len
    have h2 := hw.len
    have h3 := e.pk.len
    have h4 := hy.xw hw
    simp only [allP, Con.h, h1, h2, h3, h4, hy, hw, e.pk, and_true, true_and]
  rw [Ntc2_fm, Ntc2_tab, eb]
  show YWp eGh 30 11 [(l2, H2c2 z0 z1 z2 g0 n0 g1 n1 g2 n2 ga kx), (l1, H1c)] cnd79 _ _ _ _
  rw [cnd79_eq]
  exact YWp.cond (b := false) rfl (fun h => by cases h) (fun _ => YWp.skip hamb ⟨rfl, rfl, rfl⟩)
theorem chpc2 {z0 z1 z2 : List Int} {g0 n0 g1 n1 g2 n2 ga : Nat} {kx : List Int} (e : Exc z0 z1 z2 g0 n0 g1 n1 g2 n2 ga kx) {y : List Int} (hy : WpLaw y) (l1 l2 : Nat) {j r : Nat} (hr : r < 16) (hj : 16 * j + r = n2) :
    YWp eGh 30 11 [(l2, H2c2 z0 z1 z2 g0 n0 g1 n1 g2 n2 ga kx), (l1, H1c)] bd79 [(2, .var 8 0), (5, .slice 1 3 g2 (16 * j) r (some r))] (TNc2 z0 z1 z2 g0 n0 g1 n1 g2 n2 ga kx y l1) [(.busy, none), (.ready, none)] fun ex fm T σ => ex = .normal ∧ T = ((TNc2 z0 z1 z2 g0 n0 g1 n1 g2 n2 ga kx (mwLaw (xwLaw y (gwLaw (ckLaw z2 n2 j))) kx) l1) : Tab) ∧ σ = [(.busy, none), (.ready, none)] := by
  have hamb := ambc2 z0 z1 z2 g0 n0 g1 n1 g2 n2 ga kx l1 l2
  have hambM := ambMc2 z0 z1 z2 g0 n0 g1 n1 g2 n2 ga kx l1 l2
  have hz := e.pz2
  have hbz := e.pb2
  have hcl := ck_len hz j
  have hcb := ck_bytes hbz n2 j
  have ex0 : (List.take r (dropO (addO (16 * j) 0) z2) ++ List.replicate (16 - (r : Int)).toNat 0) = (ckLaw z2 n2 j) := by
    rw [addO_eq, Nat.add_zero, dropO_eq, ck_part (by omega), show n2 - 16 * j = r by omega, show (16 - (r : Int)).toNat = 16 - r by omega]
  have eb : (subLaw (List.take r (dropO (addO (16 * j) 0) z2) ++ List.replicate (16 - (r : Int)).toNat 0) 0 16) = (ckLaw z2 n2 j) := by
    rw [ex0, take_sub, List.take_of_length_le (by omega)]
  have hw : WpLaw (gwLaw (subLaw (List.take r (dropO (addO (16 * j) 0) z2) ++ List.replicate (16 - (r : Int)).toNat 0) 0 16)) := by rw [eb]; exact .gw hcb hcl
  rw [bd79_eq]
  refine YWp.block (YWp.seq (YWp.yieldDrawn eGh_ok hmA (l1 := ops79.toList.take 12) (oy := ops79.toList.getD 12 default) (o2 := ops79.toList.getD 13 default) (by kernel_rfl) (ds1 := [some false]) (o1 := Dpc2 z0 z1 z2 g0 n0 g1 n1 g2 n2 ga kx y l1 l2 (16 * j) r) (by kernel_rfl) (by kernel_rfl) (by kernel_rfl) (by kernel_rfl) (by kernel_rfl) (by kernel_rfl) (Dpc2_ok ?_) (f := .tmp 15) (x := .tmp 26) (t := 27) (c := theCall (ops79.toList.getD 12 default)) (by kernel_rfl) (by kernel_rfl) (by kernel_rfl) (by kernel_rfl) (by kernel_rfl) (by kernel_rfl) (by decide) (i := 1) (l := l1) (H := H1c) (by rw [Dpc2_fm]; rfl) (v := .ints .u64 (gwLaw (subLaw (List.take r (dropO (addO (16 * j) 0) z2) ++ List.replicate (16 - (r : Int)).toNat 0) 0 16))) (by rw [Dpc2_fm]; rfl) rfl rfl (p := 9) rfl (by decide) (kk := 12) (by decide) (by rw [Dpc2_fm]; exact fmIn_of rfl) hamb ?_))
  · rw [ex0]
    simp only [allP, Con.h, addO_eq, Nat.add_zero, hcl, hcb, eq_self, true_and, and_true]
    omega
  rw [Dpc2_tab]
  refine YWp.ofTo (To.of (o := A6pc2 z0 z1 z2 g0 n0 g1 n1 g2 n2 ga kx y l1 (List.take r (dropO (addO (16 * j) 0) z2) ++ List.replicate (16 - (r : Int)).toNat 0) (gwLaw (subLaw (List.take r (dropO (addO (16 * j) 0) z2) ++ List.replicate (16 - (r : Int)).toNat 0) 0 16))) eGh_ok hmA (Nat.le_refl 12) OrcOk.nil rfl (A6pc2_ok ⟨hw.len, trivial⟩) A6pc2_ex A6pc2_fm A6pc2_tab) hambM ⟨rfl, rfl, ?_⟩
  refine YWp.ofTo (To.of (o := B6pc2 z0 z1 z2 g0 n0 g1 n1 g2 n2 ga kx y l1 (List.take r (dropO (addO (16 * j) 0) z2) ++ List.replicate (16 - (r : Int)).toNat 0) (gwLaw (subLaw (List.take r (dropO (addO (16 * j) 0) z2) ++ List.replicate (16 - (r : Int)).toNat 0) 0 16))) eGh_ok hmA (Nat.le_refl 12) OrcOk.nil rfl (B6pc2_ok ?_) B6pc2_ex B6pc2_fm B6pc2_tab) hambM ⟨by decide, [], Nqc2 z0 z1 z2 g0 n0 g1 n1 g2 n2 ga kx (mwLaw (xwLaw y (gwLaw (subLaw (List.take r (dropO (addO (16 * j) 0) z2) ++ List.replicate (16 - (r : Int)).toNat 0) 0 16))) kx) l1 (List.take r (dropO (addO (16 * j) 0) z2) ++ List.replicate (16 - (r : Int)).toNat 0) _, rfl, Nqc2_ok trivial, ?_⟩
  · have h1 := hy.len
    have h2 := hw.len
    have h3 := e.pk.len
    have h4 := hy.xw hw
    simp only [allP, Con.h, h1, h2, h3, h4, hy, hw, e.pk, and_true, true_and]
  rw [Nqc2_fm, Nqc2_tab, eb]
  show YWp eGh 30 11 [(l2, H2c2 z0 z1 z2 g0 n0 g1 n1 g2 n2 ga kx), (l1, H1c)] cnd79 _ _ _ _
  refine YWp.sub (f := [(28, .bool false)]) ⟨rfl, trivial⟩ ?_
  exact YWp.ofTo (To.of (k := 11) (o := Cpc2 z0 z1 z2 g0 n0 g1 n1 g2 n2 ga kx (mwLaw (xwLaw y (gwLaw (ckLaw z2 n2 j))) kx) l1 (List.take r (dropO (addO (16 * j) 0) z2) ++ List.replicate (16 - (r : Int)).toNat 0)) eGh_ok hmA (Nat.le_refl 11) OrcOk.nil rfl (Cpc2_ok trivial) Cpc2_ex Cpc2_fm Cpc2_tab) hamb ⟨rfl, rfl, rfl⟩
theorem chc2 {z0 z1 z2 : List Int} {g0 n0 g1 n1 g2 n2 ga : Nat} {kx : List Int} (e : Exc z0 z1 z2 g0 n0 g1 n1 g2 n2 ga kx) {y : List Int} (hy : WpLaw y) (l1 l2 : Nat) {j : Nat} (hj : 16 * j < n2) :
    YWp eGh 30 11 [(l2, H2c2 z0 z1 z2 g0 n0 g1 n1 g2 n2 ga kx), (l1, H1c)] bd79 [(2, .var 8 0), (5, .slice 1 3 g2 (16 * j) (min 16 (n2 - 16 * j)) (some (min 16 (n2 - 16 * j))))] (TNc2 z0 z1 z2 g0 n0 g1 n1 g2 n2 ga kx y l1) [(.busy, none), (.ready, none)] fun ex fm T σ => ex = .normal ∧ T = ((TNc2 z0 z1 z2 g0 n0 g1 n1 g2 n2 ga kx (mwLaw (xwLaw y (gwLaw (ckLaw z2 n2 j))) kx) l1) : Tab) ∧ σ = [(.busy, none), (.ready, none)] := by
  by_cases h : 16 * j + 16 ≤ n2
  · rw [show min 16 (n2 - 16 * j) = 16 by omega]
    exact chfc2 e hy l1 l2 h
  · exact chpc2 e hy l1 l2 (by omega) (by omega)
theorem rdc2 {z0 z1 z2 : List Int} {g0 n0 g1 n1 g2 n2 ga : Nat} {kx : List Int} (e : Exc z0 z1 z2 g0 n0 g1 n1 g2 n2 ga kx) {y : List Int} (hy : WpLaw y) (l1 l2 : Nat) {j : Nat} (hj : 16 * j < n2) :
    YWp eGh 31 11 [(l2, H2c2 z0 z1 z2 g0 n0 g1 n1 g2 n2 ga kx), (l1, H1c)] (roundOf 0 f81) [(0, .func (.yield l2) [] []), (1, .var 9 0), (2, .var 10 0), (4, .int .i64 ((16 * j : Nat) : Int))] (TNc2 z0 z1 z2 g0 n0 g1 n1 g2 n2 ga kx y l1) [(.ready, none), (.ready, none)] fun ex fm T σ => ex = .normal ∧ fm = [(0, .func (.yield l2) [] []), (1, .var 9 0), (2, .var 10 0), (4, .int .i64 ((16 * (j + 1) : Nat) : Int))] ∧ T = ((TNc2 z0 z1 z2 g0 n0 g1 n1 g2 n2 ga kx (mwLaw (xwLaw y (gwLaw (ckLaw z2 n2 j))) kx) l1) : Tab) ∧ σ = [(.ready, none), (.ready, none)] := by
  have hamb := ambc2 z0 z1 z2 g0 n0 g1 n1 g2 n2 ga kx l1 l2
  have hz := e.pz2
  have hm := e.pm2
  skip
  have er : (if (↑(subO n2 ((16 * j : Nat) : Int).toNat) : Int) < 16 then (↑(subO n2 ((16 * j : Nat) : Int).toNat) : Int) else 16) = ((min 16 (n2 - 16 * j) : Nat) : Int) := by
    rw [Int.toNat_natCast, subO_eq, min16]
  have e1 : ((16 * j : Nat) : Int).toNat = 16 * j := Int.toNat_natCast _
  have e2 : subO (((16 * j : Nat) : Int) + ((min 16 (n2 - 16 * j) : Nat) : Int)).toNat (16 * j) = min 16 (n2 - 16 * j) := by rw [subO_eq]; omega
  rw [split81]
  refine YWp.seq (YWp.ofTo (To.of (o := Hyc2 z0 z1 z2 g0 n0 g1 n1 g2 n2 ga kx y l1 l2 ((16 * j : Nat) : Int)) eGh_ok hmA (Nat.le_refl 11) OrcOk.nil rfl (Hyc2_ok ?_) Hyc2_ex Hyc2_fm Hyc2_tab) hamb ?_)
  · simp only [allP, Con.h, decide_eq_true_eq, eq_self, true_and, and_true]; omega
  refine YWp.seq (YWp.block (YWp.seq (YWp.ofTo (To.of (o := Msc2 z0 z1 z2 g0 n0 g1 n1 g2 n2 ga kx y l1 l2 ((16 * j : Nat) : Int)) (fm' := [(0, .func (.yield l2) [] []), (1, .var 9 0), (2, .var 10 0), (4, .int .i64 ((16 * j : Nat) : Int))] ++ [(5, .int .i64 ((min 16 (n2 - 16 * j) : Nat) : Int))]) eGh_ok hmA (Nat.le_refl 11) OrcOk.nil rfl (Msc2_ok ?_) Msc2_ex (by rw [Msc2_fm, er]; rfl) Msc2_tab) hamb ?_)))
  · simp only [allP, Con.h, eq_self, true_and, and_true]; omega
  refine YWp.seq (YWp.yieldRegion eGh_ok (l1 := ops81.toList.take 10) (l2 := ops81.toList.drop 11) (oy := ops81.toList.getD 10 default) (by kernel_rfl) (ds1 := []) (o1 := Yac2 z0 z1 z2 g0 n0 g1 n1 g2 n2 ga kx y l1 l2 ((16 * j : Nat) : Int) ((min 16 (n2 - 16 * j) : Nat) : Int)) (by kernel_rfl) (Yac2_ok ?_) (f := .tmp 19) (x := .tmp 28) (t := 29) (c := theCall (ops81.toList.getD 10 default)) (by kernel_rfl) (by kernel_rfl) (by kernel_rfl) (by kernel_rfl) (by kernel_rfl) (by decide) (i := 0) (l := l2) (H := H2c2 z0 z1 z2 g0 n0 g1 n1 g2 n2 ga kx) (by rw [Yac2_fm]; rfl) (v := .slice 1 3 g2 (16 * j) (min 16 (n2 - 16 * j)) (some (min 16 (n2 - 16 * j)))) (by rw [Yac2_fm, e1, e2]; rfl) rfl rfl (p := 14) rfl (show 14 < 30 by decide) (kk := 11) (Nat.le_refl _) (by rw [Yac2_fm]; exact fmIn_of rfl) hamb ?_)
  · simp only [allP, Con.h, eq_self, true_and, and_true]; omega
  rw [Yac2_tab]
  refine YWp.ofTo (To.of (o := Asc2 z0 z1 z2 g0 n0 g1 n1 g2 n2 ga kx y l1 l2 (16 * j) (min 16 (n2 - 16 * j))) eGh_ok hmA (Nat.le_refl 11) OrcOk.nil rfl (Asc2_ok trivial) Asc2_ex Asc2_fm Asc2_tab) hamb ⟨rfl, rfl, ?_⟩
  refine YWp.mono (chc2 e hy l1 l2 hj) fun ex fm T σ hP => ?_
  obtain ⟨rfl, rfl, rfl⟩ := hP
  refine ⟨by decide, [], Nuc2 z0 z1 z2 g0 n0 g1 n1 g2 n2 ga kx (mwLaw (xwLaw y (gwLaw (ckLaw z2 n2 j))) kx) l1 _, rfl, Nuc2_ok trivial, ?_⟩
  rw [Nuc2_fm, Nuc2_tab, Yac2_fm]
  show YWp eGh 31 11 [(l2, H2c2 z0 z1 z2 g0 n0 g1 n1 g2 n2 ga kx), (l1, H1c)] cnd81 _ _ _ _
  rw [cnd81_eq]
  refine YWp.cond (b := false) rfl (fun h => by cases h) (fun _ => YWp.skip hamb ?_)
  show YWp eGh 31 11 [(l2, H2c2 z0 z1 z2 g0 n0 g1 n1 g2 n2 ga kx), (l1, H1c)] r81 _ _ _ _
  refine YWp.sub (f := [(0, .func (.yield l2) [] []), (1, .var 9 0), (2, .var 10 0), (4, .int .i64 ((16 * j : Nat) : Int))]) ⟨rfl, rfl, rfl, rfl, trivial⟩ ?_
  refine YWp.ofTo (To.of (o := Rbc2 z0 z1 z2 g0 n0 g1 n1 g2 n2 ga kx _ l1 l2 ((16 * j : Nat) : Int)) eGh_ok hmA (Nat.le_refl 11) OrcOk.nil rfl (Rbc2_ok ?_) Rbc2_ex Rbc2_fm Rbc2_tab) hamb ⟨rfl, ?_, rfl, rfl⟩
  · simp only [allP, Con.h, and_true]; omega
  · rw [show ((16 * j : Nat) : Int) + 16 = ((16 * (j + 1) : Nat) : Int) by omega]
theorem inc2 {z0 z1 z2 : List Int} {g0 n0 g1 n1 g2 n2 ga : Nat} {kx : List Int} (e : Exc z0 z1 z2 g0 n0 g1 n1 g2 n2 ga kx) {y : List Int} (hy : WpLaw y) (l1 l2 : Nat) :
    YWp eGh 31 11 [(l2, H2c2 z0 z1 z2 g0 n0 g1 n1 g2 n2 ga kx), (l1, H1c)] (bodyOf f81) (argF ([] ++ (.func (.yield l2) [] [] :: [.var 9 0, .var 10 0])) 0) (TNc2 z0 z1 z2 g0 n0 g1 n1 g2 n2 ga kx y l1) [(.ready, none), (.ready, none)] fun ex fm' T' σ' =>
      (ex = .normal ∨ ex = .ret) ∧ (∃ cs us, aRes eGh fm' T' f81.results.toList = some (cs, us) ∧ allP cs) ∧ ∃ st σ2, σ' = st :: σ2 ∧ st.1 ≠ .busy ∧
        match st.2 with
        | none => AExit.normal = .normal ∧ [(1, .var 7 0), (2, .var 8 0), (6, .slice 1 0 ga 0 3 (some 3)), (7, .int .i64 3), (8, .int .i64 2), (13, .func (.func 81) [] [.var 9 0, .var 10 0])] = (H2c2 z0 z1 z2 g0 n0 g1 n1 g2 n2 ga kx).fm ∧ T' = (TNc2 z0 z1 z2 g0 n0 g1 n1 g2 n2 ga kx (hsLaw kx y z2 n2) l1) ∧ σ2 = [(.ready, none)]
        | some (.exit id) => AExit.exit id = .normal ∧ [(1, .var 7 0), (2, .var 8 0), (6, .slice 1 0 ga 0 3 (some 3)), (7, .int .i64 3), (8, .int .i64 2), (13, .func (.func 81) [] [.var 9 0, .var 10 0])] = (H2c2 z0 z1 z2 g0 n0 g1 n1 g2 n2 ga kx).fm ∧ T' = (TNc2 z0 z1 z2 g0 n0 g1 n1 g2 n2 ga kx (hsLaw kx y z2 n2) l1) ∧ σ2 = [(.ready, none)]
        | some .ret => AExit.ret = .normal ∧ [(1, .var 7 0), (2, .var 8 0), (6, .slice 1 0 ga 0 3 (some 3)), (7, .int .i64 3), (8, .int .i64 2), (13, .func (.func 81) [] [.var 9 0, .var 10 0])] = (H2c2 z0 z1 z2 g0 n0 g1 n1 g2 n2 ga kx).fm ∧ T' = (TNc2 z0 z1 z2 g0 n0 g1 n1 g2 n2 ga kx (hsLaw kx y z2 n2) l1) ∧ σ2 = [(.ready, none)]
        | _ => False := by
  have hamb := ambc2 z0 z1 z2 g0 n0 g1 n1 g2 n2 ga kx l1 l2
  rw [splitb81, res81]
  refine YWp.seq (YWp.ofTo (To.of (o := Zsc2 z0 z1 z2 g0 n0 g1 n1 g2 n2 ga kx y l1 l2) eGh_ok hmA (Nat.le_refl 11) OrcOk.nil rfl (Zsc2_ok trivial) Zsc2_ex Zsc2_fm Zsc2_tab) hamb ?_)
  refine YWp.block (YWp.loop (fun fm T σ μ => ∃ j, 16 * j < n2 + 16 ∧ μ = n2 + 16 - j ∧ fm = [(0, .func (.yield l2) [] []), (1, .var 9 0), (2, .var 10 0), (4, .int .i64 ((16 * j : Nat) : Int))] ∧ T = (TNc2 z0 z1 z2 g0 n0 g1 n1 g2 n2 ga kx (hyLaw kx y z2 n2 j) l1) ∧ σ = [(.ready, none), (.ready, none)]) (n2 + 16) ⟨0, by omega, rfl, rfl, rfl, rfl⟩ ?_)
  rintro fm T σ μ ⟨j, hj, rfl, rfl, rfl, rfl⟩
  by_cases h : 16 * j < n2
  · refine YWp.mono (rdc2 e (hy_wp hy e.pz2 e.pb2 j) l1 l2 h) fun ex fm T σ hP => ?_
    obtain ⟨rfl, rfl, rfl, rfl⟩ := hP
    exact ⟨n2 + 16 - (j + 1), by omega, j + 1, by omega, rfl, rfl, rfl, rfl⟩
  · rw [split81]
    refine YWp.seq (YWp.ofTo (To.of (o := Hnc2 z0 z1 z2 g0 n0 g1 n1 g2 n2 ga kx (hyLaw kx y z2 n2 j) l1 l2 ((16 * j : Nat) : Int)) eGh_ok hmA (Nat.le_refl 11) OrcOk.nil rfl (Hnc2_ok ?_) Hnc2_ex Hnc2_fm Hnc2_tab) hamb ?_)
    · simp only [allP, Con.h, decide_eq_false_iff_not, eq_self, true_and, and_true]; omega
    obtain rfl : j = (n2 + 15) / 16 := by omega
    exact ⟨.inl rfl, ⟨[], [], rfl, trivial⟩, (.ready, none), _, rfl, by decide, rfl, rfl, rfl, rfl⟩
theorem roc2 {z0 z1 z2 : List Int} {g0 n0 g1 n1 g2 n2 ga : Nat} {kx : List Int} (e : Exc z0 z1 z2 g0 n0 g1 n1 g2 n2 ga kx) {y : List Int} (hy : WpLaw y) (l1 : Nat) :
    YWp eGh 30 8 [(l1, H1c)] (roundOf 0 f79) [(1, .var 7 0), (2, .var 8 0), (6, .slice 1 0 ga 0 3 (some 3)), (7, .int .i64 3), (8, .int .i64 2)] (TPc z0 z1 z2 g0 n0 g1 n1 g2 n2 ga kx y l1) [(.ready, none)] fun ex fm T σ => ex = .normal ∧ fm = [(1, .var 7 0), (2, .var 8 0), (6, .slice 1 0 ga 0 3 (some 3)), (7, .int .i64 3), (8, .int .i64 3)] ∧ T = ((TPc z0 z1 z2 g0 n0 g1 n1 g2 n2 ga kx (hsLaw kx y z2 n2) l1) : Tab) ∧ σ = [(.ready, none)] := by
  have hamb : ambIn 8 [(l1, H1c)] := ambIn_one rfl
  rw [split79]
  refine YWp.seq (YWp.ofTo (To.base (by decide) (To.of (o := Hdc2 z0 z1 z2 g0 n0 g1 n1 g2 n2 ga kx y l1) eGh_ok hmA (Nat.le_refl 9) OrcOk.nil rfl (Hdc2_ok trivial) Hdc2_ex Hdc2_fm Hdc2_tab)) hamb ?_)
  refine YWp.seq ?_
  rw [c79_eq]
  refine YWp.cond (b := true) rfl (fun _ => YWp.skip hamb ?_) (fun h => by cases h)
  refine YWp.sub (f := [(1, .var 7 0), (2, .var 8 0), (6, .slice 1 0 ga 0 3 (some 3)), (7, .int .i64 3), (8, .int .i64 2)]) ⟨rfl, rfl, rfl, rfl, rfl, trivial⟩ ?_
  refine YWp.seq (YWp.block (YWp.seq (YWp.ofTo (To.base (by decide) (To.of (o := Pac2 z0 z1 z2 g0 n0 g1 n1 g2 n2 ga kx y l1) eGh_ok hmA (Nat.le_refl 9) OrcOk.nil rfl (Pac2_ok ⟨rfl, rfl, trivial⟩) Pac2_ex Pac2_fm Pac2_tab)) hamb ?_)))
  refine YWp.sub (f := ((4, .slice 1 3 g2 0 n2 none) :: [(1, .var 7 0), (2, .var 8 0), (6, .slice 1 0 ga 0 3 (some 3)), (7, .int .i64 3), (8, .int .i64 2)])) ⟨rfl, rfl, rfl, rfl, rfl, rfl, trivial⟩ ?_
  refine YWp.seq (YWp.ofTo (To.base (by decide) (To.of (k := 9) (o := Pbc2 z0 z1 z2 g0 n0 g1 n1 g2 n2 ga kx y l1) eGh_ok hmA (Nat.le_refl 9) OrcOk.nil rfl (Pbc2_ok ⟨rfl, trivial⟩) Pbc2_ex Pbc2_fm Pbc2_tab)) hamb ?_)
  refine YWp.block ?_
  rw [rf79_eq]
  refine YWp.mono (YWp.rangeFunc (post := fun ex fm T' σ' => ex = .normal ∧ fm = (H2c2 z0 z1 z2 g0 n0 g1 n1 g2 n2 ga kx).fm ∧ T' = (TNc2 z0 z1 z2 g0 n0 g1 n1 g2 n2 ga kx (hsLaw kx y z2 n2) l1) ∧ σ' = [(.ready, none)]) eGh_ok (gf := 81) (gfn := f81) (c := bodyOf f81) (first := []) (caps := [.var 9 0, .var 10 0]) rfl (by kernel_rfl) (by kernel_rfl) (by kernel_rfl) (kk := 11) (by decide) (fmIn_of rfl) (by kernel_rfl) (fun l2 => inc2 e hy l1 l2)) fun ex fm T σ hP => ?_
  obtain ⟨rfl, rfl, rfl, rfl⟩ := hP
  show YWp eGh 30 8 [(l1, H1c)] r79 _ _ _ _
  exact YWp.ofTo (To.base (by decide) (To.of (k := 9) (o := Rrc2 z0 z1 z2 g0 n0 g1 n1 g2 n2 ga kx (hsLaw kx y z2 n2) l1) eGh_ok hmA (Nat.le_refl 9) OrcOk.nil rfl (Rrc2_ok trivial) Rrc2_ex Rrc2_fm Rrc2_tab)) hamb ⟨rfl, rfl, rfl, rfl⟩
theorem outc {z0 z1 z2 : List Int} {g0 n0 g1 n1 g2 n2 ga : Nat} {kx : List Int} (e : Exc z0 z1 z2 g0 n0 g1 n1 g2 n2 ga kx) (l1 : Nat) : YWp eGh 30 8 [(l1, H1c)] (bodyOf f79) (argF ([] ++ (.func (.yield l1) [] [] :: [.var 7 0])) 0) (TBc z0 z1 z2 g0 n0 g1 n1 g2 n2 ga kx [0, 0]) [(.ready, none)] fun ex fm' T' σ' =>
      (ex = .normal ∨ ex = .ret) ∧ (∃ cs us, aRes eGh fm' T' f79.results.toList = some (cs, us) ∧ allP cs) ∧ ∃ st σ2, σ' = st :: σ2 ∧ st.1 ≠ .busy ∧
        match st.2 with
        | none => (AExit.normal = .normal ∨ AExit.normal = .exit 0) ∧ [(2, .var 4 0), (4, .var 5 0), (5, .var 6 0), (8, .func (.func 79) [] [.var 7 0])] = H1c.fm ∧ T' = (TBc z0 z1 z2 g0 n0 g1 n1 g2 n2 ga kx (hsLaw kx (hsLaw kx (hsLaw kx [0, 0] z0 n0) z1 n1) z2 n2))
        | some (.exit id) => (AExit.exit id = .normal ∨ AExit.exit id = .exit 0) ∧ [(2, .var 4 0), (4, .var 5 0), (5, .var 6 0), (8, .func (.func 79) [] [.var 7 0])] = H1c.fm ∧ T' = (TBc z0 z1 z2 g0 n0 g1 n1 g2 n2 ga kx (hsLaw kx (hsLaw kx (hsLaw kx [0, 0] z0 n0) z1 n1) z2 n2))
        | some .ret => (AExit.ret = .normal ∨ AExit.ret = .exit 0) ∧ [(2, .var 4 0), (4, .var 5 0), (5, .var 6 0), (8, .func (.func 79) [] [.var 7 0])] = H1c.fm ∧ T' = (TBc z0 z1 z2 g0 n0 g1 n1 g2 n2 ga kx (hsLaw kx (hsLaw kx (hsLaw kx [0, 0] z0 n0) z1 n1) z2 n2))
        | _ => False := by
  have hamb : ambIn 8 [(l1, H1c)] := ambIn_one rfl
  have w0 := WpLaw.zero
  have w1 := hs_wp (h := kx) w0 e.pz0 e.pb0
  have w2 := hs_wp (h := kx) w1 e.pz1 e.pb1
  have w3 := hs_wp (h := kx) w2 e.pz2 e.pb2
  rw [splitb79, res79]
  refine YWp.seq (YWp.ofTo (To.of (k := 8) (o := Sac z0 z1 z2 g0 n0 g1 n1 g2 n2 ga kx l1) eGh_ok hmA (Nat.le_refl 8) OrcOk.nil rfl (Sac_ok trivial) Sac_ex Sac_fm Sac_tab) hamb ?_)
  refine YWp.seq (YWp.ofTo (To.base (by decide) (To.of (k := 9) (o := Sbc z0 z1 z2 g0 n0 g1 n1 g2 n2 ga kx l1) eGh_ok hmA (Nat.le_refl 9) OrcOk.nil rfl (Sbc_ok ⟨rfl, trivial⟩) Sbc_ex Sbc_fm Sbc_tab)) hamb ?_)
  refine YWp.block (YWp.loop (fun fm T σ μ => σ = [(.ready, none)] ∧ ((μ = 3 ∧ fm = [(1, .var 7 0), (2, .var 8 0), (6, .slice 1 0 ga 0 3 (some 3)), (7, .int .i64 3), (8, .int .i64 0)] ∧ T = (TPc z0 z1 z2 g0 n0 g1 n1 g2 n2 ga kx [0, 0] l1)) ∨ (μ = 2 ∧ fm = [(1, .var 7 0), (2, .var 8 0), (6, .slice 1 0 ga 0 3 (some 3)), (7, .int .i64 3), (8, .int .i64 1)] ∧ T = (TPc z0 z1 z2 g0 n0 g1 n1 g2 n2 ga kx (hsLaw kx [0, 0] z0 n0) l1)) ∨ (μ = 1 ∧ fm = [(1, .var 7 0), (2, .var 8 0), (6, .slice 1 0 ga 0 3 (some 3)), (7, .int .i64 3), (8, .int .i64 2)] ∧ T = (TPc z0 z1 z2 g0 n0 g1 n1 g2 n2 ga kx (hsLaw kx (hsLaw kx [0, 0] z0 n0) z1 n1) l1)) ∨ (μ = 0 ∧ fm = [(1, .var 7 0), (2, .var 8 0), (6, .slice 1 0 ga 0 3 (some 3)), (7, .int .i64 3), (8, .int .i64 3)] ∧ T = (TPc z0 z1 z2 g0 n0 g1 n1 g2 n2 ga kx (hsLaw kx (hsLaw kx (hsLaw kx [0, 0] z0 n0) z1 n1) z2 n2) l1)))) 3 ⟨rfl, .inl ⟨rfl, rfl, rfl⟩⟩ ?_)
  rintro fm T σ μ ⟨rfl, hI⟩
  rcases hI with ⟨rfl, rfl, rfl⟩ | ⟨rfl, rfl, rfl⟩ | ⟨rfl, rfl, rfl⟩ | ⟨rfl, rfl, rfl⟩
  · refine YWp.mono (roc0 e w0 l1) fun ex fm T σ hP => ?_
    obtain ⟨rfl, rfl, rfl, rfl⟩ := hP
    exact ⟨2, by decide, rfl, .inr (.inl ⟨rfl, rfl, rfl⟩)⟩
  · refine YWp.mono (roc1 e w1 l1) fun ex fm T σ hP => ?_
    obtain ⟨rfl, rfl, rfl, rfl⟩ := hP
    exact ⟨1, by decide, rfl, .inr (.inr (.inl ⟨rfl, rfl, rfl⟩))⟩
  · refine YWp.mono (roc2 e w2 l1) fun ex fm T σ hP => ?_
    obtain ⟨rfl, rfl, rfl, rfl⟩ := hP
    exact ⟨0, by decide, rfl, .inr (.inr (.inr (⟨rfl, rfl, rfl⟩)))⟩
  · rw [split79]
    refine YWp.seq (YWp.ofTo (To.of (k := 8) (o := Hdc3 z0 z1 z2 g0 n0 g1 n1 g2 n2 ga kx (hsLaw kx (hsLaw kx (hsLaw kx [0, 0] z0 n0) z1 n1) z2 n2) l1) eGh_ok hmA (Nat.le_refl 8) OrcOk.nil rfl (Hdc3_ok trivial) Hdc3_ex Hdc3_fm Hdc3_tab) hamb ?_)
    refine YWp.seq ?_
    rw [c79_eq]
    refine YWp.cond (b := false) rfl (fun h => by cases h) (fun _ => YWp.exit hamb ?_)
    exact ⟨.inl rfl, ⟨[], [], rfl, trivial⟩, (.ready, none), _, rfl, by decide, .inl rfl, rfl, rfl⟩
theorem blk63c {z0 z1 z2 : List Int} {g0 n0 g1 n1 g2 n2 ga : Nat} {kx : List Int} (e : Exc z0 z1 z2 g0 n0 g1 n1 g2 n2 ga kx) : To eGh 16 8 (.block 0 rf63) [(2, .var 4 0), (4, .var 5 0), (5, .var 6 0), (8, .func (.func 79) [] [.var 7 0])] (TBc z0 z1 z2 g0 n0 g1 n1 g2 n2 ga kx [0, 0]) .normal [(2, .var 4 0), (4, .var 5 0), (5, .var 6 0), (8, .func (.func 79) [] [.var 7 0])] (TBc z0 z1 z2 g0 n0 g1 n1 g2 n2 ga kx (hsLaw kx (hsLaw kx (hsLaw kx [0, 0] z0 n0) z1 n1) z2 n2)) := by
  refine AWp.block (AWp.ofY ?_)
  rw [rf63_eq]
  refine YWp.mono (YWp.rangeFunc (post := fun ex fm T' σ' => (ex = .normal ∨ ex = .exit 0) ∧ fm = H1c.fm ∧ T' = (TBc z0 z1 z2 g0 n0 g1 n1 g2 n2 ga kx (hsLaw kx (hsLaw kx (hsLaw kx [0, 0] z0 n0) z1 n1) z2 n2))) eGh_ok (gf := 79) (gfn := f79) (c := bodyOf f79) (first := []) (caps := [.var 7 0]) rfl (by kernel_rfl) (by kernel_rfl) (by kernel_rfl) (kk := 8) (Nat.le_refl _) (fmIn_of rfl) (by kernel_rfl) (fun l => outc e l)) fun ex fm T σ hP => ?_
  obtain ⟨h1, rfl, rfl⟩ := hP
  rcases h1 with rfl | rfl
  · exact ⟨rfl, rfl, rfl⟩
  · exact ⟨rfl, rfl, rfl⟩
noncomputable def g63cc (vs : List AVal) (T : Tab) (z0 : List Int) (z1 : List Int) (z2 : List Int) (g0 : Nat) (n0 : Nat) (g1 : Nat) (n1 : Nat) (g2 : Nat) (n2 : Nat) (ga : Nat) (kx : List Int) : Out := ⟨[.tab T [some ⟨.agg [.slice 1 1 g0 0 n0 none, .slice 1 2 g1 0 n1 none, .slice 1 3 g2 0 n2 none], ga, false, 25⟩, some ⟨.ints .u8 z0, g0, false, 5⟩, some ⟨.ints .u8 z1, g1, false, 5⟩, some ⟨.ints .u8 z2, g2, false, 5⟩, some ⟨.ints .u64 kx, 0, true, 65⟩, some ⟨.ints .u64 [0, 0], 0, true, 65⟩, some ⟨.ints .u64 [0, 0], 0, true, 65⟩, some ⟨.agg [.slice 1 0 ga 0 3 (some 3)], 0, true, 81⟩], .val (.tuple vs) (.tuple [.var 4 0, .var 5 0, .var 6 0, .func (.func 79) [] [.var 7 0]]), .leN n0 z0.length, .leN n0 140737488352000, .p (Bytes z0), .leN n1 z1.length, .leN n1 140737488352000, .p (Bytes z1), .leN n2 z2.length, .leN n2 140737488352000, .p (Bytes z2), .p (WpLaw kx)], .normal, [(2, .var 4 0), (4, .var 5 0), (5, .var 6 0), (8, .func (.func 79) [] [.var 7 0])], [some ⟨.agg [.slice 1 1 g0 0 n0 none, .slice 1 2 g1 0 n1 none, .slice 1 3 g2 0 n2 none], ga, false, 25⟩, some ⟨.ints .u8 z0, g0, false, 5⟩, some ⟨.ints .u8 z1, g1, false, 5⟩, some ⟨.ints .u8 z2, g2, false, 5⟩, some ⟨.ints .u64 kx, 0, true, 65⟩, some ⟨.ints .u64 [0, 0], 0, true, 65⟩, some ⟨.ints .u64 (hsLaw kx (hsLaw kx (hsLaw kx [0, 0] z0 n0) z1 n1) z2 n2), 0, true, 65⟩, some ⟨.agg [.slice 1 0 ga 0 3 (some 3)], 0, true, 81⟩], []⟩
theorem g63cc_ok {vs : List AVal} {T : Tab} {z0 : List Int} {z1 : List Int} {z2 : List Int} {g0 : Nat} {n0 : Nat} {g1 : Nat} {n1 : Nat} {g2 : Nat} {n2 : Nat} {ga : Nat} {kx : List Int} (h : Ok (g63cc vs T z0 z1 z2 g0 n0 g1 n1 g2 n2 ga kx)) : To eGh 16 8 (.block 0 rf63) (zipF [2,4,5,8] vs) T (g63cc vs T z0 z1 z2 g0 n0 g1 n1 g2 n2 ga kx).ex (g63cc vs T z0 z1 z2 g0 n0 g1 n1 g2 n2 ga kx).fm (g63cc vs T z0 z1 z2 g0 n0 g1 n1 g2 n2 ga kx).tab := by
  obtain ⟨hT, hv, h1, h2, h3, h4, h5, h6, h7, h8, h9, h10, _⟩ := h.h
  simp only [Con.h] at hT hv h1 h2 h3 h4 h5 h6 h7 h8 h9 h10
  injection hv with hv
  subst hT hv
  exact blk63c ⟨h1, h2, h3, h4, h5, h6, h7, h8, h9, h10⟩
noncomputable def g63c : List AVal → Tab → Out := fun vs T => g63cc vs T (xsAt T 1) (xsAt T 2) (xsAt T 3) (gAt T 1) (lenOf (cAt T 0 0)) (gAt T 2) (lenOf (cAt T 0 1)) (gAt T 3) (lenOf (cAt T 0 2)) (gAt T 0) (xsAt T 4)
theorem g63c_ok : BlkOk eGh f63 0 rf63 (blkS 8 [2,4,5,8] g63c) := blkS_ok fun vs T h => g63cc_ok h
noncomputable def orc63c : OrcL := [(0, blkS 8 [2,4,5,8] g63c)]
theorem orc63c_ok : FnOrc eGh f63 orc63c := FnOrc.cons g63c_ok (by kernel_rfl) FnOrc.nil
noncomputable def R63c (z0 z1 z2 : List Int) (g0 n0 g1 n1 g2 n2 ga : Nat) (kx : List Int) : Res := resG 4 [0, 1, 2, 3] (runF eGh f63 orc63c 400 [.ints .u64 kx, .slice 1 0 ga 0 3 (some 3)] [some ⟨.agg [.slice 1 1 g0 0 n0 none, .slice 1 2 g1 0 n1 none, .slice 1 3 g2 0 n2 none], ga, false, 25⟩, some ⟨.ints .u8 z0, g0, false, 5⟩, some ⟨.ints .u8 z1, g1, false, 5⟩, some ⟨.ints .u8 z2, g2, false, 5⟩] [])
theorem R63c_ok {z0 z1 z2 : List Int} {g0 n0 g1 n1 g2 n2 ga : Nat} {kx : List Int} (h : allP [.eqN ga ga, .eqN g0 g0, .eqN g1 g1, .eqN g2 g2, .leN n0 z0.length, .leN n0 140737488352000, .p (Bytes z0), .leN n1 z1.length, .leN n1 140737488352000, .p (Bytes z1), .leN n2 z2.length, .leN n2 140737488352000, .p (Bytes z2), .p (WpLaw kx), .eqN (hsLaw kx (hsLaw kx (hsLaw kx [0, 0] z0 n0) z1 n1) z2
 n2).length 2, .eqN (hsLaw kx (hsLaw kx (hsLaw kx [0, 0] z0 n0) z1 n1) z2 n2).length 2, .eqN (hsLaw kx (hsLaw kx (hsLaw kx [0, 0] z0 n0) z1 n1) z2 n2).length 2]) : OkR (R63c z0 z1 z2 g0 n0 g1 n1 g2 n2 ga kx) := OkR.dem (fl := bitsF 24 7667712) (by kernel_rfl) (by kernel_rfl) (by kernel_rfl) h
theorem R63c_val {z0 z1 z2 : List Int} {g0 n0 g1 n1 g2 n2 ga : Nat} {kx : List Int} : (R63c z0 z1 z2 g0 n0 g1 n1 g2 n2 ga kx).val = .ints .u64 (hsLaw kx (hsLaw kx (hsLaw kx [0, 0] z0 n0) z1 n1) z2 n2) := by kernel_rfl
theorem R63c_tab {z0 z1 z2 : List Int} {g0 n0 g1 n1 g2 n2 ga : Nat} {kx : List Int} : (R63c z0 z1 z2 g0 n0 g1 n1 g2 n2 ga kx).tab = [some ⟨.agg [.slice 1 1 g0 0 n0 none, .slice 1 2 g1 0 n1 none, .slice 1 3 g2 0 n2 none], ga, false, 25⟩, some ⟨.ints .u8 z0, g0, false, 5⟩, some ⟨.ints .u8 z1, g1, false, 5⟩, some ⟨.ints .u8 z2, g2, false, 5⟩] := by kernel_rfl
noncomputable def sm63cc (args : List AVal) (T : Tab) (z0 : List Int) (z1 : List Int) (z2 : List Int) (g0 : Nat) (n0 : Nat) (g1 : Nat) (n1 : Nat) (g2 : Nat) (n2 : Nat) (ga : Nat) (kx : List Int) : Res := ⟨[.tab T [some ⟨.agg [.slice 1 1 g0 0 n0 none, .slice 1 2 g1 0 n1 none, .slice 1 3 g2 0 n2 none], ga, false, 25⟩, some ⟨.ints .u8 z0, g0, false, 5⟩, some ⟨.ints .u8 z1, g1, false, 5⟩, some ⟨.ints .u8 z2, g2, false, 5⟩], .val (.tuple args) (.tuple [.ints .u64 kx, .slice 1 0 ga 0 3 (some 3)]), .leN n0 z0.length, .leN n0 140737488352000, .p (Bytes z0), .leN n1 z1.length, .leN n1 140737488352000, .p (Bytes z1), .leN n2 z2.length, .leN n2 140737488352000, .p (Bytes z2), .p (WpLaw kx)], .ints .u64 (hsLaw kx (hsLaw kx (hsLaw kx [0, 0] z0 n0) z1 n1) z2 n2), [some ⟨.agg [.slice 1 1 g0 0 n0 none, .slice 1 2 g1 0 n1 none, .slice 1 3 g2 0 n2 none], ga, false, 25⟩, some ⟨.ints .u8 z0, g0, false, 5⟩, some ⟨.ints .u8 z1, g1, false, 5⟩, some ⟨.ints .u8 z2, g2, false, 5⟩]⟩
theorem sm63cc_ok {args : List AVal} {T : Tab} {z0 : List Int} {z1 : List Int} {z2 : List Int} {g0 : Nat} {n0 : Nat} {g1 : Nat} {n1 : Nat} {g2 : Nat} {n2 : Nat} {ga : Nat} {kx : List Int} (h : allP (sm63cc args T z0 z1 z2 g0 n0 g1 n1 g2 n2 ga kx).cs) : Small prog (fun _ => none) 63 args T (sm63cc args T z0 z1 z2 g0 n0 g1 n1 g2 n2 ga kx).val (sm63cc args T z0 z1 z2 g0 n0 g1 n1 g2 n2 ga kx).tab := by
  obtain ⟨hT, hv, h1, h2, h3, h4, h5, h6, h7, h8, h9, h10, _⟩ := h
  simp only [Con.h] at hT hv h1 h2 h3 h4 h5 h6 h7 h8 h9 h10
  injection hv with hv
  subst hT hv
  have w0 := WpLaw.zero
  have w1 := hs_wp (h := kx) w0 h1 h3
  have w2 := hs_wp (h := kx) w1 h4 h6
  have w3 := hs_wp (h := kx) w2 h7 h9
  refine small_ofG (R := R63c z0 z1 z2 g0 n0 g1 n1 g2 n2 ga kx) (keep := [0, 1, 2, 3]) eGh_ok hmA (f := 63) (fn := f63) (by kernel_rfl) (by kernel_rfl) orc63c_ok rfl (R63c_ok ?_) R63c_val R63c_tab
  have hl := w3.len
  have hk := h10.len
  simp only [allP, Con.h, hl, hk, h1, h2, h3, h4, h5, h6, h7, h8, h9, h10, eq_self, true_and, and_true]
noncomputable def sm63c : Summary := fun args T => sm63cc args T (xsAt T 1) (xsAt T 2) (xsAt T 3) (gAt T 1) (lenOf (cAt T 0 0)) (gAt T 2) (lenOf (cAt T 0 1)) (gAt T 3) (lenOf (cAt T 0 2)) (gAt T 0) (xsOf (vAt args 0))
theorem sm63c_ok : SmOk prog (fun _ => none) 63 sm63c := fun args T h => sm63cc_ok h
noncomputable def S63c : Summary := callR sm63c []
theorem S63c_ok : SumOk prog (fun _ => none) 63 S63c := callR_ok sm63c_ok []
end Go.Abs

set_option linter.unusedVariables false
set_option linter.unusedSimpArgs false
set_option maxRecDepth 8000
namespace Go.Abs
open Go.Proofs.Try
/-! ### turn, the whole -/
def tnLaw (K N xs : List Int) : Nat → List Int
  | 0 => xs
  | j + 1 => xkLaw (ctLaw K N (2 + (j : Int))) (tnLaw K N xs j) (16 * j)
def turnLaw (K N xs : List Int) : List Int := tnLaw K N xs ((xs.length + 15) / 16)
theorem tn_len (K N xs : List Int) : ∀ j, (tnLaw K N xs j).length = xs.length
  | 0 => rfl
  | j + 1 => by rw [tnLaw, xkLaw, bx_len, tn_len K N xs j]
theorem tn_bytes {K N xs : List Int} (hk : Bytes K) (hn : Bytes N) (hx : Bytes xs) : ∀ j, Bytes (tnLaw K N xs j)
  | 0 => hx
  | j + 1 => bx_bytes (ct_bytes hk hn _) (tn_bytes hk hn hx j) _ _
theorem turn_len (K N xs : List Int) : (turnLaw K N xs).length = xs.length := tn_len K N xs _
theorem turn_bytes {K N xs : List Int} (hk : Bytes K) (hn : Bytes N) (hx : Bytes xs) : Bytes (turnLaw K N xs) := tn_bytes hk hn hx _
theorem loop54o {zs ns : List Int} {gk gn : Nat} {cpk cpn : Option Nat} {ts : List Int} {gt : Nat} {owt : Bool} {n : Nat} {xs : List Int} (h1 : 16 ≤ zs.length) (h2 : 12 ≤ ns.length) (h3 : Bytes zs) (h4 : Bytes ns) (hn : n = xs.length) (hb : n ≤ 140737488352000) (hx : Bytes xs) : To eGt 45 5 (.block 0 (.loop (roundOf 0 f54))) [(2, .var 3 0), (5, .slice 1 4 1 0 n none), (6, .int .i64 0)] [some ⟨.ints .u8 zs, gk, false, 5⟩, some ⟨.ints .u8 ns, gn, false, 5⟩, some ⟨.ints .u8 ts, gt, owt, 5⟩, some ⟨.agg [.slice 1 0 gk 0 16 cpk, .slice 1 1 gn 0 12 cpn], 0, true, 60⟩, some ⟨.ints .u8 xs, 1, true, 5⟩] .normal [(5, .slice 1 4 1 0 n none)] [some ⟨.ints .u8 zs, gk, false, 5⟩, some ⟨.ints .u8 ns, gn, false, 5⟩, some ⟨.ints .u8 ts, gt, owt, 5⟩, some ⟨.agg [.slice 1 0 gk 0 16 cpk, .slice 1 1 gn 0 12 cpn], 0, true, 60⟩, some ⟨.ints .u8 (turnLaw (subLaw zs 0 16) (subLaw ns 0 12) xs), 1, true, 5⟩] := by
  have b1 := sub_bytes h3 0 16
  have b2 := sub_bytes h4 0 12
  unfold turnLaw
  refine To.rounds (fun j : Nat => [(2, .var 3 0), (5, .slice 1 4 1 0 n none), (6, .int .i64 ((16 * j : Nat) : Int))]) (fun j => [some ⟨.ints .u8 zs, gk, false, 5⟩, some ⟨.ints .u8 ns, gn, false, 5⟩, some ⟨.ints .u8 ts, gt, owt, 5⟩, some ⟨.agg [.slice 1 0 gk 0 16 cpk, .slice 1 1 gn 0 12 cpn], 0, true, 60⟩, some ⟨.ints .u8 (tnLaw (subLaw zs 0 16) (subLaw ns 0 12) xs j), 1, true, 5⟩]) ((xs.length + 15) / 16) (fun j hj => ?_) (To.of (o := E54 zs ns gk gn cpk cpn ts gt owt n (tnLaw (subLaw zs 0 16) (subLaw ns 0 12) xs ((xs.length + 15) / 16)) ((16 * ((xs.length + 15) / 16) : Nat) : Int)) eGt_ok hmA (Nat.le_refl 5) OrcOk.nil rfl (E54_ok ?_) E54_ex E54_fm E54_tab)
  · have e1 : ((16 * j : Nat) : Int).tdiv 16 = (j : Int) := by rw [Int.tdiv_eq_ediv_of_nonneg (by omega)]; omega
    have hl := tn_len (subLaw zs 0 16) (subLaw ns 0 12) xs j
    have hbb := tn_bytes b1 b2 hx j
    have hcb := ct_bytes b1 b2 (2 + (j : Int))
    have e2 : ((16 * j : Nat) : Int) = (((16 * j : Nat) : Int).toNat : Int) := by omega
    refine To.of (o := O54 zs ns gk gn cpk cpn ts gt owt n (tnLaw (subLaw zs 0 16) (subLaw ns 0 12) xs j) ((16 * j : Nat) : Int)) eGt_ok hmA (Nat.le_refl 5) (OrcOk.cons (fn := f54) g54i_ok (by kernel_rfl) OrcOk.nil) rfl (O54_ok ?_) O54_ex ?_ ?_
    · rw [e1]
      simp only [allP, Con.h, h1, h2, h3, h4, hl, hbb, hcb, Int.toNat_natCast, decide_eq_true_eq, eq_self, true_and, and_true]
      omega
    · rw [O54_fm, show ((16 * j : Nat) : Int) + 16 = ((16 * (j + 1) : Nat) : Int) by omega]
    · rw [O54_tab, e1, Int.toNat_natCast]; rfl
  · simp only [allP, Con.h, decide_eq_false_iff_not, and_true]
    omega
noncomputable def g54c (vs : List AVal) (T : Tab) (zs : List Int) (ns : List Int) (gk : Nat) (gn : Nat) (cpk : Option Nat) (cpn : Option Nat) (ts : List Int) (gt : Nat) (owt : Bool) (n : Nat) (xs : List Int) : Out := ⟨[.tab T [some ⟨.ints .u8 zs, gk, false, 5⟩, some ⟨.ints .u8 ns, gn, false, 5⟩, some ⟨.ints .u8 ts, gt, owt, 5⟩, some ⟨.agg [.slice 1 0 gk 0 16 cpk, .slice 1 1 gn 0 12 cpn], 0, true, 60⟩, some ⟨.ints .u8 xs, 1, true, 5⟩], .val (.tuple vs) (.tuple [.var 3 0, .slice 1 4 1 0 n none, .int .i64 0]), .leN 16 zs.length, .leN 12 ns.length, .p (Bytes zs), .p (Bytes ns), .eqN n xs.length, .leN n 140737488352000, .p (Bytes xs)], .normal, [(5, .slice 1 4 1 0 n none)], [some ⟨.ints .u8 zs, gk, false, 5⟩, some ⟨.ints .u8 ns, gn, false, 5⟩, some ⟨.ints .u8 ts, gt, owt, 5⟩, some ⟨.agg [.slice 1 0 gk 0 16 cpk, .slice 1 1 gn 0 12 cpn], 0, true, 60⟩, some ⟨.ints .u8 (turnLaw (subLaw zs 0 16) (subLaw ns 0 12) xs), 1, true, 5⟩], []⟩
theorem g54c_ok {vs : List AVal} {T : Tab} {zs : List Int} {ns : List Int} {gk : Nat} {gn : Nat} {cpk : Option Nat} {cpn : Option Nat} {ts : List Int} {gt : Nat} {owt : Bool} {n : Nat} {xs : List Int} (h : Ok (g54c vs T zs ns gk gn cpk cpn ts gt owt n xs)) : To eGt 45 5 (.block 0 (.loop (roundOf 0 f54))) (zipF [2,5,6] vs) T (g54c vs T zs ns gk gn cpk cpn ts gt owt n xs).ex (g54c vs T zs ns gk gn cpk cpn ts gt owt n xs).fm (g54c vs T zs ns gk gn cpk cpn ts gt owt n xs).tab := by
  obtain ⟨hT, hv, h1, h2, h3, h4, h5, h6, h7, _⟩ := h.h
  simp only [Con.h] at hT hv h1 h2 h3 h4 h5 h6 h7
  injection hv with hv
  subst hT hv
  exact loop54o h1 h2 h3 h4 h5 h6 h7
noncomputable def g54 : List AVal → Tab → Out := fun vs T => g54c vs T (xsAt T 0) (xsAt T 1) (gAt T 0) (gAt T 1) (capOf (cAt T 3 0)) (capOf (cAt T 3 1)) (xsAt T 2) (gAt T 2) (owAt T 2) (lenOf (vAt vs 1)) (xsAt T 4)
theorem g54_ok : BlkOk eGt f54 0 (.loop (roundOf 0 f54)) (blkS 5 [2,5,6] g54) := blkS_ok fun vs T h => g54c_ok h
noncomputable def orc54 : OrcL := [(0, blkS 5 [2,5,6] g54)]
theorem orc54_ok : FnOrc eGt f54 orc54 := FnOrc.cons g54_ok (by kernel_rfl) FnOrc.nil
noncomputable def R54 (zs ns : List Int) (gk gn : Nat) (cpk cpn : Option Nat) (ts : List Int) (gt : Nat) (owt : Bool) (n : Nat) (cp : Option Nat) : Res := resG 3 [0,1,2,4] (runF eGt f54 orc54 400 [.agg [.slice 1 0 gk 0 16 cpk, .slice 1 1 gn 0 12 cpn], .slice 1 2 gt 0 n cp] [some ⟨.ints .u8 zs, gk, false, 5⟩, some ⟨.ints .u8 ns, gn, false, 5⟩, some ⟨.ints .u8 ts, gt, owt, 5⟩] [])
theorem R54_ok {zs ns : List Int} {gk gn : Nat} {cpk cpn : Option Nat} {ts : List Int} {gt : Nat} {owt : Bool} {n : Nat} {cp : Option Nat} (h : allP [.eqN gt gt, .leN (0 + n) ts.length, .leN n 140737488355000, .leN 16 zs.length, .leN 12 ns.length, .p (Bytes zs), .p (Bytes ns), .eqN n (subLaw ts 0 n).length, .leN n 140737488352000, .p (Bytes (subLaw ts 0 n))]) : OkR (R54 zs ns gk gn cpk cpn ts gt
 owt n cp) := OkR.dem (fl := bitsF 14 0) (by kernel_rfl) (by kernel_rfl) (by kernel_rfl) h
theorem R54_val {zs ns : List Int} {gk gn : Nat} {cpk cpn : Option Nat} {ts : List Int} {gt : Nat} {owt : Bool} {n : Nat} {cp : Option Nat} : (R54 zs ns gk gn cpk cpn ts gt owt n cp).val = .slice 1 3 1 0 n none := by kernel_rfl
theorem R54_tab {zs ns : List Int} {gk gn : Nat} {cpk cpn : Option Nat} {ts : List Int} {gt : Nat} {owt : Bool} {n : Nat} {cp : Option Nat} : (R54 zs ns gk gn cpk cpn ts gt owt n cp).tab = [some ⟨.ints .u8 zs, gk, false, 5⟩, some ⟨.ints .u8 ns, gn, false, 5⟩, some ⟨.ints .u8 ts, gt, owt, 5⟩, some ⟨.ints .u8 (turnLaw (subLaw zs 0 16) (subLaw ns 0 12) (subLaw ts 0 n)), 1, true, 5⟩] := by kernel_rfl
noncomputable def sm54c (args : List AVal) (T : Tab) (zs : List Int) (ns : List Int) (gk : Nat) (gn : Nat) (cpk : Option Nat) (cpn : Option Nat) (ts : List Int) (gt : Nat) (owt : Bool) (n : Nat) (cp : Option Nat) : Res := ⟨[.tab T [some ⟨.ints .u8 zs, gk, false, 5⟩, some ⟨.ints .u8 ns, gn, false, 5⟩, some ⟨.ints .u8 ts, gt, owt, 5⟩], .val (.tuple args) (.tuple [.agg [.slice 1 0 gk 0 16 cpk, .slice 1 1 gn 0 12 cpn], .slice 1 2 gt 0 n cp]), .leN 16 zs.length, .leN 12 ns.length, .p (Bytes zs), .p (Bytes ns), .leN n ts.length, .leN n 140737488352000, .p (Bytes ts)], .slice 1 3 1 0 n none, [some ⟨.ints .u8 zs, gk, false, 5⟩, some ⟨.ints .u8 ns, gn, false, 5⟩, some ⟨.ints .u8 ts, gt, owt, 5⟩, some ⟨.ints .u8 (turnLaw (subLaw zs 0 16) (subLaw ns 0 12) (subLaw ts 0 n)), 1, true, 5⟩]⟩
theorem sm54c_ok {args : List AVal} {T : Tab} {zs : List Int} {ns : List Int} {gk : Nat} {gn : Nat} {cpk : Option Nat} {cpn : Option Nat} {ts : List Int} {gt : Nat} {owt : Bool} {n : Nat} {cp : Option Nat} (h : allP (sm54c args T zs ns gk gn cpk cpn ts gt owt n cp).cs) : Small prog (fun _ => none) 54 args T (sm54c args T zs ns gk gn cpk cpn ts gt owt n cp).val (sm54c args T zs ns gk gn cpk cpn ts gt owt n cp).tab := by
  obtain ⟨hT, hv, h1, h2, h3, h4, h5, h6, h7, _⟩ := h
  simp only [Con.h] at hT hv h1 h2 h3 h4 h5 h6 h7
  injection hv with hv
  subst hT hv
  have l1 : (subLaw ts 0 n).length = n := subLaw_len (by omega)
  have b1 := sub_bytes h7 0 n
  refine small_ofG (R := R54 zs ns gk gn cpk cpn ts gt owt n cp) (keep := [0,1,2,4]) eGt_ok hmA (f := 54) (fn := f54) (by kernel_rfl) (by kernel_rfl) orc54_ok rfl (R54_ok ?_) R54_val R54_tab
  simp only [allP, Con.h, l1, b1, h1, h2, h3, h4, h5, h6, Nat.zero_add, eq_self, true_and, and_true]
  try omega
noncomputable def sm54 : Summary := fun args T => sm54c args T (xsAt T 0) (xsAt T 1) (gAt T 0) (gAt T 1) (capOf (vAt (vsOf (vAt args 0)) 0)) (capOf (vAt (vsOf (vAt args 0)) 1)) (xsAt T 2) (gAt T 2) (owAt T 2) (lenOf (vAt args 1)) (capOf (vAt args 1))
theorem sm54_ok : SmOk prog (fun _ => none) 54 sm54 := fun args T h => sm54c_ok h
noncomputable def S54 : Summary := callR sm54 []
theorem S54_ok : SumOk prog (fun _ => none) 54 S54 := callR_ok sm54_ok []
/-! ### tag -/
noncomputable def S72 : Summary := sumI modeO (eA []) f72 [] 100 [] []
theorem S72_ok : SumOk prog (fun _ => none) 72 S72 := sumI_ok eA0_ok hmA (fn := f72) (by kernel_rfl) (by kernel_rfl) [] FnOrc.nil 100 [] []
noncomputable def eGg : Env := eA [(23, S23), (59, S59), (61, S61), (63, S63c), (71, S71), (72, S72), (73, S73)]
theorem eGg_ok : EnvOk eGg := envOf_ok tysA_ok (SumsOk.cons (fn := f23) S23_ok (by kernel_rfl) (by kernel_rfl) (by kernel_rfl) (SumsOk.cons (fn := f59) S59_ok (by kernel_rfl) (by kernel_rfl) (by kernel_rfl) (SumsOk.cons (fn := f61) S61_ok (by kernel_rfl) (by kernel_rfl) (by kernel_rfl) (SumsOk.cons (fn := f63) S63c_ok (by kernel_rfl) (by kernel_rfl) (by kernel_rfl) (SumsOk.cons (fn := f71) S71_ok (by kernel_rfl) (by kernel_rfl) (by kernel_rfl) (SumsOk.cons (fn := f72) S72_ok (by kernel_rfl) (by kernel_rfl) (by kernel_rfl) (SumsOk.cons (fn := f73) S73_ok (by kernel_rfl) (by kernel_rfl) (by kernel_rfl) trivial)))))))
noncomputable def R55 (zs ns : List Int) (gk gn : Nat) (cpk cpn : Option Nat) (ms ts : List Int) (gm gt n m : Nat) : Res := resG 4 [0,1,2,3,11] (runF eGg f55 [] 400 [.agg [.slice 1 0 gk 0 16 cpk, .slice 1 1 gn 0 12 cpn], .slice 1 2 gm 0 m none, .slice 1 3 gt 0 n none] [some ⟨.ints .u8 zs, gk, false, 5⟩, some ⟨.ints .u8 ns, gn, false, 5⟩, some ⟨.ints .u8 ms, gm, false, 5⟩, some ⟨.ints .u8 ts, gt, false, 5⟩] [])
theorem R55_ok {zs ns : List Int} {gk gn : Nat} {cpk cpn : Option Nat} {ms ts : List Int} {gm gt n m : Nat} (h : allP [.eqN gk gk, .eqN gk gk, .leN 16 zs.length, .p (Bytes (subLaw zs 0 16)), .p (Bytes (subLaw [0, 0, 0, 0, 0, 0, 0, 0, 0, 0, 0, 0, 0, 0, 0, 0] 0 16)), .eqN gm gm, .eqN gm gm, .rng 0 (↑m : Int) 18446744073709551615, .eqN gt gt, .eqN gt gt, .rng 0 (↑n : Int) 18446744073709551615, .p
 (Bytes (blockLaw (ksLaw (subLaw zs 0 16) 176) (subLaw [0, 0, 0, 0, 0, 0, 0, 0, 0, 0, 0, 0, 0, 0, 0, 0] 0 16))), .p (WpLaw [8 * (↑m : Int) % 18446744073709551616, 8 * (↑n : Int) % 18446744073709551616]), .eqN gm gm, .eqN gt gt, .leN m ms.length, .leN m 140737488352000, .p (Bytes ms), .leN n ts.length, .leN n 140737488352000, .p (Bytes ts), .p (Bytes (ptLaw [8 * (↑m : Int) % 18446744073709551616, 8 *
 (↑n : Int) % 18446744073709551616])), .p (WpLaw (gwLaw (subLaw (blockLaw (ksLaw (subLaw zs 0 16) 176) (subLaw [0, 0, 0, 0, 0, 0, 0, 0, 0, 0, 0, 0, 0, 0, 0, 0] 0 16)) 0 16))), .eqN gk gk, .eqN gn gn, .leN 16 zs.length, .leN 12 ns.length, .p (Bytes zs), .p (Bytes ns), .p (Bytes (ctLaw (subLaw zs 0 16) (subLaw ns 0 12) (OfNat.ofNat 1))), .p (WpLaw (hsLaw (gwLaw (subLaw (blockLaw (ksLaw (subLaw zs 0
 16) 176) (subLaw [0, 0, 0, 0, 0, 0, 0, 0, 0, 0, 0, 0, 0, 0, 0, 0] 0 16)) 0 16)) (hsLaw (gwLaw (subLaw (blockLaw (ksLaw (subLaw zs 0 16) 176) (subLaw [0, 0, 0, 0, 0, 0, 0, 0, 0, 0, 0, 0, 0, 0, 0, 0] 0 16)) 0 16)) (hsLaw (gwLaw (subLaw (blockLaw (ksLaw (subLaw zs 0 16) 176) (subLaw [0, 0, 0, 0, 0, 0, 0, 0, 0, 0, 0, 0, 0, 0, 0, 0] 0 16)) 0 16)) [0, 0] ms m) ts n) (ptLaw [8 * (↑m : Int) %
 18446744073709551616, 8 * (↑n : Int) % 18446744073709551616]) 16)), .p (WpLaw (gwLaw (subLaw (ctLaw (subLaw zs 0 16) (subLaw ns 0 12) (OfNat.ofNat 1)) 0 16))), .p (WpLaw (xwLaw (hsLaw (gwLaw (subLaw (blockLaw (ksLaw (subLaw zs 0 16) 176) (subLaw [0, 0, 0, 0, 0, 0, 0, 0, 0, 0, 0, 0, 0, 0, 0, 0] 0 16)) 0 16)) (hsLaw (gwLaw (subLaw (blockLaw (ksLaw (subLaw zs 0 16) 176) (subLaw [0, 0, 0, 0, 0, 0, 0,
 0, 0, 0, 0, 0, 0, 0, 0, 0] 0 16)) 0 16)) (hsLaw (gwLaw (subLaw (blockLaw (ksLaw (subLaw zs 0 16) 176) (subLaw [0, 0, 0, 0, 0, 0, 0, 0, 0, 0, 0, 0, 0, 0, 0, 0] 0 16)) 0 16)) [0, 0] ms m) ts n) (ptLaw [8 * (↑m : Int) % 18446744073709551616, 8 * (↑n : Int) % 18446744073709551616]) 16) (gwLaw (subLaw (ctLaw (subLaw zs 0 16) (subLaw ns 0 12) (OfNat.ofNat 1)) 0 16))))]) : OkR (R55 zs ns gk gn cpk cpn ms
 ts gm gt n m) := OkR.dem (fl := bitsF 115 26145559319512187383476048123134) (by kernel_rfl) (by kernel_rfl) (by kernel_rfl) h
theorem R55_val {zs ns : List Int} {gk gn : Nat} {cpk cpn : Option Nat} {ms ts : List Int} {gm gt n m : Nat} : (R55 zs ns gk gn cpk cpn ms ts gm gt n m).val = .slice 1 4 15 0 16 none := by kernel_rfl
theorem R55_tab {zs ns : List Int} {gk gn : Nat} {cpk cpn : Option Nat} {ms ts : List Int} {gm gt n m : Nat} : (R55 zs ns gk gn cpk cpn ms ts gm gt n m).tab = [some ⟨.ints .u8 zs, gk, false, 5⟩, some ⟨.ints .u8 ns, gn, false, 5⟩, some ⟨.ints .u8 ms, gm, false, 5⟩, some ⟨.ints .u8 ts, gt, false, 5⟩, some ⟨.ints .u8 (ptLaw (xwLaw (hsLaw (gwLaw (subLaw (blockLaw (ksLaw (subLaw zs 0 16) 176) (subLaw
 [0, 0, 0, 0, 0, 0, 0, 0, 0, 0, 0, 0, 0, 0, 0, 0] 0 16)) 0 16)) (hsLaw (gwLaw (subLaw (blockLaw (ksLaw (subLaw zs 0 16) 176) (subLaw [0, 0, 0, 0, 0, 0, 0, 0, 0, 0, 0, 0, 0, 0, 0, 0] 0 16)) 0 16)) (hsLaw (gwLaw (subLaw (blockLaw (ksLaw (subLaw zs 0 16) 176) (subLaw [0, 0, 0, 0, 0, 0, 0, 0, 0, 0, 0, 0, 0, 0, 0, 0] 0 16)) 0 16)) [0, 0] ms m) ts n) (ptLaw [8 * (↑m : Int) % 18446744073709551616, 8 * (↑n
 : Int) % 18446744073709551616]) 16) (gwLaw (subLaw (ctLaw (subLaw zs 0 16) (subLaw ns 0 12) (OfNat.ofNat 1)) 0 16)))), 15, true, 5⟩] := by kernel_rfl
end Go.Abs

set_option linter.unusedVariables false
set_option linter.unusedSimpArgs false
set_option maxRecDepth 8000
namespace Go.Abs
open Go.Proofs.Try
/-! ### tag -/
def zLaw16 : List Int := List.replicate 16 0
def hkLaw (K : List Int) : List Int := gwLaw (blockLaw (ksLaw K 176) zLaw16)
def lenLaw (m n : Nat) : List Int := [8 * (m : Int) % 18446744073709551616, 8 * (n : Int) % 18446744073709551616]
def tagLaw (K N M : List Int) (m : Nat) (X : List Int) (n : Nat) : List Int := ptLaw (xwLaw (hsLaw (hkLaw K) (hsLaw (hkLaw K) (hsLaw (hkLaw K) [0, 0] M m) X n) (ptLaw (lenLaw m n)) 16) (gwLaw (ctLaw K N 1)))
theorem WpLaw.mk {a b : Int} (ha : 0 ≤ a ∧ a < 18446744073709551616) (hb : 0 ≤ b ∧ b < 18446744073709551616) : WpLaw [a, b] := by
  refine ⟨a.toNat * 2 ^ 64 + b.toNat, by omega, ?_⟩
  unfold wN
  rw [Nat.shiftRight_eq_div_pow]
  congr 1
  · omega
  · congr 1; omega
theorem len_wp (m n : Nat) : WpLaw (lenLaw m n) := .mk (by omega) (by omega)
theorem z16_bytes : Bytes zLaw16 := Bytes.zer 16
theorem hk_wp {K : List Int} (h : Bytes K) : WpLaw (hkLaw K) := .gw (enc_bytes (ksLaw_bytes h 176) z16_bytes 10) rfl
theorem tag_bytes (K N M : List Int) (m : Nat) (X : List Int) (n : Nat) : Bytes (tagLaw K N M m X n) := pt_bytes _
theorem tag_len (K N M : List Int) (m : Nat) (X : List Int) (n : Nat) : (tagLaw K N M m X n).length = 16 := rfl
noncomputable def sm55c (args : List AVal) (T : Tab) (zs : List Int) (ns : List Int) (gk : Nat) (gn : Nat) (cpk : Option Nat) (cpn : Option Nat) (ms : List Int) (ts : List Int) (gm : Nat) (gt : Nat) (n : Nat) (m : Nat) : Res := ⟨[.tab T [some ⟨.ints .u8 zs, gk, false, 5⟩, some ⟨.ints .u8 ns, gn, false, 5⟩, some ⟨.ints .u8 ms, gm, false, 5⟩, some ⟨.ints .u8 ts, gt, false, 5⟩], .val (.tuple args) (.tuple [.agg [.slice 1 0 gk 0 16 cpk, .slice 1 1 gn 0 12 cpn], .slice 1 2 gm 0 m none, .slice 1 3 gt 0 n none]), .leN 16 zs.length, .leN 12 ns.length, .p (Bytes zs), .p (Bytes ns), .leN m ms.length, .leN m 140737488352000, .p (Bytes ms), .leN n ts.length, .leN n 140737488352000, .p (Bytes ts)], .slice 1 4 15 0 16 none, [some ⟨.ints .u8 zs, gk, false, 5⟩, some ⟨.ints .u8 ns, gn, false, 5⟩, some ⟨.ints .u8 ms, gm, false, 5⟩, some ⟨.ints .u8 ts, gt, false, 5⟩, some ⟨.ints .u8 (tagLaw (subLaw zs 0 16) (subLaw ns 0 12) ms m ts n), 15, true, 5⟩]⟩
theorem sm55c_ok {args : List AVal} {T : Tab} {zs : List Int} {ns : List Int} {gk : Nat} {gn : Nat} {cpk : Option Nat} {cpn : Option Nat} {ms : List Int} {ts : List Int} {gm : Nat} {gt : Nat} {n : Nat} {m : Nat} (h : allP (sm55c args T zs ns gk gn cpk cpn ms ts gm gt n m).cs) : Small prog (fun _ => none) 55 args T (sm55c args T zs ns gk gn cpk cpn ms ts gm gt n m).val (sm55c args T zs ns gk gn cpk cpn ms ts gm gt n m).tab := by
  obtain ⟨hT, hv, h1, h2, h3, h4, h5, h6, h7, h8, h9, h10, _⟩ := h
  simp only [Con.h] at hT hv h1 h2 h3 h4 h5 h6 h7 h8 h9 h10
  injection hv with hv
  subst hT hv
  have b1 := sub_bytes h3 0 16
  have b2 := sub_bytes h4 0 12
  have e1 : subLaw [0, 0, 0, 0, 0, 0, 0, 0, 0, 0, 0, 0, 0, 0, 0, 0] 0 16 = zLaw16 := rfl
  have e2 : subLaw (blockLaw (ksLaw (subLaw zs 0 16) 176) zLaw16) 0 16 = blockLaw (ksLaw (subLaw zs 0 16) 176) zLaw16 := sub_n rfl
  have e3 : subLaw (ctLaw (subLaw zs 0 16) (subLaw ns 0 12) 1) 0 16 = ctLaw (subLaw zs 0 16) (subLaw ns 0 12) 1 := sub_n rfl
  have e4 : [8 * (m : Int) % 18446744073709551616, 8 * (n : Int) % 18446744073709551616] = lenLaw m n := rfl
  have e5 : gwLaw (blockLaw (ksLaw (subLaw zs 0 16) 176) zLaw16) = hkLaw (subLaw zs 0 16) := rfl
  have c1 := enc_bytes (ksLaw_bytes b1 176) z16_bytes 10
  have c2 : Bytes (blockLaw (ksLaw (subLaw zs 0 16) 176) zLaw16) := c1
  have c3 := ct_bytes b1 b2 1
  have w0 := WpLaw.zero
  have wk := hk_wp b1
  have w1 := hs_wp (h := hkLaw (subLaw zs 0 16)) w0 h5 h7
  have w2 := hs_wp (h := hkLaw (subLaw zs 0 16)) w1 h8 h10
  have pb := pt_bytes (lenLaw m n)
  have pl := pt_len (lenLaw m n)
  have w3 := hs_wp (h := hkLaw (subLaw zs 0 16)) w2 (z := ptLaw (lenLaw m n)) (n := 16) (by omega) pb
  have w4 : WpLaw (gwLaw (ctLaw (subLaw zs 0 16) (subLaw ns 0 12) 1)) := .gw c3 rfl
  have w5 := w3.xw w4
  have lw := len_wp m n
  have k1 : (1 : Int) = OfNat.ofNat 1 := rfl
  refine small_ofG (R := R55 zs ns gk gn cpk cpn ms ts gm gt n m) (keep := [0,1,2,3,11]) eGg_ok hmA (f := 55) (fn := f55) (by kernel_rfl) (by kernel_rfl) FnOrc.nil rfl (R55_ok ?_) R55_val (by rw [R55_tab]; simp only [e1, e2, e3, e4, e5]; rfl)
  simp only [allP, Con.h, e1, e2, e3, e4, e5, c2, c3, wk, w3, w4, w5, lw, pb, pl, h1, h2, h3, h4, h5, h6, h7, h8, h9, h10, b1, z16_bytes, eq_self, true_and, and_true]
  first | omega | exact ⟨by omega, by omega, by decide, by decide⟩ | skip
noncomputable def sm55 : Summary := fun args T => sm55c args T (xsAt T 0) (xsAt T 1) (gAt T 0) (gAt T 1) (capOf (vAt (vsOf (vAt args 0)) 0)) (capOf (vAt (vsOf (vAt args 0)) 1)) (xsAt T 2) (xsAt T 3) (gAt T 2) (gAt T 3) (lenOf (vAt args 2)) (lenOf (vAt args 1))
theorem sm55_ok : SmOk prog (fun _ => none) 55 sm55 := fun args T h => sm55c_ok h
noncomputable def S55 : Summary := callR sm55 []
theorem S55_ok : SumOk prog (fun _ => none) 55 S55 := callR_ok sm55_ok []
end Go.Abs

set_option linter.unusedVariables false
set_option linter.unusedSimpArgs false
set_option maxRecDepth 8000
namespace Go.Abs
open Go.Proofs.Try
structure Exa (z0 : List Int) (g0 n0 ga : Nat) (kx : List Int) : Prop where
  pz0 : n0 ≤ z0.length
  pm0 : n0 ≤ 140737488352000
  pb0 : Bytes z0
  pk : WpLaw kx
noncomputable def H1a : Host := ⟨#[9], as63, bd63, [(2, .var 2 0), (4, .var 3 0), (5, .var 4 0), (8, .func (.func 79) [] [.var 5 0])], 16⟩
noncomputable def H2a0 (z0 : List Int) (g0 n0 ga : Nat) (kx : List Int) : Host := ⟨#[14], as79, bd79, [(1, .var 5 0), (2, .var 6 0), (6, .slice 1 0 ga 0 1 (some 1)), (7, .int .i64 1), (8, .int .i64 0), (13, .func (.func 81) [] [.var 7 0, .var 8 0])], 30⟩
theorem amba0 (z0 : List Int) (g0 n0 ga : Nat) (kx : List Int) (l1 l2 : Nat) : ambIn 9 [(l2, H2a0 z0 g0 n0 ga kx), (l1, H1a)] := fun x hx => by
  rcases List.mem_cons.1 hx with rfl | hx
  · exact fmIn_of rfl
  · exact ambIn_one rfl x hx
theorem ambMa0 (z0 : List Int) (g0 n0 ga : Nat) (kx : List Int) (l1 l2 : Nat) : ambIn 10 [(l2, H2a0 z0 g0 n0 ga kx), (l1, H1a)] := fun x hx => by
  rcases List.mem_cons.1 hx with rfl | hx
  · exact fmIn_of rfl
  · exact ambIn_one rfl x hx
theorem chfa0 {z0 : List Int} {g0 n0 ga : Nat} {kx : List Int} (e : Exa z0 g0 n0 ga kx) {y : List Int} (hy : WpLaw y) (l1 l2 : Nat) {j : Nat} (hj : 16 * j + 16 ≤ n0) :
    YWp eGh 30 9 [(l2, H2a0 z0 g0 n0 ga kx), (l1, H1a)] bd79 [(2, .var 6 0), (5, .slice 1 1 g0 (16 * j) 16 (some 16))] (TNa0 z0 g0 n0 ga kx y l1) [(.busy, none), (.ready, none)] fun ex fm T σ => ex = .normal ∧ T = ((TNa0 z0 g0 n0 ga kx (mwLaw (xwLaw y (gwLaw (ckLaw z0 n0 j))) kx) l1) : Tab) ∧ σ = [(.busy, none), (.ready, none)] := by
  have hamb := amba0 z0 g0 n0 ga kx l1 l2
  have hambM := ambMa0 z0 g0 n0 ga kx l1 l2
  have hz := e.pz0
  have hbz := e.pb0
  have hcl := ck_len hz j
  have hcb := ck_bytes hbz n0 j
  have eb : (subLaw z0 (addO (16 * j) 0) 16) = (ckLaw z0 n0 j) := by rw [addO_eq, Nat.add_zero, ck_full hj]
  have hw : WpLaw (gwLaw (subLaw z0 (addO (16 * j) 0) 16)) := by rw [eb]; exact .gw hcb hcl
  rw [bd79_eq]
  refine YWp.block (YWp.seq (YWp.yieldDrawn eGh_ok hmA (l1 := ops79.toList.take 12) (oy := ops79.toList.getD 12 default) (o2 := ops79.toList.getD 13 default) (by kernel_rfl) (ds1 := [some true]) (o1 := Dfa0 z0 g0 n0 ga kx y l1 l2 (16 * j)) (by kernel_rfl) (by kernel_rfl) (by kernel_rfl) (by kernel_rfl) (by kernel_rfl) (by kernel_rfl) (Dfa0_ok ?_) (f := .tmp 15) (x := .tmp 26) (t := 27) (c := theCall (ops79.toList.getD 12 default)) (by kernel_rfl) (by kernel_rfl) (by kernel_rfl) (by kernel_rfl) (by kernel_rfl) (by kernel_rfl) (by decide) (i := 1) (l := l1) (H := H1a) (by rw [Dfa0_fm]; rfl) (v := .ints .u64 (gwLaw (subLaw z0 (addO (16 * j) 0) 16))) (by rw [Dfa0_fm]; rfl) rfl rfl (p := 9) rfl (by decide) (kk := 9) (by decide) (by rw [Dfa0_fm]; exact fmIn_of rfl) hamb ?_))
  · simp only [allP, Con.h, addO_eq, Nat.add_zero, hbz, eq_self, true_and, and_true]
    omega
  rw [Dfa0_tab]
  refine YWp.ofTo (To.of (o := A6fa0 z0 g0 n0 ga kx y l1 (gwLaw (subLaw z0 (addO (16 * j) 0) 16))) eGh_ok hmA (Nat.le_refl 9) OrcOk.nil rfl (A6fa0_ok ⟨hw.len, trivial⟩) A6fa0_ex A6fa0_fm A6fa0_tab) hamb ⟨rfl, rfl, ?_⟩
  refine YWp.ofTo (To.of (o := B6fa0 z0 g0 n0 ga kx y l1 (gwLaw (subLaw z0 (addO (16 * j) 0) 16))) eGh_ok hmA (Nat.le_refl 9) OrcOk.nil rfl (B6fa0_ok ?_) B6fa0_ex B6fa0_fm B6fa0_tab) hamb ⟨by decide, [], Nta0 z0 g0 n0 ga kx (mwLaw (xwLaw y (gwLaw (subLaw z0 (addO (16 * j) 0) 16))) kx) l1 _, rfl, Nta0_ok trivial, ?_⟩
  · have h1 := hy.len
    have h2 := hw.len
    have h3 := e.pk.len
    have h4 := hy.xw hw
    simp only [allP, Con.h, h1, h2, h3, h4, hy, hw, e.pk, and_true, true_and]
  rw [Nta0_fm, Nta0_tab, eb]
  show YWp eGh 30 9 [(l2, H2a0 z0 g0 n0 ga kx), (l1, H1a)] cnd79 _ _ _ _
  rw [cnd79_eq]
  exact YWp.cond (b := false) rfl (fun h => by cases h) (fun _ => YWp.skip hamb ⟨rfl, rfl, rfl⟩)
theorem chpa0 {z0 : List Int} {g0 n0 ga : Nat} {kx : List Int} (e : Exa z0 g0 n0 ga kx) {y : List Int} (hy : WpLaw y) (l1 l2 : Nat) {j r : Nat} (hr : r < 16) (hj : 16 * j + r = n0) :
    YWp eGh 30 9 [(l2, H2a0 z0 g0 n0 ga kx), (l1, H1a)] bd79 [(2, .var 6 0), (5, .slice 1 1 g0 (16 * j) r (some r))] (TNa0 z0 g0 n0 ga kx y l1) [(.busy, none), (.ready, none)] fun ex fm T σ => ex = .normal ∧ T = ((TNa0 z0 g0 n0 ga kx (mwLaw (xwLaw y (gwLaw (ckLaw z0 n0 j))) kx) l1) : Tab) ∧ σ = [(.busy, none), (.ready, none)] := by
  have hamb := amba0 z0 g0 n0 ga kx l1 l2
  have hambM := ambMa0 z0 g0 n0 ga kx l1 l2
  have hz := e.pz0
  have hbz := e.pb0
  have hcl := ck_len hz j
  have hcb := ck_bytes hbz n0 j
  have ex0 : (List.take r (dropO (addO (16 * j) 0) z0) ++ List.replicate (16 - (r : Int)).toNat 0) = (ckLaw z0 n0 j) := by
    rw [addO_eq, Nat.add_zero, dropO_eq, ck_part (by omega), show n0 - 16 * j = r by omega, show (16 - (r : Int)).toNat = 16 - r by omega]
  have eb : (subLaw (List.take r (dropO (addO (16 * j) 0) z0) ++ List.replicate (16 - (r : Int)).toNat 0) 0 16) = (ckLaw z0 n0 j) := by
    rw [ex0, take_sub, List.take_of_length_le (by omega)]
  have hw : WpLaw (gwLaw (subLaw (List.take r (dropO (addO (16 * j) 0) z0) ++ List.replicate (16 - (r : Int)).toNat 0) 0 16)) := by rw [eb]; exact .gw hcb hcl
  rw [bd79_eq]
  refine YWp.block (YWp.seq (YWp.yieldDrawn eGh_ok hmA (l1 := ops79.toList.take 12) (oy := ops79.toList.getD 12 default) (o2 := ops79.toList.getD 13 default) (by kernel_rfl) (ds1 := [some false]) (o1 := Dpa0 z0 g0 n0 ga kx y l1 l2 (16 * j) r) (by kernel_rfl) (by kernel_rfl) (by kernel_rfl) (by kernel_rfl) (by kernel_rfl) (by kernel_rfl) (Dpa0_ok ?_) (f := .tmp 15) (x := .tmp 26) (t := 27) (c := theCall (ops79.toList.getD 12 default)) (by kernel_rfl) (by kernel_rfl) (by kernel_rfl) (by kernel_rfl) (by kernel_rfl) (by kernel_rfl) (by decide) (i := 1) (l := l1) (H := H1a) (by rw [Dpa0_fm]; rfl) (v := .ints .u64 (gwLaw (subLaw (List.take r (dropO (addO (16 * j) 0) z0) ++ List.replicate (16 - (r : Int)).toNat 0) 0 16))) (by rw [Dpa0_fm]; rfl) rfl rfl (p := 9) rfl (by decide) (kk := 10) (by decide) (by rw [Dpa0_fm]; exact fmIn_of rfl) hamb ?_))
  · rw [ex0]
    simp only [allP, Con.h, addO_eq, Nat.add_zero, hcl, hcb, eq_self, true_and, and_true]
    omega
  rw [Dpa0_tab]
  refine YWp.ofTo (To.of (o := A6pa0 z0 g0 n0 ga kx y l1 (List.take r (dropO (addO (16 * j) 0) z0) ++ List.replicate (16 - (r : Int)).toNat 0) (gwLaw (subLaw (List.take r (dropO (addO (16 * j) 0) z0) ++ List.replicate (16 - (r : Int)).toNat 0) 0 16))) eGh_ok hmA (Nat.le_refl 10) OrcOk.nil rfl (A6pa0_ok ⟨hw.len, trivial⟩) A6pa0_ex A6pa0_fm A6pa0_tab) hambM ⟨rfl, rfl, ?_⟩
  refine YWp.ofTo (To.of (o := B6pa0 z0 g0 n0 ga kx y l1 (List.take r (dropO (addO (16 * j) 0) z0) ++ List.replicate (16 - (r : Int)).toNat 0) (gwLaw (subLaw (List.take r (dropO (addO (16 * j) 0) z0) ++ List.replicate (16 - (r : Int)).toNat 0) 0 16))) eGh_ok hmA (Nat.le_refl 10) OrcOk.nil rfl (B6pa0_ok ?_) B6pa0_ex B6pa0_fm B6pa0_tab) hambM ⟨by decide, [], Nqa0 z0 g0 n0 ga kx (mwLaw (xwLaw y (gwLaw (subLaw (List.take r (dropO (addO (16 * j) 0) z0) ++ List.replicate (16 - (r : Int)).toNat 0) 0 16))) kx) l1 (List.take r (dropO (addO (16 * j) 0) z0) ++ List.replicate (16 - (r : Int)).toNat 0) _, rfl, Nqa0_ok trivial, ?_⟩
  · have h1 := hy.len
    have h2 := hw.len
    have h3 := e.pk.len
    have h4 := hy.xw hw
    simp only [allP, Con.h, h1, h2, h3, h4, hy, hw, e.pk, and_true, true_and]
  rw [Nqa0_fm, Nqa0_tab, eb]
  show YWp eGh 30 9 [(l2, H2a0 z0 g0 n0 ga kx), (l1, H1a)] cnd79 _ _ _ _
  refine YWp.sub (f := [(28, .bool false)]) ⟨rfl, trivial⟩ ?_
  exact YWp.ofTo (To.of (k := 9) (o := Cpa0 z0 g0 n0 ga kx (mwLaw (xwLaw y (gwLaw (ckLaw z0 n0 j))) kx) l1 (List.take r (dropO (addO (16 * j) 0) z0) ++ List.replicate (16 - (r : Int)).toNat 0)) eGh_ok hmA (Nat.le_refl 9) OrcOk.nil rfl (Cpa0_ok trivial) Cpa0_ex Cpa0_fm Cpa0_tab) hamb ⟨rfl, rfl, rfl⟩
theorem cha0 {z0 : List Int} {g0 n0 ga : Nat} {kx : List Int} (e : Exa z0 g0 n0 ga kx) {y : List Int} (hy : WpLaw y) (l1 l2 : Nat) {j : Nat} (hj : 16 * j < n0) :
    YWp eGh 30 9 [(l2, H2a0 z0 g0 n0 ga kx), (l1, H1a)] bd79 [(2, .var 6 0), (5, .slice 1 1 g0 (16 * j) (min 16 (n0 - 16 * j)) (some (min 16 (n0 - 16 * j))))] (TNa0 z0 g0 n0 ga kx y l1) [(.busy, none), (.ready, none)] fun ex fm T σ => ex = .normal ∧ T = ((TNa0 z0 g0 n0 ga kx (mwLaw (xwLaw y (gwLaw (ckLaw z0 n0 j))) kx) l1) : Tab) ∧ σ = [(.busy, none), (.ready, none)] := by
  by_cases h : 16 * j + 16 ≤ n0
  · rw [show min 16 (n0 - 16 * j) = 16 by omega]
    exact chfa0 e hy l1 l2 h
  · exact chpa0 e hy l1 l2 (by omega) (by omega)
theorem rda0 {z0 : List Int} {g0 n0 ga : Nat} {kx : List Int} (e : Exa z0 g0 n0 ga kx) {y : List Int} (hy : WpLaw y) (l1 l2 : Nat) {j : Nat} (hj : 16 * j < n0) :
    YWp eGh 31 9 [(l2, H2a0 z0 g0 n0 ga kx), (l1, H1a)] (roundOf 0 f81) [(0, .func (.yield l2) [] []), (1, .var 7 0), (2, .var 8 0), (4, .int .i64 ((16 * j : Nat) : Int))] (TNa0 z0 g0 n0 ga kx y l1) [(.ready, none), (.ready, none)] fun ex fm T σ => ex = .normal ∧ fm = [(0, .func (.yield l2) [] []), (1, .var 7 0), (2, .var 8 0), (4, .int .i64 ((16 * (j + 1) : Nat) : Int))] ∧ T = ((TNa0 z0 g0 n0 ga kx (mwLaw (xwLaw y (gwLaw (ckLaw z0 n0 j))) kx) l1) : Tab) ∧ σ = [(.ready, none), (.ready, none)] := by
  have hamb := amba0 z0 g0 n0 ga kx l1 l2
  have hz := e.pz0
  have hm := e.pm0
  skip
  have er : (if (↑(subO n0 ((16 * j : Nat) : Int).toNat) : Int) < 16 then (↑(subO n0 ((16 * j : Nat) : Int).toNat) : Int) else 16) = ((min 16 (n0 - 16 * j) : Nat) : Int) := by
    rw [Int.toNat_natCast, subO_eq, min16]
  have e1 : ((16 * j : Nat) : Int).toNat = 16 * j := Int.toNat_natCast _
  have e2 : subO (((16 * j : Nat) : Int) + ((min 16 (n0 - 16 * j) : Nat) : Int)).toNat (16 * j) = min 16 (n0 - 16 * j) := by rw [subO_eq]; omega
  rw [split81]
  refine YWp.seq (YWp.ofTo (To.of (o := Hya0 z0 g0 n0 ga kx y l1 l2 ((16 * j : Nat) : Int)) eGh_ok hmA (Nat.le_refl 9) OrcOk.nil rfl (Hya0_ok ?_) Hya0_ex Hya0_fm Hya0_tab) hamb ?_)
  · simp only [allP, Con.h, decide_eq_true_eq, eq_self, true_and, and_true]; omega
  refine YWp.seq (YWp.block (YWp.seq (YWp.ofTo (To.of (o := Msa0 z0 g0 n0 ga kx y l1 l2 ((16 * j : Nat) : Int)) (fm' := [(0, .func (.yield l2) [] []), (1, .var 7 0), (2, .var 8 0), (4, .int .i64 ((16 * j : Nat) : Int))] ++ [(5, .int .i64 ((min 16 (n0 - 16 * j) : Nat) : Int))]) eGh_ok hmA (Nat.le_refl 9) OrcOk.nil rfl (Msa0_ok ?_) Msa0_ex (by rw [Msa0_fm, er]; rfl) Msa0_tab) hamb ?_)))
  · simp only [allP, Con.h, eq_self, true_and, and_true]; omega
  refine YWp.seq (YWp.yieldRegion eGh_ok (l1 := ops81.toList.take 10) (l2 := ops81.toList.drop 11) (oy := ops81.toList.getD 10 default) (by kernel_rfl) (ds1 := []) (o1 := Yaa0 z0 g0 n0 ga kx y l1 l2 ((16 * j : Nat) : Int) ((min 16 (n0 - 16 * j) : Nat) : Int)) (by kernel_rfl) (Yaa0_ok ?_) (f := .tmp 19) (x := .tmp 28) (t := 29) (c := theCall (ops81.toList.getD 10 default)) (by kernel_rfl) (by kernel_rfl) (by kernel_rfl) (by kernel_rfl) (by kernel_rfl) (by decide) (i := 0) (l := l2) (H := H2a0 z0 g0 n0 ga kx) (by rw [Yaa0_fm]; rfl) (v := .slice 1 1 g0 (16 * j) (min 16 (n0 - 16 * j)) (some (min 16 (n0 - 16 * j)))) (by rw [Yaa0_fm, e1, e2]; rfl) rfl rfl (p := 14) rfl (show 14 < 30 by decide) (kk := 9) (Nat.le_refl _) (by rw [Yaa0_fm]; exact fmIn_of rfl) hamb ?_)
  · simp only [allP, Con.h, eq_self, true_and, and_true]; omega
  rw [Yaa0_tab]
  refine YWp.ofTo (To.of (o := Asa0 z0 g0 n0 ga kx y l1 l2 (16 * j) (min 16 (n0 - 16 * j))) eGh_ok hmA (Nat.le_refl 9) OrcOk.nil rfl (Asa0_ok trivial) Asa0_ex Asa0_fm Asa0_tab) hamb ⟨rfl, rfl, ?_⟩
  refine YWp.mono (cha0 e hy l1 l2 hj) fun ex fm T σ hP => ?_
  obtain ⟨rfl, rfl, rfl⟩ := hP
  refine ⟨by decide, [], Nua0 z0 g0 n0 ga kx (mwLaw (xwLaw y (gwLaw (ckLaw z0 n0 j))) kx) l1 _, rfl, Nua0_ok trivial, ?_⟩
  rw [Nua0_fm, Nua0_tab, Yaa0_fm]
  show YWp eGh 31 9 [(l2, H2a0 z0 g0 n0 ga kx), (l1, H1a)] cnd81 _ _ _ _
  rw [cnd81_eq]
  refine YWp.cond (b := false) rfl (fun h => by cases h) (fun _ => YWp.skip hamb ?_)
  show YWp eGh 31 9 [(l2, H2a0 z0 g0 n0 ga kx), (l1, H1a)] r81 _ _ _ _
  refine YWp.sub (f := [(0, .func (.yield l2) [] []), (1, .var 7 0), (2, .var 8 0), (4, .int .i64 ((16 * j : Nat) : Int))]) ⟨rfl, rfl, rfl, rfl, trivial⟩ ?_
  refine YWp.ofTo (To.of (o := Rba0 z0 g0 n0 ga kx _ l1 l2 ((16 * j : Nat) : Int)) eGh_ok hmA (Nat.le_refl 9) OrcOk.nil rfl (Rba0_ok ?_) Rba0_ex Rba0_fm Rba0_tab) hamb ⟨rfl, ?_, rfl, rfl⟩
  · simp only [allP, Con.h, and_true]; omega
  · rw [show ((16 * j : Nat) : Int) + 16 = ((16 * (j + 1) : Nat) : Int) by omega]
theorem ina0 {z0 : List Int} {g0 n0 ga : Nat} {kx : List Int} (e : Exa z0 g0 n0 ga kx) {y : List Int} (hy : WpLaw y) (l1 l2 : Nat) :
    YWp eGh 31 9 [(l2, H2a0 z0 g0 n0 ga kx), (l1, H1a)] (bodyOf f81) (argF ([] ++ (.func (.yield l2) [] [] :: [.var 7 0, .var 8 0])) 0) (TNa0 z0 g0 n0 ga kx y l1) [(.ready, none), (.ready, none)] fun ex fm' T' σ' =>
      (ex = .normal ∨ ex = .ret) ∧ (∃ cs us, aRes eGh fm' T' f81.results.toList = some (cs, us) ∧ allP cs) ∧ ∃ st σ2, σ' = st :: σ2 ∧ st.1 ≠ .busy ∧
        match st.2 with
        | none => AExit.normal = .normal ∧ [(1, .var 5 0), (2, .var 6 0), (6, .slice 1 0 ga 0 1 (some 1)), (7, .int .i64 1), (8, .int .i64 0), (13, .func (.func 81) [] [.var 7 0, .var 8 0])] = (H2a0 z0 g0 n0 ga kx).fm ∧ T' = (TNa0 z0 g0 n0 ga kx (hsLaw kx y z0 n0) l1) ∧ σ2 = [(.ready, none)]
        | some (.exit id) => AExit.exit id = .normal ∧ [(1, .var 5 0), (2, .var 6 0), (6, .slice 1 0 ga 0 1 (some 1)), (7, .int .i64 1), (8, .int .i64 0), (13, .func (.func 81) [] [.var 7 0, .var 8 0])] = (H2a0 z0 g0 n0 ga kx).fm ∧ T' = (TNa0 z0 g0 n0 ga kx (hsLaw kx y z0 n0) l1) ∧ σ2 = [(.ready, none)]
        | some .ret => AExit.ret = .normal ∧ [(1, .var 5 0), (2, .var 6 0), (6, .slice 1 0 ga 0 1 (some 1)), (7, .int .i64 1), (8, .int .i64 0), (13, .func (.func 81) [] [.var 7 0, .var 8 0])] = (H2a0 z0 g0 n0 ga kx).fm ∧ T' = (TNa0 z0 g0 n0 ga kx (hsLaw kx y z0 n0) l1) ∧ σ2 = [(.ready, none)]
        | _ => False := by
  have hamb := amba0 z0 g0 n0 ga kx l1 l2
  rw [splitb81, res81]
  refine YWp.seq (YWp.ofTo (To.of (o := Zsa0 z0 g0 n0 ga kx y l1 l2) eGh_ok hmA (Nat.le_refl 9) OrcOk.nil rfl (Zsa0_ok trivial) Zsa0_ex Zsa0_fm Zsa0_tab) hamb ?_)
  refine YWp.block (YWp.loop (fun fm T σ μ => ∃ j, 16 * j < n0 + 16 ∧ μ = n0 + 16 - j ∧ fm = [(0, .func (.yield l2) [] []), (1, .var 7 0), (2, .var 8 0), (4, .int .i64 ((16 * j : Nat) : Int))] ∧ T = (TNa0 z0 g0 n0 ga kx (hyLaw kx y z0 n0 j) l1) ∧ σ = [(.ready, none), (.ready, none)]) (n0 + 16) ⟨0, by omega, rfl, rfl, rfl, rfl⟩ ?_)
  rintro fm T σ μ ⟨j, hj, rfl, rfl, rfl, rfl⟩
  by_cases h : 16 * j < n0
  · refine YWp.mono (rda0 e (hy_wp hy e.pz0 e.pb0 j) l1 l2 h) fun ex fm T σ hP => ?_
    obtain ⟨rfl, rfl, rfl, rfl⟩ := hP
    exact ⟨n0 + 16 - (j + 1), by omega, j + 1, by omega, rfl, rfl, rfl, rfl⟩
  · rw [split81]
    refine YWp.seq (YWp.ofTo (To.of (o := Hna0 z0 g0 n0 ga kx (hyLaw kx y z0 n0 j) l1 l2 ((16 * j : Nat) : Int)) eGh_ok hmA (Nat.le_refl 9) OrcOk.nil rfl (Hna0_ok ?_) Hna0_ex Hna0_fm Hna0_tab) hamb ?_)
    · simp only [allP, Con.h, decide_eq_false_iff_not, eq_self, true_and, and_true]; omega
    obtain rfl : j = (n0 + 15) / 16 := by omega
    exact ⟨.inl rfl, ⟨[], [], rfl, trivial⟩, (.ready, none), _, rfl, by decide, rfl, rfl, rfl, rfl⟩
theorem roa0 {z0 : List Int} {g0 n0 ga : Nat} {kx : List Int} (e : Exa z0 g0 n0 ga kx) {y : List Int} (hy : WpLaw y) (l1 : Nat) :
    YWp eGh 30 6 [(l1, H1a)] (roundOf 0 f79) [(1, .var 5 0), (2, .var 6 0), (6, .slice 1 0 ga 0 1 (some 1)), (7, .int .i64 1), (8, .int .i64 0)] (TPa z0 g0 n0 ga kx y l1) [(.ready, none)] fun ex fm T σ => ex = .normal ∧ fm = [(1, .var 5 0), (2, .var 6 0), (6, .slice 1 0 ga 0 1 (some 1)), (7, .int .i64 1), (8, .int .i64 1)] ∧ T = ((TPa z0 g0 n0 ga kx (hsLaw kx y z0 n0) l1) : Tab) ∧ σ = [(.ready, none)] := by
  have hamb : ambIn 6 [(l1, H1a)] := ambIn_one rfl
  rw [split79]
  refine YWp.seq (YWp.ofTo (To.base (by decide) (To.of (o := Hda0 z0 g0 n0 ga kx y l1) eGh_ok hmA (Nat.le_refl 7) OrcOk.nil rfl (Hda0_ok trivial) Hda0_ex Hda0_fm Hda0_tab)) hamb ?_)
  refine YWp.seq ?_
  rw [c79_eq]
  refine YWp.cond (b := true) rfl (fun _ => YWp.skip hamb ?_) (fun h => by cases h)
  refine YWp.sub (f := [(1, .var 5 0), (2, .var 6 0), (6, .slice 1 0 ga 0 1 (some 1)), (7, .int .i64 1), (8, .int .i64 0)]) ⟨rfl, rfl, rfl, rfl, rfl, trivial⟩ ?_
  refine YWp.seq (YWp.block (YWp.seq (YWp.ofTo (To.base (by decide) (To.of (o := Paa0 z0 g0 n0 ga kx y l1) eGh_ok hmA (Nat.le_refl 7) OrcOk.nil rfl (Paa0_ok ⟨rfl, rfl, trivial⟩) Paa0_ex Paa0_fm Paa0_tab)) hamb ?_)))
  refine YWp.sub (f := ((4, .slice 1 1 g0 0 n0 none) :: [(1, .var 5 0), (2, .var 6 0), (6, .slice 1 0 ga 0 1 (some 1)), (7, .int .i64 1), (8, .int .i64 0)])) ⟨rfl, rfl, rfl, rfl, rfl, rfl, trivial⟩ ?_
  refine YWp.seq (YWp.ofTo (To.base (by decide) (To.of (k := 7) (o := Pba0 z0 g0 n0 ga kx y l1) eGh_ok hmA (Nat.le_refl 7) OrcOk.nil rfl (Pba0_ok ⟨rfl, trivial⟩) Pba0_ex Pba0_fm Pba0_tab)) hamb ?_)
  refine YWp.block ?_
  rw [rf79_eq]
  refine YWp.mono (YWp.rangeFunc (post := fun ex fm T' σ' => ex = .normal ∧ fm = (H2a0 z0 g0 n0 ga kx).fm ∧ T' = (TNa0 z0 g0 n0 ga kx (hsLaw kx y z0 n0) l1) ∧ σ' = [(.ready, none)]) eGh_ok (gf := 81) (gfn := f81) (c := bodyOf f81) (first := []) (caps := [.var 7 0, .var 8 0]) rfl (by kernel_rfl) (by kernel_rfl) (by kernel_rfl) (kk := 9) (by decide) (fmIn_of rfl) (by kernel_rfl) (fun l2 => ina0 e hy l1 l2)) fun ex fm T σ hP => ?_
  obtain ⟨rfl, rfl, rfl, rfl⟩ := hP
  show YWp eGh 30 6 [(l1, H1a)] r79 _ _ _ _
  exact YWp.ofTo (To.base (by decide) (To.of (k := 7) (o := Rra0 z0 g0 n0 ga kx (hsLaw kx y z0 n0) l1) eGh_ok hmA (Nat.le_refl 7) OrcOk.nil rfl (Rra0_ok trivial) Rra0_ex Rra0_fm Rra0_tab)) hamb ⟨rfl, rfl, rfl, rfl⟩
theorem outa {z0 : List Int} {g0 n0 ga : Nat} {kx : List Int} (e : Exa z0 g0 n0 ga kx) (l1 : Nat) : YWp eGh 30 6 [(l1, H1a)] (bodyOf f79) (argF ([] ++ (.func (.yield l1) [] [] :: [.var 5 0])) 0) (TBa z0 g0 n0 ga kx [0, 0]) [(.ready, none)] fun ex fm' T' σ' =>
      (ex = .normal ∨ ex = .ret) ∧ (∃ cs us, aRes eGh fm' T' f79.results.toList = some (cs, us) ∧ allP cs) ∧ ∃ st σ2, σ' = st :: σ2 ∧ st.1 ≠ .busy ∧
        match st.2 with
        | none => (AExit.normal = .normal ∨ AExit.normal = .exit 0) ∧ [(2, .var 2 0), (4, .var 3 0), (5, .var 4 0), (8, .func (.func 79) [] [.var 5 0])] = H1a.fm ∧ T' = (TBa z0 g0 n0 ga kx (hsLaw kx [0, 0] z0 n0))
        | some (.exit id) => (AExit.exit id = .normal ∨ AExit.exit id = .exit 0) ∧ [(2, .var 2 0), (4, .var 3 0), (5, .var 4 0), (8, .func (.func 79) [] [.var 5 0])] = H1a.fm ∧ T' = (TBa z0 g0 n0 ga kx (hsLaw kx [0, 0] z0 n0))
        | some .ret => (AExit.ret = .normal ∨ AExit.ret = .exit 0) ∧ [(2, .var 2 0), (4, .var 3 0), (5, .var 4 0), (8, .func (.func 79) [] [.var 5 0])] = H1a.fm ∧ T' = (TBa z0 g0 n0 ga kx (hsLaw kx [0, 0] z0 n0))
        | _ => False := by
  have hamb : ambIn 6 [(l1, H1a)] := ambIn_one rfl
  have w0 := WpLaw.zero
  have w1 := hs_wp (h := kx) w0 e.pz0 e.pb0
  rw [splitb79, res79]
  refine YWp.seq (YWp.ofTo (To.of (k := 6) (o := Saa z0 g0 n0 ga kx l1) eGh_ok hmA (Nat.le_refl 6) OrcOk.nil rfl (Saa_ok trivial) Saa_ex Saa_fm Saa_tab) hamb ?_)
  refine YWp.seq (YWp.ofTo (To.base (by decide) (To.of (k := 7) (o := Sba z0 g0 n0 ga kx l1) eGh_ok hmA (Nat.le_refl 7) OrcOk.nil rfl (Sba_ok ⟨rfl, trivial⟩) Sba_ex Sba_fm Sba_tab)) hamb ?_)
  refine YWp.block (YWp.loop (fun fm T σ μ => σ = [(.ready, none)] ∧ ((μ = 1 ∧ fm = [(1, .var 5 0), (2, .var 6 0), (6, .slice 1 0 ga 0 1 (some 1)), (7, .int .i64 1), (8, .int .i64 0)] ∧ T = (TPa z0 g0 n0 ga kx [0, 0] l1)) ∨ (μ = 0 ∧ fm = [(1, .var 5 0), (2, .var 6 0), (6, .slice 1 0 ga 0 1 (some 1)), (7, .int .i64 1), (8, .int .i64 1)] ∧ T = (TPa z0 g0 n0 ga kx (hsLaw kx [0, 0] z0 n0) l1)))) 1 ⟨rfl, .inl ⟨rfl, rfl, rfl⟩⟩ ?_)
  rintro fm T σ μ ⟨rfl, hI⟩
  rcases hI with ⟨rfl, rfl, rfl⟩ | ⟨rfl, rfl, rfl⟩
  · refine YWp.mono (roa0 e w0 l1) fun ex fm T σ hP => ?_
    obtain ⟨rfl, rfl, rfl, rfl⟩ := hP
    exact ⟨0, by decide, rfl, .inr (⟨rfl, rfl, rfl⟩)⟩
  · rw [split79]
    refine YWp.seq (YWp.ofTo (To.of (k := 6) (o := Hda1 z0 g0 n0 ga kx (hsLaw kx [0, 0] z0 n0) l1) eGh_ok hmA (Nat.le_refl 6) OrcOk.nil rfl (Hda1_ok trivial) Hda1_ex Hda1_fm Hda1_tab) hamb ?_)
    refine YWp.seq ?_
    rw [c79_eq]
    refine YWp.cond (b := false) rfl (fun h => by cases h) (fun _ => YWp.exit hamb ?_)
    exact ⟨.inl rfl, ⟨[], [], rfl, trivial⟩, (.ready, none), _, rfl, by decide, .inl rfl, rfl, rfl⟩
theorem blk63a {z0 : List Int} {g0 n0 ga : Nat} {kx : List Int} (e : Exa z0 g0 n0 ga kx) : To eGh 16 6 (.block 0 rf63) [(2, .var 2 0), (4, .var 3 0), (5, .var 4 0), (8, .func (.func 79) [] [.var 5 0])] (TBa z0 g0 n0 ga kx [0, 0]) .normal [(2, .var 2 0), (4, .var 3 0), (5, .var 4 0), (8, .func (.func 79) [] [.var 5 0])] (TBa z0 g0 n0 ga kx (hsLaw kx [0, 0] z0 n0)) := by
  refine AWp.block (AWp.ofY ?_)
  rw [rf63_eq]
  refine YWp.mono (YWp.rangeFunc (post := fun ex fm T' σ' => (ex = .normal ∨ ex = .exit 0) ∧ fm = H1a.fm ∧ T' = (TBa z0 g0 n0 ga kx (hsLaw kx [0, 0] z0 n0))) eGh_ok (gf := 79) (gfn := f79) (c := bodyOf f79) (first := []) (caps := [.var 5 0]) rfl (by kernel_rfl) (by kernel_rfl) (by kernel_rfl) (kk := 6) (Nat.le_refl _) (fmIn_of rfl) (by kernel_rfl) (fun l => outa e l)) fun ex fm T σ hP => ?_
  obtain ⟨h1, rfl, rfl⟩ := hP
  rcases h1 with rfl | rfl
  · exact ⟨rfl, rfl, rfl⟩
  · exact ⟨rfl, rfl, rfl⟩
noncomputable def g63ac (vs : List AVal) (T : Tab) (z0 : List Int) (g0 : Nat) (n0 : Nat) (ga : Nat) (kx : List Int) : Out := ⟨[.tab T [some ⟨.agg [.slice 1 1 g0 0 n0 none], ga, false, 25⟩, some ⟨.ints .u8 z0, g0, false, 5⟩, some ⟨.ints .u64 kx, 0, true, 65⟩, some ⟨.ints .u64 [0, 0], 0, true, 65⟩, some ⟨.ints .u64 [0, 0], 0, true, 65⟩, some ⟨.agg [.slice 1 0 ga 0 1 (some 1)], 0, true, 81⟩], .val (.tuple vs) (.tuple [.var 2 0, .var 3 0, .var 4 0, .func (.func 79) [] [.var 5 0]]), .leN n0 z0.length, .leN n0 140737488352000, .p (Bytes z0), .p (WpLaw kx)], .normal, [(2, .var 2 0), (4, .var 3 0), (5, .var 4 0), (8, .func (.func 79) [] [.var 5 0])], [some ⟨.agg [.slice 1 1 g0 0 n0 none], ga, false, 25⟩, some ⟨.ints .u8 z0, g0, false, 5⟩, some ⟨.ints .u64 kx, 0, true, 65⟩, some ⟨.ints .u64 [0, 0], 0, true, 65⟩, some ⟨.ints .u64 (hsLaw kx [0, 0] z0 n0), 0, true, 65⟩, some ⟨.agg [.slice 1 0 ga 0 1 (some 1)], 0, true, 81⟩], []⟩
theorem g63ac_ok {vs : List AVal} {T : Tab} {z0 : List Int} {g0 : Nat} {n0 : Nat} {ga : Nat} {kx : List Int} (h : Ok (g63ac vs T z0 g0 n0 ga kx)) : To eGh 16 6 (.block 0 rf63) (zipF [2,4,5,8] vs) T (g63ac vs T z0 g0 n0 ga kx).ex (g63ac vs T z0 g0 n0 ga kx).fm (g63ac vs T z0 g0 n0 ga kx).tab := by
  obtain ⟨hT, hv, h1, h2, h3, h4, _⟩ := h.h
  simp only [Con.h] at hT hv h1 h2 h3 h4
  injection hv with hv
  subst hT hv
  exact blk63a ⟨h1, h2, h3, h4⟩
noncomputable def g63a : List AVal → Tab → Out := fun vs T => g63ac vs T (xsAt T 1) (gAt T 1) (lenOf (cAt T 0 0)) (gAt T 0) (xsAt T 2)
theorem g63a_ok : BlkOk eGh f63 0 rf63 (blkS 6 [2,4,5,8] g63a) := blkS_ok fun vs T h => g63ac_ok h
noncomputable def orc63a : OrcL := [(0, blkS 6 [2,4,5,8] g63a)]
theorem orc63a_ok : FnOrc eGh f63 orc63a := FnOrc.cons g63a_ok (by kernel_rfl) FnOrc.nil
noncomputable def R63a (z0 : List Int) (g0 n0 ga : Nat) (kx : List Int) : Res := resG 2 [0, 1] (runF eGh f63 orc63a 400 [.ints .u64 kx, .slice 1 0 ga 0 1 (some 1)] [some ⟨.agg [.slice 1 1 g0 0 n0 none], ga, false, 25⟩, some ⟨.ints .u8 z0, g0, false, 5⟩] [])
theorem R63a_ok {z0 : List Int} {g0 n0 ga : Nat} {kx : List Int} (h : allP [.eqN ga ga, .eqN g0 g0, .leN n0 z0.length, .leN n0 140737488352000, .p (Bytes z0), .p (WpLaw kx), .eqN (hsLaw kx [0, 0] z0 n0).length 2, .eqN (hsLaw kx [0, 0] z0 n0).length 2, .eqN (hsLaw kx [0, 0] z0 n0).length 2]) : OkR (R63a z0 g0 n0 ga kx) := OkR.dem (fl := bitsF 16 29952) (by kernel_rfl) (by kernel_rfl) (by kernel_rfl)
 h
theorem R63a_val {z0 : List Int} {g0 n0 ga : Nat} {kx : List Int} : (R63a z0 g0 n0 ga kx).val = .ints .u64 (hsLaw kx [0, 0] z0 n0) := by kernel_rfl
theorem R63a_tab {z0 : List Int} {g0 n0 ga : Nat} {kx : List Int} : (R63a z0 g0 n0 ga kx).tab = [some ⟨.agg [.slice 1 1 g0 0 n0 none], ga, false, 25⟩, some ⟨.ints .u8 z0, g0, false, 5⟩] := by kernel_rfl
noncomputable def sm63ac (args : List AVal) (T : Tab) (z0 : List Int) (g0 : Nat) (n0 : Nat) (ga : Nat) (kx : List Int) : Res := ⟨[.tab T [some ⟨.agg [.slice 1 1 g0 0 n0 none], ga, false, 25⟩, some ⟨.ints .u8 z0, g0, false, 5⟩], .val (.tuple args) (.tuple [.ints .u64 kx, .slice 1 0 ga 0 1 (some 1)]), .leN n0 z0.length, .leN n0 140737488352000, .p (Bytes z0), .p (WpLaw kx)], .ints .u64 (hsLaw kx [0, 0] z0 n0), [some ⟨.agg [.slice 1 1 g0 0 n0 none], ga, false, 25⟩, some ⟨.ints .u8 z0, g0, false, 5⟩]⟩
theorem sm63ac_ok {args : List AVal} {T : Tab} {z0 : List Int} {g0 : Nat} {n0 : Nat} {ga : Nat} {kx : List Int} (h : allP (sm63ac args T z0 g0 n0 ga kx).cs) : Small prog (fun _ => none) 63 args T (sm63ac args T z0 g0 n0 ga kx).val (sm63ac args T z0 g0 n0 ga kx).tab := by
  obtain ⟨hT, hv, h1, h2, h3, h4, _⟩ := h
  simp only [Con.h] at hT hv h1 h2 h3 h4
  injection hv with hv
  subst hT hv
  have w0 := WpLaw.zero
  have w1 := hs_wp (h := kx) w0 h1 h3
  refine small_ofG (R := R63a z0 g0 n0 ga kx) (keep := [0, 1]) eGh_ok hmA (f := 63) (fn := f63) (by kernel_rfl) (by kernel_rfl) orc63a_ok rfl (R63a_ok ?_) R63a_val R63a_tab
  have hl := w1.len
  have hk := h4.len
  simp only [allP, Con.h, hl, hk, h1, h2, h3, h4, eq_self, true_and, and_true]
noncomputable def sm63a : Summary := fun args T => sm63ac args T (xsAt T 1) (gAt T 1) (lenOf (cAt T 0 0)) (gAt T 0) (xsOf (vAt args 0))
theorem sm63a_ok : SmOk prog (fun _ => none) 63 sm63a := fun args T h => sm63ac_ok h
end Go.Abs

set_option linter.unusedVariables false
set_option linter.unusedSimpArgs false
set_option maxRecDepth 8000
namespace Go.Abs
open Go.Proofs.Try
/-! ### what the program offers: Times, Hash, Seal, Open -/
noncomputable def sm63 : Summary := fun args T => match lenOf (vAt args 1) with
  | 1 => sm63a args T
  | _ => sm63c args T
theorem sm63_ok : SmOk prog (fun _ => none) 63 sm63 := fun args T h => by
  unfold sm63 at h ⊢
  split at h
  · exact sm63a_ok args T h
  · exact sm63c_ok args T h
noncomputable def S63 : Summary := callR sm63 []
theorem S63_ok : SumOk prog (fun _ => none) 63 S63 := callR_ok sm63_ok []
noncomputable def S58 : Summary := sumI modeO (eA []) f58 [] 100 [] []
theorem S58_ok : SumOk prog (fun _ => none) 58 S58 := sumI_ok eA0_ok hmA (fn := f58) (by kernel_rfl) (by kernel_rfl) [] FnOrc.nil 100 [] []
noncomputable def eGp : Env := eA [(54, S54), (55, S55), (59, S59), (60, S60), (61, S61), (63, S63), (58, S58)]
theorem eGp_ok : EnvOk eGp := envOf_ok tysA_ok (SumsOk.cons (fn := f54) S54_ok (by kernel_rfl) (by kernel_rfl) (by kernel_rfl) (SumsOk.cons (fn := f55) S55_ok (by kernel_rfl) (by kernel_rfl) (by kernel_rfl) (SumsOk.cons (fn := f59) S59_ok (by kernel_rfl) (by kernel_rfl) (by kernel_rfl) (SumsOk.cons (fn := f60) S60_ok (by kernel_rfl) (by kernel_rfl) (by kernel_rfl) (SumsOk.cons (fn := f61) S61_ok (by kernel_rfl) (by kernel_rfl) (by kernel_rfl) (SumsOk.cons (fn := f63) S63_ok (by kernel_rfl) (by kernel_rfl) (by kernel_rfl) (SumsOk.cons (fn := f58) S58_ok (by kernel_rfl) (by kernel_rfl) (by kernel_rfl) trivial)))))))
noncomputable def R28A (zs ns : List Int) (gk gn : Nat) (cpk cpn : Option Nat) (ms ts : List Int) (gm gt n m : Nat) : Res := resG 4 [0,1,2,3,5] (runF eGp f28 [] 400 [.slice 1 0 gk 0 16 cpk, .slice 1 1 gn 0 12 cpn, .slice 1 2 gm 0 m none, .slice 1 3 gt 0 n none] [some ⟨.ints .u8 zs, gk, false, 5⟩, some ⟨.ints .u8 ns, gn, false, 5⟩, some ⟨.ints .u8 ms, gm, false, 5⟩, some ⟨.ints .u8 ts, gt, false, 5⟩] [some false, some false, some false, some false])
theorem R28A_ok {zs ns : List Int} {gk gn : Nat} {cpk cpn : Option Nat} {ms ts : List Int} {gm gt n m : Nat} (h : allP [.eqN gk gk, .p (false = false), .eqN gn gn, .p (false = false), .eqN gm gm, .p (decide (65536 < (↑m : Int)) = false), .eqN gt gt, .p (decide (65536 < (↑n : Int)) = false), .eqN gk gk, .eqN gn gn, .eqN gt gt, .leN 16 zs.length, .leN 12 ns.length, .p (Bytes zs), .p (Bytes ns), .leN
 n ts.length, .leN n 140737488352000, .p (Bytes ts), .eqN gk gk, .eqN gn gn, .eqN gm gm, .leN 16 zs.length, .leN 12 ns.length, .p (Bytes zs), .p (Bytes ns), .leN m ms.length, .leN m 140737488352000, .p (Bytes ms), .leN n (turnLaw (subLaw zs 0 16) (subLaw ns 0 12) (subLaw ts 0 n)).length, .leN n 140737488352000, .p (Bytes (turnLaw (subLaw zs 0 16) (subLaw ns 0 12) (subLaw ts 0 n))), .leN (0 + n)
 (turnLaw (subLaw zs 0 16) (subLaw ns 0 12) (subLaw ts 0 n)).length, .leN (addO n 16) 140737488355328]) : OkR (R28A zs ns gk gn cpk cpn ms ts gm gt n m) := OkR.dem (fl := bitsF 54 16044111253733120) (by kernel_rfl) (by kernel_rfl) (by kernel_rfl) h
theorem R28A_val {zs ns : List Int} {gk gn : Nat} {cpk cpn : Option Nat} {ms ts : List Int} {gm gt n m : Nat} : (R28A zs ns gk gn cpk cpn ms ts gm gt n m).val = .tuple [.slice 1 4 2 0 (addO n 16) none, .int .i64 0] := by kernel_rfl
theorem R28A_tab {zs ns : List Int} {gk gn : Nat} {cpk cpn : Option Nat} {ms ts : List Int} {gm gt n m : Nat} : (R28A zs ns gk gn cpk cpn ms ts gm gt n m).tab = [some ⟨.ints .u8 zs, gk, false, 5⟩, some ⟨.ints .u8 ns, gn, false, 5⟩, some ⟨.ints .u8 ms, gm, false, 5⟩, some ⟨.ints .u8 ts, gt, false, 5⟩, some ⟨.ints .u8 (List.take n (turnLaw (subLaw zs 0 16) (subLaw ns 0 12) (subLaw ts 0 n)) ++
 List.take 16 (tagLaw (subLaw zs 0 16) (subLaw ns 0 12) ms m (turnLaw (subLaw zs 0 16) (subLaw ns 0 12) (subLaw ts 0 n)) n)), 2, true, 5⟩] := by kernel_rfl
noncomputable def R28B (zs ns : List Int) (gk gn : Nat) (cpk cpn : Option Nat) (ts : List Int) (gt n : Nat) : Res := resG 4 [0,1,2,3,5] (runF eGp f28 [] 400 [.slice 1 0 gk 0 16 cpk, .slice 1 1 gn 0 12 cpn, .slice 1 3 0 0 0 none, .slice 1 2 gt 0 n none] [some ⟨.ints .u8 zs, gk, false, 5⟩, some ⟨.ints .u8 ns, gn, false, 5⟩, some ⟨.ints .u8 ts, gt, false, 5⟩, some ⟨.ints .u8 [], 0, true, 5⟩] [some false, some false, none, some false])
theorem R28B_ok {zs ns : List Int} {gk gn : Nat} {cpk cpn : Option Nat} {ts : List Int} {gt n : Nat} (h : allP [.eqN gk gk, .p (false = false), .eqN gn gn, .p (false = false), .eqN gt gt, .p (decide (65536 < (↑n : Int)) = false), .eqN gk gk, .eqN gn gn, .eqN gt gt, .leN 16 zs.length, .leN 12 ns.length, .p (Bytes zs), .p (Bytes ns), .leN n ts.length, .leN n 140737488352000, .p (Bytes ts), .eqN gk
 gk, .eqN gn gn, .leN 16 zs.length, .leN 12 ns.length, .p (Bytes zs), .p (Bytes ns), .p (Bytes []), .leN n (turnLaw (subLaw zs 0 16) (subLaw ns 0 12) (subLaw ts 0 n)).length, .leN n 140737488352000, .p (Bytes (turnLaw (subLaw zs 0 16) (subLaw ns 0 12) (subLaw ts 0 n))), .leN (0 + n) (turnLaw (subLaw zs 0 16) (subLaw ns 0 12) (subLaw ts 0 n)).length, .leN (addO n 16) 140737488355328]) : OkR (R28B zs
 ns gk gn cpk cpn ts gt n) := OkR.dem (fl := bitsF 53 8028661286567824) (by kernel_rfl) (by kernel_rfl) (by kernel_rfl) h
theorem R28B_val {zs ns : List Int} {gk gn : Nat} {cpk cpn : Option Nat} {ts : List Int} {gt n : Nat} : (R28B zs ns gk gn cpk cpn ts gt n).val = .tuple [.slice 1 4 2 0 (addO n 16) none, .int .i64 0] := by kernel_rfl
theorem R28B_tab {zs ns : List Int} {gk gn : Nat} {cpk cpn : Option Nat} {ts : List Int} {gt n : Nat} : (R28B zs ns gk gn cpk cpn ts gt n).tab = [some ⟨.ints .u8 zs, gk, false, 5⟩, some ⟨.ints .u8 ns, gn, false, 5⟩, some ⟨.ints .u8 ts, gt, false, 5⟩, some ⟨.ints .u8 [], 0, true, 5⟩, some ⟨.ints .u8 (List.take n (turnLaw (subLaw zs 0 16) (subLaw ns 0 12) (subLaw ts 0 n)) ++ List.take 16 (tagLaw
 (subLaw zs 0 16) (subLaw ns 0 12) [] 0 (turnLaw (subLaw zs 0 16) (subLaw ns 0 12) (subLaw ts 0 n)) n)), 2, true, 5⟩] := by kernel_rfl
noncomputable def R28C (zs ns : List Int) (gk gn : Nat) (cpk cpn : Option Nat) : Res := resG 3 [0,1,2,4] (runF eGp f28 [] 400 [.slice 1 0 gk 0 16 cpk, .slice 1 1 gn 0 12 cpn, .slice 1 2 0 0 0 none, .slice 1 2 0 0 0 none] [some ⟨.ints .u8 zs, gk, false, 5⟩, some ⟨.ints .u8 ns, gn, false, 5⟩, some ⟨.ints .u8 [], 0, true, 5⟩] [some false, some false])
theorem R28C_ok {zs ns : List Int} {gk gn : Nat} {cpk cpn : Option Nat} (h : allP [.eqN gk gk, .p (false = false), .eqN gn gn, .p (false = false), .eqN gk gk, .eqN gn gn, .leN 16 zs.length, .leN 12 ns.length, .p (Bytes zs), .p (Bytes ns), .p (Bytes []), .eqN gk gk, .eqN gn gn, .leN 16 zs.length, .leN 12 ns.length, .p (Bytes zs), .p (Bytes ns), .p (Bytes []), .p (Bytes (turnLaw (subLaw zs 0 16)
 (subLaw ns 0 12) (subLaw [] 0 0)))]) : OkR (R28C zs ns gk gn cpk cpn) := OkR.dem (fl := bitsF 52 4462931488342000) (by kernel_rfl) (by kernel_rfl) (by kernel_rfl) h
theorem R28C_val {zs ns : List Int} {gk gn : Nat} {cpk cpn : Option Nat} : (R28C zs ns gk gn cpk cpn).val = .tuple [.slice 1 3 2 0 16 none, .int .i64 0] := by kernel_rfl
theorem R28C_tab {zs ns : List Int} {gk gn : Nat} {cpk cpn : Option Nat} : (R28C zs ns gk gn cpk cpn).tab = [some ⟨.ints .u8 zs, gk, false, 5⟩, some ⟨.ints .u8 ns, gn, false, 5⟩, some ⟨.ints .u8 [], 0, true, 5⟩, some ⟨.ints .u8 (List.take 0 (turnLaw (subLaw zs 0 16) (subLaw ns 0 12) (subLaw [] 0 0)) ++ List.take 16 (tagLaw (subLaw zs 0 16) (subLaw ns 0 12) [] 0 (turnLaw (subLaw zs 0 16) (subLaw ns
 0 12) (subLaw [] 0 0)) 0)), 2, true, 5⟩] := by kernel_rfl
noncomputable def R32A (zs ns : List Int) (gk gn : Nat) (cpk cpn : Option Nat) (ms ts : List Int) (gm gt n m : Nat) : Res := resG 4 [0,1,2,3,6] (runF eGp f32 [] 400 [.slice 1 0 gk 0 16 cpk, .slice 1 1 gn 0 12 cpn, .slice 1 2 gm 0 m none, .slice 1 3 gt 0 n none] [some ⟨.ints .u8 zs, gk, false, 5⟩, some ⟨.ints .u8 ns, gn, false, 5⟩, some ⟨.ints .u8 ms, gm, false, 5⟩, some ⟨.ints .u8 ts, gt, false, 5⟩] [some false, some false, some false, some false, some false, some true])
theorem R32A_ok {zs ns : List Int} {gk gn : Nat} {cpk cpn : Option Nat} {ms ts : List Int} {gm gt n m : Nat} (h : allP [.eqN gk gk, .p (false = false), .eqN gn gn, .p (false = false), .eqN gm gm, .p (decide (65536 < (↑m : Int)) = false), .eqN gt gt, .p (decide (65552 < (↑n : Int)) = false), .eqN gt gt, .p (decide ((↑n : Int) < 16) = false), .eqN gt gt, .rng (-9223372036854775808) ((↑n : Int) - 16)
 9223372036854775807, .leI 0 ((↑n : Int) - 16), .eqN gt gt, .leN 0 ((↑n : Int) - 16).toNat, .orN ((↑n : Int) - 16).toNat n (0 + ((↑n : Int) - 16).toNat) ts.length, .eqN gt gt, .rng (-9223372036854775808) ((↑n : Int) - 16) 9223372036854775807, .leI 0 ((↑n : Int) - 16), .eqN gt gt, .leN ((↑n : Int) - 16).toNat n, .eqN gk gk, .eqN gn gn, .eqN gm gm, .eqN gt gt, .leN 16 zs.length, .leN 12 ns.length, .p
 (Bytes zs), .p (Bytes ns), .leN m ms.length, .leN m 140737488352000, .p (Bytes ms), .leN ((↑n : Int) - 16).toNat ts.length, .leN ((↑n : Int) - 16).toNat 140737488352000, .p (Bytes ts), .eqN gt gt, .eqN gt gt, .leN (((↑n : Int) - 16).toNat + subO n ((↑n : Int) - 16).toNat) ts.length, .p ((List.map byteOf (List.take 16 (tagLaw (subLaw zs 0 16) (subLaw ns 0 12) ms m ts ((↑n : Int) - 16).toNat)) ==
 List.map byteOf (List.take (subO n ((↑n : Int) - 16).toNat) (dropO ((↑n : Int) - 16).toNat ts))) = true), .eqN gk gk, .eqN gn gn, .eqN gt gt, .leN 16 zs.length, .leN 12 ns.length, .p (Bytes zs), .p (Bytes ns), .leN ((↑n : Int) - 16).toNat ts.length, .leN ((↑n : Int) - 16).toNat 140737488352000, .p (Bytes ts)]) : OkR (R32A zs ns gk gn cpk cpn ms ts gm gt n m) := OkR.dem (fl := bitsF 69
 111745568975617024) (by kernel_rfl) (by kernel_rfl) (by kernel_rfl) h
theorem R32A_val {zs ns : List Int} {gk gn : Nat} {cpk cpn : Option Nat} {ms ts : List Int} {gm gt n m : Nat} : (R32A zs ns gk gn cpk cpn ms ts gm gt n m).val = .tuple [.slice 1 4 1 0 ((↑n : Int) - 16).toNat none, .int .i64 0] := by kernel_rfl
theorem R32A_tab {zs ns : List Int} {gk gn : Nat} {cpk cpn : Option Nat} {ms ts : List Int} {gm gt n m : Nat} : (R32A zs ns gk gn cpk cpn ms ts gm gt n m).tab = [some ⟨.ints .u8 zs, gk, false, 5⟩, some ⟨.ints .u8 ns, gn, false, 5⟩, some ⟨.ints .u8 ms, gm, false, 5⟩, some ⟨.ints .u8 ts, gt, false, 5⟩, some ⟨.ints .u8 (turnLaw (subLaw zs 0 16) (subLaw ns 0 12) (subLaw ts 0 ((↑n : Int) - 16).toNat)),
 1, true, 5⟩] := by kernel_rfl
noncomputable def R32X (zs ns : List Int) (gk gn : Nat) (cpk cpn : Option Nat) (ms ts : List Int) (gm gt n m : Nat) : Res := resG 4 [0,1,2,3] (runF eGp f32 [] 400 [.slice 1 0 gk 0 16 cpk, .slice 1 1 gn 0 12 cpn, .slice 1 2 gm 0 m none, .slice 1 3 gt 0 n none] [some ⟨.ints .u8 zs, gk, false, 5⟩, some ⟨.ints .u8 ns, gn, false, 5⟩, some ⟨.ints .u8 ms, gm, false, 5⟩, some ⟨.ints .u8 ts, gt, false, 5⟩] [some false, some false, some false, some false, some false, some false])
theorem R32X_ok {zs ns : List Int} {gk gn : Nat} {cpk cpn : Option Nat} {ms ts : List Int} {gm gt n m : Nat} (h : allP [.eqN gk gk, .p (false = false), .eqN gn gn, .p (false = false), .eqN gm gm, .p (decide (65536 < (↑m : Int)) = false), .eqN gt gt, .p (decide (65552 < (↑n : Int)) = false), .eqN gt gt, .p (decide ((↑n : Int) < 16) = false), .eqN gt gt, .rng (-9223372036854775808) ((↑n : Int) - 16)
 9223372036854775807, .leI 0 ((↑n : Int) - 16), .eqN gt gt, .leN 0 ((↑n : Int) - 16).toNat, .orN ((↑n : Int) - 16).toNat n (0 + ((↑n : Int) - 16).toNat) ts.length, .eqN gt gt, .rng (-9223372036854775808) ((↑n : Int) - 16) 9223372036854775807, .leI 0 ((↑n : Int) - 16), .eqN gt gt, .leN ((↑n : Int) - 16).toNat n, .eqN gk gk, .eqN gn gn, .eqN gm gm, .eqN gt gt, .leN 16 zs.length, .leN 12 ns.length, .p
 (Bytes zs), .p (Bytes ns), .leN m ms.length, .leN m 140737488352000, .p (Bytes ms), .leN ((↑n : Int) - 16).toNat ts.length, .leN ((↑n : Int) - 16).toNat 140737488352000, .p (Bytes ts), .eqN gt gt, .eqN gt gt, .leN (((↑n : Int) - 16).toNat + subO n ((↑n : Int) - 16).toNat) ts.length, .p ((List.map byteOf (List.take 16 (tagLaw (subLaw zs 0 16) (subLaw ns 0 12) ms m ts ((↑n : Int) - 16).toNat)) ==
 List.map byteOf (List.take (subO n ((↑n : Int) - 16).toNat) (dropO ((↑n : Int) - 16).toNat ts))) = false)]) : OkR (R32X zs ns gk gn cpk cpn ms ts gm gt n m) := OkR.dem (fl := bitsF 55 3659177918725120) (by kernel_rfl) (by kernel_rfl) (by kernel_rfl) h
theorem R32X_val {zs ns : List Int} {gk gn : Nat} {cpk cpn : Option Nat} {ms ts : List Int} {gm gt n m : Nat} : (R32X zs ns gk gn cpk cpn ms ts gm gt n m).val = .tuple [.nilSlice, .int .i64 32] := by kernel_rfl
theorem R32X_tab {zs ns : List Int} {gk gn : Nat} {cpk cpn : Option Nat} {ms ts : List Int} {gm gt n m : Nat} : (R32X zs ns gk gn cpk cpn ms ts gm gt n m).tab = [some ⟨.ints .u8 zs, gk, false, 5⟩, some ⟨.ints .u8 ns, gn, false, 5⟩, some ⟨.ints .u8 ms, gm, false, 5⟩, some ⟨.ints .u8 ts, gt, false, 5⟩] := by kernel_rfl
noncomputable def R32C (zs ns : List Int) (gk gn : Nat) (cpk cpn : Option Nat) (ts t2 : List Int) (gt n : Nat) : Res := resG 5 [0,1,2,3,4] (runF eGp f32 [] 400 [.slice 1 0 gk 0 16 cpk, .slice 1 1 gn 0 12 cpn, .slice 1 3 0 0 0 none, .slice 1 4 gt 0 n none] [some ⟨.ints .u8 zs, gk, false, 5⟩, some ⟨.ints .u8 ns, gn, false, 5⟩, some ⟨.ints .u8 ts, gt, false, 5⟩, some ⟨.ints .u8 [], 0, true, 5⟩, some ⟨.ints .u8 t2, gt, false, 5⟩] [some false, some false, none, some false, some false, some false])
theorem R32C_ok {zs ns : List Int} {gk gn : Nat} {cpk cpn : Option Nat} {ts t2 : List Int} {gt n : Nat} (h : allP [.eqN gk gk, .p (false = false), .eqN gn gn, .p (false = false), .eqN gt gt, .p (decide (65552 < (↑n : Int)) = false), .eqN gt gt, .p (decide ((↑n : Int) < 16) = false), .eqN gt gt, .rng (-9223372036854775808) ((↑n : Int) - 16) 9223372036854775807, .leI 0 ((↑n : Int) - 16), .eqN gt gt,
 .leN 0 ((↑n : Int) - 16).toNat, .orN ((↑n : Int) - 16).toNat n (0 + ((↑n : Int) - 16).toNat) t2.length, .eqN gt gt, .rng (-9223372036854775808) ((↑n : Int) - 16) 9223372036854775807, .leI 0 ((↑n : Int) - 16), .eqN gt gt, .leN ((↑n : Int) - 16).toNat n, .eqN gk gk, .eqN gn gn, .eqN gt gt, .leN 16 zs.length, .leN 12 ns.length, .p (Bytes zs), .p (Bytes ns), .p (Bytes []), .leN ((↑n : Int) - 16).toNat
 t2.length, .leN ((↑n : Int) - 16).toNat 140737488352000, .p (Bytes t2), .eqN gt gt, .eqN gt gt, .leN (((↑n : Int) - 16).toNat + subO n ((↑n : Int) - 16).toNat) t2.length, .p ((List.map byteOf (List.take 16 (tagLaw (subLaw zs 0 16) (subLaw ns 0 12) [] 0 t2 ((↑n : Int) - 16).toNat)) == List.map byteOf (List.take (subO n ((↑n : Int) - 16).toNat) (dropO ((↑n : Int) - 16).toNat t2))) = false)]) : OkR
 (R32C zs ns gk gn cpk cpn ts t2 gt n) := OkR.dem (fl := bitsF 54 1836194619063824) (by kernel_rfl) (by kernel_rfl) (by kernel_rfl) h
theorem R32C_val {zs ns : List Int} {gk gn : Nat} {cpk cpn : Option Nat} {ts t2 : List Int} {gt n : Nat} : (R32C zs ns gk gn cpk cpn ts t2 gt n).val = .tuple [.nilSlice, .int .i64 32] := by kernel_rfl
theorem R32C_tab {zs ns : List Int} {gk gn : Nat} {cpk cpn : Option Nat} {ts t2 : List Int} {gt n : Nat} : (R32C zs ns gk gn cpk cpn ts t2 gt n).tab = [some ⟨.ints .u8 zs, gk, false, 5⟩, some ⟨.ints .u8 ns, gn, false, 5⟩, some ⟨.ints .u8 ts, gt, false, 5⟩, some ⟨.ints .u8 [], 0, true, 5⟩, some ⟨.ints .u8 t2, gt, false, 5⟩] := by kernel_rfl
end Go.Abs

set_option linter.unusedVariables false
set_option linter.unusedSimpArgs false
set_option maxRecDepth 8000
namespace Go.Abs
open Go.Proofs.Try
/-! ### contracts of what the program offers -/
theorem gByte_inj {a b : Int} (ha : 0 ≤ a ∧ a < 256) (hb : 0 ≤ b ∧ b < 256) (h : byteOf a = byteOf b) : a = b := by
  have := congrArg UInt8.toNat h
  simp only [byteOf, UInt8.toNat_ofNat'] at this
  omega
theorem gBytes_inj : ∀ {l l' : List Int}, Bytes l → Bytes l' → List.map byteOf l = List.map byteOf l' → l = l'
  | [], [], _, _, _ => rfl
  | [], b :: l', _, _, h => by simp at h
  | a :: l, [], _, _, h => by simp at h
  | a :: l, b :: l', h1, h2, h => by
    simp only [List.map_cons, List.cons.injEq] at h
    have e : a = b := gByte_inj (h1.get 0) (h2.get 0) h.1
    rw [e, gBytes_inj (l := l) (l' := l') (fun i hi => h1.get (i + 1)) (fun i hi => h2.get (i + 1)) h.2]
theorem gBytes_eq (l : List Int) : (List.map byteOf l == List.map byteOf l) = true := beq_self_eq_true _
theorem gBytes_ne {l l' : List Int} (h1 : Bytes l) (h2 : Bytes l') (h : l ≠ l') : (List.map byteOf l == List.map byteOf l') = false := by
  rw [beq_eq_false_iff_ne]
  exact fun e => h (gBytes_inj h1 h2 e)
def sealLaw (K N M : List Int) (m : Nat) (X : List Int) (n : Nat) : List Int := turnLaw K N X ++ tagLaw K N M m (turnLaw K N X) n
noncomputable def sm28Ac (args : List AVal) (T : Tab) (zs : List Int) (ns : List Int) (gk : Nat) (gn : Nat) (cpk : Option Nat) (cpn : Option Nat) (ms : List Int) (ts : List Int) (gm : Nat) (gt : Nat) (n : Nat) (m : Nat) : Res := ⟨[.tab T [some ⟨.ints .u8 zs, gk, false, 5⟩, some ⟨.ints .u8 ns, gn, false, 5⟩, some ⟨.ints .u8 ms, gm, false, 5⟩, some ⟨.ints .u8 ts, gt, false, 5⟩], .val (.tuple args) (.tuple [.slice 1 0 gk 0 16 cpk, .slice 1 1 gn 0 12 cpn, .slice 1 2 gm 0 m none, .slice 1 3 gt 0 n none]), .leN 16 zs.length, .leN 12 ns.length, .p (Bytes zs), .p (Bytes ns), .leN m ms.length, .leN m 65536, .p (Bytes ms), .leN n ts.length, .leN n 65536, .p (Bytes ts)], .tuple [.slice 1 4 2 0 (n + 16) none, .int .i64 0], [some ⟨.ints .u8 zs, gk, false, 5⟩, some ⟨.ints .u8 ns, gn, false, 5⟩, some ⟨.ints .u8 ms, gm, false, 5⟩, some ⟨.ints .u8 ts, gt, false, 5⟩, some ⟨.ints .u8 (sealLaw (subLaw zs 0 16) (subLaw ns 0 12) ms m (subLaw ts 0 n) n), 2, true, 5⟩]⟩
theorem sm28Ac_ok {args : List AVal} {T : Tab} {zs : List Int} {ns : List Int} {gk : Nat} {gn : Nat} {cpk : Option Nat} {cpn : Option Nat} {ms : List Int} {ts : List Int} {gm : Nat} {gt : Nat} {n : Nat} {m : Nat} (h : allP (sm28Ac args T zs ns gk gn cpk cpn ms ts gm gt n m).cs) : Small prog (fun _ => none) 28 args T (sm28Ac args T zs ns gk gn cpk cpn ms ts gm gt n m).val (sm28Ac args T zs ns gk gn cpk cpn ms ts gm gt n m).tab := by
  obtain ⟨hT, hv, h1, h2, h3, h4, h5, h6, h7, h8, h9, h10, _⟩ := h
  simp only [Con.h] at hT hv h1 h2 h3 h4 h5 h6 h7 h8 h9 h10
  injection hv with hv
  subst hT hv
  have b1 := sub_bytes h3 0 16
  have b2 := sub_bytes h4 0 12
  have lx : (subLaw ts 0 n).length = n := subLaw_len (by omega)
  have lt : (turnLaw (subLaw zs 0 16) (subLaw ns 0 12) (subLaw ts 0 n)).length = n := by rw [turn_len, lx]
  have bx := sub_bytes h10 0 n
  have bt := turn_bytes b1 b2 bx
  refine small_ofG (R := R28A zs ns gk gn cpk cpn ms ts gm gt n m) (keep := [0,1,2,3,5]) eGp_ok hmA (f := 28) (fn := f28) (by kernel_rfl) (by kernel_rfl) FnOrc.nil rfl (R28A_ok ?_) (by rw [R28A_val, addO_eq]; rfl) (by rw [R28A_tab, take_n lt, take_n (tag_len _ _ _ _ _ _)]; rfl)
  simp only [allP, Con.h, lx, lt, bt, addO_eq, h1, h2, h3, h4, h5, h7, h8, h10, decide_eq_false_iff_not, eq_self, true_and, and_true]
  omega
noncomputable def sm28A : Summary := fun args T => sm28Ac args T (xsAt T 0) (xsAt T 1) (gAt T 0) (gAt T 1) (capOf (vAt args 0)) (capOf (vAt args 1)) (xsAt T 2) (xsAt T 3) (gAt T 2) (gAt T 3) (lenOf (vAt args 3)) (lenOf (vAt args 2))
theorem sm28A_ok : SmOk prog (fun _ => none) 28 sm28A := fun args T h => sm28Ac_ok h
noncomputable def sm28Bc (args : List AVal) (T : Tab) (zs : List Int) (ns : List Int) (gk : Nat) (gn : Nat) (cpk : Option Nat) (cpn : Option Nat) (ts : List Int) (gt : Nat) (n : Nat) : Res := ⟨[.tab T [some ⟨.ints .u8 zs, gk, false, 5⟩, some ⟨.ints .u8 ns, gn, false, 5⟩, some ⟨.ints .u8 ts, gt, false, 5⟩], .val (.tuple args) (.tuple [.slice 1 0 gk 0 16 cpk, .slice 1 1 gn 0 12 cpn, .nilSlice, .slice 1 2 gt 0 n none]), .leN 16 zs.length, .leN 12 ns.length, .p (Bytes zs), .p (Bytes ns), .leN n ts.length, .leN n 65536, .p (Bytes ts)], .tuple [.slice 1 4 2 0 (n + 16) none, .int .i64 0], [some ⟨.ints .u8 zs, gk, false, 5⟩, some ⟨.ints .u8 ns, gn, false, 5⟩, some ⟨.ints .u8 ts, gt, false, 5⟩, some ⟨.ints .u8 [], 0, true, 5⟩, some ⟨.ints .u8 (sealLaw (subLaw zs 0 16) (subLaw ns 0 12) [] 0 (subLaw ts 0 n) n), 2, true, 5⟩]⟩
theorem sm28Bc_ok {args : List AVal} {T : Tab} {zs : List Int} {ns : List Int} {gk : Nat} {gn : Nat} {cpk : Option Nat} {cpn : Option Nat} {ts : List Int} {gt : Nat} {n : Nat} (h : allP (sm28Bc args T zs ns gk gn cpk cpn ts gt n).cs) : Small prog (fun _ => none) 28 args T (sm28Bc args T zs ns gk gn cpk cpn ts gt n).val (sm28Bc args T zs ns gk gn cpk cpn ts gt n).tab := by
  obtain ⟨hT, hv, h1, h2, h3, h4, h5, h6, h7, _⟩ := h
  simp only [Con.h] at hT hv h1 h2 h3 h4 h5 h6 h7
  injection hv with hv
  subst hT hv
  have b1 := sub_bytes h3 0 16
  have b2 := sub_bytes h4 0 12
  have lx : (subLaw ts 0 n).length = n := subLaw_len (by omega)
  have lt : (turnLaw (subLaw zs 0 16) (subLaw ns 0 12) (subLaw ts 0 n)).length = n := by rw [turn_len, lx]
  have bx := sub_bytes h7 0 n
  have bt := turn_bytes b1 b2 bx
  have b0 : Bytes [] := fun i hi => absurd hi (Nat.not_lt_zero i)
  refine small_fill (args2 := [.slice 1 0 gk 0 16 cpk, .slice 1 1 gn 0 12 cpn, .slice 1 3 0 0 0 none, .slice 1 2 gt 0 n none]) (T2 := [some ⟨.ints .u8 zs, gk, false, 5⟩, some ⟨.ints .u8 ns, gn, false, 5⟩, some ⟨.ints .u8 ts, gt, false, 5⟩, some ⟨.ints .u8 [], 0, true, 5⟩]) rfl rfl ?_
  refine small_ofG (R := R28B zs ns gk gn cpk cpn ts gt n) (keep := [0,1,2,3,5]) eGp_ok hmA (f := 28) (fn := f28) (by kernel_rfl) (by kernel_rfl) FnOrc.nil rfl (R28B_ok ?_) (by rw [R28B_val, addO_eq]; rfl) (by rw [R28B_tab, take_n lt, take_n (tag_len _ _ _ _ _ _)]; rfl)
  simp only [allP, Con.h, lx, lt, bt, b0, addO_eq, h1, h2, h3, h4, h5, h7, decide_eq_false_iff_not, eq_self, true_and, and_true]
  omega
noncomputable def sm28B : Summary := fun args T => sm28Bc args T (xsAt T 0) (xsAt T 1) (gAt T 0) (gAt T 1) (capOf (vAt args 0)) (capOf (vAt args 1)) (xsAt T 2) (gAt T 2) (lenOf (vAt args 3))
theorem sm28B_ok : SmOk prog (fun _ => none) 28 sm28B := fun args T h => sm28Bc_ok h
noncomputable def sm28Cc (args : List AVal) (T : Tab) (zs : List Int) (ns : List Int) (gk : Nat) (gn : Nat) (cpk : Option Nat) (cpn : Option Nat) : Res := ⟨[.tab T [some ⟨.ints .u8 zs, gk, false, 5⟩, some ⟨.ints .u8 ns, gn, false, 5⟩], .val (.tuple args) (.tuple [.slice 1 0 gk 0 16 cpk, .slice 1 1 gn 0 12 cpn, .nilSlice, .nilSlice]), .leN 16 zs.length, .leN 12 ns.length, .p (Bytes zs), .p (Bytes ns)], .tuple [.slice 1 3 2 0 16 none, .int .i64 0], [some ⟨.ints .u8 zs, gk, false, 5⟩, some ⟨.ints .u8 ns, gn, false, 5⟩, some ⟨.ints .u8 [], 0, true, 5⟩, some ⟨.ints .u8 (tagLaw (subLaw zs 0 16) (subLaw ns 0 12) [] 0 [] 0), 2, true, 5⟩]⟩
theorem sm28Cc_ok {args : List AVal} {T : Tab} {zs : List Int} {ns : List Int} {gk : Nat} {gn : Nat} {cpk : Option Nat} {cpn : Option Nat} (h : allP (sm28Cc args T zs ns gk gn cpk cpn).cs) : Small prog (fun _ => none) 28 args T (sm28Cc args T zs ns gk gn cpk cpn).val (sm28Cc args T zs ns gk gn cpk cpn).tab := by
  obtain ⟨hT, hv, h1, h2, h3, h4, _⟩ := h
  simp only [Con.h] at hT hv h1 h2 h3 h4
  injection hv with hv
  subst hT hv
  have b1 := sub_bytes h3 0 16
  have b2 := sub_bytes h4 0 12
  have b0 : Bytes [] := fun i hi => absurd hi (Nat.not_lt_zero i)
  have e0 : subLaw [] 0 0 = [] := rfl
  have e1 : turnLaw (subLaw zs 0 16) (subLaw ns 0 12) [] = [] := rfl
  refine small_fill (args2 := [.slice 1 0 gk 0 16 cpk, .slice 1 1 gn 0 12 cpn, .slice 1 2 0 0 0 none, .slice 1 2 0 0 0 none]) (T2 := [some ⟨.ints .u8 zs, gk, false, 5⟩, some ⟨.ints .u8 ns, gn, false, 5⟩, some ⟨.ints .u8 [], 0, true, 5⟩]) rfl rfl ?_
  refine small_ofG (R := R28C zs ns gk gn cpk cpn) (keep := [0,1,2,4]) eGp_ok hmA (f := 28) (fn := f28) (by kernel_rfl) (by kernel_rfl) FnOrc.nil rfl (R28C_ok ?_) R28C_val (by rw [R28C_tab, e0, e1, take_n (tag_len _ _ _ _ _ _)]; rfl)
  rw [e0, e1]
  simp only [allP, Con.h, b0, h1, h2, h3, h4, eq_self, true_and, and_true]
noncomputable def sm28C : Summary := fun args T => sm28Cc args T (xsAt T 0) (xsAt T 1) (gAt T 0) (gAt T 1) (capOf (vAt args 0)) (capOf (vAt args 1))
theorem sm28C_ok : SmOk prog (fun _ => none) 28 sm28C := fun args T h => sm28Cc_ok h
noncomputable def sm28 : Summary := fun args T => match vAt args 2, vAt args 3 with
  | .nilSlice, .nilSlice => sm28C args T
  | .nilSlice, _ => sm28B args T
  | _, _ => sm28A args T
theorem sm28_ok : SmOk prog (fun _ => none) 28 sm28 := fun args T h => by
  unfold sm28 at h ⊢
  split at h
  · exact sm28C_ok args T h
  · exact sm28B_ok args T h
  · exact sm28A_ok args T h
noncomputable def S28 : Summary := callR sm28 []
theorem S28_ok : SumOk prog (fun _ => none) 28 S28 := callR_ok sm28_ok []
noncomputable def sm32Ac (args : List AVal) (T : Tab) (zs : List Int) (ns : List Int) (gk : Nat) (gn : Nat) (cpk : Option Nat) (cpn : Option Nat) (ms : List Int) (ts : List Int) (gm : Nat) (gt : Nat) (n : Nat) (m : Nat) : Res := ⟨[.tab T [some ⟨.ints .u8 zs, gk, false, 5⟩, some ⟨.ints .u8 ns, gn, false, 5⟩, some ⟨.ints .u8 ms, gm, false, 5⟩, some ⟨.ints .u8 ts, gt, false, 5⟩], .val (.tuple args) (.tuple [.slice 1 0 gk 0 16 cpk, .slice 1 1 gn 0 12 cpn, .slice 1 2 gm 0 m none, .slice 1 3 gt 0 n none]), .leN 16 zs.length, .leN 12 ns.length, .p (Bytes zs), .p (Bytes ns), .leN m ms.length, .leN m 65536, .p (Bytes ms), .leN n ts.length, .leN n 65552, .p (Bytes ts), .leN 16 n, .p (tagLaw (subLaw zs 0 16) (subLaw ns 0 12) ms m ts (n - 16) = subLaw ts (n - 16) 16)], .tuple [.slice 1 4 1 0 (n - 16) none, .int .i64 0], [some ⟨.ints .u8 zs, gk, false, 5⟩, some ⟨.ints .u8 ns, gn, false, 5⟩, some ⟨.ints .u8 ms, gm, false, 5⟩, some ⟨.ints .u8 ts, gt, false, 5⟩, some ⟨.ints .u8 (turnLaw (subLaw zs 0 16) (subLaw ns 0 12) (subLaw ts 0 (n - 16))), 1, true, 5⟩]⟩
theorem sm32Ac_ok {args : List AVal} {T : Tab} {zs : List Int} {ns : List Int} {gk : Nat} {gn : Nat} {cpk : Option Nat} {cpn : Option Nat} {ms : List Int} {ts : List Int} {gm : Nat} {gt : Nat} {n : Nat} {m : Nat} (h : allP (sm32Ac args T zs ns gk gn cpk cpn ms ts gm gt n m).cs) : Small prog (fun _ => none) 32 args T (sm32Ac args T zs ns gk gn cpk cpn ms ts gm gt n m).val (sm32Ac args T zs ns gk gn cpk cpn ms ts gm gt n m).tab := by
  obtain ⟨hT, hv, h1, h2, h3, h4, h5, h6, h7, h8, h9, h10, h11, h12, _⟩ := h
  simp only [Con.h] at hT hv h1 h2 h3 h4 h5 h6 h7 h8 h9 h10 h11 h12
  injection hv with hv
  subst hT hv
  have e1 : ((n : Int) - 16).toNat = n - 16 := by omega
  have e2 : subO n (n - 16) = 16 := by rw [subO_eq]; omega
  have e3 : List.take 16 (dropO (n - 16) ts) = subLaw ts (n - 16) 16 := by rw [dropO_eq]; rfl
  refine small_ofG (R := R32A zs ns gk gn cpk cpn ms ts gm gt n m) (keep := [0,1,2,3,6]) eGp_ok hmA (f := 32) (fn := f32) (by kernel_rfl) (by kernel_rfl) FnOrc.nil rfl (R32A_ok ?_) (by rw [R32A_val, e1]; rfl) (by rw [R32A_tab, e1]; rfl)
  rw [e1, e2, e3, take_n (tag_len _ _ _ _ _ _), h12]
  simp only [allP, Con.h, gBytes_eq, h1, h2, h3, h4, h5, h7, h10, decide_eq_false_iff_not, eq_self, true_and, and_true]
  omega
noncomputable def sm32A : Summary := fun args T => sm32Ac args T (xsAt T 0) (xsAt T 1) (gAt T 0) (gAt T 1) (capOf (vAt args 0)) (capOf (vAt args 1)) (xsAt T 2) (xsAt T 3) (gAt T 2) (gAt T 3) (lenOf (vAt args 3)) (lenOf (vAt args 2))
theorem sm32A_ok : SmOk prog (fun _ => none) 32 sm32A := fun args T h => sm32Ac_ok h
noncomputable def S32A : Summary := callR sm32A []
theorem S32A_ok : SumOk prog (fun _ => none) 32 S32A := callR_ok sm32A_ok []
noncomputable def sm32Xc (args : List AVal) (T : Tab) (zs : List Int) (ns : List Int) (gk : Nat) (gn : Nat) (cpk : Option Nat) (cpn : Option Nat) (ms : List Int) (ts : List Int) (gm : Nat) (gt : Nat) (n : Nat) (m : Nat) : Res := ⟨[.tab T [some ⟨.ints .u8 zs, gk, false, 5⟩, some ⟨.ints .u8 ns, gn, false, 5⟩, some ⟨.ints .u8 ms, gm, false, 5⟩, some ⟨.ints .u8 ts, gt, false, 5⟩], .val (.tuple args) (.tuple [.slice 1 0 gk 0 16 cpk, .slice 1 1 gn 0 12 cpn, .slice 1 2 gm 0 m none, .slice 1 3 gt 0 n none]), .leN 16 zs.length, .leN 12 ns.length, .p (Bytes zs), .p (Bytes ns), .leN m ms.length, .leN m 65536, .p (Bytes ms), .leN n ts.length, .leN n 65552, .p (Bytes ts), .leN 16 n, .p (tagLaw (subLaw zs 0 16) (subLaw ns 0 12) ms m ts (n - 16) ≠ subLaw ts (n - 16) 16)], .tuple [.nilSlice, .int .i64 32], [some ⟨.ints .u8 zs, gk, false, 5⟩, some ⟨.ints .u8 ns, gn, false, 5⟩, some ⟨.ints .u8 ms, gm, false, 5⟩, some ⟨.ints .u8 ts, gt, false, 5⟩]⟩
theorem sm32Xc_ok {args : List AVal} {T : Tab} {zs : List Int} {ns : List Int} {gk : Nat} {gn : Nat} {cpk : Option Nat} {cpn : Option Nat} {ms : List Int} {ts : List Int} {gm : Nat} {gt : Nat} {n : Nat} {m : Nat} (h : allP (sm32Xc args T zs ns gk gn cpk cpn ms ts gm gt n m).cs) : Small prog (fun _ => none) 32 args T (sm32Xc args T zs ns gk gn cpk cpn ms ts gm gt n m).val (sm32Xc args T zs ns gk gn cpk cpn ms ts gm gt n m).tab := by
  obtain ⟨hT, hv, h1, h2, h3, h4, h5, h6, h7, h8, h9, h10, h11, h12, _⟩ := h
  simp only [Con.h] at hT hv h1 h2 h3 h4 h5 h6 h7 h8 h9 h10 h11 h12
  injection hv with hv
  subst hT hv
  have e1 : ((n : Int) - 16).toNat = n - 16 := by omega
  have e2 : subO n (n - 16) = 16 := by rw [subO_eq]; omega
  have e3 : List.take 16 (dropO (n - 16) ts) = subLaw ts (n - 16) 16 := by rw [dropO_eq]; rfl
  refine small_ofG (R := R32X zs ns gk gn cpk cpn ms ts gm gt n m) (keep := [0,1,2,3]) eGp_ok hmA (f := 32) (fn := f32) (by kernel_rfl) (by kernel_rfl) FnOrc.nil rfl (R32X_ok ?_) R32X_val R32X_tab
  have ne := gBytes_ne (tag_bytes (subLaw zs 0 16) (subLaw ns 0 12) ms m ts (n - 16)) (sub_bytes h10 (n - 16) 16) h12
  rw [e1, e2, e3, take_n (tag_len _ _ _ _ _ _), ne]
  simp only [allP, Con.h, h1, h2, h3, h4, h5, h7, h10, decide_eq_false_iff_not, eq_self, true_and, and_true]
  omega
noncomputable def sm32X : Summary := fun args T => sm32Xc args T (xsAt T 0) (xsAt T 1) (gAt T 0) (gAt T 1) (capOf (vAt args 0)) (capOf (vAt args 1)) (xsAt T 2) (xsAt T 3) (gAt T 2) (gAt T 3) (lenOf (vAt args 3)) (lenOf (vAt args 2))
theorem sm32X_ok : SmOk prog (fun _ => none) 32 sm32X := fun args T h => sm32Xc_ok h
noncomputable def S32X : Summary := callR sm32X []
theorem S32X_ok : SumOk prog (fun _ => none) 32 S32X := callR_ok sm32X_ok []
noncomputable def sm32Cc (args : List AVal) (T : Tab) (zs : List Int) (ns : List Int) (gk : Nat) (gn : Nat) (cpk : Option Nat) (cpn : Option Nat) (ts : List Int) (gt : Nat) (n : Nat) (c : Nat) : Res := ⟨[.tab T [some ⟨.ints .u8 zs, gk, false, 5⟩, some ⟨.ints .u8 ns, gn, false, 5⟩, some ⟨.ints .u8 ts, gt, false, 5⟩], .val (.tuple args) (.tuple [.slice 1 0 gk 0 16 cpk, .slice 1 1 gn 0 12 cpn, .nilSlice, .slice 1 2 gt 0 n (some c)]), .leN 16 zs.length, .leN 12 ns.length, .p (Bytes zs), .p (Bytes ns), .eqN n ts.length, .leN n 65552, .p (Bytes ts), .leN 16 n, .p (tagLaw (subLaw zs 0 16) (subLaw ns 0 12) [] 0 ts (n - 16) ≠ subLaw ts (n - 16) 16)], .tuple [.nilSlice, .int .i64 32], [some ⟨.ints .u8 zs, gk, false, 5⟩, some ⟨.ints .u8 ns, gn, false, 5⟩, some ⟨.ints .u8 ts, gt, false, 5⟩, some ⟨.ints .u8 [], 0, true, 5⟩, some ⟨.ints .u8 ts, gt, false, 5⟩]⟩
theorem sm32Cc_ok {args : List AVal} {T : Tab} {zs : List Int} {ns : List Int} {gk : Nat} {gn : Nat} {cpk : Option Nat} {cpn : Option Nat} {ts : List Int} {gt : Nat} {n : Nat} {c : Nat} (h : allP (sm32Cc args T zs ns gk gn cpk cpn ts gt n c).cs) : Small prog (fun _ => none) 32 args T (sm32Cc args T zs ns gk gn cpk cpn ts gt n c).val (sm32Cc args T zs ns gk gn cpk cpn ts gt n c).tab := by
  obtain ⟨hT, hv, h1, h2, h3, h4, h5, h6, h7, h8, h9, _⟩ := h
  simp only [Con.h] at hT hv h1 h2 h3 h4 h5 h6 h7 h8 h9
  injection hv with hv
  subst hT hv
  have e1 : ((n : Int) - 16).toNat = n - 16 := by omega
  have e2 : subO n (n - 16) = 16 := by rw [subO_eq]; omega
  have e3 : List.take 16 (dropO (n - 16) ts) = subLaw ts (n - 16) 16 := by rw [dropO_eq]; rfl
  have b0 : Bytes [] := fun i hi => absurd hi (Nat.not_lt_zero i)
  have et : List.take n ts = ts := List.take_of_length_le (by omega)
  refine small_fill (args2 := [.slice 1 0 gk 0 16 cpk, .slice 1 1 gn 0 12 cpn, .slice 1 3 0 0 0 none, .slice 1 2 gt 0 n (some c)]) (T2 := [some ⟨.ints .u8 zs, gk, false, 5⟩, some ⟨.ints .u8 ns, gn, false, 5⟩, some ⟨.ints .u8 ts, gt, false, 5⟩, some ⟨.ints .u8 [], 0, true, 5⟩]) rfl rfl ?_
  refine small_cap 3 2 gt n c ts 5 rfl rfl (by omega) rfl (T2 := [some ⟨.ints .u8 zs, gk, false, 5⟩, some ⟨.ints .u8 ns, gn, false, 5⟩, some ⟨.ints .u8 ts, gt, false, 5⟩, some ⟨.ints .u8 [], 0, true, 5⟩, some ⟨.ints .u8 ts, gt, false, 5⟩]) (by rw [et]; rfl) ?_
  refine small_ofG (R := R32C zs ns gk gn cpk cpn ts ts gt n) (keep := [0,1,2,3,4]) eGp_ok hmA (f := 32) (fn := f32) (by kernel_rfl) (by kernel_rfl) FnOrc.nil rfl (R32C_ok ?_) R32C_val R32C_tab
  have ne := gBytes_ne (tag_bytes (subLaw zs 0 16) (subLaw ns 0 12) [] 0 ts (n - 16)) (sub_bytes h7 (n - 16) 16) h9
  rw [e1, e2, e3, take_n (tag_len _ _ _ _ _ _), ne]
  simp only [allP, Con.h, b0, h1, h2, h3, h4, h7, decide_eq_false_iff_not, eq_self, true_and, and_true]
  omega
noncomputable def sm32C : Summary := fun args T => sm32Cc args T (xsAt T 0) (xsAt T 1) (gAt T 0) (gAt T 1) (capOf (vAt args 0)) (capOf (vAt args 1)) (xsAt T 2) (gAt T 2) (lenOf (vAt args 3)) ((capOf (vAt args 3)).getD 0)
theorem sm32C_ok : SmOk prog (fun _ => none) 32 sm32C := fun args T h => sm32Cc_ok h
noncomputable def S32C : Summary := callR sm32C []
theorem S32C_ok : SumOk prog (fun _ => none) 32 S32C := callR_ok sm32C_ok []
end Go.Abs

set_option linter.unusedVariables false
set_option linter.unusedSimpArgs false
set_option maxRecDepth 8000
namespace Go.Abs
open Go.Proofs.Try
end Go.Abs

set_option linter.unusedVariables false
set_option linter.unusedSimpArgs false
set_option maxRecDepth 8000
namespace Go.Abs
open Go.Proofs.Try
def mbLaw (x y : List Int) : List Int := bN (mulN (nB x) (nB y))
end Go.Abs

set_option linter.unusedVariables false
set_option linter.unusedSimpArgs false
set_option maxRecDepth 8000
namespace Go.Abs
open Go.Proofs.Try
/-! ### the document: full, counter, length, Times, Hash -/
def padLaw (n : Nat) : Nat := (16 - n % 16) % 16
def fullLaw (x : List Int) (k : Nat) : List Int := x ++ List.replicate k 0
theorem full_len (x : List Int) (k : Nat) : (fullLaw x k).length = x.length + k := by unfold fullLaw; rw [List.length_append, List.length_replicate]
theorem full_bytes {x : List Int} (h : Bytes x) (k : Nat) : Bytes (fullLaw x k) := h.append (Bytes.zer k)
end Go.Abs

set_option linter.unusedVariables false
set_option linter.unusedSimpArgs false
set_option maxRecDepth 8000
namespace Go.Abs
open Go.Proofs.Try
def rhLaw (H x : List Int) : Nat → List Int
  | 0 => [0, 0, 0, 0, 0, 0, 0, 0, 0, 0, 0, 0, 0, 0, 0, 0]
  | j + 1 => mbLaw (plusLaw (rhLaw H x j) (subLaw x (16 * j) 16)) H
def rhashLaw (H x : List Int) : List Int := rhLaw H x (x.length / 16)
end Go.Abs

set_option linter.unusedVariables false
set_option linter.unusedSimpArgs false
set_option maxRecDepth 8000
namespace Go.Abs
open Go.Proofs.Try
end Go.Abs

set_option linter.unusedVariables false
set_option linter.unusedSimpArgs false
set_option maxRecDepth 8000
namespace Go.Abs
open Go.Proofs.Try
end Go.Abs

set_option linter.unusedVariables false
set_option linter.unusedSimpArgs false
set_option maxRecDepth 8000
namespace Go.Abs
open Go.Proofs.Try
def rlLaw (m : Nat) : List Int := [0, 0, 0, 0, 8 * (m : Int) / 16777216 % 256, 8 * (m : Int) / 65536 % 256, 8 * (m : Int) / 256 % 256, 8 * (m : Int) % 256]
def kbLaw (K N : List Int) (i : Nat) : Int := (ctLaw K N (2 + ((i / 16 : Nat) : Int))).getD (i % 16) 0
end Go.Abs

set_option linter.unusedVariables false
set_option linter.unusedSimpArgs false
set_option maxRecDepth 8000
namespace Go.Abs
open Go.Proofs.Try
def rtxtLaw (M : List Int) (m : Nat) (X : List Int) (n : Nat) : List Int := fullLaw M (padLaw m) ++ fullLaw X (padLaw n) ++ rlLaw m ++ rlLaw n
def rtagLaw (K N M : List Int) (m : Nat) (X : List Int) (n : Nat) : List Int := plusLaw (ctLaw K N 1) (rhashLaw (blockLaw (ksLaw K 176) zLaw16) (rtxtLaw M m X n))
theorem rl_len (m : Nat) : (rlLaw m).length = 8 := rfl
theorem rl_bytes (m : Nat) : Bytes (rlLaw m) := fun i hi => by
  match i, hi with
  | 0, _ => exact ⟨Int.le_refl 0, show (0 : Int) < 256 by decide⟩
  | 1, _ => exact ⟨Int.le_refl 0, show (0 : Int) < 256 by decide⟩
  | 2, _ => exact ⟨Int.le_refl 0, show (0 : Int) < 256 by decide⟩
  | 3, _ => exact ⟨Int.le_refl 0, show (0 : Int) < 256 by decide⟩
  | 4, _ => exact ⟨Int.emod_nonneg _ (by decide), Int.emod_lt_of_pos _ (by decide)⟩
  | 5, _ => exact ⟨Int.emod_nonneg _ (by decide), Int.emod_lt_of_pos _ (by decide)⟩
  | 6, _ => exact ⟨Int.emod_nonneg _ (by decide), Int.emod_lt_of_pos _ (by decide)⟩
  | 7, _ => exact ⟨Int.emod_nonneg _ (by decide), Int.emod_lt_of_pos _ (by decide)⟩
  | i + 8, hi => rw [rl_len] at hi; omega
theorem full_zero (x : List Int) : fullLaw x 0 = x := by unfold fullLaw; rw [List.replicate_zero, List.append_nil]
end Go.Abs

set_option linter.unusedVariables false
set_option linter.unusedSimpArgs false
set_option maxRecDepth 8000
namespace Go.Abs
open Go.Proofs.Try
end Go.Abs

set_option linter.unusedVariables false
set_option linter.unusedSimpArgs false
set_option maxRecDepth 8000
namespace Go.Abs
open Go.Proofs.Try
/-! ### what the laws call: fit, knows -/
noncomputable def R34_16 (zs : List Int) (g n : Nat) (cp : Option Nat) (ow : Bool) : Res := resG 1 [0,1] (runF (eA []) f34 [] 400 [.slice 1 0 g 0 n cp, .int .i64 16] [some ⟨.ints .u8 zs, g, ow, 5⟩] [])
theorem R34_16_ok {zs : List Int} {g n : Nat} {cp : Option Nat} {ow : Bool} (h : allP [.eqN g g, .leN (0 + n) zs.length]) : OkR (R34_16 zs g n cp ow) := OkR.dem (fl := [true, true, true, true, true, true, false, false, true]) (by kernel_rfl) (by kernel_rfl) (by kernel_rfl) h
theorem R34_16_val {zs : List Int} {g n : Nat} {cp : Option Nat} {ow : Bool} : (R34_16 zs g n cp ow).val = .slice 1 1 0 0 16 (some 16) := by kernel_rfl
theorem R34_16_tab {zs : List Int} {g n : Nat} {cp : Option Nat} {ow : Bool} : (R34_16 zs g n cp ow).tab = [some ⟨.ints .u8 zs, g, ow, 5⟩, some ⟨.ints .u8 (over [0, 0, 0, 0, 0, 0, 0, 0, 0, 0, 0, 0, 0, 0, 0, 0] 0 (List.take (if n ≤ 16 then n else 16) zs)), 0, true, 5⟩] := by kernel_rfl
noncomputable def R34_12 (zs : List Int) (g n : Nat) (cp : Option Nat) (ow : Bool) : Res := resG 1 [0,1] (runF (eA []) f34 [] 400 [.slice 1 0 g 0 n cp, .int .i64 12] [some ⟨.ints .u8 zs, g, ow, 5⟩] [])
theorem R34_12_ok {zs : List Int} {g n : Nat} {cp : Option Nat} {ow : Bool} (h : allP [.eqN g g, .leN (0 + n) zs.length]) : OkR (R34_12 zs g n cp ow) := OkR.dem (fl := [true, true, true, true, true, true, false, false, true]) (by kernel_rfl) (by kernel_rfl) (by kernel_rfl) h
theorem R34_12_val {zs : List Int} {g n : Nat} {cp : Option Nat} {ow : Bool} : (R34_12 zs g n cp ow).val = .slice 1 1 0 0 12 (some 12) := by kernel_rfl
theorem R34_12_tab {zs : List Int} {g n : Nat} {cp : Option Nat} {ow : Bool} : (R34_12 zs g n cp ow).tab = [some ⟨.ints .u8 zs, g, ow, 5⟩, some ⟨.ints .u8 (over [0, 0, 0, 0, 0, 0, 0, 0, 0, 0, 0, 0] 0 (List.take (if n ≤ 12 then n else 12) zs)), 0, true, 5⟩] := by kernel_rfl
noncomputable def S30 : Summary := sumI modeO (eA []) f30 [] 100 [] []
theorem S30_ok : SumOk prog (fun _ => none) 30 S30 := sumI_ok eA0_ok hmA (fn := f30) (by kernel_rfl) (by kernel_rfl) [] FnOrc.nil 100 [] []
noncomputable def eGw : Env := eA [(28, S28), (30, S30), (32, S32C)]
theorem eGw_ok : EnvOk eGw := envOf_ok tysA_ok (SumsOk.cons (fn := f28) S28_ok (by kernel_rfl) (by kernel_rfl) (by kernel_rfl) (SumsOk.cons (fn := f30) S30_ok (by kernel_rfl) (by kernel_rfl) (by kernel_rfl) (SumsOk.cons (fn := f32) S32C_ok (by kernel_rfl) (by kernel_rfl) (by kernel_rfl) trivial)))
noncomputable def R31  : Res := resG 0 [] (runF eGw f31 [] 400 [] [] [none, some true, none, none, none, none, none, none, none, none])
theorem R31_ok  (h : allP [.p (Bytes [0, 0, 0, 0, 0, 0, 0, 0, 0, 0, 0, 0, 0, 0, 0, 0]), .p (Bytes [0, 0, 0, 0, 0, 0, 0, 0, 0, 0, 0, 0]), .p (Bytes [0, 0, 0, 0, 0, 0, 0, 0, 0, 0, 0, 0, 0, 0, 0, 0]), .p (Bytes [0, 0, 0, 0, 0, 0, 0, 0, 0, 0, 0, 0]), .p (Bytes [0, 0, 0, 0, 0, 0, 0, 0, 0, 0, 0, 0, 0, 0, 0, 0]), .p (tagLaw (subLaw [0, 0, 0, 0, 0, 0, 0, 0, 0, 0, 0, 0, 0, 0, 0, 0] 0 16) (subLaw [0, 0, 0,
 0, 0, 0, 0, 0, 0, 0, 0, 0] 0 12) [] 0 [0, 0, 0, 0, 0, 0, 0, 0, 0, 0, 0, 0, 0, 0, 0, 0] 0 ≠ subLaw [0, 0, 0, 0, 0, 0, 0, 0, 0, 0, 0, 0, 0, 0, 0, 0] 0 16), .p (true = true)]) : OkR (R31 ) := OkR.dem (fl := bitsF 59 286372715787557854) (by kernel_rfl) (by kernel_rfl) (by kernel_rfl) h
theorem R31_val  : (R31 ).val = .bool true := by kernel_rfl
theorem R31_tab  : (R31 ).tab = [] := by kernel_rfl
theorem knows_ne : tagLaw (subLaw [0, 0, 0, 0, 0, 0, 0, 0, 0, 0, 0, 0, 0, 0, 0, 0] 0 16) (subLaw [0, 0, 0, 0, 0, 0, 0, 0, 0, 0, 0, 0] 0 12) [] 0 [0, 0, 0, 0, 0, 0, 0, 0, 0, 0, 0, 0, 0, 0, 0, 0] 0 ≠ subLaw [0, 0, 0, 0, 0, 0, 0, 0, 0, 0, 0, 0, 0, 0, 0, 0] 0 16 := fun h => by
  have h1 : (tagLaw (subLaw [0, 0, 0, 0, 0, 0, 0, 0, 0, 0, 0, 0, 0, 0, 0, 0] 0 16) (subLaw [0, 0, 0, 0, 0, 0, 0, 0, 0, 0, 0, 0] 0 12) [] 0 [0, 0, 0, 0, 0, 0, 0, 0, 0, 0, 0, 0, 0, 0, 0, 0] 0).getD 0 0 = 88 := by kernel_rfl
  rw [h] at h1
  have h2 : (subLaw [0, 0, 0, 0, 0, 0, 0, 0, 0, 0, 0, 0, 0, 0, 0, 0] 0 16).getD 0 0 = 0 := rfl
  omega
noncomputable def sm31c (args : List AVal) (T : Tab) (u : Nat) : Res := ⟨[.tab T [], .val (.tuple args) (.tuple [])], .bool true, []⟩
theorem sm31c_ok {args : List AVal} {T : Tab} {u : Nat} (h : allP (sm31c args T u).cs) : Small prog (fun _ => none) 31 args T (sm31c args T u).val (sm31c args T u).tab := by
  obtain ⟨hT, hv, _⟩ := h
  simp only [Con.h] at hT hv
  injection hv with hv
  subst hT hv
  refine small_ofG (R := R31) (keep := []) eGw_ok hmA (f := 31) (fn := f31) (by kernel_rfl) (by kernel_rfl) FnOrc.nil rfl (R31_ok ?_) R31_val R31_tab
  have b1 : Bytes [0, 0, 0, 0, 0, 0, 0, 0, 0, 0, 0, 0, 0, 0, 0, 0] := Bytes.zer 16
  have b2 : Bytes [0, 0, 0, 0, 0, 0, 0, 0, 0, 0, 0, 0] := Bytes.zer 12
  simp only [allP, Con.h, b1, b2, eq_self, true_and, and_true]
  exact knows_ne
noncomputable def sm31 : Summary := fun args T => sm31c args T (0)
theorem sm31_ok : SmOk prog (fun _ => none) 31 sm31 := fun args T h => sm31c_ok h
noncomputable def S31 : Summary := callR sm31 []
theorem S31_ok : SumOk prog (fun _ => none) 31 S31 := callR_ok sm31_ok []
def fitLaw (k : Nat) (zs : List Int) (n : Nat) : List Int := over (List.replicate k 0) 0 (List.take (if n ≤ k then n else k) zs)
theorem fit_eq {k n : Nat} {zs : List Int} (h : n ≤ zs.length) : fitLaw k zs n = List.take (min n k) zs ++ List.replicate (k - min n k) 0 := by
  unfold fitLaw over
  have e : (if n ≤ k then n else k) = min n k := by split <;> omega
  have hl : (List.take (min n k) zs).length = min n k := by rw [List.length_take]; omega
  rw [e, List.take_zero, List.nil_append, Nat.zero_add, hl, List.drop_replicate]
theorem fit_len {k n : Nat} {zs : List Int} (h : n ≤ zs.length) : (fitLaw k zs n).length = k := by
  rw [fit_eq h, List.length_append, List.length_take, List.length_replicate]; omega
theorem fit_bytes {k n : Nat} {zs : List Int} (h : n ≤ zs.length) (hb : Bytes zs) : Bytes (fitLaw k zs n) := by
  rw [fit_eq h]; exact (hb.take _).append (Bytes.zer _)
noncomputable def sm34_16c (args : List AVal) (T : Tab) (zs : List Int) (g : Nat) (n : Nat) (cp : Option Nat) (ow : Bool) : Res := ⟨[.tab T [some ⟨.ints .u8 zs, g, ow, 5⟩], .val (.tuple args) (.tuple [.slice 1 0 g 0 n cp, .int .i64 16]), .leN n zs.length], .slice 1 1 0 0 16 (some 16), [some ⟨.ints .u8 zs, g, ow, 5⟩, some ⟨.ints .u8 (fitLaw 16 zs n), 0, true, 5⟩]⟩
theorem sm34_16c_ok {args : List AVal} {T : Tab} {zs : List Int} {g : Nat} {n : Nat} {cp : Option Nat} {ow : Bool} (h : allP (sm34_16c args T zs g n cp ow).cs) : Small prog (fun _ => none) 34 args T (sm34_16c args T zs g n cp ow).val (sm34_16c args T zs g n cp ow).tab := by
  obtain ⟨hT, hv, h1, _⟩ := h
  simp only [Con.h] at hT hv h1
  injection hv with hv
  subst hT hv
  refine small_ofG (R := R34_16 zs g n cp ow) (keep := [0,1]) eA0_ok hmA (f := 34) (fn := f34) (by kernel_rfl) (by kernel_rfl) FnOrc.nil rfl (R34_16_ok ?_) R34_16_val R34_16_tab
  simp only [allP, Con.h, Nat.zero_add, h1, eq_self, true_and, and_true]
noncomputable def sm34_16 : Summary := fun args T => sm34_16c args T (xsAt T 0) (gAt T 0) (lenOf (vAt args 0)) (capOf (vAt args 0)) (owAt T 0)
theorem sm34_16_ok : SmOk prog (fun _ => none) 34 sm34_16 := fun args T h => sm34_16c_ok h
noncomputable def sm34_12c (args : List AVal) (T : Tab) (zs : List Int) (g : Nat) (n : Nat) (cp : Option Nat) (ow : Bool) : Res := ⟨[.tab T [some ⟨.ints .u8 zs, g, ow, 5⟩], .val (.tuple args) (.tuple [.slice 1 0 g 0 n cp, .int .i64 12]), .leN n zs.length], .slice 1 1 0 0 12 (some 12), [some ⟨.ints .u8 zs, g, ow, 5⟩, some ⟨.ints .u8 (fitLaw 12 zs n), 0, true, 5⟩]⟩
theorem sm34_12c_ok {args : List AVal} {T : Tab} {zs : List Int} {g : Nat} {n : Nat} {cp : Option Nat} {ow : Bool} (h : allP (sm34_12c args T zs g n cp ow).cs) : Small prog (fun _ => none) 34 args T (sm34_12c args T zs g n cp ow).val (sm34_12c args T zs g n cp ow).tab := by
  obtain ⟨hT, hv, h1, _⟩ := h
  simp only [Con.h] at hT hv h1
  injection hv with hv
  subst hT hv
  refine small_ofG (R := R34_12 zs g n cp ow) (keep := [0,1]) eA0_ok hmA (f := 34) (fn := f34) (by kernel_rfl) (by kernel_rfl) FnOrc.nil rfl (R34_12_ok ?_) R34_12_val R34_12_tab
  simp only [allP, Con.h, Nat.zero_add, h1, eq_self, true_and, and_true]
noncomputable def sm34_12 : Summary := fun args T => sm34_12c args T (xsAt T 0) (gAt T 0) (lenOf (vAt args 0)) (capOf (vAt args 0)) (owAt T 0)
theorem sm34_12_ok : SmOk prog (fun _ => none) 34 sm34_12 := fun args T h => sm34_12c_ok h
noncomputable def sm34 : Summary := fun args T => match iOf (vAt args 1) with
  | 16 => sm34_16 args T
  | _ => sm34_12 args T
theorem sm34_ok : SmOk prog (fun _ => none) 34 sm34 := fun args T h => by
  unfold sm34 at h ⊢
  split at h
  · exact sm34_16_ok args T h
  · exact sm34_12_ok args T h
noncomputable def S34 : Summary := callR sm34 []
theorem S34_ok : SumOk prog (fun _ => none) 34 S34 := callR_ok sm34_ok []
end Go.Abs

set_option linter.unusedVariables false
set_option linter.unusedSimpArgs false
set_option maxRecDepth 8000
namespace Go.Abs
open Go.Proofs.Try
end Go.Abs

set_option linter.unusedVariables false
set_option linter.unusedSimpArgs false
set_option maxRecDepth 8000
namespace Go.Abs
open Go.Proofs.Try
/-! ### the program's answers are the document's -/
theorem gw_eq (b : List Int) : gwLaw b = wN (nB b) := rfl
def rhN (h y : Nat) (F : List Int) : Nat → Nat
  | 0 => y
  | j + 1 => mulN (rhN h y F j ^^^ nB (subLaw F (16 * j) 16)) h
theorem rhN_lt {h y : Nat} {F : List Int} (hy : y < 2 ^ 128) (hF : Bytes F) : ∀ j, 16 * j ≤ F.length → rhN h y F j < 2 ^ 128
  | 0, _ => hy
  | j + 1, hj => by
    have hb := sub_bytes hF (16 * j) 16
    have hl : (subLaw F (16 * j) 16).length = 16 := subLaw_len (by omega)
    exact mulN_lt _ (Nat.xor_lt_two_pow (rhN_lt hy hF j (by omega)) (nB_lt16 hb hl))
theorem full_chunk {z : List Int} {n j : Nat} (hn : n ≤ z.length) (hj : 16 * j < n) : ckLaw z n j = subLaw (fullLaw (subLaw z 0 n) (padLaw n)) (16 * j) 16 := by
  have lz : (subLaw z 0 n).length = n := subLaw_len (by omega)
  have e0 : subLaw z 0 n = List.take n z := rfl
  unfold fullLaw
  rw [e0]
  rw [e0] at lz
  unfold subLaw
  rw [List.drop_append, lz]
  by_cases h : 16 * j + 16 ≤ n
  · rw [ck_full h, List.take_append_of_le_length (by rw [List.length_drop, lz]; omega), List.drop_take, List.take_take, show min 16 (n - 16 * j) = 16 by omega]; rfl
  · rw [ck_part (by omega), List.take_append, List.length_drop, lz, List.drop_take, List.take_take, show min 16 (n - 16 * j) = n - 16 * j by omega]
    congr 1
    rw [List.drop_replicate, List.take_replicate]
    congr 1
    unfold padLaw
    omega
theorem hy_rhN {h y : Nat} {z : List Int} {n : Nat} (hn : n ≤ z.length) : ∀ j, 16 * j < n + 16 → hyLaw (wN h) (wN y) z n j = wN (rhN h y (fullLaw (subLaw z 0 n) (padLaw n)) j)
  | 0, _ => rfl
  | j + 1, hj => by
    have ih := hy_rhN (h := h) (y := y) hn j (by omega)
    show mwLaw (xwLaw (hyLaw (wN h) (wN y) z n j) (gwLaw (ckLaw z n j))) (wN h) = _
    rw [ih, gw_eq, xw_wN, mw_wN, full_chunk hn (by omega)]
    rfl
theorem hs_rhN {h y : Nat} {z : List Int} {n : Nat} (hn : n ≤ z.length) : hsLaw (wN h) (wN y) z n = wN (rhN h y (fullLaw (subLaw z 0 n) (padLaw n)) ((n + 15) / 16)) := hy_rhN hn _ (by omega)
theorem rh_rhN {H x : List Int} (hx : Bytes x) : ∀ j, 16 * j ≤ x.length → rhLaw H x j = bN (rhN (nB H) 0 x j)
  | 0, _ => by kernel_rfl
  | j + 1, hj => by
    have ih := rh_rhN (H := H) hx j (by omega)
    have hb := sub_bytes hx (16 * j) 16
    have hl : (subLaw x (16 * j) 16).length = 16 := subLaw_len (by omega)
    have hlt := rhN_lt (h := nB H) (y := 0) (by decide) hx j (by omega)
    show bN (mulN (nB (plusLaw (rhLaw H x j) (subLaw x (16 * j) 16))) (nB H)) = _
    rw [ih, nB_plus (bN_bytes _) hb (bN_len _) hl, nB_bN hlt]
    rfl
theorem rhN_cat {h y : Nat} {F G : List Int} {a : Nat} (hF : F.length = 16 * a) : ∀ j, 16 * j ≤ G.length → rhN h y (F ++ G) (a + j) = rhN h (rhN h y F a) G j
  | 0, _ => by
    have : ∀ i, i ≤ a → rhN h y (F ++ G) i = rhN h y F i := by
      intro i
      induction i with
      | zero => intro _; rfl
      | succ i ih =>
        intro hi
        simp only [rhN, ih (by omega)]
        have : subLaw (F ++ G) (16 * i) 16 = subLaw F (16 * i) 16 := by
          unfold subLaw
          rw [List.drop_append_of_le_length (by omega), List.take_append_of_le_length (by rw [List.length_drop]; omega)]
        rw [this]
    exact this a (Nat.le_refl a)
  | j + 1, hj => by
    have ih := rhN_cat (h := h) (y := y) (F := F) (G := G) hF j (by omega)
    show mulN (rhN h y (F ++ G) (a + j) ^^^ nB (subLaw (F ++ G) (16 * (a + j)) 16)) h = mulN (rhN h (rhN h y F a) G j ^^^ nB (subLaw G (16 * j) 16)) h
    rw [ih]
    have : subLaw (F ++ G) (16 * (a + j)) 16 = subLaw G (16 * j) 16 := by
      unfold subLaw
      rw [List.drop_append, List.drop_of_length_le (by omega), List.nil_append, hF, show 16 * (a + j) - 16 * a = 16 * j by omega]
    rw [this]
theorem zero_w : ([0, 0] : List Int) = wN 0 := by kernel_rfl
theorem fullp_len {z : List Int} {n : Nat} (hn : n ≤ z.length) : (fullLaw (subLaw z 0 n) (padLaw n)).length = 16 * ((n + 15) / 16) := by
  rw [full_len, subLaw_len (by omega)]
  unfold padLaw; omega
end Go.Abs

set_option linter.unusedVariables false
set_option linter.unusedSimpArgs false
set_option maxRecDepth 8000
namespace Go.Abs
open Go.Proofs.Try
end Go.Abs

set_option linter.unusedVariables false
set_option linter.unusedSimpArgs false
set_option maxRecDepth 8000
namespace Go.Abs
open Go.Proofs.Try
end Go.Abs

set_option linter.unusedVariables false
set_option linter.unusedSimpArgs false
set_option maxRecDepth 8000
namespace Go.Abs
open Go.Proofs.Try
/-! ### the program's answers are the document's: tag, turned, Seal -/
theorem plus_comm (a b : List Int) : plusLaw a b = plusLaw b a := l16_congr fun i _ => by
  unfold ixor; rw [Nat.xor_comm]
theorem len_eq {m n : Nat} (hm : m ≤ 100000) (hn : n ≤ 100000) : ptLaw (lenLaw m n) = rlLaw m ++ rlLaw n := by
  obtain ⟨x, hx, e⟩ := len_wp m n
  rw [e, pt_wN, ← put_eq hx, ← e]
  have e0 : (lenLaw m n).getD 0 0 = 8 * (m : Int) := by show 8 * (m : Int) % 18446744073709551616 = _; omega
  have e1 : (lenLaw m n).getD 1 0 = 8 * (n : Int) := by show 8 * (n : Int) % 18446744073709551616 = _; omega
  rw [e0, e1]
  show _ = [0, 0, 0, 0, 8 * (m : Int) / 16777216 % 256, 8 * (m : Int) / 65536 % 256, 8 * (m : Int) / 256 % 256, 8 * (m : Int) % 256, 0, 0, 0, 0, 8 * (n : Int) / 16777216 % 256, 8 * (n : Int) / 65536 % 256, 8 * (n : Int) / 256 % 256, 8 * (n : Int) % 256]
  simp only [List.cons.injEq, and_true, true_and, Int.ediv_one]
  omega
theorem tag_eq {K N ms ts : List Int} {m n : Nat} (hm : m ≤ ms.length) (hn : n ≤ ts.length) (bm : Bytes ms) (bt : Bytes ts) (bk : Bytes K) (bn : Bytes N) (lm : m ≤ 100000) (ln : n ≤ 100000) :
    tagLaw K N ms m ts n = rtagLaw K N (subLaw ms 0 m) m (subLaw ts 0 n) n := by
  have l1 := fullp_len hm
  have l2 := fullp_len hn
  have b1 := full_bytes (sub_bytes bm 0 m) (padLaw m)
  have b2 := full_bytes (sub_bytes bt 0 n) (padLaw n)
  have l3 : (rlLaw m ++ rlLaw n).length = 16 := rfl
  have b3 := (rl_bytes m).append (rl_bytes n)
  have bL := pt_bytes (lenLaw m n)
  have pL := pt_len (lenLaw m n)
  have ek : hkLaw K = wN (nB (blockLaw (ksLaw K 176) zLaw16)) := rfl
  generalize hh : nB (blockLaw (ksLaw K 176) zLaw16) = h at ek
  have e3 : fullLaw (subLaw (ptLaw (lenLaw m n)) 0 16) (padLaw 16) = rlLaw m ++ rlLaw n := by
    rw [sub_n pL, show padLaw 16 = 0 by rfl, full_zero, len_eq lm ln]
  have lt : (rtxtLaw (subLaw ms 0 m) m (subLaw ts 0 n) n).length = 16 * ((m + 15) / 16 + ((n + 15) / 16 + 1)) := by
    unfold rtxtLaw
    rw [List.length_append, List.length_append, List.length_append, l1, l2, rl_len, rl_len]; omega
  have bt' : Bytes (rtxtLaw (subLaw ms 0 m) m (subLaw ts 0 n) n) := ((b1.append b2).append (rl_bytes m)).append (rl_bytes n)
  have et : rtxtLaw (subLaw ms 0 m) m (subLaw ts 0 n) n = fullLaw (subLaw ms 0 m) (padLaw m) ++ (fullLaw (subLaw ts 0 n) (padLaw n) ++ (rlLaw m ++ rlLaw n)) := by
    unfold rtxtLaw; simp only [List.append_assoc]
  unfold tagLaw rtagLaw rhashLaw
  rw [lt, show 16 * ((m + 15) / 16 + ((n + 15) / 16 + 1)) / 16 = (m + 15) / 16 + ((n + 15) / 16 + 1) by omega, rh_rhN bt' _ (by omega), et, hh,
    rhN_cat l1 _ (by rw [List.length_append, l2, l3]; omega), rhN_cat l2 _ (by rw [l3]; exact Nat.le_refl 16), ek, zero_w, hs_rhN hm, hs_rhN hn, hs_rhN (n := 16) (by rw [pL]; exact Nat.le_refl 16), e3, gw_eq, xw_wN, pt_wN, bN_xor, bN_nB (ct_bytes bk bn 1) (ct_len K N 1), plus_comm]
/-! turned -/
theorem getD_set {l : List Int} {i : Nat} (hi : i < l.length) (v : Int) (p : Nat) : (l.set i v).getD p 0 = if i = p then v else l.getD p 0 := by
  rw [List.getD_eq_getElem?_getD, List.getElem?_set, List.getD_eq_getElem?_getD]
  by_cases h : i = p
  · subst h; simp [hi]
  · simp [h]
theorem xk2_get (c xs : List Int) (i p : Nat) (hp : p < xs.length) : ∀ k, (xk2Law c xs i k).getD p 0 = if i ≤ p ∧ p < i + k then ixor (xs.getD p 0) (c.getD (p - i) 0) else xs.getD p 0
  | 0 => by rw [if_neg (by omega)]; rfl
  | k + 1 => by
    have hl := bx_len c xs i k
    unfold xk2Law
    by_cases h : i + k < xs.length
    · rw [if_pos h, getD_set (by omega)]
      by_cases e : i + k = p
      · subst e
        rw [if_pos rfl, xk2_get c xs i (i + k) hp k, if_neg (by omega), if_pos (by omega), Nat.add_sub_cancel_left]
      · rw [if_neg e, xk2_get c xs i p hp k]
        by_cases h2 : i ≤ p ∧ p < i + k
        · rw [if_pos h2, if_pos (by omega)]
        · rw [if_neg h2, if_neg (by omega)]
    · rw [if_neg h, xk2_get c xs i p hp k]
      by_cases h2 : i ≤ p ∧ p < i + k
      · rw [if_pos h2, if_pos (by omega)]
      · rw [if_neg h2, if_neg (by omega)]
theorem tn_get (K N xs : List Int) (p : Nat) (hp : p < xs.length) : ∀ j, (tnLaw K N xs j).getD p 0 = if p < 16 * j then ixor (xs.getD p 0) (kbLaw K N p) else xs.getD p 0
  | 0 => by rw [if_neg (by omega)]; rfl
  | j + 1 => by
    have hl := tn_len K N xs j
    show (xk2Law (ctLaw K N (2 + (j : Int))) (tnLaw K N xs j) (16 * j) 16).getD p 0 = _
    rw [xk2_get _ _ _ p (by omega), tn_get K N xs p hp j]
    by_cases h : p < 16 * j
    · rw [if_neg (by omega), if_pos h, if_pos (by omega)]
    · by_cases h2 : p < 16 * j + 16
      · rw [if_pos (by omega), if_neg h, if_pos (by omega)]
        unfold kbLaw
        rw [show p / 16 = j by omega, show p % 16 = p - 16 * j by omega]
      · rw [if_neg (by omega), if_neg h, if_neg (by omega)]
theorem ext_getD {a b : List Int} (hl : a.length = b.length) (h : ∀ p, p < a.length → a.getD p 0 = b.getD p 0) : a = b := by
  apply List.ext_getElem hl
  intro i h1 h2
  have := h i h1
  rwa [List.getD_eq_getElem?_getD, List.getD_eq_getElem?_getD, List.getElem?_eq_getElem h1, List.getElem?_eq_getElem h2] at this
end Go.Abs

set_option linter.unusedVariables false
set_option linter.unusedSimpArgs false
set_option maxRecDepth 8000
namespace Go.Abs
open Go.Proofs.Try
/-! ### GcmSeals -/
theorem seal_len (K N M : List Int) (m : Nat) {X : List Int} {n : Nat} (l : X.length = n) (n' : Nat) : (sealLaw K N M m X n').length = n + 16 := by
  unfold sealLaw
  rw [List.length_append, turn_len, tag_len, l]
end Go.Abs

set_option linter.unusedVariables false
set_option linter.unusedSimpArgs false
set_option maxRecDepth 8000
namespace Go.Abs
open Go.Proofs.Try
end Go.Abs

set_option linter.unusedVariables false
set_option linter.unusedSimpArgs false
set_option maxRecDepth 8000
namespace Go.Abs
open Go.Proofs.Try
theorem mod_front {n : Nat} (h : 0 < n) (h' : n ≤ 2000) (i : Int) : (∃ j : Nat, (i.tmod n + n).tmod n = (j : Nat) ∧ j < n) ∧ -9223372036854775808 ≤ i.tmod n + n ∧ i.tmod n + n ≤ 9223372036854775807 := by
  have a := Int.tmod_lt_of_pos i (b := (n : Int)) (by omega)
  have b : -(n : Int) < i.tmod n := by
    have := Int.tmod_lt_of_pos (-i) (b := (n : Int)) (by omega)
    rw [Int.neg_tmod] at this
    omega
  have c := Int.tmod_lt_of_pos (i.tmod n + n) (b := (n : Int)) (by omega)
  have d := Int.tmod_nonneg (n : Int) (a := i.tmod n + n) (by omega)
  exact ⟨⟨((i.tmod n + n).tmod n).toNat, by omega, by omega⟩, by omega, by omega⟩
end Go.Abs

set_option linter.unusedVariables false
set_option linter.unusedSimpArgs false
set_option maxRecDepth 8000
namespace Go.Abs
open Go.Proofs.Try
/-! ### GcmBack -/
noncomputable def eV8 : Env := eA [(28, S28), (30, S30), (31, S31), (32, S32A), (34, S34)]
theorem eV8_ok : EnvOk eV8 := envOf_ok tysA_ok (SumsOk.cons (fn := f28) S28_ok (by kernel_rfl) (by kernel_rfl) (by kernel_rfl) (SumsOk.cons (fn := f30) S30_ok (by kernel_rfl) (by kernel_rfl) (by kernel_rfl) (SumsOk.cons (fn := f31) S31_ok (by kernel_rfl) (by kernel_rfl) (by kernel_rfl) (SumsOk.cons (fn := f32) S32A_ok (by kernel_rfl) (by kernel_rfl) (by kernel_rfl) (SumsOk.cons (fn := f34) S34_ok (by kernel_rfl) (by kernel_rfl) (by kernel_rfl) trivial)))))
noncomputable def eV8X : Env := eA [(28, S28), (30, S30), (31, S31), (32, S32X), (34, S34)]
theorem eV8X_ok : EnvOk eV8X := envOf_ok tysA_ok (SumsOk.cons (fn := f28) S28_ok (by kernel_rfl) (by kernel_rfl) (by kernel_rfl) (SumsOk.cons (fn := f30) S30_ok (by kernel_rfl) (by kernel_rfl) (by kernel_rfl) (SumsOk.cons (fn := f31) S31_ok (by kernel_rfl) (by kernel_rfl) (by kernel_rfl) (SumsOk.cons (fn := f32) S32X_ok (by kernel_rfl) (by kernel_rfl) (by kernel_rfl) (SumsOk.cons (fn := f34) S34_ok (by kernel_rfl) (by kernel_rfl) (by kernel_rfl) trivial)))))
noncomputable def R10a (ks ns ms ts es : List Int) (nk nn m n p : Nat) (i b : Int) : Res := resG 5 [0,1,2,3,4] (runF eV8 f10 [] 400 [.agg [.slice 1 0 0 0 nk none, .slice 1 1 0 0 nn none, .slice 1 2 0 0 m none, .slice 1 3 0 0 n none], .slice 1 4 0 0 p none, .int .i64 i, .int .u8 b] [some ⟨.ints .u8 ks, 0, false, 5⟩, some ⟨.ints .u8 ns, 0, false, 5⟩, some ⟨.ints .u8 ms, 0, false, 5⟩, some ⟨.ints .u8 ts, 0, false, 5⟩, some ⟨.ints .u8 es, 0, false, 5⟩] [some true, some true, some true])
theorem R10a_ok {ks ns ms ts es : List Int} {nk nn m n p : Nat} {i b : Int} (h : allP [.leN nk ks.length, .leN nn ns.length, .p (decide (65536 < (↑n : Int)) = true), .p (true = true)]) : OkR (R10a ks ns ms ts es nk nn m n p i b) := OkR.dem (fl := bitsF 22 247695) (by kernel_rfl) (by kernel_rfl) (by kernel_rfl) h
theorem R10a_val {ks ns ms ts es : List Int} {nk nn m n p : Nat} {i b : Int} : (R10a ks ns ms ts es nk nn m n p i b).val = .bool true := by kernel_rfl
theorem R10a_tab {ks ns ms ts es : List Int} {nk nn m n p : Nat} {i b : Int} : (R10a ks ns ms ts es nk nn m n p i b).tab = [some ⟨.ints .u8 ks, 0, false, 5⟩, some ⟨.ints .u8 ns, 0, false, 5⟩, some ⟨.ints .u8 ms, 0, false, 5⟩, some ⟨.ints .u8 ts, 0, false, 5⟩, some ⟨.ints .u8 es, 0, false, 5⟩] := by kernel_rfl
noncomputable def R10b (ks ns ms ts es : List Int) (nk nn m n p : Nat) (i b : Int) : Res := resG 5 [0,1,2,3,4] (runF eV8 f10 [] 400 [.agg [.slice 1 0 0 0 nk none, .slice 1 1 0 0 nn none, .slice 1 2 0 0 m none, .slice 1 3 0 0 n none], .slice 1 4 0 0 p none, .int .i64 i, .int .u8 b] [some ⟨.ints .u8 ks, 0, false, 5⟩, some ⟨.ints .u8 ns, 0, false, 5⟩, some ⟨.ints .u8 ms, 0, false, 5⟩, some ⟨.ints .u8 ts, 0, false, 5⟩, some ⟨.ints .u8 es, 0, false, 5⟩] [some false, some true, some true])
theorem R10b_ok {ks ns ms ts es : List Int} {nk nn m n p : Nat} {i b : Int} (h : allP [.leN nk ks.length, .leN nn ns.length, .p (decide (65536 < (↑n : Int)) = false), .p (decide (65536 < (↑m : Int)) = true), .p (true = true)]) : OkR (R10b ks ns ms ts es nk nn m n p i b) := OkR.dem (fl := bitsF 27 8112015) (by kernel_rfl) (by kernel_rfl) (by kernel_rfl) h
theorem R10b_val {ks ns ms ts es : List Int} {nk nn m n p : Nat} {i b : Int} : (R10b ks ns ms ts es nk nn m n p i b).val = .bool true := by kernel_rfl
theorem R10b_tab {ks ns ms ts es : List Int} {nk nn m n p : Nat} {i b : Int} : (R10b ks ns ms ts es nk nn m n p i b).tab = [some ⟨.ints .u8 ks, 0, false, 5⟩, some ⟨.ints .u8 ns, 0, false, 5⟩, some ⟨.ints .u8 ms, 0, false, 5⟩, some ⟨.ints .u8 ts, 0, false, 5⟩, some ⟨.ints .u8 es, 0, false, 5⟩] := by kernel_rfl
noncomputable def R10c (ks ns ms ts es : List Int) (nk nn m n p : Nat) (i b : Int) : Res := resG 5 [0,1,2,3,4] (runF eV8 f10 [] 400 [.agg [.slice 1 0 0 0 nk none, .slice 1 1 0 0 nn none, .slice 1 2 0 0 m none, .slice 1 3 0 0 n none], .slice 1 4 0 0 p none, .int .i64 i, .int .u8 b] [some ⟨.ints .u8 ks, 0, false, 5⟩, some ⟨.ints .u8 ns, 0, false, 5⟩, some ⟨.ints .u8 ms, 0, false, 5⟩, some ⟨.ints .u8 ts, 0, false, 5⟩, some ⟨.ints .u8 es, 0, false, 5⟩] [some false, some false, some true])
theorem R10c_ok {ks ns ms ts es : List Int} {nk nn m n p : Nat} {i b : Int} (h : allP [.leN nk ks.length, .leN nn ns.length, .p (decide (65536 < (↑n : Int)) = false), .p (decide (65536 < (↑m : Int)) = false), .p (decide (65536 < (↑p : Int)) = true)]) : OkR (R10c ks ns ms ts es nk nn m n p i b) := OkR.dem (fl := bitsF 28 24889231) (by kernel_rfl) (by kernel_rfl) (by kernel_rfl) h
theorem R10c_val {ks ns ms ts es : List Int} {nk nn m n p : Nat} {i b : Int} : (R10c ks ns ms ts es nk nn m n p i b).val = .bool true := by kernel_rfl
theorem R10c_tab {ks ns ms ts es : List Int} {nk nn m n p : Nat} {i b : Int} : (R10c ks ns ms ts es nk nn m n p i b).tab = [some ⟨.ints .u8 ks, 0, false, 5⟩, some ⟨.ints .u8 ns, 0, false, 5⟩, some ⟨.ints .u8 ms, 0, false, 5⟩, some ⟨.ints .u8 ts, 0, false, 5⟩, some ⟨.ints .u8 es, 0, false, 5⟩] := by kernel_rfl
end Go.Abs

set_option linter.unusedVariables false
set_option linter.unusedSimpArgs false
set_option maxRecDepth 8000
namespace Go.Abs
open Go.Proofs.Try
/-! ### GcmBack: two parts -/
noncomputable def N10f (ks ns ms ts es : List Int) (nk nn m n p : Nat) (i b : Int) : Out := trim 5 9 [2, 3, 4, 9, 10, 11] (runs eV8 146 ⟨5, []⟩ 400 (frontC 9 (bodyOf f10)) [(0, .agg [.slice 1 0 0 0 nk none, .slice 1 1 0 0 nn none, .slice 1 2 0 0 m none, .slice 1 3 0 0 n none]), (1, .slice 1 4 0 0 p none), (2, .int .i64 i), (3, .int .u8 b)] [some ⟨.ints .u8 ks, 0, false, 5⟩, some ⟨.ints .u8 ns, 0, false, 5⟩, some ⟨.ints .u8 ms, 0, false, 5⟩, some ⟨.ints .u8 ts, 0, false, 5⟩, some ⟨.ints .u8 es, 0, false, 5⟩] [some false, some false, some false, some false, some false, some false, some false, some false])
theorem N10f_ok {ks ns ms ts es : List Int} {nk nn m n p : Nat} {i b : Int} (h : allP [.leN nk ks.length, .leN nn ns.length, .p (decide (65536 < (↑n : Int)) = false), .p (decide (65536 < (↑m : Int)) = false), .p (decide (65536 < (↑p : Int)) = false), .leN 16 (fitLaw 16 ks nk).length, .leN 12 (fitLaw 12 ns nn).length, .p (Bytes (fitLaw 16 ks nk)), .p (Bytes (fitLaw 12 ns nn)), .leN m ms.length, .leN
 m 65536, .p (Bytes ms), .leN n ts.length, .leN n 65536, .p (Bytes ts), .leN 16 (fitLaw 16 ks nk).length, .leN 12 (fitLaw 12 ns nn).length, .p (Bytes (fitLaw 16 ks nk)), .p (Bytes (fitLaw 12 ns nn)), .leN m ms.length, .leN m 65536, .p (Bytes ms), .leN (n + 16) (sealLaw (subLaw (fitLaw 16 ks nk) 0 16) (subLaw (fitLaw 12 ns nn) 0 12) ms m (subLaw ts 0 n) n).length, .leN (n + 16) 65552, .p (Bytes
 (sealLaw (subLaw (fitLaw 16 ks nk) 0 16) (subLaw (fitLaw 12 ns nn) 0 12) ms m (subLaw ts 0 n) n)), .leN 16 (n + 16), .p (tagLaw (subLaw (fitLaw 16 ks nk) 0 16) (subLaw (fitLaw 12 ns nn) 0 12) ms m (sealLaw (subLaw (fitLaw 16 ks nk) 0 16) (subLaw (fitLaw 12 ns nn) 0 12) ms m (subLaw ts 0 n) n) (n + 16 - 16) = subLaw (sealLaw (subLaw (fitLaw 16 ks nk) 0 16) (subLaw (fitLaw 12 ns nn) 0 12) ms m
 (subLaw ts 0 n) n) (n + 16 - 16) 16), .leN 16 (fitLaw 16 ks nk).length, .leN 12 (fitLaw 12 ns nn).length, .p (Bytes (fitLaw 16 ks nk)), .p (Bytes (fitLaw 12 ns nn)), .leN m ms.length, .leN m 65536, .p (Bytes ms), .leN p es.length, .leN p 65536, .p (Bytes es), .p (false = false), .rng (-9223372036854775808) ((↑n : Int) + 16) 9223372036854775807, .p (((↑(n + 16) : Int) != (↑n : Int) + 16) = false),
 .leN (0 + (n + 16 - 16)) (turnLaw (subLaw (fitLaw 16 ks nk) 0 16) (subLaw (fitLaw 12 ns nn) 0 12) (subLaw (sealLaw (subLaw (fitLaw 16 ks nk) 0 16) (subLaw (fitLaw 12 ns nn) 0 12) ms m (subLaw ts 0 n) n) 0 (n + 16 - 16))).length, .leN (0 + n) ts.length, .p ((!List.map byteOf (List.take (n + 16 - 16) (turnLaw (subLaw (fitLaw 16 ks nk) 0 16) (subLaw (fitLaw 12 ns nn) 0 12) (subLaw (sealLaw (subLaw
 (fitLaw 16 ks nk) 0 16) (subLaw (fitLaw 12 ns nn) 0 12) ms m (subLaw ts 0 n) n) 0 (n + 16 - 16)))) == List.map byteOf (List.take n ts)) = false), .leN (0 + (n + 16)) (sealLaw (subLaw (fitLaw 16 ks nk) 0 16) (subLaw (fitLaw 12 ns nn) 0 12) ms m (subLaw ts 0 n) n).length, .leN (0 + (p + 16)) (sealLaw (subLaw (fitLaw 16 ks nk) 0 16) (subLaw (fitLaw 12 ns nn) 0 12) ms m (subLaw es 0 p) p).length, .p
 ((List.map byteOf (List.take (n + 16) (sealLaw (subLaw (fitLaw 16 ks nk) 0 16) (subLaw (fitLaw 12 ns nn) 0 12) ms m (subLaw ts 0 n) n)) == List.map byteOf (List.take (p + 16) (sealLaw (subLaw (fitLaw 16 ks nk) 0 16) (subLaw (fitLaw 12 ns nn) 0 12) ms m (subLaw es 0 p) p))) = false), .leN (0 + n) ts.length, .leN (0 + p) es.length, .p ((List.map byteOf (List.take n ts) == List.map byteOf (List.take p
 es)) = false), .rng (-9223372036854775808) ((↑(n + 16) : Int) - 16) 9223372036854775807, .rng (-9223372036854775808) (i.tmod 16 + 16) 9223372036854775807, .rng (-9223372036854775808) ((↑(n + 16) : Int) - 16 + (i.tmod 16 + 16).tmod 16) 9223372036854775807]) : Ok (N10f ks ns ms ts es nk nn m n p i b) := Ok.dem (fl := bitsF 127 55950019856686574057898490161518069647) (by kernel_rfl) (by kernel_rfl)
 (by kernel_rfl) h
theorem N10f_ex {ks ns ms ts es : List Int} {nk nn m n p : Nat} {i b : Int} : (N10f ks ns ms ts es nk nn m n p i b).ex = .normal := by kernel_rfl
theorem N10f_fm {ks ns ms ts es : List Int} {nk nn m n p : Nat} {i b : Int} : (N10f ks ns ms ts es nk nn m n p i b).fm = [(2, .int .i64 ((↑(n + 16) : Int) - 16 + (i.tmod 16 + 16).tmod 16)), (3, .int .u8 b), (4, .var 5 0), (9, .slice 1 6 0 0 16 (some 16)), (10, .slice 1 7 0 0 12 (some 12)), (11, .slice 1 8 2 0 (n + 16) none)] := by kernel_rfl
theorem N10f_tab {ks ns ms ts es : List Int} {nk nn m n p : Nat} {i b : Int} : (N10f ks ns ms ts es nk nn m n p i b).tab = [some ⟨.ints .u8 ks, 0, false, 5⟩, some ⟨.ints .u8 ns, 0, false, 5⟩, some ⟨.ints .u8 ms, 0, false, 5⟩, some ⟨.ints .u8 ts, 0, false, 5⟩, some ⟨.ints .u8 es, 0, false, 5⟩, some ⟨.agg [.slice 1 0 0 0 nk none, .slice 1 1 0 0 nn none, .slice 1 2 0 0 m none, .slice 1 3 0 0 n none],
 0, true, 39⟩, some ⟨.ints .u8 (fitLaw 16 ks nk), 0, true, 5⟩, some ⟨.ints .u8 (fitLaw 12 ns nn), 0, true, 5⟩, some ⟨.ints .u8 (sealLaw (subLaw (fitLaw 16 ks nk) 0 16) (subLaw (fitLaw 12 ns nn) 0 12) ms m (subLaw ts 0 n) n), 2, true, 5⟩] := by kernel_rfl
noncomputable def N10t (ks ns ms ts es : List Int) (nk nn m n p : Nat) (i b : Int) : Out := trim 5 9 [2, 3, 4, 9, 10, 11] (runs eV8 146 ⟨5, []⟩ 400 (frontC 9 (bodyOf f10)) [(0, .agg [.slice 1 0 0 0 nk none, .slice 1 1 0 0 nn none, .slice 1 2 0 0 m none, .slice 1 3 0 0 n none]), (1, .slice 1 4 0 0 p none), (2, .int .i64 i), (3, .int .u8 b)] [some ⟨.ints .u8 ks, 0, false, 5⟩, some ⟨.ints .u8 ns, 0, false, 5⟩, some ⟨.ints .u8 ms, 0, false, 5⟩, some ⟨.ints .u8 ts, 0, false, 5⟩, some ⟨.ints .u8 es, 0, false, 5⟩] [some false, some false, some false, some false, some false, some false, some true, some true])
theorem N10t_ok {ks ns ms ts es : List Int} {nk nn m n p : Nat} {i b : Int} (h : allP [.leN nk ks.length, .leN nn ns.length, .p (decide (65536 < (↑n : Int)) = false), .p (decide (65536 < (↑m : Int)) = false), .p (decide (65536 < (↑p : Int)) = false), .leN 16 (fitLaw 16 ks nk).length, .leN 12 (fitLaw 12 ns nn).length, .p (Bytes (fitLaw 16 ks nk)), .p (Bytes (fitLaw 12 ns nn)), .leN m ms.length, .leN
 m 65536, .p (Bytes ms), .leN n ts.length, .leN n 65536, .p (Bytes ts), .leN 16 (fitLaw 16 ks nk).length, .leN 12 (fitLaw 12 ns nn).length, .p (Bytes (fitLaw 16 ks nk)), .p (Bytes (fitLaw 12 ns nn)), .leN m ms.length, .leN m 65536, .p (Bytes ms), .leN (n + 16) (sealLaw (subLaw (fitLaw 16 ks nk) 0 16) (subLaw (fitLaw 12 ns nn) 0 12) ms m (subLaw ts 0 n) n).length, .leN (n + 16) 65552, .p (Bytes
 (sealLaw (subLaw (fitLaw 16 ks nk) 0 16) (subLaw (fitLaw 12 ns nn) 0 12) ms m (subLaw ts 0 n) n)), .leN 16 (n + 16), .p (tagLaw (subLaw (fitLaw 16 ks nk) 0 16) (subLaw (fitLaw 12 ns nn) 0 12) ms m (sealLaw (subLaw (fitLaw 16 ks nk) 0 16) (subLaw (fitLaw 12 ns nn) 0 12) ms m (subLaw ts 0 n) n) (n + 16 - 16) = subLaw (sealLaw (subLaw (fitLaw 16 ks nk) 0 16) (subLaw (fitLaw 12 ns nn) 0 12) ms m
 (subLaw ts 0 n) n) (n + 16 - 16) 16), .leN 16 (fitLaw 16 ks nk).length, .leN 12 (fitLaw 12 ns nn).length, .p (Bytes (fitLaw 16 ks nk)), .p (Bytes (fitLaw 12 ns nn)), .leN m ms.length, .leN m 65536, .p (Bytes ms), .leN p es.length, .leN p 65536, .p (Bytes es), .p (false = false), .rng (-9223372036854775808) ((↑n : Int) + 16) 9223372036854775807, .p (((↑(n + 16) : Int) != (↑n : Int) + 16) = false),
 .leN (0 + (n + 16 - 16)) (turnLaw (subLaw (fitLaw 16 ks nk) 0 16) (subLaw (fitLaw 12 ns nn) 0 12) (subLaw (sealLaw (subLaw (fitLaw 16 ks nk) 0 16) (subLaw (fitLaw 12 ns nn) 0 12) ms m (subLaw ts 0 n) n) 0 (n + 16 - 16))).length, .leN (0 + n) ts.length, .p ((!List.map byteOf (List.take (n + 16 - 16) (turnLaw (subLaw (fitLaw 16 ks nk) 0 16) (subLaw (fitLaw 12 ns nn) 0 12) (subLaw (sealLaw (subLaw
 (fitLaw 16 ks nk) 0 16) (subLaw (fitLaw 12 ns nn) 0 12) ms m (subLaw ts 0 n) n) 0 (n + 16 - 16)))) == List.map byteOf (List.take n ts)) = false), .leN (0 + (n + 16)) (sealLaw (subLaw (fitLaw 16 ks nk) 0 16) (subLaw (fitLaw 12 ns nn) 0 12) ms m (subLaw ts 0 n) n).length, .leN (0 + (p + 16)) (sealLaw (subLaw (fitLaw 16 ks nk) 0 16) (subLaw (fitLaw 12 ns nn) 0 12) ms m (subLaw es 0 p) p).length, .p
 ((List.map byteOf (List.take (n + 16) (sealLaw (subLaw (fitLaw 16 ks nk) 0 16) (subLaw (fitLaw 12 ns nn) 0 12) ms m (subLaw ts 0 n) n)) == List.map byteOf (List.take (p + 16) (sealLaw (subLaw (fitLaw 16 ks nk) 0 16) (subLaw (fitLaw 12 ns nn) 0 12) ms m (subLaw es 0 p) p))) = true), .leN (0 + n) ts.length, .leN (0 + p) es.length, .p ((List.map byteOf (List.take n ts) == List.map byteOf (List.take p
 es)) = true), .rng (-9223372036854775808) ((↑(n + 16) : Int) - 16) 9223372036854775807, .rng (-9223372036854775808) (i.tmod 16 + 16) 9223372036854775807, .rng (-9223372036854775808) ((↑(n + 16) : Int) - 16 + (i.tmod 16 + 16).tmod 16) 9223372036854775807]) : Ok (N10t ks ns ms ts es nk nn m n p i b) := Ok.dem (fl := bitsF 127 55950019856686574057898490161518069647) (by kernel_rfl) (by kernel_rfl) (by
 kernel_rfl) h
theorem N10t_ex {ks ns ms ts es : List Int} {nk nn m n p : Nat} {i b : Int} : (N10t ks ns ms ts es nk nn m n p i b).ex = .normal := by kernel_rfl
theorem N10t_fm {ks ns ms ts es : List Int} {nk nn m n p : Nat} {i b : Int} : (N10t ks ns ms ts es nk nn m n p i b).fm = [(2, .int .i64 ((↑(n + 16) : Int) - 16 + (i.tmod 16 + 16).tmod 16)), (3, .int .u8 b), (4, .var 5 0), (9, .slice 1 6 0 0 16 (some 16)), (10, .slice 1 7 0 0 12 (some 12)), (11, .slice 1 8 2 0 (n + 16) none)] := by kernel_rfl
theorem N10t_tab {ks ns ms ts es : List Int} {nk nn m n p : Nat} {i b : Int} : (N10t ks ns ms ts es nk nn m n p i b).tab = [some ⟨.ints .u8 ks, 0, false, 5⟩, some ⟨.ints .u8 ns, 0, false, 5⟩, some ⟨.ints .u8 ms, 0, false, 5⟩, some ⟨.ints .u8 ts, 0, false, 5⟩, some ⟨.ints .u8 es, 0, false, 5⟩, some ⟨.agg [.slice 1 0 0 0 nk none, .slice 1 1 0 0 nn none, .slice 1 2 0 0 m none, .slice 1 3 0 0 n none],
 0, true, 39⟩, some ⟨.ints .u8 (fitLaw 16 ks nk), 0, true, 5⟩, some ⟨.ints .u8 (fitLaw 12 ns nn), 0, true, 5⟩, some ⟨.ints .u8 (sealLaw (subLaw (fitLaw 16 ks nk) 0 16) (subLaw (fitLaw 12 ns nn) 0 12) ms m (subLaw ts 0 n) n), 2, true, 5⟩] := by kernel_rfl
noncomputable def Z10A (ks ns ms ts es K N W : List Int) (nk nn m n q : Nat) : Out := trim 5 5 [8] (run eV8 146 ⟨5, []⟩ 400 (backC 9 (bodyOf f10)) [(2, .int .i64 (q : Nat)), (3, .int .u8 0), (4, .var 5 0), (9, .slice 1 6 0 0 16 (some 16)), (10, .slice 1 7 0 0 12 (some 12)), (11, .slice 1 8 2 0 (n + 16) none)] [some ⟨.ints .u8 ks, 0, false, 5⟩, some ⟨.ints .u8 ns, 0, false, 5⟩, some ⟨.ints .u8 ms, 0, false, 5⟩, some ⟨.ints .u8 ts, 0, false, 5⟩, some ⟨.ints .u8 es, 0, false, 5⟩, some ⟨.agg [.slice 1 0 0 0 nk none, .slice 1 1 0 0 nn none, .slice 1 2 0 0 m none, .slice 1 3 0 0 n none], 0, true, 39⟩, some ⟨.ints .u8 K, 0, true, 5⟩, some ⟨.ints .u8 N, 0, true, 5⟩, some ⟨.ints .u8 W, 2, true, 5⟩] [])
theorem Z10A_ok {ks ns ms ts es K N W : List Int} {nk nn m n q : Nat} (h : allP [.leI 0 (↑q : Int), .leI ((↑q : Int) + 1) (↑(n + 16) : Int), .leN (q + 1) W.length, .nn .u8 (W.getD q 0), .leI 0 (↑q : Int), .leI ((↑q : Int) + 1) (↑(n + 16) : Int), .leN (q + 1) W.length, .leN 16 K.length, .leN 12 N.length, .p (Bytes K), .p (Bytes N), .leN m ms.length, .leN m 65536, .p (Bytes ms), .leN (n + 16) (W.set
 q (ixor (W.getD q 0) 0)).length, .leN (n + 16) 65552, .p (Bytes (W.set q (ixor (W.getD q 0) 0))), .leN 16 (n + 16), .p (tagLaw (subLaw K 0 16) (subLaw N 0 12) ms m (W.set q (ixor (W.getD q 0) 0)) (n + 16 - 16) = subLaw (W.set q (ixor (W.getD q 0) 0)) (n + 16 - 16) 16)]) : Ok (Z10A ks ns ms ts es K N W nk nn m n q) := Ok.dem (fl := bitsF 35 2092233) (by kernel_rfl) (by kernel_rfl) (by kernel_rfl) h
theorem Z10A_ex {ks ns ms ts es K N W : List Int} {nk nn m n q : Nat} : (Z10A ks ns ms ts es K N W nk nn m n q).ex = .ret := by kernel_rfl
theorem Z10A_fm {ks ns ms ts es K N W : List Int} {nk nn m n q : Nat} : (Z10A ks ns ms ts es K N W nk nn m n q).fm = [(8, .bool true)] := by kernel_rfl
theorem Z10A_tab {ks ns ms ts es K N W : List Int} {nk nn m n q : Nat} : (Z10A ks ns ms ts es K N W nk nn m n q).tab = [some ⟨.ints .u8 ks, 0, false, 5⟩, some ⟨.ints .u8 ns, 0, false, 5⟩, some ⟨.ints .u8 ms, 0, false, 5⟩, some ⟨.ints .u8 ts, 0, false, 5⟩, some ⟨.ints .u8 es, 0, false, 5⟩] := by kernel_rfl
noncomputable def Z10X (ks ns ms ts es K N W : List Int) (nk nn m n q : Nat) (b : Int) : Out := trim 5 5 [8] (run eV8X 146 ⟨5, []⟩ 400 (backC 9 (bodyOf f10)) [(2, .int .i64 (q : Nat)), (3, .int .u8 b), (4, .var 5 0), (9, .slice 1 6 0 0 16 (some 16)), (10, .slice 1 7 0 0 12 (some 12)), (11, .slice 1 8 2 0 (n + 16) none)] [some ⟨.ints .u8 ks, 0, false, 5⟩, some ⟨.ints .u8 ns, 0, false, 5⟩, some ⟨.ints .u8 ms, 0, false, 5⟩, some ⟨.ints .u8 ts, 0, false, 5⟩, some ⟨.ints .u8 es, 0, false, 5⟩, some ⟨.agg [.slice 1 0 0 0 nk none, .slice 1 1 0 0 nn none, .slice 1 2 0 0 m none, .slice 1 3 0 0 n none], 0, true, 39⟩, some ⟨.ints .u8 K, 0, true, 5⟩, some ⟨.ints .u8 N, 0, true, 5⟩, some ⟨.ints .u8 W, 2, true, 5⟩] [some false, some true, some true])
theorem Z10X_ok {ks ns ms ts es K N W : List Int} {nk nn m n q : Nat} {b : Int} (h : allP [.leI 0 (↑q : Int), .leI ((↑q : Int) + 1) (↑(n + 16) : Int), .leN (q + 1) W.length, .nn .u8 (W.getD q 0), .nn .u8 b, .leI 0 (↑q : Int), .leI ((↑q : Int) + 1) (↑(n + 16) : Int), .leN (q + 1) W.length, .leN 16 K.length, .leN 12 N.length, .p (Bytes K), .p (Bytes N), .leN m ms.length, .leN m 65536, .p (Bytes ms),
 .leN (n + 16) (W.set q (ixor (W.getD q 0) b)).length, .leN (n + 16) 65552, .p (Bytes (W.set q (ixor (W.getD q 0) b))), .leN 16 (n + 16), .p (tagLaw (subLaw K 0 16) (subLaw N 0 12) ms m (W.set q (ixor (W.getD q 0) b)) (n + 16 - 16) ≠ subLaw (W.set q (ixor (W.getD q 0) b)) (n + 16 - 16) 16), .p ((b == 0) = false), .p (true = true)]) : Ok (Z10X ks ns ms ts es K N W nk nn m n q b) := Ok.dem (fl :=
 bitsF 37 2092169) (by kernel_rfl) (by kernel_rfl) (by kernel_rfl) h
theorem Z10X_ex {ks ns ms ts es K N W : List Int} {nk nn m n q : Nat} {b : Int} : (Z10X ks ns ms ts es K N W nk nn m n q b).ex = .ret := by kernel_rfl
theorem Z10X_fm {ks ns ms ts es K N W : List Int} {nk nn m n q : Nat} {b : Int} : (Z10X ks ns ms ts es K N W nk nn m n q b).fm = [(8, .bool true)] := by kernel_rfl
theorem Z10X_tab {ks ns ms ts es K N W : List Int} {nk nn m n q : Nat} {b : Int} : (Z10X ks ns ms ts es K N W nk nn m n q b).tab = [some ⟨.ints .u8 ks, 0, false, 5⟩, some ⟨.ints .u8 ns, 0, false, 5⟩, some ⟨.ints .u8 ms, 0, false, 5⟩, some ⟨.ints .u8 ts, 0, false, 5⟩, some ⟨.ints .u8 es, 0, false, 5⟩] := by kernel_rfl
end Go.Abs

set_option linter.unusedVariables false
set_option linter.unusedSimpArgs false
set_option maxRecDepth 8000
namespace Go.Abs
open Go.Proofs.Try
/-! ### GcmBack: what is true of the answers -/
theorem getD_front {l : List Int} {k j : Nat} (h : j < k) : (l.take k).getD j 0 = l.getD j 0 := by simp [List.getD, List.getElem?_take, h]
theorem ixor_back {a b : Int} (ha : 0 ≤ a) : ixor (ixor a b) b = a := by
  unfold ixor
  rw [Int.toNat_natCast, Nat.xor_assoc, Nat.xor_self, Nat.xor_zero]
  omega
theorem ixor_zero {a : Int} (ha : 0 ≤ a) : ixor a 0 = a := by
  unfold ixor
  rw [show (0 : Int).toNat = 0 from rfl, Nat.xor_zero]
  omega
theorem ixor_stays {a b : Int} (ha : 0 ≤ a) (hb : 0 ≤ b) (h : ixor a b = a) : b = 0 := by
  unfold ixor at h
  have h1 : a.toNat ^^^ b.toNat = a.toNat := by omega
  have h2 : b.toNat = 0 := by
    have := congrArg (a.toNat ^^^ ·) h1
    simpa [← Nat.xor_assoc] using this
  omega
theorem turn_get (K N X : List Int) {p : Nat} (hp : p < X.length) : (turnLaw K N X).getD p 0 = ixor (X.getD p 0) (kbLaw K N p) := by
  rw [turnLaw, tn_get K N X p hp, if_pos (by omega)]
theorem turn_back {K N X : List Int} (hx : Bytes X) : turnLaw K N (turnLaw K N X) = X := by
  refine ext_getD (by rw [turn_len, turn_len]) fun p hp => ?_
  rw [turn_len, turn_len] at hp
  rw [turn_get _ _ _ (by rw [turn_len]; exact hp), turn_get _ _ _ hp, ixor_back (hx.get p).1]
theorem tag_cong {K N ms A B : List Int} {m n : Nat} (hm : m ≤ ms.length) (hA : n ≤ A.length) (hB : n ≤ B.length) (bm : Bytes ms) (bA : Bytes A) (bB : Bytes B) (bk : Bytes K) (bn : Bytes N) (lm : m ≤ 100000) (ln : n ≤ 100000) (h : subLaw A 0 n = subLaw B 0 n) :
    tagLaw K N ms m A n = tagLaw K N ms m B n := by
  rw [tag_eq hm hA bm bA bk bn lm ln, tag_eq hm hB bm bB bk bn lm ln, h]
theorem sub_app {A B : List Int} {n : Nat} (h : A.length = n) : subLaw (A ++ B) 0 n = A := by
  unfold subLaw
  rw [List.drop_zero, List.take_left' h]
theorem sub_rest {A B : List Int} {n k : Nat} (h : A.length = n) (hb : B.length = k) : subLaw (A ++ B) n k = B := by
  unfold subLaw
  rw [List.drop_left' h, List.take_of_length_le (by omega)]
theorem sub_set {W : List Int} {n q : Nat} (h : n ≤ q) (v : Int) : subLaw (W.set q v) 0 n = subLaw W 0 n := by
  unfold subLaw
  rw [List.drop_zero, List.drop_zero, List.take_set_of_le h]
theorem seal_bytes {K N M X : List Int} {m n : Nat} (bk : Bytes K) (bn : Bytes N) (bx : Bytes X) : Bytes (sealLaw K N M m X n) := (turn_bytes bk bn bx).append (tag_bytes _ _ _ _ _ _)
theorem seal_inj {K N M X Y : List Int} {m n p : Nat} (bx : Bytes X) (bY : Bytes Y) (hx : X.length = n) (hy : Y.length = p) (h : sealLaw K N M m X n = sealLaw K N M m Y p) : X = Y := by
  have hl := congrArg List.length h
  rw [seal_len K N M m hx n, seal_len K N M m hy p] at hl
  unfold sealLaw at h
  have h1 := (List.append_inj h (by rw [turn_len, turn_len]; omega)).1
  rw [← turn_back (K := K) (N := N) bx, h1, turn_back bY]
/-- what is sealed opens -/
theorem seal_opens {K N ms X : List Int} {m n : Nat} (hm : m ≤ ms.length) (hx : X.length = n) (bm : Bytes ms) (bx : Bytes X) (bk : Bytes K) (bn : Bytes N) (lm : m ≤ 100000) (ln : n ≤ 100000) :
    tagLaw K N ms m (sealLaw K N ms m X n) n = subLaw (sealLaw K N ms m X n) n 16 := by
  have lt : (turnLaw K N X).length = n := by rw [turn_len, hx]
  have bt := turn_bytes bk bn bx
  have l := seal_len K N ms m hx n
  rw [tag_cong (B := turnLaw K N X) hm (by omega) (by omega) bm (seal_bytes bk bn bx) bt bk bn lm ln (by rw [sub_n lt]; exact sub_app lt)]
  exact (sub_rest lt (tag_len _ _ _ _ _ _)).symm
/-- what is changed in its tag does not -/
theorem seal_shut {K N ms X : List Int} {m n q : Nat} {b : Int} (hm : m ≤ ms.length) (hx : X.length = n) (bm : Bytes ms) (bx : Bytes X) (bk : Bytes K) (bn : Bytes N) (lm : m ≤ 100000) (ln : n ≤ 100000) (hq : n ≤ q) (hq' : q < n + 16) (hb : 0 ≤ b ∧ b < 256) (hb0 : b ≠ 0) :
    tagLaw K N ms m ((sealLaw K N ms m X n).set q (ixor ((sealLaw K N ms m X n).getD q 0) b)) n ≠ subLaw ((sealLaw K N ms m X n).set q (ixor ((sealLaw K N ms m X n).getD q 0) b)) n 16 := by
  have l := seal_len K N ms m hx n
  have bs := seal_bytes (M := ms) (m := m) (n := n) bk bn bx
  have ho := seal_opens hm hx bm bx bk bn lm ln
  generalize sealLaw K N ms m X n = W at l bs ho ⊢
  have bW : Bytes (W.set q (ixor (W.getD q 0) b)) := bs.set q (ixor_lt8 (bs.get q) hb)
  rw [tag_cong (B := W) hm (by rw [List.length_set]; omega) (by omega) bm bW bs bk bn lm ln (sub_set hq _), ho]
  intro h
  have h1 := congrArg (fun l => l.getD (q - n) 0) h
  simp only [subLaw, getD_front (show q - n < 16 by omega), getD_drop] at h1
  rw [show n + (q - n) = q by omega, getD_set (by omega), if_pos rfl] at h1
  exact hb0 (ixor_stays (bs.get q).1 hb.1 h1.symm)
theorem set_same {W : List Int} (h : Bytes W) (q : Nat) : W.set q (ixor (W.getD q 0) 0) = W := by
  rw [ixor_zero (h.get q).1]
  rcases Nat.lt_or_ge q W.length with h1 | h1
  · rw [List.getD_eq_getElem?_getD, List.getElem?_eq_getElem h1]
    exact List.set_getElem_self h1
  · exact List.set_eq_of_length_le h1
end Go.Abs

set_option linter.unusedVariables false
set_option linter.unusedSimpArgs false
set_option maxRecDepth 8000
namespace Go.Abs
open Go.Proofs.Try
end Go.Abs

set_option linter.unusedVariables false
set_option linter.unusedSimpArgs false
set_option maxRecDepth 8000
namespace Go.Abs
open Go.Proofs.Try
theorem AWp.cutTG {E : Env} (hE : EnvOk E) (hm : E.P.follows .mixedOrders = true) {n k m : Nat} {f : Nat} {post : AExit → Fm → Tab → Prop} {c : Code} (j : Nat) {fm : Fm} {T : Tab} {ds : List (Option Bool)} {slots : List Nat} {o : Out} (ho : Abs.trim k m slots (runs E n ⟨k, []⟩ f (frontC j c) fm T ds) = o) (hc : Ok o) (hx : o.ex = .normal) (h : AWp E n k (backC j c) o.fm o.tab post) : AWp E n k c fm T post := by
  generalize hr : runs E n ⟨k, []⟩ f (frontC j c) fm T ds = r at ho
  obtain ⟨cs, ex, fm1, T1, ds1⟩ := r
  unfold Abs.trim at ho
  simp only at ho
  split at ho
  · rename_i g hp hb
    subst ho
    exact AWp.cut hE hm j hr ⟨hc.h⟩ hx (AWp.enter hp hb h)
  · subst ho
    exact absurd hc.h failO_no
end Go.Abs

set_option linter.unusedVariables false
set_option linter.unusedSimpArgs false
set_option maxRecDepth 8000
namespace Go.Abs
open Go.Proofs.Try
/-! ### GcmBack: the law -/
theorem SRel.env {E E' : Env} (hg : E.gl = E'.gl) {D : List Deferred} {ν : Nu} {fm : Fm} {T : Tab} {n : Nat} {a : Act} {w : World} (h : SRel E D ν fm T n a w) : SRel E' D ν fm T n a w := ⟨hg ▸ h.hr, h.fm, h.size, h.defers⟩
theorem AWp.env {E E' : Env} (hP : E.P = E'.P) (hg : E.gl = E'.gl) {n k : Nat} {c : Code} {fm : Fm} {T : Tab} {post : AExit → Fm → Tab → Prop} (h : AWp E n k c fm T post) : AWp E' n k c fm T post := by
  intro rr D ν a w hs hrd
  have h1 := h rr D ν a w (hs.env hg.symm) hrd
  rw [hP] at h1
  refine wpIn_mono h1 fun e a' w' ⟨ex, fm', T', ν', e1, e2, ⟨ms, s1, m1⟩, e4, e5⟩ => ⟨ex, fm', T', ν', e1, e2, ⟨ms, s1.env hg, m1⟩, e4, e5⟩
theorem law10 {ks ns ms ts es : List Int} {nk nn m n p : Nat} {i b : Int} (kn : nk ≤ ks.length) (kz : ∀ z ∈ ks, 0 ≤ z ∧ z < 256) (km : ks.length ≤ 140737488351232) (nn' : nn ≤ ns.length) (nz : ∀ z ∈ ns, 0 ≤ z ∧ z < 256) (nm : ns.length ≤ 140737488351232) (mn : m ≤ ms.length) (mz : ∀ z ∈ ms, 0 ≤ z ∧ z < 256) (mm : ms.length ≤ 140737488351232) (tn : n ≤ ts.length) (tz : ∀ z ∈ ts, 0 ≤ z ∧ z < 256) (tm : ts.length ≤ 140737488351232) (en : p ≤ es.length) (ez : ∀ z ∈ es, 0 ≤ z ∧ z < 256) (em : es.length ≤ 140737488351232) (hb : 0 ≤ b ∧ b ≤ 255) :
    Small prog (fun _ => none) 10 [.agg [.slice 1 0 0 0 nk none, .slice 1 1 0 0 nn none, .slice 1 2 0 0 m none, .slice 1 3 0 0 n none], .slice 1 4 0 0 p none, .int .i64 i, .int .u8 b] [some ⟨.ints .u8 ks, 0, false, 5⟩, some ⟨.ints .u8 ns, 0, false, 5⟩, some ⟨.ints .u8 ms, 0, false, 5⟩, some ⟨.ints .u8 ts, 0, false, 5⟩, some ⟨.ints .u8 es, 0, false, 5⟩] (.bool true) [some ⟨.ints .u8 ks, 0, false, 5⟩, some ⟨.ints .u8 ns, 0, false, 5⟩, some ⟨.ints .u8 ms, 0, false, 5⟩, some ⟨.ints .u8 ts, 0, false, 5⟩, some ⟨.ints .u8 es, 0, false, 5⟩] := by
  by_cases h1 : 65536 < n
  · refine small_ofG (keep := [0,1,2,3,4]) (R := R10a ks ns ms ts es nk nn m n p i b) eV8_ok hmA (f := 10) (fn := f10) (by kernel_rfl) (by kernel_rfl) FnOrc.nil rfl (R10a_ok ?_) R10a_val R10a_tab
    simp only [allP, Con.h, decide_eq_true_eq, decide_eq_false_iff_not, beq_self_eq_true, eq_self, true_and, and_true, Nat.zero_add]
    omega
  by_cases h2 : 65536 < m
  · refine small_ofG (keep := [0,1,2,3,4]) (R := R10b ks ns ms ts es nk nn m n p i b) eV8_ok hmA (f := 10) (fn := f10) (by kernel_rfl) (by kernel_rfl) FnOrc.nil rfl (R10b_ok ?_) R10b_val R10b_tab
    simp only [allP, Con.h, decide_eq_true_eq, decide_eq_false_iff_not, beq_self_eq_true, eq_self, true_and, and_true, Nat.zero_add]
    omega
  by_cases h3 : 65536 < p
  · refine small_ofG (keep := [0,1,2,3,4]) (R := R10c ks ns ms ts es nk nn m n p i b) eV8_ok hmA (f := 10) (fn := f10) (by kernel_rfl) (by kernel_rfl) FnOrc.nil rfl (R10c_ok ?_) R10c_val R10c_tab
    simp only [allP, Con.h, decide_eq_true_eq, decide_eq_false_iff_not, beq_self_eq_true, eq_self, true_and, and_true, Nat.zero_add]
    omega
  have bk := Bytes.of kz
  have bn := Bytes.of nz
  have bm := Bytes.of mz
  have bt := Bytes.of tz
  have be := Bytes.of ez
  have fitk := fit_len (k := 16) kn
  have fitn := fit_len (k := 12) nn'
  have bfk := fit_bytes (k := 16) kn bk
  have bfn := fit_bytes (k := 12) nn' bn
  have lX : (subLaw ts 0 n).length = n := subLaw_len (by omega)
  have lY : (subLaw es 0 p).length = p := subLaw_len (by omega)
  have bX := sub_bytes bt 0 n
  have bY := sub_bytes be 0 p
  have ls := seal_len (fitLaw 16 ks nk) (fitLaw 12 ns nn) ms m lX n
  have lo := seal_len (fitLaw 16 ks nk) (fitLaw 12 ns nn) ms m lY p
  have bS := seal_bytes (M := ms) (m := m) (n := n) bfk bfn bX
  have bO := seal_bytes (M := ms) (m := m) (n := p) bfk bfn bY
  have hopen := seal_opens mn lX bm bX bfk bfn (by omega) (by omega)
  have hne16 : (((n + 16 : Nat) : Int) != (n : Int) + 16) = false := by rw [bne_eq_false_iff_eq]; omega
  have hsub : subLaw (sealLaw (fitLaw 16 ks nk) (fitLaw 12 ns nn) ms m (subLaw ts 0 n) n) 0 n = turnLaw (fitLaw 16 ks nk) (fitLaw 12 ns nn) (subLaw ts 0 n) := sub_app (by rw [turn_len, lX])
  have hback : turnLaw (fitLaw 16 ks nk) (fitLaw 12 ns nn) (subLaw (sealLaw (fitLaw 16 ks nk) (fitLaw 12 ns nn) ms m (subLaw ts 0 n) n) 0 (n + 16 - 16)) = (subLaw ts 0 n) := by rw [Nat.add_sub_cancel, hsub, turn_back bX]
  have tS : List.take (n + 16) (sealLaw (fitLaw 16 ks nk) (fitLaw 12 ns nn) ms m (subLaw ts 0 n) n) = (sealLaw (fitLaw 16 ks nk) (fitLaw 12 ns nn) ms m (subLaw ts 0 n) n) := take_n ls
  have tO : List.take (p + 16) (sealLaw (fitLaw 16 ks nk) (fitLaw 12 ns nn) ms m (subLaw es 0 p) p) = (sealLaw (fitLaw 16 ks nk) (fitLaw 12 ns nn) ms m (subLaw es 0 p) p) := take_n lo
  have tX : List.take n (subLaw ts 0 n) = (subLaw ts 0 n) := take_n lX
  have hXX : List.take n ts = (subLaw ts 0 n) := rfl
  have hYY : List.take p es = (subLaw es 0 p) := rfl
  obtain ⟨⟨j, hj, hl⟩, hr1, hr2⟩ := mod_front (n := 16) (by omega) (by omega) i
  rw [show ((16 : Nat) : Int) = 16 from rfl] at hj hr1 hr2
  have hq : ((n + 16 : Nat) : Int) - 16 + (j : Nat) = ((n + j : Nat) : Int) := by omega
  have hi := (bS.get (n + j)).1
  have hi2 := (bS.get (n + j)).2
  have hset := bS.set (n + j) (ixor_lt8 (b := b) (bS.get (n + j)) (by omega))
  refine small_of_awp eV8_ok (f := 10) (fn := f10) (c := bodyOf f10) (by kernel_rfl) (by kernel_rfl) (by kernel_rfl) ?_
  show AWp eV8 146 5 (bodyOf f10) [(0, .agg [.slice 1 0 0 0 nk none, .slice 1 1 0 0 nn none, .slice 1 2 0 0 m none, .slice 1 3 0 0 n none]), (1, .slice 1 4 0 0 p none), (2, .int .i64 i), (3, .int .u8 b)] [some ⟨.ints .u8 ks, 0, false, 5⟩, some ⟨.ints .u8 ns, 0, false, 5⟩, some ⟨.ints .u8 ms, 0, false, 5⟩, some ⟨.ints .u8 ts, 0, false, 5⟩, some ⟨.ints .u8 es, 0, false, 5⟩] (fun ex fm T => (ex = .normal ∨ ex = .ret) ∧ T = [some ⟨.ints .u8 ks, 0, false, 5⟩, some ⟨.ints .u8 ns, 0, false, 5⟩, some ⟨.ints .u8 ms, 0, false, 5⟩, some ⟨.ints .u8 ts, 0, false, 5⟩, some ⟨.ints .u8 es, 0, false, 5⟩] ∧ ∃ cs us, aRes eV8 fm T f10.results.toList = some (cs, us) ∧ allP cs ∧ retV us = .bool true)
  have rest : AWp eV8 146 5 (backC 9 (bodyOf f10)) [(2, .int .i64 ((n + j : Nat) : Int)), (3, .int .u8 b), (4, .var 5 0), (9, .slice 1 6 0 0 16 (some 16)), (10, .slice 1 7 0 0 12 (some 12)), (11, .slice 1 8 2 0 (n + 16) none)] [some ⟨.ints .u8 ks, 0, false, 5⟩, some ⟨.ints .u8 ns, 0, false, 5⟩, some ⟨.ints .u8 ms, 0, false, 5⟩, some ⟨.ints .u8 ts, 0, false, 5⟩, some ⟨.ints .u8 es, 0, false, 5⟩, some ⟨.agg [.slice 1 0 0 0 nk none, .slice 1 1 0 0 nn none, .slice 1 2 0 0 m none, .slice 1 3 0 0 n none], 0, true, 39⟩, some ⟨.ints .u8 (fitLaw 16 ks nk), 0, true, 5⟩, some ⟨.ints .u8 (fitLaw 12 ns nn), 0, true, 5⟩, some ⟨.ints .u8 (sealLaw (fitLaw 16 ks nk) (fitLaw 12 ns nn) ms m (subLaw ts 0 n) n), 2, true, 5⟩] (fun ex fm T => (ex = .normal ∨ ex = .ret) ∧ T = [some ⟨.ints .u8 ks, 0, false, 5⟩, some ⟨.ints .u8 ns, 0, false, 5⟩, some ⟨.ints .u8 ms, 0, false, 5⟩, some ⟨.ints .u8 ts, 0, false, 5⟩, some ⟨.ints .u8 es, 0, false, 5⟩] ∧ ∃ cs us, aRes eV8 fm T f10.results.toList = some (cs, us) ∧ allP cs ∧ retV us = .bool true) := by
    by_cases hb0 : b = 0
    · subst hb0
      refine AWp.mono (To.of (o := Z10A ks ns ms ts es (fitLaw 16 ks nk) (fitLaw 12 ns nn) (sealLaw (fitLaw 16 ks nk) (fitLaw 12 ns nn) ms m (subLaw ts 0 n) n) nk nn m n (n + j)) eV8_ok hmA (Nat.le_refl 5) OrcOk.nil rfl (Z10A_ok ?_) Z10A_ex Z10A_fm Z10A_tab) fun ex fm T hP => ?_
      · rw [sub_n fitk, sub_n fitn, Nat.add_sub_cancel, set_same bS]
        simp only [allP, Con.h, nonneg, fitk, fitn, bfk, bfn, bm, ls, bS, hopen, hi, beq_self_eq_true, eq_self, true_and, and_true, Nat.zero_add]
        omega
      · obtain ⟨rfl, rfl, rfl⟩ := hP
        exact ⟨.inr rfl, rfl, [], [.bool true], rfl, trivial, rfl⟩
    · have hshut := seal_shut mn lX bm bX bfk bfn (by omega) (by omega) (q := n + j) (by omega) (by omega) (b := b) (by omega) hb0
      simp only [ne_eq] at hshut
      have hb1 : (b == 0) = false := by rw [beq_eq_false_iff_ne]; exact hb0
      have hb2 : 0 ≤ b := hb.1
      refine AWp.env (E := eV8X) (E' := eV8) rfl rfl (AWp.mono (To.of (o := Z10X ks ns ms ts es (fitLaw 16 ks nk) (fitLaw 12 ns nn) (sealLaw (fitLaw 16 ks nk) (fitLaw 12 ns nn) ms m (subLaw ts 0 n) n) nk nn m n (n + j) b) eV8X_ok hmA (Nat.le_refl 5) OrcOk.nil rfl (Z10X_ok ?_) Z10X_ex Z10X_fm Z10X_tab) fun ex fm T hP => ?_)
      · rw [sub_n fitk, sub_n fitn, Nat.add_sub_cancel]
        have lw : ((sealLaw (fitLaw 16 ks nk) (fitLaw 12 ns nn) ms m (subLaw ts 0 n) n).set (n + j) (ixor ((sealLaw (fitLaw 16 ks nk) (fitLaw 12 ns nn) ms m (subLaw ts 0 n) n).getD (n + j) 0) b)).length = n + 16 := by rw [List.length_set, ls]
        generalize (sealLaw (fitLaw 16 ks nk) (fitLaw 12 ns nn) ms m (subLaw ts 0 n) n).set (n + j) (ixor ((sealLaw (fitLaw 16 ks nk) (fitLaw 12 ns nn) ms m (subLaw ts 0 n) n).getD (n + j) 0) b) = W2 at hset hshut lw ⊢
        simp only [allP, Con.h, nonneg, fitk, fitn, bfk, bfn, bm, ls, bS, hset, hi, hb1, hb2, lw, ne_eq, hshut, not_false_eq_true, beq_self_eq_true, eq_self, true_and, and_true, Nat.zero_add]
        omega
      · obtain ⟨rfl, rfl, rfl⟩ := hP
        exact ⟨.inr rfl, rfl, [], [.bool true], rfl, trivial, rfl⟩
  by_cases hxy : (subLaw ts 0 n) = (subLaw es 0 p)
  · have hnp : n = p := by rw [← lX, ← lY, hxy]
    have hN : Ok (N10t ks ns ms ts es nk nn m n p i b) := by
      refine N10t_ok ?_
      rw [sub_n fitk, sub_n fitn, hback, Nat.add_sub_cancel, hXX, hYY, tS, tO, tX]
      have hcon : (sealLaw (fitLaw 16 ks nk) (fitLaw 12 ns nn) ms m (subLaw es 0 p) p) = (sealLaw (fitLaw 16 ks nk) (fitLaw 12 ns nn) ms m (subLaw ts 0 n) n) := by rw [hxy, hnp]
      have hbx : (List.map byteOf (subLaw ts 0 n) == List.map byteOf (subLaw es 0 p)) = true := by rw [hxy]; exact beq_self_eq_true _
      rw [hcon, hbx]
      simp only [allP, Con.h, fitk, fitn, bfk, bfn, bm, bt, be, ls, lo, lX, bS, hopen, hne16, Bool.not_true, decide_eq_true_eq, decide_eq_false_iff_not, beq_self_eq_true, eq_self, true_and, and_true, Nat.zero_add]
      omega
    refine AWp.cutTG eV8_ok hmA (m := 9) 9 (o := N10t ks ns ms ts es nk nn m n p i b) rfl hN N10t_ex ?_
    rw [N10t_fm, N10t_tab, hj, hq, sub_n fitk, sub_n fitn]
    exact rest
  · have hbs : (List.map byteOf (sealLaw (fitLaw 16 ks nk) (fitLaw 12 ns nn) ms m (subLaw ts 0 n) n) == List.map byteOf (sealLaw (fitLaw 16 ks nk) (fitLaw 12 ns nn) ms m (subLaw es 0 p) p)) = false := gBytes_ne bS bO fun h => hxy (seal_inj bX bY lX lY h)
    have hbx : (List.map byteOf (subLaw ts 0 n) == List.map byteOf (subLaw es 0 p)) = false := gBytes_ne bX bY hxy
    have hN : Ok (N10f ks ns ms ts es nk nn m n p i b) := by
      refine N10f_ok ?_
      rw [sub_n fitk, sub_n fitn, hback, Nat.add_sub_cancel, hXX, hYY, tS, tO, tX]
      rw [hbs, hbx]
      simp only [allP, Con.h, fitk, fitn, bfk, bfn, bm, bt, be, ls, lo, lX, bS, hopen, hne16, Bool.not_true, decide_eq_true_eq, decide_eq_false_iff_not, beq_self_eq_true, eq_self, true_and, and_true, Nat.zero_add]
      omega
    refine AWp.cutTG eV8_ok hmA (m := 9) 9 (o := N10f ks ns ms ts es nk nn m n p i b) rfl hN N10f_ex ?_
    rw [N10f_fm, N10f_tab, hj, hq, sub_n fitk, sub_n fitn]
    exact rest
end Go.Abs
