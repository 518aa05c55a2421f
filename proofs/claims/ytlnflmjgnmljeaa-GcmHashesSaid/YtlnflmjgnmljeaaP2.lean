/- What functions of the given program come to, by the abstract machine: texts of a proof. -/
import Derived.Test.YtlnflmjgnmljeaaP1
import Derived.Test.YtlnflmjgnmljeaaAbs2
set_option linter.unusedVariables false
set_option linter.unusedSimpArgs false
set_option maxRecDepth 8000
namespace Go.Abs
open Go.Proofs.Try
structure Exc (z0 z1 z2 : List Int) (g0 n0 g1 n1 g2 n2 ga : Nat) (kx : List Int) : Prop where
  pz0 : n0 ≤ z0.length
  pm0 : n0 ≤ 140737488352000
  pb0 : Bytes z0
  pz1 : n1 ≤ z1.length
  pm1 : n1 ≤ 140737488352000
  pb1 : Bytes z1
  pz2 : n2 ≤ z2.length
  pm2 : n2 ≤ 140737488352000
  pb2 : Bytes z2
  pk : WpLaw kx
noncomputable def H1c : Host := ⟨#[9], as63, bd63, [(2, .var 4 0), (4, .var 5 0), (5, .var 6 0), (8, .func (.func 79) [] [.var 7 0])], 16⟩
noncomputable def H2c0 (z0 z1 z2 : List Int) (g0 n0 g1 n1 g2 n2 ga : Nat) (kx : List Int) : Host := ⟨#[14], as79, bd79, [(1, .var 7 0), (2, .var 8 0), (6, .slice 1 0 ga 0 3 (some 3)), (7, .int .i64 3), (8, .int .i64 0), (13, .func (.func 81) [] [.var 9 0, .var 10 0])], 30⟩
theorem ambc0 (z0 z1 z2 : List Int) (g0 n0 g1 n1 g2 n2 ga : Nat) (kx : List Int) (l1 l2 : Nat) : ambIn 11 [(l2, H2c0 z0 z1 z2 g0 n0 g1 n1 g2 n2 ga kx), (l1, H1c)] := fun x hx => by
  rcases List.mem_cons.1 hx with rfl | hx
  · exact fmIn_of rfl
  · exact ambIn_one rfl x hx
theorem ambMc0 (z0 z1 z2 : List Int) (g0 n0 g1 n1 g2 n2 ga : Nat) (kx : List Int) (l1 l2 : Nat) : ambIn 12 [(l2, H2c0 z0 z1 z2 g0 n0 g1 n1 g2 n2 ga kx), (l1, H1c)] := fun x hx => by
  rcases List.mem_cons.1 hx with rfl | hx
  · exact fmIn_of rfl
  · exact ambIn_one rfl x hx
theorem chfc0 {z0 z1 z2 : List Int} {g0 n0 g1 n1 g2 n2 ga : Nat} {kx : List Int} (e : Exc z0 z1 z2 g0 n0 g1 n1 g2 n2 ga kx) {y : List Int} (hy : WpLaw y) (l1 l2 : Nat) {j : Nat} (hj : 16 * j + 16 ≤ n0) :
    YWp eGh 30 11 [(l2, H2c0 z0 z1 z2 g0 n0 g1 n1 g2 n2 ga kx), (l1, H1c)] bd79 [(2, .var 8 0), (5, .slice 1 1 g0 (16 * j) 16 (some 16))] (TNc0 z0 z1 z2 g0 n0 g1 n1 g2 n2 ga kx y l1) [(.busy, none), (.ready, none)] fun ex fm T σ => ex = .normal ∧ T = ((TNc0 z0 z1 z2 g0 n0 g1 n1 g2 n2 ga kx (mwLaw (xwLaw y (gwLaw (ckLaw z0 n0 j))) kx) l1) : Tab) ∧ σ = [(.busy, none), (.ready, none)] := by
  have hamb := ambc0 z0 z1 z2 g0 n0 g1 n1 g2 n2 ga kx l1 l2
  have hambM := ambMc0 z0 z1 z2 g0 n0 g1 n1 g2 n2 ga kx l1 l2
  have hz := e.pz0
  have hbz := e.pb0
  have hcl := ck_len hz j
  have hcb := ck_bytes hbz n0 j
  have eb : (subLaw z0 (addO (16 * j) 0) 16) = (ckLaw z0 n0 j) := by rw [addO_eq, Nat.add_zero, ck_full hj]
  have hw : WpLaw (gwLaw (subLaw z0 (addO (16 * j) 0) 16)) := by rw [eb]; exact .gw hcb hcl
  rw [bd79_eq]
  refine YWp.block (YWp.seq (YWp.yieldDrawn eGh_ok hmA (l1 := ops79.toList.take 12) (oy := ops79.toList.getD 12 default) (o2 := ops79.toList.getD 13 default) (by kernel_rfl) (ds1 := [some true]) (o1 := Dfc0 z0 z1 z2 g0 n0 g1 n1 g2 n2 ga kx y l1 l2 (16 * j)) (by kernel_rfl) (by kernel_rfl) (by kernel_rfl) (by kernel_rfl) (by kernel_rfl) (by kernel_rfl) (Dfc0_ok ?_) (f := .tmp 15) (x := .tmp 26) (t := 27) (c := theCall (ops79.toList.getD 12 default)) (by kernel_rfl) (by kernel_rfl) (by kernel_rfl) (by kernel_rfl) (by kernel_rfl) (by kernel_rfl) (by decide) (i := 1) (l := l1) (H := H1c) (by rw [Dfc0_fm]; rfl) (v := .ints .u64 (gwLaw (subLaw z0 (addO (16 * j) 0) 16))) (by rw [Dfc0_fm]; rfl) rfl rfl (p := 9) rfl (by decide) (kk := 11) (by decide) (by rw [Dfc0_fm]; exact fmIn_of rfl) hamb ?_))
  · simp only [allP, Con.h, addO_eq, Nat.add_zero, hbz, eq_self, true_and, and_true]
    omega
  rw [Dfc0_tab]
  refine YWp.ofTo (To.of (o := A6fc0 z0 z1 z2 g0 n0 g1 n1 g2 n2 ga kx y l1 (gwLaw (subLaw z0 (addO (16 * j) 0) 16))) eGh_ok hmA (Nat.le_refl 11) OrcOk.nil rfl (A6fc0_ok ⟨hw.len, trivial⟩) A6fc0_ex A6fc0_fm A6fc0_tab) hamb ⟨rfl, rfl, ?_⟩
  refine YWp.ofTo (To.of (o := B6fc0 z0 z1 z2 g0 n0 g1 n1 g2 n2 ga kx y l1 (gwLaw (subLaw z0 (addO (16 * j) 0) 16))) eGh_ok hmA (Nat.le_refl 11) OrcOk.nil rfl (B6fc0_ok ?_) B6fc0_ex B6fc0_fm B6fc0_tab) hamb ⟨by decide, [], Ntc0 z0 z1 z2 g0 n0 g1 n1 g2 n2 ga kx (mwLaw (xwLaw y (gwLaw (subLaw z0 (addO (16 * j) 0) 16))) kx) l1 _, rfl, Ntc0_ok trivial, ?_⟩
  · have h1 := hy.len
    have h2 := hw.len
    have h3 := e.pk.len
    have h4 := hy.xw hw
    simp only [allP, Con.h, h1, h2, h3, h4, hy, hw, e.pk, and_true, true_and]
  rw [Ntc0_fm, Ntc0_tab, eb]
  show YWp eGh 30 11 [(l2, H2c0 z0 z1 z2 g0 n0 g1 n1 g2 n2 ga kx), (l1, H1c)] cnd79 _ _ _ _
  rw [cnd79_eq]
  exact YWp.cond (b := false) rfl (fun h => by cases h) (fun _ => YWp.skip hamb ⟨rfl, rfl, rfl⟩)
theorem chpc0 {z0 z1 z2 : List Int} {g0 n0 g1 n1 g2 n2 ga : Nat} {kx : List Int} (e : Exc z0 z1 z2 g0 n0 g1 n1 g2 n2 ga kx) {y : List Int} (hy : WpLaw y) (l1 l2 : Nat) {j r : Nat} (hr : r < 16) (hj : 16 * j + r = n0) :
    YWp eGh 30 11 [(l2, H2c0 z0 z1 z2 g0 n0 g1 n1 g2 n2 ga kx), (l1, H1c)] bd79 [(2, .var 8 0), (5, .slice 1 1 g0 (16 * j) r (some r))] (TNc0 z0 z1 z2 g0 n0 g1 n1 g2 n2 ga kx y l1) [(.busy, none), (.ready, none)] fun ex fm T σ => ex = .normal ∧ T = ((TNc0 z0 z1 z2 g0 n0 g1 n1 g2 n2 ga kx (mwLaw (xwLaw y (gwLaw (ckLaw z0 n0 j))) kx) l1) : Tab) ∧ σ = [(.busy, none), (.ready, none)] := by
  have hamb := ambc0 z0 z1 z2 g0 n0 g1 n1 g2 n2 ga kx l1 l2
  have hambM := ambMc0 z0 z1 z2 g0 n0 g1 n1 g2 n2 ga kx l1 l2
  have hz := e.pz0
  have hbz := e.pb0
  have hcl := ck_len hz j
  have hcb := ck_bytes hbz n0 j
  have ex0 : (List.take r (dropO (addO (16 * j) 0) z0) ++ List.replicate (16 - (r : Int)).toNat 0) = (ckLaw z0 n0 j) := by
    rw [addO_eq, Nat.add_zero, dropO_eq, ck_part (by omega), show n0 - 16 * j = r by omega, show (16 - (r : Int)).toNat = 16 - r by omega]
  have eb : (subLaw (List.take r (dropO (addO (16 * j) 0) z0) ++ List.replicate (16 - (r : Int)).toNat 0) 0 16) = (ckLaw z0 n0 j) := by
    rw [ex0, take_sub, List.take_of_length_le (by omega)]
  have hw : WpLaw (gwLaw (subLaw (List.take r (dropO (addO (16 * j) 0) z0) ++ List.replicate (16 - (r : Int)).toNat 0) 0 16)) := by rw [eb]; exact .gw hcb hcl
  rw [bd79_eq]
  refine YWp.block (YWp.seq (YWp.yieldDrawn eGh_ok hmA (l1 := ops79.toList.take 12) (oy := ops79.toList.getD 12 default) (o2 := ops79.toList.getD 13 default) (by kernel_rfl) (ds1 := [some false]) (o1 := Dpc0 z0 z1 z2 g0 n0 g1 n1 g2 n2 ga kx y l1 l2 (16 * j) r) (by kernel_rfl) (by kernel_rfl) (by kernel_rfl) (by kernel_rfl) (by kernel_rfl) (by kernel_rfl) (Dpc0_ok ?_) (f := .tmp 15) (x := .tmp 26) (t := 27) (c := theCall (ops79.toList.getD 12 default)) (by kernel_rfl) (by kernel_rfl) (by kernel_rfl) (by kernel_rfl) (by kernel_rfl) (by kernel_rfl) (by decide) (i := 1) (l := l1) (H := H1c) (by rw [Dpc0_fm]; rfl) (v := .ints .u64 (gwLaw (subLaw (List.take r (dropO (addO (16 * j) 0) z0) ++ List.replicate (16 - (r : Int)).toNat 0) 0 16))) (by rw [Dpc0_fm]; rfl) rfl rfl (p := 9) rfl (by decide) (kk := 12) (by decide) (by rw [Dpc0_fm]; exact fmIn_of rfl) hamb ?_))
  · rw [ex0]
    simp only [allP, Con.h, addO_eq, Nat.add_zero, hcl, hcb, eq_self, true_and, and_true]
    omega
  rw [Dpc0_tab]
  refine YWp.ofTo (To.of (o := A6pc0 z0 z1 z2 g0 n0 g1 n1 g2 n2 ga kx y l1 (List.take r (dropO (addO (16 * j) 0) z0) ++ List.replicate (16 - (r : Int)).toNat 0) (gwLaw (subLaw (List.take r (dropO (addO (16 * j) 0) z0) ++ List.replicate (16 - (r : Int)).toNat 0) 0 16))) eGh_ok hmA (Nat.le_refl 12) OrcOk.nil rfl (A6pc0_ok ⟨hw.len, trivial⟩) A6pc0_ex A6pc0_fm A6pc0_tab) hambM ⟨rfl, rfl, ?_⟩
  refine YWp.ofTo (To.of (o := B6pc0 z0 z1 z2 g0 n0 g1 n1 g2 n2 ga kx y l1 (List.take r (dropO (addO (16 * j) 0) z0) ++ List.replicate (16 - (r : Int)).toNat 0) (gwLaw (subLaw (List.take r (dropO (addO (16 * j) 0) z0) ++ List.replicate (16 - (r : Int)).toNat 0) 0 16))) eGh_ok hmA (Nat.le_refl 12) OrcOk.nil rfl (B6pc0_ok ?_) B6pc0_ex B6pc0_fm B6pc0_tab) hambM ⟨by decide, [], Nqc0 z0 z1 z2 g0 n0 g1 n1 g2 n2 ga kx (mwLaw (xwLaw y (gwLaw (subLaw (List.take r (dropO (addO (16 * j) 0) z0) ++ List.replicate (16 - (r : Int)).toNat 0) 0 16))) kx) l1 (List.take r (dropO (addO (16 * j) 0) z0) ++ List.replicate (16 - (r : Int)).toNat 0) _, rfl, Nqc0_ok trivial, ?_⟩
  · have h1 := hy.len
    have h2 := hw.len
    have h3 := e.pk.len
    have h4 := hy.xw hw
    simp only [allP, Con.h, h1, h2, h3, h4, hy, hw, e.pk, and_true, true_and]
  rw [Nqc0_fm, Nqc0_tab, eb]
  show YWp eGh 30 11 [(l2, H2c0 z0 z1 z2 g0 n0 g1 n1 g2 n2 ga kx), (l1, H1c)] cnd79 _ _ _ _
  refine YWp.sub (f := [(28, .bool false)]) ⟨rfl, trivial⟩ ?_
  exact YWp.ofTo (To.of (k := 11) (o := Cpc0 z0 z1 z2 g0 n0 g1 n1 g2 n2 ga kx (mwLaw (xwLaw y (gwLaw (ckLaw z0 n0 j))) kx) l1 (List.take r (dropO (addO (16 * j) 0) z0) ++ List.replicate (16 - (r : Int)).toNat 0)) eGh_ok hmA (Nat.le_refl 11) OrcOk.nil rfl (Cpc0_ok trivial) Cpc0_ex Cpc0_fm Cpc0_tab) hamb ⟨rfl, rfl, rfl⟩
theorem chc0 {z0 z1 z2 : List Int} {g0 n0 g1 n1 g2 n2 ga : Nat} {kx : List Int} (e : Exc z0 z1 z2 g0 n0 g1 n1 g2 n2 ga kx) {y : List Int} (hy : WpLaw y) (l1 l2 : Nat) {j : Nat} (hj : 16 * j < n0) :
    YWp eGh 30 11 [(l2, H2c0 z0 z1 z2 g0 n0 g1 n1 g2 n2 ga kx), (l1, H1c)] bd79 [(2, .var 8 0), (5, .slice 1 1 g0 (16 * j) (min 16 (n0 - 16 * j)) (some (min 16 (n0 - 16 * j))))] (TNc0 z0 z1 z2 g0 n0 g1 n1 g2 n2 ga kx y l1) [(.busy, none), (.ready, none)] fun ex fm T σ => ex = .normal ∧ T = ((TNc0 z0 z1 z2 g0 n0 g1 n1 g2 n2 ga kx (mwLaw (xwLaw y (gwLaw (ckLaw z0 n0 j))) kx) l1) : Tab) ∧ σ = [(.busy, none), (.ready, none)] := by
  by_cases h : 16 * j + 16 ≤ n0
  · rw [show min 16 (n0 - 16 * j) = 16 by omega]
    exact chfc0 e hy l1 l2 h
  · exact chpc0 e hy l1 l2 (by omega) (by omega)
theorem rdc0 {z0 z1 z2 : List Int} {g0 n0 g1 n1 g2 n2 ga : Nat} {kx : List Int} (e : Exc z0 z1 z2 g0 n0 g1 n1 g2 n2 ga kx) {y : List Int} (hy : WpLaw y) (l1 l2 : Nat) {j : Nat} (hj : 16 * j < n0) :
    YWp eGh 31 11 [(l2, H2c0 z0 z1 z2 g0 n0 g1 n1 g2 n2 ga kx), (l1, H1c)] (roundOf 0 f81) [(0, .func (.yield l2) [] []), (1, .var 9 0), (2, .var 10 0), (4, .int .i64 ((16 * j : Nat) : Int))] (TNc0 z0 z1 z2 g0 n0 g1 n1 g2 n2 ga kx y l1) [(.ready, none), (.ready, none)] fun ex fm T σ => ex = .normal ∧ fm = [(0, .func (.yield l2) [] []), (1, .var 9 0), (2, .var 10 0), (4, .int .i64 ((16 * (j + 1) : Nat) : Int))] ∧ T = ((TNc0 z0 z1 z2 g0 n0 g1 n1 g2 n2 ga kx (mwLaw (xwLaw y (gwLaw (ckLaw z0 n0 j))) kx) l1) : Tab) ∧ σ = [(.ready, none), (.ready, none)] := by
  have hamb := ambc0 z0 z1 z2 g0 n0 g1 n1 g2 n2 ga kx l1 l2
  have hz := e.pz0
  have hm := e.pm0
  skip
  have er : (if (↑(subO n0 ((16 * j : Nat) : Int).toNat) : Int) < 16 then (↑(subO n0 ((16 * j : Nat) : Int).toNat) : Int) else 16) = ((min 16 (n0 - 16 * j) : Nat) : Int) := by
    rw [Int.toNat_natCast, subO_eq, min16]
  have e1 : ((16 * j : Nat) : Int).toNat = 16 * j := Int.toNat_natCast _
  have e2 : subO (((16 * j : Nat) : Int) + ((min 16 (n0 - 16 * j) : Nat) : Int)).toNat (16 * j) = min 16 (n0 - 16 * j) := by rw [subO_eq]; omega
  rw [split81]
  refine YWp.seq (YWp.ofTo (To.of (o := Hyc0 z0 z1 z2 g0 n0 g1 n1 g2 n2 ga kx y l1 l2 ((16 * j : Nat) : Int)) eGh_ok hmA (Nat.le_refl 11) OrcOk.nil rfl (Hyc0_ok ?_) Hyc0_ex Hyc0_fm Hyc0_tab) hamb ?_)
  · simp only [allP, Con.h, decide_eq_true_eq, eq_self, true_and, and_true]; omega
  refine YWp.seq (YWp.block (YWp.seq (YWp.ofTo (To.of (o := Msc0 z0 z1 z2 g0 n0 g1 n1 g2 n2 ga kx y l1 l2 ((16 * j : Nat) : Int)) (fm' := [(0, .func (.yield l2) [] []), (1, .var 9 0), (2, .var 10 0), (4, .int .i64 ((16 * j : Nat) : Int))] ++ [(5, .int .i64 ((min 16 (n0 - 16 * j) : Nat) : Int))]) eGh_ok hmA (Nat.le_refl 11) OrcOk.nil rfl (Msc0_ok ?_) Msc0_ex (by rw [Msc0_fm, er]; rfl) Msc0_tab) hamb ?_)))
  · simp only [allP, Con.h, eq_self, true_and, and_true]; omega
  refine YWp.seq (YWp.yieldRegion eGh_ok (l1 := ops81.toList.take 10) (l2 := ops81.toList.drop 11) (oy := ops81.toList.getD 10 default) (by kernel_rfl) (ds1 := []) (o1 := Yac0 z0 z1 z2 g0 n0 g1 n1 g2 n2 ga kx y l1 l2 ((16 * j : Nat) : Int) ((min 16 (n0 - 16 * j) : Nat) : Int)) (by kernel_rfl) (Yac0_ok ?_) (f := .tmp 19) (x := .tmp 28) (t := 29) (c := theCall (ops81.toList.getD 10 default)) (by kernel_rfl) (by kernel_rfl) (by kernel_rfl) (by kernel_rfl) (by kernel_rfl) (by decide) (i := 0) (l := l2) (H := H2c0 z0 z1 z2 g0 n0 g1 n1 g2 n2 ga kx) (by rw [Yac0_fm]; rfl) (v := .slice 1 1 g0 (16 * j) (min 16 (n0 - 16 * j)) (some (min 16 (n0 - 16 * j)))) (by rw [Yac0_fm, e1, e2]; rfl) rfl rfl (p := 14) rfl (show 14 < 30 by decide) (kk := 11) (Nat.le_refl _) (by rw [Yac0_fm]; exact fmIn_of rfl) hamb ?_)
  · simp only [allP, Con.h, eq_self, true_and, and_true]; omega
  rw [Yac0_tab]
  refine YWp.ofTo (To.of (o := Asc0 z0 z1 z2 g0 n0 g1 n1 g2 n2 ga kx y l1 l2 (16 * j) (min 16 (n0 - 16 * j))) eGh_ok hmA (Nat.le_refl 11) OrcOk.nil rfl (Asc0_ok trivial) Asc0_ex Asc0_fm Asc0_tab) hamb ⟨rfl, rfl, ?_⟩
  refine YWp.mono (chc0 e hy l1 l2 hj) fun ex fm T σ hP => ?_
  obtain ⟨rfl, rfl, rfl⟩ := hP
  refine ⟨by decide, [], Nuc0 z0 z1 z2 g0 n0 g1 n1 g2 n2 ga kx (mwLaw (xwLaw y (gwLaw (ckLaw z0 n0 j))) kx) l1 _, rfl, Nuc0_ok trivial, ?_⟩
  rw [Nuc0_fm, Nuc0_tab, Yac0_fm]
  show YWp eGh 31 11 [(l2, H2c0 z0 z1 z2 g0 n0 g1 n1 g2 n2 ga kx), (l1, H1c)] cnd81 _ _ _ _
  rw [cnd81_eq]
  refine YWp.cond (b := false) rfl (fun h => by cases h) (fun _ => YWp.skip hamb ?_)
  show YWp eGh 31 11 [(l2, H2c0 z0 z1 z2 g0 n0 g1 n1 g2 n2 ga kx), (l1, H1c)] r81 _ _ _ _
  refine YWp.sub (f := [(0, .func (.yield l2) [] []), (1, .var 9 0), (2, .var 10 0), (4, .int .i64 ((16 * j : Nat) : Int))]) ⟨rfl, rfl, rfl, rfl, trivial⟩ ?_
  refine YWp.ofTo (To.of (o := Rbc0 z0 z1 z2 g0 n0 g1 n1 g2 n2 ga kx _ l1 l2 ((16 * j : Nat) : Int)) eGh_ok hmA (Nat.le_refl 11) OrcOk.nil rfl (Rbc0_ok ?_) Rbc0_ex Rbc0_fm Rbc0_tab) hamb ⟨rfl, ?_, rfl, rfl⟩
  · simp only [allP, Con.h, and_true]; omega
  · rw [show ((16 * j : Nat) : Int) + 16 = ((16 * (j + 1) : Nat) : Int) by omega]
theorem inc0 {z0 z1 z2 : List Int} {g0 n0 g1 n1 g2 n2 ga : Nat} {kx : List Int} (e : Exc z0 z1 z2 g0 n0 g1 n1 g2 n2 ga kx) {y : List Int} (hy : WpLaw y) (l1 l2 : Nat) :
    YWp eGh 31 11 [(l2, H2c0 z0 z1 z2 g0 n0 g1 n1 g2 n2 ga kx), (l1, H1c)] (bodyOf f81) (argF ([] ++ (.func (.yield l2) [] [] :: [.var 9 0, .var 10 0])) 0) (TNc0 z0 z1 z2 g0 n0 g1 n1 g2 n2 ga kx y l1) [(.ready, none), (.ready, none)] fun ex fm' T' σ' =>
      (ex = .normal ∨ ex = .ret) ∧ (∃ cs us, aRes eGh fm' T' f81.results.toList = some (cs, us) ∧ allP cs) ∧ ∃ st σ2, σ' = st :: σ2 ∧ st.1 ≠ .busy ∧
        match st.2 with
        | none => AExit.normal = .normal ∧ [(1, .var 7 0), (2, .var 8 0), (6, .slice 1 0 ga 0 3 (some 3)), (7, .int .i64 3), (8, .int .i64 0), (13, .func (.func 81) [] [.var 9 0, .var 10 0])] = (H2c0 z0 z1 z2 g0 n0 g1 n1 g2 n2 ga kx).fm ∧ T' = (TNc0 z0 z1 z2 g0 n0 g1 n1 g2 n2 ga kx (hsLaw kx y z0 n0) l1) ∧ σ2 = [(.ready, none)]
        | some (.exit id) => AExit.exit id = .normal ∧ [(1, .var 7 0), (2, .var 8 0), (6, .slice 1 0 ga 0 3 (some 3)), (7, .int .i64 3), (8, .int .i64 0), (13, .func (.func 81) [] [.var 9 0, .var 10 0])] = (H2c0 z0 z1 z2 g0 n0 g1 n1 g2 n2 ga kx).fm ∧ T' = (TNc0 z0 z1 z2 g0 n0 g1 n1 g2 n2 ga kx (hsLaw kx y z0 n0) l1) ∧ σ2 = [(.ready, none)]
        | some .ret => AExit.ret = .normal ∧ [(1, .var 7 0), (2, .var 8 0), (6, .slice 1 0 ga 0 3 (some 3)), (7, .int .i64 3), (8, .int .i64 0), (13, .func (.func 81) [] [.var 9 0, .var 10 0])] = (H2c0 z0 z1 z2 g0 n0 g1 n1 g2 n2 ga kx).fm ∧ T' = (TNc0 z0 z1 z2 g0 n0 g1 n1 g2 n2 ga kx (hsLaw kx y z0 n0) l1) ∧ σ2 = [(.ready, none)]
        | _ => False := by
  have hamb := ambc0 z0 z1 z2 g0 n0 g1 n1 g2 n2 ga kx l1 l2
  rw [splitb81, res81]
  refine YWp.seq (YWp.ofTo (To.of (o := Zsc0 z0 z1 z2 g0 n0 g1 n1 g2 n2 ga kx y l1 l2) eGh_ok hmA (Nat.le_refl 11) OrcOk.nil rfl (Zsc0_ok trivial) Zsc0_ex Zsc0_fm Zsc0_tab) hamb ?_)
  refine YWp.block (YWp.loop (fun fm T σ μ => ∃ j, 16 * j < n0 + 16 ∧ μ = n0 + 16 - j ∧ fm = [(0, .func (.yield l2) [] []), (1, .var 9 0), (2, .var 10 0), (4, .int .i64 ((16 * j : Nat) : Int))] ∧ T = (TNc0 z0 z1 z2 g0 n0 g1 n1 g2 n2 ga kx (hyLaw kx y z0 n0 j) l1) ∧ σ = [(.ready, none), (.ready, none)]) (n0 + 16) ⟨0, by omega, rfl, rfl, rfl, rfl⟩ ?_)
  rintro fm T σ μ ⟨j, hj, rfl, rfl, rfl, rfl⟩
  by_cases h : 16 * j < n0
  · refine YWp.mono (rdc0 e (hy_wp hy e.pz0 e.pb0 j) l1 l2 h) fun ex fm T σ hP => ?_
    obtain ⟨rfl, rfl, rfl, rfl⟩ := hP
    exact ⟨n0 + 16 - (j + 1), by omega, j + 1, by omega, rfl, rfl, rfl, rfl⟩
  · rw [split81]
    refine YWp.seq (YWp.ofTo (To.of (o := Hnc0 z0 z1 z2 g0 n0 g1 n1 g2 n2 ga kx (hyLaw kx y z0 n0 j) l1 l2 ((16 * j : Nat) : Int)) eGh_ok hmA (Nat.le_refl 11) OrcOk.nil rfl (Hnc0_ok ?_) Hnc0_ex Hnc0_fm Hnc0_tab) hamb ?_)
    · simp only [allP, Con.h, decide_eq_false_iff_not, eq_self, true_and, and_true]; omega
    obtain rfl : j = (n0 + 15) / 16 := by omega
    exact ⟨.inl rfl, ⟨[], [], rfl, trivial⟩, (.ready, none), _, rfl, by decide, rfl, rfl, rfl, rfl⟩
theorem roc0 {z0 z1 z2 : List Int} {g0 n0 g1 n1 g2 n2 ga : Nat} {kx : List Int} (e : Exc z0 z1 z2 g0 n0 g1 n1 g2 n2 ga kx) {y : List Int} (hy : WpLaw y) (l1 : Nat) :
    YWp eGh 30 8 [(l1, H1c)] (roundOf 0 f79) [(1, .var 7 0), (2, .var 8 0), (6, .slice 1 0 ga 0 3 (some 3)), (7, .int .i64 3), (8, .int .i64 0)] (TPc z0 z1 z2 g0 n0 g1 n1 g2 n2 ga kx y l1) [(.ready, none)] fun ex fm T σ => ex = .normal ∧ fm = [(1, .var 7 0), (2, .var 8 0), (6, .slice 1 0 ga 0 3 (some 3)), (7, .int .i64 3), (8, .int .i64 1)] ∧ T = ((TPc z0 z1 z2 g0 n0 g1 n1 g2 n2 ga kx (hsLaw kx y z0 n0) l1) : Tab) ∧ σ = [(.ready, none)] := by
  have hamb : ambIn 8 [(l1, H1c)] := ambIn_one rfl
  rw [split79]
  refine YWp.seq (YWp.ofTo (To.base (by decide) (To.of (o := Hdc0 z0 z1 z2 g0 n0 g1 n1 g2 n2 ga kx y l1) eGh_ok hmA (Nat.le_refl 9) OrcOk.nil rfl (Hdc0_ok trivial) Hdc0_ex Hdc0_fm Hdc0_tab)) hamb ?_)
  refine YWp.seq ?_
  rw [c79_eq]
  refine YWp.cond (b := true) rfl (fun _ => YWp.skip hamb ?_) (fun h => by cases h)
  refine YWp.sub (f := [(1, .var 7 0), (2, .var 8 0), (6, .slice 1 0 ga 0 3 (some 3)), (7, .int .i64 3), (8, .int .i64 0)]) ⟨rfl, rfl, rfl, rfl, rfl, trivial⟩ ?_
  refine YWp.seq (YWp.block (YWp.seq (YWp.ofTo (To.base (by decide) (To.of (o := Pac0 z0 z1 z2 g0 n0 g1 n1 g2 n2 ga kx y l1) eGh_ok hmA (Nat.le_refl 9) OrcOk.nil rfl (Pac0_ok ⟨rfl, rfl, trivial⟩) Pac0_ex Pac0_fm Pac0_tab)) hamb ?_)))
  refine YWp.sub (f := ((4, .slice 1 1 g0 0 n0 none) :: [(1, .var 7 0), (2, .var 8 0), (6, .slice 1 0 ga 0 3 (some 3)), (7, .int .i64 3), (8, .int .i64 0)])) ⟨rfl, rfl, rfl, rfl, rfl, rfl, trivial⟩ ?_
  refine YWp.seq (YWp.ofTo (To.base (by decide) (To.of (k := 9) (o := Pbc0 z0 z1 z2 g0 n0 g1 n1 g2 n2 ga kx y l1) eGh_ok hmA (Nat.le_refl 9) OrcOk.nil rfl (Pbc0_ok ⟨rfl, trivial⟩) Pbc0_ex Pbc0_fm Pbc0_tab)) hamb ?_)
  refine YWp.block ?_
  rw [rf79_eq]
  refine YWp.mono (YWp.rangeFunc (post := fun ex fm T' σ' => ex = .normal ∧ fm = (H2c0 z0 z1 z2 g0 n0 g1 n1 g2 n2 ga kx).fm ∧ T' = (TNc0 z0 z1 z2 g0 n0 g1 n1 g2 n2 ga kx (hsLaw kx y z0 n0) l1) ∧ σ' = [(.ready, none)]) eGh_ok (gf := 81) (gfn := f81) (c := bodyOf f81) (first := []) (caps := [.var 9 0, .var 10 0]) rfl (by kernel_rfl) (by kernel_rfl) (by kernel_rfl) (kk := 11) (by decide) (fmIn_of rfl) (by kernel_rfl) (fun l2 => inc0 e hy l1 l2)) fun ex fm T σ hP => ?_
  obtain ⟨rfl, rfl, rfl, rfl⟩ := hP
  show YWp eGh 30 8 [(l1, H1c)] r79 _ _ _ _
  exact YWp.ofTo (To.base (by decide) (To.of (k := 9) (o := Rrc0 z0 z1 z2 g0 n0 g1 n1 g2 n2 ga kx (hsLaw kx y z0 n0) l1) eGh_ok hmA (Nat.le_refl 9) OrcOk.nil rfl (Rrc0_ok trivial) Rrc0_ex Rrc0_fm Rrc0_tab)) hamb ⟨rfl, rfl, rfl, rfl⟩
noncomputable def H2c1 (z0 z1 z2 : List Int) (g0 n0 g1 n1 g2 n2 ga : Nat) (kx : List Int) : Host := ⟨#[14], as79, bd79, [(1, .var 7 0), (2, .var 8 0), (6, .slice 1 0 ga 0 3 (some 3)), (7, .int .i64 3), (8, .int .i64 1), (13, .func (.func 81) [] [.var 9 0, .var 10 0])], 30⟩
theorem ambc1 (z0 z1 z2 : List Int) (g0 n0 g1 n1 g2 n2 ga : Nat) (kx : List Int) (l1 l2 : Nat) : ambIn 11 [(l2, H2c1 z0 z1 z2 g0 n0 g1 n1 g2 n2 ga kx), (l1, H1c)] := fun x hx => by
  rcases List.mem_cons.1 hx with rfl | hx
  · exact fmIn_of rfl
  · exact ambIn_one rfl x hx
theorem ambMc1 (z0 z1 z2 : List Int) (g0 n0 g1 n1 g2 n2 ga : Nat) (kx : List Int) (l1 l2 : Nat) : ambIn 12 [(l2, H2c1 z0 z1 z2 g0 n0 g1 n1 g2 n2 ga kx), (l1, H1c)] := fun x hx => by
  rcases List.mem_cons.1 hx with rfl | hx
  · exact fmIn_of rfl
  · exact ambIn_one rfl x hx
theorem chfc1 {z0 z1 z2 : List Int} {g0 n0 g1 n1 g2 n2 ga : Nat} {kx : List Int} (e : Exc z0 z1 z2 g0 n0 g1 n1 g2 n2 ga kx) {y : List Int} (hy : WpLaw y) (l1 l2 : Nat) {j : Nat} (hj : 16 * j + 16 ≤ n1) :
    YWp eGh 30 11 [(l2, H2c1 z0 z1 z2 g0 n0 g1 n1 g2 n2 ga kx), (l1, H1c)] bd79 [(2, .var 8 0), (5, .slice 1 2 g1 (16 * j) 16 (some 16))] (TNc1 z0 z1 z2 g0 n0 g1 n1 g2 n2 ga kx y l1) [(.busy, none), (.ready, none)] fun ex fm T σ => ex = .normal ∧ T = ((TNc1 z0 z1 z2 g0 n0 g1 n1 g2 n2 ga kx (mwLaw (xwLaw y (gwLaw (ckLaw z1 n1 j))) kx) l1) : Tab) ∧ σ = [(.busy, none), (.ready, none)] := by
  have hamb := ambc1 z0 z1 z2 g0 n0 g1 n1 g2 n2 ga kx l1 l2
  have hambM := ambMc1 z0 z1 z2 g0 n0 g1 n1 g2 n2 ga kx l1 l2
  have hz := e.pz1
  have hbz := e.pb1
  have hcl := ck_len hz j
  have hcb := ck_bytes hbz n1 j
  have eb : (subLaw z1 (addO (16 * j) 0) 16) = (ckLaw z1 n1 j) := by rw [addO_eq, Nat.add_zero, ck_full hj]
  have hw : WpLaw (gwLaw (subLaw z1 (addO (16 * j) 0) 16)) := by rw [eb]; exact .gw hcb hcl
  rw [bd79_eq]
  refine YWp.block (YWp.seq (YWp.yieldDrawn eGh_ok hmA (l1 := ops79.toList.take 12) (oy := ops79.toList.getD 12 default) (o2 := ops79.toList.getD 13 default) (by kernel_rfl) (ds1 := [some true]) (o1 := Dfc1 z0 z1 z2 g0 n0 g1 n1 g2 n2 ga kx y l1 l2 (16 * j)) (by kernel_rfl) (by kernel_rfl) (by kernel_rfl) (by kernel_rfl) (by kernel_rfl) (by kernel_rfl) (Dfc1_ok ?_) (f := .tmp 15) (x := .tmp 26) (t := 27) (c := theCall (ops79.toList.getD 12 default)) (by kernel_rfl) (by kernel_rfl) (by kernel_rfl) (by kernel_rfl) (by kernel_rfl) (by kernel_rfl) (by decide) (i := 1) (l := l1) (H := H1c) (by rw [Dfc1_fm]; rfl) (v := .ints .u64 (gwLaw (subLaw z1 (addO (16 * j) 0) 16))) (by rw [Dfc1_fm]; rfl) rfl rfl (p := 9) rfl (by decide) (kk := 11) (by decide) (by rw [Dfc1_fm]; exact fmIn_of rfl) hamb ?_))
  · simp only [allP, Con.h, addO_eq, Nat.add_zero, hbz, eq_self, true_and, and_true]
    omega
  rw [Dfc1_tab]
  refine YWp.ofTo (To.of (o := A6fc1 z0 z1 z2 g0 n0 g1 n1 g2 n2 ga kx y l1 (gwLaw (subLaw z1 (addO (16 * j) 0) 16))) eGh_ok hmA (Nat.le_refl 11) OrcOk.nil rfl (A6fc1_ok ⟨hw.len, trivial⟩) A6fc1_ex A6fc1_fm A6fc1_tab) hamb ⟨rfl, rfl, ?_⟩
  refine YWp.ofTo (To.of (o := B6fc1 z0 z1 z2 g0 n0 g1 n1 g2 n2 ga kx y l1 (gwLaw (subLaw z1 (addO (16 * j) 0) 16))) eGh_ok hmA (Nat.le_refl 11) OrcOk.nil rfl (B6fc1_ok ?_) B6fc1_ex B6fc1_fm B6fc1_tab) hamb ⟨by decide, [], Ntc1 z0 z1 z2 g0 n0 g1 n1 g2 n2 ga kx (mwLaw (xwLaw y (gwLaw (subLaw z1 (addO (16 * j) 0) 16))) kx) l1 _, rfl, Ntc1_ok trivial, ?_⟩
  · have h1 := hy.len
    have h2 := hw.len
    have h3 := e.pk.len
    have h4 := hy.xw hw
    simp only [allP, Con.h, h1, h2, h3, h4, hy, hw, e.pk, and_true, true_and]
  rw [Ntc1_fm, Ntc1_tab, eb]
  show YWp eGh 30 11 [(l2, H2c1 z0 z1 z2 g0 n0 g1 n1 g2 n2 ga kx), (l1, H1c)] cnd79 _ _ _ _
  rw [cnd79_eq]
  exact YWp.cond (b := false) rfl (fun h => by cases h) (fun _ => YWp.skip hamb ⟨rfl, rfl, rfl⟩)
theorem chpc1 {z0 z1 z2 : List Int} {g0 n0 g1 n1 g2 n2 ga : Nat} {kx : List Int} (e : Exc z0 z1 z2 g0 n0 g1 n1 g2 n2 ga kx) {y : List Int} (hy : WpLaw y) (l1 l2 : Nat) {j r : Nat} (hr : r < 16) (hj : 16 * j + r = n1) :
    YWp eGh 30 11 [(l2, H2c1 z0 z1 z2 g0 n0 g1 n1 g2 n2 ga kx), (l1, H1c)] bd79 [(2, .var 8 0), (5, .slice 1 2 g1 (16 * j) r (some r))] (TNc1 z0 z1 z2 g0 n0 g1 n1 g2 n2 ga kx y l1) [(.busy, none), (.ready, none)] fun ex fm T σ => ex = .normal ∧ T = ((TNc1 z0 z1 z2 g0 n0 g1 n1 g2 n2 ga kx (mwLaw (xwLaw y (gwLaw (ckLaw z1 n1 j))) kx) l1) : Tab) ∧ σ = [(.busy, none), (.ready, none)] := by
  have hamb := ambc1 z0 z1 z2 g0 n0 g1 n1 g2 n2 ga kx l1 l2
  have hambM := ambMc1 z0 z1 z2 g0 n0 g1 n1 g2 n2 ga kx l1 l2
  have hz := e.pz1
  have hbz := e.pb1
  have hcl := ck_len hz j
  have hcb := ck_bytes hbz n1 j
  have ex0 : (List.take r (dropO (addO (16 * j) 0) z1) ++ List.replicate (16 - (r : Int)).toNat 0) = (ckLaw z1 n1 j) := by
    rw [addO_eq, Nat.add_zero, dropO_eq, ck_part (by omega), show n1 - 16 * j = r by omega, show (16 - (r : Int)).toNat = 16 - r by omega]
  have eb : (subLaw (List.take r (dropO (addO (16 * j) 0) z1) ++ List.replicate (16 - (r : Int)).toNat 0) 0 16) = (ckLaw z1 n1 j) := by
    rw [ex0, take_sub, List.take_of_length_le (by omega)]
  have hw : WpLaw (gwLaw (subLaw (List.take r (dropO (addO (16 * j) 0) z1) ++ List.replicate (16 - (r : Int)).toNat 0) 0 16)) := by rw [eb]; exact .gw hcb hcl
  rw [bd79_eq]
  refine YWp.block (YWp.seq (YWp.yieldDrawn eGh_ok hmA (l1 := ops79.toList.take 12) (oy := ops79.toList.getD 12 default) (o2 := ops79.toList.getD 13 default) (by kernel_rfl) (ds1 := [some false]) (o1 := Dpc1 z0 z1 z2 g0 n0 g1 n1 g2 n2 ga kx y l1 l2 (16 * j) r) (by kernel_rfl) (by kernel_rfl) (by kernel_rfl) (by kernel_rfl) (by kernel_rfl) (by kernel_rfl) (Dpc1_ok ?_) (f := .tmp 15) (x := .tmp 26) (t := 27) (c := theCall (ops79.toList.getD 12 default)) (by kernel_rfl) (by kernel_rfl) (by kernel_rfl) (by kernel_rfl) (by kernel_rfl) (by kernel_rfl) (by decide) (i := 1) (l := l1) (H := H1c) (by rw [Dpc1_fm]; rfl) (v := .ints .u64 (gwLaw (subLaw (List.take r (dropO (addO (16 * j) 0) z1) ++ List.replicate (16 - (r : Int)).toNat 0) 0 16))) (by rw [Dpc1_fm]; rfl) rfl rfl (p := 9) rfl (by decide) (kk := 12) (by decide) (by rw [Dpc1_fm]; exact fmIn_of rfl) hamb ?_))
  · rw [ex0]
    simp only [allP, Con.h, addO_eq, Nat.add_zero, hcl, hcb, eq_self, true_and, and_true]
    omega
  rw [Dpc1_tab]
  refine YWp.ofTo (To.of (o := A6pc1 z0 z1 z2 g0 n0 g1 n1 g2 n2 ga kx y l1 (List.take r (dropO (addO (16 * j) 0) z1) ++ List.replicate (16 - (r : Int)).toNat 0) (gwLaw (subLaw (List.take r (dropO (addO (16 * j) 0) z1) ++ List.replicate (16 - (r : Int)).toNat 0) 0 16))) eGh_ok hmA (Nat.le_refl 12) OrcOk.nil rfl (A6pc1_ok ⟨hw.len, trivial⟩) A6pc1_ex A6pc1_fm A6pc1_tab) hambM ⟨rfl, rfl, ?_⟩
  refine YWp.ofTo (To.of (o := B6pc1 z0 z1 z2 g0 n0 g1 n1 g2 n2 ga kx y l1 (List.take r (dropO (addO (16 * j) 0) z1) ++ List.replicate (16 - (r : Int)).toNat 0) (gwLaw (subLaw (List.take r (dropO (addO (16 * j) 0) z1) ++ List.replicate (16 - (r : Int)).toNat 0) 0 16))) eGh_ok hmA (Nat.le_refl 12) OrcOk.nil rfl (B6pc1_ok ?_) B6pc1_ex B6pc1_fm B6pc1_tab) hambM ⟨by decide, [], Nqc1 z0 z1 z2 g0 n0 g1 n1 g2 n2 ga kx (mwLaw (xwLaw y (gwLaw (subLaw (List.take r (dropO (addO (16 * j) 0) z1) ++ List.replicate (16 - (r : Int)).toNat 0) 0 16))) kx) l1 (List.take r (dropO (addO (16 * j) 0) z1) ++ List.replicate (16 - (r : Int)).toNat 0) _, rfl, Nqc1_ok trivial, ?_⟩
  · have h1 := hy.len
    have h2 := hw.len
    have h3 := e.pk.len
    have h4 := hy.xw hw
    simp only [allP, Con.h, h1, h2, h3, h4, hy, hw, e.pk, and_true, true_and]
  rw [Nqc1_fm, Nqc1_tab, eb]
  show YWp eGh 30 11 [(l2, H2c1 z0 z1 z2 g0 n0 g1 n1 g2 n2 ga kx), (l1, H1c)] cnd79 _ _ _ _
  refine YWp.sub (f := [(28, .bool false)]) ⟨rfl, trivial⟩ ?_
  exact YWp.ofTo (To.of (k := 11) (o := Cpc1 z0 z1 z2 g0 n0 g1 n1 g2 n2 ga kx (mwLaw (xwLaw y (gwLaw (ckLaw z1 n1 j))) kx) l1 (List.take r (dropO (addO (16 * j) 0) z1) ++ List.replicate (16 - (r : Int)).toNat 0)) eGh_ok hmA (Nat.le_refl 11) OrcOk.nil rfl (Cpc1_ok trivial) Cpc1_ex Cpc1_fm Cpc1_tab) hamb ⟨rfl, rfl, rfl⟩
theorem chc1 {z0 z1 z2 : List Int} {g0 n0 g1 n1 g2 n2 ga : Nat} {kx : List Int} (e : Exc z0 z1 z2 g0 n0 g1 n1 g2 n2 ga kx) {y : List Int} (hy : WpLaw y) (l1 l2 : Nat) {j : Nat} (hj : 16 * j < n1) :
    YWp eGh 30 11 [(l2, H2c1 z0 z1 z2 g0 n0 g1 n1 g2 n2 ga kx), (l1, H1c)] bd79 [(2, .var 8 0), (5, .slice 1 2 g1 (16 * j) (min 16 (n1 - 16 * j)) (some (min 16 (n1 - 16 * j))))] (TNc1 z0 z1 z2 g0 n0 g1 n1 g2 n2 ga kx y l1) [(.busy, none), (.ready, none)] fun ex fm T σ => ex = .normal ∧ T = ((TNc1 z0 z1 z2 g0 n0 g1 n1 g2 n2 ga kx (mwLaw (xwLaw y (gwLaw (ckLaw z1 n1 j))) kx) l1) : Tab) ∧ σ = [(.busy, none), (.ready, none)] := by
  by_cases h : 16 * j + 16 ≤ n1
  · rw [show min 16 (n1 - 16 * j) = 16 by omega]
    exact chfc1 e hy l1 l2 h
  · exact chpc1 e hy l1 l2 (by omega) (by omega)
theorem rdc1 {z0 z1 z2 : List Int} {g0 n0 g1 n1 g2 n2 ga : Nat} {kx : List Int} (e : Exc z0 z1 z2 g0 n0 g1 n1 g2 n2 ga kx) {y : List Int} (hy : WpLaw y) (l1 l2 : Nat) {j : Nat} (hj : 16 * j < n1) :
    YWp eGh 31 11 [(l2, H2c1 z0 z1 z2 g0 n0 g1 n1 g2 n2 ga kx), (l1, H1c)] (roundOf 0 f81) [(0, .func (.yield l2) [] []), (1, .var 9 0), (2, .var 10 0), (4, .int .i64 ((16 * j : Nat) : Int))] (TNc1 z0 z1 z2 g0 n0 g1 n1 g2 n2 ga kx y l1) [(.ready, none), (.ready, none)] fun ex fm T σ => ex = .normal ∧ fm = [(0, .func (.yield l2) [] []), (1, .var 9 0), (2, .var 10 0), (4, .int .i64 ((16 * (j + 1) : Nat) : Int))] ∧ T = ((TNc1 z0 z1 z2 g0 n0 g1 n1 g2 n2 ga kx (mwLaw (xwLaw y (gwLaw (ckLaw z1 n1 j))) kx) l1) : Tab) ∧ σ = [(.ready, none), (.ready, none)] := by
  have hamb := ambc1 z0 z1 z2 g0 n0 g1 n1 g2 n2 ga kx l1 l2
  have hz := e.pz1
  have hm := e.pm1
  skip
  have er : (if (↑(subO n1 ((16 * j : Nat) : Int).toNat) : Int) < 16 then (↑(subO n1 ((16 * j : Nat) : Int).toNat) : Int) else 16) = ((min 16 (n1 - 16 * j) : Nat) : Int) := by
    rw [Int.toNat_natCast, subO_eq, min16]
  have e1 : ((16 * j : Nat) : Int).toNat = 16 * j := Int.toNat_natCast _
  have e2 : subO (((16 * j : Nat) : Int) + ((min 16 (n1 - 16 * j) : Nat) : Int)).toNat (16 * j) = min 16 (n1 - 16 * j) := by rw [subO_eq]; omega
  rw [split81]
  refine YWp.seq (YWp.ofTo (To.of (o := Hyc1 z0 z1 z2 g0 n0 g1 n1 g2 n2 ga kx y l1 l2 ((16 * j : Nat) : Int)) eGh_ok hmA (Nat.le_refl 11) OrcOk.nil rfl (Hyc1_ok ?_) Hyc1_ex Hyc1_fm Hyc1_tab) hamb ?_)
  · simp only [allP, Con.h, decide_eq_true_eq, eq_self, true_and, and_true]; omega
  refine YWp.seq (YWp.block (YWp.seq (YWp.ofTo (To.of (o := Msc1 z0 z1 z2 g0 n0 g1 n1 g2 n2 ga kx y l1 l2 ((16 * j : Nat) : Int)) (fm' := [(0, .func (.yield l2) [] []), (1, .var 9 0), (2, .var 10 0), (4, .int .i64 ((16 * j : Nat) : Int))] ++ [(5, .int .i64 ((min 16 (n1 - 16 * j) : Nat) : Int))]) eGh_ok hmA (Nat.le_refl 11) OrcOk.nil rfl (Msc1_ok ?_) Msc1_ex (by rw [Msc1_fm, er]; rfl) Msc1_tab) hamb ?_)))
  · simp only [allP, Con.h, eq_self, true_and, and_true]; omega
  refine YWp.seq (YWp.yieldRegion eGh_ok (l1 := ops81.toList.take 10) (l2 := ops81.toList.drop 11) (oy := ops81.toList.getD 10 default) (by kernel_rfl) (ds1 := []) (o1 := Yac1 z0 z1 z2 g0 n0 g1 n1 g2 n2 ga kx y l1 l2 ((16 * j : Nat) : Int) ((min 16 (n1 - 16 * j) : Nat) : Int)) (by kernel_rfl) (Yac1_ok ?_) (f := .tmp 19) (x := .tmp 28) (t := 29) (c := theCall (ops81.toList.getD 10 default)) (by kernel_rfl) (by kernel_rfl) (by kernel_rfl) (by kernel_rfl) (by kernel_rfl) (by decide) (i := 0) (l := l2) (H := H2c1 z0 z1 z2 g0 n0 g1 n1 g2 n2 ga kx) (by rw [Yac1_fm]; rfl) (v := .slice 1 2 g1 (16 * j) (min 16 (n1 - 16 * j)) (some (min 16 (n1 - 16 * j)))) (by rw [Yac1_fm, e1, e2]; rfl) rfl rfl (p := 14) rfl (show 14 < 30 by decide) (kk := 11) (Nat.le_refl _) (by rw [Yac1_fm]; exact fmIn_of rfl) hamb ?_)
  · simp only [allP, Con.h, eq_self, true_and, and_true]; omega
  rw [Yac1_tab]
  refine YWp.ofTo (To.of (o := Asc1 z0 z1 z2 g0 n0 g1 n1 g2 n2 ga kx y l1 l2 (16 * j) (min 16 (n1 - 16 * j))) eGh_ok hmA (Nat.le_refl 11) OrcOk.nil rfl (Asc1_ok trivial) Asc1_ex Asc1_fm Asc1_tab) hamb ⟨rfl, rfl, ?_⟩
  refine YWp.mono (chc1 e hy l1 l2 hj) fun ex fm T σ hP => ?_
  obtain ⟨rfl, rfl, rfl⟩ := hP
  refine ⟨by decide, [], Nuc1 z0 z1 z2 g0 n0 g1 n1 g2 n2 ga kx (mwLaw (xwLaw y (gwLaw (ckLaw z1 n1 j))) kx) l1 _, rfl, Nuc1_ok trivial, ?_⟩
  rw [Nuc1_fm, Nuc1_tab, Yac1_fm]
  show YWp eGh 31 11 [(l2, H2c1 z0 z1 z2 g0 n0 g1 n1 g2 n2 ga kx), (l1, H1c)] cnd81 _ _ _ _
  rw [cnd81_eq]
  refine YWp.cond (b := false) rfl (fun h => by cases h) (fun _ => YWp.skip hamb ?_)
  show YWp eGh 31 11 [(l2, H2c1 z0 z1 z2 g0 n0 g1 n1 g2 n2 ga kx), (l1, H1c)] r81 _ _ _ _
  refine YWp.sub (f := [(0, .func (.yield l2) [] []), (1, .var 9 0), (2, .var 10 0), (4, .int .i64 ((16 * j : Nat) : Int))]) ⟨rfl, rfl, rfl, rfl, trivial⟩ ?_
  refine YWp.ofTo (To.of (o := Rbc1 z0 z1 z2 g0 n0 g1 n1 g2 n2 ga kx _ l1 l2 ((16 * j : Nat) : Int)) eGh_ok hmA (Nat.le_refl 11) OrcOk.nil rfl (Rbc1_ok ?_) Rbc1_ex Rbc1_fm Rbc1_tab) hamb ⟨rfl, ?_, rfl, rfl⟩
  · simp only [allP, Con.h, and_true]; omega
  · rw [show ((16 * j : Nat) : Int) + 16 = ((16 * (j + 1) : Nat) : Int) by omega]
theorem inc1 {z0 z1 z2 : List Int} {g0 n0 g1 n1 g2 n2 ga : Nat} {kx : List Int} (e : Exc z0 z1 z2 g0 n0 g1 n1 g2 n2 ga kx) {y : List Int} (hy : WpLaw y) (l1 l2 : Nat) :
    YWp eGh 31 11 [(l2, H2c1 z0 z1 z2 g0 n0 g1 n1 g2 n2 ga kx), (l1, H1c)] (bodyOf f81) (argF ([] ++ (.func (.yield l2) [] [] :: [.var 9 0, .var 10 0])) 0) (TNc1 z0 z1 z2 g0 n0 g1 n1 g2 n2 ga kx y l1) [(.ready, none), (.ready, none)] fun ex fm' T' σ' =>
      (ex = .normal ∨ ex = .ret) ∧ (∃ cs us, aRes eGh fm' T' f81.results.toList = some (cs, us) ∧ allP cs) ∧ ∃ st σ2, σ' = st :: σ2 ∧ st.1 ≠ .busy ∧
        match st.2 with
        | none => AExit.normal = .normal ∧ [(1, .var 7 0), (2, .var 8 0), (6, .slice 1 0 ga 0 3 (some 3)), (7, .int .i64 3), (8, .int .i64 1), (13, .func (.func 81) [] [.var 9 0, .var 10 0])] = (H2c1 z0 z1 z2 g0 n0 g1 n1 g2 n2 ga kx).fm ∧ T' = (TNc1 z0 z1 z2 g0 n0 g1 n1 g2 n2 ga kx (hsLaw kx y z1 n1) l1) ∧ σ2 = [(.ready, none)]
        | some (.exit id) => AExit.exit id = .normal ∧ [(1, .var 7 0), (2, .var 8 0), (6, .slice 1 0 ga 0 3 (some 3)), (7, .int .i64 3), (8, .int .i64 1), (13, .func (.func 81) [] [.var 9 0, .var 10 0])] = (H2c1 z0 z1 z2 g0 n0 g1 n1 g2 n2 ga kx).fm ∧ T' = (TNc1 z0 z1 z2 g0 n0 g1 n1 g2 n2 ga kx (hsLaw kx y z1 n1) l1) ∧ σ2 = [(.ready, none)]
        | some .ret => AExit.ret = .normal ∧ [(1, .var 7 0), (2, .var 8 0), (6, .slice 1 0 ga 0 3 (some 3)), (7, .int .i64 3), (8, .int .i64 1), (13, .func (.func 81) [] [.var 9 0, .var 10 0])] = (H2c1 z0 z1 z2 g0 n0 g1 n1 g2 n2 ga kx).fm ∧ T' = (TNc1 z0 z1 z2 g0 n0 g1 n1 g2 n2 ga kx (hsLaw kx y z1 n1) l1) ∧ σ2 = [(.ready, none)]
        | _ => False := by
  have hamb := ambc1 z0 z1 z2 g0 n0 g1 n1 g2 n2 ga kx l1 l2
  rw [splitb81, res81]
  refine YWp.seq (YWp.ofTo (To.of (o := Zsc1 z0 z1 z2 g0 n0 g1 n1 g2 n2 ga kx y l1 l2) eGh_ok hmA (Nat.le_refl 11) OrcOk.nil rfl (Zsc1_ok trivial) Zsc1_ex Zsc1_fm Zsc1_tab) hamb ?_)
  refine YWp.block (YWp.loop (fun fm T σ μ => ∃ j, 16 * j < n1 + 16 ∧ μ = n1 + 16 - j ∧ fm = [(0, .func (.yield l2) [] []), (1, .var 9 0), (2, .var 10 0), (4, .int .i64 ((16 * j : Nat) : Int))] ∧ T = (TNc1 z0 z1 z2 g0 n0 g1 n1 g2 n2 ga kx (hyLaw kx y z1 n1 j) l1) ∧ σ = [(.ready, none), (.ready, none)]) (n1 + 16) ⟨0, by omega, rfl, rfl, rfl, rfl⟩ ?_)
  rintro fm T σ μ ⟨j, hj, rfl, rfl, rfl, rfl⟩
  by_cases h : 16 * j < n1
  · refine YWp.mono (rdc1 e (hy_wp hy e.pz1 e.pb1 j) l1 l2 h) fun ex fm T σ hP => ?_
    obtain ⟨rfl, rfl, rfl, rfl⟩ := hP
    exact ⟨n1 + 16 - (j + 1), by omega, j + 1, by omega, rfl, rfl, rfl, rfl⟩
  · rw [split81]
    refine YWp.seq (YWp.ofTo (To.of (o := Hnc1 z0 z1 z2 g0 n0 g1 n1 g2 n2 ga kx (hyLaw kx y z1 n1 j) l1 l2 ((16 * j : Nat) : Int)) eGh_ok hmA (Nat.le_refl 11) OrcOk.nil rfl (Hnc1_ok ?_) Hnc1_ex Hnc1_fm Hnc1_tab) hamb ?_)
    · simp only [allP, Con.h, decide_eq_false_iff_not, eq_self, true_and, and_true]; omega
    obtain rfl : j = (n1 + 15) / 16 := by omega
    exact ⟨.inl rfl, ⟨[], [], rfl, trivial⟩, (.ready, none), _, rfl, by decide, rfl, rfl, rfl, rfl⟩
theorem roc1 {z0 z1 z2 : List Int} {g0 n0 g1 n1 g2 n2 ga : Nat} {kx : List Int} (e : Exc z0 z1 z2 g0 n0 g1 n1 g2 n2 ga kx) {y : List Int} (hy : WpLaw y) (l1 : Nat) :
    YWp eGh 30 8 [(l1, H1c)] (roundOf 0 f79) [(1, .var 7 0), (2, .var 8 0), (6, .slice 1 0 ga 0 3 (some 3)), (7, .int .i64 3), (8, .int .i64 1)] (TPc z0 z1 z2 g0 n0 g1 n1 g2 n2 ga kx y l1) [(.ready, none)] fun ex fm T σ => ex = .normal ∧ fm = [(1, .var 7 0), (2, .var 8 0), (6, .slice 1 0 ga 0 3 (some 3)), (7, .int .i64 3), (8, .int .i64 2)] ∧ T = ((TPc z0 z1 z2 g0 n0 g1 n1 g2 n2 ga kx (hsLaw kx y z1 n1) l1) : Tab) ∧ σ = [(.ready, none)] := by
  have hamb : ambIn 8 [(l1, H1c)] := ambIn_one rfl
  rw [split79]
  refine YWp.seq (YWp.ofTo (To.base (by decide) (To.of (o := Hdc1 z0 z1 z2 g0 n0 g1 n1 g2 n2 ga kx y l1) eGh_ok hmA (Nat.le_refl 9) OrcOk.nil rfl (Hdc1_ok trivial) Hdc1_ex Hdc1_fm Hdc1_tab)) hamb ?_)
  refine YWp.seq ?_
  rw [c79_eq]
  refine YWp.cond (b := true) rfl (fun _ => YWp.skip hamb ?_) (fun h => by cases h)
  refine YWp.sub (f := [(1, .var 7 0), (2, .var 8 0), (6, .slice 1 0 ga 0 3 (some 3)), (7, .int .i64 3), (8, .int .i64 1)]) ⟨rfl, rfl, rfl, rfl, rfl, trivial⟩ ?_
  refine YWp.seq (YWp.block (YWp.seq (YWp.ofTo (To.base (by decide) (To.of (o := Pac1 z0 z1 z2 g0 n0 g1 n1 g2 n2 ga kx y l1) eGh_ok hmA (Nat.le_refl 9) OrcOk.nil rfl (Pac1_ok ⟨rfl, rfl, trivial⟩) Pac1_ex Pac1_fm Pac1_tab)) hamb ?_)))
  refine YWp.sub (f := ((4, .slice 1 2 g1 0 n1 none) :: [(1, .var 7 0), (2, .var 8 0), (6, .slice 1 0 ga 0 3 (some 3)), (7, .int .i64 3), (8, .int .i64 1)])) ⟨rfl, rfl, rfl, rfl, rfl, rfl, trivial⟩ ?_
  refine YWp.seq (YWp.ofTo (To.base (by decide) (To.of (k := 9) (o := Pbc1 z0 z1 z2 g0 n0 g1 n1 g2 n2 ga kx y l1) eGh_ok hmA (Nat.le_refl 9) OrcOk.nil rfl (Pbc1_ok ⟨rfl, trivial⟩) Pbc1_ex Pbc1_fm Pbc1_tab)) hamb ?_)
  refine YWp.block ?_
  rw [rf79_eq]
  refine YWp.mono (YWp.rangeFunc (post := fun ex fm T' σ' => ex = .normal ∧ fm = (H2c1 z0 z1 z2 g0 n0 g1 n1 g2 n2 ga kx).fm ∧ T' = (TNc1 z0 z1 z2 g0 n0 g1 n1 g2 n2 ga kx (hsLaw kx y z1 n1) l1) ∧ σ' = [(.ready, none)]) eGh_ok (gf := 81) (gfn := f81) (c := bodyOf f81) (first := []) (caps := [.var 9 0, .var 10 0]) rfl (by kernel_rfl) (by kernel_rfl) (by kernel_rfl) (kk := 11) (by decide) (fmIn_of rfl) (by kernel_rfl) (fun l2 => inc1 e hy l1 l2)) fun ex fm T σ hP => ?_
  obtain ⟨rfl, rfl, rfl, rfl⟩ := hP
  show YWp eGh 30 8 [(l1, H1c)] r79 _ _ _ _
  exact YWp.ofTo (To.base (by decide) (To.of (k := 9) (o := Rrc1 z0 z1 z2 g0 n0 g1 n1 g2 n2 ga kx (hsLaw kx y z1 n1) l1) eGh_ok hmA (Nat.le_refl 9) OrcOk.nil rfl (Rrc1_ok trivial) Rrc1_ex Rrc1_fm Rrc1_tab)) hamb ⟨rfl, rfl, rfl, rfl⟩
noncomputable def H2c2 (z0 z1 z2 : List Int) (g0 n0 g1 n1 g2 n2 ga : Nat) (kx : List Int) : Host := ⟨#[14], as79, bd79, [(1, .var 7 0), (2, .var 8 0), (6, .slice 1 0 ga 0 3 (some 3)), (7, .int .i64 3), (8, .int .i64 2), (13, .func (.func 81) [] [.var 9 0, .var 10 0])], 30⟩
theorem ambc2 (z0 z1 z2 : List Int) (g0 n0 g1 n1 g2 n2 ga : Nat) (kx : List Int) (l1 l2 : Nat) : ambIn 11 [(l2, H2c2 z0 z1 z2 g0 n0 g1 n1 g2 n2 ga kx), (l1, H1c)] := fun x hx => by
  rcases List.mem_cons.1 hx with rfl | hx
  · exact fmIn_of rfl
  · exact ambIn_one rfl x hx
theorem ambMc2 (z0 z1 z2 : List Int) (g0 n0 g1 n1 g2 n2 ga : Nat) (kx : List Int) (l1 l2 : Nat) : ambIn 12 [(l2, H2c2 z0 z1 z2 g0 n0 g1 n1 g2 n2 ga kx), (l1, H1c)] := fun x hx => by
  rcases List.mem_cons.1 hx with rfl | hx
  · exact fmIn_of rfl
  · exact ambIn_one rfl x hx
theorem chfc2 {z0 z1 z2 : List Int} {g0 n0 g1 n1 g2 n2 ga : Nat} {kx : List Int} (e : Exc z0 z1 z2 g0 n0 g1 n1 g2 n2 ga kx) {y : List Int} (hy : WpLaw y) (l1 l2 : Nat) {j : Nat} (hj : 16 * j + 16 ≤ n2) :
    YWp eGh 30 11 [(l2, H2c2 z0 z1 z2 g0 n0 g1 n1 g2 n2 ga kx), (l1, H1c)] bd79 [(2, .var 8 0), (5, .slice 1 3 g2 (16 * j) 16 (some 16))] (TNc2 z0 z1 z2 g0 n0 g1 n1 g2 n2 ga kx y l1) [(.busy, none), (.ready, none)] fun ex fm T σ => ex = .normal ∧ T = ((TNc2 z0 z1 z2 g0 n0 g1 n1 g2 n2 ga kx (mwLaw (xwLaw y (gwLaw (ckLaw z2 n2 j))) kx) l1) : Tab) ∧ σ = [(.busy, none), (.ready, none)] := by
  have hamb := ambc2 z0 z1 z2 g0 n0 g1 n1 g2 n2 ga kx l1 l2
  have hambM := ambMc2 z0 z1 z2 g0 n0 g1 n1 g2 n2 ga kx l1 l2
  have hz := e.pz2
  have hbz := e.pb2
  have hcl := ck_len hz j
  have hcb := ck_bytes hbz n2 j
  have eb : (subLaw z2 (addO (16 * j) 0) 16) = (ckLaw z2 n2 j) := by rw [addO_eq, Nat.add_zero, ck_full hj]
  have hw : WpLaw (gwLaw (subLaw z2 (addO (16 * j) 0) 16)) := by rw [eb]; exact .gw hcb hcl
  rw [bd79_eq]
  refine YWp.block (YWp.seq (YWp.yieldDrawn eGh_ok hmA (l1 := ops79.toList.take 12) (oy := ops79.toList.getD 12 default) (o2 := ops79.toList.getD 13 default) (by kernel_rfl) (ds1 := [some true]) (o1 := Dfc2 z0 z1 z2 g0 n0 g1 n1 g2 n2 ga kx y l1 l2 (16 * j)) (by kernel_rfl) (by kernel_rfl) (by kernel_rfl) (by kernel_rfl) (by kernel_rfl) (by kernel_rfl) (Dfc2_ok ?_) (f := .tmp 15) (x := .tmp 26) (t := 27) (c := theCall (ops79.toList.getD 12 default)) (by kernel_rfl) (by kernel_rfl) (by kernel_rfl) (by kernel_rfl) (by kernel_rfl) (by kernel_rfl) (by decide) (i := 1) (l := l1) (H := H1c) (by rw [Dfc2_fm]; rfl) (v := .ints .u64 (gwLaw (subLaw z2 (addO (16 * j) 0) 16))) (by rw [Dfc2_fm]; rfl) rfl rfl (p := 9) rfl (by decide) (kk := 11) (by decide) (by rw [Dfc2_fm]; exact fmIn_of rfl) hamb ?_))
  · simp only [allP, Con.h, addO_eq, Nat.add_zero, hbz, eq_self, true_and, and_true]
    omega
  rw [Dfc2_tab]
  refine YWp.ofTo (To.of (o := A6fc2 z0 z1 z2 g0 n0 g1 n1 g2 n2 ga kx y l1 (gwLaw (subLaw z2 (addO (16 * j) 0) 16))) eGh_ok hmA (Nat.le_refl 11) OrcOk.nil rfl (A6fc2_ok ⟨hw.len, trivial⟩) A6fc2_ex A6fc2_fm A6fc2_tab) hamb ⟨rfl, rfl, ?_⟩
  refine YWp.ofTo (To.of (o := B6fc2 z0 z1 z2 g0 n0 g1 n1 g2 n2 ga kx y l1 (gwLaw (subLaw z2 (addO (16 * j) 0) 16))) eGh_ok hmA (Nat.le_refl 11) OrcOk.nil rfl (B6fc2_ok ?_) B6fc2_ex B6fc2_fm B6fc2_tab) hamb ⟨by decide, [], Ntc2 z0 z1 z2 g0 n0 g1 n1 g2 n2 ga kx (mwLaw (xwLaw y (gwLaw (subLaw z2 (addO (16 * j) 0) 16))) kx) l1 _, rfl, Ntc2_ok trivial, ?_⟩
  · have h1 := hy.len
    have h2 := hw.len
    have h3 := e.pk.len
    have h4 := hy.xw hw
    simp only [allP, Con.h, h1, h2, h3, h4, hy, hw, e.pk, and_true, true_and]
  rw [Ntc2_fm, Ntc2_tab, eb]
  show YWp eGh 30 11 [(l2, H2c2 z0 z1 z2 g0 n0 g1 n1 g2 n2 ga kx), (l1, H1c)] cnd79 _ _ _ _
  rw [cnd79_eq]
  exact YWp.cond (b := false) rfl (fun h => by cases h) (fun _ => YWp.skip hamb ⟨rfl, rfl, rfl⟩)
theorem chpc2 {z0 z1 z2 : List Int} {g0 n0 g1 n1 g2 n2 ga : Nat} {kx : List Int} (e : Exc z0 z1 z2 g0 n0 g1 n1 g2 n2 ga kx) {y : List Int} (hy : WpLaw y) (l1 l2 : Nat) {j r : Nat} (hr : r < 16) (hj : 16 * j + r = n2) :
    YWp eGh 30 11 [(l2, H2c2 z0 z1 z2 g0 n0 g1 n1 g2 n2 ga kx), (l1, H1c)] bd79 [(2, .var 8 0), (5, .slice 1 3 g2 (16 * j) r (some r))] (TNc2 z0 z1 z2 g0 n0 g1 n1 g2 n2 ga kx y l1) [(.busy, none), (.ready, none)] fun ex fm T σ => ex = .normal ∧ T = ((TNc2 z0 z1 z2 g0 n0 g1 n1 g2 n2 ga kx (mwLaw (xwLaw y (gwLaw (ckLaw z2 n2 j))) kx) l1) : Tab) ∧ σ = [(.busy, none), (.ready, none)] := by
  have hamb := ambc2 z0 z1 z2 g0 n0 g1 n1 g2 n2 ga kx l1 l2
  have hambM := ambMc2 z0 z1 z2 g0 n0 g1 n1 g2 n2 ga kx l1 l2
  have hz := e.pz2
  have hbz := e.pb2
  have hcl := ck_len hz j
  have hcb := ck_bytes hbz n2 j
  have ex0 : (List.take r (dropO (addO (16 * j) 0) z2) ++ List.replicate (16 - (r : Int)).toNat 0) = (ckLaw z2 n2 j) := by
    rw [addO_eq, Nat.add_zero, dropO_eq, ck_part (by omega), show n2 - 16 * j = r by omega, show (16 - (r : Int)).toNat = 16 - r by omega]
  have eb : (subLaw (List.take r (dropO (addO (16 * j) 0) z2) ++ List.replicate (16 - (r : Int)).toNat 0) 0 16) = (ckLaw z2 n2 j) := by
    rw [ex0, take_sub, List.take_of_length_le (by omega)]
  have hw : WpLaw (gwLaw (subLaw (List.take r (dropO (addO (16 * j) 0) z2) ++ List.replicate (16 - (r : Int)).toNat 0) 0 16)) := by rw [eb]; exact .gw hcb hcl
  rw [bd79_eq]
  refine YWp.block (YWp.seq (YWp.yieldDrawn eGh_ok hmA (l1 := ops79.toList.take 12) (oy := ops79.toList.getD 12 default) (o2 := ops79.toList.getD 13 default) (by kernel_rfl) (ds1 := [some false]) (o1 := Dpc2 z0 z1 z2 g0 n0 g1 n1 g2 n2 ga kx y l1 l2 (16 * j) r) (by kernel_rfl) (by kernel_rfl) (by kernel_rfl) (by kernel_rfl) (by kernel_rfl) (by kernel_rfl) (Dpc2_ok ?_) (f := .tmp 15) (x := .tmp 26) (t := 27) (c := theCall (ops79.toList.getD 12 default)) (by kernel_rfl) (by kernel_rfl) (by kernel_rfl) (by kernel_rfl) (by kernel_rfl) (by kernel_rfl) (by decide) (i := 1) (l := l1) (H := H1c) (by rw [Dpc2_fm]; rfl) (v := .ints .u64 (gwLaw (subLaw (List.take r (dropO (addO (16 * j) 0) z2) ++ List.replicate (16 - (r : Int)).toNat 0) 0 16))) (by rw [Dpc2_fm]; rfl) rfl rfl (p := 9) rfl (by decide) (kk := 12) (by decide) (by rw [Dpc2_fm]; exact fmIn_of rfl) hamb ?_))
  · rw [ex0]
    simp only [allP, Con.h, addO_eq, Nat.add_zero, hcl, hcb, eq_self, true_and, and_true]
    omega
  rw [Dpc2_tab]
  refine YWp.ofTo (To.of (o := A6pc2 z0 z1 z2 g0 n0 g1 n1 g2 n2 ga kx y l1 (List.take r (dropO (addO (16 * j) 0) z2) ++ List.replicate (16 - (r : Int)).toNat 0) (gwLaw (subLaw (List.take r (dropO (addO (16 * j) 0) z2) ++ List.replicate (16 - (r : Int)).toNat 0) 0 16))) eGh_ok hmA (Nat.le_refl 12) OrcOk.nil rfl (A6pc2_ok ⟨hw.len, trivial⟩) A6pc2_ex A6pc2_fm A6pc2_tab) hambM ⟨rfl, rfl, ?_⟩
  refine YWp.ofTo (To.of (o := B6pc2 z0 z1 z2 g0 n0 g1 n1 g2 n2 ga kx y l1 (List.take r (dropO (addO (16 * j) 0) z2) ++ List.replicate (16 - (r : Int)).toNat 0) (gwLaw (subLaw (List.take r (dropO (addO (16 * j) 0) z2) ++ List.replicate (16 - (r : Int)).toNat 0) 0 16))) eGh_ok hmA (Nat.le_refl 12) OrcOk.nil rfl (B6pc2_ok ?_) B6pc2_ex B6pc2_fm B6pc2_tab) hambM ⟨by decide, [], Nqc2 z0 z1 z2 g0 n0 g1 n1 g2 n2 ga kx (mwLaw (xwLaw y (gwLaw (subLaw (List.take r (dropO (addO (16 * j) 0) z2) ++ List.replicate (16 - (r : Int)).toNat 0) 0 16))) kx) l1 (List.take r (dropO (addO (16 * j) 0) z2) ++ List.replicate (16 - (r : Int)).toNat 0) _, rfl, Nqc2_ok trivial, ?_⟩
  · have h1 := hy.len
    have h2 := hw.len
    have h3 := e.pk.len
    have h4 := hy.xw hw
    simp only [allP, Con.h, h1, h2, h3, h4, hy, hw, e.pk, and_true, true_and]
  rw [Nqc2_fm, Nqc2_tab, eb]
  show YWp eGh 30 11 [(l2, H2c2 z0 z1 z2 g0 n0 g1 n1 g2 n2 ga kx), (l1, H1c)] cnd79 _ _ _ _
  refine YWp.sub (f := [(28, .bool false)]) ⟨rfl, trivial⟩ ?_
  exact YWp.ofTo (To.of (k := 11) (o := Cpc2 z0 z1 z2 g0 n0 g1 n1 g2 n2 ga kx (mwLaw (xwLaw y (gwLaw (ckLaw z2 n2 j))) kx) l1 (List.take r (dropO (addO (16 * j) 0) z2) ++ List.replicate (16 - (r : Int)).toNat 0)) eGh_ok hmA (Nat.le_refl 11) OrcOk.nil rfl (Cpc2_ok trivial) Cpc2_ex Cpc2_fm Cpc2_tab) hamb ⟨rfl, rfl, rfl⟩
theorem chc2 {z0 z1 z2 : List Int} {g0 n0 g1 n1 g2 n2 ga : Nat} {kx : List Int} (e : Exc z0 z1 z2 g0 n0 g1 n1 g2 n2 ga kx) {y : List Int} (hy : WpLaw y) (l1 l2 : Nat) {j : Nat} (hj : 16 * j < n2) :
    YWp eGh 30 11 [(l2, H2c2 z0 z1 z2 g0 n0 g1 n1 g2 n2 ga kx), (l1, H1c)] bd79 [(2, .var 8 0), (5, .slice 1 3 g2 (16 * j) (min 16 (n2 - 16 * j)) (some (min 16 (n2 - 16 * j))))] (TNc2 z0 z1 z2 g0 n0 g1 n1 g2 n2 ga kx y l1) [(.busy, none), (.ready, none)] fun ex fm T σ => ex = .normal ∧ T = ((TNc2 z0 z1 z2 g0 n0 g1 n1 g2 n2 ga kx (mwLaw (xwLaw y (gwLaw (ckLaw z2 n2 j))) kx) l1) : Tab) ∧ σ = [(.busy, none), (.ready, none)] := by
  by_cases h : 16 * j + 16 ≤ n2
  · rw [show min 16 (n2 - 16 * j) = 16 by omega]
    exact chfc2 e hy l1 l2 h
  · exact chpc2 e hy l1 l2 (by omega) (by omega)
theorem rdc2 {z0 z1 z2 : List Int} {g0 n0 g1 n1 g2 n2 ga : Nat} {kx : List Int} (e : Exc z0 z1 z2 g0 n0 g1 n1 g2 n2 ga kx) {y : List Int} (hy : WpLaw y) (l1 l2 : Nat) {j : Nat} (hj : 16 * j < n2) :
    YWp eGh 31 11 [(l2, H2c2 z0 z1 z2 g0 n0 g1 n1 g2 n2 ga kx), (l1, H1c)] (roundOf 0 f81) [(0, .func (.yield l2) [] []), (1, .var 9 0), (2, .var 10 0), (4, .int .i64 ((16 * j : Nat) : Int))] (TNc2 z0 z1 z2 g0 n0 g1 n1 g2 n2 ga kx y l1) [(.ready, none), (.ready, none)] fun ex fm T σ => ex = .normal ∧ fm = [(0, .func (.yield l2) [] []), (1, .var 9 0), (2, .var 10 0), (4, .int .i64 ((16 * (j + 1) : Nat) : Int))] ∧ T = ((TNc2 z0 z1 z2 g0 n0 g1 n1 g2 n2 ga kx (mwLaw (xwLaw y (gwLaw (ckLaw z2 n2 j))) kx) l1) : Tab) ∧ σ = [(.ready, none), (.ready, none)] := by
  have hamb := ambc2 z0 z1 z2 g0 n0 g1 n1 g2 n2 ga kx l1 l2
  have hz := e.pz2
  have hm := e.pm2
  skip
  have er : (if (↑(subO n2 ((16 * j : Nat) : Int).toNat) : Int) < 16 then (↑(subO n2 ((16 * j : Nat) : Int).toNat) : Int) else 16) = ((min 16 (n2 - 16 * j) : Nat) : Int) := by
    rw [Int.toNat_natCast, subO_eq, min16]
  have e1 : ((16 * j : Nat) : Int).toNat = 16 * j := Int.toNat_natCast _
  have e2 : subO (((16 * j : Nat) : Int) + ((min 16 (n2 - 16 * j) : Nat) : Int)).toNat (16 * j) = min 16 (n2 - 16 * j) := by rw [subO_eq]; omega
  rw [split81]
  refine YWp.seq (YWp.ofTo (To.of (o := Hyc2 z0 z1 z2 g0 n0 g1 n1 g2 n2 ga kx y l1 l2 ((16 * j : Nat) : Int)) eGh_ok hmA (Nat.le_refl 11) OrcOk.nil rfl (Hyc2_ok ?_) Hyc2_ex Hyc2_fm Hyc2_tab) hamb ?_)
  · simp only [allP, Con.h, decide_eq_true_eq, eq_self, true_and, and_true]; omega
  refine YWp.seq (YWp.block (YWp.seq (YWp.ofTo (To.of (o := Msc2 z0 z1 z2 g0 n0 g1 n1 g2 n2 ga kx y l1 l2 ((16 * j : Nat) : Int)) (fm' := [(0, .func (.yield l2) [] []), (1, .var 9 0), (2, .var 10 0), (4, .int .i64 ((16 * j : Nat) : Int))] ++ [(5, .int .i64 ((min 16 (n2 - 16 * j) : Nat) : Int))]) eGh_ok hmA (Nat.le_refl 11) OrcOk.nil rfl (Msc2_ok ?_) Msc2_ex (by rw [Msc2_fm, er]; rfl) Msc2_tab) hamb ?_)))
  · simp only [allP, Con.h, eq_self, true_and, and_true]; omega
  refine YWp.seq (YWp.yieldRegion eGh_ok (l1 := ops81.toList.take 10) (l2 := ops81.toList.drop 11) (oy := ops81.toList.getD 10 default) (by kernel_rfl) (ds1 := []) (o1 := Yac2 z0 z1 z2 g0 n0 g1 n1 g2 n2 ga kx y l1 l2 ((16 * j : Nat) : Int) ((min 16 (n2 - 16 * j) : Nat) : Int)) (by kernel_rfl) (Yac2_ok ?_) (f := .tmp 19) (x := .tmp 28) (t := 29) (c := theCall (ops81.toList.getD 10 default)) (by kernel_rfl) (by kernel_rfl) (by kernel_rfl) (by kernel_rfl) (by kernel_rfl) (by decide) (i := 0) (l := l2) (H := H2c2 z0 z1 z2 g0 n0 g1 n1 g2 n2 ga kx) (by rw [Yac2_fm]; rfl) (v := .slice 1 3 g2 (16 * j) (min 16 (n2 - 16 * j)) (some (min 16 (n2 - 16 * j)))) (by rw [Yac2_fm, e1, e2]; rfl) rfl rfl (p := 14) rfl (show 14 < 30 by decide) (kk := 11) (Nat.le_refl _) (by rw [Yac2_fm]; exact fmIn_of rfl) hamb ?_)
  · simp only [allP, Con.h, eq_self, true_and, and_true]; omega
  rw [Yac2_tab]
  refine YWp.ofTo (To.of (o := Asc2 z0 z1 z2 g0 n0 g1 n1 g2 n2 ga kx y l1 l2 (16 * j) (min 16 (n2 - 16 * j))) eGh_ok hmA (Nat.le_refl 11) OrcOk.nil rfl (Asc2_ok trivial) Asc2_ex Asc2_fm Asc2_tab) hamb ⟨rfl, rfl, ?_⟩
  refine YWp.mono (chc2 e hy l1 l2 hj) fun ex fm T σ hP => ?_
  obtain ⟨rfl, rfl, rfl⟩ := hP
  refine ⟨by decide, [], Nuc2 z0 z1 z2 g0 n0 g1 n1 g2 n2 ga kx (mwLaw (xwLaw y (gwLaw (ckLaw z2 n2 j))) kx) l1 _, rfl, Nuc2_ok trivial, ?_⟩
  rw [Nuc2_fm, Nuc2_tab, Yac2_fm]
  show YWp eGh 31 11 [(l2, H2c2 z0 z1 z2 g0 n0 g1 n1 g2 n2 ga kx), (l1, H1c)] cnd81 _ _ _ _
  rw [cnd81_eq]
  refine YWp.cond (b := false) rfl (fun h => by cases h) (fun _ => YWp.skip hamb ?_)
  show YWp eGh 31 11 [(l2, H2c2 z0 z1 z2 g0 n0 g1 n1 g2 n2 ga kx), (l1, H1c)] r81 _ _ _ _
  refine YWp.sub (f := [(0, .func (.yield l2) [] []), (1, .var 9 0), (2, .var 10 0), (4, .int .i64 ((16 * j : Nat) : Int))]) ⟨rfl, rfl, rfl, rfl, trivial⟩ ?_
  refine YWp.ofTo (To.of (o := Rbc2 z0 z1 z2 g0 n0 g1 n1 g2 n2 ga kx _ l1 l2 ((16 * j : Nat) : Int)) eGh_ok hmA (Nat.le_refl 11) OrcOk.nil rfl (Rbc2_ok ?_) Rbc2_ex Rbc2_fm Rbc2_tab) hamb ⟨rfl, ?_, rfl, rfl⟩
  · simp only [allP, Con.h, and_true]; omega
  · rw [show ((16 * j : Nat) : Int) + 16 = ((16 * (j + 1) : Nat) : Int) by omega]
theorem inc2 {z0 z1 z2 : List Int} {g0 n0 g1 n1 g2 n2 ga : Nat} {kx : List Int} (e : Exc z0 z1 z2 g0 n0 g1 n1 g2 n2 ga kx) {y : List Int} (hy : WpLaw y) (l1 l2 : Nat) :
    YWp eGh 31 11 [(l2, H2c2 z0 z1 z2 g0 n0 g1 n1 g2 n2 ga kx), (l1, H1c)] (bodyOf f81) (argF ([] ++ (.func (.yield l2) [] [] :: [.var 9 0, .var 10 0])) 0) (TNc2 z0 z1 z2 g0 n0 g1 n1 g2 n2 ga kx y l1) [(.ready, none), (.ready, none)] fun ex fm' T' σ' =>
      (ex = .normal ∨ ex = .ret) ∧ (∃ cs us, aRes eGh fm' T' f81.results.toList = some (cs, us) ∧ allP cs) ∧ ∃ st σ2, σ' = st :: σ2 ∧ st.1 ≠ .busy ∧
        match st.2 with
        | none => AExit.normal = .normal ∧ [(1, .var 7 0), (2, .var 8 0), (6, .slice 1 0 ga 0 3 (some 3)), (7, .int .i64 3), (8, .int .i64 2), (13, .func (.func 81) [] [.var 9 0, .var 10 0])] = (H2c2 z0 z1 z2 g0 n0 g1 n1 g2 n2 ga kx).fm ∧ T' = (TNc2 z0 z1 z2 g0 n0 g1 n1 g2 n2 ga kx (hsLaw kx y z2 n2) l1) ∧ σ2 = [(.ready, none)]
        | some (.exit id) => AExit.exit id = .normal ∧ [(1, .var 7 0), (2, .var 8 0), (6, .slice 1 0 ga 0 3 (some 3)), (7, .int .i64 3), (8, .int .i64 2), (13, .func (.func 81) [] [.var 9 0, .var 10 0])] = (H2c2 z0 z1 z2 g0 n0 g1 n1 g2 n2 ga kx).fm ∧ T' = (TNc2 z0 z1 z2 g0 n0 g1 n1 g2 n2 ga kx (hsLaw kx y z2 n2) l1) ∧ σ2 = [(.ready, none)]
        | some .ret => AExit.ret = .normal ∧ [(1, .var 7 0), (2, .var 8 0), (6, .slice 1 0 ga 0 3 (some 3)), (7, .int .i64 3), (8, .int .i64 2), (13, .func (.func 81) [] [.var 9 0, .var 10 0])] = (H2c2 z0 z1 z2 g0 n0 g1 n1 g2 n2 ga kx).fm ∧ T' = (TNc2 z0 z1 z2 g0 n0 g1 n1 g2 n2 ga kx (hsLaw kx y z2 n2) l1) ∧ σ2 = [(.ready, none)]
        | _ => False := by
  have hamb := ambc2 z0 z1 z2 g0 n0 g1 n1 g2 n2 ga kx l1 l2
  rw [splitb81, res81]
  refine YWp.seq (YWp.ofTo (To.of (o := Zsc2 z0 z1 z2 g0 n0 g1 n1 g2 n2 ga kx y l1 l2) eGh_ok hmA (Nat.le_refl 11) OrcOk.nil rfl (Zsc2_ok trivial) Zsc2_ex Zsc2_fm Zsc2_tab) hamb ?_)
  refine YWp.block (YWp.loop (fun fm T σ μ => ∃ j, 16 * j < n2 + 16 ∧ μ = n2 + 16 - j ∧ fm = [(0, .func (.yield l2) [] []), (1, .var 9 0), (2, .var 10 0), (4, .int .i64 ((16 * j : Nat) : Int))] ∧ T = (TNc2 z0 z1 z2 g0 n0 g1 n1 g2 n2 ga kx (hyLaw kx y z2 n2 j) l1) ∧ σ = [(.ready, none), (.ready, none)]) (n2 + 16) ⟨0, by omega, rfl, rfl, rfl, rfl⟩ ?_)
  rintro fm T σ μ ⟨j, hj, rfl, rfl, rfl, rfl⟩
  by_cases h : 16 * j < n2
  · refine YWp.mono (rdc2 e (hy_wp hy e.pz2 e.pb2 j) l1 l2 h) fun ex fm T σ hP => ?_
    obtain ⟨rfl, rfl, rfl, rfl⟩ := hP
    exact ⟨n2 + 16 - (j + 1), by omega, j + 1, by omega, rfl, rfl, rfl, rfl⟩
  · rw [split81]
    refine YWp.seq (YWp.ofTo (To.of (o := Hnc2 z0 z1 z2 g0 n0 g1 n1 g2 n2 ga kx (hyLaw kx y z2 n2 j) l1 l2 ((16 * j : Nat) : Int)) eGh_ok hmA (Nat.le_refl 11) OrcOk.nil rfl (Hnc2_ok ?_) Hnc2_ex Hnc2_fm Hnc2_tab) hamb ?_)
    · simp only [allP, Con.h, decide_eq_false_iff_not, eq_self, true_and, and_true]; omega
    obtain rfl : j = (n2 + 15) / 16 := by omega
    exact ⟨.inl rfl, ⟨[], [], rfl, trivial⟩, (.ready, none), _, rfl, by decide, rfl, rfl, rfl, rfl⟩
theorem roc2 {z0 z1 z2 : List Int} {g0 n0 g1 n1 g2 n2 ga : Nat} {kx : List Int} (e : Exc z0 z1 z2 g0 n0 g1 n1 g2 n2 ga kx) {y : List Int} (hy : WpLaw y) (l1 : Nat) :
    YWp eGh 30 8 [(l1, H1c)] (roundOf 0 f79) [(1, .var 7 0), (2, .var 8 0), (6, .slice 1 0 ga 0 3 (some 3)), (7, .int .i64 3), (8, .int .i64 2)] (TPc z0 z1 z2 g0 n0 g1 n1 g2 n2 ga kx y l1) [(.ready, none)] fun ex fm T σ => ex = .normal ∧ fm = [(1, .var 7 0), (2, .var 8 0), (6, .slice 1 0 ga 0 3 (some 3)), (7, .int .i64 3), (8, .int .i64 3)] ∧ T = ((TPc z0 z1 z2 g0 n0 g1 n1 g2 n2 ga kx (hsLaw kx y z2 n2) l1) : Tab) ∧ σ = [(.ready, none)] := by
  have hamb : ambIn 8 [(l1, H1c)] := ambIn_one rfl
  rw [split79]
  refine YWp.seq (YWp.ofTo (To.base (by decide) (To.of (o := Hdc2 z0 z1 z2 g0 n0 g1 n1 g2 n2 ga kx y l1) eGh_ok hmA (Nat.le_refl 9) OrcOk.nil rfl (Hdc2_ok trivial) Hdc2_ex Hdc2_fm Hdc2_tab)) hamb ?_)
  refine YWp.seq ?_
  rw [c79_eq]
  refine YWp.cond (b := true) rfl (fun _ => YWp.skip hamb ?_) (fun h => by cases h)
  refine YWp.sub (f := [(1, .var 7 0), (2, .var 8 0), (6, .slice 1 0 ga 0 3 (some 3)), (7, .int .i64 3), (8, .int .i64 2)]) ⟨rfl, rfl, rfl, rfl, rfl, trivial⟩ ?_
  refine YWp.seq (YWp.block (YWp.seq (YWp.ofTo (To.base (by decide) (To.of (o := Pac2 z0 z1 z2 g0 n0 g1 n1 g2 n2 ga kx y l1) eGh_ok hmA (Nat.le_refl 9) OrcOk.nil rfl (Pac2_ok ⟨rfl, rfl, trivial⟩) Pac2_ex Pac2_fm Pac2_tab)) hamb ?_)))
  refine YWp.sub (f := ((4, .slice 1 3 g2 0 n2 none) :: [(1, .var 7 0), (2, .var 8 0), (6, .slice 1 0 ga 0 3 (some 3)), (7, .int .i64 3), (8, .int .i64 2)])) ⟨rfl, rfl, rfl, rfl, rfl, rfl, trivial⟩ ?_
  refine YWp.seq (YWp.ofTo (To.base (by decide) (To.of (k := 9) (o := Pbc2 z0 z1 z2 g0 n0 g1 n1 g2 n2 ga kx y l1) eGh_ok hmA (Nat.le_refl 9) OrcOk.nil rfl (Pbc2_ok ⟨rfl, trivial⟩) Pbc2_ex Pbc2_fm Pbc2_tab)) hamb ?_)
  refine YWp.block ?_
  rw [rf79_eq]
  refine YWp.mono (YWp.rangeFunc (post := fun ex fm T' σ' => ex = .normal ∧ fm = (H2c2 z0 z1 z2 g0 n0 g1 n1 g2 n2 ga kx).fm ∧ T' = (TNc2 z0 z1 z2 g0 n0 g1 n1 g2 n2 ga kx (hsLaw kx y z2 n2) l1) ∧ σ' = [(.ready, none)]) eGh_ok (gf := 81) (gfn := f81) (c := bodyOf f81) (first := []) (caps := [.var 9 0, .var 10 0]) rfl (by kernel_rfl) (by kernel_rfl) (by kernel_rfl) (kk := 11) (by decide) (fmIn_of rfl) (by kernel_rfl) (fun l2 => inc2 e hy l1 l2)) fun ex fm T σ hP => ?_
  obtain ⟨rfl, rfl, rfl, rfl⟩ := hP
  show YWp eGh 30 8 [(l1, H1c)] r79 _ _ _ _
  exact YWp.ofTo (To.base (by decide) (To.of (k := 9) (o := Rrc2 z0 z1 z2 g0 n0 g1 n1 g2 n2 ga kx (hsLaw kx y z2 n2) l1) eGh_ok hmA (Nat.le_refl 9) OrcOk.nil rfl (Rrc2_ok trivial) Rrc2_ex Rrc2_fm Rrc2_tab)) hamb ⟨rfl, rfl, rfl, rfl⟩
theorem outc {z0 z1 z2 : List Int} {g0 n0 g1 n1 g2 n2 ga : Nat} {kx : List Int} (e : Exc z0 z1 z2 g0 n0 g1 n1 g2 n2 ga kx) (l1 : Nat) : YWp eGh 30 8 [(l1, H1c)] (bodyOf f79) (argF ([] ++ (.func (.yield l1) [] [] :: [.var 7 0])) 0) (TBc z0 z1 z2 g0 n0 g1 n1 g2 n2 ga kx [0, 0]) [(.ready, none)] fun ex fm' T' σ' =>
      (ex = .normal ∨ ex = .ret) ∧ (∃ cs us, aRes eGh fm' T' f79.results.toList = some (cs, us) ∧ allP cs) ∧ ∃ st σ2, σ' = st :: σ2 ∧ st.1 ≠ .busy ∧
        match st.2 with
        | none => (AExit.normal = .normal ∨ AExit.normal = .exit 0) ∧ [(2, .var 4 0), (4, .var 5 0), (5, .var 6 0), (8, .func (.func 79) [] [.var 7 0])] = H1c.fm ∧ T' = (TBc z0 z1 z2 g0 n0 g1 n1 g2 n2 ga kx (hsLaw kx (hsLaw kx (hsLaw kx [0, 0] z0 n0) z1 n1) z2 n2))
        | some (.exit id) => (AExit.exit id = .normal ∨ AExit.exit id = .exit 0) ∧ [(2, .var 4 0), (4, .var 5 0), (5, .var 6 0), (8, .func (.func 79) [] [.var 7 0])] = H1c.fm ∧ T' = (TBc z0 z1 z2 g0 n0 g1 n1 g2 n2 ga kx (hsLaw kx (hsLaw kx (hsLaw kx [0, 0] z0 n0) z1 n1) z2 n2))
        | some .ret => (AExit.ret = .normal ∨ AExit.ret = .exit 0) ∧ [(2, .var 4 0), (4, .var 5 0), (5, .var 6 0), (8, .func (.func 79) [] [.var 7 0])] = H1c.fm ∧ T' = (TBc z0 z1 z2 g0 n0 g1 n1 g2 n2 ga kx (hsLaw kx (hsLaw kx (hsLaw kx [0, 0] z0 n0) z1 n1) z2 n2))
        | _ => False := by
  have hamb : ambIn 8 [(l1, H1c)] := ambIn_one rfl
  have w0 := WpLaw.zero
  have w1 := hs_wp (h := kx) w0 e.pz0 e.pb0
  have w2 := hs_wp (h := kx) w1 e.pz1 e.pb1
  have w3 := hs_wp (h := kx) w2 e.pz2 e.pb2
  rw [splitb79, res79]
  refine YWp.seq (YWp.ofTo (To.of (k := 8) (o := Sac z0 z1 z2 g0 n0 g1 n1 g2 n2 ga kx l1) eGh_ok hmA (Nat.le_refl 8) OrcOk.nil rfl (Sac_ok trivial) Sac_ex Sac_fm Sac_tab) hamb ?_)
  refine YWp.seq (YWp.ofTo (To.base (by decide) (To.of (k := 9) (o := Sbc z0 z1 z2 g0 n0 g1 n1 g2 n2 ga kx l1) eGh_ok hmA (Nat.le_refl 9) OrcOk.nil rfl (Sbc_ok ⟨rfl, trivial⟩) Sbc_ex Sbc_fm Sbc_tab)) hamb ?_)
  refine YWp.block (YWp.loop (fun fm T σ μ => σ = [(.ready, none)] ∧ ((μ = 3 ∧ fm = [(1, .var 7 0), (2, .var 8 0), (6, .slice 1 0 ga 0 3 (some 3)), (7, .int .i64 3), (8, .int .i64 0)] ∧ T = (TPc z0 z1 z2 g0 n0 g1 n1 g2 n2 ga kx [0, 0] l1)) ∨ (μ = 2 ∧ fm = [(1, .var 7 0), (2, .var 8 0), (6, .slice 1 0 ga 0 3 (some 3)), (7, .int .i64 3), (8, .int .i64 1)] ∧ T = (TPc z0 z1 z2 g0 n0 g1 n1 g2 n2 ga kx (hsLaw kx [0, 0] z0 n0) l1)) ∨ (μ = 1 ∧ fm = [(1, .var 7 0), (2, .var 8 0), (6, .slice 1 0 ga 0 3 (some 3)), (7, .int .i64 3), (8, .int .i64 2)] ∧ T = (TPc z0 z1 z2 g0 n0 g1 n1 g2 n2 ga kx (hsLaw kx (hsLaw kx [0, 0] z0 n0) z1 n1) l1)) ∨ (μ = 0 ∧ fm = [(1, .var 7 0), (2, .var 8 0), (6, .slice 1 0 ga 0 3 (some 3)), (7, .int .i64 3), (8, .int .i64 3)] ∧ T = (TPc z0 z1 z2 g0 n0 g1 n1 g2 n2 ga kx (hsLaw kx (hsLaw kx (hsLaw kx [0, 0] z0 n0) z1 n1) z2 n2) l1)))) 3 ⟨rfl, .inl ⟨rfl, rfl, rfl⟩⟩ ?_)
  rintro fm T σ μ ⟨rfl, hI⟩
  rcases hI with ⟨rfl, rfl, rfl⟩ | ⟨rfl, rfl, rfl⟩ | ⟨rfl, rfl, rfl⟩ | ⟨rfl, rfl, rfl⟩
  · refine YWp.mono (roc0 e w0 l1) fun ex fm T σ hP => ?_
    obtain ⟨rfl, rfl, rfl, rfl⟩ := hP
    exact ⟨2, by decide, rfl, .inr (.inl ⟨rfl, rfl, rfl⟩)⟩
  · refine YWp.mono (roc1 e w1 l1) fun ex fm T σ hP => ?_
    obtain ⟨rfl, rfl, rfl, rfl⟩ := hP
    exact ⟨1, by decide, rfl, .inr (.inr (.inl ⟨rfl, rfl, rfl⟩))⟩
  · refine YWp.mono (roc2 e w2 l1) fun ex fm T σ hP => ?_
    obtain ⟨rfl, rfl, rfl, rfl⟩ := hP
    exact ⟨0, by decide, rfl, .inr (.inr (.inr (⟨rfl, rfl, rfl⟩)))⟩
  · rw [split79]
    refine YWp.seq (YWp.ofTo (To.of (k := 8) (o := Hdc3 z0 z1 z2 g0 n0 g1 n1 g2 n2 ga kx (hsLaw kx (hsLaw kx (hsLaw kx [0, 0] z0 n0) z1 n1) z2 n2) l1) eGh_ok hmA (Nat.le_refl 8) OrcOk.nil rfl (Hdc3_ok trivial) Hdc3_ex Hdc3_fm Hdc3_tab) hamb ?_)
    refine YWp.seq ?_
    rw [c79_eq]
    refine YWp.cond (b := false) rfl (fun h => by cases h) (fun _ => YWp.exit hamb ?_)
    exact ⟨.inl rfl, ⟨[], [], rfl, trivial⟩, (.ready, none), _, rfl, by decide, .inl rfl, rfl, rfl⟩
theorem blk63c {z0 z1 z2 : List Int} {g0 n0 g1 n1 g2 n2 ga : Nat} {kx : List Int} (e : Exc z0 z1 z2 g0 n0 g1 n1 g2 n2 ga kx) : To eGh 16 8 (.block 0 rf63) [(2, .var 4 0), (4, .var 5 0), (5, .var 6 0), (8, .func (.func 79) [] [.var 7 0])] (TBc z0 z1 z2 g0 n0 g1 n1 g2 n2 ga kx [0, 0]) .normal [(2, .var 4 0), (4, .var 5 0), (5, .var 6 0), (8, .func (.func 79) [] [.var 7 0])] (TBc z0 z1 z2 g0 n0 g1 n1 g2 n2 ga kx (hsLaw kx (hsLaw kx (hsLaw kx [0, 0] z0 n0) z1 n1) z2 n2)) := by
  refine AWp.block (AWp.ofY ?_)
  rw [rf63_eq]
  refine YWp.mono (YWp.rangeFunc (post := fun ex fm T' σ' => (ex = .normal ∨ ex = .exit 0) ∧ fm = H1c.fm ∧ T' = (TBc z0 z1 z2 g0 n0 g1 n1 g2 n2 ga kx (hsLaw kx (hsLaw kx (hsLaw kx [0, 0] z0 n0) z1 n1) z2 n2))) eGh_ok (gf := 79) (gfn := f79) (c := bodyOf f79) (first := []) (caps := [.var 7 0]) rfl (by kernel_rfl) (by kernel_rfl) (by kernel_rfl) (kk := 8) (Nat.le_refl _) (fmIn_of rfl) (by kernel_rfl) (fun l => outc e l)) fun ex fm T σ hP => ?_
  obtain ⟨h1, rfl, rfl⟩ := hP
  rcases h1 with rfl | rfl
  · exact ⟨rfl, rfl, rfl⟩
  · exact ⟨rfl, rfl, rfl⟩
noncomputable def g63cc (vs : List AVal) (T : Tab) (z0 : List Int) (z1 : List Int) (z2 : List Int) (g0 : Nat) (n0 : Nat) (g1 : Nat) (n1 : Nat) (g2 : Nat) (n2 : Nat) (ga : Nat) (kx : List Int) : Out := ⟨[.tab T [some ⟨.agg [.slice 1 1 g0 0 n0 none, .slice 1 2 g1 0 n1 none, .slice 1 3 g2 0 n2 none], ga, false, 25⟩, some ⟨.ints .u8 z0, g0, false, 5⟩, some ⟨.ints .u8 z1, g1, false, 5⟩, some ⟨.ints .u8 z2, g2, false, 5⟩, some ⟨.ints .u64 kx, 0, true, 65⟩, some ⟨.ints .u64 [0, 0], 0, true, 65⟩, some ⟨.ints .u64 [0, 0], 0, true, 65⟩, some ⟨.agg [.slice 1 0 ga 0 3 (some 3)], 0, true, 81⟩], .val (.tuple vs) (.tuple [.var 4 0, .var 5 0, .var 6 0, .func (.func 79) [] [.var 7 0]]), .leN n0 z0.length, .leN n0 140737488352000, .p (Bytes z0), .leN n1 z1.length, .leN n1 140737488352000, .p (Bytes z1), .leN n2 z2.length, .leN n2 140737488352000, .p (Bytes z2), .p (WpLaw kx)], .normal, [(2, .var 4 0), (4, .var 5 0), (5, .var 6 0), (8, .func (.func 79) [] [.var 7 0])], [some ⟨.agg [.slice 1 1 g0 0 n0 none, .slice 1 2 g1 0 n1 none, .slice 1 3 g2 0 n2 none], ga, false, 25⟩, some ⟨.ints .u8 z0, g0, false, 5⟩, some ⟨.ints .u8 z1, g1, false, 5⟩, some ⟨.ints .u8 z2, g2, false, 5⟩, some ⟨.ints .u64 kx, 0, true, 65⟩, some ⟨.ints .u64 [0, 0], 0, true, 65⟩, some ⟨.ints .u64 (hsLaw kx (hsLaw kx (hsLaw kx [0, 0] z0 n0) z1 n1) z2 n2), 0, true, 65⟩, some ⟨.agg [.slice 1 0 ga 0 3 (some 3)], 0, true, 81⟩], []⟩
theorem g63cc_ok {vs : List AVal} {T : Tab} {z0 : List Int} {z1 : List Int} {z2 : List Int} {g0 : Nat} {n0 : Nat} {g1 : Nat} {n1 : Nat} {g2 : Nat} {n2 : Nat} {ga : Nat} {kx : List Int} (h : Ok (g63cc vs T z0 z1 z2 g0 n0 g1 n1 g2 n2 ga kx)) : To eGh 16 8 (.block 0 rf63) (zipF [2,4,5,8] vs) T (g63cc vs T z0 z1 z2 g0 n0 g1 n1 g2 n2 ga kx).ex (g63cc vs T z0 z1 z2 g0 n0 g1 n1 g2 n2 ga kx).fm (g63cc vs T z0 z1 z2 g0 n0 g1 n1 g2 n2 ga kx).tab := by
  obtain ⟨hT, hv, h1, h2, h3, h4, h5, h6, h7, h8, h9, h10, _⟩ := h.h
  simp only [Con.h] at hT hv h1 h2 h3 h4 h5 h6 h7 h8 h9 h10
  injection hv with hv
  subst hT hv
  exact blk63c ⟨h1, h2, h3, h4, h5, h6, h7, h8, h9, h10⟩
noncomputable def g63c : List AVal → Tab → Out := fun vs T => g63cc vs T (xsAt T 1) (xsAt T 2) (xsAt T 3) (gAt T 1) (lenOf (cAt T 0 0)) (gAt T 2) (lenOf (cAt T 0 1)) (gAt T 3) (lenOf (cAt T 0 2)) (gAt T 0) (xsAt T 4)
theorem g63c_ok : BlkOk eGh f63 0 rf63 (blkS 8 [2,4,5,8] g63c) := blkS_ok fun vs T h => g63cc_ok h
noncomputable def orc63c : OrcL := [(0, blkS 8 [2,4,5,8] g63c)]
theorem orc63c_ok : FnOrc eGh f63 orc63c := FnOrc.cons g63c_ok (by kernel_rfl) FnOrc.nil
noncomputable def R63c (z0 z1 z2 : List Int) (g0 n0 g1 n1 g2 n2 ga : Nat) (kx : List Int) : Res := resG 4 [0, 1, 2, 3] (runF eGh f63 orc63c 400 [.ints .u64 kx, .slice 1 0 ga 0 3 (some 3)] [some ⟨.agg [.slice 1 1 g0 0 n0 none, .slice 1 2 g1 0 n1 none, .slice 1 3 g2 0 n2 none], ga, false, 25⟩, some ⟨.ints .u8 z0, g0, false, 5⟩, some ⟨.ints .u8 z1, g1, false, 5⟩, some ⟨.ints .u8 z2, g2, false, 5⟩] [])
theorem R63c_ok {z0 z1 z2 : List Int} {g0 n0 g1 n1 g2 n2 ga : Nat} {kx : List Int} (h : allP [.eqN ga ga, .eqN g0 g0, .eqN g1 g1, .eqN g2 g2, .leN n0 z0.length, .leN n0 140737488352000, .p (Bytes z0), .leN n1 z1.length, .leN n1 140737488352000, .p (Bytes z1), .leN n2 z2.length, .leN n2 140737488352000, .p (Bytes z2), .p (WpLaw kx), .eqN (hsLaw kx (hsLaw kx (hsLaw kx [0, 0] z0 n0) z1 n1) z2
 n2).length 2, .eqN (hsLaw kx (hsLaw kx (hsLaw kx [0, 0] z0 n0) z1 n1) z2 n2).length 2, .eqN (hsLaw kx (hsLaw kx (hsLaw kx [0, 0] z0 n0) z1 n1) z2 n2).length 2]) : OkR (R63c z0 z1 z2 g0 n0 g1 n1 g2 n2 ga kx) := OkR.dem (fl := bitsF 24 7667712) (by kernel_rfl) (by kernel_rfl) (by kernel_rfl) h
theorem R63c_val {z0 z1 z2 : List Int} {g0 n0 g1 n1 g2 n2 ga : Nat} {kx : List Int} : (R63c z0 z1 z2 g0 n0 g1 n1 g2 n2 ga kx).val = .ints .u64 (hsLaw kx (hsLaw kx (hsLaw kx [0, 0] z0 n0) z1 n1) z2 n2) := by kernel_rfl
theorem R63c_tab {z0 z1 z2 : List Int} {g0 n0 g1 n1 g2 n2 ga : Nat} {kx : List Int} : (R63c z0 z1 z2 g0 n0 g1 n1 g2 n2 ga kx).tab = [some ⟨.agg [.slice 1 1 g0 0 n0 none, .slice 1 2 g1 0 n1 none, .slice 1 3 g2 0 n2 none], ga, false, 25⟩, some ⟨.ints .u8 z0, g0, false, 5⟩, some ⟨.ints .u8 z1, g1, false, 5⟩, some ⟨.ints .u8 z2, g2, false, 5⟩] := by kernel_rfl
noncomputable def sm63cc (args : List AVal) (T : Tab) (z0 : List Int) (z1 : List Int) (z2 : List Int) (g0 : Nat) (n0 : Nat) (g1 : Nat) (n1 : Nat) (g2 : Nat) (n2 : Nat) (ga : Nat) (kx : List Int) : Res := ⟨[.tab T [some ⟨.agg [.slice 1 1 g0 0 n0 none, .slice 1 2 g1 0 n1 none, .slice 1 3 g2 0 n2 none], ga, false, 25⟩, some ⟨.ints .u8 z0, g0, false, 5⟩, some ⟨.ints .u8 z1, g1, false, 5⟩, some ⟨.ints .u8 z2, g2, false, 5⟩], .val (.tuple args) (.tuple [.ints .u64 kx, .slice 1 0 ga 0 3 (some 3)]), .leN n0 z0.length, .leN n0 140737488352000, .p (Bytes z0), .leN n1 z1.length, .leN n1 140737488352000, .p (Bytes z1), .leN n2 z2.length, .leN n2 140737488352000, .p (Bytes z2), .p (WpLaw kx)], .ints .u64 (hsLaw kx (hsLaw kx (hsLaw kx [0, 0] z0 n0) z1 n1) z2 n2), [some ⟨.agg [.slice 1 1 g0 0 n0 none, .slice 1 2 g1 0 n1 none, .slice 1 3 g2 0 n2 none], ga, false, 25⟩, some ⟨.ints .u8 z0, g0, false, 5⟩, some ⟨.ints .u8 z1, g1, false, 5⟩, some ⟨.ints .u8 z2, g2, false, 5⟩]⟩
theorem sm63cc_ok {args : List AVal} {T : Tab} {z0 : List Int} {z1 : List Int} {z2 : List Int} {g0 : Nat} {n0 : Nat} {g1 : Nat} {n1 : Nat} {g2 : Nat} {n2 : Nat} {ga : Nat} {kx : List Int} (h : allP (sm63cc args T z0 z1 z2 g0 n0 g1 n1 g2 n2 ga kx).cs) : Small prog (fun _ => none) 63 args T (sm63cc args T z0 z1 z2 g0 n0 g1 n1 g2 n2 ga kx).val (sm63cc args T z0 z1 z2 g0 n0 g1 n1 g2 n2 ga kx).tab := by
  obtain ⟨hT, hv, h1, h2, h3, h4, h5, h6, h7, h8, h9, h10, _⟩ := h
  simp only [Con.h] at hT hv h1 h2 h3 h4 h5 h6 h7 h8 h9 h10
  injection hv with hv
  subst hT hv
  have w0 := WpLaw.zero
  have w1 := hs_wp (h := kx) w0 h1 h3
  have w2 := hs_wp (h := kx) w1 h4 h6
  have w3 := hs_wp (h := kx) w2 h7 h9
  refine small_ofG (R := R63c z0 z1 z2 g0 n0 g1 n1 g2 n2 ga kx) (keep := [0, 1, 2, 3]) eGh_ok hmA (f := 63) (fn := f63) (by kernel_rfl) (by kernel_rfl) orc63c_ok rfl (R63c_ok ?_) R63c_val R63c_tab
  have hl := w3.len
  have hk := h10.len
  simp only [allP, Con.h, hl, hk, h1, h2, h3, h4, h5, h6, h7, h8, h9, h10, eq_self, true_and, and_true]
noncomputable def sm63c : Summary := fun args T => sm63cc args T (xsAt T 1) (xsAt T 2) (xsAt T 3) (gAt T 1) (lenOf (cAt T 0 0)) (gAt T 2) (lenOf (cAt T 0 1)) (gAt T 3) (lenOf (cAt T 0 2)) (gAt T 0) (xsOf (vAt args 0))
theorem sm63c_ok : SmOk prog (fun _ => none) 63 sm63c := fun args T h => sm63cc_ok h
noncomputable def S63c : Summary := callR sm63c []
theorem S63c_ok : SumOk prog (fun _ => none) 63 S63c := callR_ok sm63c_ok []
end Go.Abs

set_option linter.unusedVariables false
set_option linter.unusedSimpArgs false
set_option maxRecDepth 8000
namespace Go.Abs
open Go.Proofs.Try
/-! ### turn, the whole -/
def tnLaw (K N xs : List Int) : Nat → List Int
  | 0 => xs
  | j + 1 => xkLaw (ctLaw K N (2 + (j : Int))) (tnLaw K N xs j) (16 * j)
def turnLaw (K N xs : List Int) : List Int := tnLaw K N xs ((xs.length + 15) / 16)
theorem tn_len (K N xs : List Int) : ∀ j, (tnLaw K N xs j).length = xs.length
  | 0 => rfl
  | j + 1 => by rw [tnLaw, xkLaw, bx_len, tn_len K N xs j]
theorem tn_bytes {K N xs : List Int} (hk : Bytes K) (hn : Bytes N) (hx : Bytes xs) : ∀ j, Bytes (tnLaw K N xs j)
  | 0 => hx
  | j + 1 => bx_bytes (ct_bytes hk hn _) (tn_bytes hk hn hx j) _ _
theorem turn_len (K N xs : List Int) : (turnLaw K N xs).length = xs.length := tn_len K N xs _
theorem turn_bytes {K N xs : List Int} (hk : Bytes K) (hn : Bytes N) (hx : Bytes xs) : Bytes (turnLaw K N xs) := tn_bytes hk hn hx _
theorem loop54o {zs ns : List Int} {gk gn : Nat} {cpk cpn : Option Nat} {ts : List Int} {gt : Nat} {owt : Bool} {n : Nat} {xs : List Int} (h1 : 16 ≤ zs.length) (h2 : 12 ≤ ns.length) (h3 : Bytes zs) (h4 : Bytes ns) (hn : n = xs.length) (hb : n ≤ 140737488352000) (hx : Bytes xs) : To eGt 45 5 (.block 0 (.loop (roundOf 0 f54))) [(2, .var 3 0), (5, .slice 1 4 1 0 n none), (6, .int .i64 0)] [some ⟨.ints .u8 zs, gk, false, 5⟩, some ⟨.ints .u8 ns, gn, false, 5⟩, some ⟨.ints .u8 ts, gt, owt, 5⟩, some ⟨.agg [.slice 1 0 gk 0 16 cpk, .slice 1 1 gn 0 12 cpn], 0, true, 60⟩, some ⟨.ints .u8 xs, 1, true, 5⟩] .normal [(5, .slice 1 4 1 0 n none)] [some ⟨.ints .u8 zs, gk, false, 5⟩, some ⟨.ints .u8 ns, gn, false, 5⟩, some ⟨.ints .u8 ts, gt, owt, 5⟩, some ⟨.agg [.slice 1 0 gk 0 16 cpk, .slice 1 1 gn 0 12 cpn], 0, true, 60⟩, some ⟨.ints .u8 (turnLaw (subLaw zs 0 16) (subLaw ns 0 12) xs), 1, true, 5⟩] := by
  have b1 := sub_bytes h3 0 16
  have b2 := sub_bytes h4 0 12
  unfold turnLaw
  refine To.rounds (fun j : Nat => [(2, .var 3 0), (5, .slice 1 4 1 0 n none), (6, .int .i64 ((16 * j : Nat) : Int))]) (fun j => [some ⟨.ints .u8 zs, gk, false, 5⟩, some ⟨.ints .u8 ns, gn, false, 5⟩, some ⟨.ints .u8 ts, gt, owt, 5⟩, some ⟨.agg [.slice 1 0 gk 0 16 cpk, .slice 1 1 gn 0 12 cpn], 0, true, 60⟩, some ⟨.ints .u8 (tnLaw (subLaw zs 0 16) (subLaw ns 0 12) xs j), 1, true, 5⟩]) ((xs.length + 15) / 16) (fun j hj => ?_) (To.of (o := E54 zs ns gk gn cpk cpn ts gt owt n (tnLaw (subLaw zs 0 16) (subLaw ns 0 12) xs ((xs.length + 15) / 16)) ((16 * ((xs.length + 15) / 16) : Nat) : Int)) eGt_ok hmA (Nat.le_refl 5) OrcOk.nil rfl (E54_ok ?_) E54_ex E54_fm E54_tab)
  · have e1 : ((16 * j : Nat) : Int).tdiv 16 = (j : Int) := by rw [Int.tdiv_eq_ediv_of_nonneg (by omega)]; omega
    have hl := tn_len (subLaw zs 0 16) (subLaw ns 0 12) xs j
    have hbb := tn_bytes b1 b2 hx j
    have hcb := ct_bytes b1 b2 (2 + (j : Int))
    have e2 : ((16 * j : Nat) : Int) = (((16 * j : Nat) : Int).toNat : Int) := by omega
    refine To.of (o := O54 zs ns gk gn cpk cpn ts gt owt n (tnLaw (subLaw zs 0 16) (subLaw ns 0 12) xs j) ((16 * j : Nat) : Int)) eGt_ok hmA (Nat.le_refl 5) (OrcOk.cons (fn := f54) g54i_ok (by kernel_rfl) OrcOk.nil) rfl (O54_ok ?_) O54_ex ?_ ?_
    · rw [e1]
      simp only [allP, Con.h, h1, h2, h3, h4, hl, hbb, hcb, Int.toNat_natCast, decide_eq_true_eq, eq_self, true_and, and_true]
      omega
    · rw [O54_fm, show ((16 * j : Nat) : Int) + 16 = ((16 * (j + 1) : Nat) : Int) by omega]
    · rw [O54_tab, e1, Int.toNat_natCast]; rfl
  · simp only [allP, Con.h, decide_eq_false_iff_not, and_true]
    omega
noncomputable def g54c (vs : List AVal) (T : Tab) (zs : List Int) (ns : List Int) (gk : Nat) (gn : Nat) (cpk : Option Nat) (cpn : Option Nat) (ts : List Int) (gt : Nat) (owt : Bool) (n : Nat) (xs : List Int) : Out := ⟨[.tab T [some ⟨.ints .u8 zs, gk, false, 5⟩, some ⟨.ints .u8 ns, gn, false, 5⟩, some ⟨.ints .u8 ts, gt, owt, 5⟩, some ⟨.agg [.slice 1 0 gk 0 16 cpk, .slice 1 1 gn 0 12 cpn], 0, true, 60⟩, some ⟨.ints .u8 xs, 1, true, 5⟩], .val (.tuple vs) (.tuple [.var 3 0, .slice 1 4 1 0 n none, .int .i64 0]), .leN 16 zs.length, .leN 12 ns.length, .p (Bytes zs), .p (Bytes ns), .eqN n xs.length, .leN n 140737488352000, .p (Bytes xs)], .normal, [(5, .slice 1 4 1 0 n none)], [some ⟨.ints .u8 zs, gk, false, 5⟩, some ⟨.ints .u8 ns, gn, false, 5⟩, some ⟨.ints .u8 ts, gt, owt, 5⟩, some ⟨.agg [.slice 1 0 gk 0 16 cpk, .slice 1 1 gn 0 12 cpn], 0, true, 60⟩, some ⟨.ints .u8 (turnLaw (subLaw zs 0 16) (subLaw ns 0 12) xs), 1, true, 5⟩], []⟩
theorem g54c_ok {vs : List AVal} {T : Tab} {zs : List Int} {ns : List Int} {gk : Nat} {gn : Nat} {cpk : Option Nat} {cpn : Option Nat} {ts : List Int} {gt : Nat} {owt : Bool} {n : Nat} {xs : List Int} (h : Ok (g54c vs T zs ns gk gn cpk cpn ts gt owt n xs)) : To eGt 45 5 (.block 0 (.loop (roundOf 0 f54))) (zipF [2,5,6] vs) T (g54c vs T zs ns gk gn cpk cpn ts gt owt n xs).ex (g54c vs T zs ns gk gn cpk cpn ts gt owt n xs).fm (g54c vs T zs ns gk gn cpk cpn ts gt owt n xs).tab := by
  obtain ⟨hT, hv, h1, h2, h3, h4, h5, h6, h7, _⟩ := h.h
  simp only [Con.h] at hT hv h1 h2 h3 h4 h5 h6 h7
  injection hv with hv
  subst hT hv
  exact loop54o h1 h2 h3 h4 h5 h6 h7
noncomputable def g54 : List AVal → Tab → Out := fun vs T => g54c vs T (xsAt T 0) (xsAt T 1) (gAt T 0) (gAt T 1) (capOf (cAt T 3 0)) (capOf (cAt T 3 1)) (xsAt T 2) (gAt T 2) (owAt T 2) (lenOf (vAt vs 1)) (xsAt T 4)
theorem g54_ok : BlkOk eGt f54 0 (.loop (roundOf 0 f54)) (blkS 5 [2,5,6] g54) := blkS_ok fun vs T h => g54c_ok h
noncomputable def orc54 : OrcL := [(0, blkS 5 [2,5,6] g54)]
theorem orc54_ok : FnOrc eGt f54 orc54 := FnOrc.cons g54_ok (by kernel_rfl) FnOrc.nil
noncomputable def R54 (zs ns : List Int) (gk gn : Nat) (cpk cpn : Option Nat) (ts : List Int) (gt : Nat) (owt : Bool) (n : Nat) (cp : Option Nat) : Res := resG 3 [0,1,2,4] (runF eGt f54 orc54 400 [.agg [.slice 1 0 gk 0 16 cpk, .slice 1 1 gn 0 12 cpn], .slice 1 2 gt 0 n cp] [some ⟨.ints .u8 zs, gk, false, 5⟩, some ⟨.ints .u8 ns, gn, false, 5⟩, some ⟨.ints .u8 ts, gt, owt, 5⟩] [])
theorem R54_ok {zs ns : List Int} {gk gn : Nat} {cpk cpn : Option Nat} {ts : List Int} {gt : Nat} {owt : Bool} {n : Nat} {cp : Option Nat} (h : allP [.eqN gt gt, .leN (0 + n) ts.length, .leN n 140737488355000, .leN 16 zs.length, .leN 12 ns.length, .p (Bytes zs), .p (Bytes ns), .eqN n (subLaw ts 0 n).length, .leN n 140737488352000, .p (Bytes (subLaw ts 0 n))]) : OkR (R54 zs ns gk gn cpk cpn ts gt
 owt n cp) := OkR.dem (fl := bitsF 14 0) (by kernel_rfl) (by kernel_rfl) (by kernel_rfl) h
theorem R54_val {zs ns : List Int} {gk gn : Nat} {cpk cpn : Option Nat} {ts : List Int} {gt : Nat} {owt : Bool} {n : Nat} {cp : Option Nat} : (R54 zs ns gk gn cpk cpn ts gt owt n cp).val = .slice 1 3 1 0 n none := by kernel_rfl
theorem R54_tab {zs ns : List Int} {gk gn : Nat} {cpk cpn : Option Nat} {ts : List Int} {gt : Nat} {owt : Bool} {n : Nat} {cp : Option Nat} : (R54 zs ns gk gn cpk cpn ts gt owt n cp).tab = [some ⟨.ints .u8 zs, gk, false, 5⟩, some ⟨.ints .u8 ns, gn, false, 5⟩, some ⟨.ints .u8 ts, gt, owt, 5⟩, some ⟨.ints .u8 (turnLaw (subLaw zs 0 16) (subLaw ns 0 12) (subLaw ts 0 n)), 1, true, 5⟩] := by kernel_rfl
noncomputable def sm54c (args : List AVal) (T : Tab) (zs : List Int) (ns : List Int) (gk : Nat) (gn : Nat) (cpk : Option Nat) (cpn : Option Nat) (ts : List Int) (gt : Nat) (owt : Bool) (n : Nat) (cp : Option Nat) : Res := ⟨[.tab T [some ⟨.ints .u8 zs, gk, false, 5⟩, some ⟨.ints .u8 ns, gn, false, 5⟩, some ⟨.ints .u8 ts, gt, owt, 5⟩], .val (.tuple args) (.tuple [.agg [.slice 1 0 gk 0 16 cpk, .slice 1 1 gn 0 12 cpn], .slice 1 2 gt 0 n cp]), .leN 16 zs.length, .leN 12 ns.length, .p (Bytes zs), .p (Bytes ns), .leN n ts.length, .leN n 140737488352000, .p (Bytes ts)], .slice 1 3 1 0 n none, [some ⟨.ints .u8 zs, gk, false, 5⟩, some ⟨.ints .u8 ns, gn, false, 5⟩, some ⟨.ints .u8 ts, gt, owt, 5⟩, some ⟨.ints .u8 (turnLaw (subLaw zs 0 16) (subLaw ns 0 12) (subLaw ts 0 n)), 1, true, 5⟩]⟩
theorem sm54c_ok {args : List AVal} {T : Tab} {zs : List Int} {ns : List Int} {gk : Nat} {gn : Nat} {cpk : Option Nat} {cpn : Option Nat} {ts : List Int} {gt : Nat} {owt : Bool} {n : Nat} {cp : Option Nat} (h : allP (sm54c args T zs ns gk gn cpk cpn ts gt owt n cp).cs) : Small prog (fun _ => none) 54 args T (sm54c args T zs ns gk gn cpk cpn ts gt owt n cp).val (sm54c args T zs ns gk gn cpk cpn ts gt owt n cp).tab := by
  obtain ⟨hT, hv, h1, h2, h3, h4, h5, h6, h7, _⟩ := h
  simp only [Con.h] at hT hv h1 h2 h3 h4 h5 h6 h7
  injection hv with hv
  subst hT hv
  have l1 : (subLaw ts 0 n).length = n := subLaw_len (by omega)
  have b1 := sub_bytes h7 0 n
  refine small_ofG (R := R54 zs ns gk gn cpk cpn ts gt owt n cp) (keep := [0,1,2,4]) eGt_ok hmA (f := 54) (fn := f54) (by kernel_rfl) (by kernel_rfl) orc54_ok rfl (R54_ok ?_) R54_val R54_tab
  simp only [allP, Con.h, l1, b1, h1, h2, h3, h4, h5, h6, Nat.zero_add, eq_self, true_and, and_true]
  try omega
noncomputable def sm54 : Summary := fun args T => sm54c args T (xsAt T 0) (xsAt T 1) (gAt T 0) (gAt T 1) (capOf (vAt (vsOf (vAt args 0)) 0)) (capOf (vAt (vsOf (vAt args 0)) 1)) (xsAt T 2) (gAt T 2) (owAt T 2) (lenOf (vAt args 1)) (capOf (vAt args 1))
theorem sm54_ok : SmOk prog (fun _ => none) 54 sm54 := fun args T h => sm54c_ok h
noncomputable def S54 : Summary := callR sm54 []
theorem S54_ok : SumOk prog (fun _ => none) 54 S54 := callR_ok sm54_ok []
/-! ### tag -/
noncomputable def S72 : Summary := sumI modeO (eA []) f72 [] 100 [] []
theorem S72_ok : SumOk prog (fun _ => none) 72 S72 := sumI_ok eA0_ok hmA (fn := f72) (by kernel_rfl) (by kernel_rfl) [] FnOrc.nil 100 [] []
noncomputable def eGg : Env := eA [(23, S23), (59, S59), (61, S61), (63, S63c), (71, S71), (72, S72), (73, S73)]
theorem eGg_ok : EnvOk eGg := envOf_ok tysA_ok (SumsOk.cons (fn := f23) S23_ok (by kernel_rfl) (by kernel_rfl) (by kernel_rfl) (SumsOk.cons (fn := f59) S59_ok (by kernel_rfl) (by kernel_rfl) (by kernel_rfl) (SumsOk.cons (fn := f61) S61_ok (by kernel_rfl) (by kernel_rfl) (by kernel_rfl) (SumsOk.cons (fn := f63) S63c_ok (by kernel_rfl) (by kernel_rfl) (by kernel_rfl) (SumsOk.cons (fn := f71) S71_ok (by kernel_rfl) (by kernel_rfl) (by kernel_rfl) (SumsOk.cons (fn := f72) S72_ok (by kernel_rfl) (by kernel_rfl) (by kernel_rfl) (SumsOk.cons (fn := f73) S73_ok (by kernel_rfl) (by kernel_rfl) (by kernel_rfl) trivial)))))))
noncomputable def R55 (zs ns : List Int) (gk gn : Nat) (cpk cpn : Option Nat) (ms ts : List Int) (gm gt n m : Nat) : Res := resG 4 [0,1,2,3,11] (runF eGg f55 [] 400 [.agg [.slice 1 0 gk 0 16 cpk, .slice 1 1 gn 0 12 cpn], .slice 1 2 gm 0 m none, .slice 1 3 gt 0 n none] [some ⟨.ints .u8 zs, gk, false, 5⟩, some ⟨.ints .u8 ns, gn, false, 5⟩, some ⟨.ints .u8 ms, gm, false, 5⟩, some ⟨.ints .u8 ts, gt, false, 5⟩] [])
theorem R55_ok {zs ns : List Int} {gk gn : Nat} {cpk cpn : Option Nat} {ms ts : List Int} {gm gt n m : Nat} (h : allP [.eqN gk gk, .eqN gk gk, .leN 16 zs.length, .p (Bytes (subLaw zs 0 16)), .p (Bytes (subLaw [0, 0, 0, 0, 0, 0, 0, 0, 0, 0, 0, 0, 0, 0, 0, 0] 0 16)), .eqN gm gm, .eqN gm gm, .rng 0 (↑m : Int) 18446744073709551615, .eqN gt gt, .eqN gt gt, .rng 0 (↑n : Int) 18446744073709551615, .p
 (Bytes (blockLaw (ksLaw (subLaw zs 0 16) 176) (subLaw [0, 0, 0, 0, 0, 0, 0, 0, 0, 0, 0, 0, 0, 0, 0, 0] 0 16))), .p (WpLaw [8 * (↑m : Int) % 18446744073709551616, 8 * (↑n : Int) % 18446744073709551616]), .eqN gm gm, .eqN gt gt, .leN m ms.length, .leN m 140737488352000, .p (Bytes ms), .leN n ts.length, .leN n 140737488352000, .p (Bytes ts), .p (Bytes (ptLaw [8 * (↑m : Int) % 18446744073709551616, 8 *
 (↑n : Int) % 18446744073709551616])), .p (WpLaw (gwLaw (subLaw (blockLaw (ksLaw (subLaw zs 0 16) 176) (subLaw [0, 0, 0, 0, 0, 0, 0, 0, 0, 0, 0, 0, 0, 0, 0, 0] 0 16)) 0 16))), .eqN gk gk, .eqN gn gn, .leN 16 zs.length, .leN 12 ns.length, .p (Bytes zs), .p (Bytes ns), .p (Bytes (ctLaw (subLaw zs 0 16) (subLaw ns 0 12) (OfNat.ofNat 1))), .p (WpLaw (hsLaw (gwLaw (subLaw (blockLaw (ksLaw (subLaw zs 0
 16) 176) (subLaw [0, 0, 0, 0, 0, 0, 0, 0, 0, 0, 0, 0, 0, 0, 0, 0] 0 16)) 0 16)) (hsLaw (gwLaw (subLaw (blockLaw (ksLaw (subLaw zs 0 16) 176) (subLaw [0, 0, 0, 0, 0, 0, 0, 0, 0, 0, 0, 0, 0, 0, 0, 0] 0 16)) 0 16)) (hsLaw (gwLaw (subLaw (blockLaw (ksLaw (subLaw zs 0 16) 176) (subLaw [0, 0, 0, 0, 0, 0, 0, 0, 0, 0, 0, 0, 0, 0, 0, 0] 0 16)) 0 16)) [0, 0] ms m) ts n) (ptLaw [8 * (↑m : Int) %
 18446744073709551616, 8 * (↑n : Int) % 18446744073709551616]) 16)), .p (WpLaw (gwLaw (subLaw (ctLaw (subLaw zs 0 16) (subLaw ns 0 12) (OfNat.ofNat 1)) 0 16))), .p (WpLaw (xwLaw (hsLaw (gwLaw (subLaw (blockLaw (ksLaw (subLaw zs 0 16) 176) (subLaw [0, 0, 0, 0, 0, 0, 0, 0, 0, 0, 0, 0, 0, 0, 0, 0] 0 16)) 0 16)) (hsLaw (gwLaw (subLaw (blockLaw (ksLaw (subLaw zs 0 16) 176) (subLaw [0, 0, 0, 0, 0, 0, 0,
 0, 0, 0, 0, 0, 0, 0, 0, 0] 0 16)) 0 16)) (hsLaw (gwLaw (subLaw (blockLaw (ksLaw (subLaw zs 0 16) 176) (subLaw [0, 0, 0, 0, 0, 0, 0, 0, 0, 0, 0, 0, 0, 0, 0, 0] 0 16)) 0 16)) [0, 0] ms m) ts n) (ptLaw [8 * (↑m : Int) % 18446744073709551616, 8 * (↑n : Int) % 18446744073709551616]) 16) (gwLaw (subLaw (ctLaw (subLaw zs 0 16) (subLaw ns 0 12) (OfNat.ofNat 1)) 0 16))))]) : OkR (R55 zs ns gk gn cpk cpn ms
 ts gm gt n m) := OkR.dem (fl := bitsF 115 26145559319512187383476048123134) (by kernel_rfl) (by kernel_rfl) (by kernel_rfl) h
theorem R55_val {zs ns : List Int} {gk gn : Nat} {cpk cpn : Option Nat} {ms ts : List Int} {gm gt n m : Nat} : (R55 zs ns gk gn cpk cpn ms ts gm gt n m).val = .slice 1 4 15 0 16 none := by kernel_rfl
theorem R55_tab {zs ns : List Int} {gk gn : Nat} {cpk cpn : Option Nat} {ms ts : List Int} {gm gt n m : Nat} : (R55 zs ns gk gn cpk cpn ms ts gm gt n m).tab = [some ⟨.ints .u8 zs, gk, false, 5⟩, some ⟨.ints .u8 ns, gn, false, 5⟩, some ⟨.ints .u8 ms, gm, false, 5⟩, some ⟨.ints .u8 ts, gt, false, 5⟩, some ⟨.ints .u8 (ptLaw (xwLaw (hsLaw (gwLaw (subLaw (blockLaw (ksLaw (subLaw zs 0 16) 176) (subLaw
 [0, 0, 0, 0, 0, 0, 0, 0, 0, 0, 0, 0, 0, 0, 0, 0] 0 16)) 0 16)) (hsLaw (gwLaw (subLaw (blockLaw (ksLaw (subLaw zs 0 16) 176) (subLaw [0, 0, 0, 0, 0, 0, 0, 0, 0, 0, 0, 0, 0, 0, 0, 0] 0 16)) 0 16)) (hsLaw (gwLaw (subLaw (blockLaw (ksLaw (subLaw zs 0 16) 176) (subLaw [0, 0, 0, 0, 0, 0, 0, 0, 0, 0, 0, 0, 0, 0, 0, 0] 0 16)) 0 16)) [0, 0] ms m) ts n) (ptLaw [8 * (↑m : Int) % 18446744073709551616, 8 * (↑n
 : Int) % 18446744073709551616]) 16) (gwLaw (subLaw (ctLaw (subLaw zs 0 16) (subLaw ns 0 12) (OfNat.ofNat 1)) 0 16)))), 15, true, 5⟩] := by kernel_rfl
end Go.Abs

set_option linter.unusedVariables false
set_option linter.unusedSimpArgs false
set_option maxRecDepth 8000
namespace Go.Abs
open Go.Proofs.Try
/-! ### tag -/
def zLaw16 : List Int := List.replicate 16 0
def hkLaw (K : List Int) : List Int := gwLaw (blockLaw (ksLaw K 176) zLaw16)
def lenLaw (m n : Nat) : List Int := [8 * (m : Int) % 18446744073709551616, 8 * (n : Int) % 18446744073709551616]
def tagLaw (K N M : List Int) (m : Nat) (X : List Int) (n : Nat) : List Int := ptLaw (xwLaw (hsLaw (hkLaw K) (hsLaw (hkLaw K) (hsLaw (hkLaw K) [0, 0] M m) X n) (ptLaw (lenLaw m n)) 16) (gwLaw (ctLaw K N 1)))
theorem WpLaw.mk {a b : Int} (ha : 0 ≤ a ∧ a < 18446744073709551616) (hb : 0 ≤ b ∧ b < 18446744073709551616) : WpLaw [a, b] := by
  refine ⟨a.toNat * 2 ^ 64 + b.toNat, by omega, ?_⟩
  unfold wN
  rw [Nat.shiftRight_eq_div_pow]
  congr 1
  · omega
  · congr 1; omega
theorem len_wp (m n : Nat) : WpLaw (lenLaw m n) := .mk (by omega) (by omega)
theorem z16_bytes : Bytes zLaw16 := Bytes.zer 16
theorem hk_wp {K : List Int} (h : Bytes K) : WpLaw (hkLaw K) := .gw (enc_bytes (ksLaw_bytes h 176) z16_bytes 10) rfl
theorem tag_bytes (K N M : List Int) (m : Nat) (X : List Int) (n : Nat) : Bytes (tagLaw K N M m X n) := pt_bytes _
theorem tag_len (K N M : List Int) (m : Nat) (X : List Int) (n : Nat) : (tagLaw K N M m X n).length = 16 := rfl
noncomputable def sm55c (args : List AVal) (T : Tab) (zs : List Int) (ns : List Int) (gk : Nat) (gn : Nat) (cpk : Option Nat) (cpn : Option Nat) (ms : List Int) (ts : List Int) (gm : Nat) (gt : Nat) (n : Nat) (m : Nat) : Res := ⟨[.tab T [some ⟨.ints .u8 zs, gk, false, 5⟩, some ⟨.ints .u8 ns, gn, false, 5⟩, some ⟨.ints .u8 ms, gm, false, 5⟩, some ⟨.ints .u8 ts, gt, false, 5⟩], .val (.tuple args) (.tuple [.agg [.slice 1 0 gk 0 16 cpk, .slice 1 1 gn 0 12 cpn], .slice 1 2 gm 0 m none, .slice 1 3 gt 0 n none]), .leN 16 zs.length, .leN 12 ns.length, .p (Bytes zs), .p (Bytes ns), .leN m ms.length, .leN m 140737488352000, .p (Bytes ms), .leN n ts.length, .leN n 140737488352000, .p (Bytes ts)], .slice 1 4 15 0 16 none, [some ⟨.ints .u8 zs, gk, false, 5⟩, some ⟨.ints .u8 ns, gn, false, 5⟩, some ⟨.ints .u8 ms, gm, false, 5⟩, some ⟨.ints .u8 ts, gt, false, 5⟩, some ⟨.ints .u8 (tagLaw (subLaw zs 0 16) (subLaw ns 0 12) ms m ts n), 15, true, 5⟩]⟩
theorem sm55c_ok {args : List AVal} {T : Tab} {zs : List Int} {ns : List Int} {gk : Nat} {gn : Nat} {cpk : Option Nat} {cpn : Option Nat} {ms : List Int} {ts : List Int} {gm : Nat} {gt : Nat} {n : Nat} {m : Nat} (h : allP (sm55c args T zs ns gk gn cpk cpn ms ts gm gt n m).cs) : Small prog (fun _ => none) 55 args T (sm55c args T zs ns gk gn cpk cpn ms ts gm gt n m).val (sm55c args T zs ns gk gn cpk cpn ms ts gm gt n m).tab := by
  obtain ⟨hT, hv, h1, h2, h3, h4, h5, h6, h7, h8, h9, h10, _⟩ := h
  simp only [Con.h] at hT hv h1 h2 h3 h4 h5 h6 h7 h8 h9 h10
  injection hv with hv
  subst hT hv
  have b1 := sub_bytes h3 0 16
  have b2 := sub_bytes h4 0 12
  have e1 : subLaw [0, 0, 0, 0, 0, 0, 0, 0, 0, 0, 0, 0, 0, 0, 0, 0] 0 16 = zLaw16 := rfl
  have e2 : subLaw (blockLaw (ksLaw (subLaw zs 0 16) 176) zLaw16) 0 16 = blockLaw (ksLaw (subLaw zs 0 16) 176) zLaw16 := sub_n rfl
  have e3 : subLaw (ctLaw (subLaw zs 0 16) (subLaw ns 0 12) 1) 0 16 = ctLaw (subLaw zs 0 16) (subLaw ns 0 12) 1 := sub_n rfl
  have e4 : [8 * (m : Int) % 18446744073709551616, 8 * (n : Int) % 18446744073709551616] = lenLaw m n := rfl
  have e5 : gwLaw (blockLaw (ksLaw (subLaw zs 0 16) 176) zLaw16) = hkLaw (subLaw zs 0 16) := rfl
  have c1 := enc_bytes (ksLaw_bytes b1 176) z16_bytes 10
  have c2 : Bytes (blockLaw (ksLaw (subLaw zs 0 16) 176) zLaw16) := c1
  have c3 := ct_bytes b1 b2 1
  have w0 := WpLaw.zero
  have wk := hk_wp b1
  have w1 := hs_wp (h := hkLaw (subLaw zs 0 16)) w0 h5 h7
  have w2 := hs_wp (h := hkLaw (subLaw zs 0 16)) w1 h8 h10
  have pb := pt_bytes (lenLaw m n)
  have pl := pt_len (lenLaw m n)
  have w3 := hs_wp (h := hkLaw (subLaw zs 0 16)) w2 (z := ptLaw (lenLaw m n)) (n := 16) (by omega) pb
  have w4 : WpLaw (gwLaw (ctLaw (subLaw zs 0 16) (subLaw ns 0 12) 1)) := .gw c3 rfl
  have w5 := w3.xw w4
  have lw := len_wp m n
  have k1 : (1 : Int) = OfNat.ofNat 1 := rfl
  refine small_ofG (R := R55 zs ns gk gn cpk cpn ms ts gm gt n m) (keep := [0,1,2,3,11]) eGg_ok hmA (f := 55) (fn := f55) (by kernel_rfl) (by kernel_rfl) FnOrc.nil rfl (R55_ok ?_) R55_val (by rw [R55_tab]; simp only [e1, e2, e3, e4, e5]; rfl)
  simp only [allP, Con.h, e1, e2, e3, e4, e5, c2, c3, wk, w3, w4, w5, lw, pb, pl, h1, h2, h3, h4, h5, h6, h7, h8, h9, h10, b1, z16_bytes, eq_self, true_and, and_true]
  first | omega | exact ⟨by omega, by omega, by decide, by decide⟩ | skip
noncomputable def sm55 : Summary := fun args T => sm55c args T (xsAt T 0) (xsAt T 1) (gAt T 0) (gAt T 1) (capOf (vAt (vsOf (vAt args 0)) 0)) (capOf (vAt (vsOf (vAt args 0)) 1)) (xsAt T 2) (xsAt T 3) (gAt T 2) (gAt T 3) (lenOf (vAt args 2)) (lenOf (vAt args 1))
theorem sm55_ok : SmOk prog (fun _ => none) 55 sm55 := fun args T h => sm55c_ok h
noncomputable def S55 : Summary := callR sm55 []
theorem S55_ok : SumOk prog (fun _ => none) 55 S55 := callR_ok sm55_ok []
end Go.Abs

set_option linter.unusedVariables false
set_option linter.unusedSimpArgs false
set_option maxRecDepth 8000
namespace Go.Abs
open Go.Proofs.Try
structure Exa (z0 : List Int) (g0 n0 ga : Nat) (kx : List Int) : Prop where
  pz0 : n0 ≤ z0.length
  pm0 : n0 ≤ 140737488352000
  pb0 : Bytes z0
  pk : WpLaw kx
noncomputable def H1a : Host := ⟨#[9], as63, bd63, [(2, .var 2 0), (4, .var 3 0), (5, .var 4 0), (8, .func (.func 79) [] [.var 5 0])], 16⟩
noncomputable def H2a0 (z0 : List Int) (g0 n0 ga : Nat) (kx : List Int) : Host := ⟨#[14], as79, bd79, [(1, .var 5 0), (2, .var 6 0), (6, .slice 1 0 ga 0 1 (some 1)), (7, .int .i64 1), (8, .int .i64 0), (13, .func (.func 81) [] [.var 7 0, .var 8 0])], 30⟩
theorem amba0 (z0 : List Int) (g0 n0 ga : Nat) (kx : List Int) (l1 l2 : Nat) : ambIn 9 [(l2, H2a0 z0 g0 n0 ga kx), (l1, H1a)] := fun x hx => by
  rcases List.mem_cons.1 hx with rfl | hx
  · exact fmIn_of rfl
  · exact ambIn_one rfl x hx
theorem ambMa0 (z0 : List Int) (g0 n0 ga : Nat) (kx : List Int) (l1 l2 : Nat) : ambIn 10 [(l2, H2a0 z0 g0 n0 ga kx), (l1, H1a)] := fun x hx => by
  rcases List.mem_cons.1 hx with rfl | hx
  · exact fmIn_of rfl
  · exact ambIn_one rfl x hx
theorem chfa0 {z0 : List Int} {g0 n0 ga : Nat} {kx : List Int} (e : Exa z0 g0 n0 ga kx) {y : List Int} (hy : WpLaw y) (l1 l2 : Nat) {j : Nat} (hj : 16 * j + 16 ≤ n0) :
    YWp eGh 30 9 [(l2, H2a0 z0 g0 n0 ga kx), (l1, H1a)] bd79 [(2, .var 6 0), (5, .slice 1 1 g0 (16 * j) 16 (some 16))] (TNa0 z0 g0 n0 ga kx y l1) [(.busy, none), (.ready, none)] fun ex fm T σ => ex = .normal ∧ T = ((TNa0 z0 g0 n0 ga kx (mwLaw (xwLaw y (gwLaw (ckLaw z0 n0 j))) kx) l1) : Tab) ∧ σ = [(.busy, none), (.ready, none)] := by
  have hamb := amba0 z0 g0 n0 ga kx l1 l2
  have hambM := ambMa0 z0 g0 n0 ga kx l1 l2
  have hz := e.pz0
  have hbz := e.pb0
  have hcl := ck_len hz j
  have hcb := ck_bytes hbz n0 j
  have eb : (subLaw z0 (addO (16 * j) 0) 16) = (ckLaw z0 n0 j) := by rw [addO_eq, Nat.add_zero, ck_full hj]
  have hw : WpLaw (gwLaw (subLaw z0 (addO (16 * j) 0) 16)) := by rw [eb]; exact .gw hcb hcl
  rw [bd79_eq]
  refine YWp.block (YWp.seq (YWp.yieldDrawn eGh_ok hmA (l1 := ops79.toList.take 12) (oy := ops79.toList.getD 12 default) (o2 := ops79.toList.getD 13 default) (by kernel_rfl) (ds1 := [some true]) (o1 := Dfa0 z0 g0 n0 ga kx y l1 l2 (16 * j)) (by kernel_rfl) (by kernel_rfl) (by kernel_rfl) (by kernel_rfl) (by kernel_rfl) (by kernel_rfl) (Dfa0_ok ?_) (f := .tmp 15) (x := .tmp 26) (t := 27) (c := theCall (ops79.toList.getD 12 default)) (by kernel_rfl) (by kernel_rfl) (by kernel_rfl) (by kernel_rfl) (by kernel_rfl) (by kernel_rfl) (by decide) (i := 1) (l := l1) (H := H1a) (by rw [Dfa0_fm]; rfl) (v := .ints .u64 (gwLaw (subLaw z0 (addO (16 * j) 0) 16))) (by rw [Dfa0_fm]; rfl) rfl rfl (p := 9) rfl (by decide) (kk := 9) (by decide) (by rw [Dfa0_fm]; exact fmIn_of rfl) hamb ?_))
  · simp only [allP, Con.h, addO_eq, Nat.add_zero, hbz, eq_self, true_and, and_true]
    omega
  rw [Dfa0_tab]
  refine YWp.ofTo (To.of (o := A6fa0 z0 g0 n0 ga kx y l1 (gwLaw (subLaw z0 (addO (16 * j) 0) 16))) eGh_ok hmA (Nat.le_refl 9) OrcOk.nil rfl (A6fa0_ok ⟨hw.len, trivial⟩) A6fa0_ex A6fa0_fm A6fa0_tab) hamb ⟨rfl, rfl, ?_⟩
  refine YWp.ofTo (To.of (o := B6fa0 z0 g0 n0 ga kx y l1 (gwLaw (subLaw z0 (addO (16 * j) 0) 16))) eGh_ok hmA (Nat.le_refl 9) OrcOk.nil rfl (B6fa0_ok ?_) B6fa0_ex B6fa0_fm B6fa0_tab) hamb ⟨by decide, [], Nta0 z0 g0 n0 ga kx (mwLaw (xwLaw y (gwLaw (subLaw z0 (addO (16 * j) 0) 16))) kx) l1 _, rfl, Nta0_ok trivial, ?_⟩
  · have h1 := hy.len
    have h2 := hw.len
    have h3 := e.pk.len
    have h4 := hy.xw hw
    simp only [allP, Con.h, h1, h2, h3, h4, hy, hw, e.pk, and_true, true_and]
  rw [Nta0_fm, Nta0_tab, eb]
  show YWp eGh 30 9 [(l2, H2a0 z0 g0 n0 ga kx), (l1, H1a)] cnd79 _ _ _ _
  rw [cnd79_eq]
  exact YWp.cond (b := false) rfl (fun h => by cases h) (fun _ => YWp.skip hamb ⟨rfl, rfl, rfl⟩)
theorem chpa0 {z0 : List Int} {g0 n0 ga : Nat} {kx : List Int} (e : Exa z0 g0 n0 ga kx) {y : List Int} (hy : WpLaw y) (l1 l2 : Nat) {j r : Nat} (hr : r < 16) (hj : 16 * j + r = n0) :
    YWp eGh 30 9 [(l2, H2a0 z0 g0 n0 ga kx), (l1, H1a)] bd79 [(2, .var 6 0), (5, .slice 1 1 g0 (16 * j) r (some r))] (TNa0 z0 g0 n0 ga kx y l1) [(.busy, none), (.ready, none)] fun ex fm T σ => ex = .normal ∧ T = ((TNa0 z0 g0 n0 ga kx (mwLaw (xwLaw y (gwLaw (ckLaw z0 n0 j))) kx) l1) : Tab) ∧ σ = [(.busy, none), (.ready, none)] := by
  have hamb := amba0 z0 g0 n0 ga kx l1 l2
  have hambM := ambMa0 z0 g0 n0 ga kx l1 l2
  have hz := e.pz0
  have hbz := e.pb0
  have hcl := ck_len hz j
  have hcb := ck_bytes hbz n0 j
  have ex0 : (List.take r (dropO (addO (16 * j) 0) z0) ++ List.replicate (16 - (r : Int)).toNat 0) = (ckLaw z0 n0 j) := by
    rw [addO_eq, Nat.add_zero, dropO_eq, ck_part (by omega), show n0 - 16 * j = r by omega, show (16 - (r : Int)).toNat = 16 - r by omega]
  have eb : (subLaw (List.take r (dropO (addO (16 * j) 0) z0) ++ List.replicate (16 - (r : Int)).toNat 0) 0 16) = (ckLaw z0 n0 j) := by
    rw [ex0, take_sub, List.take_of_length_le (by omega)]
  have hw : WpLaw (gwLaw (subLaw (List.take r (dropO (addO (16 * j) 0) z0) ++ List.replicate (16 - (r : Int)).toNat 0) 0 16)) := by rw [eb]; exact .gw hcb hcl
  rw [bd79_eq]
  refine YWp.block (YWp.seq (YWp.yieldDrawn eGh_ok hmA (l1 := ops79.toList.take 12) (oy := ops79.toList.getD 12 default) (o2 := ops79.toList.getD 13 default) (by kernel_rfl) (ds1 := [some false]) (o1 := Dpa0 z0 g0 n0 ga kx y l1 l2 (16 * j) r) (by kernel_rfl) (by kernel_rfl) (by kernel_rfl) (by kernel_rfl) (by kernel_rfl) (by kernel_rfl) (Dpa0_ok ?_) (f := .tmp 15) (x := .tmp 26) (t := 27) (c := theCall (ops79.toList.getD 12 default)) (by kernel_rfl) (by kernel_rfl) (by kernel_rfl) (by kernel_rfl) (by kernel_rfl) (by kernel_rfl) (by decide) (i := 1) (l := l1) (H := H1a) (by rw [Dpa0_fm]; rfl) (v := .ints .u64 (gwLaw (subLaw (List.take r (dropO (addO (16 * j) 0) z0) ++ List.replicate (16 - (r : Int)).toNat 0) 0 16))) (by rw [Dpa0_fm]; rfl) rfl rfl (p := 9) rfl (by decide) (kk := 10) (by decide) (by rw [Dpa0_fm]; exact fmIn_of rfl) hamb ?_))
  · rw [ex0]
    simp only [allP, Con.h, addO_eq, Nat.add_zero, hcl, hcb, eq_self, true_and, and_true]
    omega
  rw [Dpa0_tab]
  refine YWp.ofTo (To.of (o := A6pa0 z0 g0 n0 ga kx y l1 (List.take r (dropO (addO (16 * j) 0) z0) ++ List.replicate (16 - (r : Int)).toNat 0) (gwLaw (subLaw (List.take r (dropO (addO (16 * j) 0) z0) ++ List.replicate (16 - (r : Int)).toNat 0) 0 16))) eGh_ok hmA (Nat.le_refl 10) OrcOk.nil rfl (A6pa0_ok ⟨hw.len, trivial⟩) A6pa0_ex A6pa0_fm A6pa0_tab) hambM ⟨rfl, rfl, ?_⟩
  refine YWp.ofTo (To.of (o := B6pa0 z0 g0 n0 ga kx y l1 (List.take r (dropO (addO (16 * j) 0) z0) ++ List.replicate (16 - (r : Int)).toNat 0) (gwLaw (subLaw (List.take r (dropO (addO (16 * j) 0) z0) ++ List.replicate (16 - (r : Int)).toNat 0) 0 16))) eGh_ok hmA (Nat.le_refl 10) OrcOk.nil rfl (B6pa0_ok ?_) B6pa0_ex B6pa0_fm B6pa0_tab) hambM ⟨by decide, [], Nqa0 z0 g0 n0 ga kx (mwLaw (xwLaw y (gwLaw (subLaw (List.take r (dropO (addO (16 * j) 0) z0) ++ List.replicate (16 - (r : Int)).toNat 0) 0 16))) kx) l1 (List.take r (dropO (addO (16 * j) 0) z0) ++ List.replicate (16 - (r : Int)).toNat 0) _, rfl, Nqa0_ok trivial, ?_⟩
  · have h1 := hy.len
    have h2 := hw.len
    have h3 := e.pk.len
    have h4 := hy.xw hw
    simp only [allP, Con.h, h1, h2, h3, h4, hy, hw, e.pk, and_true, true_and]
  rw [Nqa0_fm, Nqa0_tab, eb]
  show YWp eGh 30 9 [(l2, H2a0 z0 g0 n0 ga kx), (l1, H1a)] cnd79 _ _ _ _
  refine YWp.sub (f := [(28, .bool false)]) ⟨rfl, trivial⟩ ?_
  exact YWp.ofTo (To.of (k := 9) (o := Cpa0 z0 g0 n0 ga kx (mwLaw (xwLaw y (gwLaw (ckLaw z0 n0 j))) kx) l1 (List.take r (dropO (addO (16 * j) 0) z0) ++ List.replicate (16 - (r : Int)).toNat 0)) eGh_ok hmA (Nat.le_refl 9) OrcOk.nil rfl (Cpa0_ok trivial) Cpa0_ex Cpa0_fm Cpa0_tab) hamb ⟨rfl, rfl, rfl⟩
theorem cha0 {z0 : List Int} {g0 n0 ga : Nat} {kx : List Int} (e : Exa z0 g0 n0 ga kx) {y : List Int} (hy : WpLaw y) (l1 l2 : Nat) {j : Nat} (hj : 16 * j < n0) :
    YWp eGh 30 9 [(l2, H2a0 z0 g0 n0 ga kx), (l1, H1a)] bd79 [(2, .var 6 0), (5, .slice 1 1 g0 (16 * j) (min 16 (n0 - 16 * j)) (some (min 16 (n0 - 16 * j))))] (TNa0 z0 g0 n0 ga kx y l1) [(.busy, none), (.ready, none)] fun ex fm T σ => ex = .normal ∧ T = ((TNa0 z0 g0 n0 ga kx (mwLaw (xwLaw y (gwLaw (ckLaw z0 n0 j))) kx) l1) : Tab) ∧ σ = [(.busy, none), (.ready, none)] := by
  by_cases h : 16 * j + 16 ≤ n0
  · rw [show min 16 (n0 - 16 * j) = 16 by omega]
    exact chfa0 e hy l1 l2 h
  · exact chpa0 e hy l1 l2 (by omega) (by omega)
theorem rda0 {z0 : List Int} {g0 n0 ga : Nat} {kx : List Int} (e : Exa z0 g0 n0 ga kx) {y : List Int} (hy : WpLaw y) (l1 l2 : Nat) {j : Nat} (hj : 16 * j < n0) :
    YWp eGh 31 9 [(l2, H2a0 z0 g0 n0 ga kx), (l1, H1a)] (roundOf 0 f81) [(0, .func (.yield l2) [] []), (1, .var 7 0), (2, .var 8 0), (4, .int .i64 ((16 * j : Nat) : Int))] (TNa0 z0 g0 n0 ga kx y l1) [(.ready, none), (.ready, none)] fun ex fm T σ => ex = .normal ∧ fm = [(0, .func (.yield l2) [] []), (1, .var 7 0), (2, .var 8 0), (4, .int .i64 ((16 * (j + 1) : Nat) : Int))] ∧ T = ((TNa0 z0 g0 n0 ga kx (mwLaw (xwLaw y (gwLaw (ckLaw z0 n0 j))) kx) l1) : Tab) ∧ σ = [(.ready, none), (.ready, none)] := by
  have hamb := amba0 z0 g0 n0 ga kx l1 l2
  have hz := e.pz0
  have hm := e.pm0
  skip
  have er : (if (↑(subO n0 ((16 * j : Nat) : Int).toNat) : Int) < 16 then (↑(subO n0 ((16 * j : Nat) : Int).toNat) : Int) else 16) = ((min 16 (n0 - 16 * j) : Nat) : Int) := by
    rw [Int.toNat_natCast, subO_eq, min16]
  have e1 : ((16 * j : Nat) : Int).toNat = 16 * j := Int.toNat_natCast _
  have e2 : subO (((16 * j : Nat) : Int) + ((min 16 (n0 - 16 * j) : Nat) : Int)).toNat (16 * j) = min 16 (n0 - 16 * j) := by rw [subO_eq]; omega
  rw [split81]
  refine YWp.seq (YWp.ofTo (To.of (o := Hya0 z0 g0 n0 ga kx y l1 l2 ((16 * j : Nat) : Int)) eGh_ok hmA (Nat.le_refl 9) OrcOk.nil rfl (Hya0_ok ?_) Hya0_ex Hya0_fm Hya0_tab) hamb ?_)
  · simp only [allP, Con.h, decide_eq_true_eq, eq_self, true_and, and_true]; omega
  refine YWp.seq (YWp.block (YWp.seq (YWp.ofTo (To.of (o := Msa0 z0 g0 n0 ga kx y l1 l2 ((16 * j : Nat) : Int)) (fm' := [(0, .func (.yield l2) [] []), (1, .var 7 0), (2, .var 8 0), (4, .int .i64 ((16 * j : Nat) : Int))] ++ [(5, .int .i64 ((min 16 (n0 - 16 * j) : Nat) : Int))]) eGh_ok hmA (Nat.le_refl 9) OrcOk.nil rfl (Msa0_ok ?_) Msa0_ex (by rw [Msa0_fm, er]; rfl) Msa0_tab) hamb ?_)))
  · simp only [allP, Con.h, eq_self, true_and, and_true]; omega
  refine YWp.seq (YWp.yieldRegion eGh_ok (l1 := ops81.toList.take 10) (l2 := ops81.toList.drop 11) (oy := ops81.toList.getD 10 default) (by kernel_rfl) (ds1 := []) (o1 := Yaa0 z0 g0 n0 ga kx y l1 l2 ((16 * j : Nat) : Int) ((min 16 (n0 - 16 * j) : Nat) : Int)) (by kernel_rfl) (Yaa0_ok ?_) (f := .tmp 19) (x := .tmp 28) (t := 29) (c := theCall (ops81.toList.getD 10 default)) (by kernel_rfl) (by kernel_rfl) (by kernel_rfl) (by kernel_rfl) (by kernel_rfl) (by decide) (i := 0) (l := l2) (H := H2a0 z0 g0 n0 ga kx) (by rw [Yaa0_fm]; rfl) (v := .slice 1 1 g0 (16 * j) (min 16 (n0 - 16 * j)) (some (min 16 (n0 - 16 * j)))) (by rw [Yaa0_fm, e1, e2]; rfl) rfl rfl (p := 14) rfl (show 14 < 30 by decide) (kk := 9) (Nat.le_refl _) (by rw [Yaa0_fm]; exact fmIn_of rfl) hamb ?_)
  · simp only [allP, Con.h, eq_self, true_and, and_true]; omega
  rw [Yaa0_tab]
  refine YWp.ofTo (To.of (o := Asa0 z0 g0 n0 ga kx y l1 l2 (16 * j) (min 16 (n0 - 16 * j))) eGh_ok hmA (Nat.le_refl 9) OrcOk.nil rfl (Asa0_ok trivial) Asa0_ex Asa0_fm Asa0_tab) hamb ⟨rfl, rfl, ?_⟩
  refine YWp.mono (cha0 e hy l1 l2 hj) fun ex fm T σ hP => ?_
  obtain ⟨rfl, rfl, rfl⟩ := hP
  refine ⟨by decide, [], Nua0 z0 g0 n0 ga kx (mwLaw (xwLaw y (gwLaw (ckLaw z0 n0 j))) kx) l1 _, rfl, Nua0_ok trivial, ?_⟩
  rw [Nua0_fm, Nua0_tab, Yaa0_fm]
  show YWp eGh 31 9 [(l2, H2a0 z0 g0 n0 ga kx), (l1, H1a)] cnd81 _ _ _ _
  rw [cnd81_eq]
  refine YWp.cond (b := false) rfl (fun h => by cases h) (fun _ => YWp.skip hamb ?_)
  show YWp eGh 31 9 [(l2, H2a0 z0 g0 n0 ga kx), (l1, H1a)] r81 _ _ _ _
  refine YWp.sub (f := [(0, .func (.yield l2) [] []), (1, .var 7 0), (2, .var 8 0), (4, .int .i64 ((16 * j : Nat) : Int))]) ⟨rfl, rfl, rfl, rfl, trivial⟩ ?_
  refine YWp.ofTo (To.of (o := Rba0 z0 g0 n0 ga kx _ l1 l2 ((16 * j : Nat) : Int)) eGh_ok hmA (Nat.le_refl 9) OrcOk.nil rfl (Rba0_ok ?_) Rba0_ex Rba0_fm Rba0_tab) hamb ⟨rfl, ?_, rfl, rfl⟩
  · simp only [allP, Con.h, and_true]; omega
  · rw [show ((16 * j : Nat) : Int) + 16 = ((16 * (j + 1) : Nat) : Int) by omega]
theorem ina0 {z0 : List Int} {g0 n0 ga : Nat} {kx : List Int} (e : Exa z0 g0 n0 ga kx) {y : List Int} (hy : WpLaw y) (l1 l2 : Nat) :
    YWp eGh 31 9 [(l2, H2a0 z0 g0 n0 ga kx), (l1, H1a)] (bodyOf f81) (argF ([] ++ (.func (.yield l2) [] [] :: [.var 7 0, .var 8 0])) 0) (TNa0 z0 g0 n0 ga kx y l1) [(.ready, none), (.ready, none)] fun ex fm' T' σ' =>
      (ex = .normal ∨ ex = .ret) ∧ (∃ cs us, aRes eGh fm' T' f81.results.toList = some (cs, us) ∧ allP cs) ∧ ∃ st σ2, σ' = st :: σ2 ∧ st.1 ≠ .busy ∧
        match st.2 with
        | none => AExit.normal = .normal ∧ [(1, .var 5 0), (2, .var 6 0), (6, .slice 1 0 ga 0 1 (some 1)), (7, .int .i64 1), (8, .int .i64 0), (13, .func (.func 81) [] [.var 7 0, .var 8 0])] = (H2a0 z0 g0 n0 ga kx).fm ∧ T' = (TNa0 z0 g0 n0 ga kx (hsLaw kx y z0 n0) l1) ∧ σ2 = [(.ready, none)]
        | some (.exit id) => AExit.exit id = .normal ∧ [(1, .var 5 0), (2, .var 6 0), (6, .slice 1 0 ga 0 1 (some 1)), (7, .int .i64 1), (8, .int .i64 0), (13, .func (.func 81) [] [.var 7 0, .var 8 0])] = (H2a0 z0 g0 n0 ga kx).fm ∧ T' = (TNa0 z0 g0 n0 ga kx (hsLaw kx y z0 n0) l1) ∧ σ2 = [(.ready, none)]
        | some .ret => AExit.ret = .normal ∧ [(1, .var 5 0), (2, .var 6 0), (6, .slice 1 0 ga 0 1 (some 1)), (7, .int .i64 1), (8, .int .i64 0), (13, .func (.func 81) [] [.var 7 0, .var 8 0])] = (H2a0 z0 g0 n0 ga kx).fm ∧ T' = (TNa0 z0 g0 n0 ga kx (hsLaw kx y z0 n0) l1) ∧ σ2 = [(.ready, none)]
        | _ => False := by
  have hamb := amba0 z0 g0 n0 ga kx l1 l2
  rw [splitb81, res81]
  refine YWp.seq (YWp.ofTo (To.of (o := Zsa0 z0 g0 n0 ga kx y l1 l2) eGh_ok hmA (Nat.le_refl 9) OrcOk.nil rfl (Zsa0_ok trivial) Zsa0_ex Zsa0_fm Zsa0_tab) hamb ?_)
  refine YWp.block (YWp.loop (fun fm T σ μ => ∃ j, 16 * j < n0 + 16 ∧ μ = n0 + 16 - j ∧ fm = [(0, .func (.yield l2) [] []), (1, .var 7 0), (2, .var 8 0), (4, .int .i64 ((16 * j : Nat) : Int))] ∧ T = (TNa0 z0 g0 n0 ga kx (hyLaw kx y z0 n0 j) l1) ∧ σ = [(.ready, none), (.ready, none)]) (n0 + 16) ⟨0, by omega, rfl, rfl, rfl, rfl⟩ ?_)
  rintro fm T σ μ ⟨j, hj, rfl, rfl, rfl, rfl⟩
  by_cases h : 16 * j < n0
  · refine YWp.mono (rda0 e (hy_wp hy e.pz0 e.pb0 j) l1 l2 h) fun ex fm T σ hP => ?_
    obtain ⟨rfl, rfl, rfl, rfl⟩ := hP
    exact ⟨n0 + 16 - (j + 1), by omega, j + 1, by omega, rfl, rfl, rfl, rfl⟩
  · rw [split81]
    refine YWp.seq (YWp.ofTo (To.of (o := Hna0 z0 g0 n0 ga kx (hyLaw kx y z0 n0 j) l1 l2 ((16 * j : Nat) : Int)) eGh_ok hmA (Nat.le_refl 9) OrcOk.nil rfl (Hna0_ok ?_) Hna0_ex Hna0_fm Hna0_tab) hamb ?_)
    · simp only [allP, Con.h, decide_eq_false_iff_not, eq_self, true_and, and_true]; omega
    obtain rfl : j = (n0 + 15) / 16 := by omega
    exact ⟨.inl rfl, ⟨[], [], rfl, trivial⟩, (.ready, none), _, rfl, by decide, rfl, rfl, rfl, rfl⟩
theorem roa0 {z0 : List Int} {g0 n0 ga : Nat} {kx : List Int} (e : Exa z0 g0 n0 ga kx) {y : List Int} (hy : WpLaw y) (l1 : Nat) :
    YWp eGh 30 6 [(l1, H1a)] (roundOf 0 f79) [(1, .var 5 0), (2, .var 6 0), (6, .slice 1 0 ga 0 1 (some 1)), (7, .int .i64 1), (8, .int .i64 0)] (TPa z0 g0 n0 ga kx y l1) [(.ready, none)] fun ex fm T σ => ex = .normal ∧ fm = [(1, .var 5 0), (2, .var 6 0), (6, .slice 1 0 ga 0 1 (some 1)), (7, .int .i64 1), (8, .int .i64 1)] ∧ T = ((TPa z0 g0 n0 ga kx (hsLaw kx y z0 n0) l1) : Tab) ∧ σ = [(.ready, none)] := by
  have hamb : ambIn 6 [(l1, H1a)] := ambIn_one rfl
  rw [split79]
  refine YWp.seq (YWp.ofTo (To.base (by decide) (To.of (o := Hda0 z0 g0 n0 ga kx y l1) eGh_ok hmA (Nat.le_refl 7) OrcOk.nil rfl (Hda0_ok trivial) Hda0_ex Hda0_fm Hda0_tab)) hamb ?_)
  refine YWp.seq ?_
  rw [c79_eq]
  refine YWp.cond (b := true) rfl (fun _ => YWp.skip hamb ?_) (fun h => by cases h)
  refine YWp.sub (f := [(1, .var 5 0), (2, .var 6 0), (6, .slice 1 0 ga 0 1 (some 1)), (7, .int .i64 1), (8, .int .i64 0)]) ⟨rfl, rfl, rfl, rfl, rfl, trivial⟩ ?_
  refine YWp.seq (YWp.block (YWp.seq (YWp.ofTo (To.base (by decide) (To.of (o := Paa0 z0 g0 n0 ga kx y l1) eGh_ok hmA (Nat.le_refl 7) OrcOk.nil rfl (Paa0_ok ⟨rfl, rfl, trivial⟩) Paa0_ex Paa0_fm Paa0_tab)) hamb ?_)))
  refine YWp.sub (f := ((4, .slice 1 1 g0 0 n0 none) :: [(1, .var 5 0), (2, .var 6 0), (6, .slice 1 0 ga 0 1 (some 1)), (7, .int .i64 1), (8, .int .i64 0)])) ⟨rfl, rfl, rfl, rfl, rfl, rfl, trivial⟩ ?_
  refine YWp.seq (YWp.ofTo (To.base (by decide) (To.of (k := 7) (o := Pba0 z0 g0 n0 ga kx y l1) eGh_ok hmA (Nat.le_refl 7) OrcOk.nil rfl (Pba0_ok ⟨rfl, trivial⟩) Pba0_ex Pba0_fm Pba0_tab)) hamb ?_)
  refine YWp.block ?_
  rw [rf79_eq]
  refine YWp.mono (YWp.rangeFunc (post := fun ex fm T' σ' => ex = .normal ∧ fm = (H2a0 z0 g0 n0 ga kx).fm ∧ T' = (TNa0 z0 g0 n0 ga kx (hsLaw kx y z0 n0) l1) ∧ σ' = [(.ready, none)]) eGh_ok (gf := 81) (gfn := f81) (c := bodyOf f81) (first := []) (caps := [.var 7 0, .var 8 0]) rfl (by kernel_rfl) (by kernel_rfl) (by kernel_rfl) (kk := 9) (by decide) (fmIn_of rfl) (by kernel_rfl) (fun l2 => ina0 e hy l1 l2)) fun ex fm T σ hP => ?_
  obtain ⟨rfl, rfl, rfl, rfl⟩ := hP
  show YWp eGh 30 6 [(l1, H1a)] r79 _ _ _ _
  exact YWp.ofTo (To.base (by decide) (To.of (k := 7) (o := Rra0 z0 g0 n0 ga kx (hsLaw kx y z0 n0) l1) eGh_ok hmA (Nat.le_refl 7) OrcOk.nil rfl (Rra0_ok trivial) Rra0_ex Rra0_fm Rra0_tab)) hamb ⟨rfl, rfl, rfl, rfl⟩
theorem outa {z0 : List Int} {g0 n0 ga : Nat} {kx : List Int} (e : Exa z0 g0 n0 ga kx) (l1 : Nat) : YWp eGh 30 6 [(l1, H1a)] (bodyOf f79) (argF ([] ++ (.func (.yield l1) [] [] :: [.var 5 0])) 0) (TBa z0 g0 n0 ga kx [0, 0]) [(.ready, none)] fun ex fm' T' σ' =>
      (ex = .normal ∨ ex = .ret) ∧ (∃ cs us, aRes eGh fm' T' f79.results.toList = some (cs, us) ∧ allP cs) ∧ ∃ st σ2, σ' = st :: σ2 ∧ st.1 ≠ .busy ∧
        match st.2 with
        | none => (AExit.normal = .normal ∨ AExit.normal = .exit 0) ∧ [(2, .var 2 0), (4, .var 3 0), (5, .var 4 0), (8, .func (.func 79) [] [.var 5 0])] = H1a.fm ∧ T' = (TBa z0 g0 n0 ga kx (hsLaw kx [0, 0] z0 n0))
        | some (.exit id) => (AExit.exit id = .normal ∨ AExit.exit id = .exit 0) ∧ [(2, .var 2 0), (4, .var 3 0), (5, .var 4 0), (8, .func (.func 79) [] [.var 5 0])] = H1a.fm ∧ T' = (TBa z0 g0 n0 ga kx (hsLaw kx [0, 0] z0 n0))
        | some .ret => (AExit.ret = .normal ∨ AExit.ret = .exit 0) ∧ [(2, .var 2 0), (4, .var 3 0), (5, .var 4 0), (8, .func (.func 79) [] [.var 5 0])] = H1a.fm ∧ T' = (TBa z0 g0 n0 ga kx (hsLaw kx [0, 0] z0 n0))
        | _ => False := by
  have hamb : ambIn 6 [(l1, H1a)] := ambIn_one rfl
  have w0 := WpLaw.zero
  have w1 := hs_wp (h := kx) w0 e.pz0 e.pb0
  rw [splitb79, res79]
  refine YWp.seq (YWp.ofTo (To.of (k := 6) (o := Saa z0 g0 n0 ga kx l1) eGh_ok hmA (Nat.le_refl 6) OrcOk.nil rfl (Saa_ok trivial) Saa_ex Saa_fm Saa_tab) hamb ?_)
  refine YWp.seq (YWp.ofTo (To.base (by decide) (To.of (k := 7) (o := Sba z0 g0 n0 ga kx l1) eGh_ok hmA (Nat.le_refl 7) OrcOk.nil rfl (Sba_ok ⟨rfl, trivial⟩) Sba_ex Sba_fm Sba_tab)) hamb ?_)
  refine YWp.block (YWp.loop (fun fm T σ μ => σ = [(.ready, none)] ∧ ((μ = 1 ∧ fm = [(1, .var 5 0), (2, .var 6 0), (6, .slice 1 0 ga 0 1 (some 1)), (7, .int .i64 1), (8, .int .i64 0)] ∧ T = (TPa z0 g0 n0 ga kx [0, 0] l1)) ∨ (μ = 0 ∧ fm = [(1, .var 5 0), (2, .var 6 0), (6, .slice 1 0 ga 0 1 (some 1)), (7, .int .i64 1), (8, .int .i64 1)] ∧ T = (TPa z0 g0 n0 ga kx (hsLaw kx [0, 0] z0 n0) l1)))) 1 ⟨rfl, .inl ⟨rfl, rfl, rfl⟩⟩ ?_)
  rintro fm T σ μ ⟨rfl, hI⟩
  rcases hI with ⟨rfl, rfl, rfl⟩ | ⟨rfl, rfl, rfl⟩
  · refine YWp.mono (roa0 e w0 l1) fun ex fm T σ hP => ?_
    obtain ⟨rfl, rfl, rfl, rfl⟩ := hP
    exact ⟨0, by decide, rfl, .inr (⟨rfl, rfl, rfl⟩)⟩
  · rw [split79]
    refine YWp.seq (YWp.ofTo (To.of (k := 6) (o := Hda1 z0 g0 n0 ga kx (hsLaw kx [0, 0] z0 n0) l1) eGh_ok hmA (Nat.le_refl 6) OrcOk.nil rfl (Hda1_ok trivial) Hda1_ex Hda1_fm Hda1_tab) hamb ?_)
    refine YWp.seq ?_
    rw [c79_eq]
    refine YWp.cond (b := false) rfl (fun h => by cases h) (fun _ => YWp.exit hamb ?_)
    exact ⟨.inl rfl, ⟨[], [], rfl, trivial⟩, (.ready, none), _, rfl, by decide, .inl rfl, rfl, rfl⟩
theorem blk63a {z0 : List Int} {g0 n0 ga : Nat} {kx : List Int} (e : Exa z0 g0 n0 ga kx) : To eGh 16 6 (.block 0 rf63) [(2, .var 2 0), (4, .var 3 0), (5, .var 4 0), (8, .func (.func 79) [] [.var 5 0])] (TBa z0 g0 n0 ga kx [0, 0]) .normal [(2, .var 2 0), (4, .var 3 0), (5, .var 4 0), (8, .func (.func 79) [] [.var 5 0])] (TBa z0 g0 n0 ga kx (hsLaw kx [0, 0] z0 n0)) := by
  refine AWp.block (AWp.ofY ?_)
  rw [rf63_eq]
  refine YWp.mono (YWp.rangeFunc (post := fun ex fm T' σ' => (ex = .normal ∨ ex = .exit 0) ∧ fm = H1a.fm ∧ T' = (TBa z0 g0 n0 ga kx (hsLaw kx [0, 0] z0 n0))) eGh_ok (gf := 79) (gfn := f79) (c := bodyOf f79) (first := []) (caps := [.var 5 0]) rfl (by kernel_rfl) (by kernel_rfl) (by kernel_rfl) (kk := 6) (Nat.le_refl _) (fmIn_of rfl) (by kernel_rfl) (fun l => outa e l)) fun ex fm T σ hP => ?_
  obtain ⟨h1, rfl, rfl⟩ := hP
  rcases h1 with rfl | rfl
  · exact ⟨rfl, rfl, rfl⟩
  · exact ⟨rfl, rfl, rfl⟩
noncomputable def g63ac (vs : List AVal) (T : Tab) (z0 : List Int) (g0 : Nat) (n0 : Nat) (ga : Nat) (kx : List Int) : Out := ⟨[.tab T [some ⟨.agg [.slice 1 1 g0 0 n0 none], ga, false, 25⟩, some ⟨.ints .u8 z0, g0, false, 5⟩, some ⟨.ints .u64 kx, 0, true, 65⟩, some ⟨.ints .u64 [0, 0], 0, true, 65⟩, some ⟨.ints .u64 [0, 0], 0, true, 65⟩, some ⟨.agg [.slice 1 0 ga 0 1 (some 1)], 0, true, 81⟩], .val (.tuple vs) (.tuple [.var 2 0, .var 3 0, .var 4 0, .func (.func 79) [] [.var 5 0]]), .leN n0 z0.length, .leN n0 140737488352000, .p (Bytes z0), .p (WpLaw kx)], .normal, [(2, .var 2 0), (4, .var 3 0), (5, .var 4 0), (8, .func (.func 79) [] [.var 5 0])], [some ⟨.agg [.slice 1 1 g0 0 n0 none], ga, false, 25⟩, some ⟨.ints .u8 z0, g0, false, 5⟩, some ⟨.ints .u64 kx, 0, true, 65⟩, some ⟨.ints .u64 [0, 0], 0, true, 65⟩, some ⟨.ints .u64 (hsLaw kx [0, 0] z0 n0), 0, true, 65⟩, some ⟨.agg [.slice 1 0 ga 0 1 (some 1)], 0, true, 81⟩], []⟩
theorem g63ac_ok {vs : List AVal} {T : Tab} {z0 : List Int} {g0 : Nat} {n0 : Nat} {ga : Nat} {kx : List Int} (h : Ok (g63ac vs T z0 g0 n0 ga kx)) : To eGh 16 6 (.block 0 rf63) (zipF [2,4,5,8] vs) T (g63ac vs T z0 g0 n0 ga kx).ex (g63ac vs T z0 g0 n0 ga kx).fm (g63ac vs T z0 g0 n0 ga kx).tab := by
  obtain ⟨hT, hv, h1, h2, h3, h4, _⟩ := h.h
  simp only [Con.h] at hT hv h1 h2 h3 h4
  injection hv with hv
  subst hT hv
  exact blk63a ⟨h1, h2, h3, h4⟩
noncomputable def g63a : List AVal → Tab → Out := fun vs T => g63ac vs T (xsAt T 1) (gAt T 1) (lenOf (cAt T 0 0)) (gAt T 0) (xsAt T 2)
theorem g63a_ok : BlkOk eGh f63 0 rf63 (blkS 6 [2,4,5,8] g63a) := blkS_ok fun vs T h => g63ac_ok h
noncomputable def orc63a : OrcL := [(0, blkS 6 [2,4,5,8] g63a)]
theorem orc63a_ok : FnOrc eGh f63 orc63a := FnOrc.cons g63a_ok (by kernel_rfl) FnOrc.nil
noncomputable def R63a (z0 : List Int) (g0 n0 ga : Nat) (kx : List Int) : Res := resG 2 [0, 1] (runF eGh f63 orc63a 400 [.ints .u64 kx, .slice 1 0 ga 0 1 (some 1)] [some ⟨.agg [.slice 1 1 g0 0 n0 none], ga, false, 25⟩, some ⟨.ints .u8 z0, g0, false, 5⟩] [])
theorem R63a_ok {z0 : List Int} {g0 n0 ga : Nat} {kx : List Int} (h : allP [.eqN ga ga, .eqN g0 g0, .leN n0 z0.length, .leN n0 140737488352000, .p (Bytes z0), .p (WpLaw kx), .eqN (hsLaw kx [0, 0] z0 n0).length 2, .eqN (hsLaw kx [0, 0] z0 n0).length 2, .eqN (hsLaw kx [0, 0] z0 n0).length 2]) : OkR (R63a z0 g0 n0 ga kx) := OkR.dem (fl := bitsF 16 29952) (by kernel_rfl) (by kernel_rfl) (by kernel_rfl)
 h
theorem R63a_val {z0 : List Int} {g0 n0 ga : Nat} {kx : List Int} : (R63a z0 g0 n0 ga kx).val = .ints .u64 (hsLaw kx [0, 0] z0 n0) := by kernel_rfl
theorem R63a_tab {z0 : List Int} {g0 n0 ga : Nat} {kx : List Int} : (R63a z0 g0 n0 ga kx).tab = [some ⟨.agg [.slice 1 1 g0 0 n0 none], ga, false, 25⟩, some ⟨.ints .u8 z0, g0, false, 5⟩] := by kernel_rfl
noncomputable def sm63ac (args : List AVal) (T : Tab) (z0 : List Int) (g0 : Nat) (n0 : Nat) (ga : Nat) (kx : List Int) : Res := ⟨[.tab T [some ⟨.agg [.slice 1 1 g0 0 n0 none], ga, false, 25⟩, some ⟨.ints .u8 z0, g0, false, 5⟩], .val (.tuple args) (.tuple [.ints .u64 kx, .slice 1 0 ga 0 1 (some 1)]), .leN n0 z0.length, .leN n0 140737488352000, .p (Bytes z0), .p (WpLaw kx)], .ints .u64 (hsLaw kx [0, 0] z0 n0), [some ⟨.agg [.slice 1 1 g0 0 n0 none], ga, false, 25⟩, some ⟨.ints .u8 z0, g0, false, 5⟩]⟩
theorem sm63ac_ok {args : List AVal} {T : Tab} {z0 : List Int} {g0 : Nat} {n0 : Nat} {ga : Nat} {kx : List Int} (h : allP (sm63ac args T z0 g0 n0 ga kx).cs) : Small prog (fun _ => none) 63 args T (sm63ac args T z0 g0 n0 ga kx).val (sm63ac args T z0 g0 n0 ga kx).tab := by
  obtain ⟨hT, hv, h1, h2, h3, h4, _⟩ := h
  simp only [Con.h] at hT hv h1 h2 h3 h4
  injection hv with hv
  subst hT hv
  have w0 := WpLaw.zero
  have w1 := hs_wp (h := kx) w0 h1 h3
  refine small_ofG (R := R63a z0 g0 n0 ga kx) (keep := [0, 1]) eGh_ok hmA (f := 63) (fn := f63) (by kernel_rfl) (by kernel_rfl) orc63a_ok rfl (R63a_ok ?_) R63a_val R63a_tab
  have hl := w1.len
  have hk := h4.len
  simp only [allP, Con.h, hl, hk, h1, h2, h3, h4, eq_self, true_and, and_true]
noncomputable def sm63a : Summary := fun args T => sm63ac args T (xsAt T 1) (gAt T 1) (lenOf (cAt T 0 0)) (gAt T 0) (xsOf (vAt args 0))
theorem sm63a_ok : SmOk prog (fun _ => none) 63 sm63a := fun args T h => sm63ac_ok h
end Go.Abs

set_option linter.unusedVariables false
set_option linter.unusedSimpArgs false
set_option maxRecDepth 8000
namespace Go.Abs
open Go.Proofs.Try
/-! ### what the program offers: Times, Hash, Seal, Open -/
noncomputable def sm63 : Summary := fun args T => match lenOf (vAt args 1) with
  | 1 => sm63a args T
  | _ => sm63c args T
theorem sm63_ok : SmOk prog (fun _ => none) 63 sm63 := fun args T h => by
  unfold sm63 at h ⊢
  split at h
  · exact sm63a_ok args T h
  · exact sm63c_ok args T h
noncomputable def S63 : Summary := callR sm63 []
theorem S63_ok : SumOk prog (fun _ => none) 63 S63 := callR_ok sm63_ok []
noncomputable def S58 : Summary := sumI modeO (eA []) f58 [] 100 [] []
theorem S58_ok : SumOk prog (fun _ => none) 58 S58 := sumI_ok eA0_ok hmA (fn := f58) (by kernel_rfl) (by kernel_rfl) [] FnOrc.nil 100 [] []
noncomputable def eGp : Env := eA [(54, S54), (55, S55), (59, S59), (60, S60), (61, S61), (63, S63), (58, S58)]
theorem eGp_ok : EnvOk eGp := envOf_ok tysA_ok (SumsOk.cons (fn := f54) S54_ok (by kernel_rfl) (by kernel_rfl) (by kernel_rfl) (SumsOk.cons (fn := f55) S55_ok (by kernel_rfl) (by kernel_rfl) (by kernel_rfl) (SumsOk.cons (fn := f59) S59_ok (by kernel_rfl) (by kernel_rfl) (by kernel_rfl) (SumsOk.cons (fn := f60) S60_ok (by kernel_rfl) (by kernel_rfl) (by kernel_rfl) (SumsOk.cons (fn := f61) S61_ok (by kernel_rfl) (by kernel_rfl) (by kernel_rfl) (SumsOk.cons (fn := f63) S63_ok (by kernel_rfl) (by kernel_rfl) (by kernel_rfl) (SumsOk.cons (fn := f58) S58_ok (by kernel_rfl) (by kernel_rfl) (by kernel_rfl) trivial)))))))
noncomputable def R35nn (zs bs : List Int) (g0 g1 : Nat) : Res := resG 2 [0,1,2] (runF eGp f35 [] 400 [.slice 1 0 g0 0 16 none, .slice 1 1 g1 0 16 none] [some ⟨.ints .u8 zs, g0, false, 5⟩, some ⟨.ints .u8 bs, g1, false, 5⟩] [some false, some false])
theorem R35nn_ok {zs bs : List Int} {g0 g1 : Nat} (h : allP [.eqN g0 g0, .p (false = false), .eqN g1 g1, .p (false = false), .eqN g0 g0, .leN 16 zs.length, .p (Bytes zs), .eqN g1 g1, .leN 16 bs.length, .p (Bytes bs), .p (WpLaw (gwLaw (subLaw zs 0 16))), .p (WpLaw (gwLaw (subLaw bs 0 16))), .p (WpLaw (mwLaw (gwLaw (subLaw zs 0 16)) (gwLaw (subLaw bs 0 16))))]) : OkR (R35nn zs bs g0 g1) := OkR.dem
 (fl := bitsF 23 33280) (by kernel_rfl) (by kernel_rfl) (by kernel_rfl) h
theorem R35nn_val {zs bs : List Int} {g0 g1 : Nat} : (R35nn zs bs g0 g1).val = .tuple [.slice 1 2 15 0 16 none, .int .i64 0] := by kernel_rfl
theorem R35nn_tab {zs bs : List Int} {g0 g1 : Nat} : (R35nn zs bs g0 g1).tab = [some ⟨.ints .u8 zs, g0, false, 5⟩, some ⟨.ints .u8 bs, g1, false, 5⟩, some ⟨.ints .u8 (ptLaw (mwLaw (gwLaw (subLaw zs 0 16)) (gwLaw (subLaw bs 0 16)))), 15, true, 5⟩] := by kernel_rfl
noncomputable def R35ns (zs bs : List Int) (g0 g1 : Nat) : Res := resG 2 [0,1,2] (runF eGp f35 [] 400 [.slice 1 0 g0 0 16 none, .slice 1 1 g1 0 16 (some 16)] [some ⟨.ints .u8 zs, g0, false, 5⟩, some ⟨.ints .u8 bs, g1, false, 5⟩] [some false, some false])
theorem R35ns_ok {zs bs : List Int} {g0 g1 : Nat} (h : allP [.eqN g0 g0, .p (false = false), .eqN g1 g1, .p (false = false), .eqN g0 g0, .leN 16 zs.length, .p (Bytes zs), .eqN g1 g1, .leN 16 bs.length, .p (Bytes bs), .p (WpLaw (gwLaw (subLaw zs 0 16))), .p (WpLaw (gwLaw (subLaw bs 0 16))), .p (WpLaw (mwLaw (gwLaw (subLaw zs 0 16)) (gwLaw (subLaw bs 0 16))))]) : OkR (R35ns zs bs g0 g1) := OkR.dem
 (fl := bitsF 23 33280) (by kernel_rfl) (by kernel_rfl) (by kernel_rfl) h
theorem R35ns_val {zs bs : List Int} {g0 g1 : Nat} : (R35ns zs bs g0 g1).val = .tuple [.slice 1 2 15 0 16 none, .int .i64 0] := by kernel_rfl
theorem R35ns_tab {zs bs : List Int} {g0 g1 : Nat} : (R35ns zs bs g0 g1).tab = [some ⟨.ints .u8 zs, g0, false, 5⟩, some ⟨.ints .u8 bs, g1, false, 5⟩, some ⟨.ints .u8 (ptLaw (mwLaw (gwLaw (subLaw zs 0 16)) (gwLaw (subLaw bs 0 16)))), 15, true, 5⟩] := by kernel_rfl
noncomputable def R35sn (zs bs : List Int) (g0 g1 : Nat) : Res := resG 2 [0,1,2] (runF eGp f35 [] 400 [.slice 1 0 g0 0 16 (some 16), .slice 1 1 g1 0 16 none] [some ⟨.ints .u8 zs, g0, false, 5⟩, some ⟨.ints .u8 bs, g1, false, 5⟩] [some false, some false])
theorem R35sn_ok {zs bs : List Int} {g0 g1 : Nat} (h : allP [.eqN g0 g0, .p (false = false), .eqN g1 g1, .p (false = false), .eqN g0 g0, .leN 16 zs.length, .p (Bytes zs), .eqN g1 g1, .leN 16 bs.length, .p (Bytes bs), .p (WpLaw (gwLaw (subLaw zs 0 16))), .p (WpLaw (gwLaw (subLaw bs 0 16))), .p (WpLaw (mwLaw (gwLaw (subLaw zs 0 16)) (gwLaw (subLaw bs 0 16))))]) : OkR (R35sn zs bs g0 g1) := OkR.dem
 (fl := bitsF 23 33280) (by kernel_rfl) (by kernel_rfl) (by kernel_rfl) h
theorem R35sn_val {zs bs : List Int} {g0 g1 : Nat} : (R35sn zs bs g0 g1).val = .tuple [.slice 1 2 15 0 16 none, .int .i64 0] := by kernel_rfl
theorem R35sn_tab {zs bs : List Int} {g0 g1 : Nat} : (R35sn zs bs g0 g1).tab = [some ⟨.ints .u8 zs, g0, false, 5⟩, some ⟨.ints .u8 bs, g1, false, 5⟩, some ⟨.ints .u8 (ptLaw (mwLaw (gwLaw (subLaw zs 0 16)) (gwLaw (subLaw bs 0 16)))), 15, true, 5⟩] := by kernel_rfl
noncomputable def R35ss (zs bs : List Int) (g0 g1 : Nat) : Res := resG 2 [0,1,2] (runF eGp f35 [] 400 [.slice 1 0 g0 0 16 (some 16), .slice 1 1 g1 0 16 (some 16)] [some ⟨.ints .u8 zs, g0, false, 5⟩, some ⟨.ints .u8 bs, g1, false, 5⟩] [some false, some false])
theorem R35ss_ok {zs bs : List Int} {g0 g1 : Nat} (h : allP [.eqN g0 g0, .p (false = false), .eqN g1 g1, .p (false = false), .eqN g0 g0, .leN 16 zs.length, .p (Bytes zs), .eqN g1 g1, .leN 16 bs.length, .p (Bytes bs), .p (WpLaw (gwLaw (subLaw zs 0 16))), .p (WpLaw (gwLaw (subLaw bs 0 16))), .p (WpLaw (mwLaw (gwLaw (subLaw zs 0 16)) (gwLaw (subLaw bs 0 16))))]) : OkR (R35ss zs bs g0 g1) := OkR.dem
 (fl := bitsF 23 33280) (by kernel_rfl) (by kernel_rfl) (by kernel_rfl) h
theorem R35ss_val {zs bs : List Int} {g0 g1 : Nat} : (R35ss zs bs g0 g1).val = .tuple [.slice 1 2 15 0 16 none, .int .i64 0] := by kernel_rfl
theorem R35ss_tab {zs bs : List Int} {g0 g1 : Nat} : (R35ss zs bs g0 g1).tab = [some ⟨.ints .u8 zs, g0, false, 5⟩, some ⟨.ints .u8 bs, g1, false, 5⟩, some ⟨.ints .u8 (ptLaw (mwLaw (gwLaw (subLaw zs 0 16)) (gwLaw (subLaw bs 0 16)))), 15, true, 5⟩] := by kernel_rfl
noncomputable def R35a (zs bs : List Int) (g0 g1 n0 n1 : Nat) (cp0 cp1 : Option Nat) : Res := resG 2 [0,1] (runF eGp f35 [] 400 [.slice 1 0 g0 0 n0 cp0, .slice 1 1 g1 0 n1 cp1] [some ⟨.ints .u8 zs, g0, false, 5⟩, some ⟨.ints .u8 bs, g1, false, 5⟩] [some true])
theorem R35a_ok {zs bs : List Int} {g0 g1 n0 n1 : Nat} {cp0 cp1 : Option Nat} (h : allP [.eqN g0 g0, .p (((↑n0 : Int) != 16) = true)]) : OkR (R35a zs bs g0 g1 n0 n1 cp0 cp1) := OkR.dem (fl := [false, false]) (by kernel_rfl) (by kernel_rfl) (by kernel_rfl) h
theorem R35a_val {zs bs : List Int} {g0 g1 n0 n1 : Nat} {cp0 cp1 : Option Nat} : (R35a zs bs g0 g1 n0 n1 cp0 cp1).val = .tuple [.nilSlice, .int .i64 1] := by kernel_rfl
theorem R35a_tab {zs bs : List Int} {g0 g1 n0 n1 : Nat} {cp0 cp1 : Option Nat} : (R35a zs bs g0 g1 n0 n1 cp0 cp1).tab = [some ⟨.ints .u8 zs, g0, false, 5⟩, some ⟨.ints .u8 bs, g1, false, 5⟩] := by kernel_rfl
noncomputable def R35b (zs bs : List Int) (g0 g1 n0 n1 : Nat) (cp0 cp1 : Option Nat) : Res := resG 2 [0,1] (runF eGp f35 [] 400 [.slice 1 0 g0 0 n0 cp0, .slice 1 1 g1 0 n1 cp1] [some ⟨.ints .u8 zs, g0, false, 5⟩, some ⟨.ints .u8 bs, g1, false, 5⟩] [some false, some true])
theorem R35b_ok {zs bs : List Int} {g0 g1 n0 n1 : Nat} {cp0 cp1 : Option Nat} (h : allP [.eqN g0 g0, .p (((↑n0 : Int) != 16) = false), .eqN g1 g1, .p (((↑n1 : Int) != 16) = true)]) : OkR (R35b zs bs g0 g1 n0 n1 cp0 cp1) := OkR.dem (fl := [false, false, false, false]) (by kernel_rfl) (by kernel_rfl) (by kernel_rfl) h
theorem R35b_val {zs bs : List Int} {g0 g1 n0 n1 : Nat} {cp0 cp1 : Option Nat} : (R35b zs bs g0 g1 n0 n1 cp0 cp1).val = .tuple [.nilSlice, .int .i64 1] := by kernel_rfl
theorem R35b_tab {zs bs : List Int} {g0 g1 n0 n1 : Nat} {cp0 cp1 : Option Nat} : (R35b zs bs g0 g1 n0 n1 cp0 cp1).tab = [some ⟨.ints .u8 zs, g0, false, 5⟩, some ⟨.ints .u8 bs, g1, false, 5⟩] := by kernel_rfl
noncomputable def R37n (zs bs : List Int) (g0 g1 n1 : Nat) : Res := resG 2 [0,1,3] (runF eGp f37 [] 400 [.slice 1 0 g0 0 16 none, .slice 1 1 g1 0 n1 none] [some ⟨.ints .u8 zs, g0, false, 5⟩, some ⟨.ints .u8 bs, g1, false, 5⟩] [some false])
theorem R37n_ok {zs bs : List Int} {g0 g1 n1 : Nat} (h : allP [.eqN g0 g0, .p (false = false), .eqN g0 g0, .leN 16 zs.length, .p (Bytes zs), .eqN g1 g1, .leN n1 bs.length, .leN n1 140737488352000, .p (Bytes bs), .p (WpLaw (gwLaw (subLaw zs 0 16))), .p (WpLaw (hsLaw (gwLaw (subLaw zs 0 16)) [0, 0] bs n1))]) : OkR (R37n zs bs g0 g1 n1) := OkR.dem (fl := bitsF 22 3968) (by kernel_rfl) (by kernel_rfl)
 (by kernel_rfl) h
theorem R37n_val {zs bs : List Int} {g0 g1 n1 : Nat} : (R37n zs bs g0 g1 n1).val = .tuple [.slice 1 2 15 0 16 none, .int .i64 0] := by kernel_rfl
theorem R37n_tab {zs bs : List Int} {g0 g1 n1 : Nat} : (R37n zs bs g0 g1 n1).tab = [some ⟨.ints .u8 zs, g0, false, 5⟩, some ⟨.ints .u8 bs, g1, false, 5⟩, some ⟨.ints .u8 (ptLaw (hsLaw (gwLaw (subLaw zs 0 16)) [0, 0] bs n1)), 15, true, 5⟩] := by kernel_rfl
noncomputable def R37s (zs bs : List Int) (g0 g1 n1 : Nat) : Res := resG 3 [0,1,2,4] (runF eGp f37 [] 400 [.slice 1 0 g0 0 16 (some 16), .slice 1 2 g1 0 n1 none] [some ⟨.ints .u8 zs, g0, false, 5⟩, some ⟨.ints .u8 bs, g1, false, 5⟩, some ⟨.ints .u8 (List.take n1 bs), g1, false, 5⟩] [some false])
theorem R37s_ok {zs bs : List Int} {g0 g1 n1 : Nat} (h : allP [.eqN g0 g0, .p (false = false), .eqN g0 g0, .leN 16 zs.length, .p (Bytes zs), .eqN g1 g1, .leN n1 (List.take n1 bs).length, .leN n1 140737488352000, .p (Bytes (List.take n1 bs)), .p (WpLaw (gwLaw (subLaw zs 0 16))), .p (WpLaw (hsLaw (gwLaw (subLaw zs 0 16)) [0, 0] (List.take n1 bs) n1))]) : OkR (R37s zs bs g0 g1 n1) := OkR.dem (fl :=
 bitsF 22 3968) (by kernel_rfl) (by kernel_rfl) (by kernel_rfl) h
theorem R37s_val {zs bs : List Int} {g0 g1 n1 : Nat} : (R37s zs bs g0 g1 n1).val = .tuple [.slice 1 3 15 0 16 none, .int .i64 0] := by kernel_rfl
theorem R37s_tab {zs bs : List Int} {g0 g1 n1 : Nat} : (R37s zs bs g0 g1 n1).tab = [some ⟨.ints .u8 zs, g0, false, 5⟩, some ⟨.ints .u8 bs, g1, false, 5⟩, some ⟨.ints .u8 (List.take n1 bs), g1, false, 5⟩, some ⟨.ints .u8 (ptLaw (hsLaw (gwLaw (subLaw zs 0 16)) [0, 0] (List.take n1 bs) n1)), 15, true, 5⟩] := by kernel_rfl
noncomputable def R37a (zs bs : List Int) (g0 g1 n0 n1 : Nat) (cp0 cp1 : Option Nat) : Res := resG 2 [0,1] (runF eGp f37 [] 400 [.slice 1 0 g0 0 n0 cp0, .slice 1 1 g1 0 n1 cp1] [some ⟨.ints .u8 zs, g0, false, 5⟩, some ⟨.ints .u8 bs, g1, false, 5⟩] [some true])
theorem R37a_ok {zs bs : List Int} {g0 g1 n0 n1 : Nat} {cp0 cp1 : Option Nat} (h : allP [.eqN g0 g0, .p (((↑n0 : Int) != 16) = true)]) : OkR (R37a zs bs g0 g1 n0 n1 cp0 cp1) := OkR.dem (fl := [false, false]) (by kernel_rfl) (by kernel_rfl) (by kernel_rfl) h
theorem R37a_val {zs bs : List Int} {g0 g1 n0 n1 : Nat} {cp0 cp1 : Option Nat} : (R37a zs bs g0 g1 n0 n1 cp0 cp1).val = .tuple [.nilSlice, .int .i64 1] := by kernel_rfl
theorem R37a_tab {zs bs : List Int} {g0 g1 n0 n1 : Nat} {cp0 cp1 : Option Nat} : (R37a zs bs g0 g1 n0 n1 cp0 cp1).tab = [some ⟨.ints .u8 zs, g0, false, 5⟩, some ⟨.ints .u8 bs, g1, false, 5⟩] := by kernel_rfl
noncomputable def R28A (zs ns : List Int) (gk gn : Nat) (cpk cpn : Option Nat) (ms ts : List Int) (gm gt n m : Nat) : Res := resG 4 [0,1,2,3,5] (runF eGp f28 [] 400 [.slice 1 0 gk 0 16 cpk, .slice 1 1 gn 0 12 cpn, .slice 1 2 gm 0 m none, .slice 1 3 gt 0 n none] [some ⟨.ints .u8 zs, gk, false, 5⟩, some ⟨.ints .u8 ns, gn, false, 5⟩, some ⟨.ints .u8 ms, gm, false, 5⟩, some ⟨.ints .u8 ts, gt, false, 5⟩] [some false, some false, some false, some false])
theorem R28A_ok {zs ns : List Int} {gk gn : Nat} {cpk cpn : Option Nat} {ms ts : List Int} {gm gt n m : Nat} (h : allP [.eqN gk gk, .p (false = false), .eqN gn gn, .p (false = false), .eqN gm gm, .p (decide (65536 < (↑m : Int)) = false), .eqN gt gt, .p (decide (65536 < (↑n : Int)) = false), .eqN gk gk, .eqN gn gn, .eqN gt gt, .leN 16 zs.length, .leN 12 ns.length, .p (Bytes zs), .p (Bytes ns), .leN
 n ts.length, .leN n 140737488352000, .p (Bytes ts), .eqN gk gk, .eqN gn gn, .eqN gm gm, .leN 16 zs.length, .leN 12 ns.length, .p (Bytes zs), .p (Bytes ns), .leN m ms.length, .leN m 140737488352000, .p (Bytes ms), .leN n (turnLaw (subLaw zs 0 16) (subLaw ns 0 12) (subLaw ts 0 n)).length, .leN n 140737488352000, .p (Bytes (turnLaw (subLaw zs 0 16) (subLaw ns 0 12) (subLaw ts 0 n))), .leN (0 + n)
 (turnLaw (subLaw zs 0 16) (subLaw ns 0 12) (subLaw ts 0 n)).length, .leN (addO n 16) 140737488355328]) : OkR (R28A zs ns gk gn cpk cpn ms ts gm gt n m) := OkR.dem (fl := bitsF 54 16044111253733120) (by kernel_rfl) (by kernel_rfl) (by kernel_rfl) h
theorem R28A_val {zs ns : List Int} {gk gn : Nat} {cpk cpn : Option Nat} {ms ts : List Int} {gm gt n m : Nat} : (R28A zs ns gk gn cpk cpn ms ts gm gt n m).val = .tuple [.slice 1 4 2 0 (addO n 16) none, .int .i64 0] := by kernel_rfl
theorem R28A_tab {zs ns : List Int} {gk gn : Nat} {cpk cpn : Option Nat} {ms ts : List Int} {gm gt n m : Nat} : (R28A zs ns gk gn cpk cpn ms ts gm gt n m).tab = [some ⟨.ints .u8 zs, gk, false, 5⟩, some ⟨.ints .u8 ns, gn, false, 5⟩, some ⟨.ints .u8 ms, gm, false, 5⟩, some ⟨.ints .u8 ts, gt, false, 5⟩, some ⟨.ints .u8 (List.take n (turnLaw (subLaw zs 0 16) (subLaw ns 0 12) (subLaw ts 0 n)) ++
 List.take 16 (tagLaw (subLaw zs 0 16) (subLaw ns 0 12) ms m (turnLaw (subLaw zs 0 16) (subLaw ns 0 12) (subLaw ts 0 n)) n)), 2, true, 5⟩] := by kernel_rfl
noncomputable def R28B (zs ns : List Int) (gk gn : Nat) (cpk cpn : Option Nat) (ts : List Int) (gt n : Nat) : Res := resG 4 [0,1,2,3,5] (runF eGp f28 [] 400 [.slice 1 0 gk 0 16 cpk, .slice 1 1 gn 0 12 cpn, .slice 1 3 0 0 0 none, .slice 1 2 gt 0 n none] [some ⟨.ints .u8 zs, gk, false, 5⟩, some ⟨.ints .u8 ns, gn, false, 5⟩, some ⟨.ints .u8 ts, gt, false, 5⟩, some ⟨.ints .u8 [], 0, true, 5⟩] [some false, some false, none, some false])
theorem R28B_ok {zs ns : List Int} {gk gn : Nat} {cpk cpn : Option Nat} {ts : List Int} {gt n : Nat} (h : allP [.eqN gk gk, .p (false = false), .eqN gn gn, .p (false = false), .eqN gt gt, .p (decide (65536 < (↑n : Int)) = false), .eqN gk gk, .eqN gn gn, .eqN gt gt, .leN 16 zs.length, .leN 12 ns.length, .p (Bytes zs), .p (Bytes ns), .leN n ts.length, .leN n 140737488352000, .p (Bytes ts), .eqN gk
 gk, .eqN gn gn, .leN 16 zs.length, .leN 12 ns.length, .p (Bytes zs), .p (Bytes ns), .p (Bytes []), .leN n (turnLaw (subLaw zs 0 16) (subLaw ns 0 12) (subLaw ts 0 n)).length, .leN n 140737488352000, .p (Bytes (turnLaw (subLaw zs 0 16) (subLaw ns 0 12) (subLaw ts 0 n))), .leN (0 + n) (turnLaw (subLaw zs 0 16) (subLaw ns 0 12) (subLaw ts 0 n)).length, .leN (addO n 16) 140737488355328]) : OkR (R28B zs
 ns gk gn cpk cpn ts gt n) := OkR.dem (fl := bitsF 53 8028661286567824) (by kernel_rfl) (by kernel_rfl) (by kernel_rfl) h
theorem R28B_val {zs ns : List Int} {gk gn : Nat} {cpk cpn : Option Nat} {ts : List Int} {gt n : Nat} : (R28B zs ns gk gn cpk cpn ts gt n).val = .tuple [.slice 1 4 2 0 (addO n 16) none, .int .i64 0] := by kernel_rfl
theorem R28B_tab {zs ns : List Int} {gk gn : Nat} {cpk cpn : Option Nat} {ts : List Int} {gt n : Nat} : (R28B zs ns gk gn cpk cpn ts gt n).tab = [some ⟨.ints .u8 zs, gk, false, 5⟩, some ⟨.ints .u8 ns, gn, false, 5⟩, some ⟨.ints .u8 ts, gt, false, 5⟩, some ⟨.ints .u8 [], 0, true, 5⟩, some ⟨.ints .u8 (List.take n (turnLaw (subLaw zs 0 16) (subLaw ns 0 12) (subLaw ts 0 n)) ++ List.take 16 (tagLaw
 (subLaw zs 0 16) (subLaw ns 0 12) [] 0 (turnLaw (subLaw zs 0 16) (subLaw ns 0 12) (subLaw ts 0 n)) n)), 2, true, 5⟩] := by kernel_rfl
noncomputable def R28C (zs ns : List Int) (gk gn : Nat) (cpk cpn : Option Nat) : Res := resG 3 [0,1,2,4] (runF eGp f28 [] 400 [.slice 1 0 gk 0 16 cpk, .slice 1 1 gn 0 12 cpn, .slice 1 2 0 0 0 none, .slice 1 2 0 0 0 none] [some ⟨.ints .u8 zs, gk, false, 5⟩, some ⟨.ints .u8 ns, gn, false, 5⟩, some ⟨.ints .u8 [], 0, true, 5⟩] [some false, some false])
theorem R28C_ok {zs ns : List Int} {gk gn : Nat} {cpk cpn : Option Nat} (h : allP [.eqN gk gk, .p (false = false), .eqN gn gn, .p (false = false), .eqN gk gk, .eqN gn gn, .leN 16 zs.length, .leN 12 ns.length, .p (Bytes zs), .p (Bytes ns), .p (Bytes []), .eqN gk gk, .eqN gn gn, .leN 16 zs.length, .leN 12 ns.length, .p (Bytes zs), .p (Bytes ns), .p (Bytes []), .p (Bytes (turnLaw (subLaw zs 0 16)
 (subLaw ns 0 12) (subLaw [] 0 0)))]) : OkR (R28C zs ns gk gn cpk cpn) := OkR.dem (fl := bitsF 52 4462931488342000) (by kernel_rfl) (by kernel_rfl) (by kernel_rfl) h
theorem R28C_val {zs ns : List Int} {gk gn : Nat} {cpk cpn : Option Nat} : (R28C zs ns gk gn cpk cpn).val = .tuple [.slice 1 3 2 0 16 none, .int .i64 0] := by kernel_rfl
theorem R28C_tab {zs ns : List Int} {gk gn : Nat} {cpk cpn : Option Nat} : (R28C zs ns gk gn cpk cpn).tab = [some ⟨.ints .u8 zs, gk, false, 5⟩, some ⟨.ints .u8 ns, gn, false, 5⟩, some ⟨.ints .u8 [], 0, true, 5⟩, some ⟨.ints .u8 (List.take 0 (turnLaw (subLaw zs 0 16) (subLaw ns 0 12) (subLaw [] 0 0)) ++ List.take 16 (tagLaw (subLaw zs 0 16) (subLaw ns 0 12) [] 0 (turnLaw (subLaw zs 0 16) (subLaw ns
 0 12) (subLaw [] 0 0)) 0)), 2, true, 5⟩] := by kernel_rfl
noncomputable def R32C (zs ns : List Int) (gk gn : Nat) (cpk cpn : Option Nat) (ts t2 : List Int) (gt n : Nat) : Res := resG 5 [0,1,2,3,4] (runF eGp f32 [] 400 [.slice 1 0 gk 0 16 cpk, .slice 1 1 gn 0 12 cpn, .slice 1 3 0 0 0 none, .slice 1 4 gt 0 n none] [some ⟨.ints .u8 zs, gk, false, 5⟩, some ⟨.ints .u8 ns, gn, false, 5⟩, some ⟨.ints .u8 ts, gt, false, 5⟩, some ⟨.ints .u8 [], 0, true, 5⟩, some ⟨.ints .u8 t2, gt, false, 5⟩] [some false, some false, none, some false, some false, some false])
theorem R32C_ok {zs ns : List Int} {gk gn : Nat} {cpk cpn : Option Nat} {ts t2 : List Int} {gt n : Nat} (h : allP [.eqN gk gk, .p (false = false), .eqN gn gn, .p (false = false), .eqN gt gt, .p (decide (65552 < (↑n : Int)) = false), .eqN gt gt, .p (decide ((↑n : Int) < 16) = false), .eqN gt gt, .rng (-9223372036854775808) ((↑n : Int) - 16) 9223372036854775807, .leI 0 ((↑n : Int) - 16), .eqN gt gt,
 .leN 0 ((↑n : Int) - 16).toNat, .orN ((↑n : Int) - 16).toNat n (0 + ((↑n : Int) - 16).toNat) t2.length, .eqN gt gt, .rng (-9223372036854775808) ((↑n : Int) - 16) 9223372036854775807, .leI 0 ((↑n : Int) - 16), .eqN gt gt, .leN ((↑n : Int) - 16).toNat n, .eqN gk gk, .eqN gn gn, .eqN gt gt, .leN 16 zs.length, .leN 12 ns.length, .p (Bytes zs), .p (Bytes ns), .p (Bytes []), .leN ((↑n : Int) - 16).toNat
 t2.length, .leN ((↑n : Int) - 16).toNat 140737488352000, .p (Bytes t2), .eqN gt gt, .eqN gt gt, .leN (((↑n : Int) - 16).toNat + subO n ((↑n : Int) - 16).toNat) t2.length, .p ((List.map byteOf (List.take 16 (tagLaw (subLaw zs 0 16) (subLaw ns 0 12) [] 0 t2 ((↑n : Int) - 16).toNat)) == List.map byteOf (List.take (subO n ((↑n : Int) - 16).toNat) (dropO ((↑n : Int) - 16).toNat t2))) = false)]) : OkR
 (R32C zs ns gk gn cpk cpn ts t2 gt n) := OkR.dem (fl := bitsF 54 1836194619063824) (by kernel_rfl) (by kernel_rfl) (by kernel_rfl) h
theorem R32C_val {zs ns : List Int} {gk gn : Nat} {cpk cpn : Option Nat} {ts t2 : List Int} {gt n : Nat} : (R32C zs ns gk gn cpk cpn ts t2 gt n).val = .tuple [.nilSlice, .int .i64 32] := by kernel_rfl
theorem R32C_tab {zs ns : List Int} {gk gn : Nat} {cpk cpn : Option Nat} {ts t2 : List Int} {gt n : Nat} : (R32C zs ns gk gn cpk cpn ts t2 gt n).tab = [some ⟨.ints .u8 zs, gk, false, 5⟩, some ⟨.ints .u8 ns, gn, false, 5⟩, some ⟨.ints .u8 ts, gt, false, 5⟩, some ⟨.ints .u8 [], 0, true, 5⟩, some ⟨.ints .u8 t2, gt, false, 5⟩] := by kernel_rfl
end Go.Abs

set_option linter.unusedVariables false
set_option linter.unusedSimpArgs false
set_option maxRecDepth 8000
namespace Go.Abs
open Go.Proofs.Try
/-! ### contracts of what the program offers -/
theorem gByte_inj {a b : Int} (ha : 0 ≤ a ∧ a < 256) (hb : 0 ≤ b ∧ b < 256) (h : byteOf a = byteOf b) : a = b := by
  have := congrArg UInt8.toNat h
  simp only [byteOf, UInt8.toNat_ofNat'] at this
  omega
theorem gBytes_inj : ∀ {l l' : List Int}, Bytes l → Bytes l' → List.map byteOf l = List.map byteOf l' → l = l'
  | [], [], _, _, _ => rfl
  | [], b :: l', _, _, h => by simp at h
  | a :: l, [], _, _, h => by simp at h
  | a :: l, b :: l', h1, h2, h => by
    simp only [List.map_cons, List.cons.injEq] at h
    have e : a = b := gByte_inj (h1.get 0) (h2.get 0) h.1
    rw [e, gBytes_inj (l := l) (l' := l') (fun i hi => h1.get (i + 1)) (fun i hi => h2.get (i + 1)) h.2]
theorem gBytes_ne {l l' : List Int} (h1 : Bytes l) (h2 : Bytes l') (h : l ≠ l') : (List.map byteOf l == List.map byteOf l') = false := by
  rw [beq_eq_false_iff_ne]
  exact fun e => h (gBytes_inj h1 h2 e)
theorem neq16 {n : Nat} (h : n ≠ 16) : ((n : Int) != 16) = true := by simp only [bne_iff_ne, ne_eq]; omega
theorem eq16 : (((16 : Nat) : Int) != 16) = false := by decide
def sealLaw (K N M : List Int) (m : Nat) (X : List Int) (n : Nat) : List Int := turnLaw K N X ++ tagLaw K N M m (turnLaw K N X) n
noncomputable def sm35nnc (args : List AVal) (T : Tab) (zs : List Int) (bs : List Int) (g0 : Nat) (g1 : Nat) : Res := ⟨[.tab T [some ⟨.ints .u8 zs, g0, false, 5⟩, some ⟨.ints .u8 bs, g1, false, 5⟩], .val (.tuple args) (.tuple [.slice 1 0 g0 0 16 none, .slice 1 1 g1 0 16 none]), .leN 16 zs.length, .leN 16 bs.length, .p (Bytes zs), .p (Bytes bs)], .tuple [.slice 1 2 15 0 16 none, .int .i64 0], [some ⟨.ints .u8 zs, g0, false, 5⟩, some ⟨.ints .u8 bs, g1, false, 5⟩, some ⟨.ints .u8 (ptLaw (mwLaw (gwLaw (subLaw zs 0 16)) (gwLaw (subLaw bs 0 16)))), 15, true, 5⟩]⟩
theorem sm35nnc_ok {args : List AVal} {T : Tab} {zs : List Int} {bs : List Int} {g0 : Nat} {g1 : Nat} (h : allP (sm35nnc args T zs bs g0 g1).cs) : Small prog (fun _ => none) 35 args T (sm35nnc args T zs bs g0 g1).val (sm35nnc args T zs bs g0 g1).tab := by
  obtain ⟨hT, hv, h1, h2, h3, h4, _⟩ := h
  simp only [Con.h] at hT hv h1 h2 h3 h4
  injection hv with hv
  subst hT hv
  have w1 := WpLaw.gw (sub_bytes h3 0 16) (subLaw_len (by omega))
  have w2 := WpLaw.gw (sub_bytes h4 0 16) (subLaw_len (by omega))
  have w3 := w1.mw (q := gwLaw (subLaw bs 0 16))
  refine small_ofG (R := R35nn zs bs g0 g1) (keep := [0,1,2]) eGp_ok hmA (f := 35) (fn := f35) (by kernel_rfl) (by kernel_rfl) FnOrc.nil rfl (R35nn_ok ?_) R35nn_val R35nn_tab
  simp only [allP, Con.h, w1, w2, w3, h1, h2, h3, h4, eq_self, true_and, and_true]
noncomputable def sm35nn : Summary := fun args T => sm35nnc args T (xsAt T 0) (xsAt T 1) (gAt T 0) (gAt T 1)
theorem sm35nn_ok : SmOk prog (fun _ => none) 35 sm35nn := fun args T h => sm35nnc_ok h
noncomputable def sm35nsc (args : List AVal) (T : Tab) (zs : List Int) (bs : List Int) (g0 : Nat) (g1 : Nat) : Res := ⟨[.tab T [some ⟨.ints .u8 zs, g0, false, 5⟩, some ⟨.ints .u8 bs, g1, false, 5⟩], .val (.tuple args) (.tuple [.slice 1 0 g0 0 16 none, .slice 1 1 g1 0 16 (some 16)]), .leN 16 zs.length, .leN 16 bs.length, .p (Bytes zs), .p (Bytes bs)], .tuple [.slice 1 2 15 0 16 none, .int .i64 0], [some ⟨.ints .u8 zs, g0, false, 5⟩, some ⟨.ints .u8 bs, g1, false, 5⟩, some ⟨.ints .u8 (ptLaw (mwLaw (gwLaw (subLaw zs 0 16)) (gwLaw (subLaw bs 0 16)))), 15, true, 5⟩]⟩
theorem sm35nsc_ok {args : List AVal} {T : Tab} {zs : List Int} {bs : List Int} {g0 : Nat} {g1 : Nat} (h : allP (sm35nsc args T zs bs g0 g1).cs) : Small prog (fun _ => none) 35 args T (sm35nsc args T zs bs g0 g1).val (sm35nsc args T zs bs g0 g1).tab := by
  obtain ⟨hT, hv, h1, h2, h3, h4, _⟩ := h
  simp only [Con.h] at hT hv h1 h2 h3 h4
  injection hv with hv
  subst hT hv
  have w1 := WpLaw.gw (sub_bytes h3 0 16) (subLaw_len (by omega))
  have w2 := WpLaw.gw (sub_bytes h4 0 16) (subLaw_len (by omega))
  have w3 := w1.mw (q := gwLaw (subLaw bs 0 16))
  refine small_ofG (R := R35ns zs bs g0 g1) (keep := [0,1,2]) eGp_ok hmA (f := 35) (fn := f35) (by kernel_rfl) (by kernel_rfl) FnOrc.nil rfl (R35ns_ok ?_) R35ns_val R35ns_tab
  simp only [allP, Con.h, w1, w2, w3, h1, h2, h3, h4, eq_self, true_and, and_true]
noncomputable def sm35ns : Summary := fun args T => sm35nsc args T (xsAt T 0) (xsAt T 1) (gAt T 0) (gAt T 1)
theorem sm35ns_ok : SmOk prog (fun _ => none) 35 sm35ns := fun args T h => sm35nsc_ok h
noncomputable def sm35snc (args : List AVal) (T : Tab) (zs : List Int) (bs : List Int) (g0 : Nat) (g1 : Nat) : Res := ⟨[.tab T [some ⟨.ints .u8 zs, g0, false, 5⟩, some ⟨.ints .u8 bs, g1, false, 5⟩], .val (.tuple args) (.tuple [.slice 1 0 g0 0 16 (some 16), .slice 1 1 g1 0 16 none]), .leN 16 zs.length, .leN 16 bs.length, .p (Bytes zs), .p (Bytes bs)], .tuple [.slice 1 2 15 0 16 none, .int .i64 0], [some ⟨.ints .u8 zs, g0, false, 5⟩, some ⟨.ints .u8 bs, g1, false, 5⟩, some ⟨.ints .u8 (ptLaw (mwLaw (gwLaw (subLaw zs 0 16)) (gwLaw (subLaw bs 0 16)))), 15, true, 5⟩]⟩
theorem sm35snc_ok {args : List AVal} {T : Tab} {zs : List Int} {bs : List Int} {g0 : Nat} {g1 : Nat} (h : allP (sm35snc args T zs bs g0 g1).cs) : Small prog (fun _ => none) 35 args T (sm35snc args T zs bs g0 g1).val (sm35snc args T zs bs g0 g1).tab := by
  obtain ⟨hT, hv, h1, h2, h3, h4, _⟩ := h
  simp only [Con.h] at hT hv h1 h2 h3 h4
  injection hv with hv
  subst hT hv
  have w1 := WpLaw.gw (sub_bytes h3 0 16) (subLaw_len (by omega))
  have w2 := WpLaw.gw (sub_bytes h4 0 16) (subLaw_len (by omega))
  have w3 := w1.mw (q := gwLaw (subLaw bs 0 16))
  refine small_ofG (R := R35sn zs bs g0 g1) (keep := [0,1,2]) eGp_ok hmA (f := 35) (fn := f35) (by kernel_rfl) (by kernel_rfl) FnOrc.nil rfl (R35sn_ok ?_) R35sn_val R35sn_tab
  simp only [allP, Con.h, w1, w2, w3, h1, h2, h3, h4, eq_self, true_and, and_true]
noncomputable def sm35sn : Summary := fun args T => sm35snc args T (xsAt T 0) (xsAt T 1) (gAt T 0) (gAt T 1)
theorem sm35sn_ok : SmOk prog (fun _ => none) 35 sm35sn := fun args T h => sm35snc_ok h
noncomputable def sm35ssc (args : List AVal) (T : Tab) (zs : List Int) (bs : List Int) (g0 : Nat) (g1 : Nat) : Res := ⟨[.tab T [some ⟨.ints .u8 zs, g0, false, 5⟩, some ⟨.ints .u8 bs, g1, false, 5⟩], .val (.tuple args) (.tuple [.slice 1 0 g0 0 16 (some 16), .slice 1 1 g1 0 16 (some 16)]), .leN 16 zs.length, .leN 16 bs.length, .p (Bytes zs), .p (Bytes bs)], .tuple [.slice 1 2 15 0 16 none, .int .i64 0], [some ⟨.ints .u8 zs, g0, false, 5⟩, some ⟨.ints .u8 bs, g1, false, 5⟩, some ⟨.ints .u8 (ptLaw (mwLaw (gwLaw (subLaw zs 0 16)) (gwLaw (subLaw bs 0 16)))), 15, true, 5⟩]⟩
theorem sm35ssc_ok {args : List AVal} {T : Tab} {zs : List Int} {bs : List Int} {g0 : Nat} {g1 : Nat} (h : allP (sm35ssc args T zs bs g0 g1).cs) : Small prog (fun _ => none) 35 args T (sm35ssc args T zs bs g0 g1).val (sm35ssc args T zs bs g0 g1).tab := by
  obtain ⟨hT, hv, h1, h2, h3, h4, _⟩ := h
  simp only [Con.h] at hT hv h1 h2 h3 h4
  injection hv with hv
  subst hT hv
  have w1 := WpLaw.gw (sub_bytes h3 0 16) (subLaw_len (by omega))
  have w2 := WpLaw.gw (sub_bytes h4 0 16) (subLaw_len (by omega))
  have w3 := w1.mw (q := gwLaw (subLaw bs 0 16))
  refine small_ofG (R := R35ss zs bs g0 g1) (keep := [0,1,2]) eGp_ok hmA (f := 35) (fn := f35) (by kernel_rfl) (by kernel_rfl) FnOrc.nil rfl (R35ss_ok ?_) R35ss_val R35ss_tab
  simp only [allP, Con.h, w1, w2, w3, h1, h2, h3, h4, eq_self, true_and, and_true]
noncomputable def sm35ss : Summary := fun args T => sm35ssc args T (xsAt T 0) (xsAt T 1) (gAt T 0) (gAt T 1)
theorem sm35ss_ok : SmOk prog (fun _ => none) 35 sm35ss := fun args T h => sm35ssc_ok h
noncomputable def sm35 : Summary := fun args T => match capOf (vAt args 0), capOf (vAt args 1) with
  | none, none => sm35nn args T
  | none, some _ => sm35ns args T
  | some _, none => sm35sn args T
  | some _, some _ => sm35ss args T
theorem sm35_ok : SmOk prog (fun _ => none) 35 sm35 := fun args T h => by
  unfold sm35 at h ⊢
  split at h
  · exact sm35nn_ok args T h
  · exact sm35ns_ok args T h
  · exact sm35sn_ok args T h
  · exact sm35ss_ok args T h
noncomputable def S35 : Summary := callR sm35 []
theorem S35_ok : SumOk prog (fun _ => none) 35 S35 := callR_ok sm35_ok []
noncomputable def sm35xc (args : List AVal) (T : Tab) (zs : List Int) (bs : List Int) (g0 : Nat) (g1 : Nat) (n0 : Nat) (n1 : Nat) (cp0 : Option Nat) (cp1 : Option Nat) : Res := ⟨[.tab T [some ⟨.ints .u8 zs, g0, false, 5⟩, some ⟨.ints .u8 bs, g1, false, 5⟩], .val (.tuple args) (.tuple [.slice 1 0 g0 0 n0 cp0, .slice 1 1 g1 0 n1 cp1]), .p (n0 ≠ 16 ∨ n1 ≠ 16)], .tuple [.nilSlice, .int .i64 1], [some ⟨.ints .u8 zs, g0, false, 5⟩, some ⟨.ints .u8 bs, g1, false, 5⟩]⟩
theorem sm35xc_ok {args : List AVal} {T : Tab} {zs : List Int} {bs : List Int} {g0 : Nat} {g1 : Nat} {n0 : Nat} {n1 : Nat} {cp0 : Option Nat} {cp1 : Option Nat} (h : allP (sm35xc args T zs bs g0 g1 n0 n1 cp0 cp1).cs) : Small prog (fun _ => none) 35 args T (sm35xc args T zs bs g0 g1 n0 n1 cp0 cp1).val (sm35xc args T zs bs g0 g1 n0 n1 cp0 cp1).tab := by
  obtain ⟨hT, hv, h1, _⟩ := h
  simp only [Con.h] at hT hv h1
  injection hv with hv
  subst hT hv
  by_cases h : n0 = 16
  · subst h
    have h2 := neq16 (h1.resolve_left (fun h => h rfl))
    refine small_ofG (R := R35b zs bs g0 g1 16 n1 cp0 cp1) (keep := [0,1]) eGp_ok hmA (f := 35) (fn := f35) (by kernel_rfl) (by kernel_rfl) FnOrc.nil rfl (R35b_ok ?_) R35b_val R35b_tab
    simp only [allP, Con.h, h2, eq16, eq_self, true_and, and_true]
  · refine small_ofG (R := R35a zs bs g0 g1 n0 n1 cp0 cp1) (keep := [0,1]) eGp_ok hmA (f := 35) (fn := f35) (by kernel_rfl) (by kernel_rfl) FnOrc.nil rfl (R35a_ok ?_) R35a_val R35a_tab
    simp only [allP, Con.h, neq16 h, eq_self, true_and, and_true]
noncomputable def sm35x : Summary := fun args T => sm35xc args T (xsAt T 0) (xsAt T 1) (gAt T 0) (gAt T 1) (lenOf (vAt args 0)) (lenOf (vAt args 1)) (capOf (vAt args 0)) (capOf (vAt args 1))
theorem sm35x_ok : SmOk prog (fun _ => none) 35 sm35x := fun args T h => sm35xc_ok h
noncomputable def S35x : Summary := callR sm35x []
theorem S35x_ok : SumOk prog (fun _ => none) 35 S35x := callR_ok sm35x_ok []
noncomputable def sm37nc (args : List AVal) (T : Tab) (zs : List Int) (bs : List Int) (g0 : Nat) (g1 : Nat) (n1 : Nat) : Res := ⟨[.tab T [some ⟨.ints .u8 zs, g0, false, 5⟩, some ⟨.ints .u8 bs, g1, false, 5⟩], .val (.tuple args) (.tuple [.slice 1 0 g0 0 16 none, .slice 1 1 g1 0 n1 none]), .leN 16 zs.length, .leN n1 bs.length, .p (Bytes zs), .p (Bytes bs), .leN n1 140737488352000], .tuple [.slice 1 2 15 0 16 none, .int .i64 0], [some ⟨.ints .u8 zs, g0, false, 5⟩, some ⟨.ints .u8 bs, g1, false, 5⟩, some ⟨.ints .u8 (ptLaw (hsLaw (gwLaw (subLaw zs 0 16)) [0, 0] bs n1)), 15, true, 5⟩]⟩
theorem sm37nc_ok {args : List AVal} {T : Tab} {zs : List Int} {bs : List Int} {g0 : Nat} {g1 : Nat} {n1 : Nat} (h : allP (sm37nc args T zs bs g0 g1 n1).cs) : Small prog (fun _ => none) 37 args T (sm37nc args T zs bs g0 g1 n1).val (sm37nc args T zs bs g0 g1 n1).tab := by
  obtain ⟨hT, hv, h1, h2, h3, h4, h5, _⟩ := h
  simp only [Con.h] at hT hv h1 h2 h3 h4 h5
  injection hv with hv
  subst hT hv
  have w1 := WpLaw.gw (sub_bytes h3 0 16) (subLaw_len (by omega))
  have w2 := hs_wp (h := gwLaw (subLaw zs 0 16)) WpLaw.zero h2 h4
  refine small_ofG (R := R37n zs bs g0 g1 n1) (keep := [0,1,3]) eGp_ok hmA (f := 37) (fn := f37) (by kernel_rfl) (by kernel_rfl) FnOrc.nil rfl (R37n_ok ?_) R37n_val R37n_tab
  simp only [allP, Con.h, w1, w2, h1, h2, h3, h4, h5, eq_self, true_and, and_true]
noncomputable def sm37n : Summary := fun args T => sm37nc args T (xsAt T 0) (xsAt T 1) (gAt T 0) (gAt T 1) (lenOf (vAt args 1))
theorem sm37n_ok : SmOk prog (fun _ => none) 37 sm37n := fun args T h => sm37nc_ok h
noncomputable def sm37sc (args : List AVal) (T : Tab) (zs : List Int) (bs : List Int) (g0 : Nat) (g1 : Nat) (n1 : Nat) (c1 : Nat) : Res := ⟨[.tab T [some ⟨.ints .u8 zs, g0, false, 5⟩, some ⟨.ints .u8 bs, g1, false, 5⟩], .val (.tuple args) (.tuple [.slice 1 0 g0 0 16 (some 16), .slice 1 1 g1 0 n1 (some c1)]), .leN 16 zs.length, .leN n1 bs.length, .p (Bytes zs), .p (Bytes bs), .leN n1 140737488352000], .tuple [.slice 1 3 15 0 16 none, .int .i64 0], [some ⟨.ints .u8 zs, g0, false, 5⟩, some ⟨.ints .u8 bs, g1, false, 5⟩, some ⟨.ints .u8 (List.take n1 bs), g1, false, 5⟩, some ⟨.ints .u8 (ptLaw (hsLaw (gwLaw (subLaw zs 0 16)) [0, 0] (List.take n1 bs) n1)), 15, true, 5⟩]⟩
theorem sm37sc_ok {args : List AVal} {T : Tab} {zs : List Int} {bs : List Int} {g0 : Nat} {g1 : Nat} {n1 : Nat} {c1 : Nat} (h : allP (sm37sc args T zs bs g0 g1 n1 c1).cs) : Small prog (fun _ => none) 37 args T (sm37sc args T zs bs g0 g1 n1 c1).val (sm37sc args T zs bs g0 g1 n1 c1).tab := by
  obtain ⟨hT, hv, h1, h2, h3, h4, h5, _⟩ := h
  simp only [Con.h] at hT hv h1 h2 h3 h4 h5
  injection hv with hv
  subst hT hv
  have w1 := WpLaw.gw (sub_bytes h3 0 16) (subLaw_len (by omega))
  have w2 := hs_wp (h := gwLaw (subLaw zs 0 16)) WpLaw.zero h2 h4
  have h2' : n1 ≤ (List.take n1 bs).length := by rw [List.length_take]; omega
  have h4' : Bytes (List.take n1 bs) := h4.take n1
  have w3 := hs_wp (h := gwLaw (subLaw zs 0 16)) WpLaw.zero h2' h4'
  refine small_cap 1 1 g1 n1 c1 bs 5 rfl rfl h2 rfl rfl (small_ofG (R := R37s zs bs g0 g1 n1) (keep := [0,1,2,4]) eGp_ok hmA (f := 37) (fn := f37) (by kernel_rfl) (by kernel_rfl) FnOrc.nil rfl (R37s_ok ?_) R37s_val R37s_tab)
  simp only [allP, Con.h, w1, w3, h1, h2', h3, h4', h5, eq_self, true_and, and_true]
noncomputable def sm37s : Summary := fun args T => sm37sc args T (xsAt T 0) (xsAt T 1) (gAt T 0) (gAt T 1) (lenOf (vAt args 1)) ((capOf (vAt args 1)).getD 0)
theorem sm37s_ok : SmOk prog (fun _ => none) 37 sm37s := fun args T h => sm37sc_ok h
noncomputable def sm37 : Summary := fun args T => match capOf (vAt args 1) with
  | none => sm37n args T
  | some _ => sm37s args T
theorem sm37_ok : SmOk prog (fun _ => none) 37 sm37 := fun args T h => by
  unfold sm37 at h ⊢
  split at h
  · exact sm37n_ok args T h
  · exact sm37s_ok args T h
noncomputable def S37 : Summary := callR sm37 []
theorem S37_ok : SumOk prog (fun _ => none) 37 S37 := callR_ok sm37_ok []
noncomputable def sm37xc (args : List AVal) (T : Tab) (zs : List Int) (bs : List Int) (g0 : Nat) (g1 : Nat) (n0 : Nat) (n1 : Nat) (cp0 : Option Nat) (cp1 : Option Nat) : Res := ⟨[.tab T [some ⟨.ints .u8 zs, g0, false, 5⟩, some ⟨.ints .u8 bs, g1, false, 5⟩], .val (.tuple args) (.tuple [.slice 1 0 g0 0 n0 cp0, .slice 1 1 g1 0 n1 cp1]), .p (n0 ≠ 16)], .tuple [.nilSlice, .int .i64 1], [some ⟨.ints .u8 zs, g0, false, 5⟩, some ⟨.ints .u8 bs, g1, false, 5⟩]⟩
theorem sm37xc_ok {args : List AVal} {T : Tab} {zs : List Int} {bs : List Int} {g0 : Nat} {g1 : Nat} {n0 : Nat} {n1 : Nat} {cp0 : Option Nat} {cp1 : Option Nat} (h : allP (sm37xc args T zs bs g0 g1 n0 n1 cp0 cp1).cs) : Small prog (fun _ => none) 37 args T (sm37xc args T zs bs g0 g1 n0 n1 cp0 cp1).val (sm37xc args T zs bs g0 g1 n0 n1 cp0 cp1).tab := by
  obtain ⟨hT, hv, h1, _⟩ := h
  simp only [Con.h] at hT hv h1
  injection hv with hv
  subst hT hv
  refine small_ofG (R := R37a zs bs g0 g1 n0 n1 cp0 cp1) (keep := [0,1]) eGp_ok hmA (f := 37) (fn := f37) (by kernel_rfl) (by kernel_rfl) FnOrc.nil rfl (R37a_ok ?_) R37a_val R37a_tab
  simp only [allP, Con.h, neq16 h1, eq_self, true_and, and_true]
noncomputable def sm37x : Summary := fun args T => sm37xc args T (xsAt T 0) (xsAt T 1) (gAt T 0) (gAt T 1) (lenOf (vAt args 0)) (lenOf (vAt args 1)) (capOf (vAt args 0)) (capOf (vAt args 1))
theorem sm37x_ok : SmOk prog (fun _ => none) 37 sm37x := fun args T h => sm37xc_ok h
noncomputable def S37x : Summary := callR sm37x []
theorem S37x_ok : SumOk prog (fun _ => none) 37 S37x := callR_ok sm37x_ok []
noncomputable def sm28Ac (args : List AVal) (T : Tab) (zs : List Int) (ns : List Int) (gk : Nat) (gn : Nat) (cpk : Option Nat) (cpn : Option Nat) (ms : List Int) (ts : List Int) (gm : Nat) (gt : Nat) (n : Nat) (m : Nat) : Res := ⟨[.tab T [some ⟨.ints .u8 zs, gk, false, 5⟩, some ⟨.ints .u8 ns, gn, false, 5⟩, some ⟨.ints .u8 ms, gm, false, 5⟩, some ⟨.ints .u8 ts, gt, false, 5⟩], .val (.tuple args) (.tuple [.slice 1 0 gk 0 16 cpk, .slice 1 1 gn 0 12 cpn, .slice 1 2 gm 0 m none, .slice 1 3 gt 0 n none]), .leN 16 zs.length, .leN 12 ns.length, .p (Bytes zs), .p (Bytes ns), .leN m ms.length, .leN m 65536, .p (Bytes ms), .leN n ts.length, .leN n 65536, .p (Bytes ts)], .tuple [.slice 1 4 2 0 (n + 16) none, .int .i64 0], [some ⟨.ints .u8 zs, gk, false, 5⟩, some ⟨.ints .u8 ns, gn, false, 5⟩, some ⟨.ints .u8 ms, gm, false, 5⟩, some ⟨.ints .u8 ts, gt, false, 5⟩, some ⟨.ints .u8 (sealLaw (subLaw zs 0 16) (subLaw ns 0 12) ms m (subLaw ts 0 n) n), 2, true, 5⟩]⟩
theorem sm28Ac_ok {args : List AVal} {T : Tab} {zs : List Int} {ns : List Int} {gk : Nat} {gn : Nat} {cpk : Option Nat} {cpn : Option Nat} {ms : List Int} {ts : List Int} {gm : Nat} {gt : Nat} {n : Nat} {m : Nat} (h : allP (sm28Ac args T zs ns gk gn cpk cpn ms ts gm gt n m).cs) : Small prog (fun _ => none) 28 args T (sm28Ac args T zs ns gk gn cpk cpn ms ts gm gt n m).val (sm28Ac args T zs ns gk gn cpk cpn ms ts gm gt n m).tab := by
  obtain ⟨hT, hv, h1, h2, h3, h4, h5, h6, h7, h8, h9, h10, _⟩ := h
  simp only [Con.h] at hT hv h1 h2 h3 h4 h5 h6 h7 h8 h9 h10
  injection hv with hv
  subst hT hv
  have b1 := sub_bytes h3 0 16
  have b2 := sub_bytes h4 0 12
  have lx : (subLaw ts 0 n).length = n := subLaw_len (by omega)
  have lt : (turnLaw (subLaw zs 0 16) (subLaw ns 0 12) (subLaw ts 0 n)).length = n := by rw [turn_len, lx]
  have bx := sub_bytes h10 0 n
  have bt := turn_bytes b1 b2 bx
  refine small_ofG (R := R28A zs ns gk gn cpk cpn ms ts gm gt n m) (keep := [0,1,2,3,5]) eGp_ok hmA (f := 28) (fn := f28) (by kernel_rfl) (by kernel_rfl) FnOrc.nil rfl (R28A_ok ?_) (by rw [R28A_val, addO_eq]; rfl) (by rw [R28A_tab, take_n lt, take_n (tag_len _ _ _ _ _ _)]; rfl)
  simp only [allP, Con.h, lx, lt, bt, addO_eq, h1, h2, h3, h4, h5, h7, h8, h10, decide_eq_false_iff_not, eq_self, true_and, and_true]
  omega
noncomputable def sm28A : Summary := fun args T => sm28Ac args T (xsAt T 0) (xsAt T 1) (gAt T 0) (gAt T 1) (capOf (vAt args 0)) (capOf (vAt args 1)) (xsAt T 2) (xsAt T 3) (gAt T 2) (gAt T 3) (lenOf (vAt args 3)) (lenOf (vAt args 2))
theorem sm28A_ok : SmOk prog (fun _ => none) 28 sm28A := fun args T h => sm28Ac_ok h
noncomputable def sm28Bc (args : List AVal) (T : Tab) (zs : List Int) (ns : List Int) (gk : Nat) (gn : Nat) (cpk : Option Nat) (cpn : Option Nat) (ts : List Int) (gt : Nat) (n : Nat) : Res := ⟨[.tab T [some ⟨.ints .u8 zs, gk, false, 5⟩, some ⟨.ints .u8 ns, gn, false, 5⟩, some ⟨.ints .u8 ts, gt, false, 5⟩], .val (.tuple args) (.tuple [.slice 1 0 gk 0 16 cpk, .slice 1 1 gn 0 12 cpn, .nilSlice, .slice 1 2 gt 0 n none]), .leN 16 zs.length, .leN 12 ns.length, .p (Bytes zs), .p (Bytes ns), .leN n ts.length, .leN n 65536, .p (Bytes ts)], .tuple [.slice 1 4 2 0 (n + 16) none, .int .i64 0], [some ⟨.ints .u8 zs, gk, false, 5⟩, some ⟨.ints .u8 ns, gn, false, 5⟩, some ⟨.ints .u8 ts, gt, false, 5⟩, some ⟨.ints .u8 [], 0, true, 5⟩, some ⟨.ints .u8 (sealLaw (subLaw zs 0 16) (subLaw ns 0 12) [] 0 (subLaw ts 0 n) n), 2, true, 5⟩]⟩
theorem sm28Bc_ok {args : List AVal} {T : Tab} {zs : List Int} {ns : List Int} {gk : Nat} {gn : Nat} {cpk : Option Nat} {cpn : Option Nat} {ts : List Int} {gt : Nat} {n : Nat} (h : allP (sm28Bc args T zs ns gk gn cpk cpn ts gt n).cs) : Small prog (fun _ => none) 28 args T (sm28Bc args T zs ns gk gn cpk cpn ts gt n).val (sm28Bc args T zs ns gk gn cpk cpn ts gt n).tab := by
  obtain ⟨hT, hv, h1, h2, h3, h4, h5, h6, h7, _⟩ := h
  simp only [Con.h] at hT hv h1 h2 h3 h4 h5 h6 h7
  injection hv with hv
  subst hT hv
  have b1 := sub_bytes h3 0 16
  have b2 := sub_bytes h4 0 12
  have lx : (subLaw ts 0 n).length = n := subLaw_len (by omega)
  have lt : (turnLaw (subLaw zs 0 16) (subLaw ns 0 12) (subLaw ts 0 n)).length = n := by rw [turn_len, lx]
  have bx := sub_bytes h7 0 n
  have bt := turn_bytes b1 b2 bx
  have b0 : Bytes [] := fun i hi => absurd hi (Nat.not_lt_zero i)
  refine small_fill (args2 := [.slice 1 0 gk 0 16 cpk, .slice 1 1 gn 0 12 cpn, .slice 1 3 0 0 0 none, .slice 1 2 gt 0 n none]) (T2 := [some ⟨.ints .u8 zs, gk, false, 5⟩, some ⟨.ints .u8 ns, gn, false, 5⟩, some ⟨.ints .u8 ts, gt, false, 5⟩, some ⟨.ints .u8 [], 0, true, 5⟩]) rfl rfl ?_
  refine small_ofG (R := R28B zs ns gk gn cpk cpn ts gt n) (keep := [0,1,2,3,5]) eGp_ok hmA (f := 28) (fn := f28) (by kernel_rfl) (by kernel_rfl) FnOrc.nil rfl (R28B_ok ?_) (by rw [R28B_val, addO_eq]; rfl) (by rw [R28B_tab, take_n lt, take_n (tag_len _ _ _ _ _ _)]; rfl)
  simp only [allP, Con.h, lx, lt, bt, b0, addO_eq, h1, h2, h3, h4, h5, h7, decide_eq_false_iff_not, eq_self, true_and, and_true]
  omega
noncomputable def sm28B : Summary := fun args T => sm28Bc args T (xsAt T 0) (xsAt T 1) (gAt T 0) (gAt T 1) (capOf (vAt args 0)) (capOf (vAt args 1)) (xsAt T 2) (gAt T 2) (lenOf (vAt args 3))
theorem sm28B_ok : SmOk prog (fun _ => none) 28 sm28B := fun args T h => sm28Bc_ok h
noncomputable def sm28Cc (args : List AVal) (T : Tab) (zs : List Int) (ns : List Int) (gk : Nat) (gn : Nat) (cpk : Option Nat) (cpn : Option Nat) : Res := ⟨[.tab T [some ⟨.ints .u8 zs, gk, false, 5⟩, some ⟨.ints .u8 ns, gn, false, 5⟩], .val (.tuple args) (.tuple [.slice 1 0 gk 0 16 cpk, .slice 1 1 gn 0 12 cpn, .nilSlice, .nilSlice]), .leN 16 zs.length, .leN 12 ns.length, .p (Bytes zs), .p (Bytes ns)], .tuple [.slice 1 3 2 0 16 none, .int .i64 0], [some ⟨.ints .u8 zs, gk, false, 5⟩, some ⟨.ints .u8 ns, gn, false, 5⟩, some ⟨.ints .u8 [], 0, true, 5⟩, some ⟨.ints .u8 (tagLaw (subLaw zs 0 16) (subLaw ns 0 12) [] 0 [] 0), 2, true, 5⟩]⟩
theorem sm28Cc_ok {args : List AVal} {T : Tab} {zs : List Int} {ns : List Int} {gk : Nat} {gn : Nat} {cpk : Option Nat} {cpn : Option Nat} (h : allP (sm28Cc args T zs ns gk gn cpk cpn).cs) : Small prog (fun _ => none) 28 args T (sm28Cc args T zs ns gk gn cpk cpn).val (sm28Cc args T zs ns gk gn cpk cpn).tab := by
  obtain ⟨hT, hv, h1, h2, h3, h4, _⟩ := h
  simp only [Con.h] at hT hv h1 h2 h3 h4
  injection hv with hv
  subst hT hv
  have b1 := sub_bytes h3 0 16
  have b2 := sub_bytes h4 0 12
  have b0 : Bytes [] := fun i hi => absurd hi (Nat.not_lt_zero i)
  have e0 : subLaw [] 0 0 = [] := rfl
  have e1 : turnLaw (subLaw zs 0 16) (subLaw ns 0 12) [] = [] := rfl
  refine small_fill (args2 := [.slice 1 0 gk 0 16 cpk, .slice 1 1 gn 0 12 cpn, .slice 1 2 0 0 0 none, .slice 1 2 0 0 0 none]) (T2 := [some ⟨.ints .u8 zs, gk, false, 5⟩, some ⟨.ints .u8 ns, gn, false, 5⟩, some ⟨.ints .u8 [], 0, true, 5⟩]) rfl rfl ?_
  refine small_ofG (R := R28C zs ns gk gn cpk cpn) (keep := [0,1,2,4]) eGp_ok hmA (f := 28) (fn := f28) (by kernel_rfl) (by kernel_rfl) FnOrc.nil rfl (R28C_ok ?_) R28C_val (by rw [R28C_tab, e0, e1, take_n (tag_len _ _ _ _ _ _)]; rfl)
  rw [e0, e1]
  simp only [allP, Con.h, b0, h1, h2, h3, h4, eq_self, true_and, and_true]
noncomputable def sm28C : Summary := fun args T => sm28Cc args T (xsAt T 0) (xsAt T 1) (gAt T 0) (gAt T 1) (capOf (vAt args 0)) (capOf (vAt args 1))
theorem sm28C_ok : SmOk prog (fun _ => none) 28 sm28C := fun args T h => sm28Cc_ok h
noncomputable def sm28 : Summary := fun args T => match vAt args 2, vAt args 3 with
  | .nilSlice, .nilSlice => sm28C args T
  | .nilSlice, _ => sm28B args T
  | _, _ => sm28A args T
theorem sm28_ok : SmOk prog (fun _ => none) 28 sm28 := fun args T h => by
  unfold sm28 at h ⊢
  split at h
  · exact sm28C_ok args T h
  · exact sm28B_ok args T h
  · exact sm28A_ok args T h
noncomputable def S28 : Summary := callR sm28 []
theorem S28_ok : SumOk prog (fun _ => none) 28 S28 := callR_ok sm28_ok []
noncomputable def sm32Cc (args : List AVal) (T : Tab) (zs : List Int) (ns : List Int) (gk : Nat) (gn : Nat) (cpk : Option Nat) (cpn : Option Nat) (ts : List Int) (gt : Nat) (n : Nat) (c : Nat) : Res := ⟨[.tab T [some ⟨.ints .u8 zs, gk, false, 5⟩, some ⟨.ints .u8 ns, gn, false, 5⟩, some ⟨.ints .u8 ts, gt, false, 5⟩], .val (.tuple args) (.tuple [.slice 1 0 gk 0 16 cpk, .slice 1 1 gn 0 12 cpn, .nilSlice, .slice 1 2 gt 0 n (some c)]), .leN 16 zs.length, .leN 12 ns.length, .p (Bytes zs), .p (Bytes ns), .eqN n ts.length, .leN n 65552, .p (Bytes ts), .leN 16 n, .p (tagLaw (subLaw zs 0 16) (subLaw ns 0 12) [] 0 ts (n - 16) ≠ subLaw ts (n - 16) 16)], .tuple [.nilSlice, .int .i64 32], [some ⟨.ints .u8 zs, gk, false, 5⟩, some ⟨.ints .u8 ns, gn, false, 5⟩, some ⟨.ints .u8 ts, gt, false, 5⟩, some ⟨.ints .u8 [], 0, true, 5⟩, some ⟨.ints .u8 ts, gt, false, 5⟩]⟩
theorem sm32Cc_ok {args : List AVal} {T : Tab} {zs : List Int} {ns : List Int} {gk : Nat} {gn : Nat} {cpk : Option Nat} {cpn : Option Nat} {ts : List Int} {gt : Nat} {n : Nat} {c : Nat} (h : allP (sm32Cc args T zs ns gk gn cpk cpn ts gt n c).cs) : Small prog (fun _ => none) 32 args T (sm32Cc args T zs ns gk gn cpk cpn ts gt n c).val (sm32Cc args T zs ns gk gn cpk cpn ts gt n c).tab := by
  obtain ⟨hT, hv, h1, h2, h3, h4, h5, h6, h7, h8, h9, _⟩ := h
  simp only [Con.h] at hT hv h1 h2 h3 h4 h5 h6 h7 h8 h9
  injection hv with hv
  subst hT hv
  have e1 : ((n : Int) - 16).toNat = n - 16 := by omega
  have e2 : subO n (n - 16) = 16 := by rw [subO_eq]; omega
  have e3 : List.take 16 (dropO (n - 16) ts) = subLaw ts (n - 16) 16 := by rw [dropO_eq]; rfl
  have b0 : Bytes [] := fun i hi => absurd hi (Nat.not_lt_zero i)
  have et : List.take n ts = ts := List.take_of_length_le (by omega)
  refine small_fill (args2 := [.slice 1 0 gk 0 16 cpk, .slice 1 1 gn 0 12 cpn, .slice 1 3 0 0 0 none, .slice 1 2 gt 0 n (some c)]) (T2 := [some ⟨.ints .u8 zs, gk, false, 5⟩, some ⟨.ints .u8 ns, gn, false, 5⟩, some ⟨.ints .u8 ts, gt, false, 5⟩, some ⟨.ints .u8 [], 0, true, 5⟩]) rfl rfl ?_
  refine small_cap 3 2 gt n c ts 5 rfl rfl (by omega) rfl (T2 := [some ⟨.ints .u8 zs, gk, false, 5⟩, some ⟨.ints .u8 ns, gn, false, 5⟩, some ⟨.ints .u8 ts, gt, false, 5⟩, some ⟨.ints .u8 [], 0, true, 5⟩, some ⟨.ints .u8 ts, gt, false, 5⟩]) (by rw [et]; rfl) ?_
  refine small_ofG (R := R32C zs ns gk gn cpk cpn ts ts gt n) (keep := [0,1,2,3,4]) eGp_ok hmA (f := 32) (fn := f32) (by kernel_rfl) (by kernel_rfl) FnOrc.nil rfl (R32C_ok ?_) R32C_val R32C_tab
  have ne := gBytes_ne (tag_bytes (subLaw zs 0 16) (subLaw ns 0 12) [] 0 ts (n - 16)) (sub_bytes h7 (n - 16) 16) h9
  rw [e1, e2, e3, take_n (tag_len _ _ _ _ _ _), ne]
  simp only [allP, Con.h, b0, h1, h2, h3, h4, h7, decide_eq_false_iff_not, eq_self, true_and, and_true]
  omega
noncomputable def sm32C : Summary := fun args T => sm32Cc args T (xsAt T 0) (xsAt T 1) (gAt T 0) (gAt T 1) (capOf (vAt args 0)) (capOf (vAt args 1)) (xsAt T 2) (gAt T 2) (lenOf (vAt args 3)) ((capOf (vAt args 3)).getD 0)
theorem sm32C_ok : SmOk prog (fun _ => none) 32 sm32C := fun args T h => sm32Cc_ok h
noncomputable def S32C : Summary := callR sm32C []
theorem S32C_ok : SumOk prog (fun _ => none) 32 S32C := callR_ok sm32C_ok []
end Go.Abs

set_option linter.unusedVariables false
set_option linter.unusedSimpArgs false
set_option maxRecDepth 8000
namespace Go.Abs
open Go.Proofs.Try
noncomputable def S30 : Summary := sumI modeO (eA []) f30 [] 100 [] []
theorem S30_ok : SumOk prog (fun _ => none) 30 S30 := sumI_ok eA0_ok hmA (fn := f30) (by kernel_rfl) (by kernel_rfl) [] FnOrc.nil 100 [] []
noncomputable def eGw : Env := eA [(28, S28), (30, S30), (32, S32C)]
theorem eGw_ok : EnvOk eGw := envOf_ok tysA_ok (SumsOk.cons (fn := f28) S28_ok (by kernel_rfl) (by kernel_rfl) (by kernel_rfl) (SumsOk.cons (fn := f30) S30_ok (by kernel_rfl) (by kernel_rfl) (by kernel_rfl) (SumsOk.cons (fn := f32) S32C_ok (by kernel_rfl) (by kernel_rfl) (by kernel_rfl) trivial)))
noncomputable def R31  : Res := resG 0 [] (runF eGw f31 [] 400 [] [] [none, some true, none, none, none, none, none, none, none, none])
theorem R31_ok  (h : allP [.p (Bytes [0, 0, 0, 0, 0, 0, 0, 0, 0, 0, 0, 0, 0, 0, 0, 0]), .p (Bytes [0, 0, 0, 0, 0, 0, 0, 0, 0, 0, 0, 0]), .p (Bytes [0, 0, 0, 0, 0, 0, 0, 0, 0, 0, 0, 0, 0, 0, 0, 0]), .p (Bytes [0, 0, 0, 0, 0, 0, 0, 0, 0, 0, 0, 0]), .p (Bytes [0, 0, 0, 0, 0, 0, 0, 0, 0, 0, 0, 0, 0, 0, 0, 0]), .p (tagLaw (subLaw [0, 0, 0, 0, 0, 0, 0, 0, 0, 0, 0, 0, 0, 0, 0, 0] 0 16) (subLaw [0, 0, 0,
 0, 0, 0, 0, 0, 0, 0, 0, 0] 0 12) [] 0 [0, 0, 0, 0, 0, 0, 0, 0, 0, 0, 0, 0, 0, 0, 0, 0] 0 ≠ subLaw [0, 0, 0, 0, 0, 0, 0, 0, 0, 0, 0, 0, 0, 0, 0, 0] 0 16), .p (true = true)]) : OkR (R31 ) := OkR.dem (fl := bitsF 59 286372715787557854) (by kernel_rfl) (by kernel_rfl) (by kernel_rfl) h
theorem R31_val  : (R31 ).val = .bool true := by kernel_rfl
theorem R31_tab  : (R31 ).tab = [] := by kernel_rfl
theorem knows_ne : tagLaw (subLaw [0, 0, 0, 0, 0, 0, 0, 0, 0, 0, 0, 0, 0, 0, 0, 0] 0 16) (subLaw [0, 0, 0, 0, 0, 0, 0, 0, 0, 0, 0, 0] 0 12) [] 0 [0, 0, 0, 0, 0, 0, 0, 0, 0, 0, 0, 0, 0, 0, 0, 0] 0 ≠ subLaw [0, 0, 0, 0, 0, 0, 0, 0, 0, 0, 0, 0, 0, 0, 0, 0] 0 16 := fun h => by
  have h1 : (tagLaw (subLaw [0, 0, 0, 0, 0, 0, 0, 0, 0, 0, 0, 0, 0, 0, 0, 0] 0 16) (subLaw [0, 0, 0, 0, 0, 0, 0, 0, 0, 0, 0, 0] 0 12) [] 0 [0, 0, 0, 0, 0, 0, 0, 0, 0, 0, 0, 0, 0, 0, 0, 0] 0).getD 0 0 = 88 := by kernel_rfl
  rw [h] at h1
  have h2 : (subLaw [0, 0, 0, 0, 0, 0, 0, 0, 0, 0, 0, 0, 0, 0, 0, 0] 0 16).getD 0 0 = 0 := rfl
  omega
noncomputable def sm31c (args : List AVal) (T : Tab) (u : Nat) : Res := ⟨[.tab T [], .val (.tuple args) (.tuple [])], .bool true, []⟩
theorem sm31c_ok {args : List AVal} {T : Tab} {u : Nat} (h : allP (sm31c args T u).cs) : Small prog (fun _ => none) 31 args T (sm31c args T u).val (sm31c args T u).tab := by
  obtain ⟨hT, hv, _⟩ := h
  simp only [Con.h] at hT hv
  injection hv with hv
  subst hT hv
  refine small_ofG (R := R31) (keep := []) eGw_ok hmA (f := 31) (fn := f31) (by kernel_rfl) (by kernel_rfl) FnOrc.nil rfl (R31_ok ?_) R31_val R31_tab
  have b1 : Bytes [0, 0, 0, 0, 0, 0, 0, 0, 0, 0, 0, 0, 0, 0, 0, 0] := Bytes.zer 16
  have b2 : Bytes [0, 0, 0, 0, 0, 0, 0, 0, 0, 0, 0, 0] := Bytes.zer 12
  simp only [allP, Con.h, b1, b2, eq_self, true_and, and_true]
  exact knows_ne
noncomputable def sm31 : Summary := fun args T => sm31c args T (0)
theorem sm31_ok : SmOk prog (fun _ => none) 31 sm31 := fun args T h => sm31c_ok h
noncomputable def S31 : Summary := callR sm31 []
theorem S31_ok : SumOk prog (fun _ => none) 31 S31 := callR_ok sm31_ok []
end Go.Abs

set_option linter.unusedVariables false
set_option linter.unusedSimpArgs false
set_option maxRecDepth 8000
namespace Go.Abs
open Go.Proofs.Try
/-! ### the document's products -/
noncomputable def S76 : Summary := sumI modeO (eA []) f76 [] 100 [] []
theorem S76_ok : SumOk prog (fun _ => none) 76 S76 := sumI_ok eA0_ok hmA (fn := f76) (by kernel_rfl) (by kernel_rfl) [] FnOrc.nil 100 [] []
noncomputable def eGb : Env := eA [(76, S76)]
theorem eGb_ok : EnvOk eGb := envOf_ok tysA_ok (SumsOk.cons (fn := f76) S76_ok (by kernel_rfl) (by kernel_rfl) (by kernel_rfl) trivial)
theorem l16_setG {f : Nat → Int} {k : Nat} (hk : k < 16) (v : Int) : (l16 f).set k v = l16 (fun j => if j = k then v else f j) := by
  match k, hk with
  | 0, _ => rfl | 1, _ => rfl | 2, _ => rfl | 3, _ => rfl | 4, _ => rfl | 5, _ => rfl | 6, _ => rfl | 7, _ => rfl
  | 8, _ => rfl | 9, _ => rfl | 10, _ => rfl | 11, _ => rfl | 12, _ => rfl | 13, _ => rfl | 14, _ => rfl | 15, _ => rfl
  | n + 16, h => exact absurd h (by omega)
def pxLaw (p x : List Int) (k : Nat) : List Int := l16 fun j => if j < k then ixor (p.getD j 0) (x.getD j 0) else p.getD j 0
theorem px_step {p x : List Int} {k : Nat} (hk : k < 16) : (pxLaw p x k).set k (ixor ((pxLaw p x k).getD k 0) (x.getD k 0)) = pxLaw p x (k + 1) := by
  unfold pxLaw
  rw [l16_setG hk, l16_get _ k hk, if_neg (Nat.lt_irrefl k)]
  refine l16_congr fun j hj => ?_
  by_cases h : j = k
  · subst h; rw [if_pos rfl, if_pos (Nat.lt_succ_self j)]
  · by_cases h2 : j < k
    · rw [if_neg h, if_pos h2, if_pos (by omega)]
    · rw [if_neg h, if_neg h2, if_neg (by omega)]
theorem px_len (p x : List Int) (k : Nat) : (pxLaw p x k).length = 16 := rfl
theorem px_bytes {p x : List Int} (hp : Bytes p) (hx : Bytes x) (k : Nat) : Bytes (pxLaw p x k) := l16_bytes fun j _ => by
  split
  · exact ixor_lt8 (hp.get j) (hx.get j)
  · exact hp.get j
theorem px_zero {p x : List Int} (h : p.length = 16) : pxLaw p x 0 = p := Eq.trans (l16_congr fun j _ => if_neg (Nat.not_lt_zero j)) (l16_of h)
theorem px_end (p x : List Int) : pxLaw p x 16 = plusLaw p x := l16_congr fun j hj => if_pos hj
noncomputable def A62 (az bz : List Int) (ga gb : Nat) (owa owb : Bool) (cb : Option Nat) (ps xs : List Int) (i k : Int) : Out := trim 4 4 [1,5,6,7,8] (run eGb 73 ⟨4, []⟩ 400 (roundOf 2 f62) [(1, .slice 1 1 gb 0 16 cb), (5, .slice 1 2 0 0 16 (some 16)), (6, .slice 1 3 1 0 16 none), (7, .int .i64 i), (8, .int .i64 k)] [some ⟨.ints .u8 az, ga, owa, 5⟩, some ⟨.ints .u8 bz, gb, owb, 5⟩, some ⟨.ints .u8 ps, 0, true, 5⟩, some ⟨.ints .u8 xs, 1, true, 5⟩] [some true])
theorem A62_ok {az bz : List Int} {ga gb : Nat} {owa owb : Bool} {cb : Option Nat} {ps xs : List Int} {i k : Int} (h : allP [.p (decide (k < 16) = true), .leI 0 k, .leI (k + 1) 16, .leN (k.toNat + 1) ps.length, .leI 0 k, .leI (k + 1) 16, .leN (k.toNat + 1) xs.length, .nn .u8 (ps.getD k.toNat 0), .nn .u8 (xs.getD k.toNat 0), .leI 0 k, .leI (k + 1) 16, .leN (k.toNat + 1) ps.length, .rng
 (-9223372036854775808) (k + 1) 9223372036854775807]) : Ok (A62 az bz ga gb owa owb cb ps xs i k) := Ok.dem (fl := bitsF 23 1459364) (by kernel_rfl) (by kernel_rfl) (by kernel_rfl) h
theorem A62_ex {az bz : List Int} {ga gb : Nat} {owa owb : Bool} {cb : Option Nat} {ps xs : List Int} {i k : Int} : (A62 az bz ga gb owa owb cb ps xs i k).ex = .normal := by kernel_rfl
theorem A62_fm {az bz : List Int} {ga gb : Nat} {owa owb : Bool} {cb : Option Nat} {ps xs : List Int} {i k : Int} : (A62 az bz ga gb owa owb cb ps xs i k).fm = [(1, .slice 1 1 gb 0 16 cb), (5, .slice 1 2 0 0 16 (some 16)), (6, .slice 1 3 1 0 16 none), (7, .int .i64 i), (8, .int .i64 (k + 1))] := by kernel_rfl
theorem A62_tab {az bz : List Int} {ga gb : Nat} {owa owb : Bool} {cb : Option Nat} {ps xs : List Int} {i k : Int} : (A62 az bz ga gb owa owb cb ps xs i k).tab = [some ⟨.ints .u8 az, ga, owa, 5⟩, some ⟨.ints .u8 bz, gb, owb, 5⟩, some ⟨.ints .u8 (ps.set k.toNat (ixor (ps.getD k.toNat 0) (xs.getD k.toNat 0))), 0, true, 5⟩, some ⟨.ints .u8 xs, 1, true, 5⟩] := by kernel_rfl
noncomputable def D62 (az bz : List Int) (ga gb : Nat) (owa owb : Bool) (cb : Option Nat) (ps xs : List Int) (i : Int) : Out := trim 4 4 [1,5,6,7] (run eGb 73 ⟨4, []⟩ 400 (roundOf 2 f62) [(1, .slice 1 1 gb 0 16 cb), (5, .slice 1 2 0 0 16 (some 16)), (6, .slice 1 3 1 0 16 none), (7, .int .i64 i), (8, .int .i64 16)] [some ⟨.ints .u8 az, ga, owa, 5⟩, some ⟨.ints .u8 bz, gb, owb, 5⟩, some ⟨.ints .u8 ps, 0, true, 5⟩, some ⟨.ints .u8 xs, 1, true, 5⟩] [])
theorem D62_ok {az bz : List Int} {ga gb : Nat} {owa owb : Bool} {cb : Option Nat} {ps xs : List Int} {i : Int} (h : allP []) : Ok (D62 az bz ga gb owa owb cb ps xs i) := Ok.dem (fl := []) (by kernel_rfl) (by kernel_rfl) (by kernel_rfl) h
theorem D62_ex {az bz : List Int} {ga gb : Nat} {owa owb : Bool} {cb : Option Nat} {ps xs : List Int} {i : Int} : (D62 az bz ga gb owa owb cb ps xs i).ex = .exit 2 := by kernel_rfl
theorem D62_fm {az bz : List Int} {ga gb : Nat} {owa owb : Bool} {cb : Option Nat} {ps xs : List Int} {i : Int} : (D62 az bz ga gb owa owb cb ps xs i).fm = [(1, .slice 1 1 gb 0 16 cb), (5, .slice 1 2 0 0 16 (some 16)), (6, .slice 1 3 1 0 16 none), (7, .int .i64 i)] := by kernel_rfl
theorem D62_tab {az bz : List Int} {ga gb : Nat} {owa owb : Bool} {cb : Option Nat} {ps xs : List Int} {i : Int} : (D62 az bz ga gb owa owb cb ps xs i).tab = [some ⟨.ints .u8 az, ga, owa, 5⟩, some ⟨.ints .u8 bz, gb, owb, 5⟩, some ⟨.ints .u8 ps, 0, true, 5⟩, some ⟨.ints .u8 xs, 1, true, 5⟩] := by kernel_rfl
theorem loop62a {az bz : List Int} {ga gb : Nat} {owa owb : Bool} {cb : Option Nat} {ps xs : List Int} (hp : Bytes ps) (hx : Bytes xs) (lp : ps.length = 16) (lx : xs.length = 16) (i : Int) : To eGb 73 4 (.block 2 (.loop (roundOf 2 f62))) [(1, .slice 1 1 gb 0 16 cb), (5, .slice 1 2 0 0 16 (some 16)), (6, .slice 1 3 1 0 16 none), (7, .int .i64 i), (8, .int .i64 0)] [some ⟨.ints .u8 az, ga, owa, 5⟩, some ⟨.ints .u8 bz, gb, owb, 5⟩, some ⟨.ints .u8 ps, 0, true, 5⟩, some ⟨.ints .u8 xs, 1, true, 5⟩] .normal [(1, .slice 1 1 gb 0 16 cb), (5, .slice 1 2 0 0 16 (some 16)), (6, .slice 1 3 1 0 16 none), (7, .int .i64 i)] [some ⟨.ints .u8 az, ga, owa, 5⟩, some ⟨.ints .u8 bz, gb, owb, 5⟩, some ⟨.ints .u8 (plusLaw ps xs), 0, true, 5⟩, some ⟨.ints .u8 xs, 1, true, 5⟩] := by
  have := To.rounds (E := eGb) (n := 73) (k := 4) (id := 2) (c := roundOf 2 f62) (fun k : Nat => [(1, .slice 1 1 gb 0 16 cb), (5, .slice 1 2 0 0 16 (some 16)), (6, .slice 1 3 1 0 16 none), (7, .int .i64 i), (8, .int .i64 (k : Nat))]) (fun k => [some ⟨.ints .u8 az, ga, owa, 5⟩, some ⟨.ints .u8 bz, gb, owb, 5⟩, some ⟨.ints .u8 (pxLaw ps xs k), 0, true, 5⟩, some ⟨.ints .u8 xs, 1, true, 5⟩]) 16 (fun k hk => ?_) (To.of (o := D62 az bz ga gb owa owb cb (pxLaw ps xs 16) xs i) eGb_ok hmA (Nat.le_refl 4) OrcOk.nil rfl (D62_ok trivial) D62_ex D62_fm D62_tab)
  · rw [px_zero lp, px_end] at this
    exact this
  · have h1 := (px_bytes hp hx k).get k
    have h2 := hx.get k
    refine To.of (o := A62 az bz ga gb owa owb cb (pxLaw ps xs k) xs i (k : Nat)) eGb_ok hmA (Nat.le_refl 4) OrcOk.nil rfl (A62_ok ?_) A62_ex A62_fm ?_
    · simp only [allP, Con.h, nonneg, addO_eq, Nat.zero_add, Nat.add_zero, Int.toNat_natCast, px_len, lx, decide_eq_true_eq, eq_self, true_and, and_true]
      omega
    · rw [A62_tab]
      simp only [addO_eq, Nat.zero_add, Nat.add_zero, Int.toNat_natCast]
      rw [px_step hk]
def hxLaw (x : List Int) (k : Nat) : List Int := l16 fun j => if k < j then ior (x.getD j 0 / 2) (x.getD (j - 1) 0 * 128 % 256) else x.getD j 0
theorem hx_step {x : List Int} {k : Nat} (hk : k + 1 < 16) : (hxLaw x (k + 1)).set (k + 1) (ior ((hxLaw x (k + 1)).getD (k + 1) 0 / 2) ((hxLaw x (k + 1)).getD k 0 * 128 % 256)) = hxLaw x k := by
  unfold hxLaw
  rw [l16_setG hk, l16_get _ _ hk, l16_get _ k (by omega), if_neg (Nat.lt_irrefl _), if_neg (by omega)]
  refine l16_congr fun j hj => ?_
  by_cases h : j = k + 1
  · subst h; rw [if_pos rfl, if_pos (Nat.lt_succ_self k)]; rfl
  · by_cases h2 : k + 1 < j
    · rw [if_neg h, if_pos h2, if_pos (by omega)]
    · rw [if_neg h, if_neg h2, if_neg (by omega)]
theorem hx_len (x : List Int) (k : Nat) : (hxLaw x k).length = 16 := rfl
theorem hx_byte {a b : Int} (ha : 0 ≤ a ∧ a < 256) : 0 ≤ ior (a / 2) (b * 128 % 256) ∧ ior (a / 2) (b * 128 % 256) < 256 := by
  have := Nat.or_lt_two_pow (n := 8) (x := (a / 2).toNat) (y := (b * 128 % 256).toNat) (by omega) (by omega)
  simp only [ior]
  omega
theorem hx_bytes {x : List Int} (hx : Bytes x) (k : Nat) : Bytes (hxLaw x k) := l16_bytes fun j _ => by
  split
  · exact hx_byte (hx.get j)
  · exact hx.get j
theorem hx_top {x : List Int} (h : x.length = 16) : hxLaw x 15 = x := Eq.trans (l16_congr fun j hj => if_neg (by omega)) (l16_of h)
def h1Law (x : List Int) : List Int := hxLaw x 0
noncomputable def G62 (az bz : List Int) (ga gb : Nat) (owa owb : Bool) (cb : Option Nat) (ps xs : List Int) (i k : Int) (t : Bool) : Out := trim 4 4 [1,5,6,7,9,10] (run eGb 73 ⟨4, []⟩ 400 (roundOf 4 f62) [(1, .slice 1 1 gb 0 16 cb), (5, .slice 1 2 0 0 16 (some 16)), (6, .slice 1 3 1 0 16 none), (7, .int .i64 i), (9, .bool t), (10, .int .i64 k)] [some ⟨.ints .u8 az, ga, owa, 5⟩, some ⟨.ints .u8 bz, gb, owb, 5⟩, some ⟨.ints .u8 ps, 0, true, 5⟩, some ⟨.ints .u8 xs, 1, true, 5⟩] [some true])
theorem G62_ok {az bz : List Int} {ga gb : Nat} {owa owb : Bool} {cb : Option Nat} {ps xs : List Int} {i k : Int} {t : Bool} (h : allP [.p (decide (0 < k) = true), .leI 0 k, .leI (k + 1) 16, .leN (k.toNat + 1) xs.length, .rng (-9223372036854775808) (k - 1) 9223372036854775807, .leI 0 (k - 1), .leI (k - 1 + 1) 16, .leN ((k - 1).toNat + 1) xs.length, .nn .u8 (xs.getD k.toNat 0 / 2), .nn .u8 (xs.getD
 (k - 1).toNat 0 * 128 % 256), .leI 0 k, .leI (k + 1) 16, .leN (k.toNat + 1) xs.length, .rng (-9223372036854775808) (k - 1) 9223372036854775807]) : Ok (G62 az bz ga gb owa owb cb ps xs i k t) := Ok.dem (fl := bitsF 26 11686564) (by kernel_rfl) (by kernel_rfl) (by kernel_rfl) h
theorem G62_ex {az bz : List Int} {ga gb : Nat} {owa owb : Bool} {cb : Option Nat} {ps xs : List Int} {i k : Int} {t : Bool} : (G62 az bz ga gb owa owb cb ps xs i k t).ex = .normal := by kernel_rfl
theorem G62_fm {az bz : List Int} {ga gb : Nat} {owa owb : Bool} {cb : Option Nat} {ps xs : List Int} {i k : Int} {t : Bool} : (G62 az bz ga gb owa owb cb ps xs i k t).fm = [(1, .slice 1 1 gb 0 16 cb), (5, .slice 1 2 0 0 16 (some 16)), (6, .slice 1 3 1 0 16 none), (7, .int .i64 i), (9, .bool t), (10, .int .i64 (k - 1))] := by kernel_rfl
theorem G62_tab {az bz : List Int} {ga gb : Nat} {owa owb : Bool} {cb : Option Nat} {ps xs : List Int} {i k : Int} {t : Bool} : (G62 az bz ga gb owa owb cb ps xs i k t).tab = [some ⟨.ints .u8 az, ga, owa, 5⟩, some ⟨.ints .u8 bz, gb, owb, 5⟩, some ⟨.ints .u8 ps, 0, true, 5⟩, some ⟨.ints .u8 (xs.set k.toNat (ior (xs.getD k.toNat 0 / 2) (xs.getD (k - 1).toNat 0 * 128 % 256))), 1, true, 5⟩] := by
 kernel_rfl
noncomputable def E62 (az bz : List Int) (ga gb : Nat) (owa owb : Bool) (cb : Option Nat) (ps xs : List Int) (i : Int) (t : Bool) : Out := trim 4 4 [1,5,6,7,9] (run eGb 73 ⟨4, []⟩ 400 (roundOf 4 f62) [(1, .slice 1 1 gb 0 16 cb), (5, .slice 1 2 0 0 16 (some 16)), (6, .slice 1 3 1 0 16 none), (7, .int .i64 i), (9, .bool t), (10, .int .i64 0)] [some ⟨.ints .u8 az, ga, owa, 5⟩, some ⟨.ints .u8 bz, gb, owb, 5⟩, some ⟨.ints .u8 ps, 0, true, 5⟩, some ⟨.ints .u8 xs, 1, true, 5⟩] [])
theorem E62_ok {az bz : List Int} {ga gb : Nat} {owa owb : Bool} {cb : Option Nat} {ps xs : List Int} {i : Int} {t : Bool} (h : allP []) : Ok (E62 az bz ga gb owa owb cb ps xs i t) := Ok.dem (fl := []) (by kernel_rfl) (by kernel_rfl) (by kernel_rfl) h
theorem E62_ex {az bz : List Int} {ga gb : Nat} {owa owb : Bool} {cb : Option Nat} {ps xs : List Int} {i : Int} {t : Bool} : (E62 az bz ga gb owa owb cb ps xs i t).ex = .exit 4 := by kernel_rfl
theorem E62_fm {az bz : List Int} {ga gb : Nat} {owa owb : Bool} {cb : Option Nat} {ps xs : List Int} {i : Int} {t : Bool} : (E62 az bz ga gb owa owb cb ps xs i t).fm = [(1, .slice 1 1 gb 0 16 cb), (5, .slice 1 2 0 0 16 (some 16)), (6, .slice 1 3 1 0 16 none), (7, .int .i64 i), (9, .bool t)] := by kernel_rfl
theorem E62_tab {az bz : List Int} {ga gb : Nat} {owa owb : Bool} {cb : Option Nat} {ps xs : List Int} {i : Int} {t : Bool} : (E62 az bz ga gb owa owb cb ps xs i t).tab = [some ⟨.ints .u8 az, ga, owa, 5⟩, some ⟨.ints .u8 bz, gb, owb, 5⟩, some ⟨.ints .u8 ps, 0, true, 5⟩, some ⟨.ints .u8 xs, 1, true, 5⟩] := by kernel_rfl
theorem loop62b {az bz : List Int} {ga gb : Nat} {owa owb : Bool} {cb : Option Nat} {ps xs : List Int} (hx : Bytes xs) (lx : xs.length = 16) (i : Int) (t : Bool) : To eGb 73 4 (.block 4 (.loop (roundOf 4 f62))) [(1, .slice 1 1 gb 0 16 cb), (5, .slice 1 2 0 0 16 (some 16)), (6, .slice 1 3 1 0 16 none), (7, .int .i64 i), (9, .bool t), (10, .int .i64 15)] [some ⟨.ints .u8 az, ga, owa, 5⟩, some ⟨.ints .u8 bz, gb, owb, 5⟩, some ⟨.ints .u8 ps, 0, true, 5⟩, some ⟨.ints .u8 xs, 1, true, 5⟩] .normal [(1, .slice 1 1 gb 0 16 cb), (5, .slice 1 2 0 0 16 (some 16)), (6, .slice 1 3 1 0 16 none), (7, .int .i64 i), (9, .bool t)] [some ⟨.ints .u8 az, ga, owa, 5⟩, some ⟨.ints .u8 bz, gb, owb, 5⟩, some ⟨.ints .u8 ps, 0, true, 5⟩, some ⟨.ints .u8 (h1Law xs), 1, true, 5⟩] := by
  have := To.rounds (E := eGb) (n := 73) (k := 4) (id := 4) (c := roundOf 4 f62) (fun k : Nat => [(1, .slice 1 1 gb 0 16 cb), (5, .slice 1 2 0 0 16 (some 16)), (6, .slice 1 3 1 0 16 none), (7, .int .i64 i), (9, .bool t), (10, .int .i64 (15 - (k : Int)))]) (fun k => [some ⟨.ints .u8 az, ga, owa, 5⟩, some ⟨.ints .u8 bz, gb, owb, 5⟩, some ⟨.ints .u8 ps, 0, true, 5⟩, some ⟨.ints .u8 (hxLaw xs (15 - k)), 1, true, 5⟩]) 15 (fun k hk => ?_) (To.of (o := E62 az bz ga gb owa owb cb ps (hxLaw xs (15 - 15)) i t) eGb_ok hmA (Nat.le_refl 4) OrcOk.nil rfl (E62_ok trivial) E62_ex E62_fm E62_tab)
  · rw [show (15 : Nat) - 0 = 15 by rfl, hx_top lx] at this
    exact this
  · obtain ⟨q, hq⟩ : ∃ q, 15 - k = q + 1 := ⟨14 - k, by omega⟩
    have h1 := (hx_bytes hx (q + 1)).get (q + 1)
    have h2 := (hx_bytes hx (q + 1)).get q
    have e1 : (15 - (k : Int)).toNat = q + 1 := by omega
    have e2 : (15 - (k : Int) - 1).toNat = q := by omega
    have e3 : 15 - (k + 1) = q := by omega
    refine To.of (o := G62 az bz ga gb owa owb cb ps (hxLaw xs (15 - k)) i (15 - (k : Int)) t) eGb_ok hmA (Nat.le_refl 4) OrcOk.nil rfl (G62_ok ?_) G62_ex ?_ ?_
    · rw [e1, e2, hq]
      simp only [allP, Con.h, nonneg, addO_eq, Nat.zero_add, Nat.add_zero, hx_len, decide_eq_true_eq, eq_self, true_and, and_true]
      omega
    · rw [G62_fm, show 15 - (k : Int) - 1 = 15 - ((k + 1 : Nat) : Int) by omega]
    · rw [G62_tab, e1, e2, hq, e3]
      try simp only [addO_eq, Nat.zero_add, Nat.add_zero]
      rw [hx_step (by omega)]
noncomputable def g62ac (vs : List AVal) (T : Tab) (az : List Int) (bz : List Int) (ga : Nat) (gb : Nat) (owa : Bool) (owb : Bool) (cb : Option Nat) (ps : List Int) (xs : List Int) (i : Int) : Out := ⟨[.tab T [some ⟨.ints .u8 az, ga, owa, 5⟩, some ⟨.ints .u8 bz, gb, owb, 5⟩, some ⟨.ints .u8 ps, 0, true, 5⟩, some ⟨.ints .u8 xs, 1, true, 5⟩], .val (.tuple vs) (.tuple [.slice 1 1 gb 0 16 cb, .slice 1 2 0 0 16 (some 16), .slice 1 3 1 0 16 none, .int .i64 i, .int .i64 0]), .p (Bytes ps), .p (Bytes xs), .eqN ps.length 16, .eqN xs.length 16], .normal, [(1, .slice 1 1 gb 0 16 cb), (5, .slice 1 2 0 0 16 (some 16)), (6, .slice 1 3 1 0 16 none), (7, .int .i64 i)], [some ⟨.ints .u8 az, ga, owa, 5⟩, some ⟨.ints .u8 bz, gb, owb, 5⟩, some ⟨.ints .u8 (plusLaw ps xs), 0, true, 5⟩, some ⟨.ints .u8 xs, 1, true, 5⟩], []⟩
theorem g62ac_ok {vs : List AVal} {T : Tab} {az : List Int} {bz : List Int} {ga : Nat} {gb : Nat} {owa : Bool} {owb : Bool} {cb : Option Nat} {ps : List Int} {xs : List Int} {i : Int} (h : Ok (g62ac vs T az bz ga gb owa owb cb ps xs i)) : To eGb 73 4 (.block 2 (.loop (roundOf 2 f62))) (zipF [1,5,6,7,8] vs) T (g62ac vs T az bz ga gb owa owb cb ps xs i).ex (g62ac vs T az bz ga gb owa owb cb ps xs i).fm (g62ac vs T az bz ga gb owa owb cb ps xs i).tab := by
  obtain ⟨hT, hv, h1, h2, h3, h4, _⟩ := h.h
  simp only [Con.h] at hT hv h1 h2 h3 h4
  injection hv with hv
  subst hT hv
  exact loop62a h1 h2 h3 h4 i
noncomputable def g62a : List AVal → Tab → Out := fun vs T => g62ac vs T (xsAt T 0) (xsAt T 1) (gAt T 0) (gAt T 1) (owAt T 0) (owAt T 1) (capOf (vAt vs 0)) (xsAt T 2) (xsAt T 3) (iOf (vAt vs 3))
theorem g62a_ok : BlkOk eGb f62 2 (.loop (roundOf 2 f62)) (blkS 4 [1,5,6,7,8] g62a) := blkS_ok fun vs T h => g62ac_ok h
noncomputable def g62bc (vs : List AVal) (T : Tab) (az : List Int) (bz : List Int) (ga : Nat) (gb : Nat) (owa : Bool) (owb : Bool) (cb : Option Nat) (ps : List Int) (xs : List Int) (i : Int) (t : Bool) : Out := ⟨[.tab T [some ⟨.ints .u8 az, ga, owa, 5⟩, some ⟨.ints .u8 bz, gb, owb, 5⟩, some ⟨.ints .u8 ps, 0, true, 5⟩, some ⟨.ints .u8 xs, 1, true, 5⟩], .val (.tuple vs) (.tuple [.slice 1 1 gb 0 16 cb, .slice 1 2 0 0 16 (some 16), .slice 1 3 1 0 16 none, .int .i64 i, .bool t, .int .i64 15]), .p (Bytes xs), .eqN xs.length 16], .normal, [(1, .slice 1 1 gb 0 16 cb), (5, .slice 1 2 0 0 16 (some 16)), (6, .slice 1 3 1 0 16 none), (7, .int .i64 i), (9, .bool t)], [some ⟨.ints .u8 az, ga, owa, 5⟩, some ⟨.ints .u8 bz, gb, owb, 5⟩, some ⟨.ints .u8 ps, 0, true, 5⟩, some ⟨.ints .u8 (h1Law xs), 1, true, 5⟩], []⟩
theorem g62bc_ok {vs : List AVal} {T : Tab} {az : List Int} {bz : List Int} {ga : Nat} {gb : Nat} {owa : Bool} {owb : Bool} {cb : Option Nat} {ps : List Int} {xs : List Int} {i : Int} {t : Bool} (h : Ok (g62bc vs T az bz ga gb owa owb cb ps xs i t)) : To eGb 73 4 (.block 4 (.loop (roundOf 4 f62))) (zipF [1,5,6,7,9,10] vs) T (g62bc vs T az bz ga gb owa owb cb ps xs i t).ex (g62bc vs T az bz ga gb owa owb cb ps xs i t).fm (g62bc vs T az bz ga gb owa owb cb ps xs i t).tab := by
  obtain ⟨hT, hv, h1, h2, _⟩ := h.h
  simp only [Con.h] at hT hv h1 h2
  injection hv with hv
  subst hT hv
  exact loop62b h1 h2 i t
noncomputable def g62b : List AVal → Tab → Out := fun vs T => g62bc vs T (xsAt T 0) (xsAt T 1) (gAt T 0) (gAt T 1) (owAt T 0) (owAt T 1) (capOf (vAt vs 0)) (xsAt T 2) (xsAt T 3) (iOf (vAt vs 3)) (bOf (vAt vs 4))
theorem g62b_ok : BlkOk eGb f62 4 (.loop (roundOf 4 f62)) (blkS 4 [1,5,6,7,9,10] g62b) := blkS_ok fun vs T h => g62bc_ok h
noncomputable def orc62i : OrcL := [(2, blkS 4 [1,5,6,7,8] g62a), (4, blkS 4 [1,5,6,7,9,10] g62b)]
theorem orc62i_ok {kb : Nat} : OrcOk eGb 73 ⟨kb, orc62i⟩ (roundOf 0 f62) := OrcOk.cons (fn := f62) g62a_ok (by kernel_rfl) (OrcOk.cons (fn := f62) g62b_ok (by kernel_rfl) OrcOk.nil)
noncomputable def O62tt (az bz : List Int) (ga gb : Nat) (owa owb : Bool) (cb : Option Nat) (ps xs : List Int) (i : Int) : Out := trim 4 4 [1,5,6,7] (run eGb 73 ⟨4, orc62i⟩ 400 (roundOf 0 f62) [(1, .slice 1 1 gb 0 16 cb), (5, .slice 1 2 0 0 16 (some 16)), (6, .slice 1 3 1 0 16 none), (7, .int .i64 i)] [some ⟨.ints .u8 az, ga, owa, 5⟩, some ⟨.ints .u8 bz, gb, owb, 5⟩, some ⟨.ints .u8 ps, 0, true, 5⟩, some ⟨.ints .u8 xs, 1, true, 5⟩] [some true, some true, some true])
theorem O62tt_ok {az bz : List Int} {ga gb : Nat} {owa owb : Bool} {cb : Option Nat} {ps xs : List Int} {i : Int} (h : allP [.p (decide (i < 128) = true), .eqN gb gb, .rng (-9223372036854775808) (i.tdiv 8) 9223372036854775807, .eqN gb gb, .leI 0 (i.tdiv 8), .leI (i.tdiv 8 + 1) 16, .eqN gb gb, .leN ((i.tdiv 8).toNat + 1) bz.length, .rng (-9223372036854775808) (7 - i.tmod 8) 9223372036854775807, .rng
 0 (7 - i.tmod 8) 18446744073709551615, .rng 0 (7 - i.tmod 8) 8, .nn .u8 (bz.getD (i.tdiv 8).toNat 0 / 2 ^ (7 - i.tmod 8).toNat), .p ((iand (bz.getD (i.tdiv 8).toNat 0 / 2 ^ (7 - i.tmod 8).toNat) 1 == 1) = true), .p (Bytes ps), .p (Bytes xs), .eqN ps.length 16, .eqN xs.length 16, .leN 16 xs.length, .nn .u8 (xs.getD 15 0 / 1), .p ((iand (xs.getD 15 0 / 1) 1 == 1) = true), .p (Bytes xs), .eqN
 xs.length 16, .nn .u8 (xs.getD 0 0 / 2), .rng (-9223372036854775808) (i + 1) 9223372036854775807]) : Ok (O62tt az bz ga gb owa owb cb ps xs i) := Ok.dem (fl := bitsF 69 294571442279024706052) (by kernel_rfl) (by kernel_rfl) (by kernel_rfl) h
theorem O62tt_ex {az bz : List Int} {ga gb : Nat} {owa owb : Bool} {cb : Option Nat} {ps xs : List Int} {i : Int} : (O62tt az bz ga gb owa owb cb ps xs i).ex = .normal := by kernel_rfl
theorem O62tt_fm {az bz : List Int} {ga gb : Nat} {owa owb : Bool} {cb : Option Nat} {ps xs : List Int} {i : Int} : (O62tt az bz ga gb owa owb cb ps xs i).fm = [(1, .slice 1 1 gb 0 16 cb), (5, .slice 1 2 0 0 16 (some 16)), (6, .slice 1 3 1 0 16 none), (7, .int .i64 (i + 1))] := by kernel_rfl
theorem O62tt_tab {az bz : List Int} {ga gb : Nat} {owa owb : Bool} {cb : Option Nat} {ps xs : List Int} {i : Int} : (O62tt az bz ga gb owa owb cb ps xs i).tab = [some ⟨.ints .u8 az, ga, owa, 5⟩, some ⟨.ints .u8 bz, gb, owb, 5⟩, some ⟨.ints .u8 (plusLaw ps xs), 0, true, 5⟩, some ⟨.ints .u8 (((h1Law xs).set 0 (xs.getD 0 0 / 2)).set 0 (ixor (xs.getD 0 0 / 2) 225)), 1, true, 5⟩] := by kernel_rfl
noncomputable def O62tf (az bz : List Int) (ga gb : Nat) (owa owb : Bool) (cb : Option Nat) (ps xs : List Int) (i : Int) : Out := trim 4 4 [1,5,6,7] (run eGb 73 ⟨4, orc62i⟩ 400 (roundOf 0 f62) [(1, .slice 1 1 gb 0 16 cb), (5, .slice 1 2 0 0 16 (some 16)), (6, .slice 1 3 1 0 16 none), (7, .int .i64 i)] [some ⟨.ints .u8 az, ga, owa, 5⟩, some ⟨.ints .u8 bz, gb, owb, 5⟩, some ⟨.ints .u8 ps, 0, true, 5⟩, some ⟨.ints .u8 xs, 1, true, 5⟩] [some true, some true, some false])
theorem O62tf_ok {az bz : List Int} {ga gb : Nat} {owa owb : Bool} {cb : Option Nat} {ps xs : List Int} {i : Int} (h : allP [.p (decide (i < 128) = true), .eqN gb gb, .rng (-9223372036854775808) (i.tdiv 8) 9223372036854775807, .eqN gb gb, .leI 0 (i.tdiv 8), .leI (i.tdiv 8 + 1) 16, .eqN gb gb, .leN ((i.tdiv 8).toNat + 1) bz.length, .rng (-9223372036854775808) (7 - i.tmod 8) 9223372036854775807, .rng
 0 (7 - i.tmod 8) 18446744073709551615, .rng 0 (7 - i.tmod 8) 8, .nn .u8 (bz.getD (i.tdiv 8).toNat 0 / 2 ^ (7 - i.tmod 8).toNat), .p ((iand (bz.getD (i.tdiv 8).toNat 0 / 2 ^ (7 - i.tmod 8).toNat) 1 == 1) = true), .p (Bytes ps), .p (Bytes xs), .eqN ps.length 16, .eqN xs.length 16, .leN 16 xs.length, .nn .u8 (xs.getD 15 0 / 1), .p ((iand (xs.getD 15 0 / 1) 1 == 1) = false), .p (Bytes xs), .eqN
 xs.length 16, .rng (-9223372036854775808) (i + 1) 9223372036854775807]) : Ok (O62tf az bz ga gb owa owb cb ps xs i) := Ok.dem (fl := bitsF 55 18012250484785668) (by kernel_rfl) (by kernel_rfl) (by kernel_rfl) h
theorem O62tf_ex {az bz : List Int} {ga gb : Nat} {owa owb : Bool} {cb : Option Nat} {ps xs : List Int} {i : Int} : (O62tf az bz ga gb owa owb cb ps xs i).ex = .normal := by kernel_rfl
theorem O62tf_fm {az bz : List Int} {ga gb : Nat} {owa owb : Bool} {cb : Option Nat} {ps xs : List Int} {i : Int} : (O62tf az bz ga gb owa owb cb ps xs i).fm = [(1, .slice 1 1 gb 0 16 cb), (5, .slice 1 2 0 0 16 (some 16)), (6, .slice 1 3 1 0 16 none), (7, .int .i64 (i + 1))] := by kernel_rfl
theorem O62tf_tab {az bz : List Int} {ga gb : Nat} {owa owb : Bool} {cb : Option Nat} {ps xs : List Int} {i : Int} : (O62tf az bz ga gb owa owb cb ps xs i).tab = [some ⟨.ints .u8 az, ga, owa, 5⟩, some ⟨.ints .u8 bz, gb, owb, 5⟩, some ⟨.ints .u8 (plusLaw ps xs), 0, true, 5⟩, some ⟨.ints .u8 ((h1Law xs).set 0 (xs.getD 0 0 / 2)), 1, true, 5⟩] := by kernel_rfl
noncomputable def O62ft (az bz : List Int) (ga gb : Nat) (owa owb : Bool) (cb : Option Nat) (ps xs : List Int) (i : Int) : Out := trim 4 4 [1,5,6,7] (run eGb 73 ⟨4, orc62i⟩ 400 (roundOf 0 f62) [(1, .slice 1 1 gb 0 16 cb), (5, .slice 1 2 0 0 16 (some 16)), (6, .slice 1 3 1 0 16 none), (7, .int .i64 i)] [some ⟨.ints .u8 az, ga, owa, 5⟩, some ⟨.ints .u8 bz, gb, owb, 5⟩, some ⟨.ints .u8 ps, 0, true, 5⟩, some ⟨.ints .u8 xs, 1, true, 5⟩] [some true, some false, some true])
theorem O62ft_ok {az bz : List Int} {ga gb : Nat} {owa owb : Bool} {cb : Option Nat} {ps xs : List Int} {i : Int} (h : allP [.p (decide (i < 128) = true), .eqN gb gb, .rng (-9223372036854775808) (i.tdiv 8) 9223372036854775807, .eqN gb gb, .leI 0 (i.tdiv 8), .leI (i.tdiv 8 + 1) 16, .eqN gb gb, .leN ((i.tdiv 8).toNat + 1) bz.length, .rng (-9223372036854775808) (7 - i.tmod 8) 9223372036854775807, .rng
 0 (7 - i.tmod 8) 18446744073709551615, .rng 0 (7 - i.tmod 8) 8, .nn .u8 (bz.getD (i.tdiv 8).toNat 0 / 2 ^ (7 - i.tmod 8).toNat), .p ((iand (bz.getD (i.tdiv 8).toNat 0 / 2 ^ (7 - i.tmod 8).toNat) 1 == 1) = false), .leN 16 xs.length, .nn .u8 (xs.getD 15 0 / 1), .p ((iand (xs.getD 15 0 / 1) 1 == 1) = true), .p (Bytes xs), .eqN xs.length 16, .nn .u8 (xs.getD 0 0 / 2), .rng (-9223372036854775808) (i +
 1) 9223372036854775807]) : Ok (O62ft az bz ga gb owa owb cb ps xs i) := Ok.dem (fl := bitsF 63 4602678785609777668) (by kernel_rfl) (by kernel_rfl) (by kernel_rfl) h
theorem O62ft_ex {az bz : List Int} {ga gb : Nat} {owa owb : Bool} {cb : Option Nat} {ps xs : List Int} {i : Int} : (O62ft az bz ga gb owa owb cb ps xs i).ex = .normal := by kernel_rfl
theorem O62ft_fm {az bz : List Int} {ga gb : Nat} {owa owb : Bool} {cb : Option Nat} {ps xs : List Int} {i : Int} : (O62ft az bz ga gb owa owb cb ps xs i).fm = [(1, .slice 1 1 gb 0 16 cb), (5, .slice 1 2 0 0 16 (some 16)), (6, .slice 1 3 1 0 16 none), (7, .int .i64 (i + 1))] := by kernel_rfl
theorem O62ft_tab {az bz : List Int} {ga gb : Nat} {owa owb : Bool} {cb : Option Nat} {ps xs : List Int} {i : Int} : (O62ft az bz ga gb owa owb cb ps xs i).tab = [some ⟨.ints .u8 az, ga, owa, 5⟩, some ⟨.ints .u8 bz, gb, owb, 5⟩, some ⟨.ints .u8 ps, 0, true, 5⟩, some ⟨.ints .u8 (((h1Law xs).set 0 (xs.getD 0 0 / 2)).set 0 (ixor (xs.getD 0 0 / 2) 225)), 1, true, 5⟩] := by kernel_rfl
noncomputable def O62ff (az bz : List Int) (ga gb : Nat) (owa owb : Bool) (cb : Option Nat) (ps xs : List Int) (i : Int) : Out := trim 4 4 [1,5,6,7] (run eGb 73 ⟨4, orc62i⟩ 400 (roundOf 0 f62) [(1, .slice 1 1 gb 0 16 cb), (5, .slice 1 2 0 0 16 (some 16)), (6, .slice 1 3 1 0 16 none), (7, .int .i64 i)] [some ⟨.ints .u8 az, ga, owa, 5⟩, some ⟨.ints .u8 bz, gb, owb, 5⟩, some ⟨.ints .u8 ps, 0, true, 5⟩, some ⟨.ints .u8 xs, 1, true, 5⟩] [some true, some false, some false])
theorem O62ff_ok {az bz : List Int} {ga gb : Nat} {owa owb : Bool} {cb : Option Nat} {ps xs : List Int} {i : Int} (h : allP [.p (decide (i < 128) = true), .eqN gb gb, .rng (-9223372036854775808) (i.tdiv 8) 9223372036854775807, .eqN gb gb, .leI 0 (i.tdiv 8), .leI (i.tdiv 8 + 1) 16, .eqN gb gb, .leN ((i.tdiv 8).toNat + 1) bz.length, .rng (-9223372036854775808) (7 - i.tmod 8) 9223372036854775807, .rng
 0 (7 - i.tmod 8) 18446744073709551615, .rng 0 (7 - i.tmod 8) 8, .nn .u8 (bz.getD (i.tdiv 8).toNat 0 / 2 ^ (7 - i.tmod 8).toNat), .p ((iand (bz.getD (i.tdiv 8).toNat 0 / 2 ^ (7 - i.tmod 8).toNat) 1 == 1) = false), .leN 16 xs.length, .nn .u8 (xs.getD 15 0 / 1), .p ((iand (xs.getD 15 0 / 1) 1 == 1) = false), .p (Bytes xs), .eqN xs.length 16, .rng (-9223372036854775808) (i + 1) 9223372036854775807]) :
 Ok (O62ff az bz ga gb owa owb cb ps xs i) := Ok.dem (fl := bitsF 49 281441413841412) (by kernel_rfl) (by kernel_rfl) (by kernel_rfl) h
theorem O62ff_ex {az bz : List Int} {ga gb : Nat} {owa owb : Bool} {cb : Option Nat} {ps xs : List Int} {i : Int} : (O62ff az bz ga gb owa owb cb ps xs i).ex = .normal := by kernel_rfl
theorem O62ff_fm {az bz : List Int} {ga gb : Nat} {owa owb : Bool} {cb : Option Nat} {ps xs : List Int} {i : Int} : (O62ff az bz ga gb owa owb cb ps xs i).fm = [(1, .slice 1 1 gb 0 16 cb), (5, .slice 1 2 0 0 16 (some 16)), (6, .slice 1 3 1 0 16 none), (7, .int .i64 (i + 1))] := by kernel_rfl
theorem O62ff_tab {az bz : List Int} {ga gb : Nat} {owa owb : Bool} {cb : Option Nat} {ps xs : List Int} {i : Int} : (O62ff az bz ga gb owa owb cb ps xs i).tab = [some ⟨.ints .u8 az, ga, owa, 5⟩, some ⟨.ints .u8 bz, gb, owb, 5⟩, some ⟨.ints .u8 ps, 0, true, 5⟩, some ⟨.ints .u8 ((h1Law xs).set 0 (xs.getD 0 0 / 2)), 1, true, 5⟩] := by kernel_rfl
noncomputable def X62 (az bz : List Int) (ga gb : Nat) (owa owb : Bool) (cb : Option Nat) (ps xs : List Int) : Out := trim 4 4 [5] (run eGb 73 ⟨4, []⟩ 400 (roundOf 0 f62) [(1, .slice 1 1 gb 0 16 cb), (5, .slice 1 2 0 0 16 (some 16)), (6, .slice 1 3 1 0 16 none), (7, .int .i64 128)] [some ⟨.ints .u8 az, ga, owa, 5⟩, some ⟨.ints .u8 bz, gb, owb, 5⟩, some ⟨.ints .u8 ps, 0, true, 5⟩, some ⟨.ints .u8 xs, 1, true, 5⟩] [])
theorem X62_ok {az bz : List Int} {ga gb : Nat} {owa owb : Bool} {cb : Option Nat} {ps xs : List Int} (h : allP []) : Ok (X62 az bz ga gb owa owb cb ps xs) := Ok.dem (fl := []) (by kernel_rfl) (by kernel_rfl) (by kernel_rfl) h
theorem X62_ex {az bz : List Int} {ga gb : Nat} {owa owb : Bool} {cb : Option Nat} {ps xs : List Int} : (X62 az bz ga gb owa owb cb ps xs).ex = .exit 0 := by kernel_rfl
theorem X62_fm {az bz : List Int} {ga gb : Nat} {owa owb : Bool} {cb : Option Nat} {ps xs : List Int} : (X62 az bz ga gb owa owb cb ps xs).fm = [(5, .slice 1 2 0 0 16 (some 16))] := by kernel_rfl
theorem X62_tab {az bz : List Int} {ga gb : Nat} {owa owb : Bool} {cb : Option Nat} {ps xs : List Int} : (X62 az bz ga gb owa owb cb ps xs).tab = [some ⟨.ints .u8 az, ga, owa, 5⟩, some ⟨.ints .u8 bz, gb, owb, 5⟩, some ⟨.ints .u8 ps, 0, true, 5⟩, some ⟨.ints .u8 xs, 1, true, 5⟩] := by kernel_rfl
end Go.Abs

set_option linter.unusedVariables false
set_option linter.unusedSimpArgs false
set_option maxRecDepth 8000
namespace Go.Abs
open Go.Proofs.Try
/-! ### the document's products, the whole -/
theorem half_nat {a : Int} (h : 0 ≤ a) : a / 2 = ((a.toNat / 2 : Nat) : Int) := by omega
theorem mul_nat {a : Int} (h : 0 ≤ a) : a * 128 % 256 = ((a.toNat * 128 % 256 : Nat) : Int) := by omega
theorem h1_eq {x : List Int} (hx : Bytes x) : (h1Law x).set 0 (x.getD 0 0 / 2) = hLaw x := by
  unfold h1Law hxLaw hLaw
  rw [l16_setG (by decide)]
  refine l16_congr fun j hj => ?_
  by_cases h : j = 0
  · subst h; rw [if_pos rfl, if_pos rfl, half_nat (hx.get 0).1]
  · rw [if_neg h, if_neg h, if_pos (by omega), half_nat (hx.get j).1, mul_nat (hx.get (j - 1)).1]
theorem dLaw_bN {x : Nat} (h : x < 2 ^ 128) : dLaw (bN x) = bN (dN x) := by
  have := bN_nB (dLaw_bytes (bN_bytes x)) (dLaw_len (bN x))
  rw [← this, nB_d (bN_bytes x) (bN_len x), nB_bN h]
theorem iand_bit (y s : Nat) : (iand ((y : Int) / 2 ^ s) 1 == 1) = y.testBit s := by
  have : (y : Int) / 2 ^ s = ((y >>> s : Nat) : Int) := by rw [Nat.shiftRight_eq_div_pow]; simp
  rw [this]
  simp only [iand, Int.toNat_natCast, show (1 : Int).toNat = 1 by rfl, Nat.and_one_is_mod]
  rw [← Nat.zero_add s, ← Nat.add_comm s, ← Nat.testBit_shiftRight, Nat.testBit_zero, Nat.add_zero]
  have : y >>> s % 2 < 2 := Nat.mod_lt _ (by decide)
  by_cases h : y >>> s % 2 = 1
  · simp [h]
  · have : y >>> s % 2 = 0 := by omega
    simp [this]
theorem iand_bit' {z : Int} (h : 0 ≤ z) (s : Nat) : (iand (z / 2 ^ s) 1 == 1) = z.toNat.testBit s := by
  obtain ⟨y, rfl⟩ := Int.eq_ofNat_of_zero_le h
  exact iand_bit y s
theorem sub_getD (l : List Int) {k n : Nat} (h : k < n) : (subLaw l 0 n).getD k 0 = l.getD k 0 := by
  unfold subLaw
  rw [List.drop_zero, List.getD_eq_getElem?_getD, List.getElem?_take_of_lt h, ← List.getD_eq_getElem?_getD]
theorem byte_div {z : Int} (h : 0 ≤ z ∧ z < 256) (s : Nat) : nonneg .u8 (z / 2 ^ s) := by
  have hp : (0 : Int) < 2 ^ s := by
    have := Nat.two_pow_pos s
    have e : (2 : Int) ^ s = ((2 ^ s : Nat) : Int) := by simp
    rw [e]; omega
  exact ⟨Int.ediv_nonneg h.1 (by omega), Int.lt_of_le_of_lt (Int.ediv_le_self _ h.1) h.2⟩
def T62 (az bz : List Int) (ga gb : Nat) (owa owb : Bool) (cb : Option Nat) (a b i : Nat) : Tab := [some ⟨.ints .u8 az, ga, owa, 5⟩, some ⟨.ints .u8 bz, gb, owb, 5⟩, some ⟨.ints .u8 (bN (accN a b i)), 0, true, 5⟩, some ⟨.ints .u8 (bN (apN a i)), 1, true, 5⟩]
theorem loop62 {az bz : List Int} {ga gb : Nat} {owa owb : Bool} {cb : Option Nat} (hbl : 16 ≤ bz.length) (hb : Bytes bz) {a b : Nat} (ha : a < 2 ^ 128) (eb : b = nB (subLaw bz 0 16)) : To eGb 73 4 (.block 0 (.loop (roundOf 0 f62))) [(1, .slice 1 1 gb 0 16 cb), (5, .slice 1 2 0 0 16 (some 16)), (6, .slice 1 3 1 0 16 none), (7, .int .i64 0)] (T62 az bz ga gb owa owb cb a b 0) .normal [(5, .slice 1 2 0 0 16 (some 16))] (T62 az bz ga gb owa owb cb a b 128) := by
  refine To.rounds (fun i : Nat => [(1, .slice 1 1 gb 0 16 cb), (5, .slice 1 2 0 0 16 (some 16)), (6, .slice 1 3 1 0 16 none), (7, .int .i64 (i : Nat))]) (T62 az bz ga gb owa owb cb a b) 128 (fun i hi => ?_) (To.of (o := X62 az bz ga gb owa owb cb (bN (accN a b 128)) (bN (apN a 128))) eGb_ok hmA (Nat.le_refl 4) OrcOk.nil rfl (X62_ok trivial) X62_ex X62_fm X62_tab)
  have hB := sub_bytes hb 0 16
  have lB : (subLaw bz 0 16).length = 16 := subLaw_len (by omega)
  have h1 := apN_lt ha i
  have e0 : (i : Int).tdiv 8 = ((i / 8 : Nat) : Int) := by rw [Int.tdiv_eq_ediv_of_nonneg (by omega)]; omega
  have e1 : (i : Int).tmod 8 = ((i % 8 : Nat) : Int) := by rw [Int.tmod_eq_emod_of_nonneg (by omega)]; omega
  have e2 : (7 - ((i % 8 : Nat) : Int)).toNat = 7 - i % 8 := by omega
  have hz := hb.get (i / 8)
  have bit : (iand (bz.getD (i / 8) 0 / 2 ^ (7 - i % 8)) 1 == 1) = b.testBit (127 - i) := by
    rw [iand_bit' hz.1, eb, nB_tbit hB lB hi, sub_getD bz (by omega), Nat.testBit_shiftRight, Nat.add_zero]
  have nb := byte_div hz (7 - i % 8)
  have xb := bN_bytes (apN a i)
  have pb := bN_bytes (accN a b i)
  have xl := bN_len (apN a i)
  have pl := bN_len (accN a b i)
  have x15 := xb.get 15
  have x0 := xb.get 0
  have top : (iand ((bN (apN a i)).getD 15 0 / 1) 1 == 1) = ((bN (apN a i)).getD 15 0).toNat.testBit 0 := by
    have := iand_bit' x15.1 0
    rwa [Int.pow_zero] at this
  have n15 : nonneg .u8 ((bN (apN a i)).getD 15 0 / 1) := by rw [Int.ediv_one]; exact x15
  have n0 : nonneg .u8 ((bN (apN a i)).getD 0 0 / 2) := by simp only [nonneg]; omega
  have hh := h1_eq xb
  have hd := dLaw_bN h1
  have hx0 : (hLaw (bN (apN a i))).getD 0 0 = (bN (apN a i)).getD 0 0 / 2 := by rw [half_nat x0.1]; rfl
  have acc1 : b.testBit (127 - i) = true → plusLaw (bN (accN a b i)) (bN (apN a i)) = bN (accN a b (i + 1)) := fun h => by
    rw [← bN_xor]; simp only [accN, h, if_true]
  have acc0 : b.testBit (127 - i) = false → bN (accN a b i) = bN (accN a b (i + 1)) := fun h => by
    simp only [accN, h, Bool.false_eq_true, if_false, Nat.xor_zero]
  have up1 : ((bN (apN a i)).getD 15 0).toNat.testBit 0 = true → ((h1Law (bN (apN a i))).set 0 ((bN (apN a i)).getD 0 0 / 2)).set 0 (ixor ((bN (apN a i)).getD 0 0 / 2) 225) = bN (apN a (i + 1)) := fun h => by
    show _ = bN (dN (apN a i))
    rw [hh, ← hd]
    unfold dLaw
    rw [if_pos h, hx0]
  have up0 : ((bN (apN a i)).getD 15 0).toNat.testBit 0 = false → (h1Law (bN (apN a i))).set 0 ((bN (apN a i)).getD 0 0 / 2) = bN (apN a (i + 1)) := fun h => by
    show _ = bN (dN (apN a i))
    rw [hh, ← hd]
    unfold dLaw
    rw [if_neg (by rw [h]; decide)]
  have hrange : i / 8 + 1 ≤ 16 := by omega
  cases hbit : b.testBit (127 - i) with
  | true =>
    rw [hbit] at bit
    cases htop : ((bN (apN a i)).getD 15 0).toNat.testBit 0 with
    | true =>
      rw [htop] at top
      refine To.of (o := O62tt az bz ga gb owa owb cb (bN (accN a b i)) (bN (apN a i)) (i : Nat)) eGb_ok hmA (Nat.le_refl 4) orc62i_ok rfl (O62tt_ok ?_) O62tt_ex O62tt_fm ?_
      · rw [e0, e1, e2, Int.toNat_natCast]
        simp only [allP, Con.h, bit, top, nb, n15, n0, xb, pb, xl, pl, decide_eq_true_eq, eq_self, true_and, and_true]
        omega
      · rw [O62tt_tab, acc1 hbit, up1 htop]; rfl
    | false =>
      rw [htop] at top
      refine To.of (o := O62tf az bz ga gb owa owb cb (bN (accN a b i)) (bN (apN a i)) (i : Nat)) eGb_ok hmA (Nat.le_refl 4) orc62i_ok rfl (O62tf_ok ?_) O62tf_ex O62tf_fm ?_
      · rw [e0, e1, e2, Int.toNat_natCast]
        simp only [allP, Con.h, bit, top, nb, n15, n0, xb, pb, xl, pl, decide_eq_true_eq, eq_self, true_and, and_true]
        omega
      · rw [O62tf_tab, acc1 hbit, up0 htop]; rfl
  | false =>
    rw [hbit] at bit
    cases htop : ((bN (apN a i)).getD 15 0).toNat.testBit 0 with
    | true =>
      rw [htop] at top
      refine To.of (o := O62ft az bz ga gb owa owb cb (bN (accN a b i)) (bN (apN a i)) (i : Nat)) eGb_ok hmA (Nat.le_refl 4) orc62i_ok rfl (O62ft_ok ?_) O62ft_ex O62ft_fm ?_
      · rw [e0, e1, e2, Int.toNat_natCast]
        simp only [allP, Con.h, bit, top, nb, n15, n0, xb, pb, xl, pl, decide_eq_true_eq, eq_self, true_and, and_true]
        omega
      · rw [O62ft_tab, acc0 hbit, up1 htop]; rfl
    | false =>
      rw [htop] at top
      refine To.of (o := O62ff az bz ga gb owa owb cb (bN (accN a b i)) (bN (apN a i)) (i : Nat)) eGb_ok hmA (Nat.le_refl 4) orc62i_ok rfl (O62ff_ok ?_) O62ff_ex O62ff_fm ?_
      · rw [e0, e1, e2, Int.toNat_natCast]
        simp only [allP, Con.h, bit, top, nb, n15, n0, xb, pb, xl, pl, decide_eq_true_eq, eq_self, true_and, and_true]
        omega
      · rw [O62ff_tab, acc0 hbit, up0 htop]; rfl
def mbLaw (x y : List Int) : List Int := bN (mulN (nB x) (nB y))
def apLaw128 (x : List Int) : List Int := bN (apN (nB x) 128)
noncomputable def g62c (vs : List AVal) (T : Tab) (az : List Int) (bz : List Int) (ga : Nat) (gb : Nat) (owa : Bool) (owb : Bool) (cb : Option Nat) (xs : List Int) : Out := ⟨[.tab T [some ⟨.ints .u8 az, ga, owa, 5⟩, some ⟨.ints .u8 bz, gb, owb, 5⟩, some ⟨.ints .u8 [0, 0, 0, 0, 0, 0, 0, 0, 0, 0, 0, 0, 0, 0, 0, 0], 0, true, 5⟩, some ⟨.ints .u8 xs, 1, true, 5⟩], .val (.tuple vs) (.tuple [.slice 1 1 gb 0 16 cb, .slice 1 2 0 0 16 (some 16), .slice 1 3 1 0 16 none, .int .i64 0]), .leN 16 bz.length, .p (Bytes bz), .p (Bytes xs), .eqN xs.length 16], .normal, [(5, .slice 1 2 0 0 16 (some 16))], [some ⟨.ints .u8 az, ga, owa, 5⟩, some ⟨.ints .u8 bz, gb, owb, 5⟩, some ⟨.ints .u8 (mbLaw xs (subLaw bz 0 16)), 0, true, 5⟩, some ⟨.ints .u8 (apLaw128 xs), 1, true, 5⟩], []⟩
theorem g62c_ok {vs : List AVal} {T : Tab} {az : List Int} {bz : List Int} {ga : Nat} {gb : Nat} {owa : Bool} {owb : Bool} {cb : Option Nat} {xs : List Int} (h : Ok (g62c vs T az bz ga gb owa owb cb xs)) : To eGb 73 4 (.block 0 (.loop (roundOf 0 f62))) (zipF [1,5,6,7] vs) T (g62c vs T az bz ga gb owa owb cb xs).ex (g62c vs T az bz ga gb owa owb cb xs).fm (g62c vs T az bz ga gb owa owb cb xs).tab := by
  obtain ⟨hT, hv, h1, h2, h3, h4, _⟩ := h.h
  simp only [Con.h] at hT hv h1 h2 h3 h4
  injection hv with hv
  subst hT hv
  have h := loop62 (az := az) (ga := ga) (gb := gb) (owa := owa) (owb := owb) (cb := cb) h1 h2 (nB_lt16 h3 h4) (b := nB (subLaw bz 0 16)) rfl
  have e0 : T62 az bz ga gb owa owb cb (nB xs) (nB (subLaw bz 0 16)) 0 = [some ⟨.ints .u8 az, ga, owa, 5⟩, some ⟨.ints .u8 bz, gb, owb, 5⟩, some ⟨.ints .u8 [0, 0, 0, 0, 0, 0, 0, 0, 0, 0, 0, 0, 0, 0, 0, 0], 0, true, 5⟩, some ⟨.ints .u8 xs, 1, true, 5⟩] := by
    show ([some ⟨.ints .u8 az, ga, owa, 5⟩, some ⟨.ints .u8 bz, gb, owb, 5⟩, some ⟨.ints .u8 (bN 0), 0, true, 5⟩, some ⟨.ints .u8 (bN (nB xs)), 1, true, 5⟩] : Tab) = _
    rw [bN_nB h3 h4, show bN 0 = [0, 0, 0, 0, 0, 0, 0, 0, 0, 0, 0, 0, 0, 0, 0, 0] by kernel_rfl]
  rw [e0] at h
  exact h
noncomputable def g62 : List AVal → Tab → Out := fun vs T => g62c vs T (xsAt T 0) (xsAt T 1) (gAt T 0) (gAt T 1) (owAt T 0) (owAt T 1) (capOf (vAt vs 0)) (xsAt T 3)
theorem g62_ok : BlkOk eGb f62 0 (.loop (roundOf 0 f62)) (blkS 4 [1,5,6,7] g62) := blkS_ok fun vs T h => g62c_ok h
noncomputable def orc62 : OrcL := [(0, blkS 4 [1,5,6,7] g62)]
theorem orc62_ok : FnOrc eGb f62 orc62 := FnOrc.cons g62_ok (by kernel_rfl) FnOrc.nil
noncomputable def R62 (az bz : List Int) (ga gb : Nat) (owa owb : Bool) (cb : Option Nat) (ca : Option Nat) : Res := resG 2 [0,1,2] (runF eGb f62 orc62 400 [.slice 1 0 ga 0 16 ca, .slice 1 1 gb 0 16 cb] [some ⟨.ints .u8 az, ga, owa, 5⟩, some ⟨.ints .u8 bz, gb, owb, 5⟩] [])
theorem R62_ok {az bz : List Int} {ga gb : Nat} {owa owb : Bool} {cb : Option Nat} {ca : Option Nat} (h : allP [.eqN ga ga, .leN 16 az.length, .leN 16 bz.length, .p (Bytes bz), .p (Bytes ([] ++ List.take 16 az)), .eqN ([] ++ List.take 16 az).length 16]) : OkR (R62 az bz ga gb owa owb cb ca) := OkR.dem (fl := bitsF 17 1279) (by kernel_rfl) (by kernel_rfl) (by kernel_rfl) h
theorem R62_val {az bz : List Int} {ga gb : Nat} {owa owb : Bool} {cb : Option Nat} {ca : Option Nat} : (R62 az bz ga gb owa owb cb ca).val = .slice 1 2 0 0 16 (some 16) := by kernel_rfl
theorem R62_tab {az bz : List Int} {ga gb : Nat} {owa owb : Bool} {cb : Option Nat} {ca : Option Nat} : (R62 az bz ga gb owa owb cb ca).tab = [some ⟨.ints .u8 az, ga, owa, 5⟩, some ⟨.ints .u8 bz, gb, owb, 5⟩, some ⟨.ints .u8 (mbLaw ([] ++ List.take 16 az) (subLaw bz 0 16)), 0, true, 5⟩] := by kernel_rfl
noncomputable def sm62c (args : List AVal) (T : Tab) (az : List Int) (bz : List Int) (ga : Nat) (gb : Nat) (owa : Bool) (owb : Bool) (cb : Option Nat) (ca : Option Nat) : Res := ⟨[.tab T [some ⟨.ints .u8 az, ga, owa, 5⟩, some ⟨.ints .u8 bz, gb, owb, 5⟩], .val (.tuple args) (.tuple [.slice 1 0 ga 0 16 ca, .slice 1 1 gb 0 16 cb]), .leN 16 az.length, .leN 16 bz.length, .p (Bytes az), .p (Bytes bz)], .slice 1 2 0 0 16 (some 16), [some ⟨.ints .u8 az, ga, owa, 5⟩, some ⟨.ints .u8 bz, gb, owb, 5⟩, some ⟨.ints .u8 (mbLaw (subLaw az 0 16) (subLaw bz 0 16)), 0, true, 5⟩]⟩
theorem sm62c_ok {args : List AVal} {T : Tab} {az : List Int} {bz : List Int} {ga : Nat} {gb : Nat} {owa : Bool} {owb : Bool} {cb : Option Nat} {ca : Option Nat} (h : allP (sm62c args T az bz ga gb owa owb cb ca).cs) : Small prog (fun _ => none) 62 args T (sm62c args T az bz ga gb owa owb cb ca).val (sm62c args T az bz ga gb owa owb cb ca).tab := by
  obtain ⟨hT, hv, h1, h2, h3, h4, _⟩ := h
  simp only [Con.h] at hT hv h1 h2 h3 h4
  injection hv with hv
  subst hT hv
  have b1 := sub_bytes h3 0 16
  have l1 : (subLaw az 0 16).length = 16 := subLaw_len (by omega)
  have e1 : ([] : List Int) ++ List.take 16 az = (subLaw az 0 16) := rfl
  refine small_ofG (R := R62 az bz ga gb owa owb cb ca) (keep := [0,1,2]) eGb_ok hmA (f := 62) (fn := f62) (by kernel_rfl) (by kernel_rfl) orc62_ok rfl (R62_ok ?_) R62_val R62_tab
  simp only [allP, Con.h, e1, l1, b1, h1, h2, h3, h4, eq_self, true_and, and_true]
  try omega
noncomputable def sm62 : Summary := fun args T => sm62c args T (xsAt T 0) (xsAt T 1) (gAt T 0) (gAt T 1) (owAt T 0) (owAt T 1) (capOf (vAt args 1)) (capOf (vAt args 0))
theorem sm62_ok : SmOk prog (fun _ => none) 62 sm62 := fun args T h => sm62c_ok h
noncomputable def S62 : Summary := callR sm62 []
theorem S62_ok : SumOk prog (fun _ => none) 62 S62 := callR_ok sm62_ok []
end Go.Abs

set_option linter.unusedVariables false
set_option linter.unusedSimpArgs false
set_option maxRecDepth 8000
namespace Go.Abs
open Go.Proofs.Try
/-! ### the document: full, counter, length, Times, Hash -/
def padLaw (n : Nat) : Nat := (16 - n % 16) % 16
def fullLaw (x : List Int) (k : Nat) : List Int := x ++ List.replicate k 0
theorem full_len (x : List Int) (k : Nat) : (fullLaw x k).length = x.length + k := by unfold fullLaw; rw [List.length_append, List.length_replicate]
theorem full_bytes {x : List Int} (h : Bytes x) (k : Nat) : Bytes (fullLaw x k) := h.append (Bytes.zer k)
theorem full_step (x : List Int) (k : Nat) : fullLaw x k ++ [0] = fullLaw x (k + 1) := by
  unfold fullLaw
  rw [List.append_assoc, ← List.replicate_succ']
noncomputable def A64 (zs : List Int) (g n : Nat) (cp : Option Nat) (ow : Bool) (x : List Int) (gg l : Nat) : Out := trimG 1 [0,1] [3] (run (eA []) 15 ⟨1, []⟩ 400 (roundOf 0 f64) [(3, .slice 1 1 gg 0 l none)] [some ⟨.ints .u8 zs, g, ow, 5⟩, some ⟨.ints .u8 x, gg, true, 5⟩] [some true])
theorem A64_ok {zs : List Int} {g n : Nat} {cp : Option Nat} {ow : Bool} {x : List Int} {gg l : Nat} (h : allP [.eqN gg gg, .p (((↑l : Int).tmod 16 != 0) = true), .eqN gg gg, .leN (0 + l) x.length, .leN (addO l 1) 140737488355328]) : Ok (A64 zs g n cp ow x gg l) := Ok.dem (fl := bitsF 12 3642) (by kernel_rfl) (by kernel_rfl) (by kernel_rfl) h
theorem A64_ex {zs : List Int} {g n : Nat} {cp : Option Nat} {ow : Bool} {x : List Int} {gg l : Nat} : (A64 zs g n cp ow x gg l).ex = .normal := by kernel_rfl
theorem A64_fm {zs : List Int} {g n : Nat} {cp : Option Nat} {ow : Bool} {x : List Int} {gg l : Nat} : (A64 zs g n cp ow x gg l).fm = [(3, .slice 1 1 (gg + 1) 0 (addO l 1) none)] := by kernel_rfl
theorem A64_tab {zs : List Int} {g n : Nat} {cp : Option Nat} {ow : Bool} {x : List Int} {gg l : Nat} : (A64 zs g n cp ow x gg l).tab = [some ⟨.ints .u8 zs, g, ow, 5⟩, some ⟨.ints .u8 (List.take l x ++ [0]), gg + 1, true, 5⟩] := by kernel_rfl
noncomputable def D64 (zs : List Int) (g n : Nat) (cp : Option Nat) (ow : Bool) (x : List Int) (gg l : Nat) : Out := trimG 1 [0,1] [3] (run (eA []) 15 ⟨1, []⟩ 400 (roundOf 0 f64) [(3, .slice 1 1 gg 0 l none)] [some ⟨.ints .u8 zs, g, ow, 5⟩, some ⟨.ints .u8 x, gg, true, 5⟩] [some false])
theorem D64_ok {zs : List Int} {g n : Nat} {cp : Option Nat} {ow : Bool} {x : List Int} {gg l : Nat} (h : allP [.eqN gg gg, .p (((↑l : Int).tmod 16 != 0) = false)]) : Ok (D64 zs g n cp ow x gg l) := Ok.dem (fl := [false, true, false]) (by kernel_rfl) (by kernel_rfl) (by kernel_rfl) h
theorem D64_ex {zs : List Int} {g n : Nat} {cp : Option Nat} {ow : Bool} {x : List Int} {gg l : Nat} : (D64 zs g n cp ow x gg l).ex = .exit 0 := by kernel_rfl
theorem D64_fm {zs : List Int} {g n : Nat} {cp : Option Nat} {ow : Bool} {x : List Int} {gg l : Nat} : (D64 zs g n cp ow x gg l).fm = [(3, .slice 1 1 gg 0 l none)] := by kernel_rfl
theorem D64_tab {zs : List Int} {g n : Nat} {cp : Option Nat} {ow : Bool} {x : List Int} {gg l : Nat} : (D64 zs g n cp ow x gg l).tab = [some ⟨.ints .u8 zs, g, ow, 5⟩, some ⟨.ints .u8 x, gg, true, 5⟩] := by kernel_rfl
theorem loop64 {zs : List Int} {g n : Nat} {cp : Option Nat} {ow : Bool} {x : List Int} (hx : x.length = n) (hn : n ≤ 140737488352000) : To (eA []) 15 1 (.block 0 (.loop (roundOf 0 f64))) [(3, .slice 1 1 1 0 n none)] [some ⟨.ints .u8 zs, g, ow, 5⟩, some ⟨.ints .u8 x, 1, true, 5⟩] .normal [(3, .slice 1 1 (1 + padLaw n) 0 (n + padLaw n) none)] [some ⟨.ints .u8 zs, g, ow, 5⟩, some ⟨.ints .u8 (fullLaw x (padLaw n)), (1 + padLaw n), true, 5⟩] := by
  have := To.rounds (E := eA []) (n := 15) (k := 1) (id := 0) (c := roundOf 0 f64) (fun k => [(3, .slice 1 1 (1 + k) 0 (n + k) none)]) (fun k => [some ⟨.ints .u8 zs, g, ow, 5⟩, some ⟨.ints .u8 (fullLaw x k), (1 + k), true, 5⟩]) (padLaw n) (fun k hk => ?_) (To.ofG (k := 1) (o := D64 zs g n cp ow (fullLaw x (padLaw n)) (1 + padLaw n) (n + padLaw n)) eA0_ok hmA (Nat.le_refl 1) OrcOk.nil rfl (D64_ok ?_) D64_ex D64_fm D64_tab)
  · rw [show fullLaw x 0 = x by unfold fullLaw; rw [List.replicate_zero, List.append_nil]] at this
    exact this
  · have hl := full_len x k
    unfold padLaw at hk
    refine To.ofG (k := 1) (o := A64 zs g n cp ow (fullLaw x k) (1 + k) (n + k)) eA0_ok hmA (Nat.le_refl 1) OrcOk.nil rfl (A64_ok ?_) A64_ex ?_ ?_
    · have e : (((n + k : Nat) : Int)).tmod 16 = (((n + k) % 16 : Nat) : Int) := by rw [Int.tmod_eq_emod_of_nonneg (by omega)]; omega
      simp only [allP, Con.h, e, hl, addO_eq, Nat.zero_add, bne_iff_ne, ne_eq, eq_self, true_and, and_true]
      omega
    · rw [A64_fm]; simp only [addO_eq]; rfl
    · rw [A64_tab, List.take_of_length_le (by omega), full_step]; rfl
  · have e : (((n + padLaw n : Nat) : Int)).tmod 16 = (((n + padLaw n) % 16 : Nat) : Int) := by rw [Int.tmod_eq_emod_of_nonneg (by omega)]; omega
    have : (n + padLaw n) % 16 = 0 := by unfold padLaw; omega
    simp only [allP, Con.h, e, this, eq_self, true_and, and_true]
    try decide
noncomputable def g64c (vs : List AVal) (T : Tab) (zs : List Int) (g : Nat) (n : Nat) (ow : Bool) (x : List Int) : Out := ⟨[.tab T [some ⟨.ints .u8 zs, g, ow, 5⟩, some ⟨.ints .u8 x, 1, true, 5⟩], .val (.tuple vs) (.tuple [.slice 1 1 1 0 n none]), .eqN x.length n, .leN n 140737488352000], .normal, [(3, .slice 1 1 (1 + padLaw n) 0 (n + padLaw n) none)], [some ⟨.ints .u8 zs, g, ow, 5⟩, some ⟨.ints .u8 (fullLaw x (padLaw n)), (1 + padLaw n), true, 5⟩], []⟩
theorem g64c_ok {vs : List AVal} {T : Tab} {zs : List Int} {g : Nat} {n : Nat} {ow : Bool} {x : List Int} (h : Ok (g64c vs T zs g n ow x)) : To (eA []) 15 1 (.block 0 (.loop (roundOf 0 f64))) (zipF [3] vs) T (g64c vs T zs g n ow x).ex (g64c vs T zs g n ow x).fm (g64c vs T zs g n ow x).tab := by
  obtain ⟨hT, hv, h1, h2, _⟩ := h.h
  simp only [Con.h] at hT hv h1 h2
  injection hv with hv
  subst hT hv
  exact loop64 (cp := none) h1 h2
noncomputable def g64 : List AVal → Tab → Out := fun vs T => g64c vs T (xsAt T 0) (gAt T 0) (lenOf (vAt vs 0)) (owAt T 0) (xsAt T 1)
theorem g64_ok : BlkOk (eA []) f64 0 (.loop (roundOf 0 f64)) (blkS2 1 2 [3] g64) := blkS2_ok fun vs T h => g64c_ok h
noncomputable def orc64 : OrcL := [(0, blkS2 1 2 [3] g64)]
theorem orc64_ok : FnOrc (eA []) f64 orc64 := FnOrc.cons g64_ok (by kernel_rfl) FnOrc.nil
noncomputable def R64 (zs : List Int) (g n : Nat) (cp : Option Nat) (ow : Bool) : Res := resG 1 [0,1] (runF (eA []) f64 orc64 400 [.slice 1 0 g 0 n cp] [some ⟨.ints .u8 zs, g, ow, 5⟩] [])
theorem R64_ok {zs : List Int} {g n : Nat} {cp : Option Nat} {ow : Bool} (h : allP [.leN n 140737488355328, .eqN g g, .leN (0 + n) zs.length, .eqN ([] ++ List.take n zs).length n, .leN n 140737488352000]) : OkR (R64 zs g n cp ow) := OkR.dem (fl := [true, true, true, false, false, false, true, false, false, false, false]) (by kernel_rfl) (by kernel_rfl) (by kernel_rfl) h
theorem R64_val {zs : List Int} {g n : Nat} {cp : Option Nat} {ow : Bool} : (R64 zs g n cp ow).val = .slice 1 1 (1 + padLaw n) 0 (n + padLaw n) none := by kernel_rfl
theorem R64_tab {zs : List Int} {g n : Nat} {cp : Option Nat} {ow : Bool} : (R64 zs g n cp ow).tab = [some ⟨.ints .u8 zs, g, ow, 5⟩, some ⟨.ints .u8 (fullLaw ([] ++ List.take n zs) (padLaw n)), 1 + padLaw n, true, 5⟩] := by kernel_rfl
noncomputable def sm64c (args : List AVal) (T : Tab) (zs : List Int) (g : Nat) (n : Nat) (cp : Option Nat) (ow : Bool) : Res := ⟨[.tab T [some ⟨.ints .u8 zs, g, ow, 5⟩], .val (.tuple args) (.tuple [.slice 1 0 g 0 n cp]), .leN n zs.length, .leN n 140737488352000], .slice 1 1 (1 + padLaw n) 0 (n + padLaw n) none, [some ⟨.ints .u8 zs, g, ow, 5⟩, some ⟨.ints .u8 (fullLaw (subLaw zs 0 n) (padLaw n)), 1 + padLaw n, true, 5⟩]⟩
theorem sm64c_ok {args : List AVal} {T : Tab} {zs : List Int} {g : Nat} {n : Nat} {cp : Option Nat} {ow : Bool} (h : allP (sm64c args T zs g n cp ow).cs) : Small prog (fun _ => none) 64 args T (sm64c args T zs g n cp ow).val (sm64c args T zs g n cp ow).tab := by
  obtain ⟨hT, hv, h1, h2, _⟩ := h
  simp only [Con.h] at hT hv h1 h2
  injection hv with hv
  subst hT hv
  have hx : (([] : List Int) ++ List.take n zs).length = n := by rw [List.nil_append, List.length_take]; omega
  refine small_ofG (R := R64 zs g n cp ow) (keep := [0,1]) eA0_ok hmA (f := 64) (fn := f64) (by kernel_rfl) (by kernel_rfl) orc64_ok rfl (R64_ok ?_) R64_val R64_tab
  simp only [allP, Con.h, hx, h1, Nat.zero_add, eq_self, true_and, and_true]
  try omega
noncomputable def sm64 : Summary := fun args T => sm64c args T (xsAt T 0) (gAt T 0) (lenOf (vAt args 0)) (capOf (vAt args 0)) (owAt T 0)
theorem sm64_ok : SmOk prog (fun _ => none) 64 sm64 := fun args T h => sm64c_ok h
noncomputable def S64 : Summary := callR sm64 []
theorem S64_ok : SumOk prog (fun _ => none) 64 S64 := callR_ok sm64_ok []
end Go.Abs
