/- What the row of FnFinds rests on, and the row: for every input that can be read the call returns true and the input reads as it did; condition: what the row lists of the library reads as the program lays it. -/
import Derived.Test.YtlakdfbfkbndiaaDoorKFnFindse
import Derived.Test.YtlakdfbfkbndiaaDoorCards
import Derived.Test.YtlakdfbfkbndiaaDoorRows
import Derived.Test.YtlakdfbfkbndiaaDoorTie
set_option linter.unusedVariables false
set_option linter.unusedSimpArgs false
set_option linter.unusedSectionVars false
set_option linter.unusedVariables false
set_option maxRecDepth 100000
namespace Go.Proofs.YtlakdfbfkbndiaaDoor.Ev.Pr
open Go Go.RowKit Go.Proofs.YtlakdfbfkbndiaaDoorW.PrintWords Go.Proofs.YtlakdfbfkbndiaaDoorW.PrintMore Kd Go.Proofs.YtlakdfbfkbndiaaDoor.Ev
section
variable {ρ : Type}
def B_spec_l2draw (t : Tb ρ) (x0 : Int) (x1 : List Int) (x2 : Int) (x3 : Int) (κ : ByteArray → Int → Int → Option ρ) : Option ρ := t.spec_l1Below 9 x1 x2 x3 (fun (v4 : Int) (v5 : Int) (v6 : Int) => bif v4 == 0 then (bif v4 == 0 then (bif decide (x0 > 0) then (t.spec_l2draw (w (x0 - 1)) x1 v5 v6 (fun (v7 : ByteArray) (v8 : Int) (v9 : Int) => if 1 + v7.size ≤ 9223372036854775807 then if ((bs [40]) ++ v7).size + 1 ≤ 9223372036854775807 then t.spec_l2draw (w (x0 - 1)) x1 v8 v9 (fun (v10 : ByteArray) (v11 : Int) (v12 : Int) => if (((bs [40]) ++ v7) ++ (bs [124])).size + v10.size ≤ 9223372036854775807 then if ((((bs [40]) ++ v7) ++ (bs [124])) ++ v10).size + 1 ≤ 9223372036854775807 then κ (((((bs [40]) ++ v7) ++ (bs [124])) ++ v10) ++ (bs [41])) v11 v12 else none else none) else none else none)) else (t.spec_l2draw_s18 x1 v5 v6 κ)) else (bif v4 == 2 then (bif decide (x0 > 0) then (t.spec_l2draw (w (x0 - 1)) x1 v5 v6 (fun (v13 : ByteArray) (v14 : Int) (v15 : Int) => if 1 + v13.size ≤ 9223372036854775807 then t.spec_l2draw (w (x0 - 1)) x1 v14 v15 (fun (v16 : ByteArray) (v17 : Int) (v18 : Int) => if ((bs [40]) ++ v13).size + v16.size ≤ 9223372036854775807 then if (((bs [40]) ++ v13) ++ v16).size + 1 ≤ 9223372036854775807 then t.spec_l1of 1 (bs [42, 43, 63]) x1 v17 v18 (fun (v19 : ByteArray) (v20 : Int) (v21 : Int) => if ((((bs [40]) ++ v13) ++ v16) ++ (bs [41])).size + v19.size ≤ 9223372036854775807 then κ (((((bs [40]) ++ v13) ++ v16) ++ (bs [41])) ++ v19) v20 v21 else none) else none else none) else none)) else (t.spec_l2draw_s18 x1 v5 v6 κ)) else (bif v4 == 3 then (t.spec_l1text [bs [91, 97, 98, 93], bs [91, 94, 97, 93], bs [91, 97, 45, 99, 93], bs [91, 98, 45, 93], bs [91, 92, 93, 120, 93], bs [91, 93], bs [91, 98, 45, 97, 93], bs [91, 94, 45, 93]] x1 v5 v6 (fun (v22 : ByteArray) (v23 : Int) (v24 : Int) => κ v22 v23 v24)) else (bif v4 == 4 then (t.spec_l1text [bs [94], bs [36], bs [46], bs [92, 46], bs [92, 40], bs [46, 42], bs [97, 43]] x1 v5 v6 (fun (v25 : ByteArray) (v26 : Int) (v27 : Int) => κ v25 v26 v27)) else (bif v4 == 5 then (t.spec_l1of 1 (bs [97, 98, 99]) x1 v5 v6 (fun (v28 : ByteArray) (v29 : Int) (v30 : Int) => t.spec_l1of 1 (bs [42, 43, 63]) x1 v29 v30 (fun (v31 : ByteArray) (v32 : Int) (v33 : Int) => if v28.size + v31.size ≤ 9223372036854775807 then κ (v28 ++ v31) v32 v33 else none))) else (bif v4 == 6 then (bif decide (x0 > 0) then (t.spec_l2draw (w (x0 - 1)) x1 v5 v6 (fun (v34 : ByteArray) (v35 : Int) (v36 : Int) => t.spec_l2draw (w (x0 - 1)) x1 v35 v36 (fun (v37 : ByteArray) (v38 : Int) (v39 : Int) => if v34.size + v37.size ≤ 9223372036854775807 then κ (v34 ++ v37) v38 v39 else none))) else (t.spec_l2draw_s18 x1 v5 v6 κ)) else (t.spec_l2draw_s18 x1 v5 v6 κ))))))) else (bif v4 == 1 then (bif decide (x0 > 0) then (t.spec_l2draw (w (x0 - 1)) x1 v5 v6 (fun (v40 : ByteArray) (v41 : Int) (v42 : Int) => if 1 + v40.size ≤ 9223372036854775807 then if ((bs [40]) ++ v40).size + 1 ≤ 9223372036854775807 then t.spec_l2draw (w (x0 - 1)) x1 v41 v42 (fun (v43 : ByteArray) (v44 : Int) (v45 : Int) => if (((bs [40]) ++ v40) ++ (bs [124])).size + v43.size ≤ 9223372036854775807 then if ((((bs [40]) ++ v40) ++ (bs [124])) ++ v43).size + 1 ≤ 9223372036854775807 then κ (((((bs [40]) ++ v40) ++ (bs [124])) ++ v43) ++ (bs [41])) v44 v45 else none else none) else none else none)) else (t.spec_l2draw_s18 x1 v5 v6 κ)) else (bif v4 == 2 then (bif decide (x0 > 0) then (t.spec_l2draw (w (x0 - 1)) x1 v5 v6 (fun (v46 : ByteArray) (v47 : Int) (v48 : Int) => if 1 + v46.size ≤ 9223372036854775807 then t.spec_l2draw (w (x0 - 1)) x1 v47 v48 (fun (v49 : ByteArray) (v50 : Int) (v51 : Int) => if ((bs [40]) ++ v46).size + v49.size ≤ 9223372036854775807 then if (((bs [40]) ++ v46) ++ v49).size + 1 ≤ 9223372036854775807 then t.spec_l1of 1 (bs [42, 43, 63]) x1 v50 v51 (fun (v52 : ByteArray) (v53 : Int) (v54 : Int) => if ((((bs [40]) ++ v46) ++ v49) ++ (bs [41])).size + v52.size ≤ 9223372036854775807 then κ (((((bs [40]) ++ v46) ++ v49) ++ (bs [41])) ++ v52) v53 v54 else none) else none else none) else none)) else (t.spec_l2draw_s18 x1 v5 v6 κ)) else (bif v4 == 3 then (t.spec_l1text [bs [91, 97, 98, 93], bs [91, 94, 97, 93], bs [91, 97, 45, 99, 93], bs [91, 98, 45, 93], bs [91, 92, 93, 120, 93], bs [91, 93], bs [91, 98, 45, 97, 93], bs [91, 94, 45, 93]] x1 v5 v6 (fun (v55 : ByteArray) (v56 : Int) (v57 : Int) => κ v55 v56 v57)) else (bif v4 == 4 then (t.spec_l1text [bs [94], bs [36], bs [46], bs [92, 46], bs [92, 40], bs [46, 42], bs [97, 43]] x1 v5 v6 (fun (v58 : ByteArray) (v59 : Int) (v60 : Int) => κ v58 v59 v60)) else (bif v4 == 5 then (t.spec_l1of 1 (bs [97, 98, 99]) x1 v5 v6 (fun (v61 : ByteArray) (v62 : Int) (v63 : Int) => t.spec_l1of 1 (bs [42, 43, 63]) x1 v62 v63 (fun (v64 : ByteArray) (v65 : Int) (v66 : Int) => if v61.size + v64.size ≤ 9223372036854775807 then κ (v61 ++ v64) v65 v66 else none))) else (bif v4 == 6 then (bif decide (x0 > 0) then (t.spec_l2draw (w (x0 - 1)) x1 v5 v6 (fun (v67 : ByteArray) (v68 : Int) (v69 : Int) => t.spec_l2draw (w (x0 - 1)) x1 v68 v69 (fun (v70 : ByteArray) (v71 : Int) (v72 : Int) => if v67.size + v70.size ≤ 9223372036854775807 then κ (v67 ++ v70) v71 v72 else none))) else (t.spec_l2draw_s18 x1 v5 v6 κ)) else (t.spec_l2draw_s18 x1 v5 v6 κ))))))))
def B_spec_l2draw_s18 (t : Tb ρ) (x73 : List Int) (x74 : Int) (x75 : Int) (κ : ByteArray → Int → Int → Option ρ) : Option ρ := t.spec_l1of 1 (bs [97, 98, 99]) x73 x74 x75 (fun (v76 : ByteArray) (v77 : Int) (v78 : Int) => κ v76 v77 v78)
def B_spec_l1bend (t : Tb ρ) (x0 : ByteArray) (x1 : List Int) (x2 : Int) (x3 : Int) (κ : ByteArray → Int → Int → Option ρ) : Option ρ := t.spec_l1Below (w ((x0.size : Int) + 1)) x1 x2 x3 (fun (v4 : Int) (v5 : Int) (v6 : Int) => t.spec_l1Below 3 x1 v5 v6 (fun (v7 : Int) (v8 : Int) (v9 : Int) => bif v7 == 0 then (if (0 : Int) ≤ v4 then if v4 ≤ (x0.size : Int) then if (0 : Int) ≤ v4 then if v4 ≤ (x0.size : Int) then t.spec_l1of 1 (bs [97, 40, 41, 123, 125, 91, 93, 59, 44, 61, 43, 45, 42, 47, 60, 33, 126, 36, 34, 120, 49, 32, 46, 124, 94]) x1 v8 v9 (fun (v10 : ByteArray) (v11 : Int) (v12 : Int) => if (x0.extract 0 v4.toNat).size + v10.size ≤ 9223372036854775807 then if ((x0.extract 0 v4.toNat) ++ v10).size + (x0.extract v4.toNat x0.size).size ≤ 9223372036854775807 then κ (((x0.extract 0 v4.toNat) ++ v10) ++ (x0.extract v4.toNat x0.size)) v11 v12 else none else none) else none else none else none else none) else (bif v7 == 1 then (if (0 : Int) ≤ v4 then if v4 ≤ (x0.size : Int) then κ (x0.extract 0 v4.toNat) v8 v9 else none else none) else (bif decide (v4 < (x0.size : Int)) then (if (0 : Int) ≤ v4 then if v4 ≤ (x0.size : Int) then if (0 : Int) ≤ (w (v4 + 1)) then if (w (v4 + 1)) ≤ (x0.size : Int) then if (x0.extract 0 v4.toNat).size + (x0.extract (w (v4 + 1)).toNat x0.size).size ≤ 9223372036854775807 then κ ((x0.extract 0 v4.toNat) ++ (x0.extract (w (v4 + 1)).toNat x0.size)) v8 v9 else none else none else none else none else none) else (if x0.size + 1 ≤ 9223372036854775807 then κ (x0 ++ (bs [125])) v8 v9 else none)))))
def B_spec_l1Byte (t : Tb ρ) (x0 : List Int) (x1 : Int) (x2 : Int) (κ : Int → Int → Int → Option ρ) : Option ρ := bif decide (x1 < (x0.length : Int)) then (if (0 : Int) ≤ x1 then if x1 < (x0.length : Int) then κ (bitand .i64 (w ((bitand .i64 (bitxor .i64 (shr .i64 (w ((w (x2 * 6364136223846793005)) + 1442695040888963407)) 33) (shr .i64 (w ((w (x2 * 6364136223846793005)) + 1442695040888963407)) 45)) 255) + (w (elI .u8 x0 x1)))) 255) (w (x1 + 1)) (w ((w (x2 * 6364136223846793005)) + 1442695040888963407)) else none else none) else (κ (bitand .i64 (bitxor .i64 (shr .i64 (w ((w (x2 * 6364136223846793005)) + 1442695040888963407)) 33) (shr .i64 (w ((w (x2 * 6364136223846793005)) + 1442695040888963407)) 45)) 255) x1 (w ((w (x2 * 6364136223846793005)) + 1442695040888963407)))
def B_impl_reParser_part (t : Tb ρ) (x0 : ByteArray) (x1 : Int) (x2 : Int) (x3 : List Tt49) (x4 : Bool) (κ : Int → Int → Int → List Tt49 → Bool → Option ρ) : Option ρ := t.impl_reParser_repeated x0 x1 x2 x3 x4 (fun (v5 : Int) (v6 : Int) (v7 : Int) (v8 : List Tt49) (v9 : Bool) => t.impl_reParser_part_s2 [v5] x0 v6 v7 v8 v9 κ)
def B_impl_reParser_part_s2 (t : Tb ρ) (x10 : List Int) (x11 : ByteArray) (x12 : Int) (x13 : Int) (x14 : List Tt49) (x15 : Bool) (κ : Int → Int → Int → List Tt49 → Bool → Option ρ) : Option ρ := bif !x15 then (bif decide (x12 < (x11.size : Int)) then (t.impl_reParser_sees (bs [124, 41]) x11 x12 (fun (v16 : Bool) => bif !v16 then (t.impl_reParser_repeated x11 x12 x13 x14 x15 (fun (v17 : Int) (v18 : Int) (v19 : Int) (v20 : List Tt49) (v21 : Bool) => if (x10.length + 1) * 8 ≤ 140737488355328 then t.impl_reParser_part_s2 (x10 ++ [v17]) x11 v18 v19 v20 v21 κ else none)) else (t.impl_reParser_joined 3 x10 x14 x15 (fun (v22 : Int) (v23 : List Tt49) (v24 : Bool) => κ v22 x12 x13 v23 v24)))) else (t.impl_reParser_joined 3 x10 x14 x15 (fun (v25 : Int) (v26 : List Tt49) (v27 : Bool) => κ v25 x12 x13 v26 v27))) else (t.impl_reParser_joined 3 x10 x14 x15 (fun (v28 : Int) (v29 : List Tt49) (v30 : Bool) => κ v28 x12 x13 v29 v30))
def B_impl_reParser_sees (t : Tb ρ) (x0 : ByteArray) (x1 : ByteArray) (x2 : Int) (κ : Bool → Option ρ) : Option ρ := bif decide (x2 < (x1.size : Int)) then (if (0 : Int) ≤ x2 then if x2 < (x1.size : Int) then t.strings_IndexByte x0 (bt x1 x2) (fun (v3 : Int) => κ (decide (v3 ≥ 0))) else none else none) else (κ false)
def B_impl_reParser_joined (t : Tb ρ) (x0 : Int) (x1 : List Int) (x2 : List Tt49) (x3 : Bool) (κ : Int → List Tt49 → Bool → Option ρ) : Option ρ := bif (x1.length : Int) == 1 then (if (0 : Int) < (x1.length : Int) then κ (elI .i64 x1 0) x2 x3 else none) else (t.impl_reParser_add_1 x0 false (bs []) x1 x2 x3 (fun (v4 : Int) (v5 : List Tt49) (v6 : Bool) => κ v4 v5 v6))
def B_impl_setText (t : Tb ρ) (x0 : Int) (x1 : Bool) (x2 : ByteArray) (x3 : List Int) (κ : ByteArray → Option ρ) : Option ρ := bif x1 then (bif x2.toList == (bs []).toList then (κ (bs [46])) else (bif !x1 then (bif (x2.size : Int) == 2 then (if (0 : Int) < (x2.size : Int) then if (1 : Int) < (x2.size : Int) then bif (bt x2 0) == (bt x2 1) then (if (0 : Int) < (x2.size : Int) then t.impl_masked (bt x2 0) (bs [40, 41, 124, 42, 43, 63, 91, 93, 94, 36, 46, 92]) (fun (v4 : ByteArray) => κ v4) else none) else (t.impl_setText_s5 x0 x1 x2 x3 κ) else none else none) else (t.impl_setText_s5 x0 x1 x2 x3 κ)) else (t.impl_setText_s5 x0 x1 x2 x3 κ))) else (bif !x1 then (bif (x2.size : Int) == 2 then (if (0 : Int) < (x2.size : Int) then if (1 : Int) < (x2.size : Int) then bif (bt x2 0) == (bt x2 1) then (if (0 : Int) < (x2.size : Int) then t.impl_masked (bt x2 0) (bs [40, 41, 124, 42, 43, 63, 91, 93, 94, 36, 46, 92]) (fun (v5 : ByteArray) => κ v5) else none) else (t.impl_setText_s5 x0 x1 x2 x3 κ) else none else none) else (t.impl_setText_s5 x0 x1 x2 x3 κ)) else (t.impl_setText_s5 x0 x1 x2 x3 κ))
def B_impl_setText_s5 (t : Tb ρ) (x6 : Int) (x7 : Bool) (x8 : ByteArray) (x9 : List Int) (κ : ByteArray → Option ρ) : Option ρ := bif x7 then (t.impl_setText_s8 (bs [91, 94]) x6 x7 x8 x9 κ) else (t.impl_setText_s8 (bs [91]) x6 x7 x8 x9 κ)
def B_impl_setText_s8 (t : Tb ρ) (x10 : ByteArray) (x11 : Int) (x12 : Bool) (x13 : ByteArray) (x14 : List Int) (κ : ByteArray → Option ρ) : Option ρ := t.impl_setText_s9 x10 0 x11 x12 x13 x14 κ
def B_impl_setText_s9 (t : Tb ρ) (x15 : ByteArray) (x16 : Int) (x17 : Int) (x18 : Bool) (x19 : ByteArray) (x20 : List Int) (κ : ByteArray → Option ρ) : Option ρ := bif decide (x16 < (x19.size : Int)) then (if (0 : Int) ≤ x16 then if x16 < (x19.size : Int) then t.impl_masked (bt x19 x16) (bs [93, 94, 45, 92]) (fun (v21 : ByteArray) => if x15.size + v21.size ≤ 9223372036854775807 then if (0 : Int) ≤ x16 then if x16 < (x19.size : Int) then if (0 : Int) ≤ (w (x16 + 1)) then if (w (x16 + 1)) < (x19.size : Int) then bif (bt x19 x16) != (bt x19 (w (x16 + 1))) then (if (0 : Int) ≤ (w (x16 + 1)) then if (w (x16 + 1)) < (x19.size : Int) then t.impl_masked (bt x19 (w (x16 + 1))) (bs [93, 94, 45, 92]) (fun (v22 : ByteArray) => if 1 + v22.size ≤ 9223372036854775807 then if (x15 ++ v21).size + ((bs [45]) ++ v22).size ≤ 9223372036854775807 then t.impl_setText_s9 ((x15 ++ v21) ++ ((bs [45]) ++ v22)) (w (x16 + 2)) x17 x18 x19 x20 κ else none else none) else none else none) else (t.impl_setText_s9 (x15 ++ v21) (w (x16 + 2)) x17 x18 x19 x20 κ) else none else none else none else none else none) else none else none) else (if x15.size + 1 ≤ 9223372036854775807 then κ (x15 ++ (bs [93])) else none)
def B_slices_IndexFuncintint (t : Tb ρ) (x0 : List Int) (κ : Int → Option ρ) : Option ρ := t.slices_IndexFuncintint_s2 x0 (x0.length : Int) 0 κ
def B_slices_IndexFuncintint_s2 (t : Tb ρ) (x1 : List Int) (x2 : Int) (x3 : Int) (κ : Int → Option ρ) : Option ρ := bif decide (x3 < x2) then (if (0 : Int) ≤ x3 then if x3 < (x1.length : Int) then t.impl_ReOk_1 (elI .i64 x1 x3) (fun (v4 : Bool) => bif v4 then (κ x3) else (t.slices_IndexFuncintint_s2 x1 x2 (w (x3 + 1)) κ)) else none else none) else (κ (-1))
def B_spec_l2seq (t : Tb ρ) (x0 : Int) (x1 : ByteArray) (x2 : Int) (x3 : List Tt49) (x4 : Bool) (κ : Int → Int → List Tt49 → Bool → Option ρ) : Option ρ := t.spec_l2rep x0 x1 x2 x3 x4 (fun (v5 : Int) (v6 : Int) (v7 : List Tt49) (v8 : Bool) => t.spec_l2seq_s2 x0 [v5] x1 v6 v7 v8 κ)
def B_spec_l2seq_s2 (t : Tb ρ) (x9 : Int) (x10 : List Int) (x11 : ByteArray) (x12 : Int) (x13 : List Tt49) (x14 : Bool) (κ : Int → Int → List Tt49 → Bool → Option ρ) : Option ρ := bif !x14 then (t.spec_l2more x11 x12 (fun (v15 : Bool) => bif v15 then (t.spec_l2peek x11 x12 (fun (v16 : Int) => bif v16 != 124 then (t.spec_l2peek x11 x12 (fun (v17 : Int) => bif v17 != 41 then (t.spec_l2rep x9 x11 x12 x13 x14 (fun (v18 : Int) (v19 : Int) (v20 : List Tt49) (v21 : Bool) => if (x10.length + 1) * 8 ≤ 140737488355328 then t.spec_l2seq_s2 x9 (x10 ++ [v18]) x11 v19 v20 v21 κ else none)) else (t.spec_l2seq_s4 x10 x11 x12 x13 x14 κ))) else (t.spec_l2seq_s4 x10 x11 x12 x13 x14 κ))) else (t.spec_l2seq_s4 x10 x11 x12 x13 x14 κ))) else (t.spec_l2seq_s4 x10 x11 x12 x13 x14 κ)
def B_spec_l2seq_s4 (t : Tb ρ) (x22 : List Int) (x23 : ByteArray) (x24 : Int) (x25 : List Tt49) (x26 : Bool) (κ : Int → Int → List Tt49 → Bool → Option ρ) : Option ρ := bif (x22.length : Int) == 1 then (if (0 : Int) < (x22.length : Int) then κ (elI .i64 x22 0) x24 x25 x26 else none) else (t.spec_l2node 3 false (bs []) x22 x25 (fun (v27 : Int) (v28 : List Tt49) => κ v27 x24 v28 x26))
def B_spec_l2more (t : Tb ρ) (x0 : ByteArray) (x1 : Int) (κ : Bool → Option ρ) : Option ρ := κ (decide (x1 < (x0.size : Int)))
def B_spec_l2peek (t : Tb ρ) (x0 : ByteArray) (x1 : Int) (κ : Int → Option ρ) : Option ρ := bif decide (x1 < (x0.size : Int)) then (if (0 : Int) ≤ x1 then if x1 < (x0.size : Int) then κ (bt x0 x1) else none else none) else (κ 0)
def B_spec_l2node (t : Tb ρ) (x0 : Int) (x1 : Bool) (x2 : ByteArray) (x3 : List Int) (x4 : List Tt49) (κ : Int → List Tt49 → Option ρ) : Option ρ := if (x4.length + 1) * 56 ≤ 140737488355328 then κ (w (((x4 ++ [(x0, x1, x2, x3)]).length : Int) - 1)) (x4 ++ [(x0, x1, x2, x3)]) else none
def B_spec_l2node_1 (t : Tb ρ) (x0 : Int) (x1 : Bool) (x2 : ByteArray) (x3 : List Tt49) (κ : Int → List Tt49 → Option ρ) : Option ρ := if (x3.length + 1) * 56 ≤ 140737488355328 then κ (w (((x3 ++ [(x0, x1, x2, [])]).length : Int) - 1)) (x3 ++ [(x0, x1, x2, [])]) else none
def B_impl_reParser_repeated (t : Tb ρ) (x0 : ByteArray) (x1 : Int) (x2 : Int) (x3 : List Tt49) (x4 : Bool) (κ : Int → Int → Int → List Tt49 → Bool → Option ρ) : Option ρ := t.impl_reParser_atom x0 x1 x2 x3 x4 (fun (v5 : Int) (v6 : Int) (v7 : Int) (v8 : List Tt49) (v9 : Bool) => t.impl_reParser_repeated_s2 v5 x0 v6 v7 v8 v9 κ)
def B_impl_reParser_repeated_s2 (t : Tb ρ) (x10 : Int) (x11 : ByteArray) (x12 : Int) (x13 : Int) (x14 : List Tt49) (x15 : Bool) (κ : Int → Int → Int → List Tt49 → Bool → Option ρ) : Option ρ := bif !x15 then (t.impl_reParser_sees (bs [42, 43, 63]) x11 x12 (fun (v16 : Bool) => bif v16 then (t.impl_reParser_next x11 x12 x15 (fun (v17 : Int) (v18 : Int) (v19 : Bool) => t.strings_IndexByte (bs [42, 43, 63]) v17 (fun (v20 : Int) => t.impl_reParser_add_1 (w (5 + v20)) false (bs []) [x10] x14 v19 (fun (v21 : Int) (v22 : List Tt49) (v23 : Bool) => t.impl_reParser_repeated_s2 v21 x11 v18 x13 v22 v23 κ)))) else (κ x10 x12 x13 x14 x15))) else (κ x10 x12 x13 x14 x15)
def B_impl_reParser_add (t : Tb ρ) (x0 : Int) (x1 : Bool) (x2 : ByteArray) (x3 : List Tt49) (x4 : Bool) (κ : Int → List Tt49 → Bool → Option ρ) : Option ρ := if (x3.length + 1) * 56 ≤ 140737488355328 then bif x4 then (κ (w (((x3 ++ [(x0, x1, x2, [])]).length : Int) - 1)) (x3 ++ [(x0, x1, x2, [])]) true) else (κ (w (((x3 ++ [(x0, x1, x2, [])]).length : Int) - 1)) (x3 ++ [(x0, x1, x2, [])]) (decide (((x3 ++ [(x0, x1, x2, [])]).length : Int) > 200))) else none
def B_impl_reParser_add_1 (t : Tb ρ) (x0 : Int) (x1 : Bool) (x2 : ByteArray) (x3 : List Int) (x4 : List Tt49) (x5 : Bool) (κ : Int → List Tt49 → Bool → Option ρ) : Option ρ := if (x4.length + 1) * 56 ≤ 140737488355328 then bif x5 then (κ (w (((x4 ++ [(x0, x1, x2, x3)]).length : Int) - 1)) (x4 ++ [(x0, x1, x2, x3)]) true) else (κ (w (((x4 ++ [(x0, x1, x2, x3)]).length : Int) - 1)) (x4 ++ [(x0, x1, x2, x3)]) (decide (((x4 ++ [(x0, x1, x2, x3)]).length : Int) > 200))) else none
def B_impl_masked (t : Tb ρ) (x0 : Int) (x1 : ByteArray) (κ : ByteArray → Option ρ) : Option ρ := t.strings_IndexByte x1 x0 (fun (v2 : Int) => bif decide (v2 ≥ 0) then (if 1 + (strOfNums [x0]).size ≤ 9223372036854775807 then κ ((bs [92]) ++ (strOfNums [x0])) else none) else (κ (strOfNums [x0])))
def B_spec_l2rep (t : Tb ρ) (x0 : Int) (x1 : ByteArray) (x2 : Int) (x3 : List Tt49) (x4 : Bool) (κ : Int → Int → List Tt49 → Bool → Option ρ) : Option ρ := t.spec_l2atom x0 x1 x2 x3 x4 (fun (v5 : Int) (v6 : Int) (v7 : List Tt49) (v8 : Bool) => t.spec_l2rep_s2 v5 x1 v6 v7 v8 κ)
def B_spec_l2rep_s2 (t : Tb ρ) (x9 : Int) (x10 : ByteArray) (x11 : Int) (x12 : List Tt49) (x13 : Bool) (κ : Int → Int → List Tt49 → Bool → Option ρ) : Option ρ := bif !x13 then (t.spec_l2more x10 x11 (fun (v14 : Bool) => bif v14 then (t.spec_l2peek x10 x11 (fun (v15 : Int) => t.spec_l2has (bs [42, 43, 63]) v15 (fun (v16 : Bool) => bif v16 then (t.spec_l2peek x10 x11 (fun (v17 : Int) => bif v17 == 43 then (t.spec_l2node 6 false (bs []) [x9] x12 (fun (v18 : Int) (v19 : List Tt49) => t.spec_l2rep_s2 v18 x10 (w (x11 + 1)) v19 x13 κ)) else (bif v17 == 63 then (t.spec_l2node 7 false (bs []) [x9] x12 (fun (v20 : Int) (v21 : List Tt49) => t.spec_l2rep_s2 v20 x10 (w (x11 + 1)) v21 x13 κ)) else (t.spec_l2node 5 false (bs []) [x9] x12 (fun (v22 : Int) (v23 : List Tt49) => t.spec_l2rep_s2 v22 x10 (w (x11 + 1)) v23 x13 κ))))) else (κ x9 x11 x12 x13)))) else (κ x9 x11 x12 x13))) else (κ x9 x11 x12 x13)
def B_impl_reParser_atom (t : Tb ρ) (x0 : ByteArray) (x1 : Int) (x2 : Int) (x3 : List Tt49) (x4 : Bool) (κ : Int → Int → Int → List Tt49 → Bool → Option ρ) : Option ρ := t.impl_reParser_next x0 x1 x4 (fun (v5 : Int) (v6 : Int) (v7 : Bool) => bif v5 == 40 then (bif decide ((w (x2 + 1)) > 20) then (κ 0 v6 (w (x2 + 1)) x3 true) else (bif v7 then (κ 0 v6 (w (x2 + 1)) x3 v7) else (t.impl_reParser_whole x0 v6 (w (x2 + 1)) x3 v7 (fun (v8 : Int) (v9 : Int) (v10 : Int) (v11 : List Tt49) (v12 : Bool) => bif v12 then (κ v8 v9 (w (v10 - 1)) v11 true) else (t.impl_reParser_next x0 v9 v12 (fun (v13 : Int) (v14 : Int) (v15 : Bool) => κ v8 v14 (w (v10 - 1)) v11 (v13 != 41))))))) else (bif v5 == 94 then (t.impl_reParser_add 1 false (bs []) x3 v7 (fun (v16 : Int) (v17 : List Tt49) (v18 : Bool) => κ v16 v6 x2 v17 v18)) else (bif v5 == 36 then (t.impl_reParser_add 2 false (bs []) x3 v7 (fun (v19 : Int) (v20 : List Tt49) (v21 : Bool) => κ v19 v6 x2 v20 v21)) else (bif v5 == 46 then (t.impl_reParser_add 0 true (bs []) x3 v7 (fun (v22 : Int) (v23 : List Tt49) (v24 : Bool) => κ v22 v6 x2 v23 v24)) else (bif v5 == 91 then (t.impl_reParser_class x0 v6 x3 v7 (fun (v25 : Int) (v26 : Int) (v27 : List Tt49) (v28 : Bool) => κ v25 v26 x2 v27 v28)) else (bif v5 == 92 then (t.impl_reParser_next x0 v6 v7 (fun (v29 : Int) (v30 : Int) (v31 : Bool) => t.impl_reParser_single v29 x3 v31 (fun (v32 : Int) (v33 : List Tt49) (v34 : Bool) => κ v32 v30 x2 v33 v34))) else (bif v5 == 41 then (bif v5 == 41 then (t.impl_reParser_atom_s30 x0 v6 x2 x3 v7 κ) else (t.impl_reParser_atom_s3 v5 x0 v6 x2 x3 v7 κ)) else (bif v5 == 124 then (bif v5 == 124 then (t.impl_reParser_atom_s30 x0 v6 x2 x3 v7 κ) else (t.impl_reParser_atom_s3 v5 x0 v6 x2 x3 v7 κ)) else (bif v5 == 42 then (bif v5 == 42 then (t.impl_reParser_atom_s30 x0 v6 x2 x3 v7 κ) else (t.impl_reParser_atom_s3 v5 x0 v6 x2 x3 v7 κ)) else (bif v5 == 43 then (bif v5 == 43 then (t.impl_reParser_atom_s30 x0 v6 x2 x3 v7 κ) else (t.impl_reParser_atom_s3 v5 x0 v6 x2 x3 v7 κ)) else (bif v5 == 63 then (bif v5 == 63 then (t.impl_reParser_atom_s30 x0 v6 x2 x3 v7 κ) else (t.impl_reParser_atom_s3 v5 x0 v6 x2 x3 v7 κ)) else (bif v5 == 93 then (t.impl_reParser_atom_s30 x0 v6 x2 x3 v7 κ) else (t.impl_reParser_atom_s3 v5 x0 v6 x2 x3 v7 κ)))))))))))))
def B_impl_reParser_atom_s3 (t : Tb ρ) (x40 : Int) (x41 : ByteArray) (x42 : Int) (x43 : Int) (x44 : List Tt49) (x45 : Bool) (κ : Int → Int → Int → List Tt49 → Bool → Option ρ) : Option ρ := t.impl_reParser_single x40 x44 x45 (fun (v46 : Int) (v47 : List Tt49) (v48 : Bool) => κ v46 x42 x43 v47 v48)
def B_impl_reParser_atom_s30 (t : Tb ρ) (x35 : ByteArray) (x36 : Int) (x37 : Int) (x38 : List Tt49) (x39 : Bool) (κ : Int → Int → Int → List Tt49 → Bool → Option ρ) : Option ρ := κ 0 x36 x37 x38 true
def B_impl_reParser_next (t : Tb ρ) (x0 : ByteArray) (x1 : Int) (x2 : Bool) (κ : Int → Int → Bool → Option ρ) : Option ρ := bif decide (x1 ≥ (x0.size : Int)) then (κ 0 x1 true) else (if (0 : Int) ≤ (w ((w (x1 + 1)) - 1)) then if (w ((w (x1 + 1)) - 1)) < (x0.size : Int) then κ (bt x0 (w ((w (x1 + 1)) - 1))) (w (x1 + 1)) x2 else none else none)
def B_spec_l2atom (t : Tb ρ) (x0 : Int) (x1 : ByteArray) (x2 : Int) (x3 : List Tt49) (x4 : Bool) (κ : Int → Int → List Tt49 → Bool → Option ρ) : Option ρ := t.spec_l2peek x1 x2 (fun (v5 : Int) => t.spec_l2more x1 x2 (fun (v6 : Bool) => bif !v6 then (κ 0 x2 x3 true) else (t.spec_l2has (bs [41, 124, 42, 43, 63, 93]) v5 (fun (v7 : Bool) => bif v7 then (κ 0 x2 x3 true) else (bif v5 == 40 then (bif x0 == 20 then (κ 0 x2 x3 true) else (t.spec_l2alt (w (x0 + 1)) x1 (w (x2 + 1)) x3 x4 (fun (v8 : Int) (v9 : Int) (v10 : List Tt49) (v11 : Bool) => t.spec_l2peek x1 v9 (fun (v12 : Int) => bif v12 != 41 then (κ v8 (w (v9 + 1)) v10 true) else (κ v8 (w (v9 + 1)) v10 v11))))) else (bif v5 == 91 then (t.spec_l2set x1 x2 x3 x4 (fun (v13 : Int) (v14 : Int) (v15 : List Tt49) (v16 : Bool) => κ v13 v14 v15 v16)) else (bif v5 == 94 then (t.spec_l2node_1 1 false (bs []) x3 (fun (v17 : Int) (v18 : List Tt49) => κ v17 (w (x2 + 1)) v18 x4)) else (bif v5 == 36 then (t.spec_l2node_1 2 false (bs []) x3 (fun (v19 : Int) (v20 : List Tt49) => κ v19 (w (x2 + 1)) v20 x4)) else (bif v5 == 46 then (t.spec_l2node_1 0 true (bs []) x3 (fun (v21 : Int) (v22 : List Tt49) => κ v21 (w (x2 + 1)) v22 x4)) else (bif v5 == 92 then (t.spec_l2more x1 (w (x2 + 1)) (fun (v23 : Bool) => bif !v23 then (κ 0 (w (x2 + 1)) x3 true) else (if (0 : Int) ≤ (w ((w ((w (x2 + 1)) + 1)) - 1)) then if (w ((w ((w (x2 + 1)) + 1)) - 1)) < (x1.size : Int) then t.spec_l2byte (bt x1 (w ((w ((w (x2 + 1)) + 1)) - 1))) (fun (v24 : Int) (v25 : Bool) (v26 : ByteArray) (v27 : List Int) => t.spec_l2node v24 v25 v26 v27 x3 (fun (v28 : Int) (v29 : List Tt49) => κ v28 (w ((w (x2 + 1)) + 1)) v29 x4)) else none else none))) else (t.spec_l2byte v5 (fun (v30 : Int) (v31 : Bool) (v32 : ByteArray) (v33 : List Int) => t.spec_l2node v30 v31 v32 v33 x3 (fun (v34 : Int) (v35 : List Tt49) => κ v34 (w (x2 + 1)) v35 x4)))))))))))))
def B_spec_l2has (t : Tb ρ) (x0 : ByteArray) (x1 : Int) (κ : Bool → Option ρ) : Option ρ := t.spec_l2has_s2 x0 x1 0 κ
def B_spec_l2has_s2 (t : Tb ρ) (x2 : ByteArray) (x3 : Int) (x4 : Int) (κ : Bool → Option ρ) : Option ρ := bif decide (x4 < (x2.size : Int)) then (if (0 : Int) ≤ x4 then if x4 < (x2.size : Int) then bif (bt x2 x4) == x3 then (κ true) else (t.spec_l2has_s2 x2 x3 (w (x4 + 1)) κ) else none else none) else (κ false)
def B_impl_reParser_class (t : Tb ρ) (x0 : ByteArray) (x1 : Int) (x2 : List Tt49) (x3 : Bool) (κ : Int → Int → List Tt49 → Bool → Option ρ) : Option ρ := t.impl_reParser_sees (bs [94]) x0 x1 (fun (v4 : Bool) => bif v4 then (t.impl_reParser_class_s5 [] x0 (w (x1 + 1)) x2 x3 0 true (bs []) [] κ) else (t.impl_reParser_class_s5 [] x0 x1 x2 x3 0 false (bs []) [] κ))
def B_impl_reParser_class_s5 (t : Tb ρ) (x5 : List Int) (x6 : ByteArray) (x7 : Int) (x8 : List Tt49) (x9 : Bool) (x10 : Int) (x11 : Bool) (x12 : ByteArray) (x13 : List Int) (κ : Int → Int → List Tt49 → Bool → Option ρ) : Option ρ := bif !x9 then (bif (x5.length : Int) == 0 then (t.impl_reParser_item x6 x7 x9 (fun (v14 : Int) (v15 : Int) (v16 : Bool) => t.impl_reParser_sees (bs [45]) x6 v15 (fun (v17 : Bool) => bif v17 then (bif decide ((w (v15 + 1)) < (x6.size : Int)) then (if (0 : Int) ≤ (w (v15 + 1)) then if (w (v15 + 1)) < (x6.size : Int) then bif (bt x6 (w (v15 + 1))) != 93 then (t.impl_reParser_item x6 (w (v15 + 1)) v16 (fun (v18 : Int) (v19 : Int) (v20 : Bool) => t.impl_reParser_class_s11 v14 v18 (x5.length : Int) ((x5.length : Int) == 0) true true x5 x6 v19 x8 v20 x10 x11 x12 x13 κ)) else (t.impl_reParser_class_s11 v14 v14 (x5.length : Int) ((x5.length : Int) == 0) true true x5 x6 v15 x8 v16 x10 x11 x12 x13 κ) else none else none) else (t.impl_reParser_class_s11 v14 v14 (x5.length : Int) ((x5.length : Int) == 0) true true x5 x6 v15 x8 v16 x10 x11 x12 x13 κ)) else (t.impl_reParser_class_s11 v14 v14 (x5.length : Int) ((x5.length : Int) == 0) true true x5 x6 v15 x8 v16 x10 x11 x12 x13 κ)))) else (t.impl_reParser_sees (bs [93]) x6 x7 (fun (v21 : Bool) => bif !v21 then (t.impl_reParser_item x6 x7 x9 (fun (v22 : Int) (v23 : Int) (v24 : Bool) => t.impl_reParser_sees (bs [45]) x6 v23 (fun (v25 : Bool) => bif v25 then (bif decide ((w (v23 + 1)) < (x6.size : Int)) then (if (0 : Int) ≤ (w (v23 + 1)) then if (w (v23 + 1)) < (x6.size : Int) then bif (bt x6 (w (v23 + 1))) != 93 then (t.impl_reParser_item x6 (w (v23 + 1)) v24 (fun (v26 : Int) (v27 : Int) (v28 : Bool) => t.impl_reParser_class_s11 v22 v26 (x5.length : Int) ((x5.length : Int) == 0) false (!v21) x5 x6 v27 x8 v28 x10 x11 x12 x13 κ)) else (t.impl_reParser_class_s11 v22 v22 (x5.length : Int) ((x5.length : Int) == 0) false (!v21) x5 x6 v23 x8 v24 x10 x11 x12 x13 κ) else none else none) else (t.impl_reParser_class_s11 v22 v22 (x5.length : Int) ((x5.length : Int) == 0) false (!v21) x5 x6 v23 x8 v24 x10 x11 x12 x13 κ)) else (t.impl_reParser_class_s11 v22 v22 (x5.length : Int) ((x5.length : Int) == 0) false (!v21) x5 x6 v23 x8 v24 x10 x11 x12 x13 κ)))) else (t.impl_reParser_add_1 x10 x11 (strOfNums x5) x13 x8 x9 (fun (v29 : Int) (v30 : List Tt49) (v31 : Bool) => κ v29 (w (x7 + 1)) v30 v31))))) else (t.impl_reParser_add_1 x10 x11 (strOfNums x5) x13 x8 x9 (fun (v32 : Int) (v33 : List Tt49) (v34 : Bool) => κ v32 (w (x7 + 1)) v33 v34))
def B_impl_reParser_class_s11 (t : Tb ρ) (x35 : Int) (x36 : Int) (x37 : Int) (x38 : Bool) (x39 : Bool) (x40 : Bool) (x41 : List Int) (x42 : ByteArray) (x43 : Int) (x44 : List Tt49) (x45 : Bool) (x46 : Int) (x47 : Bool) (x48 : ByteArray) (x49 : List Int) (κ : Int → Int → List Tt49 → Bool → Option ρ) : Option ρ := bif x45 then (t.impl_reParser_class_s12 x35 x36 x37 x38 x39 x40 x41 x42 x43 x44 true x46 x47 x48 x49 κ) else (t.impl_reParser_class_s12 x35 x36 x37 x38 x39 x40 x41 x42 x43 x44 (decide (x36 < x35)) x46 x47 x48 x49 κ)
def B_impl_reParser_class_s12 (t : Tb ρ) (x50 : Int) (x51 : Int) (x52 : Int) (x53 : Bool) (x54 : Bool) (x55 : Bool) (x56 : List Int) (x57 : ByteArray) (x58 : Int) (x59 : List Tt49) (x60 : Bool) (x61 : Int) (x62 : Bool) (x63 : ByteArray) (x64 : List Int) (κ : Int → Int → List Tt49 → Bool → Option ρ) : Option ρ := if (x56.length + 2) * 1 ≤ 140737488355328 then t.impl_reParser_class_s5 (x56 ++ [x50, x51]) x57 x58 x59 x60 x61 x62 x63 x64 κ else none
def B_impl_reParser_single (t : Tb ρ) (x0 : Int) (x1 : List Tt49) (x2 : Bool) (κ : Int → List Tt49 → Bool → Option ρ) : Option ρ := t.impl_reParser_add 0 false (strOfNums [x0, x0]) x1 x2 (fun (v3 : Int) (v4 : List Tt49) (v5 : Bool) => κ v3 v4 v5)
def B_spec_l2set (t : Tb ρ) (x0 : ByteArray) (x1 : Int) (x2 : List Tt49) (x3 : Bool) (κ : Int → Int → List Tt49 → Bool → Option ρ) : Option ρ := t.spec_l2peek x0 (w (x1 + 1)) (fun (v4 : Int) => bif v4 == 94 then (t.spec_l2set_s8 true [] x0 (w ((w (x1 + 1)) + 1)) x2 x3 0 true (bs []) [] κ) else (t.spec_l2set_s8 true [] x0 (w (x1 + 1)) x2 x3 0 false (bs []) [] κ))
def B_spec_l2set_s8 (t : Tb ρ) (x5 : Bool) (x6 : List Int) (x7 : ByteArray) (x8 : Int) (x9 : List Tt49) (x10 : Bool) (x11 : Int) (x12 : Bool) (x13 : ByteArray) (x14 : List Int) (κ : Int → Int → List Tt49 → Bool → Option ρ) : Option ρ := bif !x10 then (bif x5 then (t.spec_l2item x7 x8 x10 (fun (v15 : Int) (v16 : Int) (v17 : Bool) => bif !v17 then (bif decide ((w (v16 + 1)) < (x7.size : Int)) then (if (0 : Int) ≤ v16 then if v16 < (x7.size : Int) then bif (bt x7 v16) == 45 then (if (0 : Int) ≤ (w (v16 + 1)) then if (w (v16 + 1)) < (x7.size : Int) then bif (bt x7 (w (v16 + 1))) != 93 then (t.spec_l2item x7 (w (v16 + 1)) v17 (fun (v18 : Int) (v19 : Int) (v20 : Bool) => t.spec_l2set_s15 v15 v18 x5 true true x6 x7 v19 x9 v20 x11 x12 x13 x14 κ)) else (t.spec_l2set_s15 v15 v15 x5 true true x6 x7 v16 x9 v17 x11 x12 x13 x14 κ) else none else none) else (t.spec_l2set_s15 v15 v15 x5 true true x6 x7 v16 x9 v17 x11 x12 x13 x14 κ) else none else none) else (t.spec_l2set_s15 v15 v15 x5 true true x6 x7 v16 x9 v17 x11 x12 x13 x14 κ)) else (t.spec_l2set_s15 v15 v15 x5 true true x6 x7 v16 x9 v17 x11 x12 x13 x14 κ))) else (t.spec_l2more x7 x8 (fun (v21 : Bool) => bif v21 then (t.spec_l2peek x7 x8 (fun (v22 : Int) => bif v22 != 93 then (t.spec_l2item x7 x8 x10 (fun (v23 : Int) (v24 : Int) (v25 : Bool) => bif !v25 then (bif decide ((w (v24 + 1)) < (x7.size : Int)) then (if (0 : Int) ≤ v24 then if v24 < (x7.size : Int) then bif (bt x7 v24) == 45 then (if (0 : Int) ≤ (w (v24 + 1)) then if (w (v24 + 1)) < (x7.size : Int) then bif (bt x7 (w (v24 + 1))) != 93 then (t.spec_l2item x7 (w (v24 + 1)) v25 (fun (v26 : Int) (v27 : Int) (v28 : Bool) => t.spec_l2set_s15 v23 v26 x5 false (v22 != 93) x6 x7 v27 x9 v28 x11 x12 x13 x14 κ)) else (t.spec_l2set_s15 v23 v23 x5 false (v22 != 93) x6 x7 v24 x9 v25 x11 x12 x13 x14 κ) else none else none) else (t.spec_l2set_s15 v23 v23 x5 false (v22 != 93) x6 x7 v24 x9 v25 x11 x12 x13 x14 κ) else none else none) else (t.spec_l2set_s15 v23 v23 x5 false (v22 != 93) x6 x7 v24 x9 v25 x11 x12 x13 x14 κ)) else (t.spec_l2set_s15 v23 v23 x5 false (v22 != 93) x6 x7 v24 x9 v25 x11 x12 x13 x14 κ))) else (bif x10 then (t.spec_l2set_s19 x7 x8 x9 x10 κ) else (t.spec_l2peek x7 x8 (fun (v29 : Int) => bif v29 != 93 then (t.spec_l2set_s19 x7 x8 x9 x10 κ) else (t.spec_l2node x11 x12 (strOfNums x6) x14 x9 (fun (v30 : Int) (v31 : List Tt49) => κ v30 (w (x8 + 1)) v31 x10))))))) else (bif x10 then (t.spec_l2set_s19 x7 x8 x9 x10 κ) else (t.spec_l2peek x7 x8 (fun (v32 : Int) => bif v32 != 93 then (t.spec_l2set_s19 x7 x8 x9 x10 κ) else (t.spec_l2node x11 x12 (strOfNums x6) x14 x9 (fun (v33 : Int) (v34 : List Tt49) => κ v33 (w (x8 + 1)) v34 x10)))))))) else (bif x10 then (t.spec_l2set_s19 x7 x8 x9 x10 κ) else (t.spec_l2peek x7 x8 (fun (v35 : Int) => bif v35 != 93 then (t.spec_l2set_s19 x7 x8 x9 x10 κ) else (t.spec_l2node x11 x12 (strOfNums x6) x14 x9 (fun (v36 : Int) (v37 : List Tt49) => κ v36 (w (x8 + 1)) v37 x10)))))
def B_spec_l2set_s15 (t : Tb ρ) (x42 : Int) (x43 : Int) (x44 : Bool) (x45 : Bool) (x46 : Bool) (x47 : List Int) (x48 : ByteArray) (x49 : Int) (x50 : List Tt49) (x51 : Bool) (x52 : Int) (x53 : Bool) (x54 : ByteArray) (x55 : List Int) (κ : Int → Int → List Tt49 → Bool → Option ρ) : Option ρ := bif decide (x43 < x42) then (t.spec_l2set_s17 x42 x43 x44 x45 x46 x47 x48 x49 x50 true x52 x53 x54 x55 κ) else (t.spec_l2set_s17 x42 x43 x44 x45 x46 x47 x48 x49 x50 x51 x52 x53 x54 x55 κ)
def B_spec_l2set_s17 (t : Tb ρ) (x56 : Int) (x57 : Int) (x58 : Bool) (x59 : Bool) (x60 : Bool) (x61 : List Int) (x62 : ByteArray) (x63 : Int) (x64 : List Tt49) (x65 : Bool) (x66 : Int) (x67 : Bool) (x68 : ByteArray) (x69 : List Int) (κ : Int → Int → List Tt49 → Bool → Option ρ) : Option ρ := if (x61.length + 2) * 1 ≤ 140737488355328 then t.spec_l2set_s8 false (x61 ++ [x56, x57]) x62 x63 x64 x65 x66 x67 x68 x69 κ else none
def B_spec_l2set_s19 (t : Tb ρ) (x38 : ByteArray) (x39 : Int) (x40 : List Tt49) (x41 : Bool) (κ : Int → Int → List Tt49 → Bool → Option ρ) : Option ρ := κ 0 x39 x40 true
def B_impl_reParser_item (t : Tb ρ) (x0 : ByteArray) (x1 : Int) (x2 : Bool) (κ : Int → Int → Bool → Option ρ) : Option ρ := t.impl_reParser_next x0 x1 x2 (fun (v3 : Int) (v4 : Int) (v5 : Bool) => bif v3 == 92 then (t.impl_reParser_next x0 v4 v5 (fun (v6 : Int) (v7 : Int) (v8 : Bool) => κ v6 v7 v8)) else (bif v5 then (κ v3 v4 true) else (κ v3 v4 (v3 == 93))))
def B_spec_l2item (t : Tb ρ) (x0 : ByteArray) (x1 : Int) (x2 : Bool) (κ : Int → Int → Bool → Option ρ) : Option ρ := t.spec_l2more x0 x1 (fun (v3 : Bool) => bif !v3 then (κ 0 x1 true) else (t.spec_l2peek x0 x1 (fun (v4 : Int) => bif v4 == 93 then (κ 0 x1 true) else (t.spec_l2peek x0 x1 (fun (v5 : Int) => bif v5 == 92 then (t.spec_l2more x0 (w (x1 + 1)) (fun (v6 : Bool) => bif !v6 then (κ 0 (w (x1 + 1)) true) else (if (0 : Int) ≤ (w ((w ((w (x1 + 1)) + 1)) - 1)) then if (w ((w ((w (x1 + 1)) + 1)) - 1)) < (x0.size : Int) then κ (bt x0 (w ((w ((w (x1 + 1)) + 1)) - 1))) (w ((w (x1 + 1)) + 1)) x2 else none else none))) else (if (0 : Int) ≤ (w ((w (x1 + 1)) - 1)) then if (w ((w (x1 + 1)) - 1)) < (x0.size : Int) then κ (bt x0 (w ((w (x1 + 1)) - 1))) (w (x1 + 1)) x2 else none else none))))))
noncomputable def tb : Nat → Tb ρ
  | 0 => ⟨fun _ _ => none, fun _ _ _ _ _ _ => none, X_impl_ReFind, X_impl_ReTest, X_impl_ReEnds, X_impl_ReCount, fun _ _ => none, X_spec_ReOk, fun _ => none, fun _ _ _ _ => none, fun _ _ => none, fun _ _ _ _ => none, fun _ _ _ _ => none, fun _ _ _ _ _ => none, fun _ _ _ _ => none, fun _ _ => none, fun _ _ => none, fun _ _ => none, fun _ _ _ _ _ _ => none, fun _ _ _ _ _ _ _ _ _ _ => none, fun _ _ => none, fun _ _ _ _ => none, fun _ _ => none, fun _ _ _ _ _ => none, fun _ _ _ _ _ => none, fun _ _ _ _ _ => none, fun _ _ _ _ _ _ => none, fun _ _ _ _ _ _ _ _ => none, fun _ _ _ _ _ _ => none, fun _ _ _ _ _ _ _ => none, fun _ _ _ => none, fun _ _ _ _ _ _ _ _ _ _ _ => none, fun _ _ _ _ _ _ _ _ _ _ _ _ _ _ _ => none, fun _ _ _ _ _ _ _ _ _ _ _ _ _ _ => none, fun _ => none, fun _ _ _ _ _ => none, fun _ _ _ _ _ => none, fun _ _ _ _ _ _ => none, fun _ _ _ _ _ => none, fun _ => none, fun _ _ _ _ _ _ => none, fun _ _ => none, fun _ _ => none, fun _ _ _ _ _ _ => none, fun _ _ _ _ _ _ _ => none, fun _ _ _ _ _ => none, fun _ _ _ _ => none, fun _ _ _ _ _ => none, fun _ _ _ _ => none, fun _ _ _ _ _ _ => none, fun _ _ _ _ _ _ _ => none, fun _ _ _ _ => none, fun _ _ _ _ _ => none, fun _ _ _ _ _ => none, fun _ _ _ _ _ => none, fun _ _ _ _ _ _ => none, fun _ _ _ _ _ _ _ => none, fun _ _ => none, fun _ _ _ _ => none, fun _ _ _ _ _ _ => none, fun _ _ _ _ _ _ _ => none, fun _ _ _ _ _ _ => none, fun _ _ _ => none, fun _ _ _ => none, fun _ _ _ _ _ _ => none, fun _ _ _ _ _ => none, fun _ _ _ _ _ _ => none, fun _ _ _ _ _ _ _ => none, X_strings_IndexByte, fun _ _ _ _ _ _ => none, fun _ _ _ _ _ _ _ => none, fun _ _ _ => none, fun _ _ _ _ _ _ => none, fun _ _ _ _ _ _ => none, fun _ _ _ _ _ _ => none, fun _ _ _ _ _ _ _ => none, fun _ _ _ _ _ _ => none, fun _ _ _ _ => none, fun _ _ _ _ _ _ => none, fun _ _ _ => none, fun _ _ _ _ => none, fun _ _ _ _ _ => none, fun _ _ _ _ _ _ _ _ _ _ => none, fun _ _ _ _ _ _ _ _ _ _ _ _ _ _ _ _ => none, fun _ _ _ _ _ _ _ _ _ _ _ _ _ _ _ _ => none, fun _ _ _ _ => none, fun _ _ _ _ _ => none, fun _ _ _ _ _ _ _ _ _ _ _ => none, fun _ _ _ _ _ _ _ _ _ _ _ _ _ _ _ => none, fun _ _ _ _ _ _ _ _ _ _ _ _ _ _ _ => none, fun _ _ _ _ _ => none, fun _ _ _ _ => none, fun _ _ _ _ => none⟩
  | k + 1 => ⟨B_laws_FnFinds (tb k), B_laws_FnFinds_s6 (tb k), X_impl_ReFind, X_impl_ReTest, X_impl_ReEnds, X_impl_ReCount, B_spec_DrawReFind (tb k), X_spec_ReOk, B_laws_shapes (tb k), B_impl_between (tb k), B_spec_l1New (tb k), B_spec_l1New_s3 (tb k), B_spec_l2tree (tb k), B_spec_l2tree_s13 (tb k), B_spec_l2subject (tb k), B_impl_ReParse (tb k), B_impl_ReText (tb k), B_impl_ReOk (tb k), B_impl_ReOk_s5 (tb k), B_impl_ReOk_s10 (tb k), B_spec_ReParse (tb k), B_spec_l2pattern (tb k), B_spec_l2byte (tb k), B_spec_l1Below (tb k), B_spec_l1text (tb k), B_spec_l1Once (tb k), B_spec_l1of (tb k), B_spec_l1of_s3 (tb k), B_impl_reParser_whole (tb k), B_impl_reParser_whole_s2 (tb k), B_impl_reText (tb k), B_impl_reText_s10 (tb k), B_impl_reText_s17 (tb k), B_impl_reText_s19 (tb k), B_impl_reText_s22 (tb k), B_impl_isReNode (tb k), B_impl_isReNode_s10 (tb k), B_impl_isReNode_s11 (tb k), B_impl_isReNode_s14 (tb k), B_impl_isReNode_s15 (tb k), B_impl_isReNode_s19 (tb k), B_slices_ContainsFuncintint (tb k), B_impl_ReOk_1 (tb k), B_spec_l2alt (tb k), B_spec_l2alt_s2 (tb k), B_spec_l2draw (tb k), B_spec_l2draw_s18 (tb k), B_spec_l1bend (tb k), B_spec_l1Byte (tb k), B_impl_reParser_part (tb k), B_impl_reParser_part_s2 (tb k), B_impl_reParser_sees (tb k), B_impl_reParser_joined (tb k), B_impl_setText (tb k), B_impl_setText_s5 (tb k), B_impl_setText_s8 (tb k), B_impl_setText_s9 (tb k), B_slices_IndexFuncintint (tb k), B_slices_IndexFuncintint_s2 (tb k), B_spec_l2seq (tb k), B_spec_l2seq_s2 (tb k), B_spec_l2seq_s4 (tb k), B_spec_l2more (tb k), B_spec_l2peek (tb k), B_spec_l2node (tb k), B_spec_l2node_1 (tb k), B_impl_reParser_repeated (tb k), B_impl_reParser_repeated_s2 (tb k), X_strings_IndexByte, B_impl_reParser_add (tb k), B_impl_reParser_add_1 (tb k), B_impl_masked (tb k), B_spec_l2rep (tb k), B_spec_l2rep_s2 (tb k), B_impl_reParser_atom (tb k), B_impl_reParser_atom_s3 (tb k), B_impl_reParser_atom_s30 (tb k), B_impl_reParser_next (tb k), B_spec_l2atom (tb k), B_spec_l2has (tb k), B_spec_l2has_s2 (tb k), B_impl_reParser_class (tb k), B_impl_reParser_class_s5 (tb k), B_impl_reParser_class_s11 (tb k), B_impl_reParser_class_s12 (tb k), B_impl_reParser_single (tb k), B_spec_l2set (tb k), B_spec_l2set_s8 (tb k), B_spec_l2set_s15 (tb k), B_spec_l2set_s17 (tb k), B_spec_l2set_s19 (tb k), B_impl_reParser_item (tb k), B_spec_l2item (tb k)⟩
end
end Go.Proofs.YtlakdfbfkbndiaaDoor.Ev.Pr
set_option linter.unusedVariables false
set_option maxRecDepth 100000
namespace Go.Proofs.YtlakdfbfkbndiaaDoor.Ev.Pr
open Go Go.RowKit Go.Proofs.YtlakdfbfkbndiaaDoorW.PrintWords Go.Proofs.YtlakdfbfkbndiaaDoorW.PrintMore Kd Go.Proofs.YtlakdfbfkbndiaaDoor.Ev
def tabD : List TI := [⟨3, .int .i64, 1, 8⟩,
  ⟨4, .bool, 1, 1⟩,
  ⟨5, .int .u8, 1, 1⟩,
  ⟨9, .str, 1, 16⟩,
  ⟨26, .sl 49, 1, 24⟩,
  ⟨31, .sl 3, 1, 24⟩,
  ⟨41, .sl 5, 1, 24⟩,
  ⟨49, .st [(0, 3), (1, 4), (2, 9), (3, 31)], 4, 56⟩,
  ⟨95, .st [(0, 41), (1, 3), (2, 3)], 3, 40⟩,
  ⟨99, .sl 9, 1, 24⟩,
  ⟨104, .st [(0, 9), (1, 3), (2, 3), (3, 26), (4, 4)], 5, 64⟩,
  ⟨116, .st [(0, 9), (1, 3), (2, 26), (3, 4)], 4, 56⟩]
def modes : List (Nat × List Nat) := [(86, [0, 0, 1]), (92, [0, 1]), (95, [0, 1])]
def quiets : List Nat := []
def keepers : List Nat := [49]
def wrs : List (Nat × Option Wr) := []
def C : Ctx := ⟨tabD, lookA [] modes, inN quiets, inN keepers, lookA none wrs⟩
def insts : List (Nat × List Inst) := [(8, [⟨[.sl 5 (.int .u8)], [], [pB], [], none, [(6, ⟨[(3, .tok 3), (4, pS), (5, pI), (6, pI), (7, pI)], [(3, 49, yt49)], []⟩)]⟩]),
  (14, [⟨[.sl 49 yt49, pS], [], [pI, pI], [], none, []⟩]),
  (17, [⟨[.sl 49 yt49, pS], [], [pB], [], none, []⟩]),
  (19, [⟨[.sl 49 yt49, pS, pI], [], [.own 3 (.int .i64)], [], none, []⟩]),
  (25, [⟨[.sl 49 yt49, pS], [], [pI], [], none, []⟩]),
  (28, [⟨[.sl 5 (.int .u8)], [], [.own 49 yt49, pS], [], none, []⟩]),
  (29, [⟨[.sl 49 yt49], [], [pB], [], none, []⟩]),
  (30, [⟨[], [], [pB], [], none, []⟩]),
  (44, [⟨[pI, pI, pI], [], [pB], [], none, []⟩]),
  (49, [⟨[.sl 5 (.int .u8)], [], [.ptr 0 0], [[.sl 5 (.int .u8), pI, pI]], none, [(3, ⟨[(0, .sl 5 (.int .u8)), (3, pI), (4, pI)], [], []⟩)]⟩]),
  (50, [⟨[.ptr 0 0], [[.same (.sl 5 (.int .u8)), pI, pI]], [.own 49 yt49], [[sj, pI, pI]], none, [(13, ⟨[(3, .tok 3)], [(3, 49, yt49)], [[.same (.sl 5 (.int .u8)), pI, pI]]⟩)]⟩]),
  (51, [⟨[.ptr 0 0], [[.same (.sl 5 (.int .u8)), pI, pI]], [pS], [[sj, pI, pI]], none, []⟩]),
  (53, [⟨[pS], [], [.own 49 yt49, pB], [], none, []⟩]),
  (54, [⟨[.sl 49 yt49], [], [pS], [], none, []⟩]),
  (60, [⟨[.sl 49 yt49], [], [pB], [], none, [(5, ⟨[(0, .sl 49 yt49), (3, .tok 3), (16, .sl 49 yt49), (17, pI), (18, pI)], [(3, 3, (.int .i64))], []⟩), (10, ⟨[(0, .sl 49 yt49), (3, .tok 3), (4, pI), (16, .sl 49 yt49), (17, pI), (18, pI), (27, .sl 3 (.int .i64)), (28, pI), (29, pI)], [(3, 3, (.int .i64))], []⟩)]⟩]),
  (63, [⟨[pS], [], [.own 49 yt49, pB], [], none, []⟩]),
  (64, [⟨[.ptr 0 0], [[.same (.sl 5 (.int .u8)), pI, pI]], [pS], [[sj, pI, pI]], none, []⟩]),
  (65, [⟨[.sc (.int .u8)], [], [.agg [pI, pB, pS, .own 3 (.int .i64)]], [], none, []⟩]),
  (66, [⟨[.ptr 0 0, pI], [[.same (.sl 5 (.int .u8)), pI, pI]], [pI], [[sj, pI, pI]], none, []⟩]),
  (67, [⟨[.ptr 0 0, .sl 9 .str], [[.same (.sl 5 (.int .u8)), pI, pI]], [pS], [[sj, pI, pI]], none, []⟩]),
  (68, [⟨[.ptr 0 0, pI], [[.same (.sl 5 (.int .u8)), pI, pI]], [pB], [[sj, pI, pI]], none, []⟩]),
  (69, [⟨[.ptr 0 0, pI, pS], [[.same (.sl 5 (.int .u8)), pI, pI]], [pS], [[sj, pI, pI]], none, [(3, ⟨[(0, .ptr 0 0), (1, pI), (2, pS), (7, .tok 7), (8, pI)], [(7, 5, (.int .u8))], [[.same (.sl 5 (.int .u8)), pI, pI]]⟩)]⟩]),
  (71, [⟨[.ptr 0 0], [[.same (pS), pI, pI, .own 49 yt49, pB]], [pI], [[sj, pI, pI, .own 49 yt49, pB]], none, [(2, ⟨[(0, .ptr 0 0), (3, .tok 3)], [(3, 3, (.int .i64))], [[.same (pS), pI, pI, .own 49 yt49, pB]]⟩)]⟩]),
  (72, [⟨[.sl 49 yt49, pI], [], [pS, pI, pB], [], none, [(10, ⟨[(0, .sl 49 yt49), (7, .ptr 0 0), (8, pS), (9, pI), (31, .sl 3 (.int .i64)), (32, pI), (33, pI)], [], [[pI, pB, pS, .sl 3 (.int .i64)]]⟩), (17, ⟨[(0, .sl 49 yt49), (7, .ptr 0 0), (8, pS), (9, pI), (10, pI), (12, pS), (13, pI), (14, pB), (31, .sl 3 (.int .i64)), (32, pI), (33, pI)], [], [[pI, pB, pS, .sl 3 (.int .i64)]]⟩), (19, ⟨[(0, .sl 49 yt49), (7, .ptr 0 0), (8, pS), (9, pI), (12, pS), (13, pI), (14, pB), (31, .sl 3 (.int .i64)), (32, pI), (33, pI)], [], [[pI, pB, pS, .sl 3 (.int .i64)]]⟩), (22, ⟨[], [], []⟩)]⟩]),
  (74, [⟨[.agg [pI, pB, pS, .sl 3 (.int .i64)]], [], [pB], [], none, [(10, ⟨[(1, .ptr 0 0)], [], [[pI, pB, pS, .sl 3 (.int .i64)]]⟩), (11, ⟨[(1, .ptr 0 0), (15, pI)], [], [[pI, pB, pS, .sl 3 (.int .i64)]]⟩), (14, ⟨[(1, .ptr 0 0)], [], [[pI, pB, pS, .sl 3 (.int .i64)]]⟩), (15, ⟨[], [], []⟩), (19, ⟨[(1, .ptr 0 0), (3, pI)], [], [[pI, pB, pS, .sl 3 (.int .i64)]]⟩)]⟩]),
  (75, [⟨[.sl 3 (.int .i64), .fn (.func 76) [] []], [], [pB], [], none, []⟩]),
  (76, [⟨[pI], [], [pB], [], none, []⟩]),
  (80, [⟨[.ptr 0 0, pI], [[.same (pS), pI, .own 49 yt49, pB]], [pI], [[sj, pI, .own 49 yt49, pB]], none, [(2, ⟨[(0, .ptr 0 0), (1, pI), (5, .tok 5)], [(5, 3, (.int .i64))], [[.same (pS), pI, .own 49 yt49, pB]]⟩)]⟩]),
  (81, [⟨[.ptr 0 0, pI], [[.same (.sl 5 (.int .u8)), pI, pI]], [pS], [[sj, pI, pI]], none, [(18, ⟨[(0, .ptr 0 0)], [], [[.same (.sl 5 (.int .u8)), pI, pI]]⟩)]⟩]),
  (82, [⟨[.ptr 0 0, pS], [[.same (.sl 5 (.int .u8)), pI, pI]], [pS], [[sj, pI, pI]], none, []⟩]),
  (83, [⟨[.ptr 0 0], [[.same (.sl 5 (.int .u8)), pI, pI]], [pI], [[sj, pI, pI]], none, []⟩]),
  (84, [⟨[.ptr 0 0], [[.same (pS), pI, pI, .own 49 yt49, pB]], [pI], [[sj, pI, pI, .own 49 yt49, pB]], none, [(2, ⟨[(0, .ptr 0 0), (3, .tok 3)], [(3, 3, (.int .i64))], [[.same (pS), pI, pI, .own 49 yt49, pB]]⟩)]⟩]),
  (85, [⟨[.ptr 0 0, pS], [[.same (pS), .same (pI), sj, sj, sj]], [pB], [[sj, sj, sj, sj, sj]], none, []⟩]),
  (86, [⟨[.ptr 0 0, pI, .own 3 (.int .i64)], [[sj, sj, sj, .own 49 yt49, pB]], [pI], [[sj, sj, sj, .own 49 yt49, pB]], none, []⟩]),
  (87, [⟨[.agg [pI, pB, pS, .sl 3 (.int .i64)]], [], [pS], [], none, [(5, ⟨[(1, .ptr 0 0)], [], [[pI, pB, pS, .sl 3 (.int .i64)]]⟩), (8, ⟨[(1, .ptr 0 0), (3, pS)], [], [[pI, pB, pS, .sl 3 (.int .i64)]]⟩), (9, ⟨[(1, .ptr 0 0), (3, pS), (4, pI)], [], [[pI, pB, pS, .sl 3 (.int .i64)]]⟩)]⟩]),
  (88, [⟨[.sl 3 (.int .i64), .fn (.func 76) [] []], [], [pI], [], none, [(2, ⟨[(0, .sl 3 (.int .i64)), (1, .fn (.func 76) [] []), (7, pI), (8, pI)], [], []⟩)]⟩]),
  (89, [⟨[.ptr 0 0, pI], [[.same (pS), pI, .own 49 yt49, pB]], [pI], [[sj, pI, .own 49 yt49, pB]], none, [(2, ⟨[(0, .ptr 0 0), (1, pI), (5, .tok 5)], [(5, 3, (.int .i64))], [[.same (pS), pI, .own 49 yt49, pB]]⟩), (4, ⟨[(0, .ptr 0 0), (5, .tok 5)], [(5, 3, (.int .i64))], [[.same (pS), pI, .own 49 yt49, pB]]⟩)]⟩]),
  (90, [⟨[.ptr 0 0], [[.same (pS), .same (pI), sj, sj]], [pB], [[sj, sj, sj, sj]], none, []⟩]),
  (91, [⟨[.ptr 0 0], [[.same (pS), .same (pI), sj, sj]], [.sc (.int .u8)], [[sj, sj, sj, sj]], none, []⟩]),
  (92, [⟨[.ptr 0 0, .agg [pI, pB, pS, .own 3 (.int .i64)]], [[sj, sj, .own 49 yt49, sj]], [pI], [[sj, sj, .own 49 yt49, sj]], none, []⟩,
    ⟨[.ptr 0 0, .agg [pI, pB, pS, .cst (.slice none 0 0)]], [[sj, sj, .own 49 yt49, sj]], [pI], [[sj, sj, .own 49 yt49, sj]], none, []⟩]),
  (93, [⟨[.ptr 0 0], [[.same (pS), pI, pI, .own 49 yt49, pB]], [pI], [[sj, pI, pI, .own 49 yt49, pB]], none, [(2, ⟨[(0, .ptr 0 0), (3, pI)], [], [[.same (pS), pI, pI, .own 49 yt49, pB]]⟩)]⟩]),
  (94, [⟨[pS, .sc (.int .u8)], [], [pI], [], none, []⟩]),
  (95, [⟨[.ptr 0 0, .agg [pI, pB, pS, .cst (.slice none 0 0)]], [[sj, sj, sj, .own 49 yt49, pB]], [pI], [[sj, sj, sj, .own 49 yt49, pB]], none, []⟩,
    ⟨[.ptr 0 0, .agg [pI, pB, pS, .own 3 (.int .i64)]], [[sj, sj, sj, .own 49 yt49, pB]], [pI], [[sj, sj, sj, .own 49 yt49, pB]], none, []⟩]),
  (96, [⟨[.sc (.int .u8), pS], [], [pS], [], none, []⟩]),
  (97, [⟨[.ptr 0 0, pI], [[.same (pS), pI, .own 49 yt49, pB]], [pI], [[sj, pI, .own 49 yt49, pB]], none, [(2, ⟨[(0, .ptr 0 0), (5, pI)], [], [[.same (pS), pI, .own 49 yt49, pB]]⟩)]⟩]),
  (98, [⟨[.ptr 0 0], [[.same (pS), pI, pI, .own 49 yt49, pB]], [pI], [[sj, pI, pI, .own 49 yt49, pB]], none, [(3, ⟨[(0, .ptr 0 0), (3, .sc (.int .u8))], [], [[.same (pS), pI, pI, .own 49 yt49, pB]]⟩), (30, ⟨[(0, .ptr 0 0)], [], [[.same (pS), pI, pI, .own 49 yt49, pB]]⟩)]⟩]),
  (99, [⟨[.ptr 0 0], [[.same (pS), pI, sj, sj, pB]], [.sc (.int .u8)], [[sj, pI, sj, sj, pB]], none, []⟩]),
  (101, [⟨[.ptr 0 0, pI], [[.same (pS), pI, .own 49 yt49, pB]], [pI], [[sj, pI, .own 49 yt49, pB]], none, []⟩]),
  (102, [⟨[pS, .sc (.int .u8)], [], [pB], [], none, [(2, ⟨[(0, pS), (1, .sc (.int .u8)), (5, pI)], [], []⟩)]⟩]),
  (103, [⟨[.ptr 0 0], [[.same (pS), pI, sj, .own 49 yt49, pB]], [pI], [[sj, pI, sj, .own 49 yt49, pB]], none, [(5, ⟨[(0, .ptr 0 0), (3, .ptr 1 0), (4, .tok 4)], [(4, 5, (.int .u8))], [[.same (pS), pI, sj, .own 49 yt49, pB], [pI, pB, pS, .own 3 (.int .i64)]]⟩), (11, ⟨[(0, .ptr 0 0), (3, .ptr 1 0), (4, .tok 4), (5, .sc (.int .u8)), (6, .sc (.int .u8)), (25, .tok 4), (26, pI), (27, pB), (28, pB), (32, pB)], [(4, 5, (.int .u8))], [[.same (pS), pI, sj, .own 49 yt49, pB], [pI, pB, pS, .own 3 (.int .i64)]]⟩), (12, ⟨[(0, .ptr 0 0), (3, .ptr 1 0), (4, .tok 4), (5, .sc (.int .u8)), (6, .sc (.int .u8)), (25, .tok 4), (26, pI), (27, pB), (28, pB), (32, pB)], [(4, 5, (.int .u8))], [[.same (pS), pI, sj, .own 49 yt49, pB], [pI, pB, pS, .own 3 (.int .i64)]]⟩)]⟩]),
  (104, [⟨[.ptr 0 0, .sc (.int .u8)], [[sj, sj, sj, .own 49 yt49, pB]], [pI], [[sj, sj, sj, .own 49 yt49, pB]], none, []⟩]),
  (106, [⟨[.ptr 0 0], [[.same (pS), pI, .own 49 yt49, pB]], [pI], [[sj, pI, .own 49 yt49, pB]], none, [(8, ⟨[(0, .ptr 0 0), (3, .ptr 1 0), (4, .tok 4), (5, pB)], [(4, 5, (.int .u8))], [[.same (pS), pI, .own 49 yt49, pB], [pI, pB, pS, .own 3 (.int .i64)]]⟩), (15, ⟨[(0, .ptr 0 0), (3, .ptr 1 0), (4, .tok 4), (6, .sc (.int .u8)), (7, .sc (.int .u8)), (33, pB), (34, pB), (42, pB)], [(4, 5, (.int .u8))], [[.same (pS), pI, .own 49 yt49, pB], [pI, pB, pS, .own 3 (.int .i64)]]⟩), (17, ⟨[(0, .ptr 0 0), (3, .ptr 1 0), (4, .tok 4), (6, .sc (.int .u8)), (7, .sc (.int .u8)), (33, pB), (34, pB), (42, pB)], [(4, 5, (.int .u8))], [[.same (pS), pI, .own 49 yt49, pB], [pI, pB, pS, .own 3 (.int .i64)]]⟩), (19, ⟨[(0, .ptr 0 0)], [], [[.same (pS), pI, .own 49 yt49, pB]]⟩)]⟩]),
  (107, [⟨[.ptr 0 0], [[.same (pS), pI, sj, sj, pB]], [.sc (.int .u8)], [[sj, pI, sj, sj, pB]], none, []⟩]),
  (108, [⟨[.ptr 0 0], [[.same (pS), pI, sj, pB]], [.sc (.int .u8)], [[sj, pI, sj, pB]], none, []⟩])]
noncomputable def fnL : List (Nat × Option Func) := [(8, some Tryd.f8), (28, some Tryd.f28), (30, some Tryd.f30), (44, some Tryd.f44), (49, some Tryd.f49), (50, some Tryd.f50), (51, some Tryd.f51), (53, some Tryd.f53), (54, some Tryd.f54), (60, some Tryd.f60), (63, some Tryd.f63), (64, some Tryd.f64), (65, some Tryd.f65), (66, some Tryd.f66), (67, some Tryd.f67), (68, some Tryd.f68), (69, some Tryd.f69), (71, some Tryd.f71), (72, some Tryd.f72), (74, some Tryd.f74), (75, some Tryd.f75), (76, some Tryd.f76), (80, some Tryd.f80), (81, some Tryd.f81), (82, some Tryd.f82), (83, some Tryd.f83), (84, some Tryd.f84), (85, some Tryd.f85), (86, some Tryd.f86), (87, some Tryd.f87), (88, some Tryd.f88), (89, some Tryd.f89), (90, some Tryd.f90), (91, some Tryd.f91), (92, some Tryd.f92), (93, some Tryd.f93), (95, some Tryd.f95), (96, some Tryd.f96), (97, some Tryd.f97), (98, some Tryd.f98), (99, some Tryd.f99), (101, some Tryd.f101), (102, some Tryd.f102), (103, some Tryd.f103), (104, some Tryd.f104), (106, some Tryd.f106), (107, some Tryd.f107), (108, some Tryd.f108)]
noncomputable def F : Fns := ⟨lookA none fnL, lookA [] insts⟩
theorem tab_right : TabOK Tryd.prog C.D := tab_ok (by kernel_rfl)
theorem fns_right : FnsOK Tryd.prog F := fns_ok ⟨fn_one Tryd.func8 (by kernel_rfl), fn_one Tryd.func28 (by kernel_rfl), fn_one Tryd.func30 (by kernel_rfl), fn_one Tryd.func44 (by kernel_rfl), fn_one Tryd.func49 (by kernel_rfl), fn_one Tryd.func50 (by kernel_rfl), fn_one Tryd.func51 (by kernel_rfl), fn_one Tryd.func53 (by kernel_rfl), fn_one Tryd.func54 (by kernel_rfl), fn_one Tryd.func60 (by kernel_rfl), fn_one Tryd.func63 (by kernel_rfl), fn_one Tryd.func64 (by kernel_rfl), fn_one Tryd.func65 (by kernel_rfl), fn_one Tryd.func66 (by kernel_rfl), fn_one Tryd.func67 (by kernel_rfl), fn_one Tryd.func68 (by kernel_rfl), fn_one Tryd.func69 (by kernel_rfl), fn_one Tryd.func71 (by kernel_rfl), fn_one Tryd.func72 (by kernel_rfl), fn_one Tryd.func74 (by kernel_rfl), fn_one Tryd.func75 (by kernel_rfl), fn_one Tryd.func76 (by kernel_rfl), fn_one Tryd.func80 (by kernel_rfl), fn_one Tryd.func81 (by kernel_rfl), fn_one Tryd.func82 (by kernel_rfl), fn_one Tryd.func83 (by kernel_rfl), fn_one Tryd.func84 (by kernel_rfl), fn_one Tryd.func85 (by kernel_rfl), fn_one Tryd.func86 (by kernel_rfl), fn_one Tryd.func87 (by kernel_rfl), fn_one Tryd.func88 (by kernel_rfl), fn_one Tryd.func89 (by kernel_rfl), fn_one Tryd.func90 (by kernel_rfl), fn_one Tryd.func91 (by kernel_rfl), fn_one Tryd.func92 (by kernel_rfl), fn_one Tryd.func93 (by kernel_rfl), fn_one Tryd.func95 (by kernel_rfl), fn_one Tryd.func96 (by kernel_rfl), fn_one Tryd.func97 (by kernel_rfl), fn_one Tryd.func98 (by kernel_rfl), fn_one Tryd.func99 (by kernel_rfl), fn_one Tryd.func101 (by kernel_rfl), fn_one Tryd.func102 (by kernel_rfl), fn_one Tryd.func103 (by kernel_rfl), fn_one Tryd.func104 (by kernel_rfl), fn_one Tryd.func106 (by kernel_rfl), fn_one Tryd.func107 (by kernel_rfl), fn_one Tryd.func108 (by kernel_rfl), trivial⟩
abbrev insts' := lookA ([] : List Inst) insts
end Go.Proofs.YtlakdfbfkbndiaaDoor.Ev.Pr
set_option linter.unusedVariables false
set_option maxRecDepth 100000
namespace Go.Proofs.YtlakdfbfkbndiaaDoor.Ev.Pr
open Go Go.RowKit Go.Proofs.YtlakdfbfkbndiaaDoorW.PrintWords Go.Proofs.YtlakdfbfkbndiaaDoorW.PrintMore Kd Go.Proofs.YtlakdfbfkbndiaaDoor.Ev
section
variable {ρ : Type}
def lva (t : Tb ρ) : List (Ent ρ) := [en insts' 8 0 0 t.laws_FnFinds, en insts' 8 0 7 t.laws_FnFinds_s6, en insts' 14 0 0 t.impl_ReFind, en insts' 17 0 0 t.impl_ReTest, en insts' 19 0 0 t.impl_ReEnds, en insts' 25 0 0 t.impl_ReCount, en insts' 28 0 0 t.spec_DrawReFind, en insts' 29 0 0 t.spec_ReOk, en insts' 30 0 0 t.laws_shapes, en insts' 44 0 0 t.impl_between, en insts' 49 0 0 t.spec_l1New, en insts' 49 0 4 t.spec_l1New_s3, en insts' 50 0 0 t.spec_l2tree, en insts' 50 0 14 t.spec_l2tree_s13, en insts' 51 0 0 t.spec_l2subject, en insts' 53 0 0 t.impl_ReParse, en insts' 54 0 0 t.impl_ReText, en insts' 60 0 0 t.impl_ReOk, en insts' 60 0 6 t.impl_ReOk_s5, en insts' 60 0 11 t.impl_ReOk_s10, en insts' 63 0 0 t.spec_ReParse, en insts' 64 0 0 t.spec_l2pattern, en insts' 65 0 0 t.spec_l2byte, en insts' 66 0 0 t.spec_l1Below, en insts' 67 0 0 t.spec_l1text, en insts' 68 0 0 t.spec_l1Once, en insts' 69 0 0 t.spec_l1of, en insts' 69 0 4 t.spec_l1of_s3, en insts' 71 0 0 t.impl_reParser_whole, en insts' 71 0 3 t.impl_reParser_whole_s2, en insts' 72 0 0 t.impl_reText, en insts' 72 0 11 t.impl_reText_s10, en insts' 72 0 18 t.impl_reText_s17, en insts' 72 0 20 t.impl_reText_s19, en insts' 72 0 23 t.impl_reText_s22, en insts' 74 0 0 t.impl_isReNode, en insts' 74 0 11 t.impl_isReNode_s10, en insts' 74 0 12 t.impl_isReNode_s11, en insts' 74 0 15 t.impl_isReNode_s14, en insts' 74 0 16 t.impl_isReNode_s15]
def lvb (t : Tb ρ) : List (Ent ρ) := [en insts' 74 0 20 t.impl_isReNode_s19, en insts' 75 0 0 t.slices_ContainsFuncintint, en insts' 76 0 0 t.impl_ReOk_1, en insts' 80 0 0 t.spec_l2alt, en insts' 80 0 3 t.spec_l2alt_s2, en insts' 81 0 0 t.spec_l2draw, en insts' 81 0 19 t.spec_l2draw_s18, en insts' 82 0 0 t.spec_l1bend, en insts' 83 0 0 t.spec_l1Byte, en insts' 84 0 0 t.impl_reParser_part, en insts' 84 0 3 t.impl_reParser_part_s2, en insts' 85 0 0 t.impl_reParser_sees, en insts' 86 0 0 t.impl_reParser_joined, en insts' 87 0 0 t.impl_setText, en insts' 87 0 6 t.impl_setText_s5, en insts' 87 0 9 t.impl_setText_s8, en insts' 87 0 10 t.impl_setText_s9, en insts' 88 0 0 t.slices_IndexFuncintint, en insts' 88 0 3 t.slices_IndexFuncintint_s2, en insts' 89 0 0 t.spec_l2seq, en insts' 89 0 3 t.spec_l2seq_s2, en insts' 89 0 5 t.spec_l2seq_s4, en insts' 90 0 0 t.spec_l2more, en insts' 91 0 0 t.spec_l2peek, en insts' 92 0 0 t.spec_l2node, en insts' 92 1 0 t.spec_l2node_1, en insts' 93 0 0 t.impl_reParser_repeated, en insts' 93 0 3 t.impl_reParser_repeated_s2, en insts' 94 0 0 t.strings_IndexByte, en insts' 95 0 0 t.impl_reParser_add, en insts' 95 1 0 t.impl_reParser_add_1, en insts' 96 0 0 t.impl_masked, en insts' 97 0 0 t.spec_l2rep, en insts' 97 0 3 t.spec_l2rep_s2, en insts' 98 0 0 t.impl_reParser_atom, en insts' 98 0 4 t.impl_reParser_atom_s3, en insts' 98 0 31 t.impl_reParser_atom_s30, en insts' 99 0 0 t.impl_reParser_next, en insts' 101 0 0 t.spec_l2atom, en insts' 102 0 0 t.spec_l2has]
def lvc (t : Tb ρ) : List (Ent ρ) := [en insts' 102 0 3 t.spec_l2has_s2, en insts' 103 0 0 t.impl_reParser_class, en insts' 103 0 6 t.impl_reParser_class_s5, en insts' 103 0 12 t.impl_reParser_class_s11, en insts' 103 0 13 t.impl_reParser_class_s12, en insts' 104 0 0 t.impl_reParser_single, en insts' 106 0 0 t.spec_l2set, en insts' 106 0 9 t.spec_l2set_s8, en insts' 106 0 16 t.spec_l2set_s15, en insts' 106 0 18 t.spec_l2set_s17, en insts' 106 0 20 t.spec_l2set_s19, en insts' 107 0 0 t.impl_reParser_item, en insts' 108 0 0 t.spec_l2item]
noncomputable def lv (k : Nat) : List (Ent ρ) := lva (tb k) ++ (lvb (tb k) ++ (lvc (tb k)))
end
end Go.Proofs.YtlakdfbfkbndiaaDoor.Ev.Pr
set_option linter.unusedVariables false
set_option maxRecDepth 100000
namespace Go.Proofs.YtlakdfbfkbndiaaDoor.Ev.Pr
open Go Go.RowKit Go.Proofs.YtlakdfbfkbndiaaDoor.Ev Go.Proofs.YtlakdfbfkbndiaaDoorW.PrintWords Go.Proofs.YtlakdfbfkbndiaaDoorW.PrintMore Kd
class BgT [Bgs] : Prop where
  tabs : ∀ {E W}, BgOK E W → Q.Tabs W
theorem ofO_some {α ρ : Type} {x : Option α} {κ : α → Option ρ} {r : ρ} (h : ofO x κ = some r) : ∃ a, x = some a ∧ κ a = some r := by
  unfold ofO at h
  split at h
  · exact ⟨_, rfl, h⟩
  · cases h
theorem nodes_C {W : World} {own : Nat → Prop} {A : Option Addr} {n : Nat} {xs : List ReN} (h : Kd.F yt49.kd W own A n xs) : Kd.C Q.k49 W A n (xs.map toS) := by
  obtain ⟨h1, h2, h3⟩ := F_now h
  refine ⟨by rw [List.length_map]; exact h1, h2, fun hn => ?_⟩
  obtain ⟨ad, e, h4⟩ := h3 hn
  refine ⟨ad, e, fun j p hp => ?_⟩
  rw [List.getElem?_map] at hp
  cases hx : xs[j]? with
  | none => rw [hx] at hp; cases hp
  | some x =>
    rw [hx] at hp
    obtain rfl : toS x = p := by simpa using hp
    exact h4 j x hx
end Go.Proofs.YtlakdfbfkbndiaaDoor.Ev.Pr
set_option linter.unusedVariables false
set_option maxRecDepth 100000
namespace Go.Proofs.YtlakdfbfkbndiaaDoor.Ev.Pr
open Go Go.RowKit Go.Proofs.YtlakdfbfkbndiaaDoor.Ev Go.Proofs.YtlakdfbfkbndiaaDoorW.PrintWords Go.Proofs.YtlakdfbfkbndiaaDoorW.PrintMore Kd
section
variable {ρ : Type} [Bgs] [BgT]
theorem xo_impl_ReFind (x0 : List ReN) (x1 : ByteArray) (κ : Out → Option ρ) (r : ρ) (h : X_impl_ReFind x0 x1 (fun a0 a1 => κ (.ret [⟨.int .i64, a0⟩, ⟨.int .i64, a1⟩])) = some r) : FunP Tryd.prog F.insts 14 0 [⟨.sl 49 yt49, x0⟩, ⟨.str, x1⟩] κ r := by
  obtain ⟨⟨a, b⟩, hab, h⟩ := ofO_some h
  refine ⟨⟨Tryd.f14, Tryd.func14, by kernel_rfl, by kernel_rfl⟩, fun I args h1 bx hI hb1 hb2 E W vals hok hB => ?_⟩
  have eI : (F.insts 14)[0]? = some ⟨[.sl 49 yt49, pS], [], [pI, pI], [], none, []⟩ := by kernel_rfl
  obtain rfl := Option.some.inj (eI.symm.trans hI)
  obtain ⟨rfl, rfl⟩ : [AV.sl none 49 yt49 x0, .v (.string x1)] = args ∧ [] = h1 := by simpa [Pt.builds, Pt.build] using hb1
  obtain rfl : [] = bx := by simpa [Pt.buildB] using hb2
  have hl : E.adr = [] := List.length_eq_zero_iff.mp hok.len.symm
  obtain ⟨A, c, rest, rfl, hc, hF, hv⟩ := arg_sl hok.vals
  obtain ⟨rest2, rfl, hv2⟩ := arg_v hv
  obtain rfl := arg_nil hv2
  have hC := nodes_C hF
  have e0 : x0.length = (x0.map toS).length := by rw [List.length_map]
  rw [e0] at hC hc ⊢
  exact ret_plain (outs := [.v (.int .i64 a), .v (.int .i64 b)]) (m := [.int .i64 a, .int .i64 b]) (v := .tuple #[.int .i64 a, .int .i64 b]) h (by simp [Pt.builds, Pt.build]) rfl hl hok.new rfl (fun W' => ⟨rfl, rfl, trivial⟩) (Q.impl_ReFind.calls A c _ x1 a b W hC hc hab (BgT.tabs hB))
theorem xo_impl_ReTest (x0 : List ReN) (x1 : ByteArray) (κ : Out → Option ρ) (r : ρ) (h : X_impl_ReTest x0 x1 (fun a0 => κ (.ret [⟨.bool, a0⟩])) = some r) : FunP Tryd.prog F.insts 17 0 [⟨.sl 49 yt49, x0⟩, ⟨.str, x1⟩] κ r := by
  obtain ⟨a, hab, h⟩ := ofO_some h
  refine ⟨⟨Tryd.f17, Tryd.func17, by kernel_rfl, by kernel_rfl⟩, fun I args h1 bx hI hb1 hb2 E W vals hok hB => ?_⟩
  have eI : (F.insts 17)[0]? = some ⟨[.sl 49 yt49, pS], [], [pB], [], none, []⟩ := by kernel_rfl
  obtain rfl := Option.some.inj (eI.symm.trans hI)
  obtain ⟨rfl, rfl⟩ : [AV.sl none 49 yt49 x0, .v (.string x1)] = args ∧ [] = h1 := by simpa [Pt.builds, Pt.build] using hb1
  obtain rfl : [] = bx := by simpa [Pt.buildB] using hb2
  have hl : E.adr = [] := List.length_eq_zero_iff.mp hok.len.symm
  obtain ⟨A, c, rest, rfl, hc, hF, hv⟩ := arg_sl hok.vals
  obtain ⟨rest2, rfl, hv2⟩ := arg_v hv
  obtain rfl := arg_nil hv2
  have hC := nodes_C hF
  have e0 : x0.length = (x0.map toS).length := by rw [List.length_map]
  rw [e0] at hC hc ⊢
  exact ret_plain (outs := [.v (.bool a)]) (m := [.bool a]) (v := .bool a) h (by simp [Pt.builds, Pt.build]) rfl hl hok.new rfl (fun W' => ⟨rfl, trivial⟩) (Q.impl_ReTest.calls A c _ x1 a W hC hc hab (BgT.tabs hB))
theorem xo_impl_ReCount (x0 : List ReN) (x1 : ByteArray) (κ : Out → Option ρ) (r : ρ) (h : X_impl_ReCount x0 x1 (fun a0 => κ (.ret [⟨.int .i64, a0⟩])) = some r) : FunP Tryd.prog F.insts 25 0 [⟨.sl 49 yt49, x0⟩, ⟨.str, x1⟩] κ r := by
  obtain ⟨a, hab, h⟩ := ofO_some h
  refine ⟨⟨Tryd.f25, Tryd.func25, by kernel_rfl, by kernel_rfl⟩, fun I args h1 bx hI hb1 hb2 E W vals hok hB => ?_⟩
  have eI : (F.insts 25)[0]? = some ⟨[.sl 49 yt49, pS], [], [pI], [], none, []⟩ := by kernel_rfl
  obtain rfl := Option.some.inj (eI.symm.trans hI)
  obtain ⟨rfl, rfl⟩ : [AV.sl none 49 yt49 x0, .v (.string x1)] = args ∧ [] = h1 := by simpa [Pt.builds, Pt.build] using hb1
  obtain rfl : [] = bx := by simpa [Pt.buildB] using hb2
  have hl : E.adr = [] := List.length_eq_zero_iff.mp hok.len.symm
  obtain ⟨A, c, rest, rfl, hc, hF, hv⟩ := arg_sl hok.vals
  obtain ⟨rest2, rfl, hv2⟩ := arg_v hv
  obtain rfl := arg_nil hv2
  have hC := nodes_C hF
  have e0 : x0.length = (x0.map toS).length := by rw [List.length_map]
  rw [e0] at hC hc ⊢
  exact ret_plain (outs := [.v (.int .i64 a)]) (m := [.int .i64 a]) (v := .int .i64 a) h (by simp [Pt.builds, Pt.build]) rfl hl hok.new rfl (fun W' => ⟨rfl, trivial⟩) (Q.impl_ReCount.calls A c _ x1 a W hC hc hab (BgT.tabs hB))
theorem xo_impl_ReEnds (x0 : List ReN) (x1 : ByteArray) (x2 : Int) (κ : Out → Option ρ) (r : ρ) (h : X_impl_ReEnds x0 x1 x2 (fun a0 => κ (.ret [⟨.sl 3 (.int .i64), a0⟩])) = some r) : FunP Tryd.prog F.insts 19 0 [⟨.sl 49 yt49, x0⟩, ⟨.str, x1⟩, ⟨.int .i64, x2⟩] κ r := by
  obtain ⟨a, hab, h⟩ := ofO_some h
  refine ⟨⟨Tryd.f19, Tryd.func19, by kernel_rfl, by kernel_rfl⟩, fun I args h1 bx hI hb1 hb2 E W vals hok hB => ?_⟩
  have eI : (F.insts 19)[0]? = some ⟨[.sl 49 yt49, pS, pI], [], [.own 3 (.int .i64)], [], none, []⟩ := by kernel_rfl
  obtain rfl := Option.some.inj (eI.symm.trans hI)
  obtain ⟨rfl, rfl⟩ : [AV.sl none 49 yt49 x0, .v (.string x1), .v (.int .i64 x2)] = args ∧ [] = h1 := by simpa [Pt.builds, Pt.build] using hb1
  obtain rfl : [] = bx := by simpa [Pt.buildB] using hb2
  have hl : E.adr = [] := List.length_eq_zero_iff.mp hok.len.symm
  obtain ⟨A, c, rest, rfl, hc, hF, hv⟩ := arg_sl hok.vals
  obtain ⟨rest2, rfl, hv2⟩ := arg_v hv
  obtain ⟨rest3, rfl, hv3⟩ := arg_v hv2
  obtain rfl := arg_nil hv3
  have hC := nodes_C hF
  have e0 : x0.length = (x0.map toS).length := by rw [List.length_map]
  rw [e0] at hC hc ⊢
  exact ret_own (t := .int .i64) (e := 3) (xs := a) h rfl rfl hl hok.new (Q.impl_ReEnds.calls A c _ x1 x2 a W hC hc hab (BgT.tabs hB))
theorem xo_spec_ReOk (x0 : List ReN) (κ : Out → Option ρ) (r : ρ) (h : X_spec_ReOk x0 (fun a0 => κ (.ret [⟨.bool, a0⟩])) = some r) : FunP Tryd.prog F.insts 29 0 [⟨.sl 49 yt49, x0⟩] κ r := by
  obtain ⟨a, hab, h⟩ := ofO_some h
  have hk : ∃ k, Q.spec_ReOk.f k (x0.map toS) = some a := by
    unfold specOk at hab
    split at hab
    · rename_i hx
      obtain ⟨k, hk⟩ := hx.choose_spec
      rw [Option.some.inj hab] at hk
      exact ⟨k, hk⟩
    · cases hab
  obtain ⟨k, hk⟩ := hk
  refine ⟨⟨Tryd.f29, Tryd.func29, by kernel_rfl, by kernel_rfl⟩, fun I args h1 bx hI hb1 hb2 E W vals hok hB => ?_⟩
  have eI : (F.insts 29)[0]? = some ⟨[.sl 49 yt49], [], [pB], [], none, []⟩ := by kernel_rfl
  obtain rfl := Option.some.inj (eI.symm.trans hI)
  obtain ⟨rfl, rfl⟩ : [AV.sl none 49 yt49 x0] = args ∧ [] = h1 := by simpa [Pt.builds, Pt.build] using hb1
  obtain rfl : [] = bx := by simpa [Pt.buildB] using hb2
  have hl : E.adr = [] := List.length_eq_zero_iff.mp hok.len.symm
  obtain ⟨A, c, rest, rfl, hc, hF, hv⟩ := arg_sl hok.vals
  obtain rfl := arg_nil hv
  have hC := nodes_C hF
  have e0 : x0.length = (x0.map toS).length := by rw [List.length_map]
  rw [e0] at hC hc ⊢
  exact ret_plain (outs := [.v (.bool a)]) (m := [.bool a]) (v := .bool a) h (by simp [Pt.builds, Pt.build]) rfl hl hok.new rfl (fun W' => ⟨rfl, trivial⟩) (Q.spec_ReOk.calls k A c _ a W hC hc hk)
set_option maxHeartbeats 1000000 in
theorem lite_calls (s : ByteArray) (c : Int) (w : World) :
    Calls Tryd.prog 100 #[.string s, .int .u8 c] w fun e w' => e = .returned (.int .i64 (Lib.indexByte s.data.toList c.toNat.toUInt8)) ∧ Below w.heap.size w w' := by
  go_enter Tryd.func100, Tryd.ntmps100
  go_wp2
  rw [run_callFunc_extern Tryd.func105 (by kernel_rfl) (by kernel_rfl) (by kernel_rfl) (e := Extern.BytealgIndexByte.indexByte) (by kernel_rfl), Lib.run_indexByteString]
  simp only [Result.andThen]
  rw [Oper.upon_value]
  go_wp2
  go_ret
  exact ⟨rfl, Below.refl _ _⟩
set_option maxHeartbeats 1000000 in
theorem index_calls (s : ByteArray) (c : Int) (w : World) :
    Calls Tryd.prog 94 #[.string s, .int .u8 c] w fun e w' => e = .returned (.int .i64 (Lib.indexByte s.data.toList c.toNat.toUInt8)) ∧ Below w.heap.size w w' := by
  have hc := lite_calls s c w
  go_enter Tryd.func94, Tryd.ntmps94
  go_wp2_with fail
  refine hc.mono ?_
  rintro e w' ⟨rfl, hb⟩
  dsimp only
  have HB := Aside0.mk hb
  clear hc hb
  go_wp2_with fail
  go_ret
  exact ⟨rfl, HB.out⟩
theorem xo_strings_IndexByte (x0 : ByteArray) (x1 : Int) (κ : Out → Option ρ) (r : ρ) (h : X_strings_IndexByte x0 x1 (fun a0 => κ (.ret [⟨.int .i64, a0⟩])) = some r) : FunP Tryd.prog F.insts 94 0 [⟨.str, x0⟩, ⟨.int .u8, x1⟩] κ r := by
  refine ⟨⟨Tryd.f94, Tryd.func94, by kernel_rfl, by kernel_rfl⟩, fun I args h1 bx hI hb1 hb2 E W vals hok hB => ?_⟩
  have eI : (F.insts 94)[0]? = some ⟨[pS, .sc (.int .u8)], [], [pI], [], none, []⟩ := by kernel_rfl
  obtain rfl := Option.some.inj (eI.symm.trans hI)
  obtain ⟨rfl, rfl⟩ : [AV.v (.string x0), .v (.int .u8 x1)] = args ∧ [] = h1 := by simpa [Pt.builds, Pt.build] using hb1
  obtain rfl : [] = bx := by simpa [Pt.buildB] using hb2
  have hl : E.adr = [] := List.length_eq_zero_iff.mp hok.len.symm
  obtain ⟨rest2, rfl, hv2⟩ := arg_v hok.vals
  obtain ⟨rest3, rfl, hv3⟩ := arg_v hv2
  obtain rfl := arg_nil hv3
  exact ret_plain (outs := [.v (.int .i64 _)]) (m := [.int .i64 _]) (v := .int .i64 _) h (by simp [Pt.builds, Pt.build]) rfl hl hok.new rfl (fun W' => ⟨rfl, trivial⟩) (index_calls x0 x1 W)
end
end Go.Proofs.YtlakdfbfkbndiaaDoor.Ev.Pr
set_option linter.unusedVariables false
set_option maxRecDepth 100000
namespace Go.Proofs.YtlakdfbfkbndiaaDoor.Ev.Pr
open Go Go.RowKit Go.Proofs.YtlakdfbfkbndiaaDoorW.PrintWords Go.Proofs.YtlakdfbfkbndiaaDoorW.PrintMore Kd Go.Proofs.YtlakdfbfkbndiaaDoor.Ev
section
variable {ρ : Type} [Bgs] [BgT]
theorem ea (k : Nat) : AllP (EntOK Tryd.prog C F (some (semOf (lv (ρ := ρ) k)))) (lva (tb (k + 1))) := ⟨en_ok fun _ _ => by kernel_rfl,
 en_ok fun _ _ _ _ _ _ => by kernel_rfl,
 en_x xo_impl_ReFind,
 en_x xo_impl_ReTest,
 en_x xo_impl_ReEnds,
 en_x xo_impl_ReCount,
 en_ok fun _ _ => by kernel_rfl,
 en_x xo_spec_ReOk,
 en_ok fun _ => by kernel_rfl,
 en_ok fun _ _ _ _ => by kernel_rfl,
 en_ok fun _ _ => by kernel_rfl,
 en_ok fun _ _ _ _ => by kernel_rfl,
 en_ok fun _ _ _ _ => by kernel_rfl,
 en_ok fun _ _ _ _ _ => by kernel_rfl,
 en_ok fun _ _ _ _ => by kernel_rfl,
 en_ok fun _ _ => by kernel_rfl,
 en_ok fun _ _ => by kernel_rfl,
 en_ok fun _ _ => by kernel_rfl,
 en_ok fun _ _ _ _ _ _ => by kernel_rfl,
 en_ok fun _ _ _ _ _ _ _ _ _ _ => by kernel_rfl,
 en_ok fun _ _ => by kernel_rfl,
 en_ok fun _ _ _ _ => by kernel_rfl,
 en_ok fun _ _ => by kernel_rfl,
 en_ok fun _ _ _ _ _ => by kernel_rfl,
 en_ok fun _ _ _ _ _ => by kernel_rfl,
 en_ok fun _ _ _ _ _ => by kernel_rfl,
 en_ok fun _ _ _ _ _ _ => by kernel_rfl,
 en_ok fun _ _ _ _ _ _ _ _ => by kernel_rfl,
 en_ok fun _ _ _ _ _ _ => by kernel_rfl,
 en_ok fun _ _ _ _ _ _ _ => by kernel_rfl,
 en_ok fun _ _ _ => by kernel_rfl,
 en_ok fun _ _ _ _ _ _ _ _ _ _ _ => by kernel_rfl,
 en_ok fun _ _ _ _ _ _ _ _ _ _ _ _ _ _ _ => by kernel_rfl,
 en_ok fun _ _ _ _ _ _ _ _ _ _ _ _ _ _ => by kernel_rfl,
 en_ok fun _ => by kernel_rfl,
 en_ok fun _ _ _ _ _ => by kernel_rfl,
 en_ok fun _ _ _ _ _ => by kernel_rfl,
 en_ok fun _ _ _ _ _ _ => by kernel_rfl,
 en_ok fun _ _ _ _ _ => by kernel_rfl,
 en_ok fun _ => by kernel_rfl, trivial⟩
theorem za : AllP (EntOK Tryd.prog C F none) (lva (tb (ρ := ρ) 0)) := ⟨en_z fun _ _ => rfl,
 en_z fun _ _ _ _ _ _ => rfl,
 en_x xo_impl_ReFind,
 en_x xo_impl_ReTest,
 en_x xo_impl_ReEnds,
 en_x xo_impl_ReCount,
 en_z fun _ _ => rfl,
 en_x xo_spec_ReOk,
 en_z fun _ => rfl,
 en_z fun _ _ _ _ => rfl,
 en_z fun _ _ => rfl,
 en_z fun _ _ _ _ => rfl,
 en_z fun _ _ _ _ => rfl,
 en_z fun _ _ _ _ _ => rfl,
 en_z fun _ _ _ _ => rfl,
 en_z fun _ _ => rfl,
 en_z fun _ _ => rfl,
 en_z fun _ _ => rfl,
 en_z fun _ _ _ _ _ _ => rfl,
 en_z fun _ _ _ _ _ _ _ _ _ _ => rfl,
 en_z fun _ _ => rfl,
 en_z fun _ _ _ _ => rfl,
 en_z fun _ _ => rfl,
 en_z fun _ _ _ _ _ => rfl,
 en_z fun _ _ _ _ _ => rfl,
 en_z fun _ _ _ _ _ => rfl,
 en_z fun _ _ _ _ _ _ => rfl,
 en_z fun _ _ _ _ _ _ _ _ => rfl,
 en_z fun _ _ _ _ _ _ => rfl,
 en_z fun _ _ _ _ _ _ _ => rfl,
 en_z fun _ _ _ => rfl,
 en_z fun _ _ _ _ _ _ _ _ _ _ _ => rfl,
 en_z fun _ _ _ _ _ _ _ _ _ _ _ _ _ _ _ => rfl,
 en_z fun _ _ _ _ _ _ _ _ _ _ _ _ _ _ => rfl,
 en_z fun _ => rfl,
 en_z fun _ _ _ _ _ => rfl,
 en_z fun _ _ _ _ _ => rfl,
 en_z fun _ _ _ _ _ _ => rfl,
 en_z fun _ _ _ _ _ => rfl,
 en_z fun _ => rfl, trivial⟩
theorem eb (k : Nat) : AllP (EntOK Tryd.prog C F (some (semOf (lv (ρ := ρ) k)))) (lvb (tb (k + 1))) := ⟨en_ok fun _ _ _ _ _ _ => by kernel_rfl,
 en_ok fun _ _ => by kernel_rfl,
 en_ok fun _ _ => by kernel_rfl,
 en_ok fun _ _ _ _ _ _ => by kernel_rfl,
 en_ok fun _ _ _ _ _ _ _ => by kernel_rfl,
 en_ok fun _ _ _ _ _ => by kernel_rfl,
 en_ok fun _ _ _ _ => by kernel_rfl,
 en_ok fun _ _ _ _ _ => by kernel_rfl,
 en_ok fun _ _ _ _ => by kernel_rfl,
 en_ok fun _ _ _ _ _ _ => by kernel_rfl,
 en_ok fun _ _ _ _ _ _ _ => by kernel_rfl,
 en_ok fun _ _ _ _ => by kernel_rfl,
 en_ok fun _ _ _ _ _ => by kernel_rfl,
 en_ok fun _ _ _ _ _ => by kernel_rfl,
 en_ok fun _ _ _ _ _ => by kernel_rfl,
 en_ok fun _ _ _ _ _ _ => by kernel_rfl,
 en_ok fun _ _ _ _ _ _ _ => by kernel_rfl,
 en_ok fun _ _ => by kernel_rfl,
 en_ok fun _ _ _ _ => by kernel_rfl,
 en_ok fun _ _ _ _ _ _ => by kernel_rfl,
 en_ok fun _ _ _ _ _ _ _ => by kernel_rfl,
 en_ok fun _ _ _ _ _ _ => by kernel_rfl,
 en_ok fun _ _ _ => by kernel_rfl,
 en_ok fun _ _ _ => by kernel_rfl,
 en_ok fun _ _ _ _ _ _ => by kernel_rfl,
 en_ok fun _ _ _ _ _ => by kernel_rfl,
 en_ok fun _ _ _ _ _ _ => by kernel_rfl,
 en_ok fun _ _ _ _ _ _ _ => by kernel_rfl,
 en_x xo_strings_IndexByte,
 en_ok fun _ _ _ _ _ _ => by kernel_rfl,
 en_ok fun _ _ _ _ _ _ _ => by kernel_rfl,
 en_ok fun _ _ _ => by kernel_rfl,
 en_ok fun _ _ _ _ _ _ => by kernel_rfl,
 en_ok fun _ _ _ _ _ _ => by kernel_rfl,
 en_ok fun _ _ _ _ _ _ => by kernel_rfl,
 en_ok fun _ _ _ _ _ _ _ => by kernel_rfl,
 en_ok fun _ _ _ _ _ _ => by kernel_rfl,
 en_ok fun _ _ _ _ => by kernel_rfl,
 en_ok fun _ _ _ _ _ _ => by kernel_rfl,
 en_ok fun _ _ _ => by kernel_rfl, trivial⟩
theorem zb : AllP (EntOK Tryd.prog C F none) (lvb (tb (ρ := ρ) 0)) := ⟨en_z fun _ _ _ _ _ _ => rfl,
 en_z fun _ _ => rfl,
 en_z fun _ _ => rfl,
 en_z fun _ _ _ _ _ _ => rfl,
 en_z fun _ _ _ _ _ _ _ => rfl,
 en_z fun _ _ _ _ _ => rfl,
 en_z fun _ _ _ _ => rfl,
 en_z fun _ _ _ _ _ => rfl,
 en_z fun _ _ _ _ => rfl,
 en_z fun _ _ _ _ _ _ => rfl,
 en_z fun _ _ _ _ _ _ _ => rfl,
 en_z fun _ _ _ _ => rfl,
 en_z fun _ _ _ _ _ => rfl,
 en_z fun _ _ _ _ _ => rfl,
 en_z fun _ _ _ _ _ => rfl,
 en_z fun _ _ _ _ _ _ => rfl,
 en_z fun _ _ _ _ _ _ _ => rfl,
 en_z fun _ _ => rfl,
 en_z fun _ _ _ _ => rfl,
 en_z fun _ _ _ _ _ _ => rfl,
 en_z fun _ _ _ _ _ _ _ => rfl,
 en_z fun _ _ _ _ _ _ => rfl,
 en_z fun _ _ _ => rfl,
 en_z fun _ _ _ => rfl,
 en_z fun _ _ _ _ _ _ => rfl,
 en_z fun _ _ _ _ _ => rfl,
 en_z fun _ _ _ _ _ _ => rfl,
 en_z fun _ _ _ _ _ _ _ => rfl,
 en_x xo_strings_IndexByte,
 en_z fun _ _ _ _ _ _ => rfl,
 en_z fun _ _ _ _ _ _ _ => rfl,
 en_z fun _ _ _ => rfl,
 en_z fun _ _ _ _ _ _ => rfl,
 en_z fun _ _ _ _ _ _ => rfl,
 en_z fun _ _ _ _ _ _ => rfl,
 en_z fun _ _ _ _ _ _ _ => rfl,
 en_z fun _ _ _ _ _ _ => rfl,
 en_z fun _ _ _ _ => rfl,
 en_z fun _ _ _ _ _ _ => rfl,
 en_z fun _ _ _ => rfl, trivial⟩
theorem ec (k : Nat) : AllP (EntOK Tryd.prog C F (some (semOf (lv (ρ := ρ) k)))) (lvc (tb (k + 1))) := ⟨en_ok fun _ _ _ _ => by kernel_rfl,
 en_ok fun _ _ _ _ _ => by kernel_rfl,
 en_ok fun _ _ _ _ _ _ _ _ _ _ => by kernel_rfl,
 en_ok fun _ _ _ _ _ _ _ _ _ _ _ _ _ _ _ _ => by kernel_rfl,
 en_ok fun _ _ _ _ _ _ _ _ _ _ _ _ _ _ _ _ => by kernel_rfl,
 en_ok fun _ _ _ _ => by kernel_rfl,
 en_ok fun _ _ _ _ _ => by kernel_rfl,
 en_ok fun _ _ _ _ _ _ _ _ _ _ _ => by kernel_rfl,
 en_ok fun _ _ _ _ _ _ _ _ _ _ _ _ _ _ _ => by kernel_rfl,
 en_ok fun _ _ _ _ _ _ _ _ _ _ _ _ _ _ _ => by kernel_rfl,
 en_ok fun _ _ _ _ _ => by kernel_rfl,
 en_ok fun _ _ _ _ => by kernel_rfl,
 en_ok fun _ _ _ _ => by kernel_rfl, trivial⟩
theorem zc : AllP (EntOK Tryd.prog C F none) (lvc (tb (ρ := ρ) 0)) := ⟨en_z fun _ _ _ _ => rfl,
 en_z fun _ _ _ _ _ => rfl,
 en_z fun _ _ _ _ _ _ _ _ _ _ => rfl,
 en_z fun _ _ _ _ _ _ _ _ _ _ _ _ _ _ _ _ => rfl,
 en_z fun _ _ _ _ _ _ _ _ _ _ _ _ _ _ _ _ => rfl,
 en_z fun _ _ _ _ => rfl,
 en_z fun _ _ _ _ _ => rfl,
 en_z fun _ _ _ _ _ _ _ _ _ _ _ => rfl,
 en_z fun _ _ _ _ _ _ _ _ _ _ _ _ _ _ _ => rfl,
 en_z fun _ _ _ _ _ _ _ _ _ _ _ _ _ _ _ => rfl,
 en_z fun _ _ _ _ _ => rfl,
 en_z fun _ _ _ _ => rfl,
 en_z fun _ _ _ _ => rfl, trivial⟩
end
end Go.Proofs.YtlakdfbfkbndiaaDoor.Ev.Pr
set_option linter.unusedVariables false
set_option maxRecDepth 100000
namespace Go.Proofs.YtlakdfbfkbndiaaDoor.Ev.Pr
open Go Go.RowKit Go.Proofs.YtlakdfbfkbndiaaDoorW.PrintWords Go.Proofs.YtlakdfbfkbndiaaDoorW.PrintMore Kd Go.Proofs.YtlakdfbfkbndiaaDoor.Ev
instance wrf : WrFact Tryd.prog C := wr_fact (l := wrs) trivial rfl
theorem sound [Bgs] [BgT] {ρ : Type} : ∀ k, SemOK Tryd.prog F.insts (semOf (lv (ρ := ρ) k)) ∧ StopOK Tryd.prog F (semOf (lv (ρ := ρ) k)) := sem_ok (C := C) tab_right (by kernel_rfl) fns_right (AllP.app (za) (AllP.app (zb) (zc))) fun k => (AllP.app (ea k) (AllP.app (eb k) (ec k)))
end Go.Proofs.YtlakdfbfkbndiaaDoor.Ev.Pr
set_option linter.unusedVariables false
namespace Go.Proofs.YtlakdfbfkbndiaaDoor.Ev
open Go Go.RowKit Go.Proofs.YtlakdfbfkbndiaaDoorW.PrintWords Go.Proofs.YtlakdfbfkbndiaaDoorW.PrintMore Kd
def E0 : Env := ⟨fun _ => .free, [], fun _ => undef, fun _ _ => undef⟩
def outB : Out → Option Bool
  | .ret [⟨.bool, b⟩] => some b
  | _ => none
theorem law_calls [Bgs] {P : Program} {insts : Nat → List Inst} {f : Nat} {hs : List HV} {r : Bool} (h : FunP P insts f 0 hs outB r) {ps : List Pt} {args : List AV} (hI : ((insts f)[0]?).map (fun I => (I.args, I.boxes, I.outs, I.obox, I.pans)) = some (ps, [], [pB], [], none)) (hb : Pt.builds ps hs = some (args, []))
    {W : World} {vals : List Value} (hv : AllQ (ArgV E0 W) 0 args vals) (hB : BgOK E0 W) : Calls P f vals.toArray W fun e w' => e = .returned (.bool r) ∧ Below W.heap.size W w' := by
  obtain ⟨I, hI1, hs5⟩ := Option.map_eq_some_iff.mp hI
  simp only [Prod.mk.injEq] at hs5
  obtain ⟨rfl, hbx, ho, hob, hp⟩ := hs5
  have hc := h.2 I args [] [] hI1 hb (by rw [hbx]; rfl) E0 W vals ⟨hv, fun j cs h => by simp at h, rfl, fun _ _ => rfl⟩ hB
  refine hc.mono fun e w' he => ?_
  obtain ⟨out, h1, h2⟩ := he
  cases e with
  | outgrown => exact h2.elim
  | panicked chain =>
    obtain ⟨vs, p, bp, a, k1, bx, E', y, -, h3, -⟩ := h2
    rw [hp] at h3
    cases h3
  | returned v =>
    obtain ⟨vs, outs, k1, bx, E', m, rfl, h3, h4, hA, hv, hO⟩ := h2
    unfold outB at h1
    split at h1
    · rename_i b hh
      cases h1
      injection hh with hh
      subst hh
      rw [ho] at h3
      obtain ⟨rfl, rfl⟩ : [AV.v (.bool r)] = outs ∧ [] = k1 := by simpa [Pt.builds, Pt.build] using h3
      match m, hO.vals with
      | [y], hy =>
        have hy : y = .bool r := hy.1
        subst hy
        have hv : v = .bool r := hv
        exact ⟨by rw [hv], ⟨hA.os, hA.tape, hA.output, hA.size, fun k hk => (hA.free k hk (.inl rfl)).2⟩⟩
    · cases h1
theorem lent_row {t : Ty} {e : Nat} {W : World} {A : Option Addr} {c : Nat} {xs : List t.den} (hd : Heap t.kd) (h : t.kd.C W A xs.length xs) (hc : xs.length ≤ c) (k : Nat) : ArgV E0 W k (.sl none e t xs) (.slice A xs.length c) :=
  ⟨A, c, rfl, hc, F_mono (C_F hd h) fun _ _ => rfl⟩
end Go.Proofs.YtlakdfbfkbndiaaDoor.Ev
set_option linter.unusedVariables false
set_option maxRecDepth 100000
namespace Go.Proofs.YtlakdfbfkbndiaaDoor.Ev.Pr
open Go Go.RowKit Go.Proofs.YtlakdfbfkbndiaaDoorW.PrintWords Go.Proofs.YtlakdfbfkbndiaaDoorW.PrintMore Kd Go.Proofs.YtlakdfbfkbndiaaDoor.Ev
section
variable {ρ : Type}
theorem st_spec_DrawReFind {x0 : List Int} {Q : ((List Tt49) × ByteArray) → Prop} (h : Tot (fun k κ => B_spec_DrawReFind (tb (ρ := ρ) k) x0 (fun a0 a1 => κ (a0, a1))) Q) : Tot (fun k κ => (tb (ρ := ρ) k).spec_DrawReFind x0 (fun a0 a1 => κ (a0, a1))) Q := Tot.step (fun _ _ => rfl) h
theorem st_spec_l1New {x0 : List Int} {Q : ((List Int) × Int × Int) → Prop} (h : Tot (fun k κ => B_spec_l1New (tb (ρ := ρ) k) x0 (fun a0 a1 a2 => κ (a0, a1, a2))) Q) : Tot (fun k κ => (tb (ρ := ρ) k).spec_l1New x0 (fun a0 a1 a2 => κ (a0, a1, a2))) Q := Tot.step (fun _ _ => rfl) h
theorem st_spec_l1New_s3 {x1 : List Int} {x2 : Int} {x3 : Int} {Q : ((List Int) × Int × Int) → Prop} (h : Tot (fun k κ => B_spec_l1New_s3 (tb (ρ := ρ) k) x1 x2 x3 (fun a0 a1 a2 => κ (a0, a1, a2))) Q) : Tot (fun k κ => (tb (ρ := ρ) k).spec_l1New_s3 x1 x2 x3 (fun a0 a1 a2 => κ (a0, a1, a2))) Q := Tot.step (fun _ _ => rfl) h
theorem st_spec_l2tree {x0 : List Int} {x1 : Int} {x2 : Int} {Q : ((List Tt49) × Int × Int) → Prop} (h : Tot (fun k κ => B_spec_l2tree (tb (ρ := ρ) k) x0 x1 x2 (fun a0 a1 a2 => κ (a0, a1, a2))) Q) : Tot (fun k κ => (tb (ρ := ρ) k).spec_l2tree x0 x1 x2 (fun a0 a1 a2 => κ (a0, a1, a2))) Q := Tot.step (fun _ _ => rfl) h
theorem st_spec_l2tree_s13 {x52 : List Tt49} {x53 : List Int} {x54 : Int} {x55 : Int} {Q : ((List Tt49) × Int × Int) → Prop} (h : Tot (fun k κ => B_spec_l2tree_s13 (tb (ρ := ρ) k) x52 x53 x54 x55 (fun a0 a1 a2 => κ (a0, a1, a2))) Q) : Tot (fun k κ => (tb (ρ := ρ) k).spec_l2tree_s13 x52 x53 x54 x55 (fun a0 a1 a2 => κ (a0, a1, a2))) Q := Tot.step (fun _ _ => rfl) h
theorem st_spec_l2subject {x0 : List Int} {x1 : Int} {x2 : Int} {Q : (ByteArray × Int × Int) → Prop} (h : Tot (fun k κ => B_spec_l2subject (tb (ρ := ρ) k) x0 x1 x2 (fun a0 a1 a2 => κ (a0, a1, a2))) Q) : Tot (fun k κ => (tb (ρ := ρ) k).spec_l2subject x0 x1 x2 (fun a0 a1 a2 => κ (a0, a1, a2))) Q := Tot.step (fun _ _ => rfl) h
theorem st_spec_ReParse {x0 : ByteArray} {Q : ((List Tt49) × Bool) → Prop} (h : Tot (fun k κ => B_spec_ReParse (tb (ρ := ρ) k) x0 (fun a0 a1 => κ (a0, a1))) Q) : Tot (fun k κ => (tb (ρ := ρ) k).spec_ReParse x0 (fun a0 a1 => κ (a0, a1))) Q := Tot.step (fun _ _ => rfl) h
theorem st_spec_l2pattern {x0 : List Int} {x1 : Int} {x2 : Int} {Q : (ByteArray × Int × Int) → Prop} (h : Tot (fun k κ => B_spec_l2pattern (tb (ρ := ρ) k) x0 x1 x2 (fun a0 a1 a2 => κ (a0, a1, a2))) Q) : Tot (fun k κ => (tb (ρ := ρ) k).spec_l2pattern x0 x1 x2 (fun a0 a1 a2 => κ (a0, a1, a2))) Q := Tot.step (fun _ _ => rfl) h
theorem st_spec_l2byte {x0 : Int} {Q : (Int × Bool × ByteArray × (List Int)) → Prop} (h : Tot (fun k κ => B_spec_l2byte (tb (ρ := ρ) k) x0 (fun a0 a1 a2 a3 => κ (a0, a1, a2, a3))) Q) : Tot (fun k κ => (tb (ρ := ρ) k).spec_l2byte x0 (fun a0 a1 a2 a3 => κ (a0, a1, a2, a3))) Q := Tot.step (fun _ _ => rfl) h
theorem st_spec_l1Below {x0 : Int} {x1 : List Int} {x2 : Int} {x3 : Int} {Q : (Int × Int × Int) → Prop} (h : Tot (fun k κ => B_spec_l1Below (tb (ρ := ρ) k) x0 x1 x2 x3 (fun a0 a1 a2 => κ (a0, a1, a2))) Q) : Tot (fun k κ => (tb (ρ := ρ) k).spec_l1Below x0 x1 x2 x3 (fun a0 a1 a2 => κ (a0, a1, a2))) Q := Tot.step (fun _ _ => rfl) h
theorem st_spec_l1text {x0 : List ByteArray} {x1 : List Int} {x2 : Int} {x3 : Int} {Q : (ByteArray × Int × Int) → Prop} (h : Tot (fun k κ => B_spec_l1text (tb (ρ := ρ) k) x0 x1 x2 x3 (fun a0 a1 a2 => κ (a0, a1, a2))) Q) : Tot (fun k κ => (tb (ρ := ρ) k).spec_l1text x0 x1 x2 x3 (fun a0 a1 a2 => κ (a0, a1, a2))) Q := Tot.step (fun _ _ => rfl) h
theorem st_spec_l1Once {x0 : Int} {x1 : List Int} {x2 : Int} {x3 : Int} {Q : (Bool × Int × Int) → Prop} (h : Tot (fun k κ => B_spec_l1Once (tb (ρ := ρ) k) x0 x1 x2 x3 (fun a0 a1 a2 => κ (a0, a1, a2))) Q) : Tot (fun k κ => (tb (ρ := ρ) k).spec_l1Once x0 x1 x2 x3 (fun a0 a1 a2 => κ (a0, a1, a2))) Q := Tot.step (fun _ _ => rfl) h
theorem st_spec_l1of {x0 : Int} {x1 : ByteArray} {x2 : List Int} {x3 : Int} {x4 : Int} {Q : (ByteArray × Int × Int) → Prop} (h : Tot (fun k κ => B_spec_l1of (tb (ρ := ρ) k) x0 x1 x2 x3 x4 (fun a0 a1 a2 => κ (a0, a1, a2))) Q) : Tot (fun k κ => (tb (ρ := ρ) k).spec_l1of x0 x1 x2 x3 x4 (fun a0 a1 a2 => κ (a0, a1, a2))) Q := Tot.step (fun _ _ => rfl) h
theorem st_spec_l1of_s3 {x5 : Int} {x6 : ByteArray} {x7 : Int} {x8 : List Int} {x9 : List Int} {x10 : Int} {x11 : Int} {Q : (ByteArray × Int × Int) → Prop} (h : Tot (fun k κ => B_spec_l1of_s3 (tb (ρ := ρ) k) x5 x6 x7 x8 x9 x10 x11 (fun a0 a1 a2 => κ (a0, a1, a2))) Q) : Tot (fun k κ => (tb (ρ := ρ) k).spec_l1of_s3 x5 x6 x7 x8 x9 x10 x11 (fun a0 a1 a2 => κ (a0, a1, a2))) Q := Tot.step (fun _ _ => rfl) h
theorem st_spec_l2alt {x0 : Int} {x1 : ByteArray} {x2 : Int} {x3 : List Tt49} {x4 : Bool} {Q : (Int × Int × (List Tt49) × Bool) → Prop} (h : Tot (fun k κ => B_spec_l2alt (tb (ρ := ρ) k) x0 x1 x2 x3 x4 (fun a0 a1 a2 a3 => κ (a0, a1, a2, a3))) Q) : Tot (fun k κ => (tb (ρ := ρ) k).spec_l2alt x0 x1 x2 x3 x4 (fun a0 a1 a2 a3 => κ (a0, a1, a2, a3))) Q := Tot.step (fun _ _ => rfl) h
theorem st_spec_l2alt_s2 {x9 : Int} {x10 : List Int} {x11 : ByteArray} {x12 : Int} {x13 : List Tt49} {x14 : Bool} {Q : (Int × Int × (List Tt49) × Bool) → Prop} (h : Tot (fun k κ => B_spec_l2alt_s2 (tb (ρ := ρ) k) x9 x10 x11 x12 x13 x14 (fun a0 a1 a2 a3 => κ (a0, a1, a2, a3))) Q) : Tot (fun k κ => (tb (ρ := ρ) k).spec_l2alt_s2 x9 x10 x11 x12 x13 x14 (fun a0 a1 a2 a3 => κ (a0, a1, a2, a3))) Q := Tot.step (fun _ _ => rfl) h
theorem st_spec_l2draw {x0 : Int} {x1 : List Int} {x2 : Int} {x3 : Int} {Q : (ByteArray × Int × Int) → Prop} (h : Tot (fun k κ => B_spec_l2draw (tb (ρ := ρ) k) x0 x1 x2 x3 (fun a0 a1 a2 => κ (a0, a1, a2))) Q) : Tot (fun k κ => (tb (ρ := ρ) k).spec_l2draw x0 x1 x2 x3 (fun a0 a1 a2 => κ (a0, a1, a2))) Q := Tot.step (fun _ _ => rfl) h
theorem st_spec_l2draw_s18 {x73 : List Int} {x74 : Int} {x75 : Int} {Q : (ByteArray × Int × Int) → Prop} (h : Tot (fun k κ => B_spec_l2draw_s18 (tb (ρ := ρ) k) x73 x74 x75 (fun a0 a1 a2 => κ (a0, a1, a2))) Q) : Tot (fun k κ => (tb (ρ := ρ) k).spec_l2draw_s18 x73 x74 x75 (fun a0 a1 a2 => κ (a0, a1, a2))) Q := Tot.step (fun _ _ => rfl) h
theorem st_spec_l1bend {x0 : ByteArray} {x1 : List Int} {x2 : Int} {x3 : Int} {Q : (ByteArray × Int × Int) → Prop} (h : Tot (fun k κ => B_spec_l1bend (tb (ρ := ρ) k) x0 x1 x2 x3 (fun a0 a1 a2 => κ (a0, a1, a2))) Q) : Tot (fun k κ => (tb (ρ := ρ) k).spec_l1bend x0 x1 x2 x3 (fun a0 a1 a2 => κ (a0, a1, a2))) Q := Tot.step (fun _ _ => rfl) h
theorem st_spec_l1Byte {x0 : List Int} {x1 : Int} {x2 : Int} {Q : (Int × Int × Int) → Prop} (h : Tot (fun k κ => B_spec_l1Byte (tb (ρ := ρ) k) x0 x1 x2 (fun a0 a1 a2 => κ (a0, a1, a2))) Q) : Tot (fun k κ => (tb (ρ := ρ) k).spec_l1Byte x0 x1 x2 (fun a0 a1 a2 => κ (a0, a1, a2))) Q := Tot.step (fun _ _ => rfl) h
theorem st_spec_l2seq {x0 : Int} {x1 : ByteArray} {x2 : Int} {x3 : List Tt49} {x4 : Bool} {Q : (Int × Int × (List Tt49) × Bool) → Prop} (h : Tot (fun k κ => B_spec_l2seq (tb (ρ := ρ) k) x0 x1 x2 x3 x4 (fun a0 a1 a2 a3 => κ (a0, a1, a2, a3))) Q) : Tot (fun k κ => (tb (ρ := ρ) k).spec_l2seq x0 x1 x2 x3 x4 (fun a0 a1 a2 a3 => κ (a0, a1, a2, a3))) Q := Tot.step (fun _ _ => rfl) h
theorem st_spec_l2seq_s2 {x9 : Int} {x10 : List Int} {x11 : ByteArray} {x12 : Int} {x13 : List Tt49} {x14 : Bool} {Q : (Int × Int × (List Tt49) × Bool) → Prop} (h : Tot (fun k κ => B_spec_l2seq_s2 (tb (ρ := ρ) k) x9 x10 x11 x12 x13 x14 (fun a0 a1 a2 a3 => κ (a0, a1, a2, a3))) Q) : Tot (fun k κ => (tb (ρ := ρ) k).spec_l2seq_s2 x9 x10 x11 x12 x13 x14 (fun a0 a1 a2 a3 => κ (a0, a1, a2, a3))) Q := Tot.step (fun _ _ => rfl) h
theorem st_spec_l2seq_s4 {x22 : List Int} {x23 : ByteArray} {x24 : Int} {x25 : List Tt49} {x26 : Bool} {Q : (Int × Int × (List Tt49) × Bool) → Prop} (h : Tot (fun k κ => B_spec_l2seq_s4 (tb (ρ := ρ) k) x22 x23 x24 x25 x26 (fun a0 a1 a2 a3 => κ (a0, a1, a2, a3))) Q) : Tot (fun k κ => (tb (ρ := ρ) k).spec_l2seq_s4 x22 x23 x24 x25 x26 (fun a0 a1 a2 a3 => κ (a0, a1, a2, a3))) Q := Tot.step (fun _ _ => rfl) h
theorem st_spec_l2more {x0 : ByteArray} {x1 : Int} {Q : Bool → Prop} (h : Tot (fun k κ => B_spec_l2more (tb (ρ := ρ) k) x0 x1 (fun a0 => κ a0)) Q) : Tot (fun k κ => (tb (ρ := ρ) k).spec_l2more x0 x1 (fun a0 => κ a0)) Q := Tot.step (fun _ _ => rfl) h
theorem st_spec_l2peek {x0 : ByteArray} {x1 : Int} {Q : Int → Prop} (h : Tot (fun k κ => B_spec_l2peek (tb (ρ := ρ) k) x0 x1 (fun a0 => κ a0)) Q) : Tot (fun k κ => (tb (ρ := ρ) k).spec_l2peek x0 x1 (fun a0 => κ a0)) Q := Tot.step (fun _ _ => rfl) h
theorem st_spec_l2node {x0 : Int} {x1 : Bool} {x2 : ByteArray} {x3 : List Int} {x4 : List Tt49} {Q : (Int × (List Tt49)) → Prop} (h : Tot (fun k κ => B_spec_l2node (tb (ρ := ρ) k) x0 x1 x2 x3 x4 (fun a0 a1 => κ (a0, a1))) Q) : Tot (fun k κ => (tb (ρ := ρ) k).spec_l2node x0 x1 x2 x3 x4 (fun a0 a1 => κ (a0, a1))) Q := Tot.step (fun _ _ => rfl) h
theorem st_spec_l2node_1 {x0 : Int} {x1 : Bool} {x2 : ByteArray} {x3 : List Tt49} {Q : (Int × (List Tt49)) → Prop} (h : Tot (fun k κ => B_spec_l2node_1 (tb (ρ := ρ) k) x0 x1 x2 x3 (fun a0 a1 => κ (a0, a1))) Q) : Tot (fun k κ => (tb (ρ := ρ) k).spec_l2node_1 x0 x1 x2 x3 (fun a0 a1 => κ (a0, a1))) Q := Tot.step (fun _ _ => rfl) h
theorem st_spec_l2rep {x0 : Int} {x1 : ByteArray} {x2 : Int} {x3 : List Tt49} {x4 : Bool} {Q : (Int × Int × (List Tt49) × Bool) → Prop} (h : Tot (fun k κ => B_spec_l2rep (tb (ρ := ρ) k) x0 x1 x2 x3 x4 (fun a0 a1 a2 a3 => κ (a0, a1, a2, a3))) Q) : Tot (fun k κ => (tb (ρ := ρ) k).spec_l2rep x0 x1 x2 x3 x4 (fun a0 a1 a2 a3 => κ (a0, a1, a2, a3))) Q := Tot.step (fun _ _ => rfl) h
theorem st_spec_l2rep_s2 {x9 : Int} {x10 : ByteArray} {x11 : Int} {x12 : List Tt49} {x13 : Bool} {Q : (Int × Int × (List Tt49) × Bool) → Prop} (h : Tot (fun k κ => B_spec_l2rep_s2 (tb (ρ := ρ) k) x9 x10 x11 x12 x13 (fun a0 a1 a2 a3 => κ (a0, a1, a2, a3))) Q) : Tot (fun k κ => (tb (ρ := ρ) k).spec_l2rep_s2 x9 x10 x11 x12 x13 (fun a0 a1 a2 a3 => κ (a0, a1, a2, a3))) Q := Tot.step (fun _ _ => rfl) h
theorem st_spec_l2atom {x0 : Int} {x1 : ByteArray} {x2 : Int} {x3 : List Tt49} {x4 : Bool} {Q : (Int × Int × (List Tt49) × Bool) → Prop} (h : Tot (fun k κ => B_spec_l2atom (tb (ρ := ρ) k) x0 x1 x2 x3 x4 (fun a0 a1 a2 a3 => κ (a0, a1, a2, a3))) Q) : Tot (fun k κ => (tb (ρ := ρ) k).spec_l2atom x0 x1 x2 x3 x4 (fun a0 a1 a2 a3 => κ (a0, a1, a2, a3))) Q := Tot.step (fun _ _ => rfl) h
theorem st_spec_l2has {x0 : ByteArray} {x1 : Int} {Q : Bool → Prop} (h : Tot (fun k κ => B_spec_l2has (tb (ρ := ρ) k) x0 x1 (fun a0 => κ a0)) Q) : Tot (fun k κ => (tb (ρ := ρ) k).spec_l2has x0 x1 (fun a0 => κ a0)) Q := Tot.step (fun _ _ => rfl) h
theorem st_spec_l2has_s2 {x2 : ByteArray} {x3 : Int} {x4 : Int} {Q : Bool → Prop} (h : Tot (fun k κ => B_spec_l2has_s2 (tb (ρ := ρ) k) x2 x3 x4 (fun a0 => κ a0)) Q) : Tot (fun k κ => (tb (ρ := ρ) k).spec_l2has_s2 x2 x3 x4 (fun a0 => κ a0)) Q := Tot.step (fun _ _ => rfl) h
theorem st_spec_l2set {x0 : ByteArray} {x1 : Int} {x2 : List Tt49} {x3 : Bool} {Q : (Int × Int × (List Tt49) × Bool) → Prop} (h : Tot (fun k κ => B_spec_l2set (tb (ρ := ρ) k) x0 x1 x2 x3 (fun a0 a1 a2 a3 => κ (a0, a1, a2, a3))) Q) : Tot (fun k κ => (tb (ρ := ρ) k).spec_l2set x0 x1 x2 x3 (fun a0 a1 a2 a3 => κ (a0, a1, a2, a3))) Q := Tot.step (fun _ _ => rfl) h
theorem st_spec_l2set_s8 {x5 : Bool} {x6 : List Int} {x7 : ByteArray} {x8 : Int} {x9 : List Tt49} {x10 : Bool} {x11 : Int} {x12 : Bool} {x13 : ByteArray} {x14 : List Int} {Q : (Int × Int × (List Tt49) × Bool) → Prop} (h : Tot (fun k κ => B_spec_l2set_s8 (tb (ρ := ρ) k) x5 x6 x7 x8 x9 x10 x11 x12 x13 x14 (fun a0 a1 a2 a3 => κ (a0, a1, a2, a3))) Q) : Tot (fun k κ => (tb (ρ := ρ) k).spec_l2set_s8 x5 x6 x7 x8 x9 x10 x11 x12 x13 x14 (fun a0 a1 a2 a3 => κ (a0, a1, a2, a3))) Q := Tot.step (fun _ _ => rfl) h
theorem st_spec_l2set_s15 {x42 : Int} {x43 : Int} {x44 : Bool} {x45 : Bool} {x46 : Bool} {x47 : List Int} {x48 : ByteArray} {x49 : Int} {x50 : List Tt49} {x51 : Bool} {x52 : Int} {x53 : Bool} {x54 : ByteArray} {x55 : List Int} {Q : (Int × Int × (List Tt49) × Bool) → Prop} (h : Tot (fun k κ => B_spec_l2set_s15 (tb (ρ := ρ) k) x42 x43 x44 x45 x46 x47 x48 x49 x50 x51 x52 x53 x54 x55 (fun a0 a1 a2 a3 => κ (a0, a1, a2, a3))) Q) : Tot (fun k κ => (tb (ρ := ρ) k).spec_l2set_s15 x42 x43 x44 x45 x46 x47 x48 x49 x50 x51 x52 x53 x54 x55 (fun a0 a1 a2 a3 => κ (a0, a1, a2, a3))) Q := Tot.step (fun _ _ => rfl) h
theorem st_spec_l2set_s17 {x56 : Int} {x57 : Int} {x58 : Bool} {x59 : Bool} {x60 : Bool} {x61 : List Int} {x62 : ByteArray} {x63 : Int} {x64 : List Tt49} {x65 : Bool} {x66 : Int} {x67 : Bool} {x68 : ByteArray} {x69 : List Int} {Q : (Int × Int × (List Tt49) × Bool) → Prop} (h : Tot (fun k κ => B_spec_l2set_s17 (tb (ρ := ρ) k) x56 x57 x58 x59 x60 x61 x62 x63 x64 x65 x66 x67 x68 x69 (fun a0 a1 a2 a3 => κ (a0, a1, a2, a3))) Q) : Tot (fun k κ => (tb (ρ := ρ) k).spec_l2set_s17 x56 x57 x58 x59 x60 x61 x62 x63 x64 x65 x66 x67 x68 x69 (fun a0 a1 a2 a3 => κ (a0, a1, a2, a3))) Q := Tot.step (fun _ _ => rfl) h
theorem st_spec_l2set_s19 {x38 : ByteArray} {x39 : Int} {x40 : List Tt49} {x41 : Bool} {Q : (Int × Int × (List Tt49) × Bool) → Prop} (h : Tot (fun k κ => B_spec_l2set_s19 (tb (ρ := ρ) k) x38 x39 x40 x41 (fun a0 a1 a2 a3 => κ (a0, a1, a2, a3))) Q) : Tot (fun k κ => (tb (ρ := ρ) k).spec_l2set_s19 x38 x39 x40 x41 (fun a0 a1 a2 a3 => κ (a0, a1, a2, a3))) Q := Tot.step (fun _ _ => rfl) h
theorem st_spec_l2item {x0 : ByteArray} {x1 : Int} {x2 : Bool} {Q : (Int × Int × Bool) → Prop} (h : Tot (fun k κ => B_spec_l2item (tb (ρ := ρ) k) x0 x1 x2 (fun a0 a1 a2 => κ (a0, a1, a2))) Q) : Tot (fun k κ => (tb (ρ := ρ) k).spec_l2item x0 x1 x2 (fun a0 a1 a2 => κ (a0, a1, a2))) Q := Tot.step (fun _ _ => rfl) h
end
end Go.Proofs.YtlakdfbfkbndiaaDoor.Ev.Pr
set_option linter.unusedVariables false
namespace Go.Proofs.YtlakdfbfkbndiaaDoor.Ev.Pr
open Go Go.RowKit Go.Proofs.YtlakdfbfkbndiaaDoorW.PrintWords Go.Proofs.YtlakdfbfkbndiaaDoorW.PrintMore Kd Go.Proofs.YtlakdfbfkbndiaaDoor.Ev
section
variable {ρ : Type}
theorem bitand_i64_255 (x : Int) : 0 ≤ bitand .i64 x 255 ∧ bitand .i64 x 255 < 256 := by
  have := bitand_i64 x 255 (by decide)
  have e : ((255 : Nat) : Int) = 255 := rfl
  rw [e] at this
  omega
structure Cur (c : List Int) (p : Int) : Prop where
  lo : 0 ≤ p
  hi : p ≤ (c.length : Int)
  len : c.length ≤ 9223372036854775807
theorem l1Byte_tot {c : List Int} {p s : Int} (h : Cur c p) :
    Tot (fun k κ => (tb (ρ := ρ) k).spec_l1Byte c p s (fun a b d => κ (a, b, d))) fun r => (0 ≤ r.1 ∧ r.1 < 256) ∧ Cur c r.2.1 := by
  obtain ⟨hp, hps, hc⟩ := h
  refine st_spec_l1Byte ?_
  unfold B_spec_l1Byte
  refine Tot.bif (fun h => ?_) (fun h => ?_)
  · have h1 := of_decide_eq_true h
    refine Tot.iteT hp (Tot.iteT h1 (Tot.ret _ (fun k κ => rfl) ?_))
    have e : w (p + 1) = p + 1 := w_in (by omega)
    exact ⟨bitand_i64_255 _, by show 0 ≤ w (p + 1); omega, by show w (p + 1) ≤ _; omega, hc⟩
  · exact Tot.ret _ (fun k κ => rfl) ⟨bitand_i64_255 _, hp, hps, hc⟩
theorem l1Below_tot {c : List Int} {n p s : Int} (h : Cur c p) :
    Tot (fun k κ => (tb (ρ := ρ) k).spec_l1Below n c p s (fun a b d => κ (a, b, d))) fun r => (0 ≤ r.1 ∧ (0 < n → r.1 < n)) ∧ Cur c r.2.1 := by
  refine st_spec_l1Below ?_
  unfold B_spec_l1Below
  refine Tot.bif (fun h1 => ?_) (fun h1 => ?_)
  · have h1 := of_decide_eq_true h1
    exact Tot.ret _ (fun k κ => rfl) ⟨⟨by simp, fun h => by omega⟩, h⟩
  have h1 := of_decide_eq_false h1
  have hm : ∀ v : Int, 0 ≤ v → 0 ≤ v.tmod n ∧ v.tmod n < n := fun v hv => ⟨Int.tmod_nonneg _ hv, by
    have := Int.tmod_lt_of_pos v (show 0 < n by omega)
    exact this⟩
  refine Tot.bif (fun h2 => ?_) (fun h2 => ?_)
  · refine Tot.bind3 (l1Byte_tot h) fun a p1 s1 q => Tot.iteF (by omega) (Tot.ret _ (fun k κ => rfl) ?_)
    exact ⟨⟨(hm a q.1.1).1, fun _ => (hm a q.1.1).2⟩, q.2⟩
  · refine Tot.bind3 (l1Byte_tot h) fun a p1 s1 q => Tot.bind3 (l1Byte_tot q.2) fun a2 p2 s2 q2 => Tot.bind3 (l1Byte_tot q2.2) fun a3 p3 s3 q3 => Tot.bind3 (l1Byte_tot q3.2) fun a4 p4 s4 q4 => Tot.iteF (by omega) (Tot.ret _ (fun k κ => rfl) ?_)
    have r1 := q.1; have r2 := q2.1; have r3 := q3.1; have r4 := q4.1
    dsimp only at r1 r2 r3 r4
    have e1 : w (a * 16777216) = a * 16777216 := w_in (by omega)
    have e2 : w (a2 * 65536) = a2 * 65536 := w_in (by omega)
    have e3 : w (a3 * 256) = a3 * 256 := w_in (by omega)
    have e4 : w (w (a * 16777216) + w (a2 * 65536)) = a * 16777216 + a2 * 65536 := by rw [e1, e2]; exact w_in (by omega)
    have e5 : w (w (w (a * 16777216) + w (a2 * 65536)) + w (a3 * 256)) = a * 16777216 + a2 * 65536 + a3 * 256 := by rw [e4, e3]; exact w_in (by omega)
    have e6 : w (w (w (w (a * 16777216) + w (a2 * 65536)) + w (a3 * 256)) + a4) = a * 16777216 + a2 * 65536 + a3 * 256 + a4 := by rw [e5]; exact w_in (by omega)
    have h5 := hm (w (w (w (w (a * 16777216) + w (a2 * 65536)) + w (a3 * 256)) + a4)) (by rw [e6]; omega)
    exact ⟨⟨h5.1, fun _ => h5.2⟩, q4.2⟩
theorem l1Once_tot {c : List Int} {n p s : Int} (h : Cur c p) :
    Tot (fun k κ => (tb (ρ := ρ) k).spec_l1Once n c p s (fun a b d => κ (a, b, d))) fun r => Cur c r.2.1 := by
  refine st_spec_l1Once ?_
  unfold B_spec_l1Once
  exact Tot.bind3 (l1Below_tot h) fun a p1 s1 q => Tot.ret _ (fun k κ => rfl) q.2
theorem strOfNums_size (l : List Int) : (strOfNums l).size = l.length := by simp [strOfNums, ByteArray.size]
theorem l1New_s3_tot {c : List Int} (hc : c.length ≤ 9223372036854775807) : ∀ (n : Nat) (i s : Int), 0 ≤ i → (c.length : Int) - i ≤ n → Tot (fun k κ => (tb (ρ := ρ) k).spec_l1New_s3 c s i (fun a b d => κ (a, b, d))) fun r => r.1 = c ∧ Cur c r.2.1
  | n, i, s, hi, hn => by
    refine st_spec_l1New_s3 ?_
    unfold B_spec_l1New_s3
    have out : Tot (ρ := ρ) (fun (k : Nat) κ => (fun a b d => κ (a, b, d)) c (0 : Int) s) fun r => r.1 = c ∧ Cur c r.2.1 := Tot.ret _ (fun k κ => rfl) ⟨rfl, Int.le_refl _, by show (0 : Int) ≤ _; omega, hc⟩
    refine Tot.bif (fun h => ?_) (fun _ => out)
    have h1 := of_decide_eq_true h
    refine Tot.bif (fun h => ?_) (fun _ => out)
    refine Tot.iteT hi (Tot.iteT h1 ?_)
    cases n with
    | zero => omega
    | succ n =>
      have e : w (i + 1) = i + 1 := w_in (by omega)
      rw [e]
      exact l1New_s3_tot hc n (i + 1) _ (by omega) (by omega)
theorem l1New_tot {c : List Int} (hc : c.length ≤ 9223372036854775807) : Tot (fun k κ => (tb (ρ := ρ) k).spec_l1New c (fun a b d => κ (a, b, d))) fun r => r.1 = c ∧ Cur c r.2.1 := by
  refine st_spec_l1New ?_
  unfold B_spec_l1New
  exact l1New_s3_tot hc c.length 0 _ (Int.le_refl _) (by omega)
theorem l1of_s3_tot {c : List Int} {n : Int} {al : ByteArray} (hal : 0 < al.size) (hn : n ≤ 1000000) : ∀ (m : Nat) (i : Int) (acc : List Int) (p s : Int), Cur c p → (acc.length : Int) = i → n - i ≤ m → Tot (fun k κ => (tb (ρ := ρ) k).spec_l1of_s3 n al i acc c p s (fun a b d => κ (a, b, d))) fun r => (r.1.size ≤ acc.length ∨ (r.1.size : Int) ≤ n) ∧ Cur c r.2.1
  | m, i, acc, p, s, hp, hi, hm => by
    refine st_spec_l1of_s3 ?_
    unfold B_spec_l1of_s3
    refine Tot.bif (fun h => ?_) (fun h => ?_)
    · have h1 := of_decide_eq_true h
      refine Tot.bind3 (l1Below_tot hp) fun a p1 s1 q => Tot.iteT q.1.1 (Tot.iteT (q.1.2 (by omega)) (Tot.iteT (by omega) ?_))
      cases m with
      | zero => omega
      | succ m =>
        have e : w (i + 1) = i + 1 := w_in (by omega)
        rw [e]
        refine (l1of_s3_tot hal hn m (i + 1) (acc ++ [bt al a]) p1 s1 q.2 (by simp; omega) (by omega)).imp fun r hr => ⟨?_, hr.2⟩
        rcases hr.1 with h | h
        · right
          simp at h
          omega
        · exact .inr h
    · exact Tot.ret _ (fun k κ => rfl) ⟨.inl (by show (strOfNums acc).size ≤ _; rw [strOfNums_size]; omega), hp⟩
theorem l1of_tot {c : List Int} {n p s : Int} {al : ByteArray} (hal : 0 < al.size) (hn : n ≤ 1000000) (hp : Cur c p) : Tot (fun k κ => (tb (ρ := ρ) k).spec_l1of n al c p s (fun a b d => κ (a, b, d))) fun r => (r.1.size = 0 ∨ (r.1.size : Int) ≤ n) ∧ Cur c r.2.1 := by
  refine st_spec_l1of ?_
  unfold B_spec_l1of
  refine (l1of_s3_tot hal hn n.toNat 0 [] p s hp rfl (by omega)).imp fun r hr => ⟨?_, hr.2⟩
  rcases hr.1 with h | h
  · have h : r.1.size ≤ 0 := h
    exact .inl (by omega)
  · exact .inr h
theorem l2subject_tot {c : List Int} {p s : Int} (hp : Cur c p) : Tot (fun k κ => (tb (ρ := ρ) k).spec_l2subject c p s (fun a b d => κ (a, b, d))) fun r => r.1.size ≤ 1000 ∧ Cur c r.2.1 := by
  refine st_spec_l2subject ?_
  unfold B_spec_l2subject
  refine Tot.bind3 (l1Once_tot hp) fun a p1 s1 q => Tot.bif (fun _ => ?_) (fun _ => ?_)
  · refine Tot.bind3 (l1Below_tot q) fun a p2 s2 q2 => ?_
    have h1 := q2.1.1
    have h2 := q2.1.2 (by omega)
    dsimp only at h1 h2
    have e : w (500 + a) = 500 + a := w_in (by omega)
    rw [e]
    refine Tot.bind3 (l1of_tot (by decide) (by omega) q2.2) fun r p3 s3 q3 => Tot.ret _ (fun k κ => rfl) ⟨?_, q3.2⟩
    have := q3.1
    dsimp only at this ⊢
    omega
  · refine Tot.bind3 (l1Below_tot q) fun a p2 s2 q2 => ?_
    have h1 := q2.1.1
    have h2 := q2.1.2 (by omega)
    dsimp only at h1 h2
    refine Tot.bind3 (l1of_tot (by decide) (by omega) q2.2) fun r p3 s3 q3 => Tot.ret _ (fun k κ => rfl) ⟨?_, q3.2⟩
    have := q3.1
    dsimp only at this ⊢
    omega
theorem l1text_tot {c : List Int} {p s : Int} {l : List ByteArray} {n : Nat} (hl : 0 < l.length) (hn : ∀ x, x ∈ l → x.size ≤ n) (hp : Cur c p) : Tot (fun k κ => (tb (ρ := ρ) k).spec_l1text l c p s (fun a b d => κ (a, b, d))) fun r => r.1.size ≤ n ∧ Cur c r.2.1 := by
  refine st_spec_l1text ?_
  unfold B_spec_l1text
  refine Tot.bind3 (l1Below_tot hp) fun a p1 s1 q => Tot.iteT q.1.1 (Tot.iteT (q.1.2 (by omega)) (Tot.ret _ (fun k κ => rfl) ⟨?_, q.2⟩))
  have h1 := q.1.1
  have h2 := q.1.2 (by omega)
  dsimp only at h1 h2
  show (l.getD a.toNat _).size ≤ n
  rw [List.getD_eq_getElem?_getD, List.getElem?_eq_getElem (show a.toNat < l.length by omega)]
  exact hn _ (List.getElem_mem _)
def bd : Nat → Nat
  | 0 => 8
  | d + 1 => 2 * bd d + 8
theorem bd_ge : ∀ d, 8 ≤ bd d
  | 0 => Nat.le_refl _
  | d + 1 => by unfold bd; omega
theorem l2draw_s18_tot {c : List Int} {p s : Int} {n : Nat} (hn : 1 ≤ n) (hp : Cur c p) : Tot (fun k κ => (tb (ρ := ρ) k).spec_l2draw_s18 c p s (fun a b d => κ (a, b, d))) fun r => r.1.size ≤ n ∧ Cur c r.2.1 := by
  refine st_spec_l2draw_s18 ?_
  unfold B_spec_l2draw_s18
  refine Tot.bind3 (l1of_tot (by decide) (by omega) hp) fun r p3 s3 q3 => Tot.ret _ (fun k κ => rfl) ⟨?_, q3.2⟩
  have := q3.1
  dsimp only at this ⊢
  omega
theorem one_of {c : List Int} {p s : Int} {al : ByteArray} (hal : 0 < al.size) (hp : Cur c p) : Tot (fun k κ => (tb (ρ := ρ) k).spec_l1of 1 al c p s (fun a b d => κ (a, b, d))) fun r => r.1.size ≤ 1 ∧ Cur c r.2.1 :=
  (l1of_tot hal (by omega) hp).imp fun r hr => ⟨by have := hr.1; omega, hr.2⟩
theorem size_bs1 (a : UInt8) : (bs [a]).size = 1 := rfl
theorem l2draw_tot {c : List Int} : ∀ (d : Nat) {p s : Int}, d ≤ 10 → Cur c p → Tot (fun k κ => (tb (ρ := ρ) k).spec_l2draw d c p s (fun a b d => κ (a, b, d))) fun r => r.1.size ≤ bd d ∧ Cur c r.2.1
  | d, p, s, hd, hp => by
    have h8 := bd_ge d
    have sub : ∀ {p s : Int}, Cur c p → 0 < (d : Int) → Tot (fun k κ => (tb (ρ := ρ) k).spec_l2draw (w ((d : Int) - 1)) c p s (fun a b d => κ (a, b, d))) fun r => 2 * r.1.size + 8 ≤ bd d ∧ Cur c r.2.1 := fun {p s} hp h => by
      cases d with
      | zero => omega
      | succ d =>
        have e : w (((d + 1 : Nat) : Int) - 1) = (d : Int) := by rw [w_in (by omega)]; omega
        rw [e]
        exact (l2draw_tot d (by omega) hp).imp fun r hr => ⟨by unfold bd; omega, hr.2⟩
    have hb : bd d ≤ 100000 := by
      have h : ∀ n, n ≤ 10 → bd n ≤ 100000 := by decide
      exact h d hd
    refine st_spec_l2draw ?_
    unfold B_spec_l2draw
    have pair : ∀ {p s : Int}, Cur c p → Tot (fun (k : Nat) κ => (tb (ρ := ρ) k).spec_l1of 1 (bs [97, 98, 99]) c p s (fun (v28 : ByteArray) (v29 : Int) (v30 : Int) => (tb (ρ := ρ) k).spec_l1of 1 (bs [42, 43, 63]) c v29 v30 (fun (v31 : ByteArray) (v32 : Int) (v33 : Int) => if v28.size + v31.size ≤ 9223372036854775807 then (fun a b d => κ (a, b, d)) (v28 ++ v31) v32 v33 else none))) fun r => r.1.size ≤ bd d ∧ Cur c r.2.1 := fun hp =>
      Tot.bind3 (one_of (by decide) hp) fun a p1 s1 q1 => Tot.bind3 (one_of (by decide) q1.2) fun b p2 s2 q2 => by
        have h1 := q1.1; have h2 := q2.1
        dsimp only at h1 h2
        exact Tot.iteT (by omega) (Tot.ret _ (fun k κ => rfl) ⟨by show (a ++ b).size ≤ _; rw [ByteArray.size_append]; omega, q2.2⟩)
    have low : ∀ {p s : Int}, Cur c p → Tot (fun k κ => (tb (ρ := ρ) k).spec_l2draw_s18 c p s (fun a b d => κ (a, b, d))) fun r => r.1.size ≤ bd d ∧ Cur c r.2.1 := fun hp => l2draw_s18_tot (by omega) hp
    have alt : ∀ {p s : Int}, Cur c p → 0 < (d : Int) → Tot (fun (k : Nat) κ => (tb (ρ := ρ) k).spec_l2draw (w ((d : Int) - 1)) c p s (fun (v7 : ByteArray) (v8 : Int) (v9 : Int) => if 1 + v7.size ≤ 9223372036854775807 then if ((bs [40]) ++ v7).size + 1 ≤ 9223372036854775807 then (tb (ρ := ρ) k).spec_l2draw (w ((d : Int) - 1)) c v8 v9 (fun (v10 : ByteArray) (v11 : Int) (v12 : Int) => if (((bs [40]) ++ v7) ++ (bs [124])).size + v10.size ≤ 9223372036854775807 then if ((((bs [40]) ++ v7) ++ (bs [124])) ++ v10).size + 1 ≤ 9223372036854775807 then (fun a b d => κ (a, b, d)) (((((bs [40]) ++ v7) ++ (bs [124])) ++ v10) ++ (bs [41])) v11 v12 else none else none) else none else none)) fun r => r.1.size ≤ bd d ∧ Cur c r.2.1 := fun hp h0 =>
      Tot.bind3 (sub hp h0) fun a p1 s1 q1 => by
        have h1 := q1.1
        dsimp only at h1
        refine Tot.iteT (by omega) (Tot.iteT (by simp only [ByteArray.size_append, size_bs1]; omega) (Tot.bind3 (sub q1.2 h0) fun b p2 s2 q2 => ?_))
        have h2 := q2.1
        dsimp only at h2
        exact Tot.iteT (by simp only [ByteArray.size_append, size_bs1]; omega) (Tot.iteT (by simp only [ByteArray.size_append, size_bs1]; omega) (Tot.ret _ (fun k κ => rfl) ⟨by simp only [ByteArray.size_append, size_bs1]; omega, q2.2⟩))
    have rep : ∀ {p s : Int}, Cur c p → 0 < (d : Int) → Tot (fun (k : Nat) κ => (tb (ρ := ρ) k).spec_l2draw (w ((d : Int) - 1)) c p s (fun (v13 : ByteArray) (v14 : Int) (v15 : Int) => if 1 + v13.size ≤ 9223372036854775807 then (tb (ρ := ρ) k).spec_l2draw (w ((d : Int) - 1)) c v14 v15 (fun (v16 : ByteArray) (v17 : Int) (v18 : Int) => if ((bs [40]) ++ v13).size + v16.size ≤ 9223372036854775807 then if (((bs [40]) ++ v13) ++ v16).size + 1 ≤ 9223372036854775807 then (tb (ρ := ρ) k).spec_l1of 1 (bs [42, 43, 63]) c v17 v18 (fun (v19 : ByteArray) (v20 : Int) (v21 : Int) => if ((((bs [40]) ++ v13) ++ v16) ++ (bs [41])).size + v19.size ≤ 9223372036854775807 then (fun a b d => κ (a, b, d)) (((((bs [40]) ++ v13) ++ v16) ++ (bs [41])) ++ v19) v20 v21 else none) else none else none) else none)) fun r => r.1.size ≤ bd d ∧ Cur c r.2.1 := fun hp h0 =>
      Tot.bind3 (sub hp h0) fun a p1 s1 q1 => by
        have h1 := q1.1
        dsimp only at h1
        refine Tot.iteT (by omega) (Tot.bind3 (sub q1.2 h0) fun b p2 s2 q2 => ?_)
        have h2 := q2.1
        dsimp only at h2
        refine Tot.iteT (by simp only [ByteArray.size_append, size_bs1]; omega) (Tot.iteT (by simp only [ByteArray.size_append, size_bs1]; omega) (Tot.bind3 (one_of (by decide) q2.2) fun e p3 s3 q3 => ?_))
        have h3 := q3.1
        dsimp only at h3
        exact Tot.iteT (by simp only [ByteArray.size_append, size_bs1]; omega) (Tot.ret _ (fun k κ => rfl) ⟨by simp only [ByteArray.size_append, size_bs1]; omega, q3.2⟩)
    have two : ∀ {p s : Int}, Cur c p → 0 < (d : Int) → Tot (fun (k : Nat) κ => (tb (ρ := ρ) k).spec_l2draw (w ((d : Int) - 1)) c p s (fun (v34 : ByteArray) (v35 : Int) (v36 : Int) => (tb (ρ := ρ) k).spec_l2draw (w ((d : Int) - 1)) c v35 v36 (fun (v37 : ByteArray) (v38 : Int) (v39 : Int) => if v34.size + v37.size ≤ 9223372036854775807 then (fun a b d => κ (a, b, d)) (v34 ++ v37) v38 v39 else none))) fun r => r.1.size ≤ bd d ∧ Cur c r.2.1 := fun hp h0 =>
      Tot.bind3 (sub hp h0) fun a p1 s1 q1 => Tot.bind3 (sub q1.2 h0) fun b p2 s2 q2 => by
        have h1 := q1.1; have h2 := q2.1
        dsimp only at h1 h2
        exact Tot.iteT (by omega) (Tot.ret _ (fun k κ => rfl) ⟨by simp only [ByteArray.size_append]; omega, q2.2⟩)
    have texts : ∀ {l : List ByteArray} {p s : Int}, 0 < l.length → (l.all fun x => decide (x.size ≤ 8)) = true → Cur c p → Tot (fun (k : Nat) κ => (tb (ρ := ρ) k).spec_l1text l c p s (fun (v22 : ByteArray) (v23 : Int) (v24 : Int) => (fun a b d => κ (a, b, d)) v22 v23 v24)) fun r => r.1.size ≤ bd d ∧ Cur c r.2.1 := fun {l p s} h0 h1 hp =>
      (l1text_tot h0 (fun x hx => of_decide_eq_true (List.all_eq_true.mp h1 x hx)) hp).imp fun r hr => ⟨Nat.le_trans hr.1 h8, hr.2⟩
    refine Tot.bind3 (l1Below_tot hp) fun a p1 s1 q => ?_
    have hq := q.2
    refine Tot.bif (fun _ => ?_) (fun _ => ?_)
    all_goals repeat (first
      | exact low hq
      | exact pair hq
      | exact texts (by decide) (by decide) hq
      | exact alt hq (of_decide_eq_true (by assumption))
      | exact rep hq (of_decide_eq_true (by assumption))
      | exact two hq (of_decide_eq_true (by assumption))
      | refine Tot.bif (fun h => ?_) (fun h => ?_))
theorem l1bend_tot {c : List Int} {x : ByteArray} {p s : Int} (hx : x.size ≤ 100000) (hp : Cur c p) : Tot (fun k κ => (tb (ρ := ρ) k).spec_l1bend x c p s (fun a b d => κ (a, b, d))) fun r => r.1.size ≤ 200001 ∧ Cur c r.2.1 := by
  refine st_spec_l1bend ?_
  unfold B_spec_l1bend
  have e0 : w ((x.size : Int) + 1) = (x.size : Int) + 1 := w_in (by omega)
  rw [e0]
  refine Tot.bind3 (l1Below_tot hp) fun a p1 s1 q => Tot.bind3 (l1Below_tot q.2) fun b p2 s2 q2 => ?_
  have h1 := q.1.1
  have h2 := q.1.2 (by omega)
  dsimp only at h1 h2
  have hq := q2.2
  dsimp only at hq
  have s1 : (x.extract 0 a.toNat).size ≤ x.size := by rw [ByteArray.size_extract]; omega
  have s2 : ∀ n, (x.extract n x.size).size ≤ x.size := fun n => by rw [ByteArray.size_extract]; omega
  refine Tot.bif (fun _ => ?_) (fun _ => Tot.bif (fun _ => ?_) (fun _ => Tot.bif (fun h => ?_) (fun h => ?_)))
  · refine Tot.iteT h1 (Tot.iteT (by omega) (Tot.iteT h1 (Tot.iteT (by omega) (Tot.bind3 (one_of (by decide) hq) fun y p3 s3 q3 => ?_))))
    have h3 := q3.1
    dsimp only at h3
    have := s2 a.toNat
    exact Tot.iteT (by omega) (Tot.iteT (by rw [ByteArray.size_append]; omega) (Tot.ret _ (fun k κ => rfl) ⟨by simp only [ByteArray.size_append]; omega, q3.2⟩))
  · exact Tot.iteT h1 (Tot.iteT (by omega) (Tot.ret _ (fun k κ => rfl) ⟨by show (x.extract 0 a.toNat).size ≤ _; omega, hq⟩))
  · have h := of_decide_eq_true h
    have e : w (a + 1) = a + 1 := w_in (by omega)
    rw [e]
    have := s2 (a + 1).toNat
    exact Tot.iteT h1 (Tot.iteT (by omega) (Tot.iteT (by omega) (Tot.iteT (by omega) (Tot.iteT (by omega) (Tot.ret _ (fun k κ => rfl) ⟨by simp only [ByteArray.size_append]; omega, hq⟩)))))
  · exact Tot.iteT (by omega) (Tot.ret _ (fun k κ => rfl) ⟨by simp only [ByteArray.size_append, size_bs1]; omega, hq⟩)
theorem l2pattern_tot {c : List Int} {p s : Int} (hp : Cur c p) : Tot (fun k κ => (tb (ρ := ρ) k).spec_l2pattern c p s (fun a b d => κ (a, b, d))) fun r => r.1.size ≤ 200001 ∧ Cur c r.2.1 := by
  refine st_spec_l2pattern ?_
  unfold B_spec_l2pattern
  refine Tot.bind3 (l2draw_tot 3 (by omega) hp) fun a p1 s1 q => Tot.bind3 (l1Once_tot q.2) fun b p2 s2 q2 => ?_
  have h1 := q.1
  dsimp only at h1
  have hb : bd 3 = 120 := rfl
  rw [hb] at h1
  exact Tot.bif (fun _ => Tot.bind3 (l1bend_tot (by omega) q2) fun y p3 s3 q3 => Tot.ret _ (fun k κ => rfl) q3) fun _ => Tot.ret _ (fun k κ => rfl) ⟨by show a.size ≤ _; omega, q2⟩
theorem l2more_tot (x : ByteArray) (p : Int) : Tot (fun k κ => (tb (ρ := ρ) k).spec_l2more x p (fun a => κ a)) fun r => r = decide (p < (x.size : Int)) :=
  st_spec_l2more (Tot.ret _ (fun k κ => rfl) rfl)
theorem l2peek_tot {x : ByteArray} {p : Int} (hp : 0 ≤ p) : Tot (fun k κ => (tb (ρ := ρ) k).spec_l2peek x p (fun a => κ a)) fun r => r = 0 ∨ p < (x.size : Int) := by
  refine st_spec_l2peek ?_
  unfold B_spec_l2peek
  exact Tot.bif (fun h => Tot.iteT hp (Tot.iteT (of_decide_eq_true h) (Tot.ret _ (fun k κ => rfl) (.inr (of_decide_eq_true h))))) fun _ => Tot.ret _ (fun k κ => rfl) (.inl rfl)
theorem l2has_s2_tot {x : ByteArray} {v : Int} (hx : x.size ≤ 1000) : ∀ (n : Nat) (i : Int), 0 ≤ i → (x.size : Int) - i ≤ n → Tot (fun k κ => (tb (ρ := ρ) k).spec_l2has_s2 x v i (fun a => κ a)) fun _ => True
  | n, i, hi, hn => by
    refine st_spec_l2has_s2 ?_
    unfold B_spec_l2has_s2
    refine Tot.bif (fun h => ?_) (fun _ => Tot.ret _ (fun k κ => rfl) trivial)
    have h1 := of_decide_eq_true h
    refine Tot.iteT hi (Tot.iteT h1 (Tot.bif (fun _ => Tot.ret _ (fun k κ => rfl) trivial) fun _ => ?_))
    cases n with
    | zero => omega
    | succ n =>
      rw [show w (i + 1) = i + 1 from w_in (by omega)]
      exact l2has_s2_tot hx n (i + 1) (by omega) (by omega)
theorem l2has_tot {x : ByteArray} {v : Int} (hx : x.size ≤ 1000) : Tot (fun k κ => (tb (ρ := ρ) k).spec_l2has x v (fun a => κ a)) fun _ => True := by
  refine st_spec_l2has ?_
  unfold B_spec_l2has
  exact l2has_s2_tot hx x.size 0 (Int.le_refl _) (by omega)
theorem l2byte_tot (v : Int) : Tot (fun k κ => (tb (ρ := ρ) k).spec_l2byte v (fun a b c d => κ (a, b, c, d))) fun r => r.2.2.1.size ≤ 1000 ∧ r.2.2.2.length ≤ 1000 := by
  refine st_spec_l2byte ?_
  unfold B_spec_l2byte
  exact Tot.ret _ (fun k κ => rfl) ⟨by show (strOfNums [_, _]).size ≤ 1000; exact Nat.le_trans (Nat.le_of_eq (by unfold strOfNums; simp [ByteArray.size])) (by decide : 2 ≤ 1000), Nat.zero_le _⟩
def SmN (x : Tt49) : Prop := x.2.2.1.size ≤ 1000 ∧ x.2.2.2.length ≤ 1000
def Sm (l : List Tt49) : Prop := ∀ x, x ∈ l → SmN x
theorem Sm.nil : Sm [] := fun x h => by cases h
theorem Sm.snoc {l : List Tt49} (h : Sm l) {x : Tt49} (hx : SmN x) : Sm (l ++ [x]) := fun y hy => by
  rcases List.mem_append.mp hy with hy | hy
  · exact h y hy
  · rw [List.mem_singleton.mp hy]; exact hx
def few (l : List Tt49) : Prop := l.length ≤ 1000000
theorem l2node_tot {a : Int} {b : Bool} {s : ByteArray} {ks : List Int} {l : List Tt49} (hl : few l) : Tot (fun k κ => (tb (ρ := ρ) k).spec_l2node a b s ks l (fun a b => κ (a, b))) fun r => r.2.length = l.length + 1 ∧ (s.size ≤ 1000 → ks.length ≤ 1000 → Sm l → Sm r.2) := by
  refine st_spec_l2node ?_
  unfold B_spec_l2node
  unfold few at hl
  exact Tot.iteT (by omega) (Tot.ret _ (fun k κ => rfl) ⟨by simp, fun h1 h2 h3 => h3.snoc ⟨h1, h2⟩⟩)
theorem l2node_1_tot {a : Int} {b : Bool} {s : ByteArray} {l : List Tt49} (hl : few l) : Tot (fun k κ => (tb (ρ := ρ) k).spec_l2node_1 a b s l (fun a b => κ (a, b))) fun r => r.2.length = l.length + 1 ∧ (s.size ≤ 1000 → Sm l → Sm r.2) := by
  refine st_spec_l2node_1 ?_
  unfold B_spec_l2node_1
  unfold few at hl
  exact Tot.iteT (by omega) (Tot.ret _ (fun k κ => rfl) ⟨by simp, fun h1 h3 => h3.snoc ⟨h1, by show ([] : List Int).length ≤ 1000; decide⟩⟩)
structure Lft (x : ByteArray) (o : Int) (p : Int) (n : Nat) (S : Prop) (p' : Int) (l' : List Tt49) (bad : Bool) : Prop where
  lo : p ≤ p'
  hi : p' ≤ (x.size : Int) + o
  len : (l'.length : Int) ≤ n + 3 * (p' - p)
  good : bad = false → p' ≤ (x.size : Int) ∧ p < p' ∧ n < l'.length ∧ (l'.length : Int) ≤ n + 3 * (p' - p) - 2
  sm : S → Sm l'
theorem l2item_tot {x : ByteArray} {p : Int} (hx : x.size ≤ 200) (hp : 0 ≤ p) (hp2 : p ≤ (x.size : Int)) : Tot (fun k κ => (tb (ρ := ρ) k).spec_l2item x p false (fun a b c => κ (a, b, c))) fun r => p ≤ r.2.1 ∧ r.2.1 ≤ (x.size : Int) ∧ (r.2.2 = false → p < r.2.1) := by
  refine st_spec_l2item ?_
  unfold B_spec_l2item
  refine Tot.bind1 (l2more_tot x p) fun m hm => Tot.bif (fun _ => Tot.ret _ (fun k κ => rfl) ⟨Int.le_refl _, hp2, fun h => by cases h⟩) fun hb => ?_
  subst hm
  have h1 : p < (x.size : Int) := by simpa using hb
  refine Tot.bind1 (l2peek_tot hp) fun v _ => Tot.bif (fun _ => Tot.ret _ (fun k κ => rfl) ⟨Int.le_refl _, hp2, fun h => by cases h⟩) fun _ => Tot.bind1 (l2peek_tot hp) fun v2 _ => Tot.bif (fun _ => ?_) (fun _ => ?_)
  · have e1 : w (p + 1) = p + 1 := w_in (by omega)
    have e2 : w (p + 1 + 1) = p + 2 := by rw [w_in (by omega)]; omega
    have e3 : w (p + 2 - 1) = p + 1 := by rw [w_in (by omega)]; omega
    rw [e1, e2, e3]
    refine Tot.bind1 (l2more_tot x (p + 1)) fun m hm => Tot.bif (fun _ => Tot.ret _ (fun k κ => rfl) ⟨by show p ≤ p + 1; omega, by show p + 1 ≤ _; omega, fun h => by cases h⟩) fun hb => ?_
    subst hm
    have h2 : p + 1 < (x.size : Int) := by simpa using hb
    exact Tot.iteT (by omega) (Tot.iteT h2 (Tot.ret _ (fun k κ => rfl) ⟨by show p ≤ p + 2; omega, by show p + 2 ≤ _; omega, fun _ => by show p < p + 2; omega⟩))
  · have e1 : w (p + 1) = p + 1 := w_in (by omega)
    have e2 : w (p + 1 - 1) = p := by rw [w_in (by omega)]; omega
    rw [e1, e2]
    exact Tot.iteT hp (Tot.iteT h1 (Tot.ret _ (fun k κ => rfl) ⟨by show p ≤ p + 1; omega, by show p + 1 ≤ _; omega, fun _ => by show p < p + 1; omega⟩))
structure SetL (x : ByteArray) (p : Int) (n : Nat) (S : Prop) (p' : Int) (l' : List Tt49) (bad : Bool) : Prop where
  lo : p ≤ p'
  hi : p' ≤ (x.size : Int)
  len : l'.length ≤ n + 1
  more : n ≤ l'.length
  good : bad = false → p < p' ∧ l'.length = n + 1
  sm : S → Sm l'
theorem strNums_size (l : List Int) : (strOfNums l).size = l.length := by unfold strOfNums; simp [ByteArray.size]
theorem set_end {x : ByteArray} {p : Int} {l : List Tt49} {ne : Bool} {k0 : Int} {acc ks : List Int} {bad : Bool} (hacc : (acc.length : Int) ≤ 400 ∨ bad = true) (hks : ks.length ≤ 1000) (hl : few l) (hp : 0 ≤ p) (hp2 : p ≤ (x.size : Int)) (hx : x.size ≤ 200) :
    Tot (fun (k : Nat) κ => bif bad then ((tb (ρ := ρ) k).spec_l2set_s19 x p l bad (fun a b c d => κ (a, b, c, d))) else ((tb (ρ := ρ) k).spec_l2peek x p (fun (v29 : Int) => bif v29 != 93 then ((tb (ρ := ρ) k).spec_l2set_s19 x p l bad (fun a b c d => κ (a, b, c, d))) else ((tb (ρ := ρ) k).spec_l2node k0 ne (strOfNums acc) ks l (fun (v30 : Int) (v31 : List Tt49) => (fun a b c d => κ (a, b, c, d)) v30 (w (p + 1)) v31 bad))))) fun r => SetL x p l.length (Sm l) r.2.1 r.2.2.1 r.2.2.2 := by
  have out : Tot (fun k κ => (tb (ρ := ρ) k).spec_l2set_s19 x p l bad (fun a b c d => κ (a, b, c, d))) fun r => SetL x p l.length (Sm l) r.2.1 r.2.2.1 r.2.2.2 := by
    refine st_spec_l2set_s19 ?_
    unfold B_spec_l2set_s19
    exact Tot.ret _ (fun k κ => rfl) ⟨Int.le_refl _, hp2, by show l.length ≤ _; omega, Nat.le_refl _, (fun h => by cases h), fun h => h⟩
  refine Tot.bif (fun _ => out) fun hb => Tot.bind1 (l2peek_tot hp) fun v hv => Tot.bif (fun _ => out) fun h93 => ?_
  have hlt : p < (x.size : Int) := by
    rcases hv with rfl | h
    · exact absurd h93 (by decide)
    · exact h
  rw [show w (p + 1) = p + 1 from w_in (by omega)]
  exact Tot.bind2 (l2node_tot hl) fun a l' h => Tot.ret _ (fun k κ => rfl) ⟨by show p ≤ p + 1; omega, by show p + 1 ≤ _; omega, by have h : l'.length = _ := h.1; show l'.length ≤ _; omega, by have h : l'.length = _ := h.1; show _ ≤ l'.length; omega, fun _ => ⟨by show p < p + 1; omega, h.1⟩, fun hs => h.2 (by rw [strNums_size]; exact hacc.elim (fun h => by omega) (fun h => by rw [hb] at h; cases h)) hks hs⟩
theorem l2set_tot_s8 {x : ByteArray} (hx : x.size ≤ 200) {l : List Tt49} (hl : few l) {k0 : Int} {ne : Bool} {ks : List Int} (hks : ks.length ≤ 1000) {st : ByteArray} :
    ∀ (n : Nat) (p : Int) (first : Bool) (acc : List Int) (bad : Bool), 0 ≤ p → p ≤ (x.size : Int) → (bad = false → (acc.length : Int) ≤ 2 * p ∧ (x.size : Int) - p + 1 ≤ n) →
      Tot (fun k κ => (tb (ρ := ρ) k).spec_l2set_s8 first acc x p l bad k0 ne st ks (fun a b c d => κ (a, b, c, d))) fun r => SetL x p l.length (Sm l) r.2.1 r.2.2.1 r.2.2.2
  | n, p, first, acc, bad, hp, hp2, hn => by
    refine st_spec_l2set_s8 ?_
    unfold B_spec_l2set_s8
    have hacc : (acc.length : Int) ≤ 400 ∨ bad = true := by
      cases bad with
      | true => exact .inr rfl
      | false => left; have := (hn rfl).1; omega
    have fin := set_end (ρ := ρ) (ne := ne) (k0 := k0) (acc := acc) (ks := ks) (bad := bad) hacc hks hl hp hp2 hx
    refine Tot.bif (fun hb => ?_) (fun _ => fin)
    have hb : bad = false := by simpa using hb
    subst hb
    obtain ⟨ha, hm⟩ := hn rfl
    -- behind the items
    have go : ∀ (a b : Int) (f1 f2 f3 : Bool) (p' : Int) (bad' : Bool), p ≤ p' → p' ≤ (x.size : Int) → (bad' = false → p < p') →
        Tot (fun k κ => (tb (ρ := ρ) k).spec_l2set_s15 a b f1 f2 f3 acc x p' l bad' k0 ne st ks (fun a b c d => κ (a, b, c, d))) fun r => SetL x p l.length (Sm l) r.2.1 r.2.2.1 r.2.2.2 := fun a b f1 f2 f3 p' bad' h1 h2 h3 => by
      have s17 : ∀ bad'' : Bool, (bad'' = false → p < p') → Tot (fun k κ => (tb (ρ := ρ) k).spec_l2set_s17 a b f1 f2 f3 acc x p' l bad'' k0 ne st ks (fun a b c d => κ (a, b, c, d))) fun r => SetL x p l.length (Sm l) r.2.1 r.2.2.1 r.2.2.2 := fun bad'' h4 => by
        refine st_spec_l2set_s17 ?_
        unfold B_spec_l2set_s17
        refine Tot.iteT (by omega) ?_
        cases n with
        | zero => omega
        | succ n =>
          exact (l2set_tot_s8 hx hl hks n p' false (acc ++ [a, b]) bad'' (by omega) h2 fun h => ⟨by have := h4 h; simp; omega, by have := h4 h; omega⟩).imp fun r hr => ⟨Int.le_trans h1 hr.lo, hr.hi, hr.len, hr.more, fun h => ⟨by have := (hr.good h).1; omega, (hr.good h).2⟩, hr.sm⟩
      refine st_spec_l2set_s15 ?_
      unfold B_spec_l2set_s15
      exact Tot.bif (fun _ => s17 true fun h => by cases h) fun _ => s17 bad' h3
    have two : ∀ (f1 f2 f3 : Bool), Tot (fun (k : Nat) κ => (tb (ρ := ρ) k).spec_l2item x p false (fun (v15 : Int) (v16 : Int) (v17 : Bool) => bif !v17 then (bif decide ((w (v16 + 1)) < (x.size : Int)) then (if (0 : Int) ≤ v16 then if v16 < (x.size : Int) then bif (bt x v16) == 45 then (if (0 : Int) ≤ (w (v16 + 1)) then if (w (v16 + 1)) < (x.size : Int) then bif (bt x (w (v16 + 1))) != 93 then ((tb (ρ := ρ) k).spec_l2item x (w (v16 + 1)) v17 (fun (v18 : Int) (v19 : Int) (v20 : Bool) => (tb (ρ := ρ) k).spec_l2set_s15 v15 v18 f1 f2 f3 acc x v19 l v20 k0 ne st ks (fun a b c d => κ (a, b, c, d)))) else ((tb (ρ := ρ) k).spec_l2set_s15 v15 v15 f1 f2 f3 acc x v16 l v17 k0 ne st ks (fun a b c d => κ (a, b, c, d))) else none else none) else ((tb (ρ := ρ) k).spec_l2set_s15 v15 v15 f1 f2 f3 acc x v16 l v17 k0 ne st ks (fun a b c d => κ (a, b, c, d))) else none else none) else ((tb (ρ := ρ) k).spec_l2set_s15 v15 v15 f1 f2 f3 acc x v16 l v17 k0 ne st ks (fun a b c d => κ (a, b, c, d)))) else ((tb (ρ := ρ) k).spec_l2set_s15 v15 v15 f1 f2 f3 acc x v16 l v17 k0 ne st ks (fun a b c d => κ (a, b, c, d))))) fun r => SetL x p l.length (Sm l) r.2.1 r.2.2.1 r.2.2.2 := fun f1 f2 f3 => by
      refine Tot.bind3 (l2item_tot hx hp hp2) fun a p1 b1 q => ?_
      obtain ⟨q1, q2, q3⟩ := q
      dsimp only at q1 q2 q3
      refine Tot.bif (fun hb => ?_) (fun _ => go _ _ _ _ _ _ _ q1 q2 q3)
      have hb : b1 = false := by simpa using hb
      subst hb
      have q4 := q3 rfl
      rw [show w (p1 + 1) = p1 + 1 from w_in (by omega)]
      refine Tot.bif (fun h => ?_) (fun _ => go _ _ _ _ _ _ _ q1 q2 q3)
      have h := of_decide_eq_true h
      refine Tot.iteT (by omega) (Tot.iteT (by omega) (Tot.bif (fun _ => ?_) (fun _ => go _ _ _ _ _ _ _ q1 q2 q3)))
      refine Tot.iteT (by omega) (Tot.iteT h (Tot.bif (fun _ => ?_) (fun _ => go _ _ _ _ _ _ _ q1 q2 q3)))
      refine Tot.bind3 (l2item_tot hx (by omega) (by omega)) fun a2 p2 b2 r => ?_
      obtain ⟨r1, r2, r3⟩ := r
      dsimp only at r1 r2 r3
      exact go _ _ _ _ _ _ _ (by omega) r2 fun _ => by omega
    refine Tot.bif (fun hf => ?_) (fun hf => ?_)
    · exact two _ _ _
    · refine Tot.bind1 (l2more_tot x p) fun m _ => Tot.bif (fun _ => ?_) (fun _ => fin)
      exact Tot.bind1 (l2peek_tot hp) fun v _ => Tot.bif (fun _ => two _ _ _) (fun _ => fin)
theorem l2set_tot {x : ByteArray} (hx : x.size ≤ 200) {l : List Tt49} (hl : few l) {p : Int} (hp : 0 ≤ p) (hp2 : p < (x.size : Int)) :
    Tot (fun k κ => (tb (ρ := ρ) k).spec_l2set x p l false (fun a b c d => κ (a, b, c, d))) fun r => SetL x (p + 1) l.length (Sm l) r.2.1 r.2.2.1 r.2.2.2 := by
  refine st_spec_l2set ?_
  unfold B_spec_l2set
  rw [show w (p + 1) = p + 1 from w_in (by omega), show w (p + 1 + 1) = p + 1 + 1 from w_in (by omega)]
  refine Tot.bind1 (l2peek_tot (by omega)) fun v hv => Tot.bif (fun h => ?_) (fun _ => ?_)
  · have hlt : p + 1 < (x.size : Int) := by
      rcases hv with rfl | h'
      · exact absurd h (by decide)
      · exact h'
    exact (l2set_tot_s8 hx hl (by decide) (x.size + 1) (p + 1 + 1) true [] false (by omega) (by omega) fun _ => ⟨by simp; omega, by omega⟩).imp fun r hr => ⟨by have := hr.lo; omega, hr.hi, hr.len, hr.more, fun h => ⟨by have := (hr.good h).1; omega, (hr.good h).2⟩, hr.sm⟩
  · exact l2set_tot_s8 hx hl (by decide) (x.size + 1) (p + 1) true [] false (by omega) (by omega) fun _ => ⟨by simp; omega, by omega⟩
def AtomT (ρ : Type) (x : ByteArray) (n : Nat) : Prop := ∀ (dp p : Int) (l : List Tt49), 0 ≤ dp → dp ≤ 20 → 0 ≤ p → p ≤ (x.size : Int) → (x.size : Int) - p ≤ n → (l.length : Int) ≤ 3 * p →
  Tot (fun k κ => (tb (ρ := ρ) k).spec_l2atom dp x p l false (fun a b c d => κ (a, b, c, d))) fun r => Lft x (20 - dp) p l.length (Sm l) r.2.1 r.2.2.1 r.2.2.2
def RepT (ρ : Type) (x : ByteArray) (n : Nat) : Prop := ∀ (dp p : Int) (l : List Tt49), 0 ≤ dp → dp ≤ 20 → 0 ≤ p → p ≤ (x.size : Int) → (x.size : Int) - p ≤ n → (l.length : Int) ≤ 3 * p →
  Tot (fun k κ => (tb (ρ := ρ) k).spec_l2rep dp x p l false (fun a b c d => κ (a, b, c, d))) fun r => Lft x (20 - dp) p l.length (Sm l) r.2.1 r.2.2.1 r.2.2.2
def SeqT (ρ : Type) (x : ByteArray) (n : Nat) : Prop := ∀ (dp p : Int) (l : List Tt49), 0 ≤ dp → dp ≤ 20 → 0 ≤ p → p ≤ (x.size : Int) → (x.size : Int) - p ≤ n → (l.length : Int) ≤ 3 * p →
  Tot (fun k κ => (tb (ρ := ρ) k).spec_l2seq dp x p l false (fun a b c d => κ (a, b, c, d))) fun r => Lft x (20 - dp) p l.length (Sm l) r.2.1 r.2.2.1 r.2.2.2
def AltT (ρ : Type) (x : ByteArray) (n : Nat) : Prop := ∀ (dp p : Int) (l : List Tt49), 0 ≤ dp → dp ≤ 20 → 0 ≤ p → p ≤ (x.size : Int) → (x.size : Int) - p ≤ n → (l.length : Int) ≤ 3 * p →
  Tot (fun k κ => (tb (ρ := ρ) k).spec_l2alt dp x p l false (fun a b c d => κ (a, b, c, d))) fun r => Lft x (20 - dp) p l.length (Sm l) r.2.1 r.2.2.1 r.2.2.2
theorem fewOf {l : List Tt49} {p : Int} (h : (l.length : Int) ≤ 3 * p) (hp : p ≤ 300) : few l := by unfold few; omega
theorem atom_tot {x : ByteArray} (hx : x.size ≤ 200) {n : Nat} (ih : ∀ m, m < n → AltT ρ x m) : AtomT ρ x n := fun dp p l hd hd2 hp hp2 hn hl => by
  have hf : few l := fewOf hl (by omega)
  refine st_spec_l2atom ?_
  unfold B_spec_l2atom
  have hw1 : w (p + 1) = p + 1 := w_in (by omega)
  have hw2 : w (p + 1 + 1) = p + 2 := by rw [w_in (by omega)]; omega
  have hw3 : w (p + 2 - 1) = p + 1 := by rw [w_in (by omega)]; omega
  rw [hw1, hw2, hw3]
  have bad0 : ∀ p', p ≤ p' → p' ≤ (x.size : Int) → Lft x (20 - dp) p l.length (Sm l) p' l true := fun p' h1 h2 => ⟨h1, by omega, by omega, (fun h => by cases h), fun h => h⟩
  refine Tot.bind1 (l2peek_tot hp) fun v hv => Tot.bind1 (l2more_tot x p) fun m hm => Tot.bif (fun _ => Tot.ret _ (fun k κ => rfl) (bad0 p (Int.le_refl _) hp2)) fun hb => ?_
  subst hm
  have hlt : p < (x.size : Int) := by simpa using hb
  refine Tot.bind1 (l2has_tot (by decide)) fun h _ => Tot.bif (fun _ => Tot.ret _ (fun k κ => rfl) (bad0 p (Int.le_refl _) hp2)) fun _ => ?_
  have one : ∀ l' : List Tt49, l'.length = l.length + 1 → (Sm l → Sm l') → ∀ p', p < p' → p' ≤ (x.size : Int) → Lft x (20 - dp) p l.length (Sm l) p' l' false := fun l' h hsm p' h1 h2 => ⟨by omega, by omega, by omega, fun _ => ⟨h2, h1, by omega, by omega⟩, hsm⟩
  refine Tot.bif (fun _ => ?_) (fun _ => ?_)
  · refine Tot.bif (fun _ => Tot.ret _ (fun k κ => rfl) (bad0 p (Int.le_refl _) hp2)) fun hne => ?_
    have hne : dp ≠ 20 := by simpa using hne
    rw [show w (dp + 1) = dp + 1 from w_in (by omega)]
    cases n with
    | zero => omega
    | succ n =>
      refine Tot.bind4 (ih n (by omega) (dp + 1) (p + 1) l (by omega) (by omega) (by omega) (by omega) (by omega) (by omega)) fun a p1 l1 b1 q => ?_
      obtain ⟨q1, q2, q3, q4, q5⟩ := q
      dsimp only at q1 q2 q3 q4 q5
      refine Tot.bind1 (l2peek_tot (by omega)) fun v2 hv2 => ?_
      rw [show w (p1 + 1) = p1 + 1 from w_in (by omega)]
      refine Tot.bif (fun _ => Tot.ret _ (fun k κ => rfl) ⟨by show p ≤ p1 + 1; omega, by show p1 + 1 ≤ _; omega, by show (l1.length : Int) ≤ _ + 3 * (p1 + 1 - p); omega, (fun h => by cases h), q5⟩) fun h41 => ?_
      have hlt1 : p1 < (x.size : Int) := by
        rcases hv2 with rfl | h
        · exact absurd h41 (by decide)
        · exact h
      exact Tot.ret _ (fun k κ => rfl) ⟨by show p ≤ p1 + 1; omega, by show p1 + 1 ≤ _; omega, by show (l1.length : Int) ≤ _ + 3 * (p1 + 1 - p); omega, fun h => by
        obtain ⟨g1, g2, g3, g4⟩ := q4 h
        exact ⟨by show p1 + 1 ≤ _; omega, by show p < p1 + 1; omega, g3, by show (l1.length : Int) ≤ _ + 3 * (p1 + 1 - p) - 2; omega⟩, q5⟩
  refine Tot.bif (fun _ => ?_) (fun _ => ?_)
  · refine Tot.bind4 (l2set_tot hx hf hp hlt) fun a p1 l1 b1 q => Tot.ret _ (fun k κ => rfl) ?_
    obtain ⟨q1, q2, q3, q4, q5, q6⟩ := q
    dsimp only at q1 q2 q3 q4 q5 q6
    exact ⟨by show p ≤ p1; omega, by show p1 ≤ _; omega, by show (l1.length : Int) ≤ _ + 3 * (p1 - p); omega, fun h => by
      obtain ⟨g1, g2⟩ := q5 h
      exact ⟨q2, by show p < p1; omega, by show l.length < l1.length; omega, by show (l1.length : Int) ≤ _ + 3 * (p1 - p) - 2; omega⟩, q6⟩
  refine Tot.bif (fun _ => Tot.bind2 (l2node_1_tot hf) fun a l1 h => Tot.ret _ (fun k κ => rfl) (one l1 h.1 (h.2 (by decide)) (p + 1) (by omega) (by omega))) fun _ => ?_
  refine Tot.bif (fun _ => Tot.bind2 (l2node_1_tot hf) fun a l1 h => Tot.ret _ (fun k κ => rfl) (one l1 h.1 (h.2 (by decide)) (p + 1) (by omega) (by omega))) fun _ => ?_
  refine Tot.bif (fun _ => Tot.bind2 (l2node_1_tot hf) fun a l1 h => Tot.ret _ (fun k κ => rfl) (one l1 h.1 (h.2 (by decide)) (p + 1) (by omega) (by omega))) fun _ => ?_
  refine Tot.bif (fun _ => ?_) (fun _ => ?_)
  · refine Tot.bind1 (l2more_tot x (p + 1)) fun m hm => Tot.bif (fun _ => Tot.ret _ (fun k κ => rfl) (bad0 (p + 1) (by omega) (by omega))) fun hb => ?_
    subst hm
    have h2 : p + 1 < (x.size : Int) := by simpa using hb
    exact Tot.iteT (by omega) (Tot.iteT h2 (Tot.bind4 (l2byte_tot _) fun _ _ _ _ hy => Tot.bind2 (l2node_tot hf) fun a l1 h => Tot.ret _ (fun k κ => rfl) (one l1 h.1 (h.2 hy.1 hy.2) (p + 2) (by omega) (by omega))))
  · exact Tot.bind4 (l2byte_tot _) fun _ _ _ _ hy => Tot.bind2 (l2node_tot hf) fun a l1 h => Tot.ret _ (fun k κ => rfl) (one l1 h.1 (h.2 hy.1 hy.2) (p + 1) (by omega) (by omega))
theorem rep_s2_tot {x : ByteArray} (hx : x.size ≤ 200) : ∀ (n : Nat) (k0 p : Int) (l : List Tt49) (bad : Bool), 0 ≤ p → p ≤ 300 → (bad = false → p ≤ (x.size : Int) ∧ (x.size : Int) - p ≤ n) → (l.length : Int) ≤ 3 * p →
    Tot (fun k κ => (tb (ρ := ρ) k).spec_l2rep_s2 k0 x p l bad (fun a b c d => κ (a, b, c, d))) fun r => (r.2.1 = p ∧ r.2.2.1 = l ∧ r.2.2.2 = bad) ∨ (bad = false ∧ r.2.2.2 = false ∧ p < r.2.1 ∧ r.2.1 ≤ (x.size : Int) ∧ l.length ≤ r.2.2.1.length ∧ (r.2.2.1.length : Int) ≤ l.length + (r.2.1 - p) ∧ (Sm l → Sm r.2.2.1))
  | n, k0, p, l, bad, hp, hp3, hn, hl => by
    have hf : few l := fewOf hl hp3
    refine st_spec_l2rep_s2 ?_
    unfold B_spec_l2rep_s2
    have out : Tot (fun (k : Nat) (κ : Int × Int × List Tt49 × Bool → Option ρ) => (fun a b c d => κ (a, b, c, d)) k0 p l bad) fun r => (r.2.1 = p ∧ r.2.2.1 = l ∧ r.2.2.2 = bad) ∨ (bad = false ∧ r.2.2.2 = false ∧ p < r.2.1 ∧ r.2.1 ≤ (x.size : Int) ∧ l.length ≤ r.2.2.1.length ∧ (r.2.2.1.length : Int) ≤ l.length + (r.2.1 - p) ∧ (Sm l → Sm r.2.2.1)) := Tot.ret _ (fun k κ => rfl) (.inl ⟨rfl, rfl, rfl⟩)
    refine Tot.bif (fun hb => ?_) (fun _ => out)
    have hb : bad = false := by simpa using hb
    subst hb
    obtain ⟨hp2, hm⟩ := hn rfl
    refine Tot.bind1 (l2more_tot x p) fun m hmo => Tot.bif (fun hmt => ?_) (fun _ => out)
    subst hmo
    have hlt : p < (x.size : Int) := of_decide_eq_true hmt
    refine Tot.bind1 (l2peek_tot hp) fun v _ => Tot.bind1 (l2has_tot (by decide)) fun h _ => Tot.bif (fun _ => ?_) (fun _ => out)
    rw [show w (p + 1) = p + 1 from w_in (by omega)]
    cases n with
    | zero => omega
    | succ n =>
      have next : ∀ (k1 : Int) (l1 : List Tt49), l1.length = l.length + 1 → (Sm l → Sm l1) → Tot (fun k κ => (tb (ρ := ρ) k).spec_l2rep_s2 k1 x (p + 1) l1 false (fun a b c d => κ (a, b, c, d))) fun r => (r.2.1 = p ∧ r.2.2.1 = l ∧ r.2.2.2 = false) ∨ (false = false ∧ r.2.2.2 = false ∧ p < r.2.1 ∧ r.2.1 ≤ (x.size : Int) ∧ l.length ≤ r.2.2.1.length ∧ (r.2.2.1.length : Int) ≤ l.length + (r.2.1 - p) ∧ (Sm l → Sm r.2.2.1)) := fun k1 l1 h1 hs1 =>
        (rep_s2_tot hx n k1 (p + 1) l1 false (by omega) (by omega) (fun _ => ⟨by omega, by omega⟩) (by omega)).imp fun r hr => by
          right
          rcases hr with ⟨e1, e2, e3⟩ | ⟨_, e3, e4, e5, e6, e7, e8⟩
          · exact ⟨rfl, e3, by omega, by omega, by rw [e2]; omega, by rw [e2]; omega, by rw [e2]; exact hs1⟩
          · exact ⟨rfl, e3, by omega, by omega, by omega, by omega, fun h => e8 (hs1 h)⟩
      refine Tot.bind1 (l2peek_tot hp) fun v2 _ => Tot.bif (fun _ => Tot.bind2 (l2node_tot hf) fun a l1 h1 => next a l1 h1.1 (h1.2 (by decide) (by show (1 : Nat) ≤ 1000; decide))) fun _ => Tot.bif (fun _ => Tot.bind2 (l2node_tot hf) fun a l1 h1 => next a l1 h1.1 (h1.2 (by decide) (by show (1 : Nat) ≤ 1000; decide))) fun _ => Tot.bind2 (l2node_tot hf) fun a l1 h1 => next a l1 h1.1 (h1.2 (by decide) (by show (1 : Nat) ≤ 1000; decide))
theorem rep_tot {x : ByteArray} (hx : x.size ≤ 200) {n : Nat} (hA : AtomT ρ x n) : RepT ρ x n := fun dp p l hd hd2 hp hp2 hn hl => by
  refine st_spec_l2rep ?_
  unfold B_spec_l2rep
  refine Tot.bind4 (hA dp p l hd hd2 hp hp2 hn hl) fun a p1 l1 b1 q => ?_
  obtain ⟨q1, q2, q3, q4, q5⟩ := q
  dsimp only at q1 q2 q3 q4 q5
  refine (rep_s2_tot hx n a p1 l1 b1 (by omega) (by omega) (fun h => ⟨(q4 h).1, by have := (q4 h).2.1; omega⟩) (by omega)).imp fun r hr => ?_
  rcases hr with ⟨e1, e2, e3⟩ | ⟨e0, e3, e4, e5, e6, e7, e8⟩
  · rw [e1, e2, e3]
    exact ⟨q1, q2, q3, q4, q5⟩
  · obtain ⟨g1, g2, g3, g4⟩ := q4 e0
    exact ⟨by omega, by omega, by omega, fun _ => ⟨e5, by omega, by omega, by omega⟩, fun h => e8 (q5 h)⟩
structure Gat (x : ByteArray) (o p0 : Int) (n0 : Nat) (S : Prop) (m : Nat) (p : Int) (l : List Tt49) (bad : Bool) : Prop where
  m1 : 1 ≤ m
  lo : p0 ≤ p
  hi : p ≤ (x.size : Int) + o
  len : bad = true → (l.length : Int) ≤ n0 + 3 * (p - p0) - 2 * m + 2
  good : bad = false → p ≤ (x.size : Int) ∧ p0 < p ∧ n0 < l.length ∧ (l.length : Int) ≤ n0 + 3 * (p - p0) - 2 * m
  sm : S → Sm l
theorem Gat.all {x : ByteArray} {o p0 : Int} {n0 m : Nat} {S : Prop} {p : Int} {l : List Tt49} {bad : Bool} (h : Gat x o p0 n0 S m p l bad) : (l.length : Int) ≤ n0 + 3 * (p - p0) - 2 * m + 2 := by
  cases bad with
  | true => exact h.len rfl
  | false => have := (h.good rfl).2.2.2; omega
theorem gather_end {x : ByteArray} (hx : x.size ≤ 200) {o p0 : Int} {n0 : Nat} {S : Prop} {k1 : Int} {kids : List Int} {p : Int} {l : List Tt49} {bad : Bool} (ho : o ≤ 20) (hp0 : 0 ≤ p0) (hn0 : (n0 : Int) ≤ 3 * p0) (h : Gat x o p0 n0 S kids.length p l bad) :
    Tot (fun (k : Nat) κ => bif (kids.length : Int) == 1 then (if (0 : Int) < (kids.length : Int) then (fun a b c d => κ (a, b, c, d)) (elI .i64 kids 0) p l bad else none) else ((tb (ρ := ρ) k).spec_l2node k1 false (bs []) kids l (fun (v27 : Int) (v28 : List Tt49) => (fun a b c d => κ (a, b, c, d)) v27 p v28 bad))) fun r => Lft x o p0 n0 S r.2.1 r.2.2.1 r.2.2.2 := by
  have hall := h.all
  obtain ⟨m1, lo, hi, len, good, sm⟩ := h
  refine Tot.bif (fun h1 => ?_) (fun h1 => ?_)
  · have h1 : (kids.length : Int) = 1 := by simpa using h1
    refine Tot.iteT (by omega) (Tot.ret _ (fun k κ => rfl) ⟨lo, hi, by show (l.length : Int) ≤ _ + 3 * (p - p0); omega, fun hb => ?_, sm⟩)
    obtain ⟨g1, g2, g3, g4⟩ := good hb
    exact ⟨g1, g2, g3, by show (l.length : Int) ≤ _ + 3 * (p - p0) - 2; omega⟩
  · have h1 : (kids.length : Int) ≠ 1 := by simpa using h1
    refine Tot.bind2 (l2node_tot (by unfold few; omega)) fun a l1 hl1 => Tot.ret _ (fun k κ => rfl) ?_
    have hl2 := hl1.2
    have hl1 : l1.length = l.length + 1 := hl1.1
    refine ⟨lo, hi, by show (l1.length : Int) ≤ _ + 3 * (p - p0); omega, fun hb => ?_, fun h => hl2 (by decide) (by omega) (sm h)⟩
    obtain ⟨g1, g2, g3, g4⟩ := good hb
    exact ⟨g1, g2, by show n0 < l1.length; omega, by show (l1.length : Int) ≤ _ + 3 * (p - p0) - 2; omega⟩
theorem Gat.start {x : ByteArray} {o p0 : Int} {n0 : Nat} {S : Prop} {p : Int} {l : List Tt49} {bad : Bool} (h : Lft x o p0 n0 S p l bad) : Gat x o p0 n0 S 1 p l bad :=
  ⟨Nat.le_refl _, h.lo, h.hi, fun _ => by have := h.len; omega, (fun hb => by obtain ⟨g1, g2, g3, g4⟩ := h.good hb; exact ⟨g1, g2, g3, by omega⟩), h.sm⟩
theorem Gat.next {x : ByteArray} {o p0 : Int} {n0 m : Nat} {S : Prop} {p p1 p2 : Int} {l l2 : List Tt49} {bad : Bool} (h : Gat x o p0 n0 S m p l false) (h1 : p ≤ p1) (h2 : Lft x o p1 l.length (Sm l) p2 l2 bad) : Gat x o p0 n0 S (m + 1) p2 l2 bad := by
  obtain ⟨g1, g2, g3, g4⟩ := h.good rfl
  refine ⟨by omega, by have := h2.lo; omega, h2.hi, fun _ => by have := h2.len; have := h2.lo; omega, fun hb => ?_, fun hs => h2.sm (h.sm hs)⟩
  obtain ⟨f1, f2, f3, f4⟩ := h2.good hb
  exact ⟨f1, by omega, by omega, by omega⟩
theorem seq_s2_tot {x : ByteArray} (hx : x.size ≤ 200) {p0 : Int} {n0 : Nat} {S : Prop} (hp0 : 0 ≤ p0) (hn0 : (n0 : Int) ≤ 3 * p0) {N : Nat} (hR : RepT ρ x N) {dp : Int} (hd : 0 ≤ dp) (hd2 : dp ≤ 20) : ∀ (n : Nat) (kids : List Int) (p : Int) (l : List Tt49) (bad : Bool), n ≤ N → Gat x (20 - dp) p0 n0 S kids.length p l bad → (bad = false → (x.size : Int) - p ≤ n) →
    Tot (fun k κ => (tb (ρ := ρ) k).spec_l2seq_s2 dp kids x p l bad (fun a b c d => κ (a, b, c, d))) fun r => Lft x (20 - dp) p0 n0 S r.2.1 r.2.2.1 r.2.2.2
  | n, kids, p, l, bad, hnN, hG, hn => by
    have fin : Tot (fun k κ => (tb (ρ := ρ) k).spec_l2seq_s4 kids x p l bad (fun a b c d => κ (a, b, c, d))) fun r => Lft x (20 - dp) p0 n0 S r.2.1 r.2.2.1 r.2.2.2 := by
      refine st_spec_l2seq_s4 ?_
      unfold B_spec_l2seq_s4
      exact gather_end hx (by omega) hp0 hn0 hG
    refine st_spec_l2seq_s2 ?_
    unfold B_spec_l2seq_s2
    refine Tot.bif (fun hb => ?_) (fun _ => fin)
    have hb : bad = false := by simpa using hb
    subst hb
    have hm := hn rfl
    obtain ⟨g1, g2, g3, g4⟩ := hG.good rfl
    have hlo := hG.lo
    refine Tot.bind1 (l2more_tot x p) fun m hmo => Tot.bif (fun hmt => ?_) (fun _ => fin)
    subst hmo
    have hlt : p < (x.size : Int) := of_decide_eq_true hmt
    refine Tot.bind1 (l2peek_tot (by omega)) fun v _ => Tot.bif (fun _ => ?_) (fun _ => fin)
    refine Tot.bind1 (l2peek_tot (by omega)) fun v2 _ => Tot.bif (fun _ => ?_) (fun _ => fin)
    refine Tot.bind4 (hR dp p l hd hd2 (by omega) (by omega) (by omega) (by omega)) fun a p1 l1 b1 q => ?_
    dsimp only at q
    refine Tot.iteT (by omega) ?_
    have hG2 := hG.next (Int.le_refl _) q
    cases n with
    | zero => omega
    | succ n =>
      exact seq_s2_tot hx hp0 hn0 hR hd hd2 n (kids ++ [a]) p1 l1 b1 (by omega) (by simpa using hG2) fun hb => by have := (q.good hb).2.1; omega
theorem seq_tot {x : ByteArray} (hx : x.size ≤ 200) {n : Nat} (hR : RepT ρ x n) : SeqT ρ x n := fun dp p l hd hd2 hp hp2 hn hl => by
  refine st_spec_l2seq ?_
  unfold B_spec_l2seq
  refine Tot.bind4 (hR dp p l hd hd2 hp hp2 hn hl) fun a p1 l1 b1 q => ?_
  dsimp only at q
  exact seq_s2_tot hx hp hl hR hd hd2 n [a] p1 l1 b1 (Nat.le_refl _) (Gat.start q) fun hb => by have := (q.good hb).2.1; omega
theorem alt_s2_tot {x : ByteArray} (hx : x.size ≤ 200) {p0 : Int} {n0 : Nat} {S : Prop} (hp0 : 0 ≤ p0) (hn0 : (n0 : Int) ≤ 3 * p0) {N : Nat} (hS : SeqT ρ x N) {dp : Int} (hd : 0 ≤ dp) (hd2 : dp ≤ 20) : ∀ (n : Nat) (kids : List Int) (p : Int) (l : List Tt49) (bad : Bool), n ≤ N → Gat x (20 - dp) p0 n0 S kids.length p l bad → (bad = false → (x.size : Int) - p ≤ n) →
    Tot (fun k κ => (tb (ρ := ρ) k).spec_l2alt_s2 dp kids x p l bad (fun a b c d => κ (a, b, c, d))) fun r => Lft x (20 - dp) p0 n0 S r.2.1 r.2.2.1 r.2.2.2
  | n, kids, p, l, bad, hnN, hG, hn => by
    have fin := gather_end (ρ := ρ) (k1 := 4) hx (by omega) hp0 hn0 hG
    refine st_spec_l2alt_s2 ?_
    unfold B_spec_l2alt_s2
    refine Tot.bif (fun hb => ?_) (fun _ => fin)
    have hb : bad = false := by simpa using hb
    subst hb
    have hm := hn rfl
    obtain ⟨g1, g2, g3, g4⟩ := hG.good rfl
    have hlo := hG.lo
    refine Tot.bind1 (l2more_tot x p) fun m hmo => Tot.bif (fun hmt => ?_) (fun _ => fin)
    subst hmo
    have hlt : p < (x.size : Int) := of_decide_eq_true hmt
    refine Tot.bind1 (l2peek_tot (by omega)) fun v _ => Tot.bif (fun _ => ?_) (fun _ => fin)
    rw [show w (p + 1) = p + 1 from w_in (by omega)]
    refine Tot.bind4 (hS dp (p + 1) l hd hd2 (by omega) (by omega) (by omega) (by omega)) fun a p1 l1 b1 q => ?_
    dsimp only at q
    refine Tot.iteT (by omega) ?_
    have hG2 := hG.next (by omega) q
    cases n with
    | zero => omega
    | succ n =>
      exact alt_s2_tot hx hp0 hn0 hS hd hd2 n (kids ++ [a]) p1 l1 b1 (by omega) (by simpa using hG2) fun hb => by have := (q.good hb).2.1; omega
theorem alt_tot {x : ByteArray} (hx : x.size ≤ 200) {n : Nat} (hS : SeqT ρ x n) : AltT ρ x n := fun dp p l hd hd2 hp hp2 hn hl => by
  refine st_spec_l2alt ?_
  unfold B_spec_l2alt
  refine Tot.bind4 (hS dp p l hd hd2 hp hp2 hn hl) fun a p1 l1 b1 q => ?_
  dsimp only at q
  exact alt_s2_tot hx hp hl hS hd hd2 n [a] p1 l1 b1 (Nat.le_refl _) (Gat.start q) fun hb => by have := (q.good hb).2.1; omega
theorem alt_all {x : ByteArray} (hx : x.size ≤ 200) : ∀ (n : Nat), AltT ρ x n := fun n => by
  induction n using Nat.strongRecOn with
  | ind n ih => exact alt_tot hx (seq_tot hx (rep_tot hx (atom_tot hx ih)))
theorem ReParse_tot (x : ByteArray) : Tot (fun k κ => (tb (ρ := ρ) k).spec_ReParse x (fun a b => κ (a, b))) fun r => r.1.length ≤ 200 ∧ (r.2 = true → 0 < r.1.length) ∧ Sm r.1 := by
  refine st_spec_ReParse ?_
  unfold B_spec_ReParse
  have out : Tot (fun (k : Nat) (κ : List Tt49 × Bool → Option ρ) => (fun a b => κ (a, b)) ([] : List Tt49) false) fun r => r.1.length ≤ 200 ∧ (r.2 = true → 0 < r.1.length) ∧ Sm r.1 := Tot.ret _ (fun k κ => rfl) ⟨Nat.zero_le _, (fun h => by cases h), Sm.nil⟩
  refine Tot.bif (fun _ => out) fun h1 => Tot.bif (fun _ => out) fun h2 => ?_
  have h2 := of_decide_eq_false h2
  refine Tot.bind4 (alt_all (by omega) x.size 0 0 [] (by omega) (by omega) (by omega) (by omega) (by omega) (by simp)) fun a p1 l1 b1 q => ?_
  dsimp only at q
  refine Tot.bif (fun _ => out) fun hb => Tot.bif (fun _ => out) fun _ => Tot.bif (fun _ => out) fun h3 => ?_
  have h3 := of_decide_eq_false h3
  have h4 := (q.good hb).2.2.1
  exact Tot.ret _ (fun k κ => rfl) ⟨by show l1.length ≤ 200; omega, (fun _ => by show 0 < l1.length; simpa using h4), q.sm Sm.nil⟩
theorem Sm.get {l : List Tt49} (h : Sm l) (i : Int) : SmN (elt49 l i) := by
  show SmN (l.getD i.toNat _)
  rw [List.getD_eq_getElem?_getD]
  cases hx : l[i.toNat]? with
  | none => exact ⟨Nat.zero_le _, Nat.zero_le _⟩
  | some x => exact h x (List.mem_of_getElem? hx)
theorem Sm.set {l : List Tt49} (h : Sm l) (i : Nat) {x : Tt49} (hx : SmN x) : Sm (l.set i x) := fun y hy => by
  rcases List.mem_or_eq_of_mem_set hy with hy | rfl
  · exact h y hy
  · exact hx
theorem Sm.two {a b x : Tt49} (ha : SmN a) (hb : SmN b) (hx : SmN x) : Sm [a, b, x] := fun y hy => by
  rcases List.mem_cons.mp hy with rfl | hy
  · exact ha
  rcases List.mem_cons.mp hy with rfl | hy
  · exact hb
  · rw [List.mem_singleton.mp hy]; exact hx
theorem l2tree_s13_tot {l : List Tt49} {c : List Int} {p s : Int} (hp : Cur c p) (hl : l.length ≤ 201) (hs : Sm l) : Tot (fun k κ => (tb (ρ := ρ) k).spec_l2tree_s13 l c p s (fun a b d => κ (a, b, d))) fun r => (r.1.length ≤ 201 ∧ Sm r.1) ∧ Cur c r.2.1 := by
  refine st_spec_l2tree_s13 ?_
  unfold B_spec_l2tree_s13
  exact Tot.ret _ (fun k κ => rfl) ⟨⟨hl, hs⟩, hp⟩
theorem l2tree_tot {c : List Int} {p s : Int} (hp : Cur c p) : Tot (fun k κ => (tb (ρ := ρ) k).spec_l2tree c p s (fun a b d => κ (a, b, d))) fun r => (r.1.length ≤ 201 ∧ Sm r.1) ∧ Cur c r.2.1 := by
  refine st_spec_l2tree ?_
  unfold B_spec_l2tree
  refine Tot.bind3 (l2pattern_tot hp) fun x p1 s1 q => Tot.bind2 (ReParse_tot x) fun l ok h => ?_
  have hq := q.2
  have hl := h.1
  have hl0 := h.2.1
  have hs := h.2.2
  dsimp only at hq hl hl0 hs
  have txt : ∀ {p s : Int}, Cur c p → Tot (fun (k : Nat) κ => (tb (ρ := ρ) k).spec_l1text [bs [], bs [97], bs [98, 97], bs [97, 98], bs [93, 93], bs [45, 45]] c p s (fun a b d => κ (a, b, d))) fun r => r.1.size ≤ 8 ∧ Cur c r.2.1 := fun hp => l1text_tot (by decide) (fun x hx => of_decide_eq_true (List.all_eq_true.mp (show ([bs [], bs [97], bs [98, 97], bs [97, 98], bs [93, 93], bs [45, 45]].all fun x => decide (x.size ≤ 8)) = true by decide) x hx)) hp
  refine Tot.bif (fun _ => ?_) (fun hok => ?_)
  · refine Tot.bind4 (l2byte_tot _) fun a1 b1 c1 d1 y1 => Tot.bind4 (l2byte_tot _) fun a2 b2 c2 d2 y2 => Tot.bind3 (l1Below_tot hq) fun a p2 s2 q2 => ?_
    have hs3 : Sm [(a1, b1, c1, d1), (a2, b2, c2, d2), (4, false, bs [], [0, 1])] := Sm.two y1 y2 ⟨by decide, by decide⟩
    have h2 := q2.2
    dsimp only at h2
    refine Tot.bif (fun _ => ?_) (fun _ => Tot.bif (fun _ => ?_) (fun _ => Tot.bif (fun _ => ?_) (fun _ => Tot.bif (fun _ => ?_) (fun _ => ?_))))
    · refine Tot.bind3 (l1Below_tot h2) fun b p3 s3 q3 => Tot.bind3 (l1Below_tot q3.2) fun d p4 s4 q4 => Tot.iteT q3.1.1 (Tot.iteT (q3.1.2 (by omega)) ?_)
      exact l2tree_s13_tot q4.2 (by simp) (hs3.set _ ⟨(hs3.get _).1, (hs3.get _).2⟩)
    · refine Tot.bind3 (l1Below_tot h2) fun b p3 s3 q3 => Tot.iteT q3.1.1 (Tot.iteT (q3.1.2 (by omega)) ?_)
      exact l2tree_s13_tot q3.2 (by simp) (hs3.set _ ⟨(hs3.get _).1, (hs3.get _).2⟩)
    · refine Tot.bind3 (l1Below_tot h2) fun b p3 s3 q3 => Tot.bind3 (txt q3.2) fun d p4 s4 q4 => Tot.iteT q3.1.1 (Tot.iteT (q3.1.2 (by omega)) ?_)
      exact l2tree_s13_tot q4.2 (by simp) (hs3.set _ ⟨Nat.le_trans q4.1 (by decide), (hs3.get _).2⟩)
    · exact l2tree_s13_tot h2 (by simp) (hs3.snoc (x := (5, false, bs [], [2])) ⟨by show (0 : Nat) ≤ 1000; decide, by show (1 : Nat) ≤ 1000; decide⟩)
    · exact l2tree_s13_tot h2 (by simp) hs3
  · have h0 : 0 < l.length := hl0 (by simpa using hok)
    refine Tot.bind3 (l1Below_tot hq) fun a p2 s2 q2 => ?_
    have h2 := q2.2
    dsimp only at h2
    refine Tot.bif (fun _ => ?_) (fun _ => Tot.bif (fun _ => ?_) (fun _ => Tot.bif (fun _ => ?_) (fun _ => Tot.bif (fun _ => ?_) (fun _ => ?_))))
    · refine Tot.bind3 (l1Below_tot h2) fun b p3 s3 q3 => Tot.bind3 (l1Below_tot q3.2) fun d p4 s4 q4 => Tot.iteT q3.1.1 (Tot.iteT (q3.1.2 (by omega)) ?_)
      exact l2tree_s13_tot q4.2 (by simp; omega) (hs.set _ ⟨(hs.get _).1, (hs.get _).2⟩)
    · refine Tot.bind3 (l1Below_tot h2) fun b p3 s3 q3 => Tot.iteT q3.1.1 (Tot.iteT (q3.1.2 (by omega)) ?_)
      exact l2tree_s13_tot q3.2 (by simp; omega) (hs.set _ ⟨(hs.get _).1, (hs.get _).2⟩)
    · refine Tot.bind3 (l1Below_tot h2) fun b p3 s3 q3 => Tot.bind3 (txt q3.2) fun d p4 s4 q4 => Tot.iteT q3.1.1 (Tot.iteT (q3.1.2 (by omega)) ?_)
      exact l2tree_s13_tot q4.2 (by simp; omega) (hs.set _ ⟨Nat.le_trans q4.1 (by decide), (hs.get _).2⟩)
    · exact Tot.iteT (by omega) (l2tree_s13_tot h2 (by simp; omega) (hs.snoc ⟨by show (0 : Nat) ≤ 1000; decide, by show (1 : Nat) ≤ 1000; decide⟩))
    · exact l2tree_s13_tot h2 (by omega) hs
theorem DrawReFind_tot {c : List Int} (hc : c.length ≤ 9223372036854775807) : Tot (fun k κ => (tb (ρ := ρ) k).spec_DrawReFind c (fun a b => κ (a, b))) fun r => (r.1.length ≤ 201 ∧ Sm r.1) ∧ r.2.size ≤ 1000 := by
  refine st_spec_DrawReFind ?_
  unfold B_spec_DrawReFind
  refine Tot.bind3 (l1New_tot hc) fun c1 p1 s1 q => ?_
  obtain ⟨e, q⟩ := q
  dsimp only at e q
  subst e
  exact Tot.bind3 (l2tree_tot q) fun l p2 s2 q2 => Tot.bind3 (l2subject_tot q2.2) fun x p3 s3 q3 => Tot.ret _ (fun k κ => rfl) ⟨q2.1, q3.1⟩
end
end Go.Proofs.YtlakdfbfkbndiaaDoor.Ev.Pr
set_option linter.unusedVariables false
namespace Go.Proofs.YtlakdfbfkbndiaaDoor.Re
theorem Star.head {R : Rel} {i j : Nat} (h : Star R i j) : i = j ∨ ∃ m, m ≠ i ∧ R i m ∧ Star R m j := by
  induction h with
  | refl => exact .inl rfl
  | @tail j k h s ih =>
    rcases ih with rfl | ⟨m, h1, h2, h3⟩
    · by_cases hk : k = i
      · exact .inl hk.symm
      · exact .inr ⟨k, hk, s, .refl k⟩
    · exact .inr ⟨m, h1, h2, .tail h3 s⟩
theorem Star.cons {R : Rel} {i m j : Nat} (h : R i m) (g : Star R m j) : Star R i j := Star.trans (Star.one h) g
theorem Star.fwd {R : Rel} (hf : ∀ i j, R i j → i ≤ j) {i j : Nat} (h : Star R i j) : i ≤ j := by
  induction h with
  | refl => exact Nat.le_refl _
  | tail _ s ih => exact Nat.le_trans ih (hf _ _ s)
def starB (r : Nat → Nat → Bool) : Nat → Nat → Nat → Bool
  | 0, i, j => i == j
  | d + 1, i, j => i == j || (List.range (j + 1)).any fun m => decide (i < m) && r i m && starB r d m j
theorem starB_iff {R : Rel} {r : Nat → Nat → Bool} (h : ∀ i j, r i j = true ↔ R i j) (hf : ∀ i j, R i j → i ≤ j) : ∀ (d i j : Nat), j ≤ i + d → (starB r d i j = true ↔ Star R i j)
  | 0, i, j, hd => by
    simp only [starB, beq_iff_eq]
    constructor
    · rintro rfl; exact .refl _
    · intro g; have := g.fwd hf; omega
  | d + 1, i, j, hd => by
    simp only [starB, Bool.or_eq_true, beq_iff_eq, List.any_eq_true, List.mem_range, Bool.and_eq_true, decide_eq_true_eq]
    constructor
    · rintro (rfl | ⟨m, h1, ⟨h2, h3⟩, h4⟩)
      · exact .refl _
      · exact .cons ((h i m).mp h3) ((starB_iff h hf d m j (by omega)).mp h4)
    · intro g
      rcases g.head with rfl | ⟨m, h1, h2, h3⟩
      · exact .inl rfl
      · have := hf _ _ h2
        have := h3.fwd hf
        exact .inr ⟨m, by omega, ⟨by omega, (h i m).mpr h2⟩, (starB_iff h hf d m j (by omega)).mpr h3⟩
def seqB : List (Nat → Nat → Bool) → Nat → Nat → Bool
  | [], i, j => i == j
  | r :: l, i, j => (List.range (j + 1)).any fun m => r i m && seqB l m j
theorem seqR_fwd : ∀ {l : List Rel}, (∀ R, R ∈ l → ∀ i j, R i j → i ≤ j) → ∀ i j, seqR l i j → i ≤ j
  | [], _, i, j, h => Nat.le_of_eq h
  | R :: l, hf, i, j, ⟨m, h1, h2⟩ => Nat.le_trans (hf R List.mem_cons_self _ _ h1) (seqR_fwd (fun S hS => hf S (List.mem_cons_of_mem _ hS)) _ _ h2)
theorem seqB_iff {α : Type} {f : α → Nat → Nat → Bool} {g : α → Rel} : ∀ {l : List α}, (∀ a, a ∈ l → ∀ i j, f a i j = true ↔ g a i j) → (∀ a, a ∈ l → ∀ i j, g a i j → i ≤ j) → ∀ i j, seqB (l.map f) i j = true ↔ seqR (l.map g) i j
  | [], _, _, i, j => by simp [seqB, seqR]
  | a :: l, h, hf, i, j => by
    simp only [List.map_cons, seqB, seqR, List.any_eq_true, List.mem_range, Bool.and_eq_true]
    constructor
    · rintro ⟨m, h1, h2, h3⟩
      exact ⟨m, (h a List.mem_cons_self _ _).mp h2, (seqB_iff (fun b hb => h b (List.mem_cons_of_mem _ hb)) (fun b hb => hf b (List.mem_cons_of_mem _ hb)) _ _).mp h3⟩
    · rintro ⟨m, h2, h3⟩
      have := seqR_fwd (l := l.map g) (fun R hR => by obtain ⟨b, hb, rfl⟩ := List.mem_map.mp hR; exact hf b (List.mem_cons_of_mem _ hb)) _ _ h3
      exact ⟨m, by omega, (h a List.mem_cons_self _ _).mpr h2, (seqB_iff (fun b hb => h b (List.mem_cons_of_mem _ hb)) (fun b hb => hf b (List.mem_cons_of_mem _ hb)) _ _).mpr h3⟩
theorem den_fwd {P : Pat} (hs : ∀ n i j, P.st n i j → i ≤ j) : ∀ f n i j, den P f n i j → i ≤ j
  | 0, n, i, j, h => h.elim
  | f + 1, n, i, j, h => by
    simp only [den] at h
    split at h
    · exact hs _ _ _ h
    split at h
    · exact seqR_fwd (fun R hR => by obtain ⟨k, _, rfl⟩ := List.mem_map.mp hR; exact den_fwd hs f k) _ _ h
    split at h
    · obtain ⟨k, _, h⟩ := h; exact den_fwd hs f k _ _ h
    split at h
    · exact Star.fwd (den_fwd hs f _) h
    split at h
    · obtain ⟨m, h1, h2⟩ := h; exact Nat.le_trans (Star.fwd (den_fwd hs f _) h1) (den_fwd hs f _ _ _ h2)
    · rcases h with rfl | h
      · exact Nat.le_refl _
      · exact den_fwd hs f _ _ _ h
def denB (P : Pat) (st : Nat → Nat → Nat → Bool) : Nat → Nat → Nat → Nat → Bool
  | 0, _ => fun _ _ => false
  | f + 1, n =>
    if P.kd n < 3 then st n
    else if P.kd n = 3 then seqB ((P.ks n).map (denB P st f))
    else if P.kd n = 4 then fun i j => (P.ks n).any fun k => denB P st f k i j
    else if P.kd n = 5 then fun i j => starB (denB P st f ((P.ks n).headD 0)) j i j
    else if P.kd n = 6 then fun i j => (List.range (j + 1)).any fun m => starB (denB P st f ((P.ks n).headD 0)) m i m && denB P st f ((P.ks n).headD 0) m j
    else fun i j => i == j || denB P st f ((P.ks n).headD 0) i j
theorem denB_iff {P : Pat} {st : Nat → Nat → Nat → Bool} (hs : ∀ n i j, P.st n i j → i ≤ j) (h : ∀ n i j, st n i j = true ↔ P.st n i j) : ∀ f n i j, denB P st f n i j = true ↔ den P f n i j
  | 0, n, i, j => by simp [denB, den]
  | f + 1, n, i, j => by
    have ih := denB_iff hs h f
    have fw := den_fwd hs f
    simp only [denB, den]
    split
    · exact h n i j
    split
    · exact seqB_iff (fun k _ => ih k) (fun k _ => fw k) i j
    split
    · simp only [List.any_eq_true, ih]
    split
    · exact starB_iff (ih _) (fw _) j i j (by omega)
    split
    · simp only [List.any_eq_true, List.mem_range, Bool.and_eq_true, ih]
      constructor
      · rintro ⟨m, h1, h2, h3⟩
        exact ⟨m, (starB_iff (ih _) (fw _) m i m (by omega)).mp h2, h3⟩
      · rintro ⟨m, h2, h3⟩
        have := fw _ _ _ h3
        exact ⟨m, by omega, (starB_iff (ih _) (fw _) m i m (by omega)).mpr h2, h3⟩
    · simp only [Bool.or_eq_true, beq_iff_eq, ih]
end Go.Proofs.YtlakdfbfkbndiaaDoor.Re
set_option linter.unusedVariables false
namespace Go.Proofs.YtlakdfbfkbndiaaDoor.Q
open Go.RowKit Go.Proofs.YtlakdfbfkbndiaaDoor.Re Go.Proofs.YtlakdfbfkbndiaaDoorW.PrintWords Go.Proofs.YtlakdfbfkbndiaaDoorW.PrintLast Go.Proofs.YtlakdfbfkbndiaaDoorW.PrintMore
def leafB (x : S49) (s : ByteArray) (i j : Nat) : Bool := if x.f0 = 0 then decide (i < s.size) && inS x (bt s i) && (j == i + 1) else if x.f0 = 1 then (i == 0) && (j == 0) else (i == s.size) && (j == i)
def endsC (l : List S49) (s : ByteArray) (i : Nat) : List Nat := (List.range (s.size + 1)).filter fun j => denB (patOf l s) (fun n => leafB (nodeAt l n) s) l.length (l.length - 1) i j
theorem ends_eq (l : List S49) (s : ByteArray) (i : Nat) : endsL l s i = endsC l s i := by
  unfold endsL endsC upto
  refine List.filter_congr fun j _ => ?_
  have h := denB_iff (P := patOf l s) (st := fun n => leafB (nodeAt l n) s) (fun n i j h => by
    have h : leafR (nodeAt l n) s i j := h
    unfold leafR at h
    split at h
    · omega
    split at h
    · omega
    · omega) (fun n i j => by
    show leafB (nodeAt l n) s i j = true ↔ leafR (nodeAt l n) s i j
    unfold leafB leafR
    split
    · simp only [Bool.and_eq_true, decide_eq_true_eq, beq_iff_eq, and_assoc]
    split
    · simp only [Bool.and_eq_true, beq_iff_eq]
    · simp only [Bool.and_eq_true, beq_iff_eq]) l.length (l.length - 1) i j
  by_cases hm : meets l s (l.length - 1) i j
  · rw [h.mpr hm]; simp [hm]
  · have : denB (patOf l s) (fun n => leafB (nodeAt l n) s) l.length (l.length - 1) i j = false := by
      cases hb : denB (patOf l s) (fun n => leafB (nodeAt l n) s) l.length (l.length - 1) i j with
      | false => rfl
      | true => exact absurd (h.mp hb) hm
    rw [this]; simp [hm]
def findC (l : List S49) (s : ByteArray) : Nat → Nat → Int × Int
  | 0, _ => (-1, 0)
  | d + 1, i => if (endsC l s i).length = 0 then findC l s d (i + 1) else ((i : Int), (((endsC l s i).getD ((endsC l s i).length - 1) 0 : Nat) : Int))
theorem find_eq (l : List S49) (s : ByteArray) : ∀ d i, findV l s d i = findC l s d i
  | 0, _ => rfl
  | d + 1, i => by simp only [findV, findC, ends_eq, find_eq l s d]
def occC (l : List S49) (s : ByteArray) : Nat → Nat → List (Int × Int)
  | 0, _ => []
  | g + 1, i => if i ≤ s.size then (if (findC l s (s.size + 1 - i) i).1 < 0 then [] else findC l s (s.size + 1 - i) i :: occC l s g (if (findC l s (s.size + 1 - i) i).1 = (findC l s (s.size + 1 - i) i).2 then (findC l s (s.size + 1 - i) i).2.toNat + 1 else (findC l s (s.size + 1 - i) i).2.toNat)) else []
theorem occ_eq (l : List S49) (s : ByteArray) : ∀ g i, occV l s g i = occC l s g i
  | 0, _ => rfl
  | g + 1, i => by simp only [occV, occC, find_eq, occ_eq l s g]
theorem findV_first (l : List S49) (s : ByteArray) : ∀ (d i : Nat), (findV l s d i = (-1, 0) ∧ ∀ m, i ≤ m → m < i + d → (endsL l s m).length = 0) ∨ ∃ j, i ≤ j ∧ j < i + d ∧ (endsL l s j).length ≠ 0 ∧ findV l s d i = ((j : Int), (((endsL l s j).getD ((endsL l s j).length - 1) 0 : Nat) : Int)) ∧ ∀ m, i ≤ m → m < j → (endsL l s m).length = 0
  | 0, i => .inl ⟨rfl, fun m h1 h2 => by omega⟩
  | d + 1, i => by
    simp only [findV]
    by_cases hn : (endsL l s i).length = 0
    · rw [if_pos hn]
      rcases findV_first l s d (i + 1) with ⟨h1, h2⟩ | ⟨j, h1, h2, h3, h4, h5⟩
      · exact .inl ⟨h1, fun m g1 g2 => by
          by_cases hm : m = i
          · rw [hm]; exact hn
          · exact h2 m (by omega) (by omega)⟩
      · exact .inr ⟨j, by omega, by omega, h3, h4, fun m g1 g2 => by
          by_cases hm : m = i
          · rw [hm]; exact hn
          · exact h5 m (by omega) (by omega)⟩
    · rw [if_neg hn]
      exact .inr ⟨i, Nat.le_refl _, by omega, hn, rfl, fun m g1 g2 => by omega⟩
end Go.Proofs.YtlakdfbfkbndiaaDoor.Q
namespace Go.Proofs.YtlakdfbfkbndiaaDoor.Q
open Go.RowKit Go.Proofs.YtlakdfbfkbndiaaDoor.Re Go.Proofs.YtlakdfbfkbndiaaDoorW.PrintWords Go.Proofs.YtlakdfbfkbndiaaDoorW.PrintLast Go.Proofs.YtlakdfbfkbndiaaDoorW.PrintMore
structure Mach (B bm : Nat) (v : Value) (N : Int) (es : List S85) (w : World) : Prop where
  lo : B ≤ bm
  obj : w.heap[bm]? = some (.cells #[v, .int .i64 N] 59 (0, 0))
  row : Kd.R k85 85 w B (fun _ => True) v es
  sz : B ≤ w.heap.size
theorem Mach.move {B bm : Nat} {v : Value} {N : Int} {es : List S85} {w w1 : World} (h : Mach B bm v N es w) (hb : Below w.heap.size w w1) : Mach B bm v N es w1 :=
  ⟨h.lo, (hb.block _ (Array.getElem?_eq_some_iff.mp h.obj).1).trans h.obj, Kd.R_below h.row hb, Nat.le_trans h.sz hb.size⟩
def Else (bm : Nat) (w w1 : World) : Prop := ∀ k o, k ≠ bm → w.heap[k]? = some o → (∀ c, o ≠ .cells c 85 (0, 0)) → w1.heap[k]? = some o
theorem Else.refl (bm : Nat) (w : World) : Else bm w w := fun _ _ _ h _ => h
theorem Else.trans {bm : Nat} {w w1 w2 : World} (h : Else bm w w1) (g : Else bm w1 w2) : Else bm w w2 := fun k o hk ho hn => g k o hk (h k o hk ho hn) hn
theorem Else.below {bm : Nat} {w w1 : World} (h : Below w.heap.size w w1) : Else bm w w1 := fun k o _ ho _ => (h.block k (Array.getElem?_eq_some_iff.mp ho).1).trans ho
theorem way_ne {w : World} {B k : Nat} {v : Value} {es : List S85} {o : Obj} (h : Kd.R k85 85 w B (fun _ => True) v es) (hb : w.heap[k]? = some o) (ho : ∀ c, o ≠ .cells c 85 (0, 0)) : some k ≠ v.ownBlock := fun e => by
  obtain ⟨inner, hw⟩ := Kd.R_own h
  obtain ⟨c, hc⟩ := own_typed hw k e.symm
  rw [hb] at hc
  exact ho c (Option.some.inj hc)
end Go.Proofs.YtlakdfbfkbndiaaDoor.Q
namespace Go.Proofs.YtlakdfbfkbndiaaDoor.Q
open Go.RowKit Go.Proofs.YtlakdfbfkbndiaaDoor.Re Go.Proofs.YtlakdfbfkbndiaaDoorW.PrintWords Go.Proofs.YtlakdfbfkbndiaaDoorW.PrintLast Go.Proofs.YtlakdfbfkbndiaaDoorW.PrintMore
section
variable {l : List S49} {A0 : Option Addr} {c0 : Nat} {w0 : World}
structure Bw (B bm : Nat) (w0 w : World) (Ln : Nat) (x : S49) (A3 : Option Addr) (c3 : Nat) (wr : World) : Prop where
  b0 : Below B w0 wr
  bw : Below B w wr
  el : Else bm w wr
  loc : wr.heap[Ln]? = some (.cells #[.int .i64 x.f0, .bool x.f1, .string x.f2, .slice A3 x.f3.length c3] 49 (0, 0))
  ne : Ln ≠ bm
theorem Bw.step {B bm : Nat} {w0 w : World} {Ln : Nat} {x : S49} {A3 : Option Addr} {c3 : Nat} {wr w1 : World} (h : Bw B bm w0 w Ln x A3 c3 wr) (hb : Below B wr w1) (he : Else bm wr w1) : Bw B bm w0 w Ln x A3 c3 w1 :=
  ⟨h.b0.trans hb, h.bw.trans hb, h.el.trans he, he _ _ h.ne h.loc (by simp), h.ne⟩
theorem Mach.count {B bm : Nat} {v : Value} {N : Int} {es : List S85} {w : World} (h : Mach B bm v N es w) (M : Int) : Mach B bm v M es (w.setCell ⟨bm, 1, none⟩ (.int .i64 M)) ∧ Below B w (w.setCell ⟨bm, 1, none⟩ (.int .i64 M)) ∧ Else bm w (w.setCell ⟨bm, 1, none⟩ (.int .i64 M)) := by
  refine ⟨⟨h.lo, by simp [World.setCell, Array.getElem?_modify, h.obj], Kd.R_set h.row h.obj (by decide) 1 _, by have := h.sz; simp [World.setCell]; omega⟩, (Below.refl _ _).setCell h.lo _, fun k o hk ho _ => ?_⟩
  rw [Below.heap_setCell _ _ _ _ hk]; exact ho
end
end Go.Proofs.YtlakdfbfkbndiaaDoor.Q
namespace Go.Proofs.YtlakdfbfkbndiaaDoor.Q
open Go.RowKit Go.Proofs.YtlakdfbfkbndiaaDoor.Re Go.Proofs.YtlakdfbfkbndiaaDoorW.PrintWords Go.Proofs.YtlakdfbfkbndiaaDoorW.PrintLast Go.Proofs.YtlakdfbfkbndiaaDoorW.PrintMore
section
variable (l : List S49) (s : ByteArray)
def epsB (e : Re.Way) (t : Nat) : Bool := decide (e.2.2 < 0) || ((decide ((nodeAt l e.2.2.toNat).f0 = 1) && decide (t = 0)) || (decide ((nodeAt l e.2.2.toNat).f0 = 2) && decide (t = s.size)))
end
end Go.Proofs.YtlakdfbfkbndiaaDoor.Q
namespace Go.Proofs.YtlakdfbfkbndiaaDoor.Q
open Go.RowKit Go.Proofs.YtlakdfbfkbndiaaDoor.Re Go.Proofs.YtlakdfbfkbndiaaDoorW.PrintWords Go.Proofs.YtlakdfbfkbndiaaDoorW.PrintLast Go.Proofs.YtlakdfbfkbndiaaDoorW.PrintMore
def Ev {α : Type} (g : Nat → Option α) (r : α) : Prop := ∃ K, ∀ k, K ≤ k → g k = some r
theorem Ev.mk {α : Type} {g : Nat → Option α} {r : α} (h : ∀ k, g k = some r) : Ev g r := ⟨0, fun k _ => h k⟩
theorem Ev.congr {α : Type} {f g : Nat → Option α} {r : α} (h : Ev f r) (e : ∀ k, g k = f k) : Ev g r := by
  obtain ⟨K, hK⟩ := h
  exact ⟨K, fun k hk => (e k).trans (hK k hk)⟩
theorem Ev.succ {α : Type} {g : Nat → Option α} {r : α} (h : Ev (fun k => g (k + 1)) r) : Ev g r := by
  obtain ⟨K, hK⟩ := h
  exact ⟨K + 1, fun k hk => by obtain ⟨j, rfl⟩ : ∃ j, k = j + 1 := ⟨k - 1, by omega⟩; exact hK j (by omega)⟩
theorem Ev.add {α : Type} {g : Nat → Option α} {r : α} (n : Nat) (h : Ev (fun k => g (k + n)) r) : Ev g r := by
  obtain ⟨K, hK⟩ := h
  exact ⟨K + n, fun k hk => by obtain ⟨j, rfl⟩ : ∃ j, k = j + n := ⟨k - n, by omega⟩; exact hK j (by omega)⟩
theorem Ev.up {α : Type} {g : Nat → Option α} {r : α} (n : Nat) (h : Ev g r) : Ev (fun k => g (k + n)) r := by
  obtain ⟨K, hK⟩ := h
  exact ⟨K, fun k hk => hK (k + n) (by omega)⟩
theorem Ev.bind {α β : Type} {f : Nat → Option α} {g : Nat → α → Option β} {a : α} {r : β} (h : Ev f a) (h2 : Ev (fun k => g k a) r) : Ev (fun k => (f k).bind (g k)) r := by
  obtain ⟨K, hK⟩ := h
  obtain ⟨M, hM⟩ := h2
  exact ⟨K + M, fun k hk => by show (f k).bind (g k) = some r; rw [hK k (by omega)]; exact hM k (by omega)⟩
inductive Eps (l : List S49) (s : ByteArray) (E : List Re.Way) (t : Nat) (m : List Bool) : Nat → Prop
  | base {q : Nat} : m.getD q false = true → Eps l s E t m q
  | step {e : Re.Way} : e ∈ E → epsB l s e t = true → Eps l s E t m e.1.toNat → Eps l s E t m e.2.1.toNat
end Go.Proofs.YtlakdfbfkbndiaaDoor.Q
namespace Go.Proofs.YtlakdfbfkbndiaaDoor.Q
open Go.RowKit Go.Proofs.YtlakdfbfkbndiaaDoor.Re Go.Proofs.YtlakdfbfkbndiaaDoorW.PrintWords Go.Proofs.YtlakdfbfkbndiaaDoorW.PrintLast Go.Proofs.YtlakdfbfkbndiaaDoorW.PrintMore
section
variable {l : List S49} {s : ByteArray} {E : List Re.Way} {N : Nat} {t : Nat}
theorem Eps.trans {m m1 : List Bool} (h : ∀ q, m1.getD q false = true → Eps l s E t m q) {q : Nat} (g : Eps l s E t m1 q) : Eps l s E t m q := by
  induction g with
  | base h1 => exact h _ h1
  | step he hb _ ih => exact .step he hb ih
def setB (l : List S49) (s : ByteArray) (e : Re.Way) (t : Nat) : Bool := decide (0 ≤ e.2.2) && (decide ((nodeAt l e.2.2.toNat).f0 = 0) && inS (nodeAt l e.2.2.toNat) (bt s t))
end
end Go.Proofs.YtlakdfbfkbndiaaDoor.Q
namespace Go.Proofs.YtlakdfbfkbndiaaDoor.Q
open Go.RowKit Go.Proofs.YtlakdfbfkbndiaaDoor.Re Go.Proofs.YtlakdfbfkbndiaaDoorW.PrintWords Go.Proofs.YtlakdfbfkbndiaaDoorW.PrintLast Go.Proofs.YtlakdfbfkbndiaaDoorW.PrintMore
theorem toList_nil (s : ByteArray) : s.toList = ([] : List UInt8) ↔ s.size = 0 := by
  have h : s.toList.length = s.size := by simp [ByteArray.toList_eq, Array.length_toList]
  constructor
  · intro e; rw [e] at h; exact h.symm
  · intro e; rw [e] at h; exact List.eq_nil_of_length_eq_zero h
def pairsB (s : ByteArray) : Nat → Nat → Bool
  | 0, _ => true
  | d + 1, i => if bt s ((i + 1 : Nat) : Int) < bt s (i : Int) then false else pairsB s d (i + 2)
def nodeB (x : S49) : Bool :=
  if x.f0 = 0 then (if x.f2.size % 2 = 0 ∧ x.f3.length = 0 ∧ ¬ (x.f2.size = 0 ∧ x.f1 = false) then pairsB x.f2 (x.f2.size / 2) 0 else false)
  else if x.f1 = true ∨ x.f2.size ≠ 0 then false
  else if x.f0 = 1 ∨ x.f0 = 2 then decide (x.f3.length = 0)
  else if x.f0 = 3 ∨ x.f0 = 4 then decide (2 ≤ x.f3.length)
  else if x.f0 = 5 ∨ x.f0 = 6 ∨ x.f0 = 7 then decide (x.f3.length = 1)
  else false
theorem implPairs (f0 : Int) (neg : Bool) (s : ByteArray) (f3 : List Int) (hs : s.size ≤ 1099511627776) : ∀ (d i k : Nat), i + 2 * d = s.size → d < k → impl_isReNode.l0 k (i : Int) f0 neg s f3 = some (pairsB s d i)
  | 0, i, 0, _, hk => absurd hk (by omega)
  | 0, i, k + 1, hi, _ => by
    simp only [impl_isReNode.l0]
    rw [if_neg (by omega)]; rfl
  | d + 1, i, 0, _, hk => absurd hk (by omega)
  | d + 1, i, k + 1, hi, hk => by
    have w1 : wrap64 ((i : Int) + 1) = ((i + 1 : Nat) : Int) := by unfold wrap64; omega
    have w2 : wrap64 ((i : Int) + 2) = ((i + 2 : Nat) : Int) := by unfold wrap64; omega
    simp only [impl_isReNode.l0, pairsB]
    rw [w1, w2, if_pos (by omega), if_pos (by omega), if_pos (by omega), if_pos (by omega), implPairs f0 neg s f3 hs d (i + 2) k (by omega) (by omega)]
    split <;> rfl
theorem specPairs (f0 : Int) (neg : Bool) (s : ByteArray) (f3 : List Int) (hs : s.size ≤ 1099511627776) : ∀ (d i k : Nat), i + 2 * d = s.size → d < k → spec_l2pairs.l0 k (i : Int) f0 neg s f3 = some (pairsB s d i)
  | 0, i, 0, _, hk => absurd hk (by omega)
  | 0, i, k + 1, hi, _ => by
    have w1 : wrap64 ((i : Int) + 1) = ((i + 1 : Nat) : Int) := by unfold wrap64; omega
    simp only [spec_l2pairs.l0]
    rw [w1, if_neg (by omega)]; rfl
  | d + 1, i, 0, _, hk => absurd hk (by omega)
  | d + 1, i, k + 1, hi, hk => by
    have w1 : wrap64 ((i : Int) + 1) = ((i + 1 : Nat) : Int) := by unfold wrap64; omega
    have w2 : wrap64 ((i : Int) + 2) = ((i + 2 : Nat) : Int) := by unfold wrap64; omega
    simp only [spec_l2pairs.l0, pairsB]
    rw [w1, w2, if_pos (by omega), if_pos (by omega), if_pos (by omega), if_pos (by omega), specPairs f0 neg s f3 hs d (i + 2) k (by omega) (by omega)]
    split <;> rfl
theorem implNode_ev (x : S49) (hs : x.f2.size ≤ 1099511627776) : Ev (fun k => impl_isReNode.f k x.f0 x.f1 x.f2 x.f3) (nodeB x) := by
  obtain ⟨f0, neg, s, f3⟩ := x
  dsimp only at hs ⊢
  refine ⟨s.size + 10, fun k hk => ?_⟩
  obtain ⟨k, rfl⟩ : ∃ j, k = j + 5 := ⟨k - 5, by omega⟩
  have hj3 : ∀ b, impl_isReNode.j3 (k + 5) b f0 neg s f3 = if b = true then some false else impl_isReNode.l0 (k + 4) 0 f0 neg s f3 := fun b => by simp only [impl_isReNode.j3]
  have e0 : (s.toList != ([] : List UInt8)) = decide (s.size ≠ 0) := by
    by_cases c : s.size = 0
    · rw [(toList_nil s).mpr c]; simp [c]
    · rw [decide_eq_true c]; exact bne_iff_ne.mpr fun h => c ((toList_nil s).mp h)
  show impl_isReNode.f (k + 5) f0 neg s f3 = _
  unfold impl_isReNode.f nodeB
  dsimp only
  by_cases h0 : f0 = 0
  · rw [if_pos h0, if_pos h0]
    by_cases h2 : s.size % 2 = 0
    · rw [if_pos (by omega)]
      by_cases h3 : f3.length = 0
      · rw [if_neg (by omega)]
        by_cases h4 : s.size = 0
        · rw [if_pos ((toList_nil s).mpr h4), hj3]
          cases neg with
          | false => rw [Bool.not_false, if_pos rfl, if_neg (fun h => h.2.2 ⟨h4, rfl⟩)]
          | true =>
            rw [Bool.not_true, if_neg (by decide), if_pos ⟨h2, h3, fun h => absurd h.2 (by decide)⟩]
            exact implPairs f0 true s f3 hs (s.size / 2) 0 (k + 4) (by omega) (by omega)
        · rw [if_neg (fun h => h4 ((toList_nil s).mp h)), hj3, if_neg (by decide), if_pos ⟨h2, h3, fun h => h4 h.1⟩]
          exact implPairs f0 neg s f3 hs (s.size / 2) 0 (k + 4) (by omega) (by omega)
      · rw [if_pos (by omega), hj3, if_pos rfl, if_neg (fun h => h3 h.2.1)]
    · rw [if_neg (by omega), hj3, if_pos rfl, if_neg (fun h => h2 h.1)]
  · rw [if_neg h0, if_neg h0, e0]
    have hj0 : ∀ b, impl_isReNode.j0 (k + 5) b f0 neg s f3 = if b = true then some false else if f0 = 1 ∨ f0 = 2 then some (decide (f3.length = 0)) else if f0 = 3 ∨ f0 = 4 then some (decide (2 ≤ f3.length)) else if f0 = 5 ∨ f0 = 6 ∨ f0 = 7 then some (decide (f3.length = 1)) else some false := fun b => by
      have l0 : ((f3.length : Int) == 0) = decide (f3.length = 0) := by
        by_cases c : f3.length = 0 <;> simp [c]
      have l1 : ((f3.length : Int) == 1) = decide (f3.length = 1) := by
        by_cases c : f3.length = 1
        · simp [c]
        · rw [decide_eq_false c]; exact beq_eq_false_iff_ne.mpr fun h => c (by omega)
      have l2 : decide ((f3.length : Int) ≥ 2) = decide (2 ≤ f3.length) := by
        by_cases c : 2 ≤ f3.length
        · rw [decide_eq_true c]; exact decide_eq_true (by omega)
        · rw [decide_eq_false c]; exact decide_eq_false (by omega)
      simp only [impl_isReNode.j0, impl_isReNode.j1, impl_isReNode.j2, l0, l1, l2]
      cases b with
      | true => rfl
      | false =>
        simp only [Bool.false_eq_true, if_false]
        by_cases c1 : f0 = 1
        · subst c1; rfl
        by_cases c2 : f0 = 2
        · subst c2; rfl
        by_cases c3 : f0 = 3
        · subst c3; rfl
        by_cases c4 : f0 = 4
        · subst c4; rfl
        by_cases c5 : f0 = 5
        · subst c5; rfl
        by_cases c6 : f0 = 6
        · subst c6; rfl
        by_cases c7 : f0 = 7
        · subst c7; rfl
        simp [c1, c2, c3, c4, c5, c6, c7]
    cases neg with
    | true => rw [if_pos rfl, hj0, if_pos rfl, if_pos (.inl rfl)]
    | false =>
      rw [if_neg (by decide), hj0]
      by_cases c : s.size = 0
      · rw [decide_eq_false (show ¬ s.size ≠ 0 from fun h => h c), if_neg (by decide), if_neg (show ¬ (false = true ∨ s.size ≠ 0) from fun h => h.elim (by decide) (fun h => h c))]
        split
        · rfl
        · split
          · rfl
          · split <;> rfl
      · rw [decide_eq_true c, if_pos rfl, if_pos (.inr c)]
theorem specNode_ev (x : S49) (hs : x.f2.size ≤ 1099511627776) : Ev (fun k => spec_l2kidsOk.f k x.f0 x.f1 x.f2 x.f3) (nodeB x) := by
  obtain ⟨f0, neg, s, f3⟩ := x
  dsimp only at hs ⊢
  refine ⟨s.size + 10, fun k hk => ?_⟩
  obtain ⟨k, rfl⟩ : ∃ j, k = j + 5 := ⟨k - 5, by omega⟩
  have hj0 : ∀ b, spec_l2pairs.j0 (k + 5) b f0 neg s f3 = if b = true then some false else spec_l2pairs.l0 (k + 4) 0 f0 neg s f3 := fun b => by simp only [spec_l2pairs.j0]
  have e0 : (s.toList == ([] : List UInt8)) = decide (s.size = 0) := by
    by_cases c : s.size = 0
    · rw [(toList_nil s).mpr c]; simp [c]
    · rw [decide_eq_false c]; exact beq_eq_false_iff_ne.mpr fun h => c ((toList_nil s).mp h)
  show spec_l2kidsOk.f (k + 5) f0 neg s f3 = _
  unfold spec_l2kidsOk.f nodeB
  dsimp only
  by_cases h0 : f0 = 0
  · rw [if_pos h0, if_pos h0]
    by_cases h3 : f3.length = 0
    · rw [if_pos (by omega)]
      unfold spec_l2pairs.f
      by_cases h2 : s.size % 2 = 0
      · rw [if_neg (by omega)]
        by_cases h4 : s.size = 0
        · rw [if_pos (by omega), hj0]
          cases neg with
          | false => rw [Bool.not_false, if_pos rfl, if_neg (fun h => h.2.2 ⟨h4, rfl⟩)]; rfl
          | true =>
            rw [Bool.not_true, if_neg (by decide), if_pos ⟨h2, h3, fun h => absurd h.2 (by decide)⟩, show (0 : Int) = ((0 : Nat) : Int) from rfl, specPairs f0 true s f3 hs (s.size / 2) 0 (k + 4) (by omega) (by omega)]; rfl
        · rw [if_neg (by omega), hj0, if_neg (by decide), if_pos ⟨h2, h3, fun h => h4 h.1⟩, show (0 : Int) = ((0 : Nat) : Int) from rfl, specPairs f0 neg s f3 hs (s.size / 2) 0 (k + 4) (by omega) (by omega)]; rfl
      · rw [if_pos (by omega), hj0, if_pos rfl, if_neg (fun h => h2 h.1)]; rfl
    · rw [if_neg (by omega), if_neg (fun h => h3 h.2.1)]
  · rw [if_neg h0, if_neg h0]
    have l0 : ((f3.length : Int) = 0) ↔ (f3.length = 0) := by omega
    have l1 : ((f3.length : Int) = 1) ↔ (f3.length = 1) := by omega
    have l2 : ((f3.length : Int) ≥ 2) ↔ (2 ≤ f3.length) := by omega
    have fin : ∀ (p : Prop) [Decidable p], (if p then (if neg = true then some false else some (s.toList == ([] : List UInt8))) else some false) = some (if neg = true ∨ s.size ≠ 0 then false else decide p) := fun p _ => by
      rw [e0]
      cases neg <;> by_cases c : s.size = 0 <;> by_cases d : p <;> simp [c, d]
    have res : ∀ b, b = decide (f0 = 1 ∨ f0 = 2) → spec_l2kidsOk.j0 (k + 5) f0 b f0 neg s f3 = some (if neg = true ∨ s.size ≠ 0 then false else if f0 = 1 ∨ f0 = 2 then decide (f3.length = 0) else if f0 = 3 ∨ f0 = 4 then decide (2 ≤ f3.length) else if f0 = 5 ∨ f0 = 6 ∨ f0 = 7 then decide (f3.length = 1) else false) := fun b hb => by
      simp only [spec_l2kidsOk.j0, spec_l2kidsOk.j1, fin, l0, l1, l2, hb]
      by_cases c1 : f0 = 1
      · subst c1; rfl
      by_cases c2 : f0 = 2
      · subst c2; rfl
      by_cases c3 : f0 = 3
      · subst c3; rfl
      by_cases c4 : f0 = 4
      · subst c4; rfl
      by_cases c5 : f0 = 5
      · subst c5; rfl
      by_cases c6 : f0 = 6
      · subst c6; rfl
      by_cases c7 : f0 = 7
      · subst c7; rfl
      simp [c1, c2, c3, c4, c5, c6, c7]
    by_cases c1 : f0 = 1
    · rw [if_pos c1, res _ (by rw [c1]; rfl)]
    · rw [if_neg c1, res _ (by by_cases c2 : f0 = 2 <;> simp [c1, c2])]
def cnts (n : Nat) (D : List Int) : List Int := (List.range n).map fun (j : Nat) => (D.count (j : Int) : Int)
theorem cnts_len (n : Nat) (D : List Int) : (cnts n D).length = n := by simp [cnts]
theorem cnts_nil (n : Nat) : cnts n [] = List.replicate n 0 := by
  apply List.ext_getElem
  · simp [cnts]
  · intro i h1 h2
    simp [cnts]
theorem cnts_rd (n : Nat) (D : List Int) (q : Int) (h0 : 0 ≤ q) (h1 : q < n) : rd (cnts n D) q = (D.count q : Int) := by
  unfold rd cnts
  obtain ⟨m, rfl⟩ := Int.eq_ofNat_of_zero_le h0
  have hm : m < n := by omega
  rw [List.getD_eq_getElem?_getD, Int.toNat_natCast, List.getElem?_map, List.getElem?_range hm]; rfl
theorem cnts_set (n : Nat) (D : List Int) (q : Int) (h0 : 0 ≤ q) (h1 : q < n) : (cnts n D).set q.toNat ((D.count q : Int) + 1) = cnts n (D ++ [q]) := by
  obtain ⟨m, rfl⟩ := Int.eq_ofNat_of_zero_le h0
  have hm : m < n := by omega
  apply List.ext_getElem
  · simp [cnts]
  · intro i h1 h2
    rw [List.getElem_set]
    have hi : i < n := by simpa [cnts] using h2
    by_cases c : ((m : Int)).toNat = i
    · have c' : m = i := by omega
      rw [if_pos c]
      subst c'
      simp [cnts, List.count_append]
    · have c' : ¬ (m : Int) = (i : Int) := by omega
      rw [if_neg c]
      simp [cnts, List.count_append, List.count_singleton, c']
def chkB (n : Nat) (D : List Int) : Bool := (List.range (n - 1)).all fun (j : Nat) => decide (D.count (j : Int) = 1)
def kidB (i : Nat) (q : Int) : Bool := decide (0 ≤ q) && decide (q < (i : Int))
def resB (l : List S49) : Nat → Nat → List Int → Bool
  | 0, _, D => chkB l.length D
  | d + 1, i, D => nodeB (nodeAt l i) && ((nodeAt l i).f3.all (kidB i) && resB l d (i + 1) (D ++ (nodeAt l i).f3))
def okB (l : List S49) : Bool := decide (1 ≤ l.length) && (decide (l.length ≤ 200) && resB l l.length 0 [])
theorem resB_twice (l : List S49) (j : Nat) (hj : j < l.length - 1) : ∀ (d i : Nat) (D : List Int), 2 ≤ D.count (j : Int) → resB l d i D = false
  | 0, _, D, h => by
    simp only [resB, chkB]
    rw [List.all_eq_false]
    exact ⟨j, List.mem_range.mpr hj, by simp; omega⟩
  | d + 1, i, D, h => by
    simp only [resB]
    rw [resB_twice l j hj d (i + 1) _ (by rw [List.count_append]; omega), Bool.and_false, Bool.and_false]
structure Fits (l : List S49) : Prop where
  kids : ∀ n, n < l.length → (nodeAt l n).f3.length ≤ 1048576
  set : ∀ n, n < l.length → (nodeAt l n).f2.size ≤ 1048576
end Go.Proofs.YtlakdfbfkbndiaaDoor.Q
namespace Go.Proofs.YtlakdfbfkbndiaaDoor.Q
open Go.RowKit Go.Proofs.YtlakdfbfkbndiaaDoor.Re Go.Proofs.YtlakdfbfkbndiaaDoorW.PrintWords Go.Proofs.YtlakdfbfkbndiaaDoorW.PrintLast Go.Proofs.YtlakdfbfkbndiaaDoorW.PrintMore
section
variable {l : List S49}
theorem between_eq (q a b : Int) : impl_between.f q a b = some (decide (a ≤ q) && decide (q ≤ b)) := by
  unfold impl_between.f
  by_cases h : q ≥ a
  · rw [if_pos h, decide_eq_true (show a ≤ q from h), Bool.true_and]
  · rw [if_neg h, decide_eq_false (show ¬ a ≤ q from h), Bool.false_and]
theorem drop_at (ks : List Int) (p : Nat) (hp : p < ks.length) : ks.drop p = rd ks (p : Int) :: ks.drop (p + 1) := by
  unfold rd
  rw [Int.toNat_natCast, List.drop_eq_getElem_cons hp, List.getD_eq_getElem?_getD, List.getElem?_eq_getElem hp]; rfl
theorem implOk_l1 (hl : l.length ≤ 200) (i : Nat) (hi : i < l.length) (ks : List Int) (hks : ks.length ≤ 1048576) : ∀ (e p : Nat), p + e = ks.length → ∀ (k : Nat) (D : List Int), D.length ≤ 1048576 * i + p →
    impl_ReOk.l1 (k + e + 1) l (cnts l.length D) (i : Int) l (l.length : Int) (i : Int) ks (ks.length : Int) (p : Int) =
      if (ks.drop p).all (kidB i) = true then impl_ReOk.l0 k l (cnts l.length (D ++ ks.drop p)) l (l.length : Int) ((i + 1 : Nat) : Int) else some false
  | 0, p, hp, k, D, hD => by
    have wi : wrap64 ((i : Int) + 1) = ((i + 1 : Nat) : Int) := by unfold wrap64; omega
    simp only [impl_ReOk.l1]
    rw [if_neg (by omega), wi, List.drop_eq_nil_of_le (by omega), List.append_nil]
    rfl
  | e + 1, p, hp, k, D, hD => by
    have hlt : p < ks.length := by omega
    have wp : wrap64 ((p : Int) + 1) = ((p + 1 : Nat) : Int) := by unfold wrap64; omega
    have wi : wrap64 ((i : Int) - 1) = (i : Int) - 1 := by unfold wrap64; omega
    have ih := implOk_l1 hl i hi ks hks e (p + 1) (by omega) k
    have e1 : k + (e + 1) + 1 = (k + e + 1) + 1 := rfl
    rw [e1]
    generalize k + e + 1 = K at ih ⊢
    simp only [impl_ReOk.l1]
    rw [if_pos (by omega), if_pos (by omega), if_pos (by omega), between_eq, Option.bind_some, wi, wp, drop_at ks p hlt]
    generalize rd ks (p : Int) = q
    by_cases hq : 0 ≤ q ∧ q < (i : Int)
    · have hb : (decide (0 ≤ q) && decide (q ≤ (i : Int) - 1)) = true := by rw [decide_eq_true hq.1, decide_eq_true (show q ≤ (i : Int) - 1 by omega)]; rfl
      have hk : kidB i q = true := by unfold kidB; rw [decide_eq_true hq.1, decide_eq_true hq.2]; rfl
      have hc : D.count q ≤ D.length := List.count_le_length
      have wc : wrap64 ((D.count q : Int) + 1) = (D.count q : Int) + 1 := by unfold wrap64; omega
      rw [hb, if_pos rfl, if_pos hq.1, if_pos (by rw [cnts_len]; omega), cnts_rd _ _ _ hq.1 (by omega), wc, cnts_set _ _ _ hq.1 (by omega),
        ih (D ++ [q]) (by rw [List.length_append, List.length_singleton]; omega), List.all_cons, hk, Bool.true_and, List.append_assoc]
      rfl
    · have hb : (decide (0 ≤ q) && decide (q ≤ (i : Int) - 1)) = false := by
        by_cases c : 0 ≤ q
        · rw [decide_eq_false (show ¬ q ≤ (i : Int) - 1 by omega), Bool.and_false]
        · rw [decide_eq_false c, Bool.false_and]
      have hk : kidB i q = false := by
        unfold kidB
        by_cases c : 0 ≤ q
        · rw [decide_eq_false (show ¬ q < (i : Int) by omega), Bool.and_false]
        · rw [decide_eq_false c, Bool.false_and]
      rw [hb, if_neg (by decide), List.all_cons, hk, Bool.false_and, if_neg (by decide)]
theorem rdn (l : List S49) (i : Nat) : rd_T49 l (i : Int) = nodeAt l i := rfl
theorem take_cnts (n : Nat) (D : List Int) : ((cnts n D).take (n - 1)).any (fun x => x != 1) = !chkB n D := by
  unfold cnts chkB
  rw [← List.map_take, List.any_map, List.take_range, show min (n - 1) n = n - 1 by omega, List.not_all_eq_any_not]
  refine congrArg (fun f => List.any (List.range (n - 1)) f) (funext fun j => ?_)
  show ((D.count (j : Int) : Int) != 1) = !decide (D.count (j : Int) = 1)
  by_cases c : D.count (j : Int) = 1
  · rw [c]; rfl
  · rw [decide_eq_false c]
    exact bne_iff_ne.mpr fun h => c (by omega)
theorem implOk_l0 (hF : Fits l) (h1 : 1 ≤ l.length) (hl : l.length ≤ 200) : ∀ (d i : Nat) (D : List Int), i + d = l.length → D.length ≤ 1048576 * i → Ev (fun k => impl_ReOk.l0 k l (cnts l.length D) l (l.length : Int) (i : Int)) (resB l d i D) := by
  intro d
  induction d with
  | zero =>
    intro i D hi hD
    refine Ev.succ (Ev.mk fun k => ?_)
    have wl : wrap64 ((l.length : Int) - 1) = ((l.length - 1 : Nat) : Int) := by unfold wrap64; omega
    simp only [impl_ReOk.l0]
    rw [if_neg (by omega), wl, if_pos (by omega), if_pos (by rw [cnts_len]; omega), Int.toNat_natCast]
    unfold slices_ContainsFunc_int_int.f
    rw [if_pos rfl, Option.bind_some, take_cnts, Bool.not_not]
    rfl
  | succ d ih =>
    intro i D hi hD
    have hlt : i < l.length := by omega
    have hks := hF.kids i hlt
    have hn := implNode_ev (nodeAt l i) (by have := hF.set i hlt; omega)
    refine Ev.succ (Ev.congr (Ev.bind hn (g := fun k t => if t = true then (impl_ReOk.l1 k l (cnts l.length D) (i : Int) l (l.length : Int) (i : Int) (nodeAt l i).f3 ((nodeAt l i).f3.length : Int) 0) else (some false)) ?_) (fun k => by
      simp only [impl_ReOk.l0]
      rw [if_pos (show (i : Int) < (l.length : Int) by omega), if_pos (Int.natCast_nonneg i), if_pos (show (i : Int) < (l.length : Int) by omega), rdn]))
    simp only [resB]
    cases nodeB (nodeAt l i) with
    | false => exact Ev.mk fun k => rfl
    | true =>
      rw [Bool.true_and]
      have hs : ∀ k, impl_ReOk.l1 (k + (nodeAt l i).f3.length + 1) l (cnts l.length D) (i : Int) l (l.length : Int) (i : Int) (nodeAt l i).f3 ((nodeAt l i).f3.length : Int) 0 = if (nodeAt l i).f3.all (kidB i) = true then impl_ReOk.l0 k l (cnts l.length (D ++ (nodeAt l i).f3)) l (l.length : Int) ((i + 1 : Nat) : Int) else some false := fun k =>
        implOk_l1 hl i hlt (nodeAt l i).f3 hks (nodeAt l i).f3.length 0 (by omega) k D (by omega)
      refine Ev.add ((nodeAt l i).f3.length + 1) (Ev.congr (f := fun k => if (nodeAt l i).f3.all (kidB i) = true then impl_ReOk.l0 k l (cnts l.length (D ++ (nodeAt l i).f3)) l (l.length : Int) ((i + 1 : Nat) : Int) else some false) ?_ (fun k => by
        show (if true = true then _ else _) = _
        rw [if_pos rfl, ← Nat.add_assoc]; exact hs k))
      cases c : (nodeAt l i).f3.all (kidB i) with
      | false => exact Ev.mk fun k => rfl
      | true =>
        rw [Bool.true_and]
        exact ih (i + 1) (D ++ (nodeAt l i).f3) (by omega) (by rw [List.length_append]; omega)
theorem implOk_ev (hF : Fits l) : Ev (fun k => impl_ReOk.f k l) (okB l) := by
  unfold okB
  by_cases h1 : 1 ≤ l.length
  · by_cases hl : l.length ≤ 200
    · rw [decide_eq_true h1, decide_eq_true hl, Bool.true_and, Bool.true_and]
      refine Ev.congr (implOk_l0 hF h1 hl l.length 0 [] (by omega) (by simp)) fun k => ?_
      unfold impl_ReOk.f
      rw [between_eq, Option.bind_some, decide_eq_true (show (1 : Int) ≤ (l.length : Int) by omega), decide_eq_true (show (l.length : Int) ≤ 200 by omega)]
      rw [Bool.true_and, if_pos rfl, if_pos (Int.natCast_nonneg _), Int.toNat_natCast, if_pos (by omega), cnts_nil]
      rfl
    · refine Ev.mk fun k => ?_
      show impl_ReOk.f k l = _
      unfold impl_ReOk.f
      rw [between_eq, Option.bind_some, decide_eq_false (show ¬ (l.length : Int) ≤ 200 by omega), Bool.and_false, if_neg (by decide), decide_eq_false hl, Bool.false_and, Bool.and_false]
  · refine Ev.mk fun k => ?_
    show impl_ReOk.f k l = _
    unfold impl_ReOk.f
    rw [between_eq, Option.bind_some, decide_eq_false (show ¬ (1 : Int) ≤ (l.length : Int) by omega), Bool.false_and, if_neg (by decide), decide_eq_false h1, Bool.false_and]
theorem specOk_l1 (hl : l.length ≤ 200) (i : Nat) (hi : i < l.length) (r : Bool) : ∀ (e p : Nat), p + e = (nodeAt l i).f3.length → (nodeAt l i).f3.length ≤ 1048576 → ∀ (D : List Int), D.length ≤ 1048576 * i + p →
    (((nodeAt l i).f3.drop p).all (kidB i) = true → Ev (fun k => spec_ReOk.l0 k l (cnts l.length (D ++ (nodeAt l i).f3.drop p)) ((i + 1 : Nat) : Int)) r) → (((nodeAt l i).f3.drop p).all (kidB i) = false → r = false) →
    (∀ q : Int, 0 ≤ q → q < (i : Int) → 2 ≤ (D ++ (nodeAt l i).f3.drop p).count q → r = false) →
    Ev (fun k => spec_ReOk.l1 k l (cnts l.length D) (i : Int) (p : Int)) r
  | 0, p, hp, hks, D, hD, hgo, hno, htw => by
    have wi : wrap64 ((i : Int) + 1) = ((i + 1 : Nat) : Int) := by unfold wrap64; omega
    rw [List.drop_eq_nil_of_le (by omega), List.append_nil] at hgo
    refine Ev.succ (Ev.congr (hgo rfl) fun k => ?_)
    simp only [spec_ReOk.l1]
    rw [if_pos (Int.natCast_nonneg i), if_pos (show (i : Int) < (l.length : Int) by omega), rdn, if_neg (by omega), wi]
  | e + 1, p, hp, hks, D, hD, hgo, hno, htw => by
    have hlt : p < (nodeAt l i).f3.length := by omega
    have wp : wrap64 ((p : Int) + 1) = ((p + 1 : Nat) : Int) := by unfold wrap64; omega
    have ih := specOk_l1 hl i hi r e (p + 1) (by omega) hks
    have hu : ∀ k, spec_ReOk.l1 (k + 1) l (cnts l.length D) (i : Int) (p : Int) = if rd (nodeAt l i).f3 (p : Int) < 0 then some false else if rd (nodeAt l i).f3 (p : Int) ≥ (i : Int) then some false else if 0 ≤ rd (nodeAt l i).f3 (p : Int) then (if rd (nodeAt l i).f3 (p : Int) < ((cnts l.length D).length : Int) then (if rd (cnts l.length D) (rd (nodeAt l i).f3 (p : Int)) > 0 then some false else spec_ReOk.l1 k l ((cnts l.length D).set (rd (nodeAt l i).f3 (p : Int)).toNat (wrap64 (rd (cnts l.length D) (rd (nodeAt l i).f3 (p : Int)) + 1))) (i : Int) ((p + 1 : Nat) : Int)) else none) else none := fun k => by
      conv => lhs; simp only [spec_ReOk.l1]
      rw [if_pos (Int.natCast_nonneg i), if_pos (show (i : Int) < (l.length : Int) by omega), rdn, if_pos (show (p : Int) < ((nodeAt l i).f3.length : Int) by omega), if_pos (Int.natCast_nonneg p), wp]
    rw [drop_at _ p hlt] at hgo hno htw
    generalize rd (nodeAt l i).f3 (p : Int) = q at hu hgo hno htw
    by_cases hq : 0 ≤ q ∧ q < (i : Int)
    · have hk : kidB i q = true := by unfold kidB; rw [decide_eq_true hq.1, decide_eq_true hq.2]; rfl
      have hc : D.count q ≤ D.length := List.count_le_length
      have wc : wrap64 ((D.count q : Int) + 1) = (D.count q : Int) + 1 := by unfold wrap64; omega
      rw [List.all_cons, hk, Bool.true_and] at hgo hno
      by_cases hz : (D.count q : Int) > 0
      · have hr : r = false := htw q hq.1 hq.2 (by rw [List.count_append, List.count_cons_self]; omega)
        refine Ev.succ (Ev.mk fun k => ?_)
        rw [hu k, if_neg (by omega), if_neg (by omega), if_pos hq.1, if_pos (by rw [cnts_len]; omega), cnts_rd _ _ _ hq.1 (by omega), if_pos hz, hr]
      · have happ : D ++ q :: (nodeAt l i).f3.drop (p + 1) = (D ++ [q]) ++ (nodeAt l i).f3.drop (p + 1) := by rw [List.append_assoc]; rfl
        rw [happ] at hgo htw
        refine Ev.succ (Ev.congr (ih (D ++ [q]) (by rw [List.length_append, List.length_singleton]; omega) hgo hno htw) fun k => ?_)
        rw [hu k, if_neg (by omega), if_neg (by omega), if_pos hq.1, if_pos (by rw [cnts_len]; omega), cnts_rd _ _ _ hq.1 (by omega), if_neg hz, wc, cnts_set _ _ _ hq.1 (by omega)]
    · have hk : kidB i q = false := by
        unfold kidB
        by_cases c : 0 ≤ q
        · rw [decide_eq_false (show ¬ q < (i : Int) by omega), Bool.and_false]
        · rw [decide_eq_false c, Bool.false_and]
      rw [List.all_cons, hk, Bool.false_and] at hno
      refine Ev.succ (Ev.mk fun k => ?_)
      rw [hu k, hno rfl]
      by_cases c : q < 0
      · rw [if_pos c]
      · rw [if_neg c, if_pos (by omega)]
theorem specOk_l2 (hl : l.length ≤ 200) (D : List Int) : ∀ (d j k : Nat), j + d = l.length - 1 → 1 ≤ l.length → d < k → spec_ReOk.l2 k l (cnts l.length D) (j : Int) = some ((List.range' j d).all fun (j : Nat) => decide (D.count (j : Int) = 1))
  | 0, j, 0, _, _, hk => absurd hk (by omega)
  | 0, j, k + 1, hj, h1, _ => by
    have wj : wrap64 ((j : Int) + 1) = ((j + 1 : Nat) : Int) := by unfold wrap64; omega
    simp only [spec_ReOk.l2]
    rw [wj, if_neg (by omega)]
    rfl
  | d + 1, j, 0, _, _, hk => absurd hk (by omega)
  | d + 1, j, k + 1, hj, h1, hk => by
    have wj : wrap64 ((j : Int) + 1) = ((j + 1 : Nat) : Int) := by unfold wrap64; omega
    simp only [spec_ReOk.l2]
    rw [wj, if_pos (by omega), if_pos (by omega), if_pos (by rw [cnts_len]; omega), cnts_rd _ _ _ (Int.natCast_nonneg j) (by omega), specOk_l2 hl D d (j + 1) k (by omega) h1 (by omega), List.range'_succ, List.all_cons]
    by_cases c : D.count (j : Int) = 1
    · rw [if_pos (by omega), decide_eq_true c, Bool.true_and]
    · rw [if_neg (by omega), decide_eq_false c, Bool.false_and]
theorem specOk_l0 (hF : Fits l) (h1 : 1 ≤ l.length) (hl : l.length ≤ 200) : ∀ (d i : Nat) (D : List Int), i + d = l.length → D.length ≤ 1048576 * i → Ev (fun k => spec_ReOk.l0 k l (cnts l.length D) (i : Int)) (resB l d i D) := by
  intro d
  induction d with
  | zero =>
    intro i D hi hD
    refine Ev.succ ⟨l.length + 1, fun k hk => ?_⟩
    show spec_ReOk.l0 (k + 1) l (cnts l.length D) (i : Int) = _
    have h2 := specOk_l2 hl D (l.length - 1) 0 k (by omega) h1 (by omega)
    conv => lhs; simp only [spec_ReOk.l0]
    rw [if_neg (by omega)]
    refine h2.trans ?_
    rw [← List.range_eq_range']; rfl
  | succ d ih =>
    intro i D hi hD
    have hlt : i < l.length := by omega
    have hks := hF.kids i hlt
    have hn := specNode_ev (nodeAt l i) (by have := hF.set i hlt; omega)
    refine Ev.succ (Ev.congr (Ev.bind hn (g := fun k t => if t = true then (spec_ReOk.l1 k l (cnts l.length D) (i : Int) 0) else (some false)) ?_) (fun k => by
      simp only [spec_ReOk.l0]
      rw [if_pos (show (i : Int) < (l.length : Int) by omega), if_pos (Int.natCast_nonneg i), rdn]))
    simp only [resB]
    cases nodeB (nodeAt l i) with
    | false => exact Ev.mk fun k => rfl
    | true =>
      rw [Bool.true_and]
      refine Ev.congr (f := fun k => spec_ReOk.l1 k l (cnts l.length D) (i : Int) 0) ?_ (fun k => if_pos rfl)
      refine specOk_l1 hl i hlt _ (nodeAt l i).f3.length 0 (by omega) hks D (by omega) ?_ ?_ ?_
      · intro hall
        rw [List.drop_zero] at hall ⊢
        rw [hall, Bool.true_and]
        exact ih (i + 1) (D ++ (nodeAt l i).f3) (by omega) (by rw [List.length_append]; omega)
      · intro hall
        rw [List.drop_zero] at hall
        rw [hall, Bool.false_and]
      · intro q h0 hq h2
        rw [List.drop_zero] at h2
        obtain ⟨m, rfl⟩ := Int.eq_ofNat_of_zero_le h0
        rw [resB_twice l m (by omega) d (i + 1) _ h2, Bool.and_false]
theorem specOk_ev (hF : Fits l) : Ev (fun k => spec_ReOk.f k l) (okB l) := by
  unfold okB
  by_cases h1 : 1 ≤ l.length
  · by_cases hl : l.length ≤ 200
    · rw [decide_eq_true h1, decide_eq_true hl, Bool.true_and, Bool.true_and]
      refine Ev.succ (Ev.congr (specOk_l0 hF h1 hl l.length 0 [] (by omega) (by simp)) fun k => ?_)
      unfold spec_ReOk.f
      rw [if_neg (by omega), decide_eq_false (show ¬ (l.length : Int) > 200 by omega)]
      simp only [spec_ReOk.j0]
      rw [if_neg (by decide), if_pos (Int.natCast_nonneg _), Int.toNat_natCast, if_pos (by omega), cnts_nil]
      rfl
    · refine Ev.succ (Ev.mk fun k => ?_)
      show spec_ReOk.f (k + 1) l = _
      unfold spec_ReOk.f
      rw [if_neg (by omega), decide_eq_true (show (l.length : Int) > 200 by omega), decide_eq_false hl, Bool.false_and, Bool.and_false]
      simp only [spec_ReOk.j0, if_true]
  · refine Ev.succ (Ev.mk fun k => ?_)
    show spec_ReOk.f (k + 1) l = _
    unfold spec_ReOk.f
    rw [if_pos (by omega), decide_eq_false h1, Bool.false_and]
    simp only [spec_ReOk.j0, if_true]
def flatN (l : List S49) : Nat → List Int
  | 0 => []
  | m + 1 => flatN l m ++ (nodeAt l m).f3
theorem resB_all : ∀ (d i : Nat), i + d = l.length → resB l d i (flatN l i) = true → (∀ n, i ≤ n → n < l.length → nodeB (nodeAt l n) = true ∧ (nodeAt l n).f3.all (kidB n) = true) ∧ chkB l.length (flatN l l.length) = true
  | 0, i, hi, h => by
    have e : i = l.length := by omega
    subst e
    exact ⟨fun n h1 h2 => absurd h2 (by omega), h⟩
  | d + 1, i, hi, h => by
    simp only [resB, Bool.and_eq_true] at h
    obtain ⟨h1, h2, h3⟩ := h
    obtain ⟨g1, g2⟩ := resB_all d (i + 1) (by omega) h3
    refine ⟨fun n hn hn2 => ?_, g2⟩
    by_cases c : n = i
    · subst c; exact ⟨h1, h2⟩
    · exact g1 n (by omega) hn2
theorem okB_all (h : okB l = true) : (1 ≤ l.length ∧ l.length ≤ 200) ∧ (∀ n, n < l.length → nodeB (nodeAt l n) = true ∧ (nodeAt l n).f3.all (kidB n) = true) ∧ chkB l.length (flatN l l.length) = true := by
  unfold okB at h
  simp only [Bool.and_eq_true, decide_eq_true_eq] at h
  obtain ⟨g1, g2⟩ := resB_all l.length 0 (by omega) h.2.2
  exact ⟨⟨h.1, h.2.1⟩, fun n hn => g1 n (by omega) hn, g2⟩
theorem nodeB_told {x : S49} (h : nodeB x = true) : (0 ≤ x.f0 ∧ x.f0 ≤ 7) ∧ (5 ≤ x.f0 → x.f3.length = 1) ∧ (x.f0 = 3 → 2 ≤ x.f3.length) ∧ (x.f0 = 0 → x.f2.size % 2 = 0) := by
  unfold nodeB at h
  by_cases h0 : x.f0 = 0
  · rw [if_pos h0] at h
    by_cases c : x.f2.size % 2 = 0 ∧ x.f3.length = 0 ∧ ¬ (x.f2.size = 0 ∧ x.f1 = false)
    · exact ⟨⟨by omega, by omega⟩, fun _ => by omega, fun _ => by omega, fun _ => c.1⟩
    · rw [if_neg c] at h; cases h
  · rw [if_neg h0] at h
    by_cases c : x.f1 = true ∨ x.f2.size ≠ 0
    · rw [if_pos c] at h; cases h
    · rw [if_neg c] at h
      by_cases c1 : x.f0 = 1 ∨ x.f0 = 2
      · exact ⟨⟨by omega, by omega⟩, fun _ => by omega, fun _ => by omega, fun _ => by omega⟩
      · rw [if_neg c1] at h
        by_cases c2 : x.f0 = 3 ∨ x.f0 = 4
        · rw [if_pos c2, decide_eq_true_eq] at h
          exact ⟨⟨by omega, by omega⟩, fun _ => by omega, fun _ => h, fun _ => by omega⟩
        · rw [if_neg c2] at h
          by_cases c3 : x.f0 = 5 ∨ x.f0 = 6 ∨ x.f0 = 7
          · rw [if_pos c3, decide_eq_true_eq] at h
            exact ⟨⟨by omega, by omega⟩, fun _ => h, fun _ => by omega, fun _ => by omega⟩
          · rw [if_neg c3] at h; cases h
theorem kidB_told {n : Nat} {q : Int} {ks : List Int} (h : ks.all (kidB n) = true) (hq : q ∈ ks) : 0 ≤ q ∧ q < (n : Int) := by
  have := List.all_eq_true.mp h q hq
  unfold kidB at this
  simpa using this
theorem okB_valid (hF : Fits l) (h : okB l = true) : Valid l := by
  obtain ⟨⟨h1, h2⟩, h3, _⟩ := okB_all h
  refine ⟨h1, h2, fun n hn => (nodeB_told (h3 n hn).1).1, fun n hn k hk => kidB_told (h3 n hn).2 hk, fun n hn h5 => ?_, fun n hn hf => ?_, fun n hn hf => (nodeB_told (h3 n hn).1).2.2.2 hf, fun n hn => by have := hF.set n hn; omega⟩
  · exact List.length_eq_one_iff.mp ((nodeB_told (h3 n hn).1).2.1 h5)
  · intro e
    have := (nodeB_told (h3 n hn).1).2.2.1 hf
    rw [e] at this
    exact absurd this (by decide)
end
end Go.Proofs.YtlakdfbfkbndiaaDoor.Q
namespace Go.Proofs.YtlakdfbfkbndiaaDoor.Q
open Go.RowKit Go.Proofs.YtlakdfbfkbndiaaDoor.Re Go.Proofs.YtlakdfbfkbndiaaDoorW.PrintWords Go.Proofs.YtlakdfbfkbndiaaDoorW.PrintLast Go.Proofs.YtlakdfbfkbndiaaDoorW.PrintMore
theorem okV_iff {l : List S49} (hF : Fits l) : okV l ↔ okB l = true := by
  obtain ⟨K, hK⟩ := implOk_ev hF
  exact (ok_one (hK K (Nat.le_refl _))).symm
theorem sure {l : List S49} (hF : Fits l) : sureL l := by
  obtain ⟨K, hK⟩ := implOk_ev hF
  exact ⟨⟨K, _, hK K (Nat.le_refl _)⟩, fun h => okB_valid hF ((okV_iff hF).mp h)⟩
def conv (x : S56) : S49 := ⟨x.f0, x.f1, x.f2, x.f3⟩
end Go.Proofs.YtlakdfbfkbndiaaDoor.Q
namespace Go.Proofs.YtlakdfbfkbndiaaDoor.Q
open Go.RowKit Go.Proofs.YtlakdfbfkbndiaaDoor.Re Go.Proofs.YtlakdfbfkbndiaaDoorW.PrintWords Go.Proofs.YtlakdfbfkbndiaaDoorW.PrintLast Go.Proofs.YtlakdfbfkbndiaaDoorW.PrintMore
section
variable (l0 : List S56)
def Given (l0 : List S56) : Prop := l0.length ≤ 9223372036854775807 ∧ ∀ n, n < l0.length → (nodeAt (l0.map conv) n).f2.size ≤ 9223372036854775807 ∧ (nodeAt (l0.map conv) n).f3.length ≤ 9223372036854775807
end
end Go.Proofs.YtlakdfbfkbndiaaDoor.Q
namespace Go.Proofs.YtlakdfbfkbndiaaDoor.Q
open Go.RowKit Go.Proofs.YtlakdfbfkbndiaaDoor.Re Go.Proofs.YtlakdfbfkbndiaaDoorW.PrintWords Go.Proofs.YtlakdfbfkbndiaaDoorW.PrintLast Go.Proofs.YtlakdfbfkbndiaaDoorW.PrintMore
section
variable {l : List S49}
noncomputable def findA (l : List S49) (s : ByteArray) : Int × Int := if okB l = true ∧ s.size ≤ 500 then findR l s else (-1, 0)
theorem implFind_eq (hF : Fits l) (s : ByteArray) : impl_ReFind.f l s = some (findA l s) := by
  unfold impl_ReFind.f findA
  rw [if_pos (sure hF)]
  by_cases c : okB l = true ∧ s.size ≤ 500
  · rw [if_pos c, if_pos ⟨(okV_iff hF).mpr c.1, c.2⟩]
  · rw [if_neg c, if_neg fun h => c ⟨(okV_iff hF).mp h.1, h.2⟩]
end
end Go.Proofs.YtlakdfbfkbndiaaDoor.Q
namespace Go.Proofs.YtlakdfbfkbndiaaDoor.Q
open Go Go.ChangeShapes Go.WideShapes Go.Deep Go.Proofs.YtlakdfbfkbndiaaDoorW.PrintWords
def okInt (k : IntKind) (n : Int) : Prop := (Lit.int k n).wf = true
def okStr (s : ByteArray) : Prop := s.size ≤ maxLen
def okBool (_ : Bool) : Prop := True
end Go.Proofs.YtlakdfbfkbndiaaDoor.Q
namespace Go.Proofs.YtlakdfbfkbndiaaDoor.Pure
open Go Go.RowKit Go.Proofs.YtlakdfbfkbndiaaDoor.Q Go.Proofs.YtlakdfbfkbndiaaDoorW.PrintWords Go.Proofs.YtlakdfbfkbndiaaDoorW.PrintLast Go.Proofs.YtlakdfbfkbndiaaDoorW.PrintMore
def NodesOk (l0 : List S56) : Prop := ∀ a ∈ l0, okInt .i64 a.f0 ∧ okBool a.f1 ∧ okStr a.f2 ∧ (a.f3.length ≤ maxLen ∧ ∀ b_ ∈ a.f3, okInt .i64 b_)
theorem given (l0 : List S56) (h1 : l0.length ≤ maxLen) (h2 : NodesOk l0) : Given l0 := by
  refine ⟨h1, fun n hn => ?_⟩
  have e : nodeAt (l0.map conv) n = conv (l0[n]'hn) := by
    unfold nodeAt rd_T49
    rw [Int.toNat_natCast, List.getD_eq_getElem?_getD, List.getElem?_map, List.getElem?_eq_getElem hn]; rfl
  rw [e]
  obtain ⟨_, _, h3, h4, _⟩ := h2 _ (List.getElem_mem hn)
  exact ⟨h3, h4⟩
end Go.Proofs.YtlakdfbfkbndiaaDoor.Pure
set_option linter.unusedVariables false
namespace Go.Proofs.YtlakdfbfkbndiaaDoor.Q
open Go.RowKit Go.Proofs.YtlakdfbfkbndiaaDoor.Re Go.Proofs.YtlakdfbfkbndiaaDoorW.PrintWords Go.Proofs.YtlakdfbfkbndiaaDoorW.PrintLast Go.Proofs.YtlakdfbfkbndiaaDoorW.PrintMore
def Tch (w W : World) (S : Nat → Prop) : Prop := w.heap.size ≤ W.heap.size ∧ ∀ j, j < w.heap.size → (¬ S j → W.heap[j]? = w.heap[j]?) ∧ ∀ cur e, w.heap[j]? = some (.cells cur e (0, 0)) → ∃ cur', W.heap[j]? = some (.cells cur' e (0, 0)) ∧ cur'.size = cur.size
end Go.Proofs.YtlakdfbfkbndiaaDoor.Q
set_option linter.unusedVariables false
namespace Go.Proofs.YtlakdfbfkbndiaaDoor.Q
open Go.RowKit Go.Proofs.YtlakdfbfkbndiaaDoor.Re Go.Proofs.YtlakdfbfkbndiaaDoorW.PrintWords Go.Proofs.YtlakdfbfkbndiaaDoorW.PrintLast Go.Proofs.YtlakdfbfkbndiaaDoorW.PrintMore
section
variable {w W V : World} {S S' : Nat → Prop}
theorem Tch.refl (w : World) (S : Nat → Prop) : Tch w w S := ⟨Nat.le_refl _, fun j _ => ⟨fun _ => rfl, fun cur _ h => ⟨cur, h, rfl⟩⟩⟩
theorem Tch.trans (h : Tch w W S) (h' : Tch W V S') (hs : ∀ j, S' j → S j) : Tch w V S := ⟨Nat.le_trans h.1 h'.1, fun j hj => by
  obtain ⟨h1, h2⟩ := h.2 j hj
  obtain ⟨h3, h4⟩ := h'.2 j (Nat.lt_of_lt_of_le hj h.1)
  refine ⟨fun hn => (h3 fun h => hn (hs j h)).trans (h1 hn), fun cur e hc => ?_⟩
  obtain ⟨cur1, h5, h6⟩ := h2 cur e hc
  obtain ⟨cur2, h7, h8⟩ := h4 cur1 e h5
  exact ⟨cur2, h7, h8.trans h6⟩⟩
theorem Tch.below (hb : Below w.heap.size w W) (S : Nat → Prop) : Tch w W S := ⟨hb.size, fun j hj => ⟨fun _ => hb.block j hj, fun cur e h => ⟨cur, (hb.block j hj).trans h, rfl⟩⟩⟩
theorem Tch.set {b t : Nat} {cur : Array Value} (h : w.heap[b]? = some (.cells cur t (0, 0))) (hS : S b) (i : Nat) (u : Value) : Tch w (w.setCell ⟨b, i, none⟩ u) S := ⟨by simp [World.setCell], fun j hj => by
  by_cases hjb : j = b
  · subst hjb
    refine ⟨fun hn => absurd hS hn, fun cur' e hc => ?_⟩
    rw [h] at hc
    simp only [Option.some.injEq, Obj.cells.injEq] at hc
    obtain ⟨rfl, rfl, -⟩ := hc
    exact ⟨_, blk_set h i u, by simp⟩
  · have e := Below.heap_setCell w ⟨b, i, none⟩ u j hjb
    exact ⟨fun _ => e, fun cur' t hc => ⟨cur', e.trans hc, rfl⟩⟩⟩
theorem Tch.kept (h : Tch w W S) : Kept w W S := ⟨h.1, fun i hi hn => (h.2 i hi).1 hn⟩
end
end Go.Proofs.YtlakdfbfkbndiaaDoor.Q
set_option linter.unusedVariables false
namespace Go.Proofs.YtlakdfbfkbndiaaDoor.Q
open Go.RowKit Go.Proofs.YtlakdfbfkbndiaaDoor.Re Go.Proofs.YtlakdfbfkbndiaaDoorW.PrintWords Go.Proofs.YtlakdfbfkbndiaaDoorW.PrintLast Go.Proofs.YtlakdfbfkbndiaaDoorW.PrintMore
theorem cell_of {w : World} {b t i : Nat} {cur : Array Value} (h : w.heap[b]? = some (.cells cur t (0, 0))) (hi : i < cur.size) : ∃ u, w.cell? ⟨b, i, none⟩ = some u ∧ w.frozen? ⟨b, i, none⟩ = false :=
  ⟨cur[i], by simp [World.cell?, h, hi], by simp [World.frozen?, h]⟩
def NInv (P0 : Nat → Prop) (base g : Nat) (l : List S49) (W : World) : Prop := ∃ cells, W.heap[g]? = some (.cells cells 49 (0, 0)) ∧ ∀ i, i < l.length → i * 4 + 4 ≤ cells.size ∧ ∃ A c, cells[i * 4 + 3]? = some (.slice A (rd_T49 l i).f3.length c) ∧
  ((rd_T49 l i).f3.length = 0 ∨ ∃ b cur, A = some ⟨b, 0, none⟩ ∧ base ≤ b ∧ b ≠ g ∧ P0 b ∧ W.heap[b]? = some (.cells cur 3 (0, 0)) ∧ (rd_T49 l i).f3.length ≤ cur.size)
end Go.Proofs.YtlakdfbfkbndiaaDoor.Q
set_option linter.unusedVariables false
namespace Go.Proofs.YtlakdfbfkbndiaaDoor.Q
open Go.RowKit Go.Proofs.YtlakdfbfkbndiaaDoor.Re Go.Proofs.YtlakdfbfkbndiaaDoorW.PrintWords Go.Proofs.YtlakdfbfkbndiaaDoorW.PrintLast Go.Proofs.YtlakdfbfkbndiaaDoorW.PrintMore
section
variable {P0 S : Nat → Prop} {base g n cap : Nat} {l : List S49} {W W' : World}
theorem NInv.step (h : NInv P0 base g l W) (hT : Tch W W' S) (hg : ¬ S g) : NInv P0 base g l W' := by
  obtain ⟨cells, h1, h2⟩ := h
  refine ⟨cells, ((hT.2 g (blk_lt h1)).1 hg).trans h1, fun i hi => ?_⟩
  obtain ⟨h3, A, c, h4, h5⟩ := h2 i hi
  refine ⟨h3, A, c, h4, h5.imp id ?_⟩
  rintro ⟨b, cur, a1, a2, a3, a4, a5, a6⟩
  obtain ⟨cur', c1, c2⟩ := (hT.2 b (blk_lt a5)).2 cur 3 a5
  exact ⟨b, cur', a1, a2, a3, a4, c1, by rw [c2]; exact a6⟩
theorem NInv.set (h : NInv P0 base g l W) (i j : Nat) (hj : j < 3) (u : Value) : NInv P0 base g l (W.setCell ⟨g, i * 4 + j, none⟩ u) := by
  obtain ⟨cells, h1, h2⟩ := h
  refine ⟨_, blk_set h1 (i * 4 + j) u, fun k hk => ?_⟩
  obtain ⟨h3, A, c, h4, h5⟩ := h2 k hk
  refine ⟨by simpa using h3, A, c, ?_, h5.imp id ?_⟩
  · rw [Array.getElem?_setIfInBounds_ne (by omega)]
    exact h4
  · rintro ⟨b, cur, a1, a2, a3, a4, a5, a6⟩
    exact ⟨b, cur, a1, a2, a3, a4, blk_far a5 (p := ⟨g, i * 4 + j, none⟩) a3 u, a6⟩
theorem NInv.cell (h : NInv P0 base g l W) {i j : Nat} (hi : i < l.length) (hj : j < 4) : ∃ u, W.cell? ⟨g, i * 4 + j, none⟩ = some u ∧ W.frozen? ⟨g, i * 4 + j, none⟩ = false := by
  obtain ⟨cells, h1, h2⟩ := h
  exact cell_of h1 (by have := (h2 i hi).1; omega)
theorem NInv.row (h : NInv P0 base g l W) {i : Nat} (hi : i < l.length) : ∃ A c, W.cell? ⟨g, i * 4 + 3, none⟩ = some (.slice A (rd_T49 l i).f3.length c) ∧ ((rd_T49 l i).f3.length = 0 ∨ ∃ b cur, A = some ⟨b, 0, none⟩ ∧ base ≤ b ∧ b ≠ g ∧ P0 b ∧ W.heap[b]? = some (.cells cur 3 (0, 0)) ∧ (rd_T49 l i).f3.length ≤ cur.size) := by
  obtain ⟨cells, h1, h2⟩ := h
  obtain ⟨h3, A, c, h4, h5⟩ := h2 i hi
  exact ⟨A, c, by simp [World.cell?, h1, h4], h5⟩
theorem row_size {v : Value} {e : Nat} {ok : Nat → Prop} {xs : List Int} {b c : Nat} (h : (Kd.int .i64).R e W base ok v xs) (hv : v = .slice (some ⟨b, 0, none⟩) xs.length c) : ∃ cur, W.heap[b]? = some (.cells cur e (0, 0)) ∧ xs.length ≤ cur.size := by
  obtain ⟨inner, ho⟩ := Kd.R_own h
  rcases ho.2 with ⟨h2, _⟩ | ⟨g, cap', cur, h2, h3, h4, h5, h6, h7, h8⟩
  · rw [h2] at hv; cases hv
  · rw [h2] at hv
    cases hv
    refine ⟨cur, h4, ?_⟩
    have : (Kd.int .i64).sz = 1 := rfl
    rw [this] at h7
    omega
theorem NInv.of (h : k49.R 49 W base P0 (.slice (some ⟨g, 0, none⟩) n cap) l) : NInv P0 base g l W := by
  obtain ⟨hn, hnc, hC⟩ := Kd.R_reads' h
  obtain ⟨inner0, ho⟩ := Kd.R_own h
  obtain ⟨cells, hcl⟩ := own_typed ho g (by simp [Value.ownBlock])
  refine ⟨cells, hcl, fun i hi => ?_⟩
  obtain ⟨c, c1, c2, c3, c4⟩ := Kd.R_elem h z49 (i : Int) (by omega) (by omega)
  rw [Int.toNat_natCast] at c2 c3
  have e4 : k49.sz = 4 := rfl
  rw [e4] at c3
  obtain ⟨v3, rfl, hr3⟩ := k49_openM c2
  have e1 : l.getD i z49 = rd_T49 l i := by unfold rd_T49; rw [Int.toNat_natCast]
  rw [e1] at hr3
  have h3 := c3 3 v3 rfl
  have h3' : cells[i * 4 + 3]? = some v3 := by
    have h9 := h3
    simp only [World.cell?, hcl] at h9
    exact h9
  refine ⟨by have := (Array.getElem?_eq_some_iff.mp h3').1; omega, ?_⟩
  obtain ⟨A, c, rfl⟩ := Kd.R_slice hr3
  refine ⟨A, c, h3', ?_⟩
  by_cases h0 : (rd_T49 l i).f3.length = 0
  · exact .inl h0
  · obtain ⟨b, cp, e5, hb1, hb2, -⟩ := Kd.R_form hr3 (by omega)
    injection e5 with ea _ ec
    subst ea
    obtain ⟨cur, d1, d2⟩ := row_size hr3 (by rw [ec])
    have hok := hr3.1 b (by simp [Value.ownBlock])
    exact .inr ⟨b, cur, rfl, hb1, hok.2, hok.1, d1, d2⟩
end
end Go.Proofs.YtlakdfbfkbndiaaDoor.Q
namespace Go.Proofs.YtlakdfbfkbndiaaDoor.Q
open Go.RowKit Go.Proofs.YtlakdfbfkbndiaaDoor.Re Go.Proofs.YtlakdfbfkbndiaaDoorW.PrintWords Go.Proofs.YtlakdfbfkbndiaaDoorW.PrintLast Go.Proofs.YtlakdfbfkbndiaaDoorW.PrintMore
section
variable {l : List S49}
open Classical in
noncomputable def endsA (l : List S49) (s : ByteArray) (i : Int) : List Int := if okB l = true ∧ s.size ≤ 500 ∧ 0 ≤ i ∧ i ≤ (s.size : Int) then nats (endsL l s i.toNat) else []
theorem implEnds_eq (hF : Fits l) (s : ByteArray) (i : Int) : impl_ReEnds.f l s i = some (endsA l s i) := by
  unfold impl_ReEnds.f endsA
  rw [if_pos (sure hF)]
  by_cases c : okB l = true ∧ s.size ≤ 500 ∧ 0 ≤ i ∧ i ≤ (s.size : Int)
  · rw [if_pos c, if_pos ⟨⟨(okV_iff hF).mpr c.1, c.2.1⟩, c.2.2⟩]
  · rw [if_neg c, if_neg fun h => c ⟨(okV_iff hF).mp h.1.1, h.1.2, h.2⟩]
end
end Go.Proofs.YtlakdfbfkbndiaaDoor.Q
set_option linter.unusedVariables false
namespace Go.Proofs.YtlakdfbfkbndiaaDoor.Ev.Pr
open Go Go.RowKit Go.Proofs.YtlakdfbfkbndiaaDoorW.PrintWords Go.Proofs.YtlakdfbfkbndiaaDoorW.PrintMore Kd Go.Proofs.YtlakdfbfkbndiaaDoor.Ev
theorem node_toS (l : List ReN) (n : Nat) (hn : n < l.length) : Q.nodeAt (l.map toS) n = toS (l[n]'hn) := by
  unfold Q.nodeAt Q.rd_T49
  rw [Int.toNat_natCast, List.getD_eq_getElem?_getD, List.getElem?_map, List.getElem?_eq_getElem hn]
  rfl
theorem fits_of {l : List ReN} (h : Sm l) : Q.Fits (l.map toS) := by
  refine ⟨fun n hn => ?_, fun n hn => ?_⟩
  all_goals
    rw [List.length_map] at hn
    rw [node_toS l n hn]
    have := h _ (List.getElem_mem hn)
  · exact Nat.le_trans this.2 (by decide)
  · exact Nat.le_trans this.1 (by decide)
theorem specOk_mono (l : List Q.S49) {b : Bool} {k : Nat} (h : Q.spec_ReOk.f k l = some b) : ∀ n, Q.spec_ReOk.f (k + n) l = some b
  | 0 => h
  | n + 1 => Q.spec_ReOk.mono l (k + n) b (specOk_mono l h n)
theorem specOk_eq {l : List Q.S49} (hF : Q.Fits l) : specOk l = some (Q.okB l) := by
  obtain ⟨K, hK⟩ := Q.specOk_ev hF
  have hx : ∃ b k, Q.spec_ReOk.f k l = some b := ⟨_, K, hK K (Nat.le_refl _)⟩
  unfold specOk
  rw [dif_pos hx]
  obtain ⟨k, hk⟩ := hx.choose_spec
  have h1 := specOk_mono l hk K
  have h2 : Q.spec_ReOk.f (k + K) l = some (Q.okB l) := hK (k + K) (by omega)
  rw [h1] at h2
  exact h2
end Go.Proofs.YtlakdfbfkbndiaaDoor.Ev.Pr
set_option linter.unusedVariables false
namespace Go.Proofs.YtlakdfbfkbndiaaDoor.Ev.Pr
open Go Go.RowKit Go.Proofs.YtlakdfbfkbndiaaDoorW.PrintWords Go.Proofs.YtlakdfbfkbndiaaDoorW.PrintMore Kd Go.Proofs.YtlakdfbfkbndiaaDoor.Ev
section
variable {ρ : Type}
theorem tb_find (k : Nat) : (tb (ρ := ρ) k).impl_ReFind = X_impl_ReFind := by cases k <;> rfl
theorem tb_test (k : Nat) : (tb (ρ := ρ) k).impl_ReTest = X_impl_ReTest := by cases k <;> rfl
theorem tb_ends (k : Nat) : (tb (ρ := ρ) k).impl_ReEnds = X_impl_ReEnds := by cases k <;> rfl
theorem tb_count (k : Nat) : (tb (ρ := ρ) k).impl_ReCount = X_impl_ReCount := by cases k <;> rfl
theorem tb_ok (k : Nat) : (tb (ρ := ρ) k).spec_ReOk = X_spec_ReOk := by cases k <;> rfl
theorem find_tot {l : List ReN} (h : Sm l) (s : ByteArray) : Tot (fun k κ => (tb (ρ := ρ) k).impl_ReFind l s (fun a b => κ (a, b))) fun r => r = Q.findA (l.map toS) s :=
  Tot.ret _ (fun k κ => by rw [tb_find]; unfold X_impl_ReFind; rw [Q.implFind_eq (fits_of h)]; rfl) rfl
theorem test_tot {l : List ReN} (h : Sm l) (s : ByteArray) : Tot (fun k κ => (tb (ρ := ρ) k).impl_ReTest l s (fun a => κ a)) fun r => r = decide (0 ≤ (Q.findA (l.map toS) s).1) :=
  Tot.ret _ (fun k κ => by rw [tb_test]; unfold X_impl_ReTest Q.impl_ReTest.f; rw [Q.implFind_eq (fits_of h)]; rfl) rfl
theorem ends_tot {l : List ReN} (h : Sm l) (s : ByteArray) (i : Int) : Tot (fun k κ => (tb (ρ := ρ) k).impl_ReEnds l s i (fun a => κ a)) fun r => r = Q.endsA (l.map toS) s i :=
  Tot.ret _ (fun k κ => by rw [tb_ends]; unfold X_impl_ReEnds; rw [Q.implEnds_eq (fits_of h)]; rfl) rfl
theorem ok_tot {l : List ReN} (h : Sm l) : Tot (fun k κ => (tb (ρ := ρ) k).spec_ReOk l (fun a => κ a)) fun r => r = Q.okB (l.map toS) :=
  Tot.ret _ (fun k κ => by rw [tb_ok]; unfold X_spec_ReOk; rw [specOk_eq (fits_of h)]; rfl) rfl
theorem count_tot {l : List ReN} (h : Sm l) (hok : Q.okB (l.map toS) = true) {s : ByteArray} (hs : s.size ≤ 500) : Tot (fun k κ => (tb (ρ := ρ) k).impl_ReCount l s (fun a => κ a)) fun r => r = ((Q.occV (l.map toS) s (s.size + 2) 0).length : Int) :=
  Tot.ret _ (fun k κ => by
    rw [tb_count]
    unfold X_impl_ReCount Q.impl_ReCount.f
    rw [if_pos (Q.sure (fits_of h)), if_pos ⟨(Q.okV_iff (fits_of h)).mpr hok, hs⟩]
    rfl) rfl
def shapeL : List ReN := [(0, false, bs [97, 97], []), (6, false, bs [], [0]), (0, false, bs [98, 98], []), (3, false, bs [], [1, 2]), (0, false, bs [99, 99], []), (4, false, bs [], [3, 4])]
theorem shape_sm : Sm shapeL := fun x hx => by
  have h : (shapeL.all fun x => decide (x.2.2.1.size ≤ 1000 ∧ x.2.2.2.length ≤ 1000)) = true := by decide +kernel
  exact of_decide_eq_true (p := x.2.2.1.size ≤ 1000 ∧ x.2.2.2.length ≤ 1000) (List.all_eq_true.mp h x hx)
theorem shape_ok : Q.okB (shapeL.map toS) = true := by decide +kernel
theorem shape_find : Q.findA (shapeL.map toS) (bs [120, 97, 97, 98]) = (1, 3) := by
  unfold Q.findA
  rw [if_pos ⟨shape_ok, by decide⟩]
  unfold Q.findR
  rw [Q.find_eq]
  decide +kernel
theorem shape_test : Q.findA (shapeL.map toS) (bs [120, 97]) = (-1, 0) := by
  unfold Q.findA
  rw [if_pos ⟨shape_ok, by decide⟩]
  unfold Q.findR
  rw [Q.find_eq]
  decide +kernel
theorem shape_count : (Q.occV (shapeL.map toS) (bs [99, 97, 98, 99]) ((bs [99, 97, 98, 99]).size + 2) 0).length = 3 := by
  rw [Q.occ_eq]
  decide +kernel
theorem shape_parse (k : Nat) (κ : List ReN → Bool → Option ρ) : (tb (k + 40)).impl_ReParse (bs [97, 43, 98, 124, 99]) κ = κ shapeL true := by kernel_rfl
theorem shape_text (k : Nat) (κ : ByteArray → Option ρ) : (tb (k + 40)).impl_ReText shapeL κ = κ (bs [97, 43, 98, 124, 99]) := by kernel_rfl
theorem parse_tot : Tot (fun k κ => (tb (ρ := ρ) k).impl_ReParse (bs [97, 43, 98, 124, 99]) (fun a b => κ (a, b))) fun r => r = (shapeL, true) := ⟨40, _, rfl, fun k hk κ => by
  obtain ⟨j, rfl⟩ : ∃ j, k = j + 40 := ⟨k - 40, by omega⟩
  exact shape_parse j _⟩
theorem text_tot : Tot (fun k κ => (tb (ρ := ρ) k).impl_ReText shapeL (fun a => κ a)) fun r => r = bs [97, 43, 98, 124, 99] := ⟨40, _, rfl, fun k hk κ => by
  obtain ⟨j, rfl⟩ : ∃ j, k = j + 40 := ⟨k - 40, by omega⟩
  exact shape_text j _⟩
theorem shapes_tot : Tot (fun k κ => (tb (ρ := ρ) k).laws_shapes (fun a => κ a)) fun r => r = true := by
  refine Tot.step (g := fun k κ => B_laws_shapes (tb k) (fun a => κ a)) (fun _ _ => rfl) ?_
  unfold B_laws_shapes
  refine Tot.bind2 parse_tot fun l b h => ?_
  obtain ⟨rfl, rfl⟩ : l = shapeL ∧ b = true := by injection h with h1 h2; exact ⟨h1, h2⟩
  refine Tot.bind2 (find_tot shape_sm _) fun a b h => ?_
  rw [shape_find] at h
  obtain ⟨rfl, rfl⟩ : a = 1 ∧ b = 3 := by injection h with h1 h2; exact ⟨h1, h2⟩
  refine Tot.bif (fun _ => Tot.bif (fun _ => Tot.bif (fun _ => ?_) (fun h => absurd h (by decide))) (fun h => absurd h (by decide))) (fun h => absurd h (by decide))
  refine Tot.bind1 text_tot fun t h => ?_
  subst h
  refine Tot.bif (fun _ => ?_) (fun h => absurd h (by simp))
  refine Tot.bind1 (count_tot shape_sm shape_ok (by decide)) fun c h => ?_
  rw [shape_count] at h
  subst h
  refine Tot.bif (fun _ => ?_) (fun h => absurd h (by decide))
  refine Tot.bind1 (test_tot shape_sm _) fun c h => ?_
  rw [shape_test] at h
  exact Tot.ret _ (fun _ _ => rfl) (by rw [h]; rfl)
end
end Go.Proofs.YtlakdfbfkbndiaaDoor.Ev.Pr
set_option linter.unusedVariables false
namespace Go.Proofs.YtlakdfbfkbndiaaDoor.Ev.Pr
open Go Go.RowKit Go.Proofs.YtlakdfbfkbndiaaDoorW.PrintWords Go.Proofs.YtlakdfbfkbndiaaDoorW.PrintMore Kd Go.Proofs.YtlakdfbfkbndiaaDoor.Ev
section
variable {ρ : Type} {l : List ReN} {s : ByteArray}
theorem endsA_in (hok : Q.okB (l.map toS) = true) (hs : s.size ≤ 500) {i : Nat} (hi : i ≤ s.size) : Q.endsA (l.map toS) s (i : Int) = Q.nats (Q.endsL (l.map toS) s i) := by
  unfold Q.endsA
  rw [if_pos ⟨hok, hs, by omega, by omega⟩, Int.toNat_natCast]
theorem s6_none (hsm : Sm l) (hok : Q.okB (l.map toS) = true) (hs : s.size ≤ 500) (hF : Q.findV (l.map toS) s (s.size + 1) 0 = (-1, 0)) (hn : ∀ m, m < s.size + 1 → (Q.endsL (l.map toS) s m).length = 0) : ∀ (n i : Nat), i + n = s.size + 1 → Tot (fun k κ => (tb (ρ := ρ) k).laws_FnFinds_s6 s (-1) 0 (i : Int) l (fun a => κ a)) fun r => r = true
  | n, i, hi => by
    refine Tot.step (g := fun k κ => B_laws_FnFinds_s6 (tb k) s (-1) 0 (i : Int) l (fun a => κ a)) (fun _ _ => rfl) ?_
    unfold B_laws_FnFinds_s6
    refine Tot.bif (fun h => ?_) (fun h => ?_)
    · have h := of_decide_eq_true h
      refine Tot.bif (fun _ => ?_) (fun h => absurd h (by decide))
      refine Tot.bind1 (ends_tot hsm s i) fun v hv => ?_
      have hv : v = _ := hv
      rw [endsA_in hok hs (by omega)] at hv
      have hl : v.length = 0 := by rw [hv, Q.nats_len]; exact hn i (by omega)
      refine Tot.bif (fun h => absurd (of_decide_eq_true h) (by omega)) (fun _ => ?_)
      cases n with
      | zero => omega
      | succ n =>
        rw [show w ((i : Int) + 1) = ((i + 1 : Nat) : Int) by rw [w_in (by omega)]; omega]
        exact s6_none hsm hok hs hF hn n (i + 1) (by omega)
    · refine Tot.bif (fun _ => Tot.bif (fun _ => ?_) (fun h => absurd h (by decide))) (fun h => absurd h (by decide))
      have hA : Q.findA (l.map toS) s = (-1, 0) := by
        unfold Q.findA
        rw [if_pos ⟨hok, hs⟩]
        unfold Q.findR
        rw [hF]
        rfl
      refine Tot.bind1 (test_tot hsm s) fun v hv => ?_
      have hv : v = _ := hv
      rw [hA] at hv
      have hv : v = false := hv
      subst hv
      refine Tot.bif (fun _ => ?_) (fun h => absurd h (by decide))
      refine Tot.bind1 (count_tot hsm hok hs) fun c hc => ?_
      have hc : c = _ := hc
      have hO : Q.occV (l.map toS) s (s.size + 2) 0 = [] := by
        simp only [Q.occV, Nat.sub_zero]
        rw [hF, if_pos (by omega), if_pos (by decide)]
      rw [hO] at hc
      subst hc
      exact Tot.bif (fun _ => shapes_tot) (fun h => absurd h (by decide))
theorem s6_some (hsm : Sm l) (hok : Q.okB (l.map toS) = true) (hs : s.size ≤ 500) {j x : Nat} (hj : j ≤ s.size) (hx : x = (Q.endsL (l.map toS) s j).getD ((Q.endsL (l.map toS) s j).length - 1) 0) (hjx : j ≤ x) (hxs : x ≤ s.size) (hne : (Q.endsL (l.map toS) s j).length ≠ 0) (hF : Q.findV (l.map toS) s (s.size + 1) 0 = ((j : Int), (x : Int))) (hn : ∀ m, m < j → (Q.endsL (l.map toS) s m).length = 0) : ∀ (n i : Nat), i + n = j → Tot (fun k κ => (tb (ρ := ρ) k).laws_FnFinds_s6 s (j : Int) ((x : Int) - (j : Int)) (i : Int) l (fun a => κ a)) fun r => r = true
  | n, i, hi => by
    refine Tot.step (g := fun k κ => B_laws_FnFinds_s6 (tb k) s (j : Int) ((x : Int) - (j : Int)) (i : Int) l (fun a => κ a)) (fun _ _ => rfl) ?_
    unfold B_laws_FnFinds_s6
    refine Tot.bif (fun h => ?_) (fun h => absurd (of_decide_eq_false h) (by omega))
    refine Tot.bif (fun h => absurd (of_decide_eq_true h) (by omega)) (fun _ => ?_)
    refine Tot.bif (fun h => ?_) (fun h => ?_)
    · have h := of_decide_eq_true h
      refine Tot.bind1 (ends_tot hsm s i) fun v hv => ?_
      have hv : v = _ := hv
      rw [endsA_in hok hs (by omega)] at hv
      have hl : v.length = 0 := by rw [hv, Q.nats_len]; exact hn i (by omega)
      refine Tot.bif (fun h => absurd (of_decide_eq_true h) (by omega)) (fun _ => ?_)
      cases n with
      | zero => omega
      | succ n =>
        rw [show w ((i : Int) + 1) = ((i + 1 : Nat) : Int) by rw [w_in (by omega)]; omega]
        exact s6_some hsm hok hs hj hx hjx hxs hne hF hn n (i + 1) (by omega)
    · have h := of_decide_eq_false h
      refine Tot.bif (fun h => absurd (of_decide_eq_true h) (by omega)) (fun _ => ?_)
      refine Tot.bind1 (ends_tot hsm s j) fun v hv => ?_
      have hv : v = _ := hv
      rw [endsA_in hok hs hj] at hv
      have hlen := Q.nats_len (Q.endsL (l.map toS) s j)
      rw [← hv] at hlen
      have hle : (Q.endsL (l.map toS) s j).length ≤ 501 := by
        have := Go.Proofs.YtlakdfbfkbndiaaDoor.Re.upto_len (Q.meets (l.map toS) s ((l.map toS).length - 1) j) (s.size + 1)
        unfold Q.endsL
        omega
      have hw : w ((v.length : Int) - 1) = (v.length : Int) - 1 := w_in (by omega)
      have hw2 : w ((j : Int) + ((x : Int) - (j : Int))) = (x : Int) := by rw [w_in (by omega)]; omega
      rw [hw, hw2]
      refine Tot.bif (fun _ => ?_) (fun h => absurd (of_decide_eq_false h) (by omega))
      refine Tot.iteT (by omega) (Tot.iteT (by omega) ?_)
      have he : elI .i64 v ((v.length : Int) - 1) = (x : Int) := by
        show v.getD ((v.length : Int) - 1).toNat _ = _
        rw [hx]
        have e1 : ((v.length : Int) - 1).toNat = (Q.endsL (l.map toS) s j).length - 1 := by omega
        rw [e1, hv]
        unfold Q.nats
        rw [List.getD_eq_getElem?_getD, List.getElem?_map, List.getD_eq_getElem?_getD, List.getElem?_eq_getElem (by omega)]
        rfl
      rw [he]
      refine Tot.bif (fun _ => ?_) (fun h => absurd h (by simp))
      have hA : Q.findA (l.map toS) s = ((j : Int), (x : Int) - (j : Int)) := by
        unfold Q.findA
        rw [if_pos ⟨hok, hs⟩]
        unfold Q.findR
        rw [hF, if_neg (by dsimp only; omega)]
      refine Tot.bind1 (test_tot hsm s) fun v hv => ?_
      have hv : v = _ := hv
      rw [hA] at hv
      have hv : v = true := by rw [hv]; exact decide_eq_true (by dsimp only; omega)
      subst hv
      refine Tot.bif (fun _ => ?_) (fun h => absurd h (by decide))
      refine Tot.bind1 (count_tot hsm hok hs) fun c hc => ?_
      have hc : c = _ := hc
      have hO : 0 < (Q.occV (l.map toS) s (s.size + 2) 0).length := by
        simp only [Q.occV, Nat.sub_zero]
        rw [hF, if_pos (by omega), if_neg (by dsimp only; omega)]
        simp
      exact Tot.bif (fun _ => shapes_tot) (fun h => absurd (of_decide_eq_false h) (by omega))
theorem FnFinds_tot {c : List Int} (hc : c.length ≤ 9223372036854775807) : Tot (fun k κ => (tb (ρ := ρ) k).laws_FnFinds c (fun a => κ a)) fun r => r = true := by
  refine Tot.step (g := fun k κ => B_laws_FnFinds (tb k) c (fun a => κ a)) (fun _ _ => rfl) ?_
  unfold B_laws_FnFinds
  refine Tot.bind2 (DrawReFind_tot hc) fun l s h => ?_
  obtain ⟨⟨hl, hsm⟩, hs⟩ := h
  dsimp only at hl hsm hs
  refine Tot.bind2 (find_tot hsm s) fun a b hab => ?_
  refine Tot.bind1 (ok_tot hsm) fun o ho => ?_
  have ho : o = _ := ho
  have out : Q.findA (l.map toS) s = (-1, 0) → a = -1 ∧ b = 0 := fun h => by
    rw [h] at hab
    injection hab with h1 h2
    exact ⟨h1, h2⟩
  refine Tot.bif (fun hb => ?_) (fun hb => ?_)
  · have hk : ¬ Q.okB (l.map toS) = true := by rw [← ho]; simpa using hb
    obtain ⟨rfl, rfl⟩ := out (by unfold Q.findA; rw [if_neg fun h => hk h.1])
    exact Tot.bif (fun _ => Tot.bif (fun _ => shapes_tot) (fun h => absurd h (by decide))) (fun h => absurd h (by decide))
  · have hk : Q.okB (l.map toS) = true := by rw [← ho]; simpa using hb
    refine Tot.bif (fun hb => ?_) (fun hb => ?_)
    · have hb := of_decide_eq_true hb
      obtain ⟨rfl, rfl⟩ := out (by unfold Q.findA; rw [if_neg fun h => by omega])
      exact Tot.bif (fun _ => Tot.bif (fun _ => shapes_tot) (fun h => absurd h (by decide))) (fun h => absurd h (by decide))
    · have hb := of_decide_eq_false hb
      have h500 : s.size ≤ 500 := by omega
      have hab' : (a, b) = Q.findR (l.map toS) s := by
        have h : (a, b) = _ := hab
        rw [h]
        unfold Q.findA
        rw [if_pos ⟨hk, h500⟩]
      unfold Q.findR at hab'
      rcases Q.findV_first (l.map toS) s (s.size + 1) 0 with ⟨h1, h2⟩ | ⟨j, h1, h2, h3, h4, h5⟩
      · rw [h1, if_pos (by decide)] at hab'
        injection hab' with e1 e2
        subst e1
        subst e2
        exact s6_none hsm hk h500 h1 (fun m hm => h2 m (Nat.zero_le _) (by omega)) (s.size + 1) 0 (by omega)
      · have hV := Q.okB_valid (fits_of hsm) hk
        rcases Q.findV_spec (l.map toS) s hV (s.size + 1) 0 (by omega) with e | ⟨j', x, e, e1, e2, e3⟩
        · rw [h4] at e
          injection e with e _
          omega
        · rw [h4] at e
          injection e with e4 e5
          obtain rfl : j = j' := by omega
          have hx : (Q.endsL (l.map toS) s j).getD ((Q.endsL (l.map toS) s j).length - 1) 0 = x := by omega
          rw [h4, hx, if_neg (by dsimp only; omega)] at hab'
          injection hab' with g1 g2
          subst g1
          subst g2
          rw [hx] at h4
          exact s6_some hsm hk h500 (by omega) hx.symm e2 e3 h3 h4 (fun m hm => h5 m (Nat.zero_le _) hm) j 0 (by omega)
end
end Go.Proofs.YtlakdfbfkbndiaaDoor.Ev.Pr
set_option linter.unusedVariables false
namespace Go.Proofs.YtlakdfbfkbndiaaDoor.Q
open Go Go.RowKit Go.Proofs.YtlakdfbfkbndiaaDoor.Ev Go.Proofs.YtlakdfbfkbndiaaDoorW.PrintWords Go.Proofs.YtlakdfbfkbndiaaDoorW.PrintMore
theorem Tabs.one {w w1 : World} (h : Tabs w) (hb : w1.heap[0]? = w.heap[0]?) : Tabs w1 := by
  have hg : Tryd.prog.globalNamed "math/bits.deBruijn64tab" = some 0 := by kernel_rfl
  refine ⟨?_⟩
  have h1 := h.bruijn
  unfold Lib.TabIs at h1 ⊢
  unfold World.var? at h1 ⊢
  rw [hg] at h1 ⊢
  simp only [Option.bind_some] at h1 ⊢
  rw [hb]
  exact h1
noncomputable def laws_FnFinds.f (k : Nat) (l0 : List Int) : Option Bool := (Pr.tb k).laws_FnFinds l0 (fun a => some a)
theorem laws_FnFinds.calls (k : Nat) (A0 : Option Addr) (c0 : Nat) (l0 : List Int) (r : Bool) (w : World) (hr0 : Kd.C (Kd.int .u8) w A0 l0.length l0) (hc0 : l0.length ≤ c0) (h : laws_FnFinds.f k l0 = some r) (hT : Tabs w) :
    Calls Tryd.prog 8 #[.slice A0 l0.length c0] w fun e w' => e = .returned (.bool r) ∧ Below w.heap.size w w' := by
  obtain ⟨obj, hobj⟩ : ∃ o, w.heap[0]? = some o := by
    have := hT.cell 0 (by decide)
    cases hh : w.heap[0]? with
    | some o => exact ⟨o, rfl⟩
    | none => simp [World.cell?, hh] at this
  letI : Bgs := ⟨[(0, obj)]⟩
  haveI : Pr.BgT := ⟨fun {E W} hB => hT.one ((hB _ List.mem_cons_self).1.trans hobj.symm)⟩
  have hs := (Pr.sound (ρ := Bool) k).1 8 0 [⟨.sl 5 (.int .u8), l0⟩] outB r h
  exact law_calls hs (ps := [.sl 5 (.int .u8)]) (args := [.sl none 5 (.int .u8) l0]) (by kernel_rfl) (by simp [Pt.builds, Pt.build]) (vals := [.slice A0 l0.length c0]) ⟨lent_row (t := .int .u8) (e := 5) (Kd.heap_int .u8) hr0 hc0 0, trivial⟩ fun x hx => by
    rw [List.mem_singleton.mp hx]
    exact ⟨hobj, .inl rfl⟩
end Go.Proofs.YtlakdfbfkbndiaaDoor.Q
set_option linter.unusedVariables false
namespace Go.Proofs.YtlakdfbfkbndiaaDoor.Pure
open Go Go.RowKit
theorem FnFinds (l0 : List Int) (hm : l0.length ≤ maxLen) (_ : l0.length * 1 ≤ 140737488351232) (_ : ∀ n ∈ l0, (Lit.int IntKind.u8 n).wf = true) : ∃ k, Q.laws_FnFinds.f k l0 = some true := by
  obtain ⟨K, a, ha, h⟩ := Ev.Pr.FnFinds_tot (ρ := Bool) (c := l0) (Nat.le_trans hm (by decide))
  have ha : a = true := ha
  subst ha
  exact ⟨K, h K (Nat.le_refl _) some⟩
end Go.Proofs.YtlakdfbfkbndiaaDoor.Pure
namespace Go.Proofs.YtlakdfbfkbndiaaDoor.fnFinds
open Go.ChangeShapes Go.WideShapes Go.ChangeAt Go.RowKit
open Go.ChangeMaps (open_string shut_string)
open Go.Lib
open Go.Proofs.YtlakdfbfkbndiaaDoorW.PrintWords
set_option linter.unusedVariables false
theorem own : ownKnob Tryd.prog.godebug = none := by kernel_rfl
theorem laidOut : laidOutB Tryd.prog = true := by kernel_rfl
def IsRow (k : IntKind) (w : World) (a : Option Addr) (len cap : Nat) (zs : List Int) : Prop :=
  (a = none ∧ len = 0 ∧ cap = 0 ∧ zs = []) ∨
  ∃ x, a = some x ∧ len ≤ cap ∧ cap ≤ maxLen ∧ zs.length = cap ∧ (∀ i, i < zs.length → w.cell? (x.add i) = some (.int k (zs.getD i 0))) ∧ ∀ n ∈ zs, (Lit.int k n).wf = true
set_option maxRecDepth 100000 in
theorem lifted (os : Os) (started : os.Started) (H : Type) (enc : TypeId × Value → H) :
    ReturnsInHanded {} Tryd.checked os 8 .any (fun w args => (Rows.fnFindsSpec.pre enc Tryd.prog Tryd.f8 [] false w args ∧ laidMetH Tryd.prog Rows.fnFindsRow.laid w) ∧ sizedMet enc Tryd.prog Tryd.f8 (OpenSpec.ofChange Rows.fnFindsSpec) false w args)
      (Rows.fnFindsSpec.post enc Tryd.prog Tryd.f8 false true false false) := by
  refine returnsInHanded_of_change_and_shaped_ytlakdfbfkbndiaadoor (C := Tryd.checked) (X := fun w _ => laidMetH Tryd.prog Rows.fnFindsRow.laid w) (fun _ _ _ hh h => h.of_heap hh) own started (by kernel_rfl) Tryd.func8
    (ChangeSpec.witness_shaped (enc := enc) (C := Tryd.checked) (os := os) (X := fun w _ => laidMetH Tryd.prog Rows.fnFindsRow.laid w) false (World.laidAll Tryd.prog os Rows.fnFindsRow.laid) #[.slice none 0 0] 8 (World.laidAll_os _ _ _)
      (World.shaped_of_ZipB (by kernel_rfl) (by kernel_rfl)) (by kernel_rfl) (by kernel_rfl) (by kernel_rfl)
      (by rw [MakeChecks.laidMetH_plain _ _ _ (by kernel_rfl)]; exact laidMet_laidAll _ (by kernel_rfl) (by kernel_rfl))) ?_
  intro W base args ds gs before hval0 hW hcnd hsz0 hL hS _
  have hsz : (DataW.weightsEach Tryd.prog (Tryd.f8.params.toList ++ Rows.fnFindsSpec.plain.varTypes Tryd.prog) (ds ++ gs)).all (· ≤ reachBytes) = true := hsz0
  have hval : ∀ (j : Nat) t v, Tryd.f8.params[j]? = some t → args[j]? = some v → Value.okWide Tryd.prog W .any base t v := hval0
  have hW' := hW
  obtain ⟨p, q, hA0, hV, rfl, hfz, hnd⟩ := hW
  have hA : DataW.TrodAll enc Tryd.prog W 0 (fun _ => true) true Tryd.f8.params.toList args.toList ds p := hA0
  rw [Tryd.params8] at hA hval hsz
  obtain ⟨v0, vs0, d0, ds0, p0, q0, hargs, rfl, rfl, h0, r0⟩ := trodAll_cons hA
  obtain ⟨rfl, rfl, rfl⟩ := trodAll_nil r0
  obtain rfl : args = #[v0] := by cases args; simp_all
  obtain ⟨rfl, rfl⟩ := trodVars_none hV
  have k0 := h0
  have lt0 : ∀ x ∈ p0, x.block < W.heap.size := by obtain ⟨m, hm⟩ := k0; exact DataW.trod_lt m _ _ _ hm
  obtain ⟨a0, len0, cap0, rfl⟩ := okWide_slice Tryd.underlying41 (hval 0 41 v0 rfl rfl)
  obtain ⟨z0, w0⟩ : ∃ zs, IsRow .u8 W a0 len0 cap0 zs := by
    obtain ⟨fuel, hf⟩ := h0
    rcases open_ints Tryd.underlying41 Tryd.underlying5 (by kernel_rfl) hf with ⟨hcs, _⟩ | ⟨x, l, c, zs, hcs, _, hl, hm, hz, _, hcell, hwz⟩
    · simp [Value.cells] at hcs
      obtain ⟨rfl, rfl, rfl⟩ := hcs
      exact ⟨[], .inl ⟨rfl, rfl, rfl, rfl⟩⟩
    · simp [Value.cells] at hcs
      obtain ⟨rfl, rfl, rfl⟩ := hcs
      exact ⟨zs, .inr ⟨_, rfl, hl, hm, by simpa using hz, hcell, hwz⟩⟩
  have y0 : len0 * 1 ≤ 140737488351232 := Go.Proofs.YtlakdfbfkbndiaaDoorW.PrintWords.sized_ints hsz (j := 0) (t := 41) rfl rfl Tryd.underlying41 Tryd.underlying5 (by kernel_rfl) (by kernel_rfl) h0
  obtain ⟨l0, rfl, hr0, hm0, hw0, hc0⟩ := ReadsInt.ofRowC w0
  clear hA0 hval0 hsz0 hsz
  rw [MakeChecks.laidMetH_plain _ _ _ (by kernel_rfl)] at hL
  have hTabs : Q.Tabs W := Q.tabs_of_laid hL (.head _) hS
  obtain ⟨k, hk⟩ := Pure.FnFinds l0 hm0 y0 hw0
  refine (Q.laws_FnFinds.calls k _ _ l0 true W (Kd.C_of_reads (d := (0 : Int)) (h1 := fun _ => rfl) hr0) hc0 hk hTabs).mono fun e W' ⟨he, bel⟩ => ?_
  subst he
  exact ⟨_, rfl, _, _, _, [], _, [], hW', trodAll_mk1 (shut_bool Tryd.underlying4 _), (trodAll_cons_mk (Below.trod laidOut (by kernel_rfl) (of_decide_eq_true (by kernel_rfl)) k0 bel lt0) trodAll_mk0), rfl, bel.frame _, fun h => by cases h⟩
theorem over : Rows.fnFindsRow.holds Tryd.pinned (OpenSpec.ofChange Rows.fnFindsSpec) :=
  OpenClaim.holds_of_wide 8 Tryd.f8 rfl rfl rfl rfl rfl rfl rfl ⟨rfl, rfl, rfl, rfl, rfl⟩ rfl rfl rfl rfl rfl (by kernel_rfl) Tryd.func8 (by kernel_rfl)
    (of_decide_eq_true (by kernel_rfl)) (by unfold Func.isWrapper; first | (rw [if_pos (by decide +kernel)]; kernel_rfl) | (rw [if_neg (by decide +kernel)]; exact ⟨rfl, rfl⟩))
    (fun os started H enc _ => lifted os started H enc)
theorem proved : Rows.FnFindsCardSaid :=
  Claim7.holds_tied_plain_at .later [] [.data] true (true, "653ba40917454f3c57c45bf7bd6e7a755b8c14dc4c6435c6eceb616f191040d8") false over (fun _ h => by cases h) (by kernel_rfl) (fun _ h => by cases h) fnFinds_row_tie rfl ⟨rfl, rfl⟩ (by kernel_rfl) rfl
    (fun f fn hf hfn => by
      obtain rfl : f = 8 := Option.some.inj ((show Tryd.prog.funcNamed Rows.fnFindsRow.func = some 8 by kernel_rfl).symm.trans hf) |>.symm
      obtain rfl : fn = Tryd.f8 := (Option.some.inj (Tryd.func8.symm.trans hfn)).symm
      exact ⟨by kernel_rfl, fun j t ht => by
        rw [Tryd.params8] at ht
        have hm : t ∈ [41] := by simpa using Array.mem_of_getElem? ht
        have hall : ([41].all fun u => !Tryd.prog.wantsStandIn u) = true := by kernel_rfl
        exact (show Tryd.prog.wantsStandIn t = false by simpa using List.all_eq_true.1 hall t hm)⟩)
    (by kernel_rfl)
#print axioms proved
end Go.Proofs.YtlakdfbfkbndiaaDoor.fnFinds
namespace Go.Proofs.YtlakdfbfkbndiaaDoor
theorem fnFinds_holds : Rows.FnFindsCardSaid := fnFinds.proved
end Go.Proofs.YtlakdfbfkbndiaaDoor
