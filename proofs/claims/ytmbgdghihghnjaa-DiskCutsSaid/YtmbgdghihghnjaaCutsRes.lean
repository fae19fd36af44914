/- Residual equations, printed by program. Residual equations, printed by program. -/
import Derived.Test.YtmbgdghihghnjaaHints
import Derived.Test.YtmbgdghihghnjaaAbsG
import Derived.KernelRfl
set_option linter.unusedVariables false
namespace Go.Abs.T10
open Go.Abs
noncomputable def K4 : X × St → Option (RV × Hp) :=
 (fun (v14 : X × St) => (xSel v14.fst [(0, (Option.bind (Option.bind (Option.bind (mget v14.snd.t 1) SV.rv?) (RV.int? IntKind.i64)) (fun v15 => (Option.bind (Option.bind (Option.bind (mget v14.snd.t 2) SV.rv?) (RV.int? IntKind.i64)) (fun v16 => (Option.bind (Option.bind (mget v14.snd.t 7) SV.rv?) (fun v17 => (Option.bind (Option.bind (Option.bind (mget v14.snd.t 8) SV.rv?) (RV.int? IntKind.i64)) (fun v18 => (Option.bind (Option.bind (cvsS [(SV.r (RV.dem v17)), (SV.r (RV.c (CV.a (AV.d (PV.int IntKind.i64 0))))), (SV.r (RV.c (CV.a (AV.d (PV.str [121])))))]) (fun v19 => (callU E false 11 (passCV [] 0 v19) v14.snd.h))) (fun v20 => (Option.bind (RV.int? IntKind.i64 v20.fst) (fun v21 => (gdK (!(!(decide (v21 = 9)))) (some v17) (RV.c (CV.a (AV.d (PV.bool false)))) (fun v22 => (Option.bind (cond (!(!(decide (v21 = 9))))
 (Option.bind (cvsS [(SV.r (RV.dem v22))]) (fun v23 => (callU E false 16 (passCV [] 0 v23) v20.snd)))
 (some ((RV.c (CV.a (AV.d (PV.bool false)))), v20.snd))) (fun v24 => (gdK (!(!(decide (v21 = 9)))) (RV.bool? v24.fst) false (fun v25 => (gdK (!(cond (!(decide (v21 = 9)))
 true
 (!v25))) (some v17) (RV.c (CV.a (AV.d (PV.bool false)))) (fun v26 => (Option.bind (cond (!(cond (!(decide (v21 = 9)))
 true
 (!v25)))
 (Option.bind (cvsS [(SV.r (RV.dem v26))]) (fun v27 => (callU E false 17 (passCV [] 0 v27) v24.snd)))
 (some ((RV.c (CV.a (AV.d (PV.bool false)))), v24.snd))) (fun v28 => (gdK (!(cond (!(decide (v21 = 9)))
 true
 (!v25))) (RV.int? IntKind.i64 v28.fst) 0 (fun v29 => (gdK (!(cond (cond (!(decide (v21 = 9)))
 true
 (!v25))
 true
 (!(decide (v29 = 0))))) (some v17) (RV.c (CV.a (AV.d (PV.bool false)))) (fun v30 => (Option.bind (cond (!(cond (cond (!(decide (v21 = 9)))
 true
 (!v25))
 true
 (!(decide (v29 = 0)))))
 (Option.bind (cvsS [(SV.r (RV.dem v30))]) (fun v31 => (callU E false 18 (passCV [] 0 v31) v28.snd)))
 (some ((RV.c (CV.a (AV.d (PV.bool false)))), v28.snd))) (fun v32 => (gdK (!(cond (cond (!(decide (v21 = 9)))
 true
 (!v25))
 true
 (!(decide (v29 = 0))))) (RV.int? IntKind.i64 v32.fst) 0 (fun v33 => (gdK (!(cond (cond (cond (!(decide (v21 = 9)))
 true
 (!v25))
 true
 (!(decide (v29 = 0))))
 true
 (!(decide (v33 = v18))))) (some v17) (RV.c (CV.a (AV.d (PV.bool false)))) (fun v34 => (Option.bind (cond (!(cond (cond (cond (!(decide (v21 = 9)))
 true
 (!v25))
 true
 (!(decide (v29 = 0))))
 true
 (!(decide (v33 = v18)))))
 (Option.bind (cvsS [(SV.r (RV.dem v34))]) (fun v35 => (callU E false 13 (passCV [] 0 v35) v32.snd)))
 (some ((RV.c (CV.a (AV.d (PV.bool false)))), v32.snd))) (fun v36 => (gdK (!(cond (cond (cond (!(decide (v21 = 9)))
 true
 (!v25))
 true
 (!(decide (v29 = 0))))
 true
 (!(decide (v33 = v18))))) (RV.bool? v36.fst) false (fun v37 => (gdK (!(cond (cond (cond (!(decide (v21 = 9)))
 true
 (!v25))
 true
 (!(decide (v29 = 0))))
 true
 (!(decide (v33 = v18))))) (some (!v37)) false (fun v38 => (cond (cond (cond (cond (cond (!(decide (v21 = 9)))
 true
 (!v25))
 true
 (!(decide (v29 = 0))))
 true
 (!(decide (v33 = v18))))
 true
 v38)
 (some ((RV.c (CV.a (AV.d (PV.bool false)))), v36.snd))
 (Option.bind (Option.bind (cvsS [(SV.r (RV.dem v17)), (SV.r (RV.c (CV.a (AV.d (PV.int IntKind.i64 0)))))]) (fun v39 => (callU E false 14 (passCV [] 0 v39) v36.snd))) (fun v40 => (Option.bind (Option.bind (Option.bind (extr 0 (SV.r (RV.dem (RV.dem v40.fst)))) SV.rv?) RV.str?) (fun v41 => (Option.bind (Option.bind (Option.bind (extr 1 (SV.r (RV.dem (RV.dem v40.fst)))) SV.rv?) (RV.int? IntKind.i64)) (fun v42 => (gdK (decide ((cond (decide ((IntKind.wrap IntKind.i64 (v18 + 1)) < (cond (decide (v15 < 0))
 0
 v15)))
 (IntKind.wrap IntKind.i64 (v18 + 1))
 (cond (decide (v15 < 0))
 0
 v15)) ≤ v18)) (some (decide (0 < v16))) false (fun v43 => (cond (cond (decide ((cond (decide ((IntKind.wrap IntKind.i64 (v18 + 1)) < (cond (decide (v15 < 0))
 0
 v15)))
 (IntKind.wrap IntKind.i64 (v18 + 1))
 (cond (decide (v15 < 0))
 0
 v15)) ≤ v18))
 v43
 false)
 (cond (!(decide ((Int.ofNat (List.length v41)) = (IntKind.wrap IntKind.i64 ((cond (decide ((IntKind.wrap IntKind.i64 (v18 + 1)) < (cond (decide (v15 < 0))
 0
 v15)))
 (IntKind.wrap IntKind.i64 (v18 + 1))
 (cond (decide (v15 < 0))
 0
 v15)) + 1)))))
 (some ((RV.c (CV.a (AV.d (PV.bool false)))), v40.snd))
 (Option.bind (Option.bind (cvsS [(SV.r (RV.dem v17)), (SV.r (RV.c (CV.a (AV.d (PV.int IntKind.i64 0))))), (SV.r (RV.c (CV.a (AV.d (PV.str [122])))))]) (fun v44 => (callU E false 11 (passCV [] 0 v44) v40.snd))) (fun v45 => (Option.bind (RV.int? IntKind.i64 v45.fst) (fun v46 => (gdK (decide (v46 = 0)) (some v17) (RV.c (CV.a (AV.d (PV.bool false)))) (fun v47 => (Option.bind (cond (decide (v46 = 0))
 (Option.bind (cvsS [(SV.r (RV.dem v47))]) (fun v48 => (callU E false 19 (passCV [11] 0 v48) v45.snd)))
 (some ((RV.c (CV.a (AV.d (PV.bool false)))), v45.snd))) (fun v49 => (gdK (decide (v46 = 0)) (RV.int? IntKind.i64 v49.fst) 0 (fun v50 => (gdK (cond (decide (v46 = 0))
 (decide (v50 = 0))
 false) (some v17) (RV.c (CV.a (AV.d (PV.bool false)))) (fun v51 => (Option.bind (cond (cond (decide (v46 = 0))
 (decide (v50 = 0))
 false)
 (Option.bind (cvsS [(SV.r (RV.dem v51))]) (fun v52 => (callU E false 16 (passCV [] 0 v52) v49.snd)))
 (some ((RV.c (CV.a (AV.d (PV.bool false)))), v49.snd))) (fun v53 => (gdK (cond (decide (v46 = 0))
 (decide (v50 = 0))
 false) (RV.bool? v53.fst) false (fun v54 => (some ((RV.c (CV.a (AV.d (PV.bool (cond (cond (decide (v46 = 0))
 (decide (v50 = 0))
 false)
 (!v54)
 false))))), v53.snd)))))))))))))))))))
 (cond (!(decide ((Int.ofNat (List.length v41)) = (cond (decide ((IntKind.wrap IntKind.i64 (v18 + 1)) < (cond (decide (v15 < 0))
 0
 v15)))
 (IntKind.wrap IntKind.i64 (v18 + 1))
 (cond (decide (v15 < 0))
 0
 v15)))))
 (some ((RV.c (CV.a (AV.d (PV.bool false)))), v40.snd))
 (Option.bind (Option.bind (cvsS [(SV.r (RV.dem v17)), (SV.r (RV.c (CV.a (AV.d (PV.int IntKind.i64 0))))), (SV.r (RV.c (CV.a (AV.d (PV.str [122])))))]) (fun v55 => (callU E false 11 (passCV [] 0 v55) v40.snd))) (fun v56 => (Option.bind (RV.int? IntKind.i64 v56.fst) (fun v57 => (gdK (decide (v57 = 0)) (some v17) (RV.c (CV.a (AV.d (PV.bool false)))) (fun v58 => (Option.bind (cond (decide (v57 = 0))
 (Option.bind (cvsS [(SV.r (RV.dem v58))]) (fun v59 => (callU E false 19 (passCV [11] 0 v59) v56.snd)))
 (some ((RV.c (CV.a (AV.d (PV.bool false)))), v56.snd))) (fun v60 => (gdK (decide (v57 = 0)) (RV.int? IntKind.i64 v60.fst) 0 (fun v61 => (gdK (cond (decide (v57 = 0))
 (decide (v61 = 0))
 false) (some v17) (RV.c (CV.a (AV.d (PV.bool false)))) (fun v62 => (Option.bind (cond (cond (decide (v57 = 0))
 (decide (v61 = 0))
 false)
 (Option.bind (cvsS [(SV.r (RV.dem v62))]) (fun v63 => (callU E false 16 (passCV [] 0 v63) v60.snd)))
 (some ((RV.c (CV.a (AV.d (PV.bool false)))), v60.snd))) (fun v64 => (gdK (cond (decide (v57 = 0))
 (decide (v61 = 0))
 false) (RV.bool? v64.fst) false (fun v65 => (some ((RV.c (CV.a (AV.d (PV.bool (cond (cond (decide (v57 = 0))
 (decide (v61 = 0))
 false)
 (!v65)
 false))))), v64.snd))))))))))))))))))))))))))))))))))))))))))))))))))))))))))))))))))))] (Option.bind (Option.bind (Option.bind (mget v14.snd.t 6) SV.rv?) RV.bool?) (fun v66 => (some ((RV.c (CV.a (AV.d (PV.bool v66)))), v14.snd.h))))))
theorem r4 (a k t : Int) : evF E (callU E) loopU false 4 [.a (.d (.int .i64 a)), .a (.d (.int .i64 k)), .a (.d (.int .i64 t))] h0 =
 (Option.bind (callU E false 9 [(CV.a (AV.d (PV.int IntKind.i64 1))), (CV.a (AV.d (PV.int IntKind.i64 100)))] ⟨(fun v0 => none), 0⟩) (fun v1 => (Option.bind (Option.bind (Option.bind (Option.bind (callU E false 10 [] ⟨(fun v2 => none), 0⟩) (fun v3 => (Option.bind (RV.data? v3.fst) (fun v4 => (some (SV.r v4)))))) SV.rv?) RV.bool?) (fun v5 => (gdK (!(!v5)) (Option.bind (Option.bind (Option.bind (avsS [(SV.r (RV.dem (RV.dem (RV.dem v1.fst)))), (SV.r (RV.c (CV.a (AV.d PV.nilp))))]) (bin2 E.P 23 BinOp.eql true)) SV.rv?) RV.bool?) false (fun v6 => (gdK (!(cond (!v5)
 true
 v6)) (some (decide (12 < a))) false (fun v7 => (cond (cond (cond (!v5)
 true
 v6)
 true
 v7)
 (Option.bind (Option.bind (Option.bind (Option.bind (callU E false 10 [] ⟨(fun v8 => none), 0⟩) (fun v9 => (Option.bind (RV.data? v9.fst) (fun v10 => (some (SV.r v10)))))) SV.rv?) RV.bool?) (fun v11 => (some ((RV.c (CV.a (AV.d (PV.bool v11)))), v1.snd))))
 (Option.bind (Option.bind (cvsS [(SV.r (RV.dem (RV.dem (RV.dem v1.fst)))), (SV.r (RV.c (CV.a (AV.d (PV.agg [(PV.int IntKind.i64 a), (PV.int IntKind.i64 k), (PV.int IntKind.i64 t)])))))]) (fun v12 => (callU E false 15 (passCV [] 0 v12) v1.snd))) (fun v13 => (Option.bind (loopU (LBg E (callU E) loopU false 4 7) ⟨[(1, (SV.r (RV.c (CV.a (AV.d (PV.int IntKind.i64 k)))))), (2, (SV.r (RV.c (CV.a (AV.d (PV.int IntKind.i64 t)))))), (7, (SV.r (RV.dem (RV.dem v1.fst)))), (8, (SV.r (RV.c (CV.a (AV.d (PV.int IntKind.i64 (cond (decide (a < 0))
 0
 a))))))), (9, (SV.r (RV.c (CV.a (AV.d (PV.int IntKind.i64 0))))))], [], v13.snd⟩) K4)))))))))))) := by kernel_rfl
theorem rL4 (k t : Int) (i : Nat) (n x : Int) (h : Hp) : LB E false 4 7 ⟨[(1, .r (.c (.a (.d (.int .i64 k))))), (2, .r (.c (.a (.d (.int .i64 t))))), (7, .r (.c (.a (.ptr i 0)))), (8, .r (.c (.a (.d (.int .i64 n))))), (9, .r (.c (.a (.d (.int .i64 x)))))], [], h⟩ =
 (cond (decide (x < n))
 (Option.bind (callU E false 11 [(CV.a (AV.ptr i 0)), (CV.a (AV.d (PV.int IntKind.i64 0))), (CV.a (AV.d (PV.str [120])))] h) (fun v0 => (Option.bind (RV.int? IntKind.i64 v0.fst) (fun v1 => (cond (!(decide (v1 = 0)))
 (some (X.ret, ⟨[(6, (SV.r (RV.c (CV.a (AV.d (PV.bool false))))))], [], v0.snd⟩))
 (some (X.norm, ⟨[(1, (SV.r (RV.c (CV.a (AV.d (PV.int IntKind.i64 k)))))), (2, (SV.r (RV.c (CV.a (AV.d (PV.int IntKind.i64 t)))))), (7, (SV.r (RV.c (CV.a (AV.ptr i 0))))), (8, (SV.r (RV.c (CV.a (AV.d (PV.int IntKind.i64 n)))))), (9, (SV.r (RV.c (CV.a (AV.d (PV.int IntKind.i64 (IntKind.wrap IntKind.i64 (x + 1))))))))], [], v0.snd⟩)))))))
 (some ((X.exit 0), ⟨[(1, (SV.r (RV.c (CV.a (AV.d (PV.int IntKind.i64 k)))))), (2, (SV.r (RV.c (CV.a (AV.d (PV.int IntKind.i64 t)))))), (7, (SV.r (RV.c (CV.a (AV.ptr i 0))))), (8, (SV.r (RV.c (CV.a (AV.d (PV.int IntKind.i64 n)))))), (9, (SV.r (RV.c (CV.a (AV.d (PV.int IntKind.i64 x)))))), (36, (SV.r (RV.c (CV.a (AV.d (PV.bool (decide (x < n))))))))], [], h⟩))) := by kernel_rfl
end Go.Abs.T10
namespace Go.Abs.T10
open Go.Abs
theorem r4b (k t : Int) (i : Nat) (n x : Int) (c : Bool) (h : Hp) : K4 (X.exit 0, ⟨[(1, .r (.c (.a (.d (.int .i64 k))))), (2, .r (.c (.a (.d (.int .i64 t))))), (7, .r (.c (.a (.ptr i 0)))), (8, .r (.c (.a (.d (.int .i64 n))))), (9, .r (.c (.a (.d (.int .i64 x))))), (36, .r (.c (.a (.d (.bool c)))))], [], h⟩) =
 (xSel (X.exit 0) [(0, (Option.bind (callU E false 11 [(CV.a (AV.ptr i 0)), (CV.a (AV.d (PV.int IntKind.i64 0))), (CV.a (AV.d (PV.str [121])))] h) (fun v0 => (Option.bind (RV.int? IntKind.i64 v0.fst) (fun v1 => (gdK (!(!(decide (v1 = 9)))) (some (RV.c (CV.a (AV.ptr i 0)))) (RV.c (CV.a (AV.d (PV.bool false)))) (fun v2 => (Option.bind (cond (!(!(decide (v1 = 9))))
 (Option.bind (cvsS [(SV.r (RV.dem v2))]) (fun v3 => (callU E false 16 (passCV [] 0 v3) v0.snd)))
 (some ((RV.c (CV.a (AV.d (PV.bool false)))), v0.snd))) (fun v4 => (gdK (!(!(decide (v1 = 9)))) (RV.bool? v4.fst) false (fun v5 => (gdK (!(cond (!(decide (v1 = 9)))
 true
 (!v5))) (some (RV.c (CV.a (AV.ptr i 0)))) (RV.c (CV.a (AV.d (PV.bool false)))) (fun v6 => (Option.bind (cond (!(cond (!(decide (v1 = 9)))
 true
 (!v5)))
 (Option.bind (cvsS [(SV.r (RV.dem v6))]) (fun v7 => (callU E false 17 (passCV [] 0 v7) v4.snd)))
 (some ((RV.c (CV.a (AV.d (PV.bool false)))), v4.snd))) (fun v8 => (gdK (!(cond (!(decide (v1 = 9)))
 true
 (!v5))) (RV.int? IntKind.i64 v8.fst) 0 (fun v9 => (gdK (!(cond (cond (!(decide (v1 = 9)))
 true
 (!v5))
 true
 (!(decide (v9 = 0))))) (some (RV.c (CV.a (AV.ptr i 0)))) (RV.c (CV.a (AV.d (PV.bool false)))) (fun v10 => (Option.bind (cond (!(cond (cond (!(decide (v1 = 9)))
 true
 (!v5))
 true
 (!(decide (v9 = 0)))))
 (Option.bind (cvsS [(SV.r (RV.dem v10))]) (fun v11 => (callU E false 18 (passCV [] 0 v11) v8.snd)))
 (some ((RV.c (CV.a (AV.d (PV.bool false)))), v8.snd))) (fun v12 => (gdK (!(cond (cond (!(decide (v1 = 9)))
 true
 (!v5))
 true
 (!(decide (v9 = 0))))) (RV.int? IntKind.i64 v12.fst) 0 (fun v13 => (gdK (!(cond (cond (cond (!(decide (v1 = 9)))
 true
 (!v5))
 true
 (!(decide (v9 = 0))))
 true
 (!(decide (v13 = n))))) (some (RV.c (CV.a (AV.ptr i 0)))) (RV.c (CV.a (AV.d (PV.bool false)))) (fun v14 => (Option.bind (cond (!(cond (cond (cond (!(decide (v1 = 9)))
 true
 (!v5))
 true
 (!(decide (v9 = 0))))
 true
 (!(decide (v13 = n)))))
 (Option.bind (cvsS [(SV.r (RV.dem v14))]) (fun v15 => (callU E false 13 (passCV [] 0 v15) v12.snd)))
 (some ((RV.c (CV.a (AV.d (PV.bool false)))), v12.snd))) (fun v16 => (gdK (!(cond (cond (cond (!(decide (v1 = 9)))
 true
 (!v5))
 true
 (!(decide (v9 = 0))))
 true
 (!(decide (v13 = n))))) (RV.bool? v16.fst) false (fun v17 => (gdK (!(cond (cond (cond (!(decide (v1 = 9)))
 true
 (!v5))
 true
 (!(decide (v9 = 0))))
 true
 (!(decide (v13 = n))))) (some (!v17)) false (fun v18 => (cond (cond (cond (cond (cond (!(decide (v1 = 9)))
 true
 (!v5))
 true
 (!(decide (v9 = 0))))
 true
 (!(decide (v13 = n))))
 true
 v18)
 (some ((RV.c (CV.a (AV.d (PV.bool false)))), v16.snd))
 (Option.bind (callU E false 14 [(CV.a (AV.ptr i 0)), (CV.a (AV.d (PV.int IntKind.i64 0)))] v16.snd) (fun v19 => (Option.bind (Option.bind (Option.bind (extr 0 (SV.r (RV.dem (RV.dem v19.fst)))) SV.rv?) RV.str?) (fun v20 => (Option.bind (Option.bind (Option.bind (extr 1 (SV.r (RV.dem (RV.dem v19.fst)))) SV.rv?) (RV.int? IntKind.i64)) (fun v21 => (gdK (decide ((cond (decide ((IntKind.wrap IntKind.i64 (n + 1)) < (cond (decide (k < 0))
 0
 k)))
 (IntKind.wrap IntKind.i64 (n + 1))
 (cond (decide (k < 0))
 0
 k)) ≤ n)) (some (decide (0 < t))) false (fun v22 => (cond (cond (decide ((cond (decide ((IntKind.wrap IntKind.i64 (n + 1)) < (cond (decide (k < 0))
 0
 k)))
 (IntKind.wrap IntKind.i64 (n + 1))
 (cond (decide (k < 0))
 0
 k)) ≤ n))
 v22
 false)
 (cond (!(decide ((Int.ofNat (List.length v20)) = (IntKind.wrap IntKind.i64 ((cond (decide ((IntKind.wrap IntKind.i64 (n + 1)) < (cond (decide (k < 0))
 0
 k)))
 (IntKind.wrap IntKind.i64 (n + 1))
 (cond (decide (k < 0))
 0
 k)) + 1)))))
 (some ((RV.c (CV.a (AV.d (PV.bool false)))), v19.snd))
 (Option.bind (callU E false 11 [(CV.a (AV.ptr i 0)), (CV.a (AV.d (PV.int IntKind.i64 0))), (CV.a (AV.d (PV.str [122])))] v19.snd) (fun v23 => (Option.bind (RV.int? IntKind.i64 v23.fst) (fun v24 => (gdK (decide (v24 = 0)) (some (RV.c (CV.a (AV.ptr i 0)))) (RV.c (CV.a (AV.d (PV.bool false)))) (fun v25 => (Option.bind (cond (decide (v24 = 0))
 (Option.bind (cvsS [(SV.r (RV.dem v25))]) (fun v26 => (callU E false 19 (passCV [11] 0 v26) v23.snd)))
 (some ((RV.c (CV.a (AV.d (PV.bool false)))), v23.snd))) (fun v27 => (gdK (decide (v24 = 0)) (RV.int? IntKind.i64 v27.fst) 0 (fun v28 => (gdK (cond (decide (v24 = 0))
 (decide (v28 = 0))
 false) (some (RV.c (CV.a (AV.ptr i 0)))) (RV.c (CV.a (AV.d (PV.bool false)))) (fun v29 => (Option.bind (cond (cond (decide (v24 = 0))
 (decide (v28 = 0))
 false)
 (Option.bind (cvsS [(SV.r (RV.dem v29))]) (fun v30 => (callU E false 16 (passCV [] 0 v30) v27.snd)))
 (some ((RV.c (CV.a (AV.d (PV.bool false)))), v27.snd))) (fun v31 => (gdK (cond (decide (v24 = 0))
 (decide (v28 = 0))
 false) (RV.bool? v31.fst) false (fun v32 => (some ((RV.c (CV.a (AV.d (PV.bool (cond (cond (decide (v24 = 0))
 (decide (v28 = 0))
 false)
 (!v32)
 false))))), v31.snd)))))))))))))))))))
 (cond (!(decide ((Int.ofNat (List.length v20)) = (cond (decide ((IntKind.wrap IntKind.i64 (n + 1)) < (cond (decide (k < 0))
 0
 k)))
 (IntKind.wrap IntKind.i64 (n + 1))
 (cond (decide (k < 0))
 0
 k)))))
 (some ((RV.c (CV.a (AV.d (PV.bool false)))), v19.snd))
 (Option.bind (callU E false 11 [(CV.a (AV.ptr i 0)), (CV.a (AV.d (PV.int IntKind.i64 0))), (CV.a (AV.d (PV.str [122])))] v19.snd) (fun v33 => (Option.bind (RV.int? IntKind.i64 v33.fst) (fun v34 => (gdK (decide (v34 = 0)) (some (RV.c (CV.a (AV.ptr i 0)))) (RV.c (CV.a (AV.d (PV.bool false)))) (fun v35 => (Option.bind (cond (decide (v34 = 0))
 (Option.bind (cvsS [(SV.r (RV.dem v35))]) (fun v36 => (callU E false 19 (passCV [11] 0 v36) v33.snd)))
 (some ((RV.c (CV.a (AV.d (PV.bool false)))), v33.snd))) (fun v37 => (gdK (decide (v34 = 0)) (RV.int? IntKind.i64 v37.fst) 0 (fun v38 => (gdK (cond (decide (v34 = 0))
 (decide (v38 = 0))
 false) (some (RV.c (CV.a (AV.ptr i 0)))) (RV.c (CV.a (AV.d (PV.bool false)))) (fun v39 => (Option.bind (cond (cond (decide (v34 = 0))
 (decide (v38 = 0))
 false)
 (Option.bind (cvsS [(SV.r (RV.dem v39))]) (fun v40 => (callU E false 16 (passCV [] 0 v40) v37.snd)))
 (some ((RV.c (CV.a (AV.d (PV.bool false)))), v37.snd))) (fun v41 => (gdK (cond (decide (v34 = 0))
 (decide (v38 = 0))
 false) (RV.bool? v41.fst) false (fun v42 => (some ((RV.c (CV.a (AV.d (PV.bool (cond (cond (decide (v34 = 0))
 (decide (v38 = 0))
 false)
 (!v42)
 false))))), v41.snd))))))))))))))))))))))))))))))))))))))))))))))))))))))))))))] none) := by kernel_rfl
end Go.Abs.T10
