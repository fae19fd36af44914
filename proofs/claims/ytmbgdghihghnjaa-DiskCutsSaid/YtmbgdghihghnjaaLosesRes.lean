/- Residual equations, printed by program. Residual equations, printed by program. -/
import Derived.Test.YtmbgdghihghnjaaHints
import Derived.Test.YtmbgdghihghnjaaAbsG
import Derived.KernelRfl
set_option linter.unusedVariables false
namespace Go.Abs.T10
open Go.Abs
noncomputable def K3 : X × St → Option (RV × Hp) :=
 (fun (v12 : X × St) => (xSel v12.fst [(0, (Option.bind (Option.bind (mget v12.snd.t 0) SV.rv?) (fun v13 => (Option.bind (Option.bind (Option.bind (mget v12.snd.t 1) SV.rv?) (RV.int? IntKind.i64)) (fun v14 => (Option.bind (Option.bind (Option.bind (mget v12.snd.t 2) SV.rv?) (RV.int? IntKind.i64)) (fun v15 => (Option.bind (Option.bind (mget v12.snd.t 7) SV.rv?) (fun v16 => (Option.bind (Option.bind (Option.bind (mget v12.snd.t 8) SV.rv?) RV.str?) (fun v17 => (Option.bind (Option.bind (Option.bind (mget v12.snd.t 9) SV.rv?) (RV.int? IntKind.i64)) (fun v18 => (Option.bind (Option.bind (cvsS [(SV.r (RV.dem v16)), (SV.r (RV.c (CV.a (AV.d (PV.int IntKind.i64 v14))))), (SV.r (RV.c (CV.a (AV.d (PV.int IntKind.i64 v15)))))]) (fun v19 => (callU E false 12 (passCV [88] 0 v19) v12.snd.h))) (fun v20 => (Option.bind (Option.bind (cvsS [(SV.r (RV.dem v16))]) (fun v21 => (callU E false 13 (passCV [] 0 v21) v20.snd))) (fun v22 => (Option.bind (RV.bool? v22.fst) (fun v23 => (Option.bind (Option.bind (cvsS [(SV.r (RV.dem v16)), (SV.r (RV.c (CV.a (AV.d (PV.int IntKind.i64 0)))))]) (fun v24 => (callU E false 14 (passCV [] 0 v24) v22.snd))) (fun v25 => (Option.bind (Option.bind (Option.bind (extr 0 (SV.r (RV.dem (RV.dem v25.fst)))) SV.rv?) RV.str?) (fun v26 => (Option.bind (Option.bind (Option.bind (extr 1 (SV.r (RV.dem (RV.dem v25.fst)))) SV.rv?) (RV.int? IntKind.i64)) (fun v27 => (gdK (!(cond (cond (cond (!v23)
 true
 (!(decide (v27 = 0))))
 true
 (decide ((Int.ofNat (List.length v26)) < v18)))
 true
 (decide ((Int.ofNat (List.length v17)) < (Int.ofNat (List.length v26)))))) (Option.bind (Option.bind (slice1 E.P 9 false true [(AV.d (PV.str v17)), (AV.d (PV.int IntKind.i64 (Int.ofNat (List.length v26))))]) SV.rv?) RV.str?) [] (fun v28 => (gdK (!(cond (cond (cond (!v23)
 true
 (!(decide (v27 = 0))))
 true
 (decide ((Int.ofNat (List.length v26)) < v18)))
 true
 (decide ((Int.ofNat (List.length v17)) < (Int.ofNat (List.length v26)))))) (some (!(List.beq v28 v26))) false (fun v29 => (cond (cond (cond (cond (cond (!v23)
 true
 (!(decide (v27 = 0))))
 true
 (decide ((Int.ofNat (List.length v26)) < v18)))
 true
 (decide ((Int.ofNat (List.length v17)) < (Int.ofNat (List.length v26)))))
 true
 v29)
 (some ((RV.c (CV.a (AV.d (PV.bool false)))), v25.snd))
 (Option.bind (Option.bind (Option.bind (Option.bind (lenV E.P 22 (RV.dem v13)) (fun v30 => (some (SV.r v30)))) SV.rv?) (RV.int? IntKind.i64)) (fun v31 => (gdK (decide ((cond (decide (v14 < 0))
 0
 v14) < v31)) (some (decide (0 < v15))) false (fun v32 => (cond (cond (decide ((cond (decide (v14 < 0))
 0
 v14) < v31))
 v32
 false)
 (Option.bind (Option.bind (indexAddrV E.P 22 (SV.r (RV.dem v13)) (AV.d (PV.int IntKind.i64 (cond (decide (v14 < 0))
 0
 v14)))) SV.rv?) (fun v33 => (Option.bind (Option.bind (ldV 1 false (RV.dem v33) v25.snd) RV.str?) (fun v34 => (some ((RV.c (CV.a (AV.d (PV.bool (decide ((Int.ofNat (List.length v26)) = (IntKind.wrap IntKind.i64 (v18 + (cond (decide ((Int.ofNat (List.length v34)) < v15))
 (Int.ofNat (List.length v34))
 v15))))))))), v25.snd))))))
 (some ((RV.c (CV.a (AV.d (PV.bool (decide ((Int.ofNat (List.length v26)) = (IntKind.wrap IntKind.i64 (v18 + 0)))))))), v25.snd)))))))))))))))))))))))))))))))))))))] (Option.bind (Option.bind (Option.bind (mget v12.snd.t 6) SV.rv?) RV.bool?) (fun v35 => (some ((RV.c (CV.a (AV.d (PV.bool v35)))), v12.snd.h))))))
theorem r3 (nl : Bool) (l : List PV) (keep torn : Int) : evF E (callU E) loopU false 3 [.a (.d (.sl 1 nl l)), .a (.d (.int .i64 keep)), .a (.d (.int .i64 torn))] h0 =
 (Option.bind (callU E false 9 [(CV.a (AV.d (PV.int IntKind.i64 1))), (CV.a (AV.d (PV.int IntKind.i64 3000)))] ⟨(fun v0 => none), 0⟩) (fun v1 => (Option.bind (Option.bind (Option.bind (Option.bind (callU E false 10 [] ⟨(fun v2 => none), 0⟩) (fun v3 => (Option.bind (RV.data? v3.fst) (fun v4 => (some (SV.r v4)))))) SV.rv?) RV.bool?) (fun v5 => (gdK (!(!v5)) (Option.bind (Option.bind (Option.bind (avsS [(SV.r (RV.dem (RV.dem (RV.dem v1.fst)))), (SV.r (RV.c (CV.a (AV.d PV.nilp))))]) (bin2 E.P 23 BinOp.eql true)) SV.rv?) RV.bool?) false (fun v6 => (gdK (!(cond (!v5)
 true
 v6)) (some (decide (20 < (Int.ofNat (List.length l))))) false (fun v7 => (cond (cond (cond (!v5)
 true
 v6)
 true
 v7)
 (Option.bind (Option.bind (Option.bind (Option.bind (callU E false 10 [] ⟨(fun v8 => none), 0⟩) (fun v9 => (Option.bind (RV.data? v9.fst) (fun v10 => (some (SV.r v10)))))) SV.rv?) RV.bool?) (fun v11 => (some ((RV.c (CV.a (AV.d (PV.bool v11)))), v1.snd))))
 (Option.bind (loopU (LBg E (callU E) loopU false 3 7) ⟨[(0, (SV.r (RV.c (CV.a (AV.d (PV.sl 1 nl l)))))), (1, (SV.r (RV.c (CV.a (AV.d (PV.int IntKind.i64 keep)))))), (2, (SV.r (RV.c (CV.a (AV.d (PV.int IntKind.i64 torn)))))), (7, (SV.r (RV.dem (RV.dem v1.fst)))), (8, (SV.r (RV.c (CV.a (AV.d (PV.str [])))))), (9, (SV.r (RV.c (CV.a (AV.d (PV.int IntKind.i64 0)))))), (10, (SV.r (RV.c (CV.a (AV.d (PV.int IntKind.i64 0))))))], [], v1.snd⟩) K3)))))))))) := by kernel_rfl
theorem rL3 (nl : Bool) (l : List PV) (keep torn : Int) (i : Nat) (all : List UInt8) (m x : Int) (h : Hp) : LB E false 3 7 ⟨[(0, .r (.c (.a (.d (.sl 1 nl l))))), (1, .r (.c (.a (.d (.int .i64 keep))))), (2, .r (.c (.a (.d (.int .i64 torn))))), (7, .r (.c (.a (.ptr i 0)))), (8, .r (.c (.a (.d (.str all))))), (9, .r (.c (.a (.d (.int .i64 m))))), (10, .r (.c (.a (.d (.int .i64 x)))))], [], h⟩ =
 (cond (decide (x < (Int.ofNat (List.length l))))
 (Option.bind (Option.bind (grd (inb x (List.length l)) (SV.r (RV.c (CV.a (AV.d (PV.bx (PV.cells (List.getD l (Int.toNat x) PV.nilp)))))))) SV.rv?) (fun v0 => (Option.bind (Option.bind (ldV 1 false (RV.dem v0) h) RV.str?) (fun v1 => (cond (decide (100 < (Int.ofNat (List.length v1))))
 (some (X.ret, ⟨[(6, (SV.r (RV.c (CV.a (AV.d (PV.bool true))))))], [], h⟩))
 (Option.bind (Option.bind (grd (inb x (List.length l)) (SV.r (RV.c (CV.a (AV.d (PV.bx (PV.cells (List.getD l (Int.toNat x) PV.nilp)))))))) SV.rv?) (fun v2 => (Option.bind (Option.bind (ldV 1 false (RV.dem v2) h) RV.str?) (fun v3 => (Option.bind (Option.bind (Option.bind (bin2 E.P 9 BinOp.add false [(AV.d (PV.str all)), (AV.d (PV.str v3))]) SV.rv?) RV.str?) (fun v4 => (cond (decide (x < keep))
 (Option.bind (Option.bind (grd (inb x (List.length l)) (SV.r (RV.c (CV.a (AV.d (PV.bx (PV.cells (List.getD l (Int.toNat x) PV.nilp)))))))) SV.rv?) (fun v5 => (Option.bind (Option.bind (ldV 1 false (RV.dem v5) h) RV.str?) (fun v6 => (Option.bind (callU E false 11 [(CV.a (AV.ptr i 0)), (CV.a (AV.d (PV.int IntKind.i64 0))), (CV.a (AV.d (PV.str v6)))] h) (fun v7 => (Option.bind (RV.int? IntKind.i64 v7.fst) (fun v8 => (cond (!(decide (v8 = 0)))
 (some (X.ret, ⟨[(6, (SV.r (RV.c (CV.a (AV.d (PV.bool false))))))], [], v7.snd⟩))
 (some (X.norm, ⟨[(0, (SV.r (RV.c (CV.a (AV.d (PV.sl 1 nl l)))))), (1, (SV.r (RV.c (CV.a (AV.d (PV.int IntKind.i64 keep)))))), (2, (SV.r (RV.c (CV.a (AV.d (PV.int IntKind.i64 torn)))))), (7, (SV.r (RV.c (CV.a (AV.ptr i 0))))), (8, (SV.r (RV.c (CV.a (AV.d (PV.str v4)))))), (9, (SV.r (RV.c (CV.a (AV.d (PV.int IntKind.i64 (Int.ofNat (List.length v4)))))))), (10, (SV.r (RV.c (CV.a (AV.d (PV.int IntKind.i64 (IntKind.wrap IntKind.i64 (x + 1))))))))], [], v7.snd⟩)))))))))))
 (Option.bind (Option.bind (grd (inb x (List.length l)) (SV.r (RV.c (CV.a (AV.d (PV.bx (PV.cells (List.getD l (Int.toNat x) PV.nilp)))))))) SV.rv?) (fun v9 => (Option.bind (Option.bind (ldV 1 false (RV.dem v9) h) RV.str?) (fun v10 => (Option.bind (callU E false 11 [(CV.a (AV.ptr i 0)), (CV.a (AV.d (PV.int IntKind.i64 0))), (CV.a (AV.d (PV.str v10)))] h) (fun v11 => (Option.bind (RV.int? IntKind.i64 v11.fst) (fun v12 => (cond (!(decide (v12 = 0)))
 (some (X.ret, ⟨[(6, (SV.r (RV.c (CV.a (AV.d (PV.bool false))))))], [], v11.snd⟩))
 (some (X.norm, ⟨[(0, (SV.r (RV.c (CV.a (AV.d (PV.sl 1 nl l)))))), (1, (SV.r (RV.c (CV.a (AV.d (PV.int IntKind.i64 keep)))))), (2, (SV.r (RV.c (CV.a (AV.d (PV.int IntKind.i64 torn)))))), (7, (SV.r (RV.c (CV.a (AV.ptr i 0))))), (8, (SV.r (RV.c (CV.a (AV.d (PV.str v4)))))), (9, (SV.r (RV.c (CV.a (AV.d (PV.int IntKind.i64 m)))))), (10, (SV.r (RV.c (CV.a (AV.d (PV.int IntKind.i64 (IntKind.wrap IntKind.i64 (x + 1))))))))], [], v11.snd⟩)))))))))))))))))))))))
 (some ((X.exit 0), ⟨[(0, (SV.r (RV.c (CV.a (AV.d (PV.sl 1 nl l)))))), (1, (SV.r (RV.c (CV.a (AV.d (PV.int IntKind.i64 keep)))))), (2, (SV.r (RV.c (CV.a (AV.d (PV.int IntKind.i64 torn)))))), (7, (SV.r (RV.c (CV.a (AV.ptr i 0))))), (8, (SV.r (RV.c (CV.a (AV.d (PV.str all)))))), (9, (SV.r (RV.c (CV.a (AV.d (PV.int IntKind.i64 m)))))), (10, (SV.r (RV.c (CV.a (AV.d (PV.int IntKind.i64 x)))))), (32, (SV.r (RV.c (CV.a (AV.d (PV.bool (decide (x < (Int.ofNat (List.length l))))))))))], [], h⟩))) := by kernel_rfl
end Go.Abs.T10
namespace Go.Abs.T10
open Go.Abs
theorem r3b (nl : Bool) (l : List PV) (keep torn : Int) (i : Nat) (all : List UInt8) (m x : Int) (c : Bool) (h : Hp) : K3 (X.exit 0, ⟨[(0, .r (.c (.a (.d (.sl 1 nl l))))), (1, .r (.c (.a (.d (.int .i64 keep))))), (2, .r (.c (.a (.d (.int .i64 torn))))), (7, .r (.c (.a (.ptr i 0)))), (8, .r (.c (.a (.d (.str all))))), (9, .r (.c (.a (.d (.int .i64 m))))), (10, .r (.c (.a (.d (.int .i64 x))))), (32, .r (.c (.a (.d (.bool c)))))], [], h⟩) =
 (xSel (X.exit 0) [(0, (Option.bind (callU E false 12 [(CV.a (AV.ptr i 0)), (CV.a (AV.d (PV.int IntKind.i64 keep))), (CV.a (AV.d (PV.int IntKind.i64 torn)))] h) (fun v0 => (Option.bind (callU E false 13 [(CV.a (AV.ptr i 0))] v0.snd) (fun v1 => (Option.bind (RV.bool? v1.fst) (fun v2 => (Option.bind (callU E false 14 [(CV.a (AV.ptr i 0)), (CV.a (AV.d (PV.int IntKind.i64 0)))] v1.snd) (fun v3 => (Option.bind (Option.bind (Option.bind (extr 0 (SV.r (RV.dem (RV.dem v3.fst)))) SV.rv?) RV.str?) (fun v4 => (Option.bind (Option.bind (Option.bind (extr 1 (SV.r (RV.dem (RV.dem v3.fst)))) SV.rv?) (RV.int? IntKind.i64)) (fun v5 => (gdK (!(cond (cond (cond (!v2)
 true
 (!(decide (v5 = 0))))
 true
 (decide ((Int.ofNat (List.length v4)) < m)))
 true
 (decide ((Int.ofNat (List.length all)) < (Int.ofNat (List.length v4)))))) (Option.bind (Option.bind (slice1 E.P 9 false true [(AV.d (PV.str all)), (AV.d (PV.int IntKind.i64 (Int.ofNat (List.length v4))))]) SV.rv?) RV.str?) [] (fun v6 => (gdK (!(cond (cond (cond (!v2)
 true
 (!(decide (v5 = 0))))
 true
 (decide ((Int.ofNat (List.length v4)) < m)))
 true
 (decide ((Int.ofNat (List.length all)) < (Int.ofNat (List.length v4)))))) (some (!(List.beq v6 v4))) false (fun v7 => (cond (cond (cond (cond (cond (!v2)
 true
 (!(decide (v5 = 0))))
 true
 (decide ((Int.ofNat (List.length v4)) < m)))
 true
 (decide ((Int.ofNat (List.length all)) < (Int.ofNat (List.length v4)))))
 true
 v7)
 (some ((RV.c (CV.a (AV.d (PV.bool false)))), v3.snd))
 (gdK (decide ((cond (decide (keep < 0))
 0
 keep) < (Int.ofNat (List.length l)))) (some (decide (0 < torn))) false (fun v8 => (cond (cond (decide ((cond (decide (keep < 0))
 0
 keep) < (Int.ofNat (List.length l))))
 v8
 false)
 (Option.bind (Option.bind (grd (inb (cond (decide (keep < 0))
 0
 keep) (List.length l)) (SV.r (RV.c (CV.a (AV.d (PV.bx (PV.cells (List.getD l (Int.toNat (cond (decide (keep < 0))
 0
 keep)) PV.nilp)))))))) SV.rv?) (fun v9 => (Option.bind (Option.bind (ldV 1 false (RV.dem v9) v3.snd) RV.str?) (fun v10 => (some ((RV.c (CV.a (AV.d (PV.bool (decide ((Int.ofNat (List.length v4)) = (IntKind.wrap IntKind.i64 (m + (cond (decide ((Int.ofNat (List.length v10)) < torn))
 (Int.ofNat (List.length v10))
 torn))))))))), v3.snd))))))
 (some ((RV.c (CV.a (AV.d (PV.bool (decide ((Int.ofNat (List.length v4)) = (IntKind.wrap IntKind.i64 (m + 0)))))))), v3.snd)))))))))))))))))))))))] none) := by kernel_rfl
theorem r3c (b : Bool) (h : Hp) : K3 (X.ret, ⟨[(6, .r (.c (.a (.d (.bool b)))))], [], h⟩) =
 (some ((RV.c (CV.a (AV.d (PV.bool b)))), h)) := by kernel_rfl
end Go.Abs.T10
