/- Residual equations, printed by program. Residual equations, printed by program. Residual equations, printed by program. -/
import Derived.Test.YtmbgdghihghnjaaHints
import Derived.Test.YtmbgdghihghnjaaAbsG
import Derived.KernelRfl
set_option linter.unusedVariables false
namespace Go.Abs.T10
open Go.Abs
theorem r16 (q : Bool) (i : Nat) (h : Hp) : evF E (callU E) loopU q 16 [.a (.ptr i 0)] h =
 (gdK true (Option.bind (ldV 1 false (.c (.a (.ptr i 6))) h) RV.bool?) false (fun v0 => (some ((.c (.a (.d (.bool v0)))), h)))) := by kernel_rfl
theorem r13 (i : Nat) (h : Hp) : evF E (callU E) loopU false 13 [.a (.ptr i 0)] h =
 (Option.bind (Option.bind (ldV 1 false (.c (.a (.ptr i 6))) h) RV.bool?) (fun v0 => (Option.bind (stV 1 (.c (.a (.ptr i 6))) (.c (.a (.d (.bool false)))) h) (fun v1 => (some ((.c (.a (.d (.bool v0)))), v1.snd)))))) := by kernel_rfl
theorem r32 (i : Nat) (x : Int) (h : Hp) : evF E (callU E) loopU false 32 [.a (.ptr i 0), .a (.d (.int .i64 x))] h =
 (Option.bind (callU E false 16 [(.a (.ptr i 0))] h) (fun v0 => (Option.bind (RV.bool? v0.fst) (fun v1 => (cond v1
 (some ((.c (.a (.d (.int .i64 9)))), v0.snd))
 (gdK (!(decide (x < 0))) (ldV 1 false (.c (.a (.ptr i 2))) v0.snd) (.c (.a (.d (.bool false)))) (fun v2 => (gdK (!(decide (x < 0))) (Option.bind (Option.bind (Option.bind (lenV E.P 22 (RV.dem v2)) (fun v3 => (some (.r v3)))) SV.rv?) (RV.int? .i64)) 0 (fun v4 => (gdK (!(decide (x < 0))) (some (decide (v4 ≤ x))) false (fun v5 => (cond (cond (decide (x < 0))
 true
 v5)
 (some ((.c (.a (.d (.int .i64 1)))), v0.snd))
 (some ((.c (.a (.d (.int .i64 0)))), v0.snd)))))))))))))) := by kernel_rfl
theorem r14 (i : Nat) (x : Int) (h : Hp) : evF E (callU E) loopU false 14 [.a (.ptr i 0), .a (.d (.int .i64 x))] h =
 (Option.bind (callU E false 32 [(.a (.ptr i 0)), (.a (.d (.int .i64 x)))] h) (fun v0 => (Option.bind (RV.int? .i64 v0.fst) (fun v1 => (cond (!(decide (v1 = 0)))
 (some ((.tup [(.a (.d (.str []))), (.a (.d (.int .i64 v1)))]), v0.snd))
 (Option.bind (ldV 1 false (.c (.a (.ptr i 2))) v0.snd) (fun v2 => (Option.bind (Option.bind (indexAddrV E.P 22 (.r (RV.dem v2)) (.d (.int .i64 x))) SV.rv?) (fun v3 => (Option.bind (Option.bind (ldV 1 false (RV.dem v3) v0.snd) RV.str?) (fun v4 => (some ((.tup [(.a (.d (.str v4))), (.a (.d (.int .i64 0)))]), v0.snd))))))))))))) := by kernel_rfl
theorem r29 (i : Nat) (x : Int) (h : Hp) : evF E (callU E) loopU false 29 [.a (.ptr i 0), .a (.d (.int .i64 x))] h =
 (Option.bind (callU E false 32 [(.a (.ptr i 0)), (.a (.d (.int .i64 x)))] h) (fun v0 => (Option.bind (RV.int? .i64 v0.fst) (fun v1 => (cond (!(decide (v1 = 0)))
 (some ((.c (.a (.d (.int .i64 0)))), v0.snd))
 (Option.bind (Option.bind (ldV 1 false (.c (.a (.ptr i 0))) (limH true v0.snd.nx v0.snd)) (RV.int? .i64)) (fun v2 => (Option.bind (ldV 1 false (.c (.a (.ptr i 2))) (limH true v0.snd.nx v0.snd)) (fun v3 => (Option.bind (Option.bind (indexAddrV E.P 22 (.r (RV.dem v3)) (.d (.int .i64 x))) SV.rv?) (fun v4 => (Option.bind (Option.bind (ldV 1 false (RV.dem v4) (limH true v0.snd.nx v0.snd)) RV.str?) (fun v5 => (some ((.c (.a (.d (.int .i64 (IntKind.wrap .i64 (v2 - (Int.ofNat (List.length v5)))))))), v0.snd))))))))))))))) := by kernel_rfl
theorem r15 (i : Nat) (a b c : Int) (h : Hp) : evF E (callU E) loopU false 15 [.a (.ptr i 0), .a (.d (.agg [.int .i64 a, .int .i64 b, .int .i64 c]))] h =
 (Option.bind (stV 3 (.c (.a (.ptr i 7))) (.c (.a (.d (.agg [(.int .i64 a), (.int .i64 b), (.int .i64 c)])))) h) (fun v0 => (Option.bind (stV 1 (.c (.a (.ptr i 10))) (.c (.a (.d (.bool true)))) v0.snd) (fun v1 => (some ((.tup []), v1.snd)))))) := by kernel_rfl
theorem r17 (i : Nat) (h : Hp) : evF E (callU E) loopU false 17 [.a (.ptr i 0)] h =
 (Option.bind (ldV 1 false (.c (.a (.ptr i 3))) h) (fun v0 => (Option.bind (Option.bind (Option.bind (Option.bind (lenV E.P 59 (RV.dem v0)) (fun v1 => (some (.r v1)))) SV.rv?) (RV.int? .i64)) (fun v2 => (some ((.c (.a (.d (.int .i64 v2)))), h)))))) := by kernel_rfl
theorem r18 (i : Nat) (h : Hp) : evF E (callU E) loopU false 18 [.a (.ptr i 0)] h =
 (Option.bind (Option.bind (ldV 1 false (.c (.a (.ptr i 4))) h) (RV.int? .i64)) (fun v0 => (some ((.c (.a (.d (.int .i64 v0)))), h)))) := by kernel_rfl
theorem r11 (i : Nat) (x : Int) (s : List UInt8) (h : Hp) : evF E (callU E) loopU false 11 [.a (.ptr i 0), .a (.d (.int .i64 x)), .a (.d (.str s))] h =
 (Option.bind (callU E false 32 [(.a (.ptr i 0)), (.a (.d (.int .i64 x)))] h) (fun v0 => (Option.bind (RV.int? .i64 v0.fst) (fun v1 => (cond (!(decide (v1 = 0)))
 (some ((.c (.a (.d (.int .i64 v1)))), v0.snd))
 (Option.bind (Option.bind (ldV 1 false (.c (.a (.ptr i 0))) (limH true v0.snd.nx v0.snd)) (RV.int? .i64)) (fun v2 => (Option.bind (ldV 1 false (.c (.a (.ptr i 2))) (limH true v0.snd.nx v0.snd)) (fun v3 => (Option.bind (Option.bind (indexAddrV E.P 22 (.r (RV.dem v3)) (.d (.int .i64 x))) SV.rv?) (fun v4 => (Option.bind (Option.bind (ldV 1 false (RV.dem v4) (limH true v0.snd.nx v0.snd)) RV.str?) (fun v5 => (cond (decide ((IntKind.wrap .i64 (v2 - (Int.ofNat (List.length v5)))) < (Int.ofNat (List.length s))))
 (some ((.c (.a (.d (.int .i64 6)))), v0.snd))
 (Option.bind (callU E false 33 [(.a (.ptr i 0)), (.a (.d (.agg [(.int .i64 0), (.int .i64 x), (.str s), (.int .i64 0)])))] v0.snd) (fun v6 => (Option.bind (RV.int? .i64 v6.fst) (fun v7 => (some ((.c (.a (.d (.int .i64 v7)))), v6.snd)))))))))))))))))))) := by kernel_rfl
theorem r33 (i : Nat) (k x n : Int) (s : List UInt8) (h : Hp) : evF E (callU E) loopU false 33 [.a (.ptr i 0), .a (.d (.agg [.int .i64 k, .int .i64 x, .str s, .int .i64 n]))] h =
 (Option.bind (callU E false 41 [(.a (.ptr i 0)), (.a (.d (.agg [(.int .i64 k), (.int .i64 x), (.str s), (.int .i64 n)])))] h) (fun v0 => (Option.bind (RV.bool? v0.fst) (fun v1 => (cond v1
 (some ((.c (.a (.d (.int .i64 9)))), v0.snd))
 (Option.bind (Option.bind (ldV 1 false (.c (.a (.ptr i 4))) v0.snd) (RV.int? .i64)) (fun v2 => (Option.bind (stV 1 (.c (.a (.ptr i 4))) (.c (.a (.d (.int .i64 (IntKind.wrap .i64 (v2 + 1)))))) v0.snd) (fun v3 => (Option.bind (ldOwnV 1 false (.c (.a (.ptr i 3))) v3.snd) (fun v4 => (Option.bind (Option.bind (Option.bind (buildSliceV E.P 59 1 [(0, (.d (.agg [(.int .i64 k), (.int .i64 x), (.str s), (.int .i64 n)])))]) (fun v5 => (some (.r v5)))) SV.rv?) (fun v6 => (Option.bind (Option.bind (Option.bind (appendV E.P 59 59 v4.fst (RV.dem v6)) (fun v7 => (some (.r v7)))) SV.rv?) (fun v8 => (Option.bind (stV 1 (.c (.a (.ptr i 3))) v8 v4.snd) (fun v9 => (Option.bind (ldV 1 false (.c (.a (.ptr i 2))) (limH true v9.snd.nx v9.snd)) (fun v10 => (Option.bind (Option.bind (Option.bind (RV.cv? (RV.dem v10)) (fun v11 => (some [v11, (.a (.d (.agg [(.int .i64 k), (.int .i64 x), (.str s), (.int .i64 n)])))]))) (fun v12 => (callU E false 34 (passCV [] 0 v12) v9.snd))) (fun v13 => (some ((.c (.a (.d (.int .i64 0)))), v13.snd))))))))))))))))))))))) := by kernel_rfl
theorem r41 (i : Nat) (k x n : Int) (s : List UInt8) (h : Hp) : evF E (callU E) loopU false 41 [.a (.ptr i 0), .a (.d (.agg [.int .i64 k, .int .i64 x, .str s, .int .i64 n]))] h =
 (Option.bind (Option.bind (ldV 1 false (.c (.a (.ptr i 10))) h) RV.bool?) (fun v0 => (cond (!v0)
 (some ((.c (.a (.d (.bool false)))), h))
 (Option.bind (Option.bind (ldV 1 false (.c (.a (.ptr i 7))) h) (RV.int? .i64)) (fun v1 => (cond (decide (0 < v1))
 (Option.bind (Option.bind (ldV 1 false (.c (.a (.ptr i 7))) h) (RV.int? .i64)) (fun v2 => (Option.bind (stV 1 (.c (.a (.ptr i 7))) (.c (.a (.d (.int .i64 (IntKind.wrap .i64 (v2 - 1)))))) h) (fun v3 => (some ((.c (.a (.d (.bool false)))), v3.snd))))))
 (Option.bind (stV 1 (.c (.a (.ptr i 10))) (.c (.a (.d (.bool false)))) h) (fun v4 => (Option.bind (ldOwnV 1 false (.c (.a (.ptr i 3))) v4.snd) (fun v5 => (Option.bind (Option.bind (Option.bind (buildSliceV E.P 59 1 [(0, (.d (.agg [(.int .i64 k), (.int .i64 x), (.str s), (.int .i64 n)])))]) (fun v6 => (some (.r v6)))) SV.rv?) (fun v7 => (Option.bind (Option.bind (Option.bind (appendV E.P 59 59 v5.fst (RV.dem v7)) (fun v8 => (some (.r v8)))) SV.rv?) (fun v9 => (Option.bind (stV 1 (.c (.a (.ptr i 3))) v9 v5.snd) (fun v10 => (Option.bind (Option.bind (ldV 1 false (.c (.a (.ptr i 8))) (limH true v10.snd.nx v10.snd)) (RV.int? .i64)) (fun v11 => (Option.bind (Option.bind (ldV 1 false (.c (.a (.ptr i 9))) (limH true v10.snd.nx v10.snd)) (RV.int? .i64)) (fun v12 => (Option.bind (callU E false 12 [(.a (.ptr i 0)), (.a (.d (.int .i64 v11))), (.a (.d (.int .i64 v12)))] v10.snd) (fun v13 => (some ((.c (.a (.d (.bool true)))), v13.snd)))))))))))))))))))))))) := by kernel_rfl
theorem r34 (l : AV) (k x n : Int) (s : List UInt8) (h : Hp) : evF E (callU E) loopU false 34 [.a l, .a (.d (.agg [.int .i64 k, .int .i64 x, .str s, .int .i64 n]))] h =
 (cond (decide (k = 0))
 (Option.bind (Option.bind (indexAddrV E.P 22 (.r (.c (.a l))) (.d (.int .i64 x))) SV.rv?) (fun v0 => (Option.bind (Option.bind (ldV 1 false (RV.dem v0) (limH true h.nx h)) RV.str?) (fun v1 => (Option.bind (Option.bind (Option.bind (Option.bind (grd (decide ((Int.ofNat ((List.length v1) + (List.length s))) ≤ 9223372036854775807)) (.c (.a (.d (.str (v1 ++ s)))))) (fun v2 => (some (.r v2)))) SV.rv?) RV.str?) (fun v3 => (Option.bind (Option.bind (indexAddrV E.P 22 (.r (.c (.a l))) (.d (.int .i64 x))) SV.rv?) (fun v4 => (Option.bind (stV 1 (RV.dem v4) (.c (.a (.d (.str v3)))) h) (fun v5 => (some ((.tup []), v5.snd))))))))))))
 (cond (decide (k = 2))
 (Option.bind (Option.bind (indexAddrV E.P 22 (.r (.c (.a l))) (.d (.int .i64 x))) SV.rv?) (fun v6 => (Option.bind (Option.bind (ldV 1 false (RV.dem v6) (limH true h.nx h)) RV.str?) (fun v7 => (Option.bind (Option.bind (indexAddrV E.P 22 (.r (.c (.a l))) (.d (.int .i64 x))) SV.rv?) (fun v8 => (Option.bind (stV 1 (RV.dem v8) (.c (.a (.d (.str [])))) h) (fun v9 => (some ((.tup []), v9.snd))))))))))
 (cond (decide (k = 1))
 (Option.bind (Option.bind (indexAddrV E.P 22 (.r (.c (.a l))) (.d (.int .i64 x))) SV.rv?) (fun v10 => (Option.bind (Option.bind (ldV 1 false (RV.dem v10) (limH true h.nx h)) RV.str?) (fun v11 => (Option.bind (Option.bind (Option.bind (Option.bind (grd (inc n (List.length v11)) (.c (.a (.d (.str (cut v11 0 ((Int.toNat n) - 0))))))) (fun v12 => (some (.r v12)))) SV.rv?) RV.str?) (fun v13 => (Option.bind (Option.bind (indexAddrV E.P 22 (.r (.c (.a l))) (.d (.int .i64 x))) SV.rv?) (fun v14 => (Option.bind (stV 1 (RV.dem v14) (.c (.a (.d (.str v13)))) h) (fun v15 => (some ((.tup []), v15.snd))))))))))))
 (some ((.tup []), h))))) := by kernel_rfl
theorem r35 (j n c : Nat) (h : Hp) : evF E (callU E) loopU true 35 [.a (.ms j 0 n c)] h =
 (Option.bind (appendA E.P 22 22 (.c (.ow 1 false [])) (.c (.a (.ms j 0 n c))) (hreg h 4) ((h.nx + 0) + 2)) (fun v0 => (Option.bind (Option.bind (RV.cv? (RV.dem (RV.dem v0.fst))) (fun v1 => (some [v1]))) (fun v2 => (some ((resRV v2), (hset (hreg h 4) ((h.nx + 0) + 2) v0.snd))))))) := by kernel_rfl
theorem r19 (i : Nat) (h : Hp) : evF E (callU E) loopU false 19 [.a (.ptr i 0)] h =
 (Option.bind (callU E false 16 [(.a (.ptr i 0))] h) (fun v0 => (Option.bind (RV.bool? v0.fst) (fun v1 => (cond v1
 (some ((.c (.a (.d (.int .i64 9)))), v0.snd))
 (Option.bind (ldV 1 false (.c (.a (.ptr i 2))) v0.snd) (fun v2 => (Option.bind (Option.bind (Option.bind (RV.cv? (RV.dem v2)) (fun v3 => (some [v3]))) (fun v4 => (callU E true 35 (passCV [5] 0 v4) v0.snd))) (fun v5 => (Option.bind (stV 1 (.c (.a (.ptr i 1))) v5.fst v5.snd) (fun v6 => (Option.bind (stV 1 (.c (.a (.ptr i 3))) (.c (.a (.d (.sl 0 true [])))) v6.snd) (fun v7 => (some ((.c (.a (.d (.int .i64 0)))), v7.snd))))))))))))))) := by kernel_rfl
end Go.Abs.T10
namespace Go.Abs.T10
open Go.Abs
theorem rL12 (i : Nat) (k t : Int) (b : Bool) (l : List PV) (n x : Int) (h : Hp) : LB E false 12 3 ⟨[(0, .r (.c (.a (.ptr i 0)))), (1, .r (.c (.a (.d (.int .i64 k))))), (2, .r (.c (.a (.d (.int .i64 t))))), (24, .r (.c (.a (.d (.sl 4 b l))))), (25, .r (.c (.a (.d (.int .i64 n))))), (26, .r (.c (.a (.d (.int .i64 x)))))], [], h⟩ =
 (cond (decide (x < n))
 (Option.bind (Option.bind (grd (inb x (List.length l)) (SV.r (RV.c (CV.a (AV.d (PV.bx (PV.cells (List.getD l (Int.toNat x) PV.nilp)))))))) SV.rv?) (fun v0 => (Option.bind (ldV 4 true (RV.dem v0) h) (fun v1 => (Option.bind (Option.bind (unpackV (RV.dem v1)) (fun v2 => (cond (Nat.beq 4 (List.length v2))
 (Option.bind (Option.bind (putOk [(CV.a (AV.d (PV.int IntKind.i64 0))), (CV.a (AV.d (PV.int IntKind.i64 0))), (CV.a (AV.d (PV.str []))), (CV.a (AV.d (PV.int IntKind.i64 0)))] 0 v2) (fun v3 => (some [(7, v3)]))) (fun v4 => (some ((SV.r (RV.c (CV.a (AV.d (PV.bool false))))), v4))))
 none))) (fun v5 => (Option.bind (ldV 1 false (RV.c (CV.a (AV.ptr i 1))) (limH true h.nx h)) (fun v6 => (Option.bind (Option.bind (Option.bind (mget (killB [27, 28, 29] v5.snd) 7) (fun v7 => (cutOk v7 0 4))) (fun v8 => (some (RV.c (CV.a (mkAgg (List.map CV.av (List.map CV.dem v8)))))))) (fun v9 => (Option.bind (Option.bind (cvsS [(SV.r (RV.dem v6)), (SV.r (RV.dem v9))]) (fun v10 => (callU E false 34 (passCV [] 0 v10) h))) (fun v11 => (some (X.norm, ⟨[(0, (SV.r (RV.c (CV.a (AV.ptr i 0))))), (1, (SV.r (RV.c (CV.a (AV.d (PV.int IntKind.i64 k)))))), (2, (SV.r (RV.c (CV.a (AV.d (PV.int IntKind.i64 t)))))), (24, (SV.r (RV.c (CV.a (AV.d (PV.sl 4 b l)))))), (25, (SV.r (RV.c (CV.a (AV.d (PV.int IntKind.i64 n)))))), (26, (SV.r (RV.c (CV.a (AV.d (PV.int IntKind.i64 (IntKind.wrap IntKind.i64 (x + 1))))))))], (killB [36] (killB [7, 30, 31, 32, 33, 34, 35] (killB [27, 28, 29] v5.snd))), v11.snd⟩))))))))))))))
 (some ((X.exit 0), ⟨[(0, (SV.r (RV.c (CV.a (AV.ptr i 0))))), (1, (SV.r (RV.c (CV.a (AV.d (PV.int IntKind.i64 k)))))), (2, (SV.r (RV.c (CV.a (AV.d (PV.int IntKind.i64 t)))))), (24, (SV.r (RV.c (CV.a (AV.d (PV.sl 4 b l)))))), (25, (SV.r (RV.c (CV.a (AV.d (PV.int IntKind.i64 n)))))), (26, (SV.r (RV.c (CV.a (AV.d (PV.int IntKind.i64 x)))))), (27, (SV.r (RV.c (CV.a (AV.d (PV.bool (decide (x < n))))))))], [], h⟩))) := by kernel_rfl
noncomputable def K12 : X × St → Option (RV × Hp) :=
 (fun (v9 : X × St) => (xSel v9.fst [(0, (Option.bind (Option.bind (mget v9.snd.t 0) SV.rv?) (fun v10 => (Option.bind (Option.bind (Option.bind (mget v9.snd.t 1) SV.rv?) (RV.int? IntKind.i64)) (fun v11 => (Option.bind (Option.bind (Option.bind (mget v9.snd.t 2) SV.rv?) (RV.int? IntKind.i64)) (fun v12 => (Option.bind (Option.bind (nilCk (SV.r (RV.dem v10))) SV.rv?) (fun v13 => (Option.bind (Option.bind (fieldAddrV E.P 61 3 (SV.r (RV.dem v13))) SV.rv?) (fun v14 => (Option.bind (ldV 1 false (RV.dem v14) v9.snd.h) (fun v15 => (Option.bind (Option.bind (Option.bind (Option.bind (lenV E.P 59 (RV.dem v15)) (fun v16 => (some (SV.r v16)))) SV.rv?) (RV.int? IntKind.i64)) (fun v17 => (gdK (cond (decide (v11 < v17))
 (decide (0 < v12))
 false) (Option.bind (nilCk (SV.r (RV.dem v10))) SV.rv?) (RV.c (CV.a (AV.d (PV.bool false)))) (fun v18 => (gdK (cond (decide (v11 < v17))
 (decide (0 < v12))
 false) (Option.bind (fieldAddrV E.P 61 3 (SV.r (RV.dem v18))) SV.rv?) (RV.c (CV.a (AV.d (PV.bool false)))) (fun v19 => (gdK (cond (decide (v11 < v17))
 (decide (0 < v12))
 false) (ldV 1 false (RV.dem v19) v9.snd.h) (RV.c (CV.a (AV.d (PV.bool false)))) (fun v20 => (gdK (cond (decide (v11 < v17))
 (decide (0 < v12))
 false) (Option.bind (indexAddrV E.P 59 (SV.r (RV.dem v20)) (AV.d (PV.int IntKind.i64 v11))) SV.rv?) (RV.c (CV.a (AV.d (PV.bool false)))) (fun v21 => (gdK (cond (decide (v11 < v17))
 (decide (0 < v12))
 false) (Option.bind (fieldAddrV E.P 64 0 (SV.r (RV.dem v21))) SV.rv?) (RV.c (CV.a (AV.d (PV.bool false)))) (fun v22 => (gdK (cond (decide (v11 < v17))
 (decide (0 < v12))
 false) (Option.bind (ldV 1 false (RV.dem v22) v9.snd.h) (RV.int? IntKind.i64)) 0 (fun v23 => (gdK (cond (decide (v11 < v17))
 (decide (0 < v12))
 false) (some (decide (v23 = 0))) false (fun v24 => (cond (cond (cond (decide (v11 < v17))
 (decide (0 < v12))
 false)
 v24
 false)
 (Option.bind (Option.bind (nilCk (SV.r (RV.dem v10))) SV.rv?) (fun v25 => (Option.bind (Option.bind (fieldAddrV E.P 61 3 (SV.r (RV.dem v25))) SV.rv?) (fun v26 => (Option.bind (ldV 1 false (RV.dem v26) v9.snd.h) (fun v27 => (Option.bind (Option.bind (indexAddrV E.P 59 (SV.r (RV.dem v27)) (AV.d (PV.int IntKind.i64 v11))) SV.rv?) (fun v28 => (Option.bind (ldV 4 true (RV.dem v28) v9.snd.h) (fun v29 => (Option.bind (Option.bind (unpackV (RV.dem v29)) (fun v30 => (cond (Nat.beq 4 (List.length v30))
 (Option.bind (Option.bind (putOk [(CV.a (AV.d (PV.int IntKind.i64 0))), (CV.a (AV.d (PV.int IntKind.i64 0))), (CV.a (AV.d (PV.str []))), (CV.a (AV.d (PV.int IntKind.i64 0)))] 0 v30) (fun v31 => (some [(8, v31)]))) (fun v32 => (some ((SV.r (RV.c (CV.a (AV.d (PV.bool false))))), v32))))
 none))) (fun v33 => (Option.bind (Option.bind (Option.bind (Option.bind (mget (killB [1, 58, 59, 60, 61, 62, 63, 64, 65] v33.snd) 8) (fun v34 => (cutOk v34 2 1))) (fun v35 => (packV false (List.map CV.dem v35)))) RV.str?) (fun v36 => (Option.bind (Option.bind (Option.bind (Option.bind (mget (killB [1, 58, 59, 60, 61, 62, 63, 64, 65] v33.snd) 8) (fun v37 => (cutOk v37 2 1))) (fun v38 => (packV false (List.map CV.dem v38)))) RV.str?) (fun v39 => (Option.bind (Option.bind (Option.bind (slice1 E.P 9 false true [(AV.d (PV.str v36)), (AV.d (PV.int IntKind.i64 (cond (decide ((Int.ofNat (List.length v39)) < v12))
 (Int.ofNat (List.length v39))
 v12)))]) SV.rv?) RV.str?) (fun v40 => (Option.bind (Option.bind (Option.bind (mget (killB [1, 58, 59, 60, 61, 62, 63, 64, 65] v33.snd) 8) (fun v41 => (Option.bind (putOk v41 2 [(CV.a (AV.d (PV.str v40)))]) (fun v42 => (some (mset (killB [1, 58, 59, 60, 61, 62, 63, 64, 65] v33.snd) 8 v42)))))) (fun v43 => (some ((SV.r (RV.c (CV.a (AV.d (PV.bool false))))), v43)))) (fun v44 => (Option.bind (Option.bind (nilCk (SV.r (RV.dem v10))) SV.rv?) (fun v45 => (Option.bind (Option.bind (fieldAddrV E.P 61 1 (SV.r (RV.dem v45))) SV.rv?) (fun v46 => (Option.bind (ldV 1 false (RV.dem v46) (limH true v9.snd.h.nx v9.snd.h)) (fun v47 => (Option.bind (Option.bind (Option.bind (mget (killB [2, 66, 67, 68, 69, 70, 71, 72, 73, 74] v44.snd) 8) (fun v48 => (cutOk v48 0 4))) (fun v49 => (some (RV.c (CV.a (mkAgg (List.map CV.av (List.map CV.dem v49)))))))) (fun v50 => (Option.bind (Option.bind (cvsS [(SV.r (RV.dem v47)), (SV.r (RV.dem v50))]) (fun v51 => (callU E false 34 (passCV [] 0 v51) v9.snd.h))) (fun v52 => (Option.bind (Option.bind (nilCk (SV.r (RV.dem v10))) SV.rv?) (fun v53 => (Option.bind (Option.bind (fieldAddrV E.P 61 1 (SV.r (RV.dem v53))) SV.rv?) (fun v54 => (Option.bind (ldV 1 false (RV.dem v54) v52.snd) (fun v55 => (Option.bind (Option.bind (cvsS [(SV.r (RV.dem v55))]) (fun v56 => (callU E true 35 (passCV [5] 0 v56) v52.snd))) (fun v57 => (Option.bind (Option.bind (nilCk (SV.r (RV.dem v10))) SV.rv?) (fun v58 => (Option.bind (Option.bind (fieldAddrV E.P 61 2 (SV.r (RV.dem v58))) SV.rv?) (fun v59 => (Option.bind (stV 1 (RV.dem v59) v57.fst v57.snd) (fun v60 => (Option.bind (Option.bind (nilCk (SV.r (RV.dem v10))) SV.rv?) (fun v61 => (Option.bind (Option.bind (fieldAddrV E.P 61 3 (SV.r (RV.dem v61))) SV.rv?) (fun v62 => (Option.bind (stV 1 (RV.dem v62) (RV.c (CV.a (AV.d (PV.sl 0 true [])))) v60.snd) (fun v63 => (Option.bind (Option.bind (nilCk (SV.r (RV.dem v10))) SV.rv?) (fun v64 => (Option.bind (Option.bind (fieldAddrV E.P 61 6 (SV.r (RV.dem v64))) SV.rv?) (fun v65 => (Option.bind (stV 1 (RV.dem v65) (RV.c (CV.a (AV.d (PV.bool true)))) v63.snd) (fun v66 => (Option.bind (Option.bind (nilCk (SV.r (RV.dem v10))) SV.rv?) (fun v67 => (Option.bind (Option.bind (fieldAddrV E.P 61 5 (SV.r (RV.dem v67))) SV.rv?) (fun v68 => (Option.bind (Option.bind (ldV 1 false (RV.dem v68) v66.snd) (RV.int? IntKind.i64)) (fun v69 => (Option.bind (Option.bind (nilCk (SV.r (RV.dem v10))) SV.rv?) (fun v70 => (Option.bind (Option.bind (fieldAddrV E.P 61 5 (SV.r (RV.dem v70))) SV.rv?) (fun v71 => (Option.bind (stV 1 (RV.dem v71) (RV.c (CV.a (AV.d (PV.int IntKind.i64 (IntKind.wrap IntKind.i64 (v69 + 1)))))) v66.snd) (fun v72 => (some ((RV.tup []), v72.snd))))))))))))))))))))))))))))))))))))))))))))))))))))))))))))))))))))))
 (Option.bind (Option.bind (nilCk (SV.r (RV.dem v10))) SV.rv?) (fun v73 => (Option.bind (Option.bind (fieldAddrV E.P 61 1 (SV.r (RV.dem v73))) SV.rv?) (fun v74 => (Option.bind (ldV 1 false (RV.dem v74) v9.snd.h) (fun v75 => (Option.bind (Option.bind (cvsS [(SV.r (RV.dem v75))]) (fun v76 => (callU E true 35 (passCV [5] 0 v76) v9.snd.h))) (fun v77 => (Option.bind (Option.bind (nilCk (SV.r (RV.dem v10))) SV.rv?) (fun v78 => (Option.bind (Option.bind (fieldAddrV E.P 61 2 (SV.r (RV.dem v78))) SV.rv?) (fun v79 => (Option.bind (stV 1 (RV.dem v79) v77.fst v77.snd) (fun v80 => (Option.bind (Option.bind (nilCk (SV.r (RV.dem v10))) SV.rv?) (fun v81 => (Option.bind (Option.bind (fieldAddrV E.P 61 3 (SV.r (RV.dem v81))) SV.rv?) (fun v82 => (Option.bind (stV 1 (RV.dem v82) (RV.c (CV.a (AV.d (PV.sl 0 true [])))) v80.snd) (fun v83 => (Option.bind (Option.bind (nilCk (SV.r (RV.dem v10))) SV.rv?) (fun v84 => (Option.bind (Option.bind (fieldAddrV E.P 61 6 (SV.r (RV.dem v84))) SV.rv?) (fun v85 => (Option.bind (stV 1 (RV.dem v85) (RV.c (CV.a (AV.d (PV.bool true)))) v83.snd) (fun v86 => (Option.bind (Option.bind (nilCk (SV.r (RV.dem v10))) SV.rv?) (fun v87 => (Option.bind (Option.bind (fieldAddrV E.P 61 5 (SV.r (RV.dem v87))) SV.rv?) (fun v88 => (Option.bind (Option.bind (ldV 1 false (RV.dem v88) v86.snd) (RV.int? IntKind.i64)) (fun v89 => (Option.bind (Option.bind (nilCk (SV.r (RV.dem v10))) SV.rv?) (fun v90 => (Option.bind (Option.bind (fieldAddrV E.P 61 5 (SV.r (RV.dem v90))) SV.rv?) (fun v91 => (Option.bind (stV 1 (RV.dem v91) (RV.c (CV.a (AV.d (PV.int IntKind.i64 (IntKind.wrap IntKind.i64 (v89 + 1)))))) v86.snd) (fun v92 => (some ((RV.tup []), v92.snd))))))))))))))))))))))))))))))))))))))))))))))))))))))))))))))))))))))] none))
theorem r12 (i : Nat) (k t : Int) (h : Hp) : evF E (callU E) loopU false 12 [.a (.ptr i 0), .a (.d (.int .i64 k)), .a (.d (.int .i64 t))] h =
 (Option.bind (callU E false 16 [(CV.a (AV.ptr i 0))] h) (fun v0 => (Option.bind (RV.bool? v0.fst) (fun v1 => (cond v1
 (some ((RV.tup []), v0.snd))
 (Option.bind (ldV 1 false (RV.c (CV.a (AV.ptr i 3))) v0.snd) (fun v2 => (Option.bind (Option.bind (Option.bind (Option.bind (lenV E.P 59 (RV.dem v2)) (fun v3 => (some (SV.r v3)))) SV.rv?) (RV.int? IntKind.i64)) (fun v4 => (Option.bind (ldV 1 false (RV.c (CV.a (AV.ptr i 3))) v0.snd) (fun v5 => (Option.bind (Option.bind (Option.bind (avsS [(SV.r (RV.dem v5)), (SV.r (RV.c (CV.a (AV.d (PV.int IntKind.i64 (cond (decide (v4 < (cond (decide (k < 0))
 0
 k)))
 v4
 (cond (decide (k < 0))
 0
 k)))))))]) (slice1 E.P 59 false true)) SV.rv?) (fun v6 => (Option.bind (Option.bind (Option.bind (Option.bind (lenV E.P 59 (RV.dem v6)) (fun v7 => (some (SV.r v7)))) SV.rv?) (RV.int? IntKind.i64)) (fun v8 => (Option.bind (loopU (LBg E (callU E) loopU false 12 3) ⟨[(0, (SV.r (RV.c (CV.a (AV.ptr i 0))))), (1, (SV.r (RV.c (CV.a (AV.d (PV.int IntKind.i64 (cond (decide (v4 < (cond (decide (k < 0))
 0
 k)))
 v4
 (cond (decide (k < 0))
 0
 k)))))))), (2, (SV.r (RV.c (CV.a (AV.d (PV.int IntKind.i64 t)))))), (24, (SV.r (RV.dem v6))), (25, (SV.r (RV.c (CV.a (AV.d (PV.int IntKind.i64 v8)))))), (26, (SV.r (RV.c (CV.a (AV.d (PV.int IntKind.i64 0))))))], [], v0.snd⟩) K12)))))))))))))))) := by kernel_rfl
theorem r9 (m n : Int) (h : Hp) : evF E (callU E) loopU false 9 [.a (.d (.int .i64 m)), .a (.d (.int .i64 n))] h =
 (gdK (!(cond (cond (decide (m < 1))
 true
 (decide (64 < m)))
 true
 (decide (n < 1)))) (some (decide (65536 < n))) false (fun v0 => (cond (cond (cond (cond (decide (m < 1))
 true
 (decide (64 < m)))
 true
 (decide (n < 1)))
 true
 v0)
 (some ((RV.c (CV.a (AV.d PV.nilp))), h))
 (Option.bind (make2 E.P 22 ((h.nx + 0) + 2) [(AV.d (PV.int IntKind.i64 m)), (AV.d (PV.int IntKind.i64 m))]) (fun v1 => (Option.bind (make2 E.P 22 ((h.nx + 0) + 4) [(AV.d (PV.int IntKind.i64 m)), (AV.d (PV.int IntKind.i64 m))]) (fun v2 => (Option.bind (Option.bind (Option.bind (avsS [(SV.r (RV.c (CV.a (AV.d (PV.int IntKind.i64 n))))), (SV.r (RV.dem v1.fst)), (SV.r (RV.dem v2.fst))]) (fun v3 => (Option.bind (buildV E.P 61 (zipO [0, 1, 2] v3)) (fun v4 => (some (SV.r v4)))))) SV.rv?) (fun v5 => (Option.bind (Option.bind (unpackV (RV.dem v5)) (fun v6 => (some ((RV.c (CV.a (AV.ptr ((h.nx + 0) + 6) 0))), v6)))) (fun v7 => (Option.bind (Option.bind (RV.cv? (RV.dem (RV.dem v7.fst))) (fun v8 => (some [v8]))) (fun v9 => (some ((resRV v9), (hset (hset (hset (hreg h 8) ((h.nx + 0) + 2) v1.snd) ((h.nx + 0) + 4) v2.snd) ((h.nx + 0) + 6) v7.snd)))))))))))))))) := by kernel_rfl
end Go.Abs.T10
namespace Go.Abs.T10
open Go.Abs
theorem r12b (i : Nat) (k t n x : Int) (c : Bool) (y : SV) (h : Hp) : K12 (X.exit 0, ⟨[(0, .r (.c (.a (.ptr i 0)))), (1, .r (.c (.a (.d (.int .i64 k))))), (2, .r (.c (.a (.d (.int .i64 t))))), (24, y), (25, .r (.c (.a (.d (.int .i64 n))))), (26, .r (.c (.a (.d (.int .i64 x))))), (27, .r (.c (.a (.d (.bool c)))))], [], h⟩) =
 (xSel (X.exit 0) [(0, (Option.bind (ldV 1 false (RV.c (CV.a (AV.ptr i 3))) h) (fun v0 => (Option.bind (Option.bind (Option.bind (Option.bind (lenV E.P 59 (RV.dem v0)) (fun v1 => (some (SV.r v1)))) SV.rv?) (RV.int? IntKind.i64)) (fun v2 => (gdK (cond (decide (k < v2))
 (decide (0 < t))
 false) (ldV 1 false (RV.c (CV.a (AV.ptr i 3))) h) (RV.c (CV.a (AV.d (PV.bool false)))) (fun v3 => (gdK (cond (decide (k < v2))
 (decide (0 < t))
 false) (Option.bind (indexAddrV E.P 59 (SV.r (RV.dem v3)) (AV.d (PV.int IntKind.i64 k))) SV.rv?) (RV.c (CV.a (AV.d (PV.bool false)))) (fun v4 => (gdK (cond (decide (k < v2))
 (decide (0 < t))
 false) (Option.bind (fieldAddrV E.P 64 0 (SV.r (RV.dem v4))) SV.rv?) (RV.c (CV.a (AV.d (PV.bool false)))) (fun v5 => (gdK (cond (decide (k < v2))
 (decide (0 < t))
 false) (Option.bind (ldV 1 false (RV.dem v5) h) (RV.int? IntKind.i64)) 0 (fun v6 => (gdK (cond (decide (k < v2))
 (decide (0 < t))
 false) (some (decide (v6 = 0))) false (fun v7 => (cond (cond (cond (decide (k < v2))
 (decide (0 < t))
 false)
 v7
 false)
 (Option.bind (ldV 1 false (RV.c (CV.a (AV.ptr i 3))) h) (fun v8 => (Option.bind (Option.bind (indexAddrV E.P 59 (SV.r (RV.dem v8)) (AV.d (PV.int IntKind.i64 k))) SV.rv?) (fun v9 => (Option.bind (ldV 4 true (RV.dem v9) h) (fun v10 => (Option.bind (Option.bind (unpackV (RV.dem v10)) (fun v11 => (cond (Nat.beq 4 (List.length v11))
 (Option.bind (Option.bind (putOk [(CV.a (AV.d (PV.int IntKind.i64 0))), (CV.a (AV.d (PV.int IntKind.i64 0))), (CV.a (AV.d (PV.str []))), (CV.a (AV.d (PV.int IntKind.i64 0)))] 0 v11) (fun v12 => (some [(8, v12)]))) (fun v13 => (some ((SV.r (RV.c (CV.a (AV.d (PV.bool false))))), v13))))
 none))) (fun v14 => (Option.bind (Option.bind (Option.bind (Option.bind (mget (killB [1, 58, 59, 60, 61, 62, 63, 64, 65] v14.snd) 8) (fun v15 => (cutOk v15 2 1))) (fun v16 => (packV false (List.map CV.dem v16)))) RV.str?) (fun v17 => (Option.bind (Option.bind (Option.bind (Option.bind (mget (killB [1, 58, 59, 60, 61, 62, 63, 64, 65] v14.snd) 8) (fun v18 => (cutOk v18 2 1))) (fun v19 => (packV false (List.map CV.dem v19)))) RV.str?) (fun v20 => (Option.bind (Option.bind (Option.bind (slice1 E.P 9 false true [(AV.d (PV.str v17)), (AV.d (PV.int IntKind.i64 (cond (decide ((Int.ofNat (List.length v20)) < t))
 (Int.ofNat (List.length v20))
 t)))]) SV.rv?) RV.str?) (fun v21 => (Option.bind (Option.bind (Option.bind (mget (killB [1, 58, 59, 60, 61, 62, 63, 64, 65] v14.snd) 8) (fun v22 => (Option.bind (putOk v22 2 [(CV.a (AV.d (PV.str v21)))]) (fun v23 => (some (mset (killB [1, 58, 59, 60, 61, 62, 63, 64, 65] v14.snd) 8 v23)))))) (fun v24 => (some ((SV.r (RV.c (CV.a (AV.d (PV.bool false))))), v24)))) (fun v25 => (Option.bind (ldV 1 false (RV.c (CV.a (AV.ptr i 1))) (limH true h.nx h)) (fun v26 => (Option.bind (Option.bind (Option.bind (mget (killB [2, 66, 67, 68, 69, 70, 71, 72, 73, 74] v25.snd) 8) (fun v27 => (cutOk v27 0 4))) (fun v28 => (some (RV.c (CV.a (mkAgg (List.map CV.av (List.map CV.dem v28)))))))) (fun v29 => (Option.bind (Option.bind (cvsS [(SV.r (RV.dem v26)), (SV.r (RV.dem v29))]) (fun v30 => (callU E false 34 (passCV [] 0 v30) h))) (fun v31 => (Option.bind (ldV 1 false (RV.c (CV.a (AV.ptr i 1))) v31.snd) (fun v32 => (Option.bind (Option.bind (cvsS [(SV.r (RV.dem v32))]) (fun v33 => (callU E true 35 (passCV [5] 0 v33) v31.snd))) (fun v34 => (Option.bind (stV 1 (RV.c (CV.a (AV.ptr i 2))) v34.fst v34.snd) (fun v35 => (Option.bind (stV 1 (RV.c (CV.a (AV.ptr i 3))) (RV.c (CV.a (AV.d (PV.sl 0 true [])))) v35.snd) (fun v36 => (Option.bind (stV 1 (RV.c (CV.a (AV.ptr i 6))) (RV.c (CV.a (AV.d (PV.bool true)))) v36.snd) (fun v37 => (Option.bind (Option.bind (ldV 1 false (RV.c (CV.a (AV.ptr i 5))) v37.snd) (RV.int? IntKind.i64)) (fun v38 => (Option.bind (stV 1 (RV.c (CV.a (AV.ptr i 5))) (RV.c (CV.a (AV.d (PV.int IntKind.i64 (IntKind.wrap IntKind.i64 (v38 + 1)))))) v37.snd) (fun v39 => (some ((RV.tup []), v39.snd))))))))))))))))))))))))))))))))))))))
 (Option.bind (ldV 1 false (RV.c (CV.a (AV.ptr i 1))) h) (fun v40 => (Option.bind (Option.bind (cvsS [(SV.r (RV.dem v40))]) (fun v41 => (callU E true 35 (passCV [5] 0 v41) h))) (fun v42 => (Option.bind (stV 1 (RV.c (CV.a (AV.ptr i 2))) v42.fst v42.snd) (fun v43 => (Option.bind (stV 1 (RV.c (CV.a (AV.ptr i 3))) (RV.c (CV.a (AV.d (PV.sl 0 true [])))) v43.snd) (fun v44 => (Option.bind (stV 1 (RV.c (CV.a (AV.ptr i 6))) (RV.c (CV.a (AV.d (PV.bool true)))) v44.snd) (fun v45 => (Option.bind (Option.bind (ldV 1 false (RV.c (CV.a (AV.ptr i 5))) v45.snd) (RV.int? IntKind.i64)) (fun v46 => (Option.bind (stV 1 (RV.c (CV.a (AV.ptr i 5))) (RV.c (CV.a (AV.d (PV.int IntKind.i64 (IntKind.wrap IntKind.i64 (v46 + 1)))))) v45.snd) (fun v47 => (some ((RV.tup []), v47.snd))))))))))))))))))))))))))))))))] none) := by kernel_rfl
theorem rL12n (i : Nat) (k t : Int) (h : Hp) : LB E false 12 3 ⟨[(0, .r (.c (.a (.ptr i 0)))), (1, .r (.c (.a (.d (.int .i64 k))))), (2, .r (.c (.a (.d (.int .i64 t))))), (24, .r (.c (.a (.d (.sl 0 true []))))), (25, .r (.c (.a (.d (.int .i64 0))))), (26, .r (.c (.a (.d (.int .i64 0)))))], [], h⟩ =
 (some ((X.exit 0), ⟨[(0, (SV.r (RV.c (CV.a (AV.ptr i 0))))), (1, (SV.r (RV.c (CV.a (AV.d (PV.int IntKind.i64 k)))))), (2, (SV.r (RV.c (CV.a (AV.d (PV.int IntKind.i64 t)))))), (24, (SV.r (RV.c (CV.a (AV.d (PV.sl 0 true [])))))), (25, (SV.r (RV.c (CV.a (AV.d (PV.int IntKind.i64 0)))))), (26, (SV.r (RV.c (CV.a (AV.d (PV.int IntKind.i64 0)))))), (27, (SV.r (RV.c (CV.a (AV.d (PV.bool false))))))], [], h⟩)) := by kernel_rfl
end Go.Abs.T10
