/- The disk: cuts, and what is told of it. -/
import Derived.Test.YtmbgdghihghnjaaDiskWalk
set_option linter.unusedVariables false
set_option linter.unusedSimpArgs false
namespace Go.Abs.T10
open Go.Abs

/-- Lay lays a cut. -/
theorem c15 {h : Hp} {i j1 j2 : Nat} {v : CV} {D : DD} (hd : DAt h i j1 j2 v D) (a b c : Int) : ∃ h', callU E false 15 [.a (.ptr i 0), .a (.d (.agg [.int .i64 a, .int .i64 b, .int .i64 c]))] h = some (.tup [], h') ∧ DAt h' i j1 j2 v { D with ca := a, ck := b, ct := c, laid := true } ∧ Same h h' i j1 j2 := by
  let D1 : DD := { D with ca := a, ck := b, ct := c }
  let D2 : DD := { D1 with laid := true }
  let h1 := hset h i (dcells D1 j1 j2 v)
  let h2 := hset h1 i (dcells D2 j1 j2 v)
  have e1 : stV 3 (.c (.a (.ptr i 7))) (.c (.a (.d (.agg [.int .i64 a, .int .i64 b, .int .i64 c])))) h = some (undefR, h1) := by
    have hu : unpackV (.c (.a (.d (.agg [.int .i64 a, .int .i64 b, .int .i64 c])))) = some [iC a, iC b, iC c] := rfl
    have hp : putOk (dcells D j1 j2 v) 7 [iC a, iC b, iC c] = some (dcells D1 j1 j2 v) := rfl
    simp [stV, hu, hput, hd.hi, hp, Nat.beq, h1]
  have e2 : stV 1 (.c (.a (.ptr i 10))) (.c (.a (.d (.bool true)))) h1 = some (undefR, h2) := st1 hset_same (show 10 < 11 by decide) rfl rfl
  refine ⟨h2, ?_, ?_, ?_⟩
  · apply callU_of
    rw [r15, e1]
    simp only [Option.bind_some, e2]
  · exact ⟨hset_same, by rw [hset_ne hd.n1, hset_ne hd.n1]; exact hd.h1, by rw [hset_ne hd.n2, hset_ne hd.n2]; exact hd.h2, hd.w, hd.n1, hd.n2, hd.n12, hd.li, hd.l1, hd.l2⟩
  · exact ((Same.refl h i j1 j2).set (.inl rfl)).set (.inl rfl)
theorem c17 {h : Hp} {i j1 j2 : Nat} {v : CV} {D : DD} (hd : DAt h i j1 j2 v D) : callU E false 17 [.a (.ptr i 0)] h = some (.c (.a (.d (.int .i64 D.wait.length))), h) := by
  apply callU_of
  rw [r17, ld1 hd.hi (off := 3) (x := v) rfl]
  simp only [Option.bind_some, lenW hd.w, rv?_r, int?_I]
theorem c18 {h : Hp} {i j1 j2 : Nat} {v : CV} {D : DD} (hd : DAt h i j1 j2 v D) : callU E false 18 [.a (.ptr i 0)] h = some (.c (.a (.d (.int .i64 D.changes))), h) := by
  apply callU_of
  rw [r18, ld1 hd.hi (off := 4) (x := iC D.changes) rfl]
  rfl
/-- A cut that is laid comes nearer. -/
theorem c41Dec {h : Hp} {i j1 j2 : Nat} {v : CV} {D : DD} (hd : DAt h i j1 j2 v D) (c : Chg) (hl : D.laid = true) (ha : 0 < D.ca) : ∃ h', callU E false 41 [.a (.ptr i 0), .a (.d c.p)] h = some (.c (.a (.d (.bool false))), h') ∧ DAt h' i j1 j2 v { D with ca := IntKind.wrap .i64 (D.ca - 1) } ∧ Same h h' i j1 j2 := by
  let D1 : DD := { D with ca := IntKind.wrap .i64 (D.ca - 1) }
  let h1 := hset h i (dcells D1 j1 j2 v)
  have e0 : ldV 1 false (.c (.a (.ptr i 10))) h = some (.c (.a (.d (.bool D.laid)))) := ld1 hd.hi (x := bC D.laid) rfl
  have e1 : ldV 1 false (.c (.a (.ptr i 7))) h = some (.c (.a (.d (.int .i64 D.ca)))) := ld1 hd.hi (x := iC D.ca) rfl
  have e2 : stV 1 (.c (.a (.ptr i 7))) (.c (.a (.d (.int .i64 (IntKind.wrap .i64 (D.ca - 1)))))) h = some (undefR, h1) := st1 hd.hi (show 7 < 11 by decide) rfl rfl
  refine ⟨h1, ?_, ?_, (Same.refl h i j1 j2).set (.inl rfl)⟩
  · apply callU_of
    rw [show c.p = .agg [.int .i64 c.k, .int .i64 c.x, .str c.s, .int .i64 c.n] from rfl, r41, e0]
    simp only [hl, Option.bind_some, bool?_B, Bool.not_true, cond_false, e1, int?_I, show decide (0 < D.ca) = true from decide_eq_true ha, cond_true, e2]
  · exact ⟨hset_same, by rw [hset_ne hd.n1]; exact hd.h1, by rw [hset_ne hd.n2]; exact hd.h2, hd.w, hd.n1, hd.n2, hd.n12, hd.li, hd.l1, hd.l2⟩
/-- A cut strikes. -/
theorem c41Hit {h : Hp} {i j1 j2 : Nat} {v : CV} {D : DD} {c : Chg} {L1 L2 : List Tx} (hd : DAt h i j1 j2 v D) (hl : D.laid = true) (ha : ¬ 0 < D.ca) (hdn : D.down = false) (hlen : D.sure.length < 1000000) (hw : D.wait.length < 999999)
    (hrun : Runs ((D.wait ++ [c]).take (keepN D.ck (D.wait ++ [c]).length)) D.sure L1) (htorn : TornR (D.wait ++ [c]) (keepN D.ck (D.wait ++ [c]).length) D.ct L1 L2) :
    ∃ h' j2', callU E false 41 [.a (.ptr i 0), .a (.d c.p)] h = some (.c (.a (.d (.bool true))), h') ∧ DAt h' i j1 j2' (.a (.d (.sl 0 true []))) (fallen { D with laid := false, wait := D.wait ++ [c], sure := L2 }) ∧ h.nx ≤ h'.nx ∧ ∀ k, k < h.nx → k ≠ i → k ≠ j1 → k ≠ j2 → h'.m k = h.m k := by
  let D1 : DD := { D with laid := false }
  let v' : CV := .ow 4 false ((D.wait ++ [c]).map Chg.p)
  let D2 : DD := { D1 with wait := D.wait ++ [c] }
  let h1 := hset h i (dcells D1 j1 j2 v)
  let h2 := hset h1 i (dcells D1 j1 j2 v.dem)
  let h3 := hset h2 i (dcells D2 j1 j2 v')
  have m3 : ∀ k, k ≠ i → h3.m k = h.m k := fun k hk => by rw [hset_ne hk, hset_ne hk, hset_ne hk]
  have hd3 : DAt h3 i j1 j2 v' D2 := ⟨hset_same, by rw [m3 j1 hd.n1]; exact hd.h1, by rw [m3 j2 hd.n2]; exact hd.h2, .ow _, hd.n1, hd.n2, hd.n12, hd.li, hd.l1, hd.l2⟩
  obtain ⟨h', j2', e12, hd', hnx, hfr⟩ := c12 (k := D.ck) (t := D.ct) hd3 hdn hlen (by show (D.wait ++ [c]).length < _; simp; omega) hrun htorn
  have e0 : ldV 1 false (.c (.a (.ptr i 10))) h = some (.c (.a (.d (.bool D.laid)))) := ld1 hd.hi (x := bC D.laid) rfl
  have e1 : ldV 1 false (.c (.a (.ptr i 7))) h = some (.c (.a (.d (.int .i64 D.ca)))) := ld1 hd.hi (x := iC D.ca) rfl
  have e2 : stV 1 (.c (.a (.ptr i 10))) (.c (.a (.d (.bool false)))) h = some (undefR, h1) := st1 hd.hi (show 10 < 11 by decide) rfl rfl
  have e3 : ldOwnV 1 false (.c (.a (.ptr i 3))) h1 = some (.c v, h2) := ldOwn1 hset_same (x := v) rfl
  have e4 : stV 1 (.c (.a (.ptr i 3))) (.c v') h2 = some (undefR, h3) := st1Ow hset_same (show 3 < 11 by decide)
  have e5 : ldV 1 false (.c (.a (.ptr i 8))) (limH true h3.nx h3) = some (.c (.a (.d (.int .i64 D.ck)))) := ld1 (cs := dcells D2 j1 j2 v') (by rw [limH_m (show i < h3.nx from hd.li)]; exact hset_same) (x := iC D.ck) rfl
  have e6 : ldV 1 false (.c (.a (.ptr i 9))) (limH true h3.nx h3) = some (.c (.a (.d (.int .i64 D.ct)))) := ld1 (cs := dcells D2 j1 j2 v') (by rw [limH_m (show i < h3.nx from hd.li)]; exact hset_same) (x := iC D.ct) rfl
  have e7 := appW hd.w c (by omega)
  refine ⟨h', j2', ?_, hd', hnx, fun k hk h1' h2' h3' => by rw [hfr k hk h1' h2' h3', m3 k h1']⟩
  apply callU_of
  rw [show c.p = .agg [.int .i64 c.k, .int .i64 c.x, .str c.s, .int .i64 c.n] from rfl] at e7 ⊢
  rw [r41, e0]
  simp only [hl, Option.bind_some, bool?_B, Bool.not_true, cond_false, e1, int?_I, show decide (0 < D.ca) = false from decide_eq_false ha, e2, e3, bs59, rv?_r, dem_ow]
  rw [show Chg.p ⟨c.k, c.x, c.s, c.n⟩ = .agg [.int .i64 c.k, .int .i64 c.x, .str c.s, .int .i64 c.n] from rfl, e7]
  simp only [Option.bind_some, rv?_r]
  rw [show (RV.c (.ow 4 false ((D.wait ++ [c]).map Chg.p))) = .c v' from rfl, e4]
  simp only [Option.bind_some, e5, e6, int?_I, e12]
/-- An append that a cut strikes. -/
theorem c11Hit {h h' : Hp} {i j1 j2 m : Nat} {v : CV} {D : DD} {s t : Tx} (hd : DAt h i j1 j2 v D) (hdn : D.down = false) (ht : D.now[m]? = some t) (hroom : (s.length : Int) ≤ D.room - t.length) (hr1 : D.room ≤ 65536)
    (hs : callU E false 41 [.a (.ptr i 0), .a (.d (Chg.p ⟨0, m, s, 0⟩))] h = some (.c (.a (.d (.bool true))), h')) :
    callU E false 11 [.a (.ptr i 0), .a (.d (.int .i64 m)), .a (.d (.str s))] h = some (.c (.a (.d (.int .i64 9))), h') := by
  have hlt : m < D.now.length := (List.getElem?_eq_some_iff.1 ht).1
  have e33 : callU E false 33 [.a (.ptr i 0), .a (.d (Chg.p ⟨0, m, s, 0⟩))] h = some (.c (.a (.d (.int .i64 9))), h') := by
    apply callU_of
    rw [show Chg.p ⟨0, m, s, 0⟩ = .agg [.int .i64 0, .int .i64 m, .str s, .int .i64 0] from rfl] at hs ⊢
    rw [r33, hs]
    rfl
  have hask : askE D m = 0 := by simp [askE, hdn]; omega
  have l0 : ldV 1 false (.c (.a (.ptr i 0))) (limH true h.nx h) = some (.c (.a (.d (.int .i64 D.room)))) := ld1 (cs := dcells D j1 j2 v) (by rw [limH_m hd.li]; exact hd.hi) (x := iC D.room) rfl
  have l2 : ldV 1 false (.c (.a (.ptr i 2))) (limH true h.nx h) = some (.c (.a (.ms j2 0 D.now.length D.now.length))) := ld1 (cs := dcells D j1 j2 v) (by rw [limH_m hd.li]; exact hd.hi) (x := .a (.ms j2 0 D.now.length D.now.length)) rfl
  have l3 : ldV 1 false (.c (.a (.ptr j2 m))) (limH true h.nx h) = some (.c (.a (.d (.str t)))) := ld1 (by rw [limH_m hd.l2]; exact hd.h2) (map_get ht)
  have hw : IntKind.wrap .i64 (D.room - Int.ofNat t.length) = D.room - t.length := wr (by show _ ≤ D.room - (t.length : Int); omega) (by show D.room - (t.length : Int) ≤ _; omega)
  have hc : decide (D.room - (t.length : Int) < Int.ofNat s.length) = false := by simp; omega
  apply callU_of
  rw [r11, c32 hd, hask]
  rw [show Chg.p ⟨0, m, s, 0⟩ = .agg [.int .i64 0, .int .i64 m, .str s, .int .i64 0] from rfl] at e33
  simp only [Option.bind_some, int?_I, decide_true, Bool.not_true, cond_false, l0, l2, dem_a, ia22Ms, inb_nat hlt, grd_true, rv?_r, Int.toNat_natCast, Nat.zero_add, Nat.mul_one, l3, str?_S, hw, hc, e33]
/-- Sync. -/
theorem c19 {h : Hp} {i j1 j2 : Nat} {v : CV} {D : DD} (hd : DAt h i j1 j2 v D) (hdn : D.down = false) (hlen : D.now.length < 1000000) (hl : D.sure.length = D.now.length) : ∃ h' j1', callU E false 19 [.a (.ptr i 0)] h = some (.c (.a (.d (.int .i64 0))), h') ∧ DAt h' i j1' j2 (.a (.d (.sl 0 true []))) { D with sure := D.now, wait := [] } ∧ h.nx ≤ h'.nx ∧ ∀ k, k < h.nx → k ≠ i → k ≠ j1 → k ≠ j2 → h'.m k = h.m k := by
  let n := D.now.length
  let D2 : DD := { D with sure := D.now }
  let D3 : DD := { D2 with wait := [] }
  let nl : CV := .a (.d (.sl 0 true []))
  let g1 := hset (hreg h 4) (h.nx + 2) (D.now.map sC)
  let g2 := hset g1 i (dcells D2 (h.nx + 2) j2 v)
  let g3 := hset g2 i (dcells D3 (h.nx + 2) j2 nl)
  have hli := hd.li
  have hl2 := hd.l2
  have k1 : g1.m i = some (dcells D j1 j2 v) := by rw [hset_ne (by omega), hreg_m]; exact hd.hi
  have kk : ∀ k, k ≠ i → g3.m k = g1.m k := fun k hk => by rw [hset_ne hk, hset_ne hk]
  have e1 : ldV 1 false (.c (.a (.ptr i 2))) h = some (.c (.a (.ms j2 0 n n))) := ld1 hd.hi (x := .a (.ms j2 0 n n)) rfl
  have e2 : callU E true 35 [.a (.ms j2 0 n n)] h = some (.c (.a (.ms (h.nx + 2) 0 n n)), g1) := c35 hd.h2 hlen
  have e3 : stV 1 (.c (.a (.ptr i 1))) (.c (.a (.ms (h.nx + 2) 0 n n))) g1 = some (undefR, g2) := st1 k1 (show 1 < 11 by decide) rfl rfl
  have e4 : stV 1 (.c (.a (.ptr i 3))) (.c (.a (.d (.sl 0 true [])))) g2 = some (undefR, g3) := st1 hset_same (show 3 < 11 by decide) rfl rfl
  refine ⟨g3, h.nx + 2, ?_, ?_, by show h.nx ≤ h.nx + 4; omega, ?_⟩
  · apply callU_of
    rw [r19, c16 hd]
    simp only [Option.bind_some, bool?_B, hdn, cond_false, e1]
    show Option.bind (callU E true 35 [.a (.ms j2 0 n n)] h) _ = _
    rw [e2]
    simp only [Option.bind_some, e3, e4]
  · refine ⟨hset_same, ?_, ?_, .nil, by omega, hd.n2, by omega, by show i < h.nx + 4; omega, by show h.nx + 2 < h.nx + 4; omega, by show j2 < h.nx + 4; omega⟩
    · rw [kk _ (by omega)]; exact hset_same
    · rw [kk j2 hd.n2, hset_ne (by omega), hreg_m]; exact hd.h2
  · intro k hk hki h1 h2
    rw [kk k hki, hset_ne (by omega), hreg_m]
end Go.Abs.T10
