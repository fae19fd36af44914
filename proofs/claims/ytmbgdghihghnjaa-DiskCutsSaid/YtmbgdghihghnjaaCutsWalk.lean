/- DiskCuts: the walk. -/
import Derived.Test.YtmbgdghihghnjaaDiskMore
import Derived.Test.YtmbgdghihghnjaaLosesWalk
import Derived.Test.YtmbgdghihghnjaaCutsRes
set_option linter.unusedVariables false
set_option linter.unusedSimpArgs false
namespace Go.Abs.T10
open Go.Abs

/-- The disk behind x appends of one byte. -/
def D4 (A k t : Int) (x : Nat) : DD := ⟨100, [[]], [List.replicate x 120], List.replicate x (mkc [120]), x, 0, false, A - x, k, t, true⟩
def st4 (k t : Int) (i n x : Nat) (h : Hp) : St := ⟨[(1, .r (.c (.a (.d (.int .i64 k))))), (2, .r (.c (.a (.d (.int .i64 t))))), (7, .r (.c (.a (.ptr i 0)))), (8, .r (.c (.a (.d (.int .i64 n))))), (9, .r (.c (.a (.d (.int .i64 x)))))], [], h⟩
def st4e (k t : Int) (i n x : Nat) (h : Hp) : St := ⟨[(1, .r (.c (.a (.d (.int .i64 k))))), (2, .r (.c (.a (.d (.int .i64 t))))), (7, .r (.c (.a (.ptr i 0)))), (8, .r (.c (.a (.d (.int .i64 n))))), (9, .r (.c (.a (.d (.int .i64 x))))), (36, .r (.c (.a (.d (.bool (decide ((x : Int) < (n : Int))))))))], [], h⟩
theorem round4 {A k t : Int} {i j1 j2 x n : Nat} {v : CV} {h : Hp} (hA : A ≤ 12) (hn : (n : Int) = max A 0) (hx : x < n) (hd : DAt h i j1 j2 v (D4 A k t x)) :
    ∃ h' v', LB E false 4 7 (st4 k t i n x h) = some (.norm, st4 k t i n (x + 1) h') ∧ DAt h' i j1 j2 v' (D4 A k t (x + 1)) := by
  have hA1 : (n : Int) = A := by omega
  obtain ⟨h1, e41, hd1, _⟩ := c41Dec hd (mkc [120]) rfl (show 0 < A - (x : Int) by omega)
  have hw0 : IntKind.wrap .i64 (A - (x : Int) - 1) = A - ((x + 1 : Nat) : Int) := by rw [wr (by omega) (by omega)]; omega
  obtain ⟨h', e11, hd', _⟩ := c11Ok (m := 0) (s := [120]) (t := List.replicate x 120) hd rfl rfl (by show (1 : Int) ≤ 100 - ((List.replicate x (120 : UInt8)).length : Int); rw [List.length_replicate]; omega) (show (100 : Int) ≤ 65536 by decide) e41 hd1 rfl (by show (List.replicate x (mkc [120])).length < _; rw [List.length_replicate]; omega)
  have e11' : callU E false 11 [.a (.ptr i 0), .a (.d (.int .i64 0)), .a (.d (.str [120]))] h = some (.c (.a (.d (.int .i64 0))), h') := e11
  have hw1 : IntKind.wrap .i64 ((x : Int) + 1) = ((x + 1 : Nat) : Int) := by rw [wr (by omega) (by omega)]; simp
  have he : changed { D4 A k t x with ca := IntKind.wrap .i64 (A - (x : Int) - 1) } ⟨0, ((0 : Nat) : Int), [120], 0⟩ 0 (List.replicate x 120) = D4 A k t (x + 1) := by
    simp only [changed, D4, hw1, hw0]
    simp [chgF, mkc, List.replicate_succ']
  refine ⟨h', .ow 4 false ((List.replicate x (mkc [120]) ++ [(⟨0, ((0 : Nat) : Int), [120], 0⟩ : Chg)]).map Chg.p), ?_, by rw [← he]; exact hd'⟩
  unfold st4
  rw [rL4]
  simp only [show decide ((x : Int) < (n : Int)) = true from decide_eq_true (by omega), cond_true, e11', Option.bind_some, int?_I, decide_true, Bool.not_true, cond_false, hw1]
theorem loop4 {A k t : Int} {i j1 j2 n : Nat} (hA : A ≤ 12) (hn : (n : Int) = max A 0) : ∀ (r x : Nat) {v : CV} {h : Hp}, n - x = r → x ≤ n → DAt h i j1 j2 v (D4 A k t x) →
    ∃ h' v', loopU (LB E false 4 7) (st4 k t i n x h) = some (.exit 0, st4e k t i n n h') ∧ DAt h' i j1 j2 v' (D4 A k t n) := by
  intro r
  induction r with
  | zero =>
    intro x v h hr hx hd
    have hxn : x = n := by omega
    subst hxn
    refine ⟨h, v, loopU_out ?_ (by simp), hd⟩
    unfold st4 st4e
    rw [rL4]
    simp
  | succ r ih =>
    intro x v h hr hx hd
    obtain ⟨h1, v1, e1, hd1⟩ := round4 hA hn (by omega) hd
    obtain ⟨h', v', e2, hd'⟩ := ih (x + 1) (by omega) (by omega) hd1
    exact ⟨h', v', loopU_norm e1 e2, hd'⟩
theorem ones : ∀ (ts : List Tx), (∀ s ∈ ts, s.length = 1) → ts.flatten.length = ts.length := by
  intro ts
  induction ts with
  | nil => intro _; rfl
  | cons s ts ih =>
    intro h
    rw [List.flatten_cons, List.length_append, ih fun u hu => h u (by simp [hu]), h s (by simp)]
    simp; omega
/-- What follows: one append more, and Sync. -/
theorem zed {h : Hp} {i j1 j2 : Nat} {v : CV} {D : DD} {left : Tx} (hd : DAt h i j1 j2 v D) (h0 : D.room = 100) (h1 : D.now = [left]) (h2 : D.sure = [left]) (h3 : D.wait = []) (h4 : D.down = false) (h5 : D.laid = false) (hl : left.length ≤ 20) :
    ∃ g1 g2, callU E false 11 [.a (.ptr i 0), .a (.d (.int .i64 0)), .a (.d (.str [122]))] h = some (.c (.a (.d (.int .i64 0))), g1) ∧ callU E false 19 [.a (.ptr i 0)] g1 = some (.c (.a (.d (.int .i64 0))), g2) ∧ callU E false 16 [.a (.ptr i 0)] g2 = some (.c (.a (.d (.bool false))), g2) := by
  obtain ⟨g1, e11, hd1, _⟩ := c11Ok (m := 0) (s := [122]) (t := left) hd h4 (by rw [h1]; rfl) (by rw [h0]; show (1 : Int) ≤ 100 - (left.length : Int); omega) (by rw [h0]; decide) (c41No hd _ h5) hd rfl (by rw [h3]; decide)
  obtain ⟨g2, j1', e19, hd2, _, _⟩ := c19 hd1 h4 (by simp [changed, h1]) (by simp [changed, h1, h2])
  refine ⟨g1, g2, e11, e19, ?_⟩
  have := c16 (q := false) hd2
  rw [show (({ changed D ⟨0, ((0 : Nat) : Int), [122], 0⟩ 0 left with sure := (changed D ⟨0, ((0 : Nat) : Int), [122], 0⟩ 0 left).now, wait := [] } : DD)).down = D.down from rfl, h4] at this
  exact this

theorem end4 {A k t : Int} {i j1 j2 n : Nat} {v : CV} {h : Hp} (hA : A ≤ 12) (hn : (n : Int) = max A 0) (hd : DAt h i j1 j2 v (D4 A k t n)) :
    ∃ h', K4 (.exit 0, st4e k t i n n h) = some (.c (.a (.d (.bool true))), h') := by
  let ts : List Tx := List.replicate n [120] ++ [[121]]
  let K := keepN k (n + 1)
  let a := (ts.take K).flatten
  let left := a ++ tornS ts K t
  have hn12 : n ≤ 12 := by omega
  have htl : ts.length = n + 1 := by simp [ts]
  have hone : ∀ s ∈ ts, s.length = 1 := by
    intro s hs
    simp only [ts, List.mem_append, List.mem_replicate, List.mem_singleton] at hs
    rcases hs with ⟨_, rfl⟩ | rfl <;> rfl
  have hKn : K ≤ n + 1 := Nat.min_le_right _ _
  have hal : a.length = K := by
    show (ts.take K).flatten.length = K
    rw [ones _ fun s hs => hone s (List.mem_of_mem_take hs), List.length_take, htl]; omega
  have hmap : (D4 A k t n).wait ++ [mkc [121]] = ts.map mkc := by simp [D4, ts]
  have hlen1 : ((D4 A k t n).wait ++ [mkc [121]]).length = n + 1 := by simp [D4]
  have hs1 : ∀ (m : Nat) (s : Tx), ts[m]? = some s → s.length ≤ 100 := fun m s hm => by rw [hone s (List.mem_of_getElem? hm)]; decide
  have hrun : Runs (((D4 A k t n).wait ++ [mkc [121]]).take (keepN (D4 A k t n).ck ((D4 A k t n).wait ++ [mkc [121]]).length)) (D4 A k t n).sure [a] := by
    rw [hlen1, hmap, ← List.map_take]
    exact runs_mk (ts.take K) [] (by show 0 + a.length ≤ _; omega)
  have htorn : TornR ((D4 A k t n).wait ++ [mkc [121]]) (keepN (D4 A k t n).ck ((D4 A k t n).wait ++ [mkc [121]]).length) (D4 A k t n).ct [a] [left] := by
    rw [hlen1, hmap]
    exact torn_mk ts K t a (by omega) hs1
  have hnl : ((List.replicate n (120 : UInt8)).length : Int) = n := by rw [List.length_replicate]
  obtain ⟨h1, k2, e41, hd1, _, _⟩ := c41Hit (c := mkc [121]) hd rfl (by show ¬ (0 < A - (n : Int)); omega) rfl (show 1 < 1000000 by decide) (by show (List.replicate n (mkc [120])).length < _; rw [List.length_replicate]; omega) hrun htorn
  have e11 : callU E false 11 [.a (.ptr i 0), .a (.d (.int .i64 0)), .a (.d (.str [121]))] h = some (.c (.a (.d (.int .i64 9))), h1) := c11Hit (m := 0) (s := [121]) (t := List.replicate n 120) hd rfl rfl (by show (1 : Int) ≤ 100 - ((List.replicate n (120 : UInt8)).length : Int); omega) (show (100 : Int) ≤ 65536 by decide) e41
  have e16 : callU E false 16 [.a (.ptr i 0)] h1 = some (.c (.a (.d (.bool true))), h1) := c16 hd1
  have e17 : callU E false 17 [.a (.ptr i 0)] h1 = some (.c (.a (.d (.int .i64 0))), h1) := c17 hd1
  have e18 : callU E false 18 [.a (.ptr i 0)] h1 = some (.c (.a (.d (.int .i64 n))), h1) := c18 hd1
  obtain ⟨h2, e13', hd2, _⟩ := c13 hd1
  have e13 : callU E false 13 [.a (.ptr i 0)] h1 = some (.c (.a (.d (.bool true))), h2) := e13'
  have e14 : callU E false 14 [.a (.ptr i 0), .a (.d (.int .i64 0))] h2 = some (.tup [.a (.d (.str left)), .a (.d (.int .i64 0))], h2) := c14 (m := 0) (t := left) hd2 rfl rfl
  have hll : left.length = K + (tornS ts K t).length := by
    have : left.length = a.length + (tornS ts K t).length := List.length_append
    omega
  have htn : (tornS ts K t).length = if K ≤ n ∧ 0 < t then 1 else 0 := by
    unfold tornS
    by_cases hK : K ≤ n
    · have hg : ts[K]? = some ts[K] := List.getElem?_eq_getElem (by omega)
      have h1' := hone ts[K] (List.getElem_mem _)
      rw [hg]
      by_cases ht : 0 < t
      · simp only [hK, ht, and_self, if_true, List.length_take, h1']; omega
      · simp [ht]
    · have hg : ts[K]? = none := List.getElem?_eq_none (by omega)
      rw [hg]; simp [hK]
  obtain ⟨g1, g2, z11, z19, z16⟩ := zed (left := left) hd2 rfl rfl rfl rfl rfl rfl (by rw [hll, htn]; split <;> omega)
  refine ⟨g2, ?_⟩
  unfold st4e
  rw [r4b, look0, e11]
  have p16 : (Option.bind (cvsS [(SV.r (RV.dem (.c (.a (.ptr i 0)))))]) (fun v3 => (callU E false 16 (passCV [] 0 v3) h1))) = some (.c (.a (.d (.bool true))), h1) := bind1 e16
  have p17 : (Option.bind (cvsS [(SV.r (RV.dem (.c (.a (.ptr i 0)))))]) (fun v3 => (callU E false 17 (passCV [] 0 v3) h1))) = some (.c (.a (.d (.int .i64 0))), h1) := bind1 e17
  have p18 : (Option.bind (cvsS [(SV.r (RV.dem (.c (.a (.ptr i 0)))))]) (fun v3 => (callU E false 18 (passCV [] 0 v3) h1))) = some (.c (.a (.d (.int .i64 n))), h1) := bind1 e18
  have p13 : (Option.bind (cvsS [(SV.r (RV.dem (.c (.a (.ptr i 0)))))]) (fun v3 => (callU E false 13 (passCV [] 0 v3) h1))) = some (.c (.a (.d (.bool true))), h2) := bind1 e13
  have q19 : (Option.bind (cvsS [(SV.r (RV.dem (.c (.a (.ptr i 0)))))]) (fun v3 => (callU E false 19 (passCV [11] 0 v3) g1))) = some (.c (.a (.d (.int .i64 0))), g2) := bind1 z19
  have q16 : (Option.bind (cvsS [(SV.r (RV.dem (.c (.a (.ptr i 0)))))]) (fun v3 => (callU E false 16 (passCV [] 0 v3) g2))) = some (.c (.a (.d (.bool false))), g2) := bind1 z16
  have x0 : extr 0 (SV.r (RV.dem (RV.dem (.tup [.a (.d (.str left)), .a (.d (.int .i64 0))])))) = some (.r (.c (.a (.d (.str left))))) := rfl
  have x1 : extr 1 (SV.r (RV.dem (RV.dem (.tup [.a (.d (.str left)), .a (.d (.int .i64 0))])))) = some (.r (.c (.a (.d (.int .i64 0))))) := rfl
  have hw : IntKind.wrap .i64 ((n : Int) + 1) = ((n + 1 : Nat) : Int) := by rw [wr (by omega) (by omega)]; simp
  have hwant : (cond (decide (((n + 1 : Nat) : Int) < (cond (decide (k < 0)) 0 k))) ((n + 1 : Nat) : Int) (cond (decide (k < 0)) 0 k)) = (K : Int) := keepN_eq k (n + 1)
  simp only [Option.bind_some, int?_I, decide_true, Bool.not_true, Bool.not_false, gdK_true, cond_true, cond_false, p16, bool?_B, p17, p18, p13, gdK_some', e14, x0, x1, rv?_r, str?_S, hw, hwant]
  by_cases hK : K ≤ n
  · rw [show decide ((K : Int) ≤ (n : Int)) = true from decide_eq_true (by omega)]
    by_cases ht : 0 < t
    · rw [show decide (0 < t) = true from decide_eq_true ht]
      have hfin : decide (Int.ofNat left.length = IntKind.wrap .i64 ((K : Int) + 1)) = true := decide_eq_true (by
        rw [wr (by omega) (by omega)]; show (left.length : Int) = _; rw [hll, htn, if_pos ⟨hK, ht⟩]; simp)
      simp only [cond_true, hfin, Bool.not_true, cond_false, z11, Option.bind_some, int?_I, decide_true, gdK_true, q19, q16, bool?_B, Bool.not_false]
    · rw [show decide (0 < t) = false from decide_eq_false ht]
      have hfin : decide (Int.ofNat left.length = (K : Int)) = true := decide_eq_true (by
        show (left.length : Int) = _; rw [hll, htn, if_neg (fun h => ht h.2)]; simp)
      simp only [cond_true, cond_false, hfin, Bool.not_true, z11, Option.bind_some, int?_I, decide_true, gdK_true, q19, q16, bool?_B, Bool.not_false]
  · rw [show decide ((K : Int) ≤ (n : Int)) = false from decide_eq_false (by omega)]
    have hfin : decide (Int.ofNat left.length = (K : Int)) = true := decide_eq_true (by
      show (left.length : Int) = _; rw [hll, htn, if_neg (fun h => hK h.1)]; simp)
    simp only [cond_true, cond_false, hfin, Bool.not_true, z11, Option.bind_some, int?_I, decide_true, gdK_true, q19, q16, bool?_B, Bool.not_false]

/-- DiskCuts is true. -/
theorem law4 (A k t : Int) : ∃ h', callU E false 4 [.a (.d (.int .i64 A)), .a (.d (.int .i64 k)), .a (.d (.int .i64 t))] h0 = some (.c (.a (.d (.bool true))), h') := by
  obtain ⟨ha, e10⟩ := c10
  obtain ⟨h1, e9, hd, _, _⟩ := c9 (h := ⟨fun _ => none, 0⟩) (M := 1) (n := 100) (by decide) (by decide) (by decide) (by decide)
  have e9' : callU E false 9 [.a (.d (.int .i64 1)), .a (.d (.int .i64 100))] ⟨fun _ => none, 0⟩ = some (.c (.a (.ptr 6 0)), h1) := e9
  have main : ∃ h', evF E (callU E) loopU false 4 [.a (.d (.int .i64 A)), .a (.d (.int .i64 k)), .a (.d (.int .i64 t))] h0 = some (.c (.a (.d (.bool true))), h') := by
    rw [r4, e9']
    simp only [Option.bind_some, e10]
    have hdat : RV.data? (.c (.a (.d (.bool true)))) = some (.c (.a (.d (.bool true)))) := rfl
    have hav : avsS [(SV.r (RV.dem (RV.dem (RV.dem (.c (.a (.ptr 6 0))))))), (SV.r (RV.c (CV.a (AV.d PV.nilp))))] = some [.ptr 6 0, .d .nilp] := rfl
    simp only [hdat, Option.bind_some, rv?_r, bool?_B, Bool.not_true, Bool.not_false, gdK_true, hav, eql23, cond_false, gdK_some']
    by_cases hA : A ≤ 12
    · rw [show decide (12 < A) = false from decide_eq_false (by omega)]
      simp only [cond_false]
      obtain ⟨h2, e15, hd2, _⟩ := c15 hd A k t
      have p15 : (Option.bind (cvsS [(SV.r (RV.dem (RV.dem (RV.dem (.c (.a (.ptr 6 0))))))), (SV.r (RV.c (CV.a (AV.d (PV.agg [(PV.int IntKind.i64 A), (PV.int IntKind.i64 k), (PV.int IntKind.i64 t)])))))]) (fun v12 => (callU E false 15 (passCV [] 0 v12) h1))) = some (.tup [], h2) := bind2 e15
      rw [p15, LB_eq]
      simp only [Option.bind_some]
      have hn : ((max A 0).toNat : Int) = max A 0 := by omega
      have hd4 : DAt h2 6 2 4 (.a (.d (.sl 0 true []))) (D4 A k t 0) := by
        have he : ({ newD 1 100 with ca := A, ck := k, ct := t, laid := true } : DD) = D4 A k t 0 := by
          simp [newD, D4]
        rw [← he]; exact hd2
      obtain ⟨h', v', e, hd'⟩ := loop4 (n := (max A 0).toNat) hA hn _ 0 rfl (Nat.zero_le _) hd4
      have hc : (cond (decide (A < 0)) 0 A) = (((max A 0).toNat : Nat) : Int) := by
        by_cases h0 : A < 0
        · rw [show decide (A < 0) = true from decide_eq_true h0]; show (0 : Int) = _; omega
        · rw [show decide (A < 0) = false from decide_eq_false h0]; show A = _; omega
      rw [hc]
      have e' : loopU (LB E false 4 7) ⟨[(1, (SV.r (RV.c (CV.a (AV.d (PV.int IntKind.i64 k)))))), (2, (SV.r (RV.c (CV.a (AV.d (PV.int IntKind.i64 t)))))), (7, (SV.r (RV.dem (RV.dem (.c (.a (.ptr 6 0))))))), (8, (SV.r (RV.c (CV.a (AV.d (PV.int IntKind.i64 (((max A 0).toNat : Nat) : Int))))))), (9, (SV.r (RV.c (CV.a (AV.d (PV.int IntKind.i64 0))))))], [], h2⟩ = some (.exit 0, st4e k t 6 (max A 0).toNat (max A 0).toNat h') := e
      rw [e', Option.bind_some]
      exact end4 hA hn hd'
    · rw [show decide (12 < A) = true from decide_eq_true (by omega)]
      exact ⟨h1, rfl⟩
  obtain ⟨h', e⟩ := main
  exact ⟨h', callU_of e⟩
end Go.Abs.T10
