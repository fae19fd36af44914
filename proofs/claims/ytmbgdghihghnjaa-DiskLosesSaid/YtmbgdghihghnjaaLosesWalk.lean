/- DiskLoses: the walk. -/
import Derived.Test.YtmbgdghihghnjaaDiskWalk
import Derived.Test.YtmbgdghihghnjaaLosesRes
set_option linter.unusedVariables false
set_option linter.unusedSimpArgs false
namespace Go.Abs.T10
open Go.Abs

theorem c10 : ∃ h', callU E false 10 [] ⟨fun _ => none, 0⟩ = some (.c (.a (.d (.bool true))), h') := by
  have h := (show ((ev E 12 false 10 [] ⟨fun _ => none, 0⟩).map (·.1)) = some (.c (.a (.d (.bool true)))) by kernel_rfl)
  cases hr : ev E 12 false 10 [] ⟨fun _ => none, 0⟩ with
  | none => rw [hr] at h; cases h
  | some r =>
    rw [hr] at h
    obtain ⟨x, h'⟩ := r
    cases h
    exact ⟨h', callU_ev hr⟩
theorem add9 (a b : Tx) : bin2 E.P 9 BinOp.add false [.d (.str a), .d (.str b)] = (grd (decide (Int.ofNat (a.length + b.length) ≤ 9223372036854775807)) (.c (.a (.d (.str (a ++ b)))))).bind fun v => some (.r v) := by kernel_rfl
theorem eql23 (i : Nat) : bin2 E.P 23 BinOp.eql true [.ptr i 0, .d .nilp] = some (.r (.c (.a (.d (.bool false))))) := by kernel_rfl
theorem lbeq (a : Tx) : List.beq a a = true := by
  induction a with
  | nil => rfl
  | cons x a ih => simp [List.beq, ih]
def mkc (s : Tx) : Chg := ⟨0, 0, s, 0⟩
def pS (ts : List Tx) : List PV := ts.map .str
theorem getS {ts : List Tx} {x : Nat} {s : Tx} (h : ts[x]? = some s) : (pS ts).getD x .nilp = .str s := by
  simp [pS, List.getD_eq_getElem?_getD, h]
/-- The law's loop: its state behind x texts. -/
def st3 (nl : Bool) (ts : List Tx) (keep torn : Int) (i : Nat) (all : Tx) (m x : Nat) (h : Hp) : St := ⟨[(0, .r (.c (.a (.d (.sl 1 nl (pS ts)))))), (1, .r (.c (.a (.d (.int .i64 keep))))), (2, .r (.c (.a (.d (.int .i64 torn))))), (7, .r (.c (.a (.ptr i 0)))), (8, .r (.c (.a (.d (.str all))))), (9, .r (.c (.a (.d (.int .i64 m))))), (10, .r (.c (.a (.d (.int .i64 x)))))], [], h⟩
/-- The disk behind x texts. -/
def D3 (ts : List Tx) (x : Nat) : DD := ⟨3000, [[]], [(ts.take x).flatten], (ts.take x).map mkc, x, 0, false, 0, 0, 0, false⟩
def least (ts : List Tx) (keep : Int) (x : Nat) : Nat := (ts.take (min keep.toNat x)).flatten.length

theorem take_succ' {ts : List Tx} {x : Nat} {s : Tx} (h : ts[x]? = some s) : ts.take (x + 1) = ts.take x ++ [s] := by
  rw [List.take_add_one, h]; rfl
theorem flat_succ {ts : List Tx} {x : Nat} {s : Tx} (h : ts[x]? = some s) : (ts.take (x + 1)).flatten = (ts.take x).flatten ++ s := by
  rw [take_succ' h]; simp
theorem flat_le {ts : List Tx} : ∀ (x : Nat), (∀ k s, k < x → ts[k]? = some s → s.length ≤ 100) → (ts.take x).flatten.length ≤ 100 * x := by
  intro x
  induction x with
  | zero => intro _; simp
  | succ x ih =>
    intro h
    have h1 := ih fun k s hk => h k s (by omega)
    cases hx : ts[x]? with
    | none => rw [List.take_add_one, hx]; simp; simp at h1; omega
    | some s =>
      rw [flat_succ hx, List.length_append]
      have := h x s (by omega) hx
      omega
theorem least_succ {ts : List Tx} {keep : Int} {x : Nat} (hk : ¬ ((x : Int) < keep)) : least ts keep (x + 1) = least ts keep x := by
  unfold least
  rw [show min keep.toNat (x + 1) = min keep.toNat x by omega]
theorem least_lt {ts : List Tx} {keep : Int} {x : Nat} (hk : (x : Int) < keep) : least ts keep (x + 1) = (ts.take (x + 1)).flatten.length := by
  unfold least
  rw [show min keep.toNat (x + 1) = x + 1 by omega]

/-- One round. -/
theorem round3 {nl : Bool} {ts : List Tx} {keep torn : Int} {i j1 j2 x : Nat} {v : CV} {h : Hp} {s : Tx} (hn : ts.length ≤ 20) (hx : ts[x]? = some s) (hl : s.length ≤ 100) (hb : ∀ k s, k < x → ts[k]? = some s → s.length ≤ 100) (hd : DAt h i j1 j2 v (D3 ts x)) :
    ∃ h' v', LB E false 3 7 (st3 nl ts keep torn i (ts.take x).flatten (least ts keep x) x h) = some (.norm, st3 nl ts keep torn i (ts.take (x + 1)).flatten (least ts keep (x + 1)) (x + 1) h') ∧ DAt h' i j1 j2 v' (D3 ts (x + 1)) := by
  have hlt : x < ts.length := (List.getElem?_eq_some_iff.1 hx).1
  have hfl := flat_le x hb
  have hroom : (s.length : Int) ≤ 3000 - ((ts.take x).flatten.length : Int) := by omega
  obtain ⟨h', e11, hd', _⟩ := c11Ok (m := 0) (s := s) (t := (ts.take x).flatten) hd rfl rfl hroom (show (3000 : Int) ≤ 65536 by decide) (c41No hd _ rfl) hd rfl (by simp [D3]; omega)
  have hw1 : IntKind.wrap .i64 ((x : Int) + 1) = ((x + 1 : Nat) : Int) := by rw [wr (by omega) (by omega)]; simp
  refine ⟨h', .ow 4 false (((D3 ts x).wait ++ [(⟨0, ((0 : Nat) : Int), s, 0⟩ : Chg)]).map Chg.p), ?_, ?_⟩
  · unfold st3
    rw [rL3]
    have g1 : decide ((x : Int) < Int.ofNat (pS ts).length) = true := by simp [pS]; omega
    have g2 : inb (x : Int) (pS ts).length = true := inb_nat (by simpa [pS] using hlt)
    have g3 : decide (100 < Int.ofNat s.length) = false := by simp; omega
    have g4 : decide (Int.ofNat ((ts.take x).flatten.length + s.length) ≤ 9223372036854775807) = true := decide_eq_true (by show (((ts.take x).flatten.length + s.length : Nat) : Int) ≤ 9223372036854775807; omega)
    have lb : ldV 1 false (.c (.a (.d (.bx (PV.cells (.str s)))))) h = some (.c (.a (.d (.str s)))) := ld1Bx
    have e11' : callU E false 11 [.a (.ptr i 0), .a (.d (.int .i64 0)), .a (.d (.str s))] h = some (.c (.a (.d (.int .i64 0))), h') := e11
    simp only [g1, cond_true, g2, grd_true, Option.bind_some, rv?_r, Int.toNat_natCast, getS hx, dem_a, lb, str?_S, g3, cond_false, add9, g4, e11', int?_I, decide_true, Bool.not_true, hw1]
    by_cases hk : (x : Int) < keep
    · rw [show decide ((x : Int) < keep) = true by simp; exact hk, least_lt hk, flat_succ hx]; rfl
    · rw [show decide ((x : Int) < keep) = false by simp; omega, least_succ hk, flat_succ hx]; rfl
  · have he : changed (D3 ts x) ⟨0, (0 : Nat), s, 0⟩ 0 (ts.take x).flatten = D3 ts (x + 1) := by
      simp only [changed, D3, hw1]
      rw [take_succ' hx]
      simp [chgF, mkc]
    rw [← he]
    exact hd'

def st3e (nl : Bool) (ts : List Tx) (keep torn : Int) (i : Nat) (all : Tx) (m x : Nat) (h : Hp) : St := ⟨[(0, .r (.c (.a (.d (.sl 1 nl (pS ts)))))), (1, .r (.c (.a (.d (.int .i64 keep))))), (2, .r (.c (.a (.d (.int .i64 torn))))), (7, .r (.c (.a (.ptr i 0)))), (8, .r (.c (.a (.d (.str all))))), (9, .r (.c (.a (.d (.int .i64 m))))), (10, .r (.c (.a (.d (.int .i64 x))))), (32, .r (.c (.a (.d (.bool (decide ((x : Int) < Int.ofNat (pS ts).length)))))))], [], h⟩
theorem loop3 {nl : Bool} {ts : List Tx} {keep torn : Int} {i j1 j2 : Nat} (hn : ts.length ≤ 20) : ∀ (r : List Tx) (x : Nat) {v : CV} {h : Hp}, ts.drop x = r → x ≤ ts.length → (∀ k s, k < x → ts[k]? = some s → s.length ≤ 100) → DAt h i j1 j2 v (D3 ts x) →
    (∃ h', loopU (LB E false 3 7) (st3 nl ts keep torn i (ts.take x).flatten (least ts keep x) x h) = some (.ret, ⟨[(6, .r (.c (.a (.d (.bool true)))))], [], h'⟩)) ∨
    (∃ h' v', loopU (LB E false 3 7) (st3 nl ts keep torn i (ts.take x).flatten (least ts keep x) x h) = some (.exit 0, st3e nl ts keep torn i ts.flatten (least ts keep ts.length) ts.length h') ∧ DAt h' i j1 j2 v' (D3 ts ts.length) ∧ ∀ (k : Nat) (s : Tx), ts[k]? = some s → s.length ≤ 100) := by
  intro r
  induction r with
  | nil =>
    intro x v h hr hx hb hd
    have hxl : x = ts.length := by
      have := List.drop_eq_nil_iff.1 hr; omega
    subst hxl
    refine .inr ⟨h, v, loopU_out ?_ (by simp), hd, fun k s hk => hb k s (List.getElem?_eq_some_iff.1 hk).1 hk⟩
    unfold st3 st3e
    rw [rL3]
    rw [show decide ((ts.length : Int) < Int.ofNat (pS ts).length) = false by simp [pS]]
    simp
  | cons s r ih =>
    intro x v h hr hx hb hd
    have hxl : x < ts.length := by
      rcases Nat.lt_or_ge x ts.length with hl | hl
      · exact hl
      · rw [List.drop_of_length_le hl] at hr; cases hr
    rw [List.drop_eq_getElem_cons hxl] at hr
    simp only [List.cons.injEq] at hr
    have hget : ts[x]? = some s := by rw [List.getElem?_eq_getElem hxl, hr.1]
    by_cases hl : s.length ≤ 100
    · obtain ⟨h1, v1, e1, hd1⟩ := round3 (nl := nl) (keep := keep) (torn := torn) hn hget hl hb hd
      have hb1 : ∀ k u, k < x + 1 → ts[k]? = some u → u.length ≤ 100 := by
        intro k u hk hu
        by_cases hkx : k = x
        · subst hkx; rw [hget] at hu; cases hu; exact hl
        · exact hb k u (by omega) hu
      rcases ih (x + 1) hr.2 (by omega) hb1 hd1 with ⟨h', e2⟩ | ⟨h', v', e2, e3⟩
      · exact .inl ⟨h', loopU_norm e1 e2⟩
      · exact .inr ⟨h', v', loopU_norm e1 e2, e3⟩
    · refine .inl ⟨h, loopU_out ?_ (by simp)⟩
      unfold st3
      rw [rL3]
      have g1 : decide ((x : Int) < Int.ofNat (pS ts).length) = true := by simp [pS]; omega
      have g2 : inb (x : Int) (pS ts).length = true := inb_nat (by simpa [pS] using hxl)
      have g3 : decide (100 < Int.ofNat s.length) = true := by simp; omega
      have lb : ldV 1 false (.c (.a (.d (.bx (PV.cells (.str s)))))) h = some (.c (.a (.d (.str s)))) := ld1Bx
      simp only [g1, cond_true, g2, grd_true, Option.bind_some, rv?_r, Int.toNat_natCast, getS hget, dem_a, lb, str?_S, g3]

theorem runs_mk : ∀ (us : List Tx) (b : Tx), b.length + us.flatten.length ≤ 1000000 → Runs (us.map mkc) [b] [b ++ us.flatten] := by
  intro us
  induction us with
  | nil => intro b _; simpa using Runs.nil [b]
  | cons u us ih =>
    intro b hb
    simp only [List.flatten_cons, List.length_append] at hb
    refine .cons (mkc u) _ _ _ 0 b ⟨rfl, rfl, .inl ⟨rfl, by show b.length + u.length ≤ _; omega⟩⟩ ?_
    have := ih (b ++ u) (by simp only [List.length_append]; omega)
    simpa [chgF, mkc] using this
/-- What is torn off the next text. -/
def tornS (ts : List Tx) (K : Nat) (t : Int) : Tx := match ts[K]? with | some s => if 0 < t then s.take (min t.toNat s.length) else [] | none => []
theorem torn_mk (ts : List Tx) (K : Nat) (t : Int) (a : Tx) (ha : a.length ≤ 1000000) (hs : ∀ (k : Nat) (s : Tx), ts[k]? = some s → s.length ≤ 100) : TornR (ts.map mkc) K t [a] [a ++ tornS ts K t] := by
  unfold tornS
  cases hK : ts[K]? with
  | none =>
    have : TornR (ts.map mkc) K t [a] [a] := .no fun c hc => by simp [hK] at hc
    simpa using this
  | some s =>
    by_cases ht : 0 < t
    · have h1 := hs K s hK
      have := TornR.yes (w := ts.map mkc) (K := K) (t := t) (L := [a]) (mkc s) 0 a (by simp [hK]) ht rfl ⟨rfl, rfl, .inl ⟨rfl, by show a.length + (s.take _).length ≤ _; simp; omega⟩⟩
      simpa [chgF, tornC, mkc, ht] using this
    · have : TornR (ts.map mkc) K t [a] [a] := .no fun c hc h0 => absurd h0 ht
      simpa [ht] using this
theorem flat_split (ts : List Tx) (K : Nat) : ts.flatten = (ts.take K).flatten ++ (ts.drop K).flatten := by
  rw [← List.flatten_append, List.take_append_drop]
/-- What is left is a beginning of all. -/
theorem left_pre (ts : List Tx) (K : Nat) (t : Int) : ts.flatten.take ((ts.take K).flatten ++ tornS ts K t).length = (ts.take K).flatten ++ tornS ts K t ∧ ((ts.take K).flatten ++ tornS ts K t).length ≤ ts.flatten.length := by
  have key : ∃ rest, (ts.drop K).flatten = tornS ts K t ++ rest := by
    unfold tornS
    cases hK : ts[K]? with
    | none => exact ⟨_, rfl⟩
    | some s =>
      have hlt := (List.getElem?_eq_some_iff.1 hK).1
      have hg := (List.getElem?_eq_some_iff.1 hK).2
      by_cases ht : 0 < t
      · refine ⟨s.drop (min t.toNat s.length) ++ (ts.drop (K + 1)).flatten, ?_⟩
        rw [List.drop_eq_getElem_cons hlt, hg]
        simp only [ht, if_true, List.flatten_cons, ← List.append_assoc, List.take_append_drop]
      · exact ⟨_, by simp [ht]; rfl⟩
  obtain ⟨rest, hr⟩ := key
  have e : ts.flatten = ((ts.take K).flatten ++ tornS ts K t) ++ rest := by rw [flat_split ts K, hr, List.append_assoc]
  refine ⟨?_, ?_⟩
  · rw [e]; exact List.take_left
  · rw [e, List.length_append (bs := rest)]; omega

theorem sl9' (s : Tx) (k : Int) : slice1 E.P 9 false true [.d (.str s), .d (.int .i64 k)] = (grd (inc k s.length) (.c (.a (.d (.str (cut s 0 (k.toNat - 0))))))).bind fun v => some (.r v) := sl9 s k
theorem end3 {nl : Bool} {ts : List Tx} {keep torn : Int} {i j1 j2 : Nat} {v : CV} {h : Hp} (hn : ts.length ≤ 20) (hs : ∀ (k : Nat) (s : Tx), ts[k]? = some s → s.length ≤ 100) (hd : DAt h i j1 j2 v (D3 ts ts.length)) :
    ∃ h', K3 (.exit 0, st3e nl ts keep torn i ts.flatten (least ts keep ts.length) ts.length h) = some (.c (.a (.d (.bool true))), h') := by
  let K := keepN keep ts.length
  let a := (ts.take K).flatten
  let left := a ++ tornS ts K torn
  have hKn : K ≤ ts.length := Nat.min_le_right _ _
  have hfl : a.length ≤ 100 * K := flat_le K fun k s hk h => hs k s h
  have hall : ts.flatten.length ≤ 100 * ts.length := by
    have := flat_le ts.length fun k s hk h => hs k s h
    rwa [List.take_length] at this
  have hleast : least ts keep ts.length = a.length := rfl
  obtain ⟨hpre, hle⟩ := left_pre ts K torn
  have hwl : (D3 ts ts.length).wait = ts.map mkc := by simp [D3]
  have hrun : Runs ((D3 ts ts.length).wait.take (keepN keep (D3 ts ts.length).wait.length)) (D3 ts ts.length).sure [a] := by
    rw [hwl, List.length_map, ← List.map_take]
    have := runs_mk (ts.take K) [] (by show 0 + a.length ≤ _; omega)
    exact this
  have htorn : TornR (D3 ts ts.length).wait (keepN keep (D3 ts ts.length).wait.length) torn [a] [left] := by
    rw [hwl, List.length_map]
    exact torn_mk ts K torn a (by omega) hs
  obtain ⟨h1, k2, e12, hd1, _, _⟩ := c12 (k := keep) (t := torn) hd rfl (by show 1 < _; omega) (by rw [hwl, List.length_map]; omega) hrun htorn
  obtain ⟨h2, e13, hd2, _⟩ := c13 hd1
  have e14 := c14 (m := 0) (t := left) hd2 rfl rfl
  have e14' : callU E false 14 [.a (.ptr i 0), .a (.d (.int .i64 0))] h2 = some (.tup [.a (.d (.str left)), .a (.d (.int .i64 0))], h2) := e14
  refine ⟨h2, ?_⟩
  unfold st3e
  rw [r3b, look0, e12]
  simp only [Option.bind_some, e13, fallen, bool?_B, e14', dem_a]
  have x0 : extr 0 (SV.r (RV.dem (RV.dem (.tup [.a (.d (.str left)), .a (.d (.int .i64 0))])))) = some (.r (.c (.a (.d (.str left))))) := rfl
  have x1 : extr 1 (SV.r (RV.dem (RV.dem (.tup [.a (.d (.str left)), .a (.d (.int .i64 0))])))) = some (.r (.c (.a (.d (.int .i64 0))))) := rfl
  have g1 : decide (Int.ofNat left.length < ((least ts keep ts.length : Nat) : Int)) = false := decide_eq_false (by
    rw [hleast]; show ¬ ((left.length : Int) < (a.length : Int))
    have : left.length = a.length + (tornS ts K torn).length := List.length_append
    omega)
  have g2 : decide (Int.ofNat ts.flatten.length < Int.ofNat left.length) = false := decide_eq_false (by show ¬ ((ts.flatten.length : Int) < (left.length : Int)); have : left.length ≤ ts.flatten.length := hle; omega)
  have sl : slice1 E.P 9 false true [.d (.str ts.flatten), .d (.int .i64 (Int.ofNat left.length))] = some (.r (.c (.a (.d (.str left))))) := by
    rw [sl9', grd_pos (by simp only [inc, Bool.and_eq_true, decide_eq_true_eq]; refine ⟨by show (0 : Int) ≤ (left.length : Int); omega, by show (left.length : Int) ≤ (ts.flatten.length : Int); have : left.length ≤ ts.flatten.length := hle; omega⟩)]
    simp only [Option.bind_some, cut, List.drop_zero, Nat.sub_zero]
    rw [show (Int.ofNat left.length).toNat = left.length from rfl]
    rw [show ts.flatten.take left.length = left from hpre]
  simp only [x0, x1, Option.bind_some, rv?_r, str?_S, int?_I, decide_true, Bool.not_true, cond_false, g1, g2, Bool.not_false, gdK_true, sl, lbeq, gdK_some']
  have hlen : (pS ts).length = ts.length := by simp [pS]
  have hleft : left.length = a.length + (tornS ts K torn).length := List.length_append
  by_cases hk : (cond (decide (keep < 0)) 0 keep) < (ts.length : Int)
  · have hkk : (cond (decide (keep < 0)) 0 keep) = (K : Int) := by
      show _ = ((min keep.toNat ts.length : Nat) : Int)
      by_cases h0 : keep < 0
      · simp [h0]; omega
      · simp [h0] at hk ⊢; omega
    have hKlt : K < ts.length := by rw [hkk] at hk; omega
    have hget : ts[K]? = some ts[K] := List.getElem?_eq_getElem hKlt
    have hsl := hs K _ hget
    have gk : decide ((K : Int) < Int.ofNat (pS ts).length) = true := by rw [hlen]; exact decide_eq_true (by show (K : Int) < (ts.length : Int); omega)
    rw [hkk, gk]
    by_cases ht : 0 < torn
    · have gt : decide (0 < torn) = true := decide_eq_true ht
      have hts : tornS ts K torn = (ts[K]).take (min torn.toNat (ts[K]).length) := by unfold tornS; rw [hget]; simp [ht]
      have lb : ldV 1 false (.c (.a (.d (.bx (PV.cells (.str ts[K])))))) h2 = some (.c (.a (.d (.str ts[K])))) := ld1Bx
      have ms : (cond (decide ((Int.ofNat (ts[K]).length) < torn)) (Int.ofNat (ts[K]).length) torn) = ((min torn.toNat (ts[K]).length : Nat) : Int) := by
        by_cases h3 : ((ts[K]).length : Int) < torn
        · rw [show decide ((Int.ofNat (ts[K]).length) < torn) = true from decide_eq_true h3]; show ((ts[K]).length : Int) = _; omega
        · rw [show decide ((Int.ofNat (ts[K]).length) < torn) = false from decide_eq_false h3]; show torn = _; omega
      simp only [gt, cond_true, inb_nat (show K < (pS ts).length by rw [hlen]; exact hKlt), grd_true, Option.bind_some, rv?_r, Int.toNat_natCast, getS hget, dem_a, lb, str?_S, ms]
      rw [hleast, wr (by omega) (by omega)]
      have hfin : decide (Int.ofNat left.length = (a.length : Int) + ((min torn.toNat (ts[K]).length : Nat) : Int)) = true := decide_eq_true (by
        show (left.length : Int) = _
        rw [hleft, hts, List.length_take]; omega)
      rw [hfin]
    · have gt : decide (0 < torn) = false := decide_eq_false ht
      have hts : tornS ts K torn = [] := by unfold tornS; rw [hget]; simp [ht]
      simp only [gt, cond_true, cond_false]
      rw [hleast, wr (by omega) (by omega)]
      have hfin : decide (Int.ofNat left.length = (a.length : Int) + 0) = true := decide_eq_true (by
        show (left.length : Int) = _
        rw [hleft, hts]; simp)
      rw [hfin]
  · have hKe : K = ts.length := by
      show min keep.toNat ts.length = ts.length
      by_cases h0 : keep < 0
      · rw [show decide (keep < 0) = true from decide_eq_true h0] at hk; simp only [cond_true] at hk; omega
      · rw [show decide (keep < 0) = false from decide_eq_false h0] at hk; simp only [cond_false] at hk; omega
    have gk : decide ((cond (decide (keep < 0)) 0 keep) < Int.ofNat (pS ts).length) = false := by rw [hlen]; exact decide_eq_false hk
    have hts : tornS ts K torn = [] := by unfold tornS; rw [hKe]; simp
    rw [gk]
    simp only [gdK_some', cond_false]
    rw [hleast, wr (by omega) (by omega)]
    have hfin : decide (Int.ofNat left.length = (a.length : Int) + 0) = true := decide_eq_true (by
      show (left.length : Int) = _
      rw [hleft, hts]; simp)
    rw [hfin]

/-- DiskLoses is true. -/
theorem law3 (nl : Bool) (ts : List Tx) (keep torn : Int) : ∃ h', callU E false 3 [.a (.d (.sl 1 nl (pS ts))), .a (.d (.int .i64 keep)), .a (.d (.int .i64 torn))] h0 = some (.c (.a (.d (.bool true))), h') := by
  obtain ⟨ha, e10⟩ := c10
  obtain ⟨h1, e9, hd, _, _⟩ := c9 (h := ⟨fun _ => none, 0⟩) (M := 1) (n := 3000) (by decide) (by decide) (by decide) (by decide)
  have hdd : newD 1 3000 = D3 ts 0 := rfl
  rw [hdd] at hd
  have e9' : callU E false 9 [.a (.d (.int .i64 1)), .a (.d (.int .i64 3000))] ⟨fun _ => none, 0⟩ = some (.c (.a (.ptr 6 0)), h1) := e9
  have main : ∃ h', evF E (callU E) loopU false 3 [.a (.d (.sl 1 nl (pS ts))), .a (.d (.int .i64 keep)), .a (.d (.int .i64 torn))] h0 = some (.c (.a (.d (.bool true))), h') := by
    rw [r3, e9']
    simp only [Option.bind_some, e10]
    have hdat : RV.data? (.c (.a (.d (.bool true)))) = some (.c (.a (.d (.bool true)))) := rfl
    have hav : avsS [(SV.r (RV.dem (RV.dem (RV.dem (.c (.a (.ptr 6 0))))))), (SV.r (RV.c (CV.a (AV.d PV.nilp))))] = some [.ptr 6 0, .d .nilp] := rfl
    simp only [hdat, Option.bind_some, rv?_r, bool?_B, Bool.not_true, Bool.not_false, gdK_true, hav, eql23, cond_false, gdK_some']
    by_cases hn : ts.length ≤ 20
    · rw [show decide (20 < Int.ofNat (pS ts).length) = false from decide_eq_false (by show ¬ (20 < ((pS ts).length : Int)); simp [pS]; omega)]
      simp only [cond_false]
      rw [LB_eq]
      have hl0 : least ts keep 0 = 0 := by simp [least]
      rcases loop3 (nl := nl) (keep := keep) (torn := torn) hn ts 0 rfl (Nat.zero_le _) (fun k s hk => absurd hk (by omega)) hd with ⟨h', e⟩ | ⟨h', v', e, hd', hs⟩
      · have e' : loopU (LB E false 3 7) ⟨[(0, (SV.r (RV.c (CV.a (AV.d (PV.sl 1 nl (pS ts))))))), (1, (SV.r (RV.c (CV.a (AV.d (PV.int IntKind.i64 keep)))))), (2, (SV.r (RV.c (CV.a (AV.d (PV.int IntKind.i64 torn)))))), (7, (SV.r (RV.dem (RV.dem (.c (.a (.ptr 6 0))))))), (8, (SV.r (RV.c (CV.a (AV.d (PV.str [])))))), (9, (SV.r (RV.c (CV.a (AV.d (PV.int IntKind.i64 0)))))), (10, (SV.r (RV.c (CV.a (AV.d (PV.int IntKind.i64 0))))))], [], h1⟩ = some (.ret, ⟨[(6, .r (.c (.a (.d (.bool true)))))], [], h'⟩) := by rw [hl0] at e; exact e
        rw [e', Option.bind_some]
        exact ⟨h', r3c true h'⟩
      · have e' : loopU (LB E false 3 7) ⟨[(0, (SV.r (RV.c (CV.a (AV.d (PV.sl 1 nl (pS ts))))))), (1, (SV.r (RV.c (CV.a (AV.d (PV.int IntKind.i64 keep)))))), (2, (SV.r (RV.c (CV.a (AV.d (PV.int IntKind.i64 torn)))))), (7, (SV.r (RV.dem (RV.dem (.c (.a (.ptr 6 0))))))), (8, (SV.r (RV.c (CV.a (AV.d (PV.str [])))))), (9, (SV.r (RV.c (CV.a (AV.d (PV.int IntKind.i64 0)))))), (10, (SV.r (RV.c (CV.a (AV.d (PV.int IntKind.i64 0))))))], [], h1⟩ = some (.exit 0, st3e nl ts keep torn 6 ts.flatten (least ts keep ts.length) ts.length h') := by rw [hl0] at e; exact e
        rw [e', Option.bind_some]
        exact end3 hn hs hd'
    · rw [show decide (20 < Int.ofNat (pS ts).length) = true from decide_eq_true (by show 20 < ((pS ts).length : Int); simp [pS]; omega)]
      exact ⟨h1, rfl⟩
  obtain ⟨h', e⟩ := main
  exact ⟨h', callU_of e⟩
end Go.Abs.T10
