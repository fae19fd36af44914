/- The disk, call by call, in the abstract machine's heap. -/
import Derived.Test.YtmbgdghihghnjaaDiskRes
import Derived.Test.YtmbgdghihghnjaaAbsG
import Derived.IntWalk
set_option linter.unusedVariables false
set_option linter.unusedSimpArgs false
namespace Go.Abs.T10
open Go.Abs

/-- A text. -/
abbrev Tx := List UInt8
def sC (s : Tx) : CV := .a (.d (.str s))
def iC (n : Int) : CV := .a (.d (.int .i64 n))
def bC (b : Bool) : CV := .a (.d (.bool b))
structure Chg where
  k : Int
  x : Int
  s : Tx
  n : Int
def Chg.p (c : Chg) : PV := .agg [.int .i64 c.k, .int .i64 c.x, .str c.s, .int .i64 c.n]
structure DD where
  room : Int
  sure : List Tx
  now : List Tx
  wait : List Chg
  changes : Int
  falls : Int
  down : Bool
  ca : Int
  ck : Int
  ct : Int
  laid : Bool
def dcells (D : DD) (j1 j2 : Nat) (v : CV) : List CV := [iC D.room, .a (.ms j1 0 D.sure.length D.sure.length), .a (.ms j2 0 D.now.length D.now.length), v, iC D.changes, iC D.falls, bC D.down, iC D.ca, iC D.ck, iC D.ct, bC D.laid]
/-- The changes that wait, as the cell holds them. -/
inductive WaitR : CV → List Chg → Prop
  | nil : WaitR (.a (.d (.sl 0 true []))) []
  | ow (w : List Chg) : WaitR (.ow 4 false (w.map Chg.p)) w
structure DAt (h : Hp) (i j1 j2 : Nat) (v : CV) (D : DD) : Prop where
  hi : h.m i = some (dcells D j1 j2 v)
  h1 : h.m j1 = some (D.sure.map sC)
  h2 : h.m j2 = some (D.now.map sC)
  w : WaitR v D.wait
  n1 : j1 ≠ i
  n2 : j2 ≠ i
  n12 : j1 ≠ j2
  li : i < h.nx
  l1 : j1 < h.nx
  l2 : j2 < h.nx

theorem len22Ms (j o n c : Nat) : lenV E.P 22 (.c (.a (.ms j o n c))) = some (.c (.a (.d (.int .i64 (n : Int))))) := by kernel_rfl
theorem len22Sl (b : Bool) (l : List PV) : lenV E.P 22 (.c (.a (.d (.sl 1 b l)))) = some (.c (.a (.d (.int .i64 (l.length : Int))))) := by kernel_rfl
theorem len59Sl (n : Nat) (b : Bool) (l : List PV) : lenV E.P 59 (.c (.a (.d (.sl n b l)))) = some (.c (.a (.d (.int .i64 (l.length : Int))))) := by kernel_rfl
theorem ia22Ms (j o n c : Nat) (x : Int) : indexAddrV E.P 22 (.r (.c (.a (.ms j o n c)))) (.d (.int .i64 x)) = grd (inb x n) (.r (.c (.a (.ptr j (o + x.toNat * 1))))) := by kernel_rfl
theorem ia22Sl (b : Bool) (l : List PV) (x : Int) : indexAddrV E.P 22 (.r (.c (.a (.d (.sl 1 b l))))) (.d (.int .i64 x)) = grd (inb x l.length) (.r (.c (.a (.d (.bx (l.getD x.toNat .nilp).cells))))) := by kernel_rfl
theorem ia59Sl (b : Bool) (l : List PV) (x : Int) : indexAddrV E.P 59 (.r (.c (.a (.d (.sl 4 b l))))) (.d (.int .i64 x)) = grd (inb x l.length) (.r (.c (.a (.d (.bx (l.getD x.toNat .nilp).cells))))) := by kernel_rfl
theorem bs59 (k x n : Int) (s : Tx) : buildSliceV E.P 59 1 [(0, .d (.agg [.int .i64 k, .int .i64 x, .str s, .int .i64 n]))] = some (.c (.ow 4 false [Chg.p ⟨k, x, s, n⟩])) := by kernel_rfl
theorem ap59Nil (c : Chg) : appendV E.P 59 59 (.c (.a (.d (.sl 0 true [])))) (.c (.a (.d (.sl 4 false [c.p])))) = some (.c (.ow 4 false [c.p])) := by kernel_rfl
theorem ap59Ow (c : Chg) (l : List PV) : appendV E.P 59 59 (.c (.ow 4 false l)) (.c (.a (.d (.sl 4 false [c.p])))) = grd (roomB (l.length + 1) 40) (.c (.ow 4 false (l ++ [c.p]))) := by kernel_rfl

theorem c16 {q : Bool} {h : Hp} {i j1 j2 : Nat} {v : CV} {D : DD} (hd : DAt h i j1 j2 v D) : callU E q 16 [.a (.ptr i 0)] h = some (.c (.a (.d (.bool D.down))), h) := by
  apply callU_of
  rw [r16, ld1 hd.hi (off := 6) rfl]
  rfl
theorem c13 {h : Hp} {i j1 j2 : Nat} {v : CV} {D : DD} (hd : DAt h i j1 j2 v D) : ∃ h', callU E false 13 [.a (.ptr i 0)] h = some (.c (.a (.d (.bool D.down))), h') ∧ DAt h' i j1 j2 v { D with down := false } ∧ h' = hset h i (dcells { D with down := false } j1 j2 v) := by
  refine ⟨_, ?_, ?_, rfl⟩
  · apply callU_of
    rw [r13, ld1 hd.hi (off := 6) rfl]
    simp only [bC, cdem_a, bool?_B, Option.bind_some]
    rw [st1 hd.hi (show 6 < 11 by decide) rfl rfl]
    rfl
  · exact ⟨hset_same, by rw [hset_ne hd.n1]; exact hd.h1, by rw [hset_ne hd.n2]; exact hd.h2, hd.w, hd.n1, hd.n2, hd.n12, hd.li, hd.l1, hd.l2⟩

/-- What a change does to the extents. -/
def chgF (c : Chg) (t : Tx) : Tx := if c.k = 0 then t ++ c.s else if c.k = 2 then [] else t.take c.n.toNat
structure ChgOk (L : List Tx) (c : Chg) (m : Nat) (t : Tx) : Prop where
  x : c.x = m
  get : L[m]? = some t
  ok : (c.k = 0 ∧ t.length + c.s.length ≤ 9223372036854775807) ∨ (c.k = 1 ∧ 0 ≤ c.n ∧ c.n ≤ t.length) ∨ c.k = 2
theorem map_get {L : List Tx} {m : Nat} {t : Tx} (h : L[m]? = some t) : (L.map sC)[m]? = some (sC t) := by simp [h]
theorem map_set {L : List Tx} {m : Nat} {t : Tx} : (L.map sC).set m (sC t) = (L.set m t).map sC := by simp [List.map_set]
/-- A store into an extent. -/
theorem stX {h : Hp} {j m : Nat} {L : List Tx} {t u : Tx} (hj : h.m j = some (L.map sC)) (hm : L[m]? = some t) : stV 1 (.c (.a (.ptr j m))) (.c (.a (.d (.str u)))) h = some (undefR, hset h j ((L.set m u).map sC)) := by
  have hlt : m < (L.map sC).length := by simpa using (List.getElem?_eq_some_iff.1 hm).1
  rw [st1 hj hlt rfl rfl]
  rw [show (CV.a (.d (.str u))) = sC u from rfl, map_set]
theorem c34 {h : Hp} {j m : Nat} {L : List Tx} {c : Chg} {t : Tx} (hj : h.m j = some (L.map sC)) (hn : j < h.nx) (hc : ChgOk L c m t) : callU E false 34 [.a (.ms j 0 L.length L.length), .a (.d c.p)] h = some (.tup [], hset h j ((L.set m (chgF c t)).map sC)) := by
  obtain ⟨k, x, s, n⟩ := c
  obtain ⟨hx, hget, hok⟩ := hc
  simp only at hx; subst hx
  have hlt : m < L.length := (List.getElem?_eq_some_iff.1 hget).1
  apply callU_of
  rw [show Chg.p ⟨k, m, s, n⟩ = .agg [.int .i64 k, .int .i64 m, .str s, .int .i64 n] from rfl, r34]
  have hl : ldV 1 false (.c (.a (.ptr j m))) (limH true h.nx h) = some (.c (.a (.d (.str t)))) := ld1 (by rw [limH_m hn]; exact hj) (map_get hget)
  rcases hok with ⟨hk, hb⟩ | ⟨hk, h0, h1⟩ | hk
  · simp only at hk hb; subst hk
    have hb' : (t.length : Int) + (s.length : Int) ≤ 9223372036854775807 := by omega
    simp [ia22Ms, inb_nat hlt, hl, stX hj hget, hb', chgF]
  · simp only at hk h0 h1; subst hk
    have hb' : inc n t.length = true := by simp [inc]; omega
    simp [ia22Ms, inb_nat hlt, hl, stX hj hget, grd_pos hb', chgF, cut]
  · simp only at hk; subst hk
    simp [ia22Ms, inb_nat hlt, hl, stX hj hget, chgF]

def askE (D : DD) (x : Int) : Int := if D.down then 9 else if x < 0 ∨ (D.now.length : Int) ≤ x then 1 else 0
theorem c32 {h : Hp} {i j1 j2 : Nat} {v : CV} {D : DD} (hd : DAt h i j1 j2 v D) (x : Int) : callU E false 32 [.a (.ptr i 0), .a (.d (.int .i64 x))] h = some (.c (.a (.d (.int .i64 (askE D x)))), h) := by
  apply callU_of
  rw [r32, c16 hd]
  have hl : ldV 1 false (.c (.a (.ptr i 2))) h = some (.c (.a (.ms j2 0 D.now.length D.now.length))) := ld1 hd.hi (x := .a (.ms j2 0 D.now.length D.now.length)) rfl
  cases hdn : D.down with
  | true => simp [askE, hdn]
  | false =>
    simp only [Option.bind_some, bool?_B, cond_false, hl, gdK_some', dem_a, len22Ms, rv?_r, int?_I]
    by_cases h1 : x < 0
    · simp [askE, hdn, h1]
    · by_cases h2 : (D.now.length : Int) ≤ x
      · simp [askE, hdn, h1, h2]
      · simp [askE, hdn, h1, h2]
theorem c14 {h : Hp} {i j1 j2 : Nat} {v : CV} {D : DD} (hd : DAt h i j1 j2 v D) {m : Nat} {t : Tx} (ht : D.now[m]? = some t) (hdn : D.down = false) : callU E false 14 [.a (.ptr i 0), .a (.d (.int .i64 m))] h = some (.tup [.a (.d (.str t)), .a (.d (.int .i64 0))], h) := by
  have hlt : m < D.now.length := (List.getElem?_eq_some_iff.1 ht).1
  have hask : askE D m = 0 := by simp [askE, hdn]; omega
  apply callU_of
  rw [r14, c32 hd, hask]
  have hl : ldV 1 false (.c (.a (.ptr i 2))) h = some (.c (.a (.ms j2 0 D.now.length D.now.length))) := ld1 hd.hi (x := .a (.ms j2 0 D.now.length D.now.length)) rfl
  have hl2 : ldV 1 false (.c (.a (.ptr j2 m))) h = some (.c (.a (.d (.str t)))) := ld1 hd.h2 (map_get ht)
  simp [hl, ia22Ms, inb_nat hlt, hl2]
theorem c41No {h : Hp} {i j1 j2 : Nat} {v : CV} {D : DD} (hd : DAt h i j1 j2 v D) (c : Chg) (hl : D.laid = false) : callU E false 41 [.a (.ptr i 0), .a (.d c.p)] h = some (.c (.a (.d (.bool false))), h) := by
  apply callU_of
  rw [show c.p = .agg [.int .i64 c.k, .int .i64 c.x, .str c.s, .int .i64 c.n] from rfl, r41, ld1 hd.hi (off := 10) rfl]
  simp [bC, hl]

theorem wr {n : Int} (h1 : -9223372036854775808 ≤ n) (h2 : n ≤ 9223372036854775807) : IntKind.wrap .i64 n = n := by
  rw [Go.IntWalk.i64_left]; unfold Go.RowKit.wrap64; omega
theorem appW {v : CV} {w : List Chg} (hv : WaitR v w) (c : Chg) (hr : w.length < 1000000) : appendV E.P 59 59 (.c v) (.c (.a (.d (.sl 4 false [c.p])))) = some (.c (.ow 4 false ((w ++ [c]).map Chg.p))) := by
  cases hv with
  | nil => exact ap59Nil c
  | ow =>
    rw [ap59Ow, grd_pos]
    · simp
    · simp only [List.length_map, roomB]
      exact Nat.ble_eq ▸ (by omega)
/-- What may be done to the disk's heap, and leaves it a heap with the disk in it. -/
structure Same (h h' : Hp) (i j1 j2 : Nat) : Prop where
  nx : h'.nx = h.nx
  m : ∀ k, k ≠ i → k ≠ j1 → k ≠ j2 → h'.m k = h.m k
theorem Same.refl (h : Hp) (i j1 j2 : Nat) : Same h h i j1 j2 := ⟨rfl, fun _ _ _ _ => rfl⟩
theorem Same.trans {h h' h'' : Hp} {i j1 j2 : Nat} (a : Same h h' i j1 j2) (b : Same h' h'' i j1 j2) : Same h h'' i j1 j2 :=
  ⟨b.nx.trans a.nx, fun k h1 h2 h3 => (b.m k h1 h2 h3).trans (a.m k h1 h2 h3)⟩
theorem Same.set {h h' : Hp} {i j1 j2 : Nat} (a : Same h h' i j1 j2) {k : Nat} {cs : List CV} (hk : k = i ∨ k = j1 ∨ k = j2) : Same h (hset h' k cs) i j1 j2 :=
  ⟨a.nx, fun k' h1 h2 h3 => by
    rw [hset_ne (by rcases hk with e | e | e <;> subst e <;> assumption)]
    exact a.m k' h1 h2 h3⟩
def changed (D : DD) (c : Chg) (m : Nat) (t : Tx) : DD := { D with changes := IntKind.wrap .i64 (D.changes + 1), wait := D.wait ++ [c], now := D.now.set m (chgF c t) }
theorem c33 {h h0 : Hp} {i j1 j2 m : Nat} {v : CV} {D : DD} {c : Chg} {t : Tx} (hd : DAt h0 i j1 j2 v D) (hs : callU E false 41 [.a (.ptr i 0), .a (.d c.p)] h = some (.c (.a (.d (.bool false))), h0)) (hc : ChgOk D.now c m t) (hr : D.wait.length < 1000000) :
    ∃ h', callU E false 33 [.a (.ptr i 0), .a (.d c.p)] h = some (.c (.a (.d (.int .i64 0))), h') ∧ DAt h' i j1 j2 (.ow 4 false ((D.wait ++ [c]).map Chg.p)) (changed D c m t) ∧ Same h0 h' i j1 j2 := by
  let D1 : DD := { D with changes := IntKind.wrap .i64 (D.changes + 1) }
  let v' : CV := .ow 4 false ((D.wait ++ [c]).map Chg.p)
  let h1 := hset h0 i (dcells D1 j1 j2 v)
  let h2 := hset h1 i (dcells D1 j1 j2 v.dem)
  let h3 := hset h2 i (dcells D1 j1 j2 v')
  let h4 := hset h3 j2 ((D.now.set m (chgF c t)).map sC)
  have m3 : ∀ k, k ≠ i → h3.m k = h0.m k := fun k hk => by rw [hset_ne hk, hset_ne hk, hset_ne hk]
  have h3j : h3.m j2 = some (D.now.map sC) := (m3 j2 hd.n2).trans hd.h2
  have e34 := c34 (h := h3) h3j hd.l2 hc
  refine ⟨h4, ?_, ?_, ?_⟩
  · apply callU_of
    rw [show c.p = .agg [.int .i64 c.k, .int .i64 c.x, .str c.s, .int .i64 c.n] from rfl] at hs e34 ⊢
    rw [r33, hs]
    have e1 : ldV 1 false (.c (.a (.ptr i 4))) h0 = some (.c (.a (.d (.int .i64 D.changes)))) := ld1 hd.hi (x := iC D.changes) rfl
    have e2 : stV 1 (.c (.a (.ptr i 4))) (.c (.a (.d (.int .i64 (IntKind.wrap .i64 (D.changes + 1)))))) h0 = some (undefR, h1) := st1 hd.hi (show 4 < 11 by decide) rfl rfl
    have e3 : ldOwnV 1 false (.c (.a (.ptr i 3))) h1 = some (.c v, h2) := ldOwn1 hset_same (x := v) rfl
    have e4 : stV 1 (.c (.a (.ptr i 3))) (.c v') h2 = some (undefR, h3) := st1Ow hset_same (show 3 < 11 by decide)
    have e5 : ldV 1 false (.c (.a (.ptr i 2))) (limH true h3.nx h3) = some (.c (.a (.ms j2 0 D.now.length D.now.length))) := ld1 (cs := dcells D1 j1 j2 v') (by rw [limH_m (show i < h3.nx from hd.li)]; exact hset_same) (x := .a (.ms j2 0 D.now.length D.now.length)) rfl
    have e6 := appW hd.w c hr
    simp only [Option.bind_some, bool?_B, cond_false, e1, int?_I, e2, e3, bs59, rv?_r, dem_ow, e4, e5, dem_a, cv?_c]
    simp only [e6, Option.bind_some, rv?_r]
    rw [show (RV.c (.ow 4 false ((D.wait ++ [c]).map Chg.p))) = .c v' from rfl, e4]
    simp only [Option.bind_some, e5, dem_a, cv?_c]
    show Option.bind (callU E false 34 [.a (.ms j2 0 D.now.length D.now.length), .a (.d (.agg [.int .i64 c.k, .int .i64 c.x, .str c.s, .int .i64 c.n]))] h3) _ = _
    rw [e34]
    rfl
  · refine ⟨?_, ?_, hset_same, .ow _, hd.n1, hd.n2, hd.n12, hd.li, hd.l1, hd.l2⟩
    · rw [hset_ne (Ne.symm hd.n2)]
      rw [show h3.m i = some (dcells D1 j1 j2 v') from hset_same]
      simp [dcells, changed, D1, v']
    · rw [hset_ne hd.n12, m3 j1 hd.n1]; exact hd.h1
  · exact ((((Same.refl h0 i j1 j2).set (.inl rfl)).set (.inl rfl)).set (.inl rfl)).set (.inr (.inr rfl))

/-! A copy of the extents -/
theorem apA22 (j n c id : Nat) (h : Hp) : appendA E.P 22 22 (.c (.ow 1 false [])) (.c (.a (.ms j 0 n c))) h id = ((hget h j 0 n).bind dataCs).bind fun ys => cond (ys.all scalP) (grd (roomB ys.length 16) (.c (.a (.ms id 0 ys.length ys.length)), ys.map fun p => .a (.d p))) none := by kernel_rfl
theorem dataCs_sC (L : List Tx) : dataCs (L.map sC) = some (L.map fun s => .str s) := by
  induction L with
  | nil => rfl
  | cons s L ih => simp only [List.map_cons, sC, dataCs, ih, Option.bind_some]
theorem cutOk_all {α : Type} (cs : List α) : cutOk cs 0 cs.length = some cs := by
  unfold cutOk cut
  rw [show Nat.ble (0 + cs.length) cs.length = true from Nat.ble_eq ▸ (by omega)]
  simp
theorem c35 {h : Hp} {j c : Nat} {L : List Tx} (hj : h.m j = some (L.map sC)) (hr : L.length < 1000000) : callU E true 35 [.a (.ms j 0 L.length c)] h = some (.c (.a (.ms (h.nx + 2) 0 L.length L.length)), hset (hreg h 4) (h.nx + 2) (L.map sC)) := by
  apply callU_of
  rw [r35, apA22]
  have e1 : hget (hreg h 4) j 0 L.length = some (L.map sC) := by
    unfold hget
    rw [hreg_m, hj]
    have := cutOk_all (L.map sC)
    rw [List.length_map] at this
    exact this
  have e2 : (L.map fun s => PV.str s).all scalP = true := by simp [scalP]
  have e3 : roomB L.length 16 = true := by unfold roomB; exact Nat.ble_eq ▸ (by omega)
  rw [e1]
  simp only [Option.bind_some, dataCs_sC, e2, cond_true, List.length_map, e3, grd_true, dem_a, cv?_c, List.map_map]
  rfl

theorem mk22 (id : Nat) (m : Int) : make2 E.P 22 id [.d (.int .i64 m), .d (.int .i64 m)] = cond ((m == m) && true) (grd (decide (0 ≤ m) && roomB m.toNat 16) (.c (.a (.ms id 0 m.toNat m.toNat)), List.replicate m.toNat (.a (.d (.str []))))) none := by kernel_rfl
theorem bv61 (n : Int) (x y : Nat) (M : Nat) : buildV E.P 61 (zipO [0, 1, 2] [.d (.int .i64 n), .ms x 0 M M, .ms y 0 M M]) = some (.c (.a (.agg [.d (.int .i64 n), .ms x 0 M M, .ms y 0 M M, .d (.sl 0 true []), .d (.int .i64 0), .d (.int .i64 0), .d (.bool false), .d (.int .i64 0), .d (.int .i64 0), .d (.int .i64 0), .d (.bool false)]))) := by kernel_rfl
def newD (M : Nat) (n : Int) : DD := ⟨n, List.replicate M [], List.replicate M [], [], 0, 0, false, 0, 0, 0, false⟩
theorem c9 {h : Hp} {M : Nat} {n : Int} (h1 : 1 ≤ M) (h2 : M ≤ 64) (h3 : 1 ≤ n) (h4 : n ≤ 65536) : ∃ h', callU E false 9 [.a (.d (.int .i64 M)), .a (.d (.int .i64 n))] h = some (.c (.a (.ptr (h.nx + 6) 0)), h') ∧ DAt h' (h.nx + 6) (h.nx + 2) (h.nx + 4) (.a (.d (.sl 0 true []))) (newD M n) ∧ h'.nx = h.nx + 8 ∧ ∀ k, k < h.nx → h'.m k = h.m k := by
  refine ⟨hset (hset (hset (hreg h 8) (h.nx + 2) (List.replicate M (.a (.d (.str []))))) (h.nx + 4) (List.replicate M (.a (.d (.str []))))) (h.nx + 6) (dcells (newD M n) (h.nx + 2) (h.nx + 4) (.a (.d (.sl 0 true [])))), ?_, ?_, ?_, ?_⟩
  · apply callU_of
    rw [r9]
    have e1 : decide ((M : Int) < 1) = false := by simp; omega
    have e2 : decide (64 < (M : Int)) = false := by simp; omega
    have e3 : decide (n < 1) = false := by simp; omega
    have e4 : decide (65536 < n) = false := by simp; omega
    have e5 : decide (0 ≤ (M : Int)) = true := by simp
    have e6 : roomB M 16 = true := by unfold roomB; exact Nat.ble_eq ▸ (by omega)
    simp only [e1, e2, e3, e4, cond_false, Bool.not_false, gdK_some', mk22, beq_self_eq_true, Bool.and_true, cond_true, e5, Int.toNat_natCast, e6, Bool.and_self, grd_true, Option.bind_some, dem_a, Nat.add_zero]
    rw [show avsS [(SV.r (RV.c (CV.a (AV.d (PV.int IntKind.i64 n))))), (SV.r (RV.c (CV.a (AV.ms (h.nx + 2) 0 M M)))), (SV.r (RV.c (CV.a (AV.ms (h.nx + 4) 0 M M))))] = some [.d (.int .i64 n), .ms (h.nx + 2) 0 M M, .ms (h.nx + 4) 0 M M] from rfl]
    simp only [Option.bind_some, bv61, rv?_r, dem_a]
    rw [show unpackV (RV.c (.a (.agg [.d (.int .i64 n), .ms (h.nx + 2) 0 M M, .ms (h.nx + 4) 0 M M, .d (.sl 0 true []), .d (.int .i64 0), .d (.int .i64 0), .d (.bool false), .d (.int .i64 0), .d (.int .i64 0), .d (.int .i64 0), .d (.bool false)]))) = some (dcells (newD M n) (h.nx + 2) (h.nx + 4) (.a (.d (.sl 0 true [])))) by
      simp [unpackV, AV.cells, scalA, dcells, newD, iC, bC]]
    rfl
  · refine ⟨hset_same, ?_, ?_, .nil, by omega, by omega, by omega, by simp, by simp, by simp⟩
    · rw [hset_ne (by omega), hset_ne (by omega), hset_same]; simp [newD, sC]
    · rw [hset_ne (by omega), hset_same]; simp [newD, sC]
  · rfl
  · intro k hk
    rw [hset_ne (by omega), hset_ne (by omega), hset_ne (by omega)]; rfl

/-- A text is appended; no cut strikes. -/
theorem c11Ok {h h0 : Hp} {i j1 j2 m : Nat} {v : CV} {D D0 : DD} {s t : Tx} (hd : DAt h i j1 j2 v D) (hdn : D.down = false) (ht : D.now[m]? = some t) (hroom : (s.length : Int) ≤ D.room - t.length) (hr1 : D.room ≤ 65536)
    (hs : callU E false 41 [.a (.ptr i 0), .a (.d (Chg.p ⟨0, m, s, 0⟩))] h = some (.c (.a (.d (.bool false))), h0)) (hd0 : DAt h0 i j1 j2 v D0) (hn0 : D0.now = D.now) (hw : D0.wait.length < 1000000) :
    ∃ h', callU E false 11 [.a (.ptr i 0), .a (.d (.int .i64 m)), .a (.d (.str s))] h = some (.c (.a (.d (.int .i64 0))), h') ∧ DAt h' i j1 j2 (.ow 4 false ((D0.wait ++ [(⟨0, m, s, 0⟩ : Chg)]).map Chg.p)) (changed D0 ⟨0, m, s, 0⟩ m t) ∧ Same h0 h' i j1 j2 := by
  have hlt : m < D.now.length := (List.getElem?_eq_some_iff.1 ht).1
  obtain ⟨h', e33, hd', hsame⟩ := c33 (c := ⟨0, m, s, 0⟩) (m := m) (t := t) hd0 hs ⟨rfl, by rw [hn0]; exact ht, .inl ⟨rfl, by show t.length + s.length ≤ _; omega⟩⟩ hw
  refine ⟨h', ?_, hd', hsame⟩
  have hask : askE D m = 0 := by simp [askE, hdn]; omega
  have l0 : ldV 1 false (.c (.a (.ptr i 0))) (limH true h.nx h) = some (.c (.a (.d (.int .i64 D.room)))) := ld1 (cs := dcells D j1 j2 v) (by rw [limH_m hd.li]; exact hd.hi) (x := iC D.room) rfl
  have l2 : ldV 1 false (.c (.a (.ptr i 2))) (limH true h.nx h) = some (.c (.a (.ms j2 0 D.now.length D.now.length))) := ld1 (cs := dcells D j1 j2 v) (by rw [limH_m hd.li]; exact hd.hi) (x := .a (.ms j2 0 D.now.length D.now.length)) rfl
  have l3 : ldV 1 false (.c (.a (.ptr j2 m))) (limH true h.nx h) = some (.c (.a (.d (.str t)))) := ld1 (by rw [limH_m hd.l2]; exact hd.h2) (map_get ht)
  have hw : IntKind.wrap .i64 (D.room - Int.ofNat t.length) = D.room - t.length := wr (by show _ ≤ D.room - (t.length : Int); omega) (by show D.room - (t.length : Int) ≤ _; omega)
  have hc : decide (D.room - (t.length : Int) < Int.ofNat s.length) = false := by simp; omega
  apply callU_of
  rw [r11, c32 hd, hask]
  rw [show Chg.p ⟨0, m, s, 0⟩ = .agg [.int .i64 0, .int .i64 m, .str s, .int .i64 0] from rfl] at e33
  simp only [Option.bind_some, int?_I, decide_true, Bool.not_true, cond_false, l0, l2, dem_a, ia22Ms, inb_nat hlt, grd_true, rv?_r, Int.toNat_natCast, Nat.zero_add, Nat.mul_one, l3, str?_S, hw, hc, e33]

/-! The power fails: what waits is made, one behind the other -/
def stF (i : Nat) (k t : Int) (l : List PV) (b : Bool) (n x : Int) (h : Hp) : St := ⟨[(0, .r (.c (.a (.ptr i 0)))), (1, .r (.c (.a (.d (.int .i64 k))))), (2, .r (.c (.a (.d (.int .i64 t))))), (24, .r (.c (.a (.d (.sl 4 b l))))), (25, .r (.c (.a (.d (.int .i64 n))))), (26, .r (.c (.a (.d (.int .i64 x)))))], [], h⟩
def stFe (i : Nat) (k t : Int) (l : List PV) (b : Bool) (n x : Int) (h : Hp) : St := ⟨[(0, .r (.c (.a (.ptr i 0)))), (1, .r (.c (.a (.d (.int .i64 k))))), (2, .r (.c (.a (.d (.int .i64 t))))), (24, .r (.c (.a (.d (.sl 4 b l))))), (25, .r (.c (.a (.d (.int .i64 n))))), (26, .r (.c (.a (.d (.int .i64 x))))), (27, .r (.c (.a (.d (.bool (decide (x < n)))))))], [], h⟩
/-- A load of a change. -/
theorem ld4Bx {h : Hp} (c : Chg) : ldV 4 true (.c (.a (.d (.bx c.p.cells)))) h = some (.c (.a (.d c.p))) := rfl
theorem getD_chg {w : List Chg} {x : Nat} {c : Chg} (hx : w[x]? = some c) : (w.map Chg.p).getD x .nilp = c.p := by
  simp [List.getD_eq_getElem?_getD, hx]
/-- One round of it. -/
theorem round12 {h : Hp} {i j1 j2 x m : Nat} {v : CV} {D : DD} {k t : Int} {b : Bool} {w : List Chg} {c : Chg} {u : Tx} (hd : DAt h i j1 j2 v D) (hx : w[x]? = some c) (hc : ChgOk D.sure c m u) (hlen : w.length < 1000000) :
    LB E false 12 3 (stF i k t (w.map Chg.p) b w.length x h) = some (.norm, stF i k t (w.map Chg.p) b w.length (x + 1 : Nat) (hset h j1 ((D.sure.set m (chgF c u)).map sC))) := by
  have hlt : x < w.length := (List.getElem?_eq_some_iff.1 hx).1
  unfold stF
  rw [rL12]
  have l1 : ldV 1 false (.c (.a (.ptr i 1))) (limH true h.nx h) = some (.c (.a (.ms j1 0 D.sure.length D.sure.length))) := ld1 (cs := dcells D j1 j2 v) (by rw [limH_m hd.li]; exact hd.hi) (x := .a (.ms j1 0 D.sure.length D.sure.length)) rfl
  have e34 := c34 hd.h1 hd.l1 hc
  have hd1 : decide ((x : Int) < (w.length : Int)) = true := by simp; omega
  have hin : inb (x : Int) (w.map Chg.p).length = true := inb_nat (by simpa using hlt)
  have hu : unpackV (.c (.a (.d c.p))) = some [.a (.d (.int .i64 c.k)), .a (.d (.int .i64 c.x)), .a (.d (.str c.s)), .a (.d (.int .i64 c.n))] := rfl
  have hwr : IntKind.wrap .i64 ((x : Int) + 1) = ((x + 1 : Nat) : Int) := by rw [wr (by omega) (by omega)]; simp
  simp only [hd1, cond_true, hin, grd_true, Option.bind_some, rv?_r, Int.toNat_natCast, getD_chg hx, dem_a, ld4Bx, hu, hwr, l1]
  show Option.bind (callU E false 34 [.a (.ms j1 0 D.sure.length D.sure.length), .a (.d c.p)] h) _ = _
  rw [e34]
  rfl

/-- Changes that are made one behind the other. -/
inductive Runs : List Chg → List Tx → List Tx → Prop
  | nil (L) : Runs [] L L
  | cons (c w L L') (m : Nat) (t : Tx) (h : ChgOk L c m t) (hs : Runs w (L.set m (chgF c t)) L') : Runs (c :: w) L L'
theorem Runs.length {w : List Chg} : ∀ {L L' : List Tx}, Runs w L L' → L'.length = L.length := by
  induction w with
  | nil => intro L L' h; cases h; rfl
  | cons c w ih => intro L L' h; cases h with | cons _ _ _ _ m t hc hs => rw [ih hs, List.length_set]
theorem DAt.sureSet {h : Hp} {i j1 j2 : Nat} {v : CV} {D : DD} (hd : DAt h i j1 j2 v D) {L : List Tx} (hl : L.length = D.sure.length) : DAt (hset h j1 (L.map sC)) i j1 j2 v { D with sure := L } := by
  refine ⟨?_, hset_same, ?_, hd.w, hd.n1, hd.n2, hd.n12, hd.li, hd.l1, hd.l2⟩
  · rw [hset_ne (Ne.symm hd.n1), hd.hi]; simp [dcells, hl]
  · rw [hset_ne (Ne.symm hd.n12)]; exact hd.h2
theorem loop12 {i j1 j2 : Nat} {v : CV} {k t : Int} {b : Bool} {w : List Chg} (hlen : w.length < 1000000) : ∀ (r : List Chg) (x : Nat) {h : Hp} {D : DD} {L' : List Tx}, w.drop x = r → x ≤ w.length → DAt h i j1 j2 v D → Runs r D.sure L' →
    ∃ h', loopU (LB E false 12 3) (stF i k t (w.map Chg.p) b w.length x h) = some (.exit 0, stFe i k t (w.map Chg.p) b w.length w.length h') ∧ DAt h' i j1 j2 v { D with sure := L' } ∧ Same h h' i j1 j2 := by
  intro r
  induction r with
  | nil =>
    intro x h D L' hr hx hd hrun
    cases hrun
    have hxl : x = w.length := by
      have := List.drop_eq_nil_iff.1 hr; omega
    subst hxl
    refine ⟨h, loopU_out ?_ (by simp), hd, .refl ..⟩
    unfold stF stFe
    rw [rL12]
    simp
  | cons c r ih =>
    intro x h D L' hr hx hd hrun
    cases hrun with
    | cons _ _ _ _ m u hc hs =>
    have hxl : x < w.length := by
      rcases Nat.lt_or_ge x w.length with hl | hl
      · exact hl
      · rw [List.drop_of_length_le hl] at hr; cases hr
    rw [List.drop_eq_getElem_cons hxl] at hr
    simp only [List.cons.injEq] at hr
    have hget : w[x]? = some c := by rw [List.getElem?_eq_getElem hxl, hr.1]
    have hround := round12 (k := k) (t := t) (b := b) hd hget hc hlen
    have hd2 := hd.sureSet (L := D.sure.set m (chgF c u)) (by simp)
    obtain ⟨h', e1, e2, e3⟩ := ih (x + 1) (D := { D with sure := D.sure.set m (chgF c u) }) hr.2 (by omega) hd2 hs
    exact ⟨h', loopU_norm hround e1, e2, ((Same.refl h i j1 j2).set (.inr (.inl rfl))).trans e3⟩

/-- What it is behind a loss of power, but for what is sure. -/
def fallen (D : DD) : DD := { D with now := D.sure, wait := [], down := true, falls := IntKind.wrap .i64 (D.falls + 1) }
structure Fin (h : Hp) (i j1 : Nat) (D : DD) (g1 g2 g3 g4 g5 : Hp) : Prop where
  a1 : ldV 1 false (.c (.a (.ptr i 1))) h = some (.c (.a (.ms j1 0 D.sure.length D.sure.length)))
  a2 : callU E true 35 [.a (.ms j1 0 D.sure.length D.sure.length)] h = some (.c (.a (.ms (h.nx + 2) 0 D.sure.length D.sure.length)), g1)
  a3 : stV 1 (.c (.a (.ptr i 2))) (.c (.a (.ms (h.nx + 2) 0 D.sure.length D.sure.length))) g1 = some (undefR, g2)
  a4 : stV 1 (.c (.a (.ptr i 3))) (.c (.a (.d (.sl 0 true [])))) g2 = some (undefR, g3)
  a5 : stV 1 (.c (.a (.ptr i 6))) (.c (.a (.d (.bool true)))) g3 = some (undefR, g4)
  a6 : ldV 1 false (.c (.a (.ptr i 5))) g4 = some (.c (.a (.d (.int .i64 D.falls))))
  a7 : stV 1 (.c (.a (.ptr i 5))) (.c (.a (.d (.int .i64 (IntKind.wrap .i64 (D.falls + 1)))))) g4 = some (undefR, g5)
  d : DAt g5 i j1 (h.nx + 2) (.a (.d (.sl 0 true []))) (fallen D)
  nx : g5.nx = h.nx + 4
  m : ∀ k, k < h.nx → k ≠ i → g5.m k = h.m k
theorem fin12 {h : Hp} {i j1 j2 : Nat} {v : CV} {D : DD} (hd : DAt h i j1 j2 v D) (hlen : D.sure.length < 1000000) : ∃ g1 g2 g3 g4 g5, Fin h i j1 D g1 g2 g3 g4 g5 := by
  let n := D.sure.length
  let D2 : DD := { D with now := D.sure }
  let D3 : DD := { D2 with wait := [] }
  let D4 : DD := { D3 with down := true }
  let nl : CV := .a (.d (.sl 0 true []))
  let g1 := hset (hreg h 4) (h.nx + 2) (D.sure.map sC)
  let g2 := hset g1 i (dcells D2 j1 (h.nx + 2) v)
  let g3 := hset g2 i (dcells D3 j1 (h.nx + 2) nl)
  let g4 := hset g3 i (dcells D4 j1 (h.nx + 2) nl)
  let g5 := hset g4 i (dcells (fallen D) j1 (h.nx + 2) nl)
  have hli := hd.li
  have hl1 := hd.l1
  have k1 : g1.m i = some (dcells D j1 j2 v) := by rw [hset_ne (by omega), hreg_m]; exact hd.hi
  have kk : ∀ k, k ≠ i → g5.m k = g1.m k := fun k hk => by rw [hset_ne hk, hset_ne hk, hset_ne hk, hset_ne hk]
  refine ⟨g1, g2, g3, g4, g5, ld1 hd.hi (x := .a (.ms j1 0 n n)) rfl, c35 hd.h1 hlen, st1 k1 (show 2 < 11 by decide) rfl rfl, st1 hset_same (show 3 < 11 by decide) rfl rfl, st1 hset_same (show 6 < 11 by decide) rfl rfl, ld1 hset_same (x := iC D.falls) rfl, st1 hset_same (show 5 < 11 by decide) rfl rfl, ?_, rfl, ?_⟩
  · refine ⟨hset_same, ?_, ?_, .nil, hd.n1, by omega, by omega, by show i < h.nx + 4; omega, by show j1 < h.nx + 4; omega, by show h.nx + 2 < h.nx + 4; omega⟩
    · rw [kk j1 hd.n1, hset_ne (by omega), hreg_m]; exact hd.h1
    · rw [kk _ (by omega)]; exact hset_same
  · intro k hk hki
    rw [kk k hki, hset_ne (by omega), hreg_m]

theorem sl59 (z : Nat) (l : List PV) (k : Int) : slice1 E.P 59 false true [.d (.sl 4 false l), .d (.int .i64 k)] = (grd (inc k l.length) (.c (.a (.d (.sl 4 false (cut l 0 (k.toNat - 0))))))).bind fun v => some (.r v) := by kernel_rfl
theorem sl59n (k : Int) : slice1 E.P 59 false true [.d (.sl 0 true []), .d (.int .i64 k)] = (grd (inc k 0) (.c (.a (.d (.sl 0 true (cut [] 0 (k.toNat - 0))))))).bind fun v => some (.r v) := by kernel_rfl
theorem fa64 (c : Chg) : fieldAddrV E.P 64 0 (.r (.c (.a (.d (.bx c.p.cells))))) = some (.r (.c (.a (.d (.bx c.p.cells))))) := by kernel_rfl
theorem sl9 (s : Tx) (k : Int) : slice1 E.P 9 false true [.d (.str s), .d (.int .i64 k)] = (grd (inc k s.length) (.c (.a (.d (.str (cut s 0 (k.toNat - 0))))))).bind fun v => some (.r v) := by kernel_rfl
/-- How many of those that wait are made. -/
def keepN (k : Int) (n : Nat) : Nat := min k.toNat n
theorem keepN_eq (k : Int) (n : Nat) : (cond (decide ((n : Int) < (cond (decide (k < 0)) 0 k))) (n : Int) (cond (decide (k < 0)) 0 k)) = (keepN k n : Int) := by
  unfold keepN
  by_cases h : k < 0
  · have h3 : ¬ ((n : Int) < 0) := by omega
    simp [h, h3]; omega
  · simp [h]
    by_cases h2 : (n : Int) < k
    · simp [h2]; omega
    · simp [h2]; omega
def tornC (c : Chg) (t : Int) : Chg := { c with s := c.s.take (min t.toNat c.s.length) }
/-- What is torn. -/
inductive TornR (w : List Chg) (K : Nat) (t : Int) (L : List Tx) : List Tx → Prop
  | no (h : ∀ c, w[K]? = some c → 0 < t → c.k ≠ 0) : TornR w K t L L
  | yes (c : Chg) (m : Nat) (u : Tx) (hc : w[K]? = some c) (ht : 0 < t) (hk : c.k = 0) (ho : ChgOk L (tornC c t) m u) : TornR w K t L (L.set m (chgF (tornC c t) u))
theorem look0 {α : Type} (x r : Option α) : xSel (.exit 0) [(0, x)] r = x := rfl

theorem lenW {v : CV} {w : List Chg} (h : WaitR v w) : lenV E.P 59 (RV.dem (.c v.dem)) = some (.c (.a (.d (.int .i64 (w.length : Int))))) := by
  cases h with
  | nil => rw [cdem_a, dem_a, len59Sl]; rfl
  | ow w => rw [cdem_ow, dem_a, len59Sl, List.length_map]
theorem wv {v : CV} {w : List Chg} (h : WaitR v w) (hn : w ≠ []) : v = .ow 4 false (w.map Chg.p) := by
  cases h with
  | nil => exact absurd rfl hn
  | ow w => rfl
/-- The end of it: what is torn, and the rest. -/
theorem tail12 {h : Hp} {i j1 j2 : Nat} {v : CV} {D : DD} {K : Nat} {t n x : Int} {b : Bool} {y : SV} {L' : List Tx} (hd : DAt h i j1 j2 v D) (hlen : D.sure.length < 1000000) (hw : D.wait.length < 1000000) (hK : K ≤ D.wait.length) (ht : TornR D.wait K t D.sure L') :
    ∃ h' j2', K12 (X.exit 0, ⟨[(0, .r (.c (.a (.ptr i 0)))), (1, .r (.c (.a (.d (.int .i64 K))))), (2, .r (.c (.a (.d (.int .i64 t))))), (24, y), (25, .r (.c (.a (.d (.int .i64 n))))), (26, .r (.c (.a (.d (.int .i64 x))))), (27, .r (.c (.a (.d (.bool b)))))], [], h⟩) = some (.tup [], h') ∧ DAt h' i j1 j2' (.a (.d (.sl 0 true []))) (fallen { D with sure := L' }) ∧ h.nx ≤ h'.nx ∧ ∀ k, k < h.nx → k ≠ i → k ≠ j1 → h'.m k = h.m k := by
  have l3 : ldV 1 false (.c (.a (.ptr i 3))) h = some (.c v.dem) := ld1 hd.hi (x := v) rfl
  have len := lenW hd.w
  cases ht with
  | yes c m u hc h0 hk ho =>
    have hlt : K < D.wait.length := (List.getElem?_eq_some_iff.1 hc).1
    have hv : v = .ow 4 false (D.wait.map Chg.p) := wv hd.w (by intro e; rw [e] at hlt; simp at hlt)
    have ia : indexAddrV E.P 59 (.r (RV.dem (.c v.dem))) (.d (.int .i64 K)) = some (.r (.c (.a (.d (.bx c.p.cells))))) := by
      rw [hv, cdem_ow, dem_a, ia59Sl, inb_nat (by simpa using hlt), Int.toNat_natCast, getD_chg hc]; rfl
    have g1 : cond (decide ((K : Int) < (D.wait.length : Int))) (decide (0 < t)) false = true := by
      rw [show decide ((K : Int) < (D.wait.length : Int)) = true by simp; omega]; simp; exact h0
    have lk : ldV 1 false (.c (.a (.d (.bx c.p.cells)))) h = some (.c (.a (.d (.int .i64 0)))) := by
      rw [← hk]; rfl
    have hu : unpackV (.c (.a (.d c.p))) = some [.a (.d (.int .i64 c.k)), .a (.d (.int .i64 c.x)), .a (.d (.str c.s)), .a (.d (.int .i64 c.n))] := rfl
    have ms : cond (decide ((Int.ofNat c.s.length) < t)) (Int.ofNat c.s.length) t = ((min t.toNat c.s.length : Nat) : Int) := by
      by_cases h2 : (c.s.length : Int) < t
      · simp [h2]; omega
      · simp [h2]; omega
    have sl : slice1 E.P 9 false true [.d (.str c.s), .d (.int .i64 ((min t.toNat c.s.length : Nat) : Int))] = some (.r (.c (.a (.d (.str (tornC c t).s))))) := by
      rw [sl9, grd_pos (by simp [inc]; omega)]
      simp [cut, tornC]
    have hd2 := hd.sureSet (L := D.sure.set m (chgF (tornC c t) u)) (by simp)
    obtain ⟨g1', g2', g3', g4', g5', F⟩ := fin12 hd2 (by simpa using hlen)
    have e34 := c34 hd.h1 hd.l1 ho
    rw [show (tornC c t).p = .agg [.int .i64 c.k, .int .i64 c.x, .str (tornC c t).s, .int .i64 c.n] from rfl] at e34
    have l1 : ldV 1 false (.c (.a (.ptr i 1))) (limH true h.nx h) = some (.c (.a (.ms j1 0 D.sure.length D.sure.length))) := ld1 (cs := dcells D j1 j2 v) (by rw [limH_m hd.li]; exact hd.hi) (x := .a (.ms j1 0 D.sure.length D.sure.length)) rfl
    refine ⟨g5', _, ?_, F.d, ?_, ?_⟩
    · refine (r12b ..).trans ?_
      rw [look0]
      simp only [l3, Option.bind_some, len, rv?_r, int?_I, g1, gdK_true, ia, dem_a, fa64, lk, gdK_some', decide_true, cond_true, ld4Bx, hu]
      show Option.bind (Option.bind (Option.bind (slice1 E.P 9 false true [.d (.str c.s), .d (.int .i64 (cond (decide (Int.ofNat c.s.length < t)) (Int.ofNat c.s.length) t))]) SV.rv?) RV.str?) _ = _
      rw [ms, sl]
      simp only [Option.bind_some, rv?_r, str?_S]
      show Option.bind (ldV 1 false (.c (.a (.ptr i 1))) (limH true h.nx h)) _ = _
      rw [l1]
      show Option.bind (callU E false 34 [.a (.ms j1 0 D.sure.length D.sure.length), .a (.d (.agg [.int .i64 c.k, .int .i64 c.x, .str (tornC c t).s, .int .i64 c.n]))] h) _ = _
      rw [e34]
      simp only [Option.bind_some, F.a1]
      show Option.bind (callU E true 35 [.a (.ms j1 0 (D.sure.set m (chgF (tornC c t) u)).length (D.sure.set m (chgF (tornC c t) u)).length)] _) _ = _
      rw [F.a2]
      simp only [Option.bind_some, F.a3, F.a4, F.a5, F.a6, int?_I, F.a7]
    · rw [F.nx, hset_nx]; omega
    · intro k hk1 hk2 hk3
      rw [F.m k hk1 hk2, hset_ne hk3]
  | no hno =>
    obtain ⟨g1', g2', g3', g4', g5', F⟩ := fin12 hd hlen
    refine ⟨g5', _, ?_, F.d, by rw [F.nx]; omega, fun k hk1 hk2 _ => F.m k hk1 hk2⟩
    refine (r12b ..).trans ?_
    rw [look0]
    simp only [l3, Option.bind_some, len, rv?_r, int?_I]
    have fin : Option.bind (ldV 1 false (RV.c (CV.a (AV.ptr i 1))) h) (fun v40 => (Option.bind (Option.bind (cvsS [(SV.r (RV.dem v40))]) (fun v41 => (callU E true 35 (passCV [5] 0 v41) h))) (fun v42 => (Option.bind (stV 1 (RV.c (CV.a (AV.ptr i 2))) v42.fst v42.snd) (fun v43 => (Option.bind (stV 1 (RV.c (CV.a (AV.ptr i 3))) (RV.c (CV.a (AV.d (PV.sl 0 true [])))) v43.snd) (fun v44 => (Option.bind (stV 1 (RV.c (CV.a (AV.ptr i 6))) (RV.c (CV.a (AV.d (PV.bool true)))) v44.snd) (fun v45 => (Option.bind (Option.bind (ldV 1 false (RV.c (CV.a (AV.ptr i 5))) v45.snd) (RV.int? IntKind.i64)) (fun v46 => (Option.bind (stV 1 (RV.c (CV.a (AV.ptr i 5))) (RV.c (CV.a (AV.d (PV.int IntKind.i64 (IntKind.wrap IntKind.i64 (v46 + 1)))))) v45.snd) (fun v47 => (some ((RV.tup []), v47.snd))))))))))))))) = some (RV.tup [], g5') := by
      rw [F.a1]
      show Option.bind (callU E true 35 [.a (.ms j1 0 D.sure.length D.sure.length)] h) _ = _
      rw [F.a2]
      simp only [Option.bind_some, F.a3, F.a4, F.a5, F.a6, int?_I, F.a7]
    cases hg : (cond (decide ((K : Int) < (D.wait.length : Int))) (decide (0 < t)) false) with
    | false => simp only [gdK_false, cond_false]; exact fin
    | true =>
      have hlt : K < D.wait.length := by
        rcases Nat.lt_or_ge K D.wait.length with h1 | h1
        · exact h1
        · rw [show decide ((K : Int) < (D.wait.length : Int)) = false by simp; omega] at hg; cases hg
      have h0 : 0 < t := by
        rw [show decide ((K : Int) < (D.wait.length : Int)) = true by simp; omega] at hg
        simpa using hg
      have hc : D.wait[K]? = some D.wait[K] := List.getElem?_eq_getElem hlt
      have hk := hno _ hc h0
      have hv : v = .ow 4 false (D.wait.map Chg.p) := wv hd.w (by intro e; rw [e] at hlt; simp at hlt)
      have ia : indexAddrV E.P 59 (.r (RV.dem (.c v.dem))) (.d (.int .i64 K)) = some (.r (.c (.a (.d (.bx (D.wait[K]).p.cells))))) := by
        rw [hv, cdem_ow, dem_a, ia59Sl, inb_nat (by simpa using hlt), Int.toNat_natCast, getD_chg hc]; rfl
      have lk : ldV 1 false (.c (.a (.d (.bx (D.wait[K]).p.cells)))) h = some (.c (.a (.d (.int .i64 (D.wait[K]).k)))) := rfl
      simp only [gdK_true, Option.bind_some, ia, rv?_r, dem_a, fa64, lk, int?_I, show decide ((D.wait[K]).k = 0) = false by simp [hk], cond_true, cond_false]
      exact fin

/-- The power fails. -/
theorem c12 {h : Hp} {i j1 j2 : Nat} {v : CV} {D : DD} {k t : Int} {L1 L2 : List Tx} (hd : DAt h i j1 j2 v D) (hdn : D.down = false) (hlen : D.sure.length < 1000000) (hw : D.wait.length < 1000000)
    (hrun : Runs (D.wait.take (keepN k D.wait.length)) D.sure L1) (htorn : TornR D.wait (keepN k D.wait.length) t L1 L2) :
    ∃ h' j2', callU E false 12 [.a (.ptr i 0), .a (.d (.int .i64 k)), .a (.d (.int .i64 t))] h = some (.tup [], h') ∧ DAt h' i j1 j2' (.a (.d (.sl 0 true []))) (fallen { D with sure := L2 }) ∧ h.nx ≤ h'.nx ∧ ∀ k, k < h.nx → k ≠ i → k ≠ j1 → k ≠ j2 → h'.m k = h.m k := by
  have hK : keepN k D.wait.length ≤ D.wait.length := Nat.min_le_right _ _
  have l3 : ldV 1 false (.c (.a (.ptr i 3))) h = some (.c v.dem) := ld1 hd.hi (x := v) rfl
  have len := lenW hd.w
  generalize hKe : keepN k D.wait.length = K at *
  have hll := hrun.length
  -- the loop
  have hloop : ∃ y n x b h1, (∀ z, avsS [SV.r (RV.dem (.c v.dem)), SV.r (.c (.a (.d (.int .i64 K))))] = some z → slice1 E.P 59 false true z = some (.r y)) ∧ (∃ z, avsS [SV.r (RV.dem (.c v.dem)), SV.r (.c (.a (.d (.int .i64 K))))] = some z) ∧ lenV E.P 59 (RV.dem y) = some (.c (.a (.d (.int .i64 n)))) ∧
      loopU (LB E false 12 3) ⟨[(0, .r (.c (.a (.ptr i 0)))), (1, .r (.c (.a (.d (.int .i64 K))))), (2, .r (.c (.a (.d (.int .i64 t))))), (24, .r (RV.dem y)), (25, .r (.c (.a (.d (.int .i64 n))))), (26, .r (.c (.a (.d (.int .i64 0)))))], [], h⟩ = some (.exit 0, ⟨[(0, .r (.c (.a (.ptr i 0)))), (1, .r (.c (.a (.d (.int .i64 K))))), (2, .r (.c (.a (.d (.int .i64 t))))), (24, .r (RV.dem y)), (25, .r (.c (.a (.d (.int .i64 n))))), (26, .r (.c (.a (.d (.int .i64 x))))), (27, .r (.c (.a (.d (.bool b)))))], [], h1⟩) ∧
      DAt h1 i j1 j2 v { D with sure := L1 } ∧ Same h h1 i j1 j2 := by
    by_cases hn : D.wait = []
    · have hK0 : K = 0 := by rw [hn] at hK; simpa using hK
      subst hK0
      simp at hrun
      cases hrun
      have hv : v = .a (.d (.sl 0 true [])) ∨ v = .ow 4 false [] := by
        have := hd.w
        rw [hn] at this
        cases this with
        | nil => exact .inl rfl
        | ow => exact .inr rfl
      rcases hv with hv | hv
      · subst hv
        refine ⟨.c (.a (.d (.sl 0 true []))), 0, 0, false, h, fun z hz => ?_, ⟨_, rfl⟩, rfl, loopU_out (rL12n ..) (by simp), hd, .refl ..⟩
        cases hz
        exact (sl59n _).trans rfl
      · subst hv
        refine ⟨.c (.a (.d (.sl 4 false []))), 0, 0, false, h, fun z hz => ?_, ⟨_, rfl⟩, by rw [dem_a, len59Sl]; rfl, loopU_out ((rL12 ..).trans rfl) (by simp), hd, .refl ..⟩
        cases hz
        exact (sl59 0 _ _).trans rfl
    · have hv := wv hd.w hn
      obtain ⟨h1, e1, e2, e3⟩ := loop12 (k := K) (t := t) (b := false) (w := D.wait.take K) (by simp; omega) (D.wait.take K) 0 rfl (Nat.zero_le _) hd hrun
      subst hv
      refine ⟨.c (.a (.d (.sl 4 false ((D.wait.take K).map Chg.p)))), (D.wait.take K).length, (D.wait.take K).length, _, h1, fun z hz => ?_, ⟨_, rfl⟩, by rw [dem_a, len59Sl, List.length_map], e1, e2, e3⟩
      cases hz
      refine (sl59 0 _ _).trans ?_
      rw [grd_pos (by simp [inc]; omega)]
      simp [cut, List.map_take]
  obtain ⟨y, n, x, b, h1, a1, ⟨z, a2⟩, a3, a4, a5, a6⟩ := hloop
  obtain ⟨h', j2', b1, b2, b3, b4⟩ := tail12 (K := K) (t := t) (n := n) (x := x) (b := b) (y := .r (RV.dem y)) a5 (by show L1.length < _; omega) hw hK htorn
  refine ⟨h', j2', ?_, b2, by rw [← a6.nx]; exact b3, fun k hk h1' h2' h3' => by rw [b4 k (by rw [a6.nx]; exact hk) h1' h2', a6.m k h1' h2' h3']⟩
  apply callU_of
  rw [r12, c16 hd]
  have hKe' : keepN k D.wait.length = K := hKe
  simp only [Option.bind_some, bool?_B, hdn, cond_false, l3, len, rv?_r, int?_I, keepN_eq, hKe', a2, a1 z a2, a3, LB_eq, a4, b1]
end Go.Abs.T10
