/- A law's arguments as the abstract machine's values; a law that is true there. From a law that is true in the abstract machine to what its row asks of the call. -/
import Derived.Test.YtmbgdghihghnjaaAbsE
import Derived.ProofKit
import Derived.ChangeCalls
set_option linter.unusedVariables false
set_option linter.unusedSimpArgs false
namespace Go.Abs
open Go.RowKit

/-! The types of plain arguments: a row of cells. -/
inductive Ty where
  | b | i (k : IntKind) | s | sl (agg : Bool) (el : List Ty)
def PV.isAgg : PV → Bool | .agg _ => true | _ => false
mutual
inductive TyOk : Ty → PV → Prop
  | b (x) : TyOk .b (.bool x)
  | i (k n) (h1 : k.min ≤ n) (h2 : n ≤ k.max) : TyOk (.i k) (.int k n)
  | s (l) (h : l.length ≤ maxLen) : TyOk .s (.str l)
  | nsl (agg el) : TyOk (.sl agg el) (.sl el.length true [])
  | sl (agg el l) (h : l.length ≤ maxLen) (ha : ∀ x ∈ l, x.isAgg = agg) (hl : ∀ x ∈ l, TysOk el x.cells) : TyOk (.sl agg el) (.sl el.length false l)
inductive TysOk : List Ty → List PV → Prop
  | nil : TysOk [] []
  | cons (t ts p ps) (h : TyOk t p) (hs : TysOk ts ps) : TysOk (t :: ts) (p :: ps)
end
theorem TysOk.length : ∀ {ts : List Ty} {ps : List PV}, TysOk ts ps → ps.length = ts.length := by
  intro ts
  induction ts with
  | nil => intro ps h; cases h; rfl
  | cons t ts ih => intro ps h; cases h with | cons _ _ _ _ h hs => simp [ih hs]
theorem TysOk.append : ∀ {ts us : List Ty} {ps qs : List PV}, TysOk ts ps → TysOk us qs → TysOk (ts ++ us) (ps ++ qs) := by
  intro ts
  induction ts with
  | nil => intro us ps qs h k; cases h; exact k
  | cons t ts ih => intro us ps qs h k; cases h with | cons _ _ _ _ h hs => exact .cons _ _ _ _ h (ih hs k)
theorem TyOk.scal {t : Ty} {p : PV} (h : TyOk t p) : scalP p = true := by cases h <;> rfl
theorem TysOk.scal : ∀ {ts : List Ty} {ps : List PV}, TysOk ts ps → ∀ p ∈ ps, scalP p = true := by
  intro ts
  induction ts with
  | nil => intro ps h p hp; cases h; cases hp
  | cons t ts ih =>
    intro ps h p hp
    cases h with
    | cons _ _ _ _ h hs =>
      rcases List.mem_cons.1 hp with e | hp
      · subst e; exact h.scal
      · exact ih hs p hp

/-- The cells of a type: fields in a row. -/
def tyFs (P : Program) (rec : TypeId → Option (List Ty)) : Nat → List Field → Option (List Ty)
  | _, [] => some []
  | off, f :: r => (rec f.type).bind fun l => cond (Nat.beq f.offset off && Nat.beq (P.cellsOf f.type) l.length) ((tyFs P rec (off + l.length) r).bind fun m => some (l ++ m)) none
/-- Types without slices in them. -/
def tyC (P : Program) : Nat → TypeId → Option (List Ty)
  | 0, _ => none
  | n + 1, t => match P.underlying t with
    | some .bool => some [.b]
    | some (.int k) => some [.i k]
    | some .string => some [.s]
    | some (.struct fs) => (tyFs P (tyC P n) 0 fs.toList).bind fun l => cond (Nat.beq (P.cellsOf t) l.length) (some l) none
    | _ => none
/-- An argument's type: is it a struct? its cells. -/
def tyA (P : Program) (n : Nat) (t : TypeId) : Option (Bool × List Ty) :=
  match P.underlying t with
  | some (.slice e) => (tyC P n e).bind fun l => cond (Nat.beq (P.cellsOf e) l.length && !(Nat.beq l.length 0)) (some (false, [.sl (isAggT P e) l])) none
  | _ => (tyC P n t).bind fun l => some (isAggT P t, l)

/-- What was there already is frozen. -/
def fzO (w : World) : OwnF := fun b o => match w.cell? ⟨b, o, none⟩ with | some v => .fz v | none => .ext
def g0 (w : World) : Gh := ⟨fzO w, fun _ => 0, fun _ => False⟩
theorem fzO_some {w : World} {b o : Nat} {v : Value} (h : w.cell? ⟨b, o, none⟩ = some v) : fzO w b o = .fz v := by simp [fzO, h]
theorem winv0 (w : World) : WInv (fzO w) w where
  fz := by
    intro b o v h
    unfold fzO at h
    split at h <;> cases h
    assumption
  wbx := by intro b o d k h; unfold fzO at h; split at h <;> cases h
  whp := by intro b o d k h; unfold fzO at h; split at h <;> cases h
  wtl := by intro b o d h; unfold fzO at h; split at h <;> cases h
  fresh := by
    intro b o hb
    have : w.cell? ⟨b, o, none⟩ = none := by simp [World.cell?, Array.getElem?_eq_none hb]
    simp [fzO, this]
theorem hpR0 (w : World) (e : Nat) : HpR (g0 w) e h0 w := ⟨fun i => ⟨False.elim, fun ⟨cs, h⟩ => by cases h⟩, fun i cs h => by cases h⟩

theorem below_of_frame {W W' : World} {own' : OwnF} (h : Frame 0 0 (fzO W) W own' W') : Below W.heap.size W W' where
  os := h.os
  tape := h.tape
  output := h.output
  size := h.size
  block := by
    intro k hk
    rcases h.form k hk with he | ⟨c, c', t, f, h1, h2, hs⟩
    · exact he.symm
    · rw [h1, h2]
      have : c' = c := by
        apply Array.ext_getElem?
        intro o
        have hc := (h.cell k o hk (by unfold fzO; split <;> exact fun h => h)).2
        simpa [World.cell?, h1, h2] using hc
      rw [this]

/-- A law that is true in the abstract machine, from frozen arguments. -/
theorem law_calls {E : Env} {call : CallF} (hC : CallOk E call) {f : FuncId} {args : List CV} {argsV : Array Value} {W : World} {h' : Hp} {b : Bool} (hcall : call false f args h0 = some (rB b, h'))
    (hargs : ∀ (i : Nat) x, args[i]? = some x → ∃ V, argsV[i]? = some V ∧ CVR (g0 W) (.tmp 0 i) x V) :
    Calls E.P f argsV W fun e W' => e = .returned (.bool b) ∧ Below W.heap.size W W' := by
  refine (hC.sound hcall (d := 0) (e := 0) (g := g0 W) (winv0 W) (hpR0 W 0) hargs).mono fun en w' hq => ?_
  cases en with
  | panicked c => exact hq.elim
  | outgrown => exact hq.elim
  | returned V =>
    obtain ⟨g', _, _, hr, hacc⟩ := hq
    refine ⟨?_, below_of_frame hacc.frame⟩
    cases hr with
    | c x V h => cases h with | a v V h => cases h with | d p V h => cases h; rfl

/-! Reading -/
section
variable {H : Type} {enc : TypeId × Value → H} {P : Program} {w : World} {sp : Nat → Bool} {held : Bool}
theorem tyFs_read {cs : List Value} {fs : Array Field} {xs : List (DataW H × List MemPlace)} {n k : Nat} (hxs : xs.length = fs.size)
    (hrec : ∀ {t : TypeId} {ts : List Ty} {cs : List Value} {x : DataW H × List MemPlace}, tyC P k t = some ts → DataW.trod enc P w 0 sp held n t cs = some x → ∃ ps, PRs (fzO w) ps cs ∧ TysOk ts ps)
    (hf : ∀ (i : Nat) (f : Field), fs[i]? = some f → DataW.trod enc P w 0 sp held n f.type ((cs.drop f.offset).take (P.cellsOf f.type)) = xs[i]?) :
    ∀ (r : List Field) (i off : Nat) {l : List Ty}, fs.toList.drop i = r → tyFs P (tyC P k) off r = some l → ∃ ps, PRs (fzO w) ps ((cs.drop off).take l.length) ∧ TysOk l ps := by
  intro r
  induction r with
  | nil => intro i off l _ h; simp [tyFs] at h; subst h; exact ⟨[], by simpa using PRs.nil, .nil⟩
  | cons f r ih =>
    intro i off l hd h
    unfold tyFs at h
    simp only [Option.bind_eq_some_iff] at h
    obtain ⟨l1, h1, h⟩ := h
    obtain ⟨h2, h⟩ := cond_none h
    simp only [Option.bind_eq_some_iff, Option.some.injEq, Bool.and_eq_true] at h h2
    obtain ⟨m, h3, rfl⟩ := h
    have e1 := nbeq_eq h2.1
    have e2 := nbeq_eq h2.2
    have hi : i < fs.toList.length := by
      rcases Nat.lt_or_ge i fs.toList.length with hl | hl
      · exact hl
      · rw [List.drop_of_length_le hl] at hd; cases hd
    rw [List.drop_eq_getElem_cons hi] at hd
    simp only [List.cons.injEq] at hd
    have hfi : fs[i]? = some f := by
      have : fs.toList[i]? = some f := by rw [List.getElem?_eq_getElem hi, hd.1]
      simpa using this
    have hr := hf i f hfi
    have hx : i < xs.length := by rw [hxs]; simpa using hi
    rw [List.getElem?_eq_getElem hx, e1, e2] at hr
    obtain ⟨ps, k1, k2⟩ := hrec h1 hr
    obtain ⟨qs, k3, k4⟩ := ih (i + 1) (off + l1.length) hd.2 h3
    refine ⟨ps ++ qs, ?_, k2.append k4⟩
    rw [List.length_append, List.take_add, List.drop_drop]
    exact k1.append k3
theorem tyC_read : ∀ (k n : Nat) {t : TypeId} {ts : List Ty} {cs : List Value} {x : DataW H × List MemPlace}, tyC P k t = some ts → DataW.trod enc P w 0 sp held n t cs = some x → ∃ ps, PRs (fzO w) ps cs ∧ TysOk ts ps := by
  intro k
  induction k with
  | zero => intro n t ts cs x h; cases h
  | succ k ih =>
    intro n t ts cs x h hr
    unfold tyC at h
    split at h
    · rename_i ht
      cases h
      obtain ⟨b, rfl, _⟩ := DataW.trod_bool ht hr
      exact ⟨[.bool b], .cons _ _ _ _ (.bool b) .nil, .cons _ _ _ _ (.b b) .nil⟩
    · rename_i ht
      cases h
      obtain ⟨n, rfl, _, hw⟩ := DataW.trod_int ht hr
      simp only [Lit.wf, Bool.and_eq_true, decide_eq_true_eq] at hw
      exact ⟨[.int _ n], .cons _ _ _ _ (.int _ n) .nil, .cons _ _ _ _ (.i _ n hw.1 hw.2) .nil⟩
    · rename_i ht
      cases h
      obtain ⟨s, rfl, _, hw⟩ := DataW.trod_string ht hr
      exact ⟨[.str s.data.toList], .cons _ _ _ _ (.str s) .nil, .cons _ _ _ _ (.s _ (by simpa using hw)) .nil⟩
    · rename_i fs ht
      simp only [Option.bind_eq_some_iff] at h
      obtain ⟨l, h1, h⟩ := h
      obtain ⟨h2, h⟩ := cond_none h
      cases h
      obtain ⟨xs, m, rfl, _, hl, hx, hf⟩ := DataW.trod_struct ht hr
      obtain ⟨ps, h3, h4⟩ := tyFs_read hx (fun h1 h2 => ih m h1 h2) hf fs.toList 0 0 (by simp) h1
      refine ⟨ps, ?_, h4⟩
      have := nbeq_eq h2
      rw [List.drop_zero, List.take_of_length_le (by omega)] at h3
      exact h3
    · cases h

/-- A slice's elements. -/
theorem rows_read {e : TypeId} {el : List Ty} {k n b off len : Nat} (agg : Bool) (ha : agg = false → el.length = 1) (he : tyC P k e = some el) (hc : P.cellsOf e = el.length) (hpos : el.length ≠ 0)
    (hel : ∀ i, i < len → ∃ z, (w.cells? 0 ((⟨b, off, none⟩ : Addr).add (i * P.cellsOf e)) (P.cellsOf e)).bind (DataW.trod enc P w 0 sp held n e) = some z) : ∀ m, m ≤ len →
    ∃ (l : List PV) (Vs : List Value), l.length = m ∧ (∀ x ∈ l, x.isAgg = agg ∧ TysOk el x.cells) ∧ PRs (fzO w) (l.flatMap PV.cells) Vs ∧ Vs.length = m * el.length ∧ ∀ j V, Vs[j]? = some V → fzO w b (off + j) = .fz V := by
  intro m
  induction m with
  | zero => intro _; exact ⟨[], [], rfl, by simp, .nil, by simp, by simp⟩
  | succ m ih =>
    intro hm
    obtain ⟨l, Vs, h1, h2, h3, h4, h5⟩ := ih (by omega)
    obtain ⟨z, hz⟩ := hel m (by omega)
    simp only [Option.bind_eq_some_iff] at hz
    obtain ⟨cs, hcs, hz⟩ := hz
    obtain ⟨_, hlen, hget⟩ := World.cells?_some hcs
    obtain ⟨ps, k1, k2⟩ := tyC_read k n he hz
    have hx : ∃ x : PV, x.isAgg = agg ∧ x.cells = ps := by
      cases agg with
      | true => exact ⟨.agg ps, rfl, rfl⟩
      | false =>
        have hl := k2.length
        rw [ha rfl] at hl
        match ps, hl, k2 with
        | [p], _, k2 =>
          have hs := k2.scal p (by simp)
          refine ⟨p, ?_, ?_⟩ <;> cases p <;> first | rfl | cases hs
    obtain ⟨x, hx1, hx2⟩ := hx
    refine ⟨l ++ [x], Vs ++ cs, by simp [h1], ?_, ?_, ?_, ?_⟩
    · intro y hy
      rcases List.mem_append.1 hy with hy | hy
      · exact h2 y hy
      · simp only [List.mem_singleton] at hy; subst hy
        exact ⟨hx1, hx2 ▸ k2⟩
    · rw [List.flatMap_append]
      refine h3.append ?_
      simpa [hx2] using k1
    · rw [List.length_append, h4, hlen, hc, Nat.succ_mul]
    · intro j V hj
      by_cases hjl : j < Vs.length
      · rw [List.getElem?_append_left hjl] at hj
        exact h5 j V hj
      · rw [List.getElem?_append_right (by omega)] at hj
        have hjc : j - Vs.length < cs.length := (List.getElem?_eq_some_iff.1 hj).1
        refine fzO_some ?_
        have := hget (j - Vs.length) (by omega)
        rw [hj] at this
        rw [← this]
        congr 1
        rw [hc, ← h4]
        unfold Addr.add
        by_cases hz1 : Vs.length = 0 <;> by_cases hz2 : j - Vs.length = 0
        · simp [hz1, hz2]; try omega
        · simp [hz1]; try omega
        · simp [hz1, hz2]; try omega
        · simp [hz1, hz2]; try omega

theorem cells_one {v u : Value} (h : v.cells.toList = [u]) (hn : ∀ cs, v ≠ .agg cs) : v = u := by
  cases v with
  | agg cs => exact absurd rfl (hn cs)
  | _ => simpa [Value.cells] using h
/-- An argument. -/
theorem tyA_read {n : Nat} {t : TypeId} {q : Bool × List Ty} {base : Nat} {r : Reach} {v : Value} {dd : DataW H} {pl : List MemPlace} (ht : tyA P n t = some q) (hok : Value.okWide P w r base t v) (h : DataW.Trod enc P w 0 sp held t v dd pl) :
    ∃ p, PR (fzO w) p v ∧ p.isAgg = q.1 ∧ TysOk q.2 p.cells := by
  obtain ⟨fuel, hr⟩ := h
  unfold tyA at ht
  split at ht
  · rename_i e hu
    simp only [Option.bind_eq_some_iff] at ht
    obtain ⟨l, h1, h9⟩ := ht
    obtain ⟨h2, h3⟩ := cond_none h9
    clear h9
    cases h3
    simp only [Bool.and_eq_true, Bool.not_eq_true'] at h2
    have hc := nbeq_eq h2.1
    have hpos : l.length ≠ 0 := fun e => by rw [e] at h2; exact absurd h2.2 (by decide)
    have hna : ∀ cs, v ≠ .agg cs := fun cs e => by subst e; simp [Value.okWide, Cell.okWide, Cell.ok, hu] at hok
    rcases DataW.trod_slice hu hr with ⟨hv, _⟩ | ⟨a, len, cap, elems, rest, m, _, hv, _, hb, hl, hm, hlen, hel, _, _⟩
    · have : v = .slice none 0 0 := cells_one hv hna
      subst this
      exact ⟨.sl l.length true [], .nsl _, rfl, .cons _ _ _ _ (.nsl _ _) .nil⟩
    · have : v = .slice (some a) len cap := cells_one hv hna
      subst this
      have hok : len ≤ cap ∧ (cap : Int) ≤ IntKind.i64.max ∧ w.has P r base a e cap := by simpa [Value.okWide, Cell.okWide, Cell.ok, hu] using hok
      obtain ⟨_, _, hhas⟩ := hok
      have hspot : a.spot = none := hhas.2.1
      obtain ⟨b, off, spot⟩ := a
      simp only at hspot; subst hspot
      have ha : isAggT P e = false → l.length = 1 := by
        intro hagg
        cases n with
        | zero => cases h1
        | succ n =>
          unfold tyC at h1
          split at h1
          · cases h1; rfl
          · cases h1; rfl
          · cases h1; rfl
          · rename_i fs hfs; simp [isAggT, hfs] at hagg
          · cases h1
      obtain ⟨pl, Vs, k1, k2, k3, k4, k5⟩ := rows_read (n := m) (b := b) (off := off) (len := len) (isAggT P e) ha h1 hc hpos (fun i hi => ⟨elems[i]'(by omega), by rw [hel i hi, List.getElem?_eq_getElem]⟩) len (Nat.le_refl _)
      refine ⟨.sl l.length false pl, ?_, rfl, .cons _ _ _ _ (.sl _ _ _ (by rw [k1]; exact Nat.le_trans hl hm) (fun x hx => (k2 x hx).1) (fun x hx => (k2 x hx).2)) .nil⟩
      have := PR.sl (own := fzO w) l.length pl b off cap Vs (by omega) (fun x hx => ⟨(k2 x hx).2.length, fun c hc => (k2 x hx).2.scal c hc⟩) k3 k5
      rw [k1] at this
      exact this
  · rename_i hns
    simp only [Option.bind_eq_some_iff] at ht
    obtain ⟨l, h1, h2⟩ := ht
    cases h2
    obtain ⟨ps, h3, h4⟩ := tyC_read n fuel h1 hr
    cases n with
    | zero => cases h1
    | succ n =>
      unfold tyC at h1
      split at h1
      · rename_i hu
        obtain ⟨b, rfl⟩ := WideShapes.okWide_bool hu hok
        cases h1
        cases h3 with
        | cons p ps V Vs h hs =>
          cases hs
          cases h
          exact ⟨.bool b, .bool b, by simp [isAggT, hu, PV.isAgg], h4⟩
      · rename_i k hu
        obtain ⟨m, hcs, _, hwf⟩ := DataW.trod_int hu hr
        clear hwf
        have : v = .int k m := cells_one hcs fun cs e => by subst e; simp [Value.okWide, Cell.okWide, Cell.ok, hu] at hok
        subst this
        cases h1
        cases h3 with
        | cons p ps V Vs h hs =>
          cases hs
          cases h
          exact ⟨.int k m, .int k m, by simp [isAggT, hu, PV.isAgg], h4⟩
      · rename_i hu
        obtain ⟨m, hcs, _, hwf⟩ := DataW.trod_string hu hr
        clear hwf
        have : v = .string m := cells_one hcs fun cs e => by subst e; simp [Value.okWide, Cell.okWide, Cell.ok, hu] at hok
        subst this
        cases h1
        cases h3 with
        | cons p ps V Vs h hs =>
          cases hs
          cases h
          exact ⟨.str m.data.toList, .str m, by simp [isAggT, hu, PV.isAgg], h4⟩
      · rename_i fs hu
        unfold Value.okWide at hok
        rw [hu] at hok
        obtain ⟨cs, rfl, _⟩ := hok
        exact ⟨.agg ps, .agg _ _ h3, by simp [isAggT, hu, PV.isAgg], h4⟩
      · cases h1
end
end Go.Abs
namespace Go.Abs
open Go.RowKit Go.ChangeShapes

def tyAs (P : Program) (n : Nat) : List TypeId → Option (List (Bool × List Ty))
  | [] => some []
  | t :: r => (tyA P n t).bind fun q => (tyAs P n r).bind fun qs => some (q :: qs)
inductive ArgsOk : List (Bool × List Ty) → List PV → Prop
  | nil : ArgsOk [] []
  | cons (q qs p ps) (ha : p.isAgg = q.1) (h : TysOk q.2 p.cells) (hs : ArgsOk qs ps) : ArgsOk (q :: qs) (p :: ps)
/-- The parameters' types can be read again. -/
def parsB (P : Program) : List TypeId → Bool
  | [] => true
  | t :: r => P.readableRec t && (decide (t < P.types.size) && parsB P r)

section
variable {H : Type} {enc : TypeId × Value → H} {P : Program} {w : World} {sp : Nat → Bool} {held : Bool}
theorem args_read {n base : Nat} {r : Reach} : ∀ {ts : List TypeId} {qs : List (Bool × List Ty)} {vs : List Value} {ds : List (DataW H)} {pl : List MemPlace}, tyAs P n ts = some qs → (∀ (j : Nat) t v, ts[j]? = some t → vs[j]? = some v → Value.okWide P w r base t v) → DataW.TrodAll enc P w 0 sp held ts vs ds pl →
    ∃ ps, ArgsOk qs ps ∧ ∀ (j : Nat) p, ps[j]? = some p → ∃ v, vs[j]? = some v ∧ PR (fzO w) p v := by
  intro ts
  induction ts with
  | nil => intro qs vs ds pl h _ _; simp [tyAs] at h; subst h; exact ⟨[], .nil, by simp⟩
  | cons t ts ih =>
    intro qs vs ds pl h hok hr
    simp only [tyAs, Option.bind_eq_some_iff, Option.some.injEq] at h
    obtain ⟨q, h1, qs', h2, rfl⟩ := h
    obtain ⟨v, vs', d, ds', p, pq, rfl, rfl, rfl, h3, h4⟩ := trodAll_cons hr
    obtain ⟨x, k1, k2, k3⟩ := tyA_read h1 (hok 0 t v (by simp) (by simp)) h3
    obtain ⟨ps, k4, k5⟩ := ih h2 (fun j t v hj hv => hok (j + 1) t v (by simpa using hj) (by simpa using hv)) h4
    refine ⟨x :: ps, .cons _ _ _ _ k2 k3 k4, fun j p hj => ?_⟩
    cases j with
    | zero => simp at hj; subst hj; exact ⟨v, by simp, k1⟩
    | succ j => simp at hj; obtain ⟨v', h5, h6⟩ := k5 j p hj; exact ⟨v', by simpa using h5, h6⟩
theorem trodAll_stays {w' : World} {sp' : Nat → Bool} (hl : laidOutB P = true) : ∀ {ts : List TypeId} {vs : List Value} {ds : List (DataW H)} {pl : List MemPlace}, parsB P ts = true → DataW.TrodAll enc P w 0 (fun _ => true) true ts vs ds pl → (∀ p ∈ pl, w.sameAt w' p) → (∀ p ∈ pl, sp' p.block = true) →
    DataW.TrodAll enc P w' 0 sp' true ts vs ds pl := by
  intro ts
  induction ts with
  | nil =>
    intro vs ds pl _ h _ _
    obtain ⟨rfl, rfl, rfl⟩ := trodAll_nil h
    exact trodAll_mk0
  | cons t ts ih =>
    intro vs ds pl hp h h1 h2
    simp only [parsB, Bool.and_eq_true, decide_eq_true_eq] at hp
    obtain ⟨v, vs', d, ds', p, q, rfl, rfl, rfl, h3, h4⟩ := trodAll_cons h
    exact ⟨p, q, WideElems.Trod_stays hl hp.1 hp.2.1 h3 (fun x hx => h1 x (List.mem_append_left _ hx)) (fun x hx => h2 x (List.mem_append_left _ hx)), ih hp.2.2 h4 (fun x hx => h1 x (List.mem_append_right _ hx)) (fun x hx => h2 x (List.mem_append_right _ hx)), rfl⟩
end

theorem post_below {H : Type} {enc : TypeId × Value → H} {P : Program} {f : Func} {s : ChangeSpec} {apart fresh handsOn again : Bool} {W W' : World} {args : Array Value} {v : Value} {ds gs : List (DataW H)} {before pa pv : List MemPlace}
    (hW : DataW.Whole enc P f.params.toList s.vars apart W args.toList ds gs before)
    (hres : ∀ (b : Nat) (sp : Nat → Bool) (hd : Bool), DataW.TrodAll enc P W' b sp hd f.resultTypes.toList (v.resultList f.resultTypes.size) (s.fn H (ds ++ gs)).results [])
    (hargs : ∀ sp : Nat → Bool, (∀ p ∈ before, sp p.block = true) → DataW.TrodAll enc P W' 0 sp true f.params.toList args.toList (s.fn H (ds ++ gs)).args pa)
    (hvars : ∀ sp : Nat → Bool, (∀ p ∈ before, sp p.block = true) → DataW.TrodVars enc P W' sp s.vars (s.fn H (ds ++ gs)).vars pv)
    (hps : before = pa ++ pv) (hb : Below W.heap.size W W')
    (hok : ∀ (j : Nat) (t : TypeId) (r : Value), f.resultTypes[j]? = some t → (v.resultList f.resultTypes.size)[j]? = some r → Value.okWide P W' .any 0 t r) :
    s.post enc P f apart fresh handsOn again W args v W' := by
  have hlt := hW.lt
  have hold : ∀ p ∈ before, (fun b => decide (b < W.heap.size)) p.block = true := fun p hp => by simpa using hlt p hp
  refine ⟨ds, gs, before, [], pa, pv, hW, hres _ _ _, hargs _ hold, hvars _ hold, hb.frame _, fun _ => ?_⟩
  obtain ⟨_, _, _, _, _, hz, hn⟩ := hW
  refine ⟨hok, _, _, ([] ++ pa) ++ pv, ⟨[] ++ pa, pv, trodAll_append (hargs _ (fun _ _ => rfl)) (hres _ _ _), hvars _ (fun _ _ => rfl), rfl, ?_, ?_⟩, ?_⟩
  · intro b off hp
    have hp' : MemPlace.cell b off ∈ before := by rw [hps]; simpa using hp
    rw [hb.frozen (hlt _ hp')]
    exact hz b off hp'
  · intro ha
    have := hn ha
    rw [hps] at this
    simpa using this
  · intro p hp _
    rw [hps]
    simpa using hp

/-- A law: true, and the arguments read as before. -/
theorem law_post {E : Env} {call : CallF} (hC : CallOk E call) {H : Type} {enc : TypeId × Value → H} {f : FuncId} {fn : Func} {s : ChangeSpec} {tb : TypeId} {n : Nat} {qs : List (Bool × List Ty)}
    (hl : laidOutB E.P = true) (hpar : parsB E.P fn.params.toList = true) (hty : tyAs E.P n fn.params.toList = some qs) (hres : fn.resultTypes = #[tb]) (htb : E.P.underlying tb = some .bool)
    (hvars : s.vars = []) (hs : ∀ ds : List (DataW H), ds.length = fn.params.toList.length → s.fn H ds = { results := [.lit (.bool true)], args := ds })
    (hlaw : ∀ ps, ArgsOk qs ps → ∃ h', call false f (ps.map fun p => .a (.d p)) h0 = some (rB true, h'))
    {apart fresh handsOn again : Bool} {W : World} {base : Nat} {args : Array Value} {ds gs : List (DataW H)} {before : List MemPlace}
    (hval : ∀ (j : Nat) t v, fn.params[j]? = some t → args[j]? = some v → Value.okWide E.P W .any base t v)
    (hW : DataW.Whole enc E.P fn.params.toList s.vars apart W args.toList ds gs before) :
    Calls E.P f args W fun e W' => ∃ v, e = .returned v ∧ s.post enc E.P fn apart fresh handsOn again W args v W' := by
  have hW' := hW
  obtain ⟨p, q, hA, hV, rfl, hfz, hnd⟩ := hW
  rw [hvars] at hV
  obtain ⟨rfl, rfl⟩ := trodVars_none hV
  obtain ⟨ps, h1, h2⟩ := args_read (n := n) (base := base) (r := .any) hty (fun j t v hj hv => hval j t v (by simpa using hj) (by simpa using hv)) hA
  obtain ⟨h', hcall⟩ := hlaw ps h1
  refine (law_calls hC hcall (W := W) (argsV := args) (fun i x hx => ?_)).mono fun e W' ⟨he, hb⟩ => ⟨_, he, ?_⟩
  · rw [List.getElem?_map, Option.map_eq_some_iff] at hx
    obtain ⟨p, hp, rfl⟩ := hx
    obtain ⟨v, h3, h4⟩ := h2 i p hp
    exact ⟨v, by simpa using h3, .a _ _ (.d _ _ h4)⟩
  · have hlt := hW'.lt
    have hfn : s.fn H (ds ++ []) = { results := [.lit (.bool true)], args := ds } := by
      rw [List.append_nil]; exact hs ds (trodAll_length hA).2
    refine post_below (pa := p) (pv := []) hW' ?_ ?_ ?_ rfl hb (ok_one hres rfl (okWide_bool_mk htb true))
    · intro b sp hd
      rw [hfn, hres]
      exact trodAll_mk1 (shut_bool htb true)
    · intro sp hsp
      rw [hfn]
      exact trodAll_stays hl hpar hA (fun x hx => hb.same (hlt x (List.mem_append_left _ hx))) (fun x hx => hsp x (List.mem_append_left _ hx))
    · intro sp hsp
      rw [hfn, hvars]
      rfl
end Go.Abs
