/- How the abstract machine's values and states stand for the model's. Operators: the model's answers are the abstract machine's. More operations that leave memory alone. Conversions, lengths, fields, indexes, slices of texts. Addresses; what a slice's element is; slice expressions. Slice expressions; choices; nil checks; several results; interface values; the greatest and the least. Constants, zero values, structs put together; new blocks. Slice literals; append. -/
import Derived.Test.YtmbgdghihghnjaaAbsA
import Derived.Below
import Derived.WalkKit
import Derived.Laws.BytesString
import Derived.Laws.Tables
import Derived.Great.BuildSlice
import Derived.Laws.Append
import Derived.Laws.AppendOwn
import Derived.Laws.IdiomCopy
set_option linter.unusedVariables false
namespace Go.Abs

/-- A place that may own what lies behind a slice: a slot, a result in a slot, a box's cell, a heap object's cell, a call's result. -/
inductive Place where
  | tmp (d s : Nat)
  | tup (d s i : Nat)
  | bx (d k j : Nat)
  | hp (e i j : Nat)
  | ret (d : Nat)
  | rti (d i : Nat)

/-- Whose a cell is: nobody's, frozen for good, a box's, a heap object's, of the room behind a slice. -/
inductive Own where
  | ext
  | fz (v : Value)
  | bx (d k : Nat)
  | hp (e i : Nat)
  | tl (p : Place)

abbrev OwnF := Nat → Nat → Own

def Place.mine (d e : Nat) : Place → Prop
  | .tmp d' _ => d ≤ d'
  | .tup d' _ _ => d ≤ d'
  | .bx d' _ _ => d ≤ d'
  | .hp e' _ _ => e ≤ e'
  | .ret d' => d ≤ d'
  | .rti d' _ => d ≤ d'
def Own.mine (d e : Nat) : Own → Prop
  | .ext => False
  | .fz _ => False
  | .bx d' _ => d ≤ d'
  | .hp e' _ => e ≤ e'
  | .tl p => p.mine d e

abbrev World.c? (w : World) (b o : Nat) : Option Value := w.cell? ⟨b, o, none⟩

structure WInv (own : OwnF) (w : World) : Prop where
  fz : ∀ {b o v}, own b o = .fz v → w.cell? ⟨b, o, none⟩ = some v
  wbx : ∀ {b o d k}, own b o = .bx d k → (∃ v, w.cell? ⟨b, o, none⟩ = some v) ∧ w.frozen? ⟨b, o, none⟩ = false
  whp : ∀ {b o e i}, own b o = .hp e i → (∃ v, w.cell? ⟨b, o, none⟩ = some v) ∧ w.frozen? ⟨b, o, none⟩ = false
  wtl : ∀ {b o p}, own b o = .tl p → (∃ v, w.cell? ⟨b, o, none⟩ = some v) ∧ w.frozen? ⟨b, o, none⟩ = false
  fresh : ∀ {b o}, w.heap.size ≤ b → own b o = .ext

/-- A block's form. -/
def MetaEq (x y : Option Obj) : Prop := x = y ∨ ∃ c c' t f, x = some (.cells c t f) ∧ y = some (.cells c' t f) ∧ c.size = c'.size

theorem MetaEq.refl (x : Option Obj) : MetaEq x x := .inl rfl
theorem MetaEq.trans {x y z : Option Obj} (h : MetaEq x y) (k : MetaEq y z) : MetaEq x z := by
  rcases h with rfl | ⟨c, c', t, f, rfl, rfl, hs⟩
  · exact k
  · rcases k with rfl | ⟨d, d', t', f', h1, rfl, hs'⟩
    · exact .inr ⟨c, c', t, f, rfl, rfl, hs⟩
    · simp only [Option.some.injEq, Obj.cells.injEq] at h1
      obtain ⟨rfl, rfl, rfl⟩ := h1
      exact .inr ⟨c, d', t, f, rfl, rfl, hs.trans hs'⟩

/-- What does not belong to the call stays. -/
structure Frame (d e : Nat) (own : OwnF) (w : World) (own' : OwnF) (w' : World) : Prop where
  os : w'.os = w.os
  tape : w'.tape = w.tape
  output : w'.output = w.output
  size : w.heap.size ≤ w'.heap.size
  form : ∀ b, b < w.heap.size → MetaEq w.heap[b]? w'.heap[b]?
  cell : ∀ b o, b < w.heap.size → ¬ (own b o).mine d e → own' b o = own b o ∧ w'.cell? ⟨b, o, none⟩ = w.cell? ⟨b, o, none⟩

theorem Frame.refl (d e : Nat) (own : OwnF) (w : World) : Frame d e own w own w :=
  ⟨rfl, rfl, rfl, Nat.le_refl _, fun _ _ => .refl _, fun _ _ _ _ => ⟨rfl, rfl⟩⟩
theorem Frame.trans {d e : Nat} {o1 o2 o3 : OwnF} {w1 w2 w3 : World} (h : Frame d e o1 w1 o2 w2) (k : Frame d e o2 w2 o3 w3) : Frame d e o1 w1 o3 w3 :=
  ⟨k.os.trans h.os, k.tape.trans h.tape, k.output.trans h.output, Nat.le_trans h.size k.size, fun b hb => (h.form b hb).trans (k.form b (Nat.lt_of_lt_of_le hb h.size)),
    fun b o hb hm => by
      have h1 := h.cell b o hb hm
      have h2 := k.cell b o (Nat.lt_of_lt_of_le hb h.size) (by rw [h1.1]; exact hm)
      exact ⟨h2.1.trans h1.1, h2.2.trans h1.2⟩⟩

/-- A step of the machine: the room at places of S may be used up; all else stays, but for what is new. -/
structure Step (S : Place → Prop) (own : OwnF) (w : World) (own' : OwnF) (w' : World) : Prop where
  os : w'.os = w.os
  tape : w'.tape = w.tape
  output : w'.output = w.output
  size : w.heap.size ≤ w'.heap.size
  form : ∀ b, b < w.heap.size → MetaEq w.heap[b]? w'.heap[b]?
  fz : ∀ {b o v}, own b o = .fz v → own' b o = .fz v
  bx : ∀ {b o d k}, own b o = .bx d k → own' b o = .bx d k ∧ w'.cell? ⟨b, o, none⟩ = w.cell? ⟨b, o, none⟩
  hp : ∀ {b o e i}, own b o = .hp e i → own' b o = .hp e i ∧ w'.cell? ⟨b, o, none⟩ = w.cell? ⟨b, o, none⟩
  tl : ∀ {b o p}, own b o = .tl p → ¬ S p → own' b o = .tl p ∧ w'.cell? ⟨b, o, none⟩ = w.cell? ⟨b, o, none⟩
  ext : ∀ {b o}, b < w.heap.size → own b o = .ext → own' b o = .ext ∧ w'.cell? ⟨b, o, none⟩ = w.cell? ⟨b, o, none⟩
  inv : WInv own' w'

theorem Step.refl {S : Place → Prop} {own : OwnF} {w : World} (h : WInv own w) : Step S own w own w :=
  ⟨rfl, rfl, rfl, Nat.le_refl _, fun _ _ => .refl _, id, fun h => ⟨h, rfl⟩, fun h => ⟨h, rfl⟩, fun h _ => ⟨h, rfl⟩, fun _ h => ⟨h, rfl⟩, h⟩
theorem Step.trans {S : Place → Prop} {o1 o2 o3 : OwnF} {w1 w2 w3 : World} (h : Step S o1 w1 o2 w2) (k : Step S o2 w2 o3 w3) : Step S o1 w1 o3 w3 :=
  ⟨k.os.trans h.os, k.tape.trans h.tape, k.output.trans h.output, Nat.le_trans h.size k.size, fun b hb => (h.form b hb).trans (k.form b (Nat.lt_of_lt_of_le hb h.size)),
    fun x => k.fz (h.fz x),
    fun x => ⟨(k.bx (h.bx x).1).1, (k.bx (h.bx x).1).2.trans (h.bx x).2⟩,
    fun x => ⟨(k.hp (h.hp x).1).1, (k.hp (h.hp x).1).2.trans (h.hp x).2⟩,
    fun x hs => ⟨(k.tl (h.tl x hs).1 hs).1, (k.tl (h.tl x hs).1 hs).2.trans (h.tl x hs).2⟩,
    fun hb x => ⟨(k.ext (Nat.lt_of_lt_of_le hb h.size) (h.ext hb x).1).1, (k.ext (Nat.lt_of_lt_of_le hb h.size) (h.ext hb x).1).2.trans (h.ext hb x).2⟩, k.inv⟩
theorem Step.mono {S S' : Place → Prop} {own own' : OwnF} {w w' : World} (h : Step S own w own' w') (hs : ∀ p, S p → S' p) : Step S' own w own' w' :=
  ⟨h.os, h.tape, h.output, h.size, h.form, h.fz, h.bx, h.hp, fun x hn => h.tl x (fun y => hn (hs _ y)), h.ext, h.inv⟩
theorem Step.frame {S : Place → Prop} {own own' : OwnF} {w w' : World} {d e : Nat} (h : Step S own w own' w') (hw : WInv own w) (hs : ∀ p, S p → p.mine d e) : Frame d e own w own' w' :=
  ⟨h.os, h.tape, h.output, h.size, h.form, fun b o hb hm => by
    cases hx : own b o with
    | ext => exact h.ext hb hx
    | fz v => exact ⟨h.fz hx, by rw [hw.fz hx, h.inv.fz (h.fz hx)]⟩
    | bx d k => exact h.bx hx
    | hp e i => exact h.hp hx
    | tl p => exact h.tl hx (fun y => hm (by rw [hx]; exact hs p y))⟩

/-! Values -/
def okE (sz : Nat) (x : PV) : Prop := x.cells.length = sz ∧ ∀ c ∈ x.cells, scalP c = true

mutual
inductive PR (own : OwnF) : PV → Value → Prop
  | bool (b) : PR own (.bool b) (.bool b)
  | int (k n) : PR own (.int k n) (.int k n)
  | str (s : ByteArray) : PR own (.str s.data.toList) (.string s)
  | nilp : PR own .nilp (.pointer none)
  | nilf : PR own .nilf .nilFunc
  | nili : PR own .nili .nilIface
  | fn (f) : PR own (.fn f) (.func (.func f) #[] #[])
  | nsl (sz) : PR own (.sl sz true []) (.slice none 0 0)
  | sl (sz l b off cap Vs) (h : l.length ≤ cap) (hl : ∀ x ∈ l, okE sz x) (hc : PRs own (l.flatMap PV.cells) Vs) (hf : ∀ j V, Vs[j]? = some V → own b (off + j) = .fz V) :
      PR own (.sl sz false l) (.slice (some ⟨b, off, none⟩) l.length cap)
  | agg (cs Vs) (hc : PRs own cs Vs) : PR own (.agg cs) (.agg ⟨Vs⟩)
  | ifc (t v V) (h : PR own v V) : PR own (.ifc t v) (.iface t V)
  | bx (cs b off Vs) (hs : ∀ c ∈ cs, scalP c = true) (hc : PRs own cs Vs) (hf : ∀ j V, Vs[j]? = some V → own b (off + j) = .fz V) :
      PR own (.bx cs) (.pointer (some ⟨b, off, none⟩))
inductive PRs (own : OwnF) : List PV → List Value → Prop
  | nil : PRs own [] []
  | cons (p ps V Vs) (h : PR own p V) (hs : PRs own ps Vs) : PRs own (p :: ps) (V :: Vs)
end

mutual
theorem PR.mono {own own' : OwnF} (hm : ∀ b o v, own b o = .fz v → own' b o = .fz v) : ∀ {p : PV} {V : Value}, PR own p V → PR own' p V
  | _, _, .bool b => .bool b
  | _, _, .int k n => .int k n
  | _, _, .str s => .str s
  | _, _, .nilp => .nilp
  | _, _, .nilf => .nilf
  | _, _, .nili => .nili
  | _, _, .fn f => .fn f
  | _, _, .nsl sz => .nsl sz
  | _, _, .sl sz l b off cap Vs h hl hc hf => .sl sz l b off cap Vs h hl (PRs.mono hm hc) (fun j V hj => hm _ _ _ (hf j V hj))
  | _, _, .agg cs Vs hc => .agg cs Vs (PRs.mono hm hc)
  | _, _, .ifc t v V h => .ifc t v V (PR.mono hm h)
  | _, _, .bx cs b off Vs hs hc hf => .bx cs b off Vs hs (PRs.mono hm hc) (fun j V hj => hm _ _ _ (hf j V hj))
theorem PRs.mono {own own' : OwnF} (hm : ∀ b o v, own b o = .fz v → own' b o = .fz v) : ∀ {ps : List PV} {Vs : List Value}, PRs own ps Vs → PRs own' ps Vs
  | _, _, .nil => .nil
  | _, _, .cons p ps V Vs h hs => .cons p ps V Vs (PR.mono hm h) (PRs.mono hm hs)
end

theorem PRs.length {own : OwnF} {ps : List PV} {Vs : List Value} (h : PRs own ps Vs) : ps.length = Vs.length := by
  induction ps generalizing Vs with
  | nil => cases h; rfl
  | cons p ps ih => cases h with | cons _ _ V Vs h hs => simp [ih hs]
theorem PRs.get {own : OwnF} {ps : List PV} {Vs : List Value} (h : PRs own ps Vs) {j : Nat} {p : PV} (hp : ps[j]? = some p) : ∃ V, Vs[j]? = some V ∧ PR own p V := by
  induction ps generalizing Vs j with
  | nil => simp at hp
  | cons q ps ih =>
    cases h with
    | cons _ _ V Vs h hs =>
      cases j with
      | zero => simp at hp; subst hp; exact ⟨V, by simp, h⟩
      | succ j => simp at hp; obtain ⟨W, h1, h2⟩ := ih hs hp; exact ⟨W, by simpa using h1, h2⟩
theorem PRs.append {own : OwnF} {ps qs : List PV} {Vs Ws : List Value} (h : PRs own ps Vs) (k : PRs own qs Ws) : PRs own (ps ++ qs) (Vs ++ Ws) := by
  induction ps generalizing Vs with
  | nil => cases h; simpa using k
  | cons p ps ih => cases h with | cons _ _ V Vs h hs => exact .cons _ _ _ _ h (ih hs)
theorem PRs.drop {own : OwnF} {ps : List PV} {Vs : List Value} (h : PRs own ps Vs) (n : Nat) : PRs own (ps.drop n) (Vs.drop n) := by
  induction n generalizing ps Vs with
  | zero => simpa using h
  | succ n ih =>
    cases h with
    | nil => exact .nil
    | cons p ps V Vs h hs => simpa using ih hs
theorem PRs.take {own : OwnF} {ps : List PV} {Vs : List Value} (h : PRs own ps Vs) (n : Nat) : PRs own (ps.take n) (Vs.take n) := by
  induction n generalizing ps Vs with
  | zero => simp; exact .nil
  | succ n ih =>
    cases h with
    | nil => exact .nil
    | cons p ps V Vs h hs => simpa using PRs.cons _ _ _ _ h (ih hs)
theorem PRs.of_get {own : OwnF} {ps : List PV} {Vs : List Value} (hl : ps.length = Vs.length) (h : ∀ (j : Nat) p V, ps[j]? = some p → Vs[j]? = some V → PR own p V) : PRs own ps Vs := by
  induction ps generalizing Vs with
  | nil => cases Vs with | nil => exact .nil | cons _ _ => simp at hl
  | cons p ps ih =>
    cases Vs with
    | nil => simp at hl
    | cons V Vs => exact .cons _ _ _ _ (h 0 p V (by simp) (by simp)) (ih (by simpa using hl) (fun j q W hq hW => h (j + 1) q W (by simpa using hq) (by simpa using hW)))

/-- What the heap's and boxes' numbers stand for. -/
structure Gh where
  own : OwnF
  rho : Nat → Nat
  /-- is there such an object? -/
  ok : Nat → Prop

mutual
inductive AVR (g : Gh) : AV → Value → Prop
  | d (p V) (h : PR g.own p V) : AVR g (.d p) V
  | ptr (i off) (h : g.ok i) : AVR g (.ptr i off) (.pointer (some ⟨g.rho i, off, none⟩))
  | ms (i off len cap off' cap') (h : g.ok i) (hc : len ≤ cap') (ho : len ≠ 0 → off' = off) : AVR g (.ms i off len cap) (.slice (some ⟨g.rho i, off', none⟩) len cap')
  | ifc (t v V) (h : AVR g v V) : AVR g (.ifc t v) (.iface t V)
  | agg (cs Vs) (h : AVRs g cs Vs) : AVR g (.agg cs) (.agg ⟨Vs⟩)
  | fnc (f ca Vs) (h : AVRs g ca Vs) : AVR g (.fnc f ca) (.func (.func f) #[] ⟨Vs⟩)
inductive AVRs (g : Gh) : List AV → List Value → Prop
  | nil : AVRs g [] []
  | cons (p ps V Vs) (h : AVR g p V) (hs : AVRs g ps Vs) : AVRs g (p :: ps) (V :: Vs)
end

structure GLe (g g' : Gh) : Prop where
  fz : ∀ b o v, g.own b o = .fz v → g'.own b o = .fz v
  ok : ∀ i, g.ok i → g'.ok i
  rho : ∀ i, g.ok i → g'.rho i = g.rho i

theorem GLe.refl (g : Gh) : GLe g g := ⟨fun _ _ _ => id, fun _ => id, fun _ _ => rfl⟩
theorem GLe.trans {a b c : Gh} (h : GLe a b) (k : GLe b c) : GLe a c :=
  ⟨fun _ _ _ x => k.fz _ _ _ (h.fz _ _ _ x), fun i hi => k.ok i (h.ok i hi), fun i hi => (k.rho i (h.ok i hi)).trans (h.rho i hi)⟩

mutual
theorem AVR.mono {g g' : Gh} (hm : GLe g g') : ∀ {p : AV} {V : Value}, AVR g p V → AVR g' p V
  | _, _, .d p V h => .d p V (h.mono hm.fz)
  | _, _, .ptr i off h => by rw [← hm.rho i h]; exact .ptr i off (hm.ok i h)
  | _, _, .ms i off len cap off' cap' h hc ho => by rw [← hm.rho i h]; exact .ms i off len cap off' cap' (hm.ok i h) hc ho
  | _, _, .ifc t v V h => .ifc t v V (AVR.mono hm h)
  | _, _, .agg cs Vs h => .agg cs Vs (AVRs.mono hm h)
  | _, _, .fnc f ca Vs h => .fnc f ca Vs (AVRs.mono hm h)
theorem AVRs.mono {g g' : Gh} (hm : GLe g g') : ∀ {ps : List AV} {Vs : List Value}, AVRs g ps Vs → AVRs g' ps Vs
  | _, _, .nil => .nil
  | _, _, .cons p ps V Vs h hs => .cons p ps V Vs (AVR.mono hm h) (AVRs.mono hm hs)
end

theorem AVRs.length {g : Gh} {ps : List AV} {Vs : List Value} (h : AVRs g ps Vs) : ps.length = Vs.length := by
  induction ps generalizing Vs with
  | nil => cases h; rfl
  | cons p ps ih => cases h with | cons _ _ V Vs h hs => simp [ih hs]
theorem AVRs.get {g : Gh} {ps : List AV} {Vs : List Value} (h : AVRs g ps Vs) {j : Nat} {p : AV} (hp : ps[j]? = some p) : ∃ V, Vs[j]? = some V ∧ AVR g p V := by
  induction ps generalizing Vs j with
  | nil => simp at hp
  | cons q ps ih =>
    cases h with
    | cons _ _ V Vs h hs =>
      cases j with
      | zero => simp at hp; subst hp; exact ⟨V, by simp, h⟩
      | succ j => simp at hp; obtain ⟨W, h1, h2⟩ := ih hs hp; exact ⟨W, by simpa using h1, h2⟩
theorem AVRs.append {g : Gh} {ps qs : List AV} {Vs Ws : List Value} (h : AVRs g ps Vs) (k : AVRs g qs Ws) : AVRs g (ps ++ qs) (Vs ++ Ws) := by
  induction ps generalizing Vs with
  | nil => cases h; simpa using k
  | cons p ps ih => cases h with | cons _ _ V Vs h hs => exact .cons _ _ _ _ h (ih hs)
theorem AVRs.drop {g : Gh} {ps : List AV} {Vs : List Value} (h : AVRs g ps Vs) (n : Nat) : AVRs g (ps.drop n) (Vs.drop n) := by
  induction n generalizing ps Vs with
  | zero => simpa using h
  | succ n ih =>
    cases h with
    | nil => exact .nil
    | cons p ps V Vs h hs => simpa using ih hs
theorem AVRs.take {g : Gh} {ps : List AV} {Vs : List Value} (h : AVRs g ps Vs) (n : Nat) : AVRs g (ps.take n) (Vs.take n) := by
  induction n generalizing ps Vs with
  | zero => simp; exact .nil
  | succ n ih =>
    cases h with
    | nil => exact .nil
    | cons p ps V Vs h hs => simpa using AVRs.cons _ _ _ _ h (ih hs)
theorem AVRs.ofD {g : Gh} {ps : List PV} {Vs : List Value} (h : PRs g.own ps Vs) : AVRs g (ps.map .d) Vs := by
  induction ps generalizing Vs with
  | nil => cases h; exact .nil
  | cons p ps ih => cases h with | cons _ _ V Vs h hs => exact .cons _ _ _ _ (.d _ _ h) (ih hs)
theorem AVRs.toD {g : Gh} {cs : List AV} {ps : List PV} {Vs : List Value} (h : AVRs g cs Vs) (hd : allD cs = some ps) : PRs g.own ps Vs := by
  induction cs generalizing Vs ps with
  | nil => cases h; simp [allD] at hd; subst hd; exact .nil
  | cons c cs ih =>
    cases h with
    | cons _ _ V Vs h hs =>
      cases c with
      | d p =>
        simp only [allD, Option.bind_eq_some_iff, Option.some.injEq] at hd
        obtain ⟨qs, h1, rfl⟩ := hd
        cases h with | d _ _ h => exact .cons _ _ _ _ h (ih hs h1)
      | _ => simp [allD] at hd

/-- What a cell, at a place, holds. -/
inductive CVR (g : Gh) (p : Place) : CV → Value → Prop
  | a (v V) (h : AVR g v V) : CVR g p (.a v) V
  | own0 (sz) : CVR g p (.ow sz true []) (.slice none 0 0)
  | ow (sz l b off cap Vs) (h : l.length ≤ cap) (hz : sz ≠ 0) (hl : ∀ x ∈ l, okE sz x) (hc : PRs g.own (l.flatMap PV.cells) Vs) (hf : ∀ j V, Vs[j]? = some V → g.own b (off + j) = .fz V)
      (ht : ∀ j, l.length * sz ≤ j → j < cap * sz → g.own b (off + j) = .tl p) (h0 : l = [] → cap = 0) : CVR g p (.ow sz false l) (.slice (some ⟨b, off, none⟩) l.length cap)

theorem CVR.av {g : Gh} {p : Place} {x : CV} {V : Value} (h : CVR g p x V) : AVR g x.av V := by
  cases h with
  | a v V h => exact h
  | own0 sz => exact .d _ _ (.nsl sz)
  | ow sz l b off cap Vs h hz hl hc hf ht h0 => exact .d _ _ (.sl sz l b off cap Vs h hl hc hf)
theorem CVR.dem {g : Gh} {p q : Place} {x : CV} {V : Value} (h : CVR g p x V) : CVR g q x.dem V := .a _ _ h.av
theorem CVR.mono {g g' : Gh} {p : Place} {x : CV} {V : Value} (hm : GLe g g') (ht : ∀ b o, g.own b o = .tl p → g'.own b o = .tl p) (h : CVR g p x V) : CVR g' p x V := by
  cases h with
  | a v V h => exact .a _ _ (h.mono hm)
  | own0 sz => exact .own0 sz
  | ow sz l b off cap Vs h hz hl hc hf ht' h0 => exact .ow sz l b off cap Vs h hz hl (hc.mono hm.fz) (fun j V hj => hm.fz _ _ _ (hf j V hj)) (fun j h1 h2 => ht _ _ (ht' j h1 h2)) h0

/-- Several results, or one. 'pc': the place of the one, of the i-th. -/
inductive RVR (g : Gh) (p : Place) (pi : Nat → Place) : RV → Value → Prop
  | c (x V) (h : CVR g p x V) : RVR g p pi (.c x) V
  | tup (xs Vs) (hl : xs.length = Vs.length) (h : ∀ i x, xs[i]? = some x → ∃ V, Vs[i]? = some V ∧ CVR g (pi i) x V) : RVR g p pi (.tup xs) (.tuple ⟨Vs⟩)

theorem RVR.mono {g g' : Gh} {p : Place} {pi : Nat → Place} {x : RV} {V : Value} (hm : GLe g g') (ht : ∀ b o, g.own b o = .tl p → g'.own b o = .tl p) (hti : ∀ i b o, g.own b o = .tl (pi i) → g'.own b o = .tl (pi i)) (h : RVR g p pi x V) : RVR g' p pi x V := by
  cases h with
  | c x V h => exact .c _ _ (h.mono hm ht)
  | tup xs Vs hl h => exact .tup _ _ hl (fun i x hx => let ⟨V, h1, h2⟩ := h i x hx; ⟨V, h1, h2.mono hm (hti i)⟩)
theorem RVR.dem {g : Gh} {p q : Place} {pi qi : Nat → Place} {x : RV} {V : Value} (h : RVR g p pi x V) : RVR g q qi x.dem V := by
  cases h with
  | c x V h => exact .c _ _ h.dem
  | tup xs Vs hl h =>
    refine .tup _ _ (by simpa using hl) (fun i x hx => ?_)
    simp only [List.getElem?_map, Option.map_eq_some_iff] at hx
    obtain ⟨y, hy, rfl⟩ := hx
    obtain ⟨V, h1, h2⟩ := h i y hy
    exact ⟨V, h1, h2.dem⟩

def ptmp (d s : Nat) : Place := .tmp d s
def ptup (d s : Nat) (i : Nat) : Place := .tup d s i

/-- What slot s holds. -/
inductive SVR (g : Gh) (beta : Nat → Nat) (d s : Nat) (tmps : Array Value) : SV → Value → Prop
  | r (v V) (h : RVR g (.tmp d s) (.tup d s) v V) : SVR g beta d s tmps (.r v) V
  | lp (k off) : SVR g beta d s tmps (.lp k off) (.pointer (some ⟨beta k, off, none⟩))
  | gd (s' w v V) (h : tmps[s']? = some (.bool w) → SVR g beta d s tmps v V) (hu : tmps[s']? ≠ some (.bool w) → V = undef) : SVR g beta d s tmps (.gd s' w v) V

theorem SVR.dem {g : Gh} {beta : Nat → Nat} {d s s' : Nat} {tmps : Array Value} {x : SV} {V : Value} (h : SVR g beta d s tmps x V) : SVR g beta d s' tmps x.dem V := by
  induction h with
  | r v V h => exact .r _ _ h.dem
  | lp k off => exact .lp k off
  | gd s' w v V h hu ih => exact .gd _ _ _ _ ih hu

def TmR (g : Gh) (beta : Nat → Nat) (d : Nat) (t : Tm) (tmps : Array Value) : Prop :=
  ∀ s v, mget t s = some v → ∃ V, tmps[s]? = some V ∧ SVR g beta d s tmps v V
def CellsR (g : Gh) (w : World) (b : Nat) (own : Own) (pl : Nat → Place) (cs : List CV) : Prop :=
  ∀ j x, cs[j]? = some x → g.own b j = own ∧ ∃ V, w.cell? ⟨b, j, none⟩ = some V ∧ CVR g (pl j) x V
def BxR (g : Gh) (beta : Nat → Nat) (d : Nat) (b : Bx) (w : World) : Prop :=
  ∀ k cs, mget b k = some cs → CellsR g w (beta k) (.bx d k) (.bx d k) cs
structure HpR (g : Gh) (e : Nat) (h : Hp) (w : World) : Prop where
  ok : ∀ i, g.ok i ↔ ∃ cs, h.m i = some cs
  obj : ∀ i cs, h.m i = some cs → i < h.nx ∧ CellsR g w (g.rho i) (.hp e i) (.hp e i) cs

end Go.Abs
set_option linter.unusedSimpArgs false
namespace Go.Abs
variable {P : Program} {g : Gh} {w : World}

theorem kindB_eq {j k : IntKind} (h : kindB j k = true) : j = k := by cases j <;> cases k <;> first | rfl | (simp [kindB] at h)
theorem nbeq_self (t : Nat) : Nat.beq t t = true := by
  cases hb : Nat.beq t t
  · exact absurd rfl (Nat.ne_of_beq_eq_false hb)
  · rfl
theorem nbeq_eq {t u : Nat} (h : Nat.beq t u = true) : t = u := Nat.eq_of_beq_eq_true h
theorem grd_some {α : Type} {b : Bool} {x y : α} (h : grd b x = some y) : b = true ∧ x = y := by
  cases b <;> simp [grd] at h ⊢; exact h
theorem cond_none {α : Type} {b : Bool} {x : Option α} {y : α} (h : cond b x none = some y) : b = true ∧ x = some y := by
  cases b <;> simp at h ⊢; exact h
theorem cond_none' {α : Type} {b : Bool} {x : Option α} {y : α} (h : cond b none x = some y) : b = false ∧ x = some y := by
  cases b <;> simp at h ⊢; exact h

theorem rvr_I {p : Place} {pi : Nat → Place} (k : IntKind) (n : Int) : RVR g p pi (rI k n) (.int k n) := .c _ _ (.a _ _ (.d _ _ (.int k n)))
theorem rvr_B {p : Place} {pi : Nat → Place} (b : Bool) : RVR g p pi (rB b) (.bool b) := .c _ _ (.a _ _ (.d _ _ (.bool b)))
theorem rvr_S {p : Place} {pi : Nat → Place} (s : ByteArray) : RVR g p pi (rS s.data.toList) (.string s) := .c _ _ (.a _ _ (.d _ _ (.str s)))
theorem rvr_A {p : Place} {pi : Nat → Place} {v : AV} {V : Value} (h : AVR g v V) : RVR g p pi (rA v) V := .c _ _ (.a _ _ h)

theorem run_intOp {op : BinOp} {k j : IntKind} {x y : Int} {v : RV} {p : Place} {pi : Nat → Place} (h : intOp op k x j y = some v) (t : TypeId) (X Y : Operand) :
    ∃ V, (do eqGuard op t X Y (.int k x) (.int j y); binOp op t (.int k x) (.int j y)).run P w = .ok V w ∧ RVR g p pi v V := by
  cases op <;> simp only [intOp] at h
  case shl =>
    obtain ⟨h1, rfl⟩ := grd_some h
    have h1 := of_decide_eq_true h1
    exact ⟨_, by simp [eqGuard, binOp, Op.shift, Int.not_lt.2 h1, shlOp], rvr_I _ _⟩
  case shr =>
    obtain ⟨h1, rfl⟩ := grd_some h
    have h1 := of_decide_eq_true h1
    exact ⟨_, by simp [eqGuard, binOp, Op.shift, Int.not_lt.2 h1, shrOp], rvr_I _ _⟩
  all_goals
    have h2 := (cond_none h).2
    have hk := kindB_eq (cond_none h).1
    clear h
    subst hk
  case quo =>
    obtain ⟨h1, rfl⟩ := grd_some h2
    have h1 : y ≠ 0 := by simpa using h1
    exact ⟨_, by simp [eqGuard, binOp, Op.intDiv, h1], rvr_I _ _⟩
  case rem =>
    obtain ⟨h1, rfl⟩ := grd_some h2
    have h1 : y ≠ 0 := by simpa using h1
    exact ⟨_, by simp [eqGuard, binOp, Op.intDiv, h1], rvr_I _ _⟩
  case and | or | xor | andNot =>
    simp only [bitsOp, Option.bind_some, Option.some.injEq] at h2; subst h2
    exact ⟨_, by simp only [eqGuard, binOp, Op.intBits]; simp, rvr_I _ _⟩
  all_goals
    simp only [Option.some.injEq] at h2; subst h2
    first
      | (refine ⟨.bool (!(x == y)), ?_, rvr_B _⟩; simp [eqGuard, binOp, Op.intCmp]; rfl)
      | exact ⟨_, by simp [eqGuard, binOp, Op.intArith], rvr_I _ _⟩
      | exact ⟨.bool _, by simp [eqGuard, binOp, Op.intCmp], rvr_B _⟩

theorem bytes_toList (s : ByteArray) : s.toList = s.data.toList := ByteArray.toList_eq s
theorem run_strOp {op : BinOp} {x y : ByteArray} {v : RV} {p : Place} {pi : Nat → Place} (h : strOp op x.data.toList y.data.toList = some v) (t : TypeId) (X Y : Operand) :
    ∃ V, (do eqGuard op t X Y (.string x) (.string y); binOp op t (.string x) (.string y)).run P w = .ok V w ∧ RVR g p pi v V := by
  cases op <;> simp only [strOp] at h <;> try (simp at h; done)
  case add =>
    obtain ⟨h1, rfl⟩ := grd_some h
    have h1 := of_decide_eq_true h1
    refine ⟨.string (x ++ y), ?_, ?_⟩
    · simp only [eqGuard, binOp, Op.stringOp]
      have h2 : x.size + y.size ≤ 9223372036854775807 := by
        simp only [maxStr, Array.length_toList] at h1
        have e1 : x.data.size = x.size := rfl
        have e2 : y.data.size = y.size := rfl
        omega
      have h3 : (x.size : Int) + (y.size : Int) ≤ 9223372036854775807 := by omega
      simp [h3]
    · have := rvr_S (g := g) (p := p) (pi := pi) (x ++ y)
      simpa using this
  all_goals
    simp only [Option.some.injEq] at h; subst h
    refine ⟨.bool _, ?_, rvr_B _⟩
    simp [eqGuard, binOp, Op.stringOp, bytes_toList]

theorem run_underlying' {t : TypeId} {d : TypeDesc} (h : P.underlying t = some d) : (underlying t).run P w = .ok d w := by
  simp [underlying, h]

section
variable {ty : TypeId} (d : Nat)
theorem eqq_bool (hu : P.underlying ty = some .bool) (a b : Bool) : (Op.equalIn (d + 1) ty (.bool a) (.bool b)).run P w = .ok (a == b) w := by
  simp [Op.equalIn, run_underlying' hu]
theorem eqq_ptr_l {e : TypeId} (hu : P.underlying ty = some (.pointer e)) (b : Option Addr) : (Op.equalIn (d + 1) ty (.pointer none) (.pointer b)).run P w = .ok b.isNone w := by
  simp [Op.equalIn, run_underlying' hu]
theorem eqq_ptr_r {e : TypeId} (hu : P.underlying ty = some (.pointer e)) (b : Addr) : (Op.equalIn (d + 1) ty (.pointer (some b)) (.pointer none)).run P w = .ok false w := by
  simp [Op.equalIn, run_underlying' hu]
theorem eqq_sl_l {e : TypeId} (hu : P.underlying ty = some (.slice e)) (b : Option Addr) (l c l' c' : Nat) : (Op.equalIn (d + 1) ty (.slice none l c) (.slice b l' c')).run P w = .ok b.isNone w := by
  simp [Op.equalIn, run_underlying' hu]
theorem eqq_sl_r {e : TypeId} (hu : P.underlying ty = some (.slice e)) (b : Addr) (l c l' c' : Nat) : (Op.equalIn (d + 1) ty (.slice (some b) l c) (.slice none l' c')).run P w = .ok false w := by
  simp [Op.equalIn, run_underlying' hu]
theorem eqq_fn_n {p r : Array TypeId} {v : Bool} (hu : P.underlying ty = some (.func p r v)) : (Op.equalIn (d + 1) ty .nilFunc .nilFunc).run P w = .ok true w := by
  simp [Op.equalIn, run_underlying' hu]
theorem eqq_fn_l {p r : Array TypeId} {v : Bool} (hu : P.underlying ty = some (.func p r v)) (f : Fn) (x y : Array Value) : (Op.equalIn (d + 1) ty .nilFunc (.func f x y)).run P w = .ok false w := by
  simp [Op.equalIn, run_underlying' hu]
theorem eqq_fn_r {p r : Array TypeId} {v : Bool} (hu : P.underlying ty = some (.func p r v)) (f : Fn) (x y : Array Value) : (Op.equalIn (d + 1) ty (.func f x y) .nilFunc).run P w = .ok false w := by
  simp [Op.equalIn, run_underlying' hu]
theorem eqq_if_n {ms : Array (String × TypeId)} (hu : P.underlying ty = some (.interface ms)) : (Op.equalIn (d + 1) ty .nilIface .nilIface).run P w = .ok true w := by
  simp [Op.equalIn, run_underlying' hu]
theorem eqq_if_l {ms : Array (String × TypeId)} (hu : P.underlying ty = some (.interface ms)) (t : TypeId) (v : Value) : (Op.equalIn (d + 1) ty .nilIface (.iface t v)).run P w = .ok false w := by
  simp [Op.equalIn, run_underlying' hu]
theorem eqq_if_r {ms : Array (String × TypeId)} (hu : P.underlying ty = some (.interface ms)) (t : TypeId) (v : Value) : (Op.equalIn (d + 1) ty (.iface t v) .nilIface).run P w = .ok false w := by
  simp [Op.equalIn, run_underlying' hu]
theorem eqq_if_ne {ms : Array (String × TypeId)} (hu : P.underlying ty = some (.interface ms)) {t u : TypeId} (h : t ≠ u) (x y : Value) : (Op.equalIn (d + 1) ty (.iface t x) (.iface u y)).run P w = .ok false w := by
  simp [Op.equalIn, run_underlying' hu, h]
theorem eqq_if_int {ms : Array (String × TypeId)} (hu : P.underlying ty = some (.interface ms)) {t : TypeId} {i : TypeInfo} {k' k : IntKind} (hi : P.info? t = some i) (hc : i.comparable = true) (ht : P.underlying t = some (.int k')) (x y : Int) :
    (Op.equalIn (d + 2) ty (.iface t (.int k x)) (.iface t (.int k y))).run P w = .ok (x == y) w := by
  simp [Op.equalIn, run_underlying' hu, run_underlying' ht, typeInfo, hi, hc]
end
theorem run_eqV {ty : TypeId} {x y : AV} {A B : Value} {b : Bool} (h : eqV P ty x y = some b) (hx : AVR g x A) (hy : AVR g y B) : (Op.equal ty A B).run P w = .ok b w := by
  show (Op.equalIn (9999 + 1) ty A B).run P w = .ok b w
  unfold eqV at h
  split at h
  · rename_i hu
    split at h
    · cases hx with | d _ _ hx => cases hy with | d _ _ hy =>
      cases hx; cases hy; simp at h; subst h
      exact eqq_bool _ hu _ _
    · simp at h
  · rename_i hu
    unfold eqPtr at h
    split at h <;> simp at h <;> subst h <;> cases hx <;> cases hy
    · rename_i h1 h2; cases h1; cases h2; exact eqq_ptr_l _ hu _
    · rename_i h1 h2; cases h1; exact eqq_ptr_l _ hu _
    · rename_i h1 h2; cases h2; exact eqq_ptr_r _ hu _
    · rename_i h1 h2; cases h1; cases h2; exact eqq_ptr_l _ hu _
    · rename_i h1 h2; cases h1; cases h2; exact eqq_ptr_r _ hu _
  · rename_i hu
    unfold eqSl at h
    split at h <;> simp at h <;> subst h <;> cases hx <;> cases hy
    · rename_i h1 h2
      cases h2
      cases h1
      · exact eqq_sl_l _ hu _ _ _ _ _
      · exact eqq_sl_r _ hu _ _ _ _ _
    · rename_i h1 h2
      cases h1
      cases h2
      · exact eqq_sl_l _ hu _ _ _ _ _
      · exact eqq_sl_l _ hu _ _ _ _ _
    · rename_i h1; cases h1; exact eqq_sl_r _ hu _ _ _ _ _
    · rename_i h1 _ _ _ _ _; cases h1; exact eqq_sl_l _ hu _ _ _ _ _
  · rename_i hu
    unfold eqFn at h
    split at h <;> simp at h <;> subst h <;> cases hx <;> cases hy
    · rename_i h1 h2; cases h1; cases h2; exact eqq_fn_n _ hu
    · rename_i h1 h2; cases h1; cases h2; exact eqq_fn_l _ hu _ _ _
    · rename_i h1 h2; cases h1; cases h2; exact eqq_fn_r _ hu _ _ _
    · rename_i h1 _ _; cases h1; exact eqq_fn_l _ hu _ _ _
    · rename_i h1; cases h1; exact eqq_fn_r _ hu _ _ _
  · rename_i hu
    unfold eqIf at h
    split at h
    · simp at h; subst h; cases hx with | d _ _ h1 => cases hy with | d _ _ h2 => cases h1; cases h2; exact eqq_if_l _ hu _ _
    · simp at h; subst h; cases hx with | d _ _ h1 => cases hy with | d _ _ h2 => cases h1; cases h2; exact eqq_if_r _ hu _ _
    · simp at h; subst h; cases hx with | d _ _ h1 => cases hy; cases h1; exact eqq_if_l _ hu _ _
    · simp at h; subst h; cases hx; cases hy with | d _ _ h2 => cases h2; exact eqq_if_r _ hu _ _
    · rename_i t k a u j c
      cases hx with | d _ _ h1 => cases hy with | d _ _ h2 =>
      cases h1 with | ifc _ _ _ h1 => cases h2 with | ifc _ _ _ h2 =>
      cases h1; cases h2
      by_cases e : t = u
      · subst e
        rw [nbeq_self] at h
        simp only [cond_true, Option.bind_eq_some_iff] at h
        obtain ⟨i, hi, h3⟩ := h
        obtain ⟨hc, h4⟩ := cond_none h3
        split at h4
        · rename_i k' ht
          obtain ⟨hk, h5⟩ := cond_none h4
          have hkk := kindB_eq hk
          subst hkk
          simp only [Option.some.injEq] at h5
          rw [← h5]
          exact eqq_if_int 9998 hu hi hc ht _ _
        · cases h4
      · have : Nat.beq t u = false := by
          cases hb : Nat.beq t u
          · rfl
          · exact absurd (Nat.eq_of_beq_eq_true hb) e
        rw [this] at h; simp at h; subst h
        exact eqq_if_ne _ hu e _ _
    · simp at h
  · simp at h
end Go.Abs
namespace Go.Abs
variable {P : Program} {g : Gh} {w : World} {p : Place} {pi : Nat → Place}

/-- Values of which '==' is asked without a guard. -/
theorem eqGuard_pure {op : BinOp} {t : TypeId} {X Y : Operand} {A B : Value} (h1 : ¬ (A = .nilIface ∧ B = .nilIface)) (h2 : ∀ a b, ¬ (A = .agg a ∧ B = .agg b)) : (eqGuard op t X Y A B).run P w = .ok () w := by
  have key : ∀ o : BinOp, (match A, B with
      | .nilIface, .nilIface => (if (X matches .const _) || (Y matches .const _) then pure () else do
          if ← Op.eqGuardIn Op.maxDepth t A B then unsupported (.noEntry "binop/eql: two nil values of an interface type with methods, neither of them the literal nil") : Sem Unit)
      | .agg _, .agg _ => (do
        if !(← program).eqGuardType (← program).depth t then return
        if ← Op.eqGuardIn Op.maxDepth t A B then unsupported (.noEntry "binop/eql: two nil values of an interface type with methods, in a part of a struct or an array") : Sem Unit)
      | _, _ => pure ()).run P w = .ok () w := by
    intro o
    split
    · exact absurd ⟨rfl, rfl⟩ h1
    · exact absurd ⟨rfl, rfl⟩ (h2 _ _)
    · rfl
  cases op
  case eql => exact key .eql
  case neq => exact key .neq
  all_goals rfl

theorem run_seq_ok {α β : Type} {x : Sem α} {y : Sem β} {a : α} {w' : World} (h : x.run P w = .ok a w') : (do let _ ← x; y).run P w = y.run P w' := by
  simp [h]

theorem eqGuard_nil {op : BinOp} {t : TypeId} {X Y : Operand} (h : (isConstO X || isConstO Y) = true) : (eqGuard op t X Y .nilIface .nilIface).run P w = .ok () w := by
  cases op <;> cases X <;> cases Y <;> first | rfl | (simp [isConstO] at h)

theorem run_binV {ty : TypeId} {op : BinOp} {X Y : Operand} {x y : AV} {A B : Value} {v : RV} (h : binV P ty op (isConstO X || isConstO Y) x y = some v) (hx : AVR g x A) (hy : AVR g y B) :
    ∃ V, (do eqGuard op ty X Y A B; binOp op ty A B).run P w = .ok V w ∧ RVR g p pi v V := by
  unfold binV at h
  split at h
  · cases hx with | d _ _ hx => cases hy with | d _ _ hy => cases hx; cases hy; exact run_intOp h _ _ _
  · cases hx with | d _ _ hx => cases hy with | d _ _ hy => cases hx; cases hy; exact run_strOp h _ _ _
  · cases hx with | d _ _ hx => cases hy with | d _ _ hy =>
    cases hx; cases hy
    obtain ⟨hc, h2⟩ := cond_none h
    simp only [Bool.and_eq_true] at hc
    obtain ⟨hc1, hc2⟩ := hc
    split at hc2
    · rename_i ms hu
      have hg : (eqGuard op ty X Y .nilIface .nilIface).run P w = .ok () w := eqGuard_nil hc1
      have he : (Op.equal ty .nilIface .nilIface).run P w = .ok true w := eqq_if_n 9999 hu
      split at h2
      · simp only [Option.some.injEq] at h2; subst h2
        refine ⟨.bool true, ?_, rvr_B _⟩
        rw [run_seq_ok hg]; simp [binOp, he]
      · simp only [Option.some.injEq] at h2; subst h2
        refine ⟨.bool false, ?_, rvr_B _⟩
        rw [run_seq_ok hg]; simp [binOp, he]
      · cases h2
    · cases hc2
  · rename_i n1 n2 n3
    have key : ∀ b, eqV P ty x y = some b → (eqGuard op ty X Y A B).run P w = .ok () w ∧ (Op.equal ty A B).run P w = .ok b w ∧
        (∀ k a k' c, ¬ (A = .int k a ∧ B = .int k' c)) ∧ (∀ a c, ¬ (A = .string a ∧ B = .string c)) ∧ (∀ k a k' c, ¬ (A = .float k a ∧ B = .float k' c)) ∧ (∀ k a a' k' c c', ¬ (A = .complex k a a' ∧ B = .complex k' c c')) := by
      intro b hb
      refine ⟨eqGuard_pure ?_ ?_, run_eqV hb hx hy, ?_, ?_, ?_, ?_⟩
      · rintro ⟨rfl, rfl⟩
        cases hx with | d _ _ hx => cases hy with | d _ _ hy => cases hx; cases hy; exact n3 rfl rfl
      · rintro a c ⟨rfl, rfl⟩
        have h0 := hb
        unfold eqV eqPtr eqSl eqFn eqIf at h0
        cases hx with
        | d _ _ hx => cases hx; split at h0 <;> (try split at h0) <;> simp_all
        | agg _ _ _ => split at h0 <;> (try split at h0) <;> simp_all
      · rintro k a k' c ⟨rfl, rfl⟩
        cases hx with | d _ _ hx => cases hy with | d _ _ hy => cases hx; cases hy; exact n1 _ _ _ _ rfl rfl
      · rintro a c ⟨rfl, rfl⟩
        cases hx with | d _ _ hx => cases hy with | d _ _ hy => cases hx; cases hy; exact n2 _ _ rfl rfl
      · rintro k a k' c ⟨rfl, rfl⟩
        cases hx with | d _ _ hx => cases hx
      · rintro k a a' k' c c' ⟨rfl, rfl⟩
        cases hx with | d _ _ hx => cases hx
    have hbin : ∀ b, eqV P ty x y = some b → (binOp .eql ty A B).run P w = .ok (.bool b) w ∧ (binOp .neq ty A B).run P w = .ok (.bool (!b)) w := by
      intro b hb
      obtain ⟨_, k1, k2, k3, k4, k5⟩ := key b hb
      constructor <;>
      · unfold binOp
        split <;> first
          | (exfalso; first | exact k2 _ _ _ _ ⟨rfl, rfl⟩ | exact k3 _ _ ⟨rfl, rfl⟩ | exact k4 _ _ _ _ ⟨rfl, rfl⟩ | exact k5 _ _ _ _ _ _ ⟨rfl, rfl⟩)
          | simp_all
    split at h
    · simp only [Option.bind_eq_some_iff, Option.some.injEq] at h
      obtain ⟨b, hb, rfl⟩ := h
      refine ⟨.bool b, ?_, rvr_B _⟩
      rw [run_seq_ok (key b hb).1]; exact (hbin b hb).1
    · simp only [Option.bind_eq_some_iff, Option.some.injEq] at h
      obtain ⟨b, hb, rfl⟩ := h
      refine ⟨.bool (!b), ?_, rvr_B _⟩
      rw [run_seq_ok (key b hb).1]; exact (hbin b hb).2
    · cases h

theorem run_unV {op : UnOp} {x : AV} {A : Value} {v : RV} (h : unV op x = some v) (hx : AVR g x A) : ∃ V, (Op.unary op A).run P w = .ok V w ∧ RVR g p pi v V := by
  unfold unV at h
  split at h
  · cases hx with | d _ _ hx => cases hx; simp at h; subst h; exact ⟨_, by simp [Op.unary], rvr_B _⟩
  · cases hx with | d _ _ hx => 
    cases hx; simp only [Option.some.injEq] at h; subst h
    rename_i k n
    exact ⟨.int k (k.wrap (0 - n)), by simp [Op.unary, Op.intArith], rvr_I _ _⟩
  · cases hx with | d _ _ hx =>
    cases hx
    simp only [bitsOp, Option.bind_some, Option.some.injEq] at h; subst h
    rename_i k n
    refine ⟨.int k _, ?_, rvr_I _ _⟩
    simp only [Op.unary, Op.intBits]
    cases hs : k.signed <;> simp
  · cases h
end Go.Abs
namespace Go.Abs
variable {P : Program} {g : Gh} {w : World} {p : Place} {pi : Nat → Place}

theorem szOf_some {t : TypeId} {n : Nat} (h : szOf P t = some n) : ∃ i d, P.info? t = some i ∧ P.underlying t = some d ∧ i.size = n := by
  simp only [szOf, Option.bind_eq_some_iff, Option.some.injEq] at h
  obtain ⟨i, hi, d, hd, rfl⟩ := h
  exact ⟨i, d, hi, hd, rfl⟩
theorem run_sizeOf {t : TypeId} {n : Nat} (h : szOf P t = some n) : (sizeOf t).run P w = .ok n w := by
  obtain ⟨i, d, hi, hd, rfl⟩ := szOf_some h
  simp [sizeOf, typeInfo, hi]
theorem elemT_some {t e : TypeId} (h : elemT P t = some e) : P.underlying t = some (.slice e) := by
  unfold elemT at h; split at h <;> simp_all
theorem run_isAgg {t : TypeId} {n : Nat} (h : szOf P t = some n) : (isAgg t).run P w = .ok (isAggT P t) w := by
  obtain ⟨i, d, hi, hd, rfl⟩ := szOf_some h
  unfold isAgg isAggT
  cases d <;> simp [underlying, hd]

theorem fieldT_some {t : TypeId} {f : Nat} {r : Nat × TypeId × Nat} (h : fieldT P t f = some r) :
    ∃ fs fd, P.underlying t = some (.struct fs) ∧ fs[f]? = some fd ∧ szOf P fd.type = some r.2.2 ∧ r.2.2 ≠ 0 ∧ r.1 = fd.offset ∧ r.2.1 = fd.type := by
  unfold fieldT at h
  split at h
  · rename_i fs hu
    simp only [Option.bind_eq_some_iff] at h
    obtain ⟨fd, hf, n, hn, h2⟩ := h
    obtain ⟨h3, h4⟩ := cond_none' h2
    simp only [Option.some.injEq] at h4; subst h4
    refine ⟨fs, fd, hu, hf, hn, ?_, rfl, rfl⟩
    intro e
    have e' : n = 0 := e
    rw [e', nbeq_self] at h3; cases h3
  · cases h

theorem Addr.add_plain (b o n : Nat) : (⟨b, o, none⟩ : Addr).add n = ⟨b, o + n, none⟩ := by
  unfold Addr.add; split <;> simp_all

theorem run_fieldPlace {fd : Field} {n b o : Nat} (h : szOf P fd.type = some n) (hn : n ≠ 0) : (fieldPlace ⟨b, o, none⟩ fd).run P w = .ok ⟨b, o + fd.offset, none⟩ w := by
  unfold fieldPlace
  simp [run_sizeOf h, hn, Addr.add_plain]

/-- What a slot's value is, whatever the slots. -/
inductive SPR (g : Gh) (beta : Nat → Nat) : SV → Value → Prop
  | av (v V) (h : AVR g v V) : SPR g beta (.r (.c (.a v))) V
  | lp (k off) : SPR g beta (.lp k off) (.pointer (some ⟨beta k, off, none⟩))

theorem cells_d {ps : List PV} {Vs : List Value} (h : PRs g.own ps Vs) : AVRs g (ps.map .d) Vs := AVRs.ofD h

/-- A struct's or array's cells, of a value that is one. -/
theorem AVR.cells {v : AV} {V : Value} (h : AVR g v V) : AVRs g v.cells V.cells.toList := by
  cases h with
  | d p V h =>
    cases h with
    | agg cs Vs hc => exact AVRs.ofD hc
    | _ => exact .cons _ _ _ _ (.d _ _ (by constructor <;> assumption)) .nil
  | agg cs Vs h => exact h
  | ptr i off h => exact .cons _ _ _ _ (.ptr _ _ h) .nil
  | ms i off len cap off' cap' h hc ho => exact .cons _ _ _ _ (.ms _ _ _ _ _ _ h hc ho) .nil
  | ifc t v V h => exact .cons _ _ _ _ (.ifc _ _ _ h) .nil
  | fnc f ca Vs h => exact .cons _ _ _ _ (.fnc _ _ _ h) .nil
theorem AVR.mkAgg {cs : List AV} {Vs : List Value} (h : AVRs g cs Vs) : AVR g (mkAgg cs) (.agg ⟨Vs⟩) := by
  unfold Abs.mkAgg
  split
  · rename_i ps hp; exact .d _ _ (.agg _ _ (h.toD hp))
  · exact .agg _ _ h
theorem AVR.mkIfc {v : AV} {V : Value} (t : TypeId) (h : AVR g v V) : AVR g (mkIfc t v) (.iface t V) := by
  unfold Abs.mkIfc
  split
  · cases h with | d _ _ h => exact .d _ _ (.ifc _ _ _ h)
  · exact .ifc _ _ _ h

theorem run_lenV {x : RV} {A : Value} {v : RV} {q : Place} {qi : Nat → Place} {t : TypeId} {ts : Array TypeId} {ty : TypeId} (h : lenV P t x = some v) (hx : RVR g q qi x A) (ht : ts[0]? = some t) :
    ∃ V, (Builtin.len_ ts ty #[A]).run P w = .ok V w ∧ RVR g p pi v V := by
  unfold lenV at h
  split at h
  · rename_i hu
    split at h
    · simp only [Option.some.injEq] at h; subst h
      cases hx with | c _ _ hx => cases hx with | a _ _ hx => cases hx with | d _ _ hx =>
      cases hx with | str s =>
      exact ⟨.int .i64 s.size, by simp [Builtin.len_, ht, run_underlying' hu, goInt], by have := rvr_I (g := g) (p := p) (pi := pi) .i64 s.size; simpa using this⟩
    · cases h
  · rename_i hu
    split at h
    · simp only [Option.some.injEq] at h; subst h
      cases hx with | c _ _ hx => cases hx with | a _ _ hx => cases hx with | d _ _ hx =>
      cases hx
      · exact ⟨.int .i64 0, by simp [Builtin.len_, ht, run_underlying' hu, goInt], by simpa using rvr_I .i64 0⟩
      · exact ⟨.int .i64 _, by simp [Builtin.len_, ht, run_underlying' hu, goInt], rvr_I .i64 _⟩
    · simp only [Option.some.injEq] at h; subst h
      cases hx with | c _ _ hx =>
      cases hx
      · exact ⟨.int .i64 0, by simp [Builtin.len_, ht, run_underlying' hu, goInt], by simpa using rvr_I .i64 0⟩
      · exact ⟨.int .i64 _, by simp [Builtin.len_, ht, run_underlying' hu, goInt], rvr_I .i64 _⟩
    · simp only [Option.some.injEq] at h; subst h
      cases hx with | c _ _ hx => cases hx with | a _ _ hx =>
      cases hx
      exact ⟨.int .i64 _, by simp [Builtin.len_, ht, run_underlying' hu, goInt], rvr_I .i64 _⟩
    · cases h
  · cases h

/-! A text of bytes. -/
theorem PRs.bytes {own : OwnF} {l : List PV} {s : List UInt8} (h : bytesP l = some s) : ∀ {Vs : List Value}, PRs own l Vs → Vs = s.map (fun c => .int .u8 c.toNat) ∨ True := fun _ => .inr trivial
theorem bytesP_cons {x : PV} {l : List PV} {s : List UInt8} (h : bytesP (x :: l) = some s) : ∃ n s', x = .int .u8 n ∧ bytesP l = some s' ∧ s = UInt8.ofNat n.toNat :: s' := by
  cases x with
  | int k n =>
    cases k <;> simp [bytesP, Option.bind_eq_some_iff] at h
    obtain ⟨s', h1, rfl⟩ := h
    exact ⟨n, s', rfl, h1, rfl⟩
  | _ => simp [bytesP] at h

theorem bytesP_cells {l : List PV} {s : List UInt8} (h : bytesP l = some s) : l.flatMap PV.cells = l := by
  induction l generalizing s with
  | nil => rfl
  | cons x l ih =>
    obtain ⟨n, s', rfl, h1, rfl⟩ := bytesP_cons h
    simp [List.flatMap_cons, PV.cells, ih h1]

theorem bytesP_vals {own : OwnF} {l : List PV} {s : List UInt8} (h : bytesP l = some s) {Vs : List Value} (hv : PRs own l Vs) : ∃ ns : List Int, Vs = ns.map (Value.int .u8) ∧ s = ns.map fun n => UInt8.ofNat n.toNat := by
  induction l generalizing s Vs with
  | nil => simp [bytesP] at h; subst h; cases hv; exact ⟨[], rfl, rfl⟩
  | cons x l ih =>
    obtain ⟨n, s', rfl, h1, rfl⟩ := bytesP_cons h
    cases hv with
    | cons _ _ V Vs hx hs =>
      cases hx
      obtain ⟨ns, rfl, rfl⟩ := ih h1 hs
      exact ⟨n :: ns, rfl, rfl⟩
theorem foldl_push (ns : List Int) : ∀ s : ByteArray, (ns.foldl (fun r n => r.push (UInt8.ofNat n.toNat)) s).data.toList = s.data.toList ++ ns.map fun n => UInt8.ofNat n.toNat := by
  induction ns with
  | nil => intro s; simp
  | cons n ns ih => intro s; simp only [List.foldl_cons, ih, List.map_cons]; simp [ByteArray.push]

theorem run_bytesS {l : List PV} {s : List UInt8} {A : Value} {sz : Nat} {n : Bool} (hw : WInv g.own w) (h : bytesP l = some s) (hx : PR g.own (.sl sz n l) A) :
    ∃ S : ByteArray, (Conv.bytesToString A).run P w = .ok (.string S) w ∧ S.data.toList = s := by
  cases hx with
  | nsl sz => simp [bytesP] at h; subst h; exact ⟨.empty, by simp [Conv.bytesToString], rfl⟩
  | sl sz l b off cap Vs hl hok hc hf =>
    rw [bytesP_cells h] at hc
    obtain ⟨ns, rfl, rfl⟩ := bytesP_vals h hc
    have hlen : l.length = ns.length := by simpa using hc.length
    refine ⟨_, run_bytesToString w ⟨b, off, none⟩ l.length cap ns ?_, ?_⟩
    · have := run_loadCells_list (P := P) (w := w) ⟨b, off, none⟩ (ns.map (Value.int .u8)) (fun j v hj => by
        rw [Addr.add_plain]; exact hw.fz (hf j v hj))
      rw [hlen]
      simpa using this
    · rw [foldl_push]; simp

theorem run_conv_bytes {src dst : TypeId} {A : Value} {sz : Nat} {n : Bool} {l : List PV} {s : List UInt8} (hw : WInv g.own w) (hd : P.underlying dst = some .string) (hs : isBytesT P src = true) (h : bytesP l = some s) (hx : PR g.own (.sl sz n l) A) :
    ∃ V, (convert src dst A).run P w = .ok V w ∧ RVR g p pi (rS s) V := by
  obtain ⟨S, h1, rfl⟩ := run_bytesS (P := P) hw h hx
  unfold isBytesT at hs
  split at hs
  · rename_i e he
    split at hs
    · rename_i hu
      refine ⟨.string S, ?_, rvr_S _⟩
      rw [← h1]
      cases hx with
      | nsl sz => exact run_convert_bytes_string w src dst e none 0 0 he hu hd
      | sl sz l b off cap Vs hl hok hc hf => exact run_convert_bytes_string w src dst e _ _ cap he hu hd
    · cases hs
  · cases hs

theorem run_convV {src dst : TypeId} {x : RV} {A : Value} {v : RV} {q : Place} {qi : Nat → Place} (hw : WInv g.own w) (h : convV P src dst x = some v) (hx : RVR g q qi x A) :
    ∃ V, (convert src dst A).run P w = .ok V w ∧ RVR g p pi v V := by
  unfold convV at h
  simp only [Option.bind_eq_some_iff] at h
  obtain ⟨ds, hsrc, h⟩ := h
  split at h
  · rename_i k hd
    split at h
    · simp only [Option.some.injEq] at h; subst h
      cases hx with | c _ _ hx => cases hx with | a _ _ hx => cases hx with | d _ _ hx =>
      cases hx
      exact ⟨.int k _, by simp [convert, run_underlying' hd, run_underlying' hsrc, Conv.intToInt], rvr_I _ _⟩
    · cases h
  · rename_i hd
    split at h
    · simp only [Option.some.injEq] at h; subst h
      cases hx with | c _ _ hx => cases hx with | a _ _ hx => cases hx with | d _ _ hx =>
      cases hx with | str S =>
      exact ⟨.string S, by simp [convert, run_underlying' hd, run_underlying' hsrc], rvr_S _⟩
    · obtain ⟨h1, h2⟩ := cond_none h
      simp only [Option.bind_eq_some_iff, Option.some.injEq] at h2
      obtain ⟨s, h3, rfl⟩ := h2
      cases hx with | c _ _ hx => cases hx with | a _ _ hx => cases hx with | d _ _ hx =>
      exact run_conv_bytes hw hd h1 h3 hx
    · obtain ⟨h1, h2⟩ := cond_none h
      simp only [Option.bind_eq_some_iff, Option.some.injEq] at h2
      obtain ⟨s, h3, rfl⟩ := h2
      cases hx with | c _ _ hx =>
      have := hx.av
      cases this with | d _ _ hx => exact run_conv_bytes hw hd h1 h3 hx
    · cases h
  · cases h

theorem AVR.agg? {v : AV} {A : Value} {cs : List AV} (h : AVR g v A) (hc : v.agg? = some cs) : ∃ Vs, A = .agg ⟨Vs⟩ ∧ AVRs g cs Vs := by
  unfold AV.agg? at hc
  split at hc
  · simp only [Option.some.injEq] at hc; subst hc
    cases h with | d _ _ h => cases h with | agg _ Vs h => exact ⟨Vs, rfl, AVRs.ofD h⟩
  · simp only [Option.some.injEq] at hc; subst hc
    cases h with | agg _ Vs h => exact ⟨Vs, rfl, h⟩
  · cases hc
theorem part_run {t : TypeId} {n off : Nat} {cs : List AV} {Vs : List Value} (h : szOf P t = some n) (hx : AVRs g cs Vs) {v : RV} (hv : partV (isAggT P t) cs off n = some v) :
    ∃ V, (part t ⟨Vs⟩ off).run P w = .ok V w ∧ RVR g p pi v V := by
  unfold part
  unfold partV at hv
  cases ha : isAggT P t
  · rw [ha] at hv
    simp only [cond_false, Option.bind_eq_some_iff, Option.some.injEq] at hv
    obtain ⟨c, hc, rfl⟩ := hv
    obtain ⟨V, hV, hr⟩ := hx.get hc
    exact ⟨V, by simp [run_isAgg h, ha, hV], rvr_A hr⟩
  · rw [ha] at hv
    simp only [cond_true, Option.some.injEq] at hv
    subst hv
    refine ⟨.agg ⟨(Vs.drop off).take n⟩, ?_, rvr_A (AVR.mkAgg ((hx.drop off).take n))⟩
    simp only [run_isAgg h, ha, Sem.run_bind, Result.andThen, if_true, run_sizeOf h, Sem.run_map, Sem.run_pure]
    congr 2
    apply Array.ext'
    simp [Array.toList_extract, List.extract_eq_take_drop]

theorem run_fieldV {t : TypeId} {f : Nat} {x : AV} {A : Value} {v : RV} (h : fieldV P t f x = some v) (hx : AVR g x A) :
    ∃ V, (Instr.field t A f).run P w = .ok V w ∧ RVR g p pi v V := by
  simp only [fieldV, Option.bind_eq_some_iff] at h
  obtain ⟨r, hr, cs, hc, h⟩ := h
  obtain ⟨fs, fd, hu, hf, hn, _, ho, ht⟩ := fieldT_some hr
  obtain ⟨Vs, rfl, hcs⟩ := hx.agg? hc
  rw [ht] at h
  obtain ⟨V, hV, hr⟩ := part_run (P := P) (w := w) (p := p) (pi := pi) hn hcs h
  refine ⟨V, ?_, hr⟩
  rw [ho] at hV
  simp [Instr.field, run_underlying' hu, hf, asAgg, hV]

theorem inb_iff {x : Int} {n : Nat} (h : inb x n = true) : 0 ≤ x ∧ x < (n : Int) := by
  simpa [inb] using h

theorem run_indexV {t : TypeId} {x ix : AV} {A I : Value} {v : RV} (h : indexV P t x ix = some v) (hx : AVR g x A) (hi : AVR g ix I) :
    ∃ V, (Instr.index t A I).run P w = .ok V w ∧ RVR g p pi v V := by
  unfold indexV at h
  split at h
  · rename_i k i
    cases hi with | d _ _ hi =>
    cases hi
    split at h
    · rename_i hu
      split at h
      · cases hx with | d _ _ hx => cases hx with | str S =>
        obtain ⟨h1, rfl⟩ := grd_some h
        obtain ⟨h2, h3⟩ := inb_iff h1
        have hlt : i.toNat < S.size := by
          have e1 : S.data.size = S.size := rfl
          simp only [Array.length_toList] at h3
          omega
        have hg : S[i.toNat]? = some S[i.toNat] := by simp [hlt]
        refine ⟨.int .u8 (S[i.toNat].toNat : Int), ?_, ?_⟩
        · simp [Instr.index, asIntOf, run_underlying' hu, h2, hg]
        · have e2 : S.data.toList.getD i.toNat 0 = S[i.toNat] := by
            have : i.toNat < S.data.size := hlt
            rw [List.getD_eq_getElem?_getD, Array.getElem?_toList, Array.getElem?_eq_getElem this]
            rfl
          rw [e2]; exact rvr_I _ _
      · cases h
    · rename_i len e hu
      simp only [Option.bind_eq_some_iff] at h
      obtain ⟨m, hm, cs, hc, h⟩ := h
      obtain ⟨h1, h4⟩ := cond_none h
      obtain ⟨h2, h3⟩ := inb_iff h1
      obtain ⟨Vs, rfl, hcs⟩ := hx.agg? hc
      obtain ⟨V, hV, hr⟩ := part_run (P := P) (w := w) (p := p) (pi := pi) hm hcs h4
      refine ⟨V, ?_, hr⟩
      simp [Instr.index, asIntOf, run_underlying' hu, h2, h3, run_sizeOf hm, hV]
    · cases h
  · cases h
end Go.Abs
namespace Go.Abs
variable {P : Program} {g : Gh} {w : World} {p : Place} {pi : Nat → Place} {beta : Nat → Nat} {d s s' : Nat} {tmps tmps' : Array Value}

theorem svr_A {v : AV} {V : Value} (h : AVR g v V) : SVR g beta d s tmps (sA v) V := .r _ _ (rvr_A h)

/-- The cells of one element. -/
theorem elem_cells {sz : Nat} {l : List PV} (hl : ∀ x ∈ l, okE sz x) {i : Nat} {x : PV} (hx : l[i]? = some x) :
    (l.flatMap PV.cells).drop (i * sz) = x.cells ++ (l.drop (i + 1)).flatMap PV.cells := by
  induction l generalizing i with
  | nil => simp at hx
  | cons y l ih =>
    have hy : y.cells.length = sz := (hl y (by simp)).1
    cases i with
    | zero => simp at hx; subst hx; simp
    | succ i =>
      simp only [List.getElem?_cons_succ] at hx
      have := ih (fun z hz => hl z (by simp [hz])) hx
      simp only [List.flatMap_cons, List.drop_succ_cons]
      rw [List.drop_append, List.drop_of_length_le (by rw [hy, Nat.add_mul]; omega)]
      rw [hy, show (i + 1) * sz - sz = i * sz by rw [Nat.add_mul]; omega]
      simpa using this
theorem elem_prs {own : OwnF} {sz : Nat} {l : List PV} {Vs : List Value} (hl : ∀ x ∈ l, okE sz x) (hc : PRs own (l.flatMap PV.cells) Vs) {i : Nat} {x : PV} (hx : l[i]? = some x) :
    PRs own x.cells ((Vs.drop (i * sz)).take sz) := by
  have h1 := hc.drop (i * sz)
  rw [elem_cells hl hx] at h1
  have h2 := h1.take sz
  have hs : x.cells.length = sz := (hl x (List.mem_of_getElem? hx)).1
  rw [List.take_append_of_le_length (by omega), List.take_of_length_le (by omega)] at h2
  exact h2
theorem flat_length {sz : Nat} {l : List PV} (hl : ∀ x ∈ l, okE sz x) : (l.flatMap PV.cells).length = l.length * sz := by
  induction l with
  | nil => simp
  | cons y l ih =>
    simp only [List.flatMap_cons, List.length_append, List.length_cons, (hl y (by simp)).1, ih (fun z hz => hl z (by simp [hz])), Nat.add_mul, Nat.one_mul]
    omega

theorem get_drop_take {α : Type} {l : List α} {a n j : Nat} {v : α} (h : ((l.drop a).take n)[j]? = some v) : l[a + j]? = some v := by
  rw [List.getElem?_take] at h
  split at h
  · simpa [List.getElem?_drop] using h
  · cases h

/-- A pointer to an element of a slice of data. -/
theorem elem_ptr {sz off b cap : Nat} {l : List PV} {Vs : List Value} (hl : ∀ x ∈ l, okE sz x) (hc : PRs g.own (l.flatMap PV.cells) Vs) (hf : ∀ j V, Vs[j]? = some V → g.own b (off + j) = .fz V) {i : Nat} (hi : i < l.length) :
    AVR g (.d (.bx (l.getD i .nilp).cells)) (.pointer (some ⟨b, off + i * sz, none⟩)) := by
  have hx : l[i]? = some (l.getD i .nilp) := by simp [List.getD_eq_getElem?_getD, hi]
  refine .d _ _ (.bx _ _ _ _ (hl _ (List.mem_of_getElem? hx)).2 (elem_prs hl hc hx) (fun j V hj => ?_))
  have := hf _ _ (get_drop_take hj)
  rwa [Nat.add_assoc]

theorem run_fieldAddrV {t : TypeId} {f : Nat} {x v : SV} {A : Value} (h : fieldAddrV P t f x = some v) (hx : SVR g beta d s tmps x A) :
    ∃ V, (Instr.fieldAt t A f).run P w = .ok V w ∧ SVR g beta d s' tmps' v V := by
  simp only [fieldAddrV, Option.bind_eq_some_iff] at h
  obtain ⟨r, hr, h⟩ := h
  obtain ⟨fs, fd, hu, hf, hn, hz, ho, ht⟩ := fieldT_some hr
  have key : ∀ b o, (Instr.fieldAt t (.pointer (some ⟨b, o, none⟩)) f).run P w = .ok (.pointer (some ⟨b, o + r.1, none⟩)) w := by
    intro b o
    have := run_fieldPlace (P := P) (w := w) (b := b) (o := o) hn hz
    simp [Instr.fieldAt, run_underlying' hu, hf, Instr.sureAddr, this, ho]
  split at h
  · simp only [Option.some.injEq] at h; subst h
    cases hx
    exact ⟨_, key _ _, .lp _ _⟩
  · simp only [Option.some.injEq] at h; subst h
    cases hx with | r _ _ hx => cases hx with | c _ _ hx => cases hx with | a _ _ hx =>
    cases hx with | ptr i off hi =>
    exact ⟨_, key _ _, svr_A (.ptr _ _ hi)⟩
  · simp only [Option.some.injEq] at h; subst h
    cases hx with | r _ _ hx => cases hx with | c _ _ hx => cases hx with | a _ _ hx =>
    cases hx with | d _ _ hx => cases hx with | bx cs b off Vs hs hc hfz =>
    refine ⟨_, key _ _, svr_A (.d _ _ (.bx _ _ _ _ (fun c hc => hs c (List.mem_of_mem_drop hc)) (hc.drop r.1) (fun j V hj => ?_)))⟩
    rw [List.getElem?_drop] at hj
    have := hfz _ _ hj
    rwa [Nat.add_assoc]
  · cases h

theorem run_indexAddrV {t : TypeId} {ix : AV} {I : Value} {x v : SV} {A : Value} (h : indexAddrV P t x ix = some v) (hx : SVR g beta d s tmps x A) (hi : AVR g ix I) :
    ∃ V, (Instr.indexAt t A I).run P w = .ok V w ∧ SVR g beta d s' tmps' v V := by
  unfold indexAddrV at h
  split at h
  · rename_i k i
    cases hi with | d _ _ hi =>
    cases hi
    split at h
    · rename_i e hu
      simp only [Option.bind_eq_some_iff] at h
      obtain ⟨m, hm, h⟩ := h
      have key : ∀ (b o len cap : Nat), 0 ≤ i → i < (len : Int) → (Instr.indexAt t (.slice (some ⟨b, o, none⟩) len cap) (.int k i)).run P w = .ok (.pointer (some ⟨b, o + i.toNat * m, none⟩)) w := by
        intro b o len cap h1 h2
        simp [Instr.indexAt, asIntOf, run_underlying' hu, h1, h2, run_sizeOf hm, Addr.add_plain]
      split at h
      · obtain ⟨h1, h2⟩ := cond_none h
        obtain rfl := nbeq_eq h1
        obtain ⟨h3, rfl⟩ := grd_some h2
        obtain ⟨h4, h5⟩ := inb_iff h3
        cases hx with | r _ _ hx => cases hx with | c _ _ hx => cases hx with | a _ _ hx =>
        cases hx with | d _ _ hx =>
        cases hx with
        | nsl sz => simp at h5; omega
        | sl sz l b off cap Vs hl hok hc hf => exact ⟨_, key _ _ _ _ h4 h5, svr_A (elem_ptr (cap := cap) hok hc hf (by omega))⟩
      · obtain ⟨h1, h2⟩ := cond_none h
        obtain rfl := nbeq_eq h1
        obtain ⟨h3, rfl⟩ := grd_some h2
        obtain ⟨h4, h5⟩ := inb_iff h3
        cases hx with | r _ _ hx => cases hx with | c _ _ hx =>
        cases hx with
        | own0 sz => simp at h5; omega
        | ow sz l b off cap Vs hl hz hok hc hf ht => exact ⟨_, key _ _ _ _ h4 h5, svr_A (elem_ptr (cap := cap) hok hc hf (by omega))⟩
      · obtain ⟨h3, rfl⟩ := grd_some h
        obtain ⟨h4, h5⟩ := inb_iff h3
        cases hx with | r _ _ hx => cases hx with | c _ _ hx => cases hx with | a _ _ hx =>
        cases hx with | ms j off len cap off' cap' hj hc ho =>
        have := ho (by omega)
        subst this
        exact ⟨_, key _ _ _ _ h4 h5, svr_A (.ptr _ _ hj)⟩
      · cases h
    · rename_i len e hu
      simp only [Option.bind_eq_some_iff] at h
      obtain ⟨m, hm, h⟩ := h
      have key : ∀ (b o : Nat), 0 ≤ i → i < (len : Int) → (Instr.indexAt t (.pointer (some ⟨b, o, none⟩)) (.int k i)).run P w = .ok (.pointer (some ⟨b, o + i.toNat * m, none⟩)) w := by
        intro b o h1 h2
        simp [Instr.indexAt, asIntOf, run_underlying' hu, h1, h2, run_sizeOf hm, Addr.add_plain, Instr.sureAddr]
      split at h
      · obtain ⟨h3, rfl⟩ := grd_some h
        obtain ⟨h4, h5⟩ := inb_iff h3
        cases hx
        exact ⟨_, key _ _ h4 h5, .lp _ _⟩
      · obtain ⟨h3, rfl⟩ := grd_some h
        obtain ⟨h4, h5⟩ := inb_iff h3
        cases hx with | r _ _ hx => cases hx with | c _ _ hx => cases hx with | a _ _ hx =>
        cases hx with | ptr j off hj =>
        exact ⟨_, key _ _ h4 h5, svr_A (.ptr _ _ hj)⟩
      · obtain ⟨h3, rfl⟩ := grd_some h
        obtain ⟨h4, h5⟩ := inb_iff h3
        cases hx with | r _ _ hx => cases hx with | c _ _ hx => cases hx with | a _ _ hx =>
        cases hx with | d _ _ hx => cases hx with | bx cs b off Vs hs hc hfz =>
        refine ⟨_, key _ _ h4 h5, svr_A (.d _ _ (.bx _ _ _ _ (fun c hc => hs c (List.mem_of_mem_drop hc)) (hc.drop _) (fun j V hj => ?_)))⟩
        rw [List.getElem?_drop] at hj
        have := hfz _ _ hj
        rwa [Nat.add_assoc]
      · cases h
    · cases h
  · cases h

theorem inc_iff {x : Int} {n : Nat} (h : inc x n = true) : 0 ≤ x ∧ x ≤ (n : Int) := by
  simpa [inc] using h

/-- The bounds of a slice expression of two indexes. -/
theorem run_bounds {isS : Bool} {len cap : Nat} {lo hi : Option AV} {LO HI : Option Value} {r : Bool × Nat × Nat} (h : boundsV len lo hi = some r) (hr : r.1 = true) (hlc : len ≤ cap)
    (hl : ∀ x, lo = some x → ∃ X, LO = some X ∧ AVR g x X) (hln : lo = none → LO = none) (hh : ∀ x, hi = some x → ∃ X, HI = some X ∧ AVR g x X) (hhn : hi = none → HI = none) :
    (Instr.sliceBounds isS len cap LO HI none).run P w = .ok (r.2.1, r.2.2, cap) w ∧ r.2.1 ≤ r.2.2 ∧ r.2.2 ≤ len := by
  unfold boundsV at h
  split at h
  · simp only [Option.some.injEq] at h; subst h
    rw [hln rfl, hhn rfl]
    simp [Instr.sliceBounds]
  · simp only [Option.some.injEq] at h; subst h
    obtain ⟨X, rfl, hX⟩ := hl _ rfl
    rw [hhn rfl]
    cases hX with | d _ _ hX =>
    cases hX
    obtain ⟨h1, h2⟩ := inc_iff hr
    refine ⟨?_, by simp only; omega, Nat.le_refl _⟩
    simp [Instr.sliceBounds, Instr.sliceBound, asIntOf, h1, h2]
  · simp only [Option.some.injEq] at h; subst h
    obtain ⟨X, rfl, hX⟩ := hh _ rfl
    rw [hln rfl]
    cases hX with | d _ _ hX =>
    cases hX
    obtain ⟨h1, h2⟩ := inc_iff hr
    refine ⟨?_, Nat.zero_le _, by simp only; omega⟩
    rename_i b
    have h3 : b ≤ (cap : Int) := by omega
    simp [Instr.sliceBounds, Instr.sliceBound, asIntOf, h1, h3]
  · simp only [Option.some.injEq] at h; subst h
    obtain ⟨X, rfl, hX⟩ := hl _ rfl
    obtain ⟨Y, rfl, hY⟩ := hh _ rfl
    cases hX with | d _ _ hX =>
    cases hX
    cases hY with | d _ _ hY =>
    cases hY
    simp only [Bool.and_eq_true, decide_eq_true_eq] at hr
    obtain ⟨h0, h3, h4⟩ := hr
    obtain ⟨h1, h2⟩ := inc_iff h0
    refine ⟨?_, by simp only; omega, by simp only; omega⟩
    rename_i a _ b
    have h5 : b ≤ (cap : Int) := by omega
    have h6 : a ≤ max b 0 := by omega
    simp [Instr.sliceBounds, Instr.sliceBound, asIntOf, h1, h3, h4, h5, h6]
  · cases h
end Go.Abs
namespace Go.Abs
variable {P : Program} {g : Gh} {w : World} {p : Place} {pi : Nat → Place} {beta : Nat → Nat} {d s s' : Nat} {tmps tmps' : Array Value}

theorem flat_drop {sz : Nat} {l : List PV} (hl : ∀ x ∈ l, okE sz x) (k : Nat) : (l.drop k).flatMap PV.cells = (l.flatMap PV.cells).drop (k * sz) := by
  induction k generalizing l with
  | zero => simp
  | succ k ih =>
    cases l with
    | nil => simp
    | cons y l =>
      have hy : y.cells.length = sz := (hl y (by simp)).1
      simp only [List.drop_succ_cons, List.flatMap_cons]
      rw [ih (fun z hz => hl z (by simp [hz]))]
      generalize List.flatMap PV.cells l = F
      rw [List.drop_append, List.drop_of_length_le (l := y.cells) (by rw [hy, Nat.add_mul]; omega)]
      rw [hy, show (k + 1) * sz - sz = k * sz by rw [Nat.add_mul]; omega]
      simp
theorem flat_take {sz : Nat} {l : List PV} (hl : ∀ x ∈ l, okE sz x) (k : Nat) : (l.take k).flatMap PV.cells = (l.flatMap PV.cells).take (k * sz) := by
  induction k generalizing l with
  | zero => simp
  | succ k ih =>
    cases l with
    | nil => simp
    | cons y l =>
      have hy : y.cells.length = sz := (hl y (by simp)).1
      simp only [List.take_succ_cons, List.flatMap_cons]
      rw [ih (fun z hz => hl z (by simp [hz]))]
      generalize List.flatMap PV.cells l = F
      rw [List.take_append, List.take_of_length_le (l := y.cells) (by rw [hy, Nat.add_mul]; omega)]
      rw [hy, show (k + 1) * sz - sz = k * sz by rw [Nat.add_mul]; omega]

theorem cut_length {α : Type} {l : List α} {a b : Nat} (h : b ≤ l.length) (hab : a ≤ b) : (cut l a (b - a)).length = b - a := by
  simp [cut]; omega

theorem extract_cut (S : ByteArray) (a b : Nat) (h : b ≤ S.size) : (S.extract a b).data.toList = cut S.data.toList a (b - a) := by
  simp [cut, List.extract_eq_take_drop]

theorem run_sliceV {t : TypeId} {x : AV} {lo hi : Option AV} {A : Value} {LO HI : Option Value} {v : RV} (h : sliceV P t x lo hi = some v) (hx : AVR g x A)
    (hl : ∀ x, lo = some x → ∃ X, LO = some X ∧ AVR g x X) (hln : lo = none → LO = none) (hh : ∀ x, hi = some x → ∃ X, HI = some X ∧ AVR g x X) (hhn : hi = none → HI = none) :
    ∃ V, (Instr.sliceAt t A LO HI none).run P w = .ok V w ∧ RVR g p pi v V := by
  unfold sliceV at h
  split at h
  · obtain ⟨h1, h2⟩ := cond_none h
    have hu : P.underlying t = some .string := by
      unfold isStrT at h1; split at h1
      · assumption
      · cases h1
    simp only [Option.bind_eq_some_iff] at h2
    obtain ⟨r, hr, h3⟩ := h2
    obtain ⟨h4, rfl⟩ := grd_some h3
    cases hx with | d _ _ hx => cases hx with | str S =>
    have hlen : S.data.toList.length = S.size := by simp
    rw [hlen] at hr
    obtain ⟨hb, hb1, hb2⟩ := run_bounds (P := P) (w := w) (isS := false) hr h4 (Nat.le_refl _) hl hln hh hhn
    refine ⟨.string (S.extract r.2.1 r.2.2), ?_, ?_⟩
    · simp only [Instr.sliceAt, Sem.run_bind, run_underlying' hu, Result.andThen, Instr.slice]
      simp [hb]
    · rw [← extract_cut S r.2.1 r.2.2 hb2]; exact rvr_S _
  · rename_i sz n l
    simp only [Option.bind_eq_some_iff] at h
    obtain ⟨e, he, m, hm, h⟩ := h
    obtain ⟨h1, h2⟩ := cond_none h
    simp only [Option.bind_eq_some_iff] at h2
    obtain ⟨r, hr, h3⟩ := h2
    obtain ⟨h4, rfl⟩ := grd_some h3
    have hu := elemT_some he
    cases hx with | d _ _ hx =>
    cases hx with
    | nsl sz =>
      obtain ⟨hb, hb1, hb2⟩ := run_bounds (P := P) (w := w) (isS := true) hr h4 (Nat.le_refl _) hl hln hh hhn
      have e1 : r.2.2 = 0 := by simpa using hb2
      have e2 : r.2.1 = 0 := by omega
      rw [e1, e2] at hb
      refine ⟨.slice none 0 0, ?_, ?_⟩
      · simp only [List.length_nil] at hb
        simp only [Instr.sliceAt, Sem.run_bind, run_underlying' hu, Result.andThen, Instr.slice]
        simp [hb, run_sizeOf hm]
      · rw [e1, e2]; exact rvr_A (.d _ _ (.nsl sz))
    | sl sz l b off cap Vs hlc hok hc hf =>
      obtain ⟨hb, hb1, hb2⟩ := run_bounds (P := P) (w := w) (isS := true) hr h4 hlc hl hln hh hhn
      have hms : m = sz := by simpa using h1
      subst hms
      have hcl := cut_length hb2 hb1
      by_cases hcap : cap = r.2.1
      · refine ⟨.slice (some ⟨b, off, none⟩) (r.2.2 - r.2.1) (cap - r.2.1), ?_, ?_⟩
        · simp only [Instr.sliceAt, Sem.run_bind, run_underlying' hu, Result.andThen, Instr.slice]
          rw [hcap] at hb ⊢
          simp [hb, run_sizeOf hm]
        · have e0 : r.2.2 - r.2.1 = 0 := by omega
          rw [e0] at hcl ⊢
          have e3 : cut l r.2.1 0 = [] := by simp [cut]
          rw [e3]
          have := PR.sl (own := g.own) m [] b off (cap - r.2.1) [] (by simp) (by simp) .nil (by simp)
          exact rvr_A (.d _ _ this)
      · refine ⟨.slice (some ⟨b, off + r.2.1 * m, none⟩) (r.2.2 - r.2.1) (cap - r.2.1), ?_, ?_⟩
        · simp only [Instr.sliceAt, Sem.run_bind, run_underlying' hu, Result.andThen, Instr.slice]
          simp [hb, run_sizeOf hm, hcap, Addr.add_plain]
        · have := PR.sl (own := g.own) m (cut l r.2.1 (r.2.2 - r.2.1)) b (off + r.2.1 * m) (cap - r.2.1) ((Vs.drop (r.2.1 * m)).take ((r.2.2 - r.2.1) * m)) (by rw [hcl]; omega)
            (fun x hx => hok x (List.mem_of_mem_drop (List.mem_of_mem_take hx)))
            (by unfold cut; rw [flat_take (fun x hx => hok x (List.mem_of_mem_drop hx)), flat_drop hok]; exact (hc.drop _).take _)
            (fun j V hj => by have := hf _ _ (get_drop_take hj); rwa [Nat.add_assoc])
          rw [hcl] at this
          exact rvr_A (.d _ _ this)
  · rename_i i off len cap
    simp only [Option.bind_eq_some_iff] at h
    obtain ⟨e, he, m, hm, r, hr, h3⟩ := h
    obtain ⟨h4, rfl⟩ := grd_some h3
    have hu := elemT_some he
    cases hx with | ms i off len cap off' cap' hi hc ho =>
    obtain ⟨hb, hb1, hb2⟩ := run_bounds (P := P) (w := w) (isS := true) hr h4 hc hl hln hh hhn
    by_cases hcap : cap' = r.2.1
    · refine ⟨.slice (some ⟨g.rho i, off', none⟩) (r.2.2 - r.2.1) (cap' - r.2.1), ?_, ?_⟩
      · simp only [Instr.sliceAt, Sem.run_bind, run_underlying' hu, Result.andThen, Instr.slice]
        rw [hcap] at hb ⊢
        simp [hb, run_sizeOf hm]
      · exact rvr_A (.ms _ _ _ _ _ _ hi (by omega) (by omega))
    · refine ⟨.slice (some ⟨g.rho i, off' + r.2.1 * m, none⟩) (r.2.2 - r.2.1) (cap' - r.2.1), ?_, ?_⟩
      · simp only [Instr.sliceAt, Sem.run_bind, run_underlying' hu, Result.andThen, Instr.slice]
        simp [hb, run_sizeOf hm, hcap, Addr.add_plain]
      · exact rvr_A (.ms _ _ _ _ _ _ hi (by omega) (fun hne => by rw [ho (by omega)]))
  · cases h

theorem svr_R {v : RV} {V : Value} (h : RVR g (.tmp d s) (.tup d s) v V) : SVR g beta d s tmps (.r v) V := .r _ _ h

theorem run_nilCk {x v : SV} {A : Value} (h : nilCk x = some v) (hx : SVR g beta d s tmps x A) :
    (match A with
      | .pointer none | .nilIface | .nilFunc => (runtimePanic .nilDeref : Sem Next)
      | .func (.method name) first captured => (match (first[0]? : Option Value) with
        | some .nilIface => runtimePanic .nilDeref
        | some (.iface t w) => do
          if (← nilAhead ((← program).types.size + Made.depth) t w name) != some false then
            unsupported (.noEntry "op/nilCheck.the method's receiver behind this interface value is a nil pointer, or cannot be seen to be none, and the arguments act or may panic (ledger 612)")
          pure (.value (.func (.method name) first captured))
        | _ => pure (.value (.func (.method name) first captured)))
      | x => pure (.value x)).run P w = .ok (.value A) w ∧ SVR g beta d s' tmps' v A := by
  unfold nilCk at h
  split at h
  · simp only [Option.some.injEq] at h; subst h
    cases hx
    exact ⟨rfl, .lp _ _⟩
  · simp only [Option.some.injEq] at h; subst h
    cases hx with | r _ _ hx => cases hx with | c _ _ hx => cases hx with | a _ _ hx =>
    cases hx with | ptr i off hi => exact ⟨rfl, svr_A (.ptr _ _ hi)⟩
  · simp only [Option.some.injEq] at h; subst h
    cases hx with | r _ _ hx => cases hx with | c _ _ hx => cases hx with | a _ _ hx =>
    cases hx with | d _ _ hx => cases hx with | bx cs b off Vs hs hc hf => exact ⟨rfl, svr_A (.d _ _ (.bx _ _ _ _ hs hc hf))⟩
  · simp only [Option.some.injEq] at h; subst h
    cases hx with | r _ _ hx => cases hx with | c _ _ hx => cases hx with | a _ _ hx =>
    cases hx with | d _ _ hx => cases hx with | fn f => exact ⟨rfl, svr_A (.d _ _ (.fn _))⟩
  · simp only [Option.some.injEq] at h; subst h
    cases hx with | r _ _ hx => cases hx with | c _ _ hx => cases hx with | a _ _ hx =>
    cases hx with | fnc f ca Vs h => exact ⟨rfl, svr_A (.fnc _ _ _ h)⟩
  · cases h

theorem run_max {x y z : AV} {A B : Value} (h : max2V x y = some z) (hx : AVR g x A) (hy : AVR g y B) : ∃ V, (Builtin.max2 A B).run P w = .ok V w ∧ AVR g z V := by
  unfold max2V at h
  split at h
  · simp only [Option.some.injEq] at h; subst h
    cases hx with | d _ _ hx => cases hy with | d _ _ hy =>
    cases hx; cases hy
    rename_i k a j b
    refine ⟨.int k (if b > a then b else a), rfl, ?_⟩
    have : (bif decide (a < b) then b else a) = if b > a then b else a := by
      by_cases h : a < b <;> simp [h]
    rw [this]; exact .d _ _ (.int _ _)
  · cases h
theorem run_min {x y z : AV} {A B : Value} (h : min2V x y = some z) (hx : AVR g x A) (hy : AVR g y B) : ∃ V, (Builtin.min2 A B).run P w = .ok V w ∧ AVR g z V := by
  unfold min2V at h
  split at h
  · simp only [Option.some.injEq] at h; subst h
    cases hx with | d _ _ hx => cases hy with | d _ _ hy =>
    cases hx; cases hy
    rename_i k a j b
    refine ⟨.int k (if b < a then b else a), rfl, ?_⟩
    have : (bif decide (b < a) then b else a) = if b < a then b else a := by
      by_cases h : b < a <;> simp [h]
    rw [this]; exact .d _ _ (.int _ _)
  · cases h
theorem run_fold {f : AV → AV → Option AV} {F : Value → Value → Sem Value} (hF : ∀ x y z A B, f x y = some z → AVR g x A → AVR g y B → ∃ V, (F A B).run P w = .ok V w ∧ AVR g z V) :
    ∀ (l : List AV) (L : List Value) (x z : AV) (A : Value), foldV f x l = some z → AVR g x A → AVRs g l L → ∃ V, (L.foldlM F A).run P w = .ok V w ∧ AVR g z V := by
  intro l
  induction l with
  | nil =>
    intro L x z A h hx hl
    cases hl
    simp only [foldV, Option.some.injEq] at h; subst h
    exact ⟨A, rfl, hx⟩
  | cons y l ih =>
    intro L x z A h hx hl
    cases hl with | cons _ _ V Vs hy hl =>
    simp only [foldV, Option.bind_eq_some_iff] at h
    obtain ⟨u, hu, h⟩ := h
    obtain ⟨U, hU, hr⟩ := hF _ _ _ _ _ hu hx hy
    obtain ⟨Z, hZ, hz⟩ := ih _ _ _ _ h hr hl
    exact ⟨Z, by simp only [List.foldlM_cons, Sem.run_bind, hU, Result.andThen, hZ], hz⟩
end Go.Abs
namespace Go.Abs
variable {P : Program} {g : Gh} {w : World} {p : Place} {pi : Nat → Place} {beta : Nat → Nat} {d s s' : Nat} {tmps tmps' : Array Value}

theorem ofV1Avr {v : Value} {x : AV} (h : ofV1 v = some x) : AVR g x v ∧ scalA x = true := by
  unfold ofV1 at h
  split at h <;> simp only [Option.some.injEq, reduceCtorEq] at h <;> subst h <;> refine ⟨?_, rfl⟩
  · exact .d _ _ (.bool _)
  · exact .d _ _ (.int _ _)
  · exact .d _ _ (.str _)
  · exact .d _ _ .nilp
  · exact .d _ _ (.nsl _)
  · exact .d _ _ .nilf
  · exact .d _ _ .nili
  · exact .d _ _ (.ifc _ _ _ (.int _ _))
  · exact .d _ _ (.fn _)
theorem ofVs_avrs {vs : List Value} {xs : List AV} (h : ofVs vs = some xs) : AVRs g xs vs ∧ xs.all scalA = true := by
  induction vs generalizing xs with
  | nil => simp [ofVs] at h; subst h; exact ⟨.nil, rfl⟩
  | cons v vs ih =>
    simp only [ofVs, Option.bind_eq_some_iff, Option.some.injEq] at h
    obtain ⟨x, hx, ys, hy, rfl⟩ := h
    have h1 := ofV1Avr (g := g) hx
    have h2 := ih hy
    exact ⟨.cons _ _ _ _ h1.1 h2.1, by simp [h1.2, h2.2]⟩
theorem ofV_avr {v : Value} {x : AV} (h : ofV v = some x) : AVR g x v := by
  unfold ofV at h
  split at h
  · simp only [Option.bind_eq_some_iff, Option.some.injEq] at h
    obtain ⟨xs, hx, rfl⟩ := h
    exact AVR.mkAgg (ofVs_avrs hx).1
  · exact (ofV1Avr h).1

theorem zeroT_some {t : TypeId} {xs : List AV} (h : zeroT P t = some xs) : ∃ i z, P.info? t = some i ∧ i.zero = some z ∧ AVRs g xs z.cells.toList ∧ xs.length = i.size ∧ xs.all scalA = true := by
  simp only [zeroT, Option.bind_eq_some_iff] at h
  obtain ⟨i, hi, z, hz, ys, hy, h⟩ := h
  obtain ⟨h1, h2⟩ := cond_none h
  simp only [Option.some.injEq] at h2; subst h2
  have := ofVs_avrs (g := g) hy
  exact ⟨i, z, hi, hz, this.1, nbeq_eq h1, this.2⟩

/-! Cells put into cells. -/
theorem foldl_put (cs : Array Value) (off : Nat) (v : Array Value) (h : off + v.size ≤ cs.size) :
    (v.zipIdx.foldl (fun cs (c, j) => cs.setIfInBounds (off + j) c) cs).toList = put cs.toList off v.toList := by
  have g := Great.foldl_set off v.toList 0 cs
  have e : v.zipIdx.foldl (fun cs (c, j) => cs.setIfInBounds (off + j) c) cs = (v.toList.zipIdx 0).foldl (fun cs (x : Value × Nat) => cs.setIfInBounds (off + x.2) x.1) cs := by
    rw [← Array.foldl_toList, Array.toList_zipIdx]
  rw [e]
  apply List.ext_getElem?
  intro k
  rw [Array.getElem?_toList, g.2 k]
  simp only [put, Nat.add_zero, Array.length_toList]
  rw [List.getElem?_append, List.getElem?_append]
  simp only [List.length_append, List.length_take, Array.length_toList]
  by_cases h1 : k < off
  · rw [if_neg (by omega), if_pos (by omega), if_pos (by omega), List.getElem?_take, if_pos h1, Array.getElem?_toList]
  · by_cases h2 : k < off + v.size
    · rw [if_pos (by omega), if_pos (by omega), if_neg (by omega), Nat.min_eq_left (by omega)]
    · rw [if_neg (by omega), if_neg (by omega), Nat.min_eq_left (by omega), List.getElem?_drop, Array.getElem?_toList]
      congr 1; omega
theorem AVRs.put {cs xs : List AV} {Cs Xs : List Value} (h : AVRs g cs Cs) (k : AVRs g xs Xs) (off : Nat) : AVRs g (put cs off xs) (put Cs off Xs) := by
  unfold Abs.put
  rw [k.length]
  exact ((h.take off).append k).append (h.drop _)

inductive PartsR (g : Gh) : List (Nat × AV) → List (Nat × Value) → Prop
  | nil : PartsR g [] []
  | cons (i x X r R) (h : AVR g x X) (hr : PartsR g r R) : PartsR g ((i, x) :: r) ((i, X) :: R)

theorem fillA_run {place : Nat → Option (Nat × Nat)} {parts : List (Nat × AV)} {Parts : List (Nat × Value)} (hp : PartsR g parts Parts) :
    ∀ {cells cells' : List AV} {C : Array Value}, AVRs g cells C.toList → fillA place cells parts = some cells' → ∃ C' : Array Value, Instr.fill place C Parts = some C' ∧ AVRs g cells' C'.toList := by
  induction hp with
  | nil => intro cells cells' C h hf; simp only [fillA, Option.some.injEq] at hf; subst hf; exact ⟨C, rfl, h⟩
  | cons i x X r R hx hr ih =>
    intro cells cells' C h hf
    simp only [fillA, Option.bind_eq_some_iff] at hf
    obtain ⟨q, hq, hf⟩ := hf
    obtain ⟨h1, h2⟩ := cond_none hf
    simp only [Bool.and_eq_true] at h1
    have e1 := nbeq_eq h1.1
    have e2 := Nat.le_of_ble_eq_true h1.2
    have hc := hx.cells
    have l1 : X.cells.size = q.2 := by rw [← e1, hc.length]; simp
    have l2 : cells.length = C.size := by rw [h.length]; simp
    obtain ⟨C', hC', hr'⟩ := ih (C := X.cells.zipIdx.foldl (fun cs (c, j) => cs.setIfInBounds (q.1 + j) c) C)
      (by rw [foldl_put C q.1 X.cells (by omega)]; exact h.put hc q.1) h2
    refine ⟨C', ?_, hr'⟩
    unfold Instr.fill
    simp only [hq]
    rw [if_neg (by simp [l1]; omega)]
    exact hC'

theorem placesF_mapM {fs : List Field} {ps : List (Nat × Nat)} (h : placesF P fs = some ps) : fs.mapM (fun f => (P.info? f.type).map fun i => (f.offset, i.size)) = some ps := by
  induction fs generalizing ps with
  | nil => simp [placesF] at h; subst h; rfl
  | cons f fs ih =>
    simp only [placesF, Option.bind_eq_some_iff, Option.some.injEq] at h
    obtain ⟨i, hi, qs, hq, rfl⟩ := h
    simp [List.mapM_cons, hi, ih hq]

theorem run_buildV {t : TypeId} {parts : List (Nat × AV)} {Parts : Array (Nat × Value)} {v : RV} (h : buildV P t parts = some v) (hp : PartsR g parts Parts.toList) :
    ∃ V, (Instr.build t Parts).run P w = .ok V w ∧ RVR g p pi v V := by
  simp only [buildV, Option.bind_eq_some_iff] at h
  obtain ⟨z, hz, h⟩ := h
  obtain ⟨i, Z, hi, hiz, hzr, hl, _⟩ := zeroT_some (g := g) hz
  split at h
  · rename_i fs hu
    simp only [Option.bind_eq_some_iff, Option.some.injEq] at h
    obtain ⟨ps, hps, cs, hf, rfl⟩ := h
    obtain ⟨C', hC', hr⟩ := fillA_run hp hzr hf
    refine ⟨.agg C', run_build w t Parts C' ?_, rvr_A (AVR.mkAgg hr)⟩
    simp only [Program.built, hi, hu, hiz, placesF_mapM hps]
    rw [← hC']
    congr 1
    funext i
    simp
  · rename_i n e hu
    simp only [Option.bind_eq_some_iff, Option.some.injEq] at h
    obtain ⟨ie, hie, cs, hf, rfl⟩ := h
    obtain ⟨C', hC', hr⟩ := fillA_run hp hzr hf
    refine ⟨.agg C', run_build w t Parts C' ?_, rvr_A (AVR.mkAgg hr)⟩
    simp only [Program.built, hi, hu, hiz, hie]
    exact hC'
  · cases h

/-! A new block. -/
def ownNew (own : OwnF) (B : Nat) (n : Nat) (lab : Nat → Own) : OwnF := fun b o => if b = B ∧ o < n then lab o else own b o

theorem ownNew_old {own : OwnF} {B n : Nat} {lab : Nat → Own} {b o : Nat} (h : b ≠ B) : ownNew own B n lab b o = own b o := by simp [ownNew, h]
theorem ownNew_new {own : OwnF} {B n : Nat} {lab : Nat → Own} {o : Nat} (h : o < n) : ownNew own B n lab B o = lab o := by simp [ownNew, h]

theorem alloc_heap (w : World) (o : Obj) (k : Nat) : (w.alloc o).heap[k]? = if k = w.heap.size then some o else w.heap[k]? := by
  show (w.heap.push o)[k]? = _
  rw [Array.getElem?_push]
theorem alloc_size (w : World) (o : Obj) : (w.alloc o).heap.size = w.heap.size + 1 := by
  show (w.heap.push o).size = _
  simp
theorem alloc_cell_new (w : World) (C : Array Value) (t : TypeId) (o : Nat) : (w.alloc (.cells C t)).cell? ⟨w.heap.size, o, none⟩ = C[o]? := by
  unfold World.cell?
  rw [alloc_heap, if_pos rfl]
  rfl
theorem alloc_frozen_new (w : World) (C : Array Value) (t : TypeId) (o : Nat) : (w.alloc (.cells C t)).frozen? ⟨w.heap.size, o, none⟩ = false := by
  unfold World.frozen?
  rw [alloc_heap, if_pos rfl]
  simp
theorem alloc_cell_old (w : World) (x : Obj) {b o : Nat} (h : b < w.heap.size) : (w.alloc x).cell? ⟨b, o, none⟩ = w.cell? ⟨b, o, none⟩ := World.cell?_alloc_lt _ _ _ h
theorem alloc_frozen_old (w : World) (x : Obj) {b o : Nat} (h : b ≠ w.heap.size) : (w.alloc x).frozen? ⟨b, o, none⟩ = w.frozen? ⟨b, o, none⟩ := World.frozen?_alloc_old _ _ _ h

theorem WInv.lt {own : OwnF} (h : WInv own w) {b o : Nat} (hn : own b o ≠ .ext) : b < w.heap.size := by
  rcases Nat.lt_or_ge b w.heap.size with hl | hl
  · exact hl
  · exact absurd (h.fresh hl) hn

theorem step_new {S : Place → Prop} {own : OwnF} (hw : WInv own w) (C : Array Value) (t : TypeId) (lab : Nat → Own) (hlab : ∀ o v, o < C.size → lab o = .fz v → C[o]? = some v) :
    Step S own w (ownNew own w.heap.size C.size lab) (w.alloc (.cells C t)) := by
  have old : ∀ {b o}, own b o ≠ .ext → ownNew own w.heap.size C.size lab b o = own b o ∧ (w.alloc (.cells C t)).cell? ⟨b, o, none⟩ = w.cell? ⟨b, o, none⟩ ∧ (w.alloc (.cells C t)).frozen? ⟨b, o, none⟩ = w.frozen? ⟨b, o, none⟩ := by
    intro b o hn
    have hl := hw.lt hn
    exact ⟨ownNew_old (by omega), alloc_cell_old w _ hl, alloc_frozen_old w _ (by omega)⟩
  refine ⟨rfl, rfl, rfl, by rw [alloc_size]; omega, fun b hb => ?_, ?_, ?_, ?_, ?_, ?_, ?_⟩
  · rw [alloc_heap, if_neg (by omega)]; exact .refl _
  · intro b o v h; rw [(old (by rw [h]; simp)).1]; exact h
  · intro b o d k h; have := old (b := b) (o := o) (by rw [h]; simp); exact ⟨by rw [this.1]; exact h, this.2.1⟩
  · intro b o e i h; have := old (b := b) (o := o) (by rw [h]; simp); exact ⟨by rw [this.1]; exact h, this.2.1⟩
  · intro b o q h _; have := old (b := b) (o := o) (by rw [h]; simp); exact ⟨by rw [this.1]; exact h, this.2.1⟩
  · intro b o hb h; exact ⟨by rw [ownNew_old (by omega)]; exact h, alloc_cell_old w _ hb⟩
  · have new : ∀ {b o}, ownNew own w.heap.size C.size lab b o = own b o ∨ (b = w.heap.size ∧ o < C.size ∧ ownNew own w.heap.size C.size lab b o = lab o) := by
      intro b o
      by_cases h : b = w.heap.size ∧ o < C.size
      · obtain ⟨rfl, h2⟩ := h; exact .inr ⟨rfl, h2, ownNew_new h2⟩
      · left; simp only [ownNew]; rw [if_neg h]
    constructor
    · intro b o v h
      rcases new (b := b) (o := o) with e | ⟨rfl, ho, e⟩
      · rw [e] at h
        rw [(old (b := b) (o := o) (by rw [h]; simp)).2.1]; exact hw.fz h
      · rw [e] at h; rw [alloc_cell_new]; exact hlab o v ho h
    · intro b o d k h
      rcases new (b := b) (o := o) with e | ⟨rfl, ho, e⟩
      · rw [e] at h
        have := old (b := b) (o := o) (by rw [h]; simp)
        rw [this.2.1, this.2.2]; exact hw.wbx h
      · rw [alloc_cell_new, alloc_frozen_new]; exact ⟨⟨C[o], by simp [ho]⟩, rfl⟩
    · intro b o d k h
      rcases new (b := b) (o := o) with e | ⟨rfl, ho, e⟩
      · rw [e] at h
        have := old (b := b) (o := o) (by rw [h]; simp)
        rw [this.2.1, this.2.2]; exact hw.whp h
      · rw [alloc_cell_new, alloc_frozen_new]; exact ⟨⟨C[o], by simp [ho]⟩, rfl⟩
    · intro b o q h
      rcases new (b := b) (o := o) with e | ⟨rfl, ho, e⟩
      · rw [e] at h
        have := old (b := b) (o := o) (by rw [h]; simp)
        rw [this.2.1, this.2.2]; exact hw.wtl h
      · rw [alloc_cell_new, alloc_frozen_new]; exact ⟨⟨C[o], by simp [ho]⟩, rfl⟩
    · intro b o hb
      rw [alloc_size] at hb
      rw [ownNew_old (by omega)]; exact hw.fresh (by omega)

theorem step_drew {S : Place → Prop} {own : OwnF} (hw : WInv own w) : Step S own w own w.drew :=
  ⟨rfl, rfl, rfl, Nat.le_refl _, fun _ _ => .refl _, id, fun h => ⟨h, rfl⟩, fun h => ⟨h, rfl⟩, fun h _ => ⟨h, rfl⟩, fun _ h => ⟨h, rfl⟩,
    ⟨fun h => hw.fz h, fun h => hw.wbx h, fun h => hw.whp h, fun h => hw.wtl h, fun h => hw.fresh h⟩⟩
theorem Step.gle {S : Place → Prop} {own' : OwnF} {w' : World} (h : Step S g.own w own' w') : GLe g ⟨own', g.rho, g.ok⟩ := ⟨fun _ _ _ x => h.fz x, fun _ => id, fun _ _ => rfl⟩

/-- The cells of what is frozen. -/
def labFz (C : List Value) (q : Place) : Nat → Own := fun o => match C[o]? with | some v => .fz v | none => .tl q

/-- A new block whose first cells are a slice's for good, the others its room. -/
theorem new_slice {S : Place → Prop} (hw : WInv g.own w) {sz : Nat} {l : List PV} {Vs : List Value} (hz : sz ≠ 0) (hl : ∀ x ∈ l, okE sz x) (hc : PRs g.own (l.flatMap PV.cells) Vs) (q : Place) (C : Array Value) (t : TypeId) (cap : Nat)
    (hC : C.toList.take Vs.length = Vs) (hcap : C.size = cap * sz) (hlc : l.length ≤ cap) (h0 : l = [] → cap = 0) :
    Step S g.own w (ownNew g.own w.heap.size C.size (labFz Vs q)) (w.alloc (.cells C t)) ∧
    CVR ⟨ownNew g.own w.heap.size C.size (labFz Vs q), g.rho, g.ok⟩ q (.ow sz false l) (.slice (some ⟨w.heap.size, 0, none⟩) l.length cap) := by
  have hVl : Vs.length = l.length * sz := by rw [← hc.length, flat_length hl]
  have hVC : Vs.length ≤ C.size := by rw [hVl, hcap]; exact Nat.mul_le_mul_right _ hlc
  have hst : Step S g.own w (ownNew g.own w.heap.size C.size (labFz Vs q)) (w.alloc (.cells C t)) := by
    refine step_new hw C t _ (fun o v ho h => ?_)
    unfold labFz at h
    split at h
    · rename_i u hu
      simp only [Own.fz.injEq] at h; subst h
      rw [← hC, List.getElem?_take] at hu
      split at hu
      · simpa using hu
      · cases hu
    · cases h
  refine ⟨hst, ?_⟩
  refine .ow sz l _ 0 cap Vs hlc hz hl (hc.mono fun _ _ _ h => hst.fz h) (fun j V hj => ?_) (fun j h1 h2 => ?_) h0
  · have hjl : j < Vs.length := (List.getElem?_eq_some_iff.1 hj).1
    simp only [Nat.zero_add]
    rw [ownNew_new (by omega)]
    simp [labFz, hj]
  · simp only [Nat.zero_add]
    rw [ownNew_new (by omega)]
    have : Vs[j]? = none := by simp; omega
    simp [labFz, this]
end Go.Abs
namespace Go.Abs
variable {P : Program} {g : Gh} {w : World} {p : Place} {pi : Nat → Place} {beta : Nat → Nat} {d s s' : Nat} {tmps tmps' : Array Value}

theorem litV_some {n : Nat} : ∀ {j : Nat} {parts : List (Nat × AV)} {Parts : List (Nat × Value)} {ps : List PV}, litV n j parts = some ps → PartsR g parts Parts →
    ∃ Xs : List Value, Parts = (Xs.zipIdx j).map (fun x => (x.2, x.1)) ∧ Xs.length = ps.length ∧ (∀ x ∈ ps, okE n x) ∧ (∀ X ∈ Xs, X.cells.size = n) ∧ PRs g.own (ps.flatMap PV.cells) (Xs.flatMap fun X => X.cells.toList) := by
  intro j parts Parts ps h hp
  induction hp generalizing j ps with
  | nil => simp only [litV, Option.some.injEq] at h; subst h; exact ⟨[], rfl, rfl, by simp, by simp, .nil⟩
  | cons i x X r R hx hr ih =>
    cases x <;> simp only [litV, reduceCtorEq] at h
    rename_i q
    obtain ⟨h1, h2⟩ := cond_none h
    simp only [Bool.and_eq_true] at h1
    obtain ⟨h3, h4, h5⟩ := h1
    obtain rfl := nbeq_eq h3
    have e4 := nbeq_eq h4
    simp only [Option.bind_eq_some_iff, Option.some.injEq] at h2
    obtain ⟨qs, hq, rfl⟩ := h2
    obtain ⟨Xs, rfl, hl, hok, hsz, hprs⟩ := ih hq
    have hc := hx.cells
    have hcq : PRs g.own q.cells X.cells.toList := by
      cases hx with | d _ _ hx =>
      cases hx with
      | agg cs Vs hc2 => exact hc2
      | _ => exact .cons _ _ _ _ (by constructor <;> assumption) .nil
    refine ⟨X :: Xs, by simp [List.zipIdx_cons], by simp [hl], ?_, ?_, ?_⟩
    · intro y hy
      rcases List.mem_cons.1 hy with rfl | hy
      · exact ⟨e4, by simpa using h5⟩
      · exact hok _ hy
    · intro Y hY
      rcases List.mem_cons.1 hY with rfl | hY
      · have := hcq.length; simp at this; omega
      · exact hsz _ hY
    · simpa using hcq.append hprs

theorem PartsR.length {a : List (Nat × AV)} {b : List (Nat × Value)} (h : PartsR g a b) : a.length = b.length := by
  induction h with
  | nil => rfl
  | cons i x X r R hx hr ih => simp [ih]
theorem run_buildSliceV {S : Place → Prop} (hw : WInv g.own w) {t : TypeId} {len : Nat} {parts : List (Nat × AV)} {Parts : Array (Nat × Value)} {v : RV} (h : buildSliceV P t len parts = some v) (hp : PartsR g parts Parts.toList) :
    ∃ own' V w', (Instr.buildSlice t len Parts).run P w = .ok V w' ∧ Step S g.own w own' w' ∧ RVR ⟨own', g.rho, g.ok⟩ p pi v V := by
  simp only [buildSliceV, Option.bind_eq_some_iff] at h
  obtain ⟨e, he, z, hz, n, hn, h⟩ := h
  obtain ⟨h1, h2⟩ := cond_none' h
  obtain ⟨h3, h4⟩ := cond_none h2
  simp only [Option.bind_eq_some_iff, Option.some.injEq] at h4
  obtain ⟨ps, hps, rfl⟩ := h4
  simp only [Bool.and_eq_true] at h3
  have hlen := nbeq_eq h3.1
  have hn0 : n ≠ 0 := by intro e; rw [e, nbeq_self] at h1; cases h1
  have hsm : len * n + 1 ≤ 16777217 := Nat.le_of_ble_eq_true h3.2
  obtain ⟨Xs, hP, hl, hok, hsz, hprs⟩ := litV_some hps hp
  have hu := elemT_some he
  obtain ⟨ie, d, hie, hd, rfl⟩ := szOf_some hn
  obtain ⟨i2, Z, hi2, hiz, _, _, _⟩ := zeroT_some (g := g) hz
  rw [hie] at hi2; cases hi2
  have hplen : Xs.length = len := by
    have : Parts.toList.length = Xs.length := by rw [hP]; simp
    have h5 := hp.length
    omega
  have hpl : ps.length = len := by omega
  by_cases h0 : len = 0
  · subst h0
    have hX : Xs = [] := List.length_eq_zero_iff.1 hplen
    have hps0 : ps = [] := List.length_eq_zero_iff.1 hpl
    subst hX; subst hps0
    have hP0 : Parts = #[] := by apply Array.ext'; simpa using hP
    subst hP0
    obtain ⟨hs, hr⟩ := new_slice (S := S) hw (sz := ie.size) (l := []) (Vs := []) hn0 (by simp) .nil p #[] e 0 rfl (by simp) (by simp) (fun _ => rfl)
    refine ⟨_, _, _, ?_, hs, .c _ _ hr⟩
    simp [Instr.buildSlice, run_underlying' hu, sizeOf, typeInfo, zeroValue, hie, hiz, newRow, Instr.fill, Array.range_zero']
  · have hfill := Great.fill_whole (s := ie.size) (by omega) Xs ((Array.range (len * ie.size)).map (Z.cells[· % Z.cells.size]!)) hsz (by simp [hplen])
    rw [← hP] at hfill
    have hVl := hprs.length
    have hfl := flat_length hok
    obtain ⟨hs, hr⟩ := new_slice (S := S) hw (sz := ie.size) (l := ps) (Vs := Xs.flatMap fun X => X.cells.toList) hn0 hok hprs p (Xs.flatMap fun X => X.cells.toList).toArray e len (by simp only [List.toList_toArray]; exact List.take_length) (by
      show ((Xs.flatMap fun X => X.cells.toList).toArray).size = _
      rw [List.size_toArray, ← hVl, hfl, hpl]) (by omega) (fun hE => by rw [hE] at hpl; exact absurd hpl.symm h0)
    rw [hpl] at hr
    exact ⟨_, _, _, run_buildSlice w t e len Parts _ ie Z hu hie hiz (by omega) (Nat.mul_ne_zero h0 hn0) hfill, hs, .c _ _ hr⟩

/-! append -/
/-- What is appended: its elements, and that they can be read while what is frozen stays. -/
structure Src (P : Program) (own : OwnF) (m : Nat) (Y : Value) (ys : List PV) (Ws : List Value) : Prop where
  len : ∀ w : World, (Builtin.lenOf Y).run P w = .ok ys.length w
  ok : ∀ x ∈ ys, okE m x
  prs : PRs own (ys.flatMap PV.cells) Ws
  read : ∀ w : World, (∀ {b o v}, own b o = .fz v → w.cell? ⟨b, o, none⟩ = some v) → (Builtin.firstCells m ys.length Y).run P w = .ok Ws.toArray w

theorem src_sl {own : OwnF} {m sz : Nat} {n : Bool} {l : List PV} {Y : Value} (h : PR own (.sl sz n l) Y) (hm : (Nat.beq sz m || n) = true) : ∃ Ws, Src P own m Y l Ws := by
  cases h with
  | nsl sz => exact ⟨[], fun w => by simp [Builtin.lenOf], by simp, .nil, fun w _ => by simp [Builtin.firstCells]⟩
  | sl sz l b off cap Vs h hl hc hf =>
    have : sz = m := by simpa using hm
    subst this
    refine ⟨Vs, fun w => by simp [Builtin.lenOf], hl, hc, fun w hz => ?_⟩
    have e : Vs.length = l.length * sz := by rw [← hc.length, flat_length hl]
    exact run_firstCells_some (P := P) w sz l.length ⟨b, off, none⟩ l.length cap Vs e (fun j v hj => by rw [Addr.add_plain]; exact hz (hf j v hj))
theorem bytes_flat (s : List UInt8) : (s.map byteP).flatMap PV.cells = s.map byteP := by
  induction s with
  | nil => rfl
  | cons c s ih => simp only [List.map_cons, List.flatMap_cons, ih]; rfl
theorem src_str {own : OwnF} (S : ByteArray) : Src P own 1 (.string S) (S.data.toList.map byteP) (S.data.toList.map fun b => .int .u8 b.toNat) := by
  refine ⟨fun w => ?_, ?_, ?_, fun w _ => ?_⟩
  · simp [Builtin.lenOf]
  · intro x hx
    obtain ⟨c, _, rfl⟩ := List.mem_map.1 hx
    exact ⟨rfl, by simp [byteP, PV.cells, scalP]⟩
  · rw [bytes_flat]
    generalize S.data.toList = l
    induction l with
    | nil => exact .nil
    | cons c l ih => exact .cons _ _ _ _ (.int _ _) ih
  · have e1 : S.extract 0 S.size = S := by
      apply ByteArray.ext
      simp
    simp only [List.length_map, Array.length_toList, Builtin.firstCells]
    have : S.data.size = S.size := rfl
    rw [this, e1]
    simp
    apply Array.ext'
    simp
theorem src_of {y : RV} {Y : Value} {q : Place} {qi : Nat → Place} {m : Nat} {ys : List PV} (h : RVR g q qi y Y) (hf : szFits y m = true) (he : elemsV y = some ys) : ∃ Ws, Src P g.own m Y ys Ws := by
  unfold elemsV at he
  split at he
  · simp only [Option.some.injEq] at he; subst he
    cases h with | c _ _ h => cases h with | a _ _ h => cases h with | d _ _ h => exact src_sl h hf
  · simp only [Option.some.injEq] at he; subst he
    cases h with | c _ _ h =>
    have := h.av
    cases this with | d _ _ h => exact src_sl h hf
  · simp only [Option.some.injEq] at he; subst he
    cases h with | c _ _ h => cases h with | a _ _ h => cases h with | d _ _ h =>
    cases h with | str S =>
    have : m = 1 := nbeq_eq hf
    subst this
    exact ⟨_, src_str S⟩
  · cases he

theorem run_append_fits {ts : Array TypeId} {t u e ty : TypeId} {i : TypeInfo} (h0 : ts[0]? = some t) (h1 : ts[1]? = some u) (ht : P.underlying t = some (.slice e)) (hu : srcT P u = true) (hi : P.info? e = some i)
    {b off sLen sCap : Nat} {Y : Value} {ys : List PV} {own : OwnF} {Ws : List Value} (hs : Src P own i.size Y ys Ws) (hz : ∀ {b o v}, own b o = .fz v → w.cell? ⟨b, o, none⟩ = some v) (hr : sLen + ys.length ≤ sCap)
    (hc : ∀ j, j < Ws.length → (w.cell? ⟨b, off + sLen * i.size + j, none⟩).isSome = true) (hf : ∀ j, j < Ws.length → w.frozen? ⟨b, off + sLen * i.size + j, none⟩ = false) (h2 : ∀ v ∈ Ws, v.oneCell' = true) :
    (Builtin.append_ ts ty #[.slice (some ⟨b, off, none⟩) sLen sCap, Y]).run P w = .ok (.slice (some ⟨b, off, none⟩) (sLen + ys.length) sCap) (w.setCells b (off + sLen * i.size) Ws) := by
  have hst := run_storeCells_cells (P := P) b (off + sLen * i.size) Ws 0 w (by simpa using hc) (by simpa using hf) h2
  unfold srcT at hu
  split at hu
  · rename_i e' hu'
    simp [Builtin.append_, h0, h1, run_underlying' ht, run_underlying' hu', sizeOf, typeInfo, hi, hs.len, hr, hs.read w hz, Addr.add_plain, hst]
  · rename_i hu'
    simp [Builtin.append_, h0, h1, run_underlying' ht, run_underlying' hu', sizeOf, typeInfo, hi, hs.len, hr, hs.read w hz, Addr.add_plain, hst]
  · cases hu
theorem run_append_empty {ts : Array TypeId} {t u e ty : TypeId} {i : TypeInfo} (h0 : ts[0]? = some t) (h1 : ts[1]? = some u) (ht : P.underlying t = some (.slice e)) (hu : srcT P u = true) (hi : P.info? e = some i)
    {sLen sCap : Nat} {Y : Value} {own : OwnF} {Ws : List Value} (hs : Src P own i.size Y [] Ws) (hz : ∀ {b o v}, own b o = .fz v → w.cell? ⟨b, o, none⟩ = some v) (hr : sLen ≤ sCap) :
    (Builtin.append_ ts ty #[.slice none sLen sCap, Y]).run P w = .ok (.slice none sLen sCap) w := by
  have hl := hs.len
  have hrd := hs.read w hz
  simp only [List.length_nil] at hl hrd
  unfold srcT at hu
  split at hu
  · rename_i e' hu'
    simp [Builtin.append_, h0, h1, run_underlying' ht, run_underlying' hu', sizeOf, typeInfo, hi, hl, hr, hrd]
  · rename_i hu'
    simp [Builtin.append_, h0, h1, run_underlying' ht, run_underlying' hu', sizeOf, typeInfo, hi, hl, hr, hrd]
  · cases hu
/-- It grows: 'olds': what the old cells are. -/
theorem run_append_new {ts : Array TypeId} {t u e ty : TypeId} {i : TypeInfo} {z : Value} (h0 : ts[0]? = some t) (h1 : ts[1]? = some u) (ht : P.underlying t = some (.slice e)) (hu : srcT P u = true) (hi : P.info? e = some i) (hz0 : i.zero = some z)
    {base : Option Addr} {sLen sCap : Nat} {Y : Value} {ys : List PV} {own : OwnF} {Ws olds : List Value} (hs : Src P own i.size Y ys Ws) (hz : ∀ {b o v}, own b o = .fz v → w.cell? ⟨b, o, none⟩ = some v) (hr : sCap < sLen + ys.length)
    (hold : (Builtin.firstCells i.size sLen (.slice base sLen sCap)).run P w.drew = .ok olds.toArray w.drew) (hb : i.bytes ≠ 0) (hroom : (sLen + ys.length) * i.bytes ≤ 70368744177664) :
    (Builtin.append_ ts ty #[.slice base sLen sCap, Y]).run P w = .ok (.slice (some ⟨w.heap.size, 0, none⟩) (sLen + ys.length) (grownCap w (sLen + ys.length) sCap e))
      (w.drew.alloc (.cells (olds.toArray ++ Ws.toArray ++ Builtin.zeroCells z.cells (grownCap w (sLen + ys.length) sCap e - (sLen + ys.length))) e)) := by
  have hn : ¬ (sLen + ys.length ≤ sCap) := by omega
  have h48 : ¬ (281474976710656 < Builtin.nextslicecap (sLen + ys.length) sCap * i.bytes) := by
    have := growslice_fits (bytes := i.bytes) hr (by omega)
    omega
  have hrd := hs.read w.drew hz
  unfold srcT at hu
  split at hu
  · rename_i e' hu'
    simp [Builtin.append_, h0, h1, run_underlying' ht, run_underlying' hu', sizeOf, typeInfo, zeroValue, hi, hz0, hs.len, hn, hb, h48, Question.forced, hold, hrd, newRow, grownCap]
    congr 2
    apply Array.ext'
    simp [List.append_assoc]
  · rename_i hu'
    simp [Builtin.append_, h0, h1, run_underlying' ht, run_underlying' hu', sizeOf, typeInfo, zeroValue, hi, hz0, hs.len, hn, hb, h48, Question.forced, hold, hrd, newRow, grownCap]
    congr 2
    apply Array.ext'
    simp [List.append_assoc]
  · cases hu
end Go.Abs
