/- Operations that touch memory, one by one. Loads from the heap, boxes of the frame. New objects of the heap; stores into it. Stores into the heap, loads that take over. Calls. Calls: arguments, function values, methods. Calls, each kind. -/
import Derived.Test.YtmbgdghihghnjaaAbsC
import Derived.Laws.MakeOwn
set_option linter.unusedVariables false
set_option linter.unusedSimpArgs false
namespace Go.Abs
variable {g g' : Gh} {w w' : World} {p : Place} {pi : Nat → Place} {beta beta' : Nat → Nat} {d e s' : Nat} {tmps tmps' : Array Value} {T : List Nat}
variable {I : In} {call : CallF} {a : Act} {o : Oper} {vs : List SV} {s : St}

/-- What is known behind an operation, ahead of the setting of its slot. -/
def Res (I : In) (d e : Nat) (g : Gh) (beta : Nat → Nat) (a : Act) (w : World) (o : Oper) (v : SV) (b' : Bx) (h' : Hp) : Prop :=
  ∀ (K : Act → World → Prop) (Q : Exit → Act → World → Prop), (∀ g' beta' V w', Keep d (stealsO I o) g g' → WInv g'.own w' → BxR g' beta' d b' w' → HpR g' e h' w' → Acc d e g w g' w' → (∀ k, boxesO I o ≠ some k → beta' k = beta k) →
    (∀ dd, o.dst = some dd → SVR g' beta' d dd a.tmps (finO I o v) V) → K (a.put o.dst V) w') → o.wp I.P a w K Q

theorem moveSm_p (o : Oper) (x : Operand) : ∃ f, moveSm I o x = .p f := by
  unfold moveSm
  cases isNilSl x && I.owns o
  · exact ⟨_, rfl⟩
  · exact ⟨_, rfl⟩
theorem slotsP_tmp {d s : Nat} {T : List Nat} (h : s ∈ T) {q : Place} (hq : q = .tmp d s) : slotsP d T q := ⟨s, h, .inl hq⟩

theorem BxR.mset {b : Bx} {k : Nat} {cs : List CV} (h1 : ∀ k' cs', k' ≠ k → mget b k' = some cs' → CellsR g w (beta k') (.bx d k') (.bx d k') cs') (h2 : CellsR g w (beta k) (.bx d k) (.bx d k) cs) : BxR g beta d (mset b k cs) w := by
  intro k' cs' h
  by_cases hk : k = k'
  · subst hk; rw [mget_mset_same] at h; cases h; exact h2
  · rw [mget_mset_ne _ _ hk] at h; exact h1 k' cs' (Ne.symm hk) h

/-- From a step with slots alone. -/
theorem res_step {v : SV} (hs : Sim I d e g beta s a w) {own' : OwnF} {V : Value} {w' : World} (hx : (execOp a.eval o).run I.P w = .ok (.value V) w') (hst : Step (slotsP d (stealsO I o)) g.own w own' w')
    (hv : ∀ dd, o.dst = some dd → SVR ⟨own', g.rho, g.ok⟩ beta d dd a.tmps (finO I o v) V) : Res I d e g beta a w o v s.b s.h := by
  intro K Q hK
  exact wp_val hx (hK ⟨own', g.rho, g.ok⟩ beta V w' (hst.keep fun _ h => h) hst.inv (hs.bx.keep (hst.keepB fun _ h => h)) (hs.hp.keep (hst.keepH fun _ h => h) fun _ h => h) (hst.acc hs.inv) (fun _ _ => rfl) hv)

theorem res_p {v : SV} (hs : Sim I d e g beta s a w) (h : ResP I I.P g beta d w a o v) : Res I d e g beta a w o v s.b s.h := by
  obtain ⟨own', V, w', h1, h2, h3⟩ := h
  exact res_step hs h1 h2 (fun dd hd => by rw [hd] at h3; exact h3)

theorem load_local {x : Operand} {k off : Nat} (h : SVR g beta d s' a.tmps (.lp k off) (a.eval x)) : a.eval x = .pointer (some ⟨beta k, off, none⟩) := by
  generalize a.eval x = V at h
  cases h; rfl

/-- Which operations touch memory. -/
inductive Mem : Op → Prop
  | load (t x) : Mem (.load t x)
  | store (t x y) : Mem (.store t x y)
  | alloc (t) : Mem (.alloc t)
  | box (t x) : Mem (.box t x)
  | makeSlice (t l c) : Mem (.makeSlice t l c)
  | call (c) : Mem (.call c)
theorem sm_np {sm : Sm} (hsm : smOp I call o = sm) (hp : ∀ f, sm ≠ .p f) (hb : sm ≠ .bad) : Mem o.op := by
  obtain ⟨dst, op, type, pos, after, guard⟩ := o
  cases op with
  | load t x => exact .load _ _
  | store t x y => exact .store _ _ _
  | alloc t => exact .alloc _
  | box t x => exact .box _ _
  | makeSlice t l c => exact .makeSlice _ _ _
  | call c => exact .call _
  | move x => obtain ⟨f', hf'⟩ := moveSm_p (I := I) (Oper.mk dst (.move x) type pos after guard) x; rw [show smOp I call _ = moveSm I _ x from rfl, hf'] at hsm; exact absurd hsm.symm (hp _)
  | assign x => obtain ⟨f', hf'⟩ := moveSm_p (I := I) (Oper.mk dst (.assign x) type pos after guard) x; rw [show smOp I call _ = moveSm I _ x from rfl, hf'] at hsm; exact absurd hsm.symm (hp _)
  | makeFunc fn first captured => simp only [smOp] at hsm; split at hsm <;> first | exact absurd hsm.symm (hp _) | exact absurd hsm.symm hb
  | slice t x lo hi mx => simp only [smOp] at hsm; split at hsm <;> first | exact absurd hsm.symm (hp _) | exact absurd hsm.symm hb
  | _ => first | exact absurd hsm.symm (hp _) | exact absurd hsm.symm hb

theorem call_sm {c : Call} {dst : Option Tmp} {type : TypeId} {pos : String} {after : Array Edge} {guard : Option (Nat × Bool)} {sm : Sm} (hsm : smOp I call ⟨dst, .call c, type, pos, after, guard⟩ = sm) :
    (∃ f, sm = .p f) ∨ sm = .bad ∨ (∃ b, c.callee = .builtin b ∧ b = .append ∧ sm = .al fun | [.r x, .r y], h, id => (c.argTypes[0]?).bind fun t => (c.argTypes[1]?).bind fun u => appendA I.P t u x y h id | _, _, _ => none) ∨ (∃ f, sm = .qh f) ∨ (∃ f, sm = .wh f) := by
  simp only [smOp] at hsm
  split at hsm
  · rename_i b hb
    unfold builtinSm at hsm
    split at hsm
    · exact .inl ⟨_, hsm.symm⟩
    · rcases condE hsm with ⟨_, h⟩ | ⟨_, h⟩
      · exact .inr (.inr (.inl ⟨_, hb, rfl, h.symm⟩))
      · exact .inl ⟨_, h.symm⟩
    · exact .inl ⟨_, hsm.symm⟩
    · exact .inl ⟨_, hsm.symm⟩
    · exact .inr (.inl hsm.symm)
  · unfold callSm at hsm
    rcases condE hsm with ⟨_, h⟩ | ⟨_, h⟩
    · rcases condE h with ⟨_, h⟩ | ⟨_, h⟩
      · exact .inl ⟨_, h.symm⟩
      · rcases condE h with ⟨_, h⟩ | ⟨_, h⟩
        · exact .inr (.inr (.inr (.inl ⟨_, h.symm⟩)))
        · exact .inr (.inr (.inr (.inr ⟨_, h.symm⟩)))
    · exact .inr (.inl h.symm)
  · rcases condE hsm with ⟨_, h⟩ | ⟨_, h⟩
    · exact .inr (.inr (.inr (.inl ⟨_, h.symm⟩)))
    · exact .inr (.inr (.inr (.inr ⟨_, h.symm⟩)))
  · exact .inr (.inl hsm.symm)
  · rcases condE hsm with ⟨_, h⟩ | ⟨_, h⟩
    · exact .inr (.inr (.inr (.inl ⟨_, h.symm⟩)))
    · exact .inr (.inr (.inr (.inr ⟨_, h.symm⟩)))

theorem rl_op {f : List SV → Bx → Option RV} {v : RV} (hs : Sim I d e g beta s a w) (hv : OpdsR g beta d a o.op.operands.toList vs) (hsm : smOp I call o = .rl f) (hf : f vs s.b = some v) : Res I d e g beta a w o (.r v) s.b s.h := by
  have hm := sm_np hsm (by simp) (by simp)
  obtain ⟨dst, op, type, pos, after, guard⟩ := o
  cases hm with
  | load t x =>
    simp only [smOp] at hsm
    split at hsm
    · cases hsm
    · rename_i n hn
      rcases condE hsm with ⟨hl, h⟩ | ⟨hl, h⟩ <;> rcases condE h with ⟨ho, h⟩ | ⟨ho, h⟩ <;> try cases h
      change OpdsR g beta d a [x] vs at hv
      cases hv with | cons _ u _ us h1 hn1 hv =>
      cases hv
      dsimp only at hf
      split at hf
      · rename_i k off hE
        simp only [List.cons.injEq, and_true] at hE; subst hE
        simp only [bget, Option.bind_eq_some_iff] at hf
        obtain ⟨cs', ⟨cs, hcs, hcut⟩, hp⟩ := hf
        have hx := load_local (h1 _ slotOf_tmp)
        obtain ⟨V, h2, h3⟩ := load_dem (P := I.P) (p := .tmp d (dst.getD 0)) (pi := .tup d (dst.getD 0)) (hs.bx k cs hcs) hcut hn hp
        rw [← hx] at h2
        exact res_p hs (resP_pure hs.inv (exec_v rfl h2) (.r _ _ h3))
      · cases hf
  | store t x y => simp only [smOp] at hsm; split at hsm <;> first | (cases hsm; done) | (rcases condE hsm with ⟨_, h⟩ | ⟨_, h⟩ <;> first | (cases h; done) | (rcases condE h with ⟨_, h⟩ | ⟨_, h⟩ <;> cases h))
  | alloc t => simp only [smOp] at hsm; split at hsm <;> first | (cases hsm; done) | (rcases condE hsm with ⟨_, h⟩ | ⟨_, h⟩ <;> cases h)
  | box t x => simp only [smOp] at hsm; split at hsm <;> first | (cases hsm; done) | (rcases condE hsm with ⟨_, h⟩ | ⟨_, h⟩ <;> cases h)
  | makeSlice t l c => simp only [smOp] at hsm; rcases condE hsm with ⟨_, h⟩ | ⟨_, h⟩ <;> cases h
  | call c => rcases call_sm hsm with ⟨f, h⟩ | h | ⟨b, _, _, h⟩ | ⟨f, h⟩ | ⟨f, h⟩ <;> cases h
end Go.Abs
namespace Go.Abs
variable {g g' : Gh} {w w' : World} {p : Place} {pi : Nat → Place} {beta beta' : Nat → Nat} {d e s' : Nat} {tmps tmps' : Array Value} {T : List Nat}
variable {I : In} {call : CallF} {a : Act} {o : Oper} {vs : List SV} {s : St}

theorem limH_get {dr : Bool} {rg : Nat} {h : Hp} {i off n : Nat} {cs : List CV} (hh : hget (limH dr rg h) i off n = some cs) : hget h i off n = some cs := by
  cases dr
  · exact hh
  · simp only [hget, limH, cond_true, Option.bind_eq_some_iff] at hh ⊢
    obtain ⟨cs0, h1, h2⟩ := hh
    obtain ⟨_, h3⟩ := cond_none h1
    exact ⟨cs0, h3, h2⟩
theorem hget_some {h : Hp} {i off n : Nat} {cs : List CV} (hh : hget h i off n = some cs) : ∃ cs0, h.m i = some cs0 ∧ cutOk cs0 off n = some cs := by
  simpa only [hget, Option.bind_eq_some_iff] using hh

theorem opd_ptr {x : Operand} {i off : Nat} (h : SVR g beta d s' a.tmps (.r (.c (.a (.ptr i off)))) (a.eval x)) : g.ok i ∧ a.eval x = .pointer (some ⟨g.rho i, off, none⟩) := by
  generalize a.eval x = V at h
  cases h with | r _ _ h => cases h with | c _ _ h => cases h with | a _ _ h => cases h with | ptr _ _ h => exact ⟨h, rfl⟩
theorem opd_bx {x : Operand} {cs : List PV} (h : SVR g beta d s' a.tmps (.r (.c (.a (.d (.bx cs))))) (a.eval x)) : ∃ b off Vs, a.eval x = .pointer (some ⟨b, off, none⟩) ∧ PRs g.own cs Vs ∧ ∀ j V, Vs[j]? = some V → g.own b (off + j) = .fz V := by
  generalize a.eval x = V at h
  cases h with | r _ _ h => cases h with | c _ _ h => cases h with | a _ _ h => cases h with | d _ _ h => cases h with | bx _ b off Vs _ hc hf => exact ⟨b, off, Vs, rfl, hc, hf⟩

theorem pack_bx {P : Program} {t : TypeId} {ps : List PV} {Vs : List Value} {v : RV} (h : PRs g.own ps Vs) (hp : packV (isAggT P t) (ps.map fun p => .a (.d p)) = some v) : ∃ V, (if isAggT P t then V = .agg ⟨Vs⟩ else Vs = [V]) ∧ RVR g p pi v V := by
  have hl := h.length
  refine pack_dem (P := P) (cs := ps.map fun p => .a (.d p)) (pl := fun _ => p) (by simp [hl]) (fun j x hx => ?_) ?_
  · simp only [List.getElem?_map, Option.map_eq_some_iff] at hx
    obtain ⟨q, hq, rfl⟩ := hx
    obtain ⟨V, h1, h2⟩ := h.get hq
    exact ⟨V, h1, .a _ _ (.d _ _ h2)⟩
  · rw [← hp]; congr 1
    simp only [demC, List.map_map]
    rfl

theorem rh_op {f : List SV → Hp → Option RV} {v : RV} {dr : Bool} {rg : Nat} (hs : Sim I d e g beta s a w) (hv : OpdsR g beta d a o.op.operands.toList vs) (hsm : smOp I call o = .rh f) (hf : f vs (limH dr rg s.h) = some v) : Res I d e g beta a w o (.r v) s.b s.h := by
  have hm := sm_np hsm (by simp) (by simp)
  obtain ⟨dst, op, type, pos, after, guard⟩ := o
  cases hm with
  | load t x =>
    simp only [smOp] at hsm
    split at hsm
    · cases hsm
    · rename_i n hn
      rcases condE hsm with ⟨hl, h⟩ | ⟨hl, h⟩ <;> rcases condE h with ⟨ho, h⟩ | ⟨ho, h⟩ <;> try cases h
      change OpdsR g beta d a [x] vs at hv
      cases hv with | cons _ u _ us h0 hn1 hv =>
      cases hv
      dsimp only at hf
      split at hf
      · rename_i u hE
        simp only [List.cons.injEq, and_true] at hE; subst hE
        have h1 := h0 _ slotOf_tmp
        clear h0
        unfold ldV at hf
        split at hf
        · rename_i i off
          simp only [Option.bind_eq_some_iff] at hf
          obtain ⟨cs', hg, hp⟩ := hf
          obtain ⟨cs, hcs, hcut⟩ := hget_some (limH_get hg)
          obtain ⟨_, hx⟩ := opd_ptr h1
          obtain ⟨V, h2, h3⟩ := load_dem (P := I.P) (p := .tmp d (dst.getD 0)) (pi := .tup d (dst.getD 0)) (hs.hp.obj i cs hcs).2 hcut hn hp
          rw [← hx] at h2
          exact res_p hs (resP_pure hs.inv (exec_v rfl h2) (.r _ _ h3))
        · rename_i cs
          simp only [Option.bind_eq_some_iff] at hf
          obtain ⟨cs', hcut, hp⟩ := hf
          obtain ⟨b, off, Vs, hx, hc, hfz⟩ := opd_bx h1
          obtain ⟨hc1, hc2⟩ := cond_none hcut
          simp only [Option.some.injEq] at hc2
          have hle := Nat.le_of_ble_eq_true hc1
          have hcs' : cs' = cs.take n := by rw [← hc2]; simp [cut]
          subst hcs'
          obtain ⟨V, h2, h3⟩ := pack_bx (p := .tmp d (dst.getD 0)) (pi := .tup d (dst.getD 0)) (hc.take n) hp
          have hlen : (Vs.take n).length = n := by have := hc.length; simp; omega
          have hrun := run_loadAt (P := I.P) (w := w) (b := b) (off := off) hn hlen (fun j V hj => by
            rw [List.getElem?_take] at hj
            split at hj
            · exact hs.inv.fz (hfz j V hj)
            · cases hj) h2
          rw [← hx] at hrun
          exact res_p hs (resP_pure hs.inv (exec_v rfl hrun) (.r _ _ h3))
        · cases hf
      · cases hf
  | store t x y => simp only [smOp] at hsm; split at hsm <;> first | (cases hsm; done) | (rcases condE hsm with ⟨_, h⟩ | ⟨_, h⟩ <;> first | (cases h; done) | (rcases condE h with ⟨_, h⟩ | ⟨_, h⟩ <;> cases h))
  | alloc t => simp only [smOp] at hsm; split at hsm <;> first | (cases hsm; done) | (rcases condE hsm with ⟨_, h⟩ | ⟨_, h⟩ <;> cases h)
  | box t x => simp only [smOp] at hsm; split at hsm <;> first | (cases hsm; done) | (rcases condE hsm with ⟨_, h⟩ | ⟨_, h⟩ <;> cases h)
  | makeSlice t l c => simp only [smOp] at hsm; rcases condE hsm with ⟨_, h⟩ | ⟨_, h⟩ <;> cases h
  | call c => rcases call_sm hsm with ⟨f, h⟩ | h | ⟨b, _, _, h⟩ | ⟨f, h⟩ | ⟨f, h⟩ <;> cases h

theorem run_alloc {P : Program} {t : TypeId} {i : TypeInfo} {z : Value} (hi : P.info? t = some i) (hz : i.zero = some z) : (Instr.alloc t true (.tuple #[])).run P w = .ok (.pointer (some ⟨w.heap.size, 0, none⟩)) (w.alloc (.cells z.cells t)) := by
  simp [Instr.alloc, zeroValue, typeInfo, hi, hz, newVar, newRow]
theorem run_box {P : Program} {t : TypeId} {V : Value} : (Instr.box t V).run P w = .ok (.pointer (some ⟨w.heap.size, 0, none⟩)) (w.alloc (.cells V.cells t)) := by
  simp [Instr.box, newVar, newRow]

theorem avrs_cells {xs : List AV} {Vs : List Value} (h : AVRs g xs Vs) (pl : Nat → Place) : ∀ j x, (xs.map CV.a)[j]? = some x → ∃ X, Vs[j]? = some X ∧ CVR g (pl j) x X := by
  intro j x hx
  simp only [List.getElem?_map, Option.map_eq_some_iff] at hx
  obtain ⟨y, hy, rfl⟩ := hx
  obtain ⟨V, h1, h2⟩ := h.get hy
  exact ⟨V, h1, .a _ _ h2⟩

/-- A box made anew. -/
theorem res_box {dd : Nat} {B : Nat} {cs : List CV} {own' : OwnF} (hs : Sim I d e g beta s a w) (hd : o.dst = some dd) (hb : boxesO I o = some dd)
    (hx : (execOp a.eval o).run I.P w = .ok (.value (.pointer (some ⟨B, 0, none⟩))) w') (hst : Step (slotsP d (stealsO I o)) g.own w own' w') (hc : CellsR ⟨own', g.rho, g.ok⟩ w' B (.bx d dd) (.bx d dd) cs) :
    Res I d e g beta a w o (.lp dd 0) (mset s.b dd cs) s.h := by
  intro K Q hK
  have hne : ∀ k, k ≠ dd → (fun k => if k = dd then B else beta k) k = beta k := fun k hk => if_neg hk
  refine wp_val hx (hK ⟨own', g.rho, g.ok⟩ (fun k => if k = dd then B else beta k) _ w' (hst.keep fun _ h => h) hst.inv ?_ (hs.hp.keep (hst.keepH fun _ h => h) fun _ h => h) (hst.acc hs.inv) ?_ ?_)
  · refine BxR.mset (fun k' cs' hk hg => ?_) ?_
    · simp only [if_neg hk]
      exact hs.bx.keep (hst.keepB fun _ h => h) k' cs' hg
    · simpa using hc
  · intro k hk
    rw [hb] at hk
    exact hne k (fun h => hk (by rw [h]))
  · intro dd' hd'
    rw [hd] at hd'; cases hd'
    have : finO I o (.lp dd 0) = .lp dd 0 := by
      unfold finO
      rw [hd]
      simp only
      cases has I.hint.own dd <;> rfl
    rw [this]
    have h := SVR.lp (g := ⟨own', g.rho, g.ok⟩) (beta := fun k => if k = dd then B else beta k) (d := d) (s := dd) (tmps := a.tmps) dd 0
    simpa using h

theorem StepC.frame {L : Own} {own : OwnF} (h : StepC L own w w') (hL : L.mine d e) : Frame d e own w own w' :=
  ⟨h.os, h.tape, h.output, Nat.le_of_eq h.size.symm, fun b _ => h.form b, fun b o _ hm => ⟨rfl, h.cell b o (fun he => hm (he ▸ hL))⟩⟩
theorem CellsR.stepC {L L' : Own} {b : Nat} {pl : Nat → Place} {cs : List CV} (hc : CellsR g w b L' pl cs) (h : StepC L g.own w w') (hne : L' ≠ L) : CellsR g w' b L' pl cs := by
  intro j x hx
  obtain ⟨h1, V, h2, h3⟩ := hc j x hx
  exact ⟨h1, V, by rw [h.cell b j (by rw [h1]; exact hne)]; exact h2, h3⟩

theorem res_load_own {k off n : Nat} {t : TypeId} {cs cs' cs2 : List CV} {v : RV} {x : Operand} (hs : Sim I d e g beta s a w) (hcs : mget s.b k = some cs) (hcut : cutOk cs off n = some cs') (hn : szOf I.P t = some n) (hp : packV (isAggT I.P t) cs' = some v) (hput : putOk cs off (demC cs') = some cs2)
    (he : execOp a.eval o = (do pure (.value (← Instr.loadAt t (a.eval x))) : Sem Next)) (hx : a.eval x = .pointer (some ⟨beta k, off, none⟩)) : Res I d e g beta a w o (.r v) (mset s.b k cs2) s.h := by
  intro K Q hK
  obtain ⟨own', V, h1, h2, h3, h4⟩ := load_own (P := I.P) (.tmp d (o.dst.getD 0)) (.tup d (o.dst.getD 0)) hs.inv (hs.bx k cs hcs) (by simp) (by simp) (by simp) hcut hn hp hput
  rw [← hx] at h2
  refine wp_val (exec_v he h2) (hK ⟨own', g.rho, g.ok⟩ beta V w ⟨h1.gle, fun hsT ht => (h1.tl ht (by simp)).1, fun hsT ht => (h1.tl ht (by simp)).1⟩ h1.inv ?_ ?_ ?_ (fun _ _ => rfl) ?_)
  · refine BxR.mset (fun k' cs3 hk hg => ?_) h4
    exact (hs.bx k' cs3 hg).keep h1.gle (fun h => h1.bx h) (fun {b' o' j} ht => (h1.tl ht (by
      intro he; simp only [Place.bx.injEq] at he; exact hk he.2.1)).1)
  · exact hs.hp.keep ⟨h1.gle, fun h => h1.hp h, fun ht => (h1.tl ht (by simp)).1⟩ fun _ h => h
  · exact ⟨h1.frame hs.inv (fun p hp => by subst hp; exact Nat.le_refl _), h1.gle⟩
  · intro dd hd
    have := fin_R (I := I) (o := o) (beta := beta) (tmps := a.tmps) (SVR.r (s := o.dst.getD 0) _ _ h3)
    rw [hd] at this
    exact this

theorem res_store {k off n : Nat} {t : TypeId} {cs xs cs' : List CV} {v : RV} {x y : Operand} (hs : Sim I d e g beta s a w) (hcs : mget s.b k = some cs) (hu : unpackV v = some xs) (hput : putOk cs off xs = some cs') (hn : szOf I.P t = some n) (hnx : Nat.beq n xs.length = true)
    (he : execOp a.eval o = (do Instr.storeAt t (a.eval x) (a.eval y); pure .skip : Sem Next)) (hst : stealsO I o = match y with | .tmp s => [s] | _ => []) (hd : o.dst = none) (hx : a.eval x = .pointer (some ⟨beta k, off, none⟩))
    (hy : ∀ s, (∀ k, y = .tmp k → s = k) → SVR g beta d s a.tmps (.r v) (a.eval y)) (hn1 : (∃ k, y = .tmp k) ∨ ∃ z, (SV.r v) = sA z) : Res I d e g beta a w o (.r undefR) (mset s.b k cs') s.h := by
  intro K Q hK
  have h1 := hy _ slotOf_tmp
  cases h1 with | r _ _ h1 =>
  obtain ⟨own', w', h2, h3, h4, h5⟩ := store_row (P := I.P) hs.inv (hs.bx k cs hcs) (.inl ⟨d, k, rfl⟩) h1 hu hput hn hnx (S := slotsP d (stealsO I o)) (by
    rcases hn1 with ⟨k, rfl⟩ | ⟨z, hz⟩
    · exact .inl ⟨k, by simp [hst], .inl rfl⟩
    · exact .inr ⟨z, by cases hz; rfl⟩) (by rintro j ⟨_, _, h | ⟨_, h⟩⟩ <;> cases h)
  rw [← hx] at h4
  have hrun : (execOp a.eval o).run I.P w = .ok .skip w' := by rw [he]; simp [h4]
  refine wp_skip' hrun (hK ⟨own', g.rho, g.ok⟩ beta undef w' (h2.keep fun _ h => h) h3.inv ?_ ?_ ⟨(h2.frame hs.inv fun p hp => mine_slots hp).trans (h3.frame (Nat.le_refl _)), h2.gle⟩ (fun _ _ => rfl) (by rw [hd]; simp))
  · refine BxR.mset (fun k' cs3 hk hg => ?_) h5
    exact (hs.bx.keep (h2.keepB fun _ h => h) k' cs3 hg).stepC h3 (by simp [hk])
  · have := hs.hp.keep (h2.keepH fun _ h => h) fun _ h => h
    exact ⟨this.ok, fun i cs hc => ⟨(this.obj i cs hc).1, (this.obj i cs hc).2.stepC h3 (by simp)⟩⟩

theorem wl_op {f : List SV → Bx → Option (SV × Bx)} {r : SV × Bx} (hs : Sim I d e g beta s a w) (hv : OpdsR g beta d a o.op.operands.toList vs) (hsm : smOp I call o = .wl f) (hf : f vs s.b = some r) : Res I d e g beta a w o r.1 r.2 s.h ∧ r.1.bare = true := by
  have hm := sm_np hsm (by simp) (by simp)
  obtain ⟨dst, op, type, pos, after, guard⟩ := o
  cases hm with
  | alloc t =>
    simp only [smOp] at hsm
    split at hsm
    · rename_i dd
      rcases condE hsm with ⟨hl, h⟩ | ⟨hl, h⟩
      · simp only [Sm.wl.injEq] at h; subst h
        simp only [Option.bind_eq_some_iff, Option.some.injEq] at hf
        obtain ⟨xs, hz, rfl⟩ := hf
        obtain ⟨i, z, hi, hz0, hx, hlen, _⟩ := zeroT_some (g := g) hz
        obtain ⟨h1, h2⟩ := new_row (g := g) (L := .bx d dd) (S := slotsP d (stealsO I ⟨some dd, .alloc t, type, pos, after, guard⟩)) (.bx d dd) hs.inv t (cs := xs.map CV.a) (C := z.cells) (by simp) (by have := hx.length; simp at this; simp [this]) (avrs_cells hx _) (fun j hj => by
          obtain ⟨_, _, h | ⟨_, h⟩⟩ := hj <;> cases h)
        refine ⟨res_box hs rfl (by simp [boxesO, hl]) (exec_v rfl (run_alloc hi hz0)) h1 h2, rfl⟩
      · cases h
    · cases hsm
  | box t x =>
    simp only [smOp] at hsm
    split at hsm
    · rename_i dd
      rcases condE hsm with ⟨hl, h⟩ | ⟨hl, h⟩
      · simp only [Sm.wl.injEq] at h; subst h
        change OpdsR g beta d a [x] vs at hv
        cases hv with | cons _ u _ us h0 hn1 hv =>
        cases hv
        dsimp only at hf
        split at hf
        · rename_i u hE
          simp only [List.cons.injEq, and_true] at hE; subst hE
          simp only [Option.bind_eq_some_iff, Option.some.injEq] at hf
          obtain ⟨xs, hu, rfl⟩ := hf
          have h1 := h0 _ slotOf_tmp
          cases h1 with | r _ _ h1 =>
          have hfin : ∀ j, ¬ slotsP d (stealsO I ⟨some dd, .box t x, type, pos, after, guard⟩) (.bx d dd j) := by
            rintro j ⟨_, _, h | ⟨_, h⟩⟩ <;> cases h
          obtain ⟨own1, h2, h3, h4, h5⟩ := unpack_R (S := slotsP d (stealsO I ⟨some dd, .box t x, type, pos, after, guard⟩)) hs.inv h1 hu (by
            rcases hn1 with ⟨k, rfl⟩ | ⟨y, hy⟩
            · exact .inl ⟨k, by simp [stealsO], .inl rfl⟩
            · exact .inr ⟨y, by cases hy; rfl⟩) (.bx d dd)
          obtain ⟨h6, h7⟩ := new_row (g := ⟨own1, g.rho, g.ok⟩) (L := .bx d dd) (S := slotsP d (stealsO I ⟨some dd, .box t x, type, pos, after, guard⟩)) (.bx d dd) h2.inv t (cs := xs) (C := (a.eval x).cells) (by simp) (Nat.le_of_eq h3) h5 hfin
          exact ⟨res_box hs rfl (by simp [boxesO, hl]) (exec_v rfl run_box) (h2.trans h6) h7, rfl⟩
        · cases hf
      · cases h
    · cases hsm
  | load t x =>
    simp only [smOp] at hsm
    split at hsm
    · cases hsm
    · rename_i n hn
      rcases condE hsm with ⟨hl, h⟩ | ⟨hl, h⟩ <;> rcases condE h with ⟨ho, h⟩ | ⟨ho, h⟩ <;> try cases h
      change OpdsR g beta d a [x] vs at hv
      cases hv with | cons _ u _ us h0 hn1 hv =>
      cases hv
      dsimp only at hf
      split at hf
      · rename_i k off hE
        simp only [List.cons.injEq, and_true] at hE; subst hE
        simp only [bget, bput, Option.bind_eq_some_iff, Option.some.injEq] at hf
        obtain ⟨cs', ⟨cs, hcs, hcut⟩, v, hp, b', ⟨cs0, hcs0, cs2, hput, rfl⟩, rfl⟩ := hf
        rw [hcs] at hcs0; cases hcs0
        exact ⟨res_load_own (x := x) hs hcs hcut hn hp hput rfl (load_local (h0 _ slotOf_tmp)), rfl⟩
      · cases hf
  | store t x y =>
    simp only [smOp] at hsm
    split at hsm
    · cases hsm
    · rename_i n hn
      rcases condE hsm with ⟨hl, h⟩ | ⟨hl, h⟩
      · cases h
      · rcases condE h with ⟨hl2, h⟩ | ⟨hl2, h⟩ <;> try cases h
        change OpdsR g beta d a [x, y] vs at hv
        cases hv with | cons _ u _ us h0 hn1 hv =>
        cases hv with | cons _ u2 _ us h02 hn2 hv =>
        cases hv
        dsimp only at hf
        split at hf
        · rename_i k off v hE
          simp only [List.cons.injEq, and_true] at hE
          obtain ⟨rfl, rfl⟩ := hE
          simp only [bput, Option.bind_eq_some_iff] at hf
          obtain ⟨xs, hu, hf⟩ := hf
          obtain ⟨hnx, hf⟩ := cond_none hf
          simp only [Option.bind_eq_some_iff, Option.some.injEq] at hf
          obtain ⟨b', ⟨cs, hcs, cs', hput, rfl⟩, rfl⟩ := hf
          have hd : dst = none := by simpa using hl
          exact ⟨res_store (x := x) (y := y) hs hcs hu hput hn hnx rfl (by cases y <;> rfl) hd (load_local (h0 _ slotOf_tmp)) h02 hn2, rfl⟩
        · cases hf
  | makeSlice t l c => simp only [smOp] at hsm; rcases condE hsm with ⟨_, h⟩ | ⟨_, h⟩ <;> cases h
  | call c => rcases call_sm hsm with ⟨f, h⟩ | h | ⟨b, _, _, h⟩ | ⟨f, h⟩ | ⟨f, h⟩ <;> cases h
end Go.Abs
namespace Go.Abs
variable {g g' : Gh} {w w' : World} {p : Place} {pi : Nat → Place} {beta beta' : Nat → Nat} {d e s' : Nat} {tmps tmps' : Array Value} {T : List Nat}
variable {I : In} {call : CallF} {a : Act} {o : Oper} {vs : List SV} {s : St}

theorem SVR.mono {x : SV} {V : Value} (h : SVR g beta d s' tmps x V) (hm : GLe g g') (ho : g'.own = g.own) : SVR g' beta d s' tmps x V := by
  induction h with
  | r v V h => exact .r _ _ (h.mono hm (fun b o ht => by rw [ho]; exact ht) (fun i b o ht => by rw [ho]; exact ht))
  | lp k off => exact .lp k off
  | gd s' w v V h hu ih => exact .gd _ _ _ _ ih hu
theorem CellsR.mono {b : Nat} {L : Own} {pl : Nat → Place} {cs : List CV} (h : CellsR g w b L pl cs) (hm : GLe g g') (ho : g'.own = g.own) : CellsR g' w b L pl cs :=
  h.keep hm (fun {o} hL => ⟨by rw [ho]; exact hL, rfl⟩) (fun {b' o j} ht => by rw [ho]; exact ht)

/-- The ghost state with one more object. -/
noncomputable def Gh.new (g : Gh) (own' : OwnF) (id B : Nat) : Gh := ⟨own', fun i => if i = id then B else g.rho i, fun i => i = id ∨ g.ok i⟩
theorem gh_new_le {own' : OwnF} {id B : Nat} (hid : ¬ g.ok id) : GLe ⟨own', g.rho, g.ok⟩ (g.new own' id B) :=
  ⟨fun _ _ _ h => h, fun _ h => .inr h, fun i hi => if_neg (fun he : i = id => hid (he ▸ hi))⟩

/-- A new object. -/
theorem res_new {id B : Nat} {cs : List CV} {own' : OwnF} {v : SV} {V : Value} (hs : Sim I d e g beta s a w) (hid : id < s.h.nx) (hfr : s.h.m id = none)
    (hx : (execOp a.eval o).run I.P w = .ok (.value V) w') (hst : Step (slotsP d (stealsO I o)) g.own w own' w') (hc : CellsR ⟨own', g.rho, g.ok⟩ w' B (.hp e id) (.hp e id) cs)
    (hv : ∀ dd, o.dst = some dd → SVR (g.new own' id B) beta d dd a.tmps (finO I o v) V) : Res I d e g beta a w o v s.b (hset s.h id cs) := by
  intro K Q hK
  have hok : ¬ g.ok id := fun h => by
    obtain ⟨cs, hc⟩ := (hs.hp.ok id).1 h
    rw [hfr] at hc; cases hc
  have hle := gh_new_le (g := g) (own' := own') (B := B) hok
  have k1 := hst.keep (g := g) (d := d) (T := stealsO I o) fun _ h => h
  have k2 := hst.keepB (g := g) (d := d) (T := stealsO I o) (d' := d) fun _ h => h
  have k3 := hst.keepH (g := g) (d := d) (T := stealsO I o) (e := e) fun _ h => h
  refine wp_val hx (hK (g.new own' id B) beta V w' ⟨k1.le.trans hle, k1.tmp, k1.tup⟩ hst.inv (hs.bx.keep ⟨k2.le.trans hle, k2.bx, k2.tl⟩) ?_ ⟨hst.frame hs.inv (fun p hp => mine_slots hp), k1.le.trans hle⟩ (fun _ _ => rfl) hv)
  constructor
  · intro i
    show (i = id ∨ g.ok i) ↔ ∃ cs', cond (Nat.beq i id) (some cs) (s.h.m i) = some cs'
    by_cases hi : i = id
    · subst hi; simp [nbeq_self]
    · rw [nbeq_ne hi]
      simp only [cond_false]
      rw [hs.hp.ok i]
      simp [hi]
  · intro i cs' hi
    change cond (Nat.beq i id) (some cs) (s.h.m i) = some cs' at hi
    by_cases he : i = id
    · subst he
      rw [nbeq_self] at hi
      simp only [cond_true, Option.some.injEq] at hi; subst hi
      refine ⟨hid, ?_⟩
      have : (g.new own' i B).rho i = B := if_pos rfl
      rw [this]
      exact hc.mono hle rfl
    · rw [nbeq_ne he] at hi
      simp only [cond_false] at hi
      obtain ⟨h1, h2⟩ := hs.hp.obj i cs' hi
      refine ⟨h1, ?_⟩
      have : (g.new own' id B).rho i = g.rho i := if_neg he
      rw [this]
      exact h2.keep (k3.le.trans hle) k3.hp k3.tl

theorem new_ptr {own' : OwnF} {id B : Nat} : AVR (g.new own' id B) (.ptr id 0) (.pointer (some ⟨B, 0, none⟩)) := by
  have h := AVR.ptr (g := g.new own' id B) id 0 (.inl rfl)
  have : (g.new own' id B).rho id = B := if_pos rfl
  rw [this] at h; exact h
theorem new_ms {own' : OwnF} {id B len cap cap' off' : Nat} (hc : len ≤ cap') (ho : len ≠ 0 → off' = 0) : AVR (g.new own' id B) (.ms id 0 len cap) (.slice (some ⟨B, off', none⟩) len cap') := by
  have h := AVR.ms (g := g.new own' id B) id 0 len cap off' cap' (.inl rfl) hc ho
  have : (g.new own' id B).rho id = B := if_pos rfl
  rw [this] at h; exact h
theorem fin_A {v : AV} {V : Value} {o : Oper} {dd : Nat} (h : AVR g v V) : SVR g beta d dd tmps (finO I o (.r (rA v))) V := fin_R (.r _ _ (rvr_A h))

theorem dataCs_get {cs : List CV} {ps : List PV} (h : dataCs cs = some ps) : cs = ps.map fun p => .a (.d p) := by
  induction cs generalizing ps with
  | nil => simp [dataCs] at h; subst h; rfl
  | cons c cs ih =>
    cases c with
    | a v =>
      cases v with
      | d p =>
        simp only [dataCs, Option.bind_eq_some_iff, Option.some.injEq] at h
        obtain ⟨qs, h1, rfl⟩ := h
        simp [ih h1]
      | _ => cases h
    | ow sz n l => cases h
theorem scal_cells {p : PV} (h : scalP p = true) : p.cells = [p] := by
  cases p <;> first | rfl | (simp [scalP] at h)
theorem scal_flat {ps : List PV} (h : ps.all scalP = true) : ps.flatMap PV.cells = ps := by
  induction ps with
  | nil => rfl
  | cons p ps ih =>
    simp only [List.all_cons, Bool.and_eq_true] at h
    rw [List.flatMap_cons, scal_cells h.1, ih h.2]; rfl
theorem scal_ok {ps : List PV} (h : ps.all scalP = true) : ∀ x ∈ ps, okE 1 x := by
  intro x hx
  have hx := List.all_eq_true.1 h x hx
  refine ⟨by rw [scal_cells hx]; rfl, ?_⟩
  rw [scal_cells hx]; simp [hx]

/-- All cells as they are now. -/
def ownNow (w : World) : OwnF := fun b o => match w.cell? ⟨b, o, none⟩ with | some v => .fz v | none => .ext
theorem ownNow_fz {b o : Nat} {v : Value} : ownNow w b o = .fz v ↔ w.cell? ⟨b, o, none⟩ = some v := by
  unfold ownNow
  split
  · rename_i u hu; rw [hu]; simp
  · rename_i hu; rw [hu]; simp

/-- What is appended: a part of an object. -/
theorem src_ms {P : Program} {e : Nat} {h : Hp} {j off len cap : Nat} {cs : List CV} {ys : List PV} {Y : Value} (hw : WInv g.own w) (hh : HpR g e h w) (hy : AVR g (.ms j off len cap) Y) (hg : hget h j off len = some cs) (hd : dataCs cs = some ys) (hs : ys.all scalP = true) :
    ∃ Ws, Src P (ownNow w) 1 Y ys Ws ∧ PRs g.own ys Ws := by
  obtain ⟨cs0, hcs0, hcut⟩ := hget_some hg
  obtain ⟨hl, hg2⟩ := (hh.obj j cs0 hcs0).2.cut hcut
  have hcs := dataCs_get hd
  subst hcs
  simp only [List.length_map] at hl
  obtain ⟨Vs, h1, h2, h3⟩ := cells_vals (g := g) (w := w) (b := g.rho j) (off := off) (pl := fun i => .hp e j (off + i)) (fun i x hx => (hg2 i x hx).2.2)
  have hprs : PRs g.own ys Vs := PRs.of_get (by simpa using h1.symm) (fun i p V hp hV => by
    obtain ⟨V', hV', hr⟩ := h3 i (.a (.d p)) (by simp [hp])
    rw [hV] at hV'; cases hV'
    cases hr with | a _ _ hr => cases hr with | d _ _ hr => exact hr)
  have hlen : Vs.length = ys.length := by simpa using h1
  cases hy with | ms _ _ _ _ off' cap' hok hc ho =>
  refine ⟨Vs, ⟨fun w' => by simp [Builtin.lenOf, hl], scal_ok hs, ?_, fun w' hz => ?_⟩, hprs⟩
  · rw [scal_flat hs]
    exact hprs.mono fun b o v hv => ownNow_fz.2 (hw.fz hv)
  · exact run_firstCells_some (P := P) w' 1 ys.length ⟨g.rho j, off', none⟩ len cap' Vs (by omega) (fun i v hi => by
      rw [Addr.add_plain]
      have hi2 := (List.getElem?_eq_some_iff.1 hi).1
      rw [ho (by omega)]
      exact hz (ownNow_fz.2 (h2 i v hi)))

theorem appendA_run {P : Program} {e : Nat} {h : Hp} {ts : Array TypeId} {t u ty : TypeId} (h0 : ts[0]? = some t) (h1 : ts[1]? = some u) {x y : RV} {id : Nat} {r : RV × List CV} {X Y : Value} {px py : Place} {pix piy : Nat → Place} (hw : WInv g.own w) (hh : HpR g e h w) {hl : Hp} (hlim : ∀ {i off n cs}, hget hl i off n = some cs → hget h i off n = some cs)
    (hA : appendA P t u x y hl id = some r) (hx : RVR g px pix x X) (hy : RVR g py piy y Y) {S : Place → Prop} (hS : ∀ i j, ¬ S (.hp e i j)) :
    ∃ own' V w' B len cap cap' off', (Builtin.append_ ts ty #[X, Y]).run P w = .ok V w' ∧ Step S g.own w own' w' ∧ CellsR ⟨own', g.rho, g.ok⟩ w' B (.hp e id) (.hp e id) r.2 ∧ r.1 = rA (.ms id 0 len cap) ∧ V = .slice (some ⟨B, off', none⟩) len cap' ∧ len ≤ cap' ∧ (len ≠ 0 → off' = 0) := by
  simp only [appendA, Option.bind_eq_some_iff] at hA
  obtain ⟨el, he, i, hi, z, hz, hA⟩ := hA
  obtain ⟨hc, hA⟩ := cond_none hA
  simp only [Bool.and_eq_true, Bool.not_eq_true'] at hc
  obtain ⟨hu, hc1, hc2⟩ := hc
  have hsz := nbeq_eq hc1
  have hby : i.bytes ≠ 0 := by intro e; rw [e, nbeq_self] at hc2; cases hc2
  have ht := elemT_some he
  obtain ⟨i2, Z, hi2, hiz, hZr, hZl, _⟩ := zeroT_some (g := g) hz
  rw [hi] at hi2; cases hi2
  split at hA
  · rename_i sz
    obtain ⟨hsz1, hA2⟩ := cond_none hA
    clear hA
    have hsz2 := nbeq_eq hsz1
    clear hsz1
    subst hsz2
    simp only [Option.bind_eq_some_iff] at hA2
    obtain ⟨ys, hys, hA3⟩ := hA2
    obtain ⟨hall, hA4⟩ := cond_none hA3
    clear hA3
    obtain ⟨hr, rfl⟩ := grd_some hA4
    cases hx with | c _ _ hx =>
    obtain ⟨b, off, cap, Vs, rfl, hlc, hz0, hok, hcs, hfz, htl, hl0⟩ := hx.ow_inv
    have hcap := hl0 rfl
    subst hcap
    have hsrc : ∃ own0 Ws, Src P own0 i.size Y ys Ws ∧ PRs g.own (ys.flatMap PV.cells) Ws ∧ (∀ x ∈ ys, okE 1 x) ∧ ∀ {b o v}, own0 b o = .fz v → w.cell? ⟨b, o, none⟩ = some v := by
      rw [hsz]
      split at hys
      · rename_i j off len cap
        simp only [Option.bind_eq_some_iff] at hys
        obtain ⟨cs, hg, hd⟩ := hys
        cases hy with | c _ _ hy => cases hy with | a _ _ hy =>
        obtain ⟨Ws, h2, h3⟩ := src_ms (P := P) hw hh hy (hlim hg) hd hall
        exact ⟨_, Ws, h2, by rw [scal_flat hall]; exact h3, scal_ok hall, fun h => ownNow_fz.1 h⟩
      · obtain ⟨hf, hys⟩ := cond_none hys
        obtain ⟨Ws, hs⟩ := src_of (P := P) hy hf hys
        exact ⟨_, Ws, hs, hs.prs, hs.ok, fun h => hw.fz h⟩
    obtain ⟨own0, Ws, hs, hprs, hoks, hz0'⟩ := hsrc
    have hWl : Ws.length = ys.length := by rw [← hprs.length, flat_length hoks, Nat.mul_one]
    by_cases hE : ys = []
    · subst hE
      have hW0 : Ws = [] := List.length_eq_zero_iff.1 hWl
      subst hW0
      have hrun := run_append_fits (w := w) (ty := ty) (b := b) (off := off) (sLen := 0) (sCap := 0) h0 h1 ht hu hi hs hz0' (Nat.le_refl _) (by simp) (by simp) (by simp)
      refine ⟨g.own, _, w, b, 0, 0, 0, off, hrun, .refl hw, by intro j x hj; simp at hj, rfl, rfl, Nat.le_refl _, by simp⟩
    · have hl : 0 < ys.length := List.length_pos_iff.2 hE
      have hrun := run_append_new (w := w) (ty := ty) h0 h1 ht hu hi hiz (base := some ⟨b, off, none⟩) (sLen := 0) (sCap := 0) (olds := []) hs hz0' (by omega) (run_firstCells_some (P := P) w.drew i.size 0 ⟨b, off, none⟩ 0 0 [] (by simp) (by simp)) hby (by simpa using roomB_le hr)
      simp only [Nat.zero_add] at hrun
      have hst1 := step_drew (S := S) hw
      obtain ⟨h2, h3⟩ := new_row (g := g) (w := w.drew) (L := .hp e id) (S := S) (.hp e id) hst1.inv el (cs := ys.map fun p => .a (.d p)) (C := ([] : List Value).toArray ++ Ws.toArray ++ Builtin.zeroCells Z.cells (grownCap w ys.length 0 el - ys.length)) (by simp) (by simp; omega) (fun j x hj => by
        simp only [List.getElem?_map, Option.map_eq_some_iff] at hj
        obtain ⟨q, hq, rfl⟩ := hj
        rw [scal_flat hall] at hprs
        obtain ⟨V, hV, hr2⟩ := hprs.get hq
        refine ⟨V, ?_, .a _ _ (.d _ _ hr2)⟩
        have hjl := (List.getElem?_eq_some_iff.1 hV).1
        simp only [Array.toList_append, List.nil_append]
        rw [List.getElem?_append_left (by simpa using hjl)]
        exact hV) (fun j => hS id j)
      refine ⟨_, _, _, w.heap.size, ys.length, ys.length, grownCap w ys.length 0 el, 0, hrun, hst1.trans h2, h3, rfl, rfl, grownCap_ge _ _ _ _, fun _ => rfl⟩
  · cases hA

theorem al_op {f : List SV → Hp → Nat → Option (RV × List CV)} {r : RV × List CV} {id : Nat} (hs : Sim I d e g beta s a w) (hid : id < s.h.nx) (hfr : s.h.m id = none) (hv : OpdsR g beta d a o.op.operands.toList vs) (hsm : smOp I call o = .al f) {dr : Bool} {rg : Nat} (hf : f vs (limH dr rg s.h) id = some r) : Res I d e g beta a w o (.r r.1) s.b (hset s.h id r.2) := by
  have hm := sm_np hsm (by simp) (by simp)
  obtain ⟨dst, op, type, pos, after, guard⟩ := o
  have hsl : ∀ (T : List Nat) (i j : Nat), ¬ slotsP d T (.hp e i j) := by
    rintro T i j ⟨_, _, h | ⟨_, h⟩⟩ <;> cases h
  cases hm with
  | alloc t =>
    simp only [smOp] at hsm
    split at hsm
    · rename_i dd
      rcases condE hsm with ⟨hl, h⟩ | ⟨hl, h⟩
      · cases h
      · simp only [Sm.al.injEq] at h; subst h
        simp only [Option.bind_eq_some_iff, Option.some.injEq] at hf
        obtain ⟨xs, hz, rfl⟩ := hf
        obtain ⟨i, z, hi, hz0, hx, hlen, _⟩ := zeroT_some (g := g) hz
        obtain ⟨h1, h2⟩ := new_row (g := g) (L := .hp e id) (S := slotsP d (stealsO I ⟨some dd, .alloc t, type, pos, after, guard⟩)) (.hp e id) hs.inv t (cs := xs.map CV.a) (C := z.cells) (by simp) (by have := hx.length; simp at this; simp [this]) (avrs_cells hx _) (fun j => hsl _ _ _)
        exact res_new hs hid hfr (exec_v rfl (run_alloc hi hz0)) h1 h2 (fun _ _ => fin_A new_ptr)
    · cases hsm
  | box t x =>
    simp only [smOp] at hsm
    split at hsm
    · rename_i dd
      rcases condE hsm with ⟨hl, h⟩ | ⟨hl, h⟩
      · cases h
      · simp only [Sm.al.injEq] at h; subst h
        change OpdsR g beta d a [x] vs at hv
        cases hv with | cons _ u _ us h0 hn1 hv =>
        cases hv
        cases u with
        | lp _ _ => cases hf
        | gd _ _ _ => cases hf
        | r u =>
          simp only [Option.bind_eq_some_iff, Option.some.injEq] at hf
          obtain ⟨xs, hu, rfl⟩ := hf
          have h1 := h0 _ slotOf_tmp
          cases h1 with | r _ _ h1 =>
          obtain ⟨own1, h2, h3, h4, h5⟩ := unpack_R (S := slotsP d (stealsO I ⟨some dd, .box t x, type, pos, after, guard⟩)) hs.inv h1 hu (by
            rcases hn1 with ⟨k, rfl⟩ | ⟨y, hy⟩
            · exact .inl ⟨k, by simp [stealsO], .inl rfl⟩
            · exact .inr ⟨y, by cases hy; rfl⟩) (.hp e id)
          obtain ⟨h6, h7⟩ := new_row (g := ⟨own1, g.rho, g.ok⟩) (L := .hp e id) (S := slotsP d (stealsO I ⟨some dd, .box t x, type, pos, after, guard⟩)) (.hp e id) h2.inv t (cs := xs) (C := (a.eval x).cells) (by simp) (Nat.le_of_eq h3) h5 (fun j => hsl _ _ _)
          exact res_new hs hid hfr (exec_v rfl run_box) (h2.trans h6) h7 (fun _ _ => fin_A new_ptr)
    · cases hsm
  | load t x => simp only [smOp] at hsm; split at hsm <;> first | (cases hsm; done) | (rcases condE hsm with ⟨_, h⟩ | ⟨_, h⟩ <;> rcases condE h with ⟨_, h⟩ | ⟨_, h⟩ <;> cases h)
  | store t x y => simp only [smOp] at hsm; split at hsm <;> first | (cases hsm; done) | (rcases condE hsm with ⟨_, h⟩ | ⟨_, h⟩ <;> first | (cases h; done) | (rcases condE h with ⟨_, h⟩ | ⟨_, h⟩ <;> cases h))
  | makeSlice t l c =>
    simp only [smOp] at hsm
    rcases condE hsm with ⟨_, h⟩ | ⟨_, h⟩
    · cases h
    · simp only [Sm.al.injEq] at h; subst h
      change OpdsR g beta d a [l, c] vs at hv
      simp only [Option.bind_eq_some_iff] at hf
      obtain ⟨xs, hxs, hf⟩ := hf
      have ha := avsS_R hv hxs
      cases ha with | cons X _ _ _ h1 ha =>
      cases ha with | cons Y _ _ _ h2 ha =>
      cases ha
      unfold make2 at hf
      split at hf
      · rename_i n m hE
        simp only [List.cons.injEq, and_true] at hE
        obtain ⟨rfl, rfl⟩ := hE
        simp only [Option.bind_eq_some_iff] at hf
        obtain ⟨el, he, i, hi, z, hz, hf⟩ := hf
        obtain ⟨hc, hf⟩ := cond_none hf
        obtain ⟨hr, rfl⟩ := grd_some hf
        simp only [Bool.and_eq_true, Bool.not_eq_true', beq_iff_eq, decide_eq_true_eq] at hc hr
        obtain ⟨hc1, rfl, hc2⟩ := hc
        obtain ⟨hn0, hr⟩ := hr
        have hsz := nbeq_eq hc1
        have hby : i.bytes ≠ 0 := by intro e; rw [e, nbeq_self] at hc2; cases hc2
        obtain ⟨i2, Z, hi2, hiz, hZr, hZl, _⟩ := zeroT_some (g := g) hz
        rw [hi] at hi2; cases hi2
        have hle := roomB_le hr
        have hn : n.toNat ≤ 70368744177664 := Nat.le_trans (Nat.le_mul_of_pos_right _ (by omega)) hle
        have hnb : (i.bytes : Int) * n ≤ 281474976710656 := by
          have : ((i.bytes * n.toNat : Nat) : Int) ≤ 281474976710656 := by rw [Nat.mul_comm]; omega
          rwa [Int.natCast_mul, Int.toNat_of_nonneg hn0] at this
        have hrun := run_make (P := I.P) w t el i Z (elemT_some he) hi hiz .i64 .i64 n n hn0 (Int.le_refl _) hnb (by omega)
        have e1 : a.eval l = .int .i64 n := by
          generalize a.eval l = V at h1
          cases h1 with | d _ _ h => cases h; rfl
        have e2 : a.eval c = .int .i64 n := by
          generalize a.eval c = V at h2
          cases h2 with | d _ _ h => cases h; rfl
        rw [hsz, Nat.mul_one] at hrun
        have hzs : ∃ zv ZV, z = [zv] ∧ Z.cells.toList = [ZV] ∧ AVR g zv ZV := by
          cases z with
          | nil => rw [hsz] at hZl; cases hZl
          | cons zv z =>
            cases z with
            | cons _ _ => rw [hsz] at hZl; simp at hZl
            | nil =>
              generalize Z.cells.toList = L at hZr
              cases hZr with | cons _ _ ZV _ h3 h4 => cases h4; exact ⟨zv, ZV, rfl, rfl, h3⟩
        obtain ⟨zv, ZV, rfl, hZ, hzr⟩ := hzs
        have hZc : Z.cells = #[ZV] := by apply Array.ext'; simpa using hZ
        obtain ⟨h6, h7⟩ := new_row (g := g) (L := .hp e id) (S := slotsP d (stealsO I ⟨dst, .makeSlice t l c, type, pos, after, guard⟩)) (.hp e id) hs.inv el (cs := List.replicate n.toNat (.a zv)) (C := madeCells Z.cells n.toNat) (by simp) (by rw [size_madeCells]; simp) (fun j x hj => by
          have hj2 := (List.getElem?_eq_some_iff.1 hj).1
          rw [List.getElem?_replicate] at hj
          split at hj
          · simp only [Option.some.injEq] at hj; subst hj
            refine ⟨ZV, ?_, .a _ _ hzr⟩
            rw [hZc]
            simp at hj2
            simp [madeCells, hj2, Nat.mod_one]
          · cases hj) (fun j => hsl _ _ _)
        refine res_new hs hid hfr (exec_v (s := Instr.makeSlice t (a.eval l) (a.eval c)) rfl (by rw [e1, e2]; exact hrun)) h6 (by simpa using h7) (fun _ _ => fin_A (new_ms (Nat.le_refl _) (fun _ => rfl)))
      · cases hf
  | call c =>
    rcases call_sm hsm with ⟨f, h⟩ | h | ⟨b, hb, rfl, h⟩ | ⟨f, h⟩ | ⟨f, h⟩ <;> try cases h
    obtain ⟨callee, args, argTypes⟩ := c
    simp only at hb; subst hb
    change OpdsR g beta d a (#[] ++ args).toList vs at hv
    rw [Array.empty_append] at hv
    have hargs : args.map a.eval = ⟨args.toList.map a.eval⟩ := by apply Array.ext'; simp
    match vs, hv, hf with
    | [.r x, .r y], hv, hf =>
      have hal0 : ∃ X Y, args.toList = [X, Y] := by
        have := opds_len hv
        simp at this
        match hq : args.toList, this with
        | [X, Y], _ => exact ⟨X, Y, rfl⟩
        | [], h => simp [← Array.length_toList, hq] at h
        | [_], h => simp [← Array.length_toList, hq] at h
        | _ :: _ :: _ :: _, h => simp [← Array.length_toList, hq] at h
      obtain ⟨X, Y, hal⟩ := hal0
      rw [hal] at hv hargs
      cases hv with | cons X _ _ _ h1 hn1 hv =>
      cases hv with | cons Y _ _ _ h2 hn2 hv =>
      cases hv
      simp only [Option.bind_eq_some_iff] at hf
      obtain ⟨t, ht, u, hu, hA⟩ := hf
      have h1' := h1 _ slotOf_tmp
      have h2' := h2 _ slotOf_tmp
      cases h1' with | r _ _ h1' =>
      cases h2' with | r _ _ h2' =>
      obtain ⟨own', V, w', B, len, cap, cap', off', h3, h4, h5, h6, rfl, h7, h8⟩ := appendA_run (P := I.P) (S := slotsP d (stealsO I ⟨dst, .call ⟨.builtin .append, args, argTypes⟩, type, pos, after, guard⟩)) (ty := type) ht hu hs.inv hs.hp limH_get hA h1' h2' (fun i j => hsl _ _ _)
      rw [h6]
      refine res_new hs hid hfr ?_ h4 h5 (fun _ _ => fin_A (new_ms h7 h8))
      simp [execOp, resolve, invoke, builtin, hargs, h3]
    | [], _, hf => cases hf
    | [_], _, hf => rename_i x _; cases x <;> cases hf
    | [.r _, .lp _ _], _, hf => cases hf
    | [.r _, .gd _ _ _], _, hf => cases hf
    | [.lp _ _, _], _, hf => cases hf
    | [.gd _ _ _, _], _, hf => cases hf
    | _ :: _ :: _ :: _, _, hf => rename_i x y _ _ _; cases x <;> cases y <;> cases hf
end Go.Abs
namespace Go.Abs
variable {g g' : Gh} {w w' : World} {p : Place} {pi : Nat → Place} {beta beta' : Nat → Nat} {d e s' : Nat} {tmps tmps' : Array Value} {T : List Nat}
variable {I : In} {call : CallF} {a : Act} {o : Oper} {vs : List SV} {s : St}

theorem hput_some {h h' : Hp} {i off : Nat} {xs : List CV} (hh : hput h i off xs = some h') : ∃ cs cs', h.m i = some cs ∧ putOk cs off xs = some cs' ∧ h' = hset h i cs' := by
  simp only [hput, Option.bind_eq_some_iff, Option.some.injEq] at hh
  obtain ⟨cs, h1, cs', h2, rfl⟩ := hh
  exact ⟨cs, cs', h1, h2, rfl⟩

/-- An object's cells anew. -/
theorem HpR.hset {h : Hp} {i : Nat} {cs : List CV} (hok : ∀ j, g.ok j ↔ ∃ cs, h.m j = some cs) (hi : ∃ cs0, h.m i = some cs0) (h1 : ∀ j cs', j ≠ i → h.m j = some cs' → j < h.nx ∧ CellsR g w (g.rho j) (.hp e j) (.hp e j) cs') (hin : i < h.nx) (h2 : CellsR g w (g.rho i) (.hp e i) (.hp e i) cs) : HpR g e (hset h i cs) w := by
  constructor
  · intro j
    show g.ok j ↔ ∃ cs', cond (Nat.beq j i) (some cs) (h.m j) = some cs'
    by_cases hj : j = i
    · subst hj
      rw [nbeq_self, hok j]
      simp [hi]
    · rw [nbeq_ne hj]; exact hok j
  · intro j cs' hc
    change cond (Nat.beq j i) (some cs) (h.m j) = some cs' at hc
    by_cases hj : j = i
    · subst hj
      rw [nbeq_self] at hc
      simp only [cond_true, Option.some.injEq] at hc; subst hc
      exact ⟨hin, h2⟩
    · rw [nbeq_ne hj] at hc
      exact h1 j cs' hj hc

theorem wh_op {f : List SV → Hp → Option (RV × Hp)} {r : RV × Hp} (hs : Sim I d e g beta s a w) (hv : OpdsR g beta d a o.op.operands.toList vs) (hsm : smOp I call o = .wh f) (hf : f vs s.h = some r) (hnc : ∀ c, o.op ≠ .call c) : Res I d e g beta a w o (.r r.1) s.b r.2 := by
  have hm := sm_np hsm (by simp) (by simp)
  obtain ⟨dst, op, type, pos, after, guard⟩ := o
  cases hm with
  | load t x =>
    simp only [smOp] at hsm
    split at hsm
    · cases hsm
    · rename_i n hn
      rcases condE hsm with ⟨hl, h⟩ | ⟨hl, h⟩ <;> rcases condE h with ⟨ho, h⟩ | ⟨ho, h⟩ <;> try cases h
      change OpdsR g beta d a [x] vs at hv
      cases hv with | cons _ u _ us h0 hn1 hv =>
      cases hv
      cases u with
      | lp _ _ => cases hf
      | gd _ _ _ => cases hf
      | r u =>
        dsimp only at hf
        have h1 := h0 _ slotOf_tmp
        clear h0
        unfold ldOwnV at hf
        split at hf
        · rename_i i off
          simp only [Option.bind_eq_some_iff, Option.some.injEq] at hf
          obtain ⟨cs', hg, v, hp, h', hput, rfl⟩ := hf
          obtain ⟨cs, hcs, hcut⟩ := hget_some hg
          obtain ⟨cs0, cs2, hcs0, hput, rfl⟩ := hput_some hput
          rw [hcs] at hcs0; cases hcs0
          obtain ⟨_, hx⟩ := opd_ptr h1
          intro K Q hK
          obtain ⟨own', V, h1, h2, h3, h4⟩ := load_own (P := I.P) (.tmp d (dst.getD 0)) (.tup d (dst.getD 0)) hs.inv (hs.hp.obj i cs hcs).2 (by simp) (by simp) (by simp) hcut hn hp hput
          rw [← hx] at h2
          refine wp_val (exec_v rfl h2) (hK ⟨own', g.rho, g.ok⟩ beta V w ⟨h1.gle, fun hsT ht => (h1.tl ht (by simp)).1, fun hsT ht => (h1.tl ht (by simp)).1⟩ h1.inv ?_ ?_ ?_ (fun _ _ => rfl) ?_)
          · exact hs.bx.keep ⟨h1.gle, fun h => h1.bx h, fun ht => (h1.tl ht (by simp)).1⟩
          · refine HpR.hset hs.hp.ok ⟨_, hcs⟩ (fun j cs3 hj hg => ?_) (hs.hp.obj i cs hcs).1 h4
            exact ⟨(hs.hp.obj j cs3 hg).1, (hs.hp.obj j cs3 hg).2.keep h1.gle (fun h => h1.hp h) (fun {b' o' j'} ht => (h1.tl ht (by
              intro he; simp only [Place.hp.injEq] at he; exact hj he.2.1)).1)⟩
          · exact ⟨h1.frame hs.inv (fun p hp => by subst hp; exact Nat.le_refl _), h1.gle⟩
          · intro dd hd
            have := fin_R (I := I) (o := ⟨dst, .load t x, type, pos, after, guard⟩) (beta := beta) (tmps := a.tmps) (SVR.r (s := dst.getD 0) _ _ h3)
            simp only at hd
            subst hd
            exact this
        · cases hf
  | store t x y =>
    simp only [smOp] at hsm
    split at hsm
    · cases hsm
    · rename_i n hn
      rcases condE hsm with ⟨hl, h⟩ | ⟨hl, h⟩
      · cases h
      · rcases condE h with ⟨hl2, h⟩ | ⟨hl2, h⟩ <;> try cases h
        change OpdsR g beta d a [x, y] vs at hv
        cases hv with | cons _ u _ us h0 hn1 hv =>
        cases hv with | cons _ u2 _ us h02 hn2 hv =>
        cases hv
        cases u with
        | lp _ _ => cases hf
        | gd _ _ _ => cases hf
        | r u =>
        cases u2 with
        | lp _ _ => cases hf
        | gd _ _ _ => cases hf
        | r v =>
          dsimp only at hf
          have h1 := h0 _ slotOf_tmp
          clear h0
          have hd : dst = none := by simpa using hl
          unfold stV at hf
          split at hf
          · rename_i i off
            simp only [Option.bind_eq_some_iff] at hf
            obtain ⟨xs, hu, hf⟩ := hf
            obtain ⟨hnx, hf⟩ := cond_none hf
            simp only [Option.bind_eq_some_iff, Option.some.injEq] at hf
            obtain ⟨h', hput, rfl⟩ := hf
            obtain ⟨cs, cs', hcs, hput2, rfl⟩ := hput_some hput
            obtain ⟨_, hx⟩ := opd_ptr h1
            have h3 := h02 _ slotOf_tmp
            cases h3 with | r _ _ h3 =>
            intro K Q hK
            obtain ⟨own', w', h2, h3, h4, h5⟩ := store_row (P := I.P) hs.inv (hs.hp.obj i cs hcs).2 (.inr ⟨e, i, rfl⟩) h3 hu hput2 hn hnx (S := slotsP d (stealsO I ⟨dst, .store t x y, type, pos, after, guard⟩)) (by
              rcases hn2 with ⟨k, rfl⟩ | ⟨z, hz⟩
              · exact .inl ⟨k, by simp [stealsO], .inl rfl⟩
              · exact .inr ⟨z, by cases hz; rfl⟩) (by rintro j ⟨_, _, h | ⟨_, h⟩⟩ <;> cases h)
            rw [← hx] at h4
            have hrun : (execOp a.eval ⟨dst, .store t x y, type, pos, after, guard⟩).run I.P w = .ok .skip w' := by simp [execOp, h4]
            refine wp_skip' hrun (hK ⟨own', g.rho, g.ok⟩ beta undef w' (h2.keep fun _ h => h) h3.inv ?_ ?_ ⟨(h2.frame hs.inv fun p hp => mine_slots hp).trans (h3.frame (Nat.le_refl _)), h2.gle⟩ (fun _ _ => rfl) (by rw [hd]; simp))
            · exact fun k cs hk => (hs.bx.keep (h2.keepB fun _ h => h) k cs hk).stepC h3 (by simp)
            · have hh := hs.hp.keep (h2.keepH fun _ h => h) fun _ h => h
              refine HpR.hset hh.ok ⟨_, hcs⟩ (fun j cs3 hj hg => ?_) (hs.hp.obj i cs hcs).1 h5
              exact ⟨(hh.obj j cs3 hg).1, (hh.obj j cs3 hg).2.stepC h3 (by simp [hj])⟩
          · cases hf
  | alloc t => simp only [smOp] at hsm; split at hsm <;> first | (cases hsm; done) | (rcases condE hsm with ⟨_, h⟩ | ⟨_, h⟩ <;> cases h)
  | box t x => simp only [smOp] at hsm; split at hsm <;> first | (cases hsm; done) | (rcases condE hsm with ⟨_, h⟩ | ⟨_, h⟩ <;> cases h)
  | makeSlice t l c => simp only [smOp] at hsm; rcases condE hsm with ⟨_, h⟩ | ⟨_, h⟩ <;> cases h
  | call c => exact absurd rfl (hnc c)
end Go.Abs
namespace Go.Abs
variable {g g' : Gh} {w w' : World} {p : Place} {pi : Nat → Place} {beta beta' : Nat → Nat} {d e s' : Nat} {tmps tmps' : Array Value} {T : List Nat}
variable {I : In} {call : CallF} {a : Act} {o : Oper} {vs : List SV} {s : St}

/-- What a call leaves. -/
def CallQ (d e : Nat) (g : Gh) (w : World) (r : RV × Hp) : Ending → World → Prop
  | .returned V, w' => ∃ g', WInv g'.own w' ∧ HpR g' e r.2 w' ∧ RVR g' (.ret d) (.rti d) r.1 V ∧ Acc d e g w g' w'
  | _, _ => False

/-- What the abstract machine says of calls is so. -/
structure CallOk (E : Env) (call : CallF) : Prop where
  enters : ∀ {q f args h r}, call q f args h = some r → ∃ fn c, E.P.funcs[f]? = some fn ∧ fn.body = some c
  sound : ∀ {q f args h r}, call q f args h = some r → ∀ {d e g w} {argsV : Array Value}, WInv g.own w → HpR g e h w → (∀ (i : Nat) x, args[i]? = some x → ∃ V, argsV[i]? = some V ∧ CVR g (.tmp d i) x V) → Calls E.P f argsV w (CallQ d e g w r)
  grow : ∀ {q f args h r}, call q f args h = some r → h.nx ≤ r.2.nx ∧ ∀ j, j < h.nx → (h.m j = none → r.2.m j = none) ∧ (q = true → r.2.m j = h.m j)

/-- What is asked of a program. -/
structure EnvOk (E : Env) : Prop where
  order : E.P.follows .mixedOrders = true
  plain : ∀ (f : Nat) (fn : Func), E.P.funcs[f]? = some fn → (fn.name == "runtime.NumGoroutine") = false

theorem Frame.same {own own' : OwnF} {d' e' : Nat} (hf : Frame d' e' own w own' w') (hw : WInv own w) {b o : Nat} (hn : own b o ≠ .ext) (hm : ¬ (own b o).mine d' e') : own' b o = own b o ∧ w'.cell? ⟨b, o, none⟩ = w.cell? ⟨b, o, none⟩ :=
  hf.cell b o (hw.lt hn) hm
theorem Own.mine_mono {L : Own} {d e d' e' : Nat} (h : L.mine d' e') (hd : d ≤ d') (he : e ≤ e') : L.mine d e := by
  cases L with
  | tl p => cases p <;> simp only [Own.mine, Place.mine] at h ⊢ <;> omega
  | _ => simp only [Own.mine] at h ⊢ <;> omega
theorem Frame.mono {own own' : OwnF} {d e d' e' : Nat} (hf : Frame d' e' own w own' w') (hd : d ≤ d') (he : e ≤ e') : Frame d e own w own' w' :=
  ⟨hf.os, hf.tape, hf.output, hf.size, hf.form, fun b o hb hm => hf.cell b o hb fun h => hm (Own.mine_mono h hd he)⟩

/-- The places of what a call gives. -/
def retP (d : Nat) : Place → Prop
  | .ret d' => d' = d
  | .rti d' _ => d' = d
  | _ => False
def retMap (d dst : Nat) : Place → Place
  | .ret d' => if d' = d + 1 then .tmp d dst else .ret d'
  | .rti d' i => if d' = d + 1 then .tup d dst i else .rti d' i
  | p => p
theorem retMap_ne {d dst : Nat} {p : Place} (h : retMap d dst p ≠ p) : retP (d + 1) p := by
  cases p with
  | ret d' => by_cases e : d' = d + 1
              · exact e
              · simp only [retMap, if_neg e] at h; exact absurd rfl h
  | rti d' i => by_cases e : d' = d + 1
                · exact e
                · simp only [retMap, if_neg e] at h; exact absurd rfl h
  | _ => exact absurd rfl h
theorem ret_mine {d e : Nat} {p : Place} (h : retP (d + 1) p) : p.mine d e := by
  cases p <;> simp only [retP] at h <;> simp only [Place.mine] <;> omega
theorem ret_RVR {dst : Nat} {x : RV} {V : Value} (h : RVR g (.ret (d + 1)) (.rti (d + 1)) x V) : RVR ⟨relM (retMap d dst) g.own, g.rho, g.ok⟩ (.tmp d dst) (.tup d dst) x V := by
  have := h.relM (f := retMap d dst)
  simpa only [retMap, if_true] using this

/-- A call's op, its arguments in their places. -/
theorem call_core {q : Bool} {f : FuncId} {argsC : List CV} {argsV : Array Value} {r : RV × Hp} {own1 : OwnF} (hC : CallOk I.toEnv call) (hs : Sim I d e g beta s a w) (hcall : call q f argsC s.h = some r)
    (hst : Step (slotsP d (stealsO I o)) g.own w own1 w) (hargs : ∀ (i : Nat) x, argsC[i]? = some x → ∃ V, argsV[i]? = some V ∧ CVR ⟨own1, g.rho, g.ok⟩ (.tmp (d + 1) i) x V) (hx : (execOp a.eval o).run I.P w = .ok (.enter f argsV) w) :
    Res I d e g beta a w o (.r r.1) s.b r.2 := by
  intro K Q hK
  have k1 := hst.keep (g := g) (d := d) (T := stealsO I o) fun _ h => h
  have k2 := hst.keepB (g := g) (d := d) (T := stealsO I o) (d' := d) fun _ h => h
  have h1 := hC.sound hcall (d := d + 1) (e := e) (g := ⟨own1, g.rho, g.ok⟩) hst.inv (hs.hp.keep (hst.keepH fun _ h => h) fun _ h => h) hargs
  unfold Oper.wp
  rw [hx]
  refine Calls.mono h1 ?_
  intro en w' hq
  cases en with
  | panicked c => exact hq.elim
  | outgrown => exact hq.elim
  | returned V =>
    obtain ⟨g', h2, h3, h4, h5⟩ := hq
    have hst2 := step_relM (S := retP (d + 1)) h2 (retMap d (o.dst.getD 0)) (fun p hp => retMap_ne hp)
    have hsame : ∀ {b o'}, own1 b o' ≠ .ext → ¬ (own1 b o').mine (d + 1) e → g'.own b o' = own1 b o' ∧ w'.cell? ⟨b, o', none⟩ = w.cell? ⟨b, o', none⟩ := fun hn hm => h5.frame.same hst.inv hn hm
    have hle : GLe g ⟨relM (retMap d (o.dst.getD 0)) g'.own, g'.rho, g'.ok⟩ := (k1.le.trans h5.gle).trans hst2.gle
    refine hK ⟨relM (retMap d (o.dst.getD 0)) g'.own, g'.rho, g'.ok⟩ beta V w' ⟨hle, ?_, ?_⟩ hst2.inv (hs.bx.keep ⟨hle, ?_, ?_⟩) (h3.keep ⟨hst2.gle, fun h => hst2.hp h, fun h => (hst2.tl h (by simp [retP])).1⟩ fun _ h => h) ⟨?_, hle⟩ (fun _ _ => rfl) ?_
    · intro b o' s' hT ht
      have e1 : own1 b o' = .tl (.tmp d s') := k1.tmp hT ht
      have e2 := hsame (b := b) (o' := o') (by rw [e1]; simp) (by rw [e1]; simp only [Own.mine, Place.mine]; omega)
      have e3 : g'.own b o' = .tl (.tmp d s') := e2.1.trans e1
      exact (hst2.tl e3 (by simp [retP])).1
    · intro b o' s' i hT ht
      have e1 : own1 b o' = .tl (.tup d s' i) := k1.tup hT ht
      have e2 := hsame (b := b) (o' := o') (by rw [e1]; simp) (by rw [e1]; simp only [Own.mine, Place.mine]; omega)
      have e3 : g'.own b o' = .tl (.tup d s' i) := e2.1.trans e1
      exact (hst2.tl e3 (by simp [retP])).1
    · intro b o' k ht
      obtain ⟨e1, e1'⟩ := k2.bx ht
      have e1 : own1 b o' = .bx d k := e1
      have e2 := hsame (b := b) (o' := o') (by rw [e1]; simp) (by rw [e1]; simp only [Own.mine]; omega)
      have e3 := hst2.bx (e2.1.trans e1)
      exact ⟨e3.1, e3.2.trans (e2.2.trans e1')⟩
    · intro b o' k j ht
      have e1 : own1 b o' = .tl (.bx d k j) := k2.tl ht
      have e2 := hsame (b := b) (o' := o') (by rw [e1]; simp) (by rw [e1]; simp only [Own.mine, Place.mine]; omega)
      exact (hst2.tl (e2.1.trans e1) (by simp [retP])).1
    · exact ((hst.frame hs.inv fun p hp => mine_slots hp).trans (h5.frame.mono (by omega) (Nat.le_refl _))).trans (hst2.frame h2 fun p hp => ret_mine hp)
    · intro dd hd
      have h6 := fin_R (I := I) (o := o) (beta := beta) (tmps := a.tmps) (SVR.r (s := o.dst.getD 0) _ _ (ret_RVR (dst := o.dst.getD 0) h4))
      rw [hd] at h6
      rw [hd]
      exact h6

theorem PR.data_free {own' : OwnF} {x : PV} {V : Value} (h : PR g.own x V) (hm : ∀ b o v, g.own b o = .fz v → own' b o = .fz v) : PR own' x V := h.mono hm
/-- Data hangs on no object. -/
theorem CVR.data {x : CV} {V : Value} (h : CVR g p x V) (hx : dataC [x] = true) (rho' : Nat → Nat) (ok' : Nat → Prop) : CVR ⟨g.own, rho', ok'⟩ p x V := by
  cases h with
  | a v V h =>
    cases v with
    | d q => cases h with | d _ _ h => exact .a _ _ (.d _ _ h)
    | _ => cases hx
  | own0 sz => exact .own0 sz
  | ow sz l b off cap Vs h hz hl hc hf ht h0 => exact .ow sz l b off cap Vs h hz hl hc hf ht h0
theorem dataC_get {xs : List CV} (h : dataC xs = true) {i : Nat} {x : CV} (hx : xs[i]? = some x) : dataC [x] = true := by
  induction xs generalizing i with
  | nil => simp at hx
  | cons y ys ih =>
    have h1 : dataC [y] = true ∧ dataC ys = true := by
      cases y with
      | a v => cases v with
        | d q => exact ⟨rfl, h⟩
        | _ => cases h
      | ow sz n l => exact ⟨rfl, h⟩
    cases i with
    | zero => simp at hx; subst hx; exact h1.1
    | succ i => exact ih h1.2 (by simpa using hx)
theorem data?_eq {x y : RV} (h : x.data? = some y) : x = y := by
  cases x with
  | c c => obtain ⟨_, h⟩ := cond_none h; simpa using h
  | tup xs => obtain ⟨_, h⟩ := cond_none h; simpa using h
theorem RVR.data {x y : RV} {V : Value} (h : RVR g p pi x V) (hx : x.data? = some y) (rho' : Nat → Nat) (ok' : Nat → Prop) : RVR ⟨g.own, rho', ok'⟩ p pi x V := by
  cases h with
  | c c V h => exact .c _ _ (h.data (cond_none hx).1 _ _)
  | tup xs Vs hl h => exact .tup _ _ hl (fun i x hi => let ⟨V, h1, h2⟩ := h i x hi; ⟨V, h1, h2.data (dataC_get (cond_none hx).1 hi) _ _⟩)

/-- A call in a heap of its own. -/
theorem call_iso {q : Bool} {f : FuncId} {argsC : List CV} {argsV : Array Value} {r : RV × Hp} {v : RV} {own1 : OwnF} (hC : CallOk I.toEnv call) (hs : Sim I d e g beta s a w) (hcall : call q f argsC h0 = some r) (hr : r.1.data? = some v)
    (hst : Step (slotsP d (stealsO I o)) g.own w own1 w) (hd : dataC argsC = true) (hargs : ∀ (i : Nat) x, argsC[i]? = some x → ∃ V, argsV[i]? = some V ∧ CVR ⟨own1, g.rho, g.ok⟩ (.tmp (d + 1) i) x V) (hx : (execOp a.eval o).run I.P w = .ok (.enter f argsV) w) :
    Res I d e g beta a w o (.r v) s.b s.h := by
  intro K Q hK
  have hv := data?_eq hr
  subst hv
  have k1 := hst.keep (g := g) (d := d) (T := stealsO I o) fun _ h => h
  have k2 := hst.keepB (g := g) (d := d) (T := stealsO I o) (d' := d) fun _ h => h
  have k3 := hst.keepH (g := g) (d := d) (T := stealsO I o) (e := e) fun _ h => h
  have h1 := hC.sound hcall (d := d + 1) (e := e + 1) (g := ⟨own1, g.rho, fun _ => False⟩) hst.inv ⟨fun i => ⟨False.elim, fun ⟨cs, h⟩ => by cases h⟩, fun i cs h => by cases h⟩ (fun i x hi => by
    obtain ⟨V, h2, h3⟩ := hargs i x hi
    exact ⟨V, h2, h3.data (dataC_get hd hi) _ _⟩)
  unfold Oper.wp
  rw [hx]
  refine Calls.mono h1 ?_
  intro en w' hq
  cases en with
  | panicked c => exact hq.elim
  | outgrown => exact hq.elim
  | returned V =>
    obtain ⟨g', h2, h3, h4, h5⟩ := hq
    have hst2 := step_relM (S := retP (d + 1)) h2 (retMap d (o.dst.getD 0)) (fun p hp => retMap_ne hp)
    have hsame : ∀ {b o'}, own1 b o' ≠ .ext → ¬ (own1 b o').mine (d + 1) (e + 1) → g'.own b o' = own1 b o' ∧ w'.cell? ⟨b, o', none⟩ = w.cell? ⟨b, o', none⟩ := fun hn hm => h5.frame.same hst.inv hn hm
    have hle : GLe g ⟨relM (retMap d (o.dst.getD 0)) g'.own, g.rho, g.ok⟩ := ⟨fun b o v h => hst2.fz (h5.gle.fz b o v (k1.le.fz b o v h)), fun _ h => h, fun _ _ => rfl⟩
    refine hK ⟨relM (retMap d (o.dst.getD 0)) g'.own, g.rho, g.ok⟩ beta V w' ⟨hle, ?_, ?_⟩ hst2.inv (hs.bx.keep ⟨hle, ?_, ?_⟩) (hs.hp.keep ⟨hle, ?_, ?_⟩ fun _ h => h) ⟨?_, hle⟩ (fun _ _ => rfl) ?_
    · intro b o' s' hT ht
      have e1 : own1 b o' = .tl (.tmp d s') := k1.tmp hT ht
      have e2 := hsame (b := b) (o' := o') (by rw [e1]; simp) (by rw [e1]; simp only [Own.mine, Place.mine]; omega)
      exact (hst2.tl (e2.1.trans e1) (by simp [retP])).1
    · intro b o' s' i hT ht
      have e1 : own1 b o' = .tl (.tup d s' i) := k1.tup hT ht
      have e2 := hsame (b := b) (o' := o') (by rw [e1]; simp) (by rw [e1]; simp only [Own.mine, Place.mine]; omega)
      exact (hst2.tl (e2.1.trans e1) (by simp [retP])).1
    · intro b o' k ht
      obtain ⟨e1, e1'⟩ := k2.bx ht
      have e1 : own1 b o' = .bx d k := e1
      have e2 := hsame (b := b) (o' := o') (by rw [e1]; simp) (by rw [e1]; simp only [Own.mine]; omega)
      have e3 := hst2.bx (e2.1.trans e1)
      exact ⟨e3.1, e3.2.trans (e2.2.trans e1')⟩
    · intro b o' k j ht
      have e1 : own1 b o' = .tl (.bx d k j) := k2.tl ht
      have e2 := hsame (b := b) (o' := o') (by rw [e1]; simp) (by rw [e1]; simp only [Own.mine, Place.mine]; omega)
      exact (hst2.tl (e2.1.trans e1) (by simp [retP])).1
    · intro b o' k ht
      obtain ⟨e1, e1'⟩ := k3.hp ht
      have e1 : own1 b o' = .hp e k := e1
      have e2 := hsame (b := b) (o' := o') (by rw [e1]; simp) (by rw [e1]; simp only [Own.mine]; omega)
      have e3 := hst2.hp (e2.1.trans e1)
      exact ⟨e3.1, e3.2.trans (e2.2.trans e1')⟩
    · intro b o' k j ht
      have e1 : own1 b o' = .tl (.hp e k j) := k3.tl ht
      have e2 := hsame (b := b) (o' := o') (by rw [e1]; simp) (by rw [e1]; simp only [Own.mine, Place.mine]; omega)
      exact (hst2.tl (e2.1.trans e1) (by simp [retP])).1
    · exact ((hst.frame hs.inv fun p hp => mine_slots hp).trans (h5.frame.mono (by omega) (by omega))).trans (hst2.frame h2 fun p hp => ret_mine hp)
    · intro dd hd
      have h6 := fin_R (I := I) (o := o) (beta := beta) (tmps := a.tmps) (SVR.r (s := o.dst.getD 0) _ _ ((ret_RVR (dst := o.dst.getD 0) h4).data hr g.rho g.ok))
      rw [hd] at h6
      rw [hd]
      exact h6
end Go.Abs
namespace Go.Abs
variable {g g' : Gh} {w w' : World} {p : Place} {pi : Nat → Place} {beta beta' : Nat → Nat} {d e s' : Nat} {tmps tmps' : Array Value} {T : List Nat}
variable {I : In} {call : CallF} {a : Act} {o : Oper} {vs : List SV} {s : St}

theorem cvs_get {al : List Operand} {xs : List CV} (h : OpdsR g beta d a al vs) (hc : cvsS vs = some xs) : xs.length = al.length ∧ ∀ (i : Nat) x, xs[i]? = some x →
    ∃ oi, al[i]? = some oi ∧ (∀ s, (∀ k, oi = .tmp k → s = k) → CVR g (.tmp d s) x (a.eval oi)) ∧ ((∃ k, oi = .tmp k) ∨ ∃ y, x = .a y) := by
  induction h generalizing xs with
  | nil => simp [cvsS] at hc; subst hc; exact ⟨rfl, by simp⟩
  | cons x v al vs h hn hs ih =>
    simp only [cvsS, Option.bind_eq_some_iff, Option.some.injEq] at hc
    obtain ⟨y, hy, ys, hys, rfl⟩ := hc
    obtain ⟨h1, h2⟩ := ih hys
    refine ⟨by simp [h1], fun i z hz => ?_⟩
    cases i with
    | zero =>
      simp at hz; subst hz
      refine ⟨x, by simp, fun s hs => (h s hs).cv hy, ?_⟩
      rcases hn with h | ⟨u, rfl⟩
      · exact .inl h
      · simp only [sA, rA, SV.cv?, RV.cv?, Option.some.injEq] at hy; subst hy; exact .inr ⟨_, rfl⟩
    | succ i =>
      obtain ⟨oi, h3, h4⟩ := h2 i z (by simpa using hz)
      exact ⟨oi, by simpa using h3, h4⟩

/-- All arguments demoted. -/
theorem args_dem {al : List Operand} {xs : List CV} (h : OpdsR g beta d a al vs) (hc : cvsS vs = some xs) (pl : Nat → Place) : ∀ (i : Nat) x, (xs.map CV.dem)[i]? = some x → ∃ V, (⟨al.map a.eval⟩ : Array Value)[i]? = some V ∧ CVR g (pl i) x V := by
  intro i x hx
  simp only [List.getElem?_map, Option.map_eq_some_iff] at hx
  obtain ⟨y, hy, rfl⟩ := hx
  obtain ⟨oi, h1, h2, _⟩ := (cvs_get h hc).2 i y hy
  exact ⟨a.eval oi, by simp [h1], (h2 _ slotOf_tmp).dem⟩

def argIdx (own : List Nat) : Nat → List Operand → Nat → Option Nat
  | _, [], _ => none
  | i, .tmp s :: r, k => cond (has own i && Nat.beq s k) (some i) (argIdx own (i + 1) r k)
  | i, .const _ :: r, k => argIdx own (i + 1) r k
  | i, .global _ :: r, k => argIdx own (i + 1) r k
  | i, .func _ :: r, k => argIdx own (i + 1) r k
theorem argIdx_mem {own : List Nat} : ∀ {al : List Operand} {n k i : Nat}, argIdx own n al k = some i → k ∈ stealArgs own n al := by
  intro al
  induction al with
  | nil => intro n k i h; cases h
  | cons x al ih =>
    intro n k i h
    cases x with
    | tmp s =>
      unfold argIdx at h
      rcases condE h with ⟨h1, _⟩ | ⟨h1, h2⟩
      · simp only [Bool.and_eq_true] at h1
        have := nbeq_eq h1.2
        subst this
        simp [stealArgs, h1.1]
      · have := ih h2
        unfold stealArgs
        cases has own n
        · exact this
        · exact List.mem_cons_of_mem _ this
    | const _ => exact ih h
    | global _ => exact ih h
    | func _ => exact ih h
theorem stealArgs_mem {own : List Nat} : ∀ {al : List Operand} {n j k : Nat}, al[j]? = some (.tmp k) → has own (n + j) = true → k ∈ stealArgs own n al := by
  intro al
  induction al with
  | nil => intro n j k h; simp at h
  | cons x al ih =>
    intro n j k h ho
    cases j with
    | zero => simp at h; subst h; simp at ho; simp [stealArgs, ho]
    | succ j =>
      have := ih (n := n + 1) (j := j) (by simpa using h) (by rwa [show n + 1 + j = n + (j + 1) by omega])
      cases x with
      | tmp s =>
        unfold stealArgs
        cases has own n
        · exact this
        · exact List.mem_cons_of_mem _ this
      | const _ => exact this
      | global _ => exact this
      | func _ => exact this
theorem argIdx_eq {own : List Nat} : ∀ {al : List Operand} {n j k : Nat}, nodupB (stealArgs own n al) = true → al[j]? = some (.tmp k) → has own (n + j) = true → argIdx own n al k = some (n + j) := by
  intro al
  induction al with
  | nil => intro n j k _ h; simp at h
  | cons x al ih =>
    intro n j k hd h ho
    cases x with
    | tmp s =>
      unfold stealArgs at hd
      unfold argIdx
      cases hn : has own n with
      | true =>
        rw [hn] at hd
        simp only [cond_true, nodupB] at hd
        obtain ⟨hd1, hd2⟩ := cond_none'' hd
        cases j with
        | zero => simp at h; subst h; simp [nbeq_self]
        | succ j =>
          have hh : al[j]? = some (.tmp k) := by simpa using h
          have ho' : has own (n + 1 + j) = true := by rwa [show n + 1 + j = n + (j + 1) by omega]
          have hm := stealArgs_mem hh ho'
          have hne : s ≠ k := by
            rintro rfl
            rw [has_iff.2 hm] at hd1; cases hd1
          rw [nbeq_ne hne]
          simp only [Bool.and_false, cond_false]
          rw [ih hd2 hh ho']; congr 1; omega
      | false =>
        rw [hn] at hd
        simp only [Bool.false_and, cond_false] at hd ⊢
        cases j with
        | zero => simp at ho; rw [ho] at hn; cases hn
        | succ j => rw [ih hd (by simpa using h) (by rwa [show n + 1 + j = n + (j + 1) by omega])]; congr 1; omega
    | _ =>
      cases j with
      | zero => simp at h
      | succ j =>
        unfold argIdx
        unfold stealArgs at hd
        rw [ih hd (by simpa using h) (by rwa [show n + 1 + j = n + (j + 1) by omega])]; congr 1; omega

def argMap (d : Nat) (own : List Nat) (al : List Operand) : Place → Place
  | .tmp d' k => if d' = d then (match argIdx own 0 al k with | some i => .tmp (d + 1) i | none => .tmp d' k) else .tmp d' k
  | p => p
theorem argMap_ne {own : List Nat} {al : List Operand} {p : Place} (h : argMap d own al p ≠ p) : slotsP d (stealArgs own 0 al) p := by
  cases p with
  | tmp d' k =>
    by_cases hd : d' = d
    · subst hd
      simp only [argMap, if_true] at h
      cases hi : argIdx own 0 al k with
      | some i => exact ⟨k, argIdx_mem hi, .inl rfl⟩
      | none => rw [hi] at h; exact absurd rfl h
    · simp only [argMap, if_neg hd] at h; exact absurd rfl h
  | _ => exact absurd rfl h
theorem pass_get {own : List Nat} : ∀ {xs : List CV} {n i : Nat} {x : CV}, (passCV own n xs)[i]? = some x → ∃ y, xs[i]? = some y ∧ x = cond (has own (n + i)) y y.dem := by
  intro xs
  induction xs with
  | nil => intro n i x h; simp [passCV] at h
  | cons y ys ih =>
    intro n i x h
    cases i with
    | zero => simp [passCV] at h; exact ⟨y, by simp, by rw [← h]; rfl⟩
    | succ i =>
      obtain ⟨z, h1, h2⟩ := ih (n := n + 1) (i := i) (by simpa [passCV] using h)
      exact ⟨z, by simpa using h1, by rw [h2, show n + 1 + i = n + (i + 1) by omega]⟩
theorem args_pass {own : List Nat} {al : List Operand} {xs : List CV} (h : OpdsR g beta d a al vs) (hc : cvsS vs = some xs) (hd : nodupB (stealArgs own 0 al) = true) :
    ∀ (i : Nat) x, (passCV own 0 xs)[i]? = some x → ∃ V, (⟨al.map a.eval⟩ : Array Value)[i]? = some V ∧ CVR ⟨relM (argMap d own al) g.own, g.rho, g.ok⟩ (.tmp (d + 1) i) x V := by
  intro i x hx
  obtain ⟨y, hy, rfl⟩ := pass_get hx
  obtain ⟨oi, h1, h2, h3⟩ := (cvs_get h hc).2 i y hy
  refine ⟨a.eval oi, by simp [h1], ?_⟩
  have h4 := h2 _ slotOf_tmp
  have h5 := h4.relM (f := argMap d own al)
  cases ho : has own (0 + i) with
  | false => exact h5.dem
  | true =>
    rcases h3 with ⟨k, rfl⟩ | ⟨z, rfl⟩
    · have : argMap d own al (.tmp d (slotOf (.tmp k))) = .tmp (d + 1) i := by
        have := argIdx_eq hd h1 ho
        simp only [Nat.zero_add] at this
        simp [argMap, slotOf, this]
      rw [this] at h5
      exact h5
    · cases h5 with | a _ _ h => exact .a _ _ h

theorem run_callFunc (hE : EnvOk I.toEnv) {f : FuncId} {fn : Func} {c : Code} {args : Array Value} (hf : I.P.funcs[f]? = some fn) (hb : fn.body = some c) : (callFunc f args).run I.P w = .ok (.enter f args) w := by
  have h1 := hE.plain f fn hf
  unfold callFunc
  have hp : (program).run I.P w = .ok I.P w := rfl
  simp only [Sem.run_bind, hp, Result.andThen, hf, h1, hb, Option.isNone_some, Bool.false_eq_true, if_false]
  rfl
end Go.Abs
namespace Go.Abs
variable {g g' : Gh} {w w' : World} {p : Place} {pi : Nat → Place} {beta beta' : Nat → Nat} {d e s' : Nat} {tmps tmps' : Array Value} {T : List Nat}
variable {I : In} {call : CallF} {a : Act} {o : Oper} {vs : List SV} {s : St}

theorem opds_cons {x : Operand} {args : Array Operand} (h : OpdsR g beta d a (#[x] ++ args).toList vs) : ∃ v vs', vs = v :: vs' ∧ (∀ s, (∀ k, x = .tmp k → s = k) → SVR g beta d s a.tmps v (a.eval x)) ∧ OpdsR g beta d a args.toList vs' := by
  rw [Array.toList_append] at h
  change OpdsR g beta d a (x :: args.toList) vs at h
  cases h with | cons _ v _ vs' h1 _ h2 => exact ⟨v, vs', rfl, h1, h2⟩
theorem args_arr (args : Array Operand) : args.map a.eval = ⟨args.toList.map a.eval⟩ := by apply Array.ext'; simp

theorem exec_known (hE : EnvOk I.toEnv) {f : FuncId} {fn : Func} {c : Code} (hf : I.P.funcs[f]? = some fn) (hb : fn.body = some c) {args : Array Operand} {argTypes : Array TypeId} {dst : Option Tmp} {type : TypeId} {pos : String} {after : Array Edge} {guard : Option (Nat × Bool)} :
    (execOp a.eval ⟨dst, .call ⟨.value (.func f), args, argTypes⟩, type, pos, after, guard⟩).run I.P w = .ok (.enter f ⟨args.toList.map a.eval⟩) w := by
  have h := run_callFunc (I := I) (w := w) hE (args := (#[] ++ args.map a.eval) ++ #[]) hf hb
  have he : a.eval (.func f) = .func (.func f) #[] #[] := rfl
  simp only [execOp, resolve, he, Deferred.ofValue, Sem.run_bind, Sem.run_pure, Result.andThen, invoke, h]
  simp [args_arr]
/-- A function value. -/
theorem exec_value (hE : EnvOk I.toEnv) {f : FuncId} {fn : Func} {c : Code} (hf : I.P.funcs[f]? = some fn) (hb : fn.body = some c) {k : Nat} {ca : List Value} {args : Array Operand} {argTypes : Array TypeId} {dst : Option Tmp} {type : TypeId} {pos : String} {after : Array Edge} {guard : Option (Nat × Bool)}
    (he : a.eval (.tmp k) = .func (.func f) #[] ⟨ca⟩) :
    (execOp a.eval ⟨dst, .call ⟨.value (.tmp k), args, argTypes⟩, type, pos, after, guard⟩).run I.P w = .ok (.enter f ⟨args.toList.map a.eval ++ ca⟩) w := by
  have h := run_callFunc (I := I) (w := w) hE (args := (#[] ++ args.map a.eval) ++ ⟨ca⟩) hf hb
  simp only [execOp, resolve, he, Deferred.ofValue, Sem.run_bind, Sem.run_pure, Result.andThen, invoke, h]
  simp [args_arr]
theorem run_method {P : Program} {t : TypeId} {name : String} {f : FuncId} (h : methodV P t name = some f) {V : Value} {n : Nat} : (Go.method (n + 1) t V name).run P w = .ok (f, V) w := by
  simp only [methodV, Option.bind_eq_some_iff] at h
  obtain ⟨i, hi, m, hm, h⟩ := h
  obtain ⟨hp, h⟩ := cond_none h
  simp only [Option.bind_eq_some_iff] at h
  obtain ⟨r, hr, h⟩ := h
  have hpath : m.path.toList = [] := by simpa using hp
  have hti : (typeInfo t).run P w = .ok i w := by simp [typeInfo, hi]
  obtain ⟨r1, r2⟩ := r
  split at h
  · rename_i el hu
    obtain ⟨h1, h2⟩ := cond_none h
    simp only [Option.some.injEq] at h2; subst h2
    simp only at h1; subst h1
    simp [Go.method, hti, hm, hpath, follow, hr, receiverAt, run_underlying' hu, Go.Place.get]
  · rename_i td hn hu
    obtain ⟨h1, h2⟩ := cond_none' h
    simp only [Option.some.injEq] at h2; subst h2
    simp only at h1; subst h1
    simp only [Go.method, Sem.run_bind, hti, Result.andThen, hm, hpath, follow, Sem.run_pure, hr, receiverAt, run_underlying' hu]
    cases td <;> first | (simp [Go.Place.get]; done) | exact absurd rfl (hn _)
  · cases h
theorem exec_invoke (hE : EnvOk I.toEnv) {f : FuncId} {fn : Func} {c : Code} (hf : I.P.funcs[f]? = some fn) (hb : fn.body = some c) {x : Operand} {t : TypeId} {V : Value} {name : String} {args : Array Operand} {argTypes : Array TypeId} {dst : Option Tmp} {type : TypeId} {pos : String} {after : Array Edge} {guard : Option (Nat × Bool)}
    (he : a.eval x = .iface t V) (hm : methodV I.P t name = some f) :
    (execOp a.eval ⟨dst, .call ⟨.invoke x name, args, argTypes⟩, type, pos, after, guard⟩).run I.P w = .ok (.enter f ⟨V :: args.toList.map a.eval⟩) w := by
  have h := run_callFunc (I := I) (w := w) hE (args := #[V] ++ args.map a.eval) hf hb
  have h2 := run_method (w := w) hm (V := V) (n := I.P.types.size + 99)
  have hp : (program).run I.P w = .ok I.P w := rfl
  have hsz : I.P.types.size + Made.depth = I.P.types.size + 99 + 1 := rfl
  simp only [execOp, resolve, he, Sem.run_bind, Sem.run_pure, Result.andThen, invoke]
  have h0 : (#[Value.iface t V] ++ args.map a.eval)[0]? = some (.iface t V) := by rw [Array.getElem?_append_left (by simp)]; rfl
  have hex : (#[Value.iface t V] ++ args.map a.eval).extract 1 (#[Value.iface t V] ++ args.map a.eval).size = args.map a.eval := by
    apply Array.ext'
    simp only [Array.toList_extract, List.extract, Array.toList_append, Array.size_append, Array.toList_map, Array.size_map, List.size_toArray, List.length_cons, List.length_nil]
    simp
    apply List.take_of_length_le
    simp
  simp only [h0, hex, callMethod, Sem.run_bind, hp, Result.andThen, hsz, h2, h]
  simp [args_arr]

theorem known_call (hE : EnvOk I.toEnv) (hC : CallOk I.toEnv call) (hs : Sim I d e g beta s a w) {f : FuncId} {args : Array Operand} {argTypes : Array TypeId} {dst : Option Tmp} {type : TypeId} {pos : String} {after : Array Edge} {guard : Option (Nat × Bool)} {vs' : List SV} {xs : List CV} {q : Bool} {r : RV × Hp}
    (hv : OpdsR g beta d a args.toList vs') (hc : cvsS vs' = some xs) (hn : nodupB (stealArgs (I.H f).own 0 args.toList) = true) (hcall : call q f (passCV (I.H f).own 0 xs) s.h = some r) :
    Res I d e g beta a w ⟨dst, .call ⟨.value (.func f), args, argTypes⟩, type, pos, after, guard⟩ (.r r.1) s.b r.2 := by
  obtain ⟨fn, c, h1, h2⟩ := hC.enters hcall
  exact call_core hC hs hcall (step_relM hs.inv (argMap d (I.H f).own args.toList) (fun p hp => argMap_ne hp)) (args_pass hv hc hn) (exec_known hE h1 h2)

theorem p_call (hE : EnvOk I.toEnv) (hC : CallOk I.toEnv call) (hs : Sim I d e g beta s a w) {f : FuncId} {args : Array Operand} {argTypes : Array TypeId} {dst : Option Tmp} {type : TypeId} {pos : String} {after : Array Edge} {guard : Option (Nat × Bool)} {F : List SV → Option SV} {v : SV}
    (hv : OpdsR g beta d a (Oper.mk dst (.call ⟨.value (.func f), args, argTypes⟩) type pos after guard).op.operands.toList vs) (hsm : smOp I call ⟨dst, .call ⟨.value (.func f), args, argTypes⟩, type, pos, after, guard⟩ = .p F) (hf : F vs = some v) :
    Res I d e g beta a w ⟨dst, .call ⟨.value (.func f), args, argTypes⟩, type, pos, after, guard⟩ v s.b s.h := by
  obtain ⟨v0, vs', rfl, _, hv'⟩ := opds_cons (show OpdsR g beta d a (#[Operand.func f] ++ args).toList vs from hv)
  simp only [smOp, callSm] at hsm
  rcases condE hsm with ⟨hn, h⟩ | ⟨hn, h⟩
  · rcases condE h with ⟨hi, h⟩ | ⟨hi, h⟩
    · simp only [Sm.p.injEq] at h; subst h
      simp only [List.tail_cons, Option.bind_eq_some_iff] at hf
      obtain ⟨xs, hxs, hf⟩ := hf
      obtain ⟨hd, hf⟩ := cond_none hf
      simp only [Option.bind_eq_some_iff, Option.some.injEq] at hf
      obtain ⟨r, hr, u, hu, rfl⟩ := hf
      obtain ⟨fn, c, h1, h2⟩ := hC.enters hr
      have hdp : dataC (passCV (I.H f).own 0 xs) = true := by
        have key : ∀ (xs : List CV) n, dataC xs = true → dataC (passCV (I.H f).own n xs) = true := by
          intro xs
          induction xs with
          | nil => intro n _; rfl
          | cons x xs ih =>
            intro n h
            unfold passCV
            cases x with
            | a v => cases v with
              | d q => cases has (I.H f).own n <;> exact ih _ h
              | _ => cases h
            | ow sz b l => cases has (I.H f).own n <;> exact ih _ h
        exact key xs 0 hd
      exact call_iso hC hs hr hu (step_relM hs.inv (argMap d (I.H f).own args.toList) (fun p hp => argMap_ne hp)) hdp (args_pass hv' hxs hn) (exec_known hE h1 h2)
    · rcases condE h with ⟨_, h⟩ | ⟨_, h⟩ <;> cases h
  · cases h

theorem ofV_fn {f : FuncId} {k : Nat} (h : SVR g beta d s' a.tmps (.r (.c (.a (.d (.fn f))))) (a.eval (.tmp k))) : a.eval (.tmp k) = .func (.func f) #[] ⟨[]⟩ := by
  generalize a.eval (.tmp k) = V at h
  cases h with | r _ _ h => cases h with | c _ _ h => cases h with | a _ _ h => cases h with | d _ _ h => cases h; rfl
theorem ofV_fnc {f : FuncId} {k : Nat} {ca : List AV} (h : SVR g beta d s' a.tmps (.r (.c (.a (.fnc f ca)))) (a.eval (.tmp k))) : ∃ Vs, a.eval (.tmp k) = .func (.func f) #[] ⟨Vs⟩ ∧ AVRs g ca Vs := by
  generalize a.eval (.tmp k) = V at h
  cases h with | r _ _ h => cases h with | c _ _ h => cases h with | a _ _ h => cases h with | fnc _ _ Vs h => exact ⟨Vs, rfl, h⟩
theorem cvr_app {xs : List CV} {Vs : List Value} {ca : List AV} {Ws : List Value} {pl : Nat → Place} (hl : xs.length = Vs.length) (h : ∀ (i : Nat) x, xs[i]? = some x → ∃ V, (⟨Vs⟩ : Array Value)[i]? = some V ∧ CVR g (pl i) x V) (hc : AVRs g ca Ws) :
    ∀ (i : Nat) x, (xs ++ ca.map .a)[i]? = some x → ∃ V, (⟨Vs ++ Ws⟩ : Array Value)[i]? = some V ∧ CVR g (pl i) x V := by
  intro i x hx
  simp only [List.getElem?_append] at hx
  split at hx
  · obtain ⟨V, h1, h2⟩ := h i x hx
    refine ⟨V, ?_, h2⟩
    simp only [List.getElem?_toArray] at h1 ⊢
    rw [List.getElem?_append_left (List.getElem?_eq_some_iff.1 h1).1]; exact h1
  · rename_i hge
    simp only [List.getElem?_map, Option.map_eq_some_iff] at hx
    obtain ⟨y, hy, rfl⟩ := hx
    obtain ⟨V, h1, h2⟩ := hc.get hy
    refine ⟨V, ?_, .a _ _ h2⟩
    simp only [List.getElem?_toArray]
    rw [List.getElem?_append_right (by omega), ← hl]; exact h1

theorem value_call (hE : EnvOk I.toEnv) (hC : CallOk I.toEnv call) (hs : Sim I d e g beta s a w) {k : Nat} {args : Array Operand} {argTypes : Array TypeId} {dst : Option Tmp} {type : TypeId} {pos : String} {after : Array Edge} {guard : Option (Nat × Bool)} {v : SV} {vs' : List SV} {xs : List CV} {q : Bool} {r : RV × Hp}
    (hv0 : SVR g beta d k a.tmps v (a.eval (.tmp k))) (hv : OpdsR g beta d a args.toList vs') (hc : cvsS vs' = some xs) (hcall : callV call q v xs s.h = some r) :
    Res I d e g beta a w ⟨dst, .call ⟨.value (.tmp k), args, argTypes⟩, type, pos, after, guard⟩ (.r r.1) s.b r.2 := by
  unfold callV at hcall
  split at hcall
  · rename_i f
    obtain ⟨fn, c, h1, h2⟩ := hC.enters hcall
    have he := ofV_fn hv0
    have hx := exec_value (w := w) (args := args) (argTypes := argTypes) (dst := dst) (type := type) (pos := pos) (after := after) (guard := guard) hE h1 h2 he
    rw [List.append_nil] at hx
    exact call_core hC hs hcall (.refl hs.inv) (args_dem hv hc fun i => .tmp (d + 1) i) hx
  · rename_i f ca
    obtain ⟨fn, c, h1, h2⟩ := hC.enters hcall
    obtain ⟨Vs, he, hca⟩ := ofV_fnc hv0
    have hl := (cvs_get hv hc).1
    exact call_core hC hs hcall (.refl hs.inv) (cvr_app (by simp [hl]) (args_dem hv hc fun i => .tmp (d + 1) i) hca) (exec_value hE h1 h2 he)
  · cases hcall

theorem invoke_call (hE : EnvOk I.toEnv) (hC : CallOk I.toEnv call) (hs : Sim I d e g beta s a w) {x : Operand} {name : String} {args : Array Operand} {argTypes : Array TypeId} {dst : Option Tmp} {type : TypeId} {pos : String} {after : Array Edge} {guard : Option (Nat × Bool)} {v : SV} {vs' : List SV} {xs : List CV} {q : Bool} {r : RV × Hp}
    (hv0 : SVR g beta d s' a.tmps v (a.eval x)) (hv : OpdsR g beta d a args.toList vs') (hc : cvsS vs' = some xs) (hcall : invokeV I call q name v xs s.h = some r) :
    Res I d e g beta a w ⟨dst, .call ⟨.invoke x name, args, argTypes⟩, type, pos, after, guard⟩ (.r r.1) s.b r.2 := by
  have main : ∀ {t : TypeId} {y : AV} {V : Value} {f : FuncId}, a.eval x = .iface t V → AVR g y V → methodV I.P t name = some f → call q f (.a y :: xs.map CV.dem) s.h = some r → Res I d e g beta a w ⟨dst, .call ⟨.invoke x name, args, argTypes⟩, type, pos, after, guard⟩ (.r r.1) s.b r.2 := by
    intro t y V f he hy hm hcall
    obtain ⟨fn, c, h1, h2⟩ := hC.enters hcall
    refine call_core hC hs hcall (.refl hs.inv) (fun i z hz => ?_) (exec_invoke hE h1 h2 he hm)
    cases i with
    | zero => simp only [List.getElem?_cons_zero, Option.some.injEq] at hz; subst hz; exact ⟨V, by simp, .a _ _ hy⟩
    | succ i =>
      obtain ⟨W, h3, h4⟩ := args_dem hv hc (fun i => .tmp (d + 1) (i + 1)) i z (by simpa using hz)
      exact ⟨W, by simpa using h3, h4⟩
  unfold invokeV at hcall
  split at hcall
  · rename_i t p
    simp only [Option.bind_eq_some_iff] at hcall
    obtain ⟨f, hm, hcall⟩ := hcall
    generalize hV : a.eval x = V at hv0
    cases hv0 with | r _ _ h => cases h with | c _ _ h => cases h with | a _ _ h => cases h with | d _ _ h => cases h with | ifc _ _ V h => exact main hV (.d _ _ h) hm hcall
  · rename_i t y
    simp only [Option.bind_eq_some_iff] at hcall
    obtain ⟨f, hm, hcall⟩ := hcall
    generalize hV : a.eval x = V at hv0
    cases hv0 with | r _ _ h => cases h with | c _ _ h => cases h with | a _ _ h => cases h with | ifc _ _ V h => exact main hV h hm hcall
  · cases hcall

theorem h_call (hE : EnvOk I.toEnv) (hC : CallOk I.toEnv call) (hs : Sim I d e g beta s a w) {c : Call} {dst : Option Tmp} {type : TypeId} {pos : String} {after : Array Edge} {guard : Option (Nat × Bool)} {F : List SV → Hp → Option (RV × Hp)} {r : RV × Hp}
    (hv : OpdsR g beta d a (Oper.mk dst (.call c) type pos after guard).op.operands.toList vs) (hsm : smOp I call ⟨dst, .call c, type, pos, after, guard⟩ = .qh F ∨ smOp I call ⟨dst, .call c, type, pos, after, guard⟩ = .wh F) (hf : F vs s.h = some r) :
    Res I d e g beta a w ⟨dst, .call c, type, pos, after, guard⟩ (.r r.1) s.b r.2 := by
  obtain ⟨callee, args, argTypes⟩ := c
  cases callee with
  | builtin b =>
    exfalso
    rcases hsm with hsm | hsm <;> simp only [smOp] at hsm <;> unfold builtinSm at hsm <;> split at hsm <;> first | (cases hsm; done) | (rcases condE hsm with ⟨_, h⟩ | ⟨_, h⟩ <;> cases h)
  | value x =>
    cases x with
    | func f =>
      obtain ⟨v0, vs', rfl, _, hv'⟩ := opds_cons (show OpdsR g beta d a (#[Operand.func f] ++ args).toList vs from hv)
      have key : ∃ q xs, cvsS vs' = some xs ∧ nodupB (stealArgs (I.H f).own 0 args.toList) = true ∧ call q f (passCV (I.H f).own 0 xs) s.h = some r := by
        rcases hsm with hsm | hsm <;> simp only [smOp, callSm] at hsm <;> rcases condE hsm with ⟨hn, h⟩ | ⟨hn, h⟩ <;> try cases h
        all_goals
          rcases condE h with ⟨_, h⟩ | ⟨_, h⟩ <;> try cases h
          rcases condE h with ⟨_, h⟩ | ⟨_, h⟩ <;> cases h
          simp only [List.tail_cons, Option.bind_eq_some_iff] at hf
          obtain ⟨xs, h1, h2⟩ := hf
          exact ⟨_, xs, h1, hn, h2⟩
      obtain ⟨q, xs, h1, h2, h3⟩ := key
      exact known_call hE hC hs hv' h1 h2 h3
    | tmp k =>
      obtain ⟨v0, vs', rfl, h0, hv'⟩ := opds_cons (show OpdsR g beta d a (#[Operand.tmp k] ++ args).toList vs from hv)
      have key : ∃ q xs, cvsS vs' = some xs ∧ callV call q v0 xs s.h = some r := by
        rcases hsm with hsm | hsm <;> simp only [smOp] at hsm <;> rcases condE hsm with ⟨hn, h⟩ | ⟨hn, h⟩ <;> cases h
        all_goals
          simp only [Option.bind_eq_some_iff] at hf
          obtain ⟨xs, h1, h2⟩ := hf
          exact ⟨_, xs, h1, h2⟩
      obtain ⟨q, xs, h1, h2⟩ := key
      exact value_call hE hC hs (h0 k (fun j hj => by cases hj; rfl)) hv' h1 h2
    | const _ => rcases hsm with hsm | hsm <;> cases hsm
    | global _ => rcases hsm with hsm | hsm <;> cases hsm
  | invoke x name =>
    obtain ⟨v0, vs', rfl, h0, hv'⟩ := opds_cons (show OpdsR g beta d a (#[x] ++ args).toList vs from hv)
    have key : ∃ q xs, cvsS vs' = some xs ∧ invokeV I call q name v0 xs s.h = some r := by
      rcases hsm with hsm | hsm <;> simp only [smOp] at hsm <;> rcases condE hsm with ⟨hn, h⟩ | ⟨hn, h⟩ <;> cases h
      all_goals
        simp only [Option.bind_eq_some_iff] at hf
        obtain ⟨xs, h1, h2⟩ := hf
        exact ⟨_, xs, h1, h2⟩
    obtain ⟨q, xs, h1, h2⟩ := key
    exact invoke_call hE hC hs (h0 _ slotOf_tmp) hv' h1 h2
end Go.Abs
