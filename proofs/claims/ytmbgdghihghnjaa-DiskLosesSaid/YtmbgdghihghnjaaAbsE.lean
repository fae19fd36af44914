/- One operation, guarded or not. The heap grows; what does not write leaves its objects. Regions in order. Regions whose order Go leaves open: independent neighbours change places. Regions whose order Go leaves open: any order answers as the written one. Regions whose order Go leaves open: what an operation sets. Regions whose order Go leaves open: any order answers as the written one. Code. Functions: arguments, results; calls by fuel. -/
import Derived.Test.YtmbgdghihghnjaaAbsD
import Derived.LoopN
import Derived.Scope
set_option linter.unusedVariables false
set_option linter.unusedSimpArgs false
namespace Go.Abs
variable {g g' : Gh} {w w' : World} {p : Place} {pi : Nat → Place} {beta beta' : Nat → Nat} {d e s' : Nat} {tmps tmps' : Array Value} {T : List Nat}
variable {I : In} {call : CallF} {a : Act} {o : Oper} {vs : List SV} {s : St}

theorem eval_bool {b : Bool} {k : Nat} (h : a.eval (.tmp k) = .bool b) : a.tmps[k]? = some (.bool b) := by
  have h1 : a.tmps.getD k undef = .bool b := h
  rw [Array.getD_eq_getD_getElem?] at h1
  cases hk : a.tmps[k]? with
  | none => rw [hk] at h1; simp [undef] at h1
  | some v => rw [hk] at h1; simp at h1; rw [h1]
theorem finO_gd {gs : Nat} {wv : Bool} {v : SV} : finO I o (.gd gs wv v) = .gd gs wv (finO I o v) := by
  unfold finO
  split
  · rename_i dd _; cases has I.hint.own dd <;> rfl
  · rfl
theorem bare_fin {v : SV} {dd : Nat} (h : v.bare = true) : gdOf dd (finO I o v) = false := by
  have hb : ∀ v : SV, v.bare = true → gdOf dd v = false := fun v h => by cases v <;> first | rfl | cases h
  have hd : gdOf dd v.dem = false := by rw [gdOf_dem]; exact hb v h
  unfold finO
  split
  · rename_i k _; cases has I.hint.own k
    · exact hd
    · exact hb v h
  · exact hd
theorem Keep.refl (d : Nat) (T : List Nat) (g : Gh) : Keep d T g g := ⟨.refl g, fun _ h => h, fun _ h => h⟩

theorem res_fin {v v' : SV} {b' : Bx} {h' : Hp} (hs : Sim I d e g beta s a w) (hok : DstS I o s.t) (hr : Res I d e g beta a w o v b' h') (hv' : v' = v ∨ ∃ gs wv, v' = .gd gs wv v ∧ a.tmps[gs]? = some (.bool wv) ∧ o.dst ≠ some gs) (hb : v.bare = true)
    (K : Act → World → Prop) (Q : Exit → Act → World → Prop) (hK : ∀ g' beta' a' w', Sim I d e g' beta' ⟨putO I o s.t v', b', h'⟩ a' w' → Acc d e g w g' w' → K a' w') : o.wp I.P a w K Q := by
  refine hr K Q (fun g' beta' V w' hk hi hbx hhp hacc hbe hsv => hK g' beta' _ w' ⟨hi, ?_, hbx, hhp, put_defers.trans hs.defers, by rw [put_size]; exact hs.size⟩ hacc)
  refine put_tm hs.tm hk hok hs.size hbe (fun dd hd => ?_)
  have h1 := gdOf_step (X := V) (bare_fin (I := I) (o := o) (dd := dd) hb) (hsv dd hd)
  rcases hv' with rfl | ⟨gs, wv, rfl, hg, hne⟩
  · exact h1
  · rw [finO_gd]
    have hne' : dd ≠ gs := fun h => hne (by rw [hd, h])
    have e : (a.tmps.setIfInBounds dd V)[gs]? = a.tmps[gs]? := Array.getElem?_setIfInBounds_ne hne'
    exact .gd _ _ _ _ (fun _ => h1) (fun hn => absurd (by rw [e]; exact hg) hn)

/-- An operation whose guard does not hold. -/
theorem skip_fin {v : SV} {gs : Nat} {wv : Bool} (hs : Sim I d e g beta s a w) (hok : DstS I o s.t) (hg : a.tmps[gs]? ≠ some (.bool wv)) (hne : o.dst ≠ some gs) : Sim I d e g beta ⟨putO I o s.t (.gd gs wv v), s.b, s.h⟩ (a.put o.dst undef) w := by
  refine ⟨hs.inv, ?_, hs.bx, hs.hp, put_defers.trans hs.defers, by rw [put_size]; exact hs.size⟩
  refine put_tm hs.tm (.refl ..) hok hs.size (fun _ _ => rfl) (fun dd hd => ?_)
  rw [finO_gd]
  have hne' : dd ≠ gs := fun h => hne (by rw [hd, h])
  have e : (a.tmps.setIfInBounds dd undef)[gs]? = a.tmps[gs]? := Array.getElem?_setIfInBounds_ne hne'
  exact .gd _ _ _ _ (fun hh => absurd (by rw [e] at hh; exact hh) hg) (fun _ => rfl)

/-- Class p, of either kind. -/
theorem p_any (hE : EnvOk I.toEnv) (hC : CallOk I.toEnv call) (hs : Sim I d e g beta s a w) {F : List SV → Option SV} {v : SV} (hv : OpdsR g beta d a o.op.operands.toList vs) (hsm : smOp I call o = .p F) (hf : F vs = some v) : Res I d e g beta a w o v s.b s.h := by
  by_cases hk : ∃ c f', o.op = .call c ∧ c.callee = .value (.func f')
  · obtain ⟨c, f', h1, h2⟩ := hk
    obtain ⟨dst, op, type, pos, after, guard⟩ := o
    simp only at h1; subst h1
    obtain ⟨callee, args, argTypes⟩ := c
    simp only at h2; subst h2
    exact p_call hE hC hs hv hsm hf
  · exact res_p hs (p_op hs.inv hv hsm hf (fun c f' h1 h2 => hk ⟨c, f', h1, h2⟩) (fun b k h => eval_bool h))
theorem wh_any (hE : EnvOk I.toEnv) (hC : CallOk I.toEnv call) (hs : Sim I d e g beta s a w) {F : List SV → Hp → Option (RV × Hp)} {r : RV × Hp} (hv : OpdsR g beta d a o.op.operands.toList vs) (hsm : smOp I call o = .wh F) (hf : F vs s.h = some r) : Res I d e g beta a w o (.r r.1) s.b r.2 := by
  by_cases hk : ∃ c, o.op = .call c
  · obtain ⟨c, h1⟩ := hk
    obtain ⟨dst, op, type, pos, after, guard⟩ := o
    simp only at h1; subst h1
    exact h_call hE hC hs hv (.inr hsm) hf
  · exact wh_op hs hv hsm hf (fun c h => hk ⟨c, h⟩)
theorem qh_any (hE : EnvOk I.toEnv) (hC : CallOk I.toEnv call) (hs : Sim I d e g beta s a w) {F : List SV → Hp → Option (RV × Hp)} {r : RV × Hp} (hv : OpdsR g beta d a o.op.operands.toList vs) (hsm : smOp I call o = .qh F) (hf : F vs s.h = some r) : Res I d e g beta a w o (.r r.1) s.b r.2 := by
  have hm := sm_np hsm (by simp) (by simp)
  obtain ⟨dst, op, type, pos, after, guard⟩ := o
  cases hm with
  | call c => exact h_call hE hC hs hv (.inl hsm) hf
  | load t x => simp only [smOp] at hsm; split at hsm <;> first | (cases hsm; done) | (rcases condE hsm with ⟨_, h⟩ | ⟨_, h⟩ <;> rcases condE h with ⟨_, h⟩ | ⟨_, h⟩ <;> cases h)
  | store t x y => simp only [smOp] at hsm; split at hsm <;> first | (cases hsm; done) | (rcases condE hsm with ⟨_, h⟩ | ⟨_, h⟩ <;> first | (cases h; done) | (rcases condE h with ⟨_, h⟩ | ⟨_, h⟩ <;> cases h))
  | alloc t => simp only [smOp] at hsm; split at hsm <;> first | (cases hsm; done) | (rcases condE hsm with ⟨_, h⟩ | ⟨_, h⟩ <;> cases h)
  | box t x => simp only [smOp] at hsm; split at hsm <;> first | (cases hsm; done) | (rcases condE hsm with ⟨_, h⟩ | ⟨_, h⟩ <;> cases h)
  | makeSlice t l c => simp only [smOp] at hsm; rcases condE hsm with ⟨_, h⟩ | ⟨_, h⟩ <;> cases h

theorem wanted_none {ops : Array Oper} (hg : o.guard = none) : Region.wanted o (yielded ops a.tmps) = true := by
  unfold Region.wanted; rw [hg]
theorem wanted_iff {ops : Array Oper} {j gs : Nat} {wv : Bool} (hg : o.guard = some (j, wv)) (hd : (ops.toList.map (·.dst))[j]? = some (some gs)) : Region.wanted o (yielded ops a.tmps) = true ↔ a.tmps[gs]? = some (.bool wv) := by
  unfold Region.wanted
  rw [hg]
  have h1 : (ops[j]?).bind (·.dst) = some gs := by
    rw [List.getElem?_map, Array.getElem?_toList] at hd
    cases ho : ops[j]? with
    | none => rw [ho] at hd; cases hd
    | some o' => rw [ho] at hd; simpa using hd
  have h2 : yielded ops a.tmps j = match a.tmps[gs]? with | some (.bool b) => some b | _ => none := by
    unfold yielded; rw [h1]; rfl
  simp only [beq_iff_eq, h2]
  split
  · rename_i b hb; rw [hb]; simp
  · rename_i hn
    constructor
    · intro h; cases h
    · intro h; exact absurd h (hn _)

/-- One operation. -/
theorem op_ok {dr : Bool} {rg i : Nat} {ops : Array Oper} {s1 : St} (hE : EnvOk I.toEnv) (hC : CallOk I.toEnv call) (hs : Sim I d e g beta s a w) (ho : ops[i]? = some o) (hok : DstS I o s.t)
    (hfr : (∃ f, smOp I call o = .al f) → rg + i < s.h.nx ∧ s.h.m (rg + i) = none) (h : opR I call dr rg (ops.toList.map (·.dst)) i o s some = some s1)
    (K : Act → World → Prop) (Q : Exit → Act → World → Prop) (hK : ∀ g' beta' a' w', Sim I d e g' beta' s1 a' w' → Acc d e g w g' w' → K a' w') : wpOp I.P ops Q i K a w := by
  unfold wpOp
  simp only [ho]
  unfold opR at h
  split at h
  · -- no guard
    rename_i hg
    rw [wanted_none hg]
    simp only [if_true]
    left
    have nil : ∀ q ∈ ([] : List (Nat × Bool)), a.tmps[q.1]? = some (.bool q.2) := by simp
    split at h
    · rename_i F hsm
      obtain ⟨v, hb, h1, h2⟩ := pRes_some h
      simp only [Option.bind_eq_some_iff] at h1
      obtain ⟨vs, hvs, hf⟩ := h1
      simp only [Option.some.injEq] at h2; subst h2
      exact res_fin hs hok (p_any hE hC hs (valsO_R hs.tm nil hvs) hsm hf) (.inl rfl) hb K Q hK
    · rename_i F hsm
      obtain ⟨v, h1, h2⟩ := coeK_some h
      simp only [Option.bind_eq_some_iff] at h1
      obtain ⟨vs, hvs, hf⟩ := h1
      simp only [Option.some.injEq] at h2; subst h2
      exact res_fin hs hok (rl_op hs (valsO_R hs.tm nil hvs) hsm hf) (.inl rfl) rfl K Q hK
    · rename_i F hsm
      obtain ⟨v, h1, h2⟩ := coeK_some h
      simp only [Option.bind_eq_some_iff] at h1
      obtain ⟨vs, hvs, hf⟩ := h1
      simp only [Option.some.injEq] at h2; subst h2
      exact res_fin hs hok (rh_op hs (valsO_R hs.tm nil hvs) hsm hf) (.inl rfl) rfl K Q hK
    · rename_i F hsm
      simp only [Option.bind_eq_some_iff, Option.some.injEq] at h
      obtain ⟨r, ⟨vs, hvs, hf⟩, rfl⟩ := h
      obtain ⟨h1, h2⟩ := wl_op hs (valsO_R hs.tm nil hvs) hsm hf
      exact res_fin hs hok h1 (.inl rfl) h2 K Q hK
    · rename_i F hsm
      simp only [Option.bind_eq_some_iff, Option.some.injEq] at h
      obtain ⟨r, ⟨vs, hvs, hf⟩, rfl⟩ := h
      obtain ⟨h1, h2⟩ := hfr ⟨_, hsm⟩
      exact res_fin hs hok (al_op hs h1 h2 (valsO_R hs.tm nil hvs) hsm hf) (.inl rfl) rfl K Q hK
    · rename_i F hsm
      simp only [Option.bind_eq_some_iff] at h
      obtain ⟨r, ⟨vs, hvs, hf⟩, h⟩ := h
      obtain ⟨v, h1, h2⟩ := coeK_some h
      simp only [Option.some.injEq] at h1 h2; subst h1; subst h2
      exact res_fin hs hok (qh_any hE hC hs (valsO_R hs.tm nil hvs) hsm hf) (.inl rfl) rfl K Q hK
    · rename_i F hsm
      obtain ⟨_, h⟩ := cond_none' h
      simp only [Option.bind_eq_some_iff] at h
      obtain ⟨r, ⟨vs, hvs, hf⟩, h⟩ := h
      have hr := wh_any hE hC hs (valsO_R hs.tm nil hvs) hsm hf
      rcases condE h with ⟨_, h⟩ | ⟨_, h⟩
      · obtain ⟨v, h1, h2⟩ := coeK_some h
        simp only [Option.some.injEq] at h1 h2; subst h1; subst h2
        exact res_fin hs hok hr (.inl rfl) rfl K Q hK
      · simp only [Option.some.injEq] at h; subst h
        exact res_fin hs hok hr (.inl rfl) rfl K Q hK
    · cases h
  · rename_i j wv hg
    split at h
    · rename_i gs hds
      have hw := wanted_iff (a := a) hg hds
      have hne : o.dst ≠ some gs := by
        intro hd
        rw [hd] at h
        simp only [nbeq_self, cond_true] at h
        cases h
      have h := (cond_none' h).2
      simp only [Option.bind_eq_some_iff] at h
      obtain ⟨ee, he, h⟩ := h
      obtain ⟨e1, e2⟩ := effG_R hs.tm 5 gs wv ee he
      by_cases hee : ee.2 = true
      · have hgt := e1.1 hee
        rw [hw.2 hgt]
        simp only [if_true]
        left
        have chain := e2 hee
        split at h
        · rename_i F hsm
          obtain ⟨v, hb, h1, h2⟩ := pResG_some h
          have h1 := gvP_some (h1 hee)
          simp only [Option.bind_eq_some_iff] at h1
          obtain ⟨vs, hvs, hf⟩ := h1
          simp only [Option.some.injEq] at h2; subst h2
          exact res_fin hs hok (p_any hE hC hs (valsO_R hs.tm chain hvs) hsm hf) (.inr ⟨gs, wv, rfl, hgt, hne⟩) hb K Q hK
        · rename_i F hsm
          obtain ⟨v, h1, h2⟩ := coeG_some h
          have h1 := h1 hee
          simp only [Option.bind_eq_some_iff] at h1
          obtain ⟨vs, hvs, hf⟩ := h1
          simp only [Option.some.injEq] at h2; subst h2
          exact res_fin hs hok (rl_op hs (valsO_R hs.tm chain hvs) hsm hf) (.inr ⟨gs, wv, rfl, hgt, hne⟩) rfl K Q hK
        · rename_i F hsm
          obtain ⟨v, h1, h2⟩ := coeG_some h
          have h1 := h1 hee
          simp only [Option.bind_eq_some_iff] at h1
          obtain ⟨vs, hvs, hf⟩ := h1
          simp only [Option.some.injEq] at h2; subst h2
          exact res_fin hs hok (rh_op hs (valsO_R hs.tm chain hvs) hsm hf) (.inr ⟨gs, wv, rfl, hgt, hne⟩) rfl K Q hK
        · cases h
        · cases h
        · rename_i F hsm
          simp only [hee, cond_true, Option.bind_eq_some_iff] at h
          obtain ⟨r, ⟨vs, hvs, hf⟩, h⟩ := h
          obtain ⟨v, h1, h2⟩ := coeG_some h
          have h1 := h1 rfl
          simp only [Option.some.injEq] at h1 h2; subst h1; subst h2
          exact res_fin hs hok (qh_any hE hC hs (valsO_R hs.tm chain hvs) hsm hf) (.inr ⟨gs, wv, rfl, hgt, hne⟩) rfl K Q hK
        · rename_i F hsm
          have h := (cond_none' h).2
          simp only [hee, cond_true, Option.bind_eq_some_iff] at h
          obtain ⟨r, ⟨vs, hvs, hf⟩, h⟩ := h
          obtain ⟨v, h1, h2⟩ := coeG_some h
          have h1 := h1 rfl
          simp only [Option.some.injEq] at h1 h2; subst h1; subst h2
          exact res_fin hs hok (wh_any hE hC hs (valsO_R hs.tm chain hvs) hsm hf) (.inr ⟨gs, wv, rfl, hgt, hne⟩) rfl K Q hK
        · cases h
      · have hgt : a.tmps[gs]? ≠ some (.bool wv) := fun hh => hee (e1.2 hh)
        have hnw : Region.wanted o (yielded ops a.tmps) = false := by
          cases hh : Region.wanted o (yielded ops a.tmps)
          · rfl
          · exact absurd (hw.1 hh) hgt
        rw [hnw]
        simp only [Bool.false_eq_true, if_false]
        have hef : ee.2 = false := by simpa using hee
        have fin : ∀ v, s1 = ⟨putO I o s.t (.gd gs wv v), s.b, s.h⟩ → K (a.put o.dst undef) w := by
          rintro v rfl
          exact hK g beta _ w (skip_fin hs hok hgt hne) (.refl ..)
        split at h
        · obtain ⟨v, _, _, h2⟩ := pResG_some h
          simp only [Option.some.injEq] at h2; exact fin v h2.symm
        · obtain ⟨v, _, h2⟩ := coeG_some h
          simp only [Option.some.injEq] at h2; exact fin _ h2.symm
        · obtain ⟨v, _, h2⟩ := coeG_some h
          simp only [Option.some.injEq] at h2; exact fin _ h2.symm
        · cases h
        · cases h
        · simp only [hef, cond_false, Option.bind_some] at h
          obtain ⟨v, _, h2⟩ := coeG_some h
          simp only [Option.some.injEq] at h2; exact fin _ h2.symm
        · have h := (cond_none' h).2
          simp only [hef, cond_false, Option.bind_some] at h
          obtain ⟨v, _, h2⟩ := coeG_some h
          simp only [Option.some.injEq] at h2; exact fin _ h2.symm
        · cases h
    · cases h
end Go.Abs
namespace Go.Abs
variable {I : In} {call : CallF} {loop : LoopF} {o : Oper} {vs : List SV} {s s1 : St}

/-- Of the numbers below n. -/
structure Grow (q : Bool) (n : Nat) (h h' : Hp) : Prop where
  nx : h.nx ≤ h'.nx
  none : ∀ j, j < n → h.m j = none → h'.m j = none
  same : q = true → ∀ j, j < n → h'.m j = h.m j
theorem Grow.refl (q : Bool) (n : Nat) (h : Hp) : Grow q n h h := ⟨Nat.le_refl _, fun _ _ h => h, fun _ _ _ => rfl⟩
theorem Grow.trans {q : Bool} {n : Nat} {a b c : Hp} (h : Grow q n a b) (k : Grow q n b c) : Grow q n a c :=
  ⟨Nat.le_trans h.nx k.nx, fun j hj hn => k.none j hj (h.none j hj hn), fun hq j hj => (k.same hq j hj).trans (h.same hq j hj)⟩
theorem Grow.mono {q : Bool} {n m : Nat} {a b : Hp} (h : Grow q n a b) (hm : m ≤ n) : Grow q m a b :=
  ⟨h.nx, fun j hj => h.none j (by omega), fun hq j hj => h.same hq j (by omega)⟩
theorem Grow.q {q q' : Bool} {n : Nat} {a b : Hp} (h : Grow q n a b) (hq : q' = true → q = true) : Grow q' n a b := ⟨h.nx, h.none, fun k => h.same (hq k)⟩

theorem hset_grow {h : Hp} {i : Nat} {cs cs0 : List CV} (hi : h.m i = some cs0) (n : Nat) : Grow false n h (hset h i cs) := by
  refine ⟨Nat.le_refl _, fun j _ hn => ?_, by simp⟩
  show cond (Nat.beq j i) (some cs) (h.m j) = none
  have : j ≠ i := by rintro rfl; rw [hi] at hn; cases hn
  rw [nbeq_ne this]; exact hn
theorem callGrow (hC : CallOk I.toEnv call) {q : Bool} {f : FuncId} {args : List CV} {h : Hp} {r : RV × Hp} (hc : call q f args h = some r) : Grow q h.nx h r.2 :=
  ⟨(hC.grow hc).1, fun j hj => ((hC.grow hc).2 j hj).1, fun hq j hj => ((hC.grow hc).2 j hj).2 hq⟩
theorem callV_grow (hC : CallOk I.toEnv call) {q : Bool} {v : SV} {xs : List CV} {h : Hp} {r : RV × Hp} (hc : callV call q v xs h = some r) : Grow q h.nx h r.2 := by
  unfold callV at hc
  split at hc
  · exact callGrow hC hc
  · exact callGrow hC hc
  · cases hc
theorem invokeV_grow (hC : CallOk I.toEnv call) {q : Bool} {nm : String} {v : SV} {xs : List CV} {h : Hp} {r : RV × Hp} (hc : invokeV I call q nm v xs h = some r) : Grow q h.nx h r.2 := by
  unfold invokeV at hc
  split at hc
  · simp only [Option.bind_eq_some_iff] at hc
    obtain ⟨f, _, hc⟩ := hc
    exact callGrow hC hc
  · simp only [Option.bind_eq_some_iff] at hc
    obtain ⟨f, _, hc⟩ := hc
    exact callGrow hC hc
  · cases hc
theorem calls_grow (hC : CallOk I.toEnv call) {c : Call} {dst : Option Tmp} {type : TypeId} {pos : String} {after : Array Edge} {guard : Option (Nat × Bool)} {F : List SV → Hp → Option (RV × Hp)} {h : Hp} {r : RV × Hp} {q : Bool}
    (hsm : smOp I call ⟨dst, .call c, type, pos, after, guard⟩ = cond q (.qh F) (.wh F)) (hf : F vs h = some r) : Grow q h.nx h r.2 := by
  obtain ⟨callee, args, argTypes⟩ := c
  cases callee with
  | builtin b =>
    exfalso
    cases q <;> simp only [smOp] at hsm <;> unfold builtinSm at hsm <;> split at hsm <;> first | (cases hsm; done) | (rcases condE hsm with ⟨_, h⟩ | ⟨_, h⟩ <;> cases h)
  | value x =>
    cases x with
    | func f =>
      cases q <;> simp only [smOp, callSm] at hsm <;> rcases condE hsm with ⟨hn, h⟩ | ⟨hn, h⟩ <;> try cases h
      all_goals
        rcases condE h with ⟨_, h⟩ | ⟨_, h⟩ <;> try cases h
        rcases condE h with ⟨_, h⟩ | ⟨_, h⟩ <;> cases h
        simp only [Option.bind_eq_some_iff] at hf
        obtain ⟨xs, h1, h2⟩ := hf
        exact callGrow hC h2
    | tmp k =>
      cases q <;> simp only [smOp] at hsm <;> rcases condE hsm with ⟨hn, h⟩ | ⟨hn, h⟩ <;> cases h
      all_goals
        cases vs with
        | nil => cases hf
        | cons v0 vs' =>
          simp only [Option.bind_eq_some_iff] at hf
          obtain ⟨xs, h1, h2⟩ := hf
          exact callV_grow hC h2
    | const _ => cases q <;> cases hsm
    | global _ => cases q <;> cases hsm
  | invoke x name =>
    cases q <;> simp only [smOp] at hsm <;> rcases condE hsm with ⟨hn, h⟩ | ⟨hn, h⟩ <;> cases h
    all_goals
      cases vs with
      | nil => cases hf
      | cons v0 vs' =>
        simp only [Option.bind_eq_some_iff] at hf
        obtain ⟨xs, h1, h2⟩ := hf
        exact invokeV_grow hC h2

theorem wh_grow (hC : CallOk I.toEnv call) {F : List SV → Hp → Option (RV × Hp)} {h : Hp} {r : RV × Hp} (hsm : smOp I call o = .wh F) (hf : F vs h = some r) : Grow false h.nx h r.2 := by
  have hm := sm_np hsm (by simp) (by simp)
  obtain ⟨dst, op, type, pos, after, guard⟩ := o
  cases hm with
  | call c => exact calls_grow (q := false) hC hsm hf
  | load t x =>
    simp only [smOp] at hsm
    split at hsm
    · cases hsm
    · rename_i n hn
      rcases condE hsm with ⟨hl, h⟩ | ⟨hl, h⟩ <;> rcases condE h with ⟨ho, h⟩ | ⟨ho, h⟩ <;> try cases h
      match vs, hf with
      | [.r u], hf =>
        dsimp only at hf
        unfold ldOwnV at hf
        split at hf
        · simp only [Option.bind_eq_some_iff, Option.some.injEq] at hf
          obtain ⟨cs', hg, v, hp, h', hput, rfl⟩ := hf
          obtain ⟨cs0, cs2, hcs0, _, rfl⟩ := hput_some hput
          exact hset_grow hcs0 _
        · cases hf
      | [], hf => cases hf
      | [.lp _ _], hf => cases hf
      | [.gd _ _ _], hf => cases hf
      | x :: _ :: _, hf => cases x <;> cases hf
  | store t x y =>
    simp only [smOp] at hsm
    split at hsm
    · cases hsm
    · rename_i n hn
      rcases condE hsm with ⟨hl, h⟩ | ⟨hl, h⟩
      · cases h
      · rcases condE h with ⟨hl2, h⟩ | ⟨hl2, h⟩ <;> try cases h
        match vs, hf with
        | [.r u, .r v], hf =>
          dsimp only at hf
          unfold stV at hf
          split at hf
          · simp only [Option.bind_eq_some_iff] at hf
            obtain ⟨xs, hu, hf⟩ := hf
            obtain ⟨hnx, hf⟩ := cond_none hf
            simp only [Option.bind_eq_some_iff, Option.some.injEq] at hf
            obtain ⟨h', hput, rfl⟩ := hf
            obtain ⟨cs, cs', hcs, _, rfl⟩ := hput_some hput
            exact hset_grow hcs _
          · cases hf
        | [], hf => cases hf
        | [x], hf => cases x <;> cases hf
        | [.r _, .lp _ _], hf => cases hf
        | [.r _, .gd _ _ _], hf => cases hf
        | [.lp _ _, _], hf => cases hf
        | [.gd _ _ _, _], hf => cases hf
        | x :: y :: _ :: _, hf => cases x <;> cases y <;> cases hf
  | alloc t => simp only [smOp] at hsm; split at hsm <;> first | (cases hsm; done) | (rcases condE hsm with ⟨_, h⟩ | ⟨_, h⟩ <;> cases h)
  | box t x => simp only [smOp] at hsm; split at hsm <;> first | (cases hsm; done) | (rcases condE hsm with ⟨_, h⟩ | ⟨_, h⟩ <;> cases h)
  | makeSlice t l c => simp only [smOp] at hsm; rcases condE hsm with ⟨_, h⟩ | ⟨_, h⟩ <;> cases h
theorem qh_grow (hC : CallOk I.toEnv call) {F : List SV → Hp → Option (RV × Hp)} {h : Hp} {r : RV × Hp} (hsm : smOp I call o = .qh F) (hf : F vs h = some r) : Grow true h.nx h r.2 := by
  have hm := sm_np hsm (by simp) (by simp)
  obtain ⟨dst, op, type, pos, after, guard⟩ := o
  cases hm with
  | call c => exact calls_grow (q := true) hC hsm hf
  | load t x => simp only [smOp] at hsm; split at hsm <;> first | (cases hsm; done) | (rcases condE hsm with ⟨_, h⟩ | ⟨_, h⟩ <;> rcases condE h with ⟨_, h⟩ | ⟨_, h⟩ <;> cases h)
  | store t x y => simp only [smOp] at hsm; split at hsm <;> first | (cases hsm; done) | (rcases condE hsm with ⟨_, h⟩ | ⟨_, h⟩ <;> first | (cases h; done) | (rcases condE h with ⟨_, h⟩ | ⟨_, h⟩ <;> cases h))
  | alloc t => simp only [smOp] at hsm; split at hsm <;> first | (cases hsm; done) | (rcases condE hsm with ⟨_, h⟩ | ⟨_, h⟩ <;> cases h)
  | box t x => simp only [smOp] at hsm; split at hsm <;> first | (cases hsm; done) | (rcases condE hsm with ⟨_, h⟩ | ⟨_, h⟩ <;> cases h)
  | makeSlice t l c => simp only [smOp] at hsm; rcases condE hsm with ⟨_, h⟩ | ⟨_, h⟩ <;> cases h

/-- The heap behind an operation. -/
theorem opR_heap (hC : CallOk I.toEnv call) {dr : Bool} {rg i : Nat} {ds : List (Option Nat)} (h : opR I call dr rg ds i o s some = some s1) :
    (∃ cs, (∃ f, smOp I call o = .al f) ∧ s1.h = hset s.h (rg + i) cs) ∨ Grow I.quiet s.h.nx s.h s1.h := by
  unfold opR at h
  split at h
  · split at h
    · right
      obtain ⟨v, _, _, h2⟩ := pRes_some h
      simp only [Option.some.injEq] at h2; subst h2; exact .refl ..
    · right; obtain ⟨v, _, h2⟩ := coeK_some h
      simp only [Option.some.injEq] at h2; subst h2; exact .refl ..
    · right; obtain ⟨v, _, h2⟩ := coeK_some h
      simp only [Option.some.injEq] at h2; subst h2; exact .refl ..
    · right
      simp only [Option.bind_eq_some_iff, Option.some.injEq] at h
      obtain ⟨r, _, rfl⟩ := h; exact .refl ..
    · rename_i F hsm
      left
      simp only [Option.bind_eq_some_iff, Option.some.injEq] at h
      obtain ⟨r, _, rfl⟩ := h; exact ⟨_, ⟨_, hsm⟩, rfl⟩
    · rename_i F hsm
      right
      simp only [Option.bind_eq_some_iff] at h
      obtain ⟨r, ⟨vs, hvs, hf⟩, h⟩ := h
      obtain ⟨v, _, h2⟩ := coeK_some h
      simp only [Option.some.injEq] at h2; subst h2
      exact (qh_grow hC hsm hf).q fun _ => rfl
    · rename_i F hsm
      right
      obtain ⟨hq, h⟩ := cond_none' h
      simp only [Option.bind_eq_some_iff] at h
      obtain ⟨r, ⟨vs, hvs, hf⟩, h⟩ := h
      rw [hq]
      rcases condE h with ⟨_, h⟩ | ⟨_, h⟩
      · obtain ⟨v, _, h2⟩ := coeK_some h
        simp only [Option.some.injEq] at h2; subst h2
        exact wh_grow hC hsm hf
      · simp only [Option.some.injEq] at h; subst h
        exact wh_grow hC hsm hf
    · cases h
  · split at h
    · have h := (cond_none' h).2
      simp only [Option.bind_eq_some_iff] at h
      obtain ⟨ee, he, h⟩ := h
      right
      split at h
      · obtain ⟨v, _, _, h2⟩ := pResG_some h
        simp only [Option.some.injEq] at h2; subst h2; exact .refl ..
      · obtain ⟨v, _, h2⟩ := coeG_some h
        simp only [Option.some.injEq] at h2; subst h2; exact .refl ..
      · obtain ⟨v, _, h2⟩ := coeG_some h
        simp only [Option.some.injEq] at h2; subst h2; exact .refl ..
      · cases h
      · cases h
      · rename_i F hsm
        simp only [Option.bind_eq_some_iff] at h
        obtain ⟨r, hr, h⟩ := h
        obtain ⟨v, _, h2⟩ := coeG_some h
        simp only [Option.some.injEq] at h2; subst h2
        rcases condE hr with ⟨_, hr⟩ | ⟨_, hr⟩
        · simp only [Option.bind_eq_some_iff] at hr
          obtain ⟨vs, hvs, hf⟩ := hr
          exact (qh_grow hC hsm hf).q fun _ => rfl
        · simp only [Option.some.injEq] at hr; subst hr; exact .refl ..
      · rename_i F hsm
        obtain ⟨hq, h⟩ := cond_none' h
        simp only [Option.bind_eq_some_iff] at h
        obtain ⟨r, hr, h⟩ := h
        obtain ⟨v, _, h2⟩ := coeG_some h
        simp only [Option.some.injEq] at h2; subst h2
        rw [hq]
        rcases condE hr with ⟨_, hr⟩ | ⟨_, hr⟩
        · simp only [Option.bind_eq_some_iff] at hr
          obtain ⟨vs, hvs, hf⟩ := hr
          exact wh_grow hC hsm hf
        · simp only [Option.some.injEq] at hr; subst hr; exact .refl ..
      · cases h
    · cases h
end Go.Abs
namespace Go.Abs
variable {g g' : Gh} {w w' : World} {beta beta' : Nat → Nat} {d e : Nat}
variable {I : In} {call : CallF} {loop : LoopF} {a : Act} {o : Oper} {vs : List SV} {s s1 : St}

theorem al_cls {f : List SV → Hp → Nat → Option (RV × List CV)} (h : smOp I call o = .al f) : isAl I o = true := by
  have hm := sm_np h (by simp) (by simp)
  have key : ∃ f', smOp I (fun _ _ _ _ => none) o = .al f' := by
    obtain ⟨dst, op, type, pos, after, guard⟩ := o
    cases hm with
    | call c =>
      obtain ⟨callee, args, argTypes⟩ := c
      cases callee with
      | builtin b => exact ⟨f, h⟩
      | value x =>
        cases x with
        | func f =>
          simp only [smOp, callSm] at h
          rcases condE h with ⟨_, h⟩ | ⟨_, h⟩
          · rcases condE h with ⟨_, h⟩ | ⟨_, h⟩
            · cases h
            · rcases condE h with ⟨_, h⟩ | ⟨_, h⟩ <;> cases h
          · cases h
        | tmp k => simp only [smOp] at h; rcases condE h with ⟨_, h⟩ | ⟨_, h⟩ <;> cases h
        | const _ => cases h
        | global _ => cases h
      | invoke x name => simp only [smOp] at h; rcases condE h with ⟨_, h⟩ | ⟨_, h⟩ <;> cases h
    | _ => exact ⟨f, h⟩
  obtain ⟨f', h'⟩ := key
  simp [isAl, clsO, h']

/-- The numbers of objects still to be made are free. -/
def AlFr (I : In) (call : CallF) (ops : Array Oper) (rg : Nat) (R : Nat → Prop) (h : Hp) : Prop :=
  ∀ j o, R j → ops[j]? = some o → (∃ f, smOp I call o = .al f) → rg + j < h.nx ∧ h.m (rg + j) = none
theorem AlFr.step {ops : Array Oper} {rg i : Nat} {R : Nat → Prop} {dr : Bool} {ds : List (Option Nat)} (hC : CallOk I.toEnv call) (hf : AlFr I call ops rg R s.h) (h : opR I call dr rg ds i o s some = some s1) : AlFr I call ops rg (fun j => R j ∧ j ≠ i) s1.h := by
  intro j o' hj ho' hal
  obtain ⟨h1, h2⟩ := hf j o' hj.1 ho' hal
  rcases opR_heap hC h with ⟨cs, _, e⟩ | hg
  · rw [e]
    refine ⟨h1, ?_⟩
    show cond (Nat.beq (rg + j) (rg + i)) (some cs) (s.h.m (rg + j)) = none
    rw [nbeq_ne (by have := hj.2; omega)]
    exact h2
  · exact ⟨Nat.lt_of_lt_of_le h1 hg.nx, hg.none _ h1 h2⟩
theorem AlFr.mono {ops : Array Oper} {rg : Nat} {R R' : Nat → Prop} {h : Hp} (hf : AlFr I call ops rg R h) (hr : ∀ j, R' j → R j) : AlFr I call ops rg R' h := fun j o hj => hf j o (hr j hj)
theorem alFr_start {ops : Array Oper} {h : Hp} (hh : HpR g e h w) : AlFr I call ops h.nx (fun _ => True) (bif ops.toList.any (isAl I) then hreg h ops.size else h) := by
  intro j o _ ho ⟨f, hf⟩
  have h1 : ops.toList.any (isAl I) = true := List.any_eq_true.2 ⟨o, by
    have := Array.mem_of_getElem? ho
    exact Array.mem_toList_iff.2 this, al_cls hf⟩
  rw [h1]
  have hj : j < ops.size := (Array.getElem?_eq_some_iff.1 ho).1
  refine ⟨by show h.nx + j < h.nx + ops.size; omega, ?_⟩
  show h.m (h.nx + j) = none
  cases hm : h.m (h.nx + j) with
  | none => rfl
  | some cs => have := (hh.obj _ cs hm).1; omega
theorem hreg_R {h : Hp} (hh : HpR g e h w) (b : Bool) (n : Nat) : HpR g e (bif b then hreg h n else h) w := by
  cases b
  · exact hh
  · exact ⟨hh.ok, fun i cs hc => ⟨by have := (hh.obj i cs hc).1; show i < h.nx + n; omega, (hh.obj i cs hc).2⟩⟩
theorem hreg_grow (q b : Bool) (m n : Nat) (h : Hp) : Grow q m h (bif b then hreg h n else h) := by
  cases b
  · exact .refl ..
  · exact ⟨Nat.le_add_right _ _, fun _ _ h => h, fun _ _ _ => rfl⟩

theorem opR_grow {dr : Bool} {rg i : Nat} {ds : List (Option Nat)} (hC : CallOk I.toEnv call) (hr : rg ≤ s.h.nx) (h : opR I call dr rg ds i o s some = some s1) : Grow I.quiet rg s.h s1.h := by
  rcases opR_heap hC h with ⟨cs, _, e⟩ | hg
  · rw [e]
    have key : ∀ j, j < rg → (hset s.h (rg + i) cs).m j = s.h.m j := by
      intro j hj
      show cond (Nat.beq j (rg + i)) (some cs) (s.h.m j) = s.h.m j
      rw [nbeq_ne (by omega)]; rfl
    exact ⟨Nat.le_refl _, fun j hj hn => by rw [key j hj]; exact hn, fun _ j hj => key j hj⟩
  · exact hg.mono hr
theorem opsK_inv {dr : Bool} {rg i : Nat} {ds : List (Option Nat)} {r : List Oper} {s' : St} (h : opsK I call dr rg ds i (o :: r) s some = some s') : ∃ s1, dstOk I o s.t = true ∧ opR I call dr rg ds i o s some = some s1 ∧ opsK I call dr rg ds (i + 1) r s1 some = some s' := by
  unfold opsK at h
  rw [opK_bind] at h
  simp only [Option.bind_eq_some_iff] at h
  obtain ⟨s1, h1, h2⟩ := h
  obtain ⟨h3, h4⟩ := cond_none h1
  exact ⟨s1, h3, h4, h2⟩
theorem opsK_grow {dr : Bool} {rg : Nat} {ds : List (Option Nat)} (hC : CallOk I.toEnv call) : ∀ {r : List Oper} {i : Nat} {s s' : St}, rg ≤ s.h.nx → opsK I call dr rg ds i r s some = some s' → Grow I.quiet rg s.h s'.h := by
  intro r
  induction r with
  | nil => intro i s s' _ h; simp [opsK] at h; subst h; exact .refl ..
  | cons o r ih =>
    intro i s s' hr h
    obtain ⟨s1, _, h1, h2⟩ := opsK_inv h
    have hg := opR_grow hC hr h1
    exact hg.trans (ih (Nat.le_trans hr hg.nx) h2)

/-- Operations in order. -/
theorem ops_ok {dr : Bool} {rg : Nat} {ops : Array Oper} (hE : EnvOk I.toEnv) (hC : CallOk I.toEnv call) : ∀ (r : List Oper) (i : Nat) {s s' : St} {g : Gh} {beta : Nat → Nat} {a : Act} {w : World}, ops.toList.drop i = r → opsK I call dr rg (ops.toList.map (·.dst)) i r s some = some s' → Sim I d e g beta s a w → AlFr I call ops rg (i ≤ ·) s.h →
    ∀ (Q : Exit → Act → World → Prop), (∀ g' beta' a' w', Sim I d e g' beta' s' a' w' → Acc d e g w g' w' → Q .normal a' w') → wpOps I.P ops Q (List.range' i r.length) a w := by
  intro r
  induction r with
  | nil =>
    intro i s s' g beta a w _ h hs _ Q hQ
    simp [opsK] at h; subst h
    exact hQ g beta a w hs (.refl ..)
  | cons o r ih =>
    intro i s s' g beta a w hd h hs hal Q hQ
    obtain ⟨s1, h1, h2, h3⟩ := opsK_inv h
    have hi : i < ops.toList.length := by
      rcases Nat.lt_or_ge i ops.toList.length with hl | hl
      · exact hl
      · rw [List.drop_of_length_le hl] at hd; cases hd
    rw [List.drop_eq_getElem_cons hi] at hd
    simp only [List.cons.injEq] at hd
    have ho : ops[i]? = some o := by
      have : ops.toList[i]? = some o := by rw [List.getElem?_eq_getElem hi, hd.1]
      simpa using this
    rw [List.length_cons, List.range'_succ, wpOps_cons]
    refine op_ok hE hC hs ho (.of h1) (fun hal2 => hal i o (Nat.le_refl _) ho hal2) h2 _ Q (fun g1 beta1 a1 w1 hs1 hacc => ?_)
    refine ih (i + 1) hd.2 h3 hs1 ((hal.step hC h2).mono fun j hj => ⟨by omega, by omega⟩) Q (fun g' beta' a' w' hs' hacc' => hQ g' beta' a' w' hs' (hacc.trans hacc'))

theorem killB_get {kill : List Nat} {t : Bx} {s : Nat} {v : List CV} (h : mget (killB kill t) s = some v) : mget t s = some v := by
  induction t with
  | nil => simp [killB, mget] at h
  | cons x r ih =>
    obtain ⟨k, u⟩ := x
    unfold killB at h
    cases hk : has kill k
    · rw [hk] at h
      simp only [cond_false] at h
      unfold mget at h ⊢
      cases hb : Nat.beq k s
      · rw [hb] at h; exact ih h
      · rw [hb] at h; exact h
    · rw [hk] at h
      simp only [cond_true] at h
      unfold mget
      cases hb : Nat.beq k s
      · exact ih h
      · exfalso
        have := nbeq_eq hb
        subst this
        clear ih
        induction r with
        | nil => simp [killB, mget] at h
        | cons y r ih2 =>
          obtain ⟨k', u'⟩ := y
          unfold killB at h
          cases hk' : has kill k'
          · rw [hk'] at h
            simp only [cond_false] at h
            unfold mget at h
            have hne : k' ≠ k := fun e => by rw [e, hk] at hk'; cases hk'
            rw [nbeq_ne hne] at h
            exact ih2 h
          · rw [hk'] at h; exact ih2 h
/-- Less is known. -/
theorem Sim.less {s' : St} (hs : Sim I d e g beta s a w) (ht : ∀ k v, mget s'.t k = some v → mget s.t k = some v) (hb : ∀ k v, mget s'.b k = some v → mget s.b k = some v) (hh : s'.h = s.h) : Sim I d e g beta s' a w :=
  ⟨hs.inv, fun k v hv => hs.tm k v (ht k v hv), fun k cs hk => hs.bx k cs (hb k cs hk), by rw [hh]; exact hs.hp, hs.defers, hs.size⟩
theorem Sim.kill (hs : Sim I d e g beta s a w) (l : List Nat) : Sim I d e g beta (killS l s) a w :=
  hs.less (fun _ _ h => killT_get h) (fun _ _ h => killB_get h) rfl

theorem restT_get {t0 t t' : Tm} : ∀ {l : List (Nat × Kd)}, restT t0 t l some = some t' → ∀ k v, mget t' k = some v → mget t k = some v := by
  intro l
  induction l generalizing t' with
  | nil => intro h k v hv; simp [restT] at h; subst h; simp [mget] at hv
  | cons x l ih =>
    intro h k v hv
    obtain ⟨s, kd⟩ := x
    unfold restT at h
    have fin : ∀ u, mget t s = some u → (restT t0 t l fun t1 => some ((s, u) :: t1)) = some t' → mget t k = some v := by
      intro u hu h
      rw [restT_bind] at h
      simp only [Option.bind_eq_some_iff, Option.some.injEq] at h
      obtain ⟨t1, h1, rfl⟩ := h
      unfold mget at hv
      cases hb : Nat.beq s k
      · rw [hb] at hv; exact ih h1 k v hv
      · rw [hb] at hv
        simp only [cond_true, Option.some.injEq] at hv; subst hv
        have := nbeq_eq hb
        subst this; exact hu
    have other : (coeK kd ((mget t s).bind SV.rv?) fun v => restT t0 t l fun t' => some ((s, .r v) :: t')) = some t' → mget t k = some v := by
      intro h
      obtain ⟨u, h1, h2⟩ := coeK_some h
      simp only [Option.bind_eq_some_iff] at h1
      obtain ⟨z, h3, h4⟩ := h1
      cases z with
      | r z => simp [SV.rv?] at h4; subst h4; exact fin _ h3 h2
      | lp _ _ => cases h4
      | gd _ _ _ => cases h4
    split at h
    · split at h
      · rename_i j off _ j' off' hg
        obtain ⟨h1, h2⟩ := cond_none h
        simp only [Bool.and_eq_true] at h1
        have e1 := nbeq_eq h1.1
        have e2 := nbeq_eq h1.2
        subst e1; subst e2
        exact fin _ hg h2
      · cases h
    · exact other h
theorem restB_get {b b' : Bx} : ∀ {l : List Nat}, restB b l some = some b' → ∀ k v, mget b' k = some v → mget b k = some v := by
  intro l
  induction l generalizing b' with
  | nil => intro h k v hv; simp [restB] at h; subst h; simp [mget] at hv
  | cons x l ih =>
    intro h k v hv
    unfold restB at h
    simp only [Option.bind_eq_some_iff] at h
    obtain ⟨cs, h1, h2⟩ := h
    rw [restB_bind] at h2
    simp only [Option.bind_eq_some_iff, Option.some.injEq] at h2
    obtain ⟨b1, h3, rfl⟩ := h2
    unfold mget at hv
    cases hb : Nat.beq x k
    · rw [hb] at hv; exact ih h3 k v hv
    · rw [hb] at hv
      simp only [cond_true, Option.some.injEq] at hv; subst hv
      have := nbeq_eq hb
      subst this; exact h1
theorem Sim.rest {l : List (Nat × Kd) × List Nat} {t0 : Tm} {s' : St} (hs : Sim I d e g beta s a w) (h : restS l t0 s some = some s') : Sim I d e g beta s' a w ∧ s'.h = s.h := by
  unfold restS at h
  rw [restT_bind] at h
  simp only [Option.bind_eq_some_iff] at h
  obtain ⟨t', h1, h2⟩ := h
  rw [restB_bind] at h2
  simp only [Option.bind_eq_some_iff, Option.some.injEq] at h2
  obtain ⟨b', h3, rfl⟩ := h2
  exact ⟨hs.less (fun k v hv => restT_get h1 k v hv) (fun k v hv => restB_get h3 k v hv) rfl, rfl⟩
end Go.Abs
namespace Go.Abs
variable {g g' : Gh} {w w' : World} {beta beta' : Nat → Nat} {d e : Nat}
variable {I : In} {call : CallF} {loop : LoopF} {a : Act} {o : Oper} {vs : List SV} {s s1 : St}

theorem mset_comm {β : Type} (t : List (Nat × β)) {x y : Nat} (u v : β) (h : x ≠ y) : mset (mset t x u) y v = mset (mset t y v) x u := by
  have hbl : ∀ {a b : Nat}, Nat.blt a b = true ↔ a < b := fun {a b} => by rw [Nat.blt_eq]
  have hnb : ∀ {a b : Nat}, Nat.blt a b = false ↔ ¬ a < b := fun {a b} => by
    constructor
    · intro hh hl; rw [hbl.2 hl] at hh; cases hh
    · intro hh
      cases hb : Nat.blt a b
      · rfl
      · exact absurd (hbl.1 hb) hh
  induction t with
  | nil =>
    rcases Nat.lt_or_gt_of_ne h with hl | hl
    · simp [mset, nbeq_ne h, nbeq_ne (Ne.symm h), hbl.2 hl, (hnb (a := y) (b := x)).2 (by omega)]
    · simp [mset, nbeq_ne h, nbeq_ne (Ne.symm h), hbl.2 hl, (hnb (a := x) (b := y)).2 (by omega)]
  | cons p r ih =>
    obtain ⟨k, z⟩ := p
    by_cases hx : k = x
    · subst hx
      rcases Nat.lt_or_gt_of_ne h with hl | hl
      · simp [mset, nbeq_self, nbeq_ne h, hbl.2 hl, (hnb (a := y) (b := k)).2 (by omega)]
      · simp [mset, nbeq_self, nbeq_ne h, nbeq_ne (Ne.symm h), hbl.2 hl, (hnb (a := k) (b := y)).2 (by omega)]
    · by_cases hy : k = y
      · subst hy
        rcases Nat.lt_or_gt_of_ne h with hl | hl
        · simp [mset, nbeq_self, nbeq_ne h, nbeq_ne (Ne.symm h), hbl.2 hl, (hnb (a := k) (b := x)).2 (by omega)]
        · simp [mset, nbeq_self, nbeq_ne h, nbeq_ne (Ne.symm h), hbl.2 hl, (hnb (a := x) (b := k)).2 (by omega)]
      · by_cases h1 : x < k
        · by_cases h2 : y < k
          · rcases Nat.lt_or_gt_of_ne h with hl | hl
            · simp [mset, nbeq_ne hx, nbeq_ne hy, nbeq_ne h, nbeq_ne (Ne.symm h), hbl.2 h1, hbl.2 h2, hbl.2 hl, (hnb (a := y) (b := x)).2 (by omega)]
            · simp [mset, nbeq_ne hx, nbeq_ne hy, nbeq_ne h, nbeq_ne (Ne.symm h), hbl.2 h1, hbl.2 h2, hbl.2 hl, (hnb (a := x) (b := y)).2 (by omega)]
          · simp [mset, nbeq_ne hx, nbeq_ne hy, nbeq_ne h, nbeq_ne (Ne.symm h), hbl.2 h1, (hnb (a := y) (b := k)).2 h2, (hnb (a := y) (b := x)).2 (by omega)]
        · by_cases h2 : y < k
          · simp [mset, nbeq_ne hx, nbeq_ne hy, nbeq_ne h, nbeq_ne (Ne.symm h), hbl.2 h2, (hnb (a := x) (b := k)).2 h1, (hnb (a := x) (b := y)).2 (by omega)]
          · simp [mset, nbeq_ne hx, nbeq_ne hy, (hnb (a := x) (b := k)).2 h1, (hnb (a := y) (b := k)).2 h2, ih]

theorem demOne_mset {t : Tm} {x dd : Nat} {v : SV} (h : dd ≠ x) : demOne (mset t dd v) x = mset (demOne t x) dd v := by
  unfold demOne
  rw [mget_mset_ne _ _ h]
  cases mget t x with
  | none => rfl
  | some u => exact mset_comm _ _ _ h
theorem demAt_mset {T : List Nat} {t : Tm} {dd : Nat} {v : SV} (h : dd ∉ T) : demAt (mset t dd v) T = mset (demAt t T) dd v := by
  induction T generalizing t with
  | nil => rfl
  | cons x T ih =>
    simp only [List.mem_cons, not_or] at h
    unfold demAt
    rw [demOne_mset h.1, ih h.2]
theorem demOne_comm {t : Tm} (x y : Nat) : demOne (demOne t x) y = demOne (demOne t y) x := by
  by_cases h : x = y
  · subst h; rfl
  · have e1 : ∀ {t : Tm} {x y : Nat}, x ≠ y → mget (demOne t x) y = mget t y := fun {t x y} h => by rw [mget_demOne, if_neg (Ne.symm h)]
    unfold demOne
    cases hx : mget t x with
    | none =>
      cases hy : mget t y with
      | none => simp [hx, hy]
      | some v => simp only [hx, hy]; rw [mget_mset_ne _ _ (Ne.symm h), hx]
    | some u =>
      cases hy : mget t y with
      | none => simp only [hx, hy]; rw [mget_mset_ne _ _ h, hy]
      | some v =>
        simp only
        rw [mget_mset_ne _ _ h, mget_mset_ne _ _ (Ne.symm h), hx, hy]
        exact mset_comm _ _ _ h
theorem demAt_demOne (T : List Nat) (t : Tm) (x : Nat) : demAt (demOne t x) T = demOne (demAt t T) x := by
  induction T generalizing t with
  | nil => rfl
  | cons y T ih => unfold demAt; rw [demOne_comm, ih]
theorem demAt_comm (T U : List Nat) (t : Tm) : demAt (demAt t T) U = demAt (demAt t U) T := by
  induction T generalizing t with
  | nil => rfl
  | cons y T ih =>
    have e1 : ∀ t, demAt t (y :: T) = demAt (demOne t y) T := fun _ => rfl
    rw [e1, e1, ih, demAt_demOne]

/-- Two results that are put in either order. -/
theorem putO_comm {o1 o2 : Oper} {t : Tm} {v1 v2 : SV} (h1 : ∀ x, o1.dst = some x → x ∉ stealsO I o2) (h2 : ∀ x, o2.dst = some x → x ∉ stealsO I o1) (h3 : ∀ x, o1.dst = some x → o2.dst ≠ some x) :
    putO I o1 (putO I o2 t v2) v1 = putO I o2 (putO I o1 t v1) v2 := by
  unfold putO
  cases hd1 : o1.dst with
  | none =>
    cases hd2 : o2.dst with
    | none => exact demAt_comm _ _ _
    | some y => simp only; rw [demAt_mset (h2 y hd2), demAt_comm]
  | some x =>
    cases hd2 : o2.dst with
    | none => simp only; rw [demAt_mset (h1 x hd1), demAt_comm]
    | some y =>
      simp only
      rw [demAt_mset (h2 y hd2), demAt_mset (h1 x hd1), demAt_comm]
      exact mset_comm _ _ _ (fun e => h3 x hd1 (by rw [hd2, e]))

/-! An operation in parts: what it reads of the slots, what it does, what it sets. -/
structure Pre where
  e : Bool
  gd : Option (Nat × Bool)
  vs : Option (List SV)
def preO (ds : List (Option Nat)) (o : Oper) (t : Tm) : Option Pre :=
  match o.guard with
  | none => some ⟨true, none, valsO [] t o.op.operands.toList⟩
  | some (j, w) => match ds[j]? with
    | some (some g) => cond (match o.dst with | some d => Nat.beq d g | none => false) none ((effG t 5 g w).bind fun e => some ⟨e.2, some (g, w), valsO e.1 t o.op.operands.toList⟩)
    | _ => none
/-- What an operation does to boxes and heap. -/
inductive Act1 (rg i : Nat) : Nat → (Bx → Hp → Option (SV × Bx × Hp)) → Prop
  | p (x : Option SV) : Act1 rg i 0 fun b h => x.bind fun v => some (v, b, h)
  | rl (x : Bx → Option SV) : Act1 rg i 1 fun b h => (x b).bind fun v => some (v, b, h)
  | wl (x : Bx → Option (SV × Bx)) : Act1 rg i 2 fun b h => (x b).bind fun r => some (r.1, r.2, h)
  | rh (x : Hp → Option SV) : Act1 rg i 3 fun b h => (x (limH true rg h)).bind fun v => some (v, b, h)
  | wh (x : Hp → Option (SV × Hp)) : Act1 rg i 4 fun b h => (x h).bind fun r => some (r.1, b, r.2)
  | al (x : Hp → Option (SV × List CV)) : Act1 rg i 6 fun b h => (x (limH true rg h)).bind fun r => some (r.1, b, hset h (rg + i) r.2)
  | qh (x : Hp → Option (SV × Hp)) (hx : ∀ h r, x h = some r → rg ≤ h.nx → limH true rg r.2 = limH true rg h ∧ h.nx ≤ r.2.nx) : Act1 rg i 7 fun b h => (x h).bind fun r => some (r.1, b, r.2)

theorem strip_lp {ch : List (Nat × Bool)} {v : SV} {k : Nat} : lpIn k (strip ch v) = lpIn k v := by
  induction v with
  | gd s w v ih =>
    unfold strip
    cases (ch.any fun p => Nat.beq p.1 s && (cond w p.2 (!p.2)))
    · rfl
    · simp only [cond_true]; rw [ih]; rfl
  | _ => rfl
theorem opd_lp {t : Tm} {x : Operand} {v : SV} {k : Nat} (h : opd t x = some v) (hl : lpIn k v = true) : ∃ y, x = .tmp y ∧ mget t y = some v := by
  cases x with
  | tmp y => exact ⟨y, rfl, h⟩
  | const c =>
    simp only [opd, Option.bind_eq_some_iff, Option.map_eq_some_iff, Option.some.injEq] at h
    first
      | (obtain ⟨_, _, rfl⟩ := h; cases hl)
      | (obtain ⟨_, _, _, _, rfl⟩ := h; cases hl)
  | global _ => simp [opd] at h
  | func f => simp only [opd, Option.some.injEq] at h; subst h; cases hl
theorem vals_lp {t : Tm} {ch : List (Nat × Bool)} {k : Nat} {u : SV} : ∀ {xs : List Operand} {vs : List SV}, valsO ch t xs = some vs → u ∈ vs → lpIn k u = true → ∃ y ∈ tmpsO xs, ∃ u', mget t y = some u' ∧ lpIn k u' = true := by
  intro xs
  induction xs with
  | nil => intro vs h hu; simp [valsO] at h; subst h; cases hu
  | cons x xs ih =>
    intro vs h hu hl
    unfold valsO at h
    simp only [Option.bind_eq_some_iff, Option.some.injEq] at h
    obtain ⟨v, h1, vs', h2, rfl⟩ := h
    rcases List.mem_cons.1 hu with e | hu
    · subst e
      rw [strip_lp] at hl
      obtain ⟨y, rfl, h3⟩ := opd_lp h1 hl
      exact ⟨y, by simp [tmpsO], v, h3, hl⟩
    · obtain ⟨y, h3, h4⟩ := ih h2 hu hl
      exact ⟨y, by cases x <;> simp [tmpsO, h3], h4⟩
theorem boxes_dst' {k : Nat} (h : boxesO I o = some k) : o.dst = some k := by
  unfold boxesO at h
  split at h
  · rename_i dd _ hd; obtain ⟨_, h2⟩ := cond_none h; rw [hd]; exact h2
  · rename_i dd _ hd; obtain ⟨_, h2⟩ := cond_none h; rw [hd]; exact h2
  · cases h
/-- What makes a box sets it anew. -/
theorem box_wl {dd : Nat} (h : boxesO I o = some dd) : ∃ (f : List SV → Bx → Option (SV × Bx)) (x : List SV → Option (List CV)), smOp I call o = .wl f ∧ ∀ vs b, f vs b = (x vs).bind fun cs => some (.lp dd 0, mset b dd cs) := by
  obtain ⟨dst, op, type, pos, after, guard⟩ := o
  unfold boxesO at h
  split at h
  · rename_i t d e1 e2
    simp only at e1 e2; subst e1; subst e2
    obtain ⟨h1, h2⟩ := cond_none h
    cases h2
    refine ⟨fun _ b => (zeroT I.P t).bind fun z => some (.lp dd 0, mset b dd (z.map .a)), fun _ => (zeroT I.P t).map fun z => z.map .a, ?_, ?_⟩
    · simp only [smOp, h1]; rfl
    · intro vs b; cases zeroT I.P t <;> rfl
  · rename_i t y d e1 e2
    simp only at e1 e2; subst e1; subst e2
    obtain ⟨h1, h2⟩ := cond_none h
    cases h2
    refine ⟨fun | [.r x], b => (unpackV x).bind fun cs => some (.lp dd 0, mset b dd cs) | _, _ => none, fun | [.r x] => unpackV x | _ => none, ?_, ?_⟩
    · simp only [smOp, h1]; rfl
    · intro vs b
      match vs with
      | [.r x] => rfl
      | [] => rfl
      | .lp _ _ :: _ => rfl
      | .gd _ _ _ :: _ => rfl
      | .r _ :: _ :: _ => rfl
  · cases h
theorem bget_mset {b : Bx} {dd k off n : Nat} {cs : List CV} (h : dd ≠ k) : bget (mset b dd cs) k off n = bget b k off n := by
  unfold bget; rw [mget_mset_ne _ _ h]
theorem bput_mset {b : Bx} {dd k off : Nat} {cs xs : List CV} (h : dd ≠ k) : bput (mset b dd cs) k off xs = (bput b k off xs).map fun b' => mset b' dd cs := by
  unfold bput
  rw [mget_mset_ne _ _ h]
  cases mget b k with
  | none => rfl
  | some c =>
    simp only [Option.bind_some]
    cases putOk c off xs with
    | none => rfl
    | some c' =>
      simp only [Option.bind_some, Option.map_some, Option.some.injEq]
      exact mset_comm _ _ _ h
theorem lp_ne {dd k off : Nat} {vs : List SV} (h : ∀ u ∈ vs, lpIn dd u = false) (hm : SV.lp k off ∈ vs) : dd ≠ k := by
  intro e
  have := h _ hm
  subst e
  simp [lpIn, nbeq_self] at this
/-- A read of a box does not see another one. -/
theorem rl_local {f : List SV → Bx → Option RV} (hsm : smOp I call o = .rl f) {vs : List SV} {dd : Nat} (h : ∀ u ∈ vs, lpIn dd u = false) (b : Bx) (cs : List CV) : f vs (mset b dd cs) = f vs b := by
  have hm := sm_np hsm (by simp) (by simp)
  obtain ⟨dst, op, type, pos, after, guard⟩ := o
  cases hm with
  | load t x =>
    simp only [smOp] at hsm
    split at hsm
    · cases hsm
    · rcases condE hsm with ⟨_, h1⟩ | ⟨_, h1⟩
      · rcases condE h1 with ⟨_, h2⟩ | ⟨_, h2⟩ <;> cases h2
        match vs, h with
        | [.lp k off], h => simp only [bget_mset (lp_ne h (show SV.lp k off ∈ [SV.lp k off] by simp))]
        | [], _ => rfl
        | .r _ :: _, _ => rfl
        | .gd _ _ _ :: _, _ => rfl
        | .lp _ _ :: _ :: _, _ => rfl
      · rcases condE h1 with ⟨_, h2⟩ | ⟨_, h2⟩ <;> cases h2
  | store t x y =>
    simp only [smOp] at hsm
    split at hsm
    · cases hsm
    · rcases condE hsm with ⟨_, h1⟩ | ⟨_, h1⟩
      · cases h1
      · rcases condE h1 with ⟨_, h2⟩ | ⟨_, h2⟩ <;> cases h2
  | alloc t =>
    simp only [smOp] at hsm
    split at hsm
    · rcases condE hsm with ⟨_, h1⟩ | ⟨_, h1⟩ <;> cases h1
    · cases hsm
  | box t x =>
    simp only [smOp] at hsm
    split at hsm
    · rcases condE hsm with ⟨_, h1⟩ | ⟨_, h1⟩ <;> cases h1
    · cases hsm
  | makeSlice t x y =>
    simp only [smOp] at hsm
    rcases condE hsm with ⟨_, h1⟩ | ⟨_, h1⟩ <;> cases h1
  | call c =>
    rcases call_sm hsm with ⟨_, h⟩ | h | ⟨_, _, _, h⟩ | ⟨_, h⟩ | ⟨_, h⟩ <;> cases h
/-- A write to a box leaves another one. -/
theorem wl_local {f : List SV → Bx → Option (SV × Bx)} (hsm : smOp I call o = .wl f) {vs : List SV} {dd : Nat} (h : ∀ u ∈ vs, lpIn dd u = false) (hb : boxesO I o ≠ some dd) (b : Bx) (cs : List CV) : f vs (mset b dd cs) = (f vs b).map fun r => (r.1, mset r.2 dd cs) := by
  have hm := sm_np hsm (by simp) (by simp)
  cases hbx : boxesO I o with
  | some d' =>
    obtain ⟨f', x, h1, h2⟩ := box_wl (call := call) hbx
    rw [hsm] at h1
    cases h1
    have hne : dd ≠ d' := fun e => hb (by rw [hbx, e])
    rw [h2, h2]
    cases x vs with
    | none => rfl
    | some c =>
      simp only [Option.bind_some, Option.map_some, Option.some.injEq, Prod.mk.injEq, true_and]
      exact mset_comm _ _ _ hne
  | none =>
  obtain ⟨dst, op, type, pos, after, guard⟩ := o
  cases hm with
  | load t x =>
    simp only [smOp] at hsm
    split at hsm
    · cases hsm
    · rcases condE hsm with ⟨_, h1⟩ | ⟨_, h1⟩
      · rcases condE h1 with ⟨_, h2⟩ | ⟨_, h2⟩ <;> cases h2
        match vs, h with
        | [.lp k off], h =>
          have hne := lp_ne h (show SV.lp k off ∈ [SV.lp k off] by simp)
          simp only [bget_mset hne]
          cases bget b k off _ with
          | none => rfl
          | some c =>
            simp only [Option.bind_some]
            cases packV (isAggT I.P t) c with
            | none => rfl
            | some v =>
              simp only [Option.bind_some]
              rw [bput_mset hne]
              cases bput b k off (demC c) <;> rfl
        | [], _ => rfl
        | .r _ :: _, _ => rfl
        | .gd _ _ _ :: _, _ => rfl
        | .lp _ _ :: _ :: _, _ => rfl
      · rcases condE h1 with ⟨_, h2⟩ | ⟨_, h2⟩ <;> cases h2
  | store t x y =>
    simp only [smOp] at hsm
    split at hsm
    · cases hsm
    · rcases condE hsm with ⟨_, h1⟩ | ⟨_, h1⟩
      · cases h1
      · rcases condE h1 with ⟨_, h2⟩ | ⟨_, h2⟩ <;> cases h2
        match vs, h with
        | [.lp k off, .r v], h =>
          have hne := lp_ne h (show SV.lp k off ∈ [SV.lp k off, SV.r v] by simp)
          cases hu : unpackV v with
          | none => simp [hu]
          | some c =>
            simp only [hu, Option.bind_some]
            cases (Nat.beq _ c.length) with
            | false => rfl
            | true =>
              simp only [cond_true]
              rw [bput_mset hne]
              cases bput b k off c <;> rfl
        | [], _ => rfl
        | [.r _], _ => rfl
        | [.gd _ _ _], _ => rfl
        | [.lp _ _], _ => rfl
        | .r _ :: _ :: _, _ => rfl
        | .gd _ _ _ :: _ :: _, _ => rfl
        | .lp _ _ :: .lp _ _ :: _, _ => rfl
        | .lp _ _ :: .gd _ _ _ :: _, _ => rfl
        | .lp _ _ :: .r _ :: _ :: _, _ => rfl
  | alloc t =>
    simp only [smOp] at hsm
    split at hsm
    · rcases condE hsm with ⟨h0, h1⟩ | ⟨_, h1⟩
      · simp [boxesO, h0] at hbx
      · cases h1
    · cases hsm
  | box t x =>
    simp only [smOp] at hsm
    split at hsm
    · rcases condE hsm with ⟨h0, h1⟩ | ⟨_, h1⟩
      · simp [boxesO, h0] at hbx
      · cases h1
    · cases hsm
  | makeSlice t x y =>
    simp only [smOp] at hsm
    rcases condE hsm with ⟨_, h1⟩ | ⟨_, h1⟩ <;> cases h1
  | call c =>
    rcases call_sm hsm with ⟨_, h⟩ | h | ⟨_, _, _, h⟩ | ⟨_, h⟩ | ⟨_, h⟩ <;> cases h

/-- No operand leads to the box. -/
def Out (p : Pre) (dd : Nat) : Prop := ∀ vs, p.vs = some vs → ∀ u ∈ vs, lpIn dd u = false
theorem pre_out {ds : List (Option Nat)} {t : Tm} {p : Pre} {dd : Nat} (h : preO ds o t = some p) (hn : NL dd t) (hd : dd ∉ readsO ds o) : Out p dd := by
  have key : ∀ ch vs, valsO ch t o.op.operands.toList = some vs → ∀ u ∈ vs, lpIn dd u = false := by
    intro ch vs hv u hu
    cases hl : lpIn dd u with
    | false => rfl
    | true =>
      obtain ⟨y, h1, u', h2, h3⟩ := vals_lp hv hu hl
      by_cases e : y = dd
      · subst e; exact absurd (by simp [readsO, h1]) hd
      · rw [hn y u' e h2] at h3; cases h3
  unfold preO at h
  split at h
  · cases h; exact fun vs hv u hu => key _ vs hv u hu
  · split at h
    · have h := (cond_none' h).2
      simp only [Option.bind_eq_some_iff, Option.some.injEq] at h
      obtain ⟨e, _, rfl⟩ := h
      exact fun vs hv u hu => key _ vs hv u hu
    · cases h

/-- The slots' part of an operation, then what it does. -/
def Parts (I : In) (call : CallF) (rg : Nat) (ds : List (Option Nat)) (i : Nat) (o : Oper) (c : Nat) : Prop :=
  ∃ A : Pre → Bx → Hp → Option (SV × Bx × Hp), (∀ s : St, opR I call true rg ds i o s some = (preO ds o s.t).bind fun p => (A p s.b s.h).bind fun r => some ⟨putO I o s.t r.1, r.2.1, r.2.2⟩) ∧ (∀ p, Act1 rg i c (A p)) ∧
    (∀ p dd b h cs, Out p dd → boxesO I o ≠ some dd → A p (mset b dd cs) h = (A p b h).map fun r => (r.1, mset r.2.1 dd cs, r.2.2)) ∧
    (∀ dd, boxesO I o = some dd → ∀ p, ∃ x : Option (List CV), ∀ b h, A p b h = x.bind fun cs => some (.lp dd 0, mset b dd cs, h))

theorem parts_p {rg i : Nat} {ds : List (Option Nat)} {f : List SV → Option SV} (hsm : smOp I call o = .p f) : Parts I call rg ds i o 0 := by
  let x : Pre → Option SV := fun p => match p.gd with
    | none => pRes (kindT I.P o.type) (lpsO p.vs) (p.vs.bind f) some
    | some (g, w) => pResG (kindT I.P o.type) (lpsO p.vs) p.e (gvP (isCallO o) p.e (p.vs.bind f)) fun v => some (.gd g w v)
  refine ⟨fun p b h => (x p).bind fun v => some (v, b, h), fun s => ?_, fun p => .p _, (fun p dd b h cs _ _ => by show Option.bind (x p) _ = Option.map _ (Option.bind (x p) _); cases (x p) <;> rfl), (fun dd hb => absurd (box_wl (call := call) hb) (by rintro ⟨f', _, h', _⟩; rw [hsm] at h'; cases h'))⟩
  unfold opR preO
  cases hg : o.guard with
  | none =>
    simp only [hsm, Option.bind_some, x]
    rw [pRes_bind _ _ _ fun v => some (⟨putO I o s.t v, s.b, s.h⟩ : St)]
    simp only [Option.bind_assoc, Option.bind_some]
  | some jw =>
    obtain ⟨j, w⟩ := jw
    dsimp only
    cases hds : ds[j]? with
    | none => rfl
    | some og =>
      cases og with
      | none => rfl
      | some g =>
        dsimp only
        rw [cond_bind]
        congr 1
        rw [Option.bind_assoc]
        congr 1; funext ee
        simp only [hsm, Option.bind_some, x]
        rw [pResG_bind _ _ _ _ fun v => some (⟨putO I o s.t (.gd g w v), s.b, s.h⟩ : St), pResG_bind _ _ _ _ fun v => some (SV.gd g w v)]
        simp only [Option.bind_assoc, Option.bind_some]

theorem parts_rl {rg i : Nat} {ds : List (Option Nat)} {f : List SV → Bx → Option RV} (hsm : smOp I call o = .rl f) : Parts I call rg ds i o 1 := by
  let x : Pre → Bx → Option SV := fun p z => match p.gd with
    | none => coeK (kindT I.P o.type) (p.vs.bind fun vs => f vs z) fun v => some (.r v)
    | some (g, w) => coeG (kindT I.P o.type) p.e (p.vs.bind fun vs => f vs z) fun v => some (.gd g w (.r v))
  refine ⟨fun p b h => (x p b).bind fun v => some (v, b, h), fun s => ?_, fun p => .rl (x p), fun p dd b h cs ho _ => ?_, (fun dd hb => absurd (box_wl (call := call) hb) (by rintro ⟨f', _, h', _⟩; rw [hsm] at h'; cases h'))⟩
  · unfold opR preO
    cases hg : o.guard with
    | none =>
      simp only [hsm, Option.bind_some, x]
      rw [coeK_bind _ _ fun v => some (⟨putO I o s.t (.r v), s.b, s.h⟩ : St), coeK_bind _ _ fun v => some (SV.r v)]
      simp only [Option.bind_assoc, Option.bind_some]
    | some jw =>
      obtain ⟨j, w⟩ := jw
      dsimp only
      cases hds : ds[j]? with
      | none => rfl
      | some og =>
        cases og with
        | none => rfl
        | some g =>
          dsimp only
          rw [cond_bind]
          congr 1
          rw [Option.bind_assoc]
          congr 1; funext ee
          simp only [hsm, Option.bind_some, x]
          rw [coeG_bind _ _ _ fun v => some (⟨putO I o s.t (.gd g w (.r v)), s.b, s.h⟩ : St), coeG_bind _ _ _ fun v => some (SV.gd g w (.r v))]
          simp only [Option.bind_assoc, Option.bind_some]
  · have e : x p (mset b dd cs) = x p b := by
      obtain ⟨e, gd, vs⟩ := p
      have hv : (vs.bind fun vs => f vs (mset b dd cs)) = vs.bind fun vs => f vs b := by
        cases vs with
        | none => rfl
        | some vs => exact rl_local hsm (ho vs rfl) b cs
      cases gd with
      | none => simp only [x]; rw [hv]
      | some gw => obtain ⟨g, w⟩ := gw; simp only [x]; rw [hv]
    show Option.bind (x p (mset b dd cs)) _ = Option.map _ (Option.bind (x p b) _)
    rw [e]
    cases x p b <;> rfl

theorem parts_rh {rg i : Nat} {ds : List (Option Nat)} {f : List SV → Hp → Option RV} (hsm : smOp I call o = .rh f) : Parts I call rg ds i o 3 := by
  let x : Pre → Hp → Option SV := fun p z => match p.gd with
    | none => coeK (kindT I.P o.type) (p.vs.bind fun vs => f vs z) fun v => some (.r v)
    | some (g, w) => coeG (kindT I.P o.type) p.e (p.vs.bind fun vs => f vs z) fun v => some (.gd g w (.r v))
  refine ⟨fun p b h => (x p (limH true rg h)).bind fun v => some (v, b, h), fun s => ?_, fun p => .rh (x p), (fun p dd b h cs _ _ => by show Option.bind (x p (limH true rg h)) _ = Option.map _ (Option.bind (x p (limH true rg h)) _); cases (x p (limH true rg h)) <;> rfl), (fun dd hb => absurd (box_wl (call := call) hb) (by rintro ⟨f', _, h', _⟩; rw [hsm] at h'; cases h'))⟩
  unfold opR preO
  cases hg : o.guard with
  | none =>
    simp only [hsm, Option.bind_some, x]
    rw [coeK_bind _ _ fun v => some (⟨putO I o s.t (.r v), s.b, s.h⟩ : St), coeK_bind _ _ fun v => some (SV.r v)]
    simp only [Option.bind_assoc, Option.bind_some]
  | some jw =>
    obtain ⟨j, w⟩ := jw
    dsimp only
    cases hds : ds[j]? with
    | none => rfl
    | some og =>
      cases og with
      | none => rfl
      | some g =>
        dsimp only
        rw [cond_bind]
        congr 1
        rw [Option.bind_assoc]
        congr 1; funext ee
        simp only [hsm, Option.bind_some, x]
        rw [coeG_bind _ _ _ fun v => some (⟨putO I o s.t (.gd g w (.r v)), s.b, s.h⟩ : St), coeG_bind _ _ _ fun v => some (SV.gd g w (.r v))]
        simp only [Option.bind_assoc, Option.bind_some]

theorem parts_wl {rg i : Nat} {ds : List (Option Nat)} {f : List SV → Bx → Option (SV × Bx)} (hsm : smOp I call o = .wl f) : Parts I call rg ds i o 2 := by
  let x : Pre → Bx → Option (SV × Bx) := fun p z => match p.gd with
    | none => p.vs.bind fun vs => f vs z
    | some (g, w) => none
  refine ⟨fun p b h => (x p b).bind fun r => some (r.1, r.2, h), fun s => ?_, fun p => .wl (x p), fun p dd b h cs ho hb => ?_, fun dd hb p => ?_⟩
  · unfold opR preO
    cases hg : o.guard with
    | none =>
      simp only [hsm, Option.bind_some, x]
      simp only [Option.bind_assoc, Option.bind_some]
    | some jw =>
      obtain ⟨j, w⟩ := jw
      dsimp only
      cases hds : ds[j]? with
      | none => rfl
      | some og =>
        cases og with
        | none => rfl
        | some g =>
          dsimp only
          rw [cond_bind]
          congr 1
          rw [Option.bind_assoc]
          congr 1; funext ee
          simp only [hsm, Option.bind_some, x]
          rfl
  · obtain ⟨e, gd, vs⟩ := p
    have hv : (vs.bind fun vs => f vs (mset b dd cs)) = (vs.bind fun vs => f vs b).map fun r => (r.1, mset r.2 dd cs) := by
      cases vs with
      | none => rfl
      | some vs => exact wl_local hsm (ho vs rfl) hb b cs
    cases gd with
    | none =>
      simp only [x]
      rw [hv]
      cases (vs.bind fun vs => f vs b) <;> rfl
    | some gw => rfl
  · obtain ⟨f', x', h1, h2⟩ := box_wl (call := call) hb
    rw [hsm] at h1
    cases h1
    obtain ⟨e, gd, vs⟩ := p
    cases gd with
    | none =>
      refine ⟨vs.bind x', fun b h => ?_⟩
      simp only [x]
      cases vs with
      | none => rfl
      | some vs =>
        simp only [Option.bind_some, h2]
        cases x' vs <;> rfl
    | some gw => exact ⟨none, fun b h => rfl⟩

theorem parts_al {rg i : Nat} {ds : List (Option Nat)} {f : List SV → Hp → Nat → Option (RV × List CV)} (hsm : smOp I call o = .al f) : Parts I call rg ds i o 6 := by
  let x : Pre → Hp → Option (SV × List CV) := fun p z => match p.gd with
    | none => (p.vs.bind fun vs => f vs z (rg + i)).bind fun r => some (.r r.1, r.2)
    | some (g, w) => none
  refine ⟨fun p b h => (x p (limH true rg h)).bind fun r => some (r.1, b, hset h (rg + i) r.2), fun s => ?_, fun p => .al (x p), (fun p dd b h cs _ _ => by show Option.bind (x p (limH true rg h)) _ = Option.map _ (Option.bind (x p (limH true rg h)) _); cases (x p (limH true rg h)) <;> rfl), (fun dd hb => absurd (box_wl (call := call) hb) (by rintro ⟨f', _, h', _⟩; rw [hsm] at h'; cases h'))⟩
  unfold opR preO
  cases hg : o.guard with
  | none =>
    simp only [hsm, Option.bind_some, x]
    simp only [Option.bind_assoc, Option.bind_some]
  | some jw =>
    obtain ⟨j, w⟩ := jw
    dsimp only
    cases hds : ds[j]? with
    | none => rfl
    | some og =>
      cases og with
      | none => rfl
      | some g =>
        dsimp only
        rw [cond_bind]
        congr 1
        rw [Option.bind_assoc]
        congr 1; funext ee
        simp only [hsm, Option.bind_some, x]
        rfl

theorem lim_grow {h h' : Hp} {n rg : Nat} (hg : Grow true n h h') (hr : rg ≤ n) : limH true rg h' = limH true rg h := by
  unfold limH
  simp only [cond_true, Hp.mk.injEq, and_true]
  funext j
  cases hj : Nat.blt j rg
  · rfl
  · rw [Nat.blt_eq] at hj
    simp only [cond_true]
    exact hg.same rfl j (by omega)
theorem parts_qh {rg i : Nat} {ds : List (Option Nat)} {f : List SV → Hp → Option (RV × Hp)} (hC : CallOk I.toEnv call) (hsm : smOp I call o = .qh f) : Parts I call rg ds i o 7 := by
  let x : Pre → Hp → Option (SV × Hp) := fun p z => match p.gd with
    | none => (p.vs.bind fun vs => f vs z).bind fun r => coeK (kindT I.P o.type) (some r.1) fun v => some (.r v, r.2)
    | some (g, w) => (cond p.e (p.vs.bind fun vs => f vs z) (some (undefR, z))).bind fun r => coeG (kindT I.P o.type) p.e (some r.1) fun v => some (.gd g w (.r v), r.2)
  have hx : ∀ p h r, x p h = some r → rg ≤ h.nx → limH true rg r.2 = limH true rg h ∧ h.nx ≤ r.2.nx := by
    intro p h r hr hrg
    have key : ∀ r' : RV × Hp, (p.vs.bind fun vs => f vs h) = some r' → limH true rg r'.2 = limH true rg h ∧ h.nx ≤ r'.2.nx := by
      intro r' hr'
      simp only [Option.bind_eq_some_iff] at hr'
      obtain ⟨vs, _, hf⟩ := hr'
      have hg := qh_grow hC hsm hf
      exact ⟨lim_grow hg hrg, hg.nx⟩
    obtain ⟨e, gd, vs⟩ := p
    cases gd with
    | none =>
      simp only [x, Option.bind_eq_some_iff] at hr
      obtain ⟨r', h1, h2⟩ := hr
      obtain ⟨v, _, h3⟩ := coeK_some h2
      simp only [Option.some.injEq] at h3; subst h3
      exact key r' (by simpa [Option.bind_eq_some_iff] using h1)
    | some gw =>
      obtain ⟨g, w⟩ := gw
      simp only [x, Option.bind_eq_some_iff] at hr
      obtain ⟨r', h1, h2⟩ := hr
      obtain ⟨v, _, h3⟩ := coeG_some h2
      simp only [Option.some.injEq] at h3; subst h3
      rcases condE h1 with ⟨_, h1⟩ | ⟨_, h1⟩
      · exact key r' (by simpa [Option.bind_eq_some_iff] using h1)
      · simp only [Option.some.injEq] at h1; subst h1; exact ⟨rfl, Nat.le_refl _⟩
  refine ⟨fun p b h => (x p h).bind fun r => some (r.1, b, r.2), fun s => ?_, fun p => .qh (x p) (hx p), (fun p dd b h cs _ _ => by show Option.bind (x p h) _ = Option.map _ (Option.bind (x p h) _); cases (x p h) <;> rfl), (fun dd hb => absurd (box_wl (call := call) hb) (by rintro ⟨f', _, h', _⟩; rw [hsm] at h'; cases h'))⟩
  unfold opR preO
  cases hg : o.guard with
  | none =>
    simp only [hsm, Option.bind_some, x]
    generalize ((valsO [] s.t o.op.operands.toList).bind fun vs => f vs s.h) = y
    cases y with
    | none => rfl
    | some r =>
    simp only [Option.bind_some]
    rw [coeK_bind _ _ fun v => some (⟨putO I o s.t (.r v), s.b, r.2⟩ : St), coeK_bind _ _ fun v => some (SV.r v, r.2)]
    simp only [Option.bind_assoc, Option.bind_some]
  | some jw =>
    obtain ⟨j, w⟩ := jw
    dsimp only
    cases hds : ds[j]? with
    | none => rfl
    | some og =>
      cases og with
      | none => rfl
      | some g =>
        dsimp only
        rw [cond_bind]
        congr 1
        rw [Option.bind_assoc]
        congr 1; funext ee
        simp only [hsm, Option.bind_some, x]
        generalize (bif ee.2 then (valsO ee.1 s.t o.op.operands.toList).bind fun vs => f vs s.h else some (undefR, s.h)) = y
        cases y with
        | none => rfl
        | some r =>
        simp only [Option.bind_some]
        rw [coeG_bind _ _ _ fun v => some (⟨putO I o s.t (.gd g w (.r v)), s.b, r.2⟩ : St), coeG_bind _ _ _ fun v => some (SV.gd g w (.r v), r.2)]
        simp only [Option.bind_assoc, Option.bind_some]

theorem parts_wh {rg i : Nat} {ds : List (Option Nat)} {f : List SV → Hp → Option (RV × Hp)} (hsm : smOp I call o = .wh f) : Parts I call rg ds i o 4 := by
  let x : Pre → Hp → Option (SV × Hp) := fun p z => cond I.quiet none (match p.gd with
    | none => (p.vs.bind fun vs => f vs z).bind fun r => cond o.dst.isSome (coeK (kindT I.P o.type) (some r.1) fun v => some (.r v, r.2)) (some (.r r.1, r.2))
    | some (g, w) => (cond p.e (p.vs.bind fun vs => f vs z) (some (undefR, z))).bind fun r => coeG (kindT I.P o.type) p.e (some r.1) fun v => some (.gd g w (.r v), r.2))
  refine ⟨fun p b h => (x p h).bind fun r => some (r.1, b, r.2), fun s => ?_, fun p => .wh (x p), (fun p dd b h cs _ _ => by show Option.bind (x p h) _ = Option.map _ (Option.bind (x p h) _); cases (x p h) <;> rfl), (fun dd hb => absurd (box_wl (call := call) hb) (by rintro ⟨f', _, h', _⟩; rw [hsm] at h'; cases h'))⟩
  unfold opR preO
  cases hg : o.guard with
  | none =>
    simp only [hsm, Option.bind_some, x]
    rw [cond_bind]
    cases I.quiet
    · simp only [cond_false]
      generalize ((valsO [] s.t o.op.operands.toList).bind fun vs => f vs s.h) = y
      cases y with
      | none => rfl
      | some r =>
        simp only [Option.bind_some]
        cases o.dst.isSome
        · rfl
        · simp only [cond_true]
          rw [coeK_bind _ _ fun v => some (⟨putO I o s.t (.r v), s.b, r.2⟩ : St), coeK_bind _ _ fun v => some (SV.r v, r.2)]
          simp only [Option.bind_assoc, Option.bind_some]
    · rfl
  | some jw =>
    obtain ⟨j, w⟩ := jw
    dsimp only
    cases hds : ds[j]? with
    | none => rfl
    | some og =>
      cases og with
      | none => rfl
      | some g =>
        dsimp only
        rw [cond_bind]
        congr 1
        rw [Option.bind_assoc]
        congr 1; funext ee
        simp only [hsm, Option.bind_some, x]
        cases I.quiet
        · simp only [cond_false]
          generalize (bif ee.2 then (valsO ee.1 s.t o.op.operands.toList).bind fun vs => f vs s.h else some (undefR, s.h)) = y
          cases y with
          | none => rfl
          | some r =>
          simp only [Option.bind_some]
          rw [coeG_bind _ _ _ fun v => some (⟨putO I o s.t (.gd g w (.r v)), s.b, r.2⟩ : St), coeG_bind _ _ _ fun v => some (SV.gd g w (.r v), r.2)]
          simp only [Option.bind_assoc, Option.bind_some]
        · rfl

theorem lim_hset {h : Hp} {rg i : Nat} {cs : List CV} : limH true rg (hset h (rg + i) cs) = limH true rg h := by
  unfold limH
  simp only [cond_true, Hp.mk.injEq, and_true]
  funext j
  cases hj : Nat.blt j rg
  · rfl
  · rw [Nat.blt_eq] at hj
    show cond true (cond (Nat.beq j (rg + i)) (some cs) (h.m j)) none = cond true (h.m j) none
    rw [nbeq_ne (by omega)]; rfl
theorem hset_comm {h : Hp} {i j : Nat} {cs ds : List CV} (hne : i ≠ j) : hset (hset h i cs) j ds = hset (hset h j ds) i cs := by
  unfold hset
  simp only [Hp.mk.injEq, and_true]
  funext k
  by_cases h1 : k = j
  · subst h1; simp [nbeq_self, nbeq_ne (Ne.symm hne)]
  · by_cases h2 : k = i
    · subst h2; simp [nbeq_self, nbeq_ne h1]
    · simp [nbeq_ne h1, nbeq_ne h2]

/-- Two that do not clash change places. -/
theorem act_comm {rg i1 i2 c1 c2 : Nat} {A1 A2 : Bx → Hp → Option (SV × Bx × Hp)} (h1 : Act1 rg i1 c1 A1) (h2 : Act1 rg i2 c2 A2) (hcl : clash c1 c2 = false) (hne : i1 ≠ i2) {b : Bx} {h : Hp} (hrg : rg ≤ h.nx) {r1 r2 : SV × Bx × Hp} (e1 : A1 b h = some r1) (e2 : A2 r1.2.1 r1.2.2 = some r2) :
    ∃ r1' r2', A2 b h = some r1' ∧ A1 r1'.2.1 r1'.2.2 = some r2' ∧ r1'.1 = r2.1 ∧ r2'.1 = r1.1 ∧ r2'.2 = r2.2 := by
  cases h1 <;> cases h2 <;> first | (simp [clash] at hcl; done) | skip
  all_goals
    simp only [Option.bind_eq_some_iff, Option.some.injEq] at e1
    obtain ⟨u, hu, rfl⟩ := e1
    simp only [Option.bind_eq_some_iff, Option.some.injEq] at e2
    obtain ⟨v, hv, rfl⟩ := e2
  all_goals try simp only [lim_hset] at hv
  all_goals first
    | exact ⟨_, _, Option.bind_eq_some_iff.2 ⟨_, hv, rfl⟩, Option.bind_eq_some_iff.2 ⟨_, hu, rfl⟩, rfl, rfl, rfl⟩
    | exact ⟨_, _, Option.bind_eq_some_iff.2 ⟨_, hv, rfl⟩, Option.bind_eq_some_iff.2 ⟨_, (by simp only [lim_hset]; exact hu), rfl⟩, rfl, rfl, rfl⟩
    | skip
  case rh.qh =>
    rename_i hx
    exact ⟨_, _, Option.bind_eq_some_iff.2 ⟨_, hv, rfl⟩, Option.bind_eq_some_iff.2 ⟨_, (by simp only [(hx _ _ hv hrg).1]; exact hu), rfl⟩, rfl, rfl, rfl⟩
  case al.al =>
    exact ⟨_, _, Option.bind_eq_some_iff.2 ⟨_, hv, rfl⟩, Option.bind_eq_some_iff.2 ⟨_, (by simp only [lim_hset]; exact hu), rfl⟩, rfl, rfl, by simp only [Prod.mk.injEq, true_and]; exact hset_comm (by omega)⟩
  case qh.rh =>
    rename_i hx _
    simp only [(hx _ _ hu hrg).1] at hv
    exact ⟨_, _, Option.bind_eq_some_iff.2 ⟨_, hv, rfl⟩, Option.bind_eq_some_iff.2 ⟨_, hu, rfl⟩, rfl, rfl, rfl⟩

/-- An operation's class, by number. -/
def smC : Sm → Nat | .p _ => 0 | .rl _ => 1 | .wl _ => 2 | .rh _ => 3 | .wh _ => 4 | .al _ => 6 | .qh _ => 7 | .bad => 5
theorem smC_cond (b : Bool) (x y : Sm) : smC (cond b x y) = cond b (smC x) (smC y) := by cases b <;> rfl
theorem smC_call (call call' : CallF) (o : Oper) : smC (smOp I call o) = smC (smOp I call' o) := by
  obtain ⟨dst, op, type, pos, after, guard⟩ := o
  cases op with
  | call c =>
    obtain ⟨callee, args, argTypes⟩ := c
    cases callee with
    | builtin b => rfl
    | value x =>
      cases x with
      | func f => simp only [smOp, callSm, smC_cond]; rfl
      | tmp k => simp only [smOp, smC_cond]; rfl
      | const _ => rfl
      | global _ => rfl
    | invoke x name => simp only [smOp, smC_cond]; rfl
  | _ => rfl
theorem clsO_eq (call : CallF) (o : Oper) : clsO I o = smC (smOp I call o) := by
  rw [smC_call call (fun _ _ _ _ => none)]
  rfl
theorem parts_of {rg i : Nat} {ds : List (Option Nat)} (hC : CallOk I.toEnv call) (hb : smOp I call o ≠ .bad) : Parts I call rg ds i o (clsO I o) := by
  rw [clsO_eq call]
  cases hsm : smOp I call o with
  | p f => exact parts_p hsm
  | rl f => exact parts_rl hsm
  | wl f => exact parts_wl hsm
  | rh f => exact parts_rh hsm
  | wh f => exact parts_wh hsm
  | al f => exact parts_al hsm
  | qh f => exact parts_qh hC hsm
  | bad => exact absurd hsm hb

/-! What an operation reads of the slots is the same behind an independent one. -/
theorem mget_putO {oj : Oper} {t : Tm} {v : SV} {x : Nat} (h : ∀ y, oj.dst = some y → x ≠ y) : mget (putO I oj t v) x = mget (demAt t (stealsO I oj)) x := by
  unfold putO
  cases hd : oj.dst with
  | none => rfl
  | some y => exact mget_mset_ne _ _ (Ne.symm (h y hd))
def gHead : Option SV → Option (Option (Nat × Bool) × Bool)
  | some (.r (.c (.a (.d (.bool b))))) => some (none, b)
  | some (.gd s' w' (.r (.c (.a (.d (.bool b)))))) => some (some (s', w'), b)
  | _ => none
theorem effG_succ (t : Tm) (n s : Nat) (w : Bool) : effG t (n + 1) s w = (match gHead (mget t s) with
    | some (none, b) => some ([(s, w)], eqB b w)
    | some (some q, b) => (effG t n q.1 q.2).bind fun r => some ((s, w) :: r.1, r.2 && eqB b w)
    | none => none) := by
  rw [effG]
  split
  · rename_i b hb; rw [hb]; rfl
  · rename_i s' w' b hb; simp only [hb, gHead]
  · rename_i h1 h2
    have hn : gHead (mget t s) = none := by
      unfold gHead
      split
      · rename_i b hb; exact absurd hb (h1 _)
      · rename_i s' w' b hb; exact absurd hb (h2 _ _ _)
      · rfl
    rw [hn]
theorem gHead_dem (u : Option SV) : gHead (u.map SV.dem) = gHead u := by
  cases u with
  | none => rfl
  | some u =>
    have key : ∀ r : RV, gHead (some (.r r.dem)) = gHead (some (.r r)) ∧ ∀ s w, gHead (some (.gd s w (.r r.dem))) = gHead (some (.gd s w (.r r))) := by
      intro r
      cases r with
      | c c => cases c <;> exact ⟨rfl, fun _ _ => rfl⟩
      | tup xs => exact ⟨rfl, fun _ _ => rfl⟩
    cases u with
    | r r => exact (key r).1
    | lp _ _ => rfl
    | gd s w v =>
      cases v with
      | r r => exact (key r).2 s w
      | lp _ _ => rfl
      | gd _ _ _ => rfl
theorem gHead_gd {u : Option SV} {q : Nat × Bool} {b : Bool} (h : gHead u = some (some q, b)) : ∃ v, u = some v ∧ gdOf q.1 v = true := by
  unfold gHead at h
  split at h
  · simp at h
  · rename_i s' w' b'
    simp only [Option.some.injEq, Prod.mk.injEq] at h
    obtain ⟨rfl, rfl⟩ := h
    exact ⟨_, rfl, by simp [gdOf, nbeq_self]⟩
  · cases h
theorem effG_put {oj : Oper} {t : Tm} {v : SV} (hng : ∀ y, oj.dst = some y → NG y t) : ∀ (n s : Nat) (w : Bool), (∀ y, oj.dst = some y → s ≠ y) → effG (putO I oj t v) n s w = effG t n s w := by
  intro n
  induction n with
  | zero => intro s w _; rfl
  | succ n ih =>
    intro s w hs
    rw [effG_succ, effG_succ, mget_putO hs, mget_demAt]
    have e : gHead (if s ∈ stealsO I oj then (mget t s).map SV.dem else mget t s) = gHead (mget t s) := by
      split
      · exact gHead_dem _
      · rfl
    rw [e]
    cases hg : gHead (mget t s) with
    | none => rfl
    | some q =>
      obtain ⟨q, b⟩ := q
      cases q with
      | none => rfl
      | some q =>
        simp only
        obtain ⟨u, hu, hgd⟩ := gHead_gd hg
        rw [ih q.1 q.2 (fun y hy he => by
          have := hng y hy s u hu
          rw [← he, hgd] at this; cases this)]

theorem mget_putO' {oj : Oper} {t : Tm} {v : SV} {x : Nat} (h : x ∉ writesO I oj) : mget (putO I oj t v) x = mget t x := by
  simp only [writesO, List.mem_append, not_or] at h
  rw [mget_putO (fun y hy he => by
    subst he
    rw [hy] at h
    exact h.1 (by simp)), mget_demAt, if_neg h.2]
theorem valsO_put {oj : Oper} {t : Tm} {v : SV} {ch : List (Nat × Bool)} {xs : List Operand} (h : ∀ x ∈ tmpsO xs, x ∉ writesO I oj) : valsO ch (putO I oj t v) xs = valsO ch t xs := by
  induction xs with
  | nil => rfl
  | cons y xs ih =>
    have h2 : valsO ch (putO I oj t v) xs = valsO ch t xs := ih (fun x hx => h x (by
      cases y <;> simp only [tmpsO] <;> first | exact List.mem_cons_of_mem _ hx | exact hx))
    have h1 : opd (putO I oj t v) y = opd t y := by
      cases y with
      | tmp s => exact mget_putO' (h s (by simp [tmpsO]))
      | _ => rfl
    simp only [valsO, h1, h2]
theorem disj_iff {a b : List Nat} : disj a b = true ↔ ∀ x ∈ a, x ∉ b := by
  induction a with
  | nil => simp [disj]
  | cons x a ih =>
    unfold disj
    cases hb : has b x with
    | true => simp [has_iff.1 hb]
    | false =>
      have : x ∉ b := fun h => by rw [has_iff.2 h] at hb; cases hb
      simp [ih, this]

theorem preO_put {oj o : Oper} {ds : List (Option Nat)} {t : Tm} {v : SV} (hng : ∀ y, oj.dst = some y → NG y t) (hd : disj (writesO I oj) (readsO ds o) = true) : preO ds o (putO I oj t v) = preO ds o t := by
  have hd := disj_iff.1 hd
  have hop : ∀ ch, valsO ch (putO I oj t v) o.op.operands.toList = valsO ch t o.op.operands.toList := fun ch => valsO_put (fun x hx hw => hd x hw (by simp [readsO, hx]))
  unfold preO
  cases hg : o.guard with
  | none => simp only [hop]
  | some jw =>
    obtain ⟨j, w⟩ := jw
    dsimp only
    cases hds : ds[j]? with
    | none => rfl
    | some og =>
      cases og with
      | none => rfl
      | some g =>
        dsimp only
        have hgs : ∀ y, oj.dst = some y → g ≠ y := fun y hy he => by
          subst he
          exact hd g (by simp [writesO, hy]) (by simp [readsO, hg, hds])
        rw [effG_put hng 5 g w hgs]
        simp only [hop]

theorem not_bad {dr : Bool} {rg i : Nat} {ds : List (Option Nat)} (h : opR I call dr rg ds i o s some = some s1) : smOp I call o ≠ .bad := by
  intro hb
  unfold opR at h
  rw [hb] at h
  split at h
  · cases h
  · split at h
    · have h := (cond_none' h).2
      simp only [Option.bind_eq_some_iff] at h
      obtain ⟨_, _, h⟩ := h
      cases h
    · cases h
/-- Independent neighbours change places. -/
theorem swap {oj oi : Oper} {rg j i : Nat} {ds : List (Option Nat)} {s2 : St} (hC : CallOk I.toEnv call) (hi : indepO I ds oj oi = true) (hne : j ≠ i) (hrg : rg ≤ s.h.nx) (hngj : ∀ y, oj.dst = some y → NG y s.t) (hngi : ∀ y, oi.dst = some y → NG y s.t) (hnlj : ∀ y, boxesO I oj = some y → NL y s.t) (hnli : ∀ y, boxesO I oi = some y → NL y s.t)
    (h1 : opR I call true rg ds j oj s some = some s1) (h2 : opR I call true rg ds i oi s1 some = some s2) : ∃ s1', opR I call true rg ds i oi s some = some s1' ∧ opR I call true rg ds j oj s1' some = some s2 := by
  obtain ⟨A, hA, hA', lA, bA⟩ := parts_of (rg := rg) (i := j) (ds := ds) hC (not_bad h1)
  obtain ⟨B, hB, hB', lB, bB⟩ := parts_of (rg := rg) (i := i) (ds := ds) hC (not_bad h2)
  simp only [indepO, Bool.and_eq_true, Bool.or_eq_true, Bool.not_eq_true'] at hi
  obtain ⟨⟨hcl, hd1⟩, hd2⟩ := hi
  have hd1' := disj_iff.1 hd1
  have hdA : disj (writesO I oj) (readsO ds oi) = true := disj_iff.2 fun x hx hm => hd1' x hx (List.mem_append_left _ hm)
  have hww : ∀ x, x ∈ writesO I oj → x ∉ writesO I oi := fun x hx hm => hd1' x hx (List.mem_append_right _ hm)
  rw [hA] at h1
  simp only [Option.bind_eq_some_iff, Option.some.injEq] at h1
  obtain ⟨p, hp, r, hr, rfl⟩ := h1
  rw [hB] at h2
  simp only [Option.bind_eq_some_iff, Option.some.injEq] at h2
  obtain ⟨q, hq, u, hu, rfl⟩ := h2
  rw [preO_put hngj hdA] at hq
  have hcomm : ∃ r1' r2', B q s.b s.h = some r1' ∧ A p r1'.2.1 r1'.2.2 = some r2' ∧ r1'.1 = u.1 ∧ r2'.1 = r.1 ∧ r2'.2 = u.2 := by
    rcases hcl with hcl | hcl | hcl
    · exact act_comm (hA' p) (hB' q) hcl hne hrg hr hu
    · -- the first one makes a box
      obtain ⟨dd, hdd⟩ := Option.isSome_iff_exists.1 hcl
      have hw : dd ∈ writesO I oj := by simp [writesO, boxes_dst' hdd]
      have hout := pre_out hq (hnlj dd hdd) (fun hm => (disj_iff.1 hdA) dd hw hm)
      have hnb : boxesO I oi ≠ some dd := fun e => hww dd hw (by simp [writesO, boxes_dst' e])
      obtain ⟨x, hx⟩ := bA dd hdd p
      rw [hx] at hr
      simp only [Option.bind_eq_some_iff, Option.some.injEq] at hr
      obtain ⟨cs, hcs, rfl⟩ := hr
      simp only at hu
      rw [lB q dd s.b s.h cs hout hnb] at hu
      simp only [Option.map_eq_some_iff] at hu
      obtain ⟨u', hu', rfl⟩ := hu
      exact ⟨u', (.lp dd 0, mset u'.2.1 dd cs, u'.2.2), hu', by rw [hx, hcs]; rfl, rfl, rfl, rfl⟩
    · -- the second one
      obtain ⟨dd, hdd⟩ := Option.isSome_iff_exists.1 hcl
      have hw : dd ∈ writesO I oi := by simp [writesO, boxes_dst' hdd]
      have hout := pre_out hp (hnli dd hdd) (fun hm => (disj_iff.1 hd2) dd hw hm)
      have hnb : boxesO I oj ≠ some dd := fun e => hww dd (by simp [writesO, boxes_dst' e]) hw
      obtain ⟨x, hx⟩ := bB dd hdd q
      rw [hx] at hu
      simp only [Option.bind_eq_some_iff, Option.some.injEq] at hu
      obtain ⟨cs, hcs, rfl⟩ := hu
      refine ⟨(.lp dd 0, mset s.b dd cs, s.h), (r.1, mset r.2.1 dd cs, r.2.2), by rw [hx, hcs]; rfl, by show A p (mset s.b dd cs) s.h = _; rw [lA p dd s.b s.h cs hout hnb, hr]; rfl, rfl, rfl, rfl⟩
  obtain ⟨r1', r2', e1, e2, e3, e4, e5⟩ := hcomm
  refine ⟨⟨putO I oi s.t r1'.1, r1'.2.1, r1'.2.2⟩, ?_, ?_⟩
  · rw [hB]
    simp only [Option.bind_eq_some_iff, Option.some.injEq]
    exact ⟨q, hq, r1', e1, rfl⟩
  · rw [hA]
    simp only [Option.bind_eq_some_iff, Option.some.injEq]
    refine ⟨p, by rw [preO_put hngi hd2]; exact hp, r2', e2, ?_⟩
    have hc := putO_comm (I := I) (o1 := oj) (o2 := oi) (t := s.t) (v1 := r.1) (v2 := u.1) (fun x hx hm => hww x (by simp [writesO, hx]) (by simp [writesO, hm])) (fun x hx hm => hww x (by simp [writesO, hm]) (by simp [writesO, hx])) (fun x hx he => hww x (by simp [writesO, hx]) (by simp [writesO, he]))
    rw [e3, e4, hc, e5]
end Go.Abs
namespace Go.Abs
variable {g g' : Gh} {w w' : World} {beta beta' : Nat → Nat} {d e : Nat}
variable {I : In} {call : CallF} {loop : LoopF} {a : Act} {o : Oper} {vs : List SV} {s s1 : St}

theorem lp_sA {k : Nat} {a : AV} : lpIn k (sA a) = false := rfl
theorem one1Lp {k : Nat} {v : SV} (h : one1 vs = some v) (hl : lpIn k v = true) : ∃ u ∈ vs, lpIn k u = true := by
  unfold one1 at h
  split at h
  · cases h; cases hl
  · cases h; exact ⟨_, by simp, hl⟩
  · cases h
theorem nilCk_lp {k : Nat} {x v : SV} (h : nilCk x = some v) (hl : lpIn k v = true) : lpIn k x = true := by
  unfold nilCk at h
  split at h <;> cases h <;> first | exact hl | cases hl
theorem fieldAddr_lp {k : Nat} {P : Program} {t : TypeId} {f : Nat} {x v : SV} (h : fieldAddrV P t f x = some v) (hl : lpIn k v = true) : lpIn k x = true := by
  unfold fieldAddrV at h
  simp only [Option.bind_eq_some_iff] at h
  obtain ⟨r, _, h⟩ := h
  split at h <;> cases h <;> first | exact hl | cases hl
theorem indexAddr_lp {k : Nat} {P : Program} {t : TypeId} {i : AV} {x v : SV} (h : indexAddrV P t x i = some v) (hl : lpIn k v = true) : lpIn k x = true := by
  unfold indexAddrV at h
  split at h
  · split at h
    · simp only [Option.bind_eq_some_iff] at h
      obtain ⟨r, _, h⟩ := h
      split at h
      · have := (grd_some (cond_none h).2).2; subst this; cases hl
      · have := (grd_some (cond_none h).2).2; subst this; cases hl
      · have := (grd_some h).2; subst this; cases hl
      · cases h
    · simp only [Option.bind_eq_some_iff] at h
      obtain ⟨r, _, h⟩ := h
      split at h
      · have := (grd_some h).2; subst this; exact hl
      · have := (grd_some h).2; subst this; cases hl
      · have := (grd_some h).2; subst this; cases hl
      · cases h
    · cases h
  · cases h
theorem selV_lp {k : Nat} {b : Bool} {x y : AV} {v : SV} (h : selV b x y = some v) : lpIn k v = false := by
  unfold selV at h
  split at h <;> cases h
  rfl
theorem pickV_lp {k : Nat} {c : Operand} {v : SV} (h : pickV c vs = some v) : lpIn k v = false := by
  unfold pickV at h
  split at h
  · simp only [Option.bind_eq_some_iff] at h
    obtain ⟨_, _, _, _, h⟩ := h
    exact selV_lp h
  · cases h
theorem fold1Lp {k : Nat} {f : AV → AV → Option AV} {xs : List AV} {v : SV} (h : fold1 f xs = some v) : lpIn k v = false := by
  unfold fold1 at h
  split at h
  · simp only [Option.bind_eq_some_iff, Option.some.injEq] at h
    obtain ⟨_, _, rfl⟩ := h
    rfl
  · cases h
theorem extr_lp {k i : Nat} {x v : SV} (h : extr i x = some v) : lpIn k v = false := by
  unfold extr at h
  split at h
  · simp only [Option.bind_eq_some_iff, Option.some.injEq] at h
    obtain ⟨_, _, rfl⟩ := h
    rfl
  · cases h
/-- A box of the frame is led to only by what led to it. -/
theorem p_lp {f : List SV → Option SV} {v : SV} {k : Nat} (hsm : smOp I call o = .p f) (hv : f vs = some v) (hl : lpIn k v = true) : ∃ u ∈ vs, lpIn k u = true := by
  obtain ⟨dst, op, type, pos, after, guard⟩ := o
  have mv : ∀ x, moveSm I ⟨dst, op, type, pos, after, guard⟩ x = .p f → ∃ u ∈ vs, lpIn k u = true := by
    intro x h
    unfold moveSm at h
    rcases condE h with ⟨_, h⟩ | ⟨_, h⟩
    · cases h
      unfold nilOwn at hv
      simp only [Option.bind_eq_some_iff, Option.some.injEq] at hv
      obtain ⟨_, _, _, _, rfl⟩ := hv
      cases hl
    · cases h; exact one1Lp hv hl
  cases op with
  | move x => exact mv x hsm
  | assign x => exact mv x hsm
  | pick c x y => cases hsm; rw [pickV_lp hv] at hl; cases hl
  | nilCheck x =>
    cases hsm
    dsimp only at hv
    split at hv
    · exact ⟨_, by simp, nilCk_lp hv hl⟩
    · cases hv
  | fieldAddr t x f =>
    cases hsm
    dsimp only at hv
    split at hv
    · exact ⟨_, by simp, fieldAddr_lp hv hl⟩
    · cases hv
  | indexAddr t x y =>
    cases hsm
    dsimp only at hv
    split at hv
    · simp only [Option.bind_eq_some_iff] at hv
      obtain ⟨_, _, hv⟩ := hv
      exact ⟨_, by simp, indexAddr_lp hv hl⟩
    · cases hv
  | extract x i =>
    cases hsm
    dsimp only at hv
    split at hv
    · rw [extr_lp hv] at hl; cases hl
    · cases hv
  | build t p =>
    cases hsm
    simp only [Option.bind_eq_some_iff, Option.some.injEq] at hv
    obtain ⟨_, _, _, _, rfl⟩ := hv
    cases hl
  | buildSlice t n p =>
    cases hsm
    simp only [Option.bind_eq_some_iff, Option.some.injEq] at hv
    obtain ⟨_, _, _, _, rfl⟩ := hv
    cases hl
  | binOp b t x y z =>
    cases hsm
    simp only [Option.bind_eq_some_iff, bin2] at hv
    obtain ⟨_, _, hv⟩ := hv
    split at hv
    · simp only [Option.bind_eq_some_iff, Option.some.injEq] at hv
      obtain ⟨_, _, rfl⟩ := hv
      cases hl
    · cases hv
  | unOp b x y =>
    cases hsm
    simp only [Option.bind_eq_some_iff, un1] at hv
    obtain ⟨_, _, hv⟩ := hv
    split at hv
    · simp only [Option.bind_eq_some_iff, Option.some.injEq] at hv
      obtain ⟨_, _, rfl⟩ := hv
      cases hl
    · cases hv
  | convert a b x =>
    cases hsm
    dsimp only at hv
    split at hv
    · simp only [Option.bind_eq_some_iff, Option.some.injEq] at hv
      obtain ⟨_, _, rfl⟩ := hv
      cases hl
    · cases hv
  | makeInterface t x =>
    cases hsm
    simp only [Option.bind_eq_some_iff, iface1] at hv
    obtain ⟨_, _, hv⟩ := hv
    split at hv
    · have := (cond_none hv).2; cases this; cases hl
    · cases hv
  | makeFunc fn first c =>
    simp only [smOp] at hsm
    split at hsm
    · cases hsm
      simp only [Option.bind_eq_some_iff, func1] at hv
      obtain ⟨_, _, hv⟩ := hv
      split at hv <;> cases hv <;> cases hl
    · cases hsm
  | slice t x lo hi mx =>
    simp only [smOp] at hsm
    split at hsm
    · cases hsm
      simp only [Option.bind_eq_some_iff, slice1] at hv
      obtain ⟨_, _, hv⟩ := hv
      split at hv
      · simp only [Option.bind_eq_some_iff, Option.some.injEq] at hv
        obtain ⟨_, _, _, _, rfl⟩ := hv
        cases hl
      · cases hv
    · cases hsm
  | field t x i =>
    cases hsm
    simp only [Option.bind_eq_some_iff, field1] at hv
    obtain ⟨_, _, hv⟩ := hv
    split at hv
    · simp only [Option.bind_eq_some_iff, Option.some.injEq] at hv
      obtain ⟨_, _, rfl⟩ := hv
      cases hl
    · cases hv
  | index t x i =>
    cases hsm
    simp only [Option.bind_eq_some_iff, index2] at hv
    obtain ⟨_, _, hv⟩ := hv
    split at hv
    · simp only [Option.bind_eq_some_iff, Option.some.injEq] at hv
      obtain ⟨_, _, rfl⟩ := hv
      cases hl
    · cases hv
  | call c =>
    simp only [smOp] at hsm
    split at hsm
    · rename_i b hb
      unfold builtinSm at hsm
      split at hsm
      · cases hsm
        dsimp only at hv
        split at hv
        · simp only [Option.bind_eq_some_iff, Option.some.injEq] at hv
          obtain ⟨_, _, _, _, rfl⟩ := hv
          cases hl
        · cases hv
      · rcases condE hsm with ⟨_, h⟩ | ⟨_, h⟩ <;> cases h
        dsimp only at hv
        split at hv
        · simp only [Option.bind_eq_some_iff, Option.some.injEq] at hv
          obtain ⟨_, _, _, _, _, _, rfl⟩ := hv
          cases hl
        · cases hv
      · cases hsm
        simp only [Option.bind_eq_some_iff] at hv
        obtain ⟨_, _, hv⟩ := hv
        rw [fold1Lp hv] at hl; cases hl
      · cases hsm
        simp only [Option.bind_eq_some_iff] at hv
        obtain ⟨_, _, hv⟩ := hv
        rw [fold1Lp hv] at hl; cases hl
      · cases hsm
    · unfold callSm at hsm
      rcases condE hsm with ⟨_, h⟩ | ⟨_, h⟩
      · rcases condE h with ⟨_, h⟩ | ⟨_, h⟩
        · cases h
          simp only [Option.bind_eq_some_iff] at hv
          obtain ⟨_, _, hv⟩ := hv
          have hv := (cond_none hv).2
          simp only [Option.bind_eq_some_iff, Option.some.injEq] at hv
          obtain ⟨_, _, _, _, rfl⟩ := hv
          cases hl
        · rcases condE h with ⟨_, h⟩ | ⟨_, h⟩ <;> cases h
      · cases h
    · rcases condE hsm with ⟨_, h⟩ | ⟨_, h⟩ <;> cases h
    · cases hsm
    · rcases condE hsm with ⟨_, h⟩ | ⟨_, h⟩ <;> cases h
  | load t x =>
    simp only [smOp] at hsm
    split at hsm
    · cases hsm
    · rcases condE hsm with ⟨_, h⟩ | ⟨_, h⟩ <;> rcases condE h with ⟨_, h⟩ | ⟨_, h⟩ <;> cases h
  | store t x y =>
    simp only [smOp] at hsm
    split at hsm
    · cases hsm
    · rcases condE hsm with ⟨_, h⟩ | ⟨_, h⟩
      · cases h
      · rcases condE h with ⟨_, h⟩ | ⟨_, h⟩ <;> cases h
  | alloc t =>
    simp only [smOp] at hsm
    split at hsm
    · rcases condE hsm with ⟨_, h⟩ | ⟨_, h⟩ <;> cases h
    · cases hsm
  | box t x =>
    simp only [smOp] at hsm
    split at hsm
    · rcases condE hsm with ⟨_, h⟩ | ⟨_, h⟩ <;> cases h
    · cases hsm
  | makeSlice t x y =>
    simp only [smOp] at hsm
    rcases condE hsm with ⟨_, h⟩ | ⟨_, h⟩ <;> cases h
  | _ => cases hsm
end Go.Abs
namespace Go.Abs
variable {g g' : Gh} {w w' : World} {beta beta' : Nat → Nat} {d e : Nat}
variable {I : In} {call : CallF} {loop : LoopF} {a : Act} {o : Oper} {vs : List SV} {s s1 : St}

theorem wl_lp {f : List SV → Bx → Option (SV × Bx)} {b : Bx} {r : SV × Bx} {k : Nat} (hsm : smOp I call o = .wl f) (hv : f vs b = some r) : gdOf k r.1 = false ∧ (lpIn k r.1 = true → o.dst = some k) := by
  have hm := sm_np hsm (by simp) (by simp)
  obtain ⟨dst, op, type, pos, after, guard⟩ := o
  cases hm with
  | load t x =>
    simp only [smOp] at hsm
    split at hsm
    · cases hsm
    · rcases condE hsm with ⟨_, h⟩ | ⟨_, h⟩
      · rcases condE h with ⟨_, h⟩ | ⟨_, h⟩ <;> cases h
        dsimp only at hv
        split at hv
        · simp only [Option.bind_eq_some_iff, Option.some.injEq] at hv
          obtain ⟨_, _, _, _, _, _, rfl⟩ := hv
          exact ⟨rfl, fun hl => by cases hl⟩
        · cases hv
      · rcases condE h with ⟨_, h⟩ | ⟨_, h⟩ <;> cases h
  | store t x y =>
    simp only [smOp] at hsm
    split at hsm
    · cases hsm
    · rcases condE hsm with ⟨_, h⟩ | ⟨_, h⟩
      · cases h
      · rcases condE h with ⟨_, h⟩ | ⟨_, h⟩ <;> cases h
        dsimp only at hv
        split at hv
        · simp only [Option.bind_eq_some_iff] at hv
          obtain ⟨_, _, hv⟩ := hv
          have hv := (cond_none hv).2
          simp only [Option.bind_eq_some_iff, Option.some.injEq] at hv
          obtain ⟨_, _, rfl⟩ := hv
          exact ⟨rfl, fun hl => by cases hl⟩
        · cases hv
  | alloc t =>
    simp only [smOp] at hsm
    split at hsm
    · rcases condE hsm with ⟨_, h⟩ | ⟨_, h⟩ <;> cases h
      simp only [Option.bind_eq_some_iff, Option.some.injEq] at hv
      obtain ⟨_, _, rfl⟩ := hv
      exact ⟨rfl, fun hl => congrArg some (nbeq_eq (show Nat.beq _ _ = true from hl))⟩
    · cases hsm
  | box t x =>
    simp only [smOp] at hsm
    split at hsm
    · rcases condE hsm with ⟨_, h⟩ | ⟨_, h⟩ <;> cases h
      dsimp only at hv
      split at hv
      · simp only [Option.bind_eq_some_iff, Option.some.injEq] at hv
        obtain ⟨_, _, rfl⟩ := hv
        exact ⟨rfl, fun hl => congrArg some (nbeq_eq (show Nat.beq _ _ = true from hl))⟩
      · cases hv
    · cases hsm
  | makeSlice t x y =>
    simp only [smOp] at hsm
    rcases condE hsm with ⟨_, h⟩ | ⟨_, h⟩ <;> cases h
  | call c =>
    rcases call_sm hsm with ⟨_, h⟩ | h | ⟨_, _, _, h⟩ | ⟨_, h⟩ | ⟨_, h⟩ <;> cases h

theorem gdP_lp {α : Type} {kd : Kd} {e : Bool} {r : Option SV} {k : SV → Option α} {x : α} (h : gdP kd e r k = some x) : ∃ v, v.bare = true ∧ k v = some x ∧ ∀ j, lpIn j v = true → r = some v := by
  have hg : ∀ r' : Option RV, coeG kd e r' (fun v => k (.r v)) = some x → ∃ v, v.bare = true ∧ k v = some x ∧ ∀ j, lpIn j v = true → r = some v := fun r' h => by
    obtain ⟨v, _, h2⟩ := coeG_some h
    exact ⟨.r v, rfl, h2, fun j hj => by cases hj⟩
  cases r with
  | none => exact hg _ h
  | some u =>
    cases u with
    | lp j off => exact ⟨_, rfl, h, fun _ _ => rfl⟩
    | r r => exact hg _ h
    | gd s w v => exact hg _ h
theorem bare_gd {v : SV} (h : v.bare = true) (k : Nat) : gdOf k v = false := by
  cases v <;> first | rfl | cases h

theorem pResG_lp {α : Type} {kd : Kd} {lp e : Bool} {r : Option SV} {k : SV → Option α} {x : α} (h : pResG kd lp e r k = some x) : ∃ v, v.bare = true ∧ k v = some x ∧ ∀ j, lpIn j v = true → r = some v := by
  unfold pResG at h
  cases lp with
  | true => exact gdP_lp h
  | false =>
    obtain ⟨v, _, h2⟩ := coeG_some (show coeG kd e (r.bind SV.rv?) (fun v => k (.r v)) = some x from h)
    exact ⟨_, rfl, h2, fun j hj => by cases hj⟩

/-- What an operation sets: what it hangs on, and where it leads. -/
theorem opR_put {dr : Bool} {rg i : Nat} {ds : List (Option Nat)} (h : opR I call dr rg ds i o s some = some s1) :
    ∃ v, s1.t = putO I o s.t v ∧ (∀ k, gdOf k v = true → k ∈ readsO ds o) ∧ (∀ k, lpIn k v = true → o.dst = some k ∨ ∃ y ∈ readsO ds o, ∃ u, mget s.t y = some u ∧ lpIn k u = true) := by
  have bareR : ∀ {x : RV} {s1 : St}, s1.t = putO I o s.t (.r x) → ∃ v, s1.t = putO I o s.t v ∧ (∀ k, gdOf k v = true → k ∈ readsO ds o) ∧ (∀ k, lpIn k v = true → o.dst = some k ∨ ∃ y ∈ readsO ds o, ∃ u, mget s.t y = some u ∧ lpIn k u = true) :=
    fun h => ⟨_, h, fun k hk => (by cases hk), fun k hk => (by cases hk)⟩
  have ops : ∀ {ch : List (Nat × Bool)} {vs : List SV} {k : Nat} {u : SV}, valsO ch s.t o.op.operands.toList = some vs → u ∈ vs → lpIn k u = true → ∃ y ∈ readsO ds o, ∃ u, mget s.t y = some u ∧ lpIn k u = true := by
    intro ch vs k u h1 h2 h3
    obtain ⟨y, h4, h5⟩ := vals_lp h1 h2 h3
    exact ⟨y, by simp [readsO, h4], h5⟩
  unfold opR at h
  split at h
  · split at h
    · rename_i f hsm
      obtain ⟨v, hb, h5, h⟩ := pRes_some h
      simp only [Option.bind_eq_some_iff] at h5
      obtain ⟨vs, h1, h2⟩ := h5
      cases h
      refine ⟨_, rfl, fun k hk => (by rw [bare_gd hb] at hk; cases hk), fun k hk => .inr ?_⟩
      obtain ⟨u, h3, h4⟩ := p_lp hsm h2 hk
      exact ops h1 h3 h4
    · obtain ⟨v, _, h⟩ := coeK_some h
      cases h; exact bareR rfl
    · obtain ⟨v, _, h⟩ := coeK_some h
      cases h; exact bareR rfl
    · rename_i f hsm
      simp only [Option.bind_eq_some_iff, Option.some.injEq] at h
      obtain ⟨r, ⟨vs, h1, h2⟩, rfl⟩ := h
      refine ⟨_, rfl, fun k hk => ?_, fun k hk => .inl ((wl_lp hsm h2).2 hk)⟩
      rw [(wl_lp hsm h2).1] at hk; cases hk
    · simp only [Option.bind_eq_some_iff, Option.some.injEq] at h
      obtain ⟨r, _, rfl⟩ := h
      exact bareR rfl
    · simp only [Option.bind_eq_some_iff] at h
      obtain ⟨r, _, h⟩ := h
      obtain ⟨v, _, h⟩ := coeK_some h
      cases h; exact bareR rfl
    · have h := (cond_none' h).2
      simp only [Option.bind_eq_some_iff] at h
      obtain ⟨r, _, h⟩ := h
      rcases condE h with ⟨_, h⟩ | ⟨_, h⟩
      · obtain ⟨v, _, h⟩ := coeK_some h
        cases h; exact bareR rfl
      · cases h; exact bareR rfl
    · cases h
  · rename_i j w hg
    split at h
    · rename_i g hds
      have hgr : g ∈ readsO ds o := by simp [readsO, hg, hds]
      have gdR : ∀ {x : RV} {s1 : St}, s1.t = putO I o s.t (.gd g w (.r x)) → ∃ v, s1.t = putO I o s.t v ∧ (∀ k, gdOf k v = true → k ∈ readsO ds o) ∧ (∀ k, lpIn k v = true → o.dst = some k ∨ ∃ y ∈ readsO ds o, ∃ u, mget s.t y = some u ∧ lpIn k u = true) :=
        fun h => ⟨_, h, fun k hk => (by
          simp only [gdOf, Bool.or_false] at hk
          have := nbeq_eq hk
          subst this; exact hgr), fun k hk => (by cases hk)⟩
      have h := (cond_none' h).2
      simp only [Option.bind_eq_some_iff] at h
      obtain ⟨ee, _, h⟩ := h
      split at h
      · rename_i f hsm
        obtain ⟨v, h1, h2, h3⟩ := pResG_lp h
        cases h2
        refine ⟨_, rfl, fun k hk => ?_, fun k hk => .inr ?_⟩
        · simp only [gdOf, bare_gd h1, Bool.or_false] at hk
          have := nbeq_eq hk
          subst this; exact hgr
        · have hk' : lpIn k v = true := hk
          have h4 := gvP_some (h3 k hk')
          simp only [Option.bind_eq_some_iff] at h4
          obtain ⟨vs, h5, h6⟩ := h4
          obtain ⟨u, h7, h8⟩ := p_lp hsm h6 hk'
          exact ops h5 h7 h8
      · obtain ⟨v, _, h⟩ := coeG_some h
        cases h; exact gdR rfl
      · obtain ⟨v, _, h⟩ := coeG_some h
        cases h; exact gdR rfl
      · cases h
      · cases h
      · simp only [Option.bind_eq_some_iff] at h
        obtain ⟨r, _, h⟩ := h
        obtain ⟨v, _, h⟩ := coeG_some h
        cases h; exact gdR rfl
      · have h := (cond_none' h).2
        simp only [Option.bind_eq_some_iff] at h
        obtain ⟨r, _, h⟩ := h
        obtain ⟨v, _, h⟩ := coeG_some h
        cases h; exact gdR rfl
      · cases h
    · cases h
end Go.Abs
namespace Go.Abs
variable {g g' : Gh} {w w' : World} {beta beta' : Nat → Nat} {d e : Nat}
variable {I : In} {call : CallF} {loop : LoopF} {a : Act} {o : Oper} {vs : List SV} {s s1 : St}

theorem cond_true_false {b x : Bool} (h : cond b x false = true) : b = true ∧ x = true := by
  cases b
  · cases h
  · exact ⟨rfl, h⟩
/-- The slot of 'o' is not what 'x' reads or sets. -/
def Far (ds : List (Option Nat)) (x o : Oper) : Prop := ∀ d, o.dst = some d → d ∉ readsO ds x ∧ x.dst ≠ some d
theorem far_of_fresh {ds : List (Option Nat)} {x o : Oper} (h : freshD ds x o = true) : Far ds x o := by
  intro d hd
  unfold freshD at h
  rw [hd] at h
  simp only [Bool.and_eq_true, Bool.not_eq_true'] at h
  refine ⟨fun hm => (by rw [has_iff.2 hm] at h; cases h.1), fun he => ?_⟩
  have h2 := h.2
  rw [he] at h2
  simp [nbeq_self] at h2
theorem far_of_indep {ds : List (Option Nat)} {o x : Oper} (h : indepO I ds o x = true) : Far ds x o := by
  intro d hd
  simp only [indepO, Bool.and_eq_true, Bool.or_eq_true, Bool.not_eq_true'] at h
  have h1 := disj_iff.1 h.1.2 d (by simp [writesO, hd])
  simp only [List.mem_append, not_or] at h1
  refine ⟨h1.1, fun he => h1.2 (by simp [writesO, he])⟩
theorem boxes_dst {k : Nat} (h : boxesO I o = some k) : o.dst = some k := by
  unfold boxesO at h
  split at h
  · rename_i dd _ hd; obtain ⟨_, h2⟩ := cond_none h; rw [hd]; exact h2
  · rename_i dd _ hd; obtain ⟨_, h2⟩ := cond_none h; rw [hd]; exact h2
  · cases h

/-- What may be put where it may stays so. -/
theorem dst_step {x : Oper} {dr : Bool} {rg i : Nat} {ds : List (Option Nat)} (h : opR I call dr rg ds i x s some = some s1) (hf : Far ds x o) (hd : DstS I o s.t) : DstS I o s1.t := by
  obtain ⟨v, e, hg, hl⟩ := opR_put h
  have get : ∀ y u, mget s1.t y = some u → (x.dst = some y ∧ (∀ k, gdOf k u = gdOf k v ∧ lpIn k u = lpIn k v)) ∨ ∃ u', mget s.t y = some u' ∧ ∀ k, gdOf k u = gdOf k u' ∧ lpIn k u = lpIn k u' := by
    intro y u hu
    rw [e] at hu
    have old : mget (demAt s.t (stealsO I x)) y = some u → ∃ u', mget s.t y = some u' ∧ ∀ k, gdOf k u = gdOf k u' ∧ lpIn k u = lpIn k u' := by
      intro hu
      rw [mget_demAt] at hu
      split at hu
      · obtain ⟨u', hu', rfl⟩ := Option.map_eq_some_iff.1 hu
        exact ⟨u', hu', fun k => ⟨gdOf_dem, lpIn_dem⟩⟩
      · exact ⟨u, hu, fun k => ⟨rfl, rfl⟩⟩
    unfold putO at hu
    cases hx : x.dst with
    | none => rw [hx] at hu; exact .inr (old hu)
    | some dd =>
      rw [hx] at hu
      by_cases hy : dd = y
      · subst hy
        rw [mget_mset_same] at hu
        simp only [Option.some.injEq] at hu
        refine .inl ⟨rfl, fun k => ?_⟩
        rw [← hu]
        cases (has I.hint.own dd)
        · exact ⟨gdOf_dem, lpIn_dem⟩
        · exact ⟨rfl, rfl⟩
      · simp only at hu
        rw [mget_mset_ne _ _ hy] at hu
        exact .inr (old hu)
  refine ⟨hd.lt, fun dd hdd y u hu => ?_, fun dd hdd y u hy hu => ?_⟩
  · rcases get y u hu with ⟨_, h2⟩ | ⟨u', h1, h2⟩
    · rw [(h2 dd).1]
      cases hgd : gdOf dd v with
      | false => rfl
      | true => exact absurd (hg dd hgd) (hf dd hdd).1
    · rw [(h2 dd).1]; exact hd.ng dd hdd y u' h1
  · have hdst := boxes_dst hdd
    rcases get y u hu with ⟨_, h2⟩ | ⟨u', h1, h2⟩
    · rw [(h2 dd).2]
      cases hlp : lpIn dd v with
      | false => rfl
      | true =>
        rcases hl dd hlp with h3 | ⟨z, h3, u2, h4, h5⟩
        · exact absurd h3 (hf dd hdst).2
        · by_cases hz : z = dd
          · subst hz; exact absurd h3 (hf z hdst).1
          · rw [hd.nl dd hdd z u2 hz h4] at h5; cases h5
    · rw [(h2 dd).2]; exact hd.nl dd hdd y u' hy h1

/-- The operations of these numbers, one behind the other. -/
def rawL (I : In) (call : CallF) (rg : Nat) (ds : List (Option Nat)) (ops : Array Oper) : List Nat → St → Option St
  | [], s => some s
  | i :: r, s => match ops[i]? with
    | some o => (opR I call true rg ds i o s some).bind (rawL I call rg ds ops r)
    | none => none
theorem rawL_cons {rg i : Nat} {ds : List (Option Nat)} {ops : Array Oper} {r : List Nat} {s' : St} (h : rawL I call rg ds ops (i :: r) s = some s') : ∃ o s1, ops[i]? = some o ∧ opR I call true rg ds i o s some = some s1 ∧ rawL I call rg ds ops r s1 = some s' := by
  unfold rawL at h
  split at h
  · simp only [Option.bind_eq_some_iff] at h
    obtain ⟨s1, h1, h2⟩ := h
    exact ⟨_, s1, by assumption, h1, h2⟩
  · cases h
theorem rawL_mk {rg i : Nat} {ds : List (Option Nat)} {ops : Array Oper} {r : List Nat} {s' : St} (ho : ops[i]? = some o) (h1 : opR I call true rg ds i o s some = some s1) (h2 : rawL I call rg ds ops r s1 = some s') : rawL I call rg ds ops (i :: r) s = some s' := by
  unfold rawL
  simp only [ho, h1, Option.bind_some]
  exact h2
theorem rawL_of {rg : Nat} {ds : List (Option Nat)} {ops : Array Oper} {s' : St} : ∀ (r : List Oper) (i : Nat) {s : St}, ops.toList.drop i = r → opsK I call true rg ds i r s some = some s' → rawL I call rg ds ops (List.range' i r.length) s = some s' := by
  intro r
  induction r with
  | nil => intro i s _ h; simpa [opsK, rawL] using h
  | cons o r ih =>
    intro i s hd h
    obtain ⟨s1, _, h2, h3⟩ := opsK_inv h
    have hi : i < ops.toList.length := by
      rcases Nat.lt_or_ge i ops.toList.length with hl | hl
      · exact hl
      · rw [List.drop_of_length_le hl] at hd; cases hd
    rw [List.drop_eq_getElem_cons hi] at hd
    simp only [List.cons.injEq] at hd
    have ho : ops[i]? = some o := by
      have : ops.toList[i]? = some o := by rw [List.getElem?_eq_getElem hi, hd.1]
      simpa using this
    rw [List.length_cons, List.range'_succ]
    exact rawL_mk ho h2 (ih (i + 1) hd.2 h3)

/-- May all of these put what they make? -/
def AllS (I : In) (ops : Array Oper) (R : List Nat) (t : Tm) : Prop := ∀ j o, j ∈ R → ops[j]? = some o → DstS I o t
/-- Later ones' slots are fresh. -/
def FreshL (ds : List (Option Nat)) (ops : Array Oper) (R : List Nat) : Prop := R.Pairwise fun j k => ∀ x o, ops[j]? = some x → ops[k]? = some o → Far ds x o

theorem to_front {rg i : Nat} {ds : List (Option Nat)} {ops : Array Oper} {oi : Oper} (hC : CallOk I.toEnv call) (hoi : ops[i]? = some oi) : ∀ (A : List Nat) {B : List Nat} {s s' : St}, (∀ j ∈ A, j ≠ i ∧ ∀ oj, ops[j]? = some oj → indepO I ds oj oi = true) → FreshL ds ops (A ++ i :: B) → AllS I ops (A ++ i :: B) s.t → rg ≤ s.h.nx →
    rawL I call rg ds ops (A ++ i :: B) s = some s' → rawL I call rg ds ops (i :: (A ++ B)) s = some s' := by
  intro A
  induction A with
  | nil => intro B s s' _ _ _ _ h; exact h
  | cons j A ih =>
    intro B s s' hA hf hs hrg h
    rw [List.cons_append] at h
    obtain ⟨oj, s1, hoj, h1, h2⟩ := rawL_cons h
    have hf' := List.pairwise_cons.1 hf
    have hs1 : AllS I ops (A ++ i :: B) s1.t := fun k o hk ho => dst_step h1 (hf'.1 k hk oj o hoj ho) (hs k o (List.mem_cons_of_mem _ hk) ho)
    have h3 := ih (fun k hk => hA k (List.mem_cons_of_mem _ hk)) hf'.2 hs1 (Nat.le_trans hrg (opR_grow hC hrg h1).nx) h2
    obtain ⟨oi', s2, hoi', h4, h5⟩ := rawL_cons h3
    rw [hoi] at hoi'
    cases hoi'
    obtain ⟨hne, hin⟩ := hA j (by simp)
    obtain ⟨s3, h6, h7⟩ := swap hC (hin oj hoj) hne hrg (fun y hy => (hs j oj (by simp) hoj).ng y hy) (fun y hy => (hs i oi (by simp) hoi).ng y hy) (fun y hy => (hs j oj (by simp) hoj).nl y hy) (fun y hy => (hs i oi (by simp) hoi).nl y hy) h1 h4
    exact rawL_mk hoi h6 (rawL_mk hoj h7 h5)

/-! What comes ahead of what -/
theorem ancsO_len : ∀ (r : List Oper) (acc : List Nat), (ancsO acc r).length = acc.length + r.length := by
  intro r
  induction r with
  | nil => intro acc; simp [ancsO]
  | cons o r ih => intro acc; unfold ancsO; rw [ih]; simp; omega
theorem ancsO_pre : ∀ (r : List Oper) (acc : List Nat), ∃ l, ancsO acc r = acc ++ l := by
  intro r
  induction r with
  | nil => intro acc; exact ⟨[], by simp [ancsO]⟩
  | cons o r ih =>
    intro acc
    obtain ⟨l, hl⟩ := ih (acc ++ [orBits acc o.after.toList])
    exact ⟨orBits acc o.after.toList :: l, by unfold ancsO; rw [hl]; simp⟩
theorem ancsO_get : ∀ (r : List Oper) (acc : List Nat) (k : Nat) (o : Oper), r[k]? = some o → (ancsO acc r)[acc.length + k]? = some (orBits ((ancsO acc r).take (acc.length + k)) o.after.toList) := by
  intro r
  induction r with
  | nil => intro acc k o h; simp at h
  | cons x r ih =>
    intro acc k o h
    cases k with
    | zero =>
      simp at h; subst h
      unfold ancsO
      obtain ⟨l, hl⟩ := ancsO_pre r (acc ++ [orBits acc x.after.toList])
      rw [hl]
      simp
    | succ k =>
      simp at h
      have := ih (acc ++ [orBits acc x.after.toList]) k o h
      unfold ancsO
      have e : (acc ++ [orBits acc x.after.toList]).length + k = acc.length + (k + 1) := by simp; omega
      rw [e] at this
      exact this
theorem orBits_bit {acc : List Nat} {j : Nat} : ∀ {l : List Edge}, Nat.testBit (orBits acc l) j = true → ∃ e ∈ l, Region.binds .any e = true ∧ (j = e.on ∨ Nat.testBit (acc.getD e.on 0) j = true) := by
  intro l
  induction l with
  | nil => intro h; simp [orBits] at h
  | cons e l ih =>
    intro h
    unfold orBits at h
    cases hb : Region.binds .any e with
    | false =>
      rw [hb] at h
      obtain ⟨e', h1, h2⟩ := ih h
      exact ⟨e', List.mem_cons_of_mem _ h1, h2⟩
    | true =>
      rw [hb] at h
      simp only [cond_true, Nat.testBit_or, Bool.or_eq_true, Nat.testBit_two_pow, decide_eq_true_eq] at h
      rcases h with (h | h) | h
      · exact ⟨e, by simp, hb, .inl h.symm⟩
      · exact ⟨e, by simp, hb, .inr h⟩
      · obtain ⟨e', h1, h2⟩ := ih h
        exact ⟨e', List.mem_cons_of_mem _ h1, h2⟩
theorem edgesBack_get : ∀ {r : List Oper} {i : Nat}, edgesBack i r = true → ∀ k o, r[k]? = some o → ∀ e ∈ o.after.toList, Region.binds .any e = true → e.on < i + k := by
  intro r
  induction r with
  | nil => intro i _ k o h; simp at h
  | cons x r ih =>
    intro i h k o hk e he hb
    unfold edgesBack at h
    obtain ⟨h1, h2⟩ := cond_true_false h
    cases k with
    | zero =>
      simp at hk; subst hk
      have := List.all_eq_true.1 h1 e he
      rw [hb] at this
      simpa [Nat.blt_eq] using this
    | succ k =>
      simp at hk
      have := ih h2 k o hk e he hb
      omega
theorem pairsAt_get {ds : List (Option Nat)} {m : Nat} : ∀ {l : List Oper} {j : Nat}, pairsAt I ds m o j l = true → ∀ k x, l[k]? = some x → (Nat.testBit m (j + k) = true ∨ indepO I ds x o = true) ∧ Far ds x o := by
  intro l
  induction l with
  | nil => intro j _ k x h; simp at h
  | cons y l ih =>
    intro j h k x hk
    unfold pairsAt at h
    obtain ⟨h1, h2⟩ := cond_true_false h
    simp only [Bool.and_eq_true, Bool.or_eq_true] at h1
    cases k with
    | zero => simp at hk; subst hk; exact ⟨h1.1, far_of_fresh h1.2⟩
    | succ k =>
      simp at hk
      have := ih h2 k x hk
      rw [show j + 1 + k = j + (k + 1) by omega] at this
      exact this
theorem pairsAll_get {ds : List (Option Nat)} : ∀ {r : List Oper} {before : List Oper} {ms : List Nat}, pairsAll I ds before r ms = true → ∀ k o, r[k]? = some o → ∃ m, ms[k]? = some m ∧ pairsAt I ds m o 0 (before ++ r.take k) = true := by
  intro r
  induction r with
  | nil => intro before ms _ k o h; simp at h
  | cons x r ih =>
    intro before ms h k o hk
    cases ms with
    | nil => unfold pairsAll at h; cases h
    | cons m ms =>
      unfold pairsAll at h
      obtain ⟨h1, h2⟩ := cond_true_false h
      cases k with
      | zero => simp at hk; subst hk; exact ⟨m, by simp, by simpa using h1⟩
      | succ k =>
        simp at hk
        obtain ⟨m', h3, h4⟩ := ih h2 k o hk
        exact ⟨m', by simpa using h3, by simpa using h4⟩

theorem getD_ft {l : Array Bool} {j : Nat} (h : l.getD j false = true) : l.getD j true = true := by
  rcases Nat.lt_or_ge j l.size with hl | hl
  · simp [hl] at h ⊢; exact h
  · simp [Array.getElem?_eq_none hl] at h
theorem getD_tf {l : Array Bool} {j : Nat} (hj : j < l.size) (h : l.getD j true = true) : l.getD j false = true := by
  simp [hj] at h ⊢; exact h
/-- What comes ahead of one that is ready is listed. -/
theorem anc_listed {ops : Array Oper} {listed : Array Bool} {i m j : Nat} {o : Oper} (hb : edgesBack 0 ops.toList = true) (ho : ops[i]? = some o) (hm : (ancsO [] ops.toList)[i]? = some m)
    (hcl : ∀ k m, listed.getD k false = true → (ancsO [] ops.toList)[k]? = some m → ∀ j, Nat.testBit m j = true → listed.getD j false = true)
    (hed : ∀ e ∈ o.after, Region.binds .any e = true → listed.getD e.on false = true) (hj : Nat.testBit m j = true) : listed.getD j false = true := by
  have ho' : ops.toList[i]? = some o := by simpa using ho
  have h1 := ancsO_get ops.toList [] i o ho'
  simp only [List.length_nil, Nat.zero_add] at h1
  rw [hm] at h1
  cases h1
  obtain ⟨e, h2, h3, h4⟩ := orBits_bit hj
  have h5 := hed e (Array.mem_toList_iff.1 h2) h3
  rcases h4 with h4 | h4
  · rw [h4]; exact h5
  · have hlt := edgesBack_get hb i o ho' e h2 h3
    have hi : i < ops.toList.length := (List.getElem?_eq_some_iff.1 ho').1
    have hln : e.on < (ancsO [] ops.toList).length := by rw [ancsO_len]; simp at hi ⊢; omega
    have h6 : ((ancsO [] ops.toList).take i).getD e.on 0 = (ancsO [] ops.toList)[e.on] := by
      rw [List.getD_eq_getElem?_getD, List.getElem?_take]
      simp [show e.on < i by omega, hln]
    rw [h6] at h4
    exact hcl e.on _ h5 (List.getElem?_eq_getElem hln) j h4

theorem draw_go {rg : Nat} {ops : Array Oper} {s' : St} (hE : EnvOk I.toEnv) (hC : CallOk I.toEnv call) (hr : regionOk I ops.toList = true) : ∀ (fuel : Nat) (listed : Array Bool) (R : List Nat) {s : St} {g : Gh} {beta : Nat → Nat} {a : Act} {w : World},
    listed.size = ops.size → R.Pairwise (· < ·) → (∀ j, j ∈ R ↔ listed.getD j true = false) →
    (∀ k m, listed.getD k false = true → (ancsO [] ops.toList)[k]? = some m → ∀ j, Nat.testBit m j = true → listed.getD j false = true) →
    R.length ≤ fuel → rawL I call rg (ops.toList.map (·.dst)) ops R s = some s' → Sim I d e g beta s a w → AllS I ops R s.t → AlFr I call ops rg (· ∈ R) s.h → rg ≤ s.h.nx →
    ∀ (Q : Exit → Act → World → Prop), (∀ g' beta' a' w', Sim I d e g' beta' s' a' w' → Acc d e g w g' w' → Q .normal a' w') → wpAny I.P .any ops Q fuel listed a w := by
  unfold regionOk at hr
  simp only [Bool.and_eq_true] at hr
  obtain ⟨hb, hp⟩ := hr
  have pair : ∀ j k x o, j < k → ops[j]? = some x → ops[k]? = some o → ∃ m, (ancsO [] ops.toList)[k]? = some m ∧ (Nat.testBit m j = true ∨ indepO I (ops.toList.map (·.dst)) x o = true) ∧ Far (ops.toList.map (·.dst)) x o := by
    intro j k x o hjk hx ho
    obtain ⟨m, h1, h2⟩ := pairsAll_get hp k o (by simpa using ho)
    have := pairsAt_get h2 j x (by rw [List.nil_append, List.getElem?_take]; simp [hjk]; simpa using hx)
    rw [Nat.zero_add] at this
    exact ⟨m, h1, this.1, this.2⟩
  intro fuel
  induction fuel with
  | zero =>
    intro listed R s g beta a w hsz hpw hR hcl hlen hraw hs hall hal hrg Q hQ
    have hnil : R = [] := List.length_eq_zero_iff.1 (Nat.le_zero.1 hlen)
    subst hnil
    simp only [rawL, Option.some.injEq] at hraw
    subst hraw
    refine ⟨?_, hQ _ _ _ _ hs (.refl ..)⟩
    refine List.eq_nil_iff_forall_not_mem.2 fun j hj => ?_
    have := (hR j).2 (mem_ready.1 hj).1
    cases this
  | succ fuel ih =>
    intro listed R s g beta a w hsz hpw hR hcl hlen hraw hs hall hal hrg Q hQ
    refine ⟨fun hnone => ?_, fun i hi => ?_⟩
    · -- nothing is ready: nothing is left
      cases R with
      | nil =>
        simp only [rawL, Option.some.injEq] at hraw
        subst hraw
        exact hQ _ _ _ _ hs (.refl ..)
      | cons j R =>
        exfalso
        obtain ⟨oj, _, hoj, _, _⟩ := rawL_cons hraw
        have hjr : j ∈ Region.ready .any ops listed := by
          refine mem_ready.2 ⟨(hR j).1 (by simp), oj, hoj, fun e he hbd => ?_⟩
          have hlt := edgesBack_get hb j oj (by simpa using hoj) e (Array.mem_toList_iff.2 he) hbd
          have hjs : j < ops.size := (Array.getElem?_eq_some_iff.1 hoj).1
          refine getD_tf (by omega) ?_
          cases hg : listed.getD e.on true with
          | true => rfl
          | false =>
            exfalso
            rcases List.mem_cons.1 ((hR e.on).2 hg) with h | h
            · omega
            · have := (List.pairwise_cons.1 hpw).1 _ h
              omega
        rw [hnone] at hjr
        cases hjr
    · obtain ⟨hli, oi, hoi, hed⟩ := mem_ready.1 hi
      have his : i < ops.size := (Array.getElem?_eq_some_iff.1 hoi).1
      obtain ⟨A, B, hAB⟩ := List.append_of_mem ((hR i).2 hli)
      subst hAB
      have hpw' := List.pairwise_append.1 hpw
      have hB := List.pairwise_cons.1 hpw'.2.1
      have hAi : ∀ j ∈ A, j < i := fun j hj => hpw'.2.2 j hj i (by simp)
      have hind : ∀ j ∈ A, ∀ oj, ops[j]? = some oj → indepO I (ops.toList.map (·.dst)) oj oi = true := by
        intro j hj oj hoj
        obtain ⟨m, h1, h2, _⟩ := pair j i oj oi (hAi j hj) hoj hoi
        rcases h2 with h2 | h2
        · have h3 := getD_ft (anc_listed hb hoi h1 hcl hed h2)
          rw [(hR j).1 (by simp [hj])] at h3
          cases h3
        · exact h2
      have hfr : FreshL (ops.toList.map (·.dst)) ops (A ++ i :: B) := hpw.imp fun hjk x o hx ho => by
        obtain ⟨_, _, _, h⟩ := pair _ _ x o hjk hx ho
        exact h
      have hraw2 := to_front hC hoi A (fun j hj => ⟨Nat.ne_of_lt (hAi j hj), hind j hj⟩) hfr hall hrg hraw
      obtain ⟨oi', s1, hoi', h1, h2⟩ := rawL_cons hraw2
      rw [hoi] at hoi'
      cases hoi'
      refine op_ok hE hC hs hoi (hall i oi (by simp) hoi) (fun hal2 => hal i oi (by simp) hoi hal2) h1 _ Q (fun g1 beta1 a1 w1 hs1 hacc => ?_)
      have hg1 := opR_grow hC hrg h1
      have hBne : ∀ k ∈ A ++ B, k ≠ i := by
        intro k hk
        rcases List.mem_append.1 hk with hk | hk
        · exact Nat.ne_of_lt (hAi k hk)
        · exact (Nat.ne_of_lt (hB.1 k hk)).symm
      have hset : ∀ k, k ≠ i → ∀ b, (listed.setIfInBounds i true).getD k b = listed.getD k b := fun k hk b => getD_set_ne b (Ne.symm hk)
      have hseti : ∀ b, (listed.setIfInBounds i true).getD i b = true := fun b => by simp [hsz, his]
      refine ih (listed.setIfInBounds i true) (A ++ B) (by simpa using hsz) ?_ ?_ ?_ ?_ h2 hs1 ?_ ?_ (Nat.le_trans hrg hg1.nx) Q (fun g' beta' a' w' hs' hacc' => hQ g' beta' a' w' hs' (hacc.trans hacc'))
      · refine List.pairwise_append.2 ⟨hpw'.1, hB.2, fun j hj k hk => hpw'.2.2 j hj k (by simp [hk])⟩
      · intro j
        constructor
        · intro hj
          rw [hset j (hBne j hj)]
          refine (hR j).1 ?_
          rcases List.mem_append.1 hj with h | h <;> simp [h]
        · intro hj
          have hne : j ≠ i := fun e => by rw [e, hseti] at hj; cases hj
          rw [hset j hne] at hj
          have := (hR j).2 hj
          simp only [List.mem_append, List.mem_cons, hne, false_or] at this
          exact List.mem_append.2 this
      · intro k m hk hm j hj
        by_cases hki : k = i
        · subst hki
          exact getD_set_true (anc_listed hb hoi hm hcl hed hj)
        · rw [hset k hki] at hk
          exact getD_set_true (hcl k m hk hm j hj)
      · simp only [List.length_append, List.length_cons] at hlen ⊢
        omega
      · intro k o hk ho
        refine dst_step h1 ?_ (hall k o (by rcases List.mem_append.1 hk with h | h <;> simp [h]) ho)
        rcases List.mem_append.1 hk with h | h
        · exact far_of_indep (hind k h o ho)
        · obtain ⟨_, _, _, h3⟩ := pair i k oi o (hB.1 k h) hoi ho
          exact h3
      · refine (hal.step hC h1).mono fun k hk => ⟨?_, hBne k hk⟩
        rcases List.mem_append.1 hk with h | h <;> simp [h]

theorem startOk_get {t : Tm} : ∀ {l : List Oper}, startOk I t l = true → ∀ o ∈ l, DstS I o t := by
  intro l
  induction l with
  | nil => intro _ o ho; cases ho
  | cons x l ih =>
    intro h o ho
    unfold startOk at h
    obtain ⟨h1, h2⟩ := cond_true_false h
    rcases List.mem_cons.1 ho with e | ho
    · subst e; exact .of h1
    · exact ih h2 o ho

theorem draw_ok {rg : Nat} {ops : Array Oper} {s' : St} (hE : EnvOk I.toEnv) (hC : CallOk I.toEnv call) (hr : regionOk I ops.toList = true) (hst : startOk I s.t ops.toList = true) (h : opsK I call true rg (ops.toList.map (·.dst)) 0 ops.toList s some = some s') (hs : Sim I d e g beta s a w) (hal : AlFr I call ops rg (fun _ => True) s.h) (hrg : rg ≤ s.h.nx)
    (Q : Exit → Act → World → Prop) (hQ : ∀ g' beta' a' w', Sim I d e g' beta' s' a' w' → Acc d e g w g' w' → Q .normal a' w') : wpAny I.P .any ops Q ops.size (Array.replicate ops.size false) a w := by
  have hraw := rawL_of (I := I) (call := call) (rg := rg) (ops := ops) ops.toList 0 (by simp) h
  refine draw_go hE hC hr ops.size (Array.replicate ops.size false) (List.range' 0 ops.toList.length) (by simp) ?_ ?_ ?_ (by simp) hraw hs ?_ (hal.mono fun _ _ => trivial) hrg Q hQ
  · exact List.pairwise_lt_range'
  · intro j
    simp only [List.mem_range'_1, Array.length_toList]
    rcases Nat.lt_or_ge j ops.size with hj | hj
    · simp [hj]
    · simp [Array.getElem?_eq_none, hj]
  · intro k m hk
    exfalso
    rcases Nat.lt_or_ge k ops.size with hj | hj
    · simp [hj] at hk
    · simp [Array.getElem?_eq_none, hj] at hk
  · intro j o _ ho
    exact startOk_get hst o (Array.mem_toList_iff.2 (Array.mem_of_getElem? ho))
end Go.Abs
namespace Go.Abs
variable {g g' : Gh} {w w' : World} {beta beta' : Nat → Nat} {d e : Nat}
variable {I : In} {call : CallF} {loop : LoopF} {a : Act} {o : Oper} {vs : List SV} {s s1 : St}

def X.toExit : X → Exit
  | .norm => .normal
  | .exit id => .exit id
  | .goto l => .goto l
  | .ret => .ret
/-- A loop ends behind some rounds. -/
def LoopOk (loop : LoopF) : Prop := ∀ {F s r}, loop F s = some r → ∃ n, loopN n F s = some r

theorem Sim.drew (hs : Sim I d e g beta s a w) : Sim I d e g beta s a w.drew ∧ Acc d e g w g w.drew := by
  have hst := step_drew (S := slotsP d []) hs.inv
  exact ⟨⟨hst.inv, hs.tm, hs.bx.keep (hst.keepB (T := []) fun _ h => h), hs.hp.keep (hst.keepH (T := []) fun _ h => h) fun _ h => h, hs.defers, hs.size⟩, hst.acc hs.inv⟩

theorem xSel_some {α : Type} {x : X} {bs : List (Nat × Option α)} {ret : Option α} {r : α} (h : xSel x bs ret = some r) : (∃ j, x = .exit j ∧ look none bs j = some r) ∨ (x = .ret ∧ ret = some r) := by
  cases x with
  | exit j => exact .inl ⟨j, rfl, h⟩
  | ret => exact .inr ⟨rfl, h⟩
  | norm => cases h
  | goto l => cases h

theorem ev_ok (hE : EnvOk I.toEnv) (hC : CallOk I.toEnv call) (hL : LoopOk loop) : ∀ (c : Code) {s : St} {x : X} {s' : St}, evD I call loop c s = some (x, s') →
    (∀ {d e : Nat} {g : Gh} {beta : Nat → Nat} {a : Act} {w : World}, Sim I d e g beta s a w → ∀ Q : Exit → Act → World → Prop, (∀ g' beta' a' w', Sim I d e g' beta' s' a' w' → Acc d e g w g' w' → Q x.toExit a' w') → c.wp I.P Q a w) ∧ Grow I.quiet s.h.nx s.h s'.h := by
  intro c
  induction c with
  | skip =>
    intro s x s' h
    simp only [evD, evK, Option.some.injEq, Prod.mk.injEq] at h
    obtain ⟨rfl, rfl⟩ := h
    exact ⟨fun hs Q hQ => wp_skip (hQ _ _ _ _ hs (.refl ..)), .refl ..⟩
  | label l =>
    intro s x s' h
    simp only [evD, evK, Option.some.injEq, Prod.mk.injEq] at h
    obtain ⟨rfl, rfl⟩ := h
    exact ⟨fun hs Q hQ => wp_label (hQ _ _ _ _ hs (.refl ..)), .refl ..⟩
  | exit id =>
    intro s x s' h
    simp only [evD, evK, Option.some.injEq, Prod.mk.injEq] at h
    obtain ⟨rfl, rfl⟩ := h
    exact ⟨fun hs Q hQ => wp_exit (hQ _ _ _ _ hs (.refl ..)), .refl ..⟩
  | goto l =>
    intro s x s' h
    simp only [evD, evK, Option.some.injEq, Prod.mk.injEq] at h
    obtain ⟨rfl, rfl⟩ := h
    exact ⟨fun hs Q hQ => wp_goto (hQ _ _ _ _ hs (.refl ..)), .refl ..⟩
  | ret =>
    intro s x s' h
    simp only [evD, evK, Option.some.injEq, Prod.mk.injEq] at h
    obtain ⟨rfl, rfl⟩ := h
    exact ⟨fun hs Q hQ => wp_ret (hQ _ _ _ _ hs (.refl ..)), .refl ..⟩
  | region id ops draw =>
    intro s x s' h
    simp only [evD, evK] at h
    obtain ⟨hdr, h⟩ := cond_none h
    rw [opsK_bind] at h
    simp only [Option.bind_eq_some_iff, Option.some.injEq, Prod.mk.injEq] at h
    obtain ⟨s2, h1, rfl, rfl⟩ := h
    have hgr : Grow I.quiet s.h.nx s.h s2.h := (hreg_grow I.quiet _ _ _ _).trans (opsK_grow hC (by
      show s.h.nx ≤ (bif ops.toList.any (isAl I) then hreg s.h ops.size else s.h).nx
      exact (hreg_grow I.quiet _ s.h.nx _ _).nx) h1)
    refine ⟨fun {d e g beta a w} hs Q hQ => ?_, hgr⟩
    have hs1 : ∀ w1, Sim I d e g beta s a w1 → Sim I d e g beta ⟨s.t, s.b, bif ops.toList.any (isAl I) then hreg s.h ops.size else s.h⟩ a w1 := fun w1 hs => ⟨hs.inv, hs.tm, hs.bx, hreg_R hs.hp _ _, hs.defers, hs.size⟩
    cases draw with
    | false =>
      refine wp_region ?_
      have := ops_ok hE hC (dr := false) (rg := s.h.nx) (ops := ops) ops.toList 0 (by simp) h1 (hs1 w hs) ((alFr_start hs.hp).mono fun _ _ => trivial) Q (fun g' beta' a' w' hs' hacc => hQ g' beta' a' w' (hs'.kill _) hacc)
      rw [List.range_eq_range']
      simpa using this
    | true =>
      simp only [cond_true, Bool.and_eq_true] at hdr
      refine wp_region_any hE.order ?_
      obtain ⟨hsd, haccd⟩ := hs.drew
      exact draw_ok (s := ⟨s.t, s.b, bif ops.toList.any (isAl I) then hreg s.h ops.size else s.h⟩) (rg := s.h.nx) hE hC hdr.1 hdr.2 h1 (hs1 _ hsd) (alFr_start hs.hp) ((hreg_grow I.quiet _ s.h.nx _ _).nx) Q (fun g' beta' a' w' hs' hacc => hQ g' beta' a' w' (hs'.kill _) (haccd.trans hacc))
  | seq a b iha ihb =>
    intro s x s' h
    simp only [evD, evK] at h
    rw [evK_bind] at h
    simp only [Option.bind_eq_some_iff] at h
    obtain ⟨⟨x1, s1⟩, h1, h2⟩ := h
    obtain ⟨k1, k2⟩ := iha h1
    cases x1 with
    | norm =>
      obtain ⟨k3, k4⟩ := ihb (show evD I call loop b s1 = some (x, s') from h2)
      refine ⟨fun hs Q hQ => wp_seq (k1 hs _ fun g1 beta1 a1 w1 hs1 hacc1 => ?_), k2.trans (k4.mono k2.nx)⟩
      exact k3 hs1 Q (fun g' beta' a' w' hs' hacc => hQ g' beta' a' w' hs' (hacc1.trans hacc))
    | exit id =>
      simp only [Option.some.injEq, Prod.mk.injEq] at h2
      obtain ⟨rfl, rfl⟩ := h2
      exact ⟨fun hs Q hQ => wp_seq (k1 hs _ hQ), k2⟩
    | goto l =>
      simp only [Option.some.injEq, Prod.mk.injEq] at h2
      obtain ⟨rfl, rfl⟩ := h2
      exact ⟨fun hs Q hQ => wp_seq (k1 hs _ hQ), k2⟩
    | ret =>
      simp only [Option.some.injEq, Prod.mk.injEq] at h2
      obtain ⟨rfl, rfl⟩ := h2
      exact ⟨fun hs Q hQ => wp_seq (k1 hs _ hQ), k2⟩
  | cond c a b iha ihb =>
    intro s x s' h
    simp only [evD, evK] at h
    unfold condK at h
    split at h
    · rename_i v hv
      have hcv : ∀ {d e : Nat} {g : Gh} {beta : Nat → Nat} {a : Act} {w : World}, Sim I d e g beta s a w → a.eval c = .bool v := fun hs => svr_bool (opd_R hs.tm hv _ slotOf_tmp)
      cases v with
      | true =>
        obtain ⟨k1, k2⟩ := iha (show evD I call loop a s = some (x, s') from h)
        exact ⟨fun hs Q hQ => wp_cond_true (hcv hs) (k1 hs Q hQ), k2⟩
      | false =>
        obtain ⟨k1, k2⟩ := ihb (show evD I call loop b s = some (x, s') from h)
        exact ⟨fun hs Q hQ => wp_cond_false (hcv hs) (k1 hs Q hQ), k2⟩
    · cases h
  | block id c ih =>
    intro s x s' h
    simp only [evD, evK] at h
    rw [evK_bind] at h
    simp only [Option.bind_eq_some_iff] at h
    obtain ⟨⟨x1, s1⟩, h1, h2⟩ := h
    obtain ⟨k1, k2⟩ := ih h1
    cases x1 with
    | exit j =>
      simp only at h2
      rcases condE h2 with ⟨hj, h2⟩ | ⟨hj, h2⟩
      · simp only [Option.some.injEq, Prod.mk.injEq] at h2
        obtain ⟨rfl, rfl⟩ := h2
        have := nbeq_eq hj
        subst this
        refine ⟨fun hs Q hQ => wp_block (k1 hs _ fun g1 beta1 a1 w1 hs1 hacc1 => ?_), k2⟩
        simp only [X.toExit, Exit.inBlock, if_true]
        exact hQ _ _ _ _ hs1 hacc1
      · simp only [Option.some.injEq, Prod.mk.injEq] at h2
        obtain ⟨rfl, rfl⟩ := h2
        have hne : j ≠ id := fun e => by rw [e, nbeq_self] at hj; cases hj
        refine ⟨fun hs Q hQ => wp_block (k1 hs _ fun g1 beta1 a1 w1 hs1 hacc1 => ?_), k2⟩
        simp only [X.toExit, Exit.inBlock, if_neg hne]
        exact hQ _ _ _ _ hs1 hacc1
    | norm =>
      simp only [Option.some.injEq, Prod.mk.injEq] at h2
      obtain ⟨rfl, rfl⟩ := h2
      exact ⟨fun hs Q hQ => wp_block (k1 hs _ hQ), k2⟩
    | goto l =>
      simp only [Option.some.injEq, Prod.mk.injEq] at h2
      obtain ⟨rfl, rfl⟩ := h2
      exact ⟨fun hs Q hQ => wp_block (k1 hs _ hQ), k2⟩
    | ret =>
      simp only [Option.some.injEq, Prod.mk.injEq] at h2
      obtain ⟨rfl, rfl⟩ := h2
      exact ⟨fun hs Q hQ => wp_block (k1 hs _ hQ), k2⟩
  | scope c ih =>
    intro s x s' h
    simp only [evD, evK] at h
    rw [evK_bind] at h
    simp only [Option.bind_eq_some_iff] at h
    obtain ⟨⟨x1, s1⟩, h1, h2⟩ := h
    obtain ⟨k1, k2⟩ := ih h1
    cases x1 with
    | goto l => cases h2
    | exit j =>
      simp only [Option.some.injEq, Prod.mk.injEq] at h2
      obtain ⟨rfl, rfl⟩ := h2
      exact ⟨fun hs Q hQ => wp_scope_straight (k1 hs _ hQ), k2⟩
    | norm =>
      simp only [Option.some.injEq, Prod.mk.injEq] at h2
      obtain ⟨rfl, rfl⟩ := h2
      exact ⟨fun hs Q hQ => wp_scope_straight (k1 hs _ hQ), k2⟩
    | ret =>
      simp only [Option.some.injEq, Prod.mk.injEq] at h2
      obtain ⟨rfl, rfl⟩ := h2
      exact ⟨fun hs Q hQ => wp_scope_straight (k1 hs _ hQ), k2⟩
  | loop c ih =>
    intro s x s' h
    simp only [evD, evK] at h
    split at h
    · cases h
    · rename_i rid _
      simp only [Option.bind_eq_some_iff] at h
      obtain ⟨⟨x1, s1⟩, h1, h2⟩ := h
      obtain ⟨n, hn⟩ := hL h1
      -- how it is left
      have hleft : ∃ (l : List (Nat × Kd) × List Nat), restS l s.t s1 some = some s' ∧ x = x1 ∧ x1 ≠ .norm := by
        rcases xSel_some h2 with ⟨j, rfl, h3⟩ | ⟨rfl, h3⟩
        · generalize dedup (exitsC c) = L at h3
          induction L with
          | nil => cases h3
          | cons j0 L ihL =>
            simp only [List.map_cons, look] at h3
            rcases condE h3 with ⟨hj, h3⟩ | ⟨hj, h3⟩
            · rw [restS_bind] at h3
              simp only [Option.bind_eq_some_iff, Option.some.injEq, Prod.mk.injEq] at h3
              obtain ⟨s2, h4, rfl, rfl⟩ := h3
              have := nbeq_eq hj
              subst this
              exact ⟨_, h4, rfl, by simp⟩
            · exact ihL h3
        · obtain ⟨_, h3⟩ := cond_none h3
          rw [restS_bind] at h3
          simp only [Option.bind_eq_some_iff, Option.some.injEq, Prod.mk.injEq] at h3
          obtain ⟨s2, h4, rfl, rfl⟩ := h3
          exact ⟨_, h4, rfl, by simp⟩
      obtain ⟨l, hrest, rfl, hx⟩ := hleft
      have rounds : ∀ n {s0 : St}, loopN n (fun s => evK I call loop c s fun x s' => some (x, s')) s0 = some (x, s1) → (∀ {d e : Nat} {g : Gh} {beta : Nat → Nat} {a : Act} {w : World}, Sim I d e g beta s0 a w → ∀ Q : Exit → Act → World → Prop, (∀ g' beta' a' w', Sim I d e g' beta' s1 a' w' → Acc d e g w g' w' → Q x.toExit a' w') → Code.rounds I.P c Q n a w) ∧ Grow I.quiet s0.h.nx s0.h s1.h := by
        intro n
        induction n with
        | zero => intro s0 h; cases h
        | succ n ihn =>
          intro s0 h
          simp only [loopN, Option.bind_eq_some_iff] at h
          obtain ⟨⟨x2, s2⟩, h3, h4⟩ := h
          obtain ⟨k1, k2⟩ := ih (show evD I call loop c s0 = some (x2, s2) from h3)
          cases x2 with
          | norm =>
            obtain ⟨k3, k4⟩ := ihn h4
            refine ⟨fun hs Q hQ => ?_, k2.trans (k4.mono k2.nx)⟩
            rw [rounds_succ]
            exact k1 hs _ fun g1 beta1 a1 w1 hs1 hacc1 => k3 hs1 Q fun g' beta' a' w' hs' hacc => hQ g' beta' a' w' hs' (hacc1.trans hacc)
          | exit j =>
            simp only [Option.some.injEq, Prod.mk.injEq] at h4
            obtain ⟨rfl, rfl⟩ := h4
            exact ⟨fun hs Q hQ => by rw [rounds_succ]; exact k1 hs _ hQ, k2⟩
          | goto j =>
            simp only [Option.some.injEq, Prod.mk.injEq] at h4
            obtain ⟨rfl, rfl⟩ := h4
            exact ⟨fun hs Q hQ => by rw [rounds_succ]; exact k1 hs _ hQ, k2⟩
          | ret =>
            simp only [Option.some.injEq, Prod.mk.injEq] at h4
            obtain ⟨rfl, rfl⟩ := h4
            exact ⟨fun hs Q hQ => by rw [rounds_succ]; exact k1 hs _ hQ, k2⟩
      obtain ⟨k1, k2⟩ := rounds n hn
      have hh : s'.h = s1.h := by
        unfold restS at hrest
        rw [restT_bind] at hrest
        simp only [Option.bind_eq_some_iff] at hrest
        obtain ⟨t', _, h5⟩ := hrest
        rw [restB_bind] at h5
        simp only [Option.bind_eq_some_iff, Option.some.injEq] at h5
        obtain ⟨b', _, rfl⟩ := h5
        rfl
      refine ⟨fun hs Q hQ => wp_loop_rounds n (k1 hs Q fun g' beta' a' w' hs' hacc => hQ g' beta' a' w' (hs'.rest hrest).1 hacc), by rw [hh]; exact k2⟩
  | rangeFunc => intro s x s' h; cases h
  | refuse => intro s x s' h; cases h
end Go.Abs
namespace Go.Abs
variable {g g' : Gh} {w w' : World} {p : Place} {pi : Nat → Place} {beta beta' : Nat → Nat} {d e : Nat}
variable {I : In} {call : CallF} {loop : LoopF} {a : Act} {o : Oper} {vs : List SV} {s s1 : St}

theorem args0Get : ∀ {xs : List CV} {n k : Nat} {v : SV}, mget (args0 n xs) k = some v → ∃ i x, xs[i]? = some x ∧ k = n + i ∧ v = .r (.c x) := by
  intro xs
  induction xs with
  | nil => intro n k v h; simp [args0, mget] at h
  | cons x xs ih =>
    intro n k v h
    unfold args0 at h
    unfold mget at h
    rcases condE h with ⟨hb, h⟩ | ⟨hb, h⟩
    · simp only [Option.some.injEq] at h; subst h
      have := nbeq_eq hb
      exact ⟨0, x, by simp, by omega, rfl⟩
    · obtain ⟨i, y, h1, h2, h3⟩ := ih h
      exact ⟨i + 1, y, by simpa using h1, by omega, h3⟩

/-- The state at a function's start. -/
theorem sim_start {args : List CV} {argsV : Array Value} {h : Hp} (hi : WInv g.own w) (hh : HpR g e h w) (ha : ∀ (i : Nat) x, args[i]? = some x → ∃ V, argsV[i]? = some V ∧ CVR g (.tmp d i) x V) :
    Sim I d e g (fun _ => 0) ⟨args0 0 args, [], h⟩ { tmps := argsV ++ Array.replicate (I.nt - argsV.size) undef, defers := [] } w := by
  refine ⟨hi, fun k v hv => ?_, fun k cs hk => by simp [mget] at hk, hh, rfl, by simp; omega⟩
  obtain ⟨i, x, h1, rfl, rfl⟩ := args0Get hv
  obtain ⟨V, h2, h3⟩ := ha i x h1
  simp only [Nat.zero_add]
  refine ⟨V, ?_, .r _ _ (.c _ _ h3)⟩
  show (argsV ++ Array.replicate (I.nt - argsV.size) undef)[i]? = some V
  rw [Array.getElem?_append_left (Array.getElem?_eq_some_iff.1 h2).1]
  exact h2

/-- What one result gives: 'f': where its room goes. -/
theorem resOne_R {P : Program} {s : St} {rv : ResultVar} {x : CV} (hs : Sim I d e g beta s a w) (h : resOne P s rv = some x) :
    ∃ V, (match rv with | .tmp t => pure (a.tmps.getD t undef) | .cell a' t => do loadVar t (← asAddr (a.tmps.getD a' undef)) : Sem Value).run P w = .ok V w ∧ ((∃ t, rv = .tmp t ∧ CVR g (.tmp d t) x V) ∨ ∃ y, x = .a y ∧ AVR g y V) := by
  cases rv with
  | tmp t =>
    simp only [resOne, Option.bind_eq_some_iff] at h
    obtain ⟨v, hv, hx⟩ := h
    obtain ⟨V, h1, h2⟩ := hs.tm t v hv
    refine ⟨V, ?_, .inl ⟨t, rfl, h2.cv hx⟩⟩
    have : a.tmps.getD t undef = V := by simp [Array.getD_eq_getD_getElem?, h1]
    simp [this]
  | cell c ty =>
    simp only [resOne, Option.bind_eq_some_iff] at h
    obtain ⟨n, hn, v, hv, hx⟩ := h
    obtain ⟨V, h1, h2⟩ := hs.tm c v hv
    have hV : a.tmps.getD c undef = V := by simp [Array.getD_eq_getD_getElem?, h1]
    have load : ∀ {b off : Nat} {W : Value}, (Instr.loadAt ty (.pointer (some ⟨b, off, none⟩))).run P w = .ok W w → (do loadVar ty (← asAddr (.pointer (some ⟨b, off, none⟩))) : Sem Value).run P w = .ok W w := by
      intro b off W h
      simpa [Instr.loadAt, Instr.sureAddr, asAddr] using h
    have dem : ∀ {r : RV} {W : Value}, RVR g (.ret 0) (.rti 0) r W → (∃ y : RV, r = y.dem) → r.cv? = some x → ∃ y, x = .a y ∧ AVR g y W := by
      rintro r W h ⟨y, rfl⟩ hc
      cases y with
      | c y =>
        simp only [RV.dem, RV.cv?, Option.some.injEq] at hc; subst hc
        cases h with | c _ _ h => exact ⟨_, rfl, h.av⟩
      | tup ys => cases hc
    have packD : ∀ {agg : Bool} {cs : List CV} {r : RV}, packV agg (demC cs) = some r → ∃ y : RV, r = y.dem := by
      intro agg cs r h
      unfold packV at h
      rcases condE h with ⟨_, h⟩ | ⟨_, h⟩
      · simp only [Option.some.injEq] at h; subst h; exact ⟨rA (mkAgg ((demC cs).map CV.av)), rfl⟩
      · cases cs with
        | nil => cases h
        | cons c cs =>
          cases cs with
          | nil => simp only [demC, List.map_cons, List.map_nil, oneC, Option.some.injEq] at h; subst h; exact ⟨.c c, rfl⟩
          | cons _ _ => cases h
    cases v with
    | lp k off =>
      simp only [Option.bind_eq_some_iff, bget] at hx
      obtain ⟨r, ⟨cs', ⟨cs, hcs, hcut⟩, hp⟩, hc⟩ := hx
      cases h2
      obtain ⟨W, h3, h4⟩ := load_dem (P := P) (p := .ret 0) (pi := .rti 0) (hs.bx k cs hcs) hcut hn hp
      exact ⟨W, by simp only [hV]; exact load h3, .inr (dem h4 (packD hp) hc)⟩
    | r u =>
      simp only [Option.bind_eq_some_iff] at hx
      obtain ⟨r, hr, hc⟩ := hx
      unfold ldV at hr
      split at hr
      · rename_i i off
        simp only [Option.bind_eq_some_iff] at hr
        obtain ⟨cs', hg, hp⟩ := hr
        obtain ⟨cs, hcs, hcut⟩ := hget_some hg
        cases h2 with | r _ _ h2 => cases h2 with | c _ _ h2 => cases h2 with | a _ _ h2 => cases h2 with | ptr _ _ hok =>
        obtain ⟨W, h3, h4⟩ := load_dem (P := P) (p := .ret 0) (pi := .rti 0) (hs.hp.obj i cs hcs).2 hcut hn hp
        exact ⟨W, by simp only [hV]; exact load h3, .inr (dem h4 (packD hp) hc)⟩
      · rename_i ps
        simp only [Option.bind_eq_some_iff] at hr
        obtain ⟨cs', hcut, hp⟩ := hr
        cases h2 with | r _ _ h2 => cases h2 with | c _ _ h2 => cases h2 with | a _ _ h2 => cases h2 with | d _ _ h2 => cases h2 with | bx _ b off Vs hsc hcp hfz =>
        obtain ⟨hc1, hc2⟩ := cond_none hcut
        simp only [Option.some.injEq] at hc2
        have hle := Nat.le_of_ble_eq_true hc1
        have hcs' : cs' = ps.take n := by rw [← hc2]; simp [cut]
        subst hcs'
        have hpd : ∃ y : RV, r = y.dem := packD (cs := (ps.take n).map fun p => .a (.d p)) (by
          rw [← hp]; congr 1
          simp only [demC, List.map_map]; rfl)
        obtain ⟨W, h5, h6⟩ := pack_bx (P := P) (p := .ret 0) (pi := .rti 0) (hcp.take n) hp
        have hlen : (Vs.take n).length = n := by have := hcp.length; simp; omega
        have hrun := run_loadAt (P := P) (w := w) (b := b) (off := off) hn hlen (fun j V hj => by
          rw [List.getElem?_take] at hj
          split at hj
          · exact hs.inv.fz (hfz j V hj)
          · cases hj) h5
        exact ⟨W, by simp only [hV]; exact load hrun, .inr (dem h6 hpd hc)⟩
      · cases hr
    | gd _ _ _ => cases hx

def resF (a : Act) (rv : ResultVar) : Sem Value := match rv with | .tmp t => pure (a.tmps.getD t undef) | .cell a' t => do loadVar t (← asAddr (a.tmps.getD a' undef))
theorem resAll_R {P : Program} {s : St} (hs : Sim I d e g beta s a w) : ∀ {rs : List ResultVar} {xs : List CV}, resAll P s rs = some xs →
    ∃ Vs, (rs.mapM (resF a)).run P w = .ok Vs w ∧ Vs.length = xs.length ∧ ∀ (i : Nat) x, xs[i]? = some x → ∃ V rv, Vs[i]? = some V ∧ rs[i]? = some rv ∧ ((∃ t, rv = .tmp t ∧ CVR g (.tmp d t) x V) ∨ ∃ y, x = .a y ∧ AVR g y V) := by
  intro rs
  induction rs with
  | nil => intro xs h; simp [resAll] at h; subst h; exact ⟨[], by simp, rfl, by simp⟩
  | cons r rs ih =>
    intro xs h
    simp only [resAll, Option.bind_eq_some_iff, Option.some.injEq] at h
    obtain ⟨x, hx, xs, hxs, rfl⟩ := h
    obtain ⟨Vs, h1, h2, h3⟩ := ih hxs
    obtain ⟨V, h4, h5⟩ := resOne_R hs hx
    refine ⟨V :: Vs, ?_, by simp [h2], ?_⟩
    · have h4' : (resF a r).run P w = .ok V w := h4
      simp [List.mapM_cons, h4', h1]
    · intro i y hy
      cases i with
      | zero => simp at hy; subst hy; exact ⟨V, r, by simp, by simp, h5⟩
      | succ i => obtain ⟨W, rv, h6, h7, h8⟩ := h3 i y (by simpa using hy); exact ⟨W, rv, by simpa using h6, by simpa using h7, h8⟩

def resIdx : Nat → List ResultVar → Nat → Option Nat
  | _, [], _ => none
  | i, .tmp t :: r, k => if t = k then some i else resIdx (i + 1) r k
  | i, .cell _ _ :: r, k => resIdx (i + 1) r k
theorem resSlots_mem {rs : List ResultVar} : ∀ {j k : Nat}, rs[j]? = some (.tmp k) → k ∈ resSlots rs := by
  induction rs with
  | nil => intro j k h; simp at h
  | cons r rs ih =>
    intro j k h
    cases j with
    | zero => simp at h; subst h; simp [resSlots]
    | succ j =>
      have := ih (j := j) (k := k) (by simpa using h)
      cases r <;> exact List.mem_cons_of_mem _ this
theorem resIdx_eq : ∀ {rs : List ResultVar} {n j k : Nat}, nodupB (resSlots rs) = true → rs[j]? = some (.tmp k) → resIdx n rs k = some (n + j) := by
  intro rs
  induction rs with
  | nil => intro n j k _ h; simp at h
  | cons r rs ih =>
    intro n j k hd h
    cases r with
    | tmp t =>
      simp only [resSlots, nodupB] at hd
      obtain ⟨hd1, hd2⟩ := cond_none'' hd
      cases j with
      | zero => simp at h; subst h; simp [resIdx]
      | succ j =>
        have hh : rs[j]? = some (.tmp k) := by simpa using h
        have hne : t ≠ k := by
          rintro rfl
          rw [has_iff.2 (resSlots_mem hh)] at hd1; cases hd1
        simp only [resIdx, if_neg hne]
        rw [ih hd2 hh]; congr 1; omega
    | cell c ty =>
      simp only [resSlots, nodupB] at hd
      obtain ⟨hd1, hd2⟩ := cond_none'' hd
      cases j with
      | zero => simp at h
      | succ j =>
        simp only [resIdx]
        rw [ih hd2 (by simpa using h)]; congr 1; omega
def tgt (d : Nat) (one : Bool) (i : Nat) : Place := bif one then .ret d else .rti d i
def resMap (d : Nat) (one : Bool) (rs : List ResultVar) : Place → Place
  | .tmp d' k => if d' = d then (match resIdx 0 rs k with | some i => tgt d one i | none => .tmp d' k) else .tmp d' k
  | p => p

/-- What a function gives. -/
theorem results_R {P : Program} {fn : Func} {x : X} {r : RV × Hp} (hs : Sim I d e g beta s a w) (h : resK P fn x s = some r) :
    (x = .norm ∨ x = .ret) ∧ r.2 = s.h ∧ ∃ V, (results fn a.tmps).run P w = .ok V w ∧ CallQ d e g w r (.returned V) w := by
  have main : (cond (nodupB (resSlots fn.results.toList)) ((resAll P s fn.results.toList).bind fun xs => some (resRV xs, s.h)) none) = some r → r.2 = s.h ∧ ∃ V, (results fn a.tmps).run P w = .ok V w ∧ CallQ d e g w r (.returned V) w := by
    intro h
    obtain ⟨hn, h⟩ := cond_none h
    simp only [Option.bind_eq_some_iff, Option.some.injEq] at h
    obtain ⟨xs, hxs, rfl⟩ := h
    obtain ⟨Vs, h1, h2, h3⟩ := resAll_R hs hxs
    have hm : (fn.results.mapM (resF a)).run P w = .ok ⟨Vs⟩ w := by
      rw [Array.mapM_eq_mapM_toList]
      simp [h1]
    have hrun : ∀ V, (if h : (⟨Vs⟩ : Array Value).size = 1 then (⟨Vs⟩ : Array Value)[0] else .tuple ⟨Vs⟩) = V → (results fn a.tmps).run P w = .ok V w := by
      rintro V rfl
      have : results fn a.tmps = (do let vs ← fn.results.mapM (resF a); pure (if h : vs.size = 1 then vs[0] else .tuple vs)) := rfl
      rw [this]
      simp [hm]
    have hst : ∀ one, Step (fun p => ∃ k, p = .tmp d k) g.own w (relM (resMap d one fn.results.toList) g.own) w := fun one => step_relM hs.inv _ (fun p hp => by
      cases p with
      | tmp d' k =>
        by_cases hd : d' = d
        · subst hd; exact ⟨k, rfl⟩
        · simp only [resMap, if_neg hd] at hp; exact absurd rfl hp
      | _ => exact absurd rfl hp)
    have item : ∀ one (i : Nat) x, xs[i]? = some x → ∃ V, Vs[i]? = some V ∧ CVR ⟨relM (resMap d one fn.results.toList) g.own, g.rho, g.ok⟩ (tgt d one i) x V := by
      intro one i x hx
      obtain ⟨V, rv, h4, h5, h6⟩ := h3 i x hx
      refine ⟨V, h4, ?_⟩
      rcases h6 with ⟨t, rfl, h6⟩ | ⟨y, rfl, h6⟩
      · have h7 := h6.relM (f := resMap d one fn.results.toList)
        have h8 := resIdx_eq (n := 0) hn h5
        simp only [Nat.zero_add] at h8
        simpa [resMap, h8] using h7
      · exact .a _ _ (h6.mono (hst one).gle)
    have fin : ∀ one V, RVR ⟨relM (resMap d one fn.results.toList) g.own, g.rho, g.ok⟩ (.ret d) (.rti d) (resRV xs) V → CallQ d e g w (resRV xs, s.h) (.returned V) w := by
      intro one V hv
      have k := hst one
      refine ⟨_, k.inv, hs.hp.keep ⟨k.gle, fun h => k.hp h, fun h => (k.tl h (by simp)).1⟩ fun _ h => h, hv, k.frame hs.inv (fun p hp => ?_), k.gle⟩
      obtain ⟨k, rfl⟩ := hp
      exact Nat.le_refl _
    refine ⟨rfl, ?_⟩
    match xs, Vs, h2, hrun, item, fin with
    | [x], [V], _, hrun, item, fin =>
      refine ⟨V, hrun V (by simp), fin true V ?_⟩
      obtain ⟨W, h4, h5⟩ := item true 0 x (by simp)
      simp at h4; subst h4
      exact .c _ _ h5
    | [], [], _, hrun, item, fin => exact ⟨_, hrun _ (by simp; rfl), fin false _ (.tup _ _ rfl (fun i x hx => by simp at hx))⟩
    | x :: y :: xs, Vs, hl, hrun, item, fin =>
      refine ⟨.tuple ⟨Vs⟩, hrun _ (by rw [dif_neg]; simp at hl ⊢; omega), fin false _ (.tup _ _ hl.symm (fun i z hz => item false i z hz))⟩
  cases x with
  | norm => exact ⟨.inl rfl, main h⟩
  | ret => exact ⟨.inr rfl, main h⟩
  | exit j => cases h
  | goto l => cases h

theorem loopN_ok (n : Nat) : LoopOk (loopN n) := fun h => ⟨n, h⟩

/-- One layer of calls. -/
theorem callOk_evF {E : Env} {call : CallF} {loop : LoopF} (hE : EnvOk E) (hC : CallOk E call) (hL : LoopOk loop) : CallOk E (evF E call loop) := by
  have open_ : ∀ {q f args h r}, evF E call loop q f args h = some r → ∃ fn c x s', E.P.funcs[f]? = some fn ∧ fn.body = some c ∧ evD ⟨E, f, fn.ntmps, q⟩ call loop c ⟨args0 0 args, [], h⟩ = some (x, s') ∧ resK E.P fn x s' = some r := by
    intro q f args h r hr
    unfold evF at hr
    split at hr
    · rename_i fn hf
      split at hr
      · rename_i c hb
        rw [evK_bind] at hr
        simp only [Option.bind_eq_some_iff] at hr
        obtain ⟨⟨x, s'⟩, h1, h2⟩ := hr
        exact ⟨fn, c, x, s', hf, hb, h1, h2⟩
      · cases hr
    · cases hr
  constructor
  · intro q f args h r hr
    obtain ⟨fn, c, _, _, h1, h2, _⟩ := open_ hr
    exact ⟨fn, c, h1, h2⟩
  · intro q f args h r hr d e g w argsV hi hh ha
    obtain ⟨fn, c, x, s', h1, h2, h3, h4⟩ := open_ hr
    refine calls_of_wp h1 h2 ?_
    refine (ev_ok (I := ⟨E, f, fn.ntmps, q⟩) hE hC hL c h3).1 (sim_start (I := ⟨E, f, fn.ntmps, q⟩) hi hh ha) _ (fun g' beta' a' w' hs' hacc => ?_)
    obtain ⟨hx, _, V, h5, g2, h6, h7, h8, h9⟩ := results_R hs' h4
    rcases hx with rfl | rfl
    · exact ⟨hs'.defers, V, h5, g2, h6, h7, h8, hacc.trans h9⟩
    · exact ⟨hs'.defers, V, h5, g2, h6, h7, h8, hacc.trans h9⟩
  · intro q f args h r hr
    obtain ⟨fn, c, x, s', h1, h2, h3, h4⟩ := open_ hr
    have hg := (ev_ok (I := ⟨E, f, fn.ntmps, q⟩) hE hC hL c h3).2
    have hr2 : r.2 = s'.h := by
      cases x with
      | norm =>
        obtain ⟨_, h5⟩ := cond_none h4
        simp only [Option.bind_eq_some_iff, Option.some.injEq] at h5
        obtain ⟨_, _, rfl⟩ := h5; rfl
      | ret =>
        obtain ⟨_, h5⟩ := cond_none h4
        simp only [Option.bind_eq_some_iff, Option.some.injEq] at h5
        obtain ⟨_, _, rfl⟩ := h5; rfl
      | exit j => cases h4
      | goto l => cases h4
    rw [hr2]
    exact ⟨hg.nx, fun j hj => ⟨hg.none j hj, fun hq => hg.same hq j hj⟩⟩

theorem callOk_ev {E : Env} (hE : EnvOk E) : ∀ n, CallOk E (ev E n) := by
  intro n
  induction n with
  | zero =>
    constructor
    · intro q f args h r hr; cases hr
    · intro q f args h r hr; cases hr
    · intro q f args h r hr; cases hr
  | succ n ih => exact callOk_evF hE ih (loopN_ok n)
end Go.Abs
