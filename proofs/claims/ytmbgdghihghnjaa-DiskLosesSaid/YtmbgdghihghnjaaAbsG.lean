/- Calls without a bound of fuel: they do what the body does. Calls without a bound of fuel: what a body answers, its call answers. Calls taken apart: at a loop, at a call that is known by a contract. Small laws for residual equations: loads, stores, guards. -/
import Derived.Test.YtmbgdghihghnjaaAbsE
set_option linter.unusedVariables false
set_option linter.unusedSimpArgs false
namespace Go.Abs

theorem callU_some {E : Env} {q : Bool} {f : FuncId} {args : List CV} {h : Hp} {r : RV × Hp} (hc : callU E q f args h = some r) : ∃ n, ∀ m, n ≤ m → ev E m q f args h = some r := by
  unfold callU at hc
  split at hc
  · rename_i hx
    cases hc
    exact hx.choose_spec
  · cases hc
theorem callU_mk {E : Env} {q : Bool} {f : FuncId} {args : List CV} {h : Hp} {r : RV × Hp} {n : Nat} (hn : ∀ m, n ≤ m → ev E m q f args h = some r) : callU E q f args h = some r := by
  unfold callU
  have hx : ∃ r n, ∀ m, n ≤ m → ev E m q f args h = some r := ⟨r, n, hn⟩
  rw [dif_pos hx]
  obtain ⟨k, hk⟩ := hx.choose_spec
  have h1 := hk (max n k) (Nat.le_max_right _ _)
  rw [hn (max n k) (Nat.le_max_left _ _)] at h1
  exact h1.symm
theorem loopN_le {F : St → Option (X × St)} {r : X × St} : ∀ {n m : Nat} {s : St}, loopN n F s = some r → n ≤ m → loopN m F s = some r := by
  intro n
  induction n with
  | zero => intro m s h; cases h
  | succ n ih =>
    intro m s h hm
    cases m with
    | zero => omega
    | succ m =>
      simp only [loopN, Option.bind_eq_some_iff] at h ⊢
      obtain ⟨x, h1, h2⟩ := h
      refine ⟨x, h1, ?_⟩
      obtain ⟨x1, s1⟩ := x
      cases x1 with
      | norm => exact ih h2 (by omega)
      | _ => exact h2
theorem loopU_some {F : St → Option (X × St)} {s : St} {r : X × St} (h : loopU F s = some r) : ∃ n, loopN n F s = some r := by
  unfold loopU at h
  split at h
  · rename_i hx
    cases h
    obtain ⟨n, hn⟩ := hx.choose_spec
    exact ⟨n, hn n (Nat.le_refl _)⟩
  · cases h
theorem loopU_mk {F : St → Option (X × St)} {s : St} {r : X × St} {n : Nat} (hn : loopN n F s = some r) : loopU F s = some r := by
  unfold loopU
  have hx : ∃ r n, ∀ m, n ≤ m → loopN m F s = some r := ⟨r, n, fun m hm => loopN_le hn hm⟩
  rw [dif_pos hx]
  obtain ⟨k, hk⟩ := hx.choose_spec
  have h1 := hk (max n k) (Nat.le_max_right _ _)
  rw [loopN_le hn (Nat.le_max_left _ _)] at h1
  exact h1.symm
/-- A round that goes on. -/
theorem loopU_norm {F : St → Option (X × St)} {s s1 : St} {r : X × St} (h : F s = some (.norm, s1)) (h1 : loopU F s1 = some r) : loopU F s = some r := by
  obtain ⟨n, hn⟩ := loopU_some h1
  exact loopU_mk (n := n + 1) (by simp only [loopN, h, Option.bind_some]; exact hn)
/-- A round that leaves. -/
theorem loopU_out {F : St → Option (X × St)} {s s1 : St} {x : X} (h : F s = some (x, s1)) (hx : x ≠ .norm) : loopU F s = some (x, s1) := by
  refine loopU_mk (n := 1) ?_
  cases x with
  | norm => exact absurd rfl hx
  | _ => simp only [loopN, h, Option.bind_some]
theorem loopOk_U : LoopOk loopU := fun h => loopU_some h
theorem callOk_U {E : Env} (hE : EnvOk E) : CallOk E (callU E) where
  enters := fun h => by
    obtain ⟨n, hn⟩ := callU_some h
    exact (callOk_ev hE n).enters (hn n (Nat.le_refl _))
  sound := fun h => by
    obtain ⟨n, hn⟩ := callU_some h
    exact (callOk_ev hE n).sound (hn n (Nat.le_refl _))
  grow := fun h => by
    obtain ⟨n, hn⟩ := callU_some h
    exact (callOk_ev hE n).grow (hn n (Nat.le_refl _))

/-! From some fuel on -/
def Lim {α : Type} (x : Option α) (xs : Nat → Option α) : Prop := ∀ v, x = some v → ∃ n, ∀ m, n ≤ m → xs m = some v
theorem Lim.const {α : Type} (x : Option α) : Lim x fun _ => x := fun v h => ⟨0, fun _ _ => h⟩
theorem Lim.bind {α β : Type} {x : Option α} {xs : Nat → Option α} {k : α → Option β} {ks : Nat → α → Option β} (h : Lim x xs) (hk : ∀ v, Lim (k v) fun m => ks m v) : Lim (x.bind k) fun m => (xs m).bind (ks m) := by
  intro v hv
  simp only [Option.bind_eq_some_iff] at hv
  obtain ⟨u, h1, h2⟩ := hv
  obtain ⟨n1, h3⟩ := h u h1
  obtain ⟨n2, h4⟩ := hk u v h2
  refine ⟨max n1 n2, fun m hm => ?_⟩
  show (xs m).bind (ks m) = some v
  rw [h3 m (Nat.le_trans (Nat.le_max_left _ _) hm)]
  exact h4 m (Nat.le_trans (Nat.le_max_right _ _) hm)
theorem Lim.cond {α : Type} {b : Bool} {x y : Option α} {xs ys : Nat → Option α} (h : Lim x xs) (k : Lim y ys) : Lim (cond b x y) fun m => cond b (xs m) (ys m) := by
  cases b
  · exact k
  · exact h
theorem Lim.congr {α : Type} {x : Option α} {xs ys : Nat → Option α} (h : Lim x xs) (he : ∀ m, ys m = xs m) : Lim x ys := by
  rwa [show ys = xs from funext he]

section
variable {I : In} {call : CallF} {calls : Nat → CallF} {o : Oper}
def CLim (call : CallF) (calls : Nat → CallF) : Prop := ∀ q f a h, Lim (call q f a h) fun m => calls m q f a h

theorem smCall_cont (hl : CLim call calls) {args : List Operand} {f : FuncId} :
    (∃ (g : List SV → Option SV) (gs : Nat → List SV → Option SV), callSm I call args f = .p g ∧ (∀ m, callSm I (calls m) args f = .p (gs m)) ∧ ∀ vs, Lim (g vs) fun m => gs m vs) ∨
    (∃ (g : List SV → Hp → Option (RV × Hp)) (gs : Nat → List SV → Hp → Option (RV × Hp)), callSm I call args f = .qh g ∧ (∀ m, callSm I (calls m) args f = .qh (gs m)) ∧ ∀ vs h, Lim (g vs h) fun m => gs m vs h) ∨
    (∃ (g : List SV → Hp → Option (RV × Hp)) (gs : Nat → List SV → Hp → Option (RV × Hp)), callSm I call args f = .wh g ∧ (∀ m, callSm I (calls m) args f = .wh (gs m)) ∧ ∀ vs h, Lim (g vs h) fun m => gs m vs h) ∨ callSm I call args f = .bad := by
  unfold callSm
  cases nodupB (stealArgs (I.H f).own 0 args) with
  | false => exact .inr (.inr (.inr rfl))
  | true =>
    simp only [cond_true]
    cases I.iso f with
    | true => exact .inl ⟨_, _, rfl, fun m => rfl, fun vs => (Lim.const _).bind fun xs => (((hl _ _ _ _).bind fun r => Lim.const _).cond (Lim.const _))⟩
    | false =>
      simp only [cond_false]
      cases I.qt f with
      | true => exact .inr (.inl ⟨_, _, rfl, fun m => rfl, fun vs h => (Lim.const _).bind fun xs => hl _ _ _ _⟩)
      | false => exact .inr (.inr (.inl ⟨_, _, rfl, fun m => rfl, fun vs h => (Lim.const _).bind fun xs => hl _ _ _ _⟩))
theorem callV_cont (hl : CLim call calls) {q : Bool} {v : SV} {args : List CV} {h : Hp} : Lim (callV call q v args h) fun m => callV (calls m) q v args h := by
  unfold callV
  split
  · exact hl _ _ _ _
  · exact hl _ _ _ _
  · exact Lim.const _
theorem invokeV_cont (hl : CLim call calls) {q : Bool} {name : String} {v : SV} {args : List CV} {h : Hp} : Lim (invokeV I call q name v args h) fun m => invokeV I (calls m) q name v args h := by
  unfold invokeV
  split
  · exact (Lim.const _).bind fun f => hl _ _ _ _
  · exact (Lim.const _).bind fun f => hl _ _ _ _
  · exact Lim.const _
theorem sm_cont (hl : CLim call calls) :
    (∀ m, smOp I (calls m) o = smOp I call o) ∨ (isCallO o = true ∧ (
    (∃ (g : List SV → Option SV) (gs : Nat → List SV → Option SV), smOp I call o = .p g ∧ (∀ m, smOp I (calls m) o = .p (gs m)) ∧ ∀ vs, Lim (g vs) fun m => gs m vs) ∨
    (∃ (g : List SV → Hp → Option (RV × Hp)) (gs : Nat → List SV → Hp → Option (RV × Hp)), smOp I call o = .qh g ∧ (∀ m, smOp I (calls m) o = .qh (gs m)) ∧ ∀ vs h, Lim (g vs h) fun m => gs m vs h) ∨
    (∃ (g : List SV → Hp → Option (RV × Hp)) (gs : Nat → List SV → Hp → Option (RV × Hp)), smOp I call o = .wh g ∧ (∀ m, smOp I (calls m) o = .wh (gs m)) ∧ ∀ vs h, Lim (g vs h) fun m => gs m vs h) ∨ smOp I call o = .bad)) := by
  obtain ⟨dst, op, type, pos, after, guard⟩ := o
  cases op with
  | call c =>
    obtain ⟨callee, args, argTypes⟩ := c
    cases callee with
    | builtin b => exact .inl fun m => rfl
    | value x =>
      cases x with
      | func f => exact .inr ⟨rfl, smCall_cont hl⟩
      | tmp k =>
        refine .inr ⟨rfl, ?_⟩
        simp only [smOp]
        cases I.hint.q with
        | true => exact .inr (.inl ⟨_, _, rfl, fun m => rfl, fun vs h => by
            cases vs with
            | nil => exact Lim.const _
            | cons v r => exact (Lim.const _).bind fun xs => callV_cont hl⟩)
        | false => exact .inr (.inr (.inl ⟨_, _, rfl, fun m => rfl, fun vs h => by
            cases vs with
            | nil => exact Lim.const _
            | cons v r => exact (Lim.const _).bind fun xs => callV_cont hl⟩))
      | const _ => exact .inr ⟨rfl, .inr (.inr (.inr rfl))⟩
      | global _ => exact .inr ⟨rfl, .inr (.inr (.inr rfl))⟩
    | invoke x name =>
      refine .inr ⟨rfl, ?_⟩
      simp only [smOp]
      cases I.hint.q with
      | true => exact .inr (.inl ⟨_, _, rfl, fun m => rfl, fun vs h => by
          cases vs with
          | nil => exact Lim.const _
          | cons v r => exact (Lim.const _).bind fun xs => invokeV_cont hl⟩)
      | false => exact .inr (.inr (.inl ⟨_, _, rfl, fun m => rfl, fun vs h => by
          cases vs with
          | nil => exact Lim.const _
          | cons v r => exact (Lim.const _).bind fun xs => invokeV_cont hl⟩))
  | _ => exact .inl fun m => rfl

theorem Lim.coeK {α : Type} {kd : Kd} {x : Option RV} {xs : Nat → Option RV} {k : RV → Option α} (h : Lim x xs) : Lim (Abs.coeK kd x k) fun m => Abs.coeK kd (xs m) k := by
  cases kd <;> simp only [Abs.coeK] <;> first | exact (h.bind fun _ => Lim.const _).bind fun _ => Lim.const _ | exact h.bind fun _ => Lim.const _
theorem pRes_cont {α : Type} {kd : Kd} {lp : Bool} {x : Option SV} {xs : Nat → Option SV} {k : SV → Option α} (h : Lim x xs) : Lim (pRes kd lp x k) fun m => pRes kd lp (xs m) k := by
  unfold pRes
  exact Lim.cond (h.bind fun v => Lim.const _) (Lim.coeK (h.bind fun _ => Lim.const _))
/-- Behind a guard. -/
theorem gdP_cont {α : Type} {kd : Kd} {lp e : Bool} {x : Option SV} {xs : Nat → Option SV} {k : SV → Option α} (h : Lim x xs) : Lim (pResG kd lp e (gvP true e x) k) fun m => pResG kd lp e (gvP true e (xs m)) k := by
  cases e with
  | false => exact Lim.const _
  | true =>
    intro v hv
    have e1 : ∀ y : Option SV, gvP true true y = y := fun _ => rfl
    simp only [e1] at hv ⊢
    obtain ⟨u, _, h1, _⟩ := pResG_some hv
    have h1 := h1 rfl
    obtain ⟨n, hn⟩ := h u h1
    refine ⟨n, fun m hm => ?_⟩
    rw [hn m hm, ← h1]; exact hv

theorem opR_cont (hl : CLim call calls) {dr : Bool} {rg i : Nat} {ds : List (Option Nat)} {s : St} : Lim (opR I call dr rg ds i o s some) fun m => opR I (calls m) dr rg ds i o s some := by
  rcases sm_cont (I := I) (o := o) hl with hs | ⟨hc, ⟨g, gs, h1, h2, h3⟩ | ⟨g, gs, h1, h2, h3⟩ | ⟨g, gs, h1, h2, h3⟩ | h1⟩
  · refine (Lim.const _).congr fun m => ?_
    unfold opR; rw [hs m]
  · unfold opR
    simp only [h1, h2]
    split
    · exact pRes_cont ((Lim.const _).bind fun vs => h3 vs)
    · split
      · refine Lim.cond (Lim.const _) ((Lim.const _).bind fun ee => ?_)
        rw [hc]
        exact gdP_cont ((Lim.const _).bind fun vs => h3 vs)
      · exact Lim.const _
  · unfold opR
    simp only [h1, h2]
    split
    · exact ((Lim.const _).bind fun vs => h3 vs _).bind fun v => Lim.const _
    · split
      · exact Lim.cond (Lim.const _) ((Lim.const _).bind fun ee => (Lim.cond ((Lim.const _).bind fun vs => h3 vs _) (Lim.const _)).bind fun r => Lim.const _)
      · exact Lim.const _
  · unfold opR
    simp only [h1, h2]
    split
    · exact Lim.cond (Lim.const _) (((Lim.const _).bind fun vs => h3 vs _).bind fun v => Lim.const _)
    · split
      · exact Lim.cond (Lim.const _) ((Lim.const _).bind fun ee => Lim.cond (Lim.const _) ((Lim.cond ((Lim.const _).bind fun vs => h3 vs _) (Lim.const _)).bind fun r => Lim.const _))
      · exact Lim.const _
  · intro v hv
    exact absurd h1 (not_bad hv)
end
end Go.Abs
namespace Go.Abs
variable {I : In} {call : CallF} {calls : Nat → CallF} {loops : Nat → LoopF}

theorem opsK_cont (hl : CLim call calls) {dr : Bool} {rg : Nat} {ds : List (Option Nat)} : ∀ {r : List Oper} {i : Nat} {s : St}, Lim (opsK I call dr rg ds i r s some) fun m => opsK I (calls m) dr rg ds i r s some := by
  intro r
  induction r with
  | nil => intro i s; exact Lim.const _
  | cons o r ih =>
    intro i s
    have h1 : ∀ c : CallF, opsK I c dr rg ds i (o :: r) s some = (cond (dstOk I o s.t) (opR I c dr rg ds i o s some) none).bind fun s' => opsK I c dr rg ds (i + 1) r s' some := by
      intro c
      show opK I c dr rg ds i o s (fun s' => opsK I c dr rg ds (i + 1) r s' some) = _
      rw [opK_bind]; rfl
    rw [h1]
    refine Lim.congr ((Lim.cond (opR_cont hl) (Lim.const _)).bind fun s' => ih) fun m => h1 _

/-- Loops of growing bounds. -/
def LLim (loop : LoopF) (loops : Nat → LoopF) : Prop := ∀ (F : St → Option (X × St)) (Fs : Nat → St → Option (X × St)), (∀ s, Lim (F s) fun m => Fs m s) → ∀ s, Lim (loop F s) fun m => loops m (Fs m) s
theorem llim_U : LLim loopU loopN := by
  intro F Fs hF s v hv
  obtain ⟨n, hn⟩ := loopU_some hv
  have key : ∀ n s, loopN n F s = some v → ∃ k, ∀ m, k ≤ m → loopN n (Fs m) s = some v := by
    intro n
    induction n with
    | zero => intro s h; cases h
    | succ n ih =>
      intro s h
      simp only [loopN, Option.bind_eq_some_iff] at h
      obtain ⟨⟨x, s1⟩, h1, h2⟩ := h
      obtain ⟨k1, hk1⟩ := hF s _ h1
      cases x with
      | norm =>
        obtain ⟨k2, hk2⟩ := ih s1 h2
        refine ⟨max k1 k2, fun m hm => ?_⟩
        simp only [loopN, hk1 m (Nat.le_trans (Nat.le_max_left _ _) hm), Option.bind_some]
        exact hk2 m (Nat.le_trans (Nat.le_max_right _ _) hm)
      | exit id => exact ⟨k1, fun m hm => by simp only [loopN, hk1 m hm, Option.bind_some]; exact h2⟩
      | goto id => exact ⟨k1, fun m hm => by simp only [loopN, hk1 m hm, Option.bind_some]; exact h2⟩
      | ret => exact ⟨k1, fun m hm => by simp only [loopN, hk1 m hm, Option.bind_some]; exact h2⟩
  obtain ⟨k, hk⟩ := key n s hn
  exact ⟨max k n, fun m hm => loopN_le (hk m (Nat.le_trans (Nat.le_max_left _ _) hm)) (Nat.le_trans (Nat.le_max_right _ _) hm)⟩

theorem xSel_cont {α : Type} {x : X} {L : List (Nat × Option α)} {Ls : Nat → List (Nat × Option α)} {r : Option α} {rs : Nat → Option α} (hL : ∀ j, Lim (look none L j) fun m => look none (Ls m) j) (hr : Lim r rs) : Lim (xSel x L r) fun m => xSel x (Ls m) (rs m) := by
  cases x with
  | exit j => exact hL j
  | ret => exact hr
  | norm => exact Lim.const _
  | goto l => exact Lim.const _

theorem evK_cont {loop : LoopF} (hl : CLim call calls) (hL : LLim loop loops) : ∀ (c : Code) {α : Type} (s : St) (k : X → St → Option α) (ks : Nat → X → St → Option α), (∀ x s', Lim (k x s') fun m => ks m x s') → Lim (evK I call loop c s k) fun m => evK I (calls m) (loops m) c s (ks m) := by
  intro c
  induction c with
  | skip => intro α s k ks hk; exact hk _ _
  | label l => intro α s k ks hk; exact hk _ _
  | exit id => intro α s k ks hk; exact hk _ _
  | goto l => intro α s k ks hk; exact hk _ _
  | ret => intro α s k ks hk; exact hk _ _
  | region id ops draw =>
    intro α s k ks hk
    simp only [evK]
    refine Lim.cond ?_ (Lim.const _)
    rw [opsK_bind]
    refine Lim.congr ((opsK_cont hl).bind fun s' => hk _ _) fun m => ?_
    rw [opsK_bind]
  | seq a b iha ihb =>
    intro α s k ks hk
    simp only [evK]
    refine iha s _ (fun m x s' => match x with | .norm => evK I (calls m) (loops m) b s' (ks m) | x => ks m x s') fun x s' => ?_
    cases x with
    | norm => exact ihb s' k ks hk
    | _ => exact hk _ _
  | cond c a b iha ihb =>
    intro α s k ks hk
    simp only [evK]
    unfold condK
    split
    · exact Lim.cond (iha s k ks hk) (ihb s k ks hk)
    · exact Lim.const _
  | block id c ih =>
    intro α s k ks hk
    simp only [evK]
    refine ih s _ (fun m x s' => match x with | .exit j => cond (Nat.beq j id) (ks m .norm s') (ks m (.exit j) s') | x => ks m x s') fun x s' => ?_
    cases x with
    | exit j => exact Lim.cond (hk _ _) (hk _ _)
    | _ => exact hk _ _
  | scope c ih =>
    intro α s k ks hk
    simp only [evK]
    refine ih s _ (fun m x s' => match x with | .goto _ => none | x => ks m x s') fun x s' => ?_
    cases x with
    | goto l => exact Lim.const _
    | _ => exact hk _ _
  | loop c ih =>
    intro α s k ks hk
    simp only [evK]
    split
    · exact Lim.const _
    · rename_i rid _
      refine Lim.bind (hL _ _ (fun s => ih s (fun x s' => some (x, s')) (fun _ x s' => some (x, s')) fun x s' => Lim.const _) s) fun r => ?_
      refine xSel_cont (fun j => ?_) (Lim.cond ?_ (Lim.const _))
      · generalize dedup (exitsC c) = L
        induction L with
        | nil => exact Lim.const _
        | cons j0 L ihL =>
          simp only [List.map_cons, look]
          refine Lim.cond ?_ ihL
          rw [restS_bind]
          refine Lim.congr ((Lim.const _).bind fun s' => hk _ _) fun m => ?_
          rw [restS_bind]
      · rw [restS_bind]
        refine Lim.congr ((Lim.const _).bind fun s' => hk _ _) fun m => ?_
        rw [restS_bind]
  | rangeFunc => intro α s k ks hk; exact Lim.const _
  | refuse => intro α s k ks hk; exact Lim.const _

theorem evF_cont {E : Env} {loop : LoopF} (hl : CLim call calls) (hL : LLim loop loops) {q : Bool} {f : FuncId} {args : List CV} {h : Hp} : Lim (evF E call loop q f args h) fun m => evF E (calls m) (loops m) q f args h := by
  unfold evF
  split
  · split
    · exact evK_cont hl hL _ _ _ _ fun x s' => Lim.const _
    · exact Lim.const _
  · exact Lim.const _
/-- What the body answers, the call answers. -/
theorem callU_of {E : Env} {q : Bool} {f : FuncId} {args : List CV} {h : Hp} {r : RV × Hp} (hb : evF E (callU E) loopU q f args h = some r) : callU E q f args h = some r := by
  obtain ⟨n, hn⟩ := evF_cont (call := callU E) (calls := ev E) (loop := loopU) (loops := loopN) (fun q f a h v hv => callU_some hv) llim_U _ hb
  refine callU_mk (n := n + 1) fun m hm => ?_
  cases m with
  | zero => omega
  | succ m => exact hn m (by omega)
end Go.Abs
namespace Go.Abs

theorem llim_const : LLim loopU fun _ => loopU := by
  intro F Fs hF s v hv
  obtain ⟨n, hn⟩ := loopU_some hv
  obtain ⟨k, hk⟩ := llim_U F Fs hF s v hv
  refine ⟨max k n, fun m hm => ?_⟩
  exact loopU_mk (hk m (Nat.le_trans (Nat.le_max_left _ _) hm))
theorem llim_N (n : Nat) : LLim (loopN n) fun _ => loopN (n + 1) := by
  intro F Fs hF s v hv
  have key : ∀ n s, loopN n F s = some v → ∃ k, ∀ m, k ≤ m → loopN n (Fs m) s = some v := by
    intro n
    induction n with
    | zero => intro s h; cases h
    | succ n ih =>
      intro s h
      simp only [loopN, Option.bind_eq_some_iff] at h
      obtain ⟨⟨x, s1⟩, h1, h2⟩ := h
      obtain ⟨k1, hk1⟩ := hF s _ h1
      cases x with
      | norm =>
        obtain ⟨k2, hk2⟩ := ih s1 h2
        refine ⟨max k1 k2, fun m hm => ?_⟩
        simp only [loopN, hk1 m (Nat.le_trans (Nat.le_max_left _ _) hm), Option.bind_some]
        exact hk2 m (Nat.le_trans (Nat.le_max_right _ _) hm)
      | exit id => exact ⟨k1, fun m hm => by simp only [loopN, hk1 m hm, Option.bind_some]; exact h2⟩
      | goto id => exact ⟨k1, fun m hm => by simp only [loopN, hk1 m hm, Option.bind_some]; exact h2⟩
      | ret => exact ⟨k1, fun m hm => by simp only [loopN, hk1 m hm, Option.bind_some]; exact h2⟩
  obtain ⟨k, hk⟩ := key n s hv
  exact ⟨k, fun m hm => loopN_le (hk m hm) (Nat.le_succ _)⟩
theorem ev_succ {E : Env} : ∀ {n : Nat} {q : Bool} {f : FuncId} {args : List CV} {h : Hp} {r : RV × Hp}, ev E n q f args h = some r → ev E (n + 1) q f args h = some r := by
  intro n
  induction n with
  | zero => intro q f args h r hr; cases hr
  | succ n ih =>
    intro q f args h r hr
    have := evF_cont (E := E) (call := ev E n) (calls := fun _ => ev E (n + 1)) (loop := loopN n) (loops := fun _ => loopN (n + 1)) (fun q f a h v hv => ⟨0, fun _ _ => ih hv⟩) (llim_N n) (q := q) (f := f) (args := args) (h := h) r hr
    obtain ⟨k, hk⟩ := this
    exact hk k (Nat.le_refl _)
theorem ev_le {E : Env} {n m : Nat} {q : Bool} {f : FuncId} {args : List CV} {h : Hp} {r : RV × Hp} (hr : ev E n q f args h = some r) (hm : n ≤ m) : ev E m q f args h = some r := by
  induction hm with
  | refl => exact hr
  | step _ ih => exact ev_succ ih
theorem callU_ev {E : Env} {n : Nat} {q : Bool} {f : FuncId} {args : List CV} {h : Hp} {r : RV × Hp} (hr : ev E n q f args h = some r) : callU E q f args h = some r :=
  callU_mk fun m hm => ev_le hr hm
/-- Calls that answer what 'callU' answers, or nothing. -/
def CLe (E : Env) (c : CallF) : Prop := ∀ q f a h r, c q f a h = some r → callU E q f a h = some r
theorem cle_U (E : Env) : CLe E (callU E) := fun _ _ _ _ _ h => h
theorem cle_ev (E : Env) (n : Nat) : CLe E (ev E n) := fun _ _ _ _ _ h => callU_ev h
/-- Functions of the list by 'c', the others in full. -/
def hyb (E : Env) (n : Nat) (l : List Nat) (c : CallF) : CallF := fun q f args h => cond (has l f) (c q f args h) (ev E n q f args h)
theorem cle_hyb {E : Env} {n : Nat} {l : List Nat} {c : CallF} (hc : CLe E c) : CLe E (hyb E n l c) := by
  intro q f a h r hr
  unfold hyb at hr
  cases hb : has l f
  · rw [hb] at hr; exact callU_ev hr
  · rw [hb] at hr; exact hc _ _ _ _ _ hr
theorem callU_le {E : Env} {c : CallF} (hc : CLe E c) {q : Bool} {f : FuncId} {args : List CV} {h : Hp} {r : RV × Hp} (hb : evF E c loopU q f args h = some r) : callU E q f args h = some r := by
  refine callU_of ?_
  have := evF_cont (E := E) (call := c) (calls := fun _ => callU E) (loop := loopU) (loops := fun _ => loopU) (fun q f a h v hv => ⟨0, fun _ _ => hc _ _ _ _ _ hv⟩) llim_const (q := q) (f := f) (args := args) (h := h) r hb
  obtain ⟨k, hk⟩ := this
  exact hk k (Nat.le_refl _)
/-- The body of the loop that begins with region 'rid'. -/
noncomputable def LBg (E : Env) (call : CallF) (loop : LoopF) (q : Bool) (f rid : Nat) : St → Option (X × St) :=
  match E.P.funcs[f]? with
  | some fn => match fn.body with
    | some c => match loopAt rid c with
      | some b => fun s => evK ⟨E, f, fn.ntmps, q⟩ call loop b s fun x s' => some (x, s')
      | none => fun _ => none
    | none => fun _ => none
  | none => fun _ => none
def kLoop (r : X × St) : LoopF := fun _ _ => some r
def kCall (r : RV × Hp) : CallF := fun _ _ _ _ => some r
end Go.Abs
namespace Go.Abs
theorem LB_eq (E : Env) (q : Bool) (f rid : Nat) : LBg E (callU E) loopU q f rid = LB E q f rid := rfl
end Go.Abs
namespace Go.Abs

@[simp] theorem gdK_some' {α β : Type} (e : Bool) (v d : β) (k : β → Option α) : gdK e (some v) d k = k v := rfl
@[simp] theorem gdK_true {α β : Type} (r : Option β) (d : β) (k : β → Option α) : gdK true r d k = r.bind k := by cases r <;> rfl
theorem gdK_false {α β : Type} (r : Option β) (d : β) (k : β → Option α) : gdK false r d k = k (r.getD d) := by cases r <;> rfl
@[simp] theorem gdK_none {α β : Type} (e : Bool) (d : β) (k : β → Option α) : gdK e none d k = cond e none (k d) := rfl
@[simp] theorem int?_I (k : IntKind) (n : Int) : RV.int? k (.c (.a (.d (.int k n)))) = some n := by cases k <;> rfl
@[simp] theorem bool?_B (b : Bool) : RV.bool? (.c (.a (.d (.bool b)))) = some b := rfl
@[simp] theorem str?_S (s : List UInt8) : RV.str? (.c (.a (.d (.str s)))) = some s := rfl
@[simp] theorem rv?_r (v : RV) : SV.rv? (.r v) = some v := rfl
@[simp] theorem dem_a (v : AV) : RV.dem (.c (.a v)) = .c (.a v) := rfl
@[simp] theorem dem_ow (sz : Nat) (n : Bool) (l : List PV) : RV.dem (.c (.ow sz n l)) = .c (.a (.d (.sl sz n l))) := rfl
@[simp] theorem cdem_a (v : AV) : CV.dem (.a v) = .a v := rfl
@[simp] theorem cdem_ow (sz : Nat) (n : Bool) (l : List PV) : CV.dem (.ow sz n l) = .a (.d (.sl sz n l)) := rfl
@[simp] theorem cv?_c (x : CV) : RV.cv? (.c x) = some x := rfl
@[simp] theorem av?_a (v : AV) : RV.av? (.c (.a v)) = some v := rfl
@[simp] theorem sav?_a (v : AV) : SV.av? (.r (.c (.a v))) = some v := rfl
@[simp] theorem sav?_ow (sz : Nat) (n : Bool) (l : List PV) : SV.av? (.r (.c (.ow sz n l))) = some (.d (.sl sz n l)) := rfl
@[simp] theorem av?_ow (sz : Nat) (n : Bool) (l : List PV) : RV.av? (.c (.ow sz n l)) = some (.d (.sl sz n l)) := rfl

theorem limH_m {rg j : Nat} {h : Hp} (hj : j < rg) : (limH true rg h).m j = h.m j := by
  show cond (Nat.blt j rg) (h.m j) none = h.m j
  rw [show Nat.blt j rg = true from Nat.blt_eq ▸ hj]; rfl
@[simp] theorem hset_same {h : Hp} {i : Nat} {cs : List CV} : (hset h i cs).m i = some cs := by
  show cond (Nat.beq i i) (some cs) (h.m i) = some cs
  rw [Nat.beq_refl]; rfl
theorem hset_ne {h : Hp} {i j : Nat} {cs : List CV} (hj : j ≠ i) : (hset h i cs).m j = h.m j := by
  show cond (Nat.beq j i) (some cs) (h.m j) = h.m j
  rw [nbeq_ne hj]; rfl
@[simp] theorem hset_nx {h : Hp} {i : Nat} {cs : List CV} : (hset h i cs).nx = h.nx := rfl
@[simp] theorem hreg_m {h : Hp} {n : Nat} : (hreg h n).m = h.m := rfl
@[simp] theorem hreg_nx {h : Hp} {n : Nat} : (hreg h n).nx = h.nx + n := rfl

theorem cutOk_one {α : Type} {cs : List α} {off : Nat} {x : α} (hx : cs[off]? = some x) : cutOk cs off 1 = some [x] := by
  have hlt : off < cs.length := (List.getElem?_eq_some_iff.1 hx).1
  unfold cutOk cut
  rw [show Nat.ble (off + 1) cs.length = true from Nat.ble_eq ▸ hlt, List.drop_eq_getElem_cons hlt]
  have := (List.getElem?_eq_some_iff.1 hx).2
  simp [this]
theorem putOk_one {α : Type} {cs : List α} {off : Nat} (x : α) (hlt : off < cs.length) : putOk cs off [x] = some (cs.set off x) := by
  unfold putOk put
  rw [show Nat.ble (off + [x].length) cs.length = true from Nat.ble_eq ▸ hlt, List.set_eq_take_append_cons_drop, if_pos hlt]
  simp
theorem ld1 {h : Hp} {i off : Nat} {cs : List CV} {x : CV} (hi : h.m i = some cs) (hx : cs[off]? = some x) : ldV 1 false (.c (.a (.ptr i off))) h = some (.c x.dem) := by
  simp [ldV, hget, hi, cutOk_one hx, packV, demC, oneC]
theorem ldOwn1 {h : Hp} {i off : Nat} {cs : List CV} {x : CV} (hi : h.m i = some cs) (hx : cs[off]? = some x) : ldOwnV 1 false (.c (.a (.ptr i off))) h = some (.c x, hset h i (cs.set off x.dem)) := by
  have hlt : off < cs.length := (List.getElem?_eq_some_iff.1 hx).1
  simp [ldOwnV, hget, hi, cutOk_one hx, packV, demC, oneC, hput, putOk_one _ hlt]
theorem st1 {h : Hp} {i off : Nat} {cs : List CV} {v : AV} (hi : h.m i = some cs) (hlt : off < cs.length) (hv : v.cells = [v]) (hs : scalA v = true) : stV 1 (.c (.a (.ptr i off))) (.c (.a v)) h = some (undefR, hset h i (cs.set off (.a v))) := by
  simp [stV, unpackV, hv, hs, hput, hi, putOk_one _ hlt, Nat.beq]
theorem st1Ow {h : Hp} {i off : Nat} {cs : List CV} {sz : Nat} {n : Bool} {l : List PV} (hi : h.m i = some cs) (hlt : off < cs.length) : stV 1 (.c (.a (.ptr i off))) (.c (.ow sz n l)) h = some (undefR, hset h i (cs.set off (.ow sz n l))) := by
  simp [stV, unpackV, hput, hi, putOk_one _ hlt, Nat.beq]
/-- A load of one cell that never changes. -/
theorem ld1Bx {h : Hp} {p : PV} : ldV 1 false (.c (.a (.d (.bx [p])))) h = some (.c (.a (.d p))) := by
  simp [ldV, cutOk, cut, packV, oneC, Nat.ble]
end Go.Abs
namespace Go.Abs
theorem inb_nat {m n : Nat} (h : m < n) : inb (m : Int) n = true := by simp [inb]; omega
@[simp] theorem grd_true {α : Type} (x : α) : grd true x = some x := rfl
theorem grd_pos {α : Type} {b : Bool} (h : b = true) (x : α) : grd b x = some x := by rw [h]; rfl
end Go.Abs
namespace Go.Abs
/-- A call of one argument. -/
theorem bind1 {E : Env} {q : Bool} {f : FuncId} {x : AV} {h : Hp} {r : Option (RV × Hp)} {own : List Nat} (e : callU E q f [.a x] h = r) : Option.bind (cvsS [SV.r (RV.dem (.c (.a x)))]) (fun v => callU E q f (passCV own 0 v) h) = r := by
  have h1 : cvsS [SV.r (RV.dem (.c (.a x)))] = some [.a x] := rfl
  have h2 : passCV own 0 [.a x] = [.a x] := by unfold passCV passCV; cases has own 0 <;> rfl
  rw [h1, Option.bind_some, h2, e]
theorem bind2 {E : Env} {q : Bool} {f : FuncId} {x y : AV} {h : Hp} {r : Option (RV × Hp)} {own : List Nat} (e : callU E q f [.a x, .a y] h = r) : Option.bind (cvsS [SV.r (RV.dem (.c (.a x))), SV.r (RV.dem (.c (.a y)))]) (fun v => callU E q f (passCV own 0 v) h) = r := by
  have h1 : cvsS [SV.r (RV.dem (.c (.a x))), SV.r (RV.dem (.c (.a y)))] = some [.a x, .a y] := rfl
  have h2 : passCV own 0 [.a x, .a y] = [.a x, .a y] := by unfold passCV passCV passCV; cases has own 0 <;> cases has own (0 + 1) <;> rfl
  rw [h1, Option.bind_some, h2, e]
end Go.Abs
