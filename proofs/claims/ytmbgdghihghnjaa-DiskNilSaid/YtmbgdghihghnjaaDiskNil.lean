/- DiskNil is true, whatever the act: a nil disk is down. -/
import Derived.Test.YtmbgdghihghnjaaAbsF
import Derived.Test.YtmbgdghihghnjaaHints
import Derived.Test.YtmbgdghihghnjaaRows
set_option linter.unusedVariables false
namespace Go.Proofs.Ytmbgdghihghnjaa
open Go.ChangeShapes Go.WideShapes Go.ChangeAt Go.RowKit Go.Abs

theorem Try.own : ownKnob Try.prog.godebug = none := by kernel_rfl
theorem Try.laidOut : laidOutB Try.prog = true := by kernel_rfl
theorem Try.plainB : (Try.prog.funcs.all fun fn => !(fn.name == "runtime.NumGoroutine")) = true := by kernel_rfl
theorem Try.envOk : EnvOk T10.E where
  order := by
    show Try.prog.follows .mixedOrders = true
    kernel_rfl
  plain := by
    intro f fn h
    have h1 := Array.all_eq_true_iff_forall_mem.1 Try.plainB fn (Array.mem_of_getElem? h)
    simpa using h1

theorem nil_true (a b c d e f : Int) (s : List UInt8) : ((ev T10.E 12 false 8 [.a (.d (.agg [.int .i64 a, .int .i64 b, .int .i64 c, .str s, .int .i64 d, .int .i64 e, .int .i64 f]))] h0).map (·.1)) = some (rB true) := by kernel_rfl
def actT : List (Bool × List Ty) := [(true, [.i .i64, .i .i64, .i .i64, .s, .i .i64, .i .i64, .i .i64])]
theorem nil_law : ∀ ps, ArgsOk actT ps → ∃ h', ev T10.E 12 false 8 (ps.map fun p => .a (.d p)) h0 = some (rB true, h') := by
  intro ps h
  have key : ∀ {r : Option (RV × Hp)}, r.map (·.1) = some (rB true) → ∃ h', r = some (rB true, h') := by
    intro r h
    cases r with
    | none => cases h
    | some r => obtain ⟨x, h'⟩ := r; cases h; exact ⟨h', rfl⟩
  cases h with
  | cons q qs p ps ha h hs =>
  cases hs
  cases p with
  | agg cs =>
    rw [show PV.cells (.agg cs) = cs from rfl] at h
    cases h with | cons _ _ _ _ h1 h =>
    cases h1
    cases h with | cons _ _ _ _ h1 h =>
    cases h1
    cases h with | cons _ _ _ _ h1 h =>
    cases h1
    cases h with | cons _ _ _ _ h1 h =>
    cases h1
    cases h with | cons _ _ _ _ h1 h =>
    cases h1
    cases h with | cons _ _ _ _ h1 h =>
    cases h1
    cases h with | cons _ _ _ _ h1 h =>
    cases h1
    cases h
    exact key (nil_true _ _ _ _ _ _ _)
  | _ => cases ha

set_option maxRecDepth 100000 in
theorem nil_lifted (os : Os) (started : os.Started) (H : Type) (enc : TypeId × Value → H) :
    ReturnsInHanded {} Try.checked os 8 .any (Rows.diskNilSpec.pre6 enc Try.prog Try.f8 Rows.diskNilRow.domain false) (Rows.diskNilSpec.post enc Try.prog Try.f8 false true false false) := by
  refine returnsInHanded_of_change (C := Try.checked) Try.own started (by kernel_rfl) Try.func8
    (ChangeSpec.witness6 (enc := enc) (C := Try.checked) false ⟨#[], #[.agg #[.int .i64 0, .int .i64 0, .int .i64 0, .string ⟨#[]⟩, .int .i64 0, .int .i64 0, .int .i64 0]], []⟩ 8 (by kernel_rfl) (by kernel_rfl) (by kernel_rfl) (by kernel_rfl)) ?_
  intro W base args ds gs before hval hW hcnd _
  exact law_post (E := T10.E) (callOk_ev Try.envOk 12) (n := 4) (qs := actT) Try.laidOut (by kernel_rfl) (by kernel_rfl) rfl (by kernel_rfl) rfl (fun ds h => by
    match ds, h with
    | [d], _ => rfl) nil_law hval hW

theorem diskNil_holds : Rows.DiskNilSaid :=
  OpenClaim.holds_of_wide 8 Try.f8 rfl rfl rfl rfl rfl rfl rfl ⟨rfl, rfl, rfl, rfl, rfl⟩ rfl rfl rfl rfl rfl (by kernel_rfl) Try.func8 (by kernel_rfl)
    (of_decide_eq_true (by kernel_rfl)) (by unfold Func.isWrapper; first | (rw [if_pos (by decide +kernel)]; kernel_rfl) | (rw [if_neg (by decide +kernel)]; exact ⟨rfl, rfl⟩))
    (fun os started H enc _ => nil_lifted os started H enc)
end Go.Proofs.Ytmbgdghihghnjaa
