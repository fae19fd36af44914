/- DiskLoses is true, whatever the texts, and how much is kept and torn. -/
import Derived.Test.YtmbgdghihghnjaaPlain
import Derived.Test.YtmbgdghihghnjaaLosesWalk
set_option linter.unusedVariables false
namespace Go.Proofs.Ytmbgdghihghnjaa
open Go.ChangeShapes Go.WideShapes Go.ChangeAt Go.RowKit Go.Abs
def losesT : List (Bool × List Ty) := [(false, [.sl false [.s]]), (false, [.i .i64]), (false, [.i .i64])]
theorem loses_law : ∀ ps, ArgsOk losesT ps → ∃ h', callU T10.E false 3 (ps.map fun p => .a (.d p)) h0 = some (rB true, h') := by
  intro ps h
  cases h with | cons q qs p ps ha h hs =>
  cases hs with | cons q2 qs2 p2 ps2 ha2 h2 hs =>
  cases hs with | cons q3 qs3 p3 ps3 ha3 h3 hs =>
  cases hs
  obtain ⟨nl, ts, rfl⟩ := sc_slice ha h
  obtain ⟨a, rfl⟩ := sc_int ha2 h2
  obtain ⟨b, rfl⟩ := sc_int ha3 h3
  exact T10.law3 nl ts a b

set_option maxRecDepth 100000 in
theorem loses_lifted (os : Os) (started : os.Started) (H : Type) (enc : TypeId × Value → H) :
    ReturnsInHanded {} Try.checked os 3 .any (Rows.diskLosesSpec.pre6 enc Try.prog Try.f3 Rows.diskLosesRow.domain false) (Rows.diskLosesSpec.post enc Try.prog Try.f3 false true false false) := by
  refine returnsInHanded_of_change (C := Try.checked) Try.own started (by kernel_rfl) Try.func3
    (ChangeSpec.witness6 (enc := enc) (C := Try.checked) false ⟨#[], #[.slice none 0 0, .int .i64 0, .int .i64 0], []⟩ 8 (by kernel_rfl) (by kernel_rfl) (by kernel_rfl) (by kernel_rfl)) ?_
  intro W base args ds gs before hval hW hcnd _
  exact law_post (E := T10.E) (callOk_U Try.envOk) (n := 4) (qs := losesT) Try.laidOut (by kernel_rfl) (by kernel_rfl) rfl (by kernel_rfl) rfl (fun ds h => by
    match ds, h with
    | [d1, d2, d3], _ => rfl) loses_law hval hW

theorem diskLoses_holds : Rows.DiskLosesSaid :=
  OpenClaim.holds_of_wide 3 Try.f3 rfl rfl rfl rfl rfl rfl rfl ⟨rfl, rfl, rfl, rfl, rfl⟩ rfl rfl rfl rfl rfl (by kernel_rfl) Try.func3 (by kernel_rfl)
    (of_decide_eq_true (by kernel_rfl)) (by unfold Func.isWrapper; first | (rw [if_pos (by decide +kernel)]; kernel_rfl) | (rw [if_neg (by decide +kernel)]; exact ⟨rfl, rfl⟩))
    (fun os started H enc _ => loses_lifted os started H enc)
end Go.Proofs.Ytmbgdghihghnjaa
