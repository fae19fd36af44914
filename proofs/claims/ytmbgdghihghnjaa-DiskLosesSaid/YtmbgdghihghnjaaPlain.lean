/- The program is one of those that the abstract machine stands for; plain arguments. -/
import Derived.Test.YtmbgdghihghnjaaAbsF
import Derived.Test.YtmbgdghihghnjaaHints
import Derived.Test.YtmbgdghihghnjaaRows
set_option linter.unusedVariables false
namespace Go.Proofs.Ytmbgdghihghnjaa
open Go.ChangeShapes Go.WideShapes Go.ChangeAt Go.RowKit Go.Abs

theorem Try.own : ownKnob Try.prog.godebug = none := by kernel_rfl
theorem Try.laidOut : laidOutB Try.prog = true := by kernel_rfl
theorem Try.plainB : (Try.prog.funcs.all fun fn => !(fn.name == "runtime.NumGoroutine")) = true := by kernel_rfl
theorem Try.envOk : EnvOk T10.E where
  order := by
    show Try.prog.follows .mixedOrders = true
    kernel_rfl
  plain := by
    intro f fn h
    have h1 := Array.all_eq_true_iff_forall_mem.1 Try.plainB fn (Array.mem_of_getElem? h)
    simpa using h1
theorem scal1 {t : Ty} {p : PV} (ha : p.isAgg = false) (h : TysOk [t] p.cells) : TyOk t p := by
  cases p with
  | agg _ => cases ha
  | _ => cases h with | cons _ _ _ _ h1 _ => exact h1
theorem sc_int {k : IntKind} {p : PV} (ha : p.isAgg = false) (h : TysOk [.i k] p.cells) : ∃ n, p = .int k n := by
  have h1 := scal1 ha h
  cases h1
  exact ⟨_, rfl⟩
theorem sc_str {p : PV} (ha : p.isAgg = false) (h : TysOk [.s] p.cells) : ∃ s, p = .str s := by
  have h1 := scal1 ha h
  cases h1
  exact ⟨_, rfl⟩
theorem sc_strs : ∀ {l : List PV}, (∀ x ∈ l, x.isAgg = false) → (∀ x ∈ l, TysOk [.s] x.cells) → ∃ ts : List (List UInt8), l = ts.map .str := by
  intro l
  induction l with
  | nil => intro _ _; exact ⟨[], rfl⟩
  | cons p l ih =>
    intro h1 h2
    obtain ⟨s, rfl⟩ := sc_str (h1 p (by simp)) (h2 p (by simp))
    obtain ⟨ts, rfl⟩ := ih (fun x hx => h1 x (by simp [hx])) (fun x hx => h2 x (by simp [hx]))
    exact ⟨s :: ts, rfl⟩
theorem sc_slice {p : PV} (ha : p.isAgg = false) (h : TysOk [.sl false [.s]] p.cells) : ∃ (nl : Bool) (ts : List (List UInt8)), p = .sl 1 nl (ts.map .str) := by
  have h1 := scal1 ha h
  cases h1 with
  | nsl => exact ⟨true, [], rfl⟩
  | sl _ _ l h2 ha2 hl =>
    obtain ⟨ts, rfl⟩ := sc_strs ha2 hl
    exact ⟨false, ts, rfl⟩
end Go.Proofs.Ytmbgdghihghnjaa
