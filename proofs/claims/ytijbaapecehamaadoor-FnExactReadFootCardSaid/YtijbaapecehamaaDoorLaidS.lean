/-
  The frame of a row that lists variables, the world's shape kept; the library's MaxLen holds some number.
-/
import Derived.Test.YtijbaapecehamaaDoorReadN
import Derived.Test.YtijbaapecehamaaDoorOpen
import Derived.Handed
import Derived.Shelf.Vars
import Derived.Lay
import Derived.ProofKit
import Derived.OpenShut
namespace Go.Proofs.YtijbaapecehamaaDoor
open Go.RowKit
/-- A row whose walk wants the world's shape: the walk is given the whole condition as it stands at the call, and the shape beside it. -/
theorem handed_shaped {H : Type} {enc : TypeId × Value → H} {C : Checked} {os : Os} {f : FuncId} {fn : Func} {s : ChangeSpec} {apart fresh handsOn again : Bool} {Cond : World → Array Value → Prop}
    (own : ownKnob C.prog.godebug = none) (started : os.Started) (noInit : C.prog.inits.idxOf? f = none) (hfn : C.prog.funcs[f]? = some fn)
    (some_ : ∃ (w : World) (tape : Tape) (i : Input), w.os = os ∧ (w.forCall tape i).Shaped C.prog ∧ i.vars = [] ∧ Input.okWide C.prog (w.forCall tape i) .any w.heap.size f i ∧ Cond (w.forCall tape i).memory i.args ∧
      Assume.holds {} C.prog (lone (Frame.enter C.prog f i.args .normal) [] (w.forCall tape i)))
    (each : ∀ (W : World) (base : Nat) (args : Array Value), W.ShapedOpen C.prog → (∀ (j : Nat) t v, fn.params[j]? = some t → args[j]? = some v → Value.okWide C.prog W .any base t v) → Cond W.memory args →
      Calls C.prog f args W fun e W' => ∃ v, e = .returned v ∧ s.post enc C.prog fn apart fresh handsOn again W args v W') :
    ReturnsInHanded {} C os f .any Cond (s.post enc C.prog fn apart fresh handsOn again) :=
  returnsInHanded_of_calls own started noInit some_ fun w tape i _ shape _ ok cond _ =>
    (each (w.forCall tape i) w.heap.size i.args shape (by obtain ⟨_, _, _, g, hg, _, _, _, _, fit⟩ := ok; cases hfn.symm.trans hg; exact fit) cond).mono (by rintro _ _ ⟨v, rfl, post⟩; exact ChangeSpec.post_blind post)
theorem maxLen_of {w : World} (h : w.ShapedOpen Tryd.prog) : ∃ m, w.cell? ⟨4, 0, none⟩ = some (.int .i64 m) :=
  cell_of_shapedOpen_int (t := 3) (zero := #[.int .i64 0]) h (of_decide_eq_true (by kernel_rfl)) (by kernel_rfl) rfl (by kernel_rfl) (by kernel_rfl) Tryd.underlying3
end Go.Proofs.YtijbaapecehamaaDoor
