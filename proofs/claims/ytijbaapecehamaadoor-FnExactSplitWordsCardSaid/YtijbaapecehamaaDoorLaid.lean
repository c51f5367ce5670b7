/-
  From what a row's condition lists to what the library's contracts ask: the table of powers of ten, the two errors of strconv. The condition: the listed variables read as the listed data.
-/
import Derived.Test.YtijbaapecehamaaDoorDecS
import Derived.Test.YtijbaapecehamaaDoorRows
import Derived.Lib.LaidU8
import Derived.LaidLaws
import Derived.MakeChecks
namespace Go.Proofs.YtijbaapecehamaaDoor
open Go.RowKit
set_option linter.unusedVariables false

/-- A table that is listed, wherever it stands on the list. -/
theorem tab_of_reads {P : Program} {w : World} {name : String} {k : IntKind} {zs : List Int} {g : Nat} {t e : TypeId} {n : Nat}
    (hg : P.globalNamed name = some g) (hty : (P.globals[g]?).map (·.type) = some t) (ht : P.underlying t = some (.array n e)) (he : P.underlying e = some (.int k)) (hce : P.cellsOf e = 1) (hct : P.cellsOf t = n)
    (h : Lib.VarReads P w name (Lib.tabData k zs)) : Lib.TabIs P w name k zs := by
  obtain ⟨g', t', cs, fuel, p, hg', ht', hvar, hd⟩ := h
  obtain rfl := Option.some.inj (hg.symm.trans hg')
  obtain rfl := Option.some.inj (hty.symm.trans ht')
  unfold Lib.TabIs
  rw [hvar, ← Lib.cells_of_tab ht he hce hct hd]
theorem powAt_of {l : List (String × DataW Unit)} {w : World} (h : laidMet Tryd.prog l w) (hm : ("internal/strconv.uint64pow10", (Rows.laid_internal_strconv_uint64pow10 : DataW Unit)) ∈ l) : PowAt w :=
  tab_of_reads (k := .u64) (zs := Lib.pow10Tab) gPow (by kernel_rfl) Tryd.underlying120 Tryd.underlying95 (by kernel_rfl) (by kernel_rfl) (Lib.laidMet.reads h hm)
/-- A sentinel error that is listed: its variable holds an interface value. -/
theorem iface_of_reads {P : Program} {w : World} {name nm : String} {d : DataW Unit} {g : Nat} {t : TypeId} {ms : Array (String × TypeId)}
    (hg : P.globalNamed name = some g) (hty : (P.globals[g]?).map (·.type) = some t) (ht : P.underlying t = some (.interface ms))
    (h : Lib.VarReads P w name (.iface nm d)) : ∃ (tp : TypeId) (p : Value), w.var? P name = some #[.iface tp p] := by
  obtain ⟨g', t', cs, fuel, p, hg', ht', hvar, hd⟩ := h
  obtain rfl := Option.some.inj (hg.symm.trans hg')
  obtain rfl := Option.some.inj (hty.symm.trans ht')
  obtain ⟨_, u, v, hcs, _⟩ := iface_of_trod ht hd
  refine ⟨u, v, ?_⟩
  rw [hvar]
  obtain ⟨l⟩ := cs
  simp only at hcs
  rw [hcs]
end Go.Proofs.YtijbaapecehamaaDoor
