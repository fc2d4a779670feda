/- How a mark as an argument is read. -/
import Derived.Test.YtadjbgghbjacbaaG13
set_option linter.all false
namespace Go.Proofs
open Go.Fs
set_option linter.unusedVariables false
set_option maxRecDepth 100000

theorem rdV_mk : RdV Try.prog 71 Mk MkIn := fun enc w base v d ps hv ⟨fuel, h⟩ hw => by
  obtain ⟨cs, rfl, hsz, hrow⟩ := okWide_row Try.underlying71 hv
  have hsz : cs.size = 4 := hsz.trans (by kernel_rfl)
  obtain ⟨y, h1, h2, h3⟩ := rdE_mk.rd _ _ _ _ _ _ _ _ h
  refine ⟨y, h1, .agg _ _ hsz fun i hi => ?_⟩
  have := h3 i hi
  simpa [Value.cells, cs_mk] using this
end Go.Proofs
