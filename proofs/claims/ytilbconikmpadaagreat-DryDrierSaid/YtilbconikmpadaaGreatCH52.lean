/- Plain: yards with some hires; better orders. -/
import Derived.Test.YtilbconikmpadaaGreatG22
set_option linter.all false
namespace Go.Proofs
open Go.Fs
set_option maxHeartbeats 1000000
set_option maxRecDepth 8000
structure Lens (y:Yd):Prop where
 a:y.t.heights.length ≤ 4096
 b:y.t.levels.length ≤ 4096
 c:y.t.marks.length ≤ 4096
 d:y.chairs.length ≤ 4096
 e:y.order.length ≤ 4096
 f:y.hires.length ≤ 4096
theorem lens {y:Yd} (hv:VY y):Lens y:=by
 have h1:=hv.fok.len
 have h2:=hv.l0
 have h3:=hv.fok.lv
 have h4:=hv.fok.m5
 have h5:=hv.c5
 have h6:=zgc hv.ord
 have h7:=hv.r5
 exact ⟨by omega,by omega,by omega,by omega,by omega,by omega⟩
end Go.Proofs
