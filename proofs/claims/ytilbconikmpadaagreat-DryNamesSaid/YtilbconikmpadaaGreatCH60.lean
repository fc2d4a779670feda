/- The yard of the examples, as one that may be changed. -/
import Derived.Test.YtilbconikmpadaaGreatG23
set_option linter.all false
namespace Go.Proofs
open Go.Fs
set_option maxHeartbeats 4000000
set_option maxRecDepth 8000
def P161:zaJ:=zuY [7,19] P157
theorem P161_app (g:FuncId) (h:¬ (g = 4000000000)):P161 g = P157 g:=by unfold P161 zuY; rw [if_neg h]
theorem P161_ok:zaz Tryz.prog P161:=zls zmj
theorem P161_flag (d:Nat):zaF P161 (some d) = if d ∈ ([7,19]:List Nat) then some d else none:=zfx _ _ d
attribute [go_sem] P161_app P161_flag
def ThreeR (k:Nat) (mem:List AObj) (r:AV) (m:List AObj):Prop :=
 (∃ o0 o2,r = .agg [.int .i64 3,.sl [[.int .i64 2,.int .i64 4],[.int .i64 5,.int .i64 6],[.int .i64 8,.int .i64 9],[.int .i64 4,.int .i64 5]] .full,.int .i64 4,.sl [[.int .i64 5],[.int .i64 3],[.int .i64 8]] .full,.sl [] .full,.int .i64 1,.vec (mem.length + 3) 1 0 3 3,.sl [] .full,.vec (mem.length + 1) 1 0 k 2] ∧
  m = mem ++ [o0,.vec [[.int .i64 0,.int .i64 1],[.int .i64 1,.int .i64 1]] 2 1,o2,.vec [[.int .i64 0,.int .i64 1,.int .i64 2],[.int .i64 1,.int .i64 1,.int .i64 2],[.int .i64 2,.int .i64 2,.int .i64 1]] 3 1]) ∧
 ∀ o ∈ m,zb6 m.length o
theorem zgV (k:Nat) (hk:k ≤ 2) {mem:List AObj} (hm:∀ o ∈ mem,zb6 mem.length o):zeK Tryz.prog 49 [.int .i64 k] mem (ThreeR k mem):=by
 unfold ThreeR
 obtain ⟨n0,hn0⟩:∃ n0,mem.length = n0:=⟨_,rfl⟩
 rw [hn0] at hm
 have g0:∀ r,zaa (mem ++ r) n0 = zaa r 0:=fun r => by rw [← hn0]; exact zaK _ _ 0
 have gk:∀ r k,zaa (mem ++ r) (n0 + k) = zaa r k:=fun r k => by rw [← hn0]; exact zaK _ _ k
 have s0:∀ r o,(mem ++ r).set n0 o = mem ++ r.set 0 o:=fun r o => by rw [← hn0]; exact zbN _ _ 0 _
 have sk:∀ r k o,(mem ++ r).set (n0 + k) o = mem ++ r.set k o:=fun r k o => by rw [← hn0]; exact zbN _ _ k _
 have hk':(0:Int) ≤ (k:Int) ∧ (k:Int) ≤ 2:=by omega
 rw [hn0]
 refine zbU (Φ:=P161) Tryz.func49 rfl (by rfl) (by rw [Tryz.ntmps49]; simp) zaB P161_ok ?_
 rw [Tryz.ntmps49]
 simp only [Tryz.f49,zai,zam]
 iterate 3 (
  refine zaC fun Q1 h1 => ?_
  simp (maxSteps:=4000000) only [go_sem,AV.one,zae,zac,zad,zan,zaq,czb,cza,↓reduceIte,zay,zab,onz,g0,gk,s0,sk,hn0,czd,czc]
  all_goals (repeat' first | (with_reducible first | rfl | apply And.intro | assumption) | ((with_reducible show zaj _ _ = true); rfl)) <;> try first | omega | (simp only [InR]; omega)
  rw [h1]; clear h1 Q1; simp only [zaW,zaA])
 simp (maxSteps:=4000000) only [go_sem,AV.one,zae,zac,zad,zan,zaq,czb,cza,↓reduceIte,zay,zab,onz,g0,gk,s0,sk,hn0,czd,czc,Int.sub_zero,czF]
 all_goals (repeat' first | (with_reducible first | rfl | apply And.intro | assumption) | ((with_reducible show zaj _ _ = true); rfl)) <;> try first | omega | (simp only [InR]; omega)
 have htk:∀ a b c d:AObj,List.take (n0 + 4) (mem ++ [a,b,c,d]) = mem ++ [a,b,c,d]:=fun a b c d => cze (by simp [hn0])
 refine ⟨n0 + 4,by omega,by omega,?_,?_,?_⟩
 ·rw [htk]
  refine ⟨⟨_,_,(by first | exact rfl | exact ⟨rfl,rfl⟩)⟩,?_⟩
  rw [czc,hn0]
  exact zce hm (by omega) (by simp [AV.bare,zal,zaN,zaR,zak,zar,zaf,tokz1,lk,zaa,za3])
 ·simp [AV.bare,zal,zaN,zaR,zak,zar,zaf,tokz1,lk,zaa,za3]
 ·rw [htk]
  exact zce hm (by omega) (by simp [AV.bare,zal,zaN,zaR,zak,zar,zaf,tokz1,lk,zaa,za3])
end Go.Proofs
