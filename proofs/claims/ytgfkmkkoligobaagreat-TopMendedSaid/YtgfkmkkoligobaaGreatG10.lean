/- The texts S20, S21, S22, S23, S24, S25, S26, S27, S28, S29, S30, S31, M4, M5, M6, M7, S32, joined. -/
import Derived.Test.YtgfkmkkoligobaaGreatG9
set_option linter.all false
namespace Go.Proofs
open Go.Fs
set_option maxHeartbeats 4000000
set_option maxRecDepth 8000
def laterB (s:Sh) (c b:Int) (i:Nat):Bool:=decide (c ≤ chS s i) && decide (b < spS s i)
def laterS (s:Sh) (c b:Int):Int:=cnt s.stacks.length (laterB s c b)
structure Memo (s:Sh) (ks:List (List Int)) (vs:List Int):Prop where
 len:vs.length = ks.length
 ok:∀ i,i < ks.length → ∃ c b,ks.getD i [] = [c,b] ∧ vs.getD i 0 = laterS s c b
theorem zh3 (k:Nat) (ks:List (List Int)) (vs:List Int):zcK k (.map ks (vs.map (AV.int .i64))) = True:=by
 simp only [zj3,eq_iff_iff,iff_true]
 intro c hc
 obtain ⟨x,_,rfl⟩:=czx.1 hc
 trivial
section
variable {mem:List AObj} {a m:Nat}
end
def P39:zay:=P38
theorem P39_app (g:FuncId):P39 g = (P38) g:=rfl
theorem P39_ok:zam Tryz.prog P39:=P38_ok
attribute [go_sem] P39_app
theorem zkb (d:Option Nat):zaw P39 d = none:=zo8 d
attribute [go_sem] zkb
structure SpsOk (p:List Sp):Prop where
 ne:p ≠ []
 len:p.length ≤ 4096
 ok:∀ x ∈ p,spOk x = true
theorem SpsOk.step {p:List Sp} (h:SpsOk p) (c:Int):0 ≤ (zpR p c).before ∧ (zpR p c).before ≤ 18:=by
 have:=h.ok _ (zkq p c h.ne)
 unfold spOk at this
 simp only [czl,decide_eq_true_eq] at this
 exact this.2
section
variable {mem:List AObj} {a m:Nat}
end
def P40:zay:=zjV 42 P39
theorem P40_app (g:FuncId):P40 g = if g = 42 then none else P39 g:=rfl
theorem P40_flag (d:Option Nat):zaw P40 d = none:=(znp (by decide) d).trans (zkb d)
attribute [go_sem] P40_app P40_flag
def P41:zay:=P39
theorem P41_app (g:FuncId):P41 g = (P39) g:=rfl
theorem P41_ok:zam Tryz.prog P41:=P39_ok
attribute [go_sem] P41_app
theorem zo7 (d:Option Nat):zaw P41 d = none:=zkb d
attribute [go_sem] zo7
theorem zkv (l:List Int):(l.map (AV.int .i64)).map AV.soft = l.map (AV.int .i64):=by rw [List.map_map]; rfl
def P42:zay:=P41
theorem P42_app (g:FuncId):P42 g = (P41) g:=rfl
theorem P42_ok:zam Tryz.prog P42:=P41_ok
attribute [go_sem] P42_app
theorem zo6 (d:Option Nat):zaw P42 d = none:=zo7 d
attribute [go_sem] zo6
theorem to_call (r:Rg):zaH Tryz.prog 58 [Enc.enc r] (· = Enc.enc r):=by
 simp only [zd3]
 refine cpz P42_ok Tryz.func58 zaA ?_
 rw [Tryz.ntmps58]
 simp only [Tryz.f58,zaj,zao]
 simp (maxSteps:=4000000) only [go_sem,AV.one,zae,zab,zac,zan,zaq,zaa,czb,cza,↓reduceIte,zaf,onz]
def zpM (s:Sh):Bool:=decide (s.stacks.length ≤ 10)
theorem Thin_call (s:Sh):zaH Tryz.prog 6 [Enc.enc s] (· = Enc.enc (zpM s)):=by
 unfold zpM
 simp only [zd3]
 refine cpz P42_ok Tryz.func6 zaA ?_
 rw [Tryz.ntmps6]
 simp only [Tryz.f6,zaj,zao]
 simp (maxSteps:=4000000) only [go_sem,AV.one,zae,zab,zac,zan,zaq,zaa,czb,cza,↓reduceIte,zaf,onz]
 congr 1
 simp only [decide_eq_decide]
 omega
def P43 (g:FuncId):=(zat 58 (zbN (fun _:Rg => True) (fun r => r)) (zat 6 (zbN (fun _:Sh => True) zpM) (P42)):zay) g
theorem P43_ok:zam Tryz.prog P43:=zah (zaN fun r _ => to_call r) (zah (zaN fun s _ => Thin_call s) (P42_ok))
theorem zo5 (d:Option Nat):zaw P43 d = none:=(zag (by decide) d).trans ((zag (by decide) d).trans (zo6 d))
attribute [go_sem] P43 zo5
theorem zlL (s:Sh) (h:s.stacks.length ≤ 4096):zaH Tryz.prog 40 [Enc.enc s] (· = Enc.enc s):=by
 simp only [zd3]
 refine cpz P43_ok Tryz.func40 zaA ?_
 rw [Tryz.ntmps40]
 simp only [Tryz.f40,zaj,zao]
 simp (maxSteps:=4000000) only [go_sem,AV.one,zae,zab,zac,zan,zaq,zaa,czb,cza,↓reduceIte,zaf,onz]
 all_goals (repeat' first | (with_reducible first | rfl | apply And.intro | assumption) | ((with_reducible show zad _ _ = true); rfl)) <;> try first | omega | (simp only [InR]; omega)
 refine zbg (s.stacks.length) [.cell 2 0 3] [1,2,3] (fun i => [(4,.int .i64 i)]) (fun i m => (m.set 2 (.cells [.sl ((s.stacks.take i).map EncE.cs) (.own 3),.int .i64 s.hands,.int .i64 s.rain.lo,.int .i64 s.rain.hi])).set 3 (.tok i 3)) (fun _ => True) ?_ ?_ ?_ ?_
 ·trivial
 ·simp [AV.bare,zal,zaF,zaI,zak,zas,zai,tokz1,lk,zaa,zcs,-List.map_take]
 ·intro i hi _
  have hi':=czH.2 hi
  have htk:(s.stacks.take i).length = i:=by simp; omega
  have hts:=zaM hi
  obtain ⟨S0,hS0⟩:∃ S0,s.stacks.take i = S0:=⟨_,rfl⟩
  obtain ⟨S1,hS1⟩:∃ S1,s.stacks.take (i + 1) = S1:=⟨_,rfl⟩
  rw [hS0] at htk hts
  rw [hS1] at hts
  rw [hS0]
  simp (maxSteps:=4000000) only [go_sem,AV.one,zae,zab,zac,zan,zaq,zaa,czb,cza,↓reduceIte,zaf,onz,zar hi,hi',htk]
  all_goals (repeat' first | (with_reducible first | rfl | apply And.intro | assumption) | ((with_reducible show zad _ _ = true); rfl)) <;> try first | omega | (simp only [InR]; omega)
  refine nxt hi trivial ?_
  have e:S0.map EncE.cs ++ [[AV.int .i64 (at_ s.stacks i).chairs,AV.int .i64 (at_ s.stacks i).leak.lo,AV.int .i64 (at_ s.stacks i).leak.hi]] = S1.map EncE.cs:=by rw [hts,List.map_append]; rfl
  simp only [e]
  simp [AV.bare,zal,zaF,zaI,zak,zas,zai,tokz1,lk,zaa,zcs,hS1,-List.map_map,-List.map_take]
 ·intro _
  simp (maxSteps:=4000000) only [go_sem,AV.one,zae,zab,zac,zan,zaq,zaa,czb,cza,↓reduceIte,zaf,onz,czA,czm]
  all_goals exact auz
instance:DecidableEq Rg:=fun a b => if h:a.lo = b.lo ∧ a.hi = b.hi then .isTrue (by cases a; cases b; obtain ⟨h1,h2⟩:=h; simp only at h1 h2; rw [h1,h2]) else .isFalse fun e => h (by rw [e]; exact ⟨rfl,rfl⟩)
instance:DecidableEq Sk:=fun a b => if h:a.chairs = b.chairs ∧ a.leak = b.leak then .isTrue (by cases a; cases b; obtain ⟨h1,h2⟩:=h; simp only at h1 h2; rw [h1,h2]) else .isFalse fun e => h (by rw [e]; exact ⟨rfl,rfl⟩)
instance:DecidableEq Sh:=fun a b => if h:a.stacks = b.stacks ∧ a.hands = b.hands ∧ a.rain = b.rain then .isTrue (by cases a; cases b; obtain ⟨h1,h2,h3⟩:=h; simp only at h1 h2 h3; rw [h1,h2,h3]) else .isFalse fun e => h (by rw [e]; exact ⟨rfl,rfl,rfl⟩)
instance:DecidableEq Sp:=fun a b => if h:a.chairs = b.chairs ∧ a.before = b.before then .isTrue (by cases a; cases b; obtain ⟨h1,h2⟩:=h; simp only at h1 h2; rw [h1,h2]) else .isFalse fun e => h (by rw [e]; exact ⟨rfl,rfl⟩)
instance {α β γ:Type} [DecidableEq α] [DecidableEq β] [DecidableEq γ]:DecidableEq (Tri α β γ):=fun a b => if h:a.a = b.a ∧ a.b = b.b ∧ a.c = b.c then .isTrue (by cases a; cases b; obtain ⟨h1,h2,h3⟩:=h; simp only at h1 h2 h3; rw [h1,h2,h3]) else .isFalse fun e => h (by rw [e]; exact ⟨rfl,rfl,rfl⟩)
def P44 (g:FuncId):=(zat 40 (zbN (fun s:Sh => s.stacks.length ≤ 4096) (fun s => s)) (P43):zay) g
theorem zgA:zam Tryz.prog P44:=zah (zaN zlL) (P43_ok)
theorem zka (d:Option Nat):zaw P44 d = none:=(zag (by decide) d).trans (zo5 d)
attribute [go_sem] P44 zka
def P45:zay:=P44
theorem P45_app (g:FuncId):P45 g = (P44) g:=rfl
attribute [go_sem] P45_app
theorem zo4 (d:Option Nat):zaw P45 d = none:=zka d
attribute [go_sem] zo4
def P46:zay:=P45
theorem P46_app (g:FuncId):P46 g = (P45) g:=rfl
attribute [go_sem] P46_app
theorem zo3 (d:Option Nat):zaw P46 d = none:=zo4 d
attribute [go_sem] zo3
def P4601:zay:=zif [17] P46
theorem P4601_app (g:FuncId) (h:¬ (g = 4000000000)):P4601 g = P46 g:=by unfold P4601 zif; rw [if_neg h]
theorem zq7 (d:Nat):zaw P4601 (some d) = if d ∈ ([17]:List Nat) then some d else none:=zbK _ _ d
attribute [go_sem] P4601_app zq7
def P47:zay:=P46
theorem P47_app (g:FuncId):P47 g = (P46) g:=rfl
attribute [go_sem] P47_app
theorem zo2 (d:Option Nat):zaw P47 d = none:=zo3 d
attribute [go_sem] zo2
def P48:zay:=P47
theorem P48_app (g:FuncId):P48 g = (P47) g:=rfl
attribute [go_sem] P48_app
theorem zo1 (d:Option Nat):zaw P48 d = none:=zo2 d
attribute [go_sem] zo1
def P49:zay:=P48
theorem P49_app (g:FuncId):P49 g = (P48) g:=rfl
attribute [go_sem] P49_app
theorem P49_flag (d:Option Nat):zaw P49 d = none:=zo1 d
attribute [go_sem] P49_flag
theorem zjc {α:Type} [Inhabited α] {l:List α} {i j:Nat} {v:α} (hj:j < l.length):at_ (l.set i v) j = if i = j then v else at_ l j:=by
 rw [zcW (by simpa using hj),List.getElem_set]
 split
 ·rfl
 ·rw [zcW hj]
theorem one_yld (a):(AV.yld a).one = true:=rfl
theorem one_arr (a b c d):(AV.arr a b c d).one = true:=rfl
theorem one_vec (a b c d e):(AV.vec a b c d e).one = true:=rfl
theorem one_vp (a b c d):(AV.vp a b c d).one = true:=rfl
attribute [go_sem] one_yld one_arr one_vec one_vp
theorem zav {P:Program} {Φ:zay} {a b c:Code} {Q:QA} {st:St}:vc P Φ (.seq (.seq a b) c) Q st = vc P Φ (.seq a (.seq b c)) Q st:=by
 simp only [vc]
 have:(zaO (vc P Φ b (zaO (vc P Φ c Q) Q)) (zaO (vc P Φ c Q) Q)) = zaO (vc P Φ b (zaO (vc P Φ c Q) Q)) Q:=by
  funext e st
  cases e <;> rfl
 rw [this]
end Go.Proofs
