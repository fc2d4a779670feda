/- The texts S21, S22, S23, S24, S25, LFirst, S26, R1, joined. -/
import Derived.Test.YtilbconikmpadaaGreatG10
import Derived.Test.YtilbconikmpadaaGreatG6
import Derived.Test.YtilbconikmpadaaGreatG7
import Derived.Test.YtilbconikmpadaaGreatRows
set_option linter.all false
namespace Go.Proofs
open Go.Fs
set_option maxHeartbeats 4000000
set_option maxRecDepth 8000
theorem one_nilf:(AV.nilf).one = true:=rfl
def onz:=And.intro @zcD (And.intro @zc2 (And.intro @zb4 (And.intro @zbB (And.intro @zbA (And.intro @zbi (And.intro @zcd (And.intro @ze9 @one_nilf)))))))
theorem zud {P:Program} {g:FuncId} {es:List (List AV)} {tk:Tk} {args:List AV} {mem:List AObj} {R:AV → List AObj → Prop} (h:zfS P g (.sl es .no :: args) mem R):zfS P g (.sl es tk :: args) mem R :=
 ⟨h.1,fun X κ ρ τ w vs h1 h2 h3 h4 => h.2 X κ ρ τ w vs h1 h2 (by simpa using h3) (fun i hi => by
  have:=h4 i (by simpa using hi)
  cases i with
  | zero =>
   have key:∀ (x:Value),Rep κ ρ (.sl es tk) x → Rep κ ρ (.sl es .no) x:=fun x hx => by
    cases hx with
    | slnil => exact .slnil _
    | sl _ _ b o cap sz val h1 h2 h3 h4 h5 => exact .sl es _ b o cap sz val h1 h2 h3 (fun e => by cases e) h5
   exact key _ this
  | succ i => exact this)⟩
def leaveQ (t:Tb):List Int × Int:=if zbq t = 0 then (leaveL t (allL t),0) else ([],zbq t)
def P46:zaJ:=P45
theorem P46_app (g:FuncId):P46 g = (P45) g:=rfl
theorem zsa:zaz Tryz.prog P46:=P45_ok
attribute [go_sem] P46_app
theorem zsb (d:Option Nat):zaF P46 d = none:=zsc d
attribute [go_sem] zsb
theorem zd8 (z:AV):∀ n,zb9 [z] n = List.replicate n z
 | 0 => rfl
 | n + 1 => by rw [zb9,zd8 z n]; rfl
theorem zm0 {α:Type} [Inhabited α] {xs:List α} (f:α → AV) (z:AV) {i:Nat} (hi:i < xs.length):zan ((xs.take i).map f ++ List.replicate (xs.length - i) z) i [f (at_ xs i)] = (xs.take (i + 1)).map f ++ List.replicate (xs.length - (i + 1)) z:=by
 have h1:((xs.take i).map f).length = i:=by simp; omega
 unfold zan
 rw [List.take_left' h1,List.drop_append,h1,zaV hi,List.map_append]
 simp only [cza,czy,Nat.zero_add,czb,List.map_nil]
 rw [czM (by rw [h1]; omega),List.nil_append,List.drop_replicate,show i + 1 - i = 1 by omega,show xs.length - i - 1 = xs.length - (i + 1) by omega]
theorem zle {α:Type} (f:α → AV):∀ xs:List α,zc4 1 xs.length (xs.map f) = xs.map fun x => [f x]
 | [] => rfl
 | x :: xs => by
  simp only [cza,czb,zc4,List.take_succ_cons,List.take_zero,List.drop_succ_cons,List.drop_zero]
  rw [zle f xs]
def zku (t:Tb) (l:List Int):List (List Int) × Int:=if zbq t = 0 then if zbg t l then (t.levels.map (zgP l),0) else ([],2) else ([],zbq t)
theorem Play_prog (t:Tb) (l:List Int) (h:t.heights.length ≤ 4096 ∧ l.length ≤ 4096):zaP Tryz.prog 58 [Enc.enc t,Enc.enc l] (· = Enc.enc (zku t l)):=by
 have h1:=h.1
 have h2:=h.2
 simp only [zab]
 unfold zku
 by_cases c:zbq t = 0
 case neg =>
  rw [if_neg c]
  simp only [zcp]
  refine cpz zsa Tryz.func58 zaB ?_
  rw [Tryz.ntmps58]
  simp only [Tryz.f58,zai,zam]
  simp (maxSteps:=4000000) only [go_sem,AV.one,zae,zac,zad,zan,zaq,zaa,czb,cza,↓reduceIte,za1,za9,zab,zaG,zay,onz,c]
  all_goals exact auz
 rw [if_pos c]
 have hv:=zcs c
 have hok:=hv.hok
 have hlast:=hv.last
 have hl0:=zja c
 have hl9:=hv.l9
 have hlv:=hv.lv
 cases c2:zbg t l
 ·rw [if_neg (by simp)]
  generalize hlp:zdf t l = r
  obtain ⟨s,b⟩:=r
  have hb:b = false:=by
   unfold zdf at hlp
   split at hlp
   ·rw [c2] at hlp; cases hlp; rfl
   ·cases hlp; rfl
  subst hb
  have hs:=s.h
  simp only [zcp]
  refine cpz zsa Tryz.func58 zaB ?_
  rw [Tryz.ntmps58]
  simp only [Tryz.f58,zai,zam]
  simp (maxSteps:=4000000) only [go_sem,zae,zac,zad,zan,zaq,zaa,czb,cza,↓reduceIte,za1,za9,zab,zaG,zay,onz,c,hlp,hs]
  all_goals exact auz
 ·rw [if_pos rfl]
  have hll:=zbY c2
  have hlp:zdf t l = (ze1 l,true):=by unfold zdf; rw [if_pos (by omega),c2]
  have hs:=(ze1 l).h
  have hw:∀ level,zko (ze1 l).l level (t.last + 1).toNat = zgP l level:=fun level => by
   rw [show (t.last + 1).toNat = l.length by omega]
   exact zo1 level (by have:=hok.len; omega)
  simp only [zcp]
  refine cpz zsa Tryz.func58 zaB ?_
  rw [Tryz.ntmps58]
  simp only [Tryz.f58,zai,zam]
  simp (maxSteps:=4000000) only [go_sem,zae,zac,zad,zan,zaq,zaa,czb,cza,↓reduceIte,za1,za9,zab,zaG,zay,onz,c,hlp,hs]
  all_goals (repeat' first | (with_reducible first | rfl | apply And.intro | assumption) | ((with_reducible show zaj _ _ = true); rfl)) <;> try first | omega | (simp only [InR]; omega)
  simp only [zd8]
  refine zbG (t.levels.length) [] [2,4,5,7,9,30,31] (fun i => [(32,.int .i64 i)]) (fun i m => m.set 2 (.cells ((t.levels.take i).map (fun lv => .sl ((zgP l lv).map EncE.cs) .no) ++ List.replicate (t.levels.length - i) (.sl [] .full)))) (fun _ => True) ?_ ?_ ?_ ?_
  ·trivial
  ·simp [AV.bare,zal,zaN,zaR,zak,zar,zaf,tokz1,lk,zaa,zcL,zbm]
  ·intro i hi _
   have hi':=czH.2 hi
   have hge:(t.levels.map EncE.cs).getD i [] = [AV.int IntKind.i64 (at_ t.levels i)]:=by rw [zax hi]; rfl
   have hov:=zm0 (fun lv => AV.sl ((zgP l lv).map EncE.cs) .no) (.sl [] .full) hi
   simp (maxSteps:=4000000) only [go_sem,AV.one,zae,zac,zad,zaq,zaa,czb,cza,↓reduceIte,za1,za9,zab,zaG,zay,onz,hi',hge,hw,hov]
   all_goals (repeat' first | (with_reducible first | rfl | apply And.intro | assumption) | ((with_reducible show zaj _ _ = true); rfl)) <;> try first | omega | (simp only [InR]; omega)
   ·simp; omega
   ·refine nxt hi trivial ?_
    simp [AV.bare,zal,zaN,zaR,zak,zar,zaf,tokz1,lk,zaa,zcL,zbm,-List.map_take]
    rintro c (⟨a,_,rfl⟩ | ⟨_,rfl⟩) <;> simp [AV.bare,zal,zaN,zaR,zak,zar,zaf,tokz1,lk,zaa,zcL]
  ·intro _
   have hsn:∀ M,((t.levels.map fun lv => AV.sl ((zgP l lv).map EncE.cs) .no).map (zbW (zb5 7 M) M)) = t.levels.map fun lv => AV.sl ((zgP l lv).map EncE.cs) .no:=fun M => by
    rw [List.map_map]
    exact List.map_congr_left fun lv _ => by simp only [Function.comp_apply]; simp (maxSteps:=4000000) only [go_sem,AV.one,zae,zac,zad,zan,zaq,zaa,czb,cza,↓reduceIte,za1,za9,zab,zaG,zay,onz]
   simp (maxSteps:=4000000) only [go_sem,AV.one,zae,zac,zad,zan,zaq,zaa,czb,cza,↓reduceIte,za1,za9,zab,zaG,zay,onz,czm,Nat.sub_self,List.append_nil,hsn,zle]
   simp [Function.comp_def]
   exact fun _ _ => rfl
def P47 (g:FuncId):=(zas 58 (zbF (fun (t:Tb) (l:List Int) => t.heights.length ≤ 4096 ∧ l.length ≤ 4096) zku) (P46):zaJ) g
theorem ziI:zaz Tryz.prog P47:=zah (zaM Play_prog) (zsa)
theorem zr9 (d:Option Nat):zaF P47 d = none:=(zag (by decide) d).trans (zsb d)
attribute [go_sem] P47 zr9
theorem list_call (l:List Int) (h:l.length ≤ 4096):zaP Tryz.prog 117 [Enc.enc l] (· = Enc.enc l):=by
 simp only [zcp]
 refine cpz ziI Tryz.func117 zaB ?_
 rw [Tryz.ntmps117]
 simp only [Tryz.f117,zai,zam]
 simp (maxSteps:=4000000) only [go_sem,AV.one,zae,zac,zad,zan,zaq,zaa,czb,cza,↓reduceIte,za1,za9,zab,zaG,zay,onz]
 all_goals (repeat' first | (with_reducible first | rfl | apply And.intro | assumption) | ((with_reducible show zaj _ _ = true); rfl)) <;> try first | omega | (simp only [InR]; omega)
 simp [zeF,AV.one]
theorem to_call (r:Rg):zaP Tryz.prog 118 [Enc.enc r] (· = Enc.enc r):=by
 simp only [zcp]
 refine cpz ziI Tryz.func118 zaB ?_
 rw [Tryz.ntmps118]
 simp only [Tryz.f118,zai,zam]
 simp (maxSteps:=4000000) only [go_sem,AV.one,zae,zac,zad,zan,zaq,zaa,czb,cza,↓reduceIte,za1,za9,zab,zaG,zay,onz]
def zo6 (t:Tb):Bool:=if 12 < t.heights.length ∨ 8 < t.levels.length ∨ 7 < t.marks.length then false else decide (zbq t ≠ 0) || decide (zc7 t.heights ≤ 150)
theorem Thin_call (t:Tb):zaP Tryz.prog 65 [Enc.enc t] (· = Enc.enc (zo6 t)):=by
 unfold zo6
 by_cases a1:12 < t.heights.length
 ·rw [if_pos (.inl a1)]
  simp only [zcp]
  refine cpz ziI Tryz.func65 zaB ?_
  rw [Tryz.ntmps65]
  simp only [Tryz.f65,zai,zam]
  simp (maxSteps:=4000000) only [go_sem,AV.one,zae,zac,zad,zan,zaq,zaa,czb,cza,↓reduceIte,za1,za9,zab,zaG,zay,onz,show ((12:Int) < t.heights.length) by omega]
 by_cases a2:8 < t.levels.length
 ·rw [if_pos (.inr (.inl a2))]
  simp only [zcp]
  refine cpz ziI Tryz.func65 zaB ?_
  rw [Tryz.ntmps65]
  simp only [Tryz.f65,zai,zam]
  simp (maxSteps:=4000000) only [go_sem,AV.one,zae,zac,zad,zan,zaq,zaa,czb,cza,↓reduceIte,za1,za9,zab,zaG,zay,onz,show ¬ ((12:Int) < t.heights.length) by omega,show ((8:Int) < t.levels.length) by omega]
 by_cases a3:7 < t.marks.length
 ·rw [if_pos (.inr (.inr a3))]
  simp only [zcp]
  refine cpz ziI Tryz.func65 zaB ?_
  rw [Tryz.ntmps65]
  simp only [Tryz.f65,zai,zam]
  simp (maxSteps:=4000000) only [go_sem,AV.one,zae,zac,zad,zan,zaq,zaa,czb,cza,↓reduceIte,za1,za9,zab,zaG,zay,onz,show ¬ ((12:Int) < t.heights.length) by omega,show ¬ ((8:Int) < t.levels.length) by omega,show ((7:Int) < t.marks.length) by omega]
 rw [if_neg (by omega)]
 by_cases c:zbq t = 0
 ·have hok:=(zcs c).hok
  simp only [zcp]
  refine cpz ziI Tryz.func65 zaB ?_
  rw [Tryz.ntmps65]
  simp only [Tryz.f65,zai,zam]
  simp (maxSteps:=4000000) only [go_sem,AV.one,zae,zac,zad,zan,zaq,zaa,czb,cza,↓reduceIte,za1,za9,zab,zaG,zay,onz,show ¬ ((12:Int) < t.heights.length) by omega,show ¬ ((8:Int) < t.levels.length) by omega,show ¬ ((7:Int) < t.marks.length) by omega,c]
  all_goals (repeat' first | (with_reducible first | rfl | apply And.intro | assumption) | ((with_reducible show zaj _ _ = true); rfl)) <;> try first | omega | (simp only [InR]; omega)
  simp [c]
 ·simp only [zcp]
  refine cpz ziI Tryz.func65 zaB ?_
  rw [Tryz.ntmps65]
  simp only [Tryz.f65,zai,zam]
  simp (maxSteps:=4000000) only [go_sem,AV.one,zae,zac,zad,zan,zaq,zaa,czb,cza,↓reduceIte,za1,za9,zab,zaG,zay,onz,show ¬ ((12:Int) < t.heights.length) by omega,show ¬ ((8:Int) < t.levels.length) by omega,show ¬ ((7:Int) < t.marks.length) by omega,c]
  all_goals (repeat' first | (with_reducible first | rfl | apply And.intro | assumption) | ((with_reducible show zaj _ _ = true); rfl)) <;> try first | omega | (simp only [InR]; omega)
  simp [c]
def P48 (g:FuncId):=(zas 117 (zcC (fun l:List Int => l.length ≤ 4096) (fun l => l)) (zas 118 (zcC (fun _:Rg => True) (fun r => r)) (zas 65 (zcC (fun _:Tb => True) zo6) (P47))):zaJ) g
theorem P48_ok:zaz Tryz.prog P48:=zah (zbj list_call) (zah (zbj fun r _ => to_call r) (zah (zbj fun t _ => Thin_call t) (ziI)))
theorem zr8 (d:Option Nat):zaF P48 d = none:=(zag (by decide) d).trans ((zag (by decide) d).trans ((zag (by decide) d).trans (zr9 d)))
attribute [go_sem] P48 zr8
theorem zrl {t:Tb} (h:zo6 t = true):t.heights.length ≤ 12 ∧ t.levels.length ≤ 8 ∧ t.marks.length ≤ 7:=by
 unfold zo6 at h
 split at h
 ·cases h
 ·omega
theorem zuI (t:Tb) (h:t.heights.length ≤ 4096 ∧ t.levels.length ≤ 4096 ∧ t.marks.length ≤ 4096):zaP Tryz.prog 59 [Enc.enc t] (· = Enc.enc t):=by
 obtain ⟨h1,h2,h3⟩:=h
 simp only [zcp]
 refine cpz P48_ok Tryz.func59 zaB ?_
 rw [Tryz.ntmps59]
 simp only [Tryz.f59,zai,zam]
 simp (maxSteps:=4000000) only [go_sem,zae,zac,zad,zan,zaq,zaa,czb,cza,↓reduceIte,za1,za9,zab,zaG,zay,onz]
 all_goals (repeat' first | (with_reducible first | rfl | apply And.intro | assumption) | ((with_reducible show zaj _ _ = true); rfl)) <;> try first | omega | (simp only [InR]; omega)
 refine zbG (t.heights.length) [.cell 2 1 2] [1,2,3] (fun i => [(4,.int .i64 i)]) (fun i m => (m.set 2 (.cells [.int .i64 t.last,.sl ((t.heights.take i).map EncE.cs) (.own 3),.int .i64 t.step,.sl (t.levels.map EncE.cs) .no,.sl [] .full])).set 3 (.tok i 2)) (fun _ => True) ?_ ?_ ?_ ?_
 ·trivial
 ·simp [AV.bare,zal,zaN,zaR,zak,zar,zaf,tokz1,lk,zaa,zcL,-List.map_take]
 ·intro i hi _
  have hi':=czH.2 hi
  have hg:(t.heights.map EncE.cs).getD i [] = EncE.cs (at_ t.heights i):=zax hi
  have htk:(t.heights.take i).length = i:=by simp; omega
  simp (maxSteps:=4000000) only [go_sem,zae,zac,zad,zan,zaq,zaa,czb,cza,↓reduceIte,za1,za9,zab,zaG,zay,onz,hi',hg,htk]
  all_goals (repeat' first | (with_reducible first | rfl | apply And.intro | assumption) | ((with_reducible show zaj _ _ = true); rfl)) <;> try first | omega | (simp only [InR]; omega)
  refine nxt hi trivial ?_
  simp [AV.bare,zal,zaN,zaR,zak,zar,zaf,tokz1,lk,zaa,zcL,zaV hi,-List.map_take]
 ·intro _
  simp (maxSteps:=4000000) only [go_sem,zae,zac,zad,zan,zaq,zaa,czb,cza,↓reduceIte,za1,za9,zab,zaG,zay,onz,czm]
  all_goals (repeat' first | (with_reducible first | rfl | apply And.intro | assumption) | ((with_reducible show zaj _ _ = true); rfl)) <;> try first | omega | (simp only [InR]; omega)
  refine zbG (t.marks.length) [.cell 2 4 4] [1,2,3] (fun i => [(5,.int .i64 i)]) (fun i m => (m.set 2 (.cells [.int .i64 t.last,.sl (t.heights.map EncE.cs) (.own 3),.int .i64 t.step,.sl (t.levels.map EncE.cs) .no,.sl ((t.marks.take i).map EncE.cs) (.own 4)])).set 4 (.tok i 4)) (fun _ => True) ?_ ?_ ?_ ?_
  ·trivial
  ·simp [AV.bare,zal,zaN,zaR,zak,zar,zaf,tokz1,lk,zaa,zcL,-List.map_take]
  ·intro i hi _
   have hi':=czH.2 hi
   have hg:(t.marks.map EncE.cs).getD i [] = EncE.cs (at_ t.marks i):=zax hi
   have htk:(t.marks.take i).length = i:=by simp; omega
   simp (maxSteps:=4000000) only [go_sem,zae,zac,zad,zan,zaq,zaa,czb,cza,↓reduceIte,za1,za9,zab,zaG,zay,onz,hi',hg,htk]
   all_goals (repeat' first | (with_reducible first | rfl | apply And.intro | assumption) | ((with_reducible show zaj _ _ = true); rfl)) <;> try first | omega | (simp only [InR]; omega)
   refine nxt hi trivial ?_
   simp [AV.bare,zal,zaN,zaR,zak,zar,zaf,tokz1,lk,zaa,zcL,zaV hi,-List.map_take]
  ·intro _
   simp (maxSteps:=4000000) only [go_sem,zae,zac,zad,zan,zaq,zaa,czb,cza,↓reduceIte,za1,za9,zab,zaG,zay,onz,czm]
   all_goals exact auz
def zjk (k:Nat):Tb:=⟨3,[⟨2,4⟩,⟨5,6⟩,⟨8,9⟩,⟨4,5⟩],4,[5,3,8],[⟨1,3,⟨9,9⟩⟩,⟨3,3,⟨4,4⟩⟩].take k⟩
instance:DecidableEq Rg:=fun a b => if h:a.lo = b.lo ∧ a.hi = b.hi then .isTrue (by cases a; cases b; obtain ⟨h1,h2⟩:=h; simp only at h1 h2; rw [h1,h2]) else .isFalse fun e => h (by rw [e]; exact ⟨rfl,rfl⟩)
theorem ex1:zku (zjk 0) [3,6,8,4] = ([[1,2],[1,2,3],[]],0):=by decide +kernel
theorem ex2:bndQ (zjk 1) = ([⟨2,4⟩,⟨5,6⟩,⟨9,9⟩,⟨5,5⟩],0):=by decide +kernel
theorem ex3:wetQ (zjk 0) 0 1 = (3,0):=by decide +kernel
theorem ex4:rchQ (zjk 0) 2 = (⟨2,4⟩,0):=by decide +kernel
theorem ex5:dryQ (zjk 0) 0 3 = (9,0):=by decide +kernel
theorem ex6:firstQ (zjk 2) = (1,0):=by decide +kernel
theorem ex7:leaveQ (zjk 2) = ([0],0):=by decide +kernel
def P49 (g:FuncId):=(zas 59 (zcC (fun t:Tb => t.heights.length ≤ 4096 ∧ t.levels.length ≤ 4096 ∧ t.marks.length ≤ 4096) (fun t => t)) (P48):zaJ) g
theorem P49_ok:zaz Tryz.prog P49:=zah (zbj zuI) (P48_ok)
theorem zr7 (d:Option Nat):zaF P49 d = none:=(zag (by decide) d).trans (zr8 d)
attribute [go_sem] P49 zr7
def P50:zaJ:=P49
theorem P50_app (g:FuncId):P50 g = (P49) g:=rfl
theorem P50_ok:zaz Tryz.prog P50:=P49_ok
attribute [go_sem] P50_app
theorem zmh (d:Option Nat):zaF P50 d = none:=zr7 d
attribute [go_sem] zmh
theorem zuq {t:Tb} (b:Bool) (h:zbq t ≠ 0):zcJ t b = zbq t:=by unfold zcJ; rw [if_neg h]
theorem zup {t:Tb} (h:zbq t = 0) (h2:zaS t = []):zcJ t true = 11:=by unfold zcJ; rw [if_pos h,if_pos rfl,if_pos h2]
theorem askErr_ok {t:Tb} (h:zbq t = 0) (h2:zaS t ≠ []):zcJ t true = 0:=by unfold zcJ; rw [if_pos h,if_pos rfl,if_neg h2]
def P51:zaJ:=P50
theorem P51_app (g:FuncId):P51 g = (P50) g:=rfl
attribute [go_sem] P51_app
theorem P51_flag (d:Option Nat):zaF P51 d = none:=zmh d
attribute [go_sem] P51_flag
structure FOk (t:Tb):Prop where
 l9:t.last ≤ 9
 lv:t.levels.length ≤ 6
 m5:t.marks.length ≤ 5
 l0:0 ≤ t.last
 len:(t.heights.length:Int) = t.last + 1
 s0:0 ≤ t.step
 s1:t.step ≤ 99
 hs:∀ r ∈ t.heights,0 ≤ r.lo ∧ r.lo ≤ r.hi ∧ r.hi ≤ 99
 ls:∀ n ∈ t.levels,0 ≤ n ∧ n ≤ 99
 ms:∀ m ∈ t.marks,(0 ≤ m.frm ∧ m.frm ≤ m.til ∧ m.til ≤ t.last) ∧ 0 ≤ m.top.lo ∧ m.top.lo ≤ m.top.hi ∧ m.top.hi ≤ 99
 many:zc7 t.heights ≤ 2000
 some:zcG t ≠ []
theorem fok_of {t:Tb} (h:zbq t = 0):FOk t:=by
 unfold zbq at h
 split at h
 ·cases h
 rename_i g1
 split at h
 ·cases h
 rename_i g2
 split at h
 ·cases h
 rename_i g3
 split at h
 ·cases h
 rename_i g4
 split at h
 ·cases h
 rename_i g5
 split at h
 ·cases h
 rename_i g6
 split at h
 ·cases h
 rename_i g7
 simp only [not_or,Bool.not_eq_false,ne_eq,Decidable.not_not] at g1 g2 g3 g4 g5
 have hs:=(zbO _ _ _).1 g2.2.2
 refine ⟨by omega,by omega,by omega,by omega,by omega,hs.1,hs.2,fun r hr => (zcU r).1 (czG.1 g3 r hr),fun x hx => (zbO _ _ _).1 (czG.1 g4 x hx),fun m hm => ?_,by omega,g7⟩
 have:=czG.1 g5 m hm
 simp only [zeH,czl,decide_eq_true_eq] at this
 have q1:=(zbO _ _ _).1 this.1.1.1
 have q2:=(zbO _ _ _).1 this.1.1.2
 have q3:=(zcU _).1 this.2
 exact ⟨⟨q1.1,this.1.2,q2.2⟩,q3⟩
theorem FOk.fault {t:Tb} (h:FOk t):zbq t = 0:=by
 have h1:=h.l9
 have h2:=h.lv
 have h3:=h.m5
 have h4:=h.l0
 have h5:=h.many
 unfold zbq
 rw [if_neg (by omega),if_neg,if_neg,if_neg,if_neg,if_neg (by omega),if_neg h.some]
 ·simp only [Bool.not_eq_false,czG]
  intro m hm
  have:=h.ms m hm
  simp only [zeH,czl,decide_eq_true_eq]
  exact ⟨⟨⟨(zbO _ _ _).2 (by omega),(zbO _ _ _).2 (by omega)⟩,by omega⟩,(zcU _).2 this.2⟩
 ·simp only [Bool.not_eq_false,czG]
  exact fun n hn => (zbO _ _ _).2 (h.ls n hn)
 ·simp only [Bool.not_eq_false,czG]
  exact fun r hr => (zcU _).2 (h.hs r hr)
 ·simp only [not_or,Bool.not_eq_false]
  exact ⟨by omega,by simpa using h.len,(zbO _ _ _).2 ⟨h.s0,h.s1⟩⟩
theorem FOk.hok {t:Tb} (h:FOk t):HOk t:=⟨by have:=h.len; have:=h.l9; omega,h.hs,h.s0,h.s1⟩
theorem FOk.vok {t:Tb} (h:FOk t):VOk t:=zcs h.fault
structure LsOk (t:Tb) (p:List Int):Prop where
 len:p.length = t.heights.length
 rng:∀ i,i < p.length → (at_ t.heights i).lo ≤ at_ p i ∧ at_ p i ≤ (at_ t.heights i).hi
 near:∀ i,i + 1 < p.length → at_ p (i + 1) - at_ p i ≤ t.step ∧ at_ p i - at_ p (i + 1) ≤ t.step
theorem zcM {α:Type} [Inhabited α] (x:α) (l:List α) (i:Nat):at_ (x :: l) (i + 1) = at_ l i:=by simp [at_,List.getD]
theorem zeS {α:Type} [Inhabited α] (x:α) (l:List α):at_ (x :: l) 0 = x:=by simp [at_,List.getD]
theorem zm3 (s:Int):∀ l:List Int,zcE s l = true ↔ ∀ i,i + 1 < l.length → at_ l (i + 1) - at_ l i ≤ s ∧ at_ l i - at_ l (i + 1) ≤ s
 | [] => by simp [zcE]
 | [x] => by simp [zcE]
 | x :: y :: r => by
  have ih:=zm3 s (y :: r)
  simp only [zcE,czl,decide_eq_true_eq,ih]
  constructor
  ·rintro ⟨h1,h2⟩ i hi
   cases i with
   | zero => simpa [zcM,zeS] using h1
   | succ i =>
    rw [zcM,zcM]
    exact h2 i (by simp at hi ⊢; omega)
  ·intro h
   refine ⟨by simpa [zcM,zeS] using h 0 (by simp),fun i hi => ?_⟩
   have:=h (i + 1) (by simp at hi ⊢; omega)
   rwa [zcM,zcM] at this
theorem ztD {t:Tb} (p:List Int):zbg t p = true ↔ LsOk t p:=by
 unfold zbg
 rw [czl,czl,decide_eq_true_eq,zm3,czG]
 constructor
 ·rintro ⟨h1,h2,h3⟩
  have h2:p.length = t.heights.length:=by omega
  refine ⟨h2,fun i hi => ?_,h3⟩
  have hz:i < (zhe p t.heights).length:=by rw [zeL]; omega
  have:=h1 _ (zbv hz)
  rw [zgT hi (by omega)] at this
  exact (zbO _ _ _).1 this
 ·rintro ⟨h1,h2,h3⟩
  refine ⟨fun x hx => ?_,by omega,h3⟩
  obtain ⟨i,hi,rfl⟩:=List.getElem_of_mem hx
  have hl:=zeL p t.heights
  rw [← zdk hi,zgT (by omega) (by omega)]
  exact (zbO _ _ _).2 (h2 i (by omega))
theorem IsB.sub {S T:Int → Prop} {r s:Rg} (h:IsB S r) (h':IsB T s) (hst:∀ x,S x → T x):s.lo ≤ r.lo ∧ r.hi ≤ s.hi :=
 ⟨(h'.all _ (hst _ h.lo)).1,(h'.all _ (hst _ h.hi)).2⟩
theorem zhX {α:Type} [Inhabited α] (f:Nat → α) {n i:Nat} (h:i < n):at_ ((List.range n).map f) i = f i:=by simp [at_,h]
set_option maxRecDepth 100000
def RgIn (r:Rg):Prop:=InR .i64 r.lo ∧ InR .i64 r.hi
def MkIn (m:Mk):Prop:=(InR .i64 m.frm ∧ InR .i64 m.til) ∧ RgIn m.top
structure TbIn (t:Tb):Prop where
 last:InR .i64 t.last
 step:InR .i64 t.step
 h:∀ r ∈ t.heights,RgIn r
 l:∀ n ∈ t.levels,InR .i64 n
 m:∀ m ∈ t.marks,MkIn m
 hs:t.heights.length * 16 ≤ reachBytes
 ls:t.levels.length * 8 ≤ reachBytes
 ms:t.marks.length * 32 ≤ reachBytes
theorem own:ownKnob Tryz.prog.godebug = none:=by kernel_rfl
theorem laidOut:laidOutB Tryz.prog = true:=by kernel_rfl
end Go.Proofs
