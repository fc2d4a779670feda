/- The texts S21, S22, S23, S24, S25, LFirst, S26, R1, joined. -/
import Derived.Test.YtilbconikmpadaaGreatG10
import Derived.Test.YtilbconikmpadaaGreatG6
import Derived.Test.YtilbconikmpadaaGreatG7
import Derived.Test.YtilbconikmpadaaGreatRows
set_option linter.all false
namespace Go.Proofs
open Go.Fs
set_option maxHeartbeats 4000000
set_option maxRecDepth 8000
theorem one_nilf:(AV.nilf).one = true:=rfl
def onz:=And.intro @zcO (And.intro @zc9 (And.intro @zca (And.intro @zbD (And.intro @zbC (And.intro @zbk (And.intro @zcg (And.intro @zfD @one_nilf)))))))
theorem zwI {P:Program} {g:FuncId} {es:List (List AV)} {tk:Tk} {args:List AV} {mem:List AObj} {R:AV → List AObj → Prop} (h:zgq P g (.sl es .no :: args) mem R):zgq P g (.sl es tk :: args) mem R :=
 ⟨h.1,fun X κ ρ τ w vs h1 h2 h3 h4 => h.2 X κ ρ τ w vs h1 h2 (by simpa using h3) (fun i hi => by
  have:=h4 i (by simpa using hi)
  cases i with
  | zero =>
   have key:∀ (x:Value),Rep κ ρ (.sl es tk) x → Rep κ ρ (.sl es .no) x:=fun x hx => by
    cases hx with
    | slnil => exact .slnil _
    | sl _ _ b o cap sz val h1 h2 h3 h4 h5 => exact .sl es _ b o cap sz val h1 h2 h3 (fun e => by cases e) h5
   exact key _ this
  | succ i => exact this)⟩
def leaveQ (t:Tb):List Int × Int:=if zbl t = 0 then (leaveL t (allL t),0) else ([],zbl t)
def P46:zaN:=P45
theorem P46_app (g:FuncId):P46 g = (P45) g:=rfl
theorem zuE:zaD Tryz.prog P46:=P45_ok
attribute [go_sem] P46_app
theorem zuF (d:Option Nat):zaK P46 d = none:=zuG d
attribute [go_sem] zuF
theorem zet (z:AV):∀ n,zci [z] n = List.replicate n z
 | 0 => rfl
 | n + 1 => by rw [zci,zet z n]; rfl
theorem zoV {α:Type} [Inhabited α] {xs:List α} (f:α → AV) (z:AV) {i:Nat} (hi:i < xs.length):zap ((xs.take i).map f ++ List.replicate (xs.length - i) z) i [f (at_ xs i)] = (xs.take (i + 1)).map f ++ List.replicate (xs.length - (i + 1)) z:=by
 have h1:((xs.take i).map f).length = i:=by simp; omega
 unfold zap
 rw [List.take_left' h1,List.drop_append,h1,zaX hi,List.map_append]
 simp only [cza,czy,Nat.zero_add,czb,List.map_nil]
 rw [czM (by rw [h1]; omega),List.nil_append,List.drop_replicate,show i + 1 - i = 1 by omega,show xs.length - i - 1 = xs.length - (i + 1) by omega]
theorem zm1 {α:Type} (f:α → AV):∀ xs:List α,zdc 1 xs.length (xs.map f) = xs.map fun x => [f x]
 | [] => rfl
 | x :: xs => by
  simp only [cza,czb,zdc,List.take_succ_cons,List.take_zero,List.drop_succ_cons,List.drop_zero]
  rw [zm1 f xs]
def zim (t:Tb) (l:List Int):List (List Int) × Int:=if zbl t = 0 then if za3 t l then (t.levels.map (zd5 l),0) else ([],2) else ([],zbl t)
theorem Play_prog (t:Tb) (l:List Int) (h:t.heights.length ≤ 4096 ∧ l.length ≤ 4096):zaU Tryz.prog 58 [Enc.enc t,Enc.enc l] (· = Enc.enc (zim t l)):=by
 have h1:=h.1
 have h2:=h.2
 simp only [zaa]
 unfold zim
 by_cases c:zbl t = 0
 case neg =>
  rw [if_neg c]
  simp only [zcw]
  refine cpz zuE Tryz.func58 zaF ?_
  rw [Tryz.ntmps58]
  simp only [Tryz.f58,zah,zaq]
  simp (maxSteps:=4000000) only [go_sem,AV.one,zae,zac,zad,zap,zas,zab,czb,cza,↓reduceIte,za5,zbc,zaa,zaL,zao,onz,c]
  all_goals exact auz
 rw [if_pos c]
 have hv:=zcC c
 have hok:=hv.hok
 have hlast:=hv.last
 have hl0:=zkl c
 have hl9:=hv.l9
 have hlv:=hv.lv
 cases c2:za3 t l
 ·rw [if_neg (by simp)]
  generalize hlp:zdr t l = r
  obtain ⟨s,b⟩:=r
  have hb:b = false:=by
   unfold zdr at hlp
   split at hlp
   ·rw [c2] at hlp; cases hlp; rfl
   ·cases hlp; rfl
  subst hb
  have hs:=s.h
  simp only [zcw]
  refine cpz zuE Tryz.func58 zaF ?_
  rw [Tryz.ntmps58]
  simp only [Tryz.f58,zah,zaq]
  simp (maxSteps:=4000000) only [go_sem,zae,zac,zad,zap,zas,zab,czb,cza,↓reduceIte,za5,zbc,zaa,zaL,zao,onz,c,hlp,hs]
  all_goals exact auz
 ·rw [if_pos rfl]
  have hll:=zbI c2
  have hlp:zdr t l = (zft l,true):=by unfold zdr; rw [if_pos (by omega),c2]
  have hs:=(zft l).h
  have hw:∀ level,zjr (zft l).l level (t.last + 1).toNat = zd5 l level:=fun level => by
   rw [show (t.last + 1).toNat = l.length by omega]
   exact zq4 level (by have:=hok.len; omega)
  simp only [zcw]
  refine cpz zuE Tryz.func58 zaF ?_
  rw [Tryz.ntmps58]
  simp only [Tryz.f58,zah,zaq]
  simp (maxSteps:=4000000) only [go_sem,zae,zac,zad,zap,zas,zab,czb,cza,↓reduceIte,za5,zbc,zaa,zaL,zao,onz,c,hlp,hs]
  all_goals (repeat' first | (with_reducible first | rfl | apply And.intro | assumption) | ((with_reducible show zaf _ _ = true); rfl)) <;> try first | omega | (simp only [InR]; omega)
  simp only [zet]
  refine zbA (t.levels.length) [] [2,4,5,7,9,30,31] (fun i => [(32,.int .i64 i)]) (fun i m => m.set 2 (.cells ((t.levels.take i).map (fun lv => .sl ((zd5 l lv).map EncE.cs) .no) ++ List.replicate (t.levels.length - i) (.sl [] .full)))) (fun _ => True) ?_ ?_ ?_ ?_
  ·trivial
  ·simp [AV.bare,zal,zaP,zaS,zak,zau,zag,tokz1,lk,zab,zcW,zbp]
  ·intro i hi _
   have hi':=czH.2 hi
   have hge:(t.levels.map EncE.cs).getD i [] = [AV.int IntKind.i64 (at_ t.levels i)]:=by rw [zat hi]; rfl
   have hov:=zoV (fun lv => AV.sl ((zd5 l lv).map EncE.cs) .no) (.sl [] .full) hi
   simp (maxSteps:=4000000) only [go_sem,AV.one,zae,zac,zad,zas,zab,czb,cza,↓reduceIte,za5,zbc,zaa,zaL,zao,onz,hi',hge,hw,hov]
   all_goals (repeat' first | (with_reducible first | rfl | apply And.intro | assumption) | ((with_reducible show zaf _ _ = true); rfl)) <;> try first | omega | (simp only [InR]; omega)
   ·simp; omega
   ·refine nxt hi trivial ?_
    simp [AV.bare,zal,zaP,zaS,zak,zau,zag,tokz1,lk,zab,zcW,zbp,-List.map_take]
    rintro c (⟨a,_,rfl⟩ | ⟨_,rfl⟩) <;> simp [AV.bare,zal,zaP,zaS,zak,zau,zag,tokz1,lk,zab,zcW]
  ·intro _
   have hsn:∀ M,((t.levels.map fun lv => AV.sl ((zd5 l lv).map EncE.cs) .no).map (zb1 (zcb 7 M) M)) = t.levels.map fun lv => AV.sl ((zd5 l lv).map EncE.cs) .no:=fun M => by
    rw [List.map_map]
    exact List.map_congr_left fun lv _ => by simp only [Function.comp_apply]; simp (maxSteps:=4000000) only [go_sem,AV.one,zae,zac,zad,zap,zas,zab,czb,cza,↓reduceIte,za5,zbc,zaa,zaL,zao,onz]
   simp (maxSteps:=4000000) only [go_sem,AV.one,zae,zac,zad,zap,zas,zab,czb,cza,↓reduceIte,za5,zbc,zaa,zaL,zao,onz,czm,Nat.sub_self,List.append_nil,hsn,zm1]
   simp [Function.comp_def]
   exact fun _ _ => rfl
def P47 (g:FuncId):=(zax 58 (zbL (fun (t:Tb) (l:List Int) => t.heights.length ≤ 4096 ∧ l.length ≤ 4096) zim) (P46):zaN) g
theorem zjR:zaD Tryz.prog P47:=zaj (zaR Play_prog) (zuE)
theorem zuD (d:Option Nat):zaK P47 d = none:=(zai (by decide) d).trans (zuF d)
attribute [go_sem] P47 zuD
theorem list_call (l:List Int) (h:l.length ≤ 4096):zaU Tryz.prog 117 [Enc.enc l] (· = Enc.enc l):=by
 simp only [zcw]
 refine cpz zjR Tryz.func117 zaF ?_
 rw [Tryz.ntmps117]
 simp only [Tryz.f117,zah,zaq]
 simp (maxSteps:=4000000) only [go_sem,AV.one,zae,zac,zad,zap,zas,zab,czb,cza,↓reduceIte,za5,zbc,zaa,zaL,zao,onz]
 all_goals (repeat' first | (with_reducible first | rfl | apply And.intro | assumption) | ((with_reducible show zaf _ _ = true); rfl)) <;> try first | omega | (simp only [InR]; omega)
 simp [zeI,AV.one]
theorem to_call (r:Rg):zaU Tryz.prog 118 [Enc.enc r] (· = Enc.enc r):=by
 simp only [zcw]
 refine cpz zjR Tryz.func118 zaF ?_
 rw [Tryz.ntmps118]
 simp only [Tryz.f118,zah,zaq]
 simp (maxSteps:=4000000) only [go_sem,AV.one,zae,zac,zad,zap,zas,zab,czb,cza,↓reduceIte,za5,zbc,zaa,zaL,zao,onz]
def zop (t:Tb):Bool:=if 12 < t.heights.length ∨ 8 < t.levels.length ∨ 7 < t.marks.length then false else decide (zbl t ≠ 0) || decide (zde t.heights ≤ 150)
theorem Thin_call (t:Tb):zaU Tryz.prog 65 [Enc.enc t] (· = Enc.enc (zop t)):=by
 unfold zop
 by_cases a1:12 < t.heights.length
 ·rw [if_pos (.inl a1)]
  simp only [zcw]
  refine cpz zjR Tryz.func65 zaF ?_
  rw [Tryz.ntmps65]
  simp only [Tryz.f65,zah,zaq]
  simp (maxSteps:=4000000) only [go_sem,AV.one,zae,zac,zad,zap,zas,zab,czb,cza,↓reduceIte,za5,zbc,zaa,zaL,zao,onz,show ((12:Int) < t.heights.length) by omega]
 by_cases a2:8 < t.levels.length
 ·rw [if_pos (.inr (.inl a2))]
  simp only [zcw]
  refine cpz zjR Tryz.func65 zaF ?_
  rw [Tryz.ntmps65]
  simp only [Tryz.f65,zah,zaq]
  simp (maxSteps:=4000000) only [go_sem,AV.one,zae,zac,zad,zap,zas,zab,czb,cza,↓reduceIte,za5,zbc,zaa,zaL,zao,onz,show ¬ ((12:Int) < t.heights.length) by omega,show ((8:Int) < t.levels.length) by omega]
 by_cases a3:7 < t.marks.length
 ·rw [if_pos (.inr (.inr a3))]
  simp only [zcw]
  refine cpz zjR Tryz.func65 zaF ?_
  rw [Tryz.ntmps65]
  simp only [Tryz.f65,zah,zaq]
  simp (maxSteps:=4000000) only [go_sem,AV.one,zae,zac,zad,zap,zas,zab,czb,cza,↓reduceIte,za5,zbc,zaa,zaL,zao,onz,show ¬ ((12:Int) < t.heights.length) by omega,show ¬ ((8:Int) < t.levels.length) by omega,show ((7:Int) < t.marks.length) by omega]
 rw [if_neg (by omega)]
 by_cases c:zbl t = 0
 ·have hok:=(zcC c).hok
  simp only [zcw]
  refine cpz zjR Tryz.func65 zaF ?_
  rw [Tryz.ntmps65]
  simp only [Tryz.f65,zah,zaq]
  simp (maxSteps:=4000000) only [go_sem,AV.one,zae,zac,zad,zap,zas,zab,czb,cza,↓reduceIte,za5,zbc,zaa,zaL,zao,onz,show ¬ ((12:Int) < t.heights.length) by omega,show ¬ ((8:Int) < t.levels.length) by omega,show ¬ ((7:Int) < t.marks.length) by omega,c]
  all_goals (repeat' first | (with_reducible first | rfl | apply And.intro | assumption) | ((with_reducible show zaf _ _ = true); rfl)) <;> try first | omega | (simp only [InR]; omega)
  simp [c]
 ·simp only [zcw]
  refine cpz zjR Tryz.func65 zaF ?_
  rw [Tryz.ntmps65]
  simp only [Tryz.f65,zah,zaq]
  simp (maxSteps:=4000000) only [go_sem,AV.one,zae,zac,zad,zap,zas,zab,czb,cza,↓reduceIte,za5,zbc,zaa,zaL,zao,onz,show ¬ ((12:Int) < t.heights.length) by omega,show ¬ ((8:Int) < t.levels.length) by omega,show ¬ ((7:Int) < t.marks.length) by omega,c]
  all_goals (repeat' first | (with_reducible first | rfl | apply And.intro | assumption) | ((with_reducible show zaf _ _ = true); rfl)) <;> try first | omega | (simp only [InR]; omega)
  simp [c]
def P48 (g:FuncId):=(zax 117 (zcU (fun l:List Int => l.length ≤ 4096) (fun l => l)) (zax 118 (zcU (fun _:Rg => True) (fun r => r)) (zax 65 (zcU (fun _:Tb => True) zop) (P47))):zaN) g
theorem P48_ok:zaD Tryz.prog P48:=zaj (zbm list_call) (zaj (zbm fun r _ => to_call r) (zaj (zbm fun t _ => Thin_call t) (zjR)))
theorem zuC (d:Option Nat):zaK P48 d = none:=(zai (by decide) d).trans ((zai (by decide) d).trans ((zai (by decide) d).trans (zuD d)))
attribute [go_sem] P48 zuC
theorem zng {t:Tb} (h:zop t = true):t.heights.length ≤ 12 ∧ t.levels.length ≤ 8 ∧ t.marks.length ≤ 7:=by
 unfold zop at h
 split at h
 ·cases h
 ·omega
theorem zxe (t:Tb) (h:t.heights.length ≤ 4096 ∧ t.levels.length ≤ 4096 ∧ t.marks.length ≤ 4096):zaU Tryz.prog 59 [Enc.enc t] (· = Enc.enc t):=by
 obtain ⟨h1,h2,h3⟩:=h
 simp only [zcw]
 refine cpz P48_ok Tryz.func59 zaF ?_
 rw [Tryz.ntmps59]
 simp only [Tryz.f59,zah,zaq]
 simp (maxSteps:=4000000) only [go_sem,zae,zac,zad,zap,zas,zab,czb,cza,↓reduceIte,za5,zbc,zaa,zaL,zao,onz]
 all_goals (repeat' first | (with_reducible first | rfl | apply And.intro | assumption) | ((with_reducible show zaf _ _ = true); rfl)) <;> try first | omega | (simp only [InR]; omega)
 refine zbA (t.heights.length) [.cell 2 1 2] [1,2,3] (fun i => [(4,.int .i64 i)]) (fun i m => (m.set 2 (.cells [.int .i64 t.last,.sl ((t.heights.take i).map EncE.cs) (.own 3),.int .i64 t.step,.sl (t.levels.map EncE.cs) .no,.sl [] .full])).set 3 (.tok i 2)) (fun _ => True) ?_ ?_ ?_ ?_
 ·trivial
 ·simp [AV.bare,zal,zaP,zaS,zak,zau,zag,tokz1,lk,zab,zcW,-List.map_take]
 ·intro i hi _
  have hi':=czH.2 hi
  have hg:(t.heights.map EncE.cs).getD i [] = EncE.cs (at_ t.heights i):=zat hi
  have htk:(t.heights.take i).length = i:=by simp; omega
  simp (maxSteps:=4000000) only [go_sem,zae,zac,zad,zap,zas,zab,czb,cza,↓reduceIte,za5,zbc,zaa,zaL,zao,onz,hi',hg,htk]
  all_goals (repeat' first | (with_reducible first | rfl | apply And.intro | assumption) | ((with_reducible show zaf _ _ = true); rfl)) <;> try first | omega | (simp only [InR]; omega)
  refine nxt hi trivial ?_
  simp [AV.bare,zal,zaP,zaS,zak,zau,zag,tokz1,lk,zab,zcW,zaX hi,-List.map_take]
 ·intro _
  simp (maxSteps:=4000000) only [go_sem,zae,zac,zad,zap,zas,zab,czb,cza,↓reduceIte,za5,zbc,zaa,zaL,zao,onz,czm]
  all_goals (repeat' first | (with_reducible first | rfl | apply And.intro | assumption) | ((with_reducible show zaf _ _ = true); rfl)) <;> try first | omega | (simp only [InR]; omega)
  refine zbA (t.marks.length) [.cell 2 4 4] [1,2,3] (fun i => [(5,.int .i64 i)]) (fun i m => (m.set 2 (.cells [.int .i64 t.last,.sl (t.heights.map EncE.cs) (.own 3),.int .i64 t.step,.sl (t.levels.map EncE.cs) .no,.sl ((t.marks.take i).map EncE.cs) (.own 4)])).set 4 (.tok i 4)) (fun _ => True) ?_ ?_ ?_ ?_
  ·trivial
  ·simp [AV.bare,zal,zaP,zaS,zak,zau,zag,tokz1,lk,zab,zcW,-List.map_take]
  ·intro i hi _
   have hi':=czH.2 hi
   have hg:(t.marks.map EncE.cs).getD i [] = EncE.cs (at_ t.marks i):=zat hi
   have htk:(t.marks.take i).length = i:=by simp; omega
   simp (maxSteps:=4000000) only [go_sem,zae,zac,zad,zap,zas,zab,czb,cza,↓reduceIte,za5,zbc,zaa,zaL,zao,onz,hi',hg,htk]
   all_goals (repeat' first | (with_reducible first | rfl | apply And.intro | assumption) | ((with_reducible show zaf _ _ = true); rfl)) <;> try first | omega | (simp only [InR]; omega)
   refine nxt hi trivial ?_
   simp [AV.bare,zal,zaP,zaS,zak,zau,zag,tokz1,lk,zab,zcW,zaX hi,-List.map_take]
  ·intro _
   simp (maxSteps:=4000000) only [go_sem,zae,zac,zad,zap,zas,zab,czb,cza,↓reduceIte,za5,zbc,zaa,zaL,zao,onz,czm]
   all_goals exact auz
def zkA (k:Nat):Tb:=⟨3,[⟨2,4⟩,⟨5,6⟩,⟨8,9⟩,⟨4,5⟩],4,[5,3,8],[⟨1,3,⟨9,9⟩⟩,⟨3,3,⟨4,4⟩⟩].take k⟩
instance:DecidableEq Rg:=fun a b => if h:a.lo = b.lo ∧ a.hi = b.hi then .isTrue (by cases a; cases b; obtain ⟨h1,h2⟩:=h; simp only at h1 h2; rw [h1,h2]) else .isFalse fun e => h (by rw [e]; exact ⟨rfl,rfl⟩)
theorem ex1:zim (zkA 0) [3,6,8,4] = ([[1,2],[1,2,3],[]],0):=by decide +kernel
theorem ex2:bndQ (zkA 1) = ([⟨2,4⟩,⟨5,6⟩,⟨9,9⟩,⟨5,5⟩],0):=by decide +kernel
theorem ex3:wetQ (zkA 0) 0 1 = (3,0):=by decide +kernel
theorem ex4:rchQ (zkA 0) 2 = (⟨2,4⟩,0):=by decide +kernel
theorem ex5:dryQ (zkA 0) 0 3 = (9,0):=by decide +kernel
theorem ex6:firstQ (zkA 2) = (1,0):=by decide +kernel
theorem ex7:leaveQ (zkA 2) = ([0],0):=by decide +kernel
def P49 (g:FuncId):=(zax 59 (zcU (fun t:Tb => t.heights.length ≤ 4096 ∧ t.levels.length ≤ 4096 ∧ t.marks.length ≤ 4096) (fun t => t)) (P48):zaN) g
theorem P49_ok:zaD Tryz.prog P49:=zaj (zbm zxe) (P48_ok)
theorem zuB (d:Option Nat):zaK P49 d = none:=(zai (by decide) d).trans (zuC d)
attribute [go_sem] P49 zuB
def P50:zaN:=P49
theorem P50_app (g:FuncId):P50 g = (P49) g:=rfl
theorem P50_ok:zaD Tryz.prog P50:=P49_ok
attribute [go_sem] P50_app
theorem zn8 (d:Option Nat):zaK P50 d = none:=zuB d
attribute [go_sem] zn8
theorem zwU {t:Tb} (b:Bool) (h:zbl t ≠ 0):zcS t b = zbl t:=by unfold zcS; rw [if_neg h]
theorem zwT {t:Tb} (h:zbl t = 0) (h2:zaC t = []):zcS t true = 11:=by unfold zcS; rw [if_pos h,if_pos rfl,if_pos h2]
theorem zlH {t:Tb} (h:zbl t = 0) (h2:zaC t ≠ []):zcS t true = 0:=by unfold zcS; rw [if_pos h,if_pos rfl,if_neg h2]
def P51:zaN:=P50
theorem P51_app (g:FuncId):P51 g = (P50) g:=rfl
attribute [go_sem] P51_app
theorem P51_flag (d:Option Nat):zaK P51 d = none:=zn8 d
attribute [go_sem] P51_flag
structure FOk (t:Tb):Prop where
 l9:t.last ≤ 9
 lv:t.levels.length ≤ 6
 m5:t.marks.length ≤ 5
 l0:0 ≤ t.last
 len:(t.heights.length:Int) = t.last + 1
 s0:0 ≤ t.step
 s1:t.step ≤ 99
 hs:∀ r ∈ t.heights,0 ≤ r.lo ∧ r.lo ≤ r.hi ∧ r.hi ≤ 99
 ls:∀ n ∈ t.levels,0 ≤ n ∧ n ≤ 99
 ms:∀ m ∈ t.marks,(0 ≤ m.frm ∧ m.frm ≤ m.til ∧ m.til ≤ t.last) ∧ 0 ≤ m.top.lo ∧ m.top.lo ≤ m.top.hi ∧ m.top.hi ≤ 99
 many:zde t.heights ≤ 2000
 some:zbH t ≠ []
theorem fok_of {t:Tb} (h:zbl t = 0):FOk t:=by
 unfold zbl at h
 split at h
 ·cases h
 rename_i g1
 split at h
 ·cases h
 rename_i g2
 split at h
 ·cases h
 rename_i g3
 split at h
 ·cases h
 rename_i g4
 split at h
 ·cases h
 rename_i g5
 split at h
 ·cases h
 rename_i g6
 split at h
 ·cases h
 rename_i g7
 simp only [not_or,Bool.not_eq_false,ne_eq,Decidable.not_not] at g1 g2 g3 g4 g5
 have hs:=(zbn _ _ _).1 g2.2.2
 refine ⟨by omega,by omega,by omega,by omega,by omega,hs.1,hs.2,fun r hr => (zc3 r).1 (czG.1 g3 r hr),fun x hx => (zbn _ _ _).1 (czG.1 g4 x hx),fun m hm => ?_,by omega,g7⟩
 have:=czG.1 g5 m hm
 simp only [zfc,czl,decide_eq_true_eq] at this
 have q1:=(zbn _ _ _).1 this.1.1.1
 have q2:=(zbn _ _ _).1 this.1.1.2
 have q3:=(zc3 _).1 this.2
 exact ⟨⟨q1.1,this.1.2,q2.2⟩,q3⟩
theorem FOk.fault {t:Tb} (h:FOk t):zbl t = 0:=by
 have h1:=h.l9
 have h2:=h.lv
 have h3:=h.m5
 have h4:=h.l0
 have h5:=h.many
 unfold zbl
 rw [if_neg (by omega),if_neg,if_neg,if_neg,if_neg,if_neg (by omega),if_neg h.some]
 ·simp only [Bool.not_eq_false,czG]
  intro m hm
  have:=h.ms m hm
  simp only [zfc,czl,decide_eq_true_eq]
  exact ⟨⟨⟨(zbn _ _ _).2 (by omega),(zbn _ _ _).2 (by omega)⟩,by omega⟩,(zc3 _).2 this.2⟩
 ·simp only [Bool.not_eq_false,czG]
  exact fun n hn => (zbn _ _ _).2 (h.ls n hn)
 ·simp only [Bool.not_eq_false,czG]
  exact fun r hr => (zc3 _).2 (h.hs r hr)
 ·simp only [not_or,Bool.not_eq_false]
  exact ⟨by omega,by simpa using h.len,(zbn _ _ _).2 ⟨h.s0,h.s1⟩⟩
theorem FOk.hok {t:Tb} (h:FOk t):HOk t:=⟨by have:=h.len; have:=h.l9; omega,h.hs,h.s0,h.s1⟩
theorem FOk.vok {t:Tb} (h:FOk t):VOk t:=zcC h.fault
structure LsOk (t:Tb) (p:List Int):Prop where
 len:p.length = t.heights.length
 rng:∀ i,i < p.length → (at_ t.heights i).lo ≤ at_ p i ∧ at_ p i ≤ (at_ t.heights i).hi
 near:∀ i,i + 1 < p.length → at_ p (i + 1) - at_ p i ≤ t.step ∧ at_ p i - at_ p (i + 1) ≤ t.step
theorem zcX {α:Type} [Inhabited α] (x:α) (l:List α) (i:Nat):at_ (x :: l) (i + 1) = at_ l i:=by simp [at_,List.getD]
theorem zfm {α:Type} [Inhabited α] (x:α) (l:List α):at_ (x :: l) 0 = x:=by simp [at_,List.getD]
theorem zoY (s:Int):∀ l:List Int,zcu s l = true ↔ ∀ i,i + 1 < l.length → at_ l (i + 1) - at_ l i ≤ s ∧ at_ l i - at_ l (i + 1) ≤ s
 | [] => by simp [zcu]
 | [x] => by simp [zcu]
 | x :: y :: r => by
  have ih:=zoY s (y :: r)
  simp only [zcu,czl,decide_eq_true_eq,ih]
  constructor
  ·rintro ⟨h1,h2⟩ i hi
   cases i with
   | zero => simpa [zcX,zfm] using h1
   | succ i =>
    rw [zcX,zcX]
    exact h2 i (by simp at hi ⊢; omega)
  ·intro h
   refine ⟨by simpa [zcX,zfm] using h 0 (by simp),fun i hi => ?_⟩
   have:=h (i + 1) (by simp at hi ⊢; omega)
   rwa [zcX,zcX] at this
theorem zv8 {t:Tb} (p:List Int):za3 t p = true ↔ LsOk t p:=by
 unfold za3
 rw [czl,czl,decide_eq_true_eq,zoY,czG]
 constructor
 ·rintro ⟨h1,h2,h3⟩
  have h2:p.length = t.heights.length:=by omega
  refine ⟨h2,fun i hi => ?_,h3⟩
  have hz:i < (zgs p t.heights).length:=by rw [zfe]; omega
  have:=h1 _ (zbb hz)
  rw [zhF hi (by omega)] at this
  exact (zbn _ _ _).1 this
 ·rintro ⟨h1,h2,h3⟩
  refine ⟨fun x hx => ?_,by omega,h3⟩
  obtain ⟨i,hi,rfl⟩:=List.getElem_of_mem hx
  have hl:=zfe p t.heights
  rw [← zdy hi,zhF (by omega) (by omega)]
  exact (zbn _ _ _).2 (h2 i (by omega))
theorem IsB.sub {S T:Int → Prop} {r s:Rg} (h:IsB S r) (h':IsB T s) (hst:∀ x,S x → T x):s.lo ≤ r.lo ∧ r.hi ≤ s.hi :=
 ⟨(h'.all _ (hst _ h.lo)).1,(h'.all _ (hst _ h.hi)).2⟩
theorem zr6 {n:Nat} {l:List Nat} (h:Inc 0 n l):l.length ≤ n:=by
 rw [← zir h]
 have:=List.length_filter_le (fun p => (zju l).testBit p) (List.range n)
 simpa [zeF] using this
theorem zhu {α:Type} [Inhabited α] (f:Nat → α) {n i:Nat} (h:i < n):at_ ((List.range n).map f) i = f i:=by simp [at_,h]
set_option maxRecDepth 100000
theorem zez:Tryz.prog.cellsOf 3 = 1:=by kernel_rfl
theorem znw:RdE Tryz.prog 3 Int (InR .i64):=rdE_int Tryz.underlying3 zez
def RgIn (r:Rg):Prop:=InR .i64 r.lo ∧ InR .i64 r.hi
def MkIn (m:Mk):Prop:=(InR .i64 m.frm ∧ InR .i64 m.til) ∧ RgIn m.top
theorem zda {H:Type} {enc:TypeId × Value → H} {w:World} {base:Nat} {spare:Nat → Bool} {held:Bool} {n:Nat} {c:Value} {y:DataW H × List MemPlace}
  (h:DataW.trod enc Tryz.prog w base spare held n 3 [c] = some y):∃ a,c = .int .i64 a ∧ InR .i64 a:=by
 obtain ⟨a,e,_,hw⟩:=DataW.trod_int Tryz.underlying3 h
 simp only [List.cons.injEq,and_true] at e
 exact ⟨a,e,ziK hw⟩
theorem rdE_rg:RdE Tryz.prog 68 Rg RgIn :=
 ⟨by kernel_rfl,fun enc w base spare held fuel cs x h => by
  obtain ⟨hl,xs,_,_,hf⟩:=zfW Tryz.underlying68 h
  have hl:cs.length = 2:=hl.trans (by kernel_rfl)
  match cs,hl with
  | [c0,c1],_ =>
   obtain ⟨n0,y0,_,h0⟩:=hf 0 _ rfl
   obtain ⟨n1,y1,_,h1⟩:=hf 1 _ rfl
   simp only [zez,List.getElem_toArray,List.getElem_cons_zero,List.getElem_cons_succ,List.drop_zero,List.drop_succ_cons,List.take_succ_cons,List.take_zero] at h0 h1
   obtain ⟨a,rfl,ha⟩:=zda h0
   obtain ⟨b,rfl,hb⟩:=zda h1
   refine ⟨⟨a,b⟩,⟨ha,hb⟩,rfl,fun i hi => ?_⟩
   match i,hi with
   | 0,_ => exact .int _ _
   | 1,_ => exact .int _ _⟩
theorem cells_rg:Tryz.prog.cellsOf 68 = 2:=by kernel_rfl
theorem rdE_mk:RdE Tryz.prog 175 Mk MkIn :=
 ⟨by kernel_rfl,fun enc w base spare held fuel cs x h => by
  obtain ⟨hl,xs,_,_,hf⟩:=zfW Tryz.underlying175 h
  have hl:cs.length = 4:=hl.trans (by kernel_rfl)
  match cs,hl with
  | [c0,c1,c2,c3],_ =>
   obtain ⟨n0,y0,_,h0⟩:=hf 0 _ rfl
   obtain ⟨n1,y1,_,h1⟩:=hf 1 _ rfl
   obtain ⟨n2,y2,_,h2⟩:=hf 2 _ rfl
   simp only [zez,cells_rg,List.getElem_toArray,List.getElem_cons_zero,List.getElem_cons_succ,List.drop_zero,List.drop_succ_cons,List.take_succ_cons,List.take_zero] at h0 h1 h2
   obtain ⟨a,rfl,ha⟩:=zda h0
   obtain ⟨b,rfl,hb⟩:=zda h1
   obtain ⟨r,hr,hr2⟩:=rdE_rg.rd _ _ _ _ _ _ _ _ h2
   have e2:=hr2.2 0 (by show 0 < 2; omega)
   have e3:=hr2.2 1 (by show 1 < 2; omega)
   have e2':=Rep.int_inv (k:=.i64) (n:=r.lo) e2
   have e3':=Rep.int_inv (k:=.i64) (n:=r.hi) e3
   simp at e2' e3'
   subst e2' e3'
   refine ⟨⟨a,b,r⟩,⟨⟨ha,hb⟩,hr⟩,rfl,fun i hi => ?_⟩
   match i,hi with
   | 0,_ => exact .int _ _
   | 1,_ => exact .int _ _
   | 2,_ => exact .int _ _
   | 3,_ => exact .int _ _⟩
structure TbIn (t:Tb):Prop where
 last:InR .i64 t.last
 step:InR .i64 t.step
 h:∀ r ∈ t.heights,RgIn r
 l:∀ n ∈ t.levels,InR .i64 n
 m:∀ m ∈ t.marks,MkIn m
 hs:t.heights.length * 16 ≤ reachBytes
 ls:t.levels.length * 8 ≤ reachBytes
 ms:t.marks.length * 32 ≤ reachBytes
theorem zpF:Tryz.prog.cellsOf 22 = 1:=by kernel_rfl
theorem zlt:Tryz.prog.cellsOf 23 = 1:=by kernel_rfl
theorem zpE:Tryz.prog.cellsOf 24 = 1:=by kernel_rfl
theorem bytes_1:Tryz.prog.bytesOf 68 = 16:=by kernel_rfl
theorem zsM:Tryz.prog.bytesOf 3 = 8:=by kernel_rfl
theorem bytes_3:Tryz.prog.bytesOf 175 = 32:=by kernel_rfl
theorem rdV_tb:RdV Tryz.prog 26 Tb TbIn:=fun enc w base v d ps hv ⟨fuel,h⟩ hw => by
 obtain ⟨cs,rfl,hsz,hrow⟩:=zi8 Tryz.underlying26 hv
 have hsz:cs.size = 5:=hsz.trans (by kernel_rfl)
 obtain ⟨hl,xs,hx,_,hf⟩:=zfW Tryz.underlying26 h
 obtain ⟨l⟩:=cs
 match l,hsz with
 | [c0,c1,c2,c3,c4],_ =>
  obtain ⟨n0,y0,_,h0⟩:=hf 0 _ rfl
  obtain ⟨n1,y1,q1,h1⟩:=hf 1 _ rfl
  obtain ⟨n2,y2,_,h2⟩:=hf 2 _ rfl
  obtain ⟨n3,y3,q3,h3⟩:=hf 3 _ rfl
  obtain ⟨n4,y4,q4,h4⟩:=hf 4 _ rfl
  simp only [Value.cells,zez,zpF,zlt,zpE,List.getElem_toArray,List.getElem_cons_zero,List.getElem_cons_succ,List.drop_zero,List.drop_succ_cons,List.take_succ_cons,List.take_zero] at h0 h1 h2 h3 h4
  have hwt:∀ (j:Nat) (t:TypeId) (y:DataW _ × List MemPlace),([3,22,3,23,24]:List TypeId)[j]? = some t → xs[j]? = some y → (y.1.weights Tryz.prog t).all (· ≤ reachBytes) = true:=by
   intro j t y ht hy
   rw [czG] at hw ⊢
   intro n hn
   apply hw
   simp only at hx
   rw [hx]
   simp only [DataW.weights,Tryz.underlying26]
   exact DataW.weights_mem_each (j:=j) ht (by rw [List.getElem?_map,hy]; rfl) n hn
  obtain ⟨a,rfl,ha⟩:=zda h0
  obtain ⟨b,rfl,hb⟩:=zda h2
  obtain ⟨lh,g1,g2,g3⟩:=zep rdE_rg Tryz.underlying22 h1 (fun a l c e => zdl hrow (i:=1) (by rw [e]; rfl))
  obtain ⟨ll,k1,k2,k3⟩:=zep znw Tryz.underlying23 h3 (fun a l c e => zdl hrow (i:=3) (by rw [e]; rfl))
  obtain ⟨lm,m1,m2,m3⟩:=zep rdE_mk Tryz.underlying24 h4 (fun a l c e => zdl hrow (i:=4) (by rw [e]; rfl))
  have r1:=g3 reachBytes (hwt 1 _ y1 rfl q1)
  have r2:=k3 reachBytes (hwt 3 _ y3 rfl q3)
  have r3:=m3 reachBytes (hwt 4 _ y4 rfl q4)
  rw [bytes_1] at r1
  rw [zsM] at r2
  rw [bytes_3] at r3
  refine ⟨⟨a,lh,b,ll,lm⟩,⟨ha,hb,g1,k1,m1,r1,r2,r3⟩,.agg _ _ rfl fun i hi => ?_⟩
  match i,hi with
  | 0,_ => exact .int _ _
  | 1,_ => exact g2
  | 2,_ => exact .int _ _
  | 3,_ => exact k2
  | 4,_ => exact m2
theorem own:ownKnob Tryz.prog.godebug = none:=by kernel_rfl
theorem laidOut:laidOutB Tryz.prog = true:=by kernel_rfl
end Go.Proofs
