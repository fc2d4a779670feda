/- The texts H48, R8, joined. -/
import Derived.Test.YtilbconikmpadaaGreatG22
import Derived.Test.YtilbconikmpadaaGreatG6
import Derived.Test.YtilbconikmpadaaGreatG11
import Derived.Test.YtilbconikmpadaaGreatG12
set_option linter.all false
namespace Go.Proofs
open Go.Fs
set_option maxHeartbeats 4000000
set_option maxRecDepth 8000
def zdE (k:Nat):Yd:=⟨⟨3,[⟨2,4⟩,⟨5,6⟩,⟨8,9⟩,⟨4,5⟩],4,[5,3,8],[]⟩,1,[⟨0,1,2⟩,⟨1,1,2⟩,⟨2,2,1⟩],[],[⟨0,1⟩,⟨1,1⟩].take k⟩
instance:DecidableEq Rg:=fun a b => if h:a.lo = b.lo ∧ a.hi = b.hi then .isTrue (by cases a; cases b; obtain ⟨h1,h2⟩:=h; simp only at h1 h2; rw [h1,h2]) else .isFalse fun e => h (by rw [e]; exact ⟨rfl,rfl⟩)
instance:DecidableEq Sy:=fun a b => if h:a.wet = b.wet ∧ a.rot = b.rot ∧ a.free = b.free then .isTrue (by cases a; cases b; obtain ⟨h1,h2,h3⟩:=h; simp only at h1 h2 h3; rw [h1,h2,h3]) else .isFalse fun e => h (by rw [e]; exact ⟨rfl,rfl,rfl⟩)
instance {α β γ:Type} [DecidableEq α] [DecidableEq β] [DecidableEq γ]:DecidableEq (Tri8 α β γ):=fun a b => if h:a.a = b.a ∧ a.b = b.b ∧ a.c = b.c then .isTrue (by cases a; cases b; obtain ⟨h1,h2,h3⟩:=h; simp only at h1 h2 h3; rw [h1,h2,h3]) else .isFalse fun e => h (by rw [e]; exact ⟨rfl,rfl,rfl⟩)
def worst3:List Int:=(zl8 (zdE 0) []).b
def order3:List Int:=(zuF (zdE 0)).a
theorem ey1:zjG (zdE 0) [] [3,6,8,4] = ([⟨2,2,[0]⟩,⟨3,2,[0]⟩,⟨0,4,[0,1,2,3]⟩],0):=by decide +kernel
theorem ey2:zl8 (zdE 0) [] = ⟨3,worst3,0⟩:=by decide +kernel
theorem ey3:zuF (zdE 0) = ⟨order3,0,0⟩:=by decide +kernel
theorem ey4:freeR (zdE 0) [0,1,2] 1 2 = (1,0):=by decide +kernel
theorem ey5:znH (zdE 0) [0,1,2] 1 = (⟨2,4⟩,0):=by decide +kernel
theorem ey6:zj3 (zdE 2) = (1,0):=by decide +kernel
theorem ey7:zjY (zdE 2) = ([1],0):=by decide +kernel
theorem ey8:znd (zdE 0) worst3 = true:=by decide +kernel
theorem ey9:zjE (zdE 0) order3 0 = true:=by decide +kernel
theorem ey10:worst3.length ≤ 4096 ∧ order3.length ≤ 4096:=by decide +kernel
theorem zgX (k:Nat) (h:k ≤ 2):zaQ Tryz.prog 49 [Enc.enc (k:Int)] (· = Enc.enc (zdE k)):=by
 rcases (by omega:k = 0 ∨ k = 1 ∨ k = 2) with rfl | rfl | rfl
 all_goals
  unfold zdE
  simp only [zb5]
  refine cpz zri Tryz.func49 zaC ?_
  rw [Tryz.ntmps49]
  simp only [Tryz.f49,zah,zam]
  simp (maxSteps:=4000000) only [go_sem,AV.one,zae,zac,zad,zan,zaq,zaa,czb,cza,↓reduceIte,zaE,zab,zay,onz]
  all_goals (repeat' first | (with_reducible first | rfl | apply And.intro | assumption) | ((with_reducible show zaj _ _ = true); rfl)) <;> try first | omega | (simp only [InR]; omega)
  rfl
theorem ziv (k:Int) (h:k = 0 ∨ k = 1 ∨ k = 2):zaQ Tryz.prog 49 [Enc.enc k] (· = Enc.enc (zdE k.toNat)):=by
 rcases h with rfl | rfl | rfl
 ·exact zgX 0 (by decide)
 ·exact zgX 1 (by decide)
 ·exact zgX 2 (by decide)
theorem ztm (k:Nat):(zdE k).t.heights.length = 4 ∧ (zdE k).order.length = 0 ∧ (zdE k).chairs.length = 3:=⟨rfl,rfl,rfl⟩
def PW8 (T:Int → Yd):zaJ:=zaz 49 (zcM (fun k:Int => k = 0 ∨ k = 1 ∨ k = 2) T) P157
theorem zcW (T:Int → Yd) (g:FuncId):PW8 T g = (zaz 49 (zcM (fun k:Int => k = 0 ∨ k = 1 ∨ k = 2) T) P157) g:=rfl
theorem PW8_flag (T:Int → Yd) (d:Option Nat):zaG (PW8 T) d = none:=(zag (by decide) d).trans (zkr d)
attribute [go_sem] PW8_flag
theorem PW8_ok {T:Int → Yd} (h:∀ k:Int,(k = 0 ∨ k = 1 ∨ k = 2) → zaQ Tryz.prog 49 [Enc.enc k] (· = Enc.enc (T k))):zaA Tryz.prog (PW8 T):=zai (zbi h) zri
theorem zuJ (T:Int → Yd) (h:∀ k:Int,(k = 0 ∨ k = 1 ∨ k = 2) → zaQ Tryz.prog 49 [Enc.enc k] (· = Enc.enc (T k))) (hT:∀ k:Int,(T k).t.heights.length = 4 ∧ (T k).order.length = 0 ∧ (T k).chairs.length = 3) (W O:List Int)
  (ex1:zjG (T 0) [] [3,6,8,4] = ([⟨2,2,[0]⟩,⟨3,2,[0]⟩,⟨0,4,[0,1,2,3]⟩],0)) (ex2:zl8 (T 0) [] = ⟨3,W,0⟩) (ex3:zuF (T 0) = ⟨O,0,0⟩) (ex4:freeR (T 0) [0,1,2] 1 2 = (1,0)) (ex5:znH (T 0) [0,1,2] 1 = (⟨2,4⟩,0))
  (ex6:zj3 (T 2) = (1,0)) (ex7:zjY (T 2) = ([1],0)) (ex8:znd (T 0) W = true) (ex9:zjE (T 0) O 0 = true) (hW:W.length ≤ 4096) (hO:O.length ≤ 4096):zaQ Tryz.prog 20 [] (· = Enc.enc true):=by
 have h0:=hT 0
 have h2:=hT 2
 clear hT
 have st1:zkU ⟨2,2,[0]⟩ 2 2 [0] = true:=by decide
 have st2:zkU ⟨3,2,[0]⟩ 3 2 [0] = true:=by decide
 have st3:zkU ⟨0,4,[0,1,2,3]⟩ 0 4 [0,1,2,3] = true:=by decide
 simp only [zje]
 refine cpz (PW8_ok h) Tryz.func20 zaC ?_
 rw [Tryz.ntmps20]
 simp only [Tryz.f20,zah,zam]
 refine zaB fun Q' hQ => ?_
 simp (maxSteps:=4000000) only [go_sem,AV.one,zae,zac,zad,zan,zaq,zaa,czb,cza,↓reduceIte,zaE,zab,zay,onz,zcW]
 all_goals (repeat' first | (with_reducible first | rfl | apply And.intro | assumption) | ((with_reducible show zaj _ _ = true); rfl)) <;> try first | omega | (simp only [InR]; omega)
 rw [hQ]
 clear hQ Q'
 simp only [zaU]
 refine zaB fun Q' hQ => ?_
 simp (maxSteps:=4000000) only [go_sem,AV.one,zae,zac,zad,zan,zaq,zaa,czb,cza,↓reduceIte,zaE,zab,zay,onz,zcW,ex1]
 all_goals (repeat' first | (with_reducible first | rfl | apply And.intro | assumption) | ((with_reducible show zaj _ _ = true); rfl)) <;> try first | omega | (simp only [InR]; omega)
 rw [hQ]
 clear hQ Q'
 simp only [zaU]
 refine zaB fun Q' hQ => ?_
 simp (maxSteps:=4000000) only [go_sem,AV.one,zae,zac,zad,zan,zaq,zaa,czb,cza,↓reduceIte,zaE,zab,zay,onz,zcW,ex2]
 all_goals (repeat' first | (with_reducible first | rfl | apply And.intro | assumption) | ((with_reducible show zaj _ _ = true); rfl)) <;> try first | omega | (simp only [InR]; omega)
 rw [hQ]
 clear hQ Q'
 simp only [zaU]
 refine zaB fun Q' hQ => ?_
 simp (maxSteps:=4000000) only [go_sem,AV.one,zae,zac,zad,zan,zaq,zaa,czb,cza,↓reduceIte,zaE,zab,zay,onz,zcW,ex3]
 all_goals (repeat' first | (with_reducible first | rfl | apply And.intro | assumption) | ((with_reducible show zaj _ _ = true); rfl)) <;> try first | omega | (simp only [InR]; omega)
 rw [hQ]
 clear hQ Q'
 simp only [zaU]
 refine zaB fun Q' hQ => ?_
 simp (maxSteps:=4000000) only [go_sem,AV.one,zae,zac,zad,zan,zaq,zaa,czb,cza,↓reduceIte,zaE,zab,zay,onz,zcW,ex4]
 all_goals (repeat' first | (with_reducible first | rfl | apply And.intro | assumption) | ((with_reducible show zaj _ _ = true); rfl)) <;> try first | omega | (simp only [InR]; omega)
 rw [hQ]
 clear hQ Q'
 simp only [zaU]
 refine zaB fun Q' hQ => ?_
 simp (maxSteps:=4000000) only [go_sem,AV.one,zae,zac,zad,zan,zaq,zaa,czb,cza,↓reduceIte,zaE,zab,zay,onz,zcW,ex5]
 all_goals (repeat' first | (with_reducible first | rfl | apply And.intro | assumption) | ((with_reducible show zaj _ _ = true); rfl)) <;> try first | omega | (simp only [InR]; omega)
 rw [hQ]
 clear hQ Q'
 simp only [zaU]
 refine zaB fun Q' hQ => ?_
 simp (maxSteps:=4000000) only [go_sem,AV.one,zae,zac,zad,zan,zaq,zaa,czb,cza,↓reduceIte,zaE,zab,zay,onz,zcW,ex6]
 all_goals (repeat' first | (with_reducible first | rfl | apply And.intro | assumption) | ((with_reducible show zaj _ _ = true); rfl)) <;> try first | omega | (simp only [InR]; omega)
 rw [hQ]
 clear hQ Q'
 simp only [zaU]
 refine zaB fun Q' hQ => ?_
 simp (maxSteps:=4000000) only [go_sem,AV.one,zae,zac,zad,zan,zaq,zaa,czb,cza,↓reduceIte,zaE,zab,zay,onz,zcW,ex7]
 all_goals (repeat' first | (with_reducible first | rfl | apply And.intro | assumption) | ((with_reducible show zaj _ _ = true); rfl)) <;> try first | omega | (simp only [InR]; omega)
 rw [hQ]
 clear hQ Q'
 simp only [zaU]
 refine zaB fun Q' hQ => ?_
 rw [zmK]
 refine vcOps_ds fun ds hds => ?_
 refine zcA [1,2,3,4,5,6,7,8,9,10,11,12,13,14,15,16] fun tm' h => ?_
 simp (maxSteps:=4000000) only [lk,czn,czk,or_false,forall_eq_or_imp,forall_eq,Nat.reduceEqDiff,if_true,if_false,↓reduceIte] at h
 obtain ⟨l1,l2,l3,l4,l5,l6,l7,l8,l9,l10,l11,l12,l13,l14,l15,l16⟩:=h
 have d2:ds.getD 2 none = some 59:=by rw [hds]; rfl
 have d7:ds.getD 7 none = some 64:=by rw [hds]; rfl
 have d14:ds.getD 14 none = some 71:=by rw [hds]; rfl
 have d21:ds.getD 21 none = some 78:=by rw [hds]; rfl
 have d28:ds.getD 28 none = some 85:=by rw [hds]; rfl
 have d32:ds.getD 32 none = some 89:=by rw [hds]; rfl
 have d36:ds.getD 36 none = some 93:=by rw [hds]; rfl
 have d41:ds.getD 41 none = some 98:=by rw [hds]; rfl
 have d45:ds.getD 45 none = some 102:=by rw [hds]; rfl
 have d49:ds.getD 49 none = some 106:=by rw [hds]; rfl
 have d54:ds.getD 54 none = some 111:=by rw [hds]; rfl
 have d58:ds.getD 58 none = some 115:=by rw [hds]; rfl
 have d62:ds.getD 62 none = some 119:=by rw [hds]; rfl
 have d66:ds.getD 66 none = some 123:=by rw [hds]; rfl
 have d71:ds.getD 71 none = some 128:=by rw [hds]; rfl
 have d75:ds.getD 75 none = some 132:=by rw [hds]; rfl
 have d79:ds.getD 79 none = some 136:=by rw [hds]; rfl
 have d83:ds.getD 83 none = some 140:=by rw [hds]; rfl
 clear hds
 refine zcw 8 fun K' hK => ?_
 simp (maxSteps:=4000000) only [go_sem,AV.one,zae,zac,zad,zan,zaq,zaa,czb,cza,↓reduceIte,zaE,zab,zay,onz,Int.cast_ofNat_Int,List.append_eq,zcW,ex8,ex9,st1,st2,st3,hW,hO,l1,l2,l3,l4,l5,l6,l7,l8,l9,l10,l11,l12,l13,l14,l15,l16,d2]
 all_goals (repeat' first | (with_reducible first | rfl | apply And.intro | assumption) | ((with_reducible show zaj _ _ = true); rfl)) <;> try first | omega | (simp only [InR]; omega)
 rw [hK]
 clear hK K'
 refine zcA [1,3,4,5,6,7,8,9,10,11,12,13,14,15,16,64] fun tm' h => ?_
 simp (maxSteps:=4000000) only [lk,czn,czk,or_false,forall_eq_or_imp,forall_eq,Nat.reduceEqDiff,if_true,if_false,↓reduceIte,l1,l2,l3,l4,l5,l6,l7,l8,l9,l10,l11,l12,l13,l14,l15,l16,d2] at h
 clear l1 l2 l3 l4 l5 l6 l7 l8 l9 l10 l11 l12 l13 l14 l15 l16
 obtain ⟨l1,l3,l4,l5,l6,l7,l8,l9,l10,l11,l12,l13,l14,l15,l16,l64⟩:=h
 refine zcw 7 fun K' hK => ?_
 simp (maxSteps:=4000000) only [go_sem,AV.one,zae,zac,zad,zan,zaq,zaa,czb,cza,↓reduceIte,zaE,zab,zay,onz,Int.cast_ofNat_Int,List.append_eq,zcW,ex8,ex9,st1,st2,st3,hW,hO,l1,l3,l4,l5,l6,l7,l8,l9,l10,l11,l12,l13,l14,l15,l16,l64,d7]
 all_goals (repeat' first | (with_reducible first | rfl | apply And.intro | assumption) | ((with_reducible show zaj _ _ = true); rfl)) <;> try first | omega | (simp only [InR]; omega)
 rw [hK]
 clear hK K'
 refine zcA [1,3,4,5,6,7,8,9,10,11,12,13,14,15,16,71] fun tm' h => ?_
 simp (maxSteps:=4000000) only [lk,czn,czk,or_false,forall_eq_or_imp,forall_eq,Nat.reduceEqDiff,if_true,if_false,↓reduceIte,l1,l3,l4,l5,l6,l7,l8,l9,l10,l11,l12,l13,l14,l15,l16,l64,d7] at h
 clear l1 l3 l4 l5 l6 l7 l8 l9 l10 l11 l12 l13 l14 l15 l16 l64
 obtain ⟨l1,l3,l4,l5,l6,l7,l8,l9,l10,l11,l12,l13,l14,l15,l16,l71⟩:=h
 refine zcw 7 fun K' hK => ?_
 simp (maxSteps:=4000000) only [go_sem,AV.one,zae,zac,zad,zan,zaq,zaa,czb,cza,↓reduceIte,zaE,zab,zay,onz,Int.cast_ofNat_Int,List.append_eq,zcW,ex8,ex9,st1,st2,st3,hW,hO,l1,l3,l4,l5,l6,l7,l8,l9,l10,l11,l12,l13,l14,l15,l16,l71,d14]
 all_goals (repeat' first | (with_reducible first | rfl | apply And.intro | assumption) | ((with_reducible show zaj _ _ = true); rfl)) <;> try first | omega | (simp only [InR]; omega)
 rw [hK]
 clear hK K'
 refine zcA [1,3,4,5,6,7,8,9,10,11,12,13,14,15,16,78] fun tm' h => ?_
 simp (maxSteps:=4000000) only [lk,czn,czk,or_false,forall_eq_or_imp,forall_eq,Nat.reduceEqDiff,if_true,if_false,↓reduceIte,l1,l3,l4,l5,l6,l7,l8,l9,l10,l11,l12,l13,l14,l15,l16,l71,d14] at h
 clear l1 l3 l4 l5 l6 l7 l8 l9 l10 l11 l12 l13 l14 l15 l16 l71
 obtain ⟨l1,l3,l4,l5,l6,l7,l8,l9,l10,l11,l12,l13,l14,l15,l16,l78⟩:=h
 refine zcw 10 fun K' hK => ?_
 simp (maxSteps:=4000000) only [go_sem,AV.one,zae,zac,zad,zan,zaq,zaa,czb,cza,↓reduceIte,zaE,zab,zay,onz,Int.cast_ofNat_Int,List.append_eq,zcW,ex8,ex9,st1,st2,st3,hW,hO,l1,l3,l4,l5,l6,l7,l8,l9,l10,l11,l12,l13,l14,l15,l16,l78,d21,d28]
 all_goals (repeat' first | (with_reducible first | rfl | apply And.intro | assumption) | ((with_reducible show zaj _ _ = true); rfl)) <;> try first | omega | (simp only [InR]; omega)
 rw [hK]
 clear hK K'
 refine zcA [3,4,6,7,8,9,10,11,12,13,14,15,16,88] fun tm' h => ?_
 simp (maxSteps:=4000000) only [lk,czn,czk,or_false,forall_eq_or_imp,forall_eq,Nat.reduceEqDiff,if_true,if_false,↓reduceIte,l1,l3,l4,l5,l6,l7,l8,l9,l10,l11,l12,l13,l14,l15,l16,l78,d21,d28] at h
 clear l1 l3 l4 l5 l6 l7 l8 l9 l10 l11 l12 l13 l14 l15 l16 l78
 obtain ⟨l3,l4,l6,l7,l8,l9,l10,l11,l12,l13,l14,l15,l16,l88⟩:=h
 refine zcw 10 fun K' hK => ?_
 simp (maxSteps:=4000000) only [go_sem,AV.one,zae,zac,zad,zan,zaq,zaa,czb,cza,↓reduceIte,zaE,zab,zay,onz,Int.cast_ofNat_Int,List.append_eq,zcW,ex8,ex9,st1,st2,st3,hW,hO,l3,l4,l6,l7,l8,l9,l10,l11,l12,l13,l14,l15,l16,l88,d32,d36]
 all_goals (repeat' first | (with_reducible first | rfl | apply And.intro | assumption) | ((with_reducible show zaj _ _ = true); rfl)) <;> try first | omega | (simp only [InR]; omega)
 rw [hK]
 clear hK K'
 refine zcA [6,7,8,9,10,11,12,13,14,15,16,98] fun tm' h => ?_
 simp (maxSteps:=4000000) only [lk,czn,czk,or_false,forall_eq_or_imp,forall_eq,Nat.reduceEqDiff,if_true,if_false,↓reduceIte,l3,l4,l6,l7,l8,l9,l10,l11,l12,l13,l14,l15,l16,l88,d32,d36] at h
 clear l3 l4 l6 l7 l8 l9 l10 l11 l12 l13 l14 l15 l16 l88
 obtain ⟨l6,l7,l8,l9,l10,l11,l12,l13,l14,l15,l16,l98⟩:=h
 refine zcw 8 fun K' hK => ?_
 simp (maxSteps:=4000000) only [go_sem,AV.one,zae,zac,zad,zan,zaq,zaa,czb,cza,↓reduceIte,zaE,zab,zay,onz,Int.cast_ofNat_Int,List.append_eq,zcW,ex8,ex9,st1,st2,st3,hW,hO,l6,l7,l8,l9,l10,l11,l12,l13,l14,l15,l16,l98,d41,d45]
 all_goals (repeat' first | (with_reducible first | rfl | apply And.intro | assumption) | ((with_reducible show zaj _ _ = true); rfl)) <;> try first | omega | (simp only [InR]; omega)
 rw [hK]
 clear hK K'
 refine zcA [6,9,10,11,12,13,14,15,16,106] fun tm' h => ?_
 simp (maxSteps:=4000000) only [lk,czn,czk,or_false,forall_eq_or_imp,forall_eq,Nat.reduceEqDiff,if_true,if_false,↓reduceIte,l6,l7,l8,l9,l10,l11,l12,l13,l14,l15,l16,l98,d41,d45] at h
 clear l6 l7 l8 l9 l10 l11 l12 l13 l14 l15 l16 l98
 obtain ⟨l6,l9,l10,l11,l12,l13,l14,l15,l16,l106⟩:=h
 refine zcw 9 fun K' hK => ?_
 simp (maxSteps:=4000000) only [go_sem,AV.one,zae,zac,zad,zan,zaq,zaa,czb,cza,↓reduceIte,zaE,zab,zay,onz,Int.cast_ofNat_Int,List.append_eq,zcW,ex8,ex9,st1,st2,st3,hW,hO,l6,l9,l10,l11,l12,l13,l14,l15,l16,l106,d49,d54]
 all_goals (repeat' first | (with_reducible first | rfl | apply And.intro | assumption) | ((with_reducible show zaj _ _ = true); rfl)) <;> try first | omega | (simp only [InR]; omega)
 rw [hK]
 clear hK K'
 refine zcA [9,11,12,13,14,15,16,115] fun tm' h => ?_
 simp (maxSteps:=4000000) only [lk,czn,czk,or_false,forall_eq_or_imp,forall_eq,Nat.reduceEqDiff,if_true,if_false,↓reduceIte,l6,l9,l10,l11,l12,l13,l14,l15,l16,l106,d49,d54] at h
 clear l6 l9 l10 l11 l12 l13 l14 l15 l16 l106
 obtain ⟨l9,l11,l12,l13,l14,l15,l16,l115⟩:=h
 refine zcw 8 fun K' hK => ?_
 simp (maxSteps:=4000000) only [go_sem,AV.one,zae,zac,zad,zan,zaq,zaa,czb,cza,↓reduceIte,zaE,zab,zay,onz,Int.cast_ofNat_Int,List.append_eq,zcW,ex8,ex9,st1,st2,st3,hW,hO,l9,l11,l12,l13,l14,l15,l16,l115,d58,d62]
 all_goals (repeat' first | (with_reducible first | rfl | apply And.intro | assumption) | ((with_reducible show zaj _ _ = true); rfl)) <;> try first | omega | (simp only [InR]; omega)
 rw [hK]
 clear hK K'
 refine zcA [11,13,14,15,16,123] fun tm' h => ?_
 simp (maxSteps:=4000000) only [lk,czn,czk,or_false,forall_eq_or_imp,forall_eq,Nat.reduceEqDiff,if_true,if_false,↓reduceIte,l9,l11,l12,l13,l14,l15,l16,l115,d58,d62] at h
 clear l9 l11 l12 l13 l14 l15 l16 l115
 obtain ⟨l11,l13,l14,l15,l16,l123⟩:=h
 refine zcw 9 fun K' hK => ?_
 simp (maxSteps:=4000000) only [go_sem,AV.one,zae,zac,zad,zan,zaq,zaa,czb,cza,↓reduceIte,zaE,zab,zay,onz,Int.cast_ofNat_Int,List.append_eq,zcW,ex8,ex9,st1,st2,st3,hW,hO,l11,l13,l14,l15,l16,l123,d66,d71]
 all_goals (repeat' first | (with_reducible first | rfl | apply And.intro | assumption) | ((with_reducible show zaj _ _ = true); rfl)) <;> try first | omega | (simp only [InR]; omega)
 rw [hK]
 clear hK K'
 refine zcA [13,15,16,132] fun tm' h => ?_
 simp (maxSteps:=4000000) only [lk,czn,czk,or_false,forall_eq_or_imp,forall_eq,Nat.reduceEqDiff,if_true,if_false,↓reduceIte,l11,l13,l14,l15,l16,l123,d66,d71] at h
 clear l11 l13 l14 l15 l16 l123
 obtain ⟨l13,l15,l16,l132⟩:=h
 refine zcw 8 fun K' hK => ?_
 simp (maxSteps:=4000000) only [go_sem,AV.one,zae,zac,zad,zan,zaq,zaa,czb,cza,↓reduceIte,zaE,zab,zay,onz,Int.cast_ofNat_Int,List.append_eq,zcW,ex8,ex9,st1,st2,st3,hW,hO,l13,l15,l16,l132,d75,d79]
 all_goals (repeat' first | (with_reducible first | rfl | apply And.intro | assumption) | ((with_reducible show zaj _ _ = true); rfl)) <;> try first | omega | (simp only [InR]; omega)
 rw [hK]
 clear hK K'
 refine zcA [15,140] fun tm' h => ?_
 simp (maxSteps:=4000000) only [lk,czn,czk,or_false,forall_eq_or_imp,forall_eq,Nat.reduceEqDiff,if_true,if_false,↓reduceIte,l13,l15,l16,l132,d75,d79] at h
 clear l13 l15 l16 l132
 obtain ⟨l15,l140⟩:=h
 simp (maxSteps:=4000000) only [go_sem,AV.one,zae,zac,zad,zan,zaq,zaa,czb,cza,↓reduceIte,zaE,zab,zay,onz,Int.cast_ofNat_Int,List.append_eq,zcW,ex8,ex9,st1,st2,st3,hW,hO,l15,l140,d83]
 all_goals (repeat' first | (with_reducible first | rfl | apply And.intro | assumption) | ((with_reducible show zaj _ _ = true); rfl)) <;> try first | omega | (simp only [InR]; omega)
 rw [hQ]
 clear hQ Q'
 simp only [zaU]
 simp (maxSteps:=4000000) only [go_sem,AV.one,zae,zac,zad,zan,zaq,zaa,czb,cza,↓reduceIte,zaE,zab,zay,onz]
theorem zq3:zaQ Tryz.prog 20 [] (· = Enc.enc true) :=
 zuJ (fun k => zdE k.toNat) ziv (fun k => ztm _) worst3 order3 ey1 ey2 ey3 ey4 ey5 ey6 ey7 ey8 ey9 ey10.1 ey10.2
def P158 (g:FuncId):=(zaz 49 (zcM (fun k:Int => k = 0 ∨ k = 1 ∨ k = 2) (fun k => zdE k.toNat)) (zaz 20 (ztq true) (P157)):zaJ) g
theorem P158_ok:zaA Tryz.prog P158:=zai (zbi ziv) (zai (zlK zq3) (zri))
theorem P158_flag (d:Option Nat):zaG P158 d = none:=(zag (by decide) d).trans ((zag (by decide) d).trans (zkr d))
attribute [go_sem] P158 P158_flag
set_option maxRecDepth 100000
def ChIn (c:Ch):Prop:=InR .i64 c.row ∧ InR .i64 c.hours ∧ InR .i64 c.rot
theorem rdE_ch:RdE Tryz.prog 108 Ch ChIn :=
 ⟨by kernel_rfl,fun enc w base spare held fuel cs x h => by
  obtain ⟨hl,xs,_,_,hf⟩:=zgB Tryz.underlying108 h
  have hl:cs.length = 3:=hl.trans (by kernel_rfl)
  match cs,hl with
  | [c0,c1,c2],_ =>
   obtain ⟨n0,y0,_,h0⟩:=hf 0 _ rfl
   obtain ⟨n1,y1,_,h1⟩:=hf 1 _ rfl
   obtain ⟨n2,y2,_,h2⟩:=hf 2 _ rfl
   simp only [zeI,List.getElem_toArray,List.getElem_cons_zero,List.getElem_cons_succ,List.drop_zero,List.drop_succ_cons,List.take_succ_cons,List.take_zero] at h0 h1 h2
   obtain ⟨a,rfl,ha⟩:=zdj h0
   obtain ⟨b,rfl,hb⟩:=zdj h1
   obtain ⟨c,rfl,hc⟩:=zdj h2
   refine ⟨⟨a,b,c⟩,⟨ha,hb,hc⟩,rfl,fun i hi => ?_⟩
   match i,hi with
   | 0,_ => exact .int _ _
   | 1,_ => exact .int _ _
   | 2,_ => exact .int _ _⟩
theorem rdE_hr:RdE Tryz.prog 113 Rg RgIn :=
 ⟨by kernel_rfl,fun enc w base spare held fuel cs x h => by
  obtain ⟨hl,xs,_,_,hf⟩:=zgB Tryz.underlying113 h
  have hl:cs.length = 2:=hl.trans (by kernel_rfl)
  match cs,hl with
  | [c0,c1],_ =>
   obtain ⟨n0,y0,_,h0⟩:=hf 0 _ rfl
   obtain ⟨n1,y1,_,h1⟩:=hf 1 _ rfl
   simp only [zeI,List.getElem_toArray,List.getElem_cons_zero,List.getElem_cons_succ,List.drop_zero,List.drop_succ_cons,List.take_succ_cons,List.take_zero] at h0 h1
   obtain ⟨a,rfl,ha⟩:=zdj h0
   obtain ⟨b,rfl,hb⟩:=zdj h1
   refine ⟨⟨a,b⟩,⟨ha,hb⟩,rfl,fun i hi => ?_⟩
   match i,hi with
   | 0,_ => exact .int _ _
   | 1,_ => exact .int _ _⟩
structure YdIn (y:Yd):Prop where
 t:TbIn y.t
 hands:InR .i64 y.hands
 c:∀ c ∈ y.chairs,ChIn c
 o:∀ n ∈ y.order,InR .i64 n
 h:∀ h ∈ y.hires,RgIn h
 cs:y.chairs.length * 24 ≤ reachBytes
 os:y.order.length * 8 ≤ reachBytes
 hs:y.hires.length * 16 ≤ reachBytes
theorem cells_tb:Tryz.prog.cellsOf 26 = 5:=by kernel_rfl
theorem cells_sl4:Tryz.prog.cellsOf 27 = 1:=by kernel_rfl
theorem cells_sl5:Tryz.prog.cellsOf 28 = 1:=by kernel_rfl
theorem bytes_4:Tryz.prog.bytesOf 108 = 24:=by kernel_rfl
theorem bytes_5:Tryz.prog.bytesOf 113 = 16:=by kernel_rfl
theorem rdV_yd:RdV Tryz.prog 30 Yd YdIn:=fun enc w base v d ps hv ⟨fuel,h⟩ hw => by
 obtain ⟨cs,rfl,hsz,hrow⟩:=ztO Tryz.underlying30 hv
 have hsz:cs.size = 9:=hsz.trans (by kernel_rfl)
 obtain ⟨hl,xs,hx,_,hf⟩:=zgB Tryz.underlying30 h
 obtain ⟨l⟩:=cs
 match l,hsz with
 | [c0,c1,c2,c3,c4,c5,c6,c7,c8],_ =>
  obtain ⟨n0,y0,q0,h0⟩:=hf 0 _ rfl
  obtain ⟨n1,y1,q1,h1⟩:=hf 1 _ rfl
  obtain ⟨n2,y2,q2,h2⟩:=hf 2 _ rfl
  obtain ⟨n3,y3,q3,h3⟩:=hf 3 _ rfl
  obtain ⟨n4,y4,q4,h4⟩:=hf 4 _ rfl
  simp only [Value.cells,zeI,znZ,cells_sl4,cells_sl5,cells_tb,List.getElem_toArray,List.getElem_cons_zero,List.getElem_cons_succ,List.drop_zero,List.drop_succ_cons,List.take_succ_cons,List.take_zero] at h0 h1 h2 h3 h4
  have hwt:∀ (j:Nat) (t:TypeId) (y:DataW _ × List MemPlace),([26,3,27,23,28]:List TypeId)[j]? = some t → xs[j]? = some y → (y.1.weights Tryz.prog t).all (· ≤ reachBytes) = true:=by
   intro j t y ht hy
   rw [czG] at hw ⊢
   intro n hn
   apply hw
   simp only at hx
   rw [hx]
   simp only [DataW.weights,Tryz.underlying30]
   exact DataW.weights_mem_each (j:=j) ht (by rw [List.getElem?_map,hy]; rfl) n hn
  have hwT:=hwt 0 _ y0 rfl q0
  obtain ⟨_,zs,hz,_,hg⟩:=zgB Tryz.underlying26 h0
  obtain ⟨m0,z0,_,j0⟩:=hg 0 _ rfl
  obtain ⟨m1,z1,p1,j1⟩:=hg 1 _ rfl
  obtain ⟨m2,z2,_,j2⟩:=hg 2 _ rfl
  obtain ⟨m3,z3,p3,j3⟩:=hg 3 _ rfl
  obtain ⟨m4,z4,p4,j4⟩:=hg 4 _ rfl
  simp only [Value.cells,zeI,cells_sl1,znZ,cells_sl3,List.getElem_toArray,List.getElem_cons_zero,List.getElem_cons_succ,List.drop_zero,List.drop_succ_cons,List.take_succ_cons,List.take_zero] at j0 j1 j2 j3 j4
  have hwz:∀ (j:Nat) (t:TypeId) (y:DataW _ × List MemPlace),([3,22,3,23,24]:List TypeId)[j]? = some t → zs[j]? = some y → (y.1.weights Tryz.prog t).all (· ≤ reachBytes) = true:=by
   intro j t y ht hy
   rw [czG] at hwT ⊢
   intro n hn
   apply hwT
   rw [hz]
   simp only [DataW.weights,Tryz.underlying26]
   exact DataW.weights_mem_each (j:=j) ht (by rw [List.getElem?_map,hy]; rfl) n hn
  obtain ⟨a,rfl,ha⟩:=zdj j0
  obtain ⟨b,rfl,hb⟩:=zdj j2
  obtain ⟨lh,g1,g2,g3⟩:=zft rdE_rg Tryz.underlying22 j1 (fun a l c e => zer hrow (i:=1) (by rw [e]; rfl))
  obtain ⟨ll,k1,k2,k3⟩:=zft zrY Tryz.underlying23 j3 (fun a l c e => zer hrow (i:=3) (by rw [e]; rfl))
  obtain ⟨lm,e1,e2,e3⟩:=zft rdE_mk Tryz.underlying24 j4 (fun a l c e => zer hrow (i:=4) (by rw [e]; rfl))
  have r1:=g3 reachBytes (hwz 1 _ z1 rfl p1)
  have r2:=k3 reachBytes (hwz 3 _ z3 rfl p3)
  have r3:=e3 reachBytes (hwz 4 _ z4 rfl p4)
  rw [bytes_1] at r1
  rw [bytes_2] at r2
  rw [bytes_3] at r3
  obtain ⟨hd,rfl,hhd⟩:=zdj h1
  obtain ⟨lc,c1,c2,c3⟩:=zft rdE_ch Tryz.underlying27 h2 (fun a l c e => zer hrow (i:=6) (by rw [e]; rfl))
  obtain ⟨lo,o1,o2,o3⟩:=zft zrY Tryz.underlying23 h3 (fun a l c e => zer hrow (i:=7) (by rw [e]; rfl))
  obtain ⟨lr,i1,i2,i3⟩:=zft rdE_hr Tryz.underlying28 h4 (fun a l c e => zer hrow (i:=8) (by rw [e]; rfl))
  have r4:=c3 reachBytes (hwt 2 _ y2 rfl q2)
  have r5:=o3 reachBytes (hwt 3 _ y3 rfl q3)
  have r6:=i3 reachBytes (hwt 4 _ y4 rfl q4)
  rw [bytes_4] at r4
  rw [bytes_2] at r5
  rw [bytes_5] at r6
  refine ⟨⟨⟨a,lh,b,ll,lm⟩,hd,lc,lo,lr⟩,⟨⟨ha,hb,g1,k1,e1,r1,r2,r3⟩,hhd,c1,o1,i1,r4,r5,r6⟩,.agg _ _ rfl fun i hi => ?_⟩
  match i,hi with
  | 0,_ => exact .int _ _
  | 1,_ => exact g2
  | 2,_ => exact .int _ _
  | 3,_ => exact k2
  | 4,_ => exact e2
  | 5,_ => exact .int _ _
  | 6,_ => exact c2
  | 7,_ => exact o2
  | 8,_ => exact i2
end Go.Proofs
