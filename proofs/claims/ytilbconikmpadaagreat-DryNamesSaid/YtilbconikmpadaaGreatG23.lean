/- The texts H48, R8, joined. -/
import Derived.Test.YtilbconikmpadaaGreatG22
import Derived.Test.YtilbconikmpadaaGreatG6
import Derived.Test.YtilbconikmpadaaGreatG11
import Derived.Test.YtilbconikmpadaaGreatG12
set_option linter.all false
namespace Go.Proofs
open Go.Fs
set_option maxHeartbeats 4000000
set_option maxRecDepth 8000
def zaZ (k:Nat):Yd:=⟨⟨3,[⟨2,4⟩,⟨5,6⟩,⟨8,9⟩,⟨4,5⟩],4,[5,3,8],[]⟩,1,[⟨0,1,2⟩,⟨1,1,2⟩,⟨2,2,1⟩],[],[⟨0,1⟩,⟨1,1⟩].take k⟩
instance:DecidableEq Rg:=fun a b => if h:a.lo = b.lo ∧ a.hi = b.hi then .isTrue (by cases a; cases b; obtain ⟨h1,h2⟩:=h; simp only at h1 h2; rw [h1,h2]) else .isFalse fun e => h (by rw [e]; exact ⟨rfl,rfl⟩)
instance:DecidableEq Sy:=fun a b => if h:a.wet = b.wet ∧ a.rot = b.rot ∧ a.free = b.free then .isTrue (by cases a; cases b; obtain ⟨h1,h2,h3⟩:=h; simp only at h1 h2 h3; rw [h1,h2,h3]) else .isFalse fun e => h (by rw [e]; exact ⟨rfl,rfl,rfl⟩)
instance {α β γ:Type} [DecidableEq α] [DecidableEq β] [DecidableEq γ]:DecidableEq (Tri8 α β γ):=fun a b => if h:a.a = b.a ∧ a.b = b.b ∧ a.c = b.c then .isTrue (by cases a; cases b; obtain ⟨h1,h2,h3⟩:=h; simp only at h1 h2 h3; rw [h1,h2,h3]) else .isFalse fun e => h (by rw [e]; exact ⟨rfl,rfl,rfl⟩)
def worst3:List Int:=(zfb (zaZ 0) []).b
def order3:List Int:=(zui (zaZ 0)).a
theorem ey1:zgb (zaZ 0) [] [3,6,8,4] = ([⟨2,2,[0]⟩,⟨3,2,[0]⟩,⟨0,4,[0,1,2,3]⟩],0):=by decide +kernel
theorem ey2:zfb (zaZ 0) [] = ⟨3,worst3,0⟩:=by decide +kernel
theorem ey3:zui (zaZ 0) = ⟨order3,0,0⟩:=by decide +kernel
theorem ey4:freeR (zaZ 0) [0,1,2] 1 2 = (1,0):=by decide +kernel
theorem ey5:zhJ (zaZ 0) [0,1,2] 1 = (⟨2,4⟩,0):=by decide +kernel
theorem ey6:zhb (zaZ 2) = (1,0):=by decide +kernel
theorem ey7:zg6 (zaZ 2) = ([1],0):=by decide +kernel
theorem ey8:zf9 (zaZ 0) worst3 = true:=by decide +kernel
theorem ey9:zdW (zaZ 0) order3 0 = true:=by decide +kernel
theorem ey10:worst3.length ≤ 4096 ∧ order3.length ≤ 4096:=by decide +kernel
theorem zgW (k:Nat) (h:k ≤ 2):zaP Tryz.prog 49 [Enc.enc (k:Int)] (· = Enc.enc (zaZ k)):=by
 rcases (by omega:k = 0 ∨ k = 1 ∨ k = 2) with rfl | rfl | rfl
 all_goals
  unfold zaZ
  simp only [zcf]
  refine cpz zmj Tryz.func49 zaB ?_
  rw [Tryz.ntmps49]
  simp only [Tryz.f49,zai,zam]
  simp (maxSteps:=4000000) only [go_sem,AV.one,zae,zac,zad,zan,zaq,zaa,czb,cza,↓reduceIte,zaH,zab,zay,onz]
  all_goals (repeat' first | (with_reducible first | rfl | apply And.intro | assumption) | ((with_reducible show zaj _ _ = true); rfl)) <;> try first | omega | (simp only [InR]; omega)
  rfl
theorem zfZ (k:Int) (h:k = 0 ∨ k = 1 ∨ k = 2):zaP Tryz.prog 49 [Enc.enc k] (· = Enc.enc (zaZ k.toNat)):=by
 rcases h with rfl | rfl | rfl
 ·exact zgW 0 (by decide)
 ·exact zgW 1 (by decide)
 ·exact zgW 2 (by decide)
theorem zkK (k:Nat):(zaZ k).t.heights.length = 4 ∧ (zaZ k).order.length = 0 ∧ (zaZ k).chairs.length = 3:=⟨rfl,rfl,rfl⟩
def PW8 (T:Int → Yd):zaJ:=zas 49 (zcC (fun k:Int => k = 0 ∨ k = 1 ∨ k = 2) T) P157
theorem zcZ (T:Int → Yd) (g:FuncId):PW8 T g = (zas 49 (zcC (fun k:Int => k = 0 ∨ k = 1 ∨ k = 2) T) P157) g:=rfl
theorem PW8_flag (T:Int → Yd) (d:Option Nat):zaF (PW8 T) d = none:=(zag (by decide) d).trans (zkh d)
attribute [go_sem] PW8_flag
theorem PW8_ok {T:Int → Yd} (h:∀ k:Int,(k = 0 ∨ k = 1 ∨ k = 2) → zaP Tryz.prog 49 [Enc.enc k] (· = Enc.enc (T k))):zaz Tryz.prog (PW8 T):=zah (zbj h) zmj
theorem zum (T:Int → Yd) (h:∀ k:Int,(k = 0 ∨ k = 1 ∨ k = 2) → zaP Tryz.prog 49 [Enc.enc k] (· = Enc.enc (T k))) (hT:∀ k:Int,(T k).t.heights.length = 4 ∧ (T k).order.length = 0 ∧ (T k).chairs.length = 3) (W O:List Int)
  (ex1:zgb (T 0) [] [3,6,8,4] = ([⟨2,2,[0]⟩,⟨3,2,[0]⟩,⟨0,4,[0,1,2,3]⟩],0)) (ex2:zfb (T 0) [] = ⟨3,W,0⟩) (ex3:zui (T 0) = ⟨O,0,0⟩) (ex4:freeR (T 0) [0,1,2] 1 2 = (1,0)) (ex5:zhJ (T 0) [0,1,2] 1 = (⟨2,4⟩,0))
  (ex6:zhb (T 2) = (1,0)) (ex7:zg6 (T 2) = ([1],0)) (ex8:zf9 (T 0) W = true) (ex9:zdW (T 0) O 0 = true) (hW:W.length ≤ 4096) (hO:O.length ≤ 4096):zaP Tryz.prog 20 [] (· = Enc.enc true):=by
 have h0:=hT 0
 have h2:=hT 2
 clear hT
 have st1:zjl ⟨2,2,[0]⟩ 2 2 [0] = true:=by decide
 have st2:zjl ⟨3,2,[0]⟩ 3 2 [0] = true:=by decide
 have st3:zjl ⟨0,4,[0,1,2,3]⟩ 0 4 [0,1,2,3] = true:=by decide
 simp only [zhP]
 refine cpz (PW8_ok h) Tryz.func20 zaB ?_
 rw [Tryz.ntmps20]
 simp only [Tryz.f20,zai,zam]
 refine zaC fun Q' hQ => ?_
 simp (maxSteps:=4000000) only [go_sem,AV.one,zae,zac,zad,zan,zaq,zaa,czb,cza,↓reduceIte,zaH,zab,zay,onz,zcZ]
 all_goals (repeat' first | (with_reducible first | rfl | apply And.intro | assumption) | ((with_reducible show zaj _ _ = true); rfl)) <;> try first | omega | (simp only [InR]; omega)
 rw [hQ]
 clear hQ Q'
 simp only [zaW]
 refine zaC fun Q' hQ => ?_
 simp (maxSteps:=4000000) only [go_sem,AV.one,zae,zac,zad,zan,zaq,zaa,czb,cza,↓reduceIte,zaH,zab,zay,onz,zcZ,ex1]
 all_goals (repeat' first | (with_reducible first | rfl | apply And.intro | assumption) | ((with_reducible show zaj _ _ = true); rfl)) <;> try first | omega | (simp only [InR]; omega)
 rw [hQ]
 clear hQ Q'
 simp only [zaW]
 refine zaC fun Q' hQ => ?_
 simp (maxSteps:=4000000) only [go_sem,AV.one,zae,zac,zad,zan,zaq,zaa,czb,cza,↓reduceIte,zaH,zab,zay,onz,zcZ,ex2]
 all_goals (repeat' first | (with_reducible first | rfl | apply And.intro | assumption) | ((with_reducible show zaj _ _ = true); rfl)) <;> try first | omega | (simp only [InR]; omega)
 rw [hQ]
 clear hQ Q'
 simp only [zaW]
 refine zaC fun Q' hQ => ?_
 simp (maxSteps:=4000000) only [go_sem,AV.one,zae,zac,zad,zan,zaq,zaa,czb,cza,↓reduceIte,zaH,zab,zay,onz,zcZ,ex3]
 all_goals (repeat' first | (with_reducible first | rfl | apply And.intro | assumption) | ((with_reducible show zaj _ _ = true); rfl)) <;> try first | omega | (simp only [InR]; omega)
 rw [hQ]
 clear hQ Q'
 simp only [zaW]
 refine zaC fun Q' hQ => ?_
 simp (maxSteps:=4000000) only [go_sem,AV.one,zae,zac,zad,zan,zaq,zaa,czb,cza,↓reduceIte,zaH,zab,zay,onz,zcZ,ex4]
 all_goals (repeat' first | (with_reducible first | rfl | apply And.intro | assumption) | ((with_reducible show zaj _ _ = true); rfl)) <;> try first | omega | (simp only [InR]; omega)
 rw [hQ]
 clear hQ Q'
 simp only [zaW]
 refine zaC fun Q' hQ => ?_
 simp (maxSteps:=4000000) only [go_sem,AV.one,zae,zac,zad,zan,zaq,zaa,czb,cza,↓reduceIte,zaH,zab,zay,onz,zcZ,ex5]
 all_goals (repeat' first | (with_reducible first | rfl | apply And.intro | assumption) | ((with_reducible show zaj _ _ = true); rfl)) <;> try first | omega | (simp only [InR]; omega)
 rw [hQ]
 clear hQ Q'
 simp only [zaW]
 refine zaC fun Q' hQ => ?_
 simp (maxSteps:=4000000) only [go_sem,AV.one,zae,zac,zad,zan,zaq,zaa,czb,cza,↓reduceIte,zaH,zab,zay,onz,zcZ,ex6]
 all_goals (repeat' first | (with_reducible first | rfl | apply And.intro | assumption) | ((with_reducible show zaj _ _ = true); rfl)) <;> try first | omega | (simp only [InR]; omega)
 rw [hQ]
 clear hQ Q'
 simp only [zaW]
 refine zaC fun Q' hQ => ?_
 simp (maxSteps:=4000000) only [go_sem,AV.one,zae,zac,zad,zan,zaq,zaa,czb,cza,↓reduceIte,zaH,zab,zay,onz,zcZ,ex7]
 all_goals (repeat' first | (with_reducible first | rfl | apply And.intro | assumption) | ((with_reducible show zaj _ _ = true); rfl)) <;> try first | omega | (simp only [InR]; omega)
 rw [hQ]
 clear hQ Q'
 simp only [zaW]
 refine zaC fun Q' hQ => ?_
 rw [zmu]
 refine vcOps_ds fun ds hds => ?_
 refine zcA [1,2,3,4,5,6,7,8,9,10,11,12,13,14,15,16] fun tm' h => ?_
 simp (maxSteps:=4000000) only [lk,czn,czk,or_false,forall_eq_or_imp,forall_eq,Nat.reduceEqDiff,if_true,if_false,↓reduceIte] at h
 obtain ⟨l1,l2,l3,l4,l5,l6,l7,l8,l9,l10,l11,l12,l13,l14,l15,l16⟩:=h
 have d2:ds.getD 2 none = some 59:=by rw [hds]; rfl
 have d7:ds.getD 7 none = some 64:=by rw [hds]; rfl
 have d14:ds.getD 14 none = some 71:=by rw [hds]; rfl
 have d21:ds.getD 21 none = some 78:=by rw [hds]; rfl
 have d28:ds.getD 28 none = some 85:=by rw [hds]; rfl
 have d32:ds.getD 32 none = some 89:=by rw [hds]; rfl
 have d36:ds.getD 36 none = some 93:=by rw [hds]; rfl
 have d41:ds.getD 41 none = some 98:=by rw [hds]; rfl
 have d45:ds.getD 45 none = some 102:=by rw [hds]; rfl
 have d49:ds.getD 49 none = some 106:=by rw [hds]; rfl
 have d54:ds.getD 54 none = some 111:=by rw [hds]; rfl
 have d58:ds.getD 58 none = some 115:=by rw [hds]; rfl
 have d62:ds.getD 62 none = some 119:=by rw [hds]; rfl
 have d66:ds.getD 66 none = some 123:=by rw [hds]; rfl
 have d71:ds.getD 71 none = some 128:=by rw [hds]; rfl
 have d75:ds.getD 75 none = some 132:=by rw [hds]; rfl
 have d79:ds.getD 79 none = some 136:=by rw [hds]; rfl
 have d83:ds.getD 83 none = some 140:=by rw [hds]; rfl
 clear hds
 refine zcw 8 fun K' hK => ?_
 simp (maxSteps:=4000000) only [go_sem,AV.one,zae,zac,zad,zan,zaq,zaa,czb,cza,↓reduceIte,zaH,zab,zay,onz,Int.cast_ofNat_Int,List.append_eq,zcZ,ex8,ex9,st1,st2,st3,hW,hO,l1,l2,l3,l4,l5,l6,l7,l8,l9,l10,l11,l12,l13,l14,l15,l16,d2]
 all_goals (repeat' first | (with_reducible first | rfl | apply And.intro | assumption) | ((with_reducible show zaj _ _ = true); rfl)) <;> try first | omega | (simp only [InR]; omega)
 rw [hK]
 clear hK K'
 refine zcA [1,3,4,5,6,7,8,9,10,11,12,13,14,15,16,64] fun tm' h => ?_
 simp (maxSteps:=4000000) only [lk,czn,czk,or_false,forall_eq_or_imp,forall_eq,Nat.reduceEqDiff,if_true,if_false,↓reduceIte,l1,l2,l3,l4,l5,l6,l7,l8,l9,l10,l11,l12,l13,l14,l15,l16,d2] at h
 clear l1 l2 l3 l4 l5 l6 l7 l8 l9 l10 l11 l12 l13 l14 l15 l16
 obtain ⟨l1,l3,l4,l5,l6,l7,l8,l9,l10,l11,l12,l13,l14,l15,l16,l64⟩:=h
 refine zcw 7 fun K' hK => ?_
 simp (maxSteps:=4000000) only [go_sem,AV.one,zae,zac,zad,zan,zaq,zaa,czb,cza,↓reduceIte,zaH,zab,zay,onz,Int.cast_ofNat_Int,List.append_eq,zcZ,ex8,ex9,st1,st2,st3,hW,hO,l1,l3,l4,l5,l6,l7,l8,l9,l10,l11,l12,l13,l14,l15,l16,l64,d7]
 all_goals (repeat' first | (with_reducible first | rfl | apply And.intro | assumption) | ((with_reducible show zaj _ _ = true); rfl)) <;> try first | omega | (simp only [InR]; omega)
 rw [hK]
 clear hK K'
 refine zcA [1,3,4,5,6,7,8,9,10,11,12,13,14,15,16,71] fun tm' h => ?_
 simp (maxSteps:=4000000) only [lk,czn,czk,or_false,forall_eq_or_imp,forall_eq,Nat.reduceEqDiff,if_true,if_false,↓reduceIte,l1,l3,l4,l5,l6,l7,l8,l9,l10,l11,l12,l13,l14,l15,l16,l64,d7] at h
 clear l1 l3 l4 l5 l6 l7 l8 l9 l10 l11 l12 l13 l14 l15 l16 l64
 obtain ⟨l1,l3,l4,l5,l6,l7,l8,l9,l10,l11,l12,l13,l14,l15,l16,l71⟩:=h
 refine zcw 7 fun K' hK => ?_
 simp (maxSteps:=4000000) only [go_sem,AV.one,zae,zac,zad,zan,zaq,zaa,czb,cza,↓reduceIte,zaH,zab,zay,onz,Int.cast_ofNat_Int,List.append_eq,zcZ,ex8,ex9,st1,st2,st3,hW,hO,l1,l3,l4,l5,l6,l7,l8,l9,l10,l11,l12,l13,l14,l15,l16,l71,d14]
 all_goals (repeat' first | (with_reducible first | rfl | apply And.intro | assumption) | ((with_reducible show zaj _ _ = true); rfl)) <;> try first | omega | (simp only [InR]; omega)
 rw [hK]
 clear hK K'
 refine zcA [1,3,4,5,6,7,8,9,10,11,12,13,14,15,16,78] fun tm' h => ?_
 simp (maxSteps:=4000000) only [lk,czn,czk,or_false,forall_eq_or_imp,forall_eq,Nat.reduceEqDiff,if_true,if_false,↓reduceIte,l1,l3,l4,l5,l6,l7,l8,l9,l10,l11,l12,l13,l14,l15,l16,l71,d14] at h
 clear l1 l3 l4 l5 l6 l7 l8 l9 l10 l11 l12 l13 l14 l15 l16 l71
 obtain ⟨l1,l3,l4,l5,l6,l7,l8,l9,l10,l11,l12,l13,l14,l15,l16,l78⟩:=h
 refine zcw 10 fun K' hK => ?_
 simp (maxSteps:=4000000) only [go_sem,AV.one,zae,zac,zad,zan,zaq,zaa,czb,cza,↓reduceIte,zaH,zab,zay,onz,Int.cast_ofNat_Int,List.append_eq,zcZ,ex8,ex9,st1,st2,st3,hW,hO,l1,l3,l4,l5,l6,l7,l8,l9,l10,l11,l12,l13,l14,l15,l16,l78,d21,d28]
 all_goals (repeat' first | (with_reducible first | rfl | apply And.intro | assumption) | ((with_reducible show zaj _ _ = true); rfl)) <;> try first | omega | (simp only [InR]; omega)
 rw [hK]
 clear hK K'
 refine zcA [3,4,6,7,8,9,10,11,12,13,14,15,16,88] fun tm' h => ?_
 simp (maxSteps:=4000000) only [lk,czn,czk,or_false,forall_eq_or_imp,forall_eq,Nat.reduceEqDiff,if_true,if_false,↓reduceIte,l1,l3,l4,l5,l6,l7,l8,l9,l10,l11,l12,l13,l14,l15,l16,l78,d21,d28] at h
 clear l1 l3 l4 l5 l6 l7 l8 l9 l10 l11 l12 l13 l14 l15 l16 l78
 obtain ⟨l3,l4,l6,l7,l8,l9,l10,l11,l12,l13,l14,l15,l16,l88⟩:=h
 refine zcw 10 fun K' hK => ?_
 simp (maxSteps:=4000000) only [go_sem,AV.one,zae,zac,zad,zan,zaq,zaa,czb,cza,↓reduceIte,zaH,zab,zay,onz,Int.cast_ofNat_Int,List.append_eq,zcZ,ex8,ex9,st1,st2,st3,hW,hO,l3,l4,l6,l7,l8,l9,l10,l11,l12,l13,l14,l15,l16,l88,d32,d36]
 all_goals (repeat' first | (with_reducible first | rfl | apply And.intro | assumption) | ((with_reducible show zaj _ _ = true); rfl)) <;> try first | omega | (simp only [InR]; omega)
 rw [hK]
 clear hK K'
 refine zcA [6,7,8,9,10,11,12,13,14,15,16,98] fun tm' h => ?_
 simp (maxSteps:=4000000) only [lk,czn,czk,or_false,forall_eq_or_imp,forall_eq,Nat.reduceEqDiff,if_true,if_false,↓reduceIte,l3,l4,l6,l7,l8,l9,l10,l11,l12,l13,l14,l15,l16,l88,d32,d36] at h
 clear l3 l4 l6 l7 l8 l9 l10 l11 l12 l13 l14 l15 l16 l88
 obtain ⟨l6,l7,l8,l9,l10,l11,l12,l13,l14,l15,l16,l98⟩:=h
 refine zcw 8 fun K' hK => ?_
 simp (maxSteps:=4000000) only [go_sem,AV.one,zae,zac,zad,zan,zaq,zaa,czb,cza,↓reduceIte,zaH,zab,zay,onz,Int.cast_ofNat_Int,List.append_eq,zcZ,ex8,ex9,st1,st2,st3,hW,hO,l6,l7,l8,l9,l10,l11,l12,l13,l14,l15,l16,l98,d41,d45]
 all_goals (repeat' first | (with_reducible first | rfl | apply And.intro | assumption) | ((with_reducible show zaj _ _ = true); rfl)) <;> try first | omega | (simp only [InR]; omega)
 rw [hK]
 clear hK K'
 refine zcA [6,9,10,11,12,13,14,15,16,106] fun tm' h => ?_
 simp (maxSteps:=4000000) only [lk,czn,czk,or_false,forall_eq_or_imp,forall_eq,Nat.reduceEqDiff,if_true,if_false,↓reduceIte,l6,l7,l8,l9,l10,l11,l12,l13,l14,l15,l16,l98,d41,d45] at h
 clear l6 l7 l8 l9 l10 l11 l12 l13 l14 l15 l16 l98
 obtain ⟨l6,l9,l10,l11,l12,l13,l14,l15,l16,l106⟩:=h
 refine zcw 9 fun K' hK => ?_
 simp (maxSteps:=4000000) only [go_sem,AV.one,zae,zac,zad,zan,zaq,zaa,czb,cza,↓reduceIte,zaH,zab,zay,onz,Int.cast_ofNat_Int,List.append_eq,zcZ,ex8,ex9,st1,st2,st3,hW,hO,l6,l9,l10,l11,l12,l13,l14,l15,l16,l106,d49,d54]
 all_goals (repeat' first | (with_reducible first | rfl | apply And.intro | assumption) | ((with_reducible show zaj _ _ = true); rfl)) <;> try first | omega | (simp only [InR]; omega)
 rw [hK]
 clear hK K'
 refine zcA [9,11,12,13,14,15,16,115] fun tm' h => ?_
 simp (maxSteps:=4000000) only [lk,czn,czk,or_false,forall_eq_or_imp,forall_eq,Nat.reduceEqDiff,if_true,if_false,↓reduceIte,l6,l9,l10,l11,l12,l13,l14,l15,l16,l106,d49,d54] at h
 clear l6 l9 l10 l11 l12 l13 l14 l15 l16 l106
 obtain ⟨l9,l11,l12,l13,l14,l15,l16,l115⟩:=h
 refine zcw 8 fun K' hK => ?_
 simp (maxSteps:=4000000) only [go_sem,AV.one,zae,zac,zad,zan,zaq,zaa,czb,cza,↓reduceIte,zaH,zab,zay,onz,Int.cast_ofNat_Int,List.append_eq,zcZ,ex8,ex9,st1,st2,st3,hW,hO,l9,l11,l12,l13,l14,l15,l16,l115,d58,d62]
 all_goals (repeat' first | (with_reducible first | rfl | apply And.intro | assumption) | ((with_reducible show zaj _ _ = true); rfl)) <;> try first | omega | (simp only [InR]; omega)
 rw [hK]
 clear hK K'
 refine zcA [11,13,14,15,16,123] fun tm' h => ?_
 simp (maxSteps:=4000000) only [lk,czn,czk,or_false,forall_eq_or_imp,forall_eq,Nat.reduceEqDiff,if_true,if_false,↓reduceIte,l9,l11,l12,l13,l14,l15,l16,l115,d58,d62] at h
 clear l9 l11 l12 l13 l14 l15 l16 l115
 obtain ⟨l11,l13,l14,l15,l16,l123⟩:=h
 refine zcw 9 fun K' hK => ?_
 simp (maxSteps:=4000000) only [go_sem,AV.one,zae,zac,zad,zan,zaq,zaa,czb,cza,↓reduceIte,zaH,zab,zay,onz,Int.cast_ofNat_Int,List.append_eq,zcZ,ex8,ex9,st1,st2,st3,hW,hO,l11,l13,l14,l15,l16,l123,d66,d71]
 all_goals (repeat' first | (with_reducible first | rfl | apply And.intro | assumption) | ((with_reducible show zaj _ _ = true); rfl)) <;> try first | omega | (simp only [InR]; omega)
 rw [hK]
 clear hK K'
 refine zcA [13,15,16,132] fun tm' h => ?_
 simp (maxSteps:=4000000) only [lk,czn,czk,or_false,forall_eq_or_imp,forall_eq,Nat.reduceEqDiff,if_true,if_false,↓reduceIte,l11,l13,l14,l15,l16,l123,d66,d71] at h
 clear l11 l13 l14 l15 l16 l123
 obtain ⟨l13,l15,l16,l132⟩:=h
 refine zcw 8 fun K' hK => ?_
 simp (maxSteps:=4000000) only [go_sem,AV.one,zae,zac,zad,zan,zaq,zaa,czb,cza,↓reduceIte,zaH,zab,zay,onz,Int.cast_ofNat_Int,List.append_eq,zcZ,ex8,ex9,st1,st2,st3,hW,hO,l13,l15,l16,l132,d75,d79]
 all_goals (repeat' first | (with_reducible first | rfl | apply And.intro | assumption) | ((with_reducible show zaj _ _ = true); rfl)) <;> try first | omega | (simp only [InR]; omega)
 rw [hK]
 clear hK K'
 refine zcA [15,140] fun tm' h => ?_
 simp (maxSteps:=4000000) only [lk,czn,czk,or_false,forall_eq_or_imp,forall_eq,Nat.reduceEqDiff,if_true,if_false,↓reduceIte,l13,l15,l16,l132,d75,d79] at h
 clear l13 l15 l16 l132
 obtain ⟨l15,l140⟩:=h
 simp (maxSteps:=4000000) only [go_sem,AV.one,zae,zac,zad,zan,zaq,zaa,czb,cza,↓reduceIte,zaH,zab,zay,onz,Int.cast_ofNat_Int,List.append_eq,zcZ,ex8,ex9,st1,st2,st3,hW,hO,l15,l140,d83]
 all_goals (repeat' first | (with_reducible first | rfl | apply And.intro | assumption) | ((with_reducible show zaj _ _ = true); rfl)) <;> try first | omega | (simp only [InR]; omega)
 rw [hQ]
 clear hQ Q'
 simp only [zaW]
 simp (maxSteps:=4000000) only [go_sem,AV.one,zae,zac,zad,zan,zaq,zaa,czb,cza,↓reduceIte,zaH,zab,zay,onz]
theorem zqF:zaP Tryz.prog 20 [] (· = Enc.enc true) :=
 zum (fun k => zaZ k.toNat) zfZ (fun k => zkK _) worst3 order3 ey1 ey2 ey3 ey4 ey5 ey6 ey7 ey8 ey9 ey10.1 ey10.2
def P158 (g:FuncId):=(zas 49 (zcC (fun k:Int => k = 0 ∨ k = 1 ∨ k = 2) (fun k => zaZ k.toNat)) (zas 20 (zs2 true) (P157)):zaJ) g
theorem P158_ok:zaz Tryz.prog P158:=zah (zbj zfZ) (zah (zlw zqF) (zmj))
theorem P158_flag (d:Option Nat):zaF P158 d = none:=(zag (by decide) d).trans ((zag (by decide) d).trans (zkh d))
attribute [go_sem] P158 P158_flag
set_option maxRecDepth 100000
def ChIn (c:Ch):Prop:=InR .i64 c.row ∧ InR .i64 c.hours ∧ InR .i64 c.rot
structure YdIn (y:Yd):Prop where
 t:TbIn y.t
 hands:InR .i64 y.hands
 c:∀ c ∈ y.chairs,ChIn c
 o:∀ n ∈ y.order,InR .i64 n
 h:∀ h ∈ y.hires,RgIn h
 cs:y.chairs.length * 24 ≤ reachBytes
 os:y.order.length * 8 ≤ reachBytes
 hs:y.hires.length * 16 ≤ reachBytes
end Go.Proofs
