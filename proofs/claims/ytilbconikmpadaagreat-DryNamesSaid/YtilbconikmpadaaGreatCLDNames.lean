/- The law DryNames. -/
import Derived.Test.YtilbconikmpadaaGreatG23
import Derived.Test.YtilbconikmpadaaGreatCH60
set_option linter.all false
namespace Go.Proofs
open Go.Fs
set_option maxHeartbeats 4000000
set_option maxRecDepth 8000
theorem en_n1:zgb (zaZ 0) [1,0] [3,6,8,4] = ([⟨0,4,[0,1,2,3]⟩,⟨0,4,[0,1,2,3]⟩,⟨0,4,[0,1,2,3]⟩],0):=by decide +kernel
theorem en_n2:zfb (zaZ 0) [1,0] = ⟨1,(zfb (zaZ 0) [1,0]).b,0⟩:=by decide +kernel
theorem en_n3:zfb (zaZ 0) [1,0,2] = ⟨0,(zfb (zaZ 0) [1,0,2]).b,0⟩:=by decide +kernel
theorem en_n4:zfb (zaZ 1) [] = ⟨2,(zfb (zaZ 1) []).b,0⟩:=by decide +kernel
theorem en_n5:zhJ (zaZ 0) [0,1,2] 0 = (⟨4,4⟩,0):=by decide +kernel
theorem en_n6:zg6 (zaZ 1) = ([],0):=by decide +kernel
theorem en_n7:freeR (zaZ 0) [0,1,2] 1 0 = (3,0):=by decide +kernel
theorem en_n8:freeR (zaZ 0) [0,1,2] 1 1 = (3,0):=by decide +kernel
theorem en_n9:zf9 (zaZ 1) [3,5,8,4] = true:=by decide +kernel
theorem en_n10:zf9 (zaZ 1) [3,6,8,4] = false:=by decide +kernel
theorem en_n11:zf9 (zaZ 0) [3,6,9,4] = false:=by decide +kernel
theorem en_n12:zdW (zaZ 0) [1,0] 1 = true:=by decide +kernel
theorem en_n13:zdW (zaZ 0) [1,0] 0 = false:=by decide +kernel
theorem en_n14:zdW (zaZ 0) [1,1] 5 = false:=by decide +kernel
theorem en_n15:zdW (zaZ 2) [] 5 = false:=by decide +kernel
theorem en_n16:zgb (zaZ 0) [0,0] [3,6,8,4] = ([],2):=by decide +kernel
theorem en_n17:zgb (zaZ 0) [] [3,6,9,4] = ([],2):=by decide +kernel
theorem en_n18:freeR (zaZ 2) [] 3 0 = (0,2):=by decide +kernel
theorem en_n19:freeR (zaZ 0) [] 0 4 = (0,2):=by decide +kernel
theorem en_n20:zhJ (zaZ 0) [3] 0 = (⟨0,0⟩,2):=by decide +kernel
theorem en_n21:zfb (zaZ 2) [] = ⟨0,[],11⟩:=by decide +kernel
theorem en_n22:zhb (zaZ 1) = (0,7):=by decide +kernel
theorem en_n23:zbk ⟨⟨(zaZ 0).t.last,(zaZ 0).t.heights,0,(zaZ 0).t.levels,(zaZ 0).t.marks⟩,(zaZ 0).hands,(zaZ 0).chairs,(zaZ 0).order,(zaZ 0).hires⟩ = 9:=by decide +kernel
theorem en_n24:zbk ⟨⟨(zaZ 0).t.last,(zaZ 0).t.heights,(zaZ 0).t.step,(zaZ 0).t.levels,[⟨0,0,⟨9,9⟩⟩]⟩,(zaZ 0).hands,(zaZ 0).chairs,(zaZ 0).order,(zaZ 0).hires⟩ = 11:=by decide +kernel
theorem en_n25:zbk ⟨⟨(zaZ 0).t.last,(zaZ 0).t.heights,(zaZ 0).t.step,(zaZ 0).t.levels,(zaZ 0).t.marks⟩,6,(zaZ 0).chairs,(zaZ 0).order,(zaZ 0).hires⟩ = 1:=by decide +kernel
theorem en_n26:zbk ⟨⟨(zaZ 0).t.last,(zaZ 0).t.heights,(zaZ 0).t.step,(zaZ 0).t.levels,(zaZ 0).t.marks⟩,(zaZ 0).hands,(zaZ 0).chairs,[0,0],(zaZ 0).hires⟩ = 1:=by decide +kernel
theorem en_n27:zbk ⟨⟨(zaZ 0).t.last,(zaZ 0).t.heights,(zaZ 0).t.step,(zaZ 0).t.levels,(zaZ 0).t.marks⟩,(zaZ 0).hands,(zaZ 0).chairs,(zaZ 0).order,[⟨0,0⟩,⟨0,0⟩,⟨0,0⟩,⟨0,0⟩,⟨0,0⟩,⟨0,0⟩]⟩ = 3:=by decide +kernel
theorem en_m1:zbk ⟨⟨3,[⟨2,4⟩,⟨5,6⟩,⟨8,9⟩,⟨4,5⟩],4,[5,3,8],[]⟩,1,[⟨3,1,2⟩,⟨1,1,2⟩,⟨2,2,1⟩],[],[]⟩ = 1:=by decide +kernel
theorem en_m2:zbk ⟨⟨3,[⟨2,4⟩,⟨5,6⟩,⟨8,9⟩,⟨4,5⟩],4,[5,3,8],[]⟩,1,[⟨0,1,0⟩,⟨1,1,2⟩,⟨2,2,1⟩],[],[]⟩ = 1:=by decide +kernel
theorem en_m3:zbk ⟨⟨3,[⟨2,4⟩,⟨5,6⟩,⟨8,9⟩,⟨4,5⟩],4,[5,3,8],[]⟩,1,[⟨0,1,2⟩,⟨1,1,2⟩,⟨2,2,1⟩],[],[⟨0,4⟩]⟩ = 1:=by decide +kernel
theorem en_m4:zbk ⟨⟨0,[],0,[],[]⟩,0,[],[],[]⟩ = 1:=by decide +kernel
def PW9 (T:Int → Yd):zaJ:=zas 49 (zcC (fun k:Int => k = 0 ∨ k = 1 ∨ k = 2) T) P158
theorem zb7 (T:Int → Yd) (g:FuncId):PW9 T g = (zas 49 (zcC (fun k:Int => k = 0 ∨ k = 1 ∨ k = 2) T) P158) g:=rfl
theorem PW9_ok {T:Int → Yd} (h:∀ k:Int,(k = 0 ∨ k = 1 ∨ k = 2) → zaP Tryz.prog 49 [Enc.enc k] (· = Enc.enc (T k))):zaz Tryz.prog (PW9 T):=zah (zbj h) P158_ok
def PN9 (T:Int → Yd):zaJ:=zuY [222,223,224] (PW9 T)
theorem PN9_app (T:Int → Yd) (g:FuncId) (h:¬ (g = 4000000000)):PN9 T g = PW9 T g:=by unfold PN9 zuY; rw [if_neg h]
theorem PN9_flag (T:Int → Yd) (d:Nat):zaF (PN9 T) (some d) = if d ∈ ([222,223,224]:List Nat) then some d else none:=zfx _ _ d
attribute [go_sem] PN9_app PN9_flag
theorem names_gen (T:Int → Yd) (h:∀ k:Int,(k = 0 ∨ k = 1 ∨ k = 2) → zaP Tryz.prog 49 [Enc.enc k] (· = Enc.enc (T k))) (hT:∀ k:Int,(T k).t.heights.length = 4 ∧ (T k).order.length = 0 ∧ (T k).chairs.length = 3) (W1 W2 W3:List Int)
  (n1:zgb (T 0) [1,0] [3,6,8,4] = ([⟨0,4,[0,1,2,3]⟩,⟨0,4,[0,1,2,3]⟩,⟨0,4,[0,1,2,3]⟩],0)) (n2:zfb (T 0) [1,0] = ⟨1,W1,0⟩) (n3:zfb (T 0) [1,0,2] = ⟨0,W2,0⟩) (n4:zfb (T 1) [] = ⟨2,W3,0⟩) (n5:zhJ (T 0) [0,1,2] 0 = (⟨4,4⟩,0)) (n6:zg6 (T 1) = ([],0)) (n7:freeR (T 0) [0,1,2] 1 0 = (3,0)) (n8:freeR (T 0) [0,1,2] 1 1 = (3,0)) (n9:zf9 (T 1) [3,5,8,4] = true) (n10:zf9 (T 1) [3,6,8,4] = false) (n11:zf9 (T 0) [3,6,9,4] = false) (n12:zdW (T 0) [1,0] 1 = true) (n13:zdW (T 0) [1,0] 0 = false) (n14:zdW (T 0) [1,1] 5 = false) (n15:zdW (T 2) [] 5 = false) (n16:zgb (T 0) [0,0] [3,6,8,4] = ([],2)) (n17:zgb (T 0) [] [3,6,9,4] = ([],2)) (n18:freeR (T 2) [] 3 0 = (0,2)) (n19:freeR (T 0) [] 0 4 = (0,2)) (n20:zhJ (T 0) [3] 0 = (⟨0,0⟩,2)) (n21:zfb (T 2) [] = ⟨0,[],11⟩) (n22:zhb (T 1) = (0,7)) (n23:zbk ⟨⟨(T 0).t.last,(T 0).t.heights,0,(T 0).t.levels,(T 0).t.marks⟩,(T 0).hands,(T 0).chairs,(T 0).order,(T 0).hires⟩ = 9) (n24:zbk ⟨⟨(T 0).t.last,(T 0).t.heights,(T 0).t.step,(T 0).t.levels,[⟨0,0,⟨9,9⟩⟩]⟩,(T 0).hands,(T 0).chairs,(T 0).order,(T 0).hires⟩ = 11) (n25:zbk ⟨⟨(T 0).t.last,(T 0).t.heights,(T 0).t.step,(T 0).t.levels,(T 0).t.marks⟩,6,(T 0).chairs,(T 0).order,(T 0).hires⟩ = 1) (n26:zbk ⟨⟨(T 0).t.last,(T 0).t.heights,(T 0).t.step,(T 0).t.levels,(T 0).t.marks⟩,(T 0).hands,(T 0).chairs,[0,0],(T 0).hires⟩ = 1) (n27:zbk ⟨⟨(T 0).t.last,(T 0).t.heights,(T 0).t.step,(T 0).t.levels,(T 0).t.marks⟩,(T 0).hands,(T 0).chairs,(T 0).order,[⟨0,0⟩,⟨0,0⟩,⟨0,0⟩,⟨0,0⟩,⟨0,0⟩,⟨0,0⟩]⟩ = 3) (m1:zbk ⟨⟨3,[⟨2,4⟩,⟨5,6⟩,⟨8,9⟩,⟨4,5⟩],4,[5,3,8],[]⟩,1,[⟨3,1,2⟩,⟨1,1,2⟩,⟨2,2,1⟩],[],[]⟩ = 1) (m2:zbk ⟨⟨3,[⟨2,4⟩,⟨5,6⟩,⟨8,9⟩,⟨4,5⟩],4,[5,3,8],[]⟩,1,[⟨0,1,0⟩,⟨1,1,2⟩,⟨2,2,1⟩],[],[]⟩ = 1) (m3:zbk ⟨⟨3,[⟨2,4⟩,⟨5,6⟩,⟨8,9⟩,⟨4,5⟩],4,[5,3,8],[]⟩,1,[⟨0,1,2⟩,⟨1,1,2⟩,⟨2,2,1⟩],[],[⟨0,4⟩]⟩ = 1) (m4:zbk ⟨⟨0,[],0,[],[]⟩,0,[],[],[]⟩ = 1):zaP Tryz.prog 8 [] (· = Enc.enc true):=by
 have h0:=hT 0
 have t1':=hT 1
 have t2':=hT 2
 clear hT
 have st:zjl ⟨0,4,[0,1,2,3]⟩ 0 4 [0,1,2,3] = true:=by decide
 simp only [zhP]
 refine cpz (show zaz Tryz.prog (PN9 T) from zls (PW9_ok h)) Tryz.func8 zaB ?_
 rw [Tryz.ntmps8]
 simp only [Tryz.f8,zai,zam]
 refine zaC fun Q1 h1 => ?_
 simp (maxSteps:=4000000) only [go_sem,AV.one,zae,zac,zad,zan,zaq,zaa,czb,cza,↓reduceIte,zaH,zab,zay,onz,zbH,zb7]
 all_goals (repeat' first | (with_reducible first | rfl | apply And.intro | assumption) | ((with_reducible show zaj _ _ = true); rfl)) <;> try first | omega | (simp only [InR]; omega)
 rw [h1]; clear h1 Q1; simp only [zaW,zaA]
 refine zaC fun Q1 h1 => ?_
 simp (maxSteps:=4000000) only [go_sem,AV.one,zae,zac,zad,zan,zaq,zaa,czb,cza,↓reduceIte,zaH,zab,zay,onz,zbH,zb7,n1]
 all_goals (repeat' first | (with_reducible first | rfl | apply And.intro | assumption) | ((with_reducible show zaj _ _ = true); rfl)) <;> try first | omega | (simp only [InR]; omega)
 rw [h1]; clear h1 Q1; simp only [zaW,zaA]
 refine zaC fun Q1 h1 => ?_
 simp (maxSteps:=4000000) only [go_sem,AV.one,zae,zac,zad,zan,zaq,zaa,czb,cza,↓reduceIte,zaH,zab,zay,onz,zbH,zb7,n2]
 all_goals (repeat' first | (with_reducible first | rfl | apply And.intro | assumption) | ((with_reducible show zaj _ _ = true); rfl)) <;> try first | omega | (simp only [InR]; omega)
 rw [h1]; clear h1 Q1; simp only [zaW,zaA]
 refine zaC fun Q1 h1 => ?_
 simp (maxSteps:=4000000) only [go_sem,AV.one,zae,zac,zad,zan,zaq,zaa,czb,cza,↓reduceIte,zaH,zab,zay,onz,zbH,zb7,n3]
 all_goals (repeat' first | (with_reducible first | rfl | apply And.intro | assumption) | ((with_reducible show zaj _ _ = true); rfl)) <;> try first | omega | (simp only [InR]; omega)
 rw [h1]; clear h1 Q1; simp only [zaW,zaA]
 refine zaC fun Q1 h1 => ?_
 simp (maxSteps:=4000000) only [go_sem,AV.one,zae,zac,zad,zan,zaq,zaa,czb,cza,↓reduceIte,zaH,zab,zay,onz,zbH,zb7,n4]
 all_goals (repeat' first | (with_reducible first | rfl | apply And.intro | assumption) | ((with_reducible show zaj _ _ = true); rfl)) <;> try first | omega | (simp only [InR]; omega)
 rw [h1]; clear h1 Q1; simp only [zaW,zaA]
 refine zaC fun Q1 h1 => ?_
 simp (maxSteps:=4000000) only [go_sem,AV.one,zae,zac,zad,zan,zaq,zaa,czb,cza,↓reduceIte,zaH,zab,zay,onz,zbH,zb7,n5]
 all_goals (repeat' first | (with_reducible first | rfl | apply And.intro | assumption) | ((with_reducible show zaj _ _ = true); rfl)) <;> try first | omega | (simp only [InR]; omega)
 rw [h1]; clear h1 Q1; simp only [zaW,zaA]
 refine zaC fun Q1 h1 => ?_
 simp (maxSteps:=4000000) only [go_sem,AV.one,zae,zac,zad,zan,zaq,zaa,czb,cza,↓reduceIte,zaH,zab,zay,onz,zbH,zb7,n6]
 all_goals (repeat' first | (with_reducible first | rfl | apply And.intro | assumption) | ((with_reducible show zaj _ _ = true); rfl)) <;> try first | omega | (simp only [InR]; omega)
 rw [h1]; clear h1 Q1; simp only [zaW,zaA]
 refine zaC fun Q1 h1 => ?_
 simp (maxSteps:=4000000) only [go_sem,AV.one,zae,zac,zad,zan,zaq,zaa,czb,cza,↓reduceIte,zaH,zab,zay,onz,zbH,zb7,Int.cast_ofNat_Int,bne_self_eq_false,decide_true,decide_false]
 all_goals (repeat' first | (with_reducible first | rfl | apply And.intro | assumption) | ((with_reducible show zaj _ _ = true); rfl)) <;> try first | omega | (simp only [InR]; omega)
 rw [h1]; clear h1 Q1; simp only [zaW,zaA]
 simp (maxSteps:=4000000) only [go_sem,AV.one,zae,zac,zad,zan,zaq,zaa,czb,cza,↓reduceIte,zaH,zab,zay,onz,zbH,zb7,Int.cast_ofNat_Int,bne_self_eq_false,decide_true,decide_false]
 all_goals (repeat' first | (with_reducible first | rfl | apply And.intro | assumption) | ((with_reducible show zaj _ _ = true); rfl)) <;> try first | omega | (simp only [InR]; omega)
 refine zbG (3) [] [0,1,2,5,8,11,13,15] (fun i => [(16,.int .i64 i)]) (fun _ m => m) (fun _ => True) ?_ ?_ ?_ ?_
 ·trivial
 ·simp [AV.bare,zal,zaN,zaR,zak,zar,zaf,tokz1,lk,zaa,za3,zbH,-List.map_map]
 ·intro i hi _
  rcases (by omega:i = 0 ∨ i = 1 ∨ i = 2) with rfl | rfl | rfl
  all_goals
   simp (maxSteps:=4000000) only [go_sem,AV.one,zae,zac,zad,zan,zaq,zaa,czb,cza,↓reduceIte,zaH,zab,zay,onz,zbH,zb7,st,decide_true,decide_false,Int.cast_ofNat_Int]
   all_goals (repeat' first | (with_reducible first | rfl | apply And.intro | assumption) | ((with_reducible show zaj _ _ = true); rfl)) <;> try first | omega | (simp only [InR]; omega)
   refine nxt hi trivial ?_
   simp [AV.bare,zal,zaN,zaR,zak,zar,zaf,tokz1,lk,zaa,za3,zbH,-List.map_map]
 ·intro _
  simp (maxSteps:=4000000) only [go_sem,AV.one,zae,zac,zad,zan,zaq,zaa,czb,cza,↓reduceIte,zaH,zab,zay,onz,zbH,zb7,decide_true,decide_false,Int.cast_ofNat_Int]
  all_goals (repeat' first | (with_reducible first | rfl | apply And.intro | assumption) | ((with_reducible show zaj _ _ = true); rfl)) <;> try first | omega | (simp only [InR]; omega)
  refine zbG (2) [] [0,2,5,8,11,13,15] (fun i => [(17,.int .i64 i)]) (fun _ m => m) (fun _ => True) ?_ ?_ ?_ ?_
  ·trivial
  ·simp [AV.bare,zal,zaN,zaR,zak,zar,zaf,tokz1,lk,zaa,za3,zbH,-List.map_map]
  ·intro i hi _
   rcases (by omega:i = 0 ∨ i = 1) with rfl | rfl
   all_goals
    simp (maxSteps:=4000000) only [go_sem,AV.one,zae,zac,zad,zan,zaq,zaa,czb,cza,↓reduceIte,zaH,zab,zay,onz,zbH,zb7,n7,n8,bne_self_eq_false,decide_true,decide_false,Int.cast_ofNat_Int]
    all_goals (repeat' first | (with_reducible first | rfl | apply And.intro | assumption) | ((with_reducible show zaj _ _ = true); rfl)) <;> try first | omega | (simp only [InR]; omega)
    refine nxt hi trivial ?_
    simp [AV.bare,zal,zaN,zaR,zak,zar,zaf,tokz1,lk,zaa,za3,zbH,-List.map_map]
  ·intro _
   refine zaC fun Q1 h1 => ?_
   simp (maxSteps:=4000000) only [go_sem,AV.one,zae,zac,zad,zan,zaq,zaa,czb,cza,↓reduceIte,zaH,zab,zay,onz,zbH,zb7,decide_true,decide_false,Int.cast_ofNat_Int]
   all_goals (repeat' first | (with_reducible first | rfl | apply And.intro | assumption) | ((with_reducible show zaj _ _ = true); rfl)) <;> try first | omega | (simp only [InR]; omega)
   rw [h1]; clear h1 Q1; simp only [zaW,zaA]
   refine zaC fun Q1 h1 => ?_
   simp (maxSteps:=4000000) only [go_sem,AV.one,zae,zac,zad,zan,zaq,zaa,czb,cza,↓reduceIte,zaH,zab,zay,onz,zbH,zb7,n9,n10,n11,n12,n13,n14,n15,bne_self_eq_false,decide_true,decide_false]
   all_goals (repeat' first | (with_reducible first | rfl | apply And.intro | assumption) | ((with_reducible show zaj _ _ = true); rfl)) <;> try first | omega | (simp only [InR]; omega)
   rw [h1]; clear h1 Q1; simp only [zaW,zaA]
   refine zaC fun Q1 h1 => ?_
   simp (maxSteps:=4000000) only [go_sem,AV.one,zae,zac,zad,zan,zaq,zaa,czb,cza,↓reduceIte,zaH,zab,zay,onz,zbH,zb7,n16,decide_true,decide_false]
   all_goals (repeat' first | (with_reducible first | rfl | apply And.intro | assumption) | ((with_reducible show zaj _ _ = true); rfl)) <;> try first | omega | (simp only [InR]; omega)
   rw [h1]; clear h1 Q1; simp only [zaW,zaA]
   refine zaC fun Q1 h1 => ?_
   simp (maxSteps:=4000000) only [go_sem,AV.one,zae,zac,zad,zan,zaq,zaa,czb,cza,↓reduceIte,zaH,zab,zay,onz,zbH,zb7,n16,n17,decide_true,decide_false]
   all_goals (repeat' first | (with_reducible first | rfl | apply And.intro | assumption) | ((with_reducible show zaj _ _ = true); rfl)) <;> try first | omega | (simp only [InR]; omega)
   rw [h1]; clear h1 Q1; simp only [zaW,zaA]
   refine zaC fun Q1 h1 => ?_
   simp (maxSteps:=4000000) only [go_sem,AV.one,zae,zac,zad,zan,zaq,zaa,czb,cza,↓reduceIte,zaH,zab,zay,onz,zbH,zb7,n17,n18]
   all_goals (repeat' first | (with_reducible first | rfl | apply And.intro | assumption) | ((with_reducible show zaj _ _ = true); rfl)) <;> try first | omega | (simp only [InR]; omega)
   rw [h1]; clear h1 Q1; simp only [zaW,zaA]
   refine zaC fun Q1 h1 => ?_
   simp (maxSteps:=4000000) only [go_sem,AV.one,zae,zac,zad,zan,zaq,zaa,czb,cza,↓reduceIte,zaH,zab,zay,onz,zbH,zb7,n18,n19]
   all_goals (repeat' first | (with_reducible first | rfl | apply And.intro | assumption) | ((with_reducible show zaj _ _ = true); rfl)) <;> try first | omega | (simp only [InR]; omega)
   rw [h1]; clear h1 Q1; simp only [zaW,zaA]
   refine zaC fun Q1 h1 => ?_
   simp (maxSteps:=4000000) only [go_sem,AV.one,zae,zac,zad,zan,zaq,zaa,czb,cza,↓reduceIte,zaH,zab,zay,onz,zbH,zb7,n19,n20]
   all_goals (repeat' first | (with_reducible first | rfl | apply And.intro | assumption) | ((with_reducible show zaj _ _ = true); rfl)) <;> try first | omega | (simp only [InR]; omega)
   rw [h1]; clear h1 Q1; simp only [zaW,zaA]
   refine zaC fun Q1 h1 => ?_
   simp (maxSteps:=4000000) only [go_sem,AV.one,zae,zac,zad,zan,zaq,zaa,czb,cza,↓reduceIte,zaH,zab,zay,onz,zbH,zb7,n20,n21]
   all_goals (repeat' first | (with_reducible first | rfl | apply And.intro | assumption) | ((with_reducible show zaj _ _ = true); rfl)) <;> try first | omega | (simp only [InR]; omega)
   rw [h1]; clear h1 Q1; simp only [zaW,zaA]
   refine zaC fun Q1 h1 => ?_
   simp (maxSteps:=4000000) only [go_sem,AV.one,zae,zac,zad,zan,zaq,zaa,czb,cza,↓reduceIte,zaH,zab,zay,onz,zbH,zb7,n21,n22]
   all_goals (repeat' first | (with_reducible first | rfl | apply And.intro | assumption) | ((with_reducible show zaj _ _ = true); rfl)) <;> try first | omega | (simp only [InR]; omega)
   rw [h1]; clear h1 Q1; simp only [zaW,zaA]
   refine zaC fun Q1 h1 => ?_
   simp (maxSteps:=4000000) only [go_sem,AV.one,zae,zac,zad,zan,zaq,zaa,czb,cza,↓reduceIte,zaH,zab,zay,onz,zbH,zb7]
   all_goals (repeat' first | (with_reducible first | rfl | apply And.intro | assumption) | ((with_reducible show zaj _ _ = true); rfl)) <;> try first | omega | (simp only [InR]; omega)
   refine ⟨_,zgV 0 (by decide) ?_,?_⟩
   ·simp [AV.bare,zal,zaN,zaR,zak,zar,zaf,tokz1,lk,zaa,za3]
   rintro r m ⟨⟨o0,o2,rfl,rfl⟩,hb⟩ _
   simp (maxSteps:=4000000) only [go_sem,AV.one,zae,zac,zad,zan,zaq,zaa,czb,cza,↓reduceIte,zaH,zab,zay,onz,zbH,zb7]
   all_goals (repeat' first | (with_reducible first | rfl | apply And.intro | assumption) | ((with_reducible show zaj _ _ = true); rfl)) <;> try first | omega | (simp only [InR]; omega)
   refine ⟨_,zgV 0 (by decide) hb,?_⟩
   rintro r m ⟨⟨o4,o6,rfl,rfl⟩,hb2⟩ _
   simp (maxSteps:=4000000) only [go_sem,AV.one,zae,zac,zad,zan,zaq,zaa,czb,cza,↓reduceIte,zaH,zab,zay,onz,zbH,zb7]
   all_goals (repeat' first | (with_reducible first | rfl | apply And.intro | assumption) | ((with_reducible show zaj _ _ = true); rfl)) <;> try first | omega | (simp only [InR]; omega)
   refine ⟨_,zgV 1 (by decide) hb2,?_⟩
   rintro r m ⟨⟨o8,o10,rfl,rfl⟩,hb3⟩ _
   simp (maxSteps:=4000000) only [go_sem,AV.one,zae,zac,zad,zan,zaq,zaa,czb,cza,↓reduceIte,zaH,zab,zay,onz,zbH,zb7]
   all_goals (repeat' first | (with_reducible first | rfl | apply And.intro | assumption) | ((with_reducible show zaj _ _ = true); rfl)) <;> try first | omega | (simp only [InR]; omega)
   rw [h1]; clear h1 Q1; simp only [zaW,zaA]
   clear hb hb2 hb3
   iterate 7 (
    refine zaC fun Q1 h1 => ?_
    simp (maxSteps:=4000000) only [go_sem,AV.one,zae,zac,zad,zan,zaq,zaa,czb,cza,↓reduceIte,zaH,zab,zay,onz,zbH,zb7]
    all_goals (repeat' first | (with_reducible first | rfl | apply And.intro | assumption) | ((with_reducible show zaj _ _ = true); rfl)) <;> try first | omega | (simp only [InR]; omega)
    rw [h1]; clear h1 Q1; simp only [zaW,zaA])
   simp (maxSteps:=4000000) only [go_sem,AV.one,zae,zac,zad,zan,zaq,zaa,czb,cza,↓reduceIte,zaH,zab,zay,onz,zbH,zb7,List.append_eq,n23,n24,n25,n26,n27,m1,m2,m3,m4,decide_true,decide_false]
   all_goals exact auz
theorem zmp:zaP Tryz.prog 8 [] (· = Enc.enc true) :=
 names_gen (fun k => zaZ k.toNat) zfZ (fun k => zkK _) _ _ _ en_n1 en_n2 en_n3 en_n4 en_n5 en_n6 en_n7 en_n8 en_n9 en_n10 en_n11 en_n12 en_n13 en_n14 en_n15 en_n16 en_n17 en_n18 en_n19 en_n20 en_n21 en_n22 en_n23 en_n24 en_n25 en_n26 en_n27 en_m1 en_m2 en_m3 en_m4
end Go.Proofs
