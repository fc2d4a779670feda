/- The texts M1, M2, D, M3, L, S1, S2, S3, joined. -/
import Derived.Test.YtgfkmkkoligobaaGreatG6
import Derived.Test.YtgfkmkkoligobaaGreatProg
import Derived.KernelRfl
set_option linter.all false
namespace Go.Proofs
open Go.Fs
def cnt:Nat → (Nat → Bool) → Int
 | 0,_ => 0
 | n + 1,p => cnt n p + if p n = true then 1 else 0
def zig:Nat → (Nat → Int) → (Nat → Bool) → Int
 | 0,_,_ => 0
 | n + 1,f,p => zig n f p + if p n = true then f n else 0
def zex:Nat → (Nat → Int) → Int
 | 0,_ => 0
 | m + 1,g => zex m g + g m
theorem zi5 (n:Nat) (p:Nat → Bool):0 ≤ cnt n p:=by
 induction n with
 | zero => exact Int.le_refl _
 | succ n ih => unfold cnt; split <;> omega
theorem zdv {n:Nat} {p q:Nat → Bool} (h:∀ i,i < n → p i = q i):cnt n p = cnt n q:=by
 induction n with
 | zero => rfl
 | succ n ih => unfold cnt; rw [ih (fun i hi => h i (by omega)),h n (by omega)]
theorem zfd {n:Nat} {p q:Nat → Bool} (h:∀ i,i < n → p i = true → q i = true):cnt n p ≤ cnt n q:=by
 induction n with
 | zero => exact Int.le_refl _
 | succ n ih =>
  unfold cnt
  have:=ih (fun i hi => h i (by omega))
  by_cases c:p n = true
  ·rw [if_pos c,if_pos (h n (by omega) c)]; omega
  ·rw [if_neg c]; split <;> omega
theorem zlg (n:Nat) (p q:Nat → Bool):cnt n p = cnt n (fun i => p i && q i) + cnt n (fun i => p i && !q i):=by
 induction n with
 | zero => rfl
 | succ n ih =>
  simp only [cnt]
  rw [ih]
  have e:∀ a b:Bool,(if a = true then (1:Int) else 0) = (if (a && b) = true then 1 else 0) + if (a && !b) = true then 1 else 0:=by decide
  have:=e (p n) (q n)
  omega
theorem zoM {n:Nat} {p:Nat → Bool} (h:∀ i,i < n → p i = false):cnt n p = 0:=by
 induction n with
 | zero => rfl
 | succ n ih => unfold cnt; rw [ih (fun i hi => h i (by omega)),h n (by omega)]; rfl
theorem cnt_pos {n i:Nat} {p:Nat → Bool} (hi:i < n) (h:p i = true):1 ≤ cnt n p:=by
 induction n with
 | zero => omega
 | succ n ih =>
  unfold cnt
  by_cases e:i = n
  ·subst e; rw [if_pos h]; have:=zi5 i p; omega
  ·have:=ih (by omega); split <;> omega
theorem zi4 {n i:Nat} (p:Nat → Bool) (hi:i < n):cnt n (fun j => p j || decide (j = i)) = cnt n p + if p i = true then 0 else 1:=by
 induction n with
 | zero => omega
 | succ n ih =>
  unfold cnt
  by_cases e:i = n
  ·subst e
   rw [zdv (p:=fun j => p j || decide (j = i)) (q:=p) (fun j hj => by simp; intro h; omega)]
   cases p i <;> simp
  ·rw [ih (by omega)]
   have:decide (n = i) = false:=by simp; omega
   simp only [this,Bool.or_false]
   omega
theorem ziv {n:Nat} {f g:Nat → Int} {p q:Nat → Bool} (h:∀ i,i < n → p i = q i) (hf:∀ i,i < n → p i = true → f i = g i):zig n f p = zig n g q:=by
 induction n with
 | zero => rfl
 | succ n ih =>
  unfold zig
  rw [ih (fun i hi => h i (by omega)) (fun i hi => hf i (by omega)),← h n (by omega)]
  by_cases c:p n = true
  ·rw [if_pos c,if_pos c,hf n (by omega) c]
  ·rw [if_neg c,if_neg c]
theorem wsum_bd {n:Nat} {f:Nat → Int} {m:Int} (p:Nat → Bool) (hm:0 ≤ m) (hf:∀ i,i < n → 0 ≤ f i ∧ f i ≤ m):0 ≤ zig n f p ∧ zig n f p ≤ n * m:=by
 induction n with
 | zero => simp [zig]
 | succ n ih =>
  unfold zig
  have h1:=ih (fun i hi => hf i (by omega))
  have h2:=hf n (by omega)
  have:((n + 1:Nat):Int) * m = n * m + m:=by rw [Int.natCast_succ,Int.add_mul]; omega
  rw [this]
  split <;> omega
theorem zg8 {m:Nat} {f g:Nat → Int} (h:∀ c,c < m → f c = g c):zex m f = zex m g:=by
 induction m with
 | zero => rfl
 | succ m ih => unfold zex; rw [ih (fun c hc => h c (by omega)),h m (by omega)]
theorem sumTo_le {m:Nat} {f g:Nat → Int} (h:∀ c,c < m → f c ≤ g c):zex m f ≤ zex m g:=by
 induction m with
 | zero => exact Int.le_refl _
 | succ m ih =>
  unfold zex
  have h1:=ih (fun c hc => h c (by omega))
  have h2:=h m (by omega)
  omega
theorem sumTo_add (m:Nat) (f g:Nat → Int):zex m (fun c => f c + g c) = zex m f + zex m g:=by
 induction m with
 | zero => rfl
 | succ m ih => simp only [zex]; rw [ih]; omega
theorem ziA (m:Nat):zex m (fun _ => 0) = 0:=by
 induction m with
 | zero => rfl
 | succ m ih => unfold zex; rw [ih]; rfl
theorem sumTo_ind (m:Nat) (v:Int) (h:0 ≤ v):zex m (fun c => if (c:Int) + 1 ≤ v then 1 else 0) = min (m:Int) v:=by
 induction m with
 | zero => simp only [zex]; omega
 | succ m ih => simp only [zex]; rw [ih]; split <;> omega
theorem zg1 {n m:Nat} {f:Nat → Int} {p:Nat → Bool} (hf:∀ i,i < n → p i = true → 0 ≤ f i ∧ f i ≤ m) :
  zig n f p = zex m (fun c => cnt n (fun i => p i && decide ((c:Int) + 1 ≤ f i))):=by
 induction n with
 | zero => simp only [zig,cnt]; rw [ziA]
 | succ n ih =>
  simp only [zig,cnt]
  rw [sumTo_add,ih (fun i hi => hf i (by omega))]
  congr 1
  by_cases c:p n = true
  ·rw [if_pos c]
   have h:=hf n (by omega) c
   rw [zg8 (g:=fun k => if (k:Int) + 1 ≤ f n then 1 else 0) (fun k hk => by simp [c]),sumTo_ind _ _ h.1]
   omega
  ·rw [if_neg c]
   rw [zg8 (g:=fun _ => 0) (fun k hk => by simp [c]),ziA]
def Feas (n:Nat) (H:Int) (sp:Nat → Int) (A:Nat → Bool):Prop:=∀ b:Nat,b ≤ 18 → cnt n (fun i => A i && decide (sp i ≤ (b:Int))) ≤ H * b
theorem Feas.sub {n:Nat} {H:Int} {sp:Nat → Int} {A B:Nat → Bool} (h:Feas n H sp A) (hs:∀ i,i < n → B i = true → A i = true):Feas n H sp B:=fun b hb => by
 refine Int.le_trans (zfd fun i hi hq => ?_) (h b hb)
 simp only [czl] at hq ⊢
 exact ⟨hs i hi hq.1,hq.2⟩
def partN (n:Nat) (H:Int) (sp ch:Nat → Int) (c b:Int):Int:=H * b + cnt n (fun i => decide (c ≤ ch i) && decide (b < sp i))
theorem part_weak {n:Nat} {H:Int} {sp ch:Nat → Int} {A:Nat → Bool} (h:Feas n H sp A) (c:Int) {b:Nat} (hb:b ≤ 18) :
  cnt n (fun i => A i && decide (c ≤ ch i)) ≤ partN n H sp ch c b:=by
 rw [zlg n (fun i => A i && decide (c ≤ ch i)) (fun i => decide (sp i ≤ (b:Int)))]
 unfold partN
 have h1:cnt n (fun i => (A i && decide (c ≤ ch i)) && decide (sp i ≤ (b:Int))) ≤ H * b:=by
  refine Int.le_trans (zfd fun i hi hq => ?_) (h b hb)
  simp only [czl] at hq ⊢
  exact ⟨hq.1.1,hq.2⟩
 have h2:cnt n (fun i => (A i && decide (c ≤ ch i)) && !decide (sp i ≤ (b:Int))) ≤ cnt n (fun i => decide (c ≤ ch i) && decide ((b:Int) < sp i)):=by
  refine zfd fun i hi hq => ?_
  simp only [czl,Bool.not_eq_true',decide_eq_true_eq,decide_eq_false_iff_not] at hq ⊢
  exact ⟨hq.1.2,by omega⟩
 omega
theorem znm {P:Nat → Prop} (m:Nat) (h0:P 0):∃ b,b ≤ m ∧ P b ∧ ∀ b',b' ≤ m → P b' → b' ≤ b:=by
 induction m with
 | zero => exact ⟨0,czf _,h0,fun b' hb _ => hb⟩
 | succ m ih =>
  by_cases c:P (m + 1)
  ·exact ⟨m + 1,czf _,c,fun b' hb _ => hb⟩
  ·obtain ⟨b,h1,h2,h3⟩:=ih
   refine ⟨b,by omega,h2,fun b' hb hp => ?_⟩
   by_cases e:b' = m + 1
   ·subst e; exact absurd hp c
   ·exact h3 b' (by omega) hp
theorem zmy {n:Nat} {H:Int} {sp:Nat → Int} {E K:Nat → Bool} (hF:Feas n H sp K) (hsub:∀ i,i < n → K i = true → E i = true)
  (hmax:∀ i,i < n → E i = true → K i = false → ¬ Feas n H sp (fun j => K j || decide (j = i))) :
  ∃ b:Nat,b ≤ 18 ∧ cnt n K = H * b + cnt n (fun i => E i && decide ((b:Int) < sp i)):=by
 obtain ⟨b,hb,hP,hG⟩:=znm (P:=fun b => cnt n (fun i => K i && decide (sp i ≤ (b:Int))) = H * b) 18 (by
  have h1:=hF 0 (by omega)
  have h2:=zi5 n (fun i => K i && decide (sp i ≤ ((0:Nat):Int)))
  show cnt n (fun i => K i && decide (sp i ≤ ((0:Nat):Int))) = H * ((0:Nat):Int)
  rw [show ((0:Nat):Int) = 0 from rfl,Int.mul_zero] at *
  omega)
 refine ⟨b,hb,?_⟩
 have hall:∀ i,i < n → E i = true → (b:Int) < sp i → K i = true:=fun i hi hE hs => by
  cases hK:K i with
  | true => rfl
  | false =>
   exfalso
   refine hmax i hi hE hK fun b' hb' => ?_
   have hF':=hF b' hb'
   have e:cnt n (fun j => (K j || decide (j = i)) && decide (sp j ≤ (b':Int))) ≤ cnt n (fun j => K j && decide (sp j ≤ (b':Int))) + if sp i ≤ (b':Int) then 1 else 0:=by
    by_cases c:sp i ≤ (b':Int)
    ·rw [if_pos c]
     have:=zi4 (fun j => K j && decide (sp j ≤ (b':Int))) hi
     rw [hK] at this
     simp only [Bool.false_and,czp,if_false] at this
     rw [← this]
     refine zfd fun j hj hq => ?_
     simp only [czl,czI] at hq ⊢
     rcases hq.1 with q | q
     ·exact .inl ⟨q,hq.2⟩
     ·exact .inr q
    ·rw [if_neg c,Int.add_zero]
     refine zfd fun j hj hq => ?_
     simp only [czl,czI,decide_eq_true_eq] at hq ⊢
     rcases hq.1 with q | q
     ·exact ⟨q,hq.2⟩
     ·rw [q] at hq; exact absurd hq.2 c
   show cnt n (fun j => (K j || decide (j = i)) && decide (sp j ≤ (b':Int))) ≤ H * b'
   by_cases c:sp i ≤ (b':Int)
   ·rw [if_pos c] at e
    by_cases t:cnt n (fun j => K j && decide (sp j ≤ (b':Int))) = H * b'
    ·have:=hG b' hb' t
     omega
    ·omega
   ·rw [if_neg c] at e
    omega
 rw [zlg n K (fun i => decide (sp i ≤ (b:Int))),hP]
 congr 1
 refine zdv fun i hi => ?_
 by_cases c:(b:Int) < sp i
 ·have c':¬ sp i ≤ (b:Int):=by omega
  cases hE:E i with
  | true => rw [hall i hi hE c]; simp [c,c']
  | false =>
   have:K i = false:=by
    cases hK:K i with
    | false => rfl
    | true => rw [hsub i hi hK] at hE; cases hE
   rw [this]; simp
 ·have c':sp i ≤ (b:Int):=by omega
  simp [c,c']
def zni (key:Int → Int) (P:List Int) (x:Int):Nat → List Int
 | 0 => x :: P
 | j + 1 => if key x < key (at_ P j) then zni key P x j else P.take (j + 1) ++ x :: P.drop (j + 1)
def zrm (key:Int → Int) (P:List Int) (x:Int):List Int:=zni key P x P.length
def zaY (key:Int → Int) (l:List Int):List Int:=l.foldl (zrm key) []
theorem zaS {α:Type} [Inhabited α] {l:List α} {i:Nat} (h:i < l.length):at_ l i ∈ l:=by rw [zcW h]; exact List.getElem_mem h
theorem zoz {α:Type} [Inhabited α] {l:List α} {x:α} (h:x ∈ l):∃ i,i < l.length ∧ at_ l i = x:=by
 obtain ⟨i,hi,rfl⟩:=List.mem_iff_getElem.1 h
 exact ⟨i,hi,zcW hi⟩
theorem zk4 (key:Int → Int) (P:List Int) (x:Int):∀ j,(zni key P x j).Perm (x :: P)
 | 0 => List.Perm.refl _
 | j + 1 => by
  unfold zni
  split
  ·exact zk4 key P x j
  ·have:=List.perm_middle (a:=x) (l₁:=P.take (j + 1)) (l₂:=P.drop (j + 1))
   rwa [List.take_append_drop] at this
theorem insS_perm (key:Int → Int) (P:List Int) (x:Int):(zrm key P x).Perm (x :: P):=zk4 key P x _
theorem zpT (key:Int → Int) (l:List Int) (x:Int):zaY key (l ++ [x]) = zrm key (zaY key l) x:=by
 simp [zaY,List.foldl_append]
theorem zf6 (key:Int → Int) (l:List Int):(zaY key l).Perm l:=by
 have key2:∀ (l:List Int) (P:List Int),(l.foldl (zrm key) P).Perm (P ++ l):=by
  intro l
  induction l with
  | nil => intro P; simp
  | cons x l ih =>
   intro P
   refine (ih _).trans ?_
   refine ((insS_perm key P x).append_right l).trans ?_
   simpa using (List.perm_middle (a:=x) (l₁:=P) (l₂:=l)).symm
 have h:=key2 l []
 rw [List.nil_append] at h
 exact h
theorem zcL (key:Int → Int) (l:List Int):(zaY key l).length = l.length:=(zf6 key l).length_eq
theorem zdi (key:Int → Int) (l:List Int) (x:Int):x ∈ zaY key l ↔ x ∈ l:=(zf6 key l).mem_iff
theorem zfq {key:Int → Int} {l:List Int} (h:l.Nodup):(zaY key l).Nodup:=(zf6 key l).nodup_iff.2 h
def Sorted (key:Int → Int) (l:List Int):Prop:=l.Pairwise fun a b => key a ≤ key b
theorem Sorted.at_le {key:Int → Int} {l:List Int} (h:Sorted key l) {i j:Nat} (hij:i ≤ j) (hj:j < l.length):key (at_ l i) ≤ key (at_ l j):=by
 rw [zcW (show i < l.length by omega),zcW hj]
 by_cases e:i = j
 ·subst e; exact Int.le_refl _
 ·exact List.pairwise_iff_getElem.1 h i j _ _ (by omega)
theorem zhH {key:Int → Int} {P:List Int} {x:Int} (hP:Sorted key P):∀ j,j ≤ P.length → (∀ y ∈ P.drop j,key x < key y) → Sorted key (zni key P x j)
 | 0,_,h => by
  unfold zni
  refine List.pairwise_cons.2 ⟨fun y hy => ?_,hP⟩
  have:=h y (by simpa using hy)
  omega
 | j + 1,hj,h => by
  unfold zni
  split
  ·rename_i c
   refine zhH hP j (by omega) fun y hy => ?_
   rw [List.drop_eq_getElem_cons (by omega)] at hy
   rcases czn.1 hy with q | q
   ·rw [q,← zcW (show j < P.length by omega)]; exact c
   ·exact h y q
  ·rename_i c
   have hs:Sorted key (P.take (j + 1) ++ P.drop (j + 1)):=by rw [List.take_append_drop]; exact hP
   obtain ⟨h1,h2,h3⟩:=List.pairwise_append.1 hs
   have h4:∀ a ∈ P.take (j + 1),key a ≤ key x:=fun a ha => by
    obtain ⟨i,hi,rfl⟩:=List.mem_iff_getElem.1 ha
    have hi':i ≤ j ∧ i < P.length:=by simp at hi; omega
    have:=hP.at_le hi'.1 (by omega)
    rw [List.getElem_take,← zcW hi'.2]
    omega
   refine List.pairwise_append.2 ⟨h1,List.pairwise_cons.2 ⟨fun y hy => by have:=h y hy; omega,h2⟩,fun a ha b hb => ?_⟩
   rcases czn.1 hb with q | q
   ·rw [q]; exact h4 a ha
   ·exact h3 a ha b q
theorem zgl (key:Int → Int) (l:List Int):Sorted key (zaY key l):=by
 have key2:∀ (l:List Int) (P:List Int),Sorted key P → Sorted key (l.foldl (zrm key) P):=by
  intro l
  induction l with
  | nil => intro P h; exact h
  | cons x l ih => intro P h; exact ih _ (zhH h _ (czf _) (fun y hy => by simp at hy))
 exact key2 l [] List.Pairwise.nil
def zir (H:Int) (sp:Int → Int) (o:List Int):Bool:=(List.range o.length).all fun k => decide (H ≠ 0) && decide ((k:Int) / H < sp (at_ o k))
def zeb (l:List Int) (i:Nat):Bool:=decide ((i:Int) ∈ l)
theorem zea (l:List Int) (i:Nat):zeb l i = true ↔ (i:Int) ∈ l:=by simp [zeb]
theorem zqN {n i:Nat} {p q:Nat → Bool} (hi:i < n) (hp:p i = false):cnt n (fun j => (p j || decide (j = i)) && q j) = cnt n (fun j => p j && q j) + if q i = true then 1 else 0:=by
 cases hq:q i with
 | true =>
  have:=zi4 (fun j => p j && q j) hi
  rw [hp] at this
  simp only [Bool.false_and,czp,if_false] at this
  rw [if_pos rfl,← this]
  refine zdv fun j hj => ?_
  by_cases e:j = i
  ·subst e; simp [hq]
  ·simp [e]
 | false =>
  rw [if_neg (by simp),Int.add_zero]
  refine zdv fun j hj => ?_
  by_cases e:j = i
  ·subst e; simp [hq]
  ·simp [e]
theorem zoN {n:Nat} (q:Int → Bool):∀ {l:List Int},l.Nodup → (∀ x ∈ l,0 ≤ x ∧ x < n) → cnt n (fun i => zeb l i && q i) = (l.filter q).length
 | [],_,_ => by
  rw [zoM (fun i _ => by simp [zeb])]; rfl
 | x :: l,hd,hr => by
  obtain ⟨h1,h2⟩:=List.nodup_cons.1 hd
  obtain ⟨hx0,hx1⟩:=hr x (by simp)
  obtain ⟨k,rfl⟩:=czu hx0
  have ih:=zoN q h2 (fun y hy => hr y (by simp [hy]))
  have e:=zqN (n:=n) (i:=k) (p:=zeb l) (q:=fun i => q i) (by omega) (by simp [zeb]; exact h1)
  rw [ih] at e
  have e2:cnt n (fun i => zeb ((k:Int) :: l) i && q i) = cnt n (fun j => (zeb l j || decide (j = k)) && q j):=by
   refine zdv fun j hj => ?_
   have:zeb ((k:Int) :: l) j = (zeb l j || decide (j = k)):=by
    simp only [zeb,czn]
    by_cases a:(j:Int) ∈ l <;> by_cases b:j = k <;> simp [a,b]
    omega
   rw [this]
  rw [e2,e,List.filter_cons]
  cases q k <;> simp
theorem zlc {n:Nat} {H:Int} {sp:Int → Int} (hH:0 ≤ H) {l:List Int} (hd:l.Nodup) (hr:∀ x ∈ l,0 ≤ x ∧ x < n) (hs:∀ x ∈ l,0 ≤ sp x ∧ sp x ≤ 18) :
  zir H sp (zaY sp l) = true ↔ Feas n H (fun i => sp i) (zeb l):=by
 have hso:=zgl sp l
 have hdo:=zfq (key:=sp) hd
 have hmo:=zdi sp l
 have hc:∀ b:Nat,cnt n (fun i => zeb l i && decide (sp i ≤ (b:Int))) = ((zaY sp l).filter fun x => decide (sp x ≤ (b:Int))).length:=fun b => by
  rw [← zoN (n:=n) (fun x => decide (sp x ≤ (b:Int))) hdo (fun x hx => hr x ((hmo x).1 hx))]
  refine zdv fun i hi => ?_
  have:zeb l i = zeb (zaY sp l) i:=by simp [zeb,hmo]
  rw [this]
 have hso':∀ x ∈ zaY sp l,0 ≤ sp x ∧ sp x ≤ 18:=fun x hx => hs x ((hmo x).1 hx)
 generalize zaY sp l = o at hso hc hso'
 unfold zir
 rw [czG]
 constructor
 ·intro h b hb
  rw [hc b]
  rcases Nat.eq_zero_or_pos (o.filter fun x => decide (sp x ≤ (b:Int))).length with h0 | h0
  ·rw [h0]; exact Int.mul_nonneg hH (by omega)
  ·have hle:=List.length_filter_le (fun x => decide (sp x ≤ (b:Int))) o
   obtain ⟨m,hm⟩:∃ m,(o.filter fun x => decide (sp x ≤ (b:Int))).length = m + 1:=⟨_,(Nat.succ_pred_eq_of_pos h0).symm⟩
   have hml:m < o.length:=by omega
   have hsb:sp (at_ o m) ≤ b:=by
    by_cases c:sp (at_ o m) ≤ b
    ·exact c
    ·exfalso
     have e:o.filter (fun x => decide (sp x ≤ (b:Int))) = (o.take m).filter fun x => decide (sp x ≤ (b:Int)):=by
      conv => lhs; rw [← List.take_append_drop m o,List.filter_append]
      have:(o.drop m).filter (fun x => decide (sp x ≤ (b:Int))) = []:=by
       rw [List.filter_eq_nil_iff]
       intro y hy
       obtain ⟨i,hi,rfl⟩:=List.mem_iff_getElem.1 hy
       have hi2:m + i < o.length:=by simp at hi; omega
       have:=hso.at_le (show m ≤ m + i by omega) hi2
       rw [List.getElem_drop,← zcW hi2]
       simp only [decide_eq_true_eq]
       omega
      rw [this,List.append_nil]
     have h3:=List.length_filter_le (fun x => decide (sp x ≤ (b:Int))) (o.take m)
     rw [← e,hm,czO] at h3
     omega
   have hk:=h m (List.mem_range.2 hml)
   simp only [czl,decide_eq_true_eq] at hk
   have hHp:0 < H:=by omega
   have h4:=(Int.ediv_lt_iff_lt_mul hHp).1 (show (m:Int) / H < b by omega)
   rw [hm,Int.mul_comm]
   omega
 ·intro h k hk
  have hk:=List.mem_range.1 hk
  obtain ⟨b0,b1⟩:=hso' _ (zaS hk)
  obtain ⟨b,hb⟩:=czu b0
  have h1:=h b (by omega)
  rw [hc b] at h1
  have h2:k + 1 ≤ (o.filter fun x => decide (sp x ≤ (b:Int))).length:=by
   have e:((o.take (k + 1)).filter fun x => decide (sp x ≤ (b:Int))) = o.take (k + 1):=by
    rw [List.filter_eq_self]
    intro y hy
    obtain ⟨i,hi,rfl⟩:=List.mem_iff_getElem.1 hy
    have hi2:i ≤ k ∧ i < o.length:=by simp at hi; omega
    have:=hso.at_le hi2.1 hk
    rw [List.getElem_take,← zcW hi2.2]
    simp only [decide_eq_true_eq]
    omega
   have h3:(o.filter fun x => decide (sp x ≤ (b:Int))).length = ((o.take (k + 1)).filter fun x => decide (sp x ≤ (b:Int))).length + ((o.drop (k + 1)).filter fun x => decide (sp x ≤ (b:Int))).length:=by
    rw [← czc,← List.filter_append,List.take_append_drop]
   rw [h3,e,czO]
   omega
  have hH0:H ≠ 0:=fun e => by
   rw [e,Int.zero_mul] at h1
   omega
  have hHp:0 < H:=by omega
  have h4:=(Int.ediv_lt_iff_lt_mul (a:=(k:Int)) (b:=(b:Int)) hHp).2 (by rw [Int.mul_comm]; omega)
  simp only [czl,decide_eq_true_eq]
  exact ⟨hH0,by rw [hb]; exact h4⟩
def zcH (H:Int) (sp ch:Int → Int):List Int → List Int → List Int
 | [],K => K
 | i :: r,K => if ch i = 0 then K else zcH H sp ch r (if zir H sp (zaY sp (K ++ [i])) = true then K ++ [i] else K)
structure Gr (n:Nat) (H:Int) (sp ch:Int → Int) (hv done K:List Int):Prop where
 sub:∀ x ∈ K,x ∈ done
 nodup:K.Nodup
 feas:Feas n H (fun i => sp i) (zeb K)
 max:∀ i ∈ done,i ∉ K → ∃ B:Nat → Bool,(∀ j:Nat,B j = true → (j:Int) ∈ K ∧ ch i ≤ ch j) ∧ ¬ Feas n H (fun i => sp i) (fun j => B j || decide ((j:Int) = i))
theorem zhJ {n:Nat} {H:Int} {sp ch:Int → Int} (hH:0 ≤ H) {hv:List Int} (hd:hv.Nodup) (hr:∀ x ∈ hv,0 ≤ x ∧ x < n) (hs:∀ x ∈ hv,0 ≤ sp x ∧ sp x ≤ 18) (hso:Sorted (fun x => -ch x) hv) (hc:∀ x ∈ hv,0 ≤ ch x) :
  ∀ (r done K:List Int),done ++ r = hv → Gr n H sp ch hv done K → ∃ done',(∀ x ∈ done',x ∈ hv) ∧ (∀ x ∈ hv,x ∈ done' ∨ ch x = 0) ∧ Gr n H sp ch hv done' (zcH H sp ch r K)
 | [],done,K,he,h => ⟨done,fun x hx => by rw [← he]; simp [hx],fun x hx => .inl (by rw [← he] at hx; simpa using hx),h⟩
 | i :: r,done,K,he,h => by
  have hi:i ∈ hv:=by rw [← he]; simp
  have hid:i ∉ done:=fun q => by
   rw [← he] at hd
   exact (List.nodup_append.1 hd).2.2 i q i (by simp) rfl
  have hge:∀ x ∈ done,ch i ≤ ch x:=fun x hx => by
   unfold Sorted at hso
   rw [← he] at hso
   have h9:-ch x ≤ -ch i:=(List.pairwise_append.1 hso).2.2 x hx i (by simp)
   omega
  have hle:∀ x ∈ r,ch x ≤ ch i:=fun x hx => by
   unfold Sorted at hso
   rw [← he] at hso
   have h9:-ch i ≤ -ch x:=(List.pairwise_cons.1 (List.pairwise_append.1 hso).2.1).1 x hx
   omega
  have hdone:∀ x ∈ done,x ∈ hv:=fun x hx => by rw [← he]; simp [hx]
  unfold zcH
  by_cases c0:ch i = 0
  ·rw [if_pos c0]
   refine ⟨done,hdone,fun x hx => ?_,h⟩
   rw [← he] at hx
   rcases czv.1 hx with q | q
   ·exact .inl q
   ·right
    rcases czn.1 q with q | q
    ·rw [q]; exact c0
    ·have h1:=hle x q
     have h2:=hc x (by rw [← he]; simp [q])
     omega
  ·rw [if_neg c0]
   have hiK:i ∉ K:=fun q => hid (h.sub i q)
   have hKd:(K ++ [i]).Nodup:=by
    rw [List.nodup_append]
    exact ⟨h.nodup,by simp,fun a ha b hb => by simp at hb; rw [hb]; exact fun e => hiK (e ▸ ha)⟩
   have hKr:∀ x ∈ K ++ [i],x ∈ hv:=fun x hx => by
    rcases czv.1 hx with q | q
    ·exact hdone x (h.sub x q)
    ·simp at q; rw [q]; exact hi
   have hfit:=zlc (n:=n) (sp:=sp) hH hKd (fun x hx => hr x (hKr x hx)) (fun x hx => hs x (hKr x hx))
   have hmem:∀ j:Nat,zeb (K ++ [i]) j = (zeb K j || decide ((j:Int) = i)):=fun j => by
    simp only [zeb,czv,czC]
    by_cases a:(j:Int) ∈ K <;> by_cases b:(j:Int) = i <;> simp [a,b]
   have he':(done ++ [i]) ++ r = hv:=by rw [← he]; simp
   by_cases cf:zir H sp (zaY sp (K ++ [i])) = true
   ·rw [if_pos cf]
    refine zhJ hH hd hr hs hso hc r (done ++ [i]) (K ++ [i]) he' ⟨fun x hx => ?_,hKd,hfit.1 cf,fun x hx hxK => ?_⟩
    ·rcases czv.1 hx with q | q
     ·exact czv.2 (.inl (h.sub x q))
     ·exact czv.2 (.inr q)
    ·have hxd:x ∈ done:=by
      rcases czv.1 hx with q | q
      ·exact q
      ·exact absurd (czv.2 (.inr q)) hxK
     obtain ⟨B,h1,h2⟩:=h.max x hxd (fun q => hxK (czv.2 (.inl q)))
     exact ⟨B,fun j hj => ⟨czv.2 (.inl (h1 j hj).1),(h1 j hj).2⟩,h2⟩
   ·rw [if_neg cf]
    refine zhJ hH hd hr hs hso hc r (done ++ [i]) K he' ⟨fun x hx => czv.2 (.inl (h.sub x hx)),h.nodup,h.feas,fun x hx hxK => ?_⟩
    rcases czv.1 hx with q | q
    ·exact h.max x q hxK
    ·simp at q
     subst q
     refine ⟨zeb K,fun j hj => ⟨(zea _ _).1 hj,hge _ (h.sub _ ((zea _ _).1 hj))⟩,fun hF => cf (hfit.2 fun b hb => ?_)⟩
     have:=hF b hb
     rw [zdv (q:=fun j => (zeb K j || decide ((j:Int) = x)) && decide (sp j ≤ (b:Int))) (fun j hj => by rw [hmem])]
     exact this
theorem znl {n:Nat} {H:Int} {sp ch:Int → Int} (hH:0 ≤ H) {hv:List Int} (hd:hv.Nodup) (hr:∀ x:Int,x ∈ hv ↔ 0 ≤ x ∧ x < n) (hs:∀ x ∈ hv,0 ≤ sp x ∧ sp x ≤ 18) (hso:Sorted (fun x => -ch x) hv) (hc:∀ x ∈ hv,0 ≤ ch x) :
  (zcH H sp ch hv []).Nodup ∧ (∀ x ∈ zcH H sp ch hv [],x ∈ hv) ∧ Feas n H (fun i => sp i) (zeb (zcH H sp ch hv [])) ∧
  ∀ c:Int,1 ≤ c → ∃ b:Nat,b ≤ 18 ∧ cnt n (fun i => zeb (zcH H sp ch hv []) i && decide (c ≤ ch i)) = partN n H (fun i => sp i) (fun i => ch i) c b:=by
 obtain ⟨done,h0,h1,h2⟩:=zhJ (n:=n) (ch:=ch) hH hd (fun x hx => (hr x).1 hx) hs hso hc hv [] [] rfl ⟨fun x hx => (by cases hx),List.nodup_nil,fun b hb => (by
  rw [zoM (fun i _ => by simp [zeb])]
  exact Int.mul_nonneg hH (by omega)),fun i hi => (by cases hi)⟩
 generalize zcH H sp ch hv [] = K at h2
 have hKv:∀ x ∈ K,x ∈ hv:=fun x hx => h0 x (h2.sub x hx)
 refine ⟨h2.nodup,hKv,h2.feas,fun c h1c => ?_⟩
 obtain ⟨b,hb,he⟩:=zmy (n:=n) (H:=H) (sp:=fun i => sp i) (E:=fun i => decide (c ≤ ch i)) (K:=fun i => zeb K i && decide (c ≤ ch i))
  (h2.feas.sub fun i _ hq => by simp only [czl] at hq; exact hq.1) (fun i _ hq => by simp only [czl] at hq; exact hq.2) (fun i hi hE hK => by
   simp only [decide_eq_true_eq] at hE
   have hiK:(i:Int) ∉ K:=fun q => by
    rw [(zea K i).2 q] at hK
    simp at hK
    omega
   have hiv:(i:Int) ∈ hv:=(hr _).2 ⟨by omega,by omega⟩
   rcases h1 _ hiv with q | q
   ·obtain ⟨B,g1,g2⟩:=h2.max _ q hiK
    intro hF
    apply g2
    refine hF.sub fun j hj hq => ?_
    simp only [czI,decide_eq_true_eq,czl] at hq ⊢
    rcases hq with hq | hq
    ·have:=g1 j hq
     exact .inl ⟨(zea _ _).2 this.1,by omega⟩
    ·exact .inr (by omega)
   ·omega)
 exact ⟨b,hb,by rw [he]; rfl⟩
end Go.Proofs
namespace Go.Fs
structure Rg where
 lo:Int
 hi:Int
instance:Inhabited Rg:=⟨⟨0,0⟩⟩
structure Sk where
 chairs:Int
 leak:Rg
instance:Inhabited Sk:=⟨⟨0,default⟩⟩
structure Sh where
 stacks:List Sk
 hands:Int
 rain:Rg
structure Tr where
 rain:Int
 leaks:List Int
structure Sp where
 chairs:Int
 before:Int
instance:Inhabited Sp:=⟨⟨0,0⟩⟩
instance:Enc Rg where
 enc r:=.agg [.int .i64 r.lo,.int .i64 r.hi]
 dec
  | .agg [.int .i64 a,.int .i64 b] => some ⟨a,b⟩
  | _ => none
 law v x h:=by
  split at h
  ·cases h; rfl
  ·cases h
 dep:=2
 ok x:=by simp [za8]
instance:Enc Sk where
 enc m:=.agg [.int .i64 m.chairs,.int .i64 m.leak.lo,.int .i64 m.leak.hi]
 dec
  | .agg [.int .i64 a,.int .i64 b,.int .i64 c] => some ⟨a,⟨b,c⟩⟩
  | _ => none
 law v x h:=by
  split at h
  ·cases h; rfl
  ·cases h
 dep:=2
 ok x:=by simp [za8]
instance:EncE Sk where
 cs m:=[.int .i64 m.chairs,.int .i64 m.leak.lo,.int .i64 m.leak.hi]
 dcs
  | [.int .i64 a,.int .i64 b,.int .i64 c] => some ⟨a,⟨b,c⟩⟩
  | _ => none
 law v x h:=by
  split at h
  ·cases h; rfl
  ·cases h
 inv _:=rfl
 dep:=1
 sz:=3
 len _:=rfl
 ok x:=by simp [za8]
instance:Enc Sp where
 enc m:=.agg [.int .i64 m.chairs,.int .i64 m.before]
 dec
  | .agg [.int .i64 a,.int .i64 b] => some ⟨a,b⟩
  | _ => none
 law v x h:=by
  split at h
  ·cases h; rfl
  ·cases h
 dep:=2
 ok x:=by simp [za8]
instance:EncE Sp where
 cs m:=[.int .i64 m.chairs,.int .i64 m.before]
 dcs
  | [.int .i64 a,.int .i64 b] => some ⟨a,b⟩
  | _ => none
 law v x h:=by
  split at h
  ·cases h; rfl
  ·cases h
 inv _:=rfl
 dep:=1
 sz:=2
 len _:=rfl
 ok x:=by simp [za8]
instance:Enc Sh where
 enc t:=.agg [.sl (t.stacks.map EncE.cs) .no,.int .i64 t.hands,.int .i64 t.rain.lo,.int .i64 t.rain.hi]
 dec
  | .agg [.sl b .no,.int .i64 a,.int .i64 c,.int .i64 d] =>
   match (zfm b:Option (List Sk)) with
   | some b => some ⟨b,a,⟨c,d⟩⟩
   | _ => none
  | _ => none
 law v x h:=by
  split at h
  ·split at h
   ·rename_i h1
    cases h
    rw [zcJ _ _ h1]
   ·cases h
  ·cases h
 dep:=3
 ok x:=by
  simp only [za8,czn,czk,or_false,forall_eq_or_imp,forall_eq,true_and,and_true,czx,forall_exists_index,and_imp,forall_apply_eq_imp_iff₂]
  exact fun a _ => EncE.ok a
instance:Enc Tr where
 enc t:=.agg [.int .i64 t.rain,.sl (t.leaks.map EncE.cs) .no]
 dec
  | .agg [.int .i64 a,.sl b .no] =>
   match (zfm b:Option (List Int)) with
   | some b => some ⟨a,b⟩
   | _ => none
  | _ => none
 law v x h:=by
  split at h
  ·split at h
   ·rename_i h1
    cases h
    rw [zcJ _ _ h1]
   ·cases h
  ·cases h
 dep:=3
 ok x:=by
  simp only [za8,czn,czk,or_false,forall_eq_or_imp,forall_eq,true_and,and_true,czx,forall_exists_index,and_imp,forall_apply_eq_imp_iff₂]
  exact fun a _ => EncE.ok a
theorem enc_rg (r:Rg):Enc.enc r = .agg [.int .i64 r.lo,.int .i64 r.hi]:=rfl
theorem dec_rg (a b:Int):(Enc.dec (.agg [.int .i64 a,.int .i64 b]):Option Rg) = some ⟨a,b⟩:=rfl
theorem eta_rg (r:Rg):(⟨r.lo,r.hi⟩:Rg) = r:=rfl
theorem enc_sk (m:Sk):Enc.enc m = .agg [.int .i64 m.chairs,.int .i64 m.leak.lo,.int .i64 m.leak.hi]:=rfl
theorem cs_sk (m:Sk):EncE.cs m = [.int .i64 m.chairs,.int .i64 m.leak.lo,.int .i64 m.leak.hi]:=rfl
theorem dec_sk (a b c:Int):(Enc.dec (.agg [.int .i64 a,.int .i64 b,.int .i64 c]):Option Sk) = some ⟨a,⟨b,c⟩⟩:=rfl
theorem dcs_sk (a b c:Int):(EncE.dcs [.int .i64 a,.int .i64 b,.int .i64 c]:Option Sk) = some ⟨a,⟨b,c⟩⟩:=rfl
theorem dep_sk:EncE.dep Sk = 1:=rfl
theorem sz_sk:EncE.sz Sk = 3:=rfl
theorem eta_sk (r:Sk):(⟨r.chairs,r.leak⟩:Sk) = r:=rfl
theorem enc_sp (m:Sp):Enc.enc m = .agg [.int .i64 m.chairs,.int .i64 m.before]:=rfl
theorem cs_sp (m:Sp):EncE.cs m = [.int .i64 m.chairs,.int .i64 m.before]:=rfl
theorem dec_sp (a b:Int):(Enc.dec (.agg [.int .i64 a,.int .i64 b]):Option Sp) = some ⟨a,b⟩:=rfl
theorem dcs_sp (a b:Int):(EncE.dcs [.int .i64 a,.int .i64 b]:Option Sp) = some ⟨a,b⟩:=rfl
theorem dep_sp:EncE.dep Sp = 1:=rfl
def zcs:=And.intro @zj2 (And.intro @cs_arr (And.intro @znC (And.intro @zlf (And.intro @znH (And.intro @znG (And.intro @cs_sk (And.intro @cs_sp (And.intro @zcX (And.intro @zfE (And.intro @znB (And.intro @zjY (And.intro @zjX (And.intro @dep_sk (And.intro @dep_sp (And.intro @bel_map (And.intro @zoW (And.intro @zfg (And.intro @zlp (And.intro @bel_int (And.intro @zlr (And.intro @zoU (And.intro @zoV (And.intro @znW (And.intro @znX (And.intro @bel_mp (And.intro @znT (And.intro @bel_agg (And.intro @znU (And.intro @znV (And.intro @zoT (And.intro @bel_mpr (And.intro @bel_fn (And.intro @zi9 (And.intro @zh1 (And.intro @zh0 (And.intro @zh2 (And.intro @zja (And.intro @zdd (And.intro @zoY (And.intro @zlv (And.intro @zf0 (And.intro @zj3 (And.intro @zlu (And.intro @zlt (And.intro @bel_vec (And.intro @bel_vp (And.intro @zls @zoX)))))))))))))))))))))))))))))))))))))))))))))))
theorem sz_sp:EncE.sz Sp = 2:=rfl
theorem eta_sp (r:Sp):(⟨r.chairs,r.before⟩:Sp) = r:=rfl
theorem enc_sh (t:Sh):Enc.enc t = .agg [.sl (t.stacks.map EncE.cs) .no,.int .i64 t.hands,.int .i64 t.rain.lo,.int .i64 t.rain.hi]:=rfl
theorem dec_sh (b:List (List AV)) (a c d:Int):(Enc.dec (.agg [.sl b .no,.int .i64 a,.int .i64 c,.int .i64 d]):Option Sh) =
  match (zfm b:Option (List Sk)) with
   | some b => some ⟨b,a,⟨c,d⟩⟩
   | _ => none:=rfl
theorem eta_sh (t:Sh):(⟨t.stacks,t.hands,t.rain⟩:Sh) = t:=rfl
theorem enc_tr (t:Tr):Enc.enc t = .agg [.int .i64 t.rain,.sl (t.leaks.map EncE.cs) .no]:=rfl
theorem dec_tr (a:Int) (b:List (List AV)):(Enc.dec (.agg [.int .i64 a,.sl b .no]):Option Tr) =
  match (zfm b:Option (List Int)) with
   | some b => some ⟨a,b⟩
   | _ => none:=rfl
theorem eta_tr (t:Tr):(⟨t.rain,t.leaks⟩:Tr) = t:=rfl
structure RefS where
 x:Sh
structure FnS (g:Nat) where
 x:Sh
def shC (s:Sh):List AV:=[.sl (s.stacks.map EncE.cs) .no,.int .i64 s.hands,.int .i64 s.rain.lo,.int .i64 s.rain.hi]
instance:Enc RefS where
 enc f:=.ref [.sl (f.x.stacks.map EncE.cs) .no,.int .i64 f.x.hands,.int .i64 f.x.rain.lo,.int .i64 f.x.rain.hi] 0
 dec
  | .ref [.sl b .no,.int .i64 a,.int .i64 c,.int .i64 d] 0 =>
   match (zfm b:Option (List Sk)) with
   | some b => some ⟨⟨b,a,⟨c,d⟩⟩⟩
   | _ => none
  | _ => none
 law v x h:=by
  split at h
  ·split at h
   ·rename_i h1
    cases h
    rw [zcJ _ _ h1]
   ·cases h
  ·cases h
 dep:=3
 ok x:=by
  simp only [za8,czn,czk,or_false,forall_eq_or_imp,forall_eq,true_and,and_true,czx,forall_exists_index,and_imp,forall_apply_eq_imp_iff₂]
  exact fun a _ => EncE.ok a
instance {g:Nat}:Enc (FnS g) where
 enc f:=.fn (.func g) [] [.ref [.sl (f.x.stacks.map EncE.cs) .no,.int .i64 f.x.hands,.int .i64 f.x.rain.lo,.int .i64 f.x.rain.hi] 0]
 dec
  | .fn (.func h) [] [.ref [.sl b .no,.int .i64 a,.int .i64 c,.int .i64 d] 0] =>
   if h = g then match (zfm b:Option (List Sk)) with
   | some b => some ⟨⟨b,a,⟨c,d⟩⟩⟩
   | _ => none else none
  | _ => none
 law v x h:=by
  split at h
  ·split at h
   ·split at h
    ·rename_i e _ _ h1
     cases h
     rw [e,zcJ _ _ h1]
    ·cases h
   ·cases h
  ·cases h
 dep:=4
 ok x:=by
  simp only [za8,czn,czk,or_false,forall_eq_or_imp,forall_eq,true_and,and_true,czx,forall_exists_index,and_imp,forall_apply_eq_imp_iff₂,false_implies,implies_true]
  exact fun a _ => EncE.ok a
theorem zjR (f:RefS):Enc.enc f = .ref [.sl (f.x.stacks.map EncE.cs) .no,.int .i64 f.x.hands,.int .i64 f.x.rain.lo,.int .i64 f.x.rain.hi] 0:=rfl
theorem dec_refs (b:List (List AV)) (a c d:Int):(Enc.dec (.ref [.sl b .no,.int .i64 a,.int .i64 c,.int .i64 d] 0):Option RefS) =
  match (zfm b:Option (List Sk)) with
   | some b => some ⟨⟨b,a,⟨c,d⟩⟩⟩
   | _ => none:=rfl
theorem eta_refs (f:RefS):(⟨f.x⟩:RefS) = f:=rfl
theorem znu {g:Nat} (f:FnS g):Enc.enc f = .fn (.func g) [] [.ref [.sl (f.x.stacks.map EncE.cs) .no,.int .i64 f.x.hands,.int .i64 f.x.rain.lo,.int .i64 f.x.rain.hi] 0]:=rfl
theorem dec_fns {g:Nat} (b:List (List AV)) (a c d:Int):(Enc.dec (.fn (.func g) [] [.ref [.sl b .no,.int .i64 a,.int .i64 c,.int .i64 d] 0]):Option (FnS g)) =
  match (zfm b:Option (List Sk)) with
   | some b => some ⟨⟨b,a,⟨c,d⟩⟩⟩
   | _ => none:=by
 show (if g = g then _ else none) = _
 rw [if_pos rfl]
theorem eta_fns {g:Nat} (f:FnS g):(⟨f.x⟩:FnS g) = f:=rfl
theorem zeF:∀ n m (v:AV),za8 n v → n ≤ m → za8 m v:=by
 intro n
 induction n with
 | zero => intro m v h; simp [za8] at h
 | succ n ih =>
  intro m v h hm
  obtain ⟨m,rfl⟩:∃ k,m = k + 1:=⟨m - 1,by omega⟩
  cases v <;> simp only [za8] at h ⊢
  ·exact fun c hc => ih m c (h c hc) (by omega)
  ·exact fun c hc => ih m c (h c hc) (by omega)
  ·exact ⟨h.1,fun e he c hc => ih m c (h.2 e he c hc) (by omega)⟩
  ·exact fun c hc => ih m c (h c hc) (by omega)
  ·exact ⟨fun c hc => ih m c (h.1 c hc) (by omega),fun c hc => ih m c (h.2 c hc) (by omega)⟩
  ·exact fun c hc => ih m c (h c hc) (by omega)
instance {α β:Type} [Enc α] [Enc β]:Enc (α × β) where
 enc p:=.tup [Enc.enc p.1,Enc.enc p.2]
 dec
  | .tup [a,b] => match (Enc.dec a:Option α),(Enc.dec b:Option β) with
   | some a,some b => some (a,b)
   | _,_ => none
  | _ => none
 law v x h:=by
  split at h
  ·split at h
   ·rename_i h1 h2
    cases h
    rw [Enc.law _ _ h1,Enc.law _ _ h2]
   ·cases h
  ·cases h
 dep:=max (Enc.dep α) (Enc.dep β) + 1
 ok x:=by
  simp only [za8,czn,czk,or_false,forall_eq_or_imp,forall_eq]
  exact ⟨zeF _ _ _ (Enc.ok x.1) (by omega),zeF _ _ _ (Enc.ok x.2) (by omega)⟩
theorem enc_pair {α β:Type} [Enc α] [Enc β] (p:α × β):Enc.enc p = .tup [Enc.enc p.1,Enc.enc p.2]:=rfl
structure Tri (α β γ:Type) where
 a:α
 b:β
 c:γ
instance {α β γ:Type} [Enc α] [Enc β] [Enc γ]:Enc (Tri α β γ) where
 enc p:=.tup [Enc.enc p.a,Enc.enc p.b,Enc.enc p.c]
 dec
  | .tup [a,b,c] => match (Enc.dec a:Option α),(Enc.dec b:Option β),(Enc.dec c:Option γ) with
   | some a,some b,some c => some ⟨a,b,c⟩
   | _,_,_ => none
  | _ => none
 law v x h:=by
  split at h
  ·split at h
   ·rename_i h1 h2 h3
    cases h
    rw [Enc.law _ _ h1,Enc.law _ _ h2,Enc.law _ _ h3]
   ·cases h
  ·cases h
 dep:=max (Enc.dep α) (max (Enc.dep β) (Enc.dep γ)) + 1
 ok x:=by
  simp only [za8,czn,czk,or_false,forall_eq_or_imp,forall_eq]
  exact ⟨zeF _ _ _ (Enc.ok x.a) (by omega),zeF _ _ _ (Enc.ok x.b) (by omega),zeF _ _ _ (Enc.ok x.c) (by omega)⟩
theorem enc_tri {α β γ:Type} [Enc α] [Enc β] [Enc γ] (p:Tri α β γ):Enc.enc p = .tup [Enc.enc p.a,Enc.enc p.b,Enc.enc p.c]:=rfl
structure WkS where
 s:Sh
 ks:List (List Int)
 vs:List Int
def decI:List AV → Option (List Int)
 | [] => some []
 | .int .i64 n :: r => (decI r).map fun l => n :: l
 | _ => none
theorem zoK:∀ l:List Int,decI (l.map (AV.int .i64)) = some l
 | [] => rfl
 | x :: l => by simp [decI,zoK l]
theorem zoL:∀ (vs:List AV) (l:List Int),decI vs = some l → vs = l.map (AV.int .i64)
 | [],l,h => by simp [decI] at h; subst h; rfl
 | v :: r,l,h => by
  unfold decI at h
  split at h
  ·rename_i e; cases e
  ·rename_i n r' e
   cases e
   simp only [czr] at h
   obtain ⟨l',h1,rfl⟩:=h
   rw [zoL _ _ h1]; rfl
  ·cases h
def wkC (w:WkS):List AV:=[.sl (w.s.stacks.map EncE.cs) .no,.int .i64 w.s.hands,.int .i64 w.s.rain.lo,.int .i64 w.s.rain.hi,.mpr w.ks (w.vs.map (AV.int .i64))]
instance:Enc WkS where
 enc w:=.ref [.sl (w.s.stacks.map EncE.cs) .no,.int .i64 w.s.hands,.int .i64 w.s.rain.lo,.int .i64 w.s.rain.hi,.mpr w.ks (w.vs.map (AV.int .i64))] 0
 dec
  | .ref [.sl b .no,.int .i64 a,.int .i64 c,.int .i64 d,.mpr ks vs] 0 =>
   match (zfm b:Option (List Sk)),decI vs with
   | some b,some vs => some ⟨⟨b,a,⟨c,d⟩⟩,ks,vs⟩
   | _,_ => none
  | _ => none
 law v x h:=by
  split at h
  ·split at h
   ·rename_i h1 h2
    cases h
    rw [zcJ _ _ h1,zoL _ _ h2]
   ·cases h
  ·cases h
 dep:=3
 ok x:=by
  simp only [za8,czn,czk,or_false,forall_eq_or_imp,forall_eq,true_and,and_true,czx,forall_exists_index,and_imp,forall_apply_eq_imp_iff₂,implies_true]
  exact fun a _ => EncE.ok a
theorem znt (w:WkS):Enc.enc w = .ref [.sl (w.s.stacks.map EncE.cs) .no,.int .i64 w.s.hands,.int .i64 w.s.rain.lo,.int .i64 w.s.rain.hi,.mpr w.ks (w.vs.map (AV.int .i64))] 0:=rfl
def zd3:=And.intro @znv (And.intro @znx (And.intro @znw (And.intro @zjS (And.intro @zny (And.intro @zhR (And.intro @zjU (And.intro @zjT (And.intro @enc_sk (And.intro @enc_sp (And.intro @enc_rg (And.intro @enc_sh (And.intro @enc_tr (And.intro @zjR (And.intro @znu @znt))))))))))))))
theorem dec_wks (b:List (List AV)) (a c d:Int) (ks:List (List Int)) (vs:List AV):(Enc.dec (.ref [.sl b .no,.int .i64 a,.int .i64 c,.int .i64 d,.mpr ks vs] 0):Option WkS) =
  match (zfm b:Option (List Sk)),decI vs with
   | some b,some vs => some ⟨⟨b,a,⟨c,d⟩⟩,ks,vs⟩
   | _,_ => none:=rfl
theorem eta_wks (w:WkS):(⟨w.s,w.ks,w.vs⟩:WkS) = w:=rfl
attribute [go_sem] vc_skip vc_label vc_seq vc_cond zod vc_loop vc_exit vc_ret zg3 vc_draw stepA zp2 sem zcy semV evT lk zaO blkA St.put putT AV.un AV.av zel Op.operands zgz pickA binA zbv retA zgf resV zfh AV.strip Tk.strip ofV zgU List.map_nil List.toList_toArray Option.getD_some Option.getD_none czy Nat.reduceAdd Nat.reduceSub if_true if_false Nat.reduceEqDiff true_and and_true czp Nat.reduceLT forall_const Option.map_some reduceCtorEq implies_true zhG zjy zgZ zgY zdJ AV.solid AV.cells' AV.cells List.nil_append czs List.append_nil zcv avsA callV zgN czn czk or_false or_true false_or forall_eq_or_imp forall_eq znO Call.operands Array.toList_append czz zoj bndA List.getD_cons_zero List.getD_cons_succ List.getD_nil zn1 spec0 zbN zbD zgE zpS spec5 zhR zjU zjT dec_int dec_bool dec_list zlf znH znG dcs_int dcs_list zoJ decL_nil decL_cons znD znB zjY zjX sz_int sz_bool sz_list zjo imm_map len_map zai Nat.reduceLeDiff minA maxA true_implies Nat.succ_ne_zero List.drop_succ_cons List.drop_zero List.take_succ_cons List.take_zero czD czS not_true_eq_false not_false_eq_true zcX zfE tokz1 zpU snap_int zpV snap_nilp snap_nilf snap_agg snap_tup snap_ref snap_fn snap_mpr zmD zkw snap_ptr snap_arr snap_mp imm_undef imm_int imm_boolv imm_nilp imm_nilf imm_agg imm_tup imm_ref imm_fn imm_mpr zqu znj imm_ptr imm_arr imm_mp czA decide_false decide_true false_implies Nat.lt_irrefl czF Nat.reduceMul Nat.zero_add Nat.zero_le Bool.true_eq_false drawP vcDr zco zeH zgo zcM zaW zaV effOp zdh zhn List.filterMap_cons List.filterMap_nil List.replicate List.set_cons_zero List.set_cons_succ Bool.not_true Bool.not_false Bool.and_true Bool.and_false Bool.true_and Bool.false_and Nat.add_zero and_self imp_self appA zoQ zc6 zeV zbh zb7 Option.map_none List.getElem?_nil zim zfv zhQ eqA Bool.not_eq_true List.singleton_append Option.isSome_some Option.isSome_none zmE zqv ite_or ite_and Bool.not_eq_true' vcOps_nil zpH if_prop if_tr if_prop' if_tr' ite_self cast0 cast1 Int.reduceToNat Int.reduceLT Int.reduceLE Int.reduceEq eq_self Int.le_refl czf znv znx znw zjS dec_fnl dec_fnb dec_fnc dec_refc zny cs_arr dec_arr dcs_arr zgg znC sz_arr zdA zpP zmz zkv snap_ints imm_ints scal_ints zfP drop_ints zmV zmW Nat.mul_one callN frA AV.frsh zeW zeu zdb List.any_cons List.any_nil zku Bool.or_false Bool.false_or Bool.or_true Bool.true_or beq_self_eq_true Nat.reduceBEq vc_scope scpA zmH snapF_int zmI zpY zpZ snapF_agg snapF_tup snapF_ref snapF_fn snapF_mpr snapF_sl snapF_ptr snapF_arr snapF_mp snapF_yld snapF_vec snapF_vp vecA zno snapG_agg zmF snapG_int zmG zpW zpX snapG_tup snapG_ref snapG_fn snapG_mpr snapG_sl snapG_ptr snapG_arr snapG_mp snapG_yld snapG_vec snapG_vp snapA zp9 AV.strip1 AV.soft picR_one picR_nil zou zp0 snap_vec snap_vp imm_vec imm_vp all_map picS_sl picS_arr picS_vec zlH callOp zgI vecIn fzV frzN litB enc_sk cs_sk dec_sk dcs_sk dep_sk sz_sk eta_sk enc_sp cs_sp dec_sp dcs_sp dep_sp sz_sp eta_sp enc_rg dec_rg eta_rg enc_sh dec_sh eta_sh enc_tr dec_tr eta_tr zjR dec_refs eta_refs znu dec_fns eta_fns znt dec_wks eta_wks enc_pair enc_tri zoK
end Go.Fs
namespace Go.Proofs
open Go.Fs
def chS (s:Sh) (i:Int):Int:=(at_ s.stacks i.toNat).chairs
def spS (s:Sh) (i:Int):Int:=s.rain.lo + (at_ s.stacks i.toNat).leak.lo
def zcx (n:Nat):List Int:=(List.range n).map fun i:Nat => (i:Int)
def zdV (s:Sh):List Int:=zaY (fun i => -chS s i) (zcx s.stacks.length)
def zc0 (s:Sh):List Int:=zcH s.hands (spS s) (chS s) (zdV s) []
def FeasS (s:Sh) (A:Nat → Bool):Prop:=Feas s.stacks.length s.hands (fun i => spS s i) A
def zdf (s:Sh) (A:Nat → Bool):Int:=zig s.stacks.length (fun i => chS s i) A
def zeq (s:Sh):Int:=zdf s (zeb (zc0 s))
def zp9 (s:Sh) (c b:Int):Int:=partN s.stacks.length s.hands (fun i => spS s i) (fun i => chS s i) c b
structure ShOk (s:Sh):Prop where
 len:s.stacks.length ≤ 8
 h0:0 ≤ s.hands
 h3:s.hands ≤ 3
 r:0 ≤ s.rain.lo ∧ s.rain.lo ≤ s.rain.hi ∧ s.rain.hi ≤ 9
 st:∀ x ∈ s.stacks,(0 ≤ x.chairs ∧ x.chairs ≤ 99) ∧ 0 ≤ x.leak.lo ∧ x.leak.lo ≤ x.leak.hi ∧ x.leak.hi ≤ 9
theorem ShOk.ch {s:Sh} (h:ShOk s) {i:Nat} (hi:i < s.stacks.length):0 ≤ chS s i ∧ chS s i ≤ 99:=by
 unfold chS
 rw [czF]
 exact (h.st _ (zaS hi)).1
theorem ShOk.sp {s:Sh} (h:ShOk s) {i:Nat} (hi:i < s.stacks.length):0 ≤ spS s i ∧ spS s i ≤ 18:=by
 unfold spS
 rw [czF]
 have h1:=(h.st _ (zaS hi)).2
 have h2:=h.r
 omega
theorem ziP (n:Nat) (x:Int):x ∈ zcx n ↔ 0 ≤ x ∧ x < n:=by
 simp only [zcx,czx,List.mem_range]
 constructor
 ·rintro ⟨i,hi,rfl⟩; omega
 ·intro h; exact ⟨x.toNat,by omega,by omega⟩
theorem zkG (n:Nat):(zcx n).Nodup:=by
 unfold zcx List.Nodup
 rw [List.pairwise_map]
 exact List.nodup_range.imp fun h e => h (by omega)
theorem zeL (s:Sh) (x:Int):x ∈ zdV s ↔ 0 ≤ x ∧ x < s.stacks.length:=by
 unfold zdV
 rw [zdi,ziP]
theorem ShOk.nat {s:Sh} (h:ShOk s) {x:Int} (hx:0 ≤ x ∧ x < s.stacks.length):(0 ≤ spS s x ∧ spS s x ≤ 18) ∧ 0 ≤ chS s x ∧ chS s x ≤ 99:=by
 obtain ⟨k,rfl⟩:=czu hx.1
 exact ⟨h.sp (by omega),h.ch (by omega)⟩
theorem zdR {s:Sh} (h:ShOk s):(zc0 s).Nodup ∧ (∀ x ∈ zc0 s,0 ≤ x ∧ x < s.stacks.length) ∧ FeasS s (zeb (zc0 s)) ∧
  ∀ c:Int,1 ≤ c → ∃ b:Nat,b ≤ 18 ∧ cnt s.stacks.length (fun i => zeb (zc0 s) i && decide (c ≤ chS s i)) = zp9 s c b:=by
 obtain ⟨h1,h2,h3,h4⟩:=znl (n:=s.stacks.length) (H:=s.hands) (sp:=spS s) (ch:=chS s) h.h0 (hv:=zdV s) (zfq (zkG _)) (fun x => zeL s x)
  (fun x hx => (h.nat ((zeL s x).1 hx)).1) (zgl _ _) (fun x hx => (h.nat ((zeL s x).1 hx)).2.1)
 exact ⟨h1,fun x hx => (zeL s x).1 (h2 x hx),h3,h4⟩
theorem feas_le {s:Sh} (h:ShOk s) {A:Nat → Bool} (hA:FeasS s A):zdf s A ≤ zeq s:=by
 obtain ⟨_,_,_,h4⟩:=zdR h
 unfold zeq zdf
 rw [zg1 (m:=99) (fun i hi _ => h.ch hi),zg1 (m:=99) (p:=zeb (zc0 s)) (fun i hi _ => h.ch hi)]
 refine sumTo_le fun c hc => ?_
 obtain ⟨b,hb,he⟩:=h4 ((c:Int) + 1) (by omega)
 rw [he]
 exact part_weak hA _ hb
def zpR:List Sp → Int → Sp
 | [],_ => default
 | [x],_ => x
 | x :: y :: r,c => if c ≤ x.chairs then x else zpR (y :: r) c
theorem zkq:∀ (l:List Sp) (c:Int),l ≠ [] → zpR l c ∈ l
 | [],_,h => absurd rfl h
 | [x],_,_ => by simp [zpR]
 | x :: y :: r,c,_ => by
  unfold zpR
  split
  ·simp
  ·exact List.mem_cons_of_mem _ (zkq (y :: r) c (by simp))
def spOk (x:Sp):Bool:=(decide (1 ≤ x.chairs) && decide (x.chairs ≤ 99)) && (decide (0 ≤ x.before) && decide (x.before ≤ 18))
theorem zaA:Tryz.prog.follows .mixedOrders = true:=by kernel_rfl
theorem ly0:zbu Tryz.prog 0 = some (1) ∧ zaT Tryz.prog 0 = some (false) ∧ bytesOf? Tryz.prog 0 = some (0) ∧ zaG Tryz.prog 0 = false ∧ zbs Tryz.prog 0 = none ∧ zaX Tryz.prog 0 = none ∧ za4 Tryz.prog 0 = none ∧ intOf? Tryz.prog 0 = none ∧ zaL Tryz.prog 0 = none ∧ zaC Tryz.prog 0 = none ∧ mapOf? Tryz.prog 0 = none ∧ zau Tryz.prog 0 = none ∧ zaD Tryz.prog 0 = some ([.undef]) ∧ za1 Tryz.prog 0 = some (.undef) ∧ za3 Tryz.prog 0 = none:=by and_intros <;> kernel_rfl
theorem ly1:zbu Tryz.prog 1 = some (1) ∧ zaT Tryz.prog 1 = some (false) ∧ bytesOf? Tryz.prog 1 = some (8) ∧ zaG Tryz.prog 1 = false ∧ zbs Tryz.prog 1 = none ∧ zaX Tryz.prog 1 = none ∧ za4 Tryz.prog 1 = none ∧ intOf? Tryz.prog 1 = none ∧ zaL Tryz.prog 1 = none ∧ zaC Tryz.prog 1 = none ∧ mapOf? Tryz.prog 1 = none ∧ zau Tryz.prog 1 = none ∧ zaD Tryz.prog 1 = some ([.nilf]) ∧ za1 Tryz.prog 1 = some (.nilf) ∧ za3 Tryz.prog 1 = none:=by and_intros <;> kernel_rfl
theorem ly2:zbu Tryz.prog 2 = some (1) ∧ zaT Tryz.prog 2 = some (false) ∧ bytesOf? Tryz.prog 2 = some (8) ∧ zaG Tryz.prog 2 = false ∧ zbs Tryz.prog 2 = none ∧ zaX Tryz.prog 2 = none ∧ za4 Tryz.prog 2 = none ∧ intOf? Tryz.prog 2 = some (.i64) ∧ zaL Tryz.prog 2 = none ∧ zaC Tryz.prog 2 = none ∧ mapOf? Tryz.prog 2 = none ∧ zau Tryz.prog 2 = none ∧ zaD Tryz.prog 2 = some ([(.int .i64 0)]) ∧ za1 Tryz.prog 2 = some ((.int .i64 0)) ∧ za3 Tryz.prog 2 = none:=by and_intros <;> kernel_rfl
theorem ly3:zbu Tryz.prog 3 = some (1) ∧ zaT Tryz.prog 3 = some (false) ∧ bytesOf? Tryz.prog 3 = some (8) ∧ zaG Tryz.prog 3 = false ∧ zbs Tryz.prog 3 = none ∧ zaX Tryz.prog 3 = none ∧ za4 Tryz.prog 3 = none ∧ intOf? Tryz.prog 3 = some (.i64) ∧ zaL Tryz.prog 3 = none ∧ zaC Tryz.prog 3 = none ∧ mapOf? Tryz.prog 3 = none ∧ zau Tryz.prog 3 = none ∧ zaD Tryz.prog 3 = some ([(.int .i64 0)]) ∧ za1 Tryz.prog 3 = some ((.int .i64 0)) ∧ za3 Tryz.prog 3 = none:=by and_intros <;> kernel_rfl
theorem ly4:zbu Tryz.prog 4 = some (1) ∧ zaT Tryz.prog 4 = some (false) ∧ bytesOf? Tryz.prog 4 = some (1) ∧ zaG Tryz.prog 4 = true ∧ zbs Tryz.prog 4 = none ∧ zaX Tryz.prog 4 = none ∧ za4 Tryz.prog 4 = none ∧ intOf? Tryz.prog 4 = none ∧ zaL Tryz.prog 4 = none ∧ zaC Tryz.prog 4 = none ∧ mapOf? Tryz.prog 4 = none ∧ zau Tryz.prog 4 = none ∧ zaD Tryz.prog 4 = some ([(.bool false)]) ∧ za1 Tryz.prog 4 = some ((.bool false)) ∧ za3 Tryz.prog 4 = none:=by and_intros <;> kernel_rfl
theorem ly5:zbu Tryz.prog 5 = some (1) ∧ zaT Tryz.prog 5 = some (false) ∧ bytesOf? Tryz.prog 5 = some (1) ∧ zaG Tryz.prog 5 = false ∧ zbs Tryz.prog 5 = none ∧ zaX Tryz.prog 5 = none ∧ za4 Tryz.prog 5 = none ∧ intOf? Tryz.prog 5 = some (.u8) ∧ zaL Tryz.prog 5 = none ∧ zaC Tryz.prog 5 = none ∧ mapOf? Tryz.prog 5 = none ∧ zau Tryz.prog 5 = none ∧ zaD Tryz.prog 5 = some ([(.int .u8 0)]) ∧ za1 Tryz.prog 5 = some ((.int .u8 0)) ∧ za3 Tryz.prog 5 = none:=by and_intros <;> kernel_rfl
theorem ly22:zbu Tryz.prog 22 = some (1) ∧ zaT Tryz.prog 22 = some (false) ∧ bytesOf? Tryz.prog 22 = some (24) ∧ zaG Tryz.prog 22 = false ∧ zbs Tryz.prog 22 = some ((65,4)) ∧ zaX Tryz.prog 22 = none ∧ za4 Tryz.prog 22 = none ∧ intOf? Tryz.prog 22 = none ∧ zaL Tryz.prog 22 = none ∧ zaC Tryz.prog 22 = none ∧ mapOf? Tryz.prog 22 = none ∧ zau Tryz.prog 22 = none ∧ zaD Tryz.prog 22 = some ([(.sl [] .full)]) ∧ za1 Tryz.prog 22 = some ((.sl [] .full)) ∧ za3 Tryz.prog 22 = none:=by and_intros <;> kernel_rfl
theorem ly23:zbu Tryz.prog 23 = some (1) ∧ zaT Tryz.prog 23 = some (false) ∧ bytesOf? Tryz.prog 23 = some (24) ∧ zaG Tryz.prog 23 = false ∧ zbs Tryz.prog 23 = some ((66,2)) ∧ zaX Tryz.prog 23 = none ∧ za4 Tryz.prog 23 = none ∧ intOf? Tryz.prog 23 = none ∧ zaL Tryz.prog 23 = none ∧ zaC Tryz.prog 23 = none ∧ mapOf? Tryz.prog 23 = none ∧ zau Tryz.prog 23 = none ∧ zaD Tryz.prog 23 = some ([(.sl [] .full)]) ∧ za1 Tryz.prog 23 = some ((.sl [] .full)) ∧ za3 Tryz.prog 23 = none:=by and_intros <;> kernel_rfl
theorem ly25:zbu Tryz.prog 25 = some (3) ∧ zaT Tryz.prog 25 = some (true) ∧ bytesOf? Tryz.prog 25 = some (56) ∧ zaG Tryz.prog 25 = false ∧ zbs Tryz.prog 25 = none ∧ zaX Tryz.prog 25 = none ∧ za4 Tryz.prog 25 = none ∧ intOf? Tryz.prog 25 = none ∧ zaL Tryz.prog 25 = none ∧ zaC Tryz.prog 25 = none ∧ mapOf? Tryz.prog 25 = none ∧ zau Tryz.prog 25 = some ([(0,1),(1,1),(2,1)]) ∧ zaD Tryz.prog 25 = some ([(.sl [] .full),(.int .i64 0),(.sl [] .full)]) ∧ za1 Tryz.prog 25 = some ((.agg [(.sl [] .full),(.int .i64 0),(.sl [] .full)])) ∧ za3 Tryz.prog 25 = none:=by and_intros <;> kernel_rfl
theorem ly26:zbu Tryz.prog 26 = some (1) ∧ zaT Tryz.prog 26 = some (false) ∧ bytesOf? Tryz.prog 26 = some (24) ∧ zaG Tryz.prog 26 = false ∧ zbs Tryz.prog 26 = some ((69,3)) ∧ zaX Tryz.prog 26 = none ∧ za4 Tryz.prog 26 = none ∧ intOf? Tryz.prog 26 = none ∧ zaL Tryz.prog 26 = none ∧ zaC Tryz.prog 26 = none ∧ mapOf? Tryz.prog 26 = none ∧ zau Tryz.prog 26 = none ∧ zaD Tryz.prog 26 = some ([(.sl [] .full)]) ∧ za1 Tryz.prog 26 = some ((.sl [] .full)) ∧ za3 Tryz.prog 26 = none:=by and_intros <;> kernel_rfl
theorem ly28:zbu Tryz.prog 28 = some (2) ∧ zaT Tryz.prog 28 = some (true) ∧ bytesOf? Tryz.prog 28 = some (16) ∧ zaG Tryz.prog 28 = false ∧ zbs Tryz.prog 28 = none ∧ zaX Tryz.prog 28 = none ∧ za4 Tryz.prog 28 = none ∧ intOf? Tryz.prog 28 = none ∧ zaL Tryz.prog 28 = some (2) ∧ zaC Tryz.prog 28 = some (2) ∧ mapOf? Tryz.prog 28 = none ∧ zau Tryz.prog 28 = some ([(0,1),(1,1)]) ∧ zaD Tryz.prog 28 = some ([(.int .i64 0),(.int .i64 0)]) ∧ za1 Tryz.prog 28 = some ((.agg [(.int .i64 0),(.int .i64 0)])) ∧ za3 Tryz.prog 28 = none:=by and_intros <;> kernel_rfl
theorem ly30:zbu Tryz.prog 30 = some (4) ∧ zaT Tryz.prog 30 = some (true) ∧ bytesOf? Tryz.prog 30 = some (48) ∧ zaG Tryz.prog 30 = false ∧ zbs Tryz.prog 30 = none ∧ zaX Tryz.prog 30 = none ∧ za4 Tryz.prog 30 = none ∧ intOf? Tryz.prog 30 = none ∧ zaL Tryz.prog 30 = none ∧ zaC Tryz.prog 30 = none ∧ mapOf? Tryz.prog 30 = none ∧ zau Tryz.prog 30 = some ([(0,1),(1,1),(2,2)]) ∧ zaD Tryz.prog 30 = some ([(.sl [] .full),(.int .i64 0),(.int .i64 0),(.int .i64 0)]) ∧ za1 Tryz.prog 30 = some ((.agg [(.sl [] .full),(.int .i64 0),(.int .i64 0),(.int .i64 0)])) ∧ za3 Tryz.prog 30 = none:=by and_intros <;> kernel_rfl
theorem ly31:zbu Tryz.prog 31 = some (1) ∧ zaT Tryz.prog 31 = some (false) ∧ bytesOf? Tryz.prog 31 = some (2) ∧ zaG Tryz.prog 31 = false ∧ zbs Tryz.prog 31 = none ∧ zaX Tryz.prog 31 = none ∧ za4 Tryz.prog 31 = none ∧ intOf? Tryz.prog 31 = some (.u16) ∧ zaL Tryz.prog 31 = none ∧ zaC Tryz.prog 31 = none ∧ mapOf? Tryz.prog 31 = none ∧ zau Tryz.prog 31 = none ∧ zaD Tryz.prog 31 = some ([(.int .u16 0)]) ∧ za1 Tryz.prog 31 = some ((.int .u16 0)) ∧ za3 Tryz.prog 31 = none:=by and_intros <;> kernel_rfl
theorem ly37:zbu Tryz.prog 37 = some (1) ∧ zaT Tryz.prog 37 = some (false) ∧ bytesOf? Tryz.prog 37 = some (24) ∧ zaG Tryz.prog 37 = false ∧ zbs Tryz.prog 37 = some ((3,1)) ∧ zaX Tryz.prog 37 = none ∧ za4 Tryz.prog 37 = none ∧ intOf? Tryz.prog 37 = none ∧ zaL Tryz.prog 37 = none ∧ zaC Tryz.prog 37 = none ∧ mapOf? Tryz.prog 37 = none ∧ zau Tryz.prog 37 = none ∧ zaD Tryz.prog 37 = some ([(.sl [] .full)]) ∧ za1 Tryz.prog 37 = some ((.sl [] .full)) ∧ za3 Tryz.prog 37 = none:=by and_intros <;> kernel_rfl
theorem ly40:zbu Tryz.prog 40 = some (2) ∧ zaT Tryz.prog 40 = some (true) ∧ bytesOf? Tryz.prog 40 = some (16) ∧ zaG Tryz.prog 40 = false ∧ zbs Tryz.prog 40 = none ∧ zaX Tryz.prog 40 = none ∧ za4 Tryz.prog 40 = none ∧ intOf? Tryz.prog 40 = none ∧ zaL Tryz.prog 40 = some (2) ∧ zaC Tryz.prog 40 = some (2) ∧ mapOf? Tryz.prog 40 = none ∧ zau Tryz.prog 40 = some ([(0,1),(1,1)]) ∧ zaD Tryz.prog 40 = some ([(.int .i64 0),(.int .i64 0)]) ∧ za1 Tryz.prog 40 = some ((.agg [(.int .i64 0),(.int .i64 0)])) ∧ za3 Tryz.prog 40 = none:=by and_intros <;> kernel_rfl
theorem ly41:zbu Tryz.prog 41 = some (1) ∧ zaT Tryz.prog 41 = some (false) ∧ bytesOf? Tryz.prog 41 = some (8) ∧ zaG Tryz.prog 41 = false ∧ zbs Tryz.prog 41 = none ∧ zaX Tryz.prog 41 = none ∧ za4 Tryz.prog 41 = none ∧ intOf? Tryz.prog 41 = some (.i64) ∧ zaL Tryz.prog 41 = none ∧ zaC Tryz.prog 41 = none ∧ mapOf? Tryz.prog 41 = none ∧ zau Tryz.prog 41 = none ∧ zaD Tryz.prog 41 = some ([(.int .i64 0)]) ∧ za1 Tryz.prog 41 = some ((.int .i64 0)) ∧ za3 Tryz.prog 41 = none:=by and_intros <;> kernel_rfl
theorem ly44:zbu Tryz.prog 44 = some (1) ∧ zaT Tryz.prog 44 = some (false) ∧ bytesOf? Tryz.prog 44 = some (24) ∧ zaG Tryz.prog 44 = false ∧ zbs Tryz.prog 44 = some ((72,4)) ∧ zaX Tryz.prog 44 = none ∧ za4 Tryz.prog 44 = none ∧ intOf? Tryz.prog 44 = none ∧ zaL Tryz.prog 44 = none ∧ zaC Tryz.prog 44 = none ∧ mapOf? Tryz.prog 44 = none ∧ zau Tryz.prog 44 = none ∧ zaD Tryz.prog 44 = some ([(.sl [] .full)]) ∧ za1 Tryz.prog 44 = some ((.sl [] .full)) ∧ za3 Tryz.prog 44 = none:=by and_intros <;> kernel_rfl
theorem ly45:zbu Tryz.prog 45 = some (1) ∧ zaT Tryz.prog 45 = some (false) ∧ bytesOf? Tryz.prog 45 = some (24) ∧ zaG Tryz.prog 45 = false ∧ zbs Tryz.prog 45 = some ((40,2)) ∧ zaX Tryz.prog 45 = none ∧ za4 Tryz.prog 45 = none ∧ intOf? Tryz.prog 45 = none ∧ zaL Tryz.prog 45 = none ∧ zaC Tryz.prog 45 = none ∧ mapOf? Tryz.prog 45 = none ∧ zau Tryz.prog 45 = none ∧ zaD Tryz.prog 45 = some ([(.sl [] .full)]) ∧ za1 Tryz.prog 45 = some ((.sl [] .full)) ∧ za3 Tryz.prog 45 = none:=by and_intros <;> kernel_rfl
theorem ly47:zbu Tryz.prog 47 = some (3) ∧ zaT Tryz.prog 47 = some (true) ∧ bytesOf? Tryz.prog 47 = some (56) ∧ zaG Tryz.prog 47 = false ∧ zbs Tryz.prog 47 = none ∧ zaX Tryz.prog 47 = none ∧ za4 Tryz.prog 47 = none ∧ intOf? Tryz.prog 47 = none ∧ zaL Tryz.prog 47 = none ∧ zaC Tryz.prog 47 = none ∧ mapOf? Tryz.prog 47 = none ∧ zau Tryz.prog 47 = some ([(0,1),(1,1),(2,1)]) ∧ zaD Tryz.prog 47 = some ([(.sl [] .full),(.int .i64 0),(.sl [] .full)]) ∧ za1 Tryz.prog 47 = some ((.agg [(.sl [] .full),(.int .i64 0),(.sl [] .full)])) ∧ za3 Tryz.prog 47 = none:=by and_intros <;> kernel_rfl
theorem ly49:zbu Tryz.prog 49 = some (1) ∧ zaT Tryz.prog 49 = some (false) ∧ bytesOf? Tryz.prog 49 = some (24) ∧ zaG Tryz.prog 49 = false ∧ zbs Tryz.prog 49 = some ((63,3)) ∧ zaX Tryz.prog 49 = none ∧ za4 Tryz.prog 49 = none ∧ intOf? Tryz.prog 49 = none ∧ zaL Tryz.prog 49 = none ∧ zaC Tryz.prog 49 = none ∧ mapOf? Tryz.prog 49 = none ∧ zau Tryz.prog 49 = none ∧ zaD Tryz.prog 49 = some ([(.sl [] .full)]) ∧ za1 Tryz.prog 49 = some ((.sl [] .full)) ∧ za3 Tryz.prog 49 = none:=by and_intros <;> kernel_rfl
theorem ly53:zbu Tryz.prog 53 = some (1) ∧ zaT Tryz.prog 53 = some (false) ∧ bytesOf? Tryz.prog 53 = some (24) ∧ zaG Tryz.prog 53 = false ∧ zbs Tryz.prog 53 = some ((70,3)) ∧ zaX Tryz.prog 53 = none ∧ za4 Tryz.prog 53 = none ∧ intOf? Tryz.prog 53 = none ∧ zaL Tryz.prog 53 = none ∧ zaC Tryz.prog 53 = none ∧ mapOf? Tryz.prog 53 = none ∧ zau Tryz.prog 53 = none ∧ zaD Tryz.prog 53 = some ([(.sl [] .full)]) ∧ za1 Tryz.prog 53 = some ((.sl [] .full)) ∧ za3 Tryz.prog 53 = none:=by and_intros <;> kernel_rfl
theorem ly55:zbu Tryz.prog 55 = some (1) ∧ zaT Tryz.prog 55 = some (false) ∧ bytesOf? Tryz.prog 55 = some (24) ∧ zaG Tryz.prog 55 = false ∧ zbs Tryz.prog 55 = some ((107,2)) ∧ zaX Tryz.prog 55 = none ∧ za4 Tryz.prog 55 = none ∧ intOf? Tryz.prog 55 = none ∧ zaL Tryz.prog 55 = none ∧ zaC Tryz.prog 55 = none ∧ mapOf? Tryz.prog 55 = none ∧ zau Tryz.prog 55 = none ∧ zaD Tryz.prog 55 = some ([(.sl [] .full)]) ∧ za1 Tryz.prog 55 = some ((.sl [] .full)) ∧ za3 Tryz.prog 55 = none:=by and_intros <;> kernel_rfl
theorem ly63:zbu Tryz.prog 63 = some (3) ∧ zaT Tryz.prog 63 = some (true) ∧ bytesOf? Tryz.prog 63 = some (24) ∧ zaG Tryz.prog 63 = false ∧ zbs Tryz.prog 63 = none ∧ zaX Tryz.prog 63 = some ((3,1)) ∧ za4 Tryz.prog 63 = some (3) ∧ intOf? Tryz.prog 63 = none ∧ zaL Tryz.prog 63 = some (3) ∧ zaC Tryz.prog 63 = some (3) ∧ mapOf? Tryz.prog 63 = none ∧ zau Tryz.prog 63 = none ∧ zaD Tryz.prog 63 = some ([(.int .i64 0),(.int .i64 0),(.int .i64 0)]) ∧ za1 Tryz.prog 63 = some ((.agg [(.int .i64 0),(.int .i64 0),(.int .i64 0)])) ∧ za3 Tryz.prog 63 = none:=by and_intros <;> kernel_rfl
theorem ly65:zbu Tryz.prog 65 = some (4) ∧ zaT Tryz.prog 65 = some (true) ∧ bytesOf? Tryz.prog 65 = some (32) ∧ zaG Tryz.prog 65 = false ∧ zbs Tryz.prog 65 = none ∧ zaX Tryz.prog 65 = none ∧ za4 Tryz.prog 65 = none ∧ intOf? Tryz.prog 65 = none ∧ zaL Tryz.prog 65 = none ∧ zaC Tryz.prog 65 = some (4) ∧ mapOf? Tryz.prog 65 = none ∧ zau Tryz.prog 65 = some ([(0,1),(1,3)]) ∧ zaD Tryz.prog 65 = some ([(.int .i64 0),(.int .i64 0),(.int .i64 0),(.int .i64 0)]) ∧ za1 Tryz.prog 65 = some ((.agg [(.int .i64 0),(.int .i64 0),(.int .i64 0),(.int .i64 0)])) ∧ za3 Tryz.prog 65 = none:=by and_intros <;> kernel_rfl
theorem ly66:zbu Tryz.prog 66 = some (2) ∧ zaT Tryz.prog 66 = some (true) ∧ bytesOf? Tryz.prog 66 = some (16) ∧ zaG Tryz.prog 66 = false ∧ zbs Tryz.prog 66 = none ∧ zaX Tryz.prog 66 = none ∧ za4 Tryz.prog 66 = none ∧ intOf? Tryz.prog 66 = none ∧ zaL Tryz.prog 66 = some (2) ∧ zaC Tryz.prog 66 = some (2) ∧ mapOf? Tryz.prog 66 = none ∧ zau Tryz.prog 66 = some ([(0,1),(1,1)]) ∧ zaD Tryz.prog 66 = some ([(.int .i64 0),(.int .i64 0)]) ∧ za1 Tryz.prog 66 = some ((.agg [(.int .i64 0),(.int .i64 0)])) ∧ za3 Tryz.prog 66 = none:=by and_intros <;> kernel_rfl
theorem ly69:zbu Tryz.prog 69 = some (3) ∧ zaT Tryz.prog 69 = some (true) ∧ bytesOf? Tryz.prog 69 = some (24) ∧ zaG Tryz.prog 69 = false ∧ zbs Tryz.prog 69 = none ∧ zaX Tryz.prog 69 = none ∧ za4 Tryz.prog 69 = none ∧ intOf? Tryz.prog 69 = none ∧ zaL Tryz.prog 69 = none ∧ zaC Tryz.prog 69 = some (3) ∧ mapOf? Tryz.prog 69 = none ∧ zau Tryz.prog 69 = some ([(0,1),(1,2)]) ∧ zaD Tryz.prog 69 = some ([(.int .i64 0),(.int .i64 0),(.int .i64 0)]) ∧ za1 Tryz.prog 69 = some ((.agg [(.int .i64 0),(.int .i64 0),(.int .i64 0)])) ∧ za3 Tryz.prog 69 = none:=by and_intros <;> kernel_rfl
theorem ly70:zbu Tryz.prog 70 = some (3) ∧ zaT Tryz.prog 70 = some (true) ∧ bytesOf? Tryz.prog 70 = some (24) ∧ zaG Tryz.prog 70 = false ∧ zbs Tryz.prog 70 = none ∧ zaX Tryz.prog 70 = some ((3,1)) ∧ za4 Tryz.prog 70 = some (3) ∧ intOf? Tryz.prog 70 = none ∧ zaL Tryz.prog 70 = some (3) ∧ zaC Tryz.prog 70 = some (3) ∧ mapOf? Tryz.prog 70 = none ∧ zau Tryz.prog 70 = none ∧ zaD Tryz.prog 70 = some ([(.int .i64 0),(.int .i64 0),(.int .i64 0)]) ∧ za1 Tryz.prog 70 = some ((.agg [(.int .i64 0),(.int .i64 0),(.int .i64 0)])) ∧ za3 Tryz.prog 70 = none:=by and_intros <;> kernel_rfl
theorem ly72:zbu Tryz.prog 72 = some (4) ∧ zaT Tryz.prog 72 = some (true) ∧ bytesOf? Tryz.prog 72 = some (32) ∧ zaG Tryz.prog 72 = false ∧ zbs Tryz.prog 72 = none ∧ zaX Tryz.prog 72 = none ∧ za4 Tryz.prog 72 = none ∧ intOf? Tryz.prog 72 = none ∧ zaL Tryz.prog 72 = none ∧ zaC Tryz.prog 72 = some (4) ∧ mapOf? Tryz.prog 72 = none ∧ zau Tryz.prog 72 = some ([(0,1),(1,3)]) ∧ zaD Tryz.prog 72 = some ([(.int .i64 0),(.int .i64 0),(.int .i64 0),(.int .i64 0)]) ∧ za1 Tryz.prog 72 = some ((.agg [(.int .i64 0),(.int .i64 0),(.int .i64 0),(.int .i64 0)])) ∧ za3 Tryz.prog 72 = none:=by and_intros <;> kernel_rfl
theorem ly75:zbu Tryz.prog 75 = some (2) ∧ zaT Tryz.prog 75 = some (true) ∧ bytesOf? Tryz.prog 75 = some (16) ∧ zaG Tryz.prog 75 = false ∧ zbs Tryz.prog 75 = none ∧ zaX Tryz.prog 75 = none ∧ za4 Tryz.prog 75 = none ∧ intOf? Tryz.prog 75 = none ∧ zaL Tryz.prog 75 = some (2) ∧ zaC Tryz.prog 75 = some (2) ∧ mapOf? Tryz.prog 75 = none ∧ zau Tryz.prog 75 = some ([(0,1),(1,1)]) ∧ zaD Tryz.prog 75 = some ([(.int .i64 0),(.int .i64 0)]) ∧ za1 Tryz.prog 75 = some ((.agg [(.int .i64 0),(.int .i64 0)])) ∧ za3 Tryz.prog 75 = none:=by and_intros <;> kernel_rfl
theorem ly77:zbu Tryz.prog 77 = some (3) ∧ zaT Tryz.prog 77 = some (true) ∧ bytesOf? Tryz.prog 77 = some (24) ∧ zaG Tryz.prog 77 = false ∧ zbs Tryz.prog 77 = none ∧ zaX Tryz.prog 77 = none ∧ za4 Tryz.prog 77 = none ∧ intOf? Tryz.prog 77 = none ∧ zaL Tryz.prog 77 = none ∧ zaC Tryz.prog 77 = some (3) ∧ mapOf? Tryz.prog 77 = none ∧ zau Tryz.prog 77 = some ([(0,1),(1,2)]) ∧ zaD Tryz.prog 77 = some ([(.int .i64 0),(.int .i64 0),(.int .i64 0)]) ∧ za1 Tryz.prog 77 = some ((.agg [(.int .i64 0),(.int .i64 0),(.int .i64 0)])) ∧ za3 Tryz.prog 77 = none:=by and_intros <;> kernel_rfl
theorem ly78:zbu Tryz.prog 78 = some (1) ∧ zaT Tryz.prog 78 = some (false) ∧ bytesOf? Tryz.prog 78 = some (24) ∧ zaG Tryz.prog 78 = false ∧ zbs Tryz.prog 78 = some ((77,3)) ∧ zaX Tryz.prog 78 = none ∧ za4 Tryz.prog 78 = none ∧ intOf? Tryz.prog 78 = none ∧ zaL Tryz.prog 78 = none ∧ zaC Tryz.prog 78 = none ∧ mapOf? Tryz.prog 78 = none ∧ zau Tryz.prog 78 = none ∧ zaD Tryz.prog 78 = some ([(.sl [] .full)]) ∧ za1 Tryz.prog 78 = some ((.sl [] .full)) ∧ za3 Tryz.prog 78 = none:=by and_intros <;> kernel_rfl
theorem ly80:zbu Tryz.prog 80 = some (4) ∧ zaT Tryz.prog 80 = some (true) ∧ bytesOf? Tryz.prog 80 = some (48) ∧ zaG Tryz.prog 80 = false ∧ zbs Tryz.prog 80 = none ∧ zaX Tryz.prog 80 = none ∧ za4 Tryz.prog 80 = none ∧ intOf? Tryz.prog 80 = none ∧ zaL Tryz.prog 80 = none ∧ zaC Tryz.prog 80 = none ∧ mapOf? Tryz.prog 80 = none ∧ zau Tryz.prog 80 = some ([(0,1),(1,1),(2,2)]) ∧ zaD Tryz.prog 80 = some ([(.sl [] .full),(.int .i64 0),(.int .i64 0),(.int .i64 0)]) ∧ za1 Tryz.prog 80 = some ((.agg [(.sl [] .full),(.int .i64 0),(.int .i64 0),(.int .i64 0)])) ∧ za3 Tryz.prog 80 = none:=by and_intros <;> kernel_rfl
theorem ly82:zbu Tryz.prog 82 = some (1) ∧ zaT Tryz.prog 82 = some (false) ∧ bytesOf? Tryz.prog 82 = some (24) ∧ zaG Tryz.prog 82 = false ∧ zbs Tryz.prog 82 = some ((116,1)) ∧ zaX Tryz.prog 82 = none ∧ za4 Tryz.prog 82 = none ∧ intOf? Tryz.prog 82 = none ∧ zaL Tryz.prog 82 = none ∧ zaC Tryz.prog 82 = none ∧ mapOf? Tryz.prog 82 = none ∧ zau Tryz.prog 82 = none ∧ zaD Tryz.prog 82 = some ([(.sl [] .full)]) ∧ za1 Tryz.prog 82 = some ((.sl [] .full)) ∧ za3 Tryz.prog 82 = none:=by and_intros <;> kernel_rfl
theorem ly86:zbu Tryz.prog 86 = some (1) ∧ zaT Tryz.prog 86 = some (false) ∧ bytesOf? Tryz.prog 86 = some (24) ∧ zaG Tryz.prog 86 = false ∧ zbs Tryz.prog 86 = some ((101,9)) ∧ zaX Tryz.prog 86 = none ∧ za4 Tryz.prog 86 = none ∧ intOf? Tryz.prog 86 = none ∧ zaL Tryz.prog 86 = none ∧ zaC Tryz.prog 86 = none ∧ mapOf? Tryz.prog 86 = none ∧ zau Tryz.prog 86 = none ∧ zaD Tryz.prog 86 = some ([(.sl [] .full)]) ∧ za1 Tryz.prog 86 = some ((.sl [] .full)) ∧ za3 Tryz.prog 86 = none:=by and_intros <;> kernel_rfl
theorem ly88:zbu Tryz.prog 88 = some (1) ∧ zaT Tryz.prog 88 = some (false) ∧ bytesOf? Tryz.prog 88 = some (8) ∧ zaG Tryz.prog 88 = false ∧ zbs Tryz.prog 88 = none ∧ zaX Tryz.prog 88 = none ∧ za4 Tryz.prog 88 = none ∧ intOf? Tryz.prog 88 = none ∧ zaL Tryz.prog 88 = none ∧ zaC Tryz.prog 88 = none ∧ mapOf? Tryz.prog 88 = none ∧ zau Tryz.prog 88 = none ∧ zaD Tryz.prog 88 = some ([.nilp]) ∧ za1 Tryz.prog 88 = some (.nilp) ∧ za3 Tryz.prog 88 = none:=by and_intros <;> kernel_rfl
theorem ly91:zbu Tryz.prog 91 = some (1) ∧ zaT Tryz.prog 91 = some (false) ∧ bytesOf? Tryz.prog 91 = some (8) ∧ zaG Tryz.prog 91 = false ∧ zbs Tryz.prog 91 = none ∧ zaX Tryz.prog 91 = none ∧ za4 Tryz.prog 91 = none ∧ intOf? Tryz.prog 91 = none ∧ zaL Tryz.prog 91 = none ∧ zaC Tryz.prog 91 = none ∧ mapOf? Tryz.prog 91 = none ∧ zau Tryz.prog 91 = none ∧ zaD Tryz.prog 91 = some ([.nilf]) ∧ za1 Tryz.prog 91 = some (.nilf) ∧ za3 Tryz.prog 91 = none:=by and_intros <;> kernel_rfl
theorem ly94:zbu Tryz.prog 94 = some (1) ∧ zaT Tryz.prog 94 = some (true) ∧ bytesOf? Tryz.prog 94 = some (8) ∧ zaG Tryz.prog 94 = false ∧ zbs Tryz.prog 94 = none ∧ zaX Tryz.prog 94 = none ∧ za4 Tryz.prog 94 = none ∧ intOf? Tryz.prog 94 = none ∧ zaL Tryz.prog 94 = none ∧ zaC Tryz.prog 94 = none ∧ mapOf? Tryz.prog 94 = none ∧ zau Tryz.prog 94 = some ([(0,1)]) ∧ zaD Tryz.prog 94 = some ([.nilf]) ∧ za1 Tryz.prog 94 = some ((.agg [.nilf])) ∧ za3 Tryz.prog 94 = none:=by and_intros <;> kernel_rfl
theorem ly96:zbu Tryz.prog 96 = some (1) ∧ zaT Tryz.prog 96 = some (false) ∧ bytesOf? Tryz.prog 96 = some (8) ∧ zaG Tryz.prog 96 = false ∧ zbs Tryz.prog 96 = none ∧ zaX Tryz.prog 96 = none ∧ za4 Tryz.prog 96 = none ∧ intOf? Tryz.prog 96 = none ∧ zaL Tryz.prog 96 = none ∧ zaC Tryz.prog 96 = none ∧ mapOf? Tryz.prog 96 = none ∧ zau Tryz.prog 96 = none ∧ zaD Tryz.prog 96 = some ([.nilf]) ∧ za1 Tryz.prog 96 = some (.nilf) ∧ za3 Tryz.prog 96 = none:=by and_intros <;> kernel_rfl
theorem ly99:zbu Tryz.prog 99 = some (7) ∧ zaT Tryz.prog 99 = some (true) ∧ bytesOf? Tryz.prog 99 = some (56) ∧ zaG Tryz.prog 99 = false ∧ zbs Tryz.prog 99 = none ∧ zaX Tryz.prog 99 = some ((7,1)) ∧ za4 Tryz.prog 99 = some (3) ∧ intOf? Tryz.prog 99 = none ∧ zaL Tryz.prog 99 = some (7) ∧ zaC Tryz.prog 99 = some (7) ∧ mapOf? Tryz.prog 99 = none ∧ zau Tryz.prog 99 = none ∧ zaD Tryz.prog 99 = some ([(.int .i64 0),(.int .i64 0),(.int .i64 0),(.int .i64 0),(.int .i64 0),(.int .i64 0),(.int .i64 0)]) ∧ za1 Tryz.prog 99 = some ((.agg [(.int .i64 0),(.int .i64 0),(.int .i64 0),(.int .i64 0),(.int .i64 0),(.int .i64 0),(.int .i64 0)])) ∧ za3 Tryz.prog 99 = none:=by and_intros <;> kernel_rfl
theorem ly101:zbu Tryz.prog 101 = some (9) ∧ zaT Tryz.prog 101 = some (true) ∧ bytesOf? Tryz.prog 101 = some (72) ∧ zaG Tryz.prog 101 = false ∧ zbs Tryz.prog 101 = none ∧ zaX Tryz.prog 101 = none ∧ za4 Tryz.prog 101 = none ∧ intOf? Tryz.prog 101 = none ∧ zaL Tryz.prog 101 = none ∧ zaC Tryz.prog 101 = some (9) ∧ mapOf? Tryz.prog 101 = none ∧ zau Tryz.prog 101 = some ([(0,1),(1,1),(2,7)]) ∧ zaD Tryz.prog 101 = some ([(.int .i64 0),(.int .i64 0),(.int .i64 0),(.int .i64 0),(.int .i64 0),(.int .i64 0),(.int .i64 0),(.int .i64 0),(.int .i64 0)]) ∧ za1 Tryz.prog 101 = some ((.agg [(.int .i64 0),(.int .i64 0),(.int .i64 0),(.int .i64 0),(.int .i64 0),(.int .i64 0),(.int .i64 0),(.int .i64 0),(.int .i64 0)])) ∧ za3 Tryz.prog 101 = none:=by and_intros <;> kernel_rfl
theorem ly103:zbu Tryz.prog 103 = some (1) ∧ zaT Tryz.prog 103 = some (false) ∧ bytesOf? Tryz.prog 103 = some (8) ∧ zaG Tryz.prog 103 = false ∧ zbs Tryz.prog 103 = none ∧ zaX Tryz.prog 103 = none ∧ za4 Tryz.prog 103 = none ∧ intOf? Tryz.prog 103 = none ∧ zaL Tryz.prog 103 = none ∧ zaC Tryz.prog 103 = none ∧ mapOf? Tryz.prog 103 = none ∧ zau Tryz.prog 103 = none ∧ zaD Tryz.prog 103 = some ([.nilf]) ∧ za1 Tryz.prog 103 = some (.nilf) ∧ za3 Tryz.prog 103 = none:=by and_intros <;> kernel_rfl
theorem ly107:zbu Tryz.prog 107 = some (2) ∧ zaT Tryz.prog 107 = some (true) ∧ bytesOf? Tryz.prog 107 = some (16) ∧ zaG Tryz.prog 107 = false ∧ zbs Tryz.prog 107 = none ∧ zaX Tryz.prog 107 = none ∧ za4 Tryz.prog 107 = none ∧ intOf? Tryz.prog 107 = none ∧ zaL Tryz.prog 107 = some (2) ∧ zaC Tryz.prog 107 = some (2) ∧ mapOf? Tryz.prog 107 = none ∧ zau Tryz.prog 107 = some ([(0,1),(1,1)]) ∧ zaD Tryz.prog 107 = some ([(.int .i64 0),(.int .i64 0)]) ∧ za1 Tryz.prog 107 = some ((.agg [(.int .i64 0),(.int .i64 0)])) ∧ za3 Tryz.prog 107 = none:=by and_intros <;> kernel_rfl
theorem ly111:zbu Tryz.prog 111 = some (1) ∧ zaT Tryz.prog 111 = some (false) ∧ bytesOf? Tryz.prog 111 = some (8) ∧ zaG Tryz.prog 111 = false ∧ zbs Tryz.prog 111 = none ∧ zaX Tryz.prog 111 = none ∧ za4 Tryz.prog 111 = none ∧ intOf? Tryz.prog 111 = none ∧ zaL Tryz.prog 111 = none ∧ zaC Tryz.prog 111 = none ∧ mapOf? Tryz.prog 111 = none ∧ zau Tryz.prog 111 = none ∧ zaD Tryz.prog 111 = some ([.nilp]) ∧ za1 Tryz.prog 111 = some (.nilp) ∧ za3 Tryz.prog 111 = none:=by and_intros <;> kernel_rfl
theorem ly115:zbu Tryz.prog 115 = some (1) ∧ zaT Tryz.prog 115 = some (false) ∧ bytesOf? Tryz.prog 115 = some (8) ∧ zaG Tryz.prog 115 = false ∧ zbs Tryz.prog 115 = none ∧ zaX Tryz.prog 115 = none ∧ za4 Tryz.prog 115 = none ∧ intOf? Tryz.prog 115 = some (.u64) ∧ zaL Tryz.prog 115 = none ∧ zaC Tryz.prog 115 = none ∧ mapOf? Tryz.prog 115 = none ∧ zau Tryz.prog 115 = none ∧ zaD Tryz.prog 115 = some ([(.int .u64 0)]) ∧ za1 Tryz.prog 115 = some ((.int .u64 0)) ∧ za3 Tryz.prog 115 = none:=by and_intros <;> kernel_rfl
theorem ly116:zbu Tryz.prog 116 = some (1) ∧ zaT Tryz.prog 116 = some (false) ∧ bytesOf? Tryz.prog 116 = some (24) ∧ zaG Tryz.prog 116 = false ∧ zbs Tryz.prog 116 = some ((117,2)) ∧ zaX Tryz.prog 116 = none ∧ za4 Tryz.prog 116 = none ∧ intOf? Tryz.prog 116 = none ∧ zaL Tryz.prog 116 = none ∧ zaC Tryz.prog 116 = none ∧ mapOf? Tryz.prog 116 = none ∧ zau Tryz.prog 116 = none ∧ zaD Tryz.prog 116 = some ([(.sl [] .full)]) ∧ za1 Tryz.prog 116 = some ((.sl [] .full)) ∧ za3 Tryz.prog 116 = none:=by and_intros <;> kernel_rfl
theorem ly117:zbu Tryz.prog 117 = some (2) ∧ zaT Tryz.prog 117 = some (true) ∧ bytesOf? Tryz.prog 117 = some (16) ∧ zaG Tryz.prog 117 = false ∧ zbs Tryz.prog 117 = none ∧ zaX Tryz.prog 117 = none ∧ za4 Tryz.prog 117 = none ∧ intOf? Tryz.prog 117 = none ∧ zaL Tryz.prog 117 = some (2) ∧ zaC Tryz.prog 117 = some (2) ∧ mapOf? Tryz.prog 117 = none ∧ zau Tryz.prog 117 = some ([(0,1),(1,1)]) ∧ zaD Tryz.prog 117 = some ([(.int .i64 0),(.int .i64 0)]) ∧ za1 Tryz.prog 117 = some ((.agg [(.int .i64 0),(.int .i64 0)])) ∧ za3 Tryz.prog 117 = none:=by and_intros <;> kernel_rfl
theorem ly119:zbu Tryz.prog 119 = some (1) ∧ zaT Tryz.prog 119 = some (false) ∧ bytesOf? Tryz.prog 119 = some (8) ∧ zaG Tryz.prog 119 = false ∧ zbs Tryz.prog 119 = none ∧ zaX Tryz.prog 119 = none ∧ za4 Tryz.prog 119 = none ∧ intOf? Tryz.prog 119 = none ∧ zaL Tryz.prog 119 = none ∧ zaC Tryz.prog 119 = none ∧ mapOf? Tryz.prog 119 = none ∧ zau Tryz.prog 119 = none ∧ zaD Tryz.prog 119 = some ([.nilf]) ∧ za1 Tryz.prog 119 = some (.nilf) ∧ za3 Tryz.prog 119 = none:=by and_intros <;> kernel_rfl
theorem ly121:zbu Tryz.prog 121 = some (1) ∧ zaT Tryz.prog 121 = some (false) ∧ bytesOf? Tryz.prog 121 = some (8) ∧ zaG Tryz.prog 121 = false ∧ zbs Tryz.prog 121 = none ∧ zaX Tryz.prog 121 = none ∧ za4 Tryz.prog 121 = none ∧ intOf? Tryz.prog 121 = none ∧ zaL Tryz.prog 121 = none ∧ zaC Tryz.prog 121 = none ∧ mapOf? Tryz.prog 121 = none ∧ zau Tryz.prog 121 = none ∧ zaD Tryz.prog 121 = some ([.nilf]) ∧ za1 Tryz.prog 121 = some (.nilf) ∧ za3 Tryz.prog 121 = none:=by and_intros <;> kernel_rfl
theorem ly123:zbu Tryz.prog 123 = some (1) ∧ zaT Tryz.prog 123 = some (false) ∧ bytesOf? Tryz.prog 123 = some (8) ∧ zaG Tryz.prog 123 = false ∧ zbs Tryz.prog 123 = none ∧ zaX Tryz.prog 123 = none ∧ za4 Tryz.prog 123 = none ∧ intOf? Tryz.prog 123 = none ∧ zaL Tryz.prog 123 = none ∧ zaC Tryz.prog 123 = none ∧ mapOf? Tryz.prog 123 = some ((133,3)) ∧ zau Tryz.prog 123 = none ∧ zaD Tryz.prog 123 = some ([.undef]) ∧ za1 Tryz.prog 123 = some (.undef) ∧ za3 Tryz.prog 123 = none:=by and_intros <;> kernel_rfl
theorem ly125:zbu Tryz.prog 125 = some (4) ∧ zaT Tryz.prog 125 = some (true) ∧ bytesOf? Tryz.prog 125 = some (64) ∧ zaG Tryz.prog 125 = false ∧ zbs Tryz.prog 125 = none ∧ zaX Tryz.prog 125 = none ∧ za4 Tryz.prog 125 = none ∧ intOf? Tryz.prog 125 = none ∧ zaL Tryz.prog 125 = none ∧ zaC Tryz.prog 125 = none ∧ mapOf? Tryz.prog 125 = none ∧ zau Tryz.prog 125 = some ([(0,3),(3,1)]) ∧ zaD Tryz.prog 125 = some ([(.sl [] .full),(.int .i64 0),(.sl [] .full),.undef]) ∧ za1 Tryz.prog 125 = some ((.agg [(.sl [] .full),(.int .i64 0),(.sl [] .full),.undef])) ∧ za3 Tryz.prog 125 = none:=by and_intros <;> kernel_rfl
theorem ly133:zbu Tryz.prog 133 = some (8) ∧ zaT Tryz.prog 133 = some (true) ∧ bytesOf? Tryz.prog 133 = some (64) ∧ zaG Tryz.prog 133 = false ∧ zbs Tryz.prog 133 = none ∧ zaX Tryz.prog 133 = none ∧ za4 Tryz.prog 133 = none ∧ intOf? Tryz.prog 133 = none ∧ zaL Tryz.prog 133 = none ∧ zaC Tryz.prog 133 = some (8) ∧ mapOf? Tryz.prog 133 = none ∧ zau Tryz.prog 133 = some ([(0,1),(1,7)]) ∧ zaD Tryz.prog 133 = some ([(.int .i64 0),(.int .i64 0),(.int .i64 0),(.int .i64 0),(.int .i64 0),(.int .i64 0),(.int .i64 0),(.int .i64 0)]) ∧ za1 Tryz.prog 133 = some ((.agg [(.int .i64 0),(.int .i64 0),(.int .i64 0),(.int .i64 0),(.int .i64 0),(.int .i64 0),(.int .i64 0),(.int .i64 0)])) ∧ za3 Tryz.prog 133 = none:=by and_intros <;> kernel_rfl
theorem ly138:zbu Tryz.prog 138 = some (1) ∧ zaT Tryz.prog 138 = some (false) ∧ bytesOf? Tryz.prog 138 = some (8) ∧ zaG Tryz.prog 138 = false ∧ zbs Tryz.prog 138 = none ∧ zaX Tryz.prog 138 = none ∧ za4 Tryz.prog 138 = none ∧ intOf? Tryz.prog 138 = none ∧ zaL Tryz.prog 138 = none ∧ zaC Tryz.prog 138 = none ∧ mapOf? Tryz.prog 138 = none ∧ zau Tryz.prog 138 = none ∧ zaD Tryz.prog 138 = some ([.nilf]) ∧ za1 Tryz.prog 138 = some (.nilf) ∧ za3 Tryz.prog 138 = none:=by and_intros <;> kernel_rfl
theorem ly139:zbu Tryz.prog 139 = some (1) ∧ zaT Tryz.prog 139 = some (false) ∧ bytesOf? Tryz.prog 139 = some (8) ∧ zaG Tryz.prog 139 = false ∧ zbs Tryz.prog 139 = none ∧ zaX Tryz.prog 139 = none ∧ za4 Tryz.prog 139 = none ∧ intOf? Tryz.prog 139 = none ∧ zaL Tryz.prog 139 = none ∧ zaC Tryz.prog 139 = none ∧ mapOf? Tryz.prog 139 = some ((181,3)) ∧ zau Tryz.prog 139 = none ∧ zaD Tryz.prog 139 = some ([.undef]) ∧ za1 Tryz.prog 139 = some (.undef) ∧ za3 Tryz.prog 139 = none:=by and_intros <;> kernel_rfl
theorem ly141:zbu Tryz.prog 141 = some (5) ∧ zaT Tryz.prog 141 = some (true) ∧ bytesOf? Tryz.prog 141 = some (56) ∧ zaG Tryz.prog 141 = false ∧ zbs Tryz.prog 141 = none ∧ zaX Tryz.prog 141 = none ∧ za4 Tryz.prog 141 = none ∧ intOf? Tryz.prog 141 = none ∧ zaL Tryz.prog 141 = none ∧ zaC Tryz.prog 141 = none ∧ mapOf? Tryz.prog 141 = none ∧ zau Tryz.prog 141 = some ([(0,4),(4,1)]) ∧ zaD Tryz.prog 141 = some ([(.sl [] .full),(.int .i64 0),(.int .i64 0),(.int .i64 0),.undef]) ∧ za1 Tryz.prog 141 = some ((.agg [(.sl [] .full),(.int .i64 0),(.int .i64 0),(.int .i64 0),.undef])) ∧ za3 Tryz.prog 141 = none:=by and_intros <;> kernel_rfl
theorem ly147:zbu Tryz.prog 147 = some (1) ∧ zaT Tryz.prog 147 = some (false) ∧ bytesOf? Tryz.prog 147 = some (8) ∧ zaG Tryz.prog 147 = false ∧ zbs Tryz.prog 147 = none ∧ zaX Tryz.prog 147 = none ∧ za4 Tryz.prog 147 = none ∧ intOf? Tryz.prog 147 = none ∧ zaL Tryz.prog 147 = none ∧ zaC Tryz.prog 147 = none ∧ mapOf? Tryz.prog 147 = none ∧ zau Tryz.prog 147 = none ∧ zaD Tryz.prog 147 = some ([.nilf]) ∧ za1 Tryz.prog 147 = some (.nilf) ∧ za3 Tryz.prog 147 = none:=by and_intros <;> kernel_rfl
theorem ly149:zbu Tryz.prog 149 = some (1) ∧ zaT Tryz.prog 149 = some (false) ∧ bytesOf? Tryz.prog 149 = some (8) ∧ zaG Tryz.prog 149 = false ∧ zbs Tryz.prog 149 = none ∧ zaX Tryz.prog 149 = none ∧ za4 Tryz.prog 149 = none ∧ intOf? Tryz.prog 149 = none ∧ zaL Tryz.prog 149 = none ∧ zaC Tryz.prog 149 = none ∧ mapOf? Tryz.prog 149 = none ∧ zau Tryz.prog 149 = none ∧ zaD Tryz.prog 149 = some ([.nilf]) ∧ za1 Tryz.prog 149 = some (.nilf) ∧ za3 Tryz.prog 149 = none:=by and_intros <;> kernel_rfl
theorem ly152:zbu Tryz.prog 152 = some (1) ∧ zaT Tryz.prog 152 = some (true) ∧ bytesOf? Tryz.prog 152 = some (8) ∧ zaG Tryz.prog 152 = false ∧ zbs Tryz.prog 152 = none ∧ zaX Tryz.prog 152 = none ∧ za4 Tryz.prog 152 = none ∧ intOf? Tryz.prog 152 = none ∧ zaL Tryz.prog 152 = none ∧ zaC Tryz.prog 152 = none ∧ mapOf? Tryz.prog 152 = none ∧ zau Tryz.prog 152 = some ([(0,1)]) ∧ zaD Tryz.prog 152 = some ([.nilf]) ∧ za1 Tryz.prog 152 = some ((.agg [.nilf])) ∧ za3 Tryz.prog 152 = none:=by and_intros <;> kernel_rfl
theorem ly154:zbu Tryz.prog 154 = some (1) ∧ zaT Tryz.prog 154 = some (false) ∧ bytesOf? Tryz.prog 154 = some (8) ∧ zaG Tryz.prog 154 = false ∧ zbs Tryz.prog 154 = none ∧ zaX Tryz.prog 154 = none ∧ za4 Tryz.prog 154 = none ∧ intOf? Tryz.prog 154 = none ∧ zaL Tryz.prog 154 = none ∧ zaC Tryz.prog 154 = none ∧ mapOf? Tryz.prog 154 = none ∧ zau Tryz.prog 154 = none ∧ zaD Tryz.prog 154 = some ([.nilf]) ∧ za1 Tryz.prog 154 = some (.nilf) ∧ za3 Tryz.prog 154 = none:=by and_intros <;> kernel_rfl
theorem ly181:zbu Tryz.prog 181 = some (2) ∧ zaT Tryz.prog 181 = some (true) ∧ bytesOf? Tryz.prog 181 = some (16) ∧ zaG Tryz.prog 181 = false ∧ zbs Tryz.prog 181 = none ∧ zaX Tryz.prog 181 = none ∧ za4 Tryz.prog 181 = none ∧ intOf? Tryz.prog 181 = none ∧ zaL Tryz.prog 181 = some (2) ∧ zaC Tryz.prog 181 = some (2) ∧ mapOf? Tryz.prog 181 = none ∧ zau Tryz.prog 181 = some ([(0,1),(1,1)]) ∧ zaD Tryz.prog 181 = some ([(.int .i64 0),(.int .i64 0)]) ∧ za1 Tryz.prog 181 = some ((.agg [(.int .i64 0),(.int .i64 0)])) ∧ za3 Tryz.prog 181 = none:=by and_intros <;> kernel_rfl
attribute [go_sem] ly0 ly1 ly2 ly3 ly4 ly5 ly22 ly23 ly25 ly26 ly28 ly30 ly31 ly37 ly40 ly41 ly44 ly45 ly47 ly49 ly53 ly55 ly63 ly65 ly66 ly69 ly70 ly72 ly75 ly77 ly78 ly80 ly82 ly86 ly88 ly91 ly94 ly96 ly99 ly101 ly103 ly107 ly111 ly115 ly116 ly117 ly119 ly121 ly123 ly125 ly133 ly138 ly139 ly141 ly147 ly149 ly152 ly154 ly181
theorem fl_25_0:zbq Tryz.prog 25 0 = some ((0,22)):=by kernel_rfl
theorem of_25_0:zbn Tryz.prog 25 0 = some (0):=by kernel_rfl
theorem fl_25_1:zbq Tryz.prog 25 1 = some ((1,3)):=by kernel_rfl
theorem of_25_1:zbn Tryz.prog 25 1 = some (1):=by kernel_rfl
theorem fl_25_2:zbq Tryz.prog 25 2 = some ((2,23)):=by kernel_rfl
theorem of_25_2:zbn Tryz.prog 25 2 = some (2):=by kernel_rfl
theorem fl_28_0:zbq Tryz.prog 28 0 = some ((0,3)):=by kernel_rfl
theorem of_28_0:zbn Tryz.prog 28 0 = some (0):=by kernel_rfl
theorem fl_28_1:zbq Tryz.prog 28 1 = some ((1,3)):=by kernel_rfl
theorem of_28_1:zbn Tryz.prog 28 1 = some (1):=by kernel_rfl
theorem fl_30_0:zbq Tryz.prog 30 0 = some ((0,26)):=by kernel_rfl
theorem of_30_0:zbn Tryz.prog 30 0 = some (0):=by kernel_rfl
theorem fl_30_1:zbq Tryz.prog 30 1 = some ((1,3)):=by kernel_rfl
theorem of_30_1:zbn Tryz.prog 30 1 = some (1):=by kernel_rfl
theorem fl_30_2:zbq Tryz.prog 30 2 = some ((2,28)):=by kernel_rfl
theorem of_30_2:zbn Tryz.prog 30 2 = some (2):=by kernel_rfl
theorem fl_40_0:zbq Tryz.prog 40 0 = some ((0,3)):=by kernel_rfl
theorem of_40_0:zbn Tryz.prog 40 0 = some (0):=by kernel_rfl
theorem fl_40_1:zbq Tryz.prog 40 1 = some ((1,3)):=by kernel_rfl
theorem of_40_1:zbn Tryz.prog 40 1 = some (1):=by kernel_rfl
theorem fl_47_0:zbq Tryz.prog 47 0 = some ((0,44)):=by kernel_rfl
theorem of_47_0:zbn Tryz.prog 47 0 = some (0):=by kernel_rfl
theorem fl_47_1:zbq Tryz.prog 47 1 = some ((1,3)):=by kernel_rfl
theorem of_47_1:zbn Tryz.prog 47 1 = some (1):=by kernel_rfl
theorem fl_47_2:zbq Tryz.prog 47 2 = some ((2,45)):=by kernel_rfl
theorem of_47_2:zbn Tryz.prog 47 2 = some (2):=by kernel_rfl
theorem fl_65_0:zbq Tryz.prog 65 0 = some ((0,3)):=by kernel_rfl
theorem of_65_0:zbn Tryz.prog 65 0 = some (0):=by kernel_rfl
theorem fl_65_1:zbq Tryz.prog 65 1 = some ((1,63)):=by kernel_rfl
theorem of_65_1:zbn Tryz.prog 65 1 = some (1):=by kernel_rfl
theorem fl_66_0:zbq Tryz.prog 66 0 = some ((0,3)):=by kernel_rfl
theorem of_66_0:zbn Tryz.prog 66 0 = some (0):=by kernel_rfl
theorem fl_66_1:zbq Tryz.prog 66 1 = some ((1,3)):=by kernel_rfl
theorem of_66_1:zbn Tryz.prog 66 1 = some (1):=by kernel_rfl
theorem fl_69_0:zbq Tryz.prog 69 0 = some ((0,3)):=by kernel_rfl
theorem of_69_0:zbn Tryz.prog 69 0 = some (0):=by kernel_rfl
theorem fl_69_1:zbq Tryz.prog 69 1 = some ((1,28)):=by kernel_rfl
theorem of_69_1:zbn Tryz.prog 69 1 = some (1):=by kernel_rfl
theorem fl_72_0:zbq Tryz.prog 72 0 = some ((0,3)):=by kernel_rfl
theorem of_72_0:zbn Tryz.prog 72 0 = some (0):=by kernel_rfl
theorem fl_72_1:zbq Tryz.prog 72 1 = some ((1,70)):=by kernel_rfl
theorem of_72_1:zbn Tryz.prog 72 1 = some (1):=by kernel_rfl
theorem fl_75_0:zbq Tryz.prog 75 0 = some ((0,3)):=by kernel_rfl
theorem of_75_0:zbn Tryz.prog 75 0 = some (0):=by kernel_rfl
theorem fl_75_1:zbq Tryz.prog 75 1 = some ((1,3)):=by kernel_rfl
theorem of_75_1:zbn Tryz.prog 75 1 = some (1):=by kernel_rfl
theorem fl_77_0:zbq Tryz.prog 77 0 = some ((0,3)):=by kernel_rfl
theorem of_77_0:zbn Tryz.prog 77 0 = some (0):=by kernel_rfl
theorem fl_77_1:zbq Tryz.prog 77 1 = some ((1,75)):=by kernel_rfl
theorem of_77_1:zbn Tryz.prog 77 1 = some (1):=by kernel_rfl
theorem fl_80_0:zbq Tryz.prog 80 0 = some ((0,78)):=by kernel_rfl
theorem of_80_0:zbn Tryz.prog 80 0 = some (0):=by kernel_rfl
theorem fl_80_1:zbq Tryz.prog 80 1 = some ((1,3)):=by kernel_rfl
theorem of_80_1:zbn Tryz.prog 80 1 = some (1):=by kernel_rfl
theorem fl_80_2:zbq Tryz.prog 80 2 = some ((2,75)):=by kernel_rfl
theorem of_80_2:zbn Tryz.prog 80 2 = some (2):=by kernel_rfl
theorem fl_94_0:zbq Tryz.prog 94 0 = some ((0,91)):=by kernel_rfl
theorem of_94_0:zbn Tryz.prog 94 0 = some (0):=by kernel_rfl
theorem fl_101_0:zbq Tryz.prog 101 0 = some ((0,3)):=by kernel_rfl
theorem of_101_0:zbn Tryz.prog 101 0 = some (0):=by kernel_rfl
theorem fl_101_1:zbq Tryz.prog 101 1 = some ((1,3)):=by kernel_rfl
theorem of_101_1:zbn Tryz.prog 101 1 = some (1):=by kernel_rfl
theorem fl_101_2:zbq Tryz.prog 101 2 = some ((2,99)):=by kernel_rfl
theorem of_101_2:zbn Tryz.prog 101 2 = some (2):=by kernel_rfl
theorem fl_107_0:zbq Tryz.prog 107 0 = some ((0,3)):=by kernel_rfl
theorem of_107_0:zbn Tryz.prog 107 0 = some (0):=by kernel_rfl
theorem fl_107_1:zbq Tryz.prog 107 1 = some ((1,3)):=by kernel_rfl
theorem of_107_1:zbn Tryz.prog 107 1 = some (1):=by kernel_rfl
theorem fl_117_0:zbq Tryz.prog 117 0 = some ((0,3)):=by kernel_rfl
theorem of_117_0:zbn Tryz.prog 117 0 = some (0):=by kernel_rfl
theorem fl_117_1:zbq Tryz.prog 117 1 = some ((1,3)):=by kernel_rfl
theorem of_117_1:zbn Tryz.prog 117 1 = some (1):=by kernel_rfl
theorem fl_125_0:zbq Tryz.prog 125 0 = some ((0,47)):=by kernel_rfl
theorem of_125_0:zbn Tryz.prog 125 0 = some (0):=by kernel_rfl
theorem fl_125_1:zbq Tryz.prog 125 1 = some ((3,123)):=by kernel_rfl
theorem of_125_1:zbn Tryz.prog 125 1 = some (3):=by kernel_rfl
theorem fl_133_0:zbq Tryz.prog 133 0 = some ((0,3)):=by kernel_rfl
theorem of_133_0:zbn Tryz.prog 133 0 = some (0):=by kernel_rfl
theorem fl_133_1:zbq Tryz.prog 133 1 = some ((1,99)):=by kernel_rfl
theorem of_133_1:zbn Tryz.prog 133 1 = some (1):=by kernel_rfl
theorem fl_141_0:zbq Tryz.prog 141 0 = some ((0,80)):=by kernel_rfl
theorem of_141_0:zbn Tryz.prog 141 0 = some (0):=by kernel_rfl
theorem fl_141_1:zbq Tryz.prog 141 1 = some ((4,139)):=by kernel_rfl
theorem of_141_1:zbn Tryz.prog 141 1 = some (4):=by kernel_rfl
theorem fl_152_0:zbq Tryz.prog 152 0 = some ((0,149)):=by kernel_rfl
theorem of_152_0:zbn Tryz.prog 152 0 = some (0):=by kernel_rfl
theorem fl_181_0:zbq Tryz.prog 181 0 = some ((0,3)):=by kernel_rfl
theorem of_181_0:zbn Tryz.prog 181 0 = some (0):=by kernel_rfl
theorem fl_181_1:zbq Tryz.prog 181 1 = some ((1,3)):=by kernel_rfl
theorem of_181_1:zbn Tryz.prog 181 1 = some (1):=by kernel_rfl
attribute [go_sem] fl_25_0 of_25_0 fl_25_1 of_25_1 fl_25_2 of_25_2 fl_28_0 of_28_0 fl_28_1 of_28_1 fl_30_0 of_30_0 fl_30_1 of_30_1 fl_30_2 of_30_2 fl_40_0 of_40_0 fl_40_1 of_40_1 fl_47_0 of_47_0 fl_47_1 of_47_1 fl_47_2 of_47_2 fl_65_0 of_65_0 fl_65_1 of_65_1 fl_66_0 of_66_0 fl_66_1 of_66_1 fl_69_0 of_69_0 fl_69_1 of_69_1 fl_72_0 of_72_0 fl_72_1 of_72_1 fl_75_0 of_75_0 fl_75_1 of_75_1 fl_77_0 of_77_0 fl_77_1 of_77_1 fl_80_0 of_80_0 fl_80_1 of_80_1 fl_80_2 of_80_2 fl_94_0 of_94_0 fl_101_0 of_101_0 fl_101_1 of_101_1 fl_101_2 of_101_2 fl_107_0 of_107_0 fl_107_1 of_107_1 fl_117_0 of_117_0 fl_117_1 of_117_1 fl_125_0 of_125_0 fl_125_1 of_125_1 fl_133_0 of_133_0 fl_133_1 of_133_1 fl_141_0 of_141_0 fl_141_1 of_141_1 fl_152_0 of_152_0 fl_181_0 of_181_0 fl_181_1 of_181_1
set_option maxHeartbeats 4000000
set_option maxRecDepth 8000
def P0:zay:=zmY
theorem P0_app (g:FuncId):P0 g = none:=rfl
theorem P0_ok:zam Tryz.prog P0:=zqf _
theorem P0_flag (d:Option Nat):zaw P0 d = none:=ziq d
attribute [go_sem] P0_app P0_flag
theorem one_i (k:IntKind) (n:Int):(AV.int k n).one = true:=rfl
theorem one_b (b:Bool):(AV.bool b).one = true:=rfl
theorem one_sl (es:List (List AV)) (tk:Tk):(AV.sl es tk).one = true:=rfl
theorem one_ptr (l o:Nat):(AV.ptr l o).one = true:=rfl
theorem one_ref (es:List AV) (o:Nat):(AV.ref es o).one = true:=rfl
theorem one_nilp:AV.nilp.one = true:=rfl
theorem one_nilf:AV.nilf.one = true:=rfl
theorem one_mp (l:Nat):(AV.mp l).one = true:=rfl
theorem one_fn (f:Fn) (a b:List AV):(AV.fn f a b).one = true:=rfl
def onz:=And.intro @one_i (And.intro @one_b (And.intro @one_sl (And.intro @one_ptr (And.intro @one_ref (And.intro @one_nilp (And.intro @one_mp (And.intro @one_fn @one_nilf)))))))
theorem zaf:True = True:=rfl
theorem zaU (l:List Bool):True = True:=rfl
theorem za2 (l:List Bool):True = True:=rfl
def inB (n lo hi:Int):Bool:=decide (lo ≤ n) && decide (n ≤ hi)
theorem zfy (n lo hi:Int):inB n lo hi = true ↔ lo ≤ n ∧ n ≤ hi:=by simp [inB]
theorem In_call (n lo hi:Int):zaH Tryz.prog 20 [Enc.enc n,Enc.enc lo,Enc.enc hi] (· = Enc.enc (inB n lo hi)):=by
 simp only [zd3]
 refine cpz P0_ok Tryz.func20 zaA ?_
 rw [Tryz.ntmps20]
 simp only [Tryz.f20,zaj,zao]
 simp (maxSteps:=4000000) only [go_sem,AV.one,zae,zab,zac,zan,zaq,zaa,czb,cza,↓reduceIte,zaU,za2,zaf,onz]
 grind [inB]
def zdr (r:Rg):Bool:=decide (0 ≤ r.lo) && decide (r.lo ≤ r.hi) && decide (r.hi ≤ 9)
theorem zk3 (r:Rg):zaH Tryz.prog 21 [Enc.enc r] (· = Enc.enc (zdr r)):=by
 simp only [zd3]
 refine cpz P0_ok Tryz.func21 zaA ?_
 rw [Tryz.ntmps21]
 simp only [Tryz.f21,zaj,zao]
 simp (maxSteps:=4000000) only [go_sem,AV.one,zae,zab,zac,zan,zaq,zaa,czb,cza,↓reduceIte,zaU,za2,zaf,onz]
 grind [zdr]
def P1 (g:FuncId):=(zat 20 (zgE (fun _ _ _ => True) inB) (zat 21 (zbN (fun _ => True) zdr) (P0)):zay) g
theorem zre:zam Tryz.prog P1:=zah (zcY fun a b c _ => In_call a b c) (zah (zaN fun a _ => zk3 a) (P0_ok))
theorem P1_flag (d:Option Nat):zaw P1 d = none:=(zag (by decide) d).trans ((zag (by decide) d).trans (P0_flag d))
attribute [go_sem] P1 P1_flag
def zbR (x:Sk):Bool:=inB x.chairs 0 99 && zdr x.leak
def zdt (s:Sh):Int:=if 8 < s.stacks.length then 3 else if (inB s.hands 0 3 && zdr s.rain) = true then (if s.stacks.all zbR = true then 0 else 1) else 1
theorem take_all {α:Type} [Inhabited α] (p:α → Bool) (l:List α) {i:Nat} (hi:i < l.length):(l.take (i + 1)).all p = ((l.take i).all p && p (at_ l i)):=by
 rw [zaM hi,List.all_append]; simp
theorem zh7 {α:Type} [Inhabited α] {p:α → Bool} {l:List α} {i:Nat} (hi:i < l.length) (h:p (at_ l i) = false):l.all p = false:=by
 rw [List.all_eq_false]
 exact ⟨_,zaS hi,by rw [h]; simp⟩
theorem zri (s:Sh) (h:s.stacks.length ≤ 4096):zaH Tryz.prog 7 [Enc.enc s] (· = Enc.enc (zdt s)):=by
 unfold zdt
 cases c0:decide (8 < (s.stacks.length:Int))
 ·rw [if_neg (by simp at c0; omega)]
  cases c1:inB s.hands 0 3 <;> cases c2:zdr s.rain
  ·simp only [zd3]
   refine cpz zre Tryz.func7 zaA ?_
   rw [Tryz.ntmps7]
   simp only [Tryz.f7,zaj,zao]
   simp (maxSteps:=4000000) only [go_sem,AV.one,zae,zab,zac,zan,zaq,zaa,czb,cza,↓reduceIte,zaU,za2,zaf,onz,c0,c1,c2]
  ·simp only [zd3]
   refine cpz zre Tryz.func7 zaA ?_
   rw [Tryz.ntmps7]
   simp only [Tryz.f7,zaj,zao]
   simp (maxSteps:=4000000) only [go_sem,AV.one,zae,zab,zac,zan,zaq,zaa,czb,cza,↓reduceIte,zaU,za2,zaf,onz,c0,c1,c2]
  ·simp only [zd3]
   refine cpz zre Tryz.func7 zaA ?_
   rw [Tryz.ntmps7]
   simp only [Tryz.f7,zaj,zao]
   simp (maxSteps:=4000000) only [go_sem,AV.one,zae,zab,zac,zan,zaq,zaa,czb,cza,↓reduceIte,zaU,za2,zaf,onz,c0,c1,c2]
  ·simp only [zd3]
   refine cpz zre Tryz.func7 zaA ?_
   rw [Tryz.ntmps7]
   simp only [Tryz.f7,zaj,zao]
   simp (maxSteps:=4000000) only [go_sem,AV.one,zae,zab,zac,zan,zaq,zaa,czb,cza,↓reduceIte,zaU,za2,zaf,onz,c0,c1,c2]
   refine zbg (s.stacks.length) [] [1,2] (fun i => [(3,.int .i64 i)]) (fun _ m => m) (fun i => (s.stacks.take i).all zbR = true) ?_ ?_ ?_ ?_
   ·rfl
   ·simp [AV.bare,zal,zaF,zaI,zak,zas,zai,tokz1,lk,zaa,zcs]
   ·intro i hi hI
    have hi':=czH.2 hi
    cases c3:inB (at_ s.stacks i).chairs 0 99 <;> cases c4:zdr (at_ s.stacks i).leak <;>
     simp (maxSteps:=4000000) only [go_sem,AV.one,zae,zab,zac,zan,zaq,zaa,czb,cza,↓reduceIte,zaU,za2,zaf,onz,zar hi,hi',c3,c4]
    all_goals all_goals (repeat' first | (with_reducible first | rfl | apply And.intro | assumption) | ((with_reducible show zad _ _ = true); rfl)) <;> try first | omega | (simp only [InR]; omega)
    ·rw [if_neg (by rw [zh7 hi (by simp [zbR,c3])]; simp)]
    ·rw [if_neg (by rw [zh7 hi (by simp [zbR,c3])]; simp)]
    ·rw [if_neg (by rw [zh7 hi (by simp [zbR,c4])]; simp)]
    ·refine nxt hi (by rw [take_all _ _ hi,hI]; simp [zbR,c3,c4]) ?_
     simp [AV.bare,zal,zaF,zaI,zak,zas,zai,tokz1,lk,zaa,zcs]
   ·intro hI
    rw [czm] at hI
    simp (maxSteps:=4000000) only [go_sem,AV.one,zae,zab,zac,zan,zaq,zaa,czb,cza,↓reduceIte,zaU,za2,zaf,onz]
    simp [hI]
 ·rw [if_pos (by simp at c0; omega)]
  simp only [zd3]
  refine cpz zre Tryz.func7 zaA ?_
  rw [Tryz.ntmps7]
  simp only [Tryz.f7,zaj,zao]
  simp (maxSteps:=4000000) only [go_sem,AV.one,zae,zab,zac,zan,zaq,zaa,czb,cza,↓reduceIte,zaU,za2,zaf,onz,c0]
theorem zoH {s:Sh} (h:zdt s = 0):ShOk s:=by
 unfold zdt at h
 split at h
 ·cases h
 ·split at h
  ·rename_i h8 h1
   split at h
   ·rename_i h2
    simp only [czl,zfy,zdr,decide_eq_true_eq] at h1
    rw [czG] at h2
    refine ⟨by omega,h1.1.1,h1.1.2,⟨h1.2.1.1,h1.2.1.2,h1.2.2⟩,fun x hx => ?_⟩
    have:=h2 x hx
    simp only [zbR,czl,zfy,zdr,decide_eq_true_eq] at this
    exact ⟨this.1,this.2.1.1,this.2.1.2,this.2.2⟩
   ·cases h
  ·cases h
theorem ok_fault {s:Sh} (h:ShOk s):zdt s = 0:=by
 unfold zdt
 have h1:=h.len
 have h2:=h.r
 have h3:=h.h0
 have h4:=h.h3
 rw [if_neg (by omega),if_pos,if_pos]
 ·rw [czG]
  intro x hx
  have:=h.st x hx
  simp only [zbR,czl,zfy,zdr,decide_eq_true_eq]
  exact ⟨this.1,⟨this.2.1,this.2.2.1⟩,this.2.2.2⟩
 ·simp only [czl,zfy,zdr,decide_eq_true_eq]
  exact ⟨⟨h3,h4⟩,⟨h2.1,h2.2.1⟩,h2.2.2⟩
def P2 (g:FuncId):=(zat 7 (zbN (fun s:Sh => s.stacks.length ≤ 4096) zdt) (P1):zay) g
theorem P2_ok:zam Tryz.prog P2:=zah (zaN fun s h => zri s h) (zre)
theorem P2_flag (d:Option Nat):zaw P2 d = none:=(zag (by decide) d).trans (P1_flag d)
attribute [go_sem] P2 P2_flag
theorem zij (p:Nat → Bool) (i:Nat):(List.range (i + 1)).all p = ((List.range i).all p && p i):=by
 rw [List.range_succ,List.all_append]; simp
theorem zeE {p:Nat → Bool} {n i:Nat} (hi:i < n) (h:p i = false):(List.range n).all p = false:=by
 rw [List.all_eq_false]
 exact ⟨i,List.mem_range.2 hi,by rw [h]; simp⟩
def P3:zay:=P2
theorem P3_app (g:FuncId):P3 g = (P2) g:=rfl
theorem P3_ok:zam Tryz.prog P3:=P2_ok
attribute [go_sem] P3_app
theorem P3_flag (d:Option Nat):zaw P3 d = none:=P2_flag d
attribute [go_sem] P3_flag
theorem zmt (n lo hi:Int):zaH Tryz.prog 59 [Enc.enc n,Enc.enc lo,Enc.enc hi] (· = Enc.enc (inB n lo hi)):=by
 simp only [zd3]
 refine cpz P3_ok Tryz.func59 zaA ?_
 rw [Tryz.ntmps59]
 simp only [Tryz.f59,zaj,zao]
 simp (maxSteps:=4000000) only [go_sem,AV.one,zae,zab,zac,zan,zaq,zaa,czb,cza,↓reduceIte,zaU,za2,zaf,onz]
 rfl
theorem zqw (r:Rg):zaH Tryz.prog 60 [Enc.enc r] (· = Enc.enc (zdr r)):=by
 simp only [zd3]
 refine cpz P3_ok Tryz.func60 zaA ?_
 rw [Tryz.ntmps60]
 simp only [Tryz.f60,zaj,zao]
 simp (maxSteps:=4000000) only [go_sem,AV.one,zae,zab,zac,zan,zaq,zaa,czb,cza,↓reduceIte,zaU,za2,zaf,onz]
 rfl
def zgm (closed water:Int):Bool:=decide (closed ≠ -1) && decide (closed < water)
theorem zp4 (a b:Int):zaH Tryz.prog 67 [Enc.enc a,Enc.enc b] (· = Enc.enc (zgm a b)):=by
 simp only [zd3]
 refine cpz P3_ok Tryz.func67 zaA ?_
 rw [Tryz.ntmps67]
 simp only [Tryz.f67,zaj,zao]
 simp (maxSteps:=4000000) only [go_sem,AV.one,zae,zab,zac,zan,zaq,zaa,czb,cza,↓reduceIte,zaU,za2,zaf,onz]
 simp [zgm]
def P4 (g:FuncId):=(zat 59 (zgE (fun _ _ _ => True) inB) (zat 60 (zbN (fun _ => True) zdr) (zat 67 (zbD (fun _ _ => True) zgm) (P3))):zay) g
theorem P4_ok:zam Tryz.prog P4:=zah (zcY fun a b c _ => zmt a b c) (zah (zaN fun a _ => zqw a) (zah (zaK fun a b _ => zp4 a b) (P3_ok)))
theorem P4_flag (d:Option Nat):zaw P4 d = none:=(zag (by decide) d).trans ((zag (by decide) d).trans ((zag (by decide) d).trans (P3_flag d)))
attribute [go_sem] P4 P4_flag
theorem zpI (x:Sk):zaH Tryz.prog 62 [Enc.enc x] (· = Enc.enc (zbR x)):=by
 have e:zbR x = (inB x.chairs 0 99 && zdr x.leak):=rfl
 rw [e]
 cases c1:inB x.chairs 0 99
 ·simp only [zd3]
  refine cpz P4_ok Tryz.func62 zaA ?_
  rw [Tryz.ntmps62]
  simp only [Tryz.f62,zaj,zao]
  simp (maxSteps:=4000000) only [go_sem,AV.one,zae,zab,zac,zan,zaq,zaa,czb,cza,↓reduceIte,zaU,za2,zaf,onz,c1]
 ·simp only [zd3]
  refine cpz P4_ok Tryz.func62 zaA ?_
  rw [Tryz.ntmps62]
  simp only [Tryz.f62,zaj,zao]
  simp (maxSteps:=4000000) only [go_sem,AV.one,zae,zab,zac,zan,zaq,zaa,czb,cza,↓reduceIte,zaU,za2,zaf,onz,c1]
def P5 (g:FuncId):=(zat 62 (zbN (fun _ => True) zbR) (P4):zay) g
theorem P5_ok:zam Tryz.prog P5:=zah (zaN fun x _ => zpI x) (P4_ok)
theorem P5_flag (d:Option Nat):zaw P5 d = none:=(zag (by decide) d).trans (P4_flag d)
attribute [go_sem] P5 P5_flag
def P6:zay:=P5
theorem P6_app (g:FuncId):P6 g = (P5) g:=rfl
theorem P6_ok:zam Tryz.prog P6:=P5_ok
attribute [go_sem] P6_app
theorem P6_flag (d:Option Nat):zaw P6 d = none:=P5_flag d
attribute [go_sem] P6_flag
def zbA {α:Type} [Inhabited α] (p:α → Bool) (l:List α):Nat → Nat → Int
 | 0,_ => -1
 | f + 1,n => if p (at_ l n) then n else zbA p l f (n + 1)
theorem zhS {α:Type} [Inhabited α] {l:List α} {i:Nat} (h:i < l.length):l.drop i = at_ l i :: l.drop (i + 1):=by
 rw [zcW h]; exact List.drop_eq_getElem_cons h
theorem zeQ {α:Type} [Inhabited α] (p:α → Bool) (l:List α):∀ f n,f + n = l.length → decide (0 ≤ zbA p l f n) = (l.drop n).any p
 | 0,n,h => by rw [List.drop_eq_nil_of_le (by omega)]; rfl
 | f + 1,n,h => by
  rw [zbA,zhS (show n < l.length by omega),List.any_cons]
  cases c:p (at_ l n)
  ·rw [if_neg (by simp),zeQ p l f (n + 1) (by omega)]; rfl
  ·rw [if_pos rfl]; simp
theorem zj6 {α:Type} (p:α → Bool) (l:List α):(!l.any fun x => !p x) = l.all p:=by
 induction l with
 | nil => rfl
 | cons x l ih => rw [List.any_cons,List.all_cons,← ih]; cases p x <;> rfl
theorem zq0 (x:Sk) (f:FnL 62):zaH Tryz.prog 83 [Enc.enc x,Enc.enc (RefC.mk f)] (· = Enc.enc (!zbR x)):=by
 simp only [zd3]
 refine cpz P6_ok Tryz.func83 zaA ?_
 rw [Tryz.ntmps83]
 simp only [Tryz.f83,zaj,zao]
 simp (maxSteps:=4000000) only [go_sem,AV.one,zae,zab,zac,zan,zaq,zaa,czb,cza,↓reduceIte,zaU,za2,zaf,onz]
def P7 (g:FuncId):=(zat 83 (zbD (fun _ _ => True) (fun (x:Sk) (f:RefC (FnL 62)) => let f:=f.x; !zbR x)) (P6):zay) g
theorem P7_ok:zam Tryz.prog P7:=zah (zaK fun x f _ => zq0 x f.x) (P6_ok)
theorem P7_flag (d:Option Nat):zaw P7 d = none:=(zag (by decide) d).trans (P6_flag d)
attribute [go_sem] P7 P7_flag
theorem zqX (l:List (Sk)) (f:FnC 83 (FnL 62)) (h:l.length ≤ 4096):zaH Tryz.prog 95 [Enc.enc l,Enc.enc f] (· = Enc.enc (let f:=f.x; zbA (fun x => !zbR x) l l.length 0)):=by
 obtain ⟨f⟩:=f
 simp only [zd3]
 refine cpz P7_ok Tryz.func95 zaA ?_
 rw [Tryz.ntmps95]
 simp only [Tryz.f95,zaj,zao]
 simp (maxSteps:=4000000) only [go_sem,AV.one,zae,zab,zac,zan,zaq,zaa,czb,cza,↓reduceIte,zaU,za2,zaf,onz]
 refine zbg (l.length) [] [0,1,4,7] (fun i => [(8,.int .i64 i)]) (fun _ m => m) (fun i => zbA (fun x => !zbR x) l (l.length - i) i = zbA (fun x => !zbR x) l l.length 0) ?_ ?_ ?_ ?_
 ·rfl
 ·simp [AV.bare,zal,zaF,zaI,zak,zas,zai,tokz1,lk,zaa,zcs]
 ·intro i hi hI
  rw [show l.length - i = (l.length - (i + 1)) + 1 by omega,zbA] at hI
  cases c:zbR (at_ l i) <;>
   simp (maxSteps:=4000000) only [go_sem,AV.one,zae,zab,zac,zan,zaq,zaa,czb,cza,↓reduceIte,zaU,za2,zaf,onz,zar hi,czH.2 hi,c]
  all_goals all_goals (repeat' first | (with_reducible first | rfl | apply And.intro | assumption) | ((with_reducible show zad _ _ = true); rfl)) <;> try first | omega | (simp only [InR]; omega)
  ·rw [c] at hI
   rw [← hI]; rfl
  ·rw [c] at hI
   refine nxt hi hI ?_
   simp [AV.bare,zal,zaF,zaI,zak,zas,zai,tokz1,lk,zaa,zcs]
 ·intro hI
  simp (maxSteps:=4000000) only [go_sem,AV.one,zae,zab,zac,zan,zaq,zaa,czb,cza,↓reduceIte,zaU,za2,zaf,onz]
  rw [← hI]; simp [zbA]
def P8 (g:FuncId):=(zat 95 (zbD (fun (l:List (Sk)) (_:FnC 83 (FnL 62)) => l.length ≤ 4096) (fun l f => let f:=f.x; zbA (fun x => !zbR x) l l.length 0)) (P7):zay) g
theorem P8_ok:zam Tryz.prog P8:=zah (zaK zqX) (P7_ok)
theorem P8_flag (d:Option Nat):zaw P8 d = none:=(zag (by decide) d).trans (P7_flag d)
attribute [go_sem] P8 P8_flag
theorem zqY (l:List (Sk)) (f:FnC 83 (FnL 62)) (h:l.length ≤ 4096):zaH Tryz.prog 82 [Enc.enc l,Enc.enc f] (· = Enc.enc (let f:=f.x; l.any (fun x => !zbR x))):=by
 obtain ⟨f⟩:=f
 simp only [zd3]
 refine cpz P8_ok Tryz.func82 zaA ?_
 rw [Tryz.ntmps82]
 simp only [Tryz.f82,zaj,zao]
 simp (maxSteps:=4000000) only [go_sem,AV.one,zae,zab,zac,zan,zaq,zaa,czb,cza,↓reduceIte,zaU,za2,zaf,onz]
 all_goals (repeat' first | (with_reducible first | rfl | apply And.intro | assumption) | ((with_reducible show zad _ _ = true); rfl)) <;> try first | omega | (simp only [InR]; omega)
 congr 1
 exact zeQ (fun x => !zbR x) l l.length 0 (by omega)
def P9 (g:FuncId):=(zat 82 (zbD (fun (l:List (Sk)) (_:FnC 83 (FnL 62)) => l.length ≤ 4096) (fun l f => let f:=f.x; l.any (fun x => !zbR x))) (P8):zay) g
theorem P9_ok:zam Tryz.prog P9:=zah (zaK zqY) (P8_ok)
theorem P9_flag (d:Option Nat):zaw P9 d = none:=(zag (by decide) d).trans (P8_flag d)
attribute [go_sem] P9 P9_flag
theorem zqZ (l:List (Sk)) (f:FnL 62) (h:l.length ≤ 4096):zaH Tryz.prog 61 [Enc.enc l,Enc.enc f] (· = Enc.enc (l.all (fun x => zbR x))):=by
 simp only [zd3]
 refine cpz P9_ok Tryz.func61 zaA ?_
 rw [Tryz.ntmps61]
 simp only [Tryz.f61,zaj,zao]
 simp (maxSteps:=4000000) only [go_sem,AV.one,zae,zab,zac,zan,zaq,zaa,czb,cza,↓reduceIte,zaU,za2,zaf,onz]
 all_goals (repeat' first | (with_reducible first | rfl | apply And.intro | assumption) | ((with_reducible show zad _ _ = true); rfl)) <;> try first | omega | (simp only [InR]; omega)
 rw [zj6]
def P10 (g:FuncId):=(zat 61 (zbD (fun (l:List (Sk)) (_:FnL 62) => l.length ≤ 4096) (fun l f => l.all (fun x => zbR x))) (P9):zay) g
theorem P10_ok:zam Tryz.prog P10:=zah (zaK zqZ) (P9_ok)
theorem zpA (d:Option Nat):zaw P10 d = none:=(zag (by decide) d).trans (P9_flag d)
attribute [go_sem] P10 zpA
def P11:zay:=P10
theorem P11_app (g:FuncId):P11 g = (P10) g:=rfl
theorem P11_ok:zam Tryz.prog P11:=P10_ok
attribute [go_sem] P11_app
theorem zpz (d:Option Nat):zaw P11 d = none:=zpA d
attribute [go_sem] zpz
def P12:zay:=P11
theorem P12_app (g:FuncId):P12 g = (P11) g:=rfl
theorem P12_ok:zam Tryz.prog P12:=P11_ok
attribute [go_sem] P12_app
theorem zpy (d:Option Nat):zaw P12 d = none:=zpz d
attribute [go_sem] zpy
def P13:zay:=P12
theorem P13_app (g:FuncId):P13 g = (P12) g:=rfl
theorem P13_ok:zam Tryz.prog P13:=P12_ok
attribute [go_sem] P13_app
theorem zpx (d:Option Nat):zaw P13 d = none:=zpy d
attribute [go_sem] zpx
def P14:zay:=P13
theorem P14_app (g:FuncId):P14 g = (P13) g:=rfl
theorem P14_ok:zam Tryz.prog P14:=P13_ok
attribute [go_sem] P14_app
theorem zpw (d:Option Nat):zaw P14 d = none:=zpx d
attribute [go_sem] zpw
def P15:zay:=P14
theorem P15_app (g:FuncId):P15 g = (P14) g:=rfl
theorem P15_ok:zam Tryz.prog P15:=P14_ok
attribute [go_sem] P15_app
theorem zpv (d:Option Nat):zaw P15 d = none:=zpw d
attribute [go_sem] zpv
def P16:zay:=P15
theorem P16_app (g:FuncId):P16 g = (P15) g:=rfl
theorem P16_ok:zam Tryz.prog P16:=P15_ok
attribute [go_sem] P16_app
theorem zpu (d:Option Nat):zaw P16 d = none:=zpv d
attribute [go_sem] zpu
def P17:zay:=P16
theorem P17_app (g:FuncId):P17 g = (P16) g:=rfl
theorem P17_ok:zam Tryz.prog P17:=P16_ok
attribute [go_sem] P17_app
theorem zpt (d:Option Nat):zaw P17 d = none:=zpu d
attribute [go_sem] zpt
def P18:zay:=P17
theorem P18_app (g:FuncId):P18 g = (P17) g:=rfl
theorem zje:zam Tryz.prog P18:=P17_ok
attribute [go_sem] P18_app
theorem zps (d:Option Nat):zaw P18 d = none:=zpt d
attribute [go_sem] zps
end Go.Proofs
