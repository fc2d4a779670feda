/- The texts HD, HM1, HG, HM2, HM3, H1, H2, H3, joined. -/
import Derived.Test.YtilbconikmpadaaGreatG7
import Derived.Test.YtilbconikmpadaaGreatG6
import Derived.Test.YtilbconikmpadaaGreatG10
import Derived.Test.YtilbconikmpadaaGreatG11
set_option linter.all false
namespace Go.Fs
structure BA (n:Nat) where
 l:List Bool
 h:l.length = n
theorem BA.ext {n:Nat} {a b:BA n} (h:a.l = b.l):a = b:=by cases a; cases b; simp_all
instance {n:Nat}:Inhabited (BA n):=⟨⟨List.replicate n false,by simp⟩⟩
theorem zkf:∀ (cs:List AV) (l:List Bool),zde cs = some l → cs = l.map AV.bool
 | [],l,h => by simp only [zde,czg] at h; subst h; rfl
 | c :: cs,l,h => by
  unfold zde at h
  split at h
  ·cases h; simp_all
  ·rename_i n r heq
   cases heq
   simp only [czr] at h
   obtain ⟨y,h1,rfl⟩:=h
   rw [zkf _ _ h1]
   rfl
  ·cases h
theorem zke (l:List Bool):zde (l.map AV.bool) = some l:=by
 induction l with
 | nil => rfl
 | cons x l ih => simp [zde,ih]
def znU (n:Nat) (cs:List AV):Option (BA n) :=
 match zde cs with
 | some l => if h:l.length = n then some ⟨l,h⟩ else none
 | none => none
theorem znT {n:Nat} {cs:List AV} {x:BA n} (h:znU n cs = some x):cs = x.l.map AV.bool:=by
 unfold znU at h
 split at h
 ·rename_i l hl
  split at h
  ·cases h; exact zkf _ _ hl
  ·cases h
 ·cases h
theorem znS {n:Nat} (x:BA n):znU n (x.l.map AV.bool) = some x:=by
 unfold znU
 rw [zke]
 simp [x.h]
theorem zgp {p:AV → Prop} (hp:∀ b,p (.bool b)) (l:List Bool):∀ c ∈ l.map AV.bool,p c:=fun c hc => by
 obtain ⟨b,_,rfl⟩:=czx.1 hc
 exact hp b
theorem zlu (l:List Bool):∀ c ∈ l.map AV.bool,zbp 1 c:=zgp (fun b => trivial) l
instance {n:Nat}:Enc (BA n) where
 enc x:=.agg (x.l.map AV.bool)
 dec
  | .agg cs => znU n cs
  | _ => none
 law v x h:=by
  split at h
  ·rw [znT h]
  ·cases h
 dep:=2
 ok x:=zlu x.l
instance {n:Nat}:EncE (BA n) where
 cs x:=x.l.map AV.bool
 dcs cs:=znU n cs
 law v x h:=znT h
 inv x:=znS x
 dep:=1
 sz:=n
 len x:=by simp [x.h]
 ok x:=zlu x.l
section
variable {n:Nat}
theorem enc_ba (x:BA n):Enc.enc x = .agg (x.l.map AV.bool):=rfl
theorem cs_ba (x:BA n):EncE.cs x = x.l.map AV.bool:=rfl
theorem dec_ba (cs:List AV):(Enc.dec (.agg cs):Option (BA n)) = znU n cs:=rfl
theorem dcs_ba (cs:List AV):(EncE.dcs cs:Option (BA n)) = znU n cs:=rfl
theorem dep_ba:EncE.dep (BA n) = 1:=rfl
theorem sz_ba:EncE.sz (BA n) = n:=rfl
theorem eta_ba (x:BA n):(⟨x.l,x.h⟩:BA n) = x:=rfl
end
structure Ch where
 row:Int
 hours:Int
 rot:Int
instance:Inhabited Ch:=⟨⟨0,0,0⟩⟩
instance:Enc Ch where
 enc m:=.agg [.int .i64 m.row,.int .i64 m.hours,.int .i64 m.rot]
 dec
  | .agg [.int .i64 a,.int .i64 b,.int .i64 c] => some ⟨a,b,c⟩
  | _ => none
 law v x h:=by
  split at h
  ·cases h; rfl
  ·cases h
 dep:=2
 ok x:=by simp [zbp]
instance:EncE Ch where
 cs m:=[.int .i64 m.row,.int .i64 m.hours,.int .i64 m.rot]
 dcs
  | [.int .i64 a,.int .i64 b,.int .i64 c] => some ⟨a,b,c⟩
  | _ => none
 law v x h:=by
  split at h
  ·cases h; rfl
  ·cases h
 inv _:=rfl
 dep:=1
 sz:=3
 len _:=rfl
 ok x:=by simp [zbp]
theorem enc_ch (m:Ch):Enc.enc m = .agg [.int .i64 m.row,.int .i64 m.hours,.int .i64 m.rot]:=rfl
theorem cs_ch (m:Ch):EncE.cs m = [.int .i64 m.row,.int .i64 m.hours,.int .i64 m.rot]:=rfl
theorem dec_ch (a b c:Int):(Enc.dec (.agg [.int .i64 a,.int .i64 b,.int .i64 c]):Option Ch) = some ⟨a,b,c⟩:=rfl
theorem dcs_ch (a b c:Int):(EncE.dcs [.int .i64 a,.int .i64 b,.int .i64 c]:Option Ch) = some ⟨a,b,c⟩:=rfl
theorem dep_ch:EncE.dep Ch = 1:=rfl
theorem sz_ch:EncE.sz Ch = 3:=rfl
theorem eta_ch (r:Ch):(⟨r.row,r.hours,r.rot⟩:Ch) = r:=rfl
structure Sy where
 wet:Int
 rot:Int
 free:List Int
instance:Inhabited Sy:=⟨⟨0,0,[]⟩⟩
instance:Enc Sy where
 enc m:=.agg [.int .i64 m.wet,.int .i64 m.rot,.sl (m.free.map EncE.cs) .no]
 dec
  | .agg [.int .i64 a,.int .i64 b,.sl es .no] => (zdC es:Option (List Int)).map fun c => ⟨a,b,c⟩
  | _ => none
 law v x h:=by
  split at h
  ·simp only [czr] at h
   obtain ⟨c,h1,rfl⟩:=h
   rw [zbv _ _ h1]
  ·cases h
 dep:=3
 ok x:=by
  simp only [zbp,czn,czk,or_false,forall_eq_or_imp,forall_eq,true_and,czx,forall_exists_index,and_imp,forall_apply_eq_imp_iff₂]
  exact fun a _ => EncE.ok a
instance:EncE Sy where
 cs m:=[.int .i64 m.wet,.int .i64 m.rot,.sl (m.free.map EncE.cs) .no]
 dcs
  | [.int .i64 a,.int .i64 b,.sl es .no] => (zdC es:Option (List Int)).map fun c => ⟨a,b,c⟩
  | _ => none
 law v x h:=by
  split at h
  ·simp only [czr] at h
   obtain ⟨c,h1,rfl⟩:=h
   rw [zbv _ _ h1]
  ·cases h
 inv x:=by simp only [zdn,Option.map_some]
 dep:=2
 sz:=3
 len _:=rfl
 ok x:=by
  simp only [zbp,czn,czk,or_false,forall_eq_or_imp,forall_eq,true_and,czx,forall_exists_index,and_imp,forall_apply_eq_imp_iff₂]
  exact fun a _ => EncE.ok a
theorem enc_sy (m:Sy):Enc.enc m = .agg [.int .i64 m.wet,.int .i64 m.rot,.sl (m.free.map EncE.cs) .no]:=rfl
theorem cs_sy (m:Sy):EncE.cs m = [.int .i64 m.wet,.int .i64 m.rot,.sl (m.free.map EncE.cs) .no]:=rfl
theorem dec_sy (a b:Int) (es:List (List AV)):(Enc.dec (.agg [.int .i64 a,.int .i64 b,.sl es .no]):Option Sy) = (zdC es:Option (List Int)).map fun c => ⟨a,b,c⟩:=rfl
theorem dcs_sy (a b:Int) (es:List (List AV)):(EncE.dcs [.int .i64 a,.int .i64 b,.sl es .no]:Option Sy) = (zdC es:Option (List Int)).map fun c => ⟨a,b,c⟩:=rfl
theorem zsg:EncE.dep Sy = 2:=rfl
theorem sz_sy:EncE.sz Sy = 3:=rfl
theorem eta_sy (r:Sy):(⟨r.wet,r.rot,r.free⟩:Sy) = r:=rfl
structure Sea where
 hs:List Int
 rows:List (BA 10)
instance:Inhabited Sea:=⟨⟨[],[]⟩⟩
def ziF:List AV → Option Sea
 | [.sl a .no,.sl b .no] =>
  match (zdC a:Option (List Int)),(zdC b:Option (List (BA 10))) with
  | some a,some b => some ⟨a,b⟩
  | _,_ => none
 | _ => none
theorem zij {cs:List AV} {s:Sea} (h:ziF cs = some s):cs = [.sl (s.hs.map EncE.cs) .no,.sl (s.rows.map EncE.cs) .no]:=by
 unfold ziF at h
 split at h
 ·split at h
  ·rename_i h1 h2
   cases h
   rw [zbv _ _ h1,zbv _ _ h2]
  ·cases h
 ·cases h
theorem zlQ (s:Sea):∀ c ∈ ([.sl (s.hs.map EncE.cs) .no,.sl (s.rows.map EncE.cs) .no]:List AV),zbp 2 c:=by
 simp only [zbp,czn,czk,or_false,forall_eq_or_imp,forall_eq,true_and,czx,forall_exists_index,and_imp,forall_apply_eq_imp_iff₂]
 exact ⟨fun a _ => EncE.ok a,fun a _ => EncE.ok a⟩
instance:Enc Sea where
 enc s:=.agg [.sl (s.hs.map EncE.cs) .no,.sl (s.rows.map EncE.cs) .no]
 dec
  | .agg cs => ziF cs
  | _ => none
 law v x h:=by
  split at h
  ·rw [zij h]
  ·cases h
 dep:=3
 ok:=zlQ
instance:EncE Sea where
 cs s:=[.sl (s.hs.map EncE.cs) .no,.sl (s.rows.map EncE.cs) .no]
 dcs:=ziF
 law v x h:=zij h
 inv x:=by simp only [ziF,zdn]
 dep:=2
 sz:=2
 len _:=rfl
 ok:=zlQ
theorem enc_sea (s:Sea):Enc.enc s = .agg [.sl (s.hs.map EncE.cs) .no,.sl (s.rows.map EncE.cs) .no]:=rfl
theorem cs_sea (s:Sea):EncE.cs s = [.sl (s.hs.map EncE.cs) .no,.sl (s.rows.map EncE.cs) .no]:=rfl
theorem dec_sea (a b:List (List AV)):(Enc.dec (.agg [.sl a .no,.sl b .no]):Option Sea) = match (zdC a:Option (List Int)),(zdC b:Option (List (BA 10))) with
  | some a,some b => some ⟨a,b⟩
  | _,_ => none:=rfl
theorem dcs_sea (a b:List (List AV)):(EncE.dcs [.sl a .no,.sl b .no]:Option Sea) = match (zdC a:Option (List Int)),(zdC b:Option (List (BA 10))) with
  | some a,some b => some ⟨a,b⟩
  | _,_ => none:=rfl
theorem zfA:EncE.dep Sea = 2:=rfl
theorem sz_sea:EncE.sz Sea = 2:=rfl
theorem eta_sea (s:Sea):(⟨s.hs,s.rows⟩:Sea) = s:=rfl
structure Yd where
 t:Tb
 hands:Int
 chairs:List Ch
 order:List Int
 hires:List Rg
def ydC (y:Yd):List AV:=[.int .i64 y.t.last,.sl (y.t.heights.map EncE.cs) .no,.int .i64 y.t.step,.sl (y.t.levels.map EncE.cs) .no,.sl (y.t.marks.map EncE.cs) .no,
 .int .i64 y.hands,.sl (y.chairs.map EncE.cs) .no,.sl (y.order.map EncE.cs) .no,.sl (y.hires.map EncE.cs) .no]
def ziW:List AV → Option Yd
 | [.int .i64 a,.sl b .no,.int .i64 c,.sl d .no,.sl e .no,.int .i64 f,.sl g .no,.sl h .no,.sl i .no] =>
  match (zdC b:Option (List Rg)),(zdC d:Option (List Int)),(zdC e:Option (List Mk)),(zdC g:Option (List Ch)),(zdC h:Option (List Int)),(zdC i:Option (List Rg)) with
  | some b,some d,some e,some g,some h,some i => some ⟨⟨a,b,c,d,e⟩,f,g,h,i⟩
  | _,_,_,_,_,_ => none
 | _ => none
theorem zfk {cs:List AV} {y:Yd} (h:ziW cs = some y):cs = ydC y:=by
 unfold ziW at h
 split at h
 ·split at h
  ·rename_i h1 h2 h3 h4 h5 h6
   cases h
   rw [zbv _ _ h1,zbv _ _ h2,zbv _ _ h3,zbv _ _ h4,zbv _ _ h5,zbv _ _ h6]
   rfl
  ·cases h
 ·cases h
theorem zfp (y:Yd):∀ c ∈ ydC y,zbp 2 c:=by
 simp only [ydC,zbp,czn,czk,or_false,forall_eq_or_imp,forall_eq,true_and,czx,forall_exists_index,and_imp,forall_apply_eq_imp_iff₂]
 exact ⟨fun a _ => EncE.ok a,fun a _ => EncE.ok a,fun a _ => EncE.ok a,fun a _ => EncE.ok a,fun a _ => EncE.ok a,fun a _ => EncE.ok a⟩
instance:Enc Yd where
 enc y:=.agg (ydC y)
 dec
  | .agg cs => ziW cs
  | _ => none
 law v x h:=by
  split at h
  ·rw [zfk h]
  ·cases h
 dep:=3
 ok:=zfp
theorem enc_yd (y:Yd):Enc.enc y = .agg [.int .i64 y.t.last,.sl (y.t.heights.map EncE.cs) .no,.int .i64 y.t.step,.sl (y.t.levels.map EncE.cs) .no,.sl (y.t.marks.map EncE.cs) .no,
 .int .i64 y.hands,.sl (y.chairs.map EncE.cs) .no,.sl (y.order.map EncE.cs) .no,.sl (y.hires.map EncE.cs) .no]:=rfl
def zb5:=And.intro @zqw (And.intro @zqy (And.intro @zqx (And.intro @zem (And.intro @zqz (And.intro @zqv (And.intro @zje (And.intro @zmj (And.intro @enc_rg (And.intro @enc_mk (And.intro @enc_ch (And.intro @enc_sy (And.intro @enc_sea (And.intro @enc_ba (And.intro @znP @enc_yd))))))))))))))
theorem dec_yd (a c f:Int) (b d e g h i:List (List AV)):(Enc.dec (.agg [.int .i64 a,.sl b .no,.int .i64 c,.sl d .no,.sl e .no,.int .i64 f,.sl g .no,.sl h .no,.sl i .no]):Option Yd) =
  match (zdC b:Option (List Rg)),(zdC d:Option (List Int)),(zdC e:Option (List Mk)),(zdC g:Option (List Ch)),(zdC h:Option (List Int)),(zdC i:Option (List Rg)) with
  | some b,some d,some e,some g,some h,some i => some ⟨⟨a,b,c,d,e⟩,f,g,h,i⟩
  | _,_,_,_,_,_ => none:=rfl
theorem eta_yd (y:Yd):(⟨⟨y.t.last,y.t.heights,y.t.step,y.t.levels,y.t.marks⟩,y.hands,y.chairs,y.order,y.hires⟩:Yd) = y:=rfl
theorem eta_yd' (y:Yd):(⟨y.t,y.hands,y.chairs,y.order,y.hires⟩:Yd) = y:=rfl
theorem zbc {n:Nat} {mem:List AObj} (l:List Bool):(l.map AV.bool).map (zb4 (n + 1) mem) = l.map AV.bool:=by
 rw [List.map_map]; rfl
theorem za1 (l:List Bool):(l.map AV.bool).map AV.strip = l.map AV.bool:=by rw [List.map_map]; rfl
theorem zaX (l:List Bool):(l.map AV.bool).map AV.strip1 = l.map AV.bool:=by rw [List.map_map]; rfl
theorem zbb (l:List Bool):(l.map AV.bool).map AV.soft = l.map AV.bool:=by rw [List.map_map]; rfl
theorem zbn {n:Nat} (l:List Bool):(∀ c ∈ l.map AV.bool,imm (n + 1) c) = True:=eq_true (zgp (fun b => trivial) l)
theorem zbd {n:Nat} (l:List Bool):(∀ c ∈ l.map AV.bool,ziS (n + 1) c) = True:=eq_true (zgp (fun b => trivial) l)
theorem zbl (l:List Bool):(∀ c ∈ l.map AV.bool,c.one = true) = True:=eq_true (zgp (fun b => rfl) l)
theorem bel_bools {k n:Nat} (l:List Bool):(∀ c ∈ l.map AV.bool,bel k (n + 1) c) = True:=eq_true (zgp (fun b => trivial) l)
theorem take_ba {n:Nat} (x:BA n):(x.l.map AV.bool).take n = x.l.map AV.bool:=cze (by simp [x.h])
theorem zpI {n:Nat} {mem:List AObj} (l:List Bool):(l.map AV.bool).map (zbU (zb4 (n + 1) mem) mem) = l.map AV.bool:=by
 rw [List.map_map]; rfl
theorem zue {l:List Bool} {i:Nat} (h:i < l.length):(l.map AV.bool).getD i .undef = .bool (at_ l i):=by simp [at_,List.getD,h]
theorem zdropB:List.drop 10 [AV.bool false,AV.bool false,AV.bool false,AV.bool false,AV.bool false,AV.bool false,AV.bool false,AV.bool false,AV.bool false,AV.bool false] = []:=rfl
theorem zk5 {l:List Bool} {i:Nat} (h:i < l.length) (v:Bool):zan (l.map AV.bool) i [.bool v] = (l.set i v).map AV.bool:=by
 unfold zan
 rw [← List.map_take,← List.map_drop,List.set_eq_take_append_cons_drop,if_pos h]
 simp
theorem over_at {a b c v:List AV} (h:v.length = b.length):zan (a ++ (b ++ c)) a.length v = a ++ (v ++ c):=by
 unfold zan
 rw [List.take_left,List.drop_append,czM (by omega),List.nil_append,Nat.add_sub_cancel_left,h,List.drop_left,czd]
theorem ziH {sz:Nat}:∀ es:List (List AV),(∀ e ∈ es,e.length = sz) → zc1 sz es.length es.flatten = es
 | [],_ => rfl
 | e :: es,h => by
  have h0:=h e (by simp)
  simp only [cza,List.flatten_cons,zc1]
  rw [List.take_left' h0,List.drop_left' h0,ziH es (fun x hx => h x (by simp [hx]))]
theorem ztK {mem:List AObj} {n m:Nat} {v:AV} (h:zbp n v) (hm:n ≤ m):zbU (zb4 m mem) mem v = v:=by
 have hp:=zhA (mem:=mem) n m v h hm
 cases v <;> first | exact hp | (exfalso; cases n <;> simp [zbp] at h)
theorem zty {α:Type} [EncE α] {mem:List AObj} {n:Nat} (h:EncE.dep α ≤ n) (l:List α):((l.map EncE.cs).flatten).map (zbU (zb4 n mem) mem) = (l.map EncE.cs).flatten:=by
 refine zcD fun c hc => ?_
 obtain ⟨e,he,hce⟩:=List.mem_flatten.1 hc
 obtain ⟨x,_,rfl⟩:=czx.1 he
 exact ztK (EncE.ok x c hce) h
theorem zuI {k n:Nat} (p q:Prop):(∀ c:AV,(p → AV.bool false = c → bel k (n + 1) c) ∧ (q → AV.bool true = c → bel k (n + 1) c)) = True:=eq_true fun c => ⟨fun _ e => e ▸ trivial,fun _ e => e ▸ trivial⟩
theorem zuH {k n:Nat} (p q:Prop):(∀ c:AV,p ∧ AV.bool false = c ∨ q ∧ AV.bool true = c → bel k (n + 1) c) = True:=eq_true fun c h => by
 rcases h with ⟨_,e⟩ | ⟨_,e⟩ <;> subst e <;> trivial
def za3:=And.intro @zmq (And.intro @cs_arr (And.intro @zqD (And.intro @zeg (And.intro @zqJ (And.intro @zqI (And.intro @cs_rg (And.intro @cs_mk (And.intro @cs_ch (And.intro @cs_sy (And.intro @cs_sea (And.intro @cs_ba (And.intro @zci (And.intro @zdD (And.intro @zj7 (And.intro @zmm (And.intro @zml (And.intro @dep_rg (And.intro @dep_mk (And.intro @dep_ch (And.intro @zsg (And.intro @zfA (And.intro @dep_ba (And.intro @zmp (And.intro @zso (And.intro @zsn (And.intro @zn8 (And.intro @bel_int (And.intro @zoa (And.intro @zsl (And.intro @zsm (And.intro @zq0 (And.intro @zq1 (And.intro @bel_mp (And.intro @zqY (And.intro @bel_agg (And.intro @bel_tup (And.intro @zqZ (And.intro @zsk (And.intro @bel_mpr (And.intro @bel_fn (And.intro @zlx (And.intro @zkh (And.intro @zkg (And.intro @zki (And.intro @zly (And.intro @zbk (And.intro @zc3 (And.intro @zdh (And.intro @zbB (And.intro @zdb (And.intro @zh1 (And.intro @zcv (And.intro @bel_vec (And.intro @bel_vp (And.intro @zob (And.intro @zsp (And.intro @bel_bools (And.intro @zuI @zuH))))))))))))))))))))))))))))))))))))))))))))))))))))))))))
attribute [go_sem] enc_ba cs_ba dec_ba dcs_ba dep_ba sz_ba eta_ba enc_ch cs_ch dec_ch dcs_ch dep_ch sz_ch eta_ch enc_sy cs_sy dec_sy dcs_sy zsg sz_sy eta_sy enc_sea cs_sea dec_sea dcs_sea zfA sz_sea eta_sea enc_yd dec_yd eta_yd eta_yd' zde zke znS zbc za1 zaX zbb zbn zbd zbl take_ba zpI zdropB
end Go.Fs
namespace Go.Fs
def zlB (W:Nat → Bool) (r h:Nat):Bool:=(List.range r).all fun k => W (h - k)
def zeK (W:Nat → Bool) (r:Nat):Nat → Option Nat
 | 0 => none
 | k + 1 => match zeK W r k with
  | some h => some h
  | none => if decide (r ≤ k + 1) && zlB W r k then some k else none
def zhg (W:Nat → Bool) (r n:Nat):Nat:=(zeK W r n).getD n
theorem zf7 {W:Nat → Bool} {r:Nat}:∀ {k h:Nat},zeK W r k = some h → h < k
 | 0,h,e => by cases e
 | k + 1,h,e => by
  unfold zeK at e
  cases c:zeK W r k with
  | some h' =>
   rw [c] at e
   have:=zf7 c
   cases e; omega
  | none =>
   rw [c] at e
   simp only at e
   split at e
   ·cases e; omega
   ·cases e
theorem zm4 {W:Nat → Bool} {r k h:Nat} (e:zeK W r k = some h):∀ m,zeK W r (k + m) = some h
 | 0 => e
 | m + 1 => by
  show zeK W r (k + m + 1) = some h
  unfold zeK
  rw [zm4 e m]
theorem zgA {W:Nat → Bool} {r k n h:Nat} (hk:k ≤ n) (e:zeK W r k = some h):zeK W r n = some h:=by
 have:=zm4 e (n - k)
 rwa [show k + (n - k) = n by omega] at this
theorem zjA {W:Nat → Bool} {r:Nat}:∀ k,k < r → zeK W r k = none
 | 0,_ => rfl
 | k + 1,h => by
  unfold zeK
  rw [zjA k (by omega),if_neg]
  simp; omega
theorem zm5 {W:Nat → Bool} {r k n h:Nat} (e:zeK W r n = some h) (hk:h < k) (hkn:k ≤ n):zeK W r k = some h:=by
 cases c:zeK W r k with
 | some h' => rw [zgA hkn c] at e; exact e
 | none =>
  exfalso
  have key:∀ m,zeK W r (k + m) = some h → False:=by
   intro m
   induction m with
   | zero => intro q; rw [Nat.add_zero,c] at q; cases q
   | succ m ih =>
    intro q
    rw [← Nat.add_assoc] at q
    unfold zeK at q
    cases c2:zeK W r (k + m) with
    | some h2 => rw [c2] at q; cases q; exact ih c2
    | none =>
     rw [c2] at q
     simp only at q
     split at q
     ·cases q; omega
     ·cases q
  have:=key (n - k)
  rw [show k + (n - k) = n by omega] at this
  exact this e
theorem rotR_le (W:Nat → Bool) (r n:Nat):zhg W r n ≤ n:=by
 unfold zhg
 cases c:zeK W r n with
 | none => exact czf _
 | some h => have:=zf7 c; simp; omega
def zjw (W:Nat → Bool):Nat → Nat
 | 0 => 0
 | k + 1 => if W k then zjw W k + 1 else 0
theorem runW_le (W:Nat → Bool):∀ k,zjw W k ≤ k
 | 0 => czf _
 | k + 1 => by
  unfold zjw
  have:=runW_le W k
  split <;> omega
theorem zi5 (W:Nat → Bool):∀ (r k:Nat),1 ≤ r → (r ≤ zjw W (k + 1) ↔ r ≤ k + 1 ∧ zlB W r k = true)
 | 0,k,h => by omega
 | 1,k,_ => by
  unfold zjw
  cases c:W k
  ·simp [zlB,c]
  ·simp [zlB,c]
 | r + 2,0,_ => by
  unfold zjw zjw
  split <;> omega
 | r + 2,k + 1,_ => by
  have ih:=zi5 W (r + 1) k (by omega)
  have e:zlB W (r + 2) (k + 1) = (W (k + 1) && zlB W (r + 1) k):=by
   unfold zlB
   rw [List.range_succ_eq_map,List.all_cons,List.all_map]
   congr 1
   have:(fun k_1 => W (k + 1 - k_1)) ∘ Nat.succ = fun j => W (k - j):=by
    funext j
    show W (k + 1 - (j + 1)) = W (k - j)
    congr 1
    omega
   rw [this]
  rw [e]
  show r + 2 ≤ (if W (k + 1) then zjw W (k + 1) + 1 else 0) ↔ _
  cases c:W (k + 1)
  ·simp
  ·simp only [if_true,Bool.true_and]
   rw [show r + 2 ≤ zjw W (k + 1) + 1 ↔ r + 1 ≤ zjw W (k + 1) by omega,ih]
   constructor
   ·rintro ⟨h1,h2⟩; exact ⟨by omega,h2⟩
   ·rintro ⟨h1,h2⟩; exact ⟨by omega,h2⟩
def zpO (W:Nat → Bool) (r:Int) (n:Nat):Nat → Int
 | 0 => n
 | k + 1 => if W k && decide ((zjw W (k + 1):Int) = r) then min (zpO W r n k) k else zpO W r n k
theorem zpN {W:Nat → Bool} {r n:Nat} (hr:1 ≤ r):∀ k,k ≤ n → zpO W r n k = (((zeK W r k).getD n:Nat):Int)
 | 0,_ => rfl
 | k + 1,hk => by
  have ih:=zpN (W:=W) (n:=n) hr k (by omega)
  unfold zpO zeK
  rw [ih]
  cases c:zeK W r k with
  | some h =>
   have:=zf7 c
   simp only [Option.getD_some]
   split <;> omega
  | none =>
   simp only [Option.getD_none]
   have hi:=zi5 W r k hr
   have hlt:k = 0 ∨ zjw W k < r:=by
    by_cases q:zjw W k < r
    ·exact .inr q
    ·left
     cases k with
     | zero => rfl
     | succ k =>
      exfalso
      obtain ⟨h1,h2⟩:=(zi5 W r k hr).1 (by omega)
      unfold zeK at c
      cases c2:zeK W r k with
      | some h => rw [c2] at c; cases c
      | none => rw [c2] at c; simp [h1,h2] at c
   by_cases q:decide (r ≤ k + 1) && zlB W r k
   ·rw [if_pos q]
    have q':=q
    simp only [czl,decide_eq_true_eq] at q'
    have h1:=hi.2 q'
    have h2:W k = true ∧ zjw W (k + 1) = r:=by
     unfold zjw at h1 ⊢
     cases c3:W k
     ·rw [c3] at h1; simp at h1; omega
     ·rw [c3] at h1
      simp only [if_true] at h1 ⊢
      refine ⟨trivial,?_⟩
      rcases hlt with rfl | h
      ·simp [zjw] at h1 ⊢; omega
      ·omega
    rw [h2.1,h2.2]
    simp; omega
   ·rw [if_neg q,if_neg]
    ·rfl
    ·intro h
     simp only [czl,decide_eq_true_eq] at h
     apply q
     simp only [czl,decide_eq_true_eq]
     exact hi.1 (by omega)
def zed (W:Nat → Bool):Nat → Int
 | 0 => -1
 | k + 1 => if W k then k else zed W k
theorem zmc (W:Nat → Bool):∀ k,-1 ≤ zed W k ∧ zed W k < k
 | 0 => by simp [zed]
 | k + 1 => by
  unfold zed
  have:=zmc W k
  split <;> omega
def zn1 (W:Nat → Bool) (rot:Nat) (hours:Int) (h:Nat):Bool:=!W h && (decide (h < rot) && (decide (zed W h < 0) || decide (hours < h - zed W h)))
def znX (W:Nat → Bool) (n:Nat):Int:=(((List.range n).filter W).length:Nat)
def zgf (W:Nat → Bool) (rot:Nat) (hours:Int) (n:Nat):List Int:=((List.range n).filter (zn1 W rot hours)).map fun h:Nat => (h:Int)
theorem zj9 (W:Nat → Bool) (n:Nat):znX W (n + 1) = if W n then znX W n + 1 else znX W n:=by
 unfold znX
 rw [List.range_succ,List.filter_append,czc]
 cases c:W n <;> simp [c]
theorem cntW_bd (W:Nat → Bool) (n:Nat):0 ≤ znX W n ∧ znX W n ≤ n:=by
 unfold znX
 have:=List.length_filter_le W (List.range n)
 simp at this
 omega
theorem zug (W:Nat → Bool) (rot:Nat) (hours:Int) (n:Nat):zgf W rot hours (n + 1) = if zn1 W rot hours n then zgf W rot hours n ++ [(n:Int)] else zgf W rot hours n:=by
 unfold zgf
 rw [List.range_succ,List.filter_append,List.map_append]
 cases c:zn1 W rot hours n <;> simp [c]
theorem zj1 (W:Nat → Bool) (rot:Nat) (hours:Int) (n:Nat):(zgf W rot hours n).length ≤ n:=by
 unfold zgf
 have:=List.length_filter_le (zn1 W rot hours) (List.range n)
 simp at this ⊢
 omega
theorem zjN {W:Nat → Bool} {rot:Nat} {hours:Int} {n:Nat} {x:Int}:x ∈ zgf W rot hours n ↔ ∃ h:Nat,h < n ∧ zn1 W rot hours h = true ∧ x = h:=by
 unfold zgf
 simp only [czx,List.mem_filter,List.mem_range]
 constructor
 ·rintro ⟨h,⟨h1,h2⟩,rfl⟩; exact ⟨h,h1,h2,rfl⟩
 ·rintro ⟨h,h1,h2,rfl⟩; exact ⟨h,⟨h1,h2⟩,rfl⟩
theorem zkH {W:Nat → Bool} {rot:Nat} {hours:Int} {n:Nat} {h:Nat} (hh:h < n):(zgf W rot hours n).contains (h:Int) = zn1 W rot hours h:=by
 rw [Bool.eq_iff_iff]
 simp only [List.contains_eq_mem,decide_eq_true_eq]
 rw [zjN]
 constructor
 ·rintro ⟨k,_,h2,e⟩
  rwa [show h = k by omega]
 ·intro q; exact ⟨h,hh,q,rfl⟩
def syW (W:Nat → Bool) (c:Ch) (n:Nat):Sy:=⟨znX W n,(zhg W c.rot.toNat n:Nat),zgf W (zhg W c.rot.toNat n) c.hours n⟩
theorem rotP_last {W:Nat → Bool} {r n k:Nat} (hr:1 ≤ r) (hk:k < n) (hw:W k = false):decide ((k:Int) < zpO W r n k) = decide (k < zhg W r n):=by
 rw [zpN hr k (by omega)]
 unfold zhg
 cases c:zeK W r n with
 | some h =>
  have hh:=zf7 c
  by_cases q:h < k
  ·rw [zm5 c q (by omega)]
   simp
  ·have hne:h ≠ k:=by
    rintro rfl
    have:=zm5 c (k:=h + 1) (by omega) (by omega)
    unfold zeK at this
    cases c2:zeK W r h with
    | some h2 =>
     rw [c2] at this
     have:=zf7 c2
     simp_all
    | none =>
     rw [c2] at this
     simp only at this
     split at this
     ·rename_i q2
      simp only [czl,decide_eq_true_eq] at q2
      have h3:=(zi5 W r h hr).2 q2
      unfold zjw at h3
      rw [hw] at h3
      simp at h3
      omega
     ·cases this
   have hn:zeK W r k = none:=by
    cases c2:zeK W r k with
    | none => rfl
    | some h2 =>
     have h3:=zf7 c2
     have:=zgA (n:=n) (by omega) c2
     rw [c] at this
     cases this
     omega
   rw [hn]
   simp; omega
 | none =>
  have hn:zeK W r k = none:=by
   cases c2:zeK W r k with
   | none => rfl
   | some h2 => rw [zgA (by omega) c2] at c; cases c
  rw [hn]
  simp
theorem zmP {W V:Nat → Bool} {c:Ch} {n:Nat} (h:∀ k,k < n → W k = V k):syW W c n = syW V c n:=by
 have hall:∀ r k,k < n → zlB W r k = zlB V r k:=fun r k hk => by
  unfold zlB
  congr 1
  funext j
  exact h _ (by omega)
 have hrot:∀ r k,k ≤ n → zeK W r k = zeK V r k:=fun r k => by
  induction k with
  | zero => intro _; rfl
  | succ k ih =>
   intro hk
   unfold zeK
   rw [ih (by omega),hall r k (by omega)]
 have hlast:∀ k,k ≤ n → zed W k = zed V k:=fun k => by
  induction k with
  | zero => intro _; rfl
  | succ k ih =>
   intro hk
   unfold zed
   rw [ih (by omega),h k (by omega)]
 have hR:zhg W c.rot.toNat n = zhg V c.rot.toNat n:=by unfold zhg; rw [hrot _ _ (czf _)]
 have hc:znX W n = znX V n:=by
  unfold znX
  congr 2
  apply List.filter_congr
  intro k hk
  exact h k (by simpa using hk)
 have hf:zgf W (zhg V c.rot.toNat n) c.hours n = zgf V (zhg V c.rot.toNat n) c.hours n:=by
  unfold zgf
  congr 1
  apply List.filter_congr
  intro k hk
  have hk':k < n:=by simpa using hk
  unfold zn1
  rw [h k hk',hlast k (by omega)]
 unfold syW
 rw [hR,hc,hf]
end Go.Fs
namespace Go.Proofs
open Go.Fs
set_option maxHeartbeats 4000000
structure PS (n0:Nat) (P:(Nat → Prop) → Prop) (al:List Int) (q:List Int → Bool):Prop where
 mono:∀ S T:Nat → Prop,(∀ k,k < n0 → T k → S k) → P S → P T
 none:∀ S:Nat → Prop,(∀ k,k < n0 → ¬ S k) → P S
 can:∀ m:Nat,m < 2 ^ n0 → (canB al (m:Int) = true ↔ P (fun k => m.testBit k = true))
 cast:∀ l:List Nat,q (zch l) = true ↔ P (fun k => k ∉ l)
structure LeastG (n0:Nat) (P:(Nat → Prop) → Prop) (l:List Nat):Prop where
 inc:Inc 0 n0 l
 poss:P (fun k => k ∉ l)
 least:∀ l',Inc 0 n0 l' → P (fun k => k ∉ l') → zcN (zch l') (zch l) = false
theorem LeastG.eq {n0:Nat} {P:(Nat → Prop) → Prop} {a b:List Nat} (h1:LeastG n0 P a) (h2:LeastG n0 P b):a = b :=
 zkb (zhp (h2.least a h1.inc h1.poss) (h1.least b h2.inc h2.poss))
theorem can_bitsG {n0:Nat} {P:(Nat → Prop) → Prop} {al:List Int} {q:List Int → Bool} (hv:PS n0 P al q) {b:Nat} (hb:b < 2 ^ n0):canB al (((2 ^ n0 - 1) - ((2 ^ n0 - 1) &&& b):Nat):Int) = true ↔ P (fun k => k ∉ zeB b n0):=by
 rw [hv.can _ (by have:=Nat.two_pow_pos n0; omega)]
 have key:∀ k,k < n0 → (((2 ^ n0 - 1) - ((2 ^ n0 - 1) &&& b)).testBit k = true ↔ k ∉ zeB b n0):=by
  intro k hk
  rw [zmQ rfl hb]
  unfold zeB
  rw [List.mem_filter,List.mem_range]
  simp [hk]
 exact ⟨fun h => hv.mono _ _ (fun k hk hS => (key k hk).2 hS) h,fun h => hv.mono _ _ (fun k hk hS => (key k hk).1 hS) h⟩
theorem zhM {n0:Nat} {P:(Nat → Prop) → Prop} {al:List Int} {q:List Int → Bool} (hv:PS n0 P al q):∀ n,n ≤ 2 ^ n0 → ∃ l,zhN al (2 ^ n0 - 1) n = zch l ∧ Inc 0 n0 l ∧ P (fun k => k ∉ l) ∧
  ∀ b,b < n → P (fun k => k ∉ zeB b n0) → zcN (zch (zeB b n0)) (zch l) = false
 | 0,_ => by
  have h2:=Nat.two_pow_pos n0
  refine ⟨zeB (2 ^ n0 - 1) n0,by rw [zhN,zlv (n:=n0) (by omega)],zk6 _ _,hv.none _ fun k hk => ?_,fun b hb => by omega⟩
  intro q
  apply q
  unfold zeB
  rw [List.mem_filter,List.mem_range,zga]
  simpa using hk
 | n + 1,hn => by
  obtain ⟨l,h1,h2,h3,h4⟩:=zhM hv n (by omega)
  have hb:n < 2 ^ n0:=by omega
  have hc:=can_bitsG hv hb
  rw [zhN,h1,zlv hb]
  cases c1:zcN (zch (zeB n n0)) (zch l)
  ·refine ⟨l,by rw [Bool.false_and,if_neg (by simp)],h2,h3,fun b hb hP => ?_⟩
   by_cases e:b = n
   ·subst e; exact c1
   ·exact h4 b (by omega) hP
  ·cases c2:canB al (((2 ^ n0 - 1) - ((2 ^ n0 - 1) &&& n):Nat):Int)
   ·refine ⟨l,by rw [Bool.true_and,if_neg (by simp)],h2,h3,fun b hb hP => ?_⟩
    by_cases e:b = n
    ·subst e
     rw [hc.2 hP] at c2; cases c2
    ·exact h4 b (by omega) hP
   ·refine ⟨zeB n n0,by rw [Bool.true_and,if_pos rfl],zk6 _ _,hc.1 c2,fun b hb hP => ?_⟩
    by_cases e:b = n
    ·subst e; exact zkA _
    ·rw [Bool.eq_false_iff]
     intro q
     have:=h4 b (by omega) hP
     rw [zlN q c1] at this
     cases this
theorem zma {n0:Nat} {P:(Nat → Prop) → Prop} {al:List Int} {q:List Int → Bool} (hv:PS n0 P al q):∃ l,zhN al (2 ^ n0 - 1) (2 ^ n0) = zch l ∧ LeastG n0 P l:=by
 obtain ⟨l,h1,h2,h3,h4⟩:=zhM hv _ (czf _)
 refine ⟨l,h1,h2,h3,fun l' hi hP => ?_⟩
 have:=h4 (zjp l') (toBits_lt fun x hx => (hi.mem x hx).2)
 rw [zl1 hi] at this
 exact this hP
/-! The program's search. -/
def zcQ (q:List Int → Bool) (n0:Nat):Nat → List Nat → Nat → Option (List Nat)
 | 0,out,_ => if q (zch out) then some out else none
 | m + 1,out,frm => (List.range (n0 - m - frm)).findSome? fun k => zcQ q n0 m (out ++ [frm + k]) (frm + k + 1)
theorem ziA {n0:Nat} {P:(Nat → Prop) → Prop} {al:List Int} {q:List Int → Bool} (hv:PS n0 P al q):∀ (m:Nat) (out:List Nat) (frm:Nat),
  (∀ x,zcQ q n0 m out frm = some x → ∃ y,x = out ++ y ∧ Inc frm n0 y ∧ y.length = m ∧ q (zch x) = true ∧
   ∀ z,Inc frm n0 z → z.length = m → q (zch (out ++ z)) = true → zb1 (zch z) (zch y) = false) ∧
  (zcQ q n0 m out frm = none → ∀ z,Inc frm n0 z → z.length = m → q (zch (out ++ z)) = false)
 | 0,out,frm => by
  unfold zcQ
  constructor
  ·intro x hx
   split at hx
   ·rename_i c
    cases hx
    refine ⟨[],by simp,trivial,rfl,c,fun z _ hz _ => ?_⟩
    rw [List.length_eq_zero_iff] at hz
    subst hz; rfl
   ·cases hx
  ·intro hx z _ hz
   rw [List.length_eq_zero_iff] at hz
   subst hz
   rw [List.append_nil]
   split at hx
   ·cases hx
   ·rename_i c; simpa using c
 | m + 1,out,frm => by
  have ih:=fun k => ziA hv m (out ++ [frm + k]) (frm + k + 1)
  have hz1:∀ z,Inc frm n0 z → z.length = m + 1 → ∃ a r,z = a :: r ∧ frm ≤ a ∧ a - frm < n0 - m - frm ∧ Inc (a + 1) n0 r ∧ r.length = m:=by
   intro z hz hl
   cases z with
   | nil => simp at hl
   | cons a r =>
    have hr:r.length = m:=by simpa using hl
    have h1:=hz.1
    refine ⟨a,r,rfl,h1.1,?_,hz.2,hr⟩
    by_cases e:r = []
    ·subst e; simp at hr; omega
    ·have:=hz.2.len e; omega
  unfold zcQ
  constructor
  ·intro x hx
   rw [List.findSome?_eq_some_iff] at hx
   obtain ⟨l1,k,l2,hl,hk,hno⟩:=hx
   have hkk:l1 = List.range k ∧ k < n0 - m - frm:=by
    have h1:=congrArg List.length hl
    simp at h1
    have h3:=congrArg (fun l => l[l1.length]?) hl
    simp at h3
    rw [List.getElem?_range (by omega)] at h3
    have h4:l1.length = k:=by simpa using h3
    have h5:=congrArg (List.take l1.length) hl
    rw [List.take_left,List.take_range] at h5
    refine ⟨?_,by omega⟩
    rw [← h5]
    congr 1
    omega
   obtain ⟨y,h1,h2,h3,h4,h5⟩:=(ih k).1 x hk
   refine ⟨(frm + k) :: y,by rw [h1]; simp,⟨⟨by omega,by omega⟩,h2⟩,by simp [h3],h4,fun z hz hl hp => ?_⟩
   obtain ⟨a,r,rfl,g1,g2,g3,g4⟩:=hz1 z hz hl
   by_cases c:a - frm < k
   ·have:=(ih (a - frm)).2 (hno (a - frm) (by rw [hkk.1]; simpa using c)) r (by rw [show frm + (a - frm) + 1 = a + 1 by omega]; exact g3) g4
    rw [show frm + (a - frm) = a by omega,czd] at this
    rw [show out ++ a :: r = out ++ ([a] ++ r) from rfl,this] at hp
    cases hp
   ·show zb1 ((a:Int) :: zch r) (((frm + k:Nat):Int) :: zch y) = false
    unfold zb1
    by_cases e:a = frm + k
    ·subst e
     rw [if_pos rfl]
     refine h5 r g3 g4 ?_
     rw [czd]; exact hp
    ·rw [if_neg (by omega)]
     simp; omega
  ·intro hx z hz hl
   rw [List.findSome?_eq_none_iff] at hx
   obtain ⟨a,r,rfl,g1,g2,g3,g4⟩:=hz1 z hz hl
   have:=(ih (a - frm)).2 (hx (a - frm) (by simpa using g2)) r (by rw [show frm + (a - frm) + 1 = a + 1 by omega]; exact g3) g4
   rw [show frm + (a - frm) = a by omega,czd] at this
   exact this
def zg6 (q:List Int → Bool) (n0:Nat):Nat → Nat → Option (List Nat)
 | 0,_ => none
 | f + 1,m => match zcQ q n0 m [] 0 with
  | some x => some x
  | none => zg6 q n0 f (m + 1)
theorem zhL {n0:Nat} {P:(Nat → Prop) → Prop} {al:List Int} {q:List Int → Bool} (hv:PS n0 P al q):∀ (f m:Nat),m + f = n0 + 1 → (∀ z,Inc 0 n0 z → z.length < m → ¬ P (fun k => k ∉ z)) → ∃ x,zg6 q n0 f m = some x ∧ LeastG n0 P x
 | 0,m,hf,hno => by
  exfalso
  refine hno (List.range n0) (inc_of List.pairwise_lt_range fun x hx => by rw [List.mem_range] at hx; omega) (by simp; omega) (hv.none _ fun k hk q => q (by simpa using hk))
 | f + 1,m,hf,hno => by
  obtain ⟨h1,h2⟩:=ziA hv m [] 0
  unfold zg6
  cases c:zcQ q n0 m [] 0 with
  | some x =>
   obtain ⟨y,e,g1,g2,g3,g4⟩:=h1 x c
   rw [List.nil_append] at e
   subst e
   refine ⟨x,rfl,g1,(hv.cast x).1 g3,fun z hz hP => ?_⟩
   rw [Bool.eq_false_iff]
   intro q
   rw [zfq] at q
   have hl:∀ l:List Nat,(zch l).length = l.length:=fun l => by simp [zch]
   rw [hl,hl] at q
   rcases q with q | ⟨q,q2⟩
   ·exact hno z hz (by omega) hP
   ·have:=g4 z hz (by omega) ((hv.cast _).2 hP)
    rw [this] at q2; cases q2
  | none =>
   refine zhL hv f (m + 1) (by omega) fun z hz hl hP => ?_
   by_cases e:z.length = m
   ·have:=h2 c z hz e
    rw [List.nil_append,(hv.cast z).2 hP] at this
    cases this
   ·exact hno z hz (by omega) hP
theorem zt3 {n0:Nat} {P:(Nat → Prop) → Prop} {al:List Int} {q:List Int → Bool} (hv:PS n0 P al q):∃ x,zg6 q n0 (n0 + 1) 0 = some x ∧ zhN al (2 ^ n0 - 1) (2 ^ n0) = zch x ∧ LeastG n0 P x:=by
 obtain ⟨x,h1,h2⟩:=zhL hv (n0 + 1) 0 (by omega) (fun z _ h => by omega)
 obtain ⟨l,g1,g2⟩:=zma hv
 have e:=h2.eq g2
 subst e
 exact ⟨x,h1,g1,g2⟩
theorem snoc_ind {α:Type} {P:List α → Prop} (h0:P []) (h1:∀ l x,P l → P (l ++ [x])):∀ l,P l:=by
 have key:∀ (n:Nat) (l:List α),l.length = n → P l:=by
  intro n
  induction n with
  | zero => intro l hl; rw [List.length_eq_zero_iff] at hl; rw [hl]; exact h0
  | succ n ih =>
   intro l hl
   have hne:l ≠ []:=by intro e; rw [e] at hl; simp at hl
   rw [← List.dropLast_concat_getLast hne]
   exact h1 _ _ (ih _ (by simp [hl]))
 exact fun l => key _ l rfl
def hrs (y:Yd):Nat:=(y.t.last + 1).toNat
def inY (hands:Int) (order:List Int) (c:Int) (h:Nat):Bool:=(order.take (hands * ((h:Int) + 1)).toNat).contains c
def lvY (y:Yd) (c:Int):Int:=at_ y.t.levels (at_ y.chairs c.toNat).row.toNat
def zph (y:Yd) (order hs:List Int) (c:Int) (h:Nat):Bool:=decide (lvY y c < at_ hs h) && !inY y.hands order c h
def zvl (y:Yd) (order hs:List Int) (c:Int):Nat:=zhg (zph y order hs c) (at_ y.chairs c.toNat).rot.toNat (hrs y)
def canY (y:Yd) (order hs:List Int) (c:Int) (h:Nat):Bool:=zn1 (zph y order hs c) (zvl y order hs c) (at_ y.chairs c.toNat).hours h
def zek (y:Yd) (order hs:List Int) (c:Int):Sy:=syW (zph y order hs c) (at_ y.chairs c.toNat) (hrs y)
theorem zk2 (y:Yd) (order hs:List Int) (c:Int):(zek y order hs c).free = zgf (zph y order hs c) (zvl y order hs c) (at_ y.chairs c.toNat).hours (hrs y):=rfl
def za2 (n:Nat) (l:List Int):Bool:=(List.range l.length).all fun i => inB (at_ l i) 0 ((n:Int) - 1) && !(l.take i).contains (at_ l i)
theorem zq4 {α:Type} [Inhabited α] {a b:List α} {i:Nat} (h:i < a.length):at_ (a ++ b) i = at_ a i:=by
 simp [at_,List.getD,czi h]
theorem zuK {α:Type} [Inhabited α] (a:List α) (x:α):at_ (a ++ [x]) a.length = x:=by simp [at_,List.getD]
theorem ziC (n:Nat) (l:List Int) (x:Int):za2 n (l ++ [x]) = (za2 n l && (inB x 0 ((n:Int) - 1) && !l.contains x)):=by
 unfold za2
 rw [czc,cza,czy,Nat.zero_add,List.range_succ,List.all_append]
 congr 1
 ·apply zdA
  intro i hi
  have hi':i < l.length:=by simpa using hi
  rw [zq4 hi',List.take_append_of_le_length (by omega)]
 ·simp only [List.all_cons,List.all_nil,Bool.and_true]
  rw [zuK,List.take_left']
  rfl
theorem zg7 (n:Nat):∀ l:List Int,za2 n l = true ↔ (∀ x ∈ l,0 ≤ x ∧ x < n) ∧ l.Nodup:=by
 apply snoc_ind
 ·simp [za2]
 ·intro l x ih
  rw [ziC,czl,ih,czl,zbL]
  rw [List.nodup_append]
  simp only [czv,czC,Bool.not_eq_true',List.contains_eq_mem,decide_eq_false_iff_not]
  constructor
  ·rintro ⟨⟨h1,h2⟩,h3,h4⟩
   refine ⟨?_,h2,by simp,?_⟩
   ·rintro y (h | rfl)
    ·exact h1 y h
    ·omega
   ·rintro a ha b rfl e
    subst e
    exact h4 ha
  ·rintro ⟨h1,h2,_,h4⟩
   refine ⟨⟨fun y hy => h1 y (.inl hy),h2⟩,?_,?_⟩
   ·have:=h1 x (.inr rfl); omega
   ·intro hx; exact h4 x hx x rfl rfl
theorem znC {n:Nat} {l:List Int} (h:za2 n l = true) (k:Nat):za2 n (l.take k) = true:=by
 rw [zg7] at h ⊢
 exact ⟨fun x hx => h.1 x (List.mem_of_mem_take hx),h.2.sublist (List.take_sublist _ _)⟩
theorem zjJ:∀ (n:Nat) (l:List Int),(∀ x ∈ l,0 ≤ x ∧ x < (n:Int)) → l.Nodup → l.length ≤ n
 | 0,l,h,_ => by
  cases l with
  | nil => exact czf _
  | cons x r => have:=h x (by simp); omega
 | n + 1,l,h,hd => by
  have h1:=zjJ n (l.erase (n:Int)) (fun x hx => by
   have hx':=List.mem_of_mem_erase hx
   have:=h x hx'
   have hne:x ≠ (n:Int):=by
    rintro rfl
    exact absurd hx (hd.not_mem_erase)
   omega) (hd.erase _)
  have h2:l.length ≤ (l.erase (n:Int)).length + 1:=by
   rw [List.length_erase]
   split <;> omega
  omega
theorem zgc {n:Nat} {l:List Int} (h:za2 n l = true):l.length ≤ n:=by
 rw [zg7] at h
 exact zjJ n l h.1 h.2
structure VY (y:Yd):Prop where
 c5:y.chairs.length ≤ 5
 r5:y.hires.length ≤ 5
 f:zbo y.t = 0
 tr:zaR y.t ≠ []
 h0:0 ≤ y.hands
 h5:y.hands ≤ 5
 ord:za2 y.chairs.length y.order = true
 ch:∀ c ∈ y.chairs,(0 ≤ c.row ∧ c.row < y.t.levels.length) ∧ (0 ≤ c.hours ∧ c.hours ≤ 5) ∧ 1 ≤ c.rot ∧ c.rot ≤ 9
 hi:∀ h ∈ y.hires,(0 ≤ h.lo ∧ h.lo < y.chairs.length) ∧ 0 ≤ h.hi ∧ h.hi ≤ y.t.last
def zdg (t:Tb) (c:Ch):Bool:=inB c.row 0 ((t.levels.length:Int) - 1) && inB c.hours 0 5 && inB c.rot 1 9
def zeM (n:Nat) (last:Int) (h:Rg):Bool:=inB h.lo 0 ((n:Int) - 1) && inB h.hi 0 last
def zbQ (y:Yd):Int :=
 if 5 < y.chairs.length ∨ 5 < y.hires.length then 3
 else if zbo y.t ≠ 0 then zbo y.t
 else if zaR y.t = [] then 11
 else if (inB y.hands 0 5 && za2 y.chairs.length y.order) = false then 1
 else if y.chairs.all (zdg y.t) = false then 1
 else if y.hires.all (zeM y.chairs.length y.t.last) = false then 1
 else 0
theorem zjh {y:Yd} (h:zbQ y = 0):VY y:=by
 unfold zbQ at h
 split at h
 ·cases h
 rename_i g1
 split at h
 ·exact absurd h ‹_›
 rename_i g2
 split at h
 ·cases h
 rename_i g3
 split at h
 ·cases h
 rename_i g4
 split at h
 ·cases h
 rename_i g5
 split at h
 ·cases h
 rename_i g6
 simp only [Bool.not_eq_false,czl,zbL,czG,zdg,zeM,ne_eq,Decidable.not_not] at g2 g4 g5 g6
 refine ⟨by omega,by omega,g2,g3,g4.1.1,g4.1.2,g4.2,fun c hc => ?_,fun h hh => ?_⟩
 ·have:=g5 c hc; omega
 ·have:=g6 h hh; omega
theorem VY.fault {y:Yd} (h:VY y):zbQ y = 0:=by
 have h1:=h.c5
 have h2:=h.r5
 unfold zbQ
 rw [if_neg (by omega),if_neg (by simp [h.f]),if_neg h.tr,if_neg,if_neg,if_neg]
 ·simp only [Bool.not_eq_false,czG,zeM,czl,zbL]
  intro x hx
  have:=h.hi x hx
  omega
 ·simp only [Bool.not_eq_false,czG,zdg,czl,zbL]
  intro x hx
  have:=h.ch x hx
  omega
 ·simp only [Bool.not_eq_false,czl,zbL]
  exact ⟨⟨h.h0,h.h5⟩,h.ord⟩
theorem VY.fok {y:Yd} (h:VY y):FOk y.t:=fok_of h.f
theorem VY.l0 {y:Yd} (h:VY y):0 ≤ y.t.last ∧ y.t.last ≤ 9:=⟨h.fok.l0,h.fok.l9⟩
theorem VY.hrs {y:Yd} (h:VY y):((hrs y:Nat):Int) = y.t.last + 1 ∧ 1 ≤ hrs y ∧ hrs y ≤ 10:=by
 have:=h.l0
 unfold Go.Proofs.hrs
 omega
theorem VY.at {y:Yd} (h:VY y) {c:Int} (h0:0 ≤ c) (h1:c < y.chairs.length):c.toNat < y.chairs.length ∧ (0 ≤ (at_ y.chairs c.toNat).row ∧ (at_ y.chairs c.toNat).row < y.t.levels.length) ∧
  (0 ≤ (at_ y.chairs c.toNat).hours ∧ (at_ y.chairs c.toNat).hours ≤ 5) ∧ 1 ≤ (at_ y.chairs c.toNat).rot ∧ (at_ y.chairs c.toNat).rot ≤ 9:=by
 have hc:c.toNat < y.chairs.length:=by omega
 exact ⟨hc,h.ch _ (zbs hc)⟩
/-! Hires. -/
def rbp (p:Nat → Bool):Nat → Nat
 | 0 => 0
 | n + 1 => if p n then rbp p n ||| 2 ^ n else rbp p n
theorem zg0 (p:Nat → Bool):∀ n k,(rbp p n).testBit k = (decide (k < n) && p k)
 | 0,k => by simp [rbp]
 | n + 1,k => by
  have ih:=zg0 p n k
  unfold rbp
  by_cases e:k = n
  ·subst e
   cases c:p k
   ·simp only [czp,if_false,ih]; simp
   ·simp [Nat.testBit_or,ih,Nat.testBit_two_pow]
  ·have e1:decide (k < n + 1) = decide (k < n):=by simp; omega
   rw [e1]
   split
   ·rw [Nat.testBit_or,ih,Nat.testBit_two_pow]
    simp
    intro h; omega
   ·exact ih
def zd5 (y:Yd) (hs:List Int) (k:Nat):Bool:=canY y y.order hs (at_ y.hires k).lo (at_ y.hires k).hi.toNat
def zfs (y:Yd) (hs:List Int):Bool:=(List.range y.hires.length).all (zd5 y hs)
def bitsY (y:Yd) (hs:List Int):Nat:=rbp (zd5 y hs) y.hires.length
def zeX (y:Yd):List (List Int):=(zaR y.t).filter (zfs y)
def allY (y:Yd):List Int:=(zaR y.t).map fun hs => (bitsY y hs:Int)
/-! Verdicts, hours, losses. -/
def zeZ (y:Yd) (order hs:List Int) (n:Nat):Int:=(((List.range n).filter fun c:Nat => decide ((zvl y order hs c:Int) ≤ y.t.last)).length:Nat)
def zeY (y:Yd) (order hs:List Int):Int:=zeZ y order hs y.chairs.length
def lossY (y:Yd) (ls:List (List Int)) (order:List Int):Int:=ls.foldl (fun n hs => max n (zeY y order hs)) 0
theorem zm2 (y:Yd) (order hs:List Int) (n:Nat):zeZ y order hs (n + 1) = if (zvl y order hs n:Int) ≤ y.t.last then zeZ y order hs n + 1 else zeZ y order hs n:=by
 unfold zeZ
 rw [List.range_succ,List.filter_append,czc]
 by_cases c:(zvl y order hs n:Int) ≤ y.t.last <;> simp [c]
theorem ztF (y:Yd) (order hs:List Int) (n:Nat):0 ≤ zeZ y order hs n ∧ zeZ y order hs n ≤ n:=by
 unfold zeZ
 have:=List.length_filter_le (fun c:Nat => decide ((zvl y order hs c:Int) ≤ y.t.last)) (List.range n)
 simp at this
 omega
structure IsLoss (y:Yd) (ls:List (List Int)) (order:List Int) (m:Int):Prop where
 ex:∃ hs ∈ ls,zeY y order hs = m
 le:∀ hs ∈ ls,zeY y order hs ≤ m
theorem IsLoss.eq {y:Yd} {ls ls':List (List Int)} {order:List Int} {m m':Int} (h:IsLoss y ls order m) (h':IsLoss y ls' order m') (h1:∀ hs ∈ ls,∃ hs' ∈ ls',zeY y order hs' = zeY y order hs)
  (h2:∀ hs ∈ ls',∃ hs' ∈ ls,zeY y order hs' = zeY y order hs):m = m':=by
 obtain ⟨a,ha,e⟩:=h.ex
 obtain ⟨b,hb,e'⟩:=h'.ex
 obtain ⟨a',ha',g⟩:=h1 a ha
 obtain ⟨b',hb',g'⟩:=h2 b hb
 have:=h.le b' hb'
 have:=h'.le a' ha'
 omega
/-! Wet in fewer hours. -/
theorem zm6 {W V:Nat → Bool} {r r' n:Nat} (hr:r ≤ r') (h:∀ k,k < n → W k = true → V k = true):∀ k,k ≤ n → ∀ x,zeK W r' k = some x → ∃ z,z ≤ x ∧ zeK V r k = some z
 | 0,_,x,e => by cases e
 | k + 1,hk,x,e => by
  unfold zeK at e ⊢
  cases c:zeK W r' k with
  | some x' =>
   rw [c] at e
   cases e
   obtain ⟨z,h1,h2⟩:=zm6 hr h k (by omega) _ c
   rw [h2]
   exact ⟨z,h1,rfl⟩
  | none =>
   rw [c] at e
   simp only at e
   split at e
   ·rename_i q
    cases e
    simp only [czl,decide_eq_true_eq] at q
    cases c2:zeK V r k with
    | some z => exact ⟨z,by have:=zf7 c2; omega,rfl⟩
    | none =>
     refine ⟨k,czf _,?_⟩
     simp only
     rw [if_pos]
     simp only [czl,decide_eq_true_eq]
     refine ⟨by omega,?_⟩
     have q2:=q.2
     unfold zlB at q2 ⊢
     rw [czG] at q2 ⊢
     intro j hj
     exact h _ (by omega) (q2 j (by simp at hj ⊢; omega))
   ·cases e
theorem rotR_anti {W V:Nat → Bool} {r r' n:Nat} (hr:r ≤ r') (h:∀ k,k < n → W k = true → V k = true):zhg V r n ≤ zhg W r' n:=by
 unfold zhg
 cases c:zeK W r' n with
 | none => exact rotR_le V r n
 | some x =>
  obtain ⟨z,h1,h2⟩:=zm6 hr h n (czf _) x c
  rw [h2]; exact h1
theorem zle {W V:Nat → Bool} {n:Nat} (h:∀ k,k < n → W k = true → V k = true):∀ k,k ≤ n → zed W k ≤ zed V k
 | 0,_ => Int.le_refl _
 | k + 1,hk => by
  have ih:=zle h k (by omega)
  have hb:=zmc W k
  unfold zed
  cases c:W k
  ·simp only [czp,if_false]
   split
   ·omega
   ·exact ih
  ·rw [h k (by omega) c]
   exact Int.le_refl _
theorem canW_mono {W V:Nat → Bool} {rw rv n:Nat} {hw hv:Int} (h:∀ k,k < n → W k = true → V k = true) (hr:rv ≤ rw) (hh:hw ≤ hv) {k:Nat} (hk:k < n) (hc:zn1 V rv hv k = true):zn1 W rw hw k = true:=by
 have hl:=zle h k (by omega)
 unfold zn1 at hc ⊢
 simp only [czl,czI,decide_eq_true_eq,Bool.not_eq_true'] at hc ⊢
 refine ⟨?_,by omega,by omega⟩
 cases c:W k
 ·rfl
 ·rw [h k hk c] at hc; cases hc.1
theorem znW {W V:Nat → Bool}:∀ n,(∀ k,k < n → W k = true → V k = true) → znX W n ≤ znX V n
 | 0,_ => Int.le_refl _
 | n + 1,h => by
  have ih:=znW n (fun k hk => h k (by omega))
  rw [zj9,zj9]
  cases c:W n
  ·simp only [czp,if_false]
   split <;> omega
  ·rw [h n (by omega) c]
   simp only [if_true]
   omega
/-! The least loss. -/
structure MinLoss (y:Yd) (ls:List (List Int)) (b:List Int) (m:Int):Prop where
 ex:∃ x,za2 y.chairs.length (b ++ x) = true ∧ lossY y ls (b ++ x) = m
 le:∀ x,za2 y.chairs.length (b ++ x) = true → m ≤ lossY y ls (b ++ x)
theorem MinLoss.eq {y:Yd} {ls:List (List Int)} {b:List Int} {m m':Int} (h:MinLoss y ls b m) (h':MinLoss y ls b m'):m = m':=by
 obtain ⟨x,h1,h2⟩:=h.ex
 obtain ⟨x',h1',h2'⟩:=h'.ex
 have:=h.le x' h1'
 have:=h'.le x h1
 omega
def leastF (y:Yd) (ls:List (List Int)):Nat → List Int → Int
 | 0,b => lossY y ls b
 | f + 1,b => (List.range y.chairs.length).foldl (fun best (c:Nat) => if (decide (0 < best) && za2 y.chairs.length (b ++ [(c:Int)])) = true then min best (leastF y ls f (b ++ [(c:Int)])) else best) (lossY y ls b)
def leastY (y:Yd) (ls:List (List Int)) (b:List Int):Int:=leastF y ls (y.chairs.length - b.length) b
def permF (n:Nat):Nat → List Int → List (List Int)
 | 0,now => [now]
 | f + 1,now => (List.range n).flatMap fun c:Nat => if now.contains (c:Int) then [] else permF n f (now ++ [(c:Int)])
def tryP (f:List Int → Int) (a:List Int × Int) (p:List Int):List Int × Int:=if f p < a.2 then (p,f p) else a
def zh9 (t:Tb):Nat → List Int → List (List Int)
 | 0,p => if zeQ t p then [p] else []
 | f + 1,p => (List.range (szR (at_ t.heights p.length)).toNat).flatMap fun n:Nat => zh9 t f (p ++ [(at_ t.heights p.length).lo + n])
def zgY (t:Tb) (f:Nat) (p:List Int) (n:Nat):List (List Int):=(List.range n).flatMap fun n:Nat => zh9 t f (p ++ [(at_ t.heights p.length).lo + n])
theorem zh8 (t:Tb) (f:Nat) (p:List Int) (n:Nat):zgY t f p (n + 1) = zgY t f p n ++ zh9 t f (p ++ [(at_ t.heights p.length).lo + n]):=by
 simp only [zgY,List.range_succ,List.flatMap_append,List.flatMap_cons,List.flatMap_nil,List.append_nil]
theorem zf1 (t:Tb) (f:Nat) (p:List Int) (n:Nat):∀ k,∃ r,zgY t f p (n + k) = zgY t f p n ++ r
 | 0 => ⟨[],by simp⟩
 | k + 1 => by
  obtain ⟨r,hr⟩:=zf1 t f p n k
  exact ⟨r ++ _,by rw [← Nat.add_assoc,zh8,hr,czd]⟩
theorem zl4 {t:Tb}:∀ (f:Nat) (b p:List Int),p ∈ zh9 t f b ↔ ∃ x,p = b ++ x ∧ x.length = f ∧ (∀ i,i < f → (at_ t.heights (b.length + i)).lo ≤ at_ x i ∧ at_ x i ≤ (at_ t.heights (b.length + i)).hi) ∧ zeQ t p = true
 | 0,b,p => by
  unfold zh9
  constructor
  ·intro h
   split at h
   ·rename_i c
    simp only [czC] at h
    subst h
    exact ⟨[],by simp,rfl,fun i hi => by omega,c⟩
   ·cases h
  ·rintro ⟨x,rfl,hx,_,hp⟩
   rw [List.length_eq_zero_iff] at hx
   subst hx
   rw [List.append_nil] at hp ⊢
   rw [if_pos hp]
   simp
 | f + 1,b,p => by
  unfold zh9
  simp only [List.mem_flatMap,List.mem_range]
  constructor
  ·rintro ⟨n,hn,hp⟩
   obtain ⟨x,rfl,hx,hb,hpr⟩:=(zl4 f _ p).1 hp
   refine ⟨((at_ t.heights b.length).lo + n) :: x,by simp,by simp [hx],fun i hi => ?_,by simpa using hpr⟩
   cases i with
   | zero =>
    rw [zeU]
    unfold szR at hn
    simp only [Nat.add_zero]
    omega
   | succ i =>
    rw [zcJ]
    have:=hb i (by omega)
    rw [czc,cza,czy,Nat.zero_add,show b.length + 1 + i = b.length + (i + 1) by omega] at this
    exact this
  ·rintro ⟨x,rfl,hx,hb,hp⟩
   cases x with
   | nil => simp at hx
   | cons a r =>
    have h0:=hb 0 (by omega)
    rw [zeU,Nat.add_zero] at h0
    have ea:(at_ t.heights b.length).lo + (((a - (at_ t.heights b.length).lo).toNat:Nat):Int) = a:=by omega
    refine ⟨(a - (at_ t.heights b.length).lo).toNat,by unfold szR; omega,?_⟩
    rw [ea]
    refine (zl4 f _ _).2 ⟨r,by simp,by simpa using hx,fun i hi => ?_,hp⟩
    have:=hb (i + 1) (by omega)
    rw [zcJ] at this
    rw [czc,cza,czy,Nat.zero_add,show b.length + 1 + i = b.length + (i + 1) by omega]
    exact this
def zkY (t:Tb):List (List Int):=zh9 t (t.last + 1).toNat []
theorem prove_ok {t:Tb} (h:zbo t = 0) (p:List Int):zeQ t p = zbY t p:=by unfold zeQ; simp [h]
theorem zr5 {t:Tb} (h:zbo t = 0) (p:List Int):p ∈ zkY t ↔ p ∈ zaR t:=by
 have hf:=fok_of h
 unfold zkY
 rw [zl4,zg3 hf.vok,prove_ok h]
 constructor
 ·rintro ⟨x,_,_,_,hp⟩; exact hp
 ·intro hp
  have hl:za8 t p = true:=by
   unfold zbY at hp
   simp only [czl] at hp
   exact hp.1
  have hL:=(zt0 p).1 hl
  have hlen:=zbR hl
  have:=hf.len
  refine ⟨p,by simp,by omega,fun i hi => ?_,hp⟩
  rw [czy,Nat.zero_add]
  exact hL.rng i (by omega)
theorem zrP {t:Tb} (hok:HOk t):∀ (f:Nat) (p:List Int),p.length + f = t.heights.length → ((zh9 t f p).length:Int) ≤ zcz (t.heights.drop p.length)
 | 0,p,h => by
  rw [czM (by omega)]
  unfold zh9
  split <;> simp [zcz]
 | f + 1,p,h => by
  have hk:p.length < t.heights.length:=by omega
  have hp1:1 ≤ zcz (t.heights.drop (p.length + 1)):=zne fun r hr => (hok.h r (List.mem_of_mem_drop hr)).2.1
  have hr:=hok.h _ (zbs hk)
  have key:∀ n:Nat,((zgY t f p n).length:Int) ≤ n * zcz (t.heights.drop (p.length + 1)):=by
   intro n
   induction n with
   | zero => simp [zgY]
   | succ n ih =>
    rw [zh8,czc]
    have hb:((zh9 t f (p ++ [(at_ t.heights p.length).lo + (n:Int)])).length:Int) ≤ zcz (t.heights.drop (p.length + 1)):=by
     have:=zrP hok f (p ++ [(at_ t.heights p.length).lo + (n:Int)]) (by simp; omega)
     simpa using this
    have e:((n + 1:Nat):Int) * zcz (t.heights.drop (p.length + 1)) = n * zcz (t.heights.drop (p.length + 1)) + zcz (t.heights.drop (p.length + 1)):=by
     rw [Int.natCast_add,Int.add_mul]; simp
    rw [e]
    omega
  have:=key (szR (at_ t.heights p.length)).toNat
  rw [show zh9 t (f + 1) p = zgY t f p (szR (at_ t.heights p.length)).toNat from rfl,zgj hk]
  have e2:zcz (at_ t.heights p.length :: t.heights.drop (p.length + 1)) = szR (at_ t.heights p.length) * zcz (t.heights.drop (p.length + 1)):=rfl
  rw [e2]
  have e3:(((szR (at_ t.heights p.length)).toNat:Nat):Int) = szR (at_ t.heights p.length):=by unfold szR; omega
  rw [e3] at this
  exact this
theorem zlR {t:Tb} (hv:VOk t):(zkY t).length ≤ 2000:=by
 have hl:=hv.last
 have:=zrP hv.hok (t.last + 1).toNat [] (by simp; omega)
 obtain ⟨e1,e2⟩:=zfd t.heights (fun r hr => (hv.hok.h r hr).2.1) 1 (by omega) (by omega)
 have hm:=hv.many
 unfold zc5 at hm
 rw [e1] at hm
 simp only [czy,List.drop_zero] at this
 unfold zkY
 omega
/-! Hours in which rows are wet, by the program. -/
def rowB (hs:List Int) (lv:Int):List Bool:=(List.range 10).map fun i => decide (i < hs.length) && decide (lv < at_ hs i)
theorem zrW (hs:List Int) (lv:Int):(rowB hs lv).length = 10:=by simp [rowB]
theorem zpM {hs:List Int} {lv:Int} {i:Nat} (h:i < 10) (h':i < hs.length):at_ (rowB hs lv) i = decide (lv < at_ hs i):=by
 unfold rowB
 rw [zgM _ h]
 simp [h']
def zpi (hs:List Int) (lv:Int):BA 10:=⟨rowB hs lv,zrW hs lv⟩
def zbW (t:Tb) (hs:List Int):Sea:=⟨hs,t.levels.map (zpi hs)⟩
def zlS (y:Yd) (p q:List Int):Bool:=y.chairs.all fun c => decide (rowB p (at_ y.t.levels c.row.toNat) = rowB q (at_ y.t.levels c.row.toNat))
def zms (y:Yd) (a:List (List Int)) (p:List Int):List (List Int):=if a = [] ∨ zlS y (at_ a (a.length - 1)) p = false then a ++ [p] else a
def zba (y:Yd):List (List Int):=(zkY y.t).foldl (zms y) []
theorem zsq {y:Yd} {a:List (List Int)} {p q:List Int} (h:q ∈ a):q ∈ zms y a p:=by
 unfold zms
 split
 ·simp [h]
 ·exact h
theorem zkm (y:Yd):∀ (l a:List (List Int)),(∀ q ∈ a,q ∈ l.foldl (zms y) a) ∧ (∀ q ∈ l.foldl (zms y) a,q ∈ a ∨ q ∈ l) ∧ ∀ q ∈ l,∃ p ∈ l.foldl (zms y) a,p = q ∨ zlS y p q = true
 | [],a => ⟨fun q h => h,fun q h => .inl h,fun q h => by cases h⟩
 | x :: l,a => by
  simp only [List.foldl_cons]
  obtain ⟨h1,h2,h3⟩:=zkm y l (zms y a x)
  refine ⟨fun q hq => h1 q (zsq hq),fun q hq => ?_,fun q hq => ?_⟩
  ·rcases h2 q hq with h | h
   ·unfold zms at h
    split at h
    ·rcases czv.1 h with h | h
     ·exact .inl h
     ·simp at h; subst h; exact .inr (by simp)
    ·exact .inl h
   ·exact .inr (by simp [h])
  ·rcases czn.1 hq with rfl | hq
   ·by_cases c:a = [] ∨ zlS y (at_ a (a.length - 1)) q = false
    ·exact ⟨q,h1 q (by unfold zms; rw [if_pos c]; simp),.inl rfl⟩
    ·simp only [not_or,Bool.not_eq_false] at c
     refine ⟨at_ a (a.length - 1),h1 _ (zsq (zbs ?_)),.inr c.2⟩
     have:=List.length_pos_iff.2 c.1
     omega
   ·exact h3 q hq
theorem zjg (y:Yd):∀ (l a:List (List Int)),(l.foldl (zms y) a).length ≤ a.length + l.length
 | [],a => by simp
 | x :: l,a => by
  have:=zjg y l (zms y a x)
  simp only [List.foldl_cons,cza]
  have h:(zms y a x).length ≤ a.length + 1:=by
   unfold zms
   split <;> simp
  omega
theorem zuu {y:Yd} (hv:VOk y.t):(zba y).length ≤ 2000:=by
 have h1:=zjg y (zkY y.t) []
 have h2:=zlR hv
 unfold zba
 simp at h1
 omega
structure Like (y:Yd) (p q:List Int):Prop where
 w:∀ c ∈ y.chairs,∀ h,h < hrs y → decide (at_ y.t.levels c.row.toNat < at_ p h) = decide (at_ y.t.levels c.row.toNat < at_ q h)
theorem zhi {y:Yd} (h:VY y) {p:List Int} (hp:p ∈ zaR y.t):p.length = hrs y:=by
 have h1:=zfX h.fok.vok hp
 have h2:=h.fok.len
 have h3:=h.hrs.1
 omega
theorem like_of {y:Yd} (h:VY y) {p q:List Int} (hp:p.length = hrs y) (hq:q.length = hrs y) (hs:zlS y p q = true):Like y p q:=by
 refine ⟨fun c hc k hk => ?_⟩
 unfold zlS at hs
 rw [czG] at hs
 have h1:=of_decide_eq_true (hs c hc)
 have h3:=h.hrs
 rw [← zpM (by omega) (by omega),← zpM (by omega) (by omega),h1]
theorem Like.refl (y:Yd) (p:List Int):Like y p p:=⟨fun _ _ _ _ => rfl⟩
theorem znA {y:Yd} {p q:List Int} (h:Like y p q) (o:List Int) {c:Int} (hc:c.toNat < y.chairs.length):zek y o p c = zek y o q c:=by
 unfold zek
 refine zmP fun k hk => ?_
 unfold zph lvY
 rw [h.w _ (zbs hc) k hk]
theorem zh0 {y:Yd} (o p:List Int) (c:Int) {k:Nat} (hk:k < hrs y):canY y o p c k = (zek y o p c).free.contains (k:Int):=by
 rw [zk2,zkH hk]; rfl
theorem zqd {y:Yd} (hv:VY y) {p q:List Int} (h:Like y p q):zfs y p = zfs y q:=by
 unfold zfs
 apply zdA
 intro k hk
 have hk':k < y.hires.length:=by simpa using hk
 have hh:=hv.hi _ (zbs hk')
 have h3:=hv.hrs
 unfold zd5
 rw [zh0 _ _ _ (by omega),zh0 _ _ _ (by omega),znA h _ (by omega)]
def ziQ (y:Yd):List (List Int):=(zba y).filter (zfs y)
theorem zjL {y:Yd} {p:List Int}:p ∈ zeX y ↔ p ∈ zaR y.t ∧ zfs y p = true:=List.mem_filter
theorem zhZ {y:Yd} (hv:VY y) {p:List Int} (h:p ∈ zba y):p ∈ zaR y.t:=by
 obtain ⟨_,h2,_⟩:=zkm y (zkY y.t) []
 rcases h2 p h with q | q
 ·cases q
 ·exact (zr5 hv.f p).1 q
theorem zlr {y:Yd} (hv:VY y) {q:List Int} (h:q ∈ zaR y.t):∃ p ∈ zba y,Like y p q:=by
 obtain ⟨_,_,h3⟩:=zkm y (zkY y.t) []
 obtain ⟨p,hp,e⟩:=h3 q ((zr5 hv.f q).2 h)
 refine ⟨p,hp,?_⟩
 rcases e with rfl | e
 ·exact .refl _ _
 ·exact like_of hv (zhi hv (zhZ hv hp)) (zhi hv h) e
theorem work_mem {y:Yd} (hv:VY y) {p:List Int} (h:p ∈ ziQ y):p ∈ zeX y:=by
 obtain ⟨h1,h2⟩:=List.mem_filter.1 h
 exact zjL.2 ⟨zhZ hv h1,h2⟩
theorem work_like {y:Yd} (hv:VY y) {q:List Int} (h:q ∈ zeX y):∃ p ∈ ziQ y,Like y p q:=by
 obtain ⟨h1,h2⟩:=zjL.1 h
 obtain ⟨p,hp,hl⟩:=zlr hv h1
 exact ⟨p,List.mem_filter.2 ⟨hp,by rw [zqd hv hl]; exact h2⟩,hl⟩
theorem zrE {y:Yd} (hv:VY y):ziQ y = [] ↔ zeX y = []:=by
 constructor
 ·intro h
  cases c:zeX y with
  | nil => rfl
  | cons q r =>
   obtain ⟨p,hp,_⟩:=work_like hv (q:=q) (by rw [c]; simp)
   rw [h] at hp; cases hp
 ·intro h
  cases c:ziQ y with
  | nil => rfl
  | cons q r =>
   have:=work_mem hv (p:=q) (by rw [c]; simp)
   rw [h] at this; cases this
set_option maxRecDepth 8000
theorem znQ (n lo hi:Int):zaQ Tryz.prog 82 [Enc.enc n,Enc.enc lo,Enc.enc hi] (· = Enc.enc (inB n lo hi)):=by
 simp only [zb5]
 refine cpz P50_ok Tryz.func82 zaC ?_
 rw [Tryz.ntmps82]
 simp only [Tryz.f82,zah,zam]
 simp (maxSteps:=4000000) only [go_sem,AV.one,zae,zac,zad,zan,zaq,zaa,czb,cza,↓reduceIte,zbc,zbn,za1,zaX,zbb,zbd,zbl,zab,zay,onz]
 rfl
theorem zmk (l:List Int) (h:l ≠ [] ∧ l.length ≤ 4096):zaQ Tryz.prog 159 [Enc.enc l] (· = Enc.enc (zr2 l)):=by
 simp only [zb5]
 refine cpz P50_ok Tryz.func159 zaC ?_
 rw [Tryz.ntmps159]
 simp only [Tryz.f159,zah,zam]
 simp (maxSteps:=4000000) only [go_sem,AV.one,zae,zac,zad,zan,zaq,zaa,czb,cza,↓reduceIte,zbc,zbn,za1,zaX,zbb,zbd,zbl,zab,zay,onz]
 exact h
def P100 (g:FuncId):=(zaz 82 (zeb (fun _ _ _ => True) inB) (zaz 159 (zcM (fun l:List Int => l ≠ [] ∧ l.length ≤ 4096) zr2) (P50)):zaJ) g
theorem zmD:zaA Tryz.prog P100:=zai (zb6 fun a b c _ => znQ a b c) (zai (zbi zmk) (P50_ok))
theorem zpd (d:Option Nat):zaG P100 d = none:=(zag (by decide) d).trans ((zag (by decide) d).trans (zmx d))
attribute [go_sem] P100 zpd
theorem zqA (r:Rg) (n:Int):zaQ Tryz.prog 140 [Enc.enc r,Enc.enc n] (· = Enc.enc (zdt r n)):=by
 simp only [zb5]
 refine cpz zmD Tryz.func140 zaC ?_
 rw [Tryz.ntmps140]
 simp only [Tryz.f140,zah,zam]
 simp (maxSteps:=4000000) only [go_sem,AV.one,zae,zac,zad,zan,zaq,zaa,czb,cza,↓reduceIte,zbc,zbn,za1,zaX,zbb,zbd,zbl,zab,zay,onz,zhE]
 exact ⟨rfl,by simp,rfl⟩
theorem znE (y:Yd) (n:Int) (h:y.chairs.length ≤ 4096):zaQ Tryz.prog 93 [Enc.enc y,Enc.enc n] (· = Enc.enc (inB n 0 ((y.chairs.length:Int) - 1))):=by
 simp only [zb5]
 refine cpz zmD Tryz.func93 zaC ?_
 rw [Tryz.ntmps93]
 simp only [Tryz.f93,zah,zam]
 simp (maxSteps:=4000000) only [go_sem,AV.one,zae,zac,zad,zan,zaq,zaa,czb,cza,↓reduceIte,zbc,zbn,za1,zaX,zbb,zbd,zbl,zab,zay,onz]
 all_goals exact auz
theorem zqf (y:Yd) (n:Int):zaQ Tryz.prog 94 [Enc.enc y,Enc.enc n] (· = Enc.enc (inB n 0 y.t.last)):=by
 simp only [zb5]
 refine cpz zmD Tryz.func94 zaC ?_
 rw [Tryz.ntmps94]
 simp only [Tryz.f94,zah,zam]
 simp (maxSteps:=4000000) only [go_sem,AV.one,zae,zac,zad,zan,zaq,zaa,czb,cza,↓reduceIte,zbc,zbn,za1,zaX,zbb,zbd,zbl,zab,zay,onz]
def P101 (g:FuncId):=(zaz 140 (zbE (fun (_:Rg) (_:Int) => True) zdt) (zaz 93 (zbE (fun (y:Yd) (_:Int) => y.chairs.length ≤ 4096) (fun y n => inB n 0 ((y.chairs.length:Int) - 1))) (zaz 94 (zbE (fun (_:Yd) (_:Int) => True) (fun y n => inB n 0 y.t.last)) (P100))):zaJ) g
theorem zrs:zaA Tryz.prog P101:=zai (zaM fun r n _ => zqA r n) (zai (zaM znE) (zai (zaM fun y n _ => zqf y n) (zmD)))
theorem zpc (d:Option Nat):zaG P101 d = none:=(zag (by decide) d).trans ((zag (by decide) d).trans ((zag (by decide) d).trans (zpd d)))
attribute [go_sem] P101 zpc
theorem zuv (y:Yd) (c:Ch) (h:y.t.levels.length ≤ 4096):zaQ Tryz.prog 79 [Enc.enc y,Enc.enc c] (· = Enc.enc (zdg y.t c)):=by
 simp only [zb5]
 refine cpz zrs Tryz.func79 zaC ?_
 rw [Tryz.ntmps79]
 simp only [Tryz.f79,zah,zam]
 simp (maxSteps:=4000000) only [go_sem,AV.one,zae,zac,zad,zan,zaq,zaa,czb,cza,↓reduceIte,zbc,zbn,za1,zaX,zbb,zbd,zbl,zab,zay,onz]
 all_goals (repeat' first | (with_reducible first | rfl | apply And.intro | assumption) | ((with_reducible show zaj _ _ = true); rfl)) <;> try first | omega | (simp only [InR]; omega)
 rfl
theorem hire_call (y:Yd) (c:Rg) (h:y.chairs.length ≤ 4096):zaQ Tryz.prog 80 [Enc.enc y,Enc.enc c] (· = Enc.enc (zeM y.chairs.length y.t.last c)):=by
 simp only [zb5]
 refine cpz zrs Tryz.func80 zaC ?_
 rw [Tryz.ntmps80]
 simp only [Tryz.f80,zah,zam]
 simp (maxSteps:=4000000) only [go_sem,AV.one,zae,zac,zad,zan,zaq,zaa,czb,cza,↓reduceIte,zbc,zbn,za1,zaX,zbb,zbd,zbl,zab,zay,onz]
 all_goals (repeat' first | (with_reducible first | rfl | apply And.intro | assumption) | ((with_reducible show zaj _ _ = true); rfl)) <;> try first | omega | (simp only [InR]; omega)
 rfl
def P102 (g:FuncId):=(zaz 79 (zbE (fun (y:Yd) (_:Ch) => y.t.levels.length ≤ 4096) (fun y c => zdg y.t c)) (zaz 80 (zbE (fun (y:Yd) (_:Rg) => y.chairs.length ≤ 4096) (fun y c => zeM y.chairs.length y.t.last c)) (P101)):zaJ) g
theorem P102_ok:zaA Tryz.prog P102:=zai (zaM zuv) (zai (zaM hire_call) (zrs))
theorem zpb (d:Option Nat):zaG P102 d = none:=(zag (by decide) d).trans ((zag (by decide) d).trans (zpc d))
attribute [go_sem] P102 zpb
theorem zre (x:Ch) (f:FnB 79 Yd) (hp:f.x.t.levels.length ≤ 4096):zaQ Tryz.prog 132 [Enc.enc x,Enc.enc (RefC.mk f)] (· = Enc.enc (!zdg f.x.t x)):=by
 simp only [zb5]
 refine cpz P102_ok Tryz.func132 zaC ?_
 rw [Tryz.ntmps132]
 simp only [Tryz.f132,zah,zam]
 simp (maxSteps:=4000000) only [go_sem,AV.one,zae,zac,zad,zan,zaq,zaa,czb,cza,↓reduceIte,zbc,zbn,za1,zaX,zbb,zbd,zbl,zab,zay,onz]
 all_goals exact auz
def P103 (g:FuncId):=(zaz 132 (zbE (fun (_:Ch) (f:RefC (FnB 79 Yd)) => let f:=f.x; f.x.t.levels.length ≤ 4096) (fun (x:Ch) (f:RefC (FnB 79 Yd)) => let f:=f.x; !zdg f.x.t x)) (P102):zaJ) g
theorem P103_ok:zaA Tryz.prog P103:=zai (zaM fun x f h => zre x f.x h) (P102_ok)
theorem zpa (d:Option Nat):zaG P103 d = none:=(zag (by decide) d).trans (zpb d)
attribute [go_sem] P103 zpa
theorem zrb (l:List (Ch)) (f:FnC 132 (FnB 79 Yd)) (h:l.length ≤ 4096 ∧ let f:=f.x; f.x.t.levels.length ≤ 4096):zaQ Tryz.prog 161 [Enc.enc l,Enc.enc f] (· = Enc.enc (let f:=f.x; zbr (fun x => !zdg f.x.t x) l l.length 0)):=by
 obtain ⟨f⟩:=f
 obtain ⟨h,hp⟩:=h
 simp only at hp
 simp only [zb5]
 refine cpz P103_ok Tryz.func161 zaC ?_
 rw [Tryz.ntmps161]
 simp only [Tryz.f161,zah,zam]
 simp (maxSteps:=4000000) only [go_sem,AV.one,zae,zac,zad,zan,zaq,zaa,czb,cza,↓reduceIte,zbc,zbn,za1,zaX,zbb,zbd,zbl,zab,zay,onz]
 refine zbG (l.length) [] [0,1,4,7] (fun i => [(8,.int .i64 i)]) (fun _ m => m) (fun i => zbr (fun x => !zdg f.x.t x) l (l.length - i) i = zbr (fun x => !zdg f.x.t x) l l.length 0) ?_ ?_ ?_ ?_
 ·rfl
 ·simp [AV.bare,zal,zaN,zaS,zak,zas,zaf,tokz1,lk,zaa,za3]
 ·intro i hi hI
  rw [show l.length - i = (l.length - (i + 1)) + 1 by omega,zbr] at hI
  cases c:zdg f.x.t (at_ l i) <;>
   simp (maxSteps:=4000000) only [go_sem,AV.one,zae,zac,zad,zan,zaq,zaa,czb,cza,↓reduceIte,zbc,zbn,za1,zaX,zbb,zbd,zbl,zab,zay,onz,zar hi,czH.2 hi,c]
  all_goals all_goals (repeat' first | (with_reducible first | rfl | apply And.intro | assumption) | ((with_reducible show zaj _ _ = true); rfl)) <;> try first | omega | (simp only [InR]; omega)
  ·rw [c] at hI
   rw [← hI]; rfl
  ·rw [c] at hI
   refine nxt hi hI ?_
   simp [AV.bare,zal,zaN,zaS,zak,zas,zaf,tokz1,lk,zaa,za3]
 ·intro hI
  simp (maxSteps:=4000000) only [go_sem,AV.one,zae,zac,zad,zan,zaq,zaa,czb,cza,↓reduceIte,zbc,zbn,za1,zaX,zbb,zbd,zbl,zab,zay,onz]
  rw [← hI]; simp [zbr]
def P104 (g:FuncId):=(zaz 161 (zbE (fun (l:List (Ch)) (f:FnC 132 (FnB 79 Yd)) => l.length ≤ 4096 ∧ let f:=f.x; f.x.t.levels.length ≤ 4096) (fun l f => let f:=f.x; zbr (fun x => !zdg f.x.t x) l l.length 0)) (P103):zaJ) g
theorem P104_ok:zaA Tryz.prog P104:=zai (zaM zrb) (P103_ok)
theorem zo9 (d:Option Nat):zaG P104 d = none:=(zag (by decide) d).trans (zpa d)
attribute [go_sem] P104 zo9
theorem zrc (l:List (Ch)) (f:FnC 132 (FnB 79 Yd)) (h:l.length ≤ 4096 ∧ let f:=f.x; f.x.t.levels.length ≤ 4096):zaQ Tryz.prog 131 [Enc.enc l,Enc.enc f] (· = Enc.enc (let f:=f.x; l.any (fun x => !zdg f.x.t x))):=by
 obtain ⟨f⟩:=f
 obtain ⟨h,hp⟩:=h
 simp only at hp
 simp only [zb5]
 refine cpz P104_ok Tryz.func131 zaC ?_
 rw [Tryz.ntmps131]
 simp only [Tryz.f131,zah,zam]
 simp (maxSteps:=4000000) only [go_sem,AV.one,zae,zac,zad,zan,zaq,zaa,czb,cza,↓reduceIte,zbc,zbn,za1,zaX,zbb,zbd,zbl,zab,zay,onz]
 all_goals (repeat' first | (with_reducible first | rfl | apply And.intro | assumption) | ((with_reducible show zaj _ _ = true); rfl)) <;> try first | omega | (simp only [InR]; omega)
 congr 1
 exact zeF (fun x => !zdg f.x.t x) l l.length 0 (by omega)
def P105 (g:FuncId):=(zaz 131 (zbE (fun (l:List (Ch)) (f:FnC 132 (FnB 79 Yd)) => l.length ≤ 4096 ∧ let f:=f.x; f.x.t.levels.length ≤ 4096) (fun l f => let f:=f.x; l.any (fun x => !zdg f.x.t x))) (P104):zaJ) g
theorem P105_ok:zaA Tryz.prog P105:=zai (zaM zrc) (P104_ok)
theorem zo8 (d:Option Nat):zaG P105 d = none:=(zag (by decide) d).trans (zo9 d)
attribute [go_sem] P105 zo8
theorem zrd (l:List (Ch)) (f:FnB 79 Yd) (h:l.length ≤ 4096 ∧ f.x.t.levels.length ≤ 4096):zaQ Tryz.prog 83 [Enc.enc l,Enc.enc f] (· = Enc.enc (l.all (fun x => zdg f.x.t x))):=by
 obtain ⟨h,hp⟩:=h
 simp only [zb5]
 refine cpz P105_ok Tryz.func83 zaC ?_
 rw [Tryz.ntmps83]
 simp only [Tryz.f83,zah,zam]
 simp (maxSteps:=4000000) only [go_sem,AV.one,zae,zac,zad,zan,zaq,zaa,czb,cza,↓reduceIte,zbc,zbn,za1,zaX,zbb,zbd,zbl,zab,zay,onz]
 all_goals (repeat' first | (with_reducible first | rfl | apply And.intro | assumption) | ((with_reducible show zaj _ _ = true); rfl)) <;> try first | omega | (simp only [InR]; omega)
 rw [zio]
def P106 (g:FuncId):=(zaz 83 (zbE (fun (l:List (Ch)) (f:FnB 79 Yd) => l.length ≤ 4096 ∧ f.x.t.levels.length ≤ 4096) (fun l f => l.all (fun x => zdg f.x.t x))) (P105):zaJ) g
theorem P106_ok:zaA Tryz.prog P106:=zai (zaM zrd) (P105_ok)
theorem zo7 (d:Option Nat):zaG P106 d = none:=(zag (by decide) d).trans (zo8 d)
attribute [go_sem] P106 zo7
theorem zra (x:Rg) (f:FnB 80 Yd) (hp:f.x.chairs.length ≤ 4096):zaQ Tryz.prog 134 [Enc.enc x,Enc.enc (RefC.mk f)] (· = Enc.enc (!zeM f.x.chairs.length f.x.t.last x)):=by
 simp only [zb5]
 refine cpz P106_ok Tryz.func134 zaC ?_
 rw [Tryz.ntmps134]
 simp only [Tryz.f134,zah,zam]
 simp (maxSteps:=4000000) only [go_sem,AV.one,zae,zac,zad,zan,zaq,zaa,czb,cza,↓reduceIte,zbc,zbn,za1,zaX,zbb,zbd,zbl,zab,zay,onz]
 all_goals exact auz
def P107 (g:FuncId):=(zaz 134 (zbE (fun (_:Rg) (f:RefC (FnB 80 Yd)) => let f:=f.x; f.x.chairs.length ≤ 4096) (fun (x:Rg) (f:RefC (FnB 80 Yd)) => let f:=f.x; !zeM f.x.chairs.length f.x.t.last x)) (P106):zaJ) g
theorem P107_ok:zaA Tryz.prog P107:=zai (zaM fun x f h => zra x f.x h) (P106_ok)
theorem zo6 (d:Option Nat):zaG P107 d = none:=(zag (by decide) d).trans (zo7 d)
attribute [go_sem] P107 zo6
theorem zq7 (l:List (Rg)) (f:FnC 134 (FnB 80 Yd)) (h:l.length ≤ 4096 ∧ let f:=f.x; f.x.chairs.length ≤ 4096):zaQ Tryz.prog 162 [Enc.enc l,Enc.enc f] (· = Enc.enc (let f:=f.x; zbr (fun x => !zeM f.x.chairs.length f.x.t.last x) l l.length 0)):=by
 obtain ⟨f⟩:=f
 obtain ⟨h,hp⟩:=h
 simp only at hp
 simp only [zb5]
 refine cpz P107_ok Tryz.func162 zaC ?_
 rw [Tryz.ntmps162]
 simp only [Tryz.f162,zah,zam]
 simp (maxSteps:=4000000) only [go_sem,AV.one,zae,zac,zad,zan,zaq,zaa,czb,cza,↓reduceIte,zbc,zbn,za1,zaX,zbb,zbd,zbl,zab,zay,onz]
 refine zbG (l.length) [] [0,1,4,7] (fun i => [(8,.int .i64 i)]) (fun _ m => m) (fun i => zbr (fun x => !zeM f.x.chairs.length f.x.t.last x) l (l.length - i) i = zbr (fun x => !zeM f.x.chairs.length f.x.t.last x) l l.length 0) ?_ ?_ ?_ ?_
 ·rfl
 ·simp [AV.bare,zal,zaN,zaS,zak,zas,zaf,tokz1,lk,zaa,za3]
 ·intro i hi hI
  rw [show l.length - i = (l.length - (i + 1)) + 1 by omega,zbr] at hI
  cases c:zeM f.x.chairs.length f.x.t.last (at_ l i) <;>
   simp (maxSteps:=4000000) only [go_sem,AV.one,zae,zac,zad,zan,zaq,zaa,czb,cza,↓reduceIte,zbc,zbn,za1,zaX,zbb,zbd,zbl,zab,zay,onz,zar hi,czH.2 hi,c]
  all_goals all_goals (repeat' first | (with_reducible first | rfl | apply And.intro | assumption) | ((with_reducible show zaj _ _ = true); rfl)) <;> try first | omega | (simp only [InR]; omega)
  ·rw [c] at hI
   rw [← hI]; rfl
  ·rw [c] at hI
   refine nxt hi hI ?_
   simp [AV.bare,zal,zaN,zaS,zak,zas,zaf,tokz1,lk,zaa,za3]
 ·intro hI
  simp (maxSteps:=4000000) only [go_sem,AV.one,zae,zac,zad,zan,zaq,zaa,czb,cza,↓reduceIte,zbc,zbn,za1,zaX,zbb,zbd,zbl,zab,zay,onz]
  rw [← hI]; simp [zbr]
def P108 (g:FuncId):=(zaz 162 (zbE (fun (l:List (Rg)) (f:FnC 134 (FnB 80 Yd)) => l.length ≤ 4096 ∧ let f:=f.x; f.x.chairs.length ≤ 4096) (fun l f => let f:=f.x; zbr (fun x => !zeM f.x.chairs.length f.x.t.last x) l l.length 0)) (P107):zaJ) g
theorem P108_ok:zaA Tryz.prog P108:=zai (zaM zq7) (P107_ok)
theorem zo5 (d:Option Nat):zaG P108 d = none:=(zag (by decide) d).trans (zo6 d)
attribute [go_sem] P108 zo5
theorem zq8 (l:List (Rg)) (f:FnC 134 (FnB 80 Yd)) (h:l.length ≤ 4096 ∧ let f:=f.x; f.x.chairs.length ≤ 4096):zaQ Tryz.prog 133 [Enc.enc l,Enc.enc f] (· = Enc.enc (let f:=f.x; l.any (fun x => !zeM f.x.chairs.length f.x.t.last x))):=by
 obtain ⟨f⟩:=f
 obtain ⟨h,hp⟩:=h
 simp only at hp
 simp only [zb5]
 refine cpz P108_ok Tryz.func133 zaC ?_
 rw [Tryz.ntmps133]
 simp only [Tryz.f133,zah,zam]
 simp (maxSteps:=4000000) only [go_sem,AV.one,zae,zac,zad,zan,zaq,zaa,czb,cza,↓reduceIte,zbc,zbn,za1,zaX,zbb,zbd,zbl,zab,zay,onz]
 all_goals (repeat' first | (with_reducible first | rfl | apply And.intro | assumption) | ((with_reducible show zaj _ _ = true); rfl)) <;> try first | omega | (simp only [InR]; omega)
 congr 1
 exact zeF (fun x => !zeM f.x.chairs.length f.x.t.last x) l l.length 0 (by omega)
def P109 (g:FuncId):=(zaz 133 (zbE (fun (l:List (Rg)) (f:FnC 134 (FnB 80 Yd)) => l.length ≤ 4096 ∧ let f:=f.x; f.x.chairs.length ≤ 4096) (fun l f => let f:=f.x; l.any (fun x => !zeM f.x.chairs.length f.x.t.last x))) (P108):zaJ) g
theorem P109_ok:zaA Tryz.prog P109:=zai (zaM zq8) (P108_ok)
theorem zo4 (d:Option Nat):zaG P109 d = none:=(zag (by decide) d).trans (zo5 d)
attribute [go_sem] P109 zo4
theorem zq9 (l:List (Rg)) (f:FnB 80 Yd) (h:l.length ≤ 4096 ∧ f.x.chairs.length ≤ 4096):zaQ Tryz.prog 84 [Enc.enc l,Enc.enc f] (· = Enc.enc (l.all (fun x => zeM f.x.chairs.length f.x.t.last x))):=by
 obtain ⟨h,hp⟩:=h
 simp only [zb5]
 refine cpz P109_ok Tryz.func84 zaC ?_
 rw [Tryz.ntmps84]
 simp only [Tryz.f84,zah,zam]
 simp (maxSteps:=4000000) only [go_sem,AV.one,zae,zac,zad,zan,zaq,zaa,czb,cza,↓reduceIte,zbc,zbn,za1,zaX,zbb,zbd,zbl,zab,zay,onz]
 all_goals (repeat' first | (with_reducible first | rfl | apply And.intro | assumption) | ((with_reducible show zaj _ _ = true); rfl)) <;> try first | omega | (simp only [InR]; omega)
 rw [zio]
def P110 (g:FuncId):=(zaz 84 (zbE (fun (l:List (Rg)) (f:FnB 80 Yd) => l.length ≤ 4096 ∧ f.x.chairs.length ≤ 4096) (fun l f => l.all (fun x => zeM f.x.chairs.length f.x.t.last x))) (P109):zaJ) g
theorem P110_ok:zaA Tryz.prog P110:=zai (zaM zq9) (P109_ok)
theorem zo3 (d:Option Nat):zaG P110 d = none:=(zag (by decide) d).trans (zo4 d)
attribute [go_sem] P110 zo3
theorem znD (y:Yd) (l:List Int) (h:y.chairs.length ≤ 4096 ∧ l.length ≤ 4096):zaQ Tryz.prog 74 [Enc.enc y,Enc.enc l] (· = Enc.enc (za2 y.chairs.length l)):=by
 have h1:=h.1
 have h2:=h.2
 simp only [zb5]
 refine cpz P110_ok Tryz.func74 zaC ?_
 rw [Tryz.ntmps74]
 simp only [Tryz.f74,zah,zam]
 simp (maxSteps:=4000000) only [go_sem,AV.one,zae,zac,zad,zan,zaq,zaa,czb,cza,↓reduceIte,zbc,zbn,za1,zaX,zbb,zbd,zbl,zab,zay,onz]
 refine zbG (l.length) [] [1,2,4,7,8] (fun i => [(9,.int .i64 i)]) (fun _ m => m) (fun i => za2 y.chairs.length (l.take i) = true) ?_ ?_ ?_ ?_
 ·rfl
 ·simp [AV.bare,zal,zaN,zaS,zak,zas,zaf,tokz1,lk,zaa,za3]
 ·intro i hi hI
  have hs:za2 y.chairs.length (l.take (i + 1)) = (inB (at_ l i) 0 ((y.chairs.length:Int) - 1) && !(l.take i).contains (at_ l i)):=by
   rw [zaW hi,ziC,hI,Bool.true_and]
  have hno:za2 y.chairs.length (l.take (i + 1)) = false → za2 y.chairs.length l = false:=fun q => by
   cases c:za2 y.chairs.length l
   ·rfl
   ·rw [znC c] at q; cases q
  have hti:((i:Int) - 0).toNat = i:=by omega
  have htl:(l.take i).length ≤ 4096:=by rw [czO]; omega
  cases c1:inB (at_ l i) 0 ((y.chairs.length:Int) - 1)
  ·rw [c1] at hs
   have hb:=hno hs
   simp (maxSteps:=4000000) only [go_sem,AV.one,zae,zac,zad,zan,zaq,zaa,czb,cza,↓reduceIte,zbc,zbn,za1,zaX,zbb,zbd,zbl,zab,zay,onz,zar hi,czH.2 hi,c1,hb,hti,zhl]
   all_goals exact auz
  ·cases c2:(l.take i).contains (at_ l i)
   ·rw [c1,c2] at hs
    simp (maxSteps:=4000000) only [go_sem,AV.one,zae,zac,zad,zan,zaq,zaa,czb,cza,↓reduceIte,zbc,zbn,za1,zaX,zbb,zbd,zbl,zab,zay,onz,zar hi,czH.2 hi,c1,c2,hti,zhl]
    all_goals (repeat' first | (with_reducible first | rfl | apply And.intro | assumption) | ((with_reducible show zaj _ _ = true); rfl)) <;> try first | omega | (simp only [InR]; omega)
    refine nxt hi (by rw [hs]; rfl) ?_
    simp [AV.bare,zal,zaN,zaS,zak,zas,zaf,tokz1,lk,zaa,za3]
   ·rw [c1,c2] at hs
    have hb:=hno hs
    simp (maxSteps:=4000000) only [go_sem,AV.one,zae,zac,zad,zan,zaq,zaa,czb,cza,↓reduceIte,zbc,zbn,za1,zaX,zbb,zbd,zbl,zab,zay,onz,zar hi,czH.2 hi,c1,c2,hb,hti,zhl]
    all_goals exact auz
 ·intro hI
  rw [czm] at hI
  simp (maxSteps:=4000000) only [go_sem,AV.one,zae,zac,zad,zan,zaq,zaa,czb,cza,↓reduceIte,zbc,zbn,za1,zaX,zbb,zbd,zbl,zab,zay,onz,hI]
def P111 (g:FuncId):=(zaz 74 (zbE (fun (y:Yd) (l:List Int) => y.chairs.length ≤ 4096 ∧ l.length ≤ 4096) (fun y l => za2 y.chairs.length l)) (P110):zaJ) g
theorem zmC:zaA Tryz.prog P111:=zai (zaM znD) (P110_ok)
theorem zo2 (d:Option Nat):zaG P111 d = none:=(zag (by decide) d).trans (zo3 d)
attribute [go_sem] P111 zo2
theorem zha (l:List Int) (x:Int):∀ f n,f + n = l.length → (zge l x f n = -1 ∧ ∀ k,n ≤ k → k < l.length → at_ l k ≠ x) ∨ ∃ k:Nat,zge l x f n = k ∧ n ≤ k ∧ k < l.length ∧ at_ l k = x ∧ ∀ j,n ≤ j → j < k → at_ l j ≠ x
 | 0,n,h => .inl ⟨rfl,fun k h1 h2 => by omega⟩
 | f + 1,n,h => by
  unfold zge
  by_cases c:x = at_ l n
  ·rw [if_pos c]
   exact .inr ⟨n,rfl,czf _,by omega,c.symm,fun j h1 h2 => by omega⟩
  ·rw [if_neg c]
   rcases zha l x f (n + 1) (by omega) with ⟨h1,h2⟩ | ⟨k,h1,h2,h3,h4,h5⟩
   ·refine .inl ⟨h1,fun k g1 g2 => ?_⟩
    by_cases e:k = n
    ·subst e; exact fun q => c q.symm
    ·exact h2 k (by omega) g2
   ·refine .inr ⟨k,h1,by omega,h3,h4,fun j g1 g2 => ?_⟩
    by_cases e:j = n
    ·subst e; exact fun q => c q.symm
    ·exact h5 j (by omega) g2
theorem indexL_bd (l:List Int) (x:Int):-1 ≤ zfL l x ∧ zfL l x ≤ l.length:=by
 unfold zfL
 rcases zha l x l.length 0 (by omega) with ⟨h1,_⟩ | ⟨k,h1,_,h3,_⟩ <;> rw [h1] <;> omega
def zb8 (y:Yd) (order:List Int) (c:Int):Int:=if zfL order c < 0 ∨ y.hands = 0 then y.t.last + 1 else min (zfL order c / y.hands) (y.t.last + 1)
theorem zn5 (y:Yd) (order:List Int) (c:Int) (h:(0 ≤ y.t.last ∧ y.t.last ≤ 9) ∧ (0 ≤ y.hands ∧ y.hands ≤ 5) ∧ order.length ≤ 4096):zaQ Tryz.prog 129 [Enc.enc y,Enc.enc order,Enc.enc c] (· = Enc.enc (zb8 y order c)):=by
 have h1:=h.1
 have h2:=h.2.1
 have h3:=h.2.2
 unfold zb8
 have hbd:=indexL_bd order c
 obtain ⟨i,hi⟩:∃ i,zfL order c = i:=⟨_,rfl⟩
 rw [hi] at hbd ⊢
 cases c1:decide (i < 0)
 ·have g1:¬ i < 0:=by simpa using c1
  cases c2:decide (y.hands = 0)
  ·have g2:¬ y.hands = 0:=by simpa using c2
   rw [if_neg (by omega)]
   have hq0:0 ≤ i / y.hands:=Int.ediv_nonneg (by omega) (by omega)
   have hq1:i / y.hands ≤ i:=Int.ediv_le_self _ (by omega)
   simp only [zb5]
   refine cpz zmC Tryz.func129 zaC ?_
   rw [Tryz.ntmps129]
   simp only [Tryz.f129,zah,zam]
   simp (maxSteps:=4000000) only [go_sem,AV.one,zae,zac,zad,zan,zaq,zaa,czb,cza,↓reduceIte,zbc,zbn,za1,zaX,zbb,zbd,zbl,zab,zay,onz,hi,c1,c2,zhE]
   all_goals (repeat' first | (with_reducible first | rfl | apply And.intro | assumption) | ((with_reducible show zaj _ _ = true); rfl)) <;> try first | omega | (simp only [InR]; omega)
   all_goals (try simp)
  ·rw [if_pos (by right; simpa using c2)]
   simp only [zb5]
   refine cpz zmC Tryz.func129 zaC ?_
   rw [Tryz.ntmps129]
   simp only [Tryz.f129,zah,zam]
   simp (maxSteps:=4000000) only [go_sem,AV.one,zae,zac,zad,zan,zaq,zaa,czb,cza,↓reduceIte,zbc,zbn,za1,zaX,zbb,zbd,zbl,zab,zay,onz,hi,c1,c2]
   all_goals exact auz
 ·rw [if_pos (by left; simpa using c1)]
  simp only [zb5]
  refine cpz zmC Tryz.func129 zaC ?_
  rw [Tryz.ntmps129]
  simp only [Tryz.f129,zah,zam]
  simp (maxSteps:=4000000) only [go_sem,AV.one,zae,zac,zad,zan,zaq,zaa,czb,cza,↓reduceIte,zbc,zbn,za1,zaX,zbb,zbd,zbl,zab,zay,onz,hi,c1]
  all_goals exact auz
theorem zlH {l:List Int} {x:Int} {m:Nat}:(l.take m).contains x = true ↔ ∃ k,k < m ∧ k < l.length ∧ at_ l k = x:=by
 simp only [List.contains_eq_mem,decide_eq_true_eq]
 constructor
 ·intro h
  obtain ⟨k,hk,e⟩:=List.mem_iff_getElem.1 h
  rw [czO] at hk
  rw [List.getElem_take] at e
  exact ⟨k,by omega,by omega,by rw [zdi (by omega)]; exact e⟩
 ·rintro ⟨k,h1,h2,e⟩
  rw [← e,zdi h2]
  exact List.mem_take_iff_getElem.2 ⟨k,by omega,rfl⟩
theorem zuB {y:Yd} {order:List Int} {c:Int} {h:Nat} (h0:0 ≤ y.hands) (hh:(h:Int) ≤ y.t.last):decide ((h:Int) < zb8 y order c) = !inY y.hands order c h:=by
 have key:inY y.hands order c h = true ↔ ¬ (h:Int) < zb8 y order c:=by
  unfold inY zb8 zfL
  rw [zlH]
  have hm:((y.hands * ((h:Int) + 1)).toNat:Int) = y.hands * ((h:Int) + 1):=Int.toNat_of_nonneg (Int.mul_nonneg h0 (by omega))
  rcases zha order c order.length 0 (by omega) with ⟨h1,h2⟩ | ⟨k,h1,_,h3,h4,h5⟩
  ·rw [h1,if_pos (.inl (by decide))]
   constructor
   ·rintro ⟨k,_,g2,g3⟩; exact absurd g3 (h2 k (Nat.zero_le _) g2)
   ·intro q; omega
  ·rw [h1]
   by_cases c2:y.hands = 0
   ·rw [if_pos (.inr c2)]
    constructor
    ·rintro ⟨j,g1,_⟩
     rw [c2,Int.zero_mul] at g1
     simp at g1
    ·intro q; omega
   ·rw [if_neg (by omega)]
    have hd:(k:Int) / y.hands ≤ h ↔ (k:Int) < y.hands * ((h:Int) + 1):=by
     rw [show ((k:Int) / y.hands ≤ h ↔ (k:Int) / y.hands < (h:Int) + 1) from ⟨fun q => by omega,fun q => by omega⟩]
     rw [Int.ediv_lt_iff_lt_mul (by omega),Int.mul_comm]
    constructor
    ·rintro ⟨j,g1,g2,g3⟩
     have hkj:k ≤ j:=by
      apply czE
      intro q
      exact h5 j (Nat.zero_le _) q g3
     have:=hd.2 (by omega)
     omega
    ·intro q
     refine ⟨k,?_,h3,h4⟩
     have:=hd.1 (by omega)
     omega
 cases c1:inY y.hands order c h
 ·rw [Bool.not_false,decide_eq_true_eq]
  apply Classical.byContradiction
  intro q
  rw [key.2 q] at c1; cases c1
 ·rw [Bool.not_true,decide_eq_false_iff_not]
  exact key.1 c1
def P112 (g:FuncId):=(zaz 129 (zeb (fun (y:Yd) (order:List Int) (_:Int) => (0 ≤ y.t.last ∧ y.t.last ≤ 9) ∧ (0 ≤ y.hands ∧ y.hands ≤ 5) ∧ order.length ≤ 4096) zb8) (P111):zaJ) g
theorem P112_ok:zaA Tryz.prog P112:=zai (zb6 zn5) (zmC)
theorem zo1 (d:Option Nat):zaG P112 d = none:=(zag (by decide) d).trans (zo2 d)
attribute [go_sem] P112 zo1
theorem zat {P:Program} {Φ:zaJ} {a b c:Code} {Q:QA} {st:St}:vc P Φ (.seq (.seq a b) c) Q st = vc P Φ (.seq a (.seq b c)) Q st:=by
 simp only [vc]
 have:(zaU (vc P Φ b (zaU (vc P Φ c Q) Q)) (zaU (vc P Φ c Q) Q)) = zaU (vc P Φ b (zaU (vc P Φ c Q) Q)) Q:=by
  funext e st
  cases e <;> rfl
 rw [this]
def stayW (y:Yd) (s:Sea) (x:Rg) (h:Nat):Bool:=at_ (at_ s.rows (at_ y.chairs x.lo.toNat).row.toNat).l h && decide ((h:Int) < x.hi)
def zfQ (y:Yd) (s:Sea) (x:Rg):Sy:=syW (stayW y s x) (at_ y.chairs x.lo.toNat) (hrs y)
theorem stay_call (y:Yd) (s:Sea) (x:Rg) (h:((0 ≤ y.t.last ∧ y.t.last ≤ 9) ∧ 0 ≤ x.lo ∧ x.lo < y.chairs.length) ∧ (0 ≤ (at_ y.chairs x.lo.toNat).row ∧ (at_ y.chairs x.lo.toNat).row < s.rows.length) ∧ (0 ≤ (at_ y.chairs x.lo.toNat).hours ∧ (at_ y.chairs x.lo.toNat).hours ≤ 5) ∧ 1 ≤ (at_ y.chairs x.lo.toNat).rot ∧ (at_ y.chairs x.lo.toNat).rot ≤ 9) :
  zaQ Tryz.prog 128 [Enc.enc y,Enc.enc s,Enc.enc x] (· = Enc.enc (zfQ y s x)):=by
 obtain ⟨⟨hl,hx0,hx1⟩,hr,hh,hro⟩:=h
 obtain ⟨ci,hci⟩:=czu hx0
 unfold zfQ
 obtain ⟨c,hc⟩:∃ c,at_ y.chairs x.lo.toNat = c:=⟨_,rfl⟩
 obtain ⟨W,hW⟩:∃ W,stayW y s x = W:=⟨_,rfl⟩
 have hWh:∀ k,W k = (at_ (at_ s.rows c.row.toNat).l k && decide ((k:Int) < x.hi)):=fun k => by rw [← hW,← hc]; rfl
 rw [hc] at hr hh hro
 rw [hc,hW]
 obtain ⟨ri,hri⟩:=czu hr.1
 have hcl:ci < y.chairs.length:=by omega
 have hg1:(y.chairs.map EncE.cs).getD ci [] = EncE.cs c:=by rw [zar hcl,← hc,hci]; rfl
 have hrl:ri < s.rows.length:=by omega
 have hg2:=zar (f:=EncE.cs) (l:=s.rows) (i:=ri) hrl
 obtain ⟨B,hB⟩:∃ B,at_ s.rows ri = B:=⟨_,rfl⟩
 rw [hB] at hg2
 have hWB:∀ k,W k = (at_ B.l k && decide ((k:Int) < x.hi)):=fun k => by rw [hWh,hri,← hB]; rfl
 have hBl:=B.h
 obtain ⟨n,hn⟩:∃ n,hrs y = n:=⟨_,rfl⟩
 have hnl:(n:Int) = y.t.last + 1:=by rw [← hn]; unfold hrs; omega
 rw [hn]
 obtain ⟨r,hrr⟩:∃ r:Nat,c.rot = r:=⟨c.rot.toNat,by omega⟩
 have hsy:syW W c n = ⟨znX W n,(zhg W r n:Nat),zgf W (zhg W r n) c.hours n⟩:=by unfold syW; rw [hrr]; rfl
 rw [hsy]
 have hrP:∀ k,k ≤ n → zpO W c.rot n k = (((zeK W r k).getD n:Nat):Int):=fun k hk => by rw [hrr]; exact zpN (by omega) k hk
 obtain ⟨F,hF⟩:∃ F:Nat → List Int,∀ k,F k = zgf W (zhg W r n) c.hours k:=⟨_,fun _ => rfl⟩
 have hFl:∀ k,(F k).length ≤ k:=fun k => by rw [hF]; exact zj1 _ _ _ _
 have hx2:x.lo.toNat = ci:=by omega
 simp only [zb5]
 refine cpz P112_ok Tryz.func128 zaC ?_
 rw [Tryz.ntmps128]
 simp only [Tryz.f128,zah,zam]
 iterate 6 (
  refine zaB fun Q1 h1 => ?_
  simp (maxSteps:=4000000) only [go_sem,zae,zac,zad,zan,zaq,zaa,czb,cza,↓reduceIte,zab,onz,hci,hg1,hg2,hri,hBl]
  all_goals (repeat' first | (with_reducible first | rfl | apply And.intro | assumption) | ((with_reducible show zaj _ _ = true); rfl)) <;> try first | omega | (simp only [InR]; omega)
  rw [h1]; clear h1 Q1; simp only [zaU,zat])
 simp (maxSteps:=4000000) only [go_sem,zae,zac,zad,zan,zaq,zaa,czb,cza,↓reduceIte,zab,onz]
 refine zbG (n) [.cell 6 2 1] [5,6,7,8,9,33] (fun k => [(34,.int .i64 k),(10,.int .i64 (zjw W k)),(11,.int .i64 (zed W k))]) (fun k m => (m.set 6 (.cells [.int .i64 (znX W k),.int .i64 (zpO W c.rot n k),.sl ((F k).map EncE.cs) (.own 7)])).set 7 (.tok (F k).length 1)) (fun _ => True) ?_ ?_ ?_ ?_
 ·trivial
 ·simp [AV.bare,zal,zaN,zaS,zak,zas,zaf,tokz1,lk,zaa,za3,znX,zpO,zjw,zed,hF,zgf,hnl]
 ·intro k hk _
  have hk':(k:Int) < y.t.last + 1:=by omega
  have hkB:=zue (l:=B.l) (i:=k) (by omega)
  have hfl:=hFl k
  have hcb:=cntW_bd W k
  have hrb:=runW_le W k
  have hlb:=zmc W k
  have hrp:=hrP k (by omega)
  have hrk:zpO W c.rot n k ≤ n ∧ 0 ≤ zpO W c.rot n k:=by
   rw [hrp]
   cases q:zeK W r k with
   | none => simp
   | some z => have:=zf7 q; simp; omega
  have hrs':zpO W c.rot n (k + 1) = if W k && decide ((zjw W (k + 1):Int) = c.rot) then min (zpO W c.rot n k) k else zpO W c.rot n k:=rfl
  have hru:zjw W (k + 1) = if W k then zjw W k + 1 else 0:=rfl
  have hla:zed W (k + 1) = if W k then (k:Int) else zed W k:=rfl
  have hcs:=zj9 W k
  have hfs:F (k + 1) = if zn1 W (zhg W r n) c.hours k then F k ++ [(k:Int)] else F k:=by rw [hF,hF,zug]
  have hca:zn1 W (zhg W r n) c.hours k = (!W k && (decide (k < zhg W r n) && (decide (zed W k < 0) || decide (c.hours < k - zed W k)))):=rfl
  obtain ⟨ro,hroe⟩:∃ ro,zpO W c.rot n k = ro:=⟨_,rfl⟩
  obtain ⟨ru,hrue⟩:∃ ru,zjw W k = ru:=⟨_,rfl⟩
  obtain ⟨la,hlae⟩:∃ la,zed W k = la:=⟨_,rfl⟩
  obtain ⟨cn,hcne⟩:∃ cn,znX W k = cn:=⟨_,rfl⟩
  obtain ⟨Fk,hFe⟩:∃ Fk,F k = Fk:=⟨_,rfl⟩
  have hrl:W k = false → decide ((k:Int) < ro) = decide (k < zhg W r n):=fun hw => by rw [← hroe,hrr]; exact rotP_last (by omega) hk hw
  rw [hroe] at hrk hrs'
  rw [hrue] at hrb hru
  rw [hlae] at hlb hla hca
  rw [hcne] at hcb hcs
  rw [hFe] at hfl hfs
  rw [hroe,hrue,hlae,hcne,hFe]
  have hWk:=hWB k
  obtain ⟨bk,hbk⟩:∃ bk,at_ B.l k = bk:=⟨_,rfl⟩
  rw [hbk] at hkB hWk
  have hcc:decide (((ru + 1:Nat):Int) = c.rot) = decide ((ru:Int) + 1 = c.rot):=by simp
  iterate 2 (
   refine zaB fun Q1 h1 => ?_
   simp (maxSteps:=4000000) only [go_sem,zae,zac,zad,zan,zaq,zaa,czb,cza,↓reduceIte,zab,onz,hk']
   all_goals (repeat' first | (with_reducible first | rfl | apply And.intro | assumption) | ((with_reducible show zaj _ _ = true); rfl)) <;> try first | omega | (simp only [InR]; omega)
   rw [h1]; clear h1 Q1; simp only [zaU,zat])
  refine zaB fun Qb hb => ?_
  rw [zeO]
  try simp only [zat]
  iterate 2 (
   refine zaB fun Q1 h1 => ?_
   simp (maxSteps:=4000000) only [go_sem,zae,zac,zad,zan,zaq,zaa,czb,cza,↓reduceIte,zab,onz,hkB]
   all_goals (repeat' first | (with_reducible first | rfl | apply And.intro | assumption) | ((with_reducible show zaj _ _ = true); rfl)) <;> try first | omega | (simp only [InR]; omega)
   rw [h1]; clear h1 Q1; simp only [zaU,zat])
  refine zaB fun Qc hc => ?_
  (simp (maxSteps:=4000000) only [zjl,zjk,evT,lk,AV.un,AV.av,Nat.reduceEqDiff,↓reduceIte,true_and]; try rw [zig])
  refine ⟨fun q => ?_,fun q => ?_⟩
  ·rw [q] at hWk
   rw [hWk] at hrs' hru hla hcs hca
   simp only [if_true,Bool.true_and,Bool.not_true,Bool.false_and] at hrs' hru hla hcs hca
   rw [hca] at hfs
   simp only [czp,if_false] at hfs
   have hcc:decide (((ru + 1:Nat):Int) = c.rot) = decide ((ru:Int) + 1 = c.rot):=by simp
   rw [hru,hcc] at hrs'
   try simp only [zat]
   iterate 2 (
    refine zaB fun Q1 h1 => ?_
    simp (maxSteps:=4000000) only [go_sem,zae,zac,zad,zan,zaq,zaa,czb,cza,↓reduceIte,zab,onz]
    all_goals (repeat' first | (with_reducible first | rfl | apply And.intro | assumption) | ((with_reducible show zaj _ _ = true); rfl)) <;> try first | omega | (simp only [InR]; omega)
    rw [h1]; clear h1 Q1; simp only [zaU,zat])
   refine zaB fun Qd hd => ?_
   (simp (maxSteps:=4000000) only [zjl,zjk,evT,lk,AV.un,AV.av,Nat.reduceEqDiff,↓reduceIte,true_and]; try rw [zig])
   refine ⟨fun q2 => ?_,fun q2 => ?_⟩
   all_goals
    rw [q2] at hrs'
    simp only [czp,if_false,if_true] at hrs'
   ·simp (maxSteps:=4000000) only [go_sem,zae,zac,zad,zan,zaq,zaa,czb,cza,↓reduceIte,zab,onz,zhE]
    refine ⟨by simp,?_⟩
    simp (maxSteps:=4000000) only [go_sem,zae,zac,zad,zan,zaq,zaa,czb,cza,↓reduceIte,zab,onz,hd,hc,hb]
    refine ⟨(by simp only [InR]; omega),nxt hk trivial ?_⟩
    simp [AV.bare,zal,zaN,zaS,zak,zas,zaf,tokz1,lk,zaa,za3,hrs',hru,hla,hcs,hfs]
   ·simp (maxSteps:=4000000) only [go_sem,zae,zac,zad,zan,zaq,zaa,czb,cza,↓reduceIte,zab,onz,hd,hc,hb]
    refine ⟨(by simp only [InR]; omega),nxt hk trivial ?_⟩
    simp [AV.bare,zal,zaN,zaS,zak,zas,zaf,tokz1,lk,zaa,za3,hrs',hru,hla,hcs,hfs]
  ·rw [q] at hWk
   have hrl':=hrl hWk
   rw [hWk] at hrs' hru hla hcs hca
   simp only [czp,if_false,Bool.false_and,Bool.not_false,Bool.true_and] at hrs' hru hla hcs hca
   rw [← hrl'] at hca
   rw [hca] at hfs
   simp only [hc,zaU,zat]
   refine zaB fun Q1 h1 => ?_
   simp (maxSteps:=4000000) only [go_sem,zae,zac,zad,zan,zaq,zaa,czb,cza,↓reduceIte,zab,onz]
   all_goals (repeat' first | (with_reducible first | rfl | apply And.intro | assumption) | ((with_reducible show zaj _ _ = true); rfl)) <;> try first | omega | (simp only [InR]; omega)
   rw [h1]; clear h1 Q1; simp only [zaU,zat]
   refine zaB fun Qd hd => ?_
   simp (maxSteps:=4000000) only [go_sem,zae,zac,zad,zan,zaq,zaa,czb,cza,↓reduceIte,zab,onz]
   refine ⟨fun q2 => ⟨q2,(by simp only [InR]; omega)⟩,fun q2 => ⟨q2,fun q3 => by rw [q2,q3]; rfl⟩,?_⟩
   rw [hd]
   simp only [zaU]
   (simp (maxSteps:=4000000) only [zjl,zjk,evT,lk,AV.un,AV.av,Nat.reduceEqDiff,↓reduceIte,true_and]; try rw [zig])
   refine ⟨fun q2 => ?_,fun q2 => ?_⟩
   all_goals
    rw [q2] at hfs
    simp only [czp,if_false,if_true] at hfs
    simp (maxSteps:=4000000) only [go_sem,zae,zac,zad,zan,zaq,zaa,czb,cza,↓reduceIte,zab,onz,hb]
   ·refine ⟨by omega,(by simp only [InR]; omega),nxt hk trivial ?_⟩
    simp [AV.bare,zal,zaN,zaS,zak,zas,zaf,tokz1,lk,zaa,za3,hrs',hru,hla,hcs,hfs]
   ·refine ⟨(by simp only [InR]; omega),nxt hk trivial ?_⟩
    simp [AV.bare,zal,zaN,zaS,zak,zas,zaf,tokz1,lk,zaa,za3,hrs',hru,hla,hcs,hfs]
 ·intro _
  have hk':¬ (n:Int) < y.t.last + 1:=by omega
  have hrp:zpO W c.rot n n = (zhg W r n:Nat):=hrP n (czf _)
  have hFn:=hF n
  simp (maxSteps:=4000000) only [go_sem,zae,zac,zad,zan,zaq,zaa,czb,cza,↓reduceIte,zab,onz,hk',hrp,hFn]
  all_goals exact auz
def P113 (g:FuncId):=(zaz 128 (zeb (fun (y:Yd) (s:Sea) (x:Rg) => ((0 ≤ y.t.last ∧ y.t.last ≤ 9) ∧ 0 ≤ x.lo ∧ x.lo < y.chairs.length) ∧ (0 ≤ (at_ y.chairs x.lo.toNat).row ∧ (at_ y.chairs x.lo.toNat).row < s.rows.length) ∧ (0 ≤ (at_ y.chairs x.lo.toNat).hours ∧ (at_ y.chairs x.lo.toNat).hours ≤ 5) ∧ 1 ≤ (at_ y.chairs x.lo.toNat).rot ∧ (at_ y.chairs x.lo.toNat).rot ≤ 9) zfQ) (P112):zaJ) g
theorem zrr:zaA Tryz.prog P113:=zai (zb6 stay_call) (P112_ok)
theorem zo0 (d:Option Nat):zaG P113 d = none:=(zag (by decide) d).trans (zo1 d)
attribute [go_sem] P113 zo0
theorem zin {α β:Type} [Inhabited α] [Inhabited β] {f:α → β} {l:List α} {i:Nat} (h:i < l.length):at_ (l.map f) i = f (at_ l i):=by simp [at_,h]
def zeC (w:List Int):Nat → List Bool
 | 0 => List.replicate 10 false
 | k + 1 => (zeC w k).set (at_ w k).toNat true
theorem zdH (w:List Int):∀ k,(zeC w k).length = 10
 | 0 => rfl
 | k + 1 => by unfold zeC; rw [czt]; exact zdH w k
theorem zr6 {w:List Int} (hw:∀ x ∈ w,0 ≤ x ∧ x < 10):∀ k,k ≤ w.length → ∀ i,i < 10 → at_ (zeC w k) i = (w.take k).contains (i:Int)
 | 0,_,i,hi => by
  show at_ (List.replicate 10 false) i = _
  rw [zdi (by simpa using hi),List.getElem_replicate]
  rfl
 | k + 1,hk,i,hi => by
  have ih:=zr6 hw k (by omega) i hi
  have hx:=hw _ (zbs (l:=w) (i:=k) (by omega))
  unfold zeC
  rw [zaW (by omega)]
  by_cases e:(at_ w k).toNat = i
  ·have h1:at_ ((zeC w k).set (at_ w k).toNat true) i = true:=by
    generalize (at_ w k).toNat = z at e ⊢
    subst e
    rw [zdi (by rw [czt,zdH]; exact hi),List.getElem_set_self]
   rw [h1]
   have:at_ w k = (i:Int):=by omega
   simp [this]
  ·have h1:at_ ((zeC w k).set (at_ w k).toNat true) i = at_ (zeC w k) i:=by
    generalize (at_ w k).toNat = z at e ⊢
    rw [zdi (by rw [czt,zdH]; exact hi),zdi (by rw [zdH]; exact hi),List.getElem_set_ne e]
   rw [h1,ih]
   have:¬ (i:Int) = at_ w k:=by omega
   rw [Bool.eq_iff_iff]
   simp only [List.contains_eq_mem,decide_eq_true_eq,czv,czC]
   exact ⟨.inl,fun q => q.resolve_right this⟩
theorem znr {hs:List Int} (h10:hs.length ≤ 10) (lv:Int):zeC (zgR hs lv) (zgR hs lv).length = rowB hs lv:=by
 have hm:∀ x:Int,x ∈ zgR hs lv ↔ ∃ i:Nat,i < hs.length ∧ lv < at_ hs i ∧ x = i:=by
  intro x
  unfold zgR zky
  simp only [czx,List.mem_filter,List.mem_range,decide_eq_true_eq]
  constructor
  ·rintro ⟨i,⟨h1,h2⟩,rfl⟩; exact ⟨i,h1,h2,rfl⟩
  ·rintro ⟨i,h1,h2,rfl⟩; exact ⟨i,⟨h1,h2⟩,rfl⟩
 apply List.ext_getElem
 ·rw [zdH,zrW]
 ·intro i h1 h2
  rw [zdH] at h1
  have g1:=zr6 (w:=zgR hs lv) (fun x hx => by obtain ⟨k,q1,_,q3⟩:=(hm x).1 hx; omega) _ (czf _) i h1
  rw [zdi (by rw [zdH]; exact h1),czm] at g1
  rw [g1,← zdi h2]
  unfold rowB
  rw [zgM _ h1]
  rw [Bool.eq_iff_iff]
  simp only [List.contains_eq_mem,decide_eq_true_eq,czl]
  rw [hm]
  constructor
  ·rintro ⟨k,q1,q2,q3⟩
   have:i = k:=by omega
   subst this
   exact ⟨q1,q2⟩
  ·rintro ⟨q1,q2⟩; exact ⟨i,q1,q2,rfl⟩
theorem wetL_lt {hs:List Int} (h10:hs.length ≤ 10) {lv x:Int} (hx:x ∈ zgR hs lv):0 ≤ x ∧ x < 10:=by
 unfold zgR zky at hx
 simp only [czx,List.mem_filter,List.mem_range,decide_eq_true_eq] at hx
 obtain ⟨i,⟨h1,_⟩,rfl⟩:=hx
 omega
def seaQ (t:Tb) (hs:List Int):Sea × Bool:=if (zkD t hs).2 = 0 then (zbW t hs,true) else (⟨hs,[]⟩,false)
theorem zp0 (t:Tb) (hs:List Int):(zkD t hs = (t.levels.map (zgR hs),0) ∧ zbo t = 0 ∧ za8 t hs = true) ∨ ∃ e,zkD t hs = ([],e) ∧ e ≠ 0:=by
 unfold zkD
 by_cases c:zbo t = 0
 ·rw [if_pos c]
  cases c2:za8 t hs
  ·exact .inr ⟨2,by simp,by decide⟩
  ·exact .inl ⟨by simp,c,rfl⟩
 ·rw [if_neg c]
  exact .inr ⟨_,rfl,c⟩
theorem sea_call (y:Yd) (hs:List Int) (h:y.t.heights.length ≤ 4096 ∧ hs.length ≤ 4096):zaQ Tryz.prog 73 [Enc.enc y,Enc.enc hs] (· = Enc.enc (seaQ y.t hs)):=by
 have h1:=h.1
 have h2:=h.2
 simp only [zab]
 unfold seaQ
 rcases zp0 y.t hs with ⟨hp,hf,hl⟩ | ⟨e,hp,he⟩
 case inr =>
  rw [hp,if_neg he]
  simp only [zb5]
  refine cpz zrr Tryz.func73 zaC ?_
  rw [Tryz.ntmps73]
  simp only [Tryz.f73,zah,zam]
  simp (maxSteps:=4000000) only [go_sem,zae,zac,zad,zan,zaq,zaa,czb,cza,↓reduceIte,zab,onz,hp,he]
  all_goals (repeat' first | (with_reducible first | rfl | apply And.intro | assumption) | ((with_reducible show zaj _ _ = true); rfl)) <;> try first | omega | (simp only [InR]; omega)
  refine zbG (0) [] [1,4,5,7,20,21] (fun i => [(22,.int .i64 (0:Int))]) (fun _ m => m) (fun _ => True) ?_ ?_ ?_ ?_
  ·trivial
  ·simp [AV.bare,zal,zaN,zaS,zak,zas,zaf,tokz1,lk,zaa,za3,-List.map_map]
  ·intro i hi _; omega
  ·intro _
   simp (maxSteps:=4000000) only [go_sem,zae,zac,zad,zan,zaq,zaa,czb,cza,↓reduceIte,zab,onz,he,czA,decide_false]
   all_goals exact auz
 have hv:=zct hf
 have h10:hs.length ≤ 10:=by have:=zbR hl; have:=hv.hok.len; omega
 have hlv:=hv.lv
 rw [hp,if_pos rfl]
 have hso:zbW y.t hs = ⟨hs,y.t.levels.map (zpi hs)⟩:=rfl
 rw [hso]
 obtain ⟨R,hR⟩:∃ R:Nat → List (BA 10),∀ i,R i = (y.t.levels.take i).map (zpi hs):=⟨_,fun _ => rfl⟩
 have hRl:∀ i,i ≤ y.t.levels.length → (R i).length = i:=fun i hi => by rw [hR]; simp; omega
 have hRs:∀ i,i < y.t.levels.length → R (i + 1) = R i ++ [zpi hs (at_ y.t.levels i)]:=fun i hi => by rw [hR,hR,zaW hi,List.map_append]; rfl
 have hRf:R y.t.levels.length = y.t.levels.map (zpi hs):=by rw [hR,czm]
 rw [← hRf]
 have hR0:R 0 = []:=by rw [hR]; rfl
 simp only [zb5]
 refine cpz zrr Tryz.func73 zaC ?_
 rw [Tryz.ntmps73]
 simp only [Tryz.f73,zah,zam]
 simp (maxSteps:=4000000) only [go_sem,zae,zac,zad,zan,zaq,zaa,czb,cza,↓reduceIte,zab,onz,hp,czz]
 all_goals (repeat' first | (with_reducible first | rfl | apply And.intro | assumption) | ((with_reducible show zaj _ _ = true); rfl)) <;> try first | omega | (simp only [InR]; omega)
 refine zbG (y.t.levels.length) [.cell 1 1 10] [1,4,5,7,20,21] (fun i => [(22,.int .i64 i)]) (fun i m => (m.set 1 (.cells [.sl [] .full,.sl ((R i).map EncE.cs) (.own 2)])).set 2 (.tok i 10)) (fun _ => True) ?_ ?_ ?_ ?_
 ·trivial
 ·simp [AV.bare,zal,zaN,zaS,zak,zas,zaf,tokz1,lk,zaa,za3,hR0,-List.map_map]
 ·intro i hi _
  have hi':=czH.2 hi
  have hge:((y.t.levels.map (zgR hs)).map EncE.cs).getD i [] = [AV.sl ((zgR hs (at_ y.t.levels i)).map EncE.cs) .no]:=by
   rw [zar (by simpa using hi),zin hi]; rfl
  obtain ⟨w,hw⟩:∃ w,zgR hs (at_ y.t.levels i) = w:=⟨_,rfl⟩
  have hwl:∀ x ∈ w,0 ≤ x ∧ x < 10:=fun x hx => wetL_lt h10 (by rw [hw]; exact hx)
  have hwn:w.length ≤ hs.length:=by rw [← hw]; exact zi0 _ _ _
  have hrow:zeC w w.length = (zpi hs (at_ y.t.levels i)).l:=by rw [← hw]; exact znr h10 _
  rw [hw] at hge
  have hm0:[AV.bool false,AV.bool false,AV.bool false,AV.bool false,AV.bool false,AV.bool false,AV.bool false,AV.bool false,AV.bool false,AV.bool false] = (zeC w 0).map AV.bool:=rfl
  have hrl:=hRl i (by omega)
  simp (maxSteps:=4000000) only [go_sem,zae,zac,zad,zan,zaq,zaa,czb,cza,↓reduceIte,zab,onz,hi',hge,hm0]
  all_goals (repeat' first | (with_reducible first | rfl | apply And.intro | assumption) | ((with_reducible show zaj _ _ = true); rfl)) <;> try first | omega | (simp only [InR]; omega)
  refine zbG (w.length) [] [1,4,5,7,9,10,20,21,22,24,25,26,27] (fun k => [(28,.int .i64 k)]) (fun k m => m.set 3 (.cells ((zeC w k).map AV.bool))) (fun _ => True) ?_ ?_ ?_ ?_
  ·trivial
  ·simp [AV.bare,zal,zaN,zaS,zak,zas,zaf,tokz1,lk,zaa,za3,-List.map_map]
  ·intro k hk _
   have hk':=czH.2 hk
   have hkx:=hwl _ (zbs hk)
   obtain ⟨x,hx⟩:=czu hkx.1
   have hge2:(w.map EncE.cs).getD k [] = [AV.int .i64 (x:Int)]:=by rw [zar hk,hx]; rfl
   have hml:=zdH w k
   have hov:=zk5 (l:=zeC w k) (i:=x) (by omega) true
   have hms:(zeC w k).set x true = zeC w (k + 1):=by
    show _ = (zeC w k).set (at_ w k).toNat true
    rw [hx]; rfl
   rw [hms] at hov
   have hx10:x < 10:=by omega
   simp (maxSteps:=4000000) only [go_sem,zae,zac,zad,zaq,zaa,czb,cza,↓reduceIte,zab,onz,hk',hge2,hml,hov]
   all_goals (repeat' first | (with_reducible first | rfl | apply And.intro | assumption) | ((with_reducible show zaj _ _ = true); rfl)) <;> try first | omega | (simp only [InR]; omega)
   refine nxt hk trivial ?_
   simp [AV.bare,zal,zaN,zaS,zak,zas,zaf,tokz1,lk,zaa,za3,-List.map_map]
  ·intro _
   have hra:=(zpi hs (at_ y.t.levels i)).h
   have hts:(zpi hs (at_ y.t.levels i)).l.map AV.bool = EncE.cs (zpi hs (at_ y.t.levels i)):=rfl
   simp (maxSteps:=4000000) only [go_sem,zae,zac,zad,zan,zaq,zaa,czb,cza,↓reduceIte,zab,onz,czA,decide_false,hrow,hra,hrl]
   all_goals (repeat' first | (with_reducible first | rfl | apply And.intro | assumption) | ((with_reducible show zaj _ _ = true); rfl)) <;> try first | omega | (simp only [InR]; omega)
   refine nxt hi trivial ?_
   simp [AV.bare,zal,zaN,zaS,zak,zas,zaf,tokz1,lk,zaa,za3,hRs i hi,-List.map_map]
 ·intro _
  simp (maxSteps:=4000000) only [go_sem,zae,zac,zad,zan,zaq,zaa,czb,cza,↓reduceIte,zab,onz,czA,decide_false]
  all_goals exact auz
def P114 (g:FuncId):=(zaz 73 (zbE (fun (y:Yd) (hs:List Int) => y.t.heights.length ≤ 4096 ∧ hs.length ≤ 4096) (fun y hs => seaQ y.t hs)) (P113):zaJ) g
theorem zfH:zaA Tryz.prog P114:=zai (zaM sea_call) (zrr)
theorem zoZ (d:Option Nat):zaG P114 d = none:=(zag (by decide) d).trans (zo0 d)
attribute [go_sem] P114 zoZ
end Go.Proofs
