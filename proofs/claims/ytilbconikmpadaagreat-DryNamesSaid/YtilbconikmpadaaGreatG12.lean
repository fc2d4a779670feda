/- The texts HD, HM1, HG, HM2, HM3, H1, H2, H3, joined. -/
import Derived.Test.YtilbconikmpadaaGreatG7
import Derived.Test.YtilbconikmpadaaGreatG6
import Derived.Test.YtilbconikmpadaaGreatG10
import Derived.Test.YtilbconikmpadaaGreatG11
set_option linter.all false
namespace Go.Fs
structure BA (n:Nat) where
 l:List Bool
 h:l.length = n
theorem BA.ext {n:Nat} {a b:BA n} (h:a.l = b.l):a = b:=by cases a; cases b; simp_all
instance {n:Nat}:Inhabited (BA n):=⟨⟨List.replicate n false,by simp⟩⟩
theorem zj5:∀ (cs:List AV) (l:List Bool),zdg cs = some l → cs = l.map AV.bool
 | [],l,h => by simp only [zdg,czg] at h; subst h; rfl
 | c :: cs,l,h => by
  unfold zdg at h
  split at h
  ·cases h; simp_all
  ·rename_i n r heq
   cases heq
   simp only [czr] at h
   obtain ⟨y,h1,rfl⟩:=h
   rw [zj5 _ _ h1]
   rfl
  ·cases h
theorem zj4 (l:List Bool):zdg (l.map AV.bool) = some l:=by
 induction l with
 | nil => rfl
 | cons x l ih => simp [zdg,ih]
def znD (n:Nat) (cs:List AV):Option (BA n) :=
 match zdg cs with
 | some l => if h:l.length = n then some ⟨l,h⟩ else none
 | none => none
theorem znC {n:Nat} {cs:List AV} {x:BA n} (h:znD n cs = some x):cs = x.l.map AV.bool:=by
 unfold znD at h
 split at h
 ·rename_i l hl
  split at h
  ·cases h; exact zj5 _ _ hl
  ·cases h
 ·cases h
theorem znB {n:Nat} (x:BA n):znD n (x.l.map AV.bool) = some x:=by
 unfold znD
 rw [zj4]
 simp [x.h]
theorem zgr {p:AV → Prop} (hp:∀ b,p (.bool b)) (l:List Bool):∀ c ∈ l.map AV.bool,p c:=fun c hc => by
 obtain ⟨b,_,rfl⟩:=czx.1 hc
 exact hp b
theorem zlh (l:List Bool):∀ c ∈ l.map AV.bool,zbr 1 c:=zgr (fun b => trivial) l
instance {n:Nat}:Enc (BA n) where
 enc x:=.agg (x.l.map AV.bool)
 dec
  | .agg cs => znD n cs
  | _ => none
 law v x h:=by
  split at h
  ·rw [znC h]
  ·cases h
 dep:=2
 ok x:=zlh x.l
instance {n:Nat}:EncE (BA n) where
 cs x:=x.l.map AV.bool
 dcs cs:=znD n cs
 law v x h:=znC h
 inv x:=znB x
 dep:=1
 sz:=n
 len x:=by simp [x.h]
 ok x:=zlh x.l
section
variable {n:Nat}
theorem enc_ba (x:BA n):Enc.enc x = .agg (x.l.map AV.bool):=rfl
theorem cs_ba (x:BA n):EncE.cs x = x.l.map AV.bool:=rfl
theorem dec_ba (cs:List AV):(Enc.dec (.agg cs):Option (BA n)) = znD n cs:=rfl
theorem dcs_ba (cs:List AV):(EncE.dcs cs:Option (BA n)) = znD n cs:=rfl
theorem dep_ba:EncE.dep (BA n) = 1:=rfl
theorem sz_ba:EncE.sz (BA n) = n:=rfl
theorem eta_ba (x:BA n):(⟨x.l,x.h⟩:BA n) = x:=rfl
end
structure Ch where
 row:Int
 hours:Int
 rot:Int
instance:Inhabited Ch:=⟨⟨0,0,0⟩⟩
instance:Enc Ch where
 enc m:=.agg [.int .i64 m.row,.int .i64 m.hours,.int .i64 m.rot]
 dec
  | .agg [.int .i64 a,.int .i64 b,.int .i64 c] => some ⟨a,b,c⟩
  | _ => none
 law v x h:=by
  split at h
  ·cases h; rfl
  ·cases h
 dep:=2
 ok x:=by simp [zbr]
instance:EncE Ch where
 cs m:=[.int .i64 m.row,.int .i64 m.hours,.int .i64 m.rot]
 dcs
  | [.int .i64 a,.int .i64 b,.int .i64 c] => some ⟨a,b,c⟩
  | _ => none
 law v x h:=by
  split at h
  ·cases h; rfl
  ·cases h
 inv _:=rfl
 dep:=1
 sz:=3
 len _:=rfl
 ok x:=by simp [zbr]
theorem enc_ch (m:Ch):Enc.enc m = .agg [.int .i64 m.row,.int .i64 m.hours,.int .i64 m.rot]:=rfl
theorem cs_ch (m:Ch):EncE.cs m = [.int .i64 m.row,.int .i64 m.hours,.int .i64 m.rot]:=rfl
theorem dec_ch (a b c:Int):(Enc.dec (.agg [.int .i64 a,.int .i64 b,.int .i64 c]):Option Ch) = some ⟨a,b,c⟩:=rfl
theorem dcs_ch (a b c:Int):(EncE.dcs [.int .i64 a,.int .i64 b,.int .i64 c]:Option Ch) = some ⟨a,b,c⟩:=rfl
theorem dep_ch:EncE.dep Ch = 1:=rfl
theorem sz_ch:EncE.sz Ch = 3:=rfl
theorem eta_ch (r:Ch):(⟨r.row,r.hours,r.rot⟩:Ch) = r:=rfl
structure Sy where
 wet:Int
 rot:Int
 free:List Int
instance:Inhabited Sy:=⟨⟨0,0,[]⟩⟩
instance:Enc Sy where
 enc m:=.agg [.int .i64 m.wet,.int .i64 m.rot,.sl (m.free.map EncE.cs) .no]
 dec
  | .agg [.int .i64 a,.int .i64 b,.sl es .no] => (zdC es:Option (List Int)).map fun c => ⟨a,b,c⟩
  | _ => none
 law v x h:=by
  split at h
  ·simp only [czr] at h
   obtain ⟨c,h1,rfl⟩:=h
   rw [zbx _ _ h1]
  ·cases h
 dep:=3
 ok x:=by
  simp only [zbr,czn,czk,or_false,forall_eq_or_imp,forall_eq,true_and,czx,forall_exists_index,and_imp,forall_apply_eq_imp_iff₂]
  exact fun a _ => EncE.ok a
instance:EncE Sy where
 cs m:=[.int .i64 m.wet,.int .i64 m.rot,.sl (m.free.map EncE.cs) .no]
 dcs
  | [.int .i64 a,.int .i64 b,.sl es .no] => (zdC es:Option (List Int)).map fun c => ⟨a,b,c⟩
  | _ => none
 law v x h:=by
  split at h
  ·simp only [czr] at h
   obtain ⟨c,h1,rfl⟩:=h
   rw [zbx _ _ h1]
  ·cases h
 inv x:=by simp only [zdo,Option.map_some]
 dep:=2
 sz:=3
 len _:=rfl
 ok x:=by
  simp only [zbr,czn,czk,or_false,forall_eq_or_imp,forall_eq,true_and,czx,forall_exists_index,and_imp,forall_apply_eq_imp_iff₂]
  exact fun a _ => EncE.ok a
theorem enc_sy (m:Sy):Enc.enc m = .agg [.int .i64 m.wet,.int .i64 m.rot,.sl (m.free.map EncE.cs) .no]:=rfl
theorem cs_sy (m:Sy):EncE.cs m = [.int .i64 m.wet,.int .i64 m.rot,.sl (m.free.map EncE.cs) .no]:=rfl
theorem dec_sy (a b:Int) (es:List (List AV)):(Enc.dec (.agg [.int .i64 a,.int .i64 b,.sl es .no]):Option Sy) = (zdC es:Option (List Int)).map fun c => ⟨a,b,c⟩:=rfl
theorem dcs_sy (a b:Int) (es:List (List AV)):(EncE.dcs [.int .i64 a,.int .i64 b,.sl es .no]:Option Sy) = (zdC es:Option (List Int)).map fun c => ⟨a,b,c⟩:=rfl
theorem zrS:EncE.dep Sy = 2:=rfl
theorem sz_sy:EncE.sz Sy = 3:=rfl
theorem eta_sy (r:Sy):(⟨r.wet,r.rot,r.free⟩:Sy) = r:=rfl
structure Sea where
 hs:List Int
 rows:List (BA 10)
instance:Inhabited Sea:=⟨⟨[],[]⟩⟩
def ziz:List AV → Option Sea
 | [.sl a .no,.sl b .no] =>
  match (zdC a:Option (List Int)),(zdC b:Option (List (BA 10))) with
  | some a,some b => some ⟨a,b⟩
  | _,_ => none
 | _ => none
theorem zie {cs:List AV} {s:Sea} (h:ziz cs = some s):cs = [.sl (s.hs.map EncE.cs) .no,.sl (s.rows.map EncE.cs) .no]:=by
 unfold ziz at h
 split at h
 ·split at h
  ·rename_i h1 h2
   cases h
   rw [zbx _ _ h1,zbx _ _ h2]
  ·cases h
 ·cases h
theorem zlC (s:Sea):∀ c ∈ ([.sl (s.hs.map EncE.cs) .no,.sl (s.rows.map EncE.cs) .no]:List AV),zbr 2 c:=by
 simp only [zbr,czn,czk,or_false,forall_eq_or_imp,forall_eq,true_and,czx,forall_exists_index,and_imp,forall_apply_eq_imp_iff₂]
 exact ⟨fun a _ => EncE.ok a,fun a _ => EncE.ok a⟩
instance:Enc Sea where
 enc s:=.agg [.sl (s.hs.map EncE.cs) .no,.sl (s.rows.map EncE.cs) .no]
 dec
  | .agg cs => ziz cs
  | _ => none
 law v x h:=by
  split at h
  ·rw [zie h]
  ·cases h
 dep:=3
 ok:=zlC
instance:EncE Sea where
 cs s:=[.sl (s.hs.map EncE.cs) .no,.sl (s.rows.map EncE.cs) .no]
 dcs:=ziz
 law v x h:=zie h
 inv x:=by simp only [ziz,zdo]
 dep:=2
 sz:=2
 len _:=rfl
 ok:=zlC
theorem enc_sea (s:Sea):Enc.enc s = .agg [.sl (s.hs.map EncE.cs) .no,.sl (s.rows.map EncE.cs) .no]:=rfl
theorem cs_sea (s:Sea):EncE.cs s = [.sl (s.hs.map EncE.cs) .no,.sl (s.rows.map EncE.cs) .no]:=rfl
theorem dec_sea (a b:List (List AV)):(Enc.dec (.agg [.sl a .no,.sl b .no]):Option Sea) = match (zdC a:Option (List Int)),(zdC b:Option (List (BA 10))) with
  | some a,some b => some ⟨a,b⟩
  | _,_ => none:=rfl
theorem dcs_sea (a b:List (List AV)):(EncE.dcs [.sl a .no,.sl b .no]:Option Sea) = match (zdC a:Option (List Int)),(zdC b:Option (List (BA 10))) with
  | some a,some b => some ⟨a,b⟩
  | _,_ => none:=rfl
theorem zfA:EncE.dep Sea = 2:=rfl
theorem sz_sea:EncE.sz Sea = 2:=rfl
theorem eta_sea (s:Sea):(⟨s.hs,s.rows⟩:Sea) = s:=rfl
structure Yd where
 t:Tb
 hands:Int
 chairs:List Ch
 order:List Int
 hires:List Rg
def ydC (y:Yd):List AV:=[.int .i64 y.t.last,.sl (y.t.heights.map EncE.cs) .no,.int .i64 y.t.step,.sl (y.t.levels.map EncE.cs) .no,.sl (y.t.marks.map EncE.cs) .no,
 .int .i64 y.hands,.sl (y.chairs.map EncE.cs) .no,.sl (y.order.map EncE.cs) .no,.sl (y.hires.map EncE.cs) .no]
def ziS:List AV → Option Yd
 | [.int .i64 a,.sl b .no,.int .i64 c,.sl d .no,.sl e .no,.int .i64 f,.sl g .no,.sl h .no,.sl i .no] =>
  match (zdC b:Option (List Rg)),(zdC d:Option (List Int)),(zdC e:Option (List Mk)),(zdC g:Option (List Ch)),(zdC h:Option (List Int)),(zdC i:Option (List Rg)) with
  | some b,some d,some e,some g,some h,some i => some ⟨⟨a,b,c,d,e⟩,f,g,h,i⟩
  | _,_,_,_,_,_ => none
 | _ => none
theorem zfj {cs:List AV} {y:Yd} (h:ziS cs = some y):cs = ydC y:=by
 unfold ziS at h
 split at h
 ·split at h
  ·rename_i h1 h2 h3 h4 h5 h6
   cases h
   rw [zbx _ _ h1,zbx _ _ h2,zbx _ _ h3,zbx _ _ h4,zbx _ _ h5,zbx _ _ h6]
   rfl
  ·cases h
 ·cases h
theorem zfo (y:Yd):∀ c ∈ ydC y,zbr 2 c:=by
 simp only [ydC,zbr,czn,czk,or_false,forall_eq_or_imp,forall_eq,true_and,czx,forall_exists_index,and_imp,forall_apply_eq_imp_iff₂]
 exact ⟨fun a _ => EncE.ok a,fun a _ => EncE.ok a,fun a _ => EncE.ok a,fun a _ => EncE.ok a,fun a _ => EncE.ok a,fun a _ => EncE.ok a⟩
instance:Enc Yd where
 enc y:=.agg (ydC y)
 dec
  | .agg cs => ziS cs
  | _ => none
 law v x h:=by
  split at h
  ·rw [zfj h]
  ·cases h
 dep:=3
 ok:=zfo
theorem enc_yd (y:Yd):Enc.enc y = .agg [.int .i64 y.t.last,.sl (y.t.heights.map EncE.cs) .no,.int .i64 y.t.step,.sl (y.t.levels.map EncE.cs) .no,.sl (y.t.marks.map EncE.cs) .no,
 .int .i64 y.hands,.sl (y.chairs.map EncE.cs) .no,.sl (y.order.map EncE.cs) .no,.sl (y.hires.map EncE.cs) .no]:=rfl
def zcf:=And.intro @zp8 (And.intro @zqa (And.intro @zp9 (And.intro @zek (And.intro @zqb (And.intro @zp7 (And.intro @zhP (And.intro @zl2 (And.intro @enc_rg (And.intro @enc_mk (And.intro @enc_ch (And.intro @enc_sy (And.intro @enc_sea (And.intro @enc_ba (And.intro @zny @enc_yd))))))))))))))
theorem dec_yd (a c f:Int) (b d e g h i:List (List AV)):(Enc.dec (.agg [.int .i64 a,.sl b .no,.int .i64 c,.sl d .no,.sl e .no,.int .i64 f,.sl g .no,.sl h .no,.sl i .no]):Option Yd) =
  match (zdC b:Option (List Rg)),(zdC d:Option (List Int)),(zdC e:Option (List Mk)),(zdC g:Option (List Ch)),(zdC h:Option (List Int)),(zdC i:Option (List Rg)) with
  | some b,some d,some e,some g,some h,some i => some ⟨⟨a,b,c,d,e⟩,f,g,h,i⟩
  | _,_,_,_,_,_ => none:=rfl
theorem eta_yd (y:Yd):(⟨⟨y.t.last,y.t.heights,y.t.step,y.t.levels,y.t.marks⟩,y.hands,y.chairs,y.order,y.hires⟩:Yd) = y:=rfl
theorem eta_yd' (y:Yd):(⟨y.t,y.hands,y.chairs,y.order,y.hires⟩:Yd) = y:=rfl
theorem zbc {n:Nat} {mem:List AObj} (l:List Bool):(l.map AV.bool).map (zb5 (n + 1) mem) = l.map AV.bool:=by
 rw [List.map_map]; rfl
theorem za2 (l:List Bool):(l.map AV.bool).map AV.strip = l.map AV.bool:=by rw [List.map_map]; rfl
theorem zaX (l:List Bool):(l.map AV.bool).map AV.strip1 = l.map AV.bool:=by rw [List.map_map]; rfl
theorem zbb (l:List Bool):(l.map AV.bool).map AV.soft = l.map AV.bool:=by rw [List.map_map]; rfl
theorem zbp {n:Nat} (l:List Bool):(∀ c ∈ l.map AV.bool,imm (n + 1) c) = True:=eq_true (zgr (fun b => trivial) l)
theorem zbd {n:Nat} (l:List Bool):(∀ c ∈ l.map AV.bool,ziM (n + 1) c) = True:=eq_true (zgr (fun b => trivial) l)
theorem zbn (l:List Bool):(∀ c ∈ l.map AV.bool,c.one = true) = True:=eq_true (zgr (fun b => rfl) l)
theorem bel_bools {k n:Nat} (l:List Bool):(∀ c ∈ l.map AV.bool,bel k (n + 1) c) = True:=eq_true (zgr (fun b => trivial) l)
theorem take_ba {n:Nat} (x:BA n):(x.l.map AV.bool).take n = x.l.map AV.bool:=cze (by simp [x.h])
theorem zpm {n:Nat} {mem:List AObj} (l:List Bool):(l.map AV.bool).map (zbW (zb5 (n + 1) mem) mem) = l.map AV.bool:=by
 rw [List.map_map]; rfl
theorem ztR {l:List Bool} {i:Nat} (h:i < l.length):(l.map AV.bool).getD i .undef = .bool (at_ l i):=by simp [at_,List.getD,h]
theorem zdropB:List.drop 10 [AV.bool false,AV.bool false,AV.bool false,AV.bool false,AV.bool false,AV.bool false,AV.bool false,AV.bool false,AV.bool false,AV.bool false] = []:=rfl
theorem zkV {l:List Bool} {i:Nat} (h:i < l.length) (v:Bool):zan (l.map AV.bool) i [.bool v] = (l.set i v).map AV.bool:=by
 unfold zan
 rw [← List.map_take,← List.map_drop,List.set_eq_take_append_cons_drop,if_pos h]
 simp
theorem over_at {a b c v:List AV} (h:v.length = b.length):zan (a ++ (b ++ c)) a.length v = a ++ (v ++ c):=by
 unfold zan
 rw [List.take_left,List.drop_append,czM (by omega),List.nil_append,Nat.add_sub_cancel_left,h,List.drop_left,czd]
theorem ziB {sz:Nat}:∀ es:List (List AV),(∀ e ∈ es,e.length = sz) → zc4 sz es.length es.flatten = es
 | [],_ => rfl
 | e :: es,h => by
  have h0:=h e (by simp)
  simp only [cza,List.flatten_cons,zc4]
  rw [List.take_left' h0,List.drop_left' h0,ziB es (fun x hx => h x (by simp [hx]))]
theorem ztm {mem:List AObj} {n m:Nat} {v:AV} (h:zbr n v) (hm:n ≤ m):zbW (zb5 m mem) mem v = v:=by
 have hp:=zhw (mem:=mem) n m v h hm
 cases v <;> first | exact hp | (exfalso; cases n <;> simp [zbr] at h)
theorem zta {α:Type} [EncE α] {mem:List AObj} {n:Nat} (h:EncE.dep α ≤ n) (l:List α):((l.map EncE.cs).flatten).map (zbW (zb5 n mem) mem) = (l.map EncE.cs).flatten:=by
 refine zcF fun c hc => ?_
 obtain ⟨e,he,hce⟩:=List.mem_flatten.1 hc
 obtain ⟨x,_,rfl⟩:=czx.1 he
 exact ztm (EncE.ok x c hce) h
theorem zul {k n:Nat} (p q:Prop):(∀ c:AV,(p → AV.bool false = c → bel k (n + 1) c) ∧ (q → AV.bool true = c → bel k (n + 1) c)) = True:=eq_true fun c => ⟨fun _ e => e ▸ trivial,fun _ e => e ▸ trivial⟩
theorem zuk {k n:Nat} (p q:Prop):(∀ c:AV,p ∧ AV.bool false = c ∨ q ∧ AV.bool true = c → bel k (n + 1) c) = True:=eq_true fun c h => by
 rcases h with ⟨_,e⟩ | ⟨_,e⟩ <;> subst e <;> trivial
def za3:=And.intro @zl9 (And.intro @cs_arr (And.intro @zqf (And.intro @zeF (And.intro @zql (And.intro @zqk (And.intro @cs_rg (And.intro @cs_mk (And.intro @cs_ch (And.intro @cs_sy (And.intro @cs_sea (And.intro @cs_ba (And.intro @zcj (And.intro @zdD (And.intro @zjY (And.intro @zl5 (And.intro @zl4 (And.intro @dep_rg (And.intro @dep_mk (And.intro @dep_ch (And.intro @zrS (And.intro @zfA (And.intro @dep_ba (And.intro @zl8 (And.intro @zr1 (And.intro @zr0 (And.intro @znN (And.intro @bel_int (And.intro @znP (And.intro @zrY (And.intro @zrZ (And.intro @zqC (And.intro @zqD (And.intro @bel_mp (And.intro @zqA (And.intro @bel_agg (And.intro @bel_tup (And.intro @zqB (And.intro @zrX (And.intro @bel_mpr (And.intro @bel_fn (And.intro @zlk (And.intro @zj7 (And.intro @zj6 (And.intro @zj8 (And.intro @zll (And.intro @zbm (And.intro @zc5 (And.intro @zdj (And.intro @zbC (And.intro @zdd (And.intro @zhU (And.intro @zcu (And.intro @bel_vec (And.intro @bel_vp (And.intro @znQ (And.intro @zr2 (And.intro @bel_bools (And.intro @zul @zuk))))))))))))))))))))))))))))))))))))))))))))))))))))))))))
attribute [go_sem] enc_ba cs_ba dec_ba dcs_ba dep_ba sz_ba eta_ba enc_ch cs_ch dec_ch dcs_ch dep_ch sz_ch eta_ch enc_sy cs_sy dec_sy dcs_sy zrS sz_sy eta_sy enc_sea cs_sea dec_sea dcs_sea zfA sz_sea eta_sea enc_yd dec_yd eta_yd eta_yd' zdg zj4 znB zbc za2 zaX zbb zbp zbd zbn take_ba zpm zdropB
end Go.Fs
namespace Go.Fs
def zmg (W:Nat → Bool) (r h:Nat):Bool:=(List.range r).all fun k => W (h - k)
def zfr (W:Nat → Bool) (r:Nat):Nat → Option Nat
 | 0 => none
 | k + 1 => match zfr W r k with
  | some h => some h
  | none => if decide (r ≤ k + 1) && zmg W r k then some k else none
def zjv (W:Nat → Bool) (r n:Nat):Nat:=(zfr W r n).getD n
theorem zh4 {W:Nat → Bool} {r:Nat}:∀ {k h:Nat},zfr W r k = some h → h < k
 | 0,h,e => by cases e
 | k + 1,h,e => by
  unfold zfr at e
  cases c:zfr W r k with
  | some h' =>
   rw [c] at e
   have:=zh4 c
   cases e; omega
  | none =>
   rw [c] at e
   simp only at e
   split at e
   ·cases e; omega
   ·cases e
theorem zmO {W:Nat → Bool} {r k h:Nat} (e:zfr W r k = some h):∀ m,zfr W r (k + m) = some h
 | 0 => e
 | m + 1 => by
  show zfr W r (k + m + 1) = some h
  unfold zfr
  rw [zmO e m]
theorem zgB {W:Nat → Bool} {r k n h:Nat} (hk:k ≤ n) (e:zfr W r k = some h):zfr W r n = some h:=by
 have:=zmO e (n - k)
 rwa [show k + (n - k) = n by omega] at this
theorem zjw {W:Nat → Bool} {r:Nat}:∀ k,k < r → zfr W r k = none
 | 0,_ => rfl
 | k + 1,h => by
  unfold zfr
  rw [zjw k (by omega),if_neg]
  simp; omega
theorem zmP {W:Nat → Bool} {r k n h:Nat} (e:zfr W r n = some h) (hk:h < k) (hkn:k ≤ n):zfr W r k = some h:=by
 cases c:zfr W r k with
 | some h' => rw [zgB hkn c] at e; exact e
 | none =>
  exfalso
  have key:∀ m,zfr W r (k + m) = some h → False:=by
   intro m
   induction m with
   | zero => intro q; rw [Nat.add_zero,c] at q; cases q
   | succ m ih =>
    intro q
    rw [← Nat.add_assoc] at q
    unfold zfr at q
    cases c2:zfr W r (k + m) with
    | some h2 => rw [c2] at q; cases q; exact ih c2
    | none =>
     rw [c2] at q
     simp only at q
     split at q
     ·cases q; omega
     ·cases q
  have:=key (n - k)
  rw [show k + (n - k) = n by omega] at this
  exact this e
def zjr (W:Nat → Bool):Nat → Nat
 | 0 => 0
 | k + 1 => if W k then zjr W k + 1 else 0
theorem runW_le (W:Nat → Bool):∀ k,zjr W k ≤ k
 | 0 => czf _
 | k + 1 => by
  unfold zjr
  have:=runW_le W k
  split <;> omega
theorem zi1 (W:Nat → Bool):∀ (r k:Nat),1 ≤ r → (r ≤ zjr W (k + 1) ↔ r ≤ k + 1 ∧ zmg W r k = true)
 | 0,k,h => by omega
 | 1,k,_ => by
  unfold zjr
  cases c:W k
  ·simp [zmg,c]
  ·simp [zmg,c]
 | r + 2,0,_ => by
  unfold zjr zjr
  split <;> omega
 | r + 2,k + 1,_ => by
  have ih:=zi1 W (r + 1) k (by omega)
  have e:zmg W (r + 2) (k + 1) = (W (k + 1) && zmg W (r + 1) k):=by
   unfold zmg
   rw [List.range_succ_eq_map,List.all_cons,List.all_map]
   congr 1
   have:(fun k_1 => W (k + 1 - k_1)) ∘ Nat.succ = fun j => W (k - j):=by
    funext j
    show W (k + 1 - (j + 1)) = W (k - j)
    congr 1
    omega
   rw [this]
  rw [e]
  show r + 2 ≤ (if W (k + 1) then zjr W (k + 1) + 1 else 0) ↔ _
  cases c:W (k + 1)
  ·simp
  ·simp only [if_true,Bool.true_and]
   rw [show r + 2 ≤ zjr W (k + 1) + 1 ↔ r + 1 ≤ zjr W (k + 1) by omega,ih]
   constructor
   ·rintro ⟨h1,h2⟩; exact ⟨by omega,h2⟩
   ·rintro ⟨h1,h2⟩; exact ⟨by omega,h2⟩
def zps (W:Nat → Bool) (r:Int) (n:Nat):Nat → Int
 | 0 => n
 | k + 1 => if W k && decide ((zjr W (k + 1):Int) = r) then min (zps W r n k) k else zps W r n k
theorem zpr {W:Nat → Bool} {r n:Nat} (hr:1 ≤ r):∀ k,k ≤ n → zps W r n k = (((zfr W r k).getD n:Nat):Int)
 | 0,_ => rfl
 | k + 1,hk => by
  have ih:=zpr (W:=W) (n:=n) hr k (by omega)
  unfold zps zfr
  rw [ih]
  cases c:zfr W r k with
  | some h =>
   have:=zh4 c
   simp only [Option.getD_some]
   split <;> omega
  | none =>
   simp only [Option.getD_none]
   have hi:=zi1 W r k hr
   have hlt:k = 0 ∨ zjr W k < r:=by
    by_cases q:zjr W k < r
    ·exact .inr q
    ·left
     cases k with
     | zero => rfl
     | succ k =>
      exfalso
      obtain ⟨h1,h2⟩:=(zi1 W r k hr).1 (by omega)
      unfold zfr at c
      cases c2:zfr W r k with
      | some h => rw [c2] at c; cases c
      | none => rw [c2] at c; simp [h1,h2] at c
   by_cases q:decide (r ≤ k + 1) && zmg W r k
   ·rw [if_pos q]
    have q':=q
    simp only [czl,decide_eq_true_eq] at q'
    have h1:=hi.2 q'
    have h2:W k = true ∧ zjr W (k + 1) = r:=by
     unfold zjr at h1 ⊢
     cases c3:W k
     ·rw [c3] at h1; simp at h1; omega
     ·rw [c3] at h1
      simp only [if_true] at h1 ⊢
      refine ⟨trivial,?_⟩
      rcases hlt with rfl | h
      ·simp [zjr] at h1 ⊢; omega
      ·omega
    rw [h2.1,h2.2]
    simp; omega
   ·rw [if_neg q,if_neg]
    ·rfl
    ·intro h
     simp only [czl,decide_eq_true_eq] at h
     apply q
     simp only [czl,decide_eq_true_eq]
     exact hi.1 (by omega)
def zeI (W:Nat → Bool):Nat → Int
 | 0 => -1
 | k + 1 => if W k then k else zeI W k
theorem zrL (W:Nat → Bool):∀ k,-1 ≤ zeI W k ∧ zeI W k < k
 | 0 => by simp [zeI]
 | k + 1 => by
  unfold zeI
  have:=zrL W k
  split <;> omega
def zrU (W:Nat → Bool) (rot:Nat) (hours:Int) (h:Nat):Bool:=!W h && (decide (h < rot) && (decide (zeI W h < 0) || decide (hours < h - zeI W h)))
def zqm (W:Nat → Bool) (n:Nat):Int:=(((List.range n).filter W).length:Nat)
def zgg (W:Nat → Bool) (rot:Nat) (hours:Int) (n:Nat):List Int:=((List.range n).filter (zrU W rot hours)).map fun h:Nat => (h:Int)
theorem cntW_succ (W:Nat → Bool) (n:Nat):zqm W (n + 1) = if W n then zqm W n + 1 else zqm W n:=by
 unfold zqm
 rw [List.range_succ,List.filter_append,czc]
 cases c:W n <;> simp [c]
theorem cntW_bd (W:Nat → Bool) (n:Nat):0 ≤ zqm W n ∧ zqm W n ≤ n:=by
 unfold zqm
 have:=List.length_filter_le W (List.range n)
 simp at this
 omega
theorem ztT (W:Nat → Bool) (rot:Nat) (hours:Int) (n:Nat):zgg W rot hours (n + 1) = if zrU W rot hours n then zgg W rot hours n ++ [(n:Int)] else zgg W rot hours n:=by
 unfold zgg
 rw [List.range_succ,List.filter_append,List.map_append]
 cases c:zrU W rot hours n <;> simp [c]
theorem znv (W:Nat → Bool) (rot:Nat) (hours:Int) (n:Nat):(zgg W rot hours n).length ≤ n:=by
 unfold zgg
 have:=List.length_filter_le (zrU W rot hours) (List.range n)
 simp at this ⊢
 omega
theorem mem_freeW {W:Nat → Bool} {rot:Nat} {hours:Int} {n:Nat} {x:Int}:x ∈ zgg W rot hours n ↔ ∃ h:Nat,h < n ∧ zrU W rot hours h = true ∧ x = h:=by
 unfold zgg
 simp only [czx,List.mem_filter,List.mem_range]
 constructor
 ·rintro ⟨h,⟨h1,h2⟩,rfl⟩; exact ⟨h,h1,h2,rfl⟩
 ·rintro ⟨h,h1,h2,rfl⟩; exact ⟨h,⟨h1,h2⟩,rfl⟩
theorem zky {W:Nat → Bool} {rot:Nat} {hours:Int} {n:Nat} {h:Nat} (hh:h < n):(zgg W rot hours n).contains (h:Int) = zrU W rot hours h:=by
 rw [Bool.eq_iff_iff]
 simp only [List.contains_eq_mem,decide_eq_true_eq]
 rw [mem_freeW]
 constructor
 ·rintro ⟨k,_,h2,e⟩
  rwa [show h = k by omega]
 ·intro q; exact ⟨h,hh,q,rfl⟩
def syW (W:Nat → Bool) (c:Ch) (n:Nat):Sy:=⟨zqm W n,(zjv W c.rot.toNat n:Nat),zgg W (zjv W c.rot.toNat n) c.hours n⟩
theorem rotP_last {W:Nat → Bool} {r n k:Nat} (hr:1 ≤ r) (hk:k < n) (hw:W k = false):decide ((k:Int) < zps W r n k) = decide (k < zjv W r n):=by
 rw [zpr hr k (by omega)]
 unfold zjv
 cases c:zfr W r n with
 | some h =>
  have hh:=zh4 c
  by_cases q:h < k
  ·rw [zmP c q (by omega)]
   simp
  ·have hne:h ≠ k:=by
    rintro rfl
    have:=zmP c (k:=h + 1) (by omega) (by omega)
    unfold zfr at this
    cases c2:zfr W r h with
    | some h2 =>
     rw [c2] at this
     have:=zh4 c2
     simp_all
    | none =>
     rw [c2] at this
     simp only at this
     split at this
     ·rename_i q2
      simp only [czl,decide_eq_true_eq] at q2
      have h3:=(zi1 W r h hr).2 q2
      unfold zjr at h3
      rw [hw] at h3
      simp at h3
      omega
     ·cases this
   have hn:zfr W r k = none:=by
    cases c2:zfr W r k with
    | none => rfl
    | some h2 =>
     have h3:=zh4 c2
     have:=zgB (n:=n) (by omega) c2
     rw [c] at this
     cases this
     omega
   rw [hn]
   simp; omega
 | none =>
  have hn:zfr W r k = none:=by
   cases c2:zfr W r k with
   | none => rfl
   | some h2 => rw [zgB (by omega) c2] at c; cases c
  rw [hn]
  simp
theorem zmA {W V:Nat → Bool} {c:Ch} {n:Nat} (h:∀ k,k < n → W k = V k):syW W c n = syW V c n:=by
 have hall:∀ r k,k < n → zmg W r k = zmg V r k:=fun r k hk => by
  unfold zmg
  congr 1
  funext j
  exact h _ (by omega)
 have hrot:∀ r k,k ≤ n → zfr W r k = zfr V r k:=fun r k => by
  induction k with
  | zero => intro _; rfl
  | succ k ih =>
   intro hk
   unfold zfr
   rw [ih (by omega),hall r k (by omega)]
 have hlast:∀ k,k ≤ n → zeI W k = zeI V k:=fun k => by
  induction k with
  | zero => intro _; rfl
  | succ k ih =>
   intro hk
   unfold zeI
   rw [ih (by omega),h k (by omega)]
 have hR:zjv W c.rot.toNat n = zjv V c.rot.toNat n:=by unfold zjv; rw [hrot _ _ (czf _)]
 have hc:zqm W n = zqm V n:=by
  unfold zqm
  congr 2
  apply List.filter_congr
  intro k hk
  exact h k (by simpa using hk)
 have hf:zgg W (zjv V c.rot.toNat n) c.hours n = zgg V (zjv V c.rot.toNat n) c.hours n:=by
  unfold zgg
  congr 1
  apply List.filter_congr
  intro k hk
  have hk':k < n:=by simpa using hk
  unfold zrU
  rw [h k hk',hlast k (by omega)]
 unfold syW
 rw [hR,hc,hf]
end Go.Fs
namespace Go.Proofs
open Go.Fs
set_option maxHeartbeats 4000000
structure PS (n0:Nat) (P:(Nat → Prop) → Prop) (al:List Int) (q:List Int → Bool):Prop where
 mono:∀ S T:Nat → Prop,(∀ k,k < n0 → T k → S k) → P S → P T
 none:∀ S:Nat → Prop,(∀ k,k < n0 → ¬ S k) → P S
 can:∀ m:Nat,m < 2 ^ n0 → (canB al (m:Int) = true ↔ P (fun k => m.testBit k = true))
 cast:∀ l:List Nat,q (zci l) = true ↔ P (fun k => k ∉ l)
structure LeastG (n0:Nat) (P:(Nat → Prop) → Prop) (l:List Nat):Prop where
 inc:Inc 0 n0 l
 poss:P (fun k => k ∉ l)
 least:∀ l',Inc 0 n0 l' → P (fun k => k ∉ l') → zcP (zci l') (zci l) = false
theorem LeastG.eq {n0:Nat} {P:(Nat → Prop) → Prop} {a b:List Nat} (h1:LeastG n0 P a) (h2:LeastG n0 P b):a = b :=
 zj1 (zhm (h2.least a h1.inc h1.poss) (h1.least b h2.inc h2.poss))
theorem can_bitsG {n0:Nat} {P:(Nat → Prop) → Prop} {al:List Int} {q:List Int → Bool} (hv:PS n0 P al q) {b:Nat} (hb:b < 2 ^ n0):canB al (((2 ^ n0 - 1) - ((2 ^ n0 - 1) &&& b):Nat):Int) = true ↔ P (fun k => k ∉ zez b n0):=by
 rw [hv.can _ (by have:=Nat.two_pow_pos n0; omega)]
 have key:∀ k,k < n0 → (((2 ^ n0 - 1) - ((2 ^ n0 - 1) &&& b)).testBit k = true ↔ k ∉ zez b n0):=by
  intro k hk
  rw [zmB rfl hb]
  unfold zez
  rw [List.mem_filter,List.mem_range]
  simp [hk]
 exact ⟨fun h => hv.mono _ _ (fun k hk hS => (key k hk).2 hS) h,fun h => hv.mono _ _ (fun k hk hS => (key k hk).1 hS) h⟩
theorem zhH {n0:Nat} {P:(Nat → Prop) → Prop} {al:List Int} {q:List Int → Bool} (hv:PS n0 P al q):∀ n,n ≤ 2 ^ n0 → ∃ l,zhI al (2 ^ n0 - 1) n = zci l ∧ Inc 0 n0 l ∧ P (fun k => k ∉ l) ∧
  ∀ b,b < n → P (fun k => k ∉ zez b n0) → zcP (zci (zez b n0)) (zci l) = false
 | 0,_ => by
  have h2:=Nat.two_pow_pos n0
  refine ⟨zez (2 ^ n0 - 1) n0,by rw [zhI,zli (n:=n0) (by omega)],zkW _ _,hv.none _ fun k hk => ?_,fun b hb => by omega⟩
  intro q
  apply q
  unfold zez
  rw [List.mem_filter,List.mem_range,zga]
  simpa using hk
 | n + 1,hn => by
  obtain ⟨l,h1,h2,h3,h4⟩:=zhH hv n (by omega)
  have hb:n < 2 ^ n0:=by omega
  have hc:=can_bitsG hv hb
  rw [zhI,h1,zli hb]
  cases c1:zcP (zci (zez n n0)) (zci l)
  ·refine ⟨l,by rw [Bool.false_and,if_neg (by simp)],h2,h3,fun b hb hP => ?_⟩
   by_cases e:b = n
   ·subst e; exact c1
   ·exact h4 b (by omega) hP
  ·cases c2:canB al (((2 ^ n0 - 1) - ((2 ^ n0 - 1) &&& n):Nat):Int)
   ·refine ⟨l,by rw [Bool.true_and,if_neg (by simp)],h2,h3,fun b hb hP => ?_⟩
    by_cases e:b = n
    ·subst e
     rw [hc.2 hP] at c2; cases c2
    ·exact h4 b (by omega) hP
   ·refine ⟨zez n n0,by rw [Bool.true_and,if_pos rfl],zkW _ _,hc.1 c2,fun b hb hP => ?_⟩
    by_cases e:b = n
    ·subst e; exact zkr _
    ·rw [Bool.eq_false_iff]
     intro q
     have:=h4 b (by omega) hP
     rw [zlz q c1] at this
     cases this
theorem zlT {n0:Nat} {P:(Nat → Prop) → Prop} {al:List Int} {q:List Int → Bool} (hv:PS n0 P al q):∃ l,zhI al (2 ^ n0 - 1) (2 ^ n0) = zci l ∧ LeastG n0 P l:=by
 obtain ⟨l,h1,h2,h3,h4⟩:=zhH hv _ (czf _)
 refine ⟨l,h1,h2,h3,fun l' hi hP => ?_⟩
 have:=h4 (zjj l') (toBits_lt fun x hx => (hi.mem x hx).2)
 rw [zlL hi] at this
 exact this hP
/-! The program's search. -/
def zcT (q:List Int → Bool) (n0:Nat):Nat → List Nat → Nat → Option (List Nat)
 | 0,out,_ => if q (zci out) then some out else none
 | m + 1,out,frm => (List.range (n0 - m - frm)).findSome? fun k => zcT q n0 m (out ++ [frm + k]) (frm + k + 1)
theorem ziu {n0:Nat} {P:(Nat → Prop) → Prop} {al:List Int} {q:List Int → Bool} (hv:PS n0 P al q):∀ (m:Nat) (out:List Nat) (frm:Nat),
  (∀ x,zcT q n0 m out frm = some x → ∃ y,x = out ++ y ∧ Inc frm n0 y ∧ y.length = m ∧ q (zci x) = true ∧
   ∀ z,Inc frm n0 z → z.length = m → q (zci (out ++ z)) = true → zb2 (zci z) (zci y) = false) ∧
  (zcT q n0 m out frm = none → ∀ z,Inc frm n0 z → z.length = m → q (zci (out ++ z)) = false)
 | 0,out,frm => by
  unfold zcT
  constructor
  ·intro x hx
   split at hx
   ·rename_i c
    cases hx
    refine ⟨[],by simp,trivial,rfl,c,fun z _ hz _ => ?_⟩
    rw [List.length_eq_zero_iff] at hz
    subst hz; rfl
   ·cases hx
  ·intro hx z _ hz
   rw [List.length_eq_zero_iff] at hz
   subst hz
   rw [List.append_nil]
   split at hx
   ·cases hx
   ·rename_i c; simpa using c
 | m + 1,out,frm => by
  have ih:=fun k => ziu hv m (out ++ [frm + k]) (frm + k + 1)
  have hz1:∀ z,Inc frm n0 z → z.length = m + 1 → ∃ a r,z = a :: r ∧ frm ≤ a ∧ a - frm < n0 - m - frm ∧ Inc (a + 1) n0 r ∧ r.length = m:=by
   intro z hz hl
   cases z with
   | nil => simp at hl
   | cons a r =>
    have hr:r.length = m:=by simpa using hl
    have h1:=hz.1
    refine ⟨a,r,rfl,h1.1,?_,hz.2,hr⟩
    by_cases e:r = []
    ·subst e; simp at hr; omega
    ·have:=hz.2.len e; omega
  unfold zcT
  constructor
  ·intro x hx
   rw [List.findSome?_eq_some_iff] at hx
   obtain ⟨l1,k,l2,hl,hk,hno⟩:=hx
   have hkk:l1 = List.range k ∧ k < n0 - m - frm:=by
    have h1:=congrArg List.length hl
    simp at h1
    have h3:=congrArg (fun l => l[l1.length]?) hl
    simp at h3
    rw [List.getElem?_range (by omega)] at h3
    have h4:l1.length = k:=by simpa using h3
    have h5:=congrArg (List.take l1.length) hl
    rw [List.take_left,List.take_range] at h5
    refine ⟨?_,by omega⟩
    rw [← h5]
    congr 1
    omega
   obtain ⟨y,h1,h2,h3,h4,h5⟩:=(ih k).1 x hk
   refine ⟨(frm + k) :: y,by rw [h1]; simp,⟨⟨by omega,by omega⟩,h2⟩,by simp [h3],h4,fun z hz hl hp => ?_⟩
   obtain ⟨a,r,rfl,g1,g2,g3,g4⟩:=hz1 z hz hl
   by_cases c:a - frm < k
   ·have:=(ih (a - frm)).2 (hno (a - frm) (by rw [hkk.1]; simpa using c)) r (by rw [show frm + (a - frm) + 1 = a + 1 by omega]; exact g3) g4
    rw [show frm + (a - frm) = a by omega,czd] at this
    rw [show out ++ a :: r = out ++ ([a] ++ r) from rfl,this] at hp
    cases hp
   ·show zb2 ((a:Int) :: zci r) (((frm + k:Nat):Int) :: zci y) = false
    unfold zb2
    by_cases e:a = frm + k
    ·subst e
     rw [if_pos rfl]
     refine h5 r g3 g4 ?_
     rw [czd]; exact hp
    ·rw [if_neg (by omega)]
     simp; omega
  ·intro hx z hz hl
   rw [List.findSome?_eq_none_iff] at hx
   obtain ⟨a,r,rfl,g1,g2,g3,g4⟩:=hz1 z hz hl
   have:=(ih (a - frm)).2 (hx (a - frm) (by simpa using g2)) r (by rw [show frm + (a - frm) + 1 = a + 1 by omega]; exact g3) g4
   rw [show frm + (a - frm) = a by omega,czd] at this
   exact this
def zg5 (q:List Int → Bool) (n0:Nat):Nat → Nat → Option (List Nat)
 | 0,_ => none
 | f + 1,m => match zcT q n0 m [] 0 with
  | some x => some x
  | none => zg5 q n0 f (m + 1)
theorem zhG {n0:Nat} {P:(Nat → Prop) → Prop} {al:List Int} {q:List Int → Bool} (hv:PS n0 P al q):∀ (f m:Nat),m + f = n0 + 1 → (∀ z,Inc 0 n0 z → z.length < m → ¬ P (fun k => k ∉ z)) → ∃ x,zg5 q n0 f m = some x ∧ LeastG n0 P x
 | 0,m,hf,hno => by
  exfalso
  refine hno (List.range n0) (inc_of List.pairwise_lt_range fun x hx => by rw [List.mem_range] at hx; omega) (by simp; omega) (hv.none _ fun k hk q => q (by simpa using hk))
 | f + 1,m,hf,hno => by
  obtain ⟨h1,h2⟩:=ziu hv m [] 0
  unfold zg5
  cases c:zcT q n0 m [] 0 with
  | some x =>
   obtain ⟨y,e,g1,g2,g3,g4⟩:=h1 x c
   rw [List.nil_append] at e
   subst e
   refine ⟨x,rfl,g1,(hv.cast x).1 g3,fun z hz hP => ?_⟩
   rw [Bool.eq_false_iff]
   intro q
   rw [zfp] at q
   have hl:∀ l:List Nat,(zci l).length = l.length:=fun l => by simp [zci]
   rw [hl,hl] at q
   rcases q with q | ⟨q,q2⟩
   ·exact hno z hz (by omega) hP
   ·have:=g4 z hz (by omega) ((hv.cast _).2 hP)
    rw [this] at q2; cases q2
  | none =>
   refine zhG hv f (m + 1) (by omega) fun z hz hl hP => ?_
   by_cases e:z.length = m
   ·have:=h2 c z hz e
    rw [List.nil_append,(hv.cast z).2 hP] at this
    cases this
   ·exact hno z hz (by omega) hP
theorem ztG {n0:Nat} {P:(Nat → Prop) → Prop} {al:List Int} {q:List Int → Bool} (hv:PS n0 P al q):∃ x,zg5 q n0 (n0 + 1) 0 = some x ∧ zhI al (2 ^ n0 - 1) (2 ^ n0) = zci x ∧ LeastG n0 P x:=by
 obtain ⟨x,h1,h2⟩:=zhG hv (n0 + 1) 0 (by omega) (fun z _ h => by omega)
 obtain ⟨l,g1,g2⟩:=zlT hv
 have e:=h2.eq g2
 subst e
 exact ⟨x,h1,g1,g2⟩
theorem snoc_ind {α:Type} {P:List α → Prop} (h0:P []) (h1:∀ l x,P l → P (l ++ [x])):∀ l,P l:=by
 have key:∀ (n:Nat) (l:List α),l.length = n → P l:=by
  intro n
  induction n with
  | zero => intro l hl; rw [List.length_eq_zero_iff] at hl; rw [hl]; exact h0
  | succ n ih =>
   intro l hl
   have hne:l ≠ []:=by intro e; rw [e] at hl; simp at hl
   rw [← List.dropLast_concat_getLast hne]
   exact h1 _ _ (ih _ (by simp [hl]))
 exact fun l => key _ l rfl
def hrs (y:Yd):Nat:=(y.t.last + 1).toNat
def inY (hands:Int) (order:List Int) (c:Int) (h:Nat):Bool:=(order.take (hands * ((h:Int) + 1)).toNat).contains c
def lvY (y:Yd) (c:Int):Int:=at_ y.t.levels (at_ y.chairs c.toNat).row.toNat
def zo2 (y:Yd) (order hs:List Int) (c:Int) (h:Nat):Bool:=decide (lvY y c < at_ hs h) && !inY y.hands order c h
def zuZ (y:Yd) (order hs:List Int) (c:Int):Nat:=zjv (zo2 y order hs c) (at_ y.chairs c.toNat).rot.toNat (hrs y)
def canY (y:Yd) (order hs:List Int) (c:Int) (h:Nat):Bool:=zrU (zo2 y order hs c) (zuZ y order hs c) (at_ y.chairs c.toNat).hours h
def zmX (y:Yd) (order hs:List Int) (c:Int):Sy:=syW (zo2 y order hs c) (at_ y.chairs c.toNat) (hrs y)
theorem ztn (y:Yd) (order hs:List Int) (c:Int):(zmX y order hs c).free = zgg (zo2 y order hs c) (zuZ y order hs c) (at_ y.chairs c.toNat).hours (hrs y):=rfl
def za8 (n:Nat) (l:List Int):Bool:=(List.range l.length).all fun i => inB (at_ l i) 0 ((n:Int) - 1) && !(l.take i).contains (at_ l i)
theorem zqG {α:Type} [Inhabited α] {a b:List α} {i:Nat} (h:i < a.length):at_ (a ++ b) i = at_ a i:=by
 simp [at_,List.getD,czi h]
theorem zun {α:Type} [Inhabited α] (a:List α) (x:α):at_ (a ++ [x]) a.length = x:=by simp [at_,List.getD]
theorem ziw (n:Nat) (l:List Int) (x:Int):za8 n (l ++ [x]) = (za8 n l && (inB x 0 ((n:Int) - 1) && !l.contains x)):=by
 unfold za8
 rw [czc,cza,czy,Nat.zero_add,List.range_succ,List.all_append]
 congr 1
 ·apply zdA
  intro i hi
  have hi':i < l.length:=by simpa using hi
  rw [zqG hi',List.take_append_of_le_length (by omega)]
 ·simp only [List.all_cons,List.all_nil,Bool.and_true]
  rw [zun,List.take_left']
  rfl
theorem zjR (n:Nat):∀ l:List Int,za8 n l = true ↔ (∀ x ∈ l,0 ≤ x ∧ x < n) ∧ l.Nodup:=by
 apply snoc_ind
 ·simp [za8]
 ·intro l x ih
  rw [ziw,czl,ih,czl,zbO]
  rw [List.nodup_append]
  simp only [czv,czC,Bool.not_eq_true',List.contains_eq_mem,decide_eq_false_iff_not]
  constructor
  ·rintro ⟨⟨h1,h2⟩,h3,h4⟩
   refine ⟨?_,h2,by simp,?_⟩
   ·rintro y (h | rfl)
    ·exact h1 y h
    ·omega
   ·rintro a ha b rfl e
    subst e
    exact h4 ha
  ·rintro ⟨h1,h2,_,h4⟩
   refine ⟨⟨fun y hy => h1 y (.inl hy),h2⟩,?_,?_⟩
   ·have:=h1 x (.inr rfl); omega
   ·intro hx; exact h4 x hx x rfl rfl
theorem znk {n:Nat} {l:List Int} (h:za8 n l = true) (k:Nat):za8 n (l.take k) = true:=by
 rw [zjR] at h ⊢
 exact ⟨fun x hx => h.1 x (List.mem_of_mem_take hx),h.2.sublist (List.take_sublist _ _)⟩
theorem zjD:∀ (n:Nat) (l:List Int),(∀ x ∈ l,0 ≤ x ∧ x < (n:Int)) → l.Nodup → l.length ≤ n
 | 0,l,h,_ => by
  cases l with
  | nil => exact czf _
  | cons x r => have:=h x (by simp); omega
 | n + 1,l,h,hd => by
  have h1:=zjD n (l.erase (n:Int)) (fun x hx => by
   have hx':=List.mem_of_mem_erase hx
   have:=h x hx'
   have hne:x ≠ (n:Int):=by
    rintro rfl
    exact absurd hx (hd.not_mem_erase)
   omega) (hd.erase _)
  have h2:l.length ≤ (l.erase (n:Int)).length + 1:=by
   rw [List.length_erase]
   split <;> omega
  omega
theorem zjB {n:Nat} {l:List Int} (h:za8 n l = true):l.length ≤ n:=by
 rw [zjR] at h
 exact zjD n l h.1 h.2
structure VY (y:Yd):Prop where
 c5:y.chairs.length ≤ 5
 r5:y.hires.length ≤ 5
 f:zbq y.t = 0
 tr:zaS y.t ≠ []
 h0:0 ≤ y.hands
 h5:y.hands ≤ 5
 ord:za8 y.chairs.length y.order = true
 ch:∀ c ∈ y.chairs,(0 ≤ c.row ∧ c.row < y.t.levels.length) ∧ (0 ≤ c.hours ∧ c.hours ≤ 5) ∧ 1 ≤ c.rot ∧ c.rot ≤ 9
 hi:∀ h ∈ y.hires,(0 ≤ h.lo ∧ h.lo < y.chairs.length) ∧ 0 ≤ h.hi ∧ h.hi ≤ y.t.last
def zdi (t:Tb) (c:Ch):Bool:=inB c.row 0 ((t.levels.length:Int) - 1) && inB c.hours 0 5 && inB c.rot 1 9
def zeJ (n:Nat) (last:Int) (h:Rg):Bool:=inB h.lo 0 ((n:Int) - 1) && inB h.hi 0 last
def zbk (y:Yd):Int :=
 if 5 < y.chairs.length ∨ 5 < y.hires.length then 3
 else if zbq y.t ≠ 0 then zbq y.t
 else if zaS y.t = [] then 11
 else if (inB y.hands 0 5 && za8 y.chairs.length y.order) = false then 1
 else if y.chairs.all (zdi y.t) = false then 1
 else if y.hires.all (zeJ y.chairs.length y.t.last) = false then 1
 else 0
theorem zkp {y:Yd} (h:zbk y = 0):VY y:=by
 unfold zbk at h
 split at h
 ·cases h
 rename_i g1
 split at h
 ·exact absurd h ‹_›
 rename_i g2
 split at h
 ·cases h
 rename_i g3
 split at h
 ·cases h
 rename_i g4
 split at h
 ·cases h
 rename_i g5
 split at h
 ·cases h
 rename_i g6
 simp only [Bool.not_eq_false,czl,zbO,czG,zdi,zeJ,ne_eq,Decidable.not_not] at g2 g4 g5 g6
 refine ⟨by omega,by omega,g2,g3,g4.1.1,g4.1.2,g4.2,fun c hc => ?_,fun h hh => ?_⟩
 ·have:=g5 c hc; omega
 ·have:=g6 h hh; omega
theorem VY.fault {y:Yd} (h:VY y):zbk y = 0:=by
 have h1:=h.c5
 have h2:=h.r5
 unfold zbk
 rw [if_neg (by omega),if_neg (by simp [h.f]),if_neg h.tr,if_neg,if_neg,if_neg]
 ·simp only [Bool.not_eq_false,czG,zeJ,czl,zbO]
  intro x hx
  have:=h.hi x hx
  omega
 ·simp only [Bool.not_eq_false,czG,zdi,czl,zbO]
  intro x hx
  have:=h.ch x hx
  omega
 ·simp only [Bool.not_eq_false,czl,zbO]
  exact ⟨⟨h.h0,h.h5⟩,h.ord⟩
theorem VY.fok {y:Yd} (h:VY y):FOk y.t:=fok_of h.f
theorem VY.l0 {y:Yd} (h:VY y):0 ≤ y.t.last ∧ y.t.last ≤ 9:=⟨h.fok.l0,h.fok.l9⟩
theorem VY.hrs {y:Yd} (h:VY y):((hrs y:Nat):Int) = y.t.last + 1 ∧ 1 ≤ hrs y ∧ hrs y ≤ 10:=by
 have:=h.l0
 unfold Go.Proofs.hrs
 omega
theorem VY.at {y:Yd} (h:VY y) {c:Int} (h0:0 ≤ c) (h1:c < y.chairs.length):c.toNat < y.chairs.length ∧ (0 ≤ (at_ y.chairs c.toNat).row ∧ (at_ y.chairs c.toNat).row < y.t.levels.length) ∧
  (0 ≤ (at_ y.chairs c.toNat).hours ∧ (at_ y.chairs c.toNat).hours ≤ 5) ∧ 1 ≤ (at_ y.chairs c.toNat).rot ∧ (at_ y.chairs c.toNat).rot ≤ 9:=by
 have hc:c.toNat < y.chairs.length:=by omega
 exact ⟨hc,h.ch _ (zbv hc)⟩
/-! Hires. -/
def rbp (p:Nat → Bool):Nat → Nat
 | 0 => 0
 | n + 1 => if p n then rbp p n ||| 2 ^ n else rbp p n
theorem zgZ (p:Nat → Bool):∀ n k,(rbp p n).testBit k = (decide (k < n) && p k)
 | 0,k => by simp [rbp]
 | n + 1,k => by
  have ih:=zgZ p n k
  unfold rbp
  by_cases e:k = n
  ·subst e
   cases c:p k
   ·simp only [czp,if_false,ih]; simp
   ·simp [Nat.testBit_or,ih,Nat.testBit_two_pow]
  ·have e1:decide (k < n + 1) = decide (k < n):=by simp; omega
   rw [e1]
   split
   ·rw [Nat.testBit_or,ih,Nat.testBit_two_pow]
    simp
    intro h; omega
   ·exact ih
def zd6 (y:Yd) (hs:List Int) (k:Nat):Bool:=canY y y.order hs (at_ y.hires k).lo (at_ y.hires k).hi.toNat
def zfs (y:Yd) (hs:List Int):Bool:=(List.range y.hires.length).all (zd6 y hs)
def bitsY (y:Yd) (hs:List Int):Nat:=rbp (zd6 y hs) y.hires.length
def zeV (y:Yd):List (List Int):=(zaS y.t).filter (zfs y)
def allY (y:Yd):List Int:=(zaS y.t).map fun hs => (bitsY y hs:Int)
/-! Verdicts, hours, losses. -/
def zeX (y:Yd) (order hs:List Int) (n:Nat):Int:=(((List.range n).filter fun c:Nat => decide ((zuZ y order hs c:Int) ≤ y.t.last)).length:Nat)
def zeW (y:Yd) (order hs:List Int):Int:=zeX y order hs y.chairs.length
def lossY (y:Yd) (ls:List (List Int)) (order:List Int):Int:=ls.foldl (fun n hs => max n (zeW y order hs)) 0
theorem zmM (y:Yd) (order hs:List Int) (n:Nat):zeX y order hs (n + 1) = if (zuZ y order hs n:Int) ≤ y.t.last then zeX y order hs n + 1 else zeX y order hs n:=by
 unfold zeX
 rw [List.range_succ,List.filter_append,czc]
 by_cases c:(zuZ y order hs n:Int) ≤ y.t.last <;> simp [c]
theorem zth (y:Yd) (order hs:List Int) (n:Nat):0 ≤ zeX y order hs n ∧ zeX y order hs n ≤ n:=by
 unfold zeX
 have:=List.length_filter_le (fun c:Nat => decide ((zuZ y order hs c:Int) ≤ y.t.last)) (List.range n)
 simp at this
 omega
structure IsLoss (y:Yd) (ls:List (List Int)) (order:List Int) (m:Int):Prop where
 ex:∃ hs ∈ ls,zeW y order hs = m
 le:∀ hs ∈ ls,zeW y order hs ≤ m
theorem IsLoss.eq {y:Yd} {ls ls':List (List Int)} {order:List Int} {m m':Int} (h:IsLoss y ls order m) (h':IsLoss y ls' order m') (h1:∀ hs ∈ ls,∃ hs' ∈ ls',zeW y order hs' = zeW y order hs)
  (h2:∀ hs ∈ ls',∃ hs' ∈ ls,zeW y order hs' = zeW y order hs):m = m':=by
 obtain ⟨a,ha,e⟩:=h.ex
 obtain ⟨b,hb,e'⟩:=h'.ex
 obtain ⟨a',ha',g⟩:=h1 a ha
 obtain ⟨b',hb',g'⟩:=h2 b hb
 have:=h.le b' hb'
 have:=h'.le a' ha'
 omega
/-! Wet in fewer hours. -/
/-! The least loss. -/
structure MinLoss (y:Yd) (ls:List (List Int)) (b:List Int) (m:Int):Prop where
 ex:∃ x,za8 y.chairs.length (b ++ x) = true ∧ lossY y ls (b ++ x) = m
 le:∀ x,za8 y.chairs.length (b ++ x) = true → m ≤ lossY y ls (b ++ x)
theorem MinLoss.eq {y:Yd} {ls:List (List Int)} {b:List Int} {m m':Int} (h:MinLoss y ls b m) (h':MinLoss y ls b m'):m = m':=by
 obtain ⟨x,h1,h2⟩:=h.ex
 obtain ⟨x',h1',h2'⟩:=h'.ex
 have:=h.le x' h1'
 have:=h'.le x h1
 omega
def leastF (y:Yd) (ls:List (List Int)):Nat → List Int → Int
 | 0,b => lossY y ls b
 | f + 1,b => (List.range y.chairs.length).foldl (fun best (c:Nat) => if (decide (0 < best) && za8 y.chairs.length (b ++ [(c:Int)])) = true then min best (leastF y ls f (b ++ [(c:Int)])) else best) (lossY y ls b)
def leastY (y:Yd) (ls:List (List Int)) (b:List Int):Int:=leastF y ls (y.chairs.length - b.length) b
def permF (n:Nat):Nat → List Int → List (List Int)
 | 0,now => [now]
 | f + 1,now => (List.range n).flatMap fun c:Nat => if now.contains (c:Int) then [] else permF n f (now ++ [(c:Int)])
def tryP (f:List Int → Int) (a:List Int × Int) (p:List Int):List Int × Int:=if f p < a.2 then (p,f p) else a
def zh3 (t:Tb):Nat → List Int → List (List Int)
 | 0,p => if zeO t p then [p] else []
 | f + 1,p => (List.range (szR (at_ t.heights p.length)).toNat).flatMap fun n:Nat => zh3 t f (p ++ [(at_ t.heights p.length).lo + n])
def zgX (t:Tb) (f:Nat) (p:List Int) (n:Nat):List (List Int):=(List.range n).flatMap fun n:Nat => zh3 t f (p ++ [(at_ t.heights p.length).lo + n])
theorem zh2 (t:Tb) (f:Nat) (p:List Int) (n:Nat):zgX t f p (n + 1) = zgX t f p n ++ zh3 t f (p ++ [(at_ t.heights p.length).lo + n]):=by
 simp only [zgX,List.range_succ,List.flatMap_append,List.flatMap_cons,List.flatMap_nil,List.append_nil]
theorem zf1 (t:Tb) (f:Nat) (p:List Int) (n:Nat):∀ k,∃ r,zgX t f p (n + k) = zgX t f p n ++ r
 | 0 => ⟨[],by simp⟩
 | k + 1 => by
  obtain ⟨r,hr⟩:=zf1 t f p n k
  exact ⟨r ++ _,by rw [← Nat.add_assoc,zh2,hr,czd]⟩
theorem zlO {t:Tb}:∀ (f:Nat) (b p:List Int),p ∈ zh3 t f b ↔ ∃ x,p = b ++ x ∧ x.length = f ∧ (∀ i,i < f → (at_ t.heights (b.length + i)).lo ≤ at_ x i ∧ at_ x i ≤ (at_ t.heights (b.length + i)).hi) ∧ zeO t p = true
 | 0,b,p => by
  unfold zh3
  constructor
  ·intro h
   split at h
   ·rename_i c
    simp only [czC] at h
    subst h
    exact ⟨[],by simp,rfl,fun i hi => by omega,c⟩
   ·cases h
  ·rintro ⟨x,rfl,hx,_,hp⟩
   rw [List.length_eq_zero_iff] at hx
   subst hx
   rw [List.append_nil] at hp ⊢
   rw [if_pos hp]
   simp
 | f + 1,b,p => by
  unfold zh3
  simp only [List.mem_flatMap,List.mem_range]
  constructor
  ·rintro ⟨n,hn,hp⟩
   obtain ⟨x,rfl,hx,hb,hpr⟩:=(zlO f _ p).1 hp
   refine ⟨((at_ t.heights b.length).lo + n) :: x,by simp,by simp [hx],fun i hi => ?_,by simpa using hpr⟩
   cases i with
   | zero =>
    rw [zeS]
    unfold szR at hn
    simp only [Nat.add_zero]
    omega
   | succ i =>
    rw [zcM]
    have:=hb i (by omega)
    rw [czc,cza,czy,Nat.zero_add,show b.length + 1 + i = b.length + (i + 1) by omega] at this
    exact this
  ·rintro ⟨x,rfl,hx,hb,hp⟩
   cases x with
   | nil => simp at hx
   | cons a r =>
    have h0:=hb 0 (by omega)
    rw [zeS,Nat.add_zero] at h0
    have ea:(at_ t.heights b.length).lo + (((a - (at_ t.heights b.length).lo).toNat:Nat):Int) = a:=by omega
    refine ⟨(a - (at_ t.heights b.length).lo).toNat,by unfold szR; omega,?_⟩
    rw [ea]
    refine (zlO f _ _).2 ⟨r,by simp,by simpa using hx,fun i hi => ?_,hp⟩
    have:=hb (i + 1) (by omega)
    rw [zcM] at this
    rw [czc,cza,czy,Nat.zero_add,show b.length + 1 + i = b.length + (i + 1) by omega]
    exact this
def zkP (t:Tb):List (List Int):=zh3 t (t.last + 1).toNat []
theorem prove_ok {t:Tb} (h:zbq t = 0) (p:List Int):zeO t p = zbZ t p:=by unfold zeO; simp [h]
theorem zrG {t:Tb} (h:zbq t = 0) (p:List Int):p ∈ zkP t ↔ p ∈ zaS t:=by
 have hf:=fok_of h
 unfold zkP
 rw [zlO,zg2 hf.vok,prove_ok h]
 constructor
 ·rintro ⟨x,_,_,_,hp⟩; exact hp
 ·intro hp
  have hl:zbg t p = true:=by
   unfold zbZ at hp
   simp only [czl] at hp
   exact hp.1
  have hL:=(ztD p).1 hl
  have hlen:=zbY hl
  have:=hf.len
  refine ⟨p,by simp,by omega,fun i hi => ?_,hp⟩
  rw [czy,Nat.zero_add]
  exact hL.rng i (by omega)
theorem zrr {t:Tb} (hok:HOk t):∀ (f:Nat) (p:List Int),p.length + f = t.heights.length → ((zh3 t f p).length:Int) ≤ zcz (t.heights.drop p.length)
 | 0,p,h => by
  rw [czM (by omega)]
  unfold zh3
  split <;> simp [zcz]
 | f + 1,p,h => by
  have hk:p.length < t.heights.length:=by omega
  have hp1:1 ≤ zcz (t.heights.drop (p.length + 1)):=zmW fun r hr => (hok.h r (List.mem_of_mem_drop hr)).2.1
  have hr:=hok.h _ (zbv hk)
  have key:∀ n:Nat,((zgX t f p n).length:Int) ≤ n * zcz (t.heights.drop (p.length + 1)):=by
   intro n
   induction n with
   | zero => simp [zgX]
   | succ n ih =>
    rw [zh2,czc]
    have hb:((zh3 t f (p ++ [(at_ t.heights p.length).lo + (n:Int)])).length:Int) ≤ zcz (t.heights.drop (p.length + 1)):=by
     have:=zrr hok f (p ++ [(at_ t.heights p.length).lo + (n:Int)]) (by simp; omega)
     simpa using this
    have e:((n + 1:Nat):Int) * zcz (t.heights.drop (p.length + 1)) = n * zcz (t.heights.drop (p.length + 1)) + zcz (t.heights.drop (p.length + 1)):=by
     rw [Int.natCast_add,Int.add_mul]; simp
    rw [e]
    omega
  have:=key (szR (at_ t.heights p.length)).toNat
  rw [show zh3 t (f + 1) p = zgX t f p (szR (at_ t.heights p.length)).toNat from rfl,zgl hk]
  have e2:zcz (at_ t.heights p.length :: t.heights.drop (p.length + 1)) = szR (at_ t.heights p.length) * zcz (t.heights.drop (p.length + 1)):=rfl
  rw [e2]
  have e3:(((szR (at_ t.heights p.length)).toNat:Nat):Int) = szR (at_ t.heights p.length):=by unfold szR; omega
  rw [e3] at this
  exact this
theorem zlD {t:Tb} (hv:VOk t):(zkP t).length ≤ 2000:=by
 have hl:=hv.last
 have:=zrr hv.hok (t.last + 1).toNat [] (by simp; omega)
 obtain ⟨e1,e2⟩:=zfa t.heights (fun r hr => (hv.hok.h r hr).2.1) 1 (by omega) (by omega)
 have hm:=hv.many
 unfold zc7 at hm
 rw [e1] at hm
 simp only [czy,List.drop_zero] at this
 unfold zkP
 omega
/-! Hours in which rows are wet, by the program. -/
def rowB (hs:List Int) (lv:Int):List Bool:=(List.range 10).map fun i => decide (i < hs.length) && decide (lv < at_ hs i)
theorem zry (hs:List Int) (lv:Int):(rowB hs lv).length = 10:=by simp [rowB]
theorem zpq {hs:List Int} {lv:Int} {i:Nat} (h:i < 10) (h':i < hs.length):at_ (rowB hs lv) i = decide (lv < at_ hs i):=by
 unfold rowB
 rw [zhX _ h]
 simp [h']
def zoW (hs:List Int) (lv:Int):BA 10:=⟨rowB hs lv,zry hs lv⟩
def zb1 (t:Tb) (hs:List Int):Sea:=⟨hs,t.levels.map (zoW hs)⟩
def zlE (y:Yd) (p q:List Int):Bool:=y.chairs.all fun c => decide (rowB p (at_ y.t.levels c.row.toNat) = rowB q (at_ y.t.levels c.row.toNat))
def zmb (y:Yd) (a:List (List Int)) (p:List Int):List (List Int):=if a = [] ∨ zlE y (at_ a (a.length - 1)) p = false then a ++ [p] else a
def zba (y:Yd):List (List Int):=(zkP y.t).foldl (zmb y) []
theorem zr3 {y:Yd} {a:List (List Int)} {p q:List Int} (h:q ∈ a):q ∈ zmb y a p:=by
 unfold zmb
 split
 ·simp [h]
 ·exact h
theorem zkc (y:Yd):∀ (l a:List (List Int)),(∀ q ∈ a,q ∈ l.foldl (zmb y) a) ∧ (∀ q ∈ l.foldl (zmb y) a,q ∈ a ∨ q ∈ l) ∧ ∀ q ∈ l,∃ p ∈ l.foldl (zmb y) a,p = q ∨ zlE y p q = true
 | [],a => ⟨fun q h => h,fun q h => .inl h,fun q h => by cases h⟩
 | x :: l,a => by
  simp only [List.foldl_cons]
  obtain ⟨h1,h2,h3⟩:=zkc y l (zmb y a x)
  refine ⟨fun q hq => h1 q (zr3 hq),fun q hq => ?_,fun q hq => ?_⟩
  ·rcases h2 q hq with h | h
   ·unfold zmb at h
    split at h
    ·rcases czv.1 h with h | h
     ·exact .inl h
     ·simp at h; subst h; exact .inr (by simp)
    ·exact .inl h
   ·exact .inr (by simp [h])
  ·rcases czn.1 hq with rfl | hq
   ·by_cases c:a = [] ∨ zlE y (at_ a (a.length - 1)) q = false
    ·exact ⟨q,h1 q (by unfold zmb; rw [if_pos c]; simp),.inl rfl⟩
    ·simp only [not_or,Bool.not_eq_false] at c
     refine ⟨at_ a (a.length - 1),h1 _ (zr3 (zbv ?_)),.inr c.2⟩
     have:=List.length_pos_iff.2 c.1
     omega
   ·exact h3 q hq
theorem zjc (y:Yd):∀ (l a:List (List Int)),(l.foldl (zmb y) a).length ≤ a.length + l.length
 | [],a => by simp
 | x :: l,a => by
  have:=zjc y l (zmb y a x)
  simp only [List.foldl_cons,cza]
  have h:(zmb y a x).length ≤ a.length + 1:=by
   unfold zmb
   split <;> simp
  omega
theorem zt7 {y:Yd} (hv:VOk y.t):(zba y).length ≤ 2000:=by
 have h1:=zjc y (zkP y.t) []
 have h2:=zlD hv
 unfold zba
 simp at h1
 omega
structure Like (y:Yd) (p q:List Int):Prop where
 w:∀ c ∈ y.chairs,∀ h,h < hrs y → decide (at_ y.t.levels c.row.toNat < at_ p h) = decide (at_ y.t.levels c.row.toNat < at_ q h)
theorem zhg {y:Yd} (h:VY y) {p:List Int} (hp:p ∈ zaS y.t):p.length = hrs y:=by
 have h1:=zfW h.fok.vok hp
 have h2:=h.fok.len
 have h3:=h.hrs.1
 omega
theorem like_of {y:Yd} (h:VY y) {p q:List Int} (hp:p.length = hrs y) (hq:q.length = hrs y) (hs:zlE y p q = true):Like y p q:=by
 refine ⟨fun c hc k hk => ?_⟩
 unfold zlE at hs
 rw [czG] at hs
 have h1:=of_decide_eq_true (hs c hc)
 have h3:=h.hrs
 rw [← zpq (by omega) (by omega),← zpq (by omega) (by omega),h1]
theorem Like.refl (y:Yd) (p:List Int):Like y p p:=⟨fun _ _ _ _ => rfl⟩
theorem zni {y:Yd} {p q:List Int} (h:Like y p q) (o:List Int) {c:Int} (hc:c.toNat < y.chairs.length):zmX y o p c = zmX y o q c:=by
 unfold zmX
 refine zmA fun k hk => ?_
 unfold zo2 lvY
 rw [h.w _ (zbv hc) k hk]
theorem zhT {y:Yd} (o p:List Int) (c:Int) {k:Nat} (hk:k < hrs y):canY y o p c k = (zmX y o p c).free.contains (k:Int):=by
 rw [ztn,zky hk]; rfl
theorem zpR {y:Yd} (hv:VY y) {p q:List Int} (h:Like y p q):zfs y p = zfs y q:=by
 unfold zfs
 apply zdA
 intro k hk
 have hk':k < y.hires.length:=by simpa using hk
 have hh:=hv.hi _ (zbv hk')
 have h3:=hv.hrs
 unfold zd6
 rw [zhT _ _ _ (by omega),zhT _ _ _ (by omega),zni h _ (by omega)]
def ziK (y:Yd):List (List Int):=(zba y).filter (zfs y)
theorem zjF {y:Yd} {p:List Int}:p ∈ zeV y ↔ p ∈ zaS y.t ∧ zfs y p = true:=List.mem_filter
theorem zhS {y:Yd} (hv:VY y) {p:List Int} (h:p ∈ zba y):p ∈ zaS y.t:=by
 obtain ⟨_,h2,_⟩:=zkc y (zkP y.t) []
 rcases h2 p h with q | q
 ·cases q
 ·exact (zrG hv.f p).1 q
theorem zlf {y:Yd} (hv:VY y) {q:List Int} (h:q ∈ zaS y.t):∃ p ∈ zba y,Like y p q:=by
 obtain ⟨_,_,h3⟩:=zkc y (zkP y.t) []
 obtain ⟨p,hp,e⟩:=h3 q ((zrG hv.f q).2 h)
 refine ⟨p,hp,?_⟩
 rcases e with rfl | e
 ·exact .refl _ _
 ·exact like_of hv (zhg hv (zhS hv hp)) (zhg hv h) e
theorem work_mem {y:Yd} (hv:VY y) {p:List Int} (h:p ∈ ziK y):p ∈ zeV y:=by
 obtain ⟨h1,h2⟩:=List.mem_filter.1 h
 exact zjF.2 ⟨zhS hv h1,h2⟩
theorem work_like {y:Yd} (hv:VY y) {q:List Int} (h:q ∈ zeV y):∃ p ∈ ziK y,Like y p q:=by
 obtain ⟨h1,h2⟩:=zjF.1 h
 obtain ⟨p,hp,hl⟩:=zlf hv h1
 exact ⟨p,List.mem_filter.2 ⟨hp,by rw [zpR hv hl]; exact h2⟩,hl⟩
theorem zrg {y:Yd} (hv:VY y):ziK y = [] ↔ zeV y = []:=by
 constructor
 ·intro h
  cases c:zeV y with
  | nil => rfl
  | cons q r =>
   obtain ⟨p,hp,_⟩:=work_like hv (q:=q) (by rw [c]; simp)
   rw [h] at hp; cases hp
 ·intro h
  cases c:ziK y with
  | nil => rfl
  | cons q r =>
   have:=work_mem hv (p:=q) (by rw [c]; simp)
   rw [h] at this; cases this
set_option maxRecDepth 8000
theorem znz (n lo hi:Int):zaP Tryz.prog 82 [Enc.enc n,Enc.enc lo,Enc.enc hi] (· = Enc.enc (inB n lo hi)):=by
 simp only [zcf]
 refine cpz P50_ok Tryz.func82 zaB ?_
 rw [Tryz.ntmps82]
 simp only [Tryz.f82,zai,zam]
 simp (maxSteps:=4000000) only [go_sem,AV.one,zae,zac,zad,zan,zaq,zaa,czb,cza,↓reduceIte,zbc,zbp,za2,zaX,zbb,zbd,zbn,zab,zay,onz]
 rfl
theorem zl3 (l:List Int) (h:l ≠ [] ∧ l.length ≤ 4096):zaP Tryz.prog 159 [Enc.enc l] (· = Enc.enc (zrD l)):=by
 simp only [zcf]
 refine cpz P50_ok Tryz.func159 zaB ?_
 rw [Tryz.ntmps159]
 simp only [Tryz.f159,zai,zam]
 simp (maxSteps:=4000000) only [go_sem,AV.one,zae,zac,zad,zan,zaq,zaa,czb,cza,↓reduceIte,zbc,zbp,za2,zaX,zbb,zbd,zbn,zab,zay,onz]
 exact h
def P100 (g:FuncId):=(zas 82 (zec (fun _ _ _ => True) inB) (zas 159 (zcC (fun l:List Int => l ≠ [] ∧ l.length ≤ 4096) zrD) (P50)):zaJ) g
theorem zmn:zaz Tryz.prog P100:=zah (zb8 fun a b c _ => znz a b c) (zah (zbj zl3) (P50_ok))
theorem zoS (d:Option Nat):zaF P100 d = none:=(zag (by decide) d).trans ((zag (by decide) d).trans (zmh d))
attribute [go_sem] P100 zoS
theorem zqc (r:Rg) (n:Int):zaP Tryz.prog 140 [Enc.enc r,Enc.enc n] (· = Enc.enc (zdt r n)):=by
 simp only [zcf]
 refine cpz zmn Tryz.func140 zaB ?_
 rw [Tryz.ntmps140]
 simp only [Tryz.f140,zai,zam]
 simp (maxSteps:=4000000) only [go_sem,AV.one,zae,zac,zad,zan,zaq,zaa,czb,cza,↓reduceIte,zbc,zbp,za2,zaX,zbb,zbd,zbn,zab,zay,onz,zhz]
 exact ⟨rfl,by simp,rfl⟩
theorem znm (y:Yd) (n:Int) (h:y.chairs.length ≤ 4096):zaP Tryz.prog 93 [Enc.enc y,Enc.enc n] (· = Enc.enc (inB n 0 ((y.chairs.length:Int) - 1))):=by
 simp only [zcf]
 refine cpz zmn Tryz.func93 zaB ?_
 rw [Tryz.ntmps93]
 simp only [Tryz.f93,zai,zam]
 simp (maxSteps:=4000000) only [go_sem,AV.one,zae,zac,zad,zan,zaq,zaa,czb,cza,↓reduceIte,zbc,zbp,za2,zaX,zbb,zbd,zbn,zab,zay,onz]
 all_goals exact auz
theorem zpT (y:Yd) (n:Int):zaP Tryz.prog 94 [Enc.enc y,Enc.enc n] (· = Enc.enc (inB n 0 y.t.last)):=by
 simp only [zcf]
 refine cpz zmn Tryz.func94 zaB ?_
 rw [Tryz.ntmps94]
 simp only [Tryz.f94,zai,zam]
 simp (maxSteps:=4000000) only [go_sem,AV.one,zae,zac,zad,zan,zaq,zaa,czb,cza,↓reduceIte,zbc,zbp,za2,zaX,zbb,zbd,zbn,zab,zay,onz]
def P101 (g:FuncId):=(zas 140 (zbF (fun (_:Rg) (_:Int) => True) zdt) (zas 93 (zbF (fun (y:Yd) (_:Int) => y.chairs.length ≤ 4096) (fun y n => inB n 0 ((y.chairs.length:Int) - 1))) (zas 94 (zbF (fun (_:Yd) (_:Int) => True) (fun y n => inB n 0 y.t.last)) (P100))):zaJ) g
theorem zq3:zaz Tryz.prog P101:=zah (zaM fun r n _ => zqc r n) (zah (zaM znm) (zah (zaM fun y n _ => zpT y n) (zmn)))
theorem zoR (d:Option Nat):zaF P101 d = none:=(zag (by decide) d).trans ((zag (by decide) d).trans ((zag (by decide) d).trans (zoS d)))
attribute [go_sem] P101 zoR
theorem zt8 (y:Yd) (c:Ch) (h:y.t.levels.length ≤ 4096):zaP Tryz.prog 79 [Enc.enc y,Enc.enc c] (· = Enc.enc (zdi y.t c)):=by
 simp only [zcf]
 refine cpz zq3 Tryz.func79 zaB ?_
 rw [Tryz.ntmps79]
 simp only [Tryz.f79,zai,zam]
 simp (maxSteps:=4000000) only [go_sem,AV.one,zae,zac,zad,zan,zaq,zaa,czb,cza,↓reduceIte,zbc,zbp,za2,zaX,zbb,zbd,zbn,zab,zay,onz]
 all_goals (repeat' first | (with_reducible first | rfl | apply And.intro | assumption) | ((with_reducible show zaj _ _ = true); rfl)) <;> try first | omega | (simp only [InR]; omega)
 rfl
theorem hire_call (y:Yd) (c:Rg) (h:y.chairs.length ≤ 4096):zaP Tryz.prog 80 [Enc.enc y,Enc.enc c] (· = Enc.enc (zeJ y.chairs.length y.t.last c)):=by
 simp only [zcf]
 refine cpz zq3 Tryz.func80 zaB ?_
 rw [Tryz.ntmps80]
 simp only [Tryz.f80,zai,zam]
 simp (maxSteps:=4000000) only [go_sem,AV.one,zae,zac,zad,zan,zaq,zaa,czb,cza,↓reduceIte,zbc,zbp,za2,zaX,zbb,zbd,zbn,zab,zay,onz]
 all_goals (repeat' first | (with_reducible first | rfl | apply And.intro | assumption) | ((with_reducible show zaj _ _ = true); rfl)) <;> try first | omega | (simp only [InR]; omega)
 rfl
def P102 (g:FuncId):=(zas 79 (zbF (fun (y:Yd) (_:Ch) => y.t.levels.length ≤ 4096) (fun y c => zdi y.t c)) (zas 80 (zbF (fun (y:Yd) (_:Rg) => y.chairs.length ≤ 4096) (fun y c => zeJ y.chairs.length y.t.last c)) (P101)):zaJ) g
theorem P102_ok:zaz Tryz.prog P102:=zah (zaM zt8) (zah (zaM hire_call) (zq3))
theorem zoQ (d:Option Nat):zaF P102 d = none:=(zag (by decide) d).trans ((zag (by decide) d).trans (zoR d))
attribute [go_sem] P102 zoQ
theorem zqQ (x:Ch) (f:FnB 79 Yd) (hp:f.x.t.levels.length ≤ 4096):zaP Tryz.prog 132 [Enc.enc x,Enc.enc (RefC.mk f)] (· = Enc.enc (!zdi f.x.t x)):=by
 simp only [zcf]
 refine cpz P102_ok Tryz.func132 zaB ?_
 rw [Tryz.ntmps132]
 simp only [Tryz.f132,zai,zam]
 simp (maxSteps:=4000000) only [go_sem,AV.one,zae,zac,zad,zan,zaq,zaa,czb,cza,↓reduceIte,zbc,zbp,za2,zaX,zbb,zbd,zbn,zab,zay,onz]
 all_goals exact auz
def P103 (g:FuncId):=(zas 132 (zbF (fun (_:Ch) (f:RefC (FnB 79 Yd)) => let f:=f.x; f.x.t.levels.length ≤ 4096) (fun (x:Ch) (f:RefC (FnB 79 Yd)) => let f:=f.x; !zdi f.x.t x)) (P102):zaJ) g
theorem P103_ok:zaz Tryz.prog P103:=zah (zaM fun x f h => zqQ x f.x h) (P102_ok)
theorem zoP (d:Option Nat):zaF P103 d = none:=(zag (by decide) d).trans (zoQ d)
attribute [go_sem] P103 zoP
theorem zqN (l:List (Ch)) (f:FnC 132 (FnB 79 Yd)) (h:l.length ≤ 4096 ∧ let f:=f.x; f.x.t.levels.length ≤ 4096):zaP Tryz.prog 161 [Enc.enc l,Enc.enc f] (· = Enc.enc (let f:=f.x; zbt (fun x => !zdi f.x.t x) l l.length 0)):=by
 obtain ⟨f⟩:=f
 obtain ⟨h,hp⟩:=h
 simp only at hp
 simp only [zcf]
 refine cpz P103_ok Tryz.func161 zaB ?_
 rw [Tryz.ntmps161]
 simp only [Tryz.f161,zai,zam]
 simp (maxSteps:=4000000) only [go_sem,AV.one,zae,zac,zad,zan,zaq,zaa,czb,cza,↓reduceIte,zbc,zbp,za2,zaX,zbb,zbd,zbn,zab,zay,onz]
 refine zbG (l.length) [] [0,1,4,7] (fun i => [(8,.int .i64 i)]) (fun _ m => m) (fun i => zbt (fun x => !zdi f.x.t x) l (l.length - i) i = zbt (fun x => !zdi f.x.t x) l l.length 0) ?_ ?_ ?_ ?_
 ·rfl
 ·simp [AV.bare,zal,zaN,zaR,zak,zar,zaf,tokz1,lk,zaa,za3]
 ·intro i hi hI
  rw [show l.length - i = (l.length - (i + 1)) + 1 by omega,zbt] at hI
  cases c:zdi f.x.t (at_ l i) <;>
   simp (maxSteps:=4000000) only [go_sem,AV.one,zae,zac,zad,zan,zaq,zaa,czb,cza,↓reduceIte,zbc,zbp,za2,zaX,zbb,zbd,zbn,zab,zay,onz,zax hi,czH.2 hi,c]
  all_goals all_goals (repeat' first | (with_reducible first | rfl | apply And.intro | assumption) | ((with_reducible show zaj _ _ = true); rfl)) <;> try first | omega | (simp only [InR]; omega)
  ·rw [c] at hI
   rw [← hI]; rfl
  ·rw [c] at hI
   refine nxt hi hI ?_
   simp [AV.bare,zal,zaN,zaR,zak,zar,zaf,tokz1,lk,zaa,za3]
 ·intro hI
  simp (maxSteps:=4000000) only [go_sem,AV.one,zae,zac,zad,zan,zaq,zaa,czb,cza,↓reduceIte,zbc,zbp,za2,zaX,zbb,zbd,zbn,zab,zay,onz]
  rw [← hI]; simp [zbt]
def P104 (g:FuncId):=(zas 161 (zbF (fun (l:List (Ch)) (f:FnC 132 (FnB 79 Yd)) => l.length ≤ 4096 ∧ let f:=f.x; f.x.t.levels.length ≤ 4096) (fun l f => let f:=f.x; zbt (fun x => !zdi f.x.t x) l l.length 0)) (P103):zaJ) g
theorem P104_ok:zaz Tryz.prog P104:=zah (zaM zqN) (P103_ok)
theorem zoO (d:Option Nat):zaF P104 d = none:=(zag (by decide) d).trans (zoP d)
attribute [go_sem] P104 zoO
theorem zqO (l:List (Ch)) (f:FnC 132 (FnB 79 Yd)) (h:l.length ≤ 4096 ∧ let f:=f.x; f.x.t.levels.length ≤ 4096):zaP Tryz.prog 131 [Enc.enc l,Enc.enc f] (· = Enc.enc (let f:=f.x; l.any (fun x => !zdi f.x.t x))):=by
 obtain ⟨f⟩:=f
 obtain ⟨h,hp⟩:=h
 simp only at hp
 simp only [zcf]
 refine cpz P104_ok Tryz.func131 zaB ?_
 rw [Tryz.ntmps131]
 simp only [Tryz.f131,zai,zam]
 simp (maxSteps:=4000000) only [go_sem,AV.one,zae,zac,zad,zan,zaq,zaa,czb,cza,↓reduceIte,zbc,zbp,za2,zaX,zbb,zbd,zbn,zab,zay,onz]
 all_goals (repeat' first | (with_reducible first | rfl | apply And.intro | assumption) | ((with_reducible show zaj _ _ = true); rfl)) <;> try first | omega | (simp only [InR]; omega)
 congr 1
 exact zeC (fun x => !zdi f.x.t x) l l.length 0 (by omega)
def P105 (g:FuncId):=(zas 131 (zbF (fun (l:List (Ch)) (f:FnC 132 (FnB 79 Yd)) => l.length ≤ 4096 ∧ let f:=f.x; f.x.t.levels.length ≤ 4096) (fun l f => let f:=f.x; l.any (fun x => !zdi f.x.t x))) (P104):zaJ) g
theorem P105_ok:zaz Tryz.prog P105:=zah (zaM zqO) (P104_ok)
theorem zoN (d:Option Nat):zaF P105 d = none:=(zag (by decide) d).trans (zoO d)
attribute [go_sem] P105 zoN
theorem zqP (l:List (Ch)) (f:FnB 79 Yd) (h:l.length ≤ 4096 ∧ f.x.t.levels.length ≤ 4096):zaP Tryz.prog 83 [Enc.enc l,Enc.enc f] (· = Enc.enc (l.all (fun x => zdi f.x.t x))):=by
 obtain ⟨h,hp⟩:=h
 simp only [zcf]
 refine cpz P105_ok Tryz.func83 zaB ?_
 rw [Tryz.ntmps83]
 simp only [Tryz.f83,zai,zam]
 simp (maxSteps:=4000000) only [go_sem,AV.one,zae,zac,zad,zan,zaq,zaa,czb,cza,↓reduceIte,zbc,zbp,za2,zaX,zbb,zbd,zbn,zab,zay,onz]
 all_goals (repeat' first | (with_reducible first | rfl | apply And.intro | assumption) | ((with_reducible show zaj _ _ = true); rfl)) <;> try first | omega | (simp only [InR]; omega)
 rw [zij]
def P106 (g:FuncId):=(zas 83 (zbF (fun (l:List (Ch)) (f:FnB 79 Yd) => l.length ≤ 4096 ∧ f.x.t.levels.length ≤ 4096) (fun l f => l.all (fun x => zdi f.x.t x))) (P105):zaJ) g
theorem P106_ok:zaz Tryz.prog P106:=zah (zaM zqP) (P105_ok)
theorem zoM (d:Option Nat):zaF P106 d = none:=(zag (by decide) d).trans (zoN d)
attribute [go_sem] P106 zoM
theorem zqM (x:Rg) (f:FnB 80 Yd) (hp:f.x.chairs.length ≤ 4096):zaP Tryz.prog 134 [Enc.enc x,Enc.enc (RefC.mk f)] (· = Enc.enc (!zeJ f.x.chairs.length f.x.t.last x)):=by
 simp only [zcf]
 refine cpz P106_ok Tryz.func134 zaB ?_
 rw [Tryz.ntmps134]
 simp only [Tryz.f134,zai,zam]
 simp (maxSteps:=4000000) only [go_sem,AV.one,zae,zac,zad,zan,zaq,zaa,czb,cza,↓reduceIte,zbc,zbp,za2,zaX,zbb,zbd,zbn,zab,zay,onz]
 all_goals exact auz
def P107 (g:FuncId):=(zas 134 (zbF (fun (_:Rg) (f:RefC (FnB 80 Yd)) => let f:=f.x; f.x.chairs.length ≤ 4096) (fun (x:Rg) (f:RefC (FnB 80 Yd)) => let f:=f.x; !zeJ f.x.chairs.length f.x.t.last x)) (P106):zaJ) g
theorem P107_ok:zaz Tryz.prog P107:=zah (zaM fun x f h => zqM x f.x h) (P106_ok)
theorem zoL (d:Option Nat):zaF P107 d = none:=(zag (by decide) d).trans (zoM d)
attribute [go_sem] P107 zoL
theorem zqJ (l:List (Rg)) (f:FnC 134 (FnB 80 Yd)) (h:l.length ≤ 4096 ∧ let f:=f.x; f.x.chairs.length ≤ 4096):zaP Tryz.prog 162 [Enc.enc l,Enc.enc f] (· = Enc.enc (let f:=f.x; zbt (fun x => !zeJ f.x.chairs.length f.x.t.last x) l l.length 0)):=by
 obtain ⟨f⟩:=f
 obtain ⟨h,hp⟩:=h
 simp only at hp
 simp only [zcf]
 refine cpz P107_ok Tryz.func162 zaB ?_
 rw [Tryz.ntmps162]
 simp only [Tryz.f162,zai,zam]
 simp (maxSteps:=4000000) only [go_sem,AV.one,zae,zac,zad,zan,zaq,zaa,czb,cza,↓reduceIte,zbc,zbp,za2,zaX,zbb,zbd,zbn,zab,zay,onz]
 refine zbG (l.length) [] [0,1,4,7] (fun i => [(8,.int .i64 i)]) (fun _ m => m) (fun i => zbt (fun x => !zeJ f.x.chairs.length f.x.t.last x) l (l.length - i) i = zbt (fun x => !zeJ f.x.chairs.length f.x.t.last x) l l.length 0) ?_ ?_ ?_ ?_
 ·rfl
 ·simp [AV.bare,zal,zaN,zaR,zak,zar,zaf,tokz1,lk,zaa,za3]
 ·intro i hi hI
  rw [show l.length - i = (l.length - (i + 1)) + 1 by omega,zbt] at hI
  cases c:zeJ f.x.chairs.length f.x.t.last (at_ l i) <;>
   simp (maxSteps:=4000000) only [go_sem,AV.one,zae,zac,zad,zan,zaq,zaa,czb,cza,↓reduceIte,zbc,zbp,za2,zaX,zbb,zbd,zbn,zab,zay,onz,zax hi,czH.2 hi,c]
  all_goals all_goals (repeat' first | (with_reducible first | rfl | apply And.intro | assumption) | ((with_reducible show zaj _ _ = true); rfl)) <;> try first | omega | (simp only [InR]; omega)
  ·rw [c] at hI
   rw [← hI]; rfl
  ·rw [c] at hI
   refine nxt hi hI ?_
   simp [AV.bare,zal,zaN,zaR,zak,zar,zaf,tokz1,lk,zaa,za3]
 ·intro hI
  simp (maxSteps:=4000000) only [go_sem,AV.one,zae,zac,zad,zan,zaq,zaa,czb,cza,↓reduceIte,zbc,zbp,za2,zaX,zbb,zbd,zbn,zab,zay,onz]
  rw [← hI]; simp [zbt]
def P108 (g:FuncId):=(zas 162 (zbF (fun (l:List (Rg)) (f:FnC 134 (FnB 80 Yd)) => l.length ≤ 4096 ∧ let f:=f.x; f.x.chairs.length ≤ 4096) (fun l f => let f:=f.x; zbt (fun x => !zeJ f.x.chairs.length f.x.t.last x) l l.length 0)) (P107):zaJ) g
theorem P108_ok:zaz Tryz.prog P108:=zah (zaM zqJ) (P107_ok)
theorem zoK (d:Option Nat):zaF P108 d = none:=(zag (by decide) d).trans (zoL d)
attribute [go_sem] P108 zoK
theorem zqK (l:List (Rg)) (f:FnC 134 (FnB 80 Yd)) (h:l.length ≤ 4096 ∧ let f:=f.x; f.x.chairs.length ≤ 4096):zaP Tryz.prog 133 [Enc.enc l,Enc.enc f] (· = Enc.enc (let f:=f.x; l.any (fun x => !zeJ f.x.chairs.length f.x.t.last x))):=by
 obtain ⟨f⟩:=f
 obtain ⟨h,hp⟩:=h
 simp only at hp
 simp only [zcf]
 refine cpz P108_ok Tryz.func133 zaB ?_
 rw [Tryz.ntmps133]
 simp only [Tryz.f133,zai,zam]
 simp (maxSteps:=4000000) only [go_sem,AV.one,zae,zac,zad,zan,zaq,zaa,czb,cza,↓reduceIte,zbc,zbp,za2,zaX,zbb,zbd,zbn,zab,zay,onz]
 all_goals (repeat' first | (with_reducible first | rfl | apply And.intro | assumption) | ((with_reducible show zaj _ _ = true); rfl)) <;> try first | omega | (simp only [InR]; omega)
 congr 1
 exact zeC (fun x => !zeJ f.x.chairs.length f.x.t.last x) l l.length 0 (by omega)
def P109 (g:FuncId):=(zas 133 (zbF (fun (l:List (Rg)) (f:FnC 134 (FnB 80 Yd)) => l.length ≤ 4096 ∧ let f:=f.x; f.x.chairs.length ≤ 4096) (fun l f => let f:=f.x; l.any (fun x => !zeJ f.x.chairs.length f.x.t.last x))) (P108):zaJ) g
theorem P109_ok:zaz Tryz.prog P109:=zah (zaM zqK) (P108_ok)
theorem zoJ (d:Option Nat):zaF P109 d = none:=(zag (by decide) d).trans (zoK d)
attribute [go_sem] P109 zoJ
theorem zqL (l:List (Rg)) (f:FnB 80 Yd) (h:l.length ≤ 4096 ∧ f.x.chairs.length ≤ 4096):zaP Tryz.prog 84 [Enc.enc l,Enc.enc f] (· = Enc.enc (l.all (fun x => zeJ f.x.chairs.length f.x.t.last x))):=by
 obtain ⟨h,hp⟩:=h
 simp only [zcf]
 refine cpz P109_ok Tryz.func84 zaB ?_
 rw [Tryz.ntmps84]
 simp only [Tryz.f84,zai,zam]
 simp (maxSteps:=4000000) only [go_sem,AV.one,zae,zac,zad,zan,zaq,zaa,czb,cza,↓reduceIte,zbc,zbp,za2,zaX,zbb,zbd,zbn,zab,zay,onz]
 all_goals (repeat' first | (with_reducible first | rfl | apply And.intro | assumption) | ((with_reducible show zaj _ _ = true); rfl)) <;> try first | omega | (simp only [InR]; omega)
 rw [zij]
def P110 (g:FuncId):=(zas 84 (zbF (fun (l:List (Rg)) (f:FnB 80 Yd) => l.length ≤ 4096 ∧ f.x.chairs.length ≤ 4096) (fun l f => l.all (fun x => zeJ f.x.chairs.length f.x.t.last x))) (P109):zaJ) g
theorem P110_ok:zaz Tryz.prog P110:=zah (zaM zqL) (P109_ok)
theorem zoI (d:Option Nat):zaF P110 d = none:=(zag (by decide) d).trans (zoJ d)
attribute [go_sem] P110 zoI
theorem znl (y:Yd) (l:List Int) (h:y.chairs.length ≤ 4096 ∧ l.length ≤ 4096):zaP Tryz.prog 74 [Enc.enc y,Enc.enc l] (· = Enc.enc (za8 y.chairs.length l)):=by
 have h1:=h.1
 have h2:=h.2
 simp only [zcf]
 refine cpz P110_ok Tryz.func74 zaB ?_
 rw [Tryz.ntmps74]
 simp only [Tryz.f74,zai,zam]
 simp (maxSteps:=4000000) only [go_sem,AV.one,zae,zac,zad,zan,zaq,zaa,czb,cza,↓reduceIte,zbc,zbp,za2,zaX,zbb,zbd,zbn,zab,zay,onz]
 refine zbG (l.length) [] [1,2,4,7,8] (fun i => [(9,.int .i64 i)]) (fun _ m => m) (fun i => za8 y.chairs.length (l.take i) = true) ?_ ?_ ?_ ?_
 ·rfl
 ·simp [AV.bare,zal,zaN,zaR,zak,zar,zaf,tokz1,lk,zaa,za3]
 ·intro i hi hI
  have hs:za8 y.chairs.length (l.take (i + 1)) = (inB (at_ l i) 0 ((y.chairs.length:Int) - 1) && !(l.take i).contains (at_ l i)):=by
   rw [zaV hi,ziw,hI,Bool.true_and]
  have hno:za8 y.chairs.length (l.take (i + 1)) = false → za8 y.chairs.length l = false:=fun q => by
   cases c:za8 y.chairs.length l
   ·rfl
   ·rw [znk c] at q; cases q
  have hti:((i:Int) - 0).toNat = i:=by omega
  have htl:(l.take i).length ≤ 4096:=by rw [czO]; omega
  cases c1:inB (at_ l i) 0 ((y.chairs.length:Int) - 1)
  ·rw [c1] at hs
   have hb:=hno hs
   simp (maxSteps:=4000000) only [go_sem,AV.one,zae,zac,zad,zan,zaq,zaa,czb,cza,↓reduceIte,zbc,zbp,za2,zaX,zbb,zbd,zbn,zab,zay,onz,zax hi,czH.2 hi,c1,hb,hti,zhj]
   all_goals exact auz
  ·cases c2:(l.take i).contains (at_ l i)
   ·rw [c1,c2] at hs
    simp (maxSteps:=4000000) only [go_sem,AV.one,zae,zac,zad,zan,zaq,zaa,czb,cza,↓reduceIte,zbc,zbp,za2,zaX,zbb,zbd,zbn,zab,zay,onz,zax hi,czH.2 hi,c1,c2,hti,zhj]
    all_goals (repeat' first | (with_reducible first | rfl | apply And.intro | assumption) | ((with_reducible show zaj _ _ = true); rfl)) <;> try first | omega | (simp only [InR]; omega)
    refine nxt hi (by rw [hs]; rfl) ?_
    simp [AV.bare,zal,zaN,zaR,zak,zar,zaf,tokz1,lk,zaa,za3]
   ·rw [c1,c2] at hs
    have hb:=hno hs
    simp (maxSteps:=4000000) only [go_sem,AV.one,zae,zac,zad,zan,zaq,zaa,czb,cza,↓reduceIte,zbc,zbp,za2,zaX,zbb,zbd,zbn,zab,zay,onz,zax hi,czH.2 hi,c1,c2,hb,hti,zhj]
    all_goals exact auz
 ·intro hI
  rw [czm] at hI
  simp (maxSteps:=4000000) only [go_sem,AV.one,zae,zac,zad,zan,zaq,zaa,czb,cza,↓reduceIte,zbc,zbp,za2,zaX,zbb,zbd,zbn,zab,zay,onz,hI]
def P111 (g:FuncId):=(zas 74 (zbF (fun (y:Yd) (l:List Int) => y.chairs.length ≤ 4096 ∧ l.length ≤ 4096) (fun y l => za8 y.chairs.length l)) (P110):zaJ) g
theorem zmm:zaz Tryz.prog P111:=zah (zaM znl) (P110_ok)
theorem zoH (d:Option Nat):zaF P111 d = none:=(zag (by decide) d).trans (zoI d)
attribute [go_sem] P111 zoH
theorem zg9 (l:List Int) (x:Int):∀ f n,f + n = l.length → (zge l x f n = -1 ∧ ∀ k,n ≤ k → k < l.length → at_ l k ≠ x) ∨ ∃ k:Nat,zge l x f n = k ∧ n ≤ k ∧ k < l.length ∧ at_ l k = x ∧ ∀ j,n ≤ j → j < k → at_ l j ≠ x
 | 0,n,h => .inl ⟨rfl,fun k h1 h2 => by omega⟩
 | f + 1,n,h => by
  unfold zge
  by_cases c:x = at_ l n
  ·rw [if_pos c]
   exact .inr ⟨n,rfl,czf _,by omega,c.symm,fun j h1 h2 => by omega⟩
  ·rw [if_neg c]
   rcases zg9 l x f (n + 1) (by omega) with ⟨h1,h2⟩ | ⟨k,h1,h2,h3,h4,h5⟩
   ·refine .inl ⟨h1,fun k g1 g2 => ?_⟩
    by_cases e:k = n
    ·subst e; exact fun q => c q.symm
    ·exact h2 k (by omega) g2
   ·refine .inr ⟨k,h1,by omega,h3,h4,fun j g1 g2 => ?_⟩
    by_cases e:j = n
    ·subst e; exact fun q => c q.symm
    ·exact h5 j (by omega) g2
theorem indexL_bd (l:List Int) (x:Int):-1 ≤ zfK l x ∧ zfK l x ≤ l.length:=by
 unfold zfK
 rcases zg9 l x l.length 0 (by omega) with ⟨h1,_⟩ | ⟨k,h1,_,h3,_⟩ <;> rw [h1] <;> omega
def zca (y:Yd) (order:List Int) (c:Int):Int:=if zfK order c < 0 ∨ y.hands = 0 then y.t.last + 1 else min (zfK order c / y.hands) (y.t.last + 1)
theorem znK (y:Yd) (order:List Int) (c:Int) (h:(0 ≤ y.t.last ∧ y.t.last ≤ 9) ∧ (0 ≤ y.hands ∧ y.hands ≤ 5) ∧ order.length ≤ 4096):zaP Tryz.prog 129 [Enc.enc y,Enc.enc order,Enc.enc c] (· = Enc.enc (zca y order c)):=by
 have h1:=h.1
 have h2:=h.2.1
 have h3:=h.2.2
 unfold zca
 have hbd:=indexL_bd order c
 obtain ⟨i,hi⟩:∃ i,zfK order c = i:=⟨_,rfl⟩
 rw [hi] at hbd ⊢
 cases c1:decide (i < 0)
 ·have g1:¬ i < 0:=by simpa using c1
  cases c2:decide (y.hands = 0)
  ·have g2:¬ y.hands = 0:=by simpa using c2
   rw [if_neg (by omega)]
   have hq0:0 ≤ i / y.hands:=Int.ediv_nonneg (by omega) (by omega)
   have hq1:i / y.hands ≤ i:=Int.ediv_le_self _ (by omega)
   simp only [zcf]
   refine cpz zmm Tryz.func129 zaB ?_
   rw [Tryz.ntmps129]
   simp only [Tryz.f129,zai,zam]
   simp (maxSteps:=4000000) only [go_sem,AV.one,zae,zac,zad,zan,zaq,zaa,czb,cza,↓reduceIte,zbc,zbp,za2,zaX,zbb,zbd,zbn,zab,zay,onz,hi,c1,c2,zhz]
   all_goals (repeat' first | (with_reducible first | rfl | apply And.intro | assumption) | ((with_reducible show zaj _ _ = true); rfl)) <;> try first | omega | (simp only [InR]; omega)
   all_goals (try simp)
  ·rw [if_pos (by right; simpa using c2)]
   simp only [zcf]
   refine cpz zmm Tryz.func129 zaB ?_
   rw [Tryz.ntmps129]
   simp only [Tryz.f129,zai,zam]
   simp (maxSteps:=4000000) only [go_sem,AV.one,zae,zac,zad,zan,zaq,zaa,czb,cza,↓reduceIte,zbc,zbp,za2,zaX,zbb,zbd,zbn,zab,zay,onz,hi,c1,c2]
   all_goals exact auz
 ·rw [if_pos (by left; simpa using c1)]
  simp only [zcf]
  refine cpz zmm Tryz.func129 zaB ?_
  rw [Tryz.ntmps129]
  simp only [Tryz.f129,zai,zam]
  simp (maxSteps:=4000000) only [go_sem,AV.one,zae,zac,zad,zan,zaq,zaa,czb,cza,↓reduceIte,zbc,zbp,za2,zaX,zbb,zbd,zbn,zab,zay,onz,hi,c1]
  all_goals exact auz
theorem zlt {l:List Int} {x:Int} {m:Nat}:(l.take m).contains x = true ↔ ∃ k,k < m ∧ k < l.length ∧ at_ l k = x:=by
 simp only [List.contains_eq_mem,decide_eq_true_eq]
 constructor
 ·intro h
  obtain ⟨k,hk,e⟩:=List.mem_iff_getElem.1 h
  rw [czO] at hk
  rw [List.getElem_take] at e
  exact ⟨k,by omega,by omega,by rw [zdk (by omega)]; exact e⟩
 ·rintro ⟨k,h1,h2,e⟩
  rw [← e,zdk h2]
  exact List.mem_take_iff_getElem.2 ⟨k,by omega,rfl⟩
theorem zue {y:Yd} {order:List Int} {c:Int} {h:Nat} (h0:0 ≤ y.hands) (hh:(h:Int) ≤ y.t.last):decide ((h:Int) < zca y order c) = !inY y.hands order c h:=by
 have key:inY y.hands order c h = true ↔ ¬ (h:Int) < zca y order c:=by
  unfold inY zca zfK
  rw [zlt]
  have hm:((y.hands * ((h:Int) + 1)).toNat:Int) = y.hands * ((h:Int) + 1):=Int.toNat_of_nonneg (Int.mul_nonneg h0 (by omega))
  rcases zg9 order c order.length 0 (by omega) with ⟨h1,h2⟩ | ⟨k,h1,_,h3,h4,h5⟩
  ·rw [h1,if_pos (.inl (by decide))]
   constructor
   ·rintro ⟨k,_,g2,g3⟩; exact absurd g3 (h2 k (Nat.zero_le _) g2)
   ·intro q; omega
  ·rw [h1]
   by_cases c2:y.hands = 0
   ·rw [if_pos (.inr c2)]
    constructor
    ·rintro ⟨j,g1,_⟩
     rw [c2,Int.zero_mul] at g1
     simp at g1
    ·intro q; omega
   ·rw [if_neg (by omega)]
    have hd:(k:Int) / y.hands ≤ h ↔ (k:Int) < y.hands * ((h:Int) + 1):=by
     rw [show ((k:Int) / y.hands ≤ h ↔ (k:Int) / y.hands < (h:Int) + 1) from ⟨fun q => by omega,fun q => by omega⟩]
     rw [Int.ediv_lt_iff_lt_mul (by omega),Int.mul_comm]
    constructor
    ·rintro ⟨j,g1,g2,g3⟩
     have hkj:k ≤ j:=by
      apply czE
      intro q
      exact h5 j (Nat.zero_le _) q g3
     have:=hd.2 (by omega)
     omega
    ·intro q
     refine ⟨k,?_,h3,h4⟩
     have:=hd.1 (by omega)
     omega
 cases c1:inY y.hands order c h
 ·rw [Bool.not_false,decide_eq_true_eq]
  apply Classical.byContradiction
  intro q
  rw [key.2 q] at c1; cases c1
 ·rw [Bool.not_true,decide_eq_false_iff_not]
  exact key.1 c1
def P112 (g:FuncId):=(zas 129 (zec (fun (y:Yd) (order:List Int) (_:Int) => (0 ≤ y.t.last ∧ y.t.last ≤ 9) ∧ (0 ≤ y.hands ∧ y.hands ≤ 5) ∧ order.length ≤ 4096) zca) (P111):zaJ) g
theorem P112_ok:zaz Tryz.prog P112:=zah (zb8 znK) (zmm)
theorem zoG (d:Option Nat):zaF P112 d = none:=(zag (by decide) d).trans (zoH d)
attribute [go_sem] P112 zoG
theorem zaA {P:Program} {Φ:zaJ} {a b c:Code} {Q:QA} {st:St}:vc P Φ (.seq (.seq a b) c) Q st = vc P Φ (.seq a (.seq b c)) Q st:=by
 simp only [vc]
 have:(zaW (vc P Φ b (zaW (vc P Φ c Q) Q)) (zaW (vc P Φ c Q) Q)) = zaW (vc P Φ b (zaW (vc P Φ c Q) Q)) Q:=by
  funext e st
  cases e <;> rfl
 rw [this]
def stayW (y:Yd) (s:Sea) (x:Rg) (h:Nat):Bool:=at_ (at_ s.rows (at_ y.chairs x.lo.toNat).row.toNat).l h && decide ((h:Int) < x.hi)
def zfP (y:Yd) (s:Sea) (x:Rg):Sy:=syW (stayW y s x) (at_ y.chairs x.lo.toNat) (hrs y)
theorem stay_call (y:Yd) (s:Sea) (x:Rg) (h:((0 ≤ y.t.last ∧ y.t.last ≤ 9) ∧ 0 ≤ x.lo ∧ x.lo < y.chairs.length) ∧ (0 ≤ (at_ y.chairs x.lo.toNat).row ∧ (at_ y.chairs x.lo.toNat).row < s.rows.length) ∧ (0 ≤ (at_ y.chairs x.lo.toNat).hours ∧ (at_ y.chairs x.lo.toNat).hours ≤ 5) ∧ 1 ≤ (at_ y.chairs x.lo.toNat).rot ∧ (at_ y.chairs x.lo.toNat).rot ≤ 9) :
  zaP Tryz.prog 128 [Enc.enc y,Enc.enc s,Enc.enc x] (· = Enc.enc (zfP y s x)):=by
 obtain ⟨⟨hl,hx0,hx1⟩,hr,hh,hro⟩:=h
 obtain ⟨ci,hci⟩:=czu hx0
 unfold zfP
 obtain ⟨c,hc⟩:∃ c,at_ y.chairs x.lo.toNat = c:=⟨_,rfl⟩
 obtain ⟨W,hW⟩:∃ W,stayW y s x = W:=⟨_,rfl⟩
 have hWh:∀ k,W k = (at_ (at_ s.rows c.row.toNat).l k && decide ((k:Int) < x.hi)):=fun k => by rw [← hW,← hc]; rfl
 rw [hc] at hr hh hro
 rw [hc,hW]
 obtain ⟨ri,hri⟩:=czu hr.1
 have hcl:ci < y.chairs.length:=by omega
 have hg1:(y.chairs.map EncE.cs).getD ci [] = EncE.cs c:=by rw [zax hcl,← hc,hci]; rfl
 have hrl:ri < s.rows.length:=by omega
 have hg2:=zax (f:=EncE.cs) (l:=s.rows) (i:=ri) hrl
 obtain ⟨B,hB⟩:∃ B,at_ s.rows ri = B:=⟨_,rfl⟩
 rw [hB] at hg2
 have hWB:∀ k,W k = (at_ B.l k && decide ((k:Int) < x.hi)):=fun k => by rw [hWh,hri,← hB]; rfl
 have hBl:=B.h
 obtain ⟨n,hn⟩:∃ n,hrs y = n:=⟨_,rfl⟩
 have hnl:(n:Int) = y.t.last + 1:=by rw [← hn]; unfold hrs; omega
 rw [hn]
 obtain ⟨r,hrr⟩:∃ r:Nat,c.rot = r:=⟨c.rot.toNat,by omega⟩
 have hsy:syW W c n = ⟨zqm W n,(zjv W r n:Nat),zgg W (zjv W r n) c.hours n⟩:=by unfold syW; rw [hrr]; rfl
 rw [hsy]
 have hrP:∀ k,k ≤ n → zps W c.rot n k = (((zfr W r k).getD n:Nat):Int):=fun k hk => by rw [hrr]; exact zpr (by omega) k hk
 obtain ⟨F,hF⟩:∃ F:Nat → List Int,∀ k,F k = zgg W (zjv W r n) c.hours k:=⟨_,fun _ => rfl⟩
 have hFl:∀ k,(F k).length ≤ k:=fun k => by rw [hF]; exact znv _ _ _ _
 have hx2:x.lo.toNat = ci:=by omega
 simp only [zcf]
 refine cpz P112_ok Tryz.func128 zaB ?_
 rw [Tryz.ntmps128]
 simp only [Tryz.f128,zai,zam]
 iterate 6 (
  refine zaC fun Q1 h1 => ?_
  simp (maxSteps:=4000000) only [go_sem,zae,zac,zad,zan,zaq,zaa,czb,cza,↓reduceIte,zab,onz,hci,hg1,hg2,hri,hBl]
  all_goals (repeat' first | (with_reducible first | rfl | apply And.intro | assumption) | ((with_reducible show zaj _ _ = true); rfl)) <;> try first | omega | (simp only [InR]; omega)
  rw [h1]; clear h1 Q1; simp only [zaW,zaA])
 simp (maxSteps:=4000000) only [go_sem,zae,zac,zad,zan,zaq,zaa,czb,cza,↓reduceIte,zab,onz]
 refine zbG (n) [.cell 6 2 1] [5,6,7,8,9,33] (fun k => [(34,.int .i64 k),(10,.int .i64 (zjr W k)),(11,.int .i64 (zeI W k))]) (fun k m => (m.set 6 (.cells [.int .i64 (zqm W k),.int .i64 (zps W c.rot n k),.sl ((F k).map EncE.cs) (.own 7)])).set 7 (.tok (F k).length 1)) (fun _ => True) ?_ ?_ ?_ ?_
 ·trivial
 ·simp [AV.bare,zal,zaN,zaR,zak,zar,zaf,tokz1,lk,zaa,za3,zqm,zps,zjr,zeI,hF,zgg,hnl]
 ·intro k hk _
  have hk':(k:Int) < y.t.last + 1:=by omega
  have hkB:=ztR (l:=B.l) (i:=k) (by omega)
  have hfl:=hFl k
  have hcb:=cntW_bd W k
  have hrb:=runW_le W k
  have hlb:=zrL W k
  have hrp:=hrP k (by omega)
  have hrk:zps W c.rot n k ≤ n ∧ 0 ≤ zps W c.rot n k:=by
   rw [hrp]
   cases q:zfr W r k with
   | none => simp
   | some z => have:=zh4 q; simp; omega
  have hrs':zps W c.rot n (k + 1) = if W k && decide ((zjr W (k + 1):Int) = c.rot) then min (zps W c.rot n k) k else zps W c.rot n k:=rfl
  have hru:zjr W (k + 1) = if W k then zjr W k + 1 else 0:=rfl
  have hla:zeI W (k + 1) = if W k then (k:Int) else zeI W k:=rfl
  have hcs:=cntW_succ W k
  have hfs:F (k + 1) = if zrU W (zjv W r n) c.hours k then F k ++ [(k:Int)] else F k:=by rw [hF,hF,ztT]
  have hca:zrU W (zjv W r n) c.hours k = (!W k && (decide (k < zjv W r n) && (decide (zeI W k < 0) || decide (c.hours < k - zeI W k)))):=rfl
  obtain ⟨ro,hroe⟩:∃ ro,zps W c.rot n k = ro:=⟨_,rfl⟩
  obtain ⟨ru,hrue⟩:∃ ru,zjr W k = ru:=⟨_,rfl⟩
  obtain ⟨la,hlae⟩:∃ la,zeI W k = la:=⟨_,rfl⟩
  obtain ⟨cn,hcne⟩:∃ cn,zqm W k = cn:=⟨_,rfl⟩
  obtain ⟨Fk,hFe⟩:∃ Fk,F k = Fk:=⟨_,rfl⟩
  have hrl:W k = false → decide ((k:Int) < ro) = decide (k < zjv W r n):=fun hw => by rw [← hroe,hrr]; exact rotP_last (by omega) hk hw
  rw [hroe] at hrk hrs'
  rw [hrue] at hrb hru
  rw [hlae] at hlb hla hca
  rw [hcne] at hcb hcs
  rw [hFe] at hfl hfs
  rw [hroe,hrue,hlae,hcne,hFe]
  have hWk:=hWB k
  obtain ⟨bk,hbk⟩:∃ bk,at_ B.l k = bk:=⟨_,rfl⟩
  rw [hbk] at hkB hWk
  have hcc:decide (((ru + 1:Nat):Int) = c.rot) = decide ((ru:Int) + 1 = c.rot):=by simp
  iterate 2 (
   refine zaC fun Q1 h1 => ?_
   simp (maxSteps:=4000000) only [go_sem,zae,zac,zad,zan,zaq,zaa,czb,cza,↓reduceIte,zab,onz,hk']
   all_goals (repeat' first | (with_reducible first | rfl | apply And.intro | assumption) | ((with_reducible show zaj _ _ = true); rfl)) <;> try first | omega | (simp only [InR]; omega)
   rw [h1]; clear h1 Q1; simp only [zaW,zaA])
  refine zaC fun Qb hb => ?_
  rw [zeM]
  try simp only [zaA]
  iterate 2 (
   refine zaC fun Q1 h1 => ?_
   simp (maxSteps:=4000000) only [go_sem,zae,zac,zad,zan,zaq,zaa,czb,cza,↓reduceIte,zab,onz,hkB]
   all_goals (repeat' first | (with_reducible first | rfl | apply And.intro | assumption) | ((with_reducible show zaj _ _ = true); rfl)) <;> try first | omega | (simp only [InR]; omega)
   rw [h1]; clear h1 Q1; simp only [zaW,zaA])
  refine zaC fun Qc hc => ?_
  (simp (maxSteps:=4000000) only [zjf,zje,evT,lk,AV.un,AV.av,Nat.reduceEqDiff,↓reduceIte,true_and]; try rw [zib])
  refine ⟨fun q => ?_,fun q => ?_⟩
  ·rw [q] at hWk
   rw [hWk] at hrs' hru hla hcs hca
   simp only [if_true,Bool.true_and,Bool.not_true,Bool.false_and] at hrs' hru hla hcs hca
   rw [hca] at hfs
   simp only [czp,if_false] at hfs
   have hcc:decide (((ru + 1:Nat):Int) = c.rot) = decide ((ru:Int) + 1 = c.rot):=by simp
   rw [hru,hcc] at hrs'
   try simp only [zaA]
   iterate 2 (
    refine zaC fun Q1 h1 => ?_
    simp (maxSteps:=4000000) only [go_sem,zae,zac,zad,zan,zaq,zaa,czb,cza,↓reduceIte,zab,onz]
    all_goals (repeat' first | (with_reducible first | rfl | apply And.intro | assumption) | ((with_reducible show zaj _ _ = true); rfl)) <;> try first | omega | (simp only [InR]; omega)
    rw [h1]; clear h1 Q1; simp only [zaW,zaA])
   refine zaC fun Qd hd => ?_
   (simp (maxSteps:=4000000) only [zjf,zje,evT,lk,AV.un,AV.av,Nat.reduceEqDiff,↓reduceIte,true_and]; try rw [zib])
   refine ⟨fun q2 => ?_,fun q2 => ?_⟩
   all_goals
    rw [q2] at hrs'
    simp only [czp,if_false,if_true] at hrs'
   ·simp (maxSteps:=4000000) only [go_sem,zae,zac,zad,zan,zaq,zaa,czb,cza,↓reduceIte,zab,onz,zhz]
    refine ⟨by simp,?_⟩
    simp (maxSteps:=4000000) only [go_sem,zae,zac,zad,zan,zaq,zaa,czb,cza,↓reduceIte,zab,onz,hd,hc,hb]
    refine ⟨(by simp only [InR]; omega),nxt hk trivial ?_⟩
    simp [AV.bare,zal,zaN,zaR,zak,zar,zaf,tokz1,lk,zaa,za3,hrs',hru,hla,hcs,hfs]
   ·simp (maxSteps:=4000000) only [go_sem,zae,zac,zad,zan,zaq,zaa,czb,cza,↓reduceIte,zab,onz,hd,hc,hb]
    refine ⟨(by simp only [InR]; omega),nxt hk trivial ?_⟩
    simp [AV.bare,zal,zaN,zaR,zak,zar,zaf,tokz1,lk,zaa,za3,hrs',hru,hla,hcs,hfs]
  ·rw [q] at hWk
   have hrl':=hrl hWk
   rw [hWk] at hrs' hru hla hcs hca
   simp only [czp,if_false,Bool.false_and,Bool.not_false,Bool.true_and] at hrs' hru hla hcs hca
   rw [← hrl'] at hca
   rw [hca] at hfs
   simp only [hc,zaW,zaA]
   refine zaC fun Q1 h1 => ?_
   simp (maxSteps:=4000000) only [go_sem,zae,zac,zad,zan,zaq,zaa,czb,cza,↓reduceIte,zab,onz]
   all_goals (repeat' first | (with_reducible first | rfl | apply And.intro | assumption) | ((with_reducible show zaj _ _ = true); rfl)) <;> try first | omega | (simp only [InR]; omega)
   rw [h1]; clear h1 Q1; simp only [zaW,zaA]
   refine zaC fun Qd hd => ?_
   simp (maxSteps:=4000000) only [go_sem,zae,zac,zad,zan,zaq,zaa,czb,cza,↓reduceIte,zab,onz]
   refine ⟨fun q2 => ⟨q2,(by simp only [InR]; omega)⟩,fun q2 => ⟨q2,fun q3 => by rw [q2,q3]; rfl⟩,?_⟩
   rw [hd]
   simp only [zaW]
   (simp (maxSteps:=4000000) only [zjf,zje,evT,lk,AV.un,AV.av,Nat.reduceEqDiff,↓reduceIte,true_and]; try rw [zib])
   refine ⟨fun q2 => ?_,fun q2 => ?_⟩
   all_goals
    rw [q2] at hfs
    simp only [czp,if_false,if_true] at hfs
    simp (maxSteps:=4000000) only [go_sem,zae,zac,zad,zan,zaq,zaa,czb,cza,↓reduceIte,zab,onz,hb]
   ·refine ⟨by omega,(by simp only [InR]; omega),nxt hk trivial ?_⟩
    simp [AV.bare,zal,zaN,zaR,zak,zar,zaf,tokz1,lk,zaa,za3,hrs',hru,hla,hcs,hfs]
   ·refine ⟨(by simp only [InR]; omega),nxt hk trivial ?_⟩
    simp [AV.bare,zal,zaN,zaR,zak,zar,zaf,tokz1,lk,zaa,za3,hrs',hru,hla,hcs,hfs]
 ·intro _
  have hk':¬ (n:Int) < y.t.last + 1:=by omega
  have hrp:zps W c.rot n n = (zjv W r n:Nat):=hrP n (czf _)
  have hFn:=hF n
  simp (maxSteps:=4000000) only [go_sem,zae,zac,zad,zan,zaq,zaa,czb,cza,↓reduceIte,zab,onz,hk',hrp,hFn]
  all_goals exact auz
def P113 (g:FuncId):=(zas 128 (zec (fun (y:Yd) (s:Sea) (x:Rg) => ((0 ≤ y.t.last ∧ y.t.last ≤ 9) ∧ 0 ≤ x.lo ∧ x.lo < y.chairs.length) ∧ (0 ≤ (at_ y.chairs x.lo.toNat).row ∧ (at_ y.chairs x.lo.toNat).row < s.rows.length) ∧ (0 ≤ (at_ y.chairs x.lo.toNat).hours ∧ (at_ y.chairs x.lo.toNat).hours ≤ 5) ∧ 1 ≤ (at_ y.chairs x.lo.toNat).rot ∧ (at_ y.chairs x.lo.toNat).rot ≤ 9) zfP) (P112):zaJ) g
theorem zq2:zaz Tryz.prog P113:=zah (zb8 stay_call) (P112_ok)
theorem zoF (d:Option Nat):zaF P113 d = none:=(zag (by decide) d).trans (zoG d)
attribute [go_sem] P113 zoF
theorem zii {α β:Type} [Inhabited α] [Inhabited β] {f:α → β} {l:List α} {i:Nat} (h:i < l.length):at_ (l.map f) i = f (at_ l i):=by simp [at_,h]
def zeA (w:List Int):Nat → List Bool
 | 0 => List.replicate 10 false
 | k + 1 => (zeA w k).set (at_ w k).toNat true
theorem zdG (w:List Int):∀ k,(zeA w k).length = 10
 | 0 => rfl
 | k + 1 => by unfold zeA; rw [czt]; exact zdG w k
theorem zrH {w:List Int} (hw:∀ x ∈ w,0 ≤ x ∧ x < 10):∀ k,k ≤ w.length → ∀ i,i < 10 → at_ (zeA w k) i = (w.take k).contains (i:Int)
 | 0,_,i,hi => by
  show at_ (List.replicate 10 false) i = _
  rw [zdk (by simpa using hi),List.getElem_replicate]
  rfl
 | k + 1,hk,i,hi => by
  have ih:=zrH hw k (by omega) i hi
  have hx:=hw _ (zbv (l:=w) (i:=k) (by omega))
  unfold zeA
  rw [zaV (by omega)]
  by_cases e:(at_ w k).toNat = i
  ·have h1:at_ ((zeA w k).set (at_ w k).toNat true) i = true:=by
    generalize (at_ w k).toNat = z at e ⊢
    subst e
    rw [zdk (by rw [czt,zdG]; exact hi),List.getElem_set_self]
   rw [h1]
   have:at_ w k = (i:Int):=by omega
   simp [this]
  ·have h1:at_ ((zeA w k).set (at_ w k).toNat true) i = at_ (zeA w k) i:=by
    generalize (at_ w k).toNat = z at e ⊢
    rw [zdk (by rw [czt,zdG]; exact hi),zdk (by rw [zdG]; exact hi),List.getElem_set_ne e]
   rw [h1,ih]
   have:¬ (i:Int) = at_ w k:=by omega
   rw [Bool.eq_iff_iff]
   simp only [List.contains_eq_mem,decide_eq_true_eq,czv,czC]
   exact ⟨.inl,fun q => q.resolve_right this⟩
theorem zm9 {hs:List Int} (h10:hs.length ≤ 10) (lv:Int):zeA (zgP hs lv) (zgP hs lv).length = rowB hs lv:=by
 have hm:∀ x:Int,x ∈ zgP hs lv ↔ ∃ i:Nat,i < hs.length ∧ lv < at_ hs i ∧ x = i:=by
  intro x
  unfold zgP zko
  simp only [czx,List.mem_filter,List.mem_range,decide_eq_true_eq]
  constructor
  ·rintro ⟨i,⟨h1,h2⟩,rfl⟩; exact ⟨i,h1,h2,rfl⟩
  ·rintro ⟨i,h1,h2,rfl⟩; exact ⟨i,⟨h1,h2⟩,rfl⟩
 apply List.ext_getElem
 ·rw [zdG,zry]
 ·intro i h1 h2
  rw [zdG] at h1
  have g1:=zrH (w:=zgP hs lv) (fun x hx => by obtain ⟨k,q1,_,q3⟩:=(hm x).1 hx; omega) _ (czf _) i h1
  rw [zdk (by rw [zdG]; exact h1),czm] at g1
  rw [g1,← zdk h2]
  unfold rowB
  rw [zhX _ h1]
  rw [Bool.eq_iff_iff]
  simp only [List.contains_eq_mem,decide_eq_true_eq,czl]
  rw [hm]
  constructor
  ·rintro ⟨k,q1,q2,q3⟩
   have:i = k:=by omega
   subst this
   exact ⟨q1,q2⟩
  ·rintro ⟨q1,q2⟩; exact ⟨i,q1,q2,rfl⟩
theorem wetL_lt {hs:List Int} (h10:hs.length ≤ 10) {lv x:Int} (hx:x ∈ zgP hs lv):0 ≤ x ∧ x < 10:=by
 unfold zgP zko at hx
 simp only [czx,List.mem_filter,List.mem_range,decide_eq_true_eq] at hx
 obtain ⟨i,⟨h1,_⟩,rfl⟩:=hx
 omega
def seaQ (t:Tb) (hs:List Int):Sea × Bool:=if (zku t hs).2 = 0 then (zb1 t hs,true) else (⟨hs,[]⟩,false)
theorem zpD (t:Tb) (hs:List Int):(zku t hs = (t.levels.map (zgP hs),0) ∧ zbq t = 0 ∧ zbg t hs = true) ∨ ∃ e,zku t hs = ([],e) ∧ e ≠ 0:=by
 unfold zku
 by_cases c:zbq t = 0
 ·rw [if_pos c]
  cases c2:zbg t hs
  ·exact .inr ⟨2,by simp,by decide⟩
  ·exact .inl ⟨by simp,c,rfl⟩
 ·rw [if_neg c]
  exact .inr ⟨_,rfl,c⟩
theorem sea_call (y:Yd) (hs:List Int) (h:y.t.heights.length ≤ 4096 ∧ hs.length ≤ 4096):zaP Tryz.prog 73 [Enc.enc y,Enc.enc hs] (· = Enc.enc (seaQ y.t hs)):=by
 have h1:=h.1
 have h2:=h.2
 simp only [zab]
 unfold seaQ
 rcases zpD y.t hs with ⟨hp,hf,hl⟩ | ⟨e,hp,he⟩
 case inr =>
  rw [hp,if_neg he]
  simp only [zcf]
  refine cpz zq2 Tryz.func73 zaB ?_
  rw [Tryz.ntmps73]
  simp only [Tryz.f73,zai,zam]
  simp (maxSteps:=4000000) only [go_sem,zae,zac,zad,zan,zaq,zaa,czb,cza,↓reduceIte,zab,onz,hp,he]
  all_goals (repeat' first | (with_reducible first | rfl | apply And.intro | assumption) | ((with_reducible show zaj _ _ = true); rfl)) <;> try first | omega | (simp only [InR]; omega)
  refine zbG (0) [] [1,4,5,7,20,21] (fun i => [(22,.int .i64 (0:Int))]) (fun _ m => m) (fun _ => True) ?_ ?_ ?_ ?_
  ·trivial
  ·simp [AV.bare,zal,zaN,zaR,zak,zar,zaf,tokz1,lk,zaa,za3,-List.map_map]
  ·intro i hi _; omega
  ·intro _
   simp (maxSteps:=4000000) only [go_sem,zae,zac,zad,zan,zaq,zaa,czb,cza,↓reduceIte,zab,onz,he,czA,decide_false]
   all_goals exact auz
 have hv:=zcs hf
 have h10:hs.length ≤ 10:=by have:=zbY hl; have:=hv.hok.len; omega
 have hlv:=hv.lv
 rw [hp,if_pos rfl]
 have hso:zb1 y.t hs = ⟨hs,y.t.levels.map (zoW hs)⟩:=rfl
 rw [hso]
 obtain ⟨R,hR⟩:∃ R:Nat → List (BA 10),∀ i,R i = (y.t.levels.take i).map (zoW hs):=⟨_,fun _ => rfl⟩
 have hRl:∀ i,i ≤ y.t.levels.length → (R i).length = i:=fun i hi => by rw [hR]; simp; omega
 have hRs:∀ i,i < y.t.levels.length → R (i + 1) = R i ++ [zoW hs (at_ y.t.levels i)]:=fun i hi => by rw [hR,hR,zaV hi,List.map_append]; rfl
 have hRf:R y.t.levels.length = y.t.levels.map (zoW hs):=by rw [hR,czm]
 rw [← hRf]
 have hR0:R 0 = []:=by rw [hR]; rfl
 simp only [zcf]
 refine cpz zq2 Tryz.func73 zaB ?_
 rw [Tryz.ntmps73]
 simp only [Tryz.f73,zai,zam]
 simp (maxSteps:=4000000) only [go_sem,zae,zac,zad,zan,zaq,zaa,czb,cza,↓reduceIte,zab,onz,hp,czz]
 all_goals (repeat' first | (with_reducible first | rfl | apply And.intro | assumption) | ((with_reducible show zaj _ _ = true); rfl)) <;> try first | omega | (simp only [InR]; omega)
 refine zbG (y.t.levels.length) [.cell 1 1 10] [1,4,5,7,20,21] (fun i => [(22,.int .i64 i)]) (fun i m => (m.set 1 (.cells [.sl [] .full,.sl ((R i).map EncE.cs) (.own 2)])).set 2 (.tok i 10)) (fun _ => True) ?_ ?_ ?_ ?_
 ·trivial
 ·simp [AV.bare,zal,zaN,zaR,zak,zar,zaf,tokz1,lk,zaa,za3,hR0,-List.map_map]
 ·intro i hi _
  have hi':=czH.2 hi
  have hge:((y.t.levels.map (zgP hs)).map EncE.cs).getD i [] = [AV.sl ((zgP hs (at_ y.t.levels i)).map EncE.cs) .no]:=by
   rw [zax (by simpa using hi),zii hi]; rfl
  obtain ⟨w,hw⟩:∃ w,zgP hs (at_ y.t.levels i) = w:=⟨_,rfl⟩
  have hwl:∀ x ∈ w,0 ≤ x ∧ x < 10:=fun x hx => wetL_lt h10 (by rw [hw]; exact hx)
  have hwn:w.length ≤ hs.length:=by rw [← hw]; exact ziW _ _ _
  have hrow:zeA w w.length = (zoW hs (at_ y.t.levels i)).l:=by rw [← hw]; exact zm9 h10 _
  rw [hw] at hge
  have hm0:[AV.bool false,AV.bool false,AV.bool false,AV.bool false,AV.bool false,AV.bool false,AV.bool false,AV.bool false,AV.bool false,AV.bool false] = (zeA w 0).map AV.bool:=rfl
  have hrl:=hRl i (by omega)
  simp (maxSteps:=4000000) only [go_sem,zae,zac,zad,zan,zaq,zaa,czb,cza,↓reduceIte,zab,onz,hi',hge,hm0]
  all_goals (repeat' first | (with_reducible first | rfl | apply And.intro | assumption) | ((with_reducible show zaj _ _ = true); rfl)) <;> try first | omega | (simp only [InR]; omega)
  refine zbG (w.length) [] [1,4,5,7,9,10,20,21,22,24,25,26,27] (fun k => [(28,.int .i64 k)]) (fun k m => m.set 3 (.cells ((zeA w k).map AV.bool))) (fun _ => True) ?_ ?_ ?_ ?_
  ·trivial
  ·simp [AV.bare,zal,zaN,zaR,zak,zar,zaf,tokz1,lk,zaa,za3,-List.map_map]
  ·intro k hk _
   have hk':=czH.2 hk
   have hkx:=hwl _ (zbv hk)
   obtain ⟨x,hx⟩:=czu hkx.1
   have hge2:(w.map EncE.cs).getD k [] = [AV.int .i64 (x:Int)]:=by rw [zax hk,hx]; rfl
   have hml:=zdG w k
   have hov:=zkV (l:=zeA w k) (i:=x) (by omega) true
   have hms:(zeA w k).set x true = zeA w (k + 1):=by
    show _ = (zeA w k).set (at_ w k).toNat true
    rw [hx]; rfl
   rw [hms] at hov
   have hx10:x < 10:=by omega
   simp (maxSteps:=4000000) only [go_sem,zae,zac,zad,zaq,zaa,czb,cza,↓reduceIte,zab,onz,hk',hge2,hml,hov]
   all_goals (repeat' first | (with_reducible first | rfl | apply And.intro | assumption) | ((with_reducible show zaj _ _ = true); rfl)) <;> try first | omega | (simp only [InR]; omega)
   refine nxt hk trivial ?_
   simp [AV.bare,zal,zaN,zaR,zak,zar,zaf,tokz1,lk,zaa,za3,-List.map_map]
  ·intro _
   have hra:=(zoW hs (at_ y.t.levels i)).h
   have hts:(zoW hs (at_ y.t.levels i)).l.map AV.bool = EncE.cs (zoW hs (at_ y.t.levels i)):=rfl
   simp (maxSteps:=4000000) only [go_sem,zae,zac,zad,zan,zaq,zaa,czb,cza,↓reduceIte,zab,onz,czA,decide_false,hrow,hra,hrl]
   all_goals (repeat' first | (with_reducible first | rfl | apply And.intro | assumption) | ((with_reducible show zaj _ _ = true); rfl)) <;> try first | omega | (simp only [InR]; omega)
   refine nxt hi trivial ?_
   simp [AV.bare,zal,zaN,zaR,zak,zar,zaf,tokz1,lk,zaa,za3,hRs i hi,-List.map_map]
 ·intro _
  simp (maxSteps:=4000000) only [go_sem,zae,zac,zad,zan,zaq,zaa,czb,cza,↓reduceIte,zab,onz,czA,decide_false]
  all_goals exact auz
def P114 (g:FuncId):=(zas 73 (zbF (fun (y:Yd) (hs:List Int) => y.t.heights.length ≤ 4096 ∧ hs.length ≤ 4096) (fun y hs => seaQ y.t hs)) (P113):zaJ) g
theorem zfH:zaz Tryz.prog P114:=zah (zaM sea_call) (zq2)
theorem zoE (d:Option Nat):zaF P114 d = none:=(zag (by decide) d).trans (zoF d)
attribute [go_sem] P114 zoE
end Go.Proofs
