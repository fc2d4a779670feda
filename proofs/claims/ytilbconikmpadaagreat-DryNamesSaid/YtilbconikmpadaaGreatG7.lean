/- The texts D, L, S1, S2, S3, S4, joined. -/
import Derived.Test.YtilbconikmpadaaGreatG6
import Derived.Test.YtilbconikmpadaaGreatProg
import Derived.KernelRfl
set_option linter.all false
namespace Go.Fs
structure Rg where
 lo:Int
 hi:Int
instance:Inhabited Rg:=⟨⟨0,0⟩⟩
structure Mk where
 frm:Int
 til:Int
 top:Rg
instance:Inhabited Mk:=⟨⟨0,0,default⟩⟩
structure Tb where
 last:Int
 heights:List Rg
 step:Int
 levels:List Int
 marks:List Mk
instance:Enc Rg where
 enc r:=.agg [.int .i64 r.lo,.int .i64 r.hi]
 dec
  | .agg [.int .i64 a,.int .i64 b] => some ⟨a,b⟩
  | _ => none
 law v x h:=by
  split at h
  ·cases h; rfl
  ·cases h
 dep:=2
 ok x:=by simp [zbr]
instance:EncE Rg where
 cs r:=[.int .i64 r.lo,.int .i64 r.hi]
 dcs
  | [.int .i64 a,.int .i64 b] => some ⟨a,b⟩
  | _ => none
 law v x h:=by
  split at h
  ·cases h; rfl
  ·cases h
 inv _:=rfl
 dep:=1
 sz:=2
 len _:=rfl
 ok x:=by simp [zbr]
instance:Enc Mk where
 enc m:=.agg [.int .i64 m.frm,.int .i64 m.til,.int .i64 m.top.lo,.int .i64 m.top.hi]
 dec
  | .agg [.int .i64 a,.int .i64 b,.int .i64 c,.int .i64 d] => some ⟨a,b,⟨c,d⟩⟩
  | _ => none
 law v x h:=by
  split at h
  ·cases h; rfl
  ·cases h
 dep:=2
 ok x:=by simp [zbr]
instance:EncE Mk where
 cs m:=[.int .i64 m.frm,.int .i64 m.til,.int .i64 m.top.lo,.int .i64 m.top.hi]
 dcs
  | [.int .i64 a,.int .i64 b,.int .i64 c,.int .i64 d] => some ⟨a,b,⟨c,d⟩⟩
  | _ => none
 law v x h:=by
  split at h
  ·cases h; rfl
  ·cases h
 inv _:=rfl
 dep:=1
 sz:=4
 len _:=rfl
 ok x:=by simp [zbr]
instance:Enc Tb where
 enc t:=.agg [.int .i64 t.last,.sl (t.heights.map EncE.cs) .no,.int .i64 t.step,.sl (t.levels.map EncE.cs) .no,.sl (t.marks.map EncE.cs) .no]
 dec
  | .agg [.int .i64 a,.sl b .no,.int .i64 c,.sl d .no,.sl e .no] =>
   match (zdC b:Option (List Rg)),(zdC d:Option (List Int)),(zdC e:Option (List Mk)) with
   | some b,some d,some e => some ⟨a,b,c,d,e⟩
   | _,_,_ => none
  | _ => none
 law v x h:=by
  split at h
  ·split at h
   ·rename_i h1 h2 h3
    cases h
    rw [zbx _ _ h1,zbx _ _ h2,zbx _ _ h3]
   ·cases h
  ·cases h
 dep:=3
 ok x:=by
  simp only [zbr,czn,czk,or_false,forall_eq_or_imp,forall_eq,true_and,czx,forall_exists_index,and_imp,forall_apply_eq_imp_iff₂]
  exact ⟨fun a _ => EncE.ok a,fun a _ => EncE.ok a,fun a _ => EncE.ok a⟩
theorem enc_rg (r:Rg):Enc.enc r = .agg [.int .i64 r.lo,.int .i64 r.hi]:=rfl
theorem cs_rg (r:Rg):EncE.cs r = [.int .i64 r.lo,.int .i64 r.hi]:=rfl
theorem dec_rg (a b:Int):(Enc.dec (.agg [.int .i64 a,.int .i64 b]):Option Rg) = some ⟨a,b⟩:=rfl
theorem dcs_rg (a b:Int):(EncE.dcs [.int .i64 a,.int .i64 b]:Option Rg) = some ⟨a,b⟩:=rfl
theorem dep_rg:EncE.dep Rg = 1:=rfl
theorem sz_rg:EncE.sz Rg = 2:=rfl
theorem eta_rg (r:Rg):(⟨r.lo,r.hi⟩:Rg) = r:=rfl
theorem enc_mk (m:Mk):Enc.enc m = .agg [.int .i64 m.frm,.int .i64 m.til,.int .i64 m.top.lo,.int .i64 m.top.hi]:=rfl
theorem cs_mk (m:Mk):EncE.cs m = [.int .i64 m.frm,.int .i64 m.til,.int .i64 m.top.lo,.int .i64 m.top.hi]:=rfl
theorem dec_mk (a b c d:Int):(Enc.dec (.agg [.int .i64 a,.int .i64 b,.int .i64 c,.int .i64 d]):Option Mk) = some ⟨a,b,⟨c,d⟩⟩:=rfl
theorem dcs_mk (a b c d:Int):(EncE.dcs [.int .i64 a,.int .i64 b,.int .i64 c,.int .i64 d]:Option Mk) = some ⟨a,b,⟨c,d⟩⟩:=rfl
theorem dep_mk:EncE.dep Mk = 1:=rfl
def zcL:=And.intro @zl9 (And.intro @cs_arr (And.intro @zqf (And.intro @zeF (And.intro @zql (And.intro @zqk (And.intro @cs_rg (And.intro @cs_mk (And.intro @zcj (And.intro @zdD (And.intro @zjY (And.intro @zl5 (And.intro @zl4 (And.intro @dep_rg (And.intro @dep_mk (And.intro @zl8 (And.intro @zr1 (And.intro @zr0 (And.intro @znN (And.intro @bel_int (And.intro @znP (And.intro @zrY (And.intro @zrZ (And.intro @zqC (And.intro @zqD (And.intro @bel_mp (And.intro @zqA (And.intro @bel_agg (And.intro @bel_tup (And.intro @zqB (And.intro @zrX (And.intro @bel_mpr (And.intro @bel_fn (And.intro @zlk (And.intro @zj7 (And.intro @zj6 (And.intro @zj8 (And.intro @zll (And.intro @zbm (And.intro @zc5 (And.intro @zdj (And.intro @zbC (And.intro @zdd (And.intro @zhU (And.intro @zcu (And.intro @bel_vec (And.intro @bel_vp (And.intro @znQ @zr2)))))))))))))))))))))))))))))))))))))))))))))))
theorem sz_mk:EncE.sz Mk = 4:=rfl
theorem eta_mk (r:Mk):(⟨r.frm,r.til,r.top⟩:Mk) = r:=rfl
theorem zny (t:Tb):Enc.enc t = .agg [.int .i64 t.last,.sl (t.heights.map EncE.cs) .no,.int .i64 t.step,.sl (t.levels.map EncE.cs) .no,.sl (t.marks.map EncE.cs) .no]:=rfl
def zcp:=And.intro @zp8 (And.intro @zqa (And.intro @zp9 (And.intro @zek (And.intro @zqb (And.intro @zp7 (And.intro @zhP (And.intro @zl2 (And.intro @enc_rg (And.intro @enc_mk @zny)))))))))
theorem dec_tb (a c:Int) (b d e:List (List AV)):(Enc.dec (.agg [.int .i64 a,.sl b .no,.int .i64 c,.sl d .no,.sl e .no]):Option Tb) =
  match (zdC b:Option (List Rg)),(zdC d:Option (List Int)),(zdC e:Option (List Mk)) with
   | some b,some d,some e => some ⟨a,b,c,d,e⟩
   | _,_,_ => none:=rfl
theorem eta_tb (t:Tb):(⟨t.last,t.heights,t.step,t.levels,t.marks⟩:Tb) = t:=rfl
attribute [go_sem] zje vc_label vc_seq zjf zeM vc_loop vc_exit vc_ret zmu vc_draw stepA ztc sem zdQ semV evT lk zaW blkA St.put putT AV.un AV.av zfJ Op.operands ziH pickA binA zct retA zgM resV zeN AV.strip Tk.strip ofV zi5 List.map_nil List.toList_toArray Option.getD_some Option.getD_none czy Nat.reduceAdd Nat.reduceSub if_true if_false Nat.reduceEqDiff true_and and_true czp Nat.reduceLT forall_const Option.map_some reduceCtorEq implies_true zjP zlK zi9 zi8 ze2 AV.solid AV.cells' AV.cells List.nil_append czs List.append_nil zdM avsA callV ziM czn czk or_false or_true false_or forall_eq_or_imp forall_eq zqt Call.operands Array.toList_append czz zrq bndA List.getD_cons_zero List.getD_cons_succ List.getD_nil zqR zs2 zcC zbF zec ziL spec5 zp7 zhP zl2 dec_int dec_bool dec_list zeF zql zqk dcs_int dcs_list zdo decL_nil decL_cons zqh zjY zl5 zl4 sz_int sz_bool sz_list zrp imm_map len_map zaf Nat.reduceLeDiff minA maxA true_implies Nat.succ_ne_zero List.drop_succ_cons List.drop_zero List.take_succ_cons List.take_zero czD czS not_true_eq_false not_false_eq_true zcj zdD tokz1 zs3 snap_int zs4 snap_nilp snap_nilf snap_agg snap_tup snap_ref snap_fn snap_mpr zpf zmD snap_ptr snap_arr snap_mp imm_undef imm_int imm_boolv imm_nilp imm_nilf imm_agg imm_tup imm_ref imm_fn imm_mpr ztL zpV imm_ptr imm_arr imm_mp czA decide_false decide_true false_implies Nat.lt_irrefl czF Nat.reduceMul Nat.zero_add Nat.zero_le Bool.true_eq_false vcDr zdF zgc zis zd7 zbM zbI effOp zev zjC List.filterMap_cons List.filterMap_nil List.replicate List.set_cons_zero List.set_cons_succ Bool.not_true Bool.not_false Bool.and_true Bool.and_false Bool.true_and Bool.false_and Nat.add_zero and_self imp_self appA zrV zem zgi zb9 zc4 Option.map_none List.getElem?_nil zkw zg4 zjW eqA Bool.not_eq_true List.singleton_append Option.isSome_some Option.isSome_none zpg ztM ite_or ite_and Bool.not_eq_true' vcOps_nil zsU zib if_tr if_prop' if_tr' ite_self cast0 cast1 Int.reduceToNat Int.reduceLT Int.reduceLE Int.reduceEq eq_self Int.le_refl czf zp8 zqa zp9 zek dec_fnl dec_fnb dec_fnc dec_refc zqb cs_arr dec_arr dcs_arr zlb zqf sz_arr take_arr zsY zo7 soft_ints snap_ints imm_ints scal_ints one_ints drop_ints zpH zpI Nat.mul_one callN frA AV.frsh zgk zfU zep List.any_cons List.any_nil zrn Bool.or_false Bool.false_or Bool.or_true Bool.true_or beq_self_eq_true Nat.reduceBEq vc_scope scpA zpk snapF_int zpl zs7 zs8 snapF_agg snapF_tup snapF_ref snapF_fn snapF_mpr snapF_sl snapF_ptr snapF_arr snapF_mp snapF_yld snapF_vec snapF_vp vecA zp1 snapG_agg zpi snapG_int zpj zs5 zs6 snapG_tup snapG_ref snapG_fn snapG_mpr snapG_sl snapG_ptr snapG_arr snapG_mp snapG_yld snapG_vec snapG_vp snapA partS AV.strip1 AV.soft picR_one picR_nil zrA zs9 snap_vec snap_vp imm_vec imm_vp all_map picS_sl picS_arr picS_vec znY callOp ziR vecIn fzV enc_rg cs_rg dec_rg dcs_rg dep_rg sz_rg eta_rg enc_mk cs_mk dec_mk dcs_mk dep_mk sz_mk eta_mk zny dec_tb eta_tb
end Go.Fs
namespace Go.Proofs
open Go.Fs
theorem zaB:Tryz.prog.follows .mixedOrders = true:=by kernel_rfl
theorem ly0:zcx Tryz.prog 0 = some (1) ∧ zbz Tryz.prog 0 = some (false) ∧ bytesOf? Tryz.prog 0 = some (0) ∧ za7 Tryz.prog 0 = false ∧ zck Tryz.prog 0 = none ∧ zbD Tryz.prog 0 = none ∧ zbL Tryz.prog 0 = none ∧ intOf? Tryz.prog 0 = none ∧ za5 Tryz.prog 0 = none ∧ zaU Tryz.prog 0 = none ∧ mapOf? Tryz.prog 0 = none ∧ zaE Tryz.prog 0 = none ∧ zaY Tryz.prog 0 = some ([.undef]) ∧ zbJ Tryz.prog 0 = some (.undef) ∧ zbK Tryz.prog 0 = none:=by and_intros <;> kernel_rfl
theorem ly1:zcx Tryz.prog 1 = some (1) ∧ zbz Tryz.prog 1 = some (false) ∧ bytesOf? Tryz.prog 1 = some (8) ∧ za7 Tryz.prog 1 = false ∧ zck Tryz.prog 1 = none ∧ zbD Tryz.prog 1 = none ∧ zbL Tryz.prog 1 = none ∧ intOf? Tryz.prog 1 = none ∧ za5 Tryz.prog 1 = none ∧ zaU Tryz.prog 1 = none ∧ mapOf? Tryz.prog 1 = none ∧ zaE Tryz.prog 1 = none ∧ zaY Tryz.prog 1 = some ([.nilf]) ∧ zbJ Tryz.prog 1 = some (.nilf) ∧ zbK Tryz.prog 1 = none:=by and_intros <;> kernel_rfl
theorem ly2:zcx Tryz.prog 2 = some (1) ∧ zbz Tryz.prog 2 = some (false) ∧ bytesOf? Tryz.prog 2 = some (8) ∧ za7 Tryz.prog 2 = false ∧ zck Tryz.prog 2 = none ∧ zbD Tryz.prog 2 = none ∧ zbL Tryz.prog 2 = none ∧ intOf? Tryz.prog 2 = some (.i64) ∧ za5 Tryz.prog 2 = none ∧ zaU Tryz.prog 2 = none ∧ mapOf? Tryz.prog 2 = none ∧ zaE Tryz.prog 2 = none ∧ zaY Tryz.prog 2 = some ([(.int .i64 0)]) ∧ zbJ Tryz.prog 2 = some ((.int .i64 0)) ∧ zbK Tryz.prog 2 = none:=by and_intros <;> kernel_rfl
theorem ly3:zcx Tryz.prog 3 = some (1) ∧ zbz Tryz.prog 3 = some (false) ∧ bytesOf? Tryz.prog 3 = some (8) ∧ za7 Tryz.prog 3 = false ∧ zck Tryz.prog 3 = none ∧ zbD Tryz.prog 3 = none ∧ zbL Tryz.prog 3 = none ∧ intOf? Tryz.prog 3 = some (.i64) ∧ za5 Tryz.prog 3 = none ∧ zaU Tryz.prog 3 = none ∧ mapOf? Tryz.prog 3 = none ∧ zaE Tryz.prog 3 = none ∧ zaY Tryz.prog 3 = some ([(.int .i64 0)]) ∧ zbJ Tryz.prog 3 = some ((.int .i64 0)) ∧ zbK Tryz.prog 3 = none:=by and_intros <;> kernel_rfl
theorem ly4:zcx Tryz.prog 4 = some (1) ∧ zbz Tryz.prog 4 = some (false) ∧ bytesOf? Tryz.prog 4 = some (1) ∧ za7 Tryz.prog 4 = true ∧ zck Tryz.prog 4 = none ∧ zbD Tryz.prog 4 = none ∧ zbL Tryz.prog 4 = none ∧ intOf? Tryz.prog 4 = none ∧ za5 Tryz.prog 4 = none ∧ zaU Tryz.prog 4 = none ∧ mapOf? Tryz.prog 4 = none ∧ zaE Tryz.prog 4 = none ∧ zaY Tryz.prog 4 = some ([(.bool false)]) ∧ zbJ Tryz.prog 4 = some ((.bool false)) ∧ zbK Tryz.prog 4 = none:=by and_intros <;> kernel_rfl
theorem ly5:zcx Tryz.prog 5 = some (1) ∧ zbz Tryz.prog 5 = some (false) ∧ bytesOf? Tryz.prog 5 = some (1) ∧ za7 Tryz.prog 5 = false ∧ zck Tryz.prog 5 = none ∧ zbD Tryz.prog 5 = none ∧ zbL Tryz.prog 5 = none ∧ intOf? Tryz.prog 5 = some (.u8) ∧ za5 Tryz.prog 5 = none ∧ zaU Tryz.prog 5 = none ∧ mapOf? Tryz.prog 5 = none ∧ zaE Tryz.prog 5 = none ∧ zaY Tryz.prog 5 = some ([(.int .u8 0)]) ∧ zbJ Tryz.prog 5 = some ((.int .u8 0)) ∧ zbK Tryz.prog 5 = none:=by and_intros <;> kernel_rfl
theorem ly22:zcx Tryz.prog 22 = some (1) ∧ zbz Tryz.prog 22 = some (false) ∧ bytesOf? Tryz.prog 22 = some (24) ∧ za7 Tryz.prog 22 = false ∧ zck Tryz.prog 22 = some ((68,2)) ∧ zbD Tryz.prog 22 = none ∧ zbL Tryz.prog 22 = none ∧ intOf? Tryz.prog 22 = none ∧ za5 Tryz.prog 22 = none ∧ zaU Tryz.prog 22 = none ∧ mapOf? Tryz.prog 22 = none ∧ zaE Tryz.prog 22 = none ∧ zaY Tryz.prog 22 = some ([(.sl [] .full)]) ∧ zbJ Tryz.prog 22 = some ((.sl [] .full)) ∧ zbK Tryz.prog 22 = none:=by and_intros <;> kernel_rfl
theorem ly23:zcx Tryz.prog 23 = some (1) ∧ zbz Tryz.prog 23 = some (false) ∧ bytesOf? Tryz.prog 23 = some (24) ∧ za7 Tryz.prog 23 = false ∧ zck Tryz.prog 23 = some ((3,1)) ∧ zbD Tryz.prog 23 = none ∧ zbL Tryz.prog 23 = none ∧ intOf? Tryz.prog 23 = none ∧ za5 Tryz.prog 23 = none ∧ zaU Tryz.prog 23 = none ∧ mapOf? Tryz.prog 23 = none ∧ zaE Tryz.prog 23 = none ∧ zaY Tryz.prog 23 = some ([(.sl [] .full)]) ∧ zbJ Tryz.prog 23 = some ((.sl [] .full)) ∧ zbK Tryz.prog 23 = none:=by and_intros <;> kernel_rfl
theorem ly24:zcx Tryz.prog 24 = some (1) ∧ zbz Tryz.prog 24 = some (false) ∧ bytesOf? Tryz.prog 24 = some (24) ∧ za7 Tryz.prog 24 = false ∧ zck Tryz.prog 24 = some ((175,4)) ∧ zbD Tryz.prog 24 = none ∧ zbL Tryz.prog 24 = none ∧ intOf? Tryz.prog 24 = none ∧ za5 Tryz.prog 24 = none ∧ zaU Tryz.prog 24 = none ∧ mapOf? Tryz.prog 24 = none ∧ zaE Tryz.prog 24 = none ∧ zaY Tryz.prog 24 = some ([(.sl [] .full)]) ∧ zbJ Tryz.prog 24 = some ((.sl [] .full)) ∧ zbK Tryz.prog 24 = none:=by and_intros <;> kernel_rfl
theorem ly26:zcx Tryz.prog 26 = some (5) ∧ zbz Tryz.prog 26 = some (true) ∧ bytesOf? Tryz.prog 26 = some (88) ∧ za7 Tryz.prog 26 = false ∧ zck Tryz.prog 26 = none ∧ zbD Tryz.prog 26 = none ∧ zbL Tryz.prog 26 = none ∧ intOf? Tryz.prog 26 = none ∧ za5 Tryz.prog 26 = none ∧ zaU Tryz.prog 26 = none ∧ mapOf? Tryz.prog 26 = none ∧ zaE Tryz.prog 26 = some ([(0,1),(1,1),(2,1),(3,1),(4,1)]) ∧ zaY Tryz.prog 26 = some ([(.int .i64 0),(.sl [] .full),(.int .i64 0),(.sl [] .full),(.sl [] .full)]) ∧ zbJ Tryz.prog 26 = some ((.agg [(.int .i64 0),(.sl [] .full),(.int .i64 0),(.sl [] .full),(.sl [] .full)])) ∧ zbK Tryz.prog 26 = none:=by and_intros <;> kernel_rfl
theorem ly27:zcx Tryz.prog 27 = some (1) ∧ zbz Tryz.prog 27 = some (false) ∧ bytesOf? Tryz.prog 27 = some (24) ∧ za7 Tryz.prog 27 = false ∧ zck Tryz.prog 27 = some ((108,3)) ∧ zbD Tryz.prog 27 = none ∧ zbL Tryz.prog 27 = none ∧ intOf? Tryz.prog 27 = none ∧ za5 Tryz.prog 27 = none ∧ zaU Tryz.prog 27 = none ∧ mapOf? Tryz.prog 27 = none ∧ zaE Tryz.prog 27 = none ∧ zaY Tryz.prog 27 = some ([(.sl [] .full)]) ∧ zbJ Tryz.prog 27 = some ((.sl [] .full)) ∧ zbK Tryz.prog 27 = none:=by and_intros <;> kernel_rfl
theorem ly28:zcx Tryz.prog 28 = some (1) ∧ zbz Tryz.prog 28 = some (false) ∧ bytesOf? Tryz.prog 28 = some (24) ∧ za7 Tryz.prog 28 = false ∧ zck Tryz.prog 28 = some ((113,2)) ∧ zbD Tryz.prog 28 = none ∧ zbL Tryz.prog 28 = none ∧ intOf? Tryz.prog 28 = none ∧ za5 Tryz.prog 28 = none ∧ zaU Tryz.prog 28 = none ∧ mapOf? Tryz.prog 28 = none ∧ zaE Tryz.prog 28 = none ∧ zaY Tryz.prog 28 = some ([(.sl [] .full)]) ∧ zbJ Tryz.prog 28 = some ((.sl [] .full)) ∧ zbK Tryz.prog 28 = none:=by and_intros <;> kernel_rfl
theorem ly30:zcx Tryz.prog 30 = some (9) ∧ zbz Tryz.prog 30 = some (true) ∧ bytesOf? Tryz.prog 30 = some (168) ∧ za7 Tryz.prog 30 = false ∧ zck Tryz.prog 30 = none ∧ zbD Tryz.prog 30 = none ∧ zbL Tryz.prog 30 = none ∧ intOf? Tryz.prog 30 = none ∧ za5 Tryz.prog 30 = none ∧ zaU Tryz.prog 30 = none ∧ mapOf? Tryz.prog 30 = none ∧ zaE Tryz.prog 30 = some ([(0,5),(5,1),(6,1),(7,1),(8,1)]) ∧ zaY Tryz.prog 30 = some ([(.int .i64 0),(.sl [] .full),(.int .i64 0),(.sl [] .full),(.sl [] .full),(.int .i64 0),(.sl [] .full),(.sl [] .full),(.sl [] .full)]) ∧ zbJ Tryz.prog 30 = some ((.agg [(.int .i64 0),(.sl [] .full),(.int .i64 0),(.sl [] .full),(.sl [] .full),(.int .i64 0),(.sl [] .full),(.sl [] .full),(.sl [] .full)])) ∧ zbK Tryz.prog 30 = none:=by and_intros <;> kernel_rfl
theorem ly32:zcx Tryz.prog 32 = some (1) ∧ zbz Tryz.prog 32 = some (false) ∧ bytesOf? Tryz.prog 32 = some (8) ∧ za7 Tryz.prog 32 = false ∧ zck Tryz.prog 32 = none ∧ zbD Tryz.prog 32 = none ∧ zbL Tryz.prog 32 = none ∧ intOf? Tryz.prog 32 = none ∧ za5 Tryz.prog 32 = none ∧ zaU Tryz.prog 32 = none ∧ mapOf? Tryz.prog 32 = none ∧ zaE Tryz.prog 32 = none ∧ zaY Tryz.prog 32 = some ([.nilf]) ∧ zbJ Tryz.prog 32 = some (.nilf) ∧ zbK Tryz.prog 32 = none:=by and_intros <;> kernel_rfl
theorem ly33:zcx Tryz.prog 33 = some (1) ∧ zbz Tryz.prog 33 = some (false) ∧ bytesOf? Tryz.prog 33 = some (24) ∧ za7 Tryz.prog 33 = false ∧ zck Tryz.prog 33 = some ((55,3)) ∧ zbD Tryz.prog 33 = none ∧ zbL Tryz.prog 33 = none ∧ intOf? Tryz.prog 33 = none ∧ za5 Tryz.prog 33 = none ∧ zaU Tryz.prog 33 = none ∧ mapOf? Tryz.prog 33 = none ∧ zaE Tryz.prog 33 = none ∧ zaY Tryz.prog 33 = some ([(.sl [] .full)]) ∧ zbJ Tryz.prog 33 = some ((.sl [] .full)) ∧ zbK Tryz.prog 33 = none:=by and_intros <;> kernel_rfl
theorem ly34:zcx Tryz.prog 34 = some (1) ∧ zbz Tryz.prog 34 = some (false) ∧ bytesOf? Tryz.prog 34 = some (8) ∧ za7 Tryz.prog 34 = false ∧ zck Tryz.prog 34 = none ∧ zbD Tryz.prog 34 = none ∧ zbL Tryz.prog 34 = none ∧ intOf? Tryz.prog 34 = some (.i64) ∧ za5 Tryz.prog 34 = none ∧ zaU Tryz.prog 34 = none ∧ mapOf? Tryz.prog 34 = none ∧ zaE Tryz.prog 34 = none ∧ zaY Tryz.prog 34 = some ([(.int .i64 0)]) ∧ zbJ Tryz.prog 34 = some ((.int .i64 0)) ∧ zbK Tryz.prog 34 = none:=by and_intros <;> kernel_rfl
theorem ly37:zcx Tryz.prog 37 = some (1) ∧ zbz Tryz.prog 37 = some (false) ∧ bytesOf? Tryz.prog 37 = some (24) ∧ za7 Tryz.prog 37 = false ∧ zck Tryz.prog 37 = some ((88,2)) ∧ zbD Tryz.prog 37 = none ∧ zbL Tryz.prog 37 = none ∧ intOf? Tryz.prog 37 = none ∧ za5 Tryz.prog 37 = none ∧ zaU Tryz.prog 37 = none ∧ mapOf? Tryz.prog 37 = none ∧ zaE Tryz.prog 37 = none ∧ zaY Tryz.prog 37 = some ([(.sl [] .full)]) ∧ zbJ Tryz.prog 37 = some ((.sl [] .full)) ∧ zbK Tryz.prog 37 = none:=by and_intros <;> kernel_rfl
theorem ly38:zcx Tryz.prog 38 = some (1) ∧ zbz Tryz.prog 38 = some (false) ∧ bytesOf? Tryz.prog 38 = some (24) ∧ za7 Tryz.prog 38 = false ∧ zck Tryz.prog 38 = some ((91,4)) ∧ zbD Tryz.prog 38 = none ∧ zbL Tryz.prog 38 = none ∧ intOf? Tryz.prog 38 = none ∧ za5 Tryz.prog 38 = none ∧ zaU Tryz.prog 38 = none ∧ mapOf? Tryz.prog 38 = none ∧ zaE Tryz.prog 38 = none ∧ zaY Tryz.prog 38 = some ([(.sl [] .full)]) ∧ zbJ Tryz.prog 38 = some ((.sl [] .full)) ∧ zbK Tryz.prog 38 = none:=by and_intros <;> kernel_rfl
theorem ly40:zcx Tryz.prog 40 = some (5) ∧ zbz Tryz.prog 40 = some (true) ∧ bytesOf? Tryz.prog 40 = some (88) ∧ za7 Tryz.prog 40 = false ∧ zck Tryz.prog 40 = none ∧ zbD Tryz.prog 40 = none ∧ zbL Tryz.prog 40 = none ∧ intOf? Tryz.prog 40 = none ∧ za5 Tryz.prog 40 = none ∧ zaU Tryz.prog 40 = none ∧ mapOf? Tryz.prog 40 = none ∧ zaE Tryz.prog 40 = some ([(0,1),(1,1),(2,1),(3,1),(4,1)]) ∧ zaY Tryz.prog 40 = some ([(.int .i64 0),(.sl [] .full),(.int .i64 0),(.sl [] .full),(.sl [] .full)]) ∧ zbJ Tryz.prog 40 = some ((.agg [(.int .i64 0),(.sl [] .full),(.int .i64 0),(.sl [] .full),(.sl [] .full)])) ∧ zbK Tryz.prog 40 = none:=by and_intros <;> kernel_rfl
theorem ly41:zcx Tryz.prog 41 = some (1) ∧ zbz Tryz.prog 41 = some (false) ∧ bytesOf? Tryz.prog 41 = some (24) ∧ za7 Tryz.prog 41 = false ∧ zck Tryz.prog 41 = some ((93,3)) ∧ zbD Tryz.prog 41 = none ∧ zbL Tryz.prog 41 = none ∧ intOf? Tryz.prog 41 = none ∧ za5 Tryz.prog 41 = none ∧ zaU Tryz.prog 41 = none ∧ mapOf? Tryz.prog 41 = none ∧ zaE Tryz.prog 41 = none ∧ zaY Tryz.prog 41 = some ([(.sl [] .full)]) ∧ zbJ Tryz.prog 41 = some ((.sl [] .full)) ∧ zbK Tryz.prog 41 = none:=by and_intros <;> kernel_rfl
theorem ly42:zcx Tryz.prog 42 = some (1) ∧ zbz Tryz.prog 42 = some (false) ∧ bytesOf? Tryz.prog 42 = some (24) ∧ za7 Tryz.prog 42 = false ∧ zck Tryz.prog 42 = some ((95,2)) ∧ zbD Tryz.prog 42 = none ∧ zbL Tryz.prog 42 = none ∧ intOf? Tryz.prog 42 = none ∧ za5 Tryz.prog 42 = none ∧ zaU Tryz.prog 42 = none ∧ mapOf? Tryz.prog 42 = none ∧ zaE Tryz.prog 42 = none ∧ zaY Tryz.prog 42 = some ([(.sl [] .full)]) ∧ zbJ Tryz.prog 42 = some ((.sl [] .full)) ∧ zbK Tryz.prog 42 = none:=by and_intros <;> kernel_rfl
theorem ly44:zcx Tryz.prog 44 = some (9) ∧ zbz Tryz.prog 44 = some (true) ∧ bytesOf? Tryz.prog 44 = some (168) ∧ za7 Tryz.prog 44 = false ∧ zck Tryz.prog 44 = none ∧ zbD Tryz.prog 44 = none ∧ zbL Tryz.prog 44 = none ∧ intOf? Tryz.prog 44 = none ∧ za5 Tryz.prog 44 = none ∧ zaU Tryz.prog 44 = none ∧ mapOf? Tryz.prog 44 = none ∧ zaE Tryz.prog 44 = some ([(0,5),(5,1),(6,1),(7,1),(8,1)]) ∧ zaY Tryz.prog 44 = some ([(.int .i64 0),(.sl [] .full),(.int .i64 0),(.sl [] .full),(.sl [] .full),(.int .i64 0),(.sl [] .full),(.sl [] .full),(.sl [] .full)]) ∧ zbJ Tryz.prog 44 = some ((.agg [(.int .i64 0),(.sl [] .full),(.int .i64 0),(.sl [] .full),(.sl [] .full),(.int .i64 0),(.sl [] .full),(.sl [] .full),(.sl [] .full)])) ∧ zbK Tryz.prog 44 = none:=by and_intros <;> kernel_rfl
theorem ly53:zcx Tryz.prog 53 = some (3) ∧ zbz Tryz.prog 53 = some (true) ∧ bytesOf? Tryz.prog 53 = some (40) ∧ za7 Tryz.prog 53 = false ∧ zck Tryz.prog 53 = none ∧ zbD Tryz.prog 53 = none ∧ zbL Tryz.prog 53 = none ∧ intOf? Tryz.prog 53 = none ∧ za5 Tryz.prog 53 = none ∧ zaU Tryz.prog 53 = none ∧ mapOf? Tryz.prog 53 = none ∧ zaE Tryz.prog 53 = some ([(0,1),(1,1),(2,1)]) ∧ zaY Tryz.prog 53 = some ([(.int .i64 0),(.int .i64 0),(.sl [] .full)]) ∧ zbJ Tryz.prog 53 = some ((.agg [(.int .i64 0),(.int .i64 0),(.sl [] .full)])) ∧ zbK Tryz.prog 53 = none:=by and_intros <;> kernel_rfl
theorem ly55:zcx Tryz.prog 55 = some (3) ∧ zbz Tryz.prog 55 = some (true) ∧ bytesOf? Tryz.prog 55 = some (40) ∧ za7 Tryz.prog 55 = false ∧ zck Tryz.prog 55 = none ∧ zbD Tryz.prog 55 = none ∧ zbL Tryz.prog 55 = none ∧ intOf? Tryz.prog 55 = none ∧ za5 Tryz.prog 55 = none ∧ zaU Tryz.prog 55 = none ∧ mapOf? Tryz.prog 55 = none ∧ zaE Tryz.prog 55 = some ([(0,1),(1,1),(2,1)]) ∧ zaY Tryz.prog 55 = some ([(.int .i64 0),(.int .i64 0),(.sl [] .full)]) ∧ zbJ Tryz.prog 55 = some ((.agg [(.int .i64 0),(.int .i64 0),(.sl [] .full)])) ∧ zbK Tryz.prog 55 = none:=by and_intros <;> kernel_rfl
theorem ly61:zcx Tryz.prog 61 = some (2) ∧ zbz Tryz.prog 61 = some (true) ∧ bytesOf? Tryz.prog 61 = some (16) ∧ za7 Tryz.prog 61 = false ∧ zck Tryz.prog 61 = none ∧ zbD Tryz.prog 61 = none ∧ zbL Tryz.prog 61 = none ∧ intOf? Tryz.prog 61 = none ∧ za5 Tryz.prog 61 = some (2) ∧ zaU Tryz.prog 61 = some (2) ∧ mapOf? Tryz.prog 61 = none ∧ zaE Tryz.prog 61 = some ([(0,1),(1,1)]) ∧ zaY Tryz.prog 61 = some ([(.int .i64 0),(.int .i64 0)]) ∧ zbJ Tryz.prog 61 = some ((.agg [(.int .i64 0),(.int .i64 0)])) ∧ zbK Tryz.prog 61 = none:=by and_intros <;> kernel_rfl
theorem ly64:zcx Tryz.prog 64 = some (1) ∧ zbz Tryz.prog 64 = some (false) ∧ bytesOf? Tryz.prog 64 = some (24) ∧ za7 Tryz.prog 64 = false ∧ zck Tryz.prog 64 = some ((23,1)) ∧ zbD Tryz.prog 64 = none ∧ zbL Tryz.prog 64 = none ∧ intOf? Tryz.prog 64 = none ∧ za5 Tryz.prog 64 = none ∧ zaU Tryz.prog 64 = none ∧ mapOf? Tryz.prog 64 = none ∧ zaE Tryz.prog 64 = none ∧ zaY Tryz.prog 64 = some ([(.sl [] .full)]) ∧ zbJ Tryz.prog 64 = some ((.sl [] .full)) ∧ zbK Tryz.prog 64 = none:=by and_intros <;> kernel_rfl
theorem ly68:zcx Tryz.prog 68 = some (2) ∧ zbz Tryz.prog 68 = some (true) ∧ bytesOf? Tryz.prog 68 = some (16) ∧ za7 Tryz.prog 68 = false ∧ zck Tryz.prog 68 = none ∧ zbD Tryz.prog 68 = none ∧ zbL Tryz.prog 68 = none ∧ intOf? Tryz.prog 68 = none ∧ za5 Tryz.prog 68 = some (2) ∧ zaU Tryz.prog 68 = some (2) ∧ mapOf? Tryz.prog 68 = none ∧ zaE Tryz.prog 68 = some ([(0,1),(1,1)]) ∧ zaY Tryz.prog 68 = some ([(.int .i64 0),(.int .i64 0)]) ∧ zbJ Tryz.prog 68 = some ((.agg [(.int .i64 0),(.int .i64 0)])) ∧ zbK Tryz.prog 68 = none:=by and_intros <;> kernel_rfl
theorem ly88:zcx Tryz.prog 88 = some (2) ∧ zbz Tryz.prog 88 = some (true) ∧ bytesOf? Tryz.prog 88 = some (16) ∧ za7 Tryz.prog 88 = false ∧ zck Tryz.prog 88 = none ∧ zbD Tryz.prog 88 = none ∧ zbL Tryz.prog 88 = none ∧ intOf? Tryz.prog 88 = none ∧ za5 Tryz.prog 88 = some (2) ∧ zaU Tryz.prog 88 = some (2) ∧ mapOf? Tryz.prog 88 = none ∧ zaE Tryz.prog 88 = some ([(0,1),(1,1)]) ∧ zaY Tryz.prog 88 = some ([(.int .i64 0),(.int .i64 0)]) ∧ zbJ Tryz.prog 88 = some ((.agg [(.int .i64 0),(.int .i64 0)])) ∧ zbK Tryz.prog 88 = none:=by and_intros <;> kernel_rfl
theorem ly91:zcx Tryz.prog 91 = some (4) ∧ zbz Tryz.prog 91 = some (true) ∧ bytesOf? Tryz.prog 91 = some (32) ∧ za7 Tryz.prog 91 = false ∧ zck Tryz.prog 91 = none ∧ zbD Tryz.prog 91 = none ∧ zbL Tryz.prog 91 = none ∧ intOf? Tryz.prog 91 = none ∧ za5 Tryz.prog 91 = none ∧ zaU Tryz.prog 91 = some (4) ∧ mapOf? Tryz.prog 91 = none ∧ zaE Tryz.prog 91 = some ([(0,1),(1,1),(2,2)]) ∧ zaY Tryz.prog 91 = some ([(.int .i64 0),(.int .i64 0),(.int .i64 0),(.int .i64 0)]) ∧ zbJ Tryz.prog 91 = some ((.agg [(.int .i64 0),(.int .i64 0),(.int .i64 0),(.int .i64 0)])) ∧ zbK Tryz.prog 91 = none:=by and_intros <;> kernel_rfl
theorem ly93:zcx Tryz.prog 93 = some (3) ∧ zbz Tryz.prog 93 = some (true) ∧ bytesOf? Tryz.prog 93 = some (24) ∧ za7 Tryz.prog 93 = false ∧ zck Tryz.prog 93 = none ∧ zbD Tryz.prog 93 = none ∧ zbL Tryz.prog 93 = none ∧ intOf? Tryz.prog 93 = none ∧ za5 Tryz.prog 93 = some (3) ∧ zaU Tryz.prog 93 = some (3) ∧ mapOf? Tryz.prog 93 = none ∧ zaE Tryz.prog 93 = some ([(0,1),(1,1),(2,1)]) ∧ zaY Tryz.prog 93 = some ([(.int .i64 0),(.int .i64 0),(.int .i64 0)]) ∧ zbJ Tryz.prog 93 = some ((.agg [(.int .i64 0),(.int .i64 0),(.int .i64 0)])) ∧ zbK Tryz.prog 93 = none:=by and_intros <;> kernel_rfl
theorem ly95:zcx Tryz.prog 95 = some (2) ∧ zbz Tryz.prog 95 = some (true) ∧ bytesOf? Tryz.prog 95 = some (16) ∧ za7 Tryz.prog 95 = false ∧ zck Tryz.prog 95 = none ∧ zbD Tryz.prog 95 = none ∧ zbL Tryz.prog 95 = none ∧ intOf? Tryz.prog 95 = none ∧ za5 Tryz.prog 95 = some (2) ∧ zaU Tryz.prog 95 = some (2) ∧ mapOf? Tryz.prog 95 = none ∧ zaE Tryz.prog 95 = some ([(0,1),(1,1)]) ∧ zaY Tryz.prog 95 = some ([(.int .i64 0),(.int .i64 0)]) ∧ zbJ Tryz.prog 95 = some ((.agg [(.int .i64 0),(.int .i64 0)])) ∧ zbK Tryz.prog 95 = none:=by and_intros <;> kernel_rfl
theorem ly96:zcx Tryz.prog 96 = some (1) ∧ zbz Tryz.prog 96 = some (false) ∧ bytesOf? Tryz.prog 96 = some (2) ∧ za7 Tryz.prog 96 = false ∧ zck Tryz.prog 96 = none ∧ zbD Tryz.prog 96 = none ∧ zbL Tryz.prog 96 = none ∧ intOf? Tryz.prog 96 = some (.u16) ∧ za5 Tryz.prog 96 = none ∧ zaU Tryz.prog 96 = none ∧ mapOf? Tryz.prog 96 = none ∧ zaE Tryz.prog 96 = none ∧ zaY Tryz.prog 96 = some ([(.int .u16 0)]) ∧ zbJ Tryz.prog 96 = some ((.int .u16 0)) ∧ zbK Tryz.prog 96 = none:=by and_intros <;> kernel_rfl
theorem ly97:zcx Tryz.prog 97 = some (1) ∧ zbz Tryz.prog 97 = some (false) ∧ bytesOf? Tryz.prog 97 = some (24) ∧ za7 Tryz.prog 97 = false ∧ zck Tryz.prog 97 = some ((5,1)) ∧ zbD Tryz.prog 97 = none ∧ zbL Tryz.prog 97 = none ∧ intOf? Tryz.prog 97 = none ∧ za5 Tryz.prog 97 = none ∧ zaU Tryz.prog 97 = none ∧ mapOf? Tryz.prog 97 = none ∧ zaE Tryz.prog 97 = none ∧ zaY Tryz.prog 97 = some ([(.sl [] .full)]) ∧ zbJ Tryz.prog 97 = some ((.sl [] .full)) ∧ zbK Tryz.prog 97 = none:=by and_intros <;> kernel_rfl
theorem ly108:zcx Tryz.prog 108 = some (3) ∧ zbz Tryz.prog 108 = some (true) ∧ bytesOf? Tryz.prog 108 = some (24) ∧ za7 Tryz.prog 108 = false ∧ zck Tryz.prog 108 = none ∧ zbD Tryz.prog 108 = none ∧ zbL Tryz.prog 108 = none ∧ intOf? Tryz.prog 108 = none ∧ za5 Tryz.prog 108 = some (3) ∧ zaU Tryz.prog 108 = some (3) ∧ mapOf? Tryz.prog 108 = none ∧ zaE Tryz.prog 108 = some ([(0,1),(1,1),(2,1)]) ∧ zaY Tryz.prog 108 = some ([(.int .i64 0),(.int .i64 0),(.int .i64 0)]) ∧ zbJ Tryz.prog 108 = some ((.agg [(.int .i64 0),(.int .i64 0),(.int .i64 0)])) ∧ zbK Tryz.prog 108 = none:=by and_intros <;> kernel_rfl
theorem ly113:zcx Tryz.prog 113 = some (2) ∧ zbz Tryz.prog 113 = some (true) ∧ bytesOf? Tryz.prog 113 = some (16) ∧ za7 Tryz.prog 113 = false ∧ zck Tryz.prog 113 = none ∧ zbD Tryz.prog 113 = none ∧ zbL Tryz.prog 113 = none ∧ intOf? Tryz.prog 113 = none ∧ za5 Tryz.prog 113 = some (2) ∧ zaU Tryz.prog 113 = some (2) ∧ mapOf? Tryz.prog 113 = none ∧ zaE Tryz.prog 113 = some ([(0,1),(1,1)]) ∧ zaY Tryz.prog 113 = some ([(.int .i64 0),(.int .i64 0)]) ∧ zbJ Tryz.prog 113 = some ((.agg [(.int .i64 0),(.int .i64 0)])) ∧ zbK Tryz.prog 113 = none:=by and_intros <;> kernel_rfl
theorem ly117:zcx Tryz.prog 117 = some (1) ∧ zbz Tryz.prog 117 = some (false) ∧ bytesOf? Tryz.prog 117 = some (8) ∧ za7 Tryz.prog 117 = false ∧ zck Tryz.prog 117 = none ∧ zbD Tryz.prog 117 = none ∧ zbL Tryz.prog 117 = none ∧ intOf? Tryz.prog 117 = some (.u64) ∧ za5 Tryz.prog 117 = none ∧ zaU Tryz.prog 117 = none ∧ mapOf? Tryz.prog 117 = none ∧ zaE Tryz.prog 117 = none ∧ zaY Tryz.prog 117 = some ([(.int .u64 0)]) ∧ zbJ Tryz.prog 117 = some ((.int .u64 0)) ∧ zbK Tryz.prog 117 = none:=by and_intros <;> kernel_rfl
theorem ly128:zcx Tryz.prog 128 = some (1) ∧ zbz Tryz.prog 128 = some (false) ∧ bytesOf? Tryz.prog 128 = some (24) ∧ za7 Tryz.prog 128 = false ∧ zck Tryz.prog 128 = some ((188,10)) ∧ zbD Tryz.prog 128 = none ∧ zbL Tryz.prog 128 = none ∧ intOf? Tryz.prog 128 = none ∧ za5 Tryz.prog 128 = none ∧ zaU Tryz.prog 128 = none ∧ mapOf? Tryz.prog 128 = none ∧ zaE Tryz.prog 128 = none ∧ zaY Tryz.prog 128 = some ([(.sl [] .full)]) ∧ zbJ Tryz.prog 128 = some ((.sl [] .full)) ∧ zbK Tryz.prog 128 = none:=by and_intros <;> kernel_rfl
theorem ly130:zcx Tryz.prog 130 = some (2) ∧ zbz Tryz.prog 130 = some (true) ∧ bytesOf? Tryz.prog 130 = some (48) ∧ za7 Tryz.prog 130 = false ∧ zck Tryz.prog 130 = none ∧ zbD Tryz.prog 130 = none ∧ zbL Tryz.prog 130 = none ∧ intOf? Tryz.prog 130 = none ∧ za5 Tryz.prog 130 = none ∧ zaU Tryz.prog 130 = none ∧ mapOf? Tryz.prog 130 = none ∧ zaE Tryz.prog 130 = some ([(0,1),(1,1)]) ∧ zaY Tryz.prog 130 = some ([(.sl [] .full),(.sl [] .full)]) ∧ zbJ Tryz.prog 130 = some ((.agg [(.sl [] .full),(.sl [] .full)])) ∧ zbK Tryz.prog 130 = none:=by and_intros <;> kernel_rfl
theorem ly137:zcx Tryz.prog 137 = some (1) ∧ zbz Tryz.prog 137 = some (false) ∧ bytesOf? Tryz.prog 137 = some (8) ∧ za7 Tryz.prog 137 = false ∧ zck Tryz.prog 137 = none ∧ zbD Tryz.prog 137 = none ∧ zbL Tryz.prog 137 = none ∧ intOf? Tryz.prog 137 = none ∧ za5 Tryz.prog 137 = none ∧ zaU Tryz.prog 137 = none ∧ mapOf? Tryz.prog 137 = none ∧ zaE Tryz.prog 137 = none ∧ zaY Tryz.prog 137 = some ([.nilf]) ∧ zbJ Tryz.prog 137 = some (.nilf) ∧ zbK Tryz.prog 137 = none:=by and_intros <;> kernel_rfl
theorem ly138:zcx Tryz.prog 138 = some (1) ∧ zbz Tryz.prog 138 = some (false) ∧ bytesOf? Tryz.prog 138 = some (8) ∧ za7 Tryz.prog 138 = false ∧ zck Tryz.prog 138 = none ∧ zbD Tryz.prog 138 = none ∧ zbL Tryz.prog 138 = none ∧ intOf? Tryz.prog 138 = none ∧ za5 Tryz.prog 138 = none ∧ zaU Tryz.prog 138 = none ∧ mapOf? Tryz.prog 138 = none ∧ zaE Tryz.prog 138 = none ∧ zaY Tryz.prog 138 = some ([.nilf]) ∧ zbJ Tryz.prog 138 = some (.nilf) ∧ zbK Tryz.prog 138 = none:=by and_intros <;> kernel_rfl
theorem ly145:zcx Tryz.prog 145 = some (1) ∧ zbz Tryz.prog 145 = some (false) ∧ bytesOf? Tryz.prog 145 = some (8) ∧ za7 Tryz.prog 145 = false ∧ zck Tryz.prog 145 = none ∧ zbD Tryz.prog 145 = none ∧ zbL Tryz.prog 145 = none ∧ intOf? Tryz.prog 145 = none ∧ za5 Tryz.prog 145 = none ∧ zaU Tryz.prog 145 = none ∧ mapOf? Tryz.prog 145 = none ∧ zaE Tryz.prog 145 = none ∧ zaY Tryz.prog 145 = some ([.nilp]) ∧ zbJ Tryz.prog 145 = some (.nilp) ∧ zbK Tryz.prog 145 = none:=by and_intros <;> kernel_rfl
theorem ly148:zcx Tryz.prog 148 = some (1) ∧ zbz Tryz.prog 148 = some (false) ∧ bytesOf? Tryz.prog 148 = some (8) ∧ za7 Tryz.prog 148 = false ∧ zck Tryz.prog 148 = none ∧ zbD Tryz.prog 148 = none ∧ zbL Tryz.prog 148 = none ∧ intOf? Tryz.prog 148 = none ∧ za5 Tryz.prog 148 = none ∧ zaU Tryz.prog 148 = none ∧ mapOf? Tryz.prog 148 = none ∧ zaE Tryz.prog 148 = none ∧ zaY Tryz.prog 148 = some ([.nilf]) ∧ zbJ Tryz.prog 148 = some (.nilf) ∧ zbK Tryz.prog 148 = none:=by and_intros <;> kernel_rfl
theorem ly149:zcx Tryz.prog 149 = some (1) ∧ zbz Tryz.prog 149 = some (false) ∧ bytesOf? Tryz.prog 149 = some (8) ∧ za7 Tryz.prog 149 = false ∧ zck Tryz.prog 149 = none ∧ zbD Tryz.prog 149 = none ∧ zbL Tryz.prog 149 = none ∧ intOf? Tryz.prog 149 = none ∧ za5 Tryz.prog 149 = none ∧ zaU Tryz.prog 149 = none ∧ mapOf? Tryz.prog 149 = none ∧ zaE Tryz.prog 149 = none ∧ zaY Tryz.prog 149 = some ([.nilf]) ∧ zbJ Tryz.prog 149 = some (.nilf) ∧ zbK Tryz.prog 149 = none:=by and_intros <;> kernel_rfl
theorem ly151:zcx Tryz.prog 151 = some (1) ∧ zbz Tryz.prog 151 = some (true) ∧ bytesOf? Tryz.prog 151 = some (8) ∧ za7 Tryz.prog 151 = false ∧ zck Tryz.prog 151 = none ∧ zbD Tryz.prog 151 = none ∧ zbL Tryz.prog 151 = none ∧ intOf? Tryz.prog 151 = none ∧ za5 Tryz.prog 151 = none ∧ zaU Tryz.prog 151 = none ∧ mapOf? Tryz.prog 151 = none ∧ zaE Tryz.prog 151 = some ([(0,1)]) ∧ zaY Tryz.prog 151 = some ([.nilf]) ∧ zbJ Tryz.prog 151 = some ((.agg [.nilf])) ∧ zbK Tryz.prog 151 = none:=by and_intros <;> kernel_rfl
theorem ly158:zcx Tryz.prog 158 = some (1) ∧ zbz Tryz.prog 158 = some (false) ∧ bytesOf? Tryz.prog 158 = some (24) ∧ za7 Tryz.prog 158 = false ∧ zck Tryz.prog 158 = some ((200,1)) ∧ zbD Tryz.prog 158 = none ∧ zbL Tryz.prog 158 = none ∧ intOf? Tryz.prog 158 = none ∧ za5 Tryz.prog 158 = none ∧ zaU Tryz.prog 158 = none ∧ mapOf? Tryz.prog 158 = none ∧ zaE Tryz.prog 158 = none ∧ zaY Tryz.prog 158 = some ([(.sl [] .full)]) ∧ zbJ Tryz.prog 158 = some ((.sl [] .full)) ∧ zbK Tryz.prog 158 = none:=by and_intros <;> kernel_rfl
theorem ly160:zcx Tryz.prog 160 = some (1) ∧ zbz Tryz.prog 160 = some (false) ∧ bytesOf? Tryz.prog 160 = some (24) ∧ za7 Tryz.prog 160 = false ∧ zck Tryz.prog 160 = some ((130,2)) ∧ zbD Tryz.prog 160 = none ∧ zbL Tryz.prog 160 = none ∧ intOf? Tryz.prog 160 = none ∧ za5 Tryz.prog 160 = none ∧ zaU Tryz.prog 160 = none ∧ mapOf? Tryz.prog 160 = none ∧ zaE Tryz.prog 160 = none ∧ zaY Tryz.prog 160 = some ([(.sl [] .full)]) ∧ zbJ Tryz.prog 160 = some ((.sl [] .full)) ∧ zbK Tryz.prog 160 = none:=by and_intros <;> kernel_rfl
theorem ly162:zcx Tryz.prog 162 = some (10) ∧ zbz Tryz.prog 162 = some (true) ∧ bytesOf? Tryz.prog 162 = some (192) ∧ za7 Tryz.prog 162 = false ∧ zck Tryz.prog 162 = none ∧ zbD Tryz.prog 162 = none ∧ zbL Tryz.prog 162 = none ∧ intOf? Tryz.prog 162 = none ∧ za5 Tryz.prog 162 = none ∧ zaU Tryz.prog 162 = none ∧ mapOf? Tryz.prog 162 = none ∧ zaE Tryz.prog 162 = some ([(0,9),(9,1)]) ∧ zaY Tryz.prog 162 = some ([(.int .i64 0),(.sl [] .full),(.int .i64 0),(.sl [] .full),(.sl [] .full),(.int .i64 0),(.sl [] .full),(.sl [] .full),(.sl [] .full),(.sl [] .full)]) ∧ zbJ Tryz.prog 162 = some ((.agg [(.int .i64 0),(.sl [] .full),(.int .i64 0),(.sl [] .full),(.sl [] .full),(.int .i64 0),(.sl [] .full),(.sl [] .full),(.sl [] .full),(.sl [] .full)])) ∧ zbK Tryz.prog 162 = none:=by and_intros <;> kernel_rfl
theorem ly164:zcx Tryz.prog 164 = some (1) ∧ zbz Tryz.prog 164 = some (false) ∧ bytesOf? Tryz.prog 164 = some (8) ∧ za7 Tryz.prog 164 = false ∧ zck Tryz.prog 164 = none ∧ zbD Tryz.prog 164 = none ∧ zbL Tryz.prog 164 = none ∧ intOf? Tryz.prog 164 = none ∧ za5 Tryz.prog 164 = none ∧ zaU Tryz.prog 164 = none ∧ mapOf? Tryz.prog 164 = none ∧ zaE Tryz.prog 164 = none ∧ zaY Tryz.prog 164 = some ([.nilf]) ∧ zbJ Tryz.prog 164 = some (.nilf) ∧ zbK Tryz.prog 164 = none:=by and_intros <;> kernel_rfl
theorem ly169:zcx Tryz.prog 169 = some (10) ∧ zbz Tryz.prog 169 = some (true) ∧ bytesOf? Tryz.prog 169 = some (80) ∧ za7 Tryz.prog 169 = false ∧ zck Tryz.prog 169 = none ∧ zbD Tryz.prog 169 = some ((10,1)) ∧ zbL Tryz.prog 169 = some (3) ∧ intOf? Tryz.prog 169 = none ∧ za5 Tryz.prog 169 = some (10) ∧ zaU Tryz.prog 169 = some (10) ∧ mapOf? Tryz.prog 169 = none ∧ zaE Tryz.prog 169 = none ∧ zaY Tryz.prog 169 = some ([(.int .i64 0),(.int .i64 0),(.int .i64 0),(.int .i64 0),(.int .i64 0),(.int .i64 0),(.int .i64 0),(.int .i64 0),(.int .i64 0),(.int .i64 0)]) ∧ zbJ Tryz.prog 169 = some ((.agg [(.int .i64 0),(.int .i64 0),(.int .i64 0),(.int .i64 0),(.int .i64 0),(.int .i64 0),(.int .i64 0),(.int .i64 0),(.int .i64 0),(.int .i64 0)])) ∧ zbK Tryz.prog 169 = none:=by and_intros <;> kernel_rfl
theorem ly175:zcx Tryz.prog 175 = some (4) ∧ zbz Tryz.prog 175 = some (true) ∧ bytesOf? Tryz.prog 175 = some (32) ∧ za7 Tryz.prog 175 = false ∧ zck Tryz.prog 175 = none ∧ zbD Tryz.prog 175 = none ∧ zbL Tryz.prog 175 = none ∧ intOf? Tryz.prog 175 = none ∧ za5 Tryz.prog 175 = none ∧ zaU Tryz.prog 175 = some (4) ∧ mapOf? Tryz.prog 175 = none ∧ zaE Tryz.prog 175 = some ([(0,1),(1,1),(2,2)]) ∧ zaY Tryz.prog 175 = some ([(.int .i64 0),(.int .i64 0),(.int .i64 0),(.int .i64 0)]) ∧ zbJ Tryz.prog 175 = some ((.agg [(.int .i64 0),(.int .i64 0),(.int .i64 0),(.int .i64 0)])) ∧ zbK Tryz.prog 175 = none:=by and_intros <;> kernel_rfl
theorem ly178:zcx Tryz.prog 178 = some (1) ∧ zbz Tryz.prog 178 = some (false) ∧ bytesOf? Tryz.prog 178 = some (8) ∧ za7 Tryz.prog 178 = false ∧ zck Tryz.prog 178 = none ∧ zbD Tryz.prog 178 = none ∧ zbL Tryz.prog 178 = none ∧ intOf? Tryz.prog 178 = none ∧ za5 Tryz.prog 178 = none ∧ zaU Tryz.prog 178 = none ∧ mapOf? Tryz.prog 178 = none ∧ zaE Tryz.prog 178 = none ∧ zaY Tryz.prog 178 = some ([.nilp]) ∧ zbJ Tryz.prog 178 = some (.nilp) ∧ zbK Tryz.prog 178 = none:=by and_intros <;> kernel_rfl
theorem ly181:zcx Tryz.prog 181 = some (1) ∧ zbz Tryz.prog 181 = some (false) ∧ bytesOf? Tryz.prog 181 = some (8) ∧ za7 Tryz.prog 181 = false ∧ zck Tryz.prog 181 = none ∧ zbD Tryz.prog 181 = none ∧ zbL Tryz.prog 181 = none ∧ intOf? Tryz.prog 181 = none ∧ za5 Tryz.prog 181 = none ∧ zaU Tryz.prog 181 = none ∧ mapOf? Tryz.prog 181 = none ∧ zaE Tryz.prog 181 = none ∧ zaY Tryz.prog 181 = some ([.nilf]) ∧ zbJ Tryz.prog 181 = some (.nilf) ∧ zbK Tryz.prog 181 = none:=by and_intros <;> kernel_rfl
theorem ly184:zcx Tryz.prog 184 = some (1) ∧ zbz Tryz.prog 184 = some (true) ∧ bytesOf? Tryz.prog 184 = some (8) ∧ za7 Tryz.prog 184 = false ∧ zck Tryz.prog 184 = none ∧ zbD Tryz.prog 184 = none ∧ zbL Tryz.prog 184 = none ∧ intOf? Tryz.prog 184 = none ∧ za5 Tryz.prog 184 = none ∧ zaU Tryz.prog 184 = none ∧ mapOf? Tryz.prog 184 = none ∧ zaE Tryz.prog 184 = some ([(0,1)]) ∧ zaY Tryz.prog 184 = some ([.nilf]) ∧ zbJ Tryz.prog 184 = some ((.agg [.nilf])) ∧ zbK Tryz.prog 184 = none:=by and_intros <;> kernel_rfl
theorem ly188:zcx Tryz.prog 188 = some (10) ∧ zbz Tryz.prog 188 = some (true) ∧ bytesOf? Tryz.prog 188 = some (10) ∧ za7 Tryz.prog 188 = false ∧ zck Tryz.prog 188 = none ∧ zbD Tryz.prog 188 = some ((10,1)) ∧ zbL Tryz.prog 188 = some (4) ∧ intOf? Tryz.prog 188 = none ∧ za5 Tryz.prog 188 = none ∧ zaU Tryz.prog 188 = none ∧ mapOf? Tryz.prog 188 = none ∧ zaE Tryz.prog 188 = none ∧ zaY Tryz.prog 188 = some ([(.bool false),(.bool false),(.bool false),(.bool false),(.bool false),(.bool false),(.bool false),(.bool false),(.bool false),(.bool false)]) ∧ zbJ Tryz.prog 188 = some ((.agg [(.bool false),(.bool false),(.bool false),(.bool false),(.bool false),(.bool false),(.bool false),(.bool false),(.bool false),(.bool false)])) ∧ zbK Tryz.prog 188 = some (10):=by and_intros <;> kernel_rfl
theorem ly192:zcx Tryz.prog 192 = some (2) ∧ zbz Tryz.prog 192 = some (true) ∧ bytesOf? Tryz.prog 192 = some (16) ∧ za7 Tryz.prog 192 = false ∧ zck Tryz.prog 192 = none ∧ zbD Tryz.prog 192 = none ∧ zbL Tryz.prog 192 = none ∧ intOf? Tryz.prog 192 = none ∧ zaU Tryz.prog 192 = some (2) ∧ mapOf? Tryz.prog 192 = none ∧ zaE Tryz.prog 192 = some ([(0,1),(1,1)]) ∧ zaY Tryz.prog 192 = some ([(.int .i64 0),(.int .i64 0)]) ∧ zbJ Tryz.prog 192 = some ((.agg [(.int .i64 0),(.int .i64 0)])) ∧ zbK Tryz.prog 192 = none:=by and_intros <;> kernel_rfl
theorem ly196:zcx Tryz.prog 196 = some (1) ∧ zbz Tryz.prog 196 = some (false) ∧ bytesOf? Tryz.prog 196 = some (8) ∧ za7 Tryz.prog 196 = false ∧ zck Tryz.prog 196 = none ∧ zbD Tryz.prog 196 = none ∧ zbL Tryz.prog 196 = none ∧ intOf? Tryz.prog 196 = none ∧ za5 Tryz.prog 196 = none ∧ zaU Tryz.prog 196 = none ∧ mapOf? Tryz.prog 196 = none ∧ zaE Tryz.prog 196 = none ∧ zaY Tryz.prog 196 = some ([.nilf]) ∧ zbJ Tryz.prog 196 = some (.nilf) ∧ zbK Tryz.prog 196 = none:=by and_intros <;> kernel_rfl
theorem ly200:zcx Tryz.prog 200 = some (1) ∧ zbz Tryz.prog 200 = some (false) ∧ bytesOf? Tryz.prog 200 = some (8) ∧ za7 Tryz.prog 200 = false ∧ zck Tryz.prog 200 = none ∧ zbD Tryz.prog 200 = none ∧ zbL Tryz.prog 200 = none ∧ intOf? Tryz.prog 200 = none ∧ za5 Tryz.prog 200 = none ∧ zaU Tryz.prog 200 = none ∧ mapOf? Tryz.prog 200 = some ((192,4)) ∧ zaE Tryz.prog 200 = none ∧ zaY Tryz.prog 200 = some ([.undef]) ∧ zbJ Tryz.prog 200 = some (.undef) ∧ zbK Tryz.prog 200 = none:=by and_intros <;> kernel_rfl
theorem ly205:zcx Tryz.prog 205 = some (1) ∧ zbz Tryz.prog 205 = some (false) ∧ bytesOf? Tryz.prog 205 = some (8) ∧ za7 Tryz.prog 205 = false ∧ zck Tryz.prog 205 = none ∧ zbD Tryz.prog 205 = none ∧ zbL Tryz.prog 205 = none ∧ intOf? Tryz.prog 205 = none ∧ za5 Tryz.prog 205 = none ∧ zaU Tryz.prog 205 = none ∧ mapOf? Tryz.prog 205 = none ∧ zaE Tryz.prog 205 = none ∧ zaY Tryz.prog 205 = some ([.nilf]) ∧ zbJ Tryz.prog 205 = some (.nilf) ∧ zbK Tryz.prog 205 = none:=by and_intros <;> kernel_rfl
theorem ly207:zcx Tryz.prog 207 = some (1) ∧ zbz Tryz.prog 207 = some (false) ∧ bytesOf? Tryz.prog 207 = some (8) ∧ za7 Tryz.prog 207 = false ∧ zck Tryz.prog 207 = none ∧ zbD Tryz.prog 207 = none ∧ zbL Tryz.prog 207 = none ∧ intOf? Tryz.prog 207 = none ∧ za5 Tryz.prog 207 = none ∧ zaU Tryz.prog 207 = none ∧ mapOf? Tryz.prog 207 = none ∧ zaE Tryz.prog 207 = none ∧ zaY Tryz.prog 207 = some ([.nilf]) ∧ zbJ Tryz.prog 207 = some (.nilf) ∧ zbK Tryz.prog 207 = none:=by and_intros <;> kernel_rfl
theorem ly215:zcx Tryz.prog 215 = some (1) ∧ zbz Tryz.prog 215 = some (false) ∧ bytesOf? Tryz.prog 215 = some (8) ∧ za7 Tryz.prog 215 = false ∧ zck Tryz.prog 215 = none ∧ zbD Tryz.prog 215 = none ∧ zbL Tryz.prog 215 = none ∧ intOf? Tryz.prog 215 = none ∧ za5 Tryz.prog 215 = none ∧ zaU Tryz.prog 215 = none ∧ mapOf? Tryz.prog 215 = some ((220,4)) ∧ zaE Tryz.prog 215 = none ∧ zaY Tryz.prog 215 = some ([.undef]) ∧ zbJ Tryz.prog 215 = some (.undef) ∧ zbK Tryz.prog 215 = none:=by and_intros <;> kernel_rfl
theorem ly216:zcx Tryz.prog 216 = some (1) ∧ zbz Tryz.prog 216 = some (false) ∧ bytesOf? Tryz.prog 216 = some (24) ∧ za7 Tryz.prog 216 = false ∧ zck Tryz.prog 216 = some ((169,10)) ∧ zbD Tryz.prog 216 = none ∧ zbL Tryz.prog 216 = none ∧ intOf? Tryz.prog 216 = none ∧ za5 Tryz.prog 216 = none ∧ zaU Tryz.prog 216 = none ∧ mapOf? Tryz.prog 216 = none ∧ zaE Tryz.prog 216 = none ∧ zaY Tryz.prog 216 = some ([(.sl [] .full)]) ∧ zbJ Tryz.prog 216 = some ((.sl [] .full)) ∧ zbK Tryz.prog 216 = none:=by and_intros <;> kernel_rfl
theorem ly218:zcx Tryz.prog 218 = some (7) ∧ zbz Tryz.prog 218 = some (true) ∧ bytesOf? Tryz.prog 218 = some (120) ∧ za7 Tryz.prog 218 = false ∧ zck Tryz.prog 218 = none ∧ zbD Tryz.prog 218 = none ∧ zbL Tryz.prog 218 = none ∧ intOf? Tryz.prog 218 = none ∧ za5 Tryz.prog 218 = none ∧ zaU Tryz.prog 218 = none ∧ mapOf? Tryz.prog 218 = none ∧ zaE Tryz.prog 218 = some ([(0,5),(5,1),(6,1)]) ∧ zaY Tryz.prog 218 = some ([(.int .i64 0),(.sl [] .full),(.int .i64 0),(.sl [] .full),(.sl [] .full),(.sl [] .full),.undef]) ∧ zbJ Tryz.prog 218 = some ((.agg [(.int .i64 0),(.sl [] .full),(.int .i64 0),(.sl [] .full),(.sl [] .full),(.sl [] .full),.undef])) ∧ zbK Tryz.prog 218 = none:=by and_intros <;> kernel_rfl
theorem ly220:zcx Tryz.prog 220 = some (2) ∧ zbz Tryz.prog 220 = some (true) ∧ bytesOf? Tryz.prog 220 = some (16) ∧ za7 Tryz.prog 220 = false ∧ zck Tryz.prog 220 = none ∧ zbD Tryz.prog 220 = none ∧ zbL Tryz.prog 220 = none ∧ intOf? Tryz.prog 220 = none ∧ zaU Tryz.prog 220 = some (2) ∧ mapOf? Tryz.prog 220 = none ∧ zaE Tryz.prog 220 = some ([(0,1),(1,1)]) ∧ zaY Tryz.prog 220 = some ([(.int .i64 0),(.int .i64 0)]) ∧ zbJ Tryz.prog 220 = some ((.agg [(.int .i64 0),(.int .i64 0)])) ∧ zbK Tryz.prog 220 = none:=by and_intros <;> kernel_rfl
theorem ly229:zcx Tryz.prog 229 = some (1) ∧ zbz Tryz.prog 229 = some (false) ∧ bytesOf? Tryz.prog 229 = some (8) ∧ za7 Tryz.prog 229 = false ∧ zck Tryz.prog 229 = none ∧ zbD Tryz.prog 229 = none ∧ zbL Tryz.prog 229 = none ∧ intOf? Tryz.prog 229 = none ∧ za5 Tryz.prog 229 = none ∧ zaU Tryz.prog 229 = none ∧ mapOf? Tryz.prog 229 = none ∧ zaE Tryz.prog 229 = none ∧ zaY Tryz.prog 229 = some ([.nilf]) ∧ zbJ Tryz.prog 229 = some (.nilf) ∧ zbK Tryz.prog 229 = none:=by and_intros <;> kernel_rfl
attribute [go_sem] ly0 ly1 ly2 ly3 ly4 ly5 ly22 ly23 ly24 ly26 ly27 ly28 ly30 ly32 ly33 ly34 ly37 ly38 ly40 ly41 ly42 ly44 ly53 ly55 ly61 ly64 ly68 ly88 ly91 ly93 ly95 ly96 ly97 ly108 ly113 ly117 ly128 ly130 ly137 ly138 ly145 ly148 ly149 ly151 ly158 ly160 ly162 ly164 ly169 ly175 ly178 ly181 ly184 ly188 ly192 ly196 ly200 ly205 ly207 ly215 ly216 ly218 ly220 ly229
theorem fl_26_0:zbT Tryz.prog 26 0 = some ((0,3)):=by kernel_rfl
theorem of_26_0:zbR Tryz.prog 26 0 = some (0):=by kernel_rfl
theorem fl_26_1:zbT Tryz.prog 26 1 = some ((1,22)):=by kernel_rfl
theorem of_26_1:zbR Tryz.prog 26 1 = some (1):=by kernel_rfl
theorem fl_26_2:zbT Tryz.prog 26 2 = some ((2,3)):=by kernel_rfl
theorem of_26_2:zbR Tryz.prog 26 2 = some (2):=by kernel_rfl
theorem fl_26_3:zbT Tryz.prog 26 3 = some ((3,23)):=by kernel_rfl
theorem of_26_3:zbR Tryz.prog 26 3 = some (3):=by kernel_rfl
theorem fl_26_4:zbT Tryz.prog 26 4 = some ((4,24)):=by kernel_rfl
theorem of_26_4:zbR Tryz.prog 26 4 = some (4):=by kernel_rfl
theorem fl_30_0:zbT Tryz.prog 30 0 = some ((0,26)):=by kernel_rfl
theorem of_30_0:zbR Tryz.prog 30 0 = some (0):=by kernel_rfl
theorem fl_30_1:zbT Tryz.prog 30 1 = some ((5,3)):=by kernel_rfl
theorem of_30_1:zbR Tryz.prog 30 1 = some (5):=by kernel_rfl
theorem fl_30_2:zbT Tryz.prog 30 2 = some ((6,27)):=by kernel_rfl
theorem of_30_2:zbR Tryz.prog 30 2 = some (6):=by kernel_rfl
theorem fl_30_3:zbT Tryz.prog 30 3 = some ((7,23)):=by kernel_rfl
theorem of_30_3:zbR Tryz.prog 30 3 = some (7):=by kernel_rfl
theorem fl_30_4:zbT Tryz.prog 30 4 = some ((8,28)):=by kernel_rfl
theorem of_30_4:zbR Tryz.prog 30 4 = some (8):=by kernel_rfl
theorem fl_40_0:zbT Tryz.prog 40 0 = some ((0,3)):=by kernel_rfl
theorem of_40_0:zbR Tryz.prog 40 0 = some (0):=by kernel_rfl
theorem fl_40_1:zbT Tryz.prog 40 1 = some ((1,37)):=by kernel_rfl
theorem of_40_1:zbR Tryz.prog 40 1 = some (1):=by kernel_rfl
theorem fl_40_2:zbT Tryz.prog 40 2 = some ((2,3)):=by kernel_rfl
theorem of_40_2:zbR Tryz.prog 40 2 = some (2):=by kernel_rfl
theorem fl_40_3:zbT Tryz.prog 40 3 = some ((3,23)):=by kernel_rfl
theorem of_40_3:zbR Tryz.prog 40 3 = some (3):=by kernel_rfl
theorem fl_40_4:zbT Tryz.prog 40 4 = some ((4,38)):=by kernel_rfl
theorem of_40_4:zbR Tryz.prog 40 4 = some (4):=by kernel_rfl
theorem fl_44_0:zbT Tryz.prog 44 0 = some ((0,40)):=by kernel_rfl
theorem of_44_0:zbR Tryz.prog 44 0 = some (0):=by kernel_rfl
theorem fl_44_1:zbT Tryz.prog 44 1 = some ((5,3)):=by kernel_rfl
theorem of_44_1:zbR Tryz.prog 44 1 = some (5):=by kernel_rfl
theorem fl_44_2:zbT Tryz.prog 44 2 = some ((6,41)):=by kernel_rfl
theorem of_44_2:zbR Tryz.prog 44 2 = some (6):=by kernel_rfl
theorem fl_44_3:zbT Tryz.prog 44 3 = some ((7,23)):=by kernel_rfl
theorem of_44_3:zbR Tryz.prog 44 3 = some (7):=by kernel_rfl
theorem fl_44_4:zbT Tryz.prog 44 4 = some ((8,42)):=by kernel_rfl
theorem of_44_4:zbR Tryz.prog 44 4 = some (8):=by kernel_rfl
theorem fl_53_0:zbT Tryz.prog 53 0 = some ((0,3)):=by kernel_rfl
theorem of_53_0:zbR Tryz.prog 53 0 = some (0):=by kernel_rfl
theorem fl_53_1:zbT Tryz.prog 53 1 = some ((1,3)):=by kernel_rfl
theorem of_53_1:zbR Tryz.prog 53 1 = some (1):=by kernel_rfl
theorem fl_53_2:zbT Tryz.prog 53 2 = some ((2,23)):=by kernel_rfl
theorem of_53_2:zbR Tryz.prog 53 2 = some (2):=by kernel_rfl
theorem fl_55_0:zbT Tryz.prog 55 0 = some ((0,3)):=by kernel_rfl
theorem of_55_0:zbR Tryz.prog 55 0 = some (0):=by kernel_rfl
theorem fl_55_1:zbT Tryz.prog 55 1 = some ((1,3)):=by kernel_rfl
theorem of_55_1:zbR Tryz.prog 55 1 = some (1):=by kernel_rfl
theorem fl_55_2:zbT Tryz.prog 55 2 = some ((2,23)):=by kernel_rfl
theorem of_55_2:zbR Tryz.prog 55 2 = some (2):=by kernel_rfl
theorem fl_61_0:zbT Tryz.prog 61 0 = some ((0,3)):=by kernel_rfl
theorem of_61_0:zbR Tryz.prog 61 0 = some (0):=by kernel_rfl
theorem fl_61_1:zbT Tryz.prog 61 1 = some ((1,3)):=by kernel_rfl
theorem of_61_1:zbR Tryz.prog 61 1 = some (1):=by kernel_rfl
theorem fl_68_0:zbT Tryz.prog 68 0 = some ((0,3)):=by kernel_rfl
theorem of_68_0:zbR Tryz.prog 68 0 = some (0):=by kernel_rfl
theorem fl_68_1:zbT Tryz.prog 68 1 = some ((1,3)):=by kernel_rfl
theorem of_68_1:zbR Tryz.prog 68 1 = some (1):=by kernel_rfl
theorem fl_88_0:zbT Tryz.prog 88 0 = some ((0,3)):=by kernel_rfl
theorem of_88_0:zbR Tryz.prog 88 0 = some (0):=by kernel_rfl
theorem fl_88_1:zbT Tryz.prog 88 1 = some ((1,3)):=by kernel_rfl
theorem of_88_1:zbR Tryz.prog 88 1 = some (1):=by kernel_rfl
theorem fl_91_0:zbT Tryz.prog 91 0 = some ((0,3)):=by kernel_rfl
theorem of_91_0:zbR Tryz.prog 91 0 = some (0):=by kernel_rfl
theorem fl_91_1:zbT Tryz.prog 91 1 = some ((1,3)):=by kernel_rfl
theorem of_91_1:zbR Tryz.prog 91 1 = some (1):=by kernel_rfl
theorem fl_91_2:zbT Tryz.prog 91 2 = some ((2,88)):=by kernel_rfl
theorem of_91_2:zbR Tryz.prog 91 2 = some (2):=by kernel_rfl
theorem fl_93_0:zbT Tryz.prog 93 0 = some ((0,3)):=by kernel_rfl
theorem of_93_0:zbR Tryz.prog 93 0 = some (0):=by kernel_rfl
theorem fl_93_1:zbT Tryz.prog 93 1 = some ((1,3)):=by kernel_rfl
theorem of_93_1:zbR Tryz.prog 93 1 = some (1):=by kernel_rfl
theorem fl_93_2:zbT Tryz.prog 93 2 = some ((2,3)):=by kernel_rfl
theorem of_93_2:zbR Tryz.prog 93 2 = some (2):=by kernel_rfl
theorem fl_95_0:zbT Tryz.prog 95 0 = some ((0,3)):=by kernel_rfl
theorem of_95_0:zbR Tryz.prog 95 0 = some (0):=by kernel_rfl
theorem fl_95_1:zbT Tryz.prog 95 1 = some ((1,3)):=by kernel_rfl
theorem of_95_1:zbR Tryz.prog 95 1 = some (1):=by kernel_rfl
theorem fl_108_0:zbT Tryz.prog 108 0 = some ((0,3)):=by kernel_rfl
theorem of_108_0:zbR Tryz.prog 108 0 = some (0):=by kernel_rfl
theorem fl_108_1:zbT Tryz.prog 108 1 = some ((1,3)):=by kernel_rfl
theorem of_108_1:zbR Tryz.prog 108 1 = some (1):=by kernel_rfl
theorem fl_108_2:zbT Tryz.prog 108 2 = some ((2,3)):=by kernel_rfl
theorem of_108_2:zbR Tryz.prog 108 2 = some (2):=by kernel_rfl
theorem fl_113_0:zbT Tryz.prog 113 0 = some ((0,3)):=by kernel_rfl
theorem of_113_0:zbR Tryz.prog 113 0 = some (0):=by kernel_rfl
theorem fl_113_1:zbT Tryz.prog 113 1 = some ((1,3)):=by kernel_rfl
theorem of_113_1:zbR Tryz.prog 113 1 = some (1):=by kernel_rfl
theorem fl_130_0:zbT Tryz.prog 130 0 = some ((0,23)):=by kernel_rfl
theorem of_130_0:zbR Tryz.prog 130 0 = some (0):=by kernel_rfl
theorem fl_130_1:zbT Tryz.prog 130 1 = some ((1,128)):=by kernel_rfl
theorem of_130_1:zbR Tryz.prog 130 1 = some (1):=by kernel_rfl
theorem fl_151_0:zbT Tryz.prog 151 0 = some ((0,149)):=by kernel_rfl
theorem of_151_0:zbR Tryz.prog 151 0 = some (0):=by kernel_rfl
theorem fl_162_0:zbT Tryz.prog 162 0 = some ((0,44)):=by kernel_rfl
theorem of_162_0:zbR Tryz.prog 162 0 = some (0):=by kernel_rfl
theorem fl_162_1:zbT Tryz.prog 162 1 = some ((9,160)):=by kernel_rfl
theorem of_162_1:zbR Tryz.prog 162 1 = some (9):=by kernel_rfl
theorem fl_175_0:zbT Tryz.prog 175 0 = some ((0,3)):=by kernel_rfl
theorem of_175_0:zbR Tryz.prog 175 0 = some (0):=by kernel_rfl
theorem fl_175_1:zbT Tryz.prog 175 1 = some ((1,3)):=by kernel_rfl
theorem of_175_1:zbR Tryz.prog 175 1 = some (1):=by kernel_rfl
theorem fl_175_2:zbT Tryz.prog 175 2 = some ((2,68)):=by kernel_rfl
theorem of_175_2:zbR Tryz.prog 175 2 = some (2):=by kernel_rfl
theorem fl_184_0:zbT Tryz.prog 184 0 = some ((0,181)):=by kernel_rfl
theorem of_184_0:zbR Tryz.prog 184 0 = some (0):=by kernel_rfl
theorem ek_192:za5 Tryz.prog 192 = some (2):=by kernel_rfl
theorem fl_192_0:zbT Tryz.prog 192 0 = some ((0,3)):=by kernel_rfl
theorem of_192_0:zbR Tryz.prog 192 0 = some (0):=by kernel_rfl
theorem fl_192_1:zbT Tryz.prog 192 1 = some ((1,3)):=by kernel_rfl
theorem of_192_1:zbR Tryz.prog 192 1 = some (1):=by kernel_rfl
theorem fl_218_0:zbT Tryz.prog 218 0 = some ((0,40)):=by kernel_rfl
theorem of_218_0:zbR Tryz.prog 218 0 = some (0):=by kernel_rfl
theorem fl_218_1:zbT Tryz.prog 218 1 = some ((5,216)):=by kernel_rfl
theorem of_218_1:zbR Tryz.prog 218 1 = some (5):=by kernel_rfl
theorem fl_218_2:zbT Tryz.prog 218 2 = some ((6,215)):=by kernel_rfl
theorem of_218_2:zbR Tryz.prog 218 2 = some (6):=by kernel_rfl
theorem ek_220:za5 Tryz.prog 220 = some (2):=by kernel_rfl
theorem fl_220_0:zbT Tryz.prog 220 0 = some ((0,3)):=by kernel_rfl
theorem of_220_0:zbR Tryz.prog 220 0 = some (0):=by kernel_rfl
theorem fl_220_1:zbT Tryz.prog 220 1 = some ((1,3)):=by kernel_rfl
theorem of_220_1:zbR Tryz.prog 220 1 = some (1):=by kernel_rfl
attribute [go_sem] fl_26_0 of_26_0 fl_26_1 of_26_1 fl_26_2 of_26_2 fl_26_3 of_26_3 fl_26_4 of_26_4 fl_30_0 of_30_0 fl_30_1 of_30_1 fl_30_2 of_30_2 fl_30_3 of_30_3 fl_30_4 of_30_4 fl_40_0 of_40_0 fl_40_1 of_40_1 fl_40_2 of_40_2 fl_40_3 of_40_3 fl_40_4 of_40_4 fl_44_0 of_44_0 fl_44_1 of_44_1 fl_44_2 of_44_2 fl_44_3 of_44_3 fl_44_4 of_44_4 fl_53_0 of_53_0 fl_53_1 of_53_1 fl_53_2 of_53_2 fl_55_0 of_55_0 fl_55_1 of_55_1 fl_55_2 of_55_2 fl_61_0 of_61_0 fl_61_1 of_61_1 fl_68_0 of_68_0 fl_68_1 of_68_1 fl_88_0 of_88_0 fl_88_1 of_88_1 fl_91_0 of_91_0 fl_91_1 of_91_1 fl_91_2 of_91_2 fl_93_0 of_93_0 fl_93_1 of_93_1 fl_93_2 of_93_2 fl_95_0 of_95_0 fl_95_1 of_95_1 fl_108_0 of_108_0 fl_108_1 of_108_1 fl_108_2 of_108_2 fl_113_0 of_113_0 fl_113_1 of_113_1 fl_130_0 of_130_0 fl_130_1 of_130_1 fl_151_0 of_151_0 fl_162_0 of_162_0 fl_162_1 of_162_1 fl_175_0 of_175_0 fl_175_1 of_175_1 fl_175_2 of_175_2 fl_184_0 of_184_0 ek_192 fl_192_0 of_192_0 fl_192_1 of_192_1 fl_218_0 of_218_0 fl_218_1 of_218_1 fl_218_2 of_218_2 ek_220 fl_220_0 of_220_0 fl_220_1 of_220_1
set_option maxHeartbeats 1000000
def P0:zaJ:=zpM
theorem P0_app (g:FuncId):P0 g = none:=rfl
theorem P0_ok:zaz Tryz.prog P0:=zts _
theorem P0_flag (d:Option Nat):zaF P0 d = none:=zkz d
attribute [go_sem] P0_app P0_flag
def inB (n lo hi:Int):Bool:=decide (lo ≤ n) && decide (n ≤ hi)
theorem In_call (n lo hi:Int):zaP Tryz.prog 35 [Enc.enc n,Enc.enc lo,Enc.enc hi] (· = Enc.enc (inB n lo hi)):=by
 simp only [zcp]
 refine cpz P0_ok Tryz.func35 zaB ?_
 rw [Tryz.ntmps35]
 simp only [Tryz.f35,zai,zam]
 simp (maxSteps:=4000000) only [go_sem,AV.one,zae,zac,zad,zan,zaq,zaa,czb,cza,↓reduceIte]
 grind [inB]
theorem Size_call (r:Rg) (h1:InR .i64 (r.hi - r.lo)) (h2:InR .i64 (r.hi - r.lo + 1)):zaP Tryz.prog 121 [Enc.enc r] (· = Enc.enc (r.hi - r.lo + 1)):=by
 simp only [zcp]
 refine cpz P0_ok Tryz.func121 zaB ?_
 rw [Tryz.ntmps121]
 simp only [Tryz.f121,zai,zam]
 simp (maxSteps:=4000000) only [go_sem,AV.one,zae,zac,zad,zan,zaq,zaa,czb,cza,↓reduceIte]
 exact ⟨h1,h2⟩
def zbo (r:Rg):Bool:=decide (0 ≤ r.lo) && decide (r.lo ≤ r.hi) && decide (r.hi ≤ 99)
theorem zkE (r:Rg):zaP Tryz.prog 120 [Enc.enc r] (· = Enc.enc (zbo r)):=by
 simp only [zcp]
 refine cpz P0_ok Tryz.func120 zaB ?_
 rw [Tryz.ntmps120]
 simp only [Tryz.f120,zai,zam]
 simp (maxSteps:=4000000) only [go_sem,AV.one,zae,zac,zad,zan,zaq,zaa,czb,cza,↓reduceIte]
 grind [zbo]
def P1 (g:FuncId):=(zas 35 (zec (fun _ _ _ => True) inB) (zas 121 (zcC (fun r:Rg => InR .i64 (r.hi - r.lo) ∧ InR .i64 (r.hi - r.lo + 1)) (fun r => r.hi - r.lo + 1)) (zas 120 (zcC (fun _ => True) zbo) (P0))):zaJ) g
theorem P1_ok:zaz Tryz.prog P1:=zah (zb8 fun a b c _ => In_call a b c) (zah (zbj fun a h => Size_call a h.1 h.2) (zah (zbj fun a _ => zkE a) (P0_ok)))
theorem P1_flag (d:Option Nat):zaF P1 d = none:=(zag (by decide) d).trans ((zag (by decide) d).trans ((zag (by decide) d).trans (P0_flag d)))
attribute [go_sem] P1 P1_flag
def zc7 (l:List Rg):Int:=l.foldl (fun n r => min 3000 (n * (r.hi - r.lo + 1))) 1
theorem zrI (l:List Rg) (h:∀ r ∈ l,0 ≤ r.hi - r.lo ∧ r.hi - r.lo ≤ 99) (n:Int) (hn:0 ≤ n ∧ n ≤ 3000):0 ≤ l.foldl (fun n r => min 3000 (n * (r.hi - r.lo + 1))) n ∧ l.foldl (fun n r => min 3000 (n * (r.hi - r.lo + 1))) n ≤ 3000:=by
 induction l generalizing n with
 | nil => exact hn
 | cons r l ih =>
  have hr:=h r (by simp)
  have:0 ≤ n * (r.hi - r.lo + 1):=Int.mul_nonneg hn.1 (by omega)
  refine ih (fun r hr => h r (by simp [hr])) _ ?_
  dsimp only
  omega
theorem ztw (l:List Rg) (i:Nat) (hi:i < l.length):zc7 (l.take (i + 1)) = min 3000 (zc7 (l.take i) * ((at_ l i).hi - (at_ l i).lo + 1)):=by
 unfold zc7; rw [zaV hi,List.foldl_append]; rfl
theorem zbv {α:Type} [Inhabited α] {l:List α} {i:Nat} (h:i < l.length):at_ l i ∈ l:=by rw [zdk h]; exact List.getElem_mem h
theorem zrm {α:Type} {l:List α} {i:Nat} {P:α → Prop} (h:∀ x ∈ l,P x):∀ x ∈ l.take i,P x:=fun x hx => h x (List.mem_of_mem_take hx)
theorem Many_call (t:Tb) (h:t.heights.length ≤ 4096 ∧ ∀ r ∈ t.heights,0 ≤ r.hi - r.lo ∧ r.hi - r.lo ≤ 99):zaP Tryz.prog 67 [Enc.enc t] (· = Enc.enc (zc7 t.heights)):=by
 simp only [zcp]
 refine cpz P1_ok Tryz.func67 zaB ?_
 rw [Tryz.ntmps67]
 simp only [Tryz.f67,zai,zam]
 simp (maxSteps:=4000000) only [go_sem,AV.one,zae,zac,zad,zan,zaq,zaa,czb,cza,↓reduceIte]
 refine zbG (t.heights.length) [] [1,2] (fun i => [(4,.int .i64 i),(3,.int .i64 (zc7 (t.heights.take i)))]) (fun _ m => m) (fun _ => True) ?_ ?_ ?_ ?_
 ·trivial
 ·simp [AV.bare,zal,zaN,zaR,zak,zar,zaf,tokz1,lk,zaa,zcL,zc7]
 ·intro i hi _
  have hr:=h.2 _ (zbv hi)
  have hb:=zrI _ (zrm (i:=i) h.2) 1 (by omega)
  have hm:0 ≤ zc7 (t.heights.take i) * ((at_ t.heights i).hi - (at_ t.heights i).lo + 1) ∧ zc7 (t.heights.take i) * ((at_ t.heights i).hi - (at_ t.heights i).lo + 1) ≤ 3000 * 100 :=
   ⟨Int.mul_nonneg hb.1 (by omega),Int.mul_le_mul hb.2 (by omega) (by omega) (by omega)⟩
  simp only [go_sem,AV.one,zae,zac,zad,zan,zaq,zaa,czb,cza,↓reduceIte,zax hi,czH.2 hi]
  refine ⟨by omega,⟨?_,?_⟩,?_,?_,nxt hi trivial ?_⟩
  ·simp only [InR]; omega
  ·simp only [InR]; omega
  ·simp only [InR]; omega
  ·simp only [InR]; omega
  ·simp [AV.bare,zal,zaN,zaR,zak,zar,zaf,tokz1,lk,zaa,zcL,ztw _ _ hi]
 ·intro _
  simp only [go_sem,AV.one,zae,zac,zad,zan,zaq,zaa,czb,cza,↓reduceIte,czm]
set_option maxRecDepth 8000
structure HOk (t:Tb):Prop where
 len:t.heights.length ≤ 10
 h:∀ r ∈ t.heights,0 ≤ r.lo ∧ r.lo ≤ r.hi ∧ r.hi ≤ 99
 s0:0 ≤ t.step
 s1:t.step ≤ 99
structure MOk (t:Tb):Prop where
 len:t.marks.length ≤ 7
 m:∀ m ∈ t.marks,0 ≤ m.frm ∧ m.frm ≤ m.til ∧ m.til < t.heights.length
structure LOk (l:List Int):Prop where
 len:l.length ≤ 4096
 b:∀ x ∈ l,0 ≤ x ∧ x ≤ 99
def P2 (g:FuncId):=(zas 67 (zcC HOk (fun t => zc7 t.heights)) (P1):zaJ) g
theorem P2_ok:zaz Tryz.prog P2:=zah (zbj fun t h => Many_call t ⟨by have:=h.len; omega,fun r hr => by have:=h.h r hr; omega⟩) (P1_ok)
theorem P2_flag (d:Option Nat):zaF P2 d = none:=(zag (by decide) d).trans (P1_flag d)
attribute [go_sem] P2 P2_flag
def zoX:List Int → Int
 | [] => 0
 | x :: r => r.foldl max x
theorem zm7 (l:List Int) (x:Int) (h:l ≠ []):zoX (l ++ [x]) = max (zoX l) x:=by
 cases l with
 | nil => exact absurd rfl h
 | cons y r => simp [zoX,List.foldl_append]
def zkJ (l:List Int) (a b:Int):Int:=zoX ((l.drop a.toNat).take (b + 1 - a).toNat)
theorem zkA {α:Type} [Inhabited α] {l:List α} {a i:Nat} (h:a + i < l.length):(l.drop a).take (i + 1) = (l.drop a).take i ++ [at_ l (a + i)]:=by
 have:i < (l.drop a).length:=by simp; omega
 rw [zaV this]
 simp [at_,List.getD]
theorem topL_call (l:List Int) (a b:Int) (h0:0 ≤ a) (h:a ≤ b) (hb:b < l.length) (hl:l.length ≤ 4096):zaP Tryz.prog 163 [Enc.enc l,Enc.enc a,Enc.enc b] (· = Enc.enc (zkJ l a b)):=by
 obtain ⟨a,rfl⟩:=czu h0
 obtain ⟨b,rfl⟩:∃ k:Nat,b = a + k:=⟨(b - a).toNat,by omega⟩
 simp only [zcp]
 refine cpz P2_ok Tryz.func163 zaB ?_
 rw [Tryz.ntmps163]
 simp only [Tryz.f163,zai,zam]
 simp (maxSteps:=4000000) only [go_sem,AV.one,zae,zac,zad,zan,zaq,zaa,czb,cza,↓reduceIte,zax (show a < l.length by omega)]
 refine ⟨by omega,?_⟩
 refine zbG (b + 1) [] [0,2,6] (fun i => [(8,.int .i64 ((a + i:Nat):Int)),(7,.int .i64 (if i = 0 then at_ l a else zoX ((l.drop a).take i)))]) (fun _ m => m) (fun _ => True) ?_ ?_ ?_ ?_
 ·trivial
 ·simp [AV.bare,zal,zaN,zaR,zak,zar,zaf,tokz1,lk,zaa,zcL]
 ·intro i hi _
  have hi':((a + i:Nat):Int) ≤ (a:Int) + (b:Int):=by omega
  simp only [go_sem,AV.one,zae,zac,zad,zan,zaq,zaa,czb,cza,↓reduceIte,zax (show a + i < l.length by omega),hi']
  refine ⟨by omega,(by simp only [InR]; omega),nxt hi trivial ?_⟩
  have e:max (if i = 0 then at_ l a else zoX ((l.drop a).take i)) (at_ l (a + i)) = zoX ((l.drop a).take (i + 1)):=by
   rw [zkA (by omega)]
   by_cases h0:i = 0
   ·subst h0; simp [zoX]
   ·rw [if_neg h0,zm7]
    intro q
    have:=congrArg List.length q
    simp at this
    omega
  simp [AV.bare,zal,zaN,zaR,zak,zar,zaf,tokz1,lk,zaa,zcL,e]
  omega
 ·intro _
  have hn:¬ (((a + (b + 1):Nat):Int) ≤ (a:Int) + (b:Int)):=by omega
  simp only [go_sem,AV.one,zae,zac,zad,zan,zaq,zaa,czb,cza,↓reduceIte,hn]
  simp only [zkJ,czF]
  rw [show ((a:Int) + b + 1 - a).toNat = b + 1 by omega]
def P3 (g:FuncId):=(zas 163 (zec (fun (l:List Int) (a b:Int) => 0 ≤ a ∧ a ≤ b ∧ b < l.length ∧ l.length ≤ 4096) zkJ) (P2):zaJ) g
theorem P3_ok:zaz Tryz.prog P3:=zah (zb8 fun l a b h => topL_call l a b h.1 h.2.1 h.2.2.1 h.2.2.2) (P2_ok)
theorem P3_flag (d:Option Nat):zaF P3 d = none:=(zag (by decide) d).trans (P2_flag d)
attribute [go_sem] P3 P3_flag
def zdP (l:List Int) (m:Mk):Bool:=inB (zkJ l m.frm m.til) m.top.lo m.top.hi
theorem zuJ (l:List Int) (m:Mk) (h:(0 ≤ m.frm ∧ m.frm ≤ m.til ∧ m.til < l.length) ∧ l.length ≤ 4096):zaP Tryz.prog 135 [Enc.enc l,Enc.enc m] (· = Enc.enc (zdP l m)):=by
 simp only [zcp]
 refine cpz P3_ok Tryz.func135 zaB ?_
 rw [Tryz.ntmps135]
 simp only [Tryz.f135,zai,zam]
 simp (maxSteps:=4000000) only [go_sem,AV.one,zae,zac,zad,zan,zaq,zaa,czb,cza,↓reduceIte]
 exact ⟨rfl,⟨h.1.1,h.1.2.1,h.1.2.2,h.2⟩,rfl⟩
def zcE (s:Int):List Int → Bool
 | [] => true
 | [_] => true
 | x :: y :: r => (decide (y - x ≤ s) && decide (x - y ≤ s)) && zcE s (y :: r)
theorem ztv (s:Int) (l:List Int) (y:Int) (h:l ≠ []):zcE s (l ++ [y]) = (zcE s l && (decide (y - l.getLast h ≤ s) && decide (l.getLast h - y ≤ s))):=by
 induction l with
 | nil => exact absurd rfl h
 | cons x l ih =>
  cases l with
  | nil => simp only [czs,List.nil_append,zcE,List.getLast_singleton,Bool.and_true,Bool.true_and]; rfl
  | cons z l =>
   have:=ih (by simp)
   simp only [czs] at this ⊢
   simp only [zcE,this,List.getLast_cons_cons,Bool.and_assoc]
   rfl
theorem zkY (s:Int) (l:List Int) (i:Nat) (h:i + 1 < l.length):zcE s (l.take (i + 1 + 1)) = (zcE s (l.take (i + 1)) && (decide (at_ l (i + 1) - at_ l i ≤ s) && decide (at_ l i - at_ l (i + 1) ≤ s))):=by
 have hn:l.take (i + 1) ≠ []:=by
  intro q
  have:=congrArg List.length q
  rw [czO,czy] at this
  omega
 rw [zaV h,ztv _ _ _ hn]
 have:(l.take (i + 1)).getLast hn = at_ l i:=by
  rw [List.getLast_eq_getElem]
  simp [zdk (show i < l.length by omega),show min (i + 1) l.length - 1 = i by omega]
 rw [this]
theorem zh8 (s:Int) (l:List Int):∀ i,zcE s l = true → zcE s (l.take i) = true:=by
 induction l with
 | nil => intro i _; simp [zcE]
 | cons x l ih =>
  intro i h
  cases i with
  | zero => simp [zcE]
  | succ i =>
   cases l with
   | nil => simp [zcE]
   | cons y l =>
    simp only [zcE,czl] at h
    cases i with
    | zero => simp [zcE]
    | succ i =>
     have:=ih (i + 1) h.2
     simp only [List.take_succ_cons,zcE,czl] at this ⊢
     exact ⟨h.1,this⟩
theorem Near_call (t:Tb) (l:List Int) (h:(0 ≤ t.step ∧ t.step ≤ 99) ∧ l.length ≤ 4096 ∧ ∀ x ∈ l,0 ≤ x ∧ x ≤ 99):zaP Tryz.prog 87 [Enc.enc t,Enc.enc l] (· = Enc.enc (zcE t.step l)):=by
 simp only [zcp]
 refine cpz P3_ok Tryz.func87 zaB ?_
 rw [Tryz.ntmps87]
 simp only [Tryz.f87,zai,zam]
 simp (maxSteps:=4000000) only [go_sem,AV.one,zae,zac,zad,zan,zaq,zaa,czb,cza,↓reduceIte]
 refine zbG (l.length - 1) [] [1,2,4] (fun i => [(5,.int .i64 ((i + 1:Nat):Int))]) (fun _ m => m) (fun i => zcE t.step (l.take (i + 1)) = true) ?_ ?_ ?_ ?_
 ·cases l with
  | nil => simp [zcE]
  | cons x l => simp [zcE]
 ·simp [AV.bare,zal,zaN,zaR,zak,zar,zaf,tokz1,lk,zaa,zcL]
 ·intro i hi hI
  have hi':((i + 1:Nat):Int) < (l.length:Int):=by omega
  have e1:((i + 1:Nat):Int) - 1 = (i:Int):=by omega
  have g1:=h.2.2 _ (zbv (show i < l.length by omega))
  have g2:=h.2.2 _ (zbv (show i + 1 < l.length by omega))
  have hs:=zkY t.step l i (by omega)
  cases c1:decide (t.step < at_ l (i + 1) - at_ l i) <;> cases c2:decide (t.step < at_ l i - at_ l (i + 1)) <;>
   simp only [go_sem,AV.one,zae,zac,zad,zan,zaq,zaa,czb,cza,↓reduceIte,zax (show i + 1 < l.length by omega),zax (show i < l.length by omega),hi',e1,c1,c2]
  all_goals (repeat' first | (with_reducible first | rfl | apply And.intro | assumption) | ((with_reducible show zaj _ _ = true); rfl)) <;> try first | omega | (simp only [InR]; omega)
  ·refine nxt hi ?_ ?_
   ·rw [hs,hI]
    simp only [decide_eq_false_iff_not] at c1 c2
    simp; omega
   ·simp [AV.bare,zal,zaN,zaR,zak,zar,zaf,tokz1,lk,zaa,zcL]
  all_goals
   congr 1
   by_cases q:zcE t.step l = true
   ·have:=zh8 t.step l (i + 1 + 1) q
    rw [hs] at this
    simp at this c1 c2
    omega
   ·simpa using q
 ·intro hI
  have hn:¬ ((l.length - 1 + 1:Nat):Int) < (l.length:Int):=by omega
  simp only [go_sem,AV.one,zae,zac,zad,zan,zaq,zaa,czb,cza,↓reduceIte,hn]
  rw [← hI,cze (by omega)]
def szR (r:Rg):Int:=r.hi - r.lo + 1
def zhy:List Rg → Int → List Int
 | [],_ => []
 | r :: l,n => (r.lo + n % szR r) :: zhy l (n / szR r)
def zu0 (l:List Rg) (n:Int):Int:=l.foldl (fun n r => n / szR r) n
theorem nthL_snoc (l:List Rg) (r:Rg) (n:Int):zhy (l ++ [r]) n = zhy l n ++ [r.lo + zu0 l n % szR r]:=by
 induction l generalizing n with
 | nil => rfl
 | cons x l ih => simp only [czs,zhy,ih]; rfl
theorem remL_snoc (l:List Rg) (r:Rg) (n:Int):zu0 (l ++ [r]) n = zu0 l n / szR r:=by simp [zu0,List.foldl_append]
theorem zdY (l:List Rg) (n:Int):(zhy l n).length = l.length:=by
 induction l generalizing n with
 | nil => rfl
 | cons r l ih => simp [zhy,ih]
theorem remL_bd (l:List Rg) (n:Int) (h:∀ r ∈ l,0 ≤ r.hi - r.lo) (hn:0 ≤ n):0 ≤ zu0 l n ∧ zu0 l n ≤ n:=by
 induction l generalizing n with
 | nil => exact ⟨hn,Int.le_refl _⟩
 | cons r l ih =>
  have hr:=h r (by simp)
  have h1:0 ≤ n / szR r:=Int.ediv_nonneg hn (by unfold szR; omega)
  have h2:n / szR r ≤ n:=Int.ediv_le_self _ hn
  have:=ih (n / szR r) (fun r hr => h r (by simp [hr])) h1
  show 0 ≤ zu0 l (n / szR r) ∧ zu0 l (n / szR r) ≤ n
  omega
theorem Nth_call (t:Tb) (n:Int) (h:(t.heights.length ≤ 4096 ∧ ∀ r ∈ t.heights,(0 ≤ r.hi - r.lo ∧ r.hi - r.lo ≤ 99) ∧ 0 ≤ r.lo ∧ r.lo ≤ 99) ∧ 0 ≤ n ∧ n ≤ 3000):zaP Tryz.prog 113 [Enc.enc t,Enc.enc n] (· = Enc.enc (zhy t.heights n)):=by
 simp only [zcp]
 refine cpz P3_ok Tryz.func113 zaB ?_
 rw [Tryz.ntmps113]
 simp only [Tryz.f113,zai,zam]
 simp (maxSteps:=4000000) only [go_sem,AV.one,zae,zac,zad,zan,zaq,zaa,czb,cza,↓reduceIte]
 refine zbG (t.heights.length) [.slot 5 1] [2,4] (fun i => [(6,.int .i64 i),(5,.sl ((zhy (t.heights.take i) n).map EncE.cs) (.own 1)),(1,.int .i64 (zu0 (t.heights.take i) n))]) (fun i m => m.set 1 (.tok i 1)) (fun _ => True) ?_ ?_ ?_ ?_
 ·trivial
 ·simp [AV.bare,zal,zaN,zaR,zak,zar,zaf,tokz1,lk,zaa,zcL,zhy,zu0]
 ·intro i hi _
  have hi':=czH.2 hi
  have hr:=h.1.2 _ (zbv hi)
  have hb:=remL_bd _ n (zrm (i:=i) fun r hr => (h.1.2 r hr).1.1) h.2.1
  have hm:=Int.emod_lt_of_pos (zu0 (t.heights.take i) n) (show 0 < (at_ t.heights i).hi - (at_ t.heights i).lo + 1 by omega)
  have hm':=Int.emod_nonneg (zu0 (t.heights.take i) n) (show (at_ t.heights i).hi - (at_ t.heights i).lo + 1 ≠ 0 by omega)
  have hl:(zhy (t.heights.take i) n).length = i:=by rw [zdY]; simp; omega
  simp only [go_sem,AV.one,zae,zac,zad,zan,zaq,zaa,czb,cza,↓reduceIte,zax hi,hi',hl]
  all_goals (repeat' first | (with_reducible first | rfl | apply And.intro | assumption) | ((with_reducible show zaj _ _ = true); rfl)) <;> try first | omega | (simp only [InR]; omega)
  refine nxt hi trivial ?_
  simp [AV.bare,zal,zaN,zaR,zak,zar,zaf,tokz1,lk,zaa,zcL,zaV hi,nthL_snoc,remL_snoc,szR,zeF,hl]
 ·intro _
  simp only [go_sem,AV.one,zae,zac,zad,zan,zaq,zaa,czb,cza,↓reduceIte,czm]
def P4 (g:FuncId):=(zas 135 (zbF (fun (l:List Int) (m:Mk) => (0 ≤ m.frm ∧ m.frm ≤ m.til ∧ m.til < l.length) ∧ l.length ≤ 4096) zdP) (zas 87 (zbF (fun (t:Tb) (l:List Int) => (0 ≤ t.step ∧ t.step ≤ 99) ∧ LOk l) (fun t l => zcE t.step l)) (zas 113 (zbF (fun (t:Tb) (n:Int) => HOk t ∧ 0 ≤ n ∧ n ≤ 3000) (fun t n => zhy t.heights n)) (P3))):zaJ) g
theorem P4_ok:zaz Tryz.prog P4:=zah (zaM zuJ) (zah (zaM fun t l h => Near_call t l ⟨h.1,h.2.len,h.2.b⟩) (zah (zaM fun t n h => Nth_call t n ⟨⟨by have:=h.1.len; omega,fun r hr => by have:=h.1.h r hr; omega⟩,h.2⟩) (P3_ok)))
theorem P4_flag (d:Option Nat):zaF P4 d = none:=(zag (by decide) d).trans ((zag (by decide) d).trans ((zag (by decide) d).trans (P3_flag d)))
attribute [go_sem] P4 P4_flag
theorem zd5 {α:Type} [Inhabited α] {l:List α} {p:α → Bool} {i:Nat} (h:i < l.length):(l.take (i + 1)).all p = ((l.take i).all p && p (at_ l i)):=by
 rw [zaV h,List.all_append]; simp
theorem zfN {α:Type} [Inhabited α] {l:List α} {p:α → Bool} {i:Nat} (h:i < l.length) (hp:p (at_ l i) = false):l.all p = false:=by
 rw [List.all_eq_false]; exact ⟨_,zbv h,by simp [hp]⟩
theorem zp3 {α:Type} [Inhabited α] {l:List α} {p:α → Bool} {i:Nat} (h:i < l.length):(l.take (i + 1)).filter p = (l.take i).filter p ++ (if p (at_ l i) then [at_ l i] else []):=by
 rw [zaV h,List.filter_append]
 cases c:p (at_ l i) <;> simp [List.filter,c]
theorem zpJ (l:List Rg) (n:Int) (h:∀ r ∈ l,0 ≤ r.lo ∧ r.lo ≤ r.hi ∧ r.hi ≤ 99):∀ x ∈ zhy l n,0 ≤ x ∧ x ≤ 99:=by
 induction l generalizing n with
 | nil => intro x hx; simp [zhy] at hx
 | cons r l ih =>
  intro x hx
  have hr:=h r (by simp)
  have h1:=Int.emod_lt_of_pos n (show 0 < szR r by unfold szR; omega)
  have h2:=Int.emod_nonneg n (show szR r ≠ 0 by unfold szR; omega)
  simp only [zhy,czn] at hx
  rcases hx with rfl | hx
  ·unfold szR at h1 h2 ⊢; omega
  ·exact ih _ (fun r hr => h r (by simp [hr])) x hx
theorem zlQ {t:Tb} (h:HOk t):0 ≤ zc7 t.heights ∧ zc7 t.heights ≤ 3000 :=
 zrI _ (fun r hr => by have:=h.h r hr; omega) 1 (by omega)
def zeP (t:Tb) (n:Nat):List (List Int):=((List.range n).map fun i:Nat => zhy t.heights i).filter (zcE t.step)
def zcG (t:Tb):List (List Int):=zeP t (zc7 t.heights).toNat
theorem zjQ (t:Tb) (n:Nat):zeP t (n + 1) = zeP t n ++ (if zcE t.step (zhy t.heights n) then [zhy t.heights n] else []):=by
 simp only [zeP,List.range_succ,List.map_append,List.filter_append,czb,List.map_nil]
 cases h:zcE t.step (zhy t.heights n) <;> simp [List.filter,h]
theorem zk2 (t:Tb) (n:Nat):(zeP t n).length ≤ n:=by
 have:=List.length_filter_le (zcE t.step) ((List.range n).map fun i:Nat => zhy t.heights i)
 simpa [zeP] using this
theorem ztC {t:Tb} (h:HOk t):(zcG t).length ≤ 3000:=by
 have:=zk2 t (zc7 t.heights).toNat
 have:=zlQ h
 unfold zcG; omega
theorem znh {t:Tb} (h:HOk t):∀ l ∈ zcG t,l.length = t.heights.length ∧ LOk l:=fun l hl => by
 simp only [zcG,zeP,List.mem_filter,czx] at hl
 obtain ⟨⟨n,_,rfl⟩,_⟩:=hl
 have:=zdY t.heights n
 have:=h.len
 exact ⟨zdY _ _,by omega,zpJ _ _ h.h⟩
theorem zuP (t:Tb) (h:HOk t):zaP Tryz.prog 57 [Enc.enc t] (· = Enc.enc (zcG t)):=by
 have hm:=zlQ h
 have hl:=h.len
 have hs:=h.s0
 have hs':=h.s1
 simp only [zcp]
 refine cpz P4_ok Tryz.func57 zaB ?_
 rw [Tryz.ntmps57]
 simp only [Tryz.f57,zai,zam]
 simp (maxSteps:=4000000) only [go_sem,AV.one,zae,zac,zad,zan,zaq,zaa,czb,cza,↓reduceIte]
 refine zbG ((zc7 t.heights).toNat) [.slot 3 1] [1,2] (fun i => [(4,.int .i64 i),(3,.sl ((zeP t i).map EncE.cs) (.own 1))]) (fun i m => m.set 1 (.tok (zeP t i).length 1)) (fun _ => True) ?_ ?_ ?_ ?_
 ·trivial
 ·simp [AV.bare,zal,zaN,zaR,zak,zar,zaf,tokz1,lk,zaa,zcL,zeP]
 ·intro i hi _
  have hi':(i:Int) < zc7 t.heights:=by omega
  have hn:=zdY t.heights i
  have p3:LOk (zhy t.heights (i:Int)):=⟨by omega,zpJ _ _ h.h⟩
  have hll:=zk2 t i
  cases c:zcE t.step (zhy t.heights i) <;>
   simp (maxSteps:=4000000) only [go_sem,AV.one,zae,zac,zad,zan,zaq,zaa,czb,cza,↓reduceIte,hi',c]
  all_goals all_goals (repeat' first | (with_reducible first | rfl | apply And.intro | assumption) | ((with_reducible show zaj _ _ = true); rfl)) <;> try first | omega | (simp only [InR]; omega)
  all_goals
   refine nxt hi trivial ?_
   simp [AV.bare,zal,zaN,zaR,zak,zar,zaf,tokz1,lk,zaa,zcL,zjQ,c]
 ·intro _
  have hi':¬ (((zc7 t.heights).toNat:Nat):Int) < zc7 t.heights:=by omega
  simp (maxSteps:=4000000) only [go_sem,AV.one,zae,zac,zad,zan,zaq,zaa,czb,cza,↓reduceIte,hi']
  all_goals (repeat' first | (with_reducible first | rfl | apply And.intro | assumption) | ((with_reducible show zaj _ _ = true); rfl)) <;> try first | omega | (simp only [InR]; omega)
  rfl
def P5 (g:FuncId):=(zas 57 (zcC HOk zcG) (P4):zaJ) g
theorem P5_ok:zaz Tryz.prog P5:=zah (zbj zuP) (P4_ok)
theorem P5_flag (d:Option Nat):zaF P5 d = none:=(zag (by decide) d).trans (P4_flag d)
attribute [go_sem] P5 P5_flag
theorem zeb {α:Type} {l:List α} {p:α → Bool} (h:(l.take l.length).all p = true):l.all p = true:=by rwa [czm] at h
def zeH (last:Int) (m:Mk):Bool:=inB m.frm 0 last && inB m.til 0 last && decide (m.frm ≤ m.til) && zbo m.top
def zbq (t:Tb):Int :=
 if 9 < t.last ∨ 6 < t.levels.length ∨ 5 < t.marks.length then 3
 else if t.last < 0 ∨ (t.heights.length:Int) ≠ t.last + 1 ∨ inB t.step 0 99 = false then 1
 else if t.heights.all zbo = false then 1
 else if (t.levels.all fun n => inB n 0 99) = false then 1
 else if t.marks.all (zeH t.last) = false then 1
 else if 2000 < zc7 t.heights then 3
 else if zcG t = [] then 9 else 0
theorem zcU (r:Rg):zbo r = true ↔ 0 ≤ r.lo ∧ r.lo ≤ r.hi ∧ r.hi ≤ 99:=by simp [zbo,and_assoc]
theorem zbO (n lo hi:Int):inB n lo hi = true ↔ lo ≤ n ∧ n ≤ hi:=by simp [inB]
set_option maxHeartbeats 4000000 in
theorem zuT (t:Tb) (h:t.heights.length ≤ 4096):zaP Tryz.prog 66 [Enc.enc t] (· = Enc.enc (zbq t)):=by
 unfold zbq
 simp only [zcp]
 refine cpz P5_ok Tryz.func66 zaB ?_
 rw [Tryz.ntmps66]
 simp only [Tryz.f66,zai,zam]
 simp (maxSteps:=4000000) only [go_sem,AV.one,zae,zac,zad,zan,zaq,zaa,czb,cza,↓reduceIte]
 refine ⟨fun q => ?_,fun q => ⟨fun q2 => ?_,fun q2 => ?_,fun q2 => ?_⟩⟩
 ·rw [if_pos]
  simp at q
  rcases q with (q | q) | q
  ·exact .inl q
  ·exact .inr (.inl (by omega))
  ·exact .inr (.inr (by omega))
 ·simp at q q2
  refine ⟨by simpa using q2,(by simp only [InR]; omega)⟩
 all_goals
  have hno0:¬ (9 < t.last ∨ 6 < t.levels.length ∨ 5 < t.marks.length):=by simp at q; omega
  simp at q
  rw [if_neg hno0]
 ·simp at q2
  rw [if_pos (by rcases q2 with (q2 | q2) | q2 <;> simp [q2])]
 simp at q2
 obtain ⟨⟨c1,c2⟩,c3⟩:=q2
 have hst:=(zbO _ _ _).1 c3
 have hno:¬ (t.last < 0 ∨ (t.heights.length:Int) ≠ t.last + 1 ∨ inB t.step 0 99 = false):=by
  rintro (q2 | q2 | q2)
  ·omega
  ·exact q2 c2
  ·simp [c3] at q2
 rw [if_neg hno]
 have hh:∀ i,i < t.heights.length → (i:Int) + 1 ≤ 4096:=fun i hi => by omega
 refine zbG (t.heights.length) [] [1,2] (fun i => [(3,.int .i64 i)]) (fun _ m => m) (fun i => (t.heights.take i).all zbo = true) ?_ ?_ ?_ ?_
 ·simp
 ·simp [AV.bare,zal,zaN,zaR,zak,zar,zaf,tokz1,lk,zaa,zcL]
 ·intro i hi hI
  have hi':=czH.2 hi
  cases c:zbo (at_ t.heights i) <;>
   simp (maxSteps:=4000000) only [go_sem,AV.one,zae,zac,zad,zan,zaq,zaa,czb,cza,↓reduceIte,hi',zax hi,c]
  ·all_goals (repeat' first | (with_reducible first | rfl | apply And.intro | assumption) | ((with_reducible show zaj _ _ = true); rfl)) <;> try first | omega | (simp only [InR]; omega)
   rw [if_pos (zfN hi c)]
  ·all_goals (repeat' first | (with_reducible first | rfl | apply And.intro | assumption) | ((with_reducible show zaj _ _ = true); rfl)) <;> try first | omega | (simp only [InR]; omega)
   refine nxt hi (by rw [zd5 hi,hI,c]; rfl) ?_
   simp [AV.bare,zal,zaN,zaR,zak,zar,zaf,tokz1,lk,zaa,zcL]
 intro hI
 have hI:=zeb hI
 rw [if_neg (by simp [hI])]
 simp (maxSteps:=4000000) only [go_sem,AV.one,zae,zac,zad,zan,zaq,zaa,czb,cza,↓reduceIte]
 refine zbG (t.levels.length) [] [1,2] (fun i => [(4,.int .i64 i)]) (fun _ m => m) (fun i => (t.levels.take i).all (fun n => inB n 0 99) = true) ?_ ?_ ?_ ?_
 ·simp
 ·simp [AV.bare,zal,zaN,zaR,zak,zar,zaf,tokz1,lk,zaa,zcL]
 ·intro i hi hI
  have hi':=czH.2 hi
  cases c:inB (at_ t.levels i) 0 99 <;>
   simp (maxSteps:=4000000) only [go_sem,AV.one,zae,zac,zad,zan,zaq,zaa,czb,cza,↓reduceIte,hi',zax hi,c]
  ·all_goals (repeat' first | (with_reducible first | rfl | apply And.intro | assumption) | ((with_reducible show zaj _ _ = true); rfl)) <;> try first | omega | (simp only [InR]; omega)
   rw [if_pos (zfN hi c)]
  ·all_goals (repeat' first | (with_reducible first | rfl | apply And.intro | assumption) | ((with_reducible show zaj _ _ = true); rfl)) <;> try first | omega | (simp only [InR]; omega)
   refine nxt hi (by rw [zd5 hi,hI,c]; rfl) ?_
   simp [AV.bare,zal,zaN,zaR,zak,zar,zaf,tokz1,lk,zaa,zcL]
 intro hI2
 have hI2:=zeb hI2
 rw [if_neg (by simp [hI2])]
 simp (maxSteps:=4000000) only [go_sem,AV.one,zae,zac,zad,zan,zaq,zaa,czb,cza,↓reduceIte]
 refine zbG (t.marks.length) [] [1,2] (fun i => [(5,.int .i64 i)]) (fun _ m => m) (fun i => (t.marks.take i).all (zeH t.last) = true) ?_ ?_ ?_ ?_
 ·simp
 ·simp [AV.bare,zal,zaN,zaR,zak,zar,zaf,tokz1,lk,zaa,zcL]
 ·intro i hi hI
  have hi':=czH.2 hi
  have hm:zeH t.last (at_ t.marks i) = (inB (at_ t.marks i).frm 0 t.last && inB (at_ t.marks i).til 0 t.last && decide ((at_ t.marks i).frm ≤ (at_ t.marks i).til) && zbo (at_ t.marks i).top):=rfl
  simp (maxSteps:=4000000) only [go_sem,AV.one,zae,zac,zad,zan,zaq,zaa,czb,cza,↓reduceIte,hi',zax hi]
  refine ⟨by omega,fun q => ?_,fun q => ?_⟩
  ·rw [if_pos (zfN hi ?_)]
   rw [hm]
   simp at q
   rcases q with ((q | q) | q) | q <;> (try simp [q]) <;> (intros; omega)
  ·simp at q
   refine ⟨(by simp only [InR]; omega),nxt hi ?_ ?_⟩
   ·rw [zd5 hi,hI,hm]
    simp [q]
   ·simp [AV.bare,zal,zaN,zaR,zak,zar,zaf,tokz1,lk,zaa,zcL]
 intro hI3
 have hI3:=zeb hI3
 rw [if_neg (by simp [hI3])]
 have hok:HOk t:=⟨by omega,fun r hr => (zcU r).1 (czG.1 hI r hr),hst.1,hst.2⟩
 have hmy:=zlQ hok
 simp (maxSteps:=4000000) only [go_sem,AV.one,zae,zac,zad,zan,zaq,zaa,czb,cza,↓reduceIte]
 refine ⟨hok,fun q => ?_,fun q => ?_⟩
 ·simp at q
  rw [if_pos q]
 simp at q
 rw [if_neg (by omega)]
 refine zbG ((zc7 t.heights).toNat) [] [1,2] (fun i => [(7,.int .i64 i)]) (fun _ m => m) (fun i => zeP t i = []) ?_ ?_ ?_ ?_
 ·simp [zeP]
 ·simp [AV.bare,zal,zaN,zaR,zak,zar,zaf,tokz1,lk,zaa,zcL]
 ·intro i hi hI
  have hi':(i:Int) < zc7 t.heights:=by omega
  have hn:=zdY t.heights i
  have p3:LOk (zhy t.heights (i:Int)):=⟨by omega,zpJ _ _ hok.h⟩
  cases c:zcE t.step (zhy t.heights i) <;>
   simp (maxSteps:=4000000) only [go_sem,AV.one,zae,zac,zad,zan,zaq,zaa,czb,cza,↓reduceIte,hi',c]
  ·all_goals (repeat' first | (with_reducible first | rfl | apply And.intro | assumption) | ((with_reducible show zaj _ _ = true); rfl)) <;> try first | omega | (simp only [InR]; omega)
   refine nxt hi (by rw [zjQ,hI,c]; rfl) ?_
   simp [AV.bare,zal,zaN,zaR,zak,zar,zaf,tokz1,lk,zaa,zcL]
  ·all_goals (repeat' first | (with_reducible first | rfl | apply And.intro | assumption) | ((with_reducible show zaj _ _ = true); rfl)) <;> try first | omega | (simp only [InR]; omega)
   rw [if_neg]
   intro q
   have:zhy t.heights (i:Int) ∈ zcG t:=by
    simp only [zcG,zeP,List.mem_filter,czx]
    exact ⟨⟨i,by simp; omega,rfl⟩,c⟩
   rw [q] at this
   cases this
 ·intro hI
  have hi':¬ (((zc7 t.heights).toNat:Nat):Int) < zc7 t.heights:=by omega
  simp (maxSteps:=4000000) only [go_sem,AV.one,zae,zac,zad,zan,zaq,zaa,czb,cza,↓reduceIte,hi']
  all_goals (repeat' first | (with_reducible first | rfl | apply And.intro | assumption) | ((with_reducible show zaj _ _ = true); rfl)) <;> try first | omega | (simp only [InR]; omega)
  rw [if_pos (show zcG t = [] from hI)]
def P6 (g:FuncId):=(zas 66 (zcC (fun t:Tb => t.heights.length ≤ 4096) zbq) (P5):zaJ) g
theorem P6_ok:zaz Tryz.prog P6:=zah (zbj zuT) (P5_ok)
theorem P6_flag (d:Option Nat):zaF P6 d = none:=(zag (by decide) d).trans (P5_flag d)
attribute [go_sem] P6 P6_flag
def zhe (l:List Int) (hs:List Rg):List Bool:=List.zipWith (fun x r => inB x r.lo r.hi) l hs
theorem zgT {l:List Int} {hs:List Rg} {i:Nat} (h1:i < l.length) (h2:i < hs.length):at_ (zhe l hs) i = inB (at_ l i) (at_ hs i).lo (at_ hs i).hi:=by
 simp [at_,zhe,List.getD,List.getElem?_zipWith,h1,h2]
theorem zeL (l:List Int) (hs:List Rg):(zhe l hs).length = min l.length hs.length:=by simp [zhe]
theorem zre {t:Tb} {l:List Int} (h:HOk t) (hl:l.length = t.heights.length) (hz:(zhe l t.heights).all id = true):LOk l:=by
 refine ⟨by have:=h.len; omega,fun x hx => ?_⟩
 obtain ⟨i,hi,rfl⟩:=List.getElem_of_mem hx
 have h2:i < t.heights.length:=by omega
 have h3:i < (zhe l t.heights).length:=by rw [zeL]; omega
 have:=czG.1 hz _ (zbv h3)
 rw [zgT hi h2] at this
 have hr:=h.h _ (zbv h2)
 have:=(zbO _ _ _).1 this
 rw [zdk hi] at this
 omega
def zbg (t:Tb) (l:List Int):Bool:=(zhe l t.heights).all id && (decide ((l.length:Int) = t.heights.length) && zcE t.step l)
theorem zmo (t:Tb) (l:List Int) (h:HOk t ∧ l.length ≤ 4096):zaP Tryz.prog 29 [Enc.enc t,Enc.enc l] (· = Enc.enc (zbg t l)):=by
 have hs0:=h.1.s0
 have hs1:=h.1.s1
 have hl:=h.2
 have hh:=h.1.len
 simp only [zcp]
 refine cpz P6_ok Tryz.func29 zaB ?_
 rw [Tryz.ntmps29]
 simp only [Tryz.f29,zai,zam]
 simp (maxSteps:=4000000) only [go_sem,AV.one,zae,zac,zad,zan,zaq,zaa,czb,cza,↓reduceIte]
 refine zbG ((zhe l t.heights).length) [] [1,2,4] (fun i => [(5,.int .i64 i)]) (fun _ m => m) (fun i => ((zhe l t.heights).take i).all id = true) ?_ ?_ ?_ ?_
 ·simp
 ·simp [AV.bare,zal,zaN,zaR,zak,zar,zaf,tokz1,lk,zaa,zcL]
 ·intro i hi hI
  have hz:=zeL l t.heights
  have h1:i < l.length:=by omega
  have h2:i < t.heights.length:=by omega
  have hz:=zgT h1 h2
  cases c:inB (at_ l i) (at_ t.heights i).lo (at_ t.heights i).hi <;>
   simp (maxSteps:=4000000) only [go_sem,AV.one,zae,zac,zad,zan,zaq,zaa,czb,cza,↓reduceIte,zax h1,zax h2,czH.2 h1,czH.2 h2,c]
  all_goals all_goals (repeat' first | (with_reducible first | rfl | apply And.intro | assumption) | ((with_reducible show zaj _ _ = true); rfl)) <;> try first | omega | (simp only [InR]; omega)
  ·rw [zbg,zfN hi (by rw [hz,c]; rfl)]; rfl
  ·refine nxt hi ?_ ?_
   ·rw [zd5 hi,hI,hz,c]; rfl
   ·simp [AV.bare,zal,zaN,zaR,zak,zar,zaf,tokz1,lk,zaa,zcL]
 ·intro hI
  have hI:=zeb hI
  have hz:=zeL l t.heights
  have hd:decide (((zhe l t.heights).length:Int) < (l.length:Int)) = true → decide (((zhe l t.heights).length:Int) < (t.heights.length:Int)) = false:=by
   simp; omega
  cases c1:decide (((zhe l t.heights).length:Int) < (l.length:Int))
  ·cases c2:decide ((l.length:Int) = t.heights.length)
   ·simp (maxSteps:=4000000) only [go_sem,AV.one,zae,zac,zad,zan,zaq,zaa,czb,cza,↓reduceIte,c1,c2]
    simp [zbg,c2]
   ·have hlo:=zre h.1 (by simp at c2; omega) hI
    simp (maxSteps:=4000000) only [go_sem,AV.one,zae,zac,zad,zan,zaq,zaa,czb,cza,↓reduceIte,c1,c2]
    all_goals (repeat' first | (with_reducible first | rfl | apply And.intro | assumption) | ((with_reducible show zaj _ _ = true); rfl)) <;> try first | omega | (simp only [InR]; omega)
    simp [zbg,c2,hI]
  ·have c3:=hd c1
   cases c2:decide ((l.length:Int) = t.heights.length)
   ·simp (maxSteps:=4000000) only [go_sem,AV.one,zae,zac,zad,zan,zaq,zaa,czb,cza,↓reduceIte,c1,c2,c3]
    simp [zbg,c2]
   ·have hlo:=zre h.1 (by simp at c2; omega) hI
    simp (maxSteps:=4000000) only [go_sem,AV.one,zae,zac,zad,zan,zaq,zaa,czb,cza,↓reduceIte,c1,c2,c3]
    all_goals (repeat' first | (with_reducible first | rfl | apply And.intro | assumption) | ((with_reducible show zaj _ _ = true); rfl)) <;> try first | omega | (simp only [InR]; omega)
    simp [zbg,c2,hI]
def P7 (g:FuncId):=(zas 29 (zbF (fun (t:Tb) (l:List Int) => HOk t ∧ l.length ≤ 4096) zbg) (P6):zaJ) g
theorem P7_ok:zaz Tryz.prog P7:=zah (zaM zmo) (P6_ok)
theorem P7_flag (d:Option Nat):zaF P7 d = none:=(zag (by decide) d).trans (P6_flag d)
attribute [go_sem] P7 P7_flag
def zbZ (t:Tb) (l:List Int):Bool:=zbg t l && t.marks.all (zdP l)
theorem zbY {t:Tb} {l:List Int} (h:zbg t l = true):l.length = t.heights.length:=by
 simp only [zbg,czl,decide_eq_true_eq] at h
 omega
theorem zoU (t:Tb) (l:List Int) (h:(HOk t ∧ l.length ≤ 4096) ∧ MOk t):zaP Tryz.prog 85 [Enc.enc t,Enc.enc l] (· = Enc.enc (zbZ t l)):=by
 have h0:=h.1.1
 have h1:=h.1.2
 have hm:=h.2.len
 cases c0:zbg t l
 ·simp only [zcp]
  refine cpz P7_ok Tryz.func85 zaB ?_
  rw [Tryz.ntmps85]
  simp only [Tryz.f85,zai,zam]
  simp (maxSteps:=4000000) only [go_sem,AV.one,zae,zac,zad,zan,zaq,zaa,czb,cza,↓reduceIte,c0]
  all_goals (repeat' first | (with_reducible first | rfl | apply And.intro | assumption) | ((with_reducible show zaj _ _ = true); rfl)) <;> try first | omega | (simp only [InR]; omega)
  simp [zbZ,c0]
 have hll:=zbY c0
 simp only [zcp]
 refine cpz P7_ok Tryz.func85 zaB ?_
 rw [Tryz.ntmps85]
 simp only [Tryz.f85,zai,zam]
 simp (maxSteps:=4000000) only [go_sem,AV.one,zae,zac,zad,zan,zaq,zaa,czb,cza,↓reduceIte,c0]
 refine ⟨⟨h0,h1⟩,?_⟩
 refine zbG (t.marks.length) [] [1,2,4] (fun i => [(5,.int .i64 i)]) (fun _ m => m) (fun i => (t.marks.take i).all (zdP l) = true) ?_ ?_ ?_ ?_
 ·simp
 ·simp [AV.bare,zal,zaN,zaR,zak,zar,zaf,tokz1,lk,zaa,zcL]
 ·intro i hi hI
  have hr:=h.2.m _ (zbv hi)
  cases c:zdP l (at_ t.marks i) <;>
   simp (maxSteps:=4000000) only [go_sem,AV.one,zae,zac,zad,zan,zaq,zaa,czb,cza,↓reduceIte,zax hi,czH.2 hi,c]
  all_goals all_goals (repeat' first | (with_reducible first | rfl | apply And.intro | assumption) | ((with_reducible show zaj _ _ = true); rfl)) <;> try first | omega | (simp only [InR]; omega)
  ·rw [zbZ,zfN hi c,Bool.and_false]
  ·refine nxt hi ?_ ?_
   ·rw [zd5 hi,hI,c]; rfl
   ·simp [AV.bare,zal,zaN,zaR,zak,zar,zaf,tokz1,lk,zaa,zcL]
 ·intro hI
  have hI:=zeb hI
  simp (maxSteps:=4000000) only [go_sem,AV.one,zae,zac,zad,zan,zaq,zaa,czb,cza,↓reduceIte]
  simp [zbZ,c0,hI]
def P8 (g:FuncId):=(zas 85 (zbF (fun (t:Tb) (l:List Int) => (HOk t ∧ l.length ≤ 4096) ∧ MOk t) zbZ) (P7):zaJ) g
theorem P8_ok:zaz Tryz.prog P8:=zah (zaM zoU) (P7_ok)
theorem P8_flag (d:Option Nat):zaF P8 d = none:=(zag (by decide) d).trans (P7_flag d)
attribute [go_sem] P8 P8_flag
def zaS (t:Tb):List (List Int):=(zcG t).filter (zbZ t)
theorem zqT (t:Tb) (h:HOk t ∧ MOk t):zaP Tryz.prog 69 [Enc.enc t] (· = Enc.enc (zaS t)):=by
 have h0:=h.1
 have h1:=h.2
 have hll:=ztC h.1
 simp only [zcp]
 refine cpz P8_ok Tryz.func69 zaB ?_
 rw [Tryz.ntmps69]
 simp only [Tryz.f69,zai,zam]
 simp (maxSteps:=4000000) only [go_sem,AV.one,zae,zac,zad,zan,zaq,zaa,czb,cza,↓reduceIte]
 refine ⟨h0,?_⟩
 refine zbG ((zcG t).length) [.slot 3 1] [1,2,4] (fun i => [(5,.int .i64 i),(3,.sl ((((zcG t).take i).filter (zbZ t)).map EncE.cs) (.own 1))]) (fun i m => m.set 1 (.tok (((zcG t).take i).filter (zbZ t)).length 1)) (fun _ => True) ?_ ?_ ?_ ?_
 ·trivial
 ·simp [AV.bare,zal,zaN,zaR,zak,zar,zaf,tokz1,lk,zaa,zcL]
 ·intro i hi _
  have hat:=znh h.1 _ (zbv hi)
  have hlen:=hat.2.len
  have hf:=List.length_filter_le (zbZ t) ((zcG t).take i)
  have hf2:((zcG t).take i).length ≤ 3000:=by simp; omega
  cases c:zbZ t (at_ (zcG t) i) <;>
   simp (maxSteps:=4000000) only [go_sem,AV.one,zae,zac,zad,zan,zaq,zaa,czb,cza,↓reduceIte,zax hi,czH.2 hi,c]
  all_goals all_goals (repeat' first | (with_reducible first | rfl | apply And.intro | assumption) | ((with_reducible show zaj _ _ = true); rfl)) <;> try first | omega | (simp only [InR]; omega)
  all_goals
   refine nxt hi trivial ?_
   simp [AV.bare,zal,zaN,zaR,zak,zar,zaf,tokz1,lk,zaa,zcL,zp3 hi,c]
 ·intro _
  simp (maxSteps:=4000000) only [go_sem,AV.one,zae,zac,zad,zan,zaq,zaa,czb,cza,↓reduceIte,czm]
  all_goals (repeat' first | (with_reducible first | rfl | apply And.intro | assumption) | ((with_reducible show zaj _ _ = true); rfl)) <;> try first | omega | (simp only [InR]; omega)
  rfl
def zko (l:List Int) (level:Int) (n:Nat):List Int:=((List.range n).filter fun i => decide (level < at_ l i)).map fun i:Nat => (i:Int)
def zgP (l:List Int) (level:Int):List Int:=zko l level l.length
theorem wetN_succ (l:List Int) (level:Int) (n:Nat):zko l level (n + 1) = zko l level n ++ (if level < at_ l n then [(n:Int)] else []):=by
 simp only [zko,List.range_succ,List.filter_append,List.map_append]
 by_cases c:level < at_ l n <;> simp [List.filter,c]
theorem ziW (l:List Int) (level:Int) (n:Nat):(zko l level n).length ≤ n:=by
 have:=List.length_filter_le (fun i => decide (level < at_ l i)) (List.range n)
 simpa [zko] using this
end Go.Proofs
