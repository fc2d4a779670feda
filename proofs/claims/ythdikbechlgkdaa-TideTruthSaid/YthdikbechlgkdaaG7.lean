/- The texts D, L, S1, S2, S3, joined. -/
import Derived.Test.YthdikbechlgkdaaG6
import Derived.Test.YthdikbechlgkdaaProg
import Derived.KernelRfl
set_option linter.all false
namespace Go.Fs
structure Rg where
  lo : Int
  hi : Int
instance : Inhabited Rg := ⟨⟨0, 0⟩⟩
structure Mk where
  frm : Int
  til : Int
  top : Rg
instance : Inhabited Mk := ⟨⟨0, 0, default⟩⟩
structure Tb where
  last : Int
  heights : List Rg
  step : Int
  levels : List Int
  marks : List Mk
instance : Enc Rg where
  enc r := .agg [.int .i64 r.lo, .int .i64 r.hi]
  dec
    | .agg [.int .i64 a, .int .i64 b] => some ⟨a, b⟩
    | _ => none
  law v x h := by
    split at h
    · cases h; rfl
    · cases h
  dep := 2
  ok x := by simp [pureN]
instance : EncE Rg where
  cs r := [.int .i64 r.lo, .int .i64 r.hi]
  dcs
    | [.int .i64 a, .int .i64 b] => some ⟨a, b⟩
    | _ => none
  law v x h := by
    split at h
    · cases h; rfl
    · cases h
  inv _ := rfl
  dep := 1
  sz := 2
  len _ := rfl
  ok x := by simp [pureN]
instance : Enc Mk where
  enc m := .agg [.int .i64 m.frm, .int .i64 m.til, .int .i64 m.top.lo, .int .i64 m.top.hi]
  dec
    | .agg [.int .i64 a, .int .i64 b, .int .i64 c, .int .i64 d] => some ⟨a, b, ⟨c, d⟩⟩
    | _ => none
  law v x h := by
    split at h
    · cases h; rfl
    · cases h
  dep := 2
  ok x := by simp [pureN]
instance : EncE Mk where
  cs m := [.int .i64 m.frm, .int .i64 m.til, .int .i64 m.top.lo, .int .i64 m.top.hi]
  dcs
    | [.int .i64 a, .int .i64 b, .int .i64 c, .int .i64 d] => some ⟨a, b, ⟨c, d⟩⟩
    | _ => none
  law v x h := by
    split at h
    · cases h; rfl
    · cases h
  inv _ := rfl
  dep := 1
  sz := 4
  len _ := rfl
  ok x := by simp [pureN]
instance : Enc Tb where
  enc t := .agg [.int .i64 t.last, .sl (t.heights.map EncE.cs) .no, .int .i64 t.step, .sl (t.levels.map EncE.cs) .no, .sl (t.marks.map EncE.cs) .no]
  dec
    | .agg [.int .i64 a, .sl b .no, .int .i64 c, .sl d .no, .sl e .no] =>
      match (decL b : Option (List Rg)), (decL d : Option (List Int)), (decL e : Option (List Mk)) with
      | some b, some d, some e => some ⟨a, b, c, d, e⟩
      | _, _, _ => none
    | _ => none
  law v x h := by
    split at h
    · split at h
      · rename_i h1 h2 h3
        cases h
        rw [decL_law _ _ h1, decL_law _ _ h2, decL_law _ _ h3]
      · cases h
    · cases h
  dep := 3
  ok x := by
    simp only [pureN, List.mem_cons, List.not_mem_nil, or_false, forall_eq_or_imp, forall_eq, true_and, List.mem_map, forall_exists_index, and_imp, forall_apply_eq_imp_iff₂]
    exact ⟨fun a _ => EncE.ok a, fun a _ => EncE.ok a, fun a _ => EncE.ok a⟩
theorem enc_rg (r : Rg) : Enc.enc r = .agg [.int .i64 r.lo, .int .i64 r.hi] := rfl
theorem cs_rg (r : Rg) : EncE.cs r = [.int .i64 r.lo, .int .i64 r.hi] := rfl
theorem dec_rg (a b : Int) : (Enc.dec (.agg [.int .i64 a, .int .i64 b]) : Option Rg) = some ⟨a, b⟩ := rfl
theorem dcs_rg (a b : Int) : (EncE.dcs [.int .i64 a, .int .i64 b] : Option Rg) = some ⟨a, b⟩ := rfl
theorem dep_rg : EncE.dep Rg = 1 := rfl
theorem sz_rg : EncE.sz Rg = 2 := rfl
theorem eta_rg (r : Rg) : (⟨r.lo, r.hi⟩ : Rg) = r := rfl
theorem enc_mk (m : Mk) : Enc.enc m = .agg [.int .i64 m.frm, .int .i64 m.til, .int .i64 m.top.lo, .int .i64 m.top.hi] := rfl
theorem cs_mk (m : Mk) : EncE.cs m = [.int .i64 m.frm, .int .i64 m.til, .int .i64 m.top.lo, .int .i64 m.top.hi] := rfl
theorem dec_mk (a b c d : Int) : (Enc.dec (.agg [.int .i64 a, .int .i64 b, .int .i64 c, .int .i64 d]) : Option Mk) = some ⟨a, b, ⟨c, d⟩⟩ := rfl
theorem dcs_mk (a b c d : Int) : (EncE.dcs [.int .i64 a, .int .i64 b, .int .i64 c, .int .i64 d] : Option Mk) = some ⟨a, b, ⟨c, d⟩⟩ := rfl
theorem dep_mk : EncE.dep Mk = 1 := rfl
theorem sz_mk : EncE.sz Mk = 4 := rfl
theorem eta_mk (r : Mk) : (⟨r.frm, r.til, r.top⟩ : Mk) = r := rfl
theorem enc_tb (t : Tb) : Enc.enc t = .agg [.int .i64 t.last, .sl (t.heights.map EncE.cs) .no, .int .i64 t.step, .sl (t.levels.map EncE.cs) .no, .sl (t.marks.map EncE.cs) .no] := rfl
theorem dec_tb (a c : Int) (b d e : List (List AV)) : (Enc.dec (.agg [.int .i64 a, .sl b .no, .int .i64 c, .sl d .no, .sl e .no]) : Option Tb) =
    match (decL b : Option (List Rg)), (decL d : Option (List Int)), (decL e : Option (List Mk)) with
      | some b, some d, some e => some ⟨a, b, c, d, e⟩
      | _, _, _ => none := rfl
theorem eta_tb (t : Tb) : (⟨t.last, t.heights, t.step, t.levels, t.marks⟩ : Tb) = t := rfl
attribute [go_sem] vc_skip vc_label vc_seq vc_cond vc_block vc_loop vc_exit vc_ret vc_region vc_draw stepA semC sem guardA semV evT lk thenA blkA St.put putT AV.un AV.av keepTk Op.operands andAll pickA binA dstOk retA doneA resV tupA AV.strip Tk.strip ofV ofV1 List.map_nil List.toList_toArray Option.getD_some Option.getD_none List.length_nil Nat.reduceAdd Nat.reduceSub if_true if_false Nat.reduceEqDiff true_and and_true Bool.false_eq_true Nat.reduceLT forall_const Option.map_some reduceCtorEq implies_true loadA partA fldAddrA idxAddrA effA AV.solid AV.cells' AV.cells List.nil_append List.cons_append List.append_nil argsA avsA callV scal List.mem_cons List.not_mem_nil or_false or_true false_or forall_eq_or_imp forall_eq callLen Call.operands Array.toList_append List.length_map sliceA bndA List.getD_cons_zero List.getD_cons_succ List.getD_nil addSpec_app spec0 spec1 spec2 spec3 spec4 spec5 enc_int enc_bool enc_list dec_int dec_bool dec_list cs_int cs_bool cs_list dcs_int dcs_list decL_map decL_nil decL_cons decL_append dep_int dep_bool dep_list sz_int sz_bool sz_list snap_map imm_map len_map headSt Nat.reduceLeDiff minA maxA true_implies Nat.succ_ne_zero List.drop_succ_cons List.drop_zero List.take_succ_cons List.take_zero List.getElem?_cons_zero List.getElem?_cons_succ not_true_eq_false not_false_eq_true tokz_nil tokz_cons tokz1 snap_undef snap_int snap_boolv snap_nilp snap_nilf snap_agg snap_tup snap_ref snap_fn snap_mpr snap_sl_nil snap_sl_cons snap_ptr snap_arr snap_mp imm_undef imm_int imm_boolv imm_nilp imm_nilf imm_agg imm_tup imm_ref imm_fn imm_mpr imm_sl_nil imm_sl_cons imm_ptr imm_arr imm_mp Int.lt_irrefl decide_false decide_true false_implies Nat.lt_irrefl Int.toNat_natCast Nat.reduceMul Nat.zero_add Nat.zero_le Bool.true_eq_false vcDr planOp planEff planFl restr applyE newCount effOp storeOp opTmps List.filterMap_cons List.filterMap_nil List.replicate List.set_cons_zero List.set_cons_succ Bool.not_true Bool.not_false Bool.and_true Bool.and_false Bool.true_and Bool.false_and Nat.add_zero and_self imp_self appA buildA buildSlA fillA repCells chunks Option.map_none List.getElem?_nil mapIn lookupA entryA eqA Bool.not_eq_true List.singleton_append Option.isSome_some Option.isSome_none snap_sl_app imm_sl_app ite_or ite_and Bool.not_eq_true' vcOps_nil vcOps_cons if_prop if_tr if_prop' if_tr' ite_self cast0 cast1 Int.reduceToNat Int.reduceLT Int.reduceLE Int.reduceEq eq_self Int.le_refl Nat.le_refl enc_fnl enc_fnb enc_fnc enc_refc dec_fnl dec_fnb dec_fnc dec_refc enc_arr cs_arr dec_arr dcs_arr decArr_map dep_arr sz_arr take_arr strip_ints strip1_ints soft_ints snap_ints imm_ints scal_ints one_ints drop_ints optArr_some optArr_none Nat.mul_one callN frA AV.frsh effB newB frOp List.any_cons List.any_nil specF1 Bool.or_false Bool.false_or Bool.or_true Bool.true_or beq_self_eq_true Nat.reduceBEq vc_scope scpA snapF_undef snapF_int snapF_boolv snapF_nilp snapF_nilf snapF_agg snapF_tup snapF_ref snapF_fn snapF_mpr snapF_sl snapF_ptr snapF_arr snapF_mp snapF_yld snapF_vec snapF_vp vecA flagOf_none snapG_agg snapG_undef snapG_int snapG_boolv snapG_nilp snapG_nilf snapG_tup snapG_ref snapG_fn snapG_mpr snapG_sl snapG_ptr snapG_arr snapG_mp snapG_yld snapG_vec snapG_vp snapA partS AV.strip1 AV.soft picR_one picR_nil picR_two snapF_ints snap_vec snap_vp imm_vec imm_vp all_map picS_sl picS_arr picS_vec all_flat_int callOp frzSt vecIn fzV frzN litB enc_rg cs_rg dec_rg dcs_rg dep_rg sz_rg eta_rg enc_mk cs_mk dec_mk dcs_mk dep_mk sz_mk eta_mk enc_tb dec_tb eta_tb
end Go.Fs
namespace Go.Proofs
open Go.Fs
theorem mixed : Try.prog.follows .mixedOrders = true := by kernel_rfl
theorem sz_0 : szOf Try.prog 0 = some (1) := by kernel_rfl
theorem ag_0 : aggOf Try.prog 0 = some (false) := by kernel_rfl
theorem by_0 : bytesOf? Try.prog 0 = some (0) := by kernel_rfl
theorem bo_0 : boolTy Try.prog 0 = false := by kernel_rfl
theorem sl_0 : slOf Try.prog 0 = none := by kernel_rfl
theorem ar_0 : arrOf Try.prog 0 = none := by kernel_rfl
theorem ae_0 : arrEl Try.prog 0 = none := by kernel_rfl
theorem in_0 : intOf? Try.prog 0 = none := by kernel_rfl
theorem ek_0 : eqKind Try.prog 0 = none := by kernel_rfl
theorem e2_0 : eqKind2 Try.prog 0 = none := by kernel_rfl
theorem ma_0 : mapOf? Try.prog 0 = none := by kernel_rfl
theorem sp_0 : strPlaces Try.prog 0 = none := by kernel_rfl
theorem ze_0 : zeroOf Try.prog 0 = some ([.undef]) := by kernel_rfl
theorem za_0 : zeroA Try.prog 0 = some (.undef) := by kernel_rfl
theorem bn_0 : boolN Try.prog 0 = none := by kernel_rfl
theorem sz_1 : szOf Try.prog 1 = some (1) := by kernel_rfl
theorem ag_1 : aggOf Try.prog 1 = some (false) := by kernel_rfl
theorem by_1 : bytesOf? Try.prog 1 = some (8) := by kernel_rfl
theorem bo_1 : boolTy Try.prog 1 = false := by kernel_rfl
theorem sl_1 : slOf Try.prog 1 = none := by kernel_rfl
theorem ar_1 : arrOf Try.prog 1 = none := by kernel_rfl
theorem ae_1 : arrEl Try.prog 1 = none := by kernel_rfl
theorem in_1 : intOf? Try.prog 1 = none := by kernel_rfl
theorem ek_1 : eqKind Try.prog 1 = none := by kernel_rfl
theorem e2_1 : eqKind2 Try.prog 1 = none := by kernel_rfl
theorem ma_1 : mapOf? Try.prog 1 = none := by kernel_rfl
theorem sp_1 : strPlaces Try.prog 1 = none := by kernel_rfl
theorem ze_1 : zeroOf Try.prog 1 = some ([.nilf]) := by kernel_rfl
theorem za_1 : zeroA Try.prog 1 = some (.nilf) := by kernel_rfl
theorem bn_1 : boolN Try.prog 1 = none := by kernel_rfl
theorem sz_2 : szOf Try.prog 2 = some (1) := by kernel_rfl
theorem ag_2 : aggOf Try.prog 2 = some (false) := by kernel_rfl
theorem by_2 : bytesOf? Try.prog 2 = some (8) := by kernel_rfl
theorem bo_2 : boolTy Try.prog 2 = false := by kernel_rfl
theorem sl_2 : slOf Try.prog 2 = none := by kernel_rfl
theorem ar_2 : arrOf Try.prog 2 = none := by kernel_rfl
theorem ae_2 : arrEl Try.prog 2 = none := by kernel_rfl
theorem in_2 : intOf? Try.prog 2 = some (.i64) := by kernel_rfl
theorem ek_2 : eqKind Try.prog 2 = none := by kernel_rfl
theorem e2_2 : eqKind2 Try.prog 2 = none := by kernel_rfl
theorem ma_2 : mapOf? Try.prog 2 = none := by kernel_rfl
theorem sp_2 : strPlaces Try.prog 2 = none := by kernel_rfl
theorem ze_2 : zeroOf Try.prog 2 = some ([(.int .i64 0)]) := by kernel_rfl
theorem za_2 : zeroA Try.prog 2 = some ((.int .i64 0)) := by kernel_rfl
theorem bn_2 : boolN Try.prog 2 = none := by kernel_rfl
theorem sz_3 : szOf Try.prog 3 = some (1) := by kernel_rfl
theorem ag_3 : aggOf Try.prog 3 = some (false) := by kernel_rfl
theorem by_3 : bytesOf? Try.prog 3 = some (8) := by kernel_rfl
theorem bo_3 : boolTy Try.prog 3 = false := by kernel_rfl
theorem sl_3 : slOf Try.prog 3 = none := by kernel_rfl
theorem ar_3 : arrOf Try.prog 3 = none := by kernel_rfl
theorem ae_3 : arrEl Try.prog 3 = none := by kernel_rfl
theorem in_3 : intOf? Try.prog 3 = some (.i64) := by kernel_rfl
theorem ek_3 : eqKind Try.prog 3 = none := by kernel_rfl
theorem e2_3 : eqKind2 Try.prog 3 = none := by kernel_rfl
theorem ma_3 : mapOf? Try.prog 3 = none := by kernel_rfl
theorem sp_3 : strPlaces Try.prog 3 = none := by kernel_rfl
theorem ze_3 : zeroOf Try.prog 3 = some ([(.int .i64 0)]) := by kernel_rfl
theorem za_3 : zeroA Try.prog 3 = some ((.int .i64 0)) := by kernel_rfl
theorem bn_3 : boolN Try.prog 3 = none := by kernel_rfl
theorem sz_4 : szOf Try.prog 4 = some (1) := by kernel_rfl
theorem ag_4 : aggOf Try.prog 4 = some (false) := by kernel_rfl
theorem by_4 : bytesOf? Try.prog 4 = some (1) := by kernel_rfl
theorem bo_4 : boolTy Try.prog 4 = true := by kernel_rfl
theorem sl_4 : slOf Try.prog 4 = none := by kernel_rfl
theorem ar_4 : arrOf Try.prog 4 = none := by kernel_rfl
theorem ae_4 : arrEl Try.prog 4 = none := by kernel_rfl
theorem in_4 : intOf? Try.prog 4 = none := by kernel_rfl
theorem ek_4 : eqKind Try.prog 4 = none := by kernel_rfl
theorem e2_4 : eqKind2 Try.prog 4 = none := by kernel_rfl
theorem ma_4 : mapOf? Try.prog 4 = none := by kernel_rfl
theorem sp_4 : strPlaces Try.prog 4 = none := by kernel_rfl
theorem ze_4 : zeroOf Try.prog 4 = some ([(.bool false)]) := by kernel_rfl
theorem za_4 : zeroA Try.prog 4 = some ((.bool false)) := by kernel_rfl
theorem bn_4 : boolN Try.prog 4 = none := by kernel_rfl
theorem sz_5 : szOf Try.prog 5 = some (1) := by kernel_rfl
theorem ag_5 : aggOf Try.prog 5 = some (false) := by kernel_rfl
theorem by_5 : bytesOf? Try.prog 5 = some (1) := by kernel_rfl
theorem bo_5 : boolTy Try.prog 5 = false := by kernel_rfl
theorem sl_5 : slOf Try.prog 5 = none := by kernel_rfl
theorem ar_5 : arrOf Try.prog 5 = none := by kernel_rfl
theorem ae_5 : arrEl Try.prog 5 = none := by kernel_rfl
theorem in_5 : intOf? Try.prog 5 = some (.u8) := by kernel_rfl
theorem ek_5 : eqKind Try.prog 5 = none := by kernel_rfl
theorem e2_5 : eqKind2 Try.prog 5 = none := by kernel_rfl
theorem ma_5 : mapOf? Try.prog 5 = none := by kernel_rfl
theorem sp_5 : strPlaces Try.prog 5 = none := by kernel_rfl
theorem ze_5 : zeroOf Try.prog 5 = some ([(.int .u8 0)]) := by kernel_rfl
theorem za_5 : zeroA Try.prog 5 = some ((.int .u8 0)) := by kernel_rfl
theorem bn_5 : boolN Try.prog 5 = none := by kernel_rfl
theorem sz_22 : szOf Try.prog 22 = some (1) := by kernel_rfl
theorem ag_22 : aggOf Try.prog 22 = some (false) := by kernel_rfl
theorem by_22 : bytesOf? Try.prog 22 = some (24) := by kernel_rfl
theorem bo_22 : boolTy Try.prog 22 = false := by kernel_rfl
theorem sl_22 : slOf Try.prog 22 = some ((31, 2)) := by kernel_rfl
theorem ar_22 : arrOf Try.prog 22 = none := by kernel_rfl
theorem ae_22 : arrEl Try.prog 22 = none := by kernel_rfl
theorem in_22 : intOf? Try.prog 22 = none := by kernel_rfl
theorem ek_22 : eqKind Try.prog 22 = none := by kernel_rfl
theorem e2_22 : eqKind2 Try.prog 22 = none := by kernel_rfl
theorem ma_22 : mapOf? Try.prog 22 = none := by kernel_rfl
theorem sp_22 : strPlaces Try.prog 22 = none := by kernel_rfl
theorem ze_22 : zeroOf Try.prog 22 = some ([(.sl [] .full)]) := by kernel_rfl
theorem za_22 : zeroA Try.prog 22 = some ((.sl [] .full)) := by kernel_rfl
theorem bn_22 : boolN Try.prog 22 = none := by kernel_rfl
theorem sz_23 : szOf Try.prog 23 = some (1) := by kernel_rfl
theorem ag_23 : aggOf Try.prog 23 = some (false) := by kernel_rfl
theorem by_23 : bytesOf? Try.prog 23 = some (24) := by kernel_rfl
theorem bo_23 : boolTy Try.prog 23 = false := by kernel_rfl
theorem sl_23 : slOf Try.prog 23 = some ((3, 1)) := by kernel_rfl
theorem ar_23 : arrOf Try.prog 23 = none := by kernel_rfl
theorem ae_23 : arrEl Try.prog 23 = none := by kernel_rfl
theorem in_23 : intOf? Try.prog 23 = none := by kernel_rfl
theorem ek_23 : eqKind Try.prog 23 = none := by kernel_rfl
theorem e2_23 : eqKind2 Try.prog 23 = none := by kernel_rfl
theorem ma_23 : mapOf? Try.prog 23 = none := by kernel_rfl
theorem sp_23 : strPlaces Try.prog 23 = none := by kernel_rfl
theorem ze_23 : zeroOf Try.prog 23 = some ([(.sl [] .full)]) := by kernel_rfl
theorem za_23 : zeroA Try.prog 23 = some ((.sl [] .full)) := by kernel_rfl
theorem bn_23 : boolN Try.prog 23 = none := by kernel_rfl
theorem sz_24 : szOf Try.prog 24 = some (1) := by kernel_rfl
theorem ag_24 : aggOf Try.prog 24 = some (false) := by kernel_rfl
theorem by_24 : bytesOf? Try.prog 24 = some (24) := by kernel_rfl
theorem bo_24 : boolTy Try.prog 24 = false := by kernel_rfl
theorem sl_24 : slOf Try.prog 24 = some ((33, 4)) := by kernel_rfl
theorem ar_24 : arrOf Try.prog 24 = none := by kernel_rfl
theorem ae_24 : arrEl Try.prog 24 = none := by kernel_rfl
theorem in_24 : intOf? Try.prog 24 = none := by kernel_rfl
theorem ek_24 : eqKind Try.prog 24 = none := by kernel_rfl
theorem e2_24 : eqKind2 Try.prog 24 = none := by kernel_rfl
theorem ma_24 : mapOf? Try.prog 24 = none := by kernel_rfl
theorem sp_24 : strPlaces Try.prog 24 = none := by kernel_rfl
theorem ze_24 : zeroOf Try.prog 24 = some ([(.sl [] .full)]) := by kernel_rfl
theorem za_24 : zeroA Try.prog 24 = some ((.sl [] .full)) := by kernel_rfl
theorem bn_24 : boolN Try.prog 24 = none := by kernel_rfl
theorem sz_26 : szOf Try.prog 26 = some (5) := by kernel_rfl
theorem ag_26 : aggOf Try.prog 26 = some (true) := by kernel_rfl
theorem by_26 : bytesOf? Try.prog 26 = some (88) := by kernel_rfl
theorem bo_26 : boolTy Try.prog 26 = false := by kernel_rfl
theorem sl_26 : slOf Try.prog 26 = none := by kernel_rfl
theorem ar_26 : arrOf Try.prog 26 = none := by kernel_rfl
theorem ae_26 : arrEl Try.prog 26 = none := by kernel_rfl
theorem in_26 : intOf? Try.prog 26 = none := by kernel_rfl
theorem ek_26 : eqKind Try.prog 26 = none := by kernel_rfl
theorem e2_26 : eqKind2 Try.prog 26 = none := by kernel_rfl
theorem ma_26 : mapOf? Try.prog 26 = none := by kernel_rfl
theorem sp_26 : strPlaces Try.prog 26 = some ([(0, 1), (1, 1), (2, 1), (3, 1), (4, 1)]) := by kernel_rfl
theorem ze_26 : zeroOf Try.prog 26 = some ([(.int .i64 0), (.sl [] .full), (.int .i64 0), (.sl [] .full), (.sl [] .full)]) := by kernel_rfl
theorem za_26 : zeroA Try.prog 26 = some ((.agg [(.int .i64 0), (.sl [] .full), (.int .i64 0), (.sl [] .full), (.sl [] .full)])) := by kernel_rfl
theorem bn_26 : boolN Try.prog 26 = none := by kernel_rfl
theorem fl_26_0 : fldOf Try.prog 26 0 = some ((0, 3)) := by kernel_rfl
theorem of_26_0 : offOf Try.prog 26 0 = some (0) := by kernel_rfl
theorem fl_26_1 : fldOf Try.prog 26 1 = some ((1, 22)) := by kernel_rfl
theorem of_26_1 : offOf Try.prog 26 1 = some (1) := by kernel_rfl
theorem fl_26_2 : fldOf Try.prog 26 2 = some ((2, 3)) := by kernel_rfl
theorem of_26_2 : offOf Try.prog 26 2 = some (2) := by kernel_rfl
theorem fl_26_3 : fldOf Try.prog 26 3 = some ((3, 23)) := by kernel_rfl
theorem of_26_3 : offOf Try.prog 26 3 = some (3) := by kernel_rfl
theorem fl_26_4 : fldOf Try.prog 26 4 = some ((4, 24)) := by kernel_rfl
theorem of_26_4 : offOf Try.prog 26 4 = some (4) := by kernel_rfl
theorem sz_31 : szOf Try.prog 31 = some (2) := by kernel_rfl
theorem ag_31 : aggOf Try.prog 31 = some (true) := by kernel_rfl
theorem by_31 : bytesOf? Try.prog 31 = some (16) := by kernel_rfl
theorem bo_31 : boolTy Try.prog 31 = false := by kernel_rfl
theorem sl_31 : slOf Try.prog 31 = none := by kernel_rfl
theorem ar_31 : arrOf Try.prog 31 = none := by kernel_rfl
theorem ae_31 : arrEl Try.prog 31 = none := by kernel_rfl
theorem in_31 : intOf? Try.prog 31 = none := by kernel_rfl
theorem ek_31 : eqKind Try.prog 31 = some (2) := by kernel_rfl
theorem e2_31 : eqKind2 Try.prog 31 = some (2) := by kernel_rfl
theorem ma_31 : mapOf? Try.prog 31 = none := by kernel_rfl
theorem sp_31 : strPlaces Try.prog 31 = some ([(0, 1), (1, 1)]) := by kernel_rfl
theorem ze_31 : zeroOf Try.prog 31 = some ([(.int .i64 0), (.int .i64 0)]) := by kernel_rfl
theorem za_31 : zeroA Try.prog 31 = some ((.agg [(.int .i64 0), (.int .i64 0)])) := by kernel_rfl
theorem bn_31 : boolN Try.prog 31 = none := by kernel_rfl
theorem fl_31_0 : fldOf Try.prog 31 0 = some ((0, 3)) := by kernel_rfl
theorem of_31_0 : offOf Try.prog 31 0 = some (0) := by kernel_rfl
theorem fl_31_1 : fldOf Try.prog 31 1 = some ((1, 3)) := by kernel_rfl
theorem of_31_1 : offOf Try.prog 31 1 = some (1) := by kernel_rfl
theorem sz_33 : szOf Try.prog 33 = some (4) := by kernel_rfl
theorem ag_33 : aggOf Try.prog 33 = some (true) := by kernel_rfl
theorem by_33 : bytesOf? Try.prog 33 = some (32) := by kernel_rfl
theorem bo_33 : boolTy Try.prog 33 = false := by kernel_rfl
theorem sl_33 : slOf Try.prog 33 = none := by kernel_rfl
theorem ar_33 : arrOf Try.prog 33 = none := by kernel_rfl
theorem ae_33 : arrEl Try.prog 33 = none := by kernel_rfl
theorem in_33 : intOf? Try.prog 33 = none := by kernel_rfl
theorem ek_33 : eqKind Try.prog 33 = none := by kernel_rfl
theorem e2_33 : eqKind2 Try.prog 33 = some (4) := by kernel_rfl
theorem ma_33 : mapOf? Try.prog 33 = none := by kernel_rfl
theorem sp_33 : strPlaces Try.prog 33 = some ([(0, 1), (1, 1), (2, 2)]) := by kernel_rfl
theorem ze_33 : zeroOf Try.prog 33 = some ([(.int .i64 0), (.int .i64 0), (.int .i64 0), (.int .i64 0)]) := by kernel_rfl
theorem za_33 : zeroA Try.prog 33 = some ((.agg [(.int .i64 0), (.int .i64 0), (.int .i64 0), (.int .i64 0)])) := by kernel_rfl
theorem bn_33 : boolN Try.prog 33 = none := by kernel_rfl
theorem fl_33_0 : fldOf Try.prog 33 0 = some ((0, 3)) := by kernel_rfl
theorem of_33_0 : offOf Try.prog 33 0 = some (0) := by kernel_rfl
theorem fl_33_1 : fldOf Try.prog 33 1 = some ((1, 3)) := by kernel_rfl
theorem of_33_1 : offOf Try.prog 33 1 = some (1) := by kernel_rfl
theorem fl_33_2 : fldOf Try.prog 33 2 = some ((2, 31)) := by kernel_rfl
theorem of_33_2 : offOf Try.prog 33 2 = some (2) := by kernel_rfl
theorem sz_34 : szOf Try.prog 34 = some (1) := by kernel_rfl
theorem ag_34 : aggOf Try.prog 34 = some (false) := by kernel_rfl
theorem by_34 : bytesOf? Try.prog 34 = some (8) := by kernel_rfl
theorem bo_34 : boolTy Try.prog 34 = false := by kernel_rfl
theorem sl_34 : slOf Try.prog 34 = none := by kernel_rfl
theorem ar_34 : arrOf Try.prog 34 = none := by kernel_rfl
theorem ae_34 : arrEl Try.prog 34 = none := by kernel_rfl
theorem in_34 : intOf? Try.prog 34 = some (.i64) := by kernel_rfl
theorem ek_34 : eqKind Try.prog 34 = none := by kernel_rfl
theorem e2_34 : eqKind2 Try.prog 34 = none := by kernel_rfl
theorem ma_34 : mapOf? Try.prog 34 = none := by kernel_rfl
theorem sp_34 : strPlaces Try.prog 34 = none := by kernel_rfl
theorem ze_34 : zeroOf Try.prog 34 = some ([(.int .i64 0)]) := by kernel_rfl
theorem za_34 : zeroA Try.prog 34 = some ((.int .i64 0)) := by kernel_rfl
theorem bn_34 : boolN Try.prog 34 = none := by kernel_rfl
theorem sz_37 : szOf Try.prog 37 = some (1) := by kernel_rfl
theorem ag_37 : aggOf Try.prog 37 = some (false) := by kernel_rfl
theorem by_37 : bytesOf? Try.prog 37 = some (24) := by kernel_rfl
theorem bo_37 : boolTy Try.prog 37 = false := by kernel_rfl
theorem sl_37 : slOf Try.prog 37 = some ((49, 2)) := by kernel_rfl
theorem ar_37 : arrOf Try.prog 37 = none := by kernel_rfl
theorem ae_37 : arrEl Try.prog 37 = none := by kernel_rfl
theorem in_37 : intOf? Try.prog 37 = none := by kernel_rfl
theorem ek_37 : eqKind Try.prog 37 = none := by kernel_rfl
theorem e2_37 : eqKind2 Try.prog 37 = none := by kernel_rfl
theorem ma_37 : mapOf? Try.prog 37 = none := by kernel_rfl
theorem sp_37 : strPlaces Try.prog 37 = none := by kernel_rfl
theorem ze_37 : zeroOf Try.prog 37 = some ([(.sl [] .full)]) := by kernel_rfl
theorem za_37 : zeroA Try.prog 37 = some ((.sl [] .full)) := by kernel_rfl
theorem bn_37 : boolN Try.prog 37 = none := by kernel_rfl
theorem sz_38 : szOf Try.prog 38 = some (1) := by kernel_rfl
theorem ag_38 : aggOf Try.prog 38 = some (false) := by kernel_rfl
theorem by_38 : bytesOf? Try.prog 38 = some (24) := by kernel_rfl
theorem bo_38 : boolTy Try.prog 38 = false := by kernel_rfl
theorem sl_38 : slOf Try.prog 38 = some ((72, 4)) := by kernel_rfl
theorem ar_38 : arrOf Try.prog 38 = none := by kernel_rfl
theorem ae_38 : arrEl Try.prog 38 = none := by kernel_rfl
theorem in_38 : intOf? Try.prog 38 = none := by kernel_rfl
theorem ek_38 : eqKind Try.prog 38 = none := by kernel_rfl
theorem e2_38 : eqKind2 Try.prog 38 = none := by kernel_rfl
theorem ma_38 : mapOf? Try.prog 38 = none := by kernel_rfl
theorem sp_38 : strPlaces Try.prog 38 = none := by kernel_rfl
theorem ze_38 : zeroOf Try.prog 38 = some ([(.sl [] .full)]) := by kernel_rfl
theorem za_38 : zeroA Try.prog 38 = some ((.sl [] .full)) := by kernel_rfl
theorem bn_38 : boolN Try.prog 38 = none := by kernel_rfl
theorem sz_40 : szOf Try.prog 40 = some (5) := by kernel_rfl
theorem ag_40 : aggOf Try.prog 40 = some (true) := by kernel_rfl
theorem by_40 : bytesOf? Try.prog 40 = some (88) := by kernel_rfl
theorem bo_40 : boolTy Try.prog 40 = false := by kernel_rfl
theorem sl_40 : slOf Try.prog 40 = none := by kernel_rfl
theorem ar_40 : arrOf Try.prog 40 = none := by kernel_rfl
theorem ae_40 : arrEl Try.prog 40 = none := by kernel_rfl
theorem in_40 : intOf? Try.prog 40 = none := by kernel_rfl
theorem ek_40 : eqKind Try.prog 40 = none := by kernel_rfl
theorem e2_40 : eqKind2 Try.prog 40 = none := by kernel_rfl
theorem ma_40 : mapOf? Try.prog 40 = none := by kernel_rfl
theorem sp_40 : strPlaces Try.prog 40 = some ([(0, 1), (1, 1), (2, 1), (3, 1), (4, 1)]) := by kernel_rfl
theorem ze_40 : zeroOf Try.prog 40 = some ([(.int .i64 0), (.sl [] .full), (.int .i64 0), (.sl [] .full), (.sl [] .full)]) := by kernel_rfl
theorem za_40 : zeroA Try.prog 40 = some ((.agg [(.int .i64 0), (.sl [] .full), (.int .i64 0), (.sl [] .full), (.sl [] .full)])) := by kernel_rfl
theorem bn_40 : boolN Try.prog 40 = none := by kernel_rfl
theorem fl_40_0 : fldOf Try.prog 40 0 = some ((0, 3)) := by kernel_rfl
theorem of_40_0 : offOf Try.prog 40 0 = some (0) := by kernel_rfl
theorem fl_40_1 : fldOf Try.prog 40 1 = some ((1, 37)) := by kernel_rfl
theorem of_40_1 : offOf Try.prog 40 1 = some (1) := by kernel_rfl
theorem fl_40_2 : fldOf Try.prog 40 2 = some ((2, 3)) := by kernel_rfl
theorem of_40_2 : offOf Try.prog 40 2 = some (2) := by kernel_rfl
theorem fl_40_3 : fldOf Try.prog 40 3 = some ((3, 23)) := by kernel_rfl
theorem of_40_3 : offOf Try.prog 40 3 = some (3) := by kernel_rfl
theorem fl_40_4 : fldOf Try.prog 40 4 = some ((4, 38)) := by kernel_rfl
theorem of_40_4 : offOf Try.prog 40 4 = some (4) := by kernel_rfl
theorem sz_48 : szOf Try.prog 48 = some (1) := by kernel_rfl
theorem ag_48 : aggOf Try.prog 48 = some (false) := by kernel_rfl
theorem by_48 : bytesOf? Try.prog 48 = some (2) := by kernel_rfl
theorem bo_48 : boolTy Try.prog 48 = false := by kernel_rfl
theorem sl_48 : slOf Try.prog 48 = none := by kernel_rfl
theorem ar_48 : arrOf Try.prog 48 = none := by kernel_rfl
theorem ae_48 : arrEl Try.prog 48 = none := by kernel_rfl
theorem in_48 : intOf? Try.prog 48 = some (.u16) := by kernel_rfl
theorem ek_48 : eqKind Try.prog 48 = none := by kernel_rfl
theorem e2_48 : eqKind2 Try.prog 48 = none := by kernel_rfl
theorem ma_48 : mapOf? Try.prog 48 = none := by kernel_rfl
theorem sp_48 : strPlaces Try.prog 48 = none := by kernel_rfl
theorem ze_48 : zeroOf Try.prog 48 = some ([(.int .u16 0)]) := by kernel_rfl
theorem za_48 : zeroA Try.prog 48 = some ((.int .u16 0)) := by kernel_rfl
theorem bn_48 : boolN Try.prog 48 = none := by kernel_rfl
theorem sz_49 : szOf Try.prog 49 = some (2) := by kernel_rfl
theorem ag_49 : aggOf Try.prog 49 = some (true) := by kernel_rfl
theorem by_49 : bytesOf? Try.prog 49 = some (16) := by kernel_rfl
theorem bo_49 : boolTy Try.prog 49 = false := by kernel_rfl
theorem sl_49 : slOf Try.prog 49 = none := by kernel_rfl
theorem ar_49 : arrOf Try.prog 49 = none := by kernel_rfl
theorem ae_49 : arrEl Try.prog 49 = none := by kernel_rfl
theorem in_49 : intOf? Try.prog 49 = none := by kernel_rfl
theorem ek_49 : eqKind Try.prog 49 = some (2) := by kernel_rfl
theorem e2_49 : eqKind2 Try.prog 49 = some (2) := by kernel_rfl
theorem ma_49 : mapOf? Try.prog 49 = none := by kernel_rfl
theorem sp_49 : strPlaces Try.prog 49 = some ([(0, 1), (1, 1)]) := by kernel_rfl
theorem ze_49 : zeroOf Try.prog 49 = some ([(.int .i64 0), (.int .i64 0)]) := by kernel_rfl
theorem za_49 : zeroA Try.prog 49 = some ((.agg [(.int .i64 0), (.int .i64 0)])) := by kernel_rfl
theorem bn_49 : boolN Try.prog 49 = none := by kernel_rfl
theorem fl_49_0 : fldOf Try.prog 49 0 = some ((0, 3)) := by kernel_rfl
theorem of_49_0 : offOf Try.prog 49 0 = some (0) := by kernel_rfl
theorem fl_49_1 : fldOf Try.prog 49 1 = some ((1, 3)) := by kernel_rfl
theorem of_49_1 : offOf Try.prog 49 1 = some (1) := by kernel_rfl
theorem sz_51 : szOf Try.prog 51 = some (1) := by kernel_rfl
theorem ag_51 : aggOf Try.prog 51 = some (false) := by kernel_rfl
theorem by_51 : bytesOf? Try.prog 51 = some (24) := by kernel_rfl
theorem bo_51 : boolTy Try.prog 51 = false := by kernel_rfl
theorem sl_51 : slOf Try.prog 51 = some ((23, 1)) := by kernel_rfl
theorem ar_51 : arrOf Try.prog 51 = none := by kernel_rfl
theorem ae_51 : arrEl Try.prog 51 = none := by kernel_rfl
theorem in_51 : intOf? Try.prog 51 = none := by kernel_rfl
theorem ek_51 : eqKind Try.prog 51 = none := by kernel_rfl
theorem e2_51 : eqKind2 Try.prog 51 = none := by kernel_rfl
theorem ma_51 : mapOf? Try.prog 51 = none := by kernel_rfl
theorem sp_51 : strPlaces Try.prog 51 = none := by kernel_rfl
theorem ze_51 : zeroOf Try.prog 51 = some ([(.sl [] .full)]) := by kernel_rfl
theorem za_51 : zeroA Try.prog 51 = some ((.sl [] .full)) := by kernel_rfl
theorem bn_51 : boolN Try.prog 51 = none := by kernel_rfl
theorem sz_58 : szOf Try.prog 58 = some (1) := by kernel_rfl
theorem ag_58 : aggOf Try.prog 58 = some (false) := by kernel_rfl
theorem by_58 : bytesOf? Try.prog 58 = some (24) := by kernel_rfl
theorem bo_58 : boolTy Try.prog 58 = false := by kernel_rfl
theorem sl_58 : slOf Try.prog 58 = some ((48, 1)) := by kernel_rfl
theorem ar_58 : arrOf Try.prog 58 = none := by kernel_rfl
theorem ae_58 : arrEl Try.prog 58 = none := by kernel_rfl
theorem in_58 : intOf? Try.prog 58 = none := by kernel_rfl
theorem ek_58 : eqKind Try.prog 58 = none := by kernel_rfl
theorem e2_58 : eqKind2 Try.prog 58 = none := by kernel_rfl
theorem ma_58 : mapOf? Try.prog 58 = none := by kernel_rfl
theorem sp_58 : strPlaces Try.prog 58 = none := by kernel_rfl
theorem ze_58 : zeroOf Try.prog 58 = some ([(.sl [] .full)]) := by kernel_rfl
theorem za_58 : zeroA Try.prog 58 = some ((.sl [] .full)) := by kernel_rfl
theorem bn_58 : boolN Try.prog 58 = none := by kernel_rfl
theorem sz_68 : szOf Try.prog 68 = some (4) := by kernel_rfl
theorem ag_68 : aggOf Try.prog 68 = some (true) := by kernel_rfl
theorem by_68 : bytesOf? Try.prog 68 = some (32) := by kernel_rfl
theorem bo_68 : boolTy Try.prog 68 = false := by kernel_rfl
theorem sl_68 : slOf Try.prog 68 = none := by kernel_rfl
theorem ar_68 : arrOf Try.prog 68 = some ((4, 1)) := by kernel_rfl
theorem ae_68 : arrEl Try.prog 68 = some (3) := by kernel_rfl
theorem in_68 : intOf? Try.prog 68 = none := by kernel_rfl
theorem ek_68 : eqKind Try.prog 68 = some (4) := by kernel_rfl
theorem e2_68 : eqKind2 Try.prog 68 = some (4) := by kernel_rfl
theorem ma_68 : mapOf? Try.prog 68 = none := by kernel_rfl
theorem sp_68 : strPlaces Try.prog 68 = none := by kernel_rfl
theorem ze_68 : zeroOf Try.prog 68 = some ([(.int .i64 0), (.int .i64 0), (.int .i64 0), (.int .i64 0)]) := by kernel_rfl
theorem za_68 : zeroA Try.prog 68 = some ((.agg [(.int .i64 0), (.int .i64 0), (.int .i64 0), (.int .i64 0)])) := by kernel_rfl
theorem bn_68 : boolN Try.prog 68 = none := by kernel_rfl
theorem sz_72 : szOf Try.prog 72 = some (4) := by kernel_rfl
theorem ag_72 : aggOf Try.prog 72 = some (true) := by kernel_rfl
theorem by_72 : bytesOf? Try.prog 72 = some (32) := by kernel_rfl
theorem bo_72 : boolTy Try.prog 72 = false := by kernel_rfl
theorem sl_72 : slOf Try.prog 72 = none := by kernel_rfl
theorem ar_72 : arrOf Try.prog 72 = none := by kernel_rfl
theorem ae_72 : arrEl Try.prog 72 = none := by kernel_rfl
theorem in_72 : intOf? Try.prog 72 = none := by kernel_rfl
theorem ek_72 : eqKind Try.prog 72 = none := by kernel_rfl
theorem e2_72 : eqKind2 Try.prog 72 = some (4) := by kernel_rfl
theorem ma_72 : mapOf? Try.prog 72 = none := by kernel_rfl
theorem sp_72 : strPlaces Try.prog 72 = some ([(0, 1), (1, 1), (2, 2)]) := by kernel_rfl
theorem ze_72 : zeroOf Try.prog 72 = some ([(.int .i64 0), (.int .i64 0), (.int .i64 0), (.int .i64 0)]) := by kernel_rfl
theorem za_72 : zeroA Try.prog 72 = some ((.agg [(.int .i64 0), (.int .i64 0), (.int .i64 0), (.int .i64 0)])) := by kernel_rfl
theorem bn_72 : boolN Try.prog 72 = none := by kernel_rfl
theorem fl_72_0 : fldOf Try.prog 72 0 = some ((0, 3)) := by kernel_rfl
theorem of_72_0 : offOf Try.prog 72 0 = some (0) := by kernel_rfl
theorem fl_72_1 : fldOf Try.prog 72 1 = some ((1, 3)) := by kernel_rfl
theorem of_72_1 : offOf Try.prog 72 1 = some (1) := by kernel_rfl
theorem fl_72_2 : fldOf Try.prog 72 2 = some ((2, 49)) := by kernel_rfl
theorem of_72_2 : offOf Try.prog 72 2 = some (2) := by kernel_rfl
theorem sz_75 : szOf Try.prog 75 = some (1) := by kernel_rfl
theorem ag_75 : aggOf Try.prog 75 = some (false) := by kernel_rfl
theorem by_75 : bytesOf? Try.prog 75 = some (8) := by kernel_rfl
theorem bo_75 : boolTy Try.prog 75 = false := by kernel_rfl
theorem sl_75 : slOf Try.prog 75 = none := by kernel_rfl
theorem ar_75 : arrOf Try.prog 75 = none := by kernel_rfl
theorem ae_75 : arrEl Try.prog 75 = none := by kernel_rfl
theorem in_75 : intOf? Try.prog 75 = none := by kernel_rfl
theorem ek_75 : eqKind Try.prog 75 = none := by kernel_rfl
theorem e2_75 : eqKind2 Try.prog 75 = none := by kernel_rfl
theorem ma_75 : mapOf? Try.prog 75 = none := by kernel_rfl
theorem sp_75 : strPlaces Try.prog 75 = none := by kernel_rfl
theorem ze_75 : zeroOf Try.prog 75 = some ([.nilf]) := by kernel_rfl
theorem za_75 : zeroA Try.prog 75 = some (.nilf) := by kernel_rfl
theorem bn_75 : boolN Try.prog 75 = none := by kernel_rfl
theorem sz_78 : szOf Try.prog 78 = some (1) := by kernel_rfl
theorem ag_78 : aggOf Try.prog 78 = some (false) := by kernel_rfl
theorem by_78 : bytesOf? Try.prog 78 = some (8) := by kernel_rfl
theorem bo_78 : boolTy Try.prog 78 = false := by kernel_rfl
theorem sl_78 : slOf Try.prog 78 = none := by kernel_rfl
theorem ar_78 : arrOf Try.prog 78 = none := by kernel_rfl
theorem ae_78 : arrEl Try.prog 78 = none := by kernel_rfl
theorem in_78 : intOf? Try.prog 78 = none := by kernel_rfl
theorem ek_78 : eqKind Try.prog 78 = none := by kernel_rfl
theorem e2_78 : eqKind2 Try.prog 78 = none := by kernel_rfl
theorem ma_78 : mapOf? Try.prog 78 = none := by kernel_rfl
theorem sp_78 : strPlaces Try.prog 78 = none := by kernel_rfl
theorem ze_78 : zeroOf Try.prog 78 = some ([.nilp]) := by kernel_rfl
theorem za_78 : zeroA Try.prog 78 = some (.nilp) := by kernel_rfl
theorem bn_78 : boolN Try.prog 78 = none := by kernel_rfl
theorem sz_83 : szOf Try.prog 83 = some (1) := by kernel_rfl
theorem ag_83 : aggOf Try.prog 83 = some (false) := by kernel_rfl
theorem by_83 : bytesOf? Try.prog 83 = some (8) := by kernel_rfl
theorem bo_83 : boolTy Try.prog 83 = false := by kernel_rfl
theorem sl_83 : slOf Try.prog 83 = none := by kernel_rfl
theorem ar_83 : arrOf Try.prog 83 = none := by kernel_rfl
theorem ae_83 : arrEl Try.prog 83 = none := by kernel_rfl
theorem in_83 : intOf? Try.prog 83 = none := by kernel_rfl
theorem ek_83 : eqKind Try.prog 83 = none := by kernel_rfl
theorem e2_83 : eqKind2 Try.prog 83 = none := by kernel_rfl
theorem ma_83 : mapOf? Try.prog 83 = none := by kernel_rfl
theorem sp_83 : strPlaces Try.prog 83 = none := by kernel_rfl
theorem ze_83 : zeroOf Try.prog 83 = some ([.nilf]) := by kernel_rfl
theorem za_83 : zeroA Try.prog 83 = some (.nilf) := by kernel_rfl
theorem bn_83 : boolN Try.prog 83 = none := by kernel_rfl
theorem sz_86 : szOf Try.prog 86 = some (1) := by kernel_rfl
theorem ag_86 : aggOf Try.prog 86 = some (true) := by kernel_rfl
theorem by_86 : bytesOf? Try.prog 86 = some (8) := by kernel_rfl
theorem bo_86 : boolTy Try.prog 86 = false := by kernel_rfl
theorem sl_86 : slOf Try.prog 86 = none := by kernel_rfl
theorem ar_86 : arrOf Try.prog 86 = none := by kernel_rfl
theorem ae_86 : arrEl Try.prog 86 = none := by kernel_rfl
theorem in_86 : intOf? Try.prog 86 = none := by kernel_rfl
theorem ek_86 : eqKind Try.prog 86 = none := by kernel_rfl
theorem e2_86 : eqKind2 Try.prog 86 = none := by kernel_rfl
theorem ma_86 : mapOf? Try.prog 86 = none := by kernel_rfl
theorem sp_86 : strPlaces Try.prog 86 = some ([(0, 1)]) := by kernel_rfl
theorem ze_86 : zeroOf Try.prog 86 = some ([.nilf]) := by kernel_rfl
theorem za_86 : zeroA Try.prog 86 = some ((.agg [.nilf])) := by kernel_rfl
theorem bn_86 : boolN Try.prog 86 = none := by kernel_rfl
theorem fl_86_0 : fldOf Try.prog 86 0 = some ((0, 83)) := by kernel_rfl
theorem of_86_0 : offOf Try.prog 86 0 = some (0) := by kernel_rfl
theorem sz_92 : szOf Try.prog 92 = some (10) := by kernel_rfl
theorem ag_92 : aggOf Try.prog 92 = some (true) := by kernel_rfl
theorem by_92 : bytesOf? Try.prog 92 = some (80) := by kernel_rfl
theorem bo_92 : boolTy Try.prog 92 = false := by kernel_rfl
theorem sl_92 : slOf Try.prog 92 = none := by kernel_rfl
theorem ar_92 : arrOf Try.prog 92 = some ((10, 1)) := by kernel_rfl
theorem ae_92 : arrEl Try.prog 92 = some (3) := by kernel_rfl
theorem in_92 : intOf? Try.prog 92 = none := by kernel_rfl
theorem ek_92 : eqKind Try.prog 92 = some (10) := by kernel_rfl
theorem e2_92 : eqKind2 Try.prog 92 = some (10) := by kernel_rfl
theorem ma_92 : mapOf? Try.prog 92 = none := by kernel_rfl
theorem sp_92 : strPlaces Try.prog 92 = none := by kernel_rfl
theorem ze_92 : zeroOf Try.prog 92 = some ([(.int .i64 0), (.int .i64 0), (.int .i64 0), (.int .i64 0), (.int .i64 0), (.int .i64 0), (.int .i64 0), (.int .i64 0), (.int .i64 0), (.int .i64 0)]) := by kernel_rfl
theorem za_92 : zeroA Try.prog 92 = some ((.agg [(.int .i64 0), (.int .i64 0), (.int .i64 0), (.int .i64 0), (.int .i64 0), (.int .i64 0), (.int .i64 0), (.int .i64 0), (.int .i64 0), (.int .i64 0)])) := by kernel_rfl
theorem bn_92 : boolN Try.prog 92 = none := by kernel_rfl
theorem sz_99 : szOf Try.prog 99 = some (1) := by kernel_rfl
theorem ag_99 : aggOf Try.prog 99 = some (false) := by kernel_rfl
theorem by_99 : bytesOf? Try.prog 99 = some (8) := by kernel_rfl
theorem bo_99 : boolTy Try.prog 99 = false := by kernel_rfl
theorem sl_99 : slOf Try.prog 99 = none := by kernel_rfl
theorem ar_99 : arrOf Try.prog 99 = none := by kernel_rfl
theorem ae_99 : arrEl Try.prog 99 = none := by kernel_rfl
theorem in_99 : intOf? Try.prog 99 = none := by kernel_rfl
theorem ek_99 : eqKind Try.prog 99 = none := by kernel_rfl
theorem e2_99 : eqKind2 Try.prog 99 = none := by kernel_rfl
theorem ma_99 : mapOf? Try.prog 99 = none := by kernel_rfl
theorem sp_99 : strPlaces Try.prog 99 = none := by kernel_rfl
theorem ze_99 : zeroOf Try.prog 99 = some ([.nilf]) := by kernel_rfl
theorem za_99 : zeroA Try.prog 99 = some (.nilf) := by kernel_rfl
theorem bn_99 : boolN Try.prog 99 = none := by kernel_rfl
theorem sz_100 : szOf Try.prog 100 = some (1) := by kernel_rfl
theorem ag_100 : aggOf Try.prog 100 = some (false) := by kernel_rfl
theorem by_100 : bytesOf? Try.prog 100 = some (8) := by kernel_rfl
theorem bo_100 : boolTy Try.prog 100 = false := by kernel_rfl
theorem sl_100 : slOf Try.prog 100 = none := by kernel_rfl
theorem ar_100 : arrOf Try.prog 100 = none := by kernel_rfl
theorem ae_100 : arrEl Try.prog 100 = none := by kernel_rfl
theorem in_100 : intOf? Try.prog 100 = none := by kernel_rfl
theorem ek_100 : eqKind Try.prog 100 = none := by kernel_rfl
theorem e2_100 : eqKind2 Try.prog 100 = none := by kernel_rfl
theorem ma_100 : mapOf? Try.prog 100 = none := by kernel_rfl
theorem sp_100 : strPlaces Try.prog 100 = none := by kernel_rfl
theorem ze_100 : zeroOf Try.prog 100 = some ([.nilf]) := by kernel_rfl
theorem za_100 : zeroA Try.prog 100 = some (.nilf) := by kernel_rfl
theorem bn_100 : boolN Try.prog 100 = none := by kernel_rfl
theorem sz_102 : szOf Try.prog 102 = some (1) := by kernel_rfl
theorem ag_102 : aggOf Try.prog 102 = some (false) := by kernel_rfl
theorem by_102 : bytesOf? Try.prog 102 = some (8) := by kernel_rfl
theorem bo_102 : boolTy Try.prog 102 = false := by kernel_rfl
theorem sl_102 : slOf Try.prog 102 = none := by kernel_rfl
theorem ar_102 : arrOf Try.prog 102 = none := by kernel_rfl
theorem ae_102 : arrEl Try.prog 102 = none := by kernel_rfl
theorem in_102 : intOf? Try.prog 102 = none := by kernel_rfl
theorem ek_102 : eqKind Try.prog 102 = none := by kernel_rfl
theorem e2_102 : eqKind2 Try.prog 102 = none := by kernel_rfl
theorem ma_102 : mapOf? Try.prog 102 = none := by kernel_rfl
theorem sp_102 : strPlaces Try.prog 102 = none := by kernel_rfl
theorem ze_102 : zeroOf Try.prog 102 = some ([.nilf]) := by kernel_rfl
theorem za_102 : zeroA Try.prog 102 = some (.nilf) := by kernel_rfl
theorem bn_102 : boolN Try.prog 102 = none := by kernel_rfl
theorem sz_110 : szOf Try.prog 110 = some (1) := by kernel_rfl
theorem ag_110 : aggOf Try.prog 110 = some (false) := by kernel_rfl
theorem by_110 : bytesOf? Try.prog 110 = some (8) := by kernel_rfl
theorem bo_110 : boolTy Try.prog 110 = false := by kernel_rfl
theorem sl_110 : slOf Try.prog 110 = none := by kernel_rfl
theorem ar_110 : arrOf Try.prog 110 = none := by kernel_rfl
theorem ae_110 : arrEl Try.prog 110 = none := by kernel_rfl
theorem in_110 : intOf? Try.prog 110 = none := by kernel_rfl
theorem ek_110 : eqKind Try.prog 110 = none := by kernel_rfl
theorem e2_110 : eqKind2 Try.prog 110 = none := by kernel_rfl
theorem ma_110 : mapOf? Try.prog 110 = some ((115, 4)) := by kernel_rfl
theorem sp_110 : strPlaces Try.prog 110 = none := by kernel_rfl
theorem ze_110 : zeroOf Try.prog 110 = some ([.undef]) := by kernel_rfl
theorem za_110 : zeroA Try.prog 110 = some (.undef) := by kernel_rfl
theorem bn_110 : boolN Try.prog 110 = none := by kernel_rfl
theorem sz_111 : szOf Try.prog 111 = some (1) := by kernel_rfl
theorem ag_111 : aggOf Try.prog 111 = some (false) := by kernel_rfl
theorem by_111 : bytesOf? Try.prog 111 = some (24) := by kernel_rfl
theorem bo_111 : boolTy Try.prog 111 = false := by kernel_rfl
theorem sl_111 : slOf Try.prog 111 = some ((92, 10)) := by kernel_rfl
theorem ar_111 : arrOf Try.prog 111 = none := by kernel_rfl
theorem ae_111 : arrEl Try.prog 111 = none := by kernel_rfl
theorem in_111 : intOf? Try.prog 111 = none := by kernel_rfl
theorem ek_111 : eqKind Try.prog 111 = none := by kernel_rfl
theorem e2_111 : eqKind2 Try.prog 111 = none := by kernel_rfl
theorem ma_111 : mapOf? Try.prog 111 = none := by kernel_rfl
theorem sp_111 : strPlaces Try.prog 111 = none := by kernel_rfl
theorem ze_111 : zeroOf Try.prog 111 = some ([(.sl [] .full)]) := by kernel_rfl
theorem za_111 : zeroA Try.prog 111 = some ((.sl [] .full)) := by kernel_rfl
theorem bn_111 : boolN Try.prog 111 = none := by kernel_rfl
theorem sz_113 : szOf Try.prog 113 = some (7) := by kernel_rfl
theorem ag_113 : aggOf Try.prog 113 = some (true) := by kernel_rfl
theorem by_113 : bytesOf? Try.prog 113 = some (120) := by kernel_rfl
theorem bo_113 : boolTy Try.prog 113 = false := by kernel_rfl
theorem sl_113 : slOf Try.prog 113 = none := by kernel_rfl
theorem ar_113 : arrOf Try.prog 113 = none := by kernel_rfl
theorem ae_113 : arrEl Try.prog 113 = none := by kernel_rfl
theorem in_113 : intOf? Try.prog 113 = none := by kernel_rfl
theorem ek_113 : eqKind Try.prog 113 = none := by kernel_rfl
theorem e2_113 : eqKind2 Try.prog 113 = none := by kernel_rfl
theorem ma_113 : mapOf? Try.prog 113 = none := by kernel_rfl
theorem sp_113 : strPlaces Try.prog 113 = some ([(0, 5), (5, 1), (6, 1)]) := by kernel_rfl
theorem ze_113 : zeroOf Try.prog 113 = some ([(.int .i64 0), (.sl [] .full), (.int .i64 0), (.sl [] .full), (.sl [] .full), (.sl [] .full), .undef]) := by kernel_rfl
theorem za_113 : zeroA Try.prog 113 = some ((.agg [(.int .i64 0), (.sl [] .full), (.int .i64 0), (.sl [] .full), (.sl [] .full), (.sl [] .full), .undef])) := by kernel_rfl
theorem bn_113 : boolN Try.prog 113 = none := by kernel_rfl
theorem fl_113_0 : fldOf Try.prog 113 0 = some ((0, 40)) := by kernel_rfl
theorem of_113_0 : offOf Try.prog 113 0 = some (0) := by kernel_rfl
theorem fl_113_1 : fldOf Try.prog 113 1 = some ((5, 111)) := by kernel_rfl
theorem of_113_1 : offOf Try.prog 113 1 = some (5) := by kernel_rfl
theorem fl_113_2 : fldOf Try.prog 113 2 = some ((6, 110)) := by kernel_rfl
theorem of_113_2 : offOf Try.prog 113 2 = some (6) := by kernel_rfl
theorem sz_115 : szOf Try.prog 115 = some (2) := by kernel_rfl
theorem ag_115 : aggOf Try.prog 115 = some (true) := by kernel_rfl
theorem by_115 : bytesOf? Try.prog 115 = some (16) := by kernel_rfl
theorem bo_115 : boolTy Try.prog 115 = false := by kernel_rfl
theorem sl_115 : slOf Try.prog 115 = none := by kernel_rfl
theorem ar_115 : arrOf Try.prog 115 = none := by kernel_rfl
theorem ae_115 : arrEl Try.prog 115 = none := by kernel_rfl
theorem in_115 : intOf? Try.prog 115 = none := by kernel_rfl
theorem ek_115 : eqKind Try.prog 115 = some (2) := by kernel_rfl
theorem e2_115 : eqKind2 Try.prog 115 = some (2) := by kernel_rfl
theorem ma_115 : mapOf? Try.prog 115 = none := by kernel_rfl
theorem sp_115 : strPlaces Try.prog 115 = some ([(0, 1), (1, 1)]) := by kernel_rfl
theorem ze_115 : zeroOf Try.prog 115 = some ([(.int .i64 0), (.int .i64 0)]) := by kernel_rfl
theorem za_115 : zeroA Try.prog 115 = some ((.agg [(.int .i64 0), (.int .i64 0)])) := by kernel_rfl
theorem bn_115 : boolN Try.prog 115 = none := by kernel_rfl
theorem fl_115_0 : fldOf Try.prog 115 0 = some ((0, 3)) := by kernel_rfl
theorem of_115_0 : offOf Try.prog 115 0 = some (0) := by kernel_rfl
theorem fl_115_1 : fldOf Try.prog 115 1 = some ((1, 3)) := by kernel_rfl
theorem of_115_1 : offOf Try.prog 115 1 = some (1) := by kernel_rfl
theorem sz_121 : szOf Try.prog 121 = some (1) := by kernel_rfl
theorem ag_121 : aggOf Try.prog 121 = some (false) := by kernel_rfl
theorem by_121 : bytesOf? Try.prog 121 = some (8) := by kernel_rfl
theorem bo_121 : boolTy Try.prog 121 = false := by kernel_rfl
theorem sl_121 : slOf Try.prog 121 = none := by kernel_rfl
theorem ar_121 : arrOf Try.prog 121 = none := by kernel_rfl
theorem ae_121 : arrEl Try.prog 121 = none := by kernel_rfl
theorem in_121 : intOf? Try.prog 121 = none := by kernel_rfl
theorem ek_121 : eqKind Try.prog 121 = none := by kernel_rfl
theorem e2_121 : eqKind2 Try.prog 121 = none := by kernel_rfl
theorem ma_121 : mapOf? Try.prog 121 = none := by kernel_rfl
theorem sp_121 : strPlaces Try.prog 121 = none := by kernel_rfl
theorem ze_121 : zeroOf Try.prog 121 = some ([.nilf]) := by kernel_rfl
theorem za_121 : zeroA Try.prog 121 = some (.nilf) := by kernel_rfl
theorem bn_121 : boolN Try.prog 121 = none := by kernel_rfl
attribute [go_sem] sz_0 ag_0 by_0 bo_0 sl_0 ar_0 ae_0 in_0 ek_0 e2_0 ma_0 sp_0 ze_0 za_0 bn_0 sz_1 ag_1 by_1 bo_1 sl_1 ar_1 ae_1 in_1 ek_1 e2_1 ma_1 sp_1 ze_1 za_1 bn_1 sz_2 ag_2 by_2 bo_2 sl_2 ar_2 ae_2 in_2 ek_2 e2_2 ma_2 sp_2 ze_2 za_2 bn_2 sz_3 ag_3 by_3 bo_3 sl_3 ar_3 ae_3 in_3 ek_3 e2_3 ma_3 sp_3 ze_3 za_3 bn_3 sz_4 ag_4 by_4 bo_4 sl_4 ar_4 ae_4 in_4 ek_4 e2_4 ma_4 sp_4 ze_4 za_4 bn_4 sz_5 ag_5 by_5 bo_5 sl_5 ar_5 ae_5 in_5 ek_5 e2_5 ma_5 sp_5 ze_5 za_5 bn_5 sz_22 ag_22 by_22 bo_22 sl_22 ar_22 ae_22 in_22 ek_22 e2_22 ma_22 sp_22 ze_22 za_22 bn_22 sz_23 ag_23 by_23 bo_23 sl_23 ar_23 ae_23 in_23 ek_23 e2_23 ma_23 sp_23 ze_23 za_23 bn_23 sz_24 ag_24 by_24 bo_24 sl_24 ar_24 ae_24 in_24 ek_24 e2_24 ma_24 sp_24 ze_24 za_24 bn_24 sz_26 ag_26 by_26 bo_26 sl_26 ar_26 ae_26 in_26 ek_26 e2_26 ma_26 sp_26 ze_26 za_26 bn_26 fl_26_0 of_26_0 fl_26_1 of_26_1 fl_26_2 of_26_2 fl_26_3 of_26_3 fl_26_4 of_26_4 sz_31 ag_31 by_31 bo_31 sl_31 ar_31 ae_31 in_31 ek_31 e2_31 ma_31 sp_31 ze_31 za_31 bn_31 fl_31_0 of_31_0 fl_31_1 of_31_1 sz_33 ag_33 by_33 bo_33 sl_33 ar_33 ae_33 in_33 ek_33 e2_33 ma_33 sp_33 ze_33 za_33 bn_33 fl_33_0 of_33_0 fl_33_1 of_33_1 fl_33_2 of_33_2 sz_34 ag_34 by_34 bo_34 sl_34 ar_34 ae_34 in_34 ek_34 e2_34 ma_34 sp_34 ze_34 za_34 bn_34 sz_37 ag_37 by_37 bo_37 sl_37 ar_37 ae_37 in_37 ek_37 e2_37 ma_37 sp_37 ze_37 za_37 bn_37 sz_38 ag_38 by_38 bo_38 sl_38 ar_38 ae_38 in_38 ek_38 e2_38 ma_38 sp_38 ze_38 za_38 bn_38 sz_40 ag_40 by_40 bo_40 sl_40 ar_40 ae_40 in_40 ek_40 e2_40 ma_40 sp_40 ze_40 za_40 bn_40 fl_40_0 of_40_0 fl_40_1 of_40_1 fl_40_2 of_40_2 fl_40_3 of_40_3 fl_40_4 of_40_4 sz_48 ag_48 by_48 bo_48 sl_48 ar_48 ae_48 in_48 ek_48 e2_48 ma_48 sp_48 ze_48 za_48 bn_48 sz_49 ag_49 by_49 bo_49 sl_49 ar_49 ae_49 in_49 ek_49 e2_49 ma_49 sp_49 ze_49 za_49 bn_49 fl_49_0 of_49_0 fl_49_1 of_49_1 sz_51 ag_51 by_51 bo_51 sl_51 ar_51 ae_51 in_51 ek_51 e2_51 ma_51 sp_51 ze_51 za_51 bn_51 sz_58 ag_58 by_58 bo_58 sl_58 ar_58 ae_58 in_58 ek_58 e2_58 ma_58 sp_58 ze_58 za_58 bn_58 sz_68 ag_68 by_68 bo_68 sl_68 ar_68 ae_68 in_68 ek_68 e2_68 ma_68 sp_68 ze_68 za_68 bn_68 sz_72 ag_72 by_72 bo_72 sl_72 ar_72 ae_72 in_72 ek_72 e2_72 ma_72 sp_72 ze_72 za_72 bn_72 fl_72_0 of_72_0 fl_72_1 of_72_1 fl_72_2 of_72_2 sz_75 ag_75 by_75 bo_75 sl_75 ar_75 ae_75 in_75 ek_75 e2_75 ma_75 sp_75 ze_75 za_75 bn_75 sz_78 ag_78 by_78 bo_78 sl_78 ar_78 ae_78 in_78 ek_78 e2_78 ma_78 sp_78 ze_78 za_78 bn_78 sz_83 ag_83 by_83 bo_83 sl_83 ar_83 ae_83 in_83 ek_83 e2_83 ma_83 sp_83 ze_83 za_83 bn_83 sz_86 ag_86 by_86 bo_86 sl_86 ar_86 ae_86 in_86 ek_86 e2_86 ma_86 sp_86 ze_86 za_86 bn_86 fl_86_0 of_86_0 sz_92 ag_92 by_92 bo_92 sl_92 ar_92 ae_92 in_92 ek_92 e2_92 ma_92 sp_92 ze_92 za_92 bn_92 sz_99 ag_99 by_99 bo_99 sl_99 ar_99 ae_99 in_99 ek_99 e2_99 ma_99 sp_99 ze_99 za_99 bn_99 sz_100 ag_100 by_100 bo_100 sl_100 ar_100 ae_100 in_100 ek_100 e2_100 ma_100 sp_100 ze_100 za_100 bn_100 sz_102 ag_102 by_102 bo_102 sl_102 ar_102 ae_102 in_102 ek_102 e2_102 ma_102 sp_102 ze_102 za_102 bn_102 sz_110 ag_110 by_110 bo_110 sl_110 ar_110 ae_110 in_110 ek_110 e2_110 ma_110 sp_110 ze_110 za_110 bn_110 sz_111 ag_111 by_111 bo_111 sl_111 ar_111 ae_111 in_111 ek_111 e2_111 ma_111 sp_111 ze_111 za_111 bn_111 sz_113 ag_113 by_113 bo_113 sl_113 ar_113 ae_113 in_113 ek_113 e2_113 ma_113 sp_113 ze_113 za_113 bn_113 fl_113_0 of_113_0 fl_113_1 of_113_1 fl_113_2 of_113_2 sz_115 ag_115 by_115 bo_115 sl_115 ar_115 ae_115 in_115 ek_115 e2_115 ma_115 sp_115 ze_115 za_115 bn_115 fl_115_0 of_115_0 fl_115_1 of_115_1 sz_121 ag_121 by_121 bo_121 sl_121 ar_121 ae_121 in_121 ek_121 e2_121 ma_121 sp_121 ze_121 za_121 bn_121
end Go.Proofs
namespace Go.Proofs
open Go.Fs
set_option linter.unusedSimpArgs false
set_option maxHeartbeats 400000
def P0 : Specs := noSpecs
theorem P0_app (g : FuncId) : P0 g = none := rfl
theorem P0_ok : SpecsOk Try.prog P0 := noSpecs_ok _
theorem P0_flag (d : Option Nat) : flagOf P0 d = none := flagOf_noSpecs d
attribute [go_sem] P0_app P0_flag
def inB (n lo hi : Int) : Bool := decide (lo ≤ n) && decide (n ≤ hi)
theorem In_call (n lo hi : Int) : CallP Try.prog 25 [Enc.enc n, Enc.enc lo, Enc.enc hi] (· = Enc.enc (inB n lo hi)) := by
  simp only [enc_fnl, enc_fnb, enc_fnc, enc_refc, enc_arr, enc_int, enc_bool, enc_list, enc_rg, enc_mk, enc_tb]
  refine callP_of_vc (Φ := P0) Try.func25 rfl (by rfl) (by rw [Try.ntmps25]; simp) mixed P0_ok (by simp [AV.strip, AV.strip1, Tk.strip]) ?_
  rw [Try.ntmps25]
  simp only [Try.f25, startSt, tmFrom]
  simp (maxSteps := 4000000) only [go_sem, AV.one, drawV, intsOf, keyIdx, over, putO, memAt, List.map_cons, List.length_cons, ↓reduceIte]
  grind [inB]
theorem Size_call (r : Rg) (h1 : InR .i64 (r.hi - r.lo)) (h2 : InR .i64 (r.hi - r.lo + 1)) : CallP Try.prog 63 [Enc.enc r] (· = Enc.enc (r.hi - r.lo + 1)) := by
  simp only [enc_fnl, enc_fnb, enc_fnc, enc_refc, enc_arr, enc_int, enc_bool, enc_list, enc_rg, enc_mk, enc_tb]
  refine callP_of_vc (Φ := P0) Try.func63 rfl (by rfl) (by rw [Try.ntmps63]; simp) mixed P0_ok (by simp [AV.strip, AV.strip1, Tk.strip]) ?_
  rw [Try.ntmps63]
  simp only [Try.f63, startSt, tmFrom]
  simp (maxSteps := 4000000) only [go_sem, AV.one, drawV, intsOf, keyIdx, over, putO, memAt, List.map_cons, List.length_cons, ↓reduceIte]
  exact ⟨h1, h2⟩
def isHeights (r : Rg) : Bool := decide (0 ≤ r.lo) && decide (r.lo ≤ r.hi) && decide (r.hi ≤ 99)
theorem IsHeights_call (r : Rg) : CallP Try.prog 77 [Enc.enc r] (· = Enc.enc (isHeights r)) := by
  simp only [enc_fnl, enc_fnb, enc_fnc, enc_refc, enc_arr, enc_int, enc_bool, enc_list, enc_rg, enc_mk, enc_tb]
  refine callP_of_vc (Φ := P0) Try.func77 rfl (by rfl) (by rw [Try.ntmps77]; simp) mixed P0_ok (by simp [AV.strip, AV.strip1, Tk.strip]) ?_
  rw [Try.ntmps77]
  simp only [Try.f77, startSt, tmFrom]
  simp (maxSteps := 4000000) only [go_sem, AV.one, drawV, intsOf, keyIdx, over, putO, memAt, List.map_cons, List.length_cons, ↓reduceIte]
  grind [isHeights]
def P1 : Specs := addSpec 25 (spec3 (fun _ _ _ => True) inB) (addSpec 63 (spec1 (fun r : Rg => InR .i64 (r.hi - r.lo) ∧ InR .i64 (r.hi - r.lo + 1)) (fun r => r.hi - r.lo + 1)) (addSpec 77 (spec1 (fun _ => True) isHeights) (P0)))
theorem P1_app (g : FuncId) : P1 g = (addSpec 25 (spec3 (fun _ _ _ => True) inB) (addSpec 63 (spec1 (fun r : Rg => InR .i64 (r.hi - r.lo) ∧ InR .i64 (r.hi - r.lo + 1)) (fun r => r.hi - r.lo + 1)) (addSpec 77 (spec1 (fun _ => True) isHeights) (P0)))) g := rfl
theorem P1_ok : SpecsOk Try.prog P1 := addSpec_ok (spec3_ok fun a b c _ => In_call a b c) (addSpec_ok (spec1_ok fun a h => Size_call a h.1 h.2) (addSpec_ok (spec1_ok fun a _ => IsHeights_call a) (P0_ok)))
attribute [go_sem] P1_app
theorem P1_flag (d : Option Nat) : flagOf P1 d = none := (flagOf_add (by decide) d).trans ((flagOf_add (by decide) d).trans ((flagOf_add (by decide) d).trans (P0_flag d)))
attribute [go_sem] P1_flag
def manyN (l : List Rg) : Int := l.foldl (fun n r => min 3000 (n * (r.hi - r.lo + 1))) 1
theorem manyN_bd (l : List Rg) (h : ∀ r ∈ l, 0 ≤ r.hi - r.lo ∧ r.hi - r.lo ≤ 99) (n : Int) (hn : 0 ≤ n ∧ n ≤ 3000) : 0 ≤ l.foldl (fun n r => min 3000 (n * (r.hi - r.lo + 1))) n ∧ l.foldl (fun n r => min 3000 (n * (r.hi - r.lo + 1))) n ≤ 3000 := by
  induction l generalizing n with
  | nil => exact hn
  | cons r l ih =>
    have hr := h r (by simp)
    have : 0 ≤ n * (r.hi - r.lo + 1) := Int.mul_nonneg hn.1 (by omega)
    refine ih (fun r hr => h r (by simp [hr])) _ ?_
    dsimp only
    omega
theorem manyN_take (l : List Rg) (i : Nat) (hi : i < l.length) : manyN (l.take (i + 1)) = min 3000 (manyN (l.take i) * ((at_ l i).hi - (at_ l i).lo + 1)) := by
  unfold manyN; rw [take_succ_at hi, List.foldl_append]; rfl
theorem at_mem {α : Type} [Inhabited α] {l : List α} {i : Nat} (h : i < l.length) : at_ l i ∈ l := by rw [at_get h]; exact List.getElem_mem h
theorem take_mem {α : Type} {l : List α} {i : Nat} {P : α → Prop} (h : ∀ x ∈ l, P x) : ∀ x ∈ l.take i, P x := fun x hx => h x (List.mem_of_mem_take hx)
theorem Many_call (t : Tb) (h : t.heights.length ≤ 4096 ∧ ∀ r ∈ t.heights, 0 ≤ r.hi - r.lo ∧ r.hi - r.lo ≤ 99) : CallP Try.prog 40 [Enc.enc t] (· = Enc.enc (manyN t.heights)) := by
  simp only [enc_fnl, enc_fnb, enc_fnc, enc_refc, enc_arr, enc_int, enc_bool, enc_list, enc_rg, enc_mk, enc_tb]
  refine callP_of_vc (Φ := P1) Try.func40 rfl (by rfl) (by rw [Try.ntmps40]; simp) mixed P1_ok (by simp [AV.strip, AV.strip1, Tk.strip]) ?_
  rw [Try.ntmps40]
  simp only [Try.f40, startSt, tmFrom]
  simp (maxSteps := 4000000) only [go_sem, AV.one, drawV, intsOf, keyIdx, over, putO, memAt, List.map_cons, List.length_cons, ↓reduceIte]
  refine loopN (t.heights.length) [] [1, 2] (fun i => [(4, .int .i64 i), (3, .int .i64 (manyN (t.heights.take i)))]) (fun _ m => m) (fun _ => True) ?_ ?_ ?_ ?_
  · trivial
  · simp [AV.bare, bel_ints, cs_arr, dep_arr, cs_int, cs_bool, cs_list, cs_rg, cs_mk, AtHead, Same, AllO, Begins, LtAll, headSt, tokz_nil, tokz_cons, tokz1, lk, dep_int, dep_bool, dep_list, dep_rg, dep_mk, memAt, bel_map, bel_mapF, bel_mapO, bel_undef, bel_int, bel_boolv, bel_nilp, bel_nilf, bel_ptr, bel_arr, bel_mp, bel_yld, bel_agg, bel_tup, bel_ref, bel_only, bel_mpr, bel_fn, bel_sl_nil, bel_sl_nilF, bel_sl_nilO, bel_sl_cons, bel_sl_app, belO_cells, belO_tok, belO_dead, belO_deferred, belO_map, belO_iter, belO_loop, bel_vec, bel_vp, belO_vecM, belO_vec, manyN]
  · intro i hi _
    have hr := h.2 _ (at_mem hi)
    have hb := manyN_bd _ (take_mem (i := i) h.2) 1 (by omega)
    have hm : 0 ≤ manyN (t.heights.take i) * ((at_ t.heights i).hi - (at_ t.heights i).lo + 1) ∧ manyN (t.heights.take i) * ((at_ t.heights i).hi - (at_ t.heights i).lo + 1) ≤ 3000 * 100 :=
      ⟨Int.mul_nonneg hb.1 (by omega), Int.mul_le_mul hb.2 (by omega) (by omega) (by omega)⟩
    simp only [go_sem, AV.one, drawV, intsOf, keyIdx, over, putO, memAt, List.map_cons, List.length_cons, ↓reduceIte, getD_mapA hi, Int.ofNat_lt.2 hi]
    refine ⟨by omega, ⟨?_, ?_⟩, ?_, ?_, nxt hi trivial ?_⟩
    · simp only [InR]; omega
    · simp only [InR]; omega
    · simp only [InR]; omega
    · simp only [InR]; omega
    · simp [AV.bare, bel_ints, cs_arr, dep_arr, cs_int, cs_bool, cs_list, cs_rg, cs_mk, AtHead, Same, AllO, Begins, LtAll, headSt, tokz_nil, tokz_cons, tokz1, lk, dep_int, dep_bool, dep_list, dep_rg, dep_mk, memAt, bel_map, bel_mapF, bel_mapO, bel_undef, bel_int, bel_boolv, bel_nilp, bel_nilf, bel_ptr, bel_arr, bel_mp, bel_yld, bel_agg, bel_tup, bel_ref, bel_only, bel_mpr, bel_fn, bel_sl_nil, bel_sl_nilF, bel_sl_nilO, bel_sl_cons, bel_sl_app, belO_cells, belO_tok, belO_dead, belO_deferred, belO_map, belO_iter, belO_loop, bel_vec, bel_vp, belO_vecM, belO_vec, manyN_take _ _ hi]
  · intro _
    simp only [go_sem, AV.one, drawV, intsOf, keyIdx, over, putO, memAt, List.map_cons, List.length_cons, ↓reduceIte, List.take_length]
end Go.Proofs
namespace Go.Proofs
open Go.Fs
set_option linter.unusedSimpArgs false
set_option maxHeartbeats 400000
set_option maxRecDepth 8000
structure HOk (t : Tb) : Prop where
  len : t.heights.length ≤ 10
  h : ∀ r ∈ t.heights, 0 ≤ r.lo ∧ r.lo ≤ r.hi ∧ r.hi ≤ 99
  s0 : 0 ≤ t.step
  s1 : t.step ≤ 99
structure MOk (t : Tb) : Prop where
  len : t.marks.length ≤ 7
  m : ∀ m ∈ t.marks, 0 ≤ m.frm ∧ m.frm ≤ m.til ∧ m.til < t.heights.length
structure LOk (l : List Int) : Prop where
  len : l.length ≤ 4096
  b : ∀ x ∈ l, 0 ≤ x ∧ x ≤ 99
def P2 : Specs := addSpec 40 (spec1 HOk (fun t => manyN t.heights)) (P1)
theorem P2_app (g : FuncId) : P2 g = (addSpec 40 (spec1 HOk (fun t => manyN t.heights)) (P1)) g := rfl
theorem P2_ok : SpecsOk Try.prog P2 := addSpec_ok (spec1_ok fun t h => Many_call t ⟨by have := h.len; omega, fun r hr => by have := h.h r hr; omega⟩) (P1_ok)
attribute [go_sem] P2_app
theorem P2_flag (d : Option Nat) : flagOf P2 d = none := (flagOf_add (by decide) d).trans (P1_flag d)
attribute [go_sem] P2_flag
def maxL : List Int → Int
  | [] => 0
  | x :: r => r.foldl max x
theorem maxL_snoc (l : List Int) (x : Int) (h : l ≠ []) : maxL (l ++ [x]) = max (maxL l) x := by
  cases l with
  | nil => exact absurd rfl h
  | cons y r => simp [maxL, List.foldl_append]
def topL (l : List Int) (a b : Int) : Int := maxL ((l.drop a.toNat).take (b + 1 - a).toNat)
theorem drop_take_snoc {α : Type} [Inhabited α] {l : List α} {a i : Nat} (h : a + i < l.length) : (l.drop a).take (i + 1) = (l.drop a).take i ++ [at_ l (a + i)] := by
  have : i < (l.drop a).length := by simp; omega
  rw [take_succ_at this]
  simp [at_, List.getD]
theorem topL_call (l : List Int) (a b : Int) (h0 : 0 ≤ a) (h : a ≤ b) (hb : b < l.length) (hl : l.length ≤ 4096) : CallP Try.prog 46 [Enc.enc l, Enc.enc a, Enc.enc b] (· = Enc.enc (topL l a b)) := by
  obtain ⟨a, rfl⟩ := Int.eq_ofNat_of_zero_le h0
  obtain ⟨b, rfl⟩ : ∃ k : Nat, b = a + k := ⟨(b - a).toNat, by omega⟩
  simp only [enc_fnl, enc_fnb, enc_fnc, enc_refc, enc_arr, enc_int, enc_bool, enc_list, enc_rg, enc_mk, enc_tb]
  refine callP_of_vc (Φ := P2) Try.func46 rfl (by rfl) (by rw [Try.ntmps46]; simp) mixed P2_ok (by simp [AV.strip, AV.strip1, Tk.strip]) ?_
  rw [Try.ntmps46]
  simp only [Try.f46, startSt, tmFrom]
  simp (maxSteps := 4000000) only [go_sem, AV.one, drawV, intsOf, keyIdx, over, putO, memAt, List.map_cons, List.length_cons, ↓reduceIte, getD_mapA (show a < l.length by omega)]
  refine ⟨by omega, ?_⟩
  refine loopN (b + 1) [] [0, 2, 6] (fun i => [(8, .int .i64 ((a + i : Nat) : Int)), (7, .int .i64 (if i = 0 then at_ l a else maxL ((l.drop a).take i)))]) (fun _ m => m) (fun _ => True) ?_ ?_ ?_ ?_
  · trivial
  · simp [AV.bare, bel_ints, cs_arr, dep_arr, cs_int, cs_bool, cs_list, cs_rg, cs_mk, AtHead, Same, AllO, Begins, LtAll, headSt, tokz_nil, tokz_cons, tokz1, lk, dep_int, dep_bool, dep_list, dep_rg, dep_mk, memAt, bel_map, bel_mapF, bel_mapO, bel_undef, bel_int, bel_boolv, bel_nilp, bel_nilf, bel_ptr, bel_arr, bel_mp, bel_yld, bel_agg, bel_tup, bel_ref, bel_only, bel_mpr, bel_fn, bel_sl_nil, bel_sl_nilF, bel_sl_nilO, bel_sl_cons, bel_sl_app, belO_cells, belO_tok, belO_dead, belO_deferred, belO_map, belO_iter, belO_loop, bel_vec, bel_vp, belO_vecM, belO_vec]
  · intro i hi _
    have hi' : ((a + i : Nat) : Int) ≤ (a : Int) + (b : Int) := by omega
    simp only [go_sem, AV.one, drawV, intsOf, keyIdx, over, putO, memAt, List.map_cons, List.length_cons, ↓reduceIte, getD_mapA (show a + i < l.length by omega), hi']
    refine ⟨by omega, (by simp only [InR]; omega), nxt hi trivial ?_⟩
    have e : max (if i = 0 then at_ l a else maxL ((l.drop a).take i)) (at_ l (a + i)) = maxL ((l.drop a).take (i + 1)) := by
      rw [drop_take_snoc (by omega)]
      by_cases h0 : i = 0
      · subst h0; simp [maxL]
      · rw [if_neg h0, maxL_snoc]
        intro q
        have := congrArg List.length q
        simp at this
        omega
    simp [AV.bare, bel_ints, cs_arr, dep_arr, cs_int, cs_bool, cs_list, cs_rg, cs_mk, AtHead, Same, AllO, Begins, LtAll, headSt, tokz_nil, tokz_cons, tokz1, lk, dep_int, dep_bool, dep_list, dep_rg, dep_mk, memAt, bel_map, bel_mapF, bel_mapO, bel_undef, bel_int, bel_boolv, bel_nilp, bel_nilf, bel_ptr, bel_arr, bel_mp, bel_yld, bel_agg, bel_tup, bel_ref, bel_only, bel_mpr, bel_fn, bel_sl_nil, bel_sl_nilF, bel_sl_nilO, bel_sl_cons, bel_sl_app, belO_cells, belO_tok, belO_dead, belO_deferred, belO_map, belO_iter, belO_loop, bel_vec, bel_vp, belO_vecM, belO_vec, e]
    omega
  · intro _
    have hn : ¬ (((a + (b + 1) : Nat) : Int) ≤ (a : Int) + (b : Int)) := by omega
    simp only [go_sem, AV.one, drawV, intsOf, keyIdx, over, putO, memAt, List.map_cons, List.length_cons, ↓reduceIte, hn]
    simp only [topL, Int.toNat_natCast]
    rw [show ((a : Int) + b + 1 - a).toNat = b + 1 by omega]
def P3 : Specs := addSpec 46 (spec3 (fun (l : List Int) (a b : Int) => 0 ≤ a ∧ a ≤ b ∧ b < l.length ∧ l.length ≤ 4096) topL) (P2)
theorem P3_app (g : FuncId) : P3 g = (addSpec 46 (spec3 (fun (l : List Int) (a b : Int) => 0 ≤ a ∧ a ≤ b ∧ b < l.length ∧ l.length ≤ 4096) topL) (P2)) g := rfl
theorem P3_ok : SpecsOk Try.prog P3 := addSpec_ok (spec3_ok fun l a b h => topL_call l a b h.1 h.2.1 h.2.2.1 h.2.2.2) (P2_ok)
attribute [go_sem] P3_app
theorem P3_flag (d : Option Nat) : flagOf P3 d = none := (flagOf_add (by decide) d).trans (P2_flag d)
attribute [go_sem] P3_flag
def rightM (l : List Int) (m : Mk) : Bool := inB (topL l m.frm m.til) m.top.lo m.top.hi
def nearL (s : Int) : List Int → Bool
  | [] => true
  | [_] => true
  | x :: y :: r => (decide (y - x ≤ s) && decide (x - y ≤ s)) && nearL s (y :: r)
theorem nearL_snoc (s : Int) (l : List Int) (y : Int) (h : l ≠ []) : nearL s (l ++ [y]) = (nearL s l && (decide (y - l.getLast h ≤ s) && decide (l.getLast h - y ≤ s))) := by
  induction l with
  | nil => exact absurd rfl h
  | cons x l ih =>
    cases l with
    | nil => simp only [List.cons_append, List.nil_append, nearL, List.getLast_singleton, Bool.and_true, Bool.true_and]; rfl
    | cons z l =>
      have := ih (by simp)
      simp only [List.cons_append] at this ⊢
      simp only [nearL, this, List.getLast_cons_cons, Bool.and_assoc]
      rfl
theorem nearL_take (s : Int) (l : List Int) (i : Nat) (h : i + 1 < l.length) : nearL s (l.take (i + 1 + 1)) = (nearL s (l.take (i + 1)) && (decide (at_ l (i + 1) - at_ l i ≤ s) && decide (at_ l i - at_ l (i + 1) ≤ s))) := by
  have hn : l.take (i + 1) ≠ [] := by
    intro q
    have := congrArg List.length q
    rw [List.length_take, List.length_nil] at this
    omega
  rw [take_succ_at h, nearL_snoc _ _ _ hn]
  have : (l.take (i + 1)).getLast hn = at_ l i := by
    rw [List.getLast_eq_getElem]
    simp [at_get (show i < l.length by omega), show min (i + 1) l.length - 1 = i by omega]
  rw [this]
theorem nearL_mono (s : Int) (l : List Int) : ∀ i, nearL s l = true → nearL s (l.take i) = true := by
  induction l with
  | nil => intro i _; simp [nearL]
  | cons x l ih =>
    intro i h
    cases i with
    | zero => simp [nearL]
    | succ i =>
      cases l with
      | nil => simp [nearL]
      | cons y l =>
        simp only [nearL, Bool.and_eq_true] at h
        cases i with
        | zero => simp [nearL]
        | succ i =>
          have := ih (i + 1) h.2
          simp only [List.take_succ_cons, nearL, Bool.and_eq_true] at this ⊢
          exact ⟨h.1, this⟩
theorem Near_call (t : Tb) (l : List Int) (h : (0 ≤ t.step ∧ t.step ≤ 99) ∧ l.length ≤ 4096 ∧ ∀ x ∈ l, 0 ≤ x ∧ x ≤ 99) : CallP Try.prog 42 [Enc.enc t, Enc.enc l] (· = Enc.enc (nearL t.step l)) := by
  simp only [enc_fnl, enc_fnb, enc_fnc, enc_refc, enc_arr, enc_int, enc_bool, enc_list, enc_rg, enc_mk, enc_tb]
  refine callP_of_vc (Φ := P3) Try.func42 rfl (by rfl) (by rw [Try.ntmps42]; simp) mixed P3_ok (by simp [AV.strip, AV.strip1, Tk.strip]) ?_
  rw [Try.ntmps42]
  simp only [Try.f42, startSt, tmFrom]
  simp (maxSteps := 4000000) only [go_sem, AV.one, drawV, intsOf, keyIdx, over, putO, memAt, List.map_cons, List.length_cons, ↓reduceIte]
  refine loopN (l.length - 1) [] [1, 2, 4] (fun i => [(5, .int .i64 ((i + 1 : Nat) : Int))]) (fun _ m => m) (fun i => nearL t.step (l.take (i + 1)) = true) ?_ ?_ ?_ ?_
  · cases l with
    | nil => simp [nearL]
    | cons x l => simp [nearL]
  · simp [AV.bare, bel_ints, cs_arr, dep_arr, cs_int, cs_bool, cs_list, cs_rg, cs_mk, AtHead, Same, AllO, Begins, LtAll, headSt, tokz_nil, tokz_cons, tokz1, lk, dep_int, dep_bool, dep_list, dep_rg, dep_mk, memAt, bel_map, bel_mapF, bel_mapO, bel_undef, bel_int, bel_boolv, bel_nilp, bel_nilf, bel_ptr, bel_arr, bel_mp, bel_yld, bel_agg, bel_tup, bel_ref, bel_only, bel_mpr, bel_fn, bel_sl_nil, bel_sl_nilF, bel_sl_nilO, bel_sl_cons, bel_sl_app, belO_cells, belO_tok, belO_dead, belO_deferred, belO_map, belO_iter, belO_loop, bel_vec, bel_vp, belO_vecM, belO_vec]
  · intro i hi hI
    have hi' : ((i + 1 : Nat) : Int) < (l.length : Int) := by omega
    have e1 : ((i + 1 : Nat) : Int) - 1 = (i : Int) := by omega
    have g1 := h.2.2 _ (at_mem (show i < l.length by omega))
    have g2 := h.2.2 _ (at_mem (show i + 1 < l.length by omega))
    have hs := nearL_take t.step l i (by omega)
    cases c1 : decide (t.step < at_ l (i + 1) - at_ l i) <;> cases c2 : decide (t.step < at_ l i - at_ l (i + 1)) <;>
      simp only [go_sem, AV.one, drawV, intsOf, keyIdx, over, putO, memAt, List.map_cons, List.length_cons, ↓reduceIte, getD_mapA (show i + 1 < l.length by omega), getD_mapA (show i < l.length by omega), hi', e1, c1, c2]
    all_goals (repeat' (first | with_reducible rfl | with_reducible apply And.intro | ((with_reducible show drawOK _ _ = true); rfl))) <;> (try first | omega | (simp only [InR]; omega) | with_reducible assumption)
    · refine nxt hi ?_ ?_
      · rw [hs, hI]
        simp only [decide_eq_false_iff_not] at c1 c2
        simp; omega
      · simp [AV.bare, bel_ints, cs_arr, dep_arr, cs_int, cs_bool, cs_list, cs_rg, cs_mk, AtHead, Same, AllO, Begins, LtAll, headSt, tokz_nil, tokz_cons, tokz1, lk, dep_int, dep_bool, dep_list, dep_rg, dep_mk, memAt, bel_map, bel_mapF, bel_mapO, bel_undef, bel_int, bel_boolv, bel_nilp, bel_nilf, bel_ptr, bel_arr, bel_mp, bel_yld, bel_agg, bel_tup, bel_ref, bel_only, bel_mpr, bel_fn, bel_sl_nil, bel_sl_nilF, bel_sl_nilO, bel_sl_cons, bel_sl_app, belO_cells, belO_tok, belO_dead, belO_deferred, belO_map, belO_iter, belO_loop, bel_vec, bel_vp, belO_vecM, belO_vec]
    all_goals
      congr 1
      by_cases q : nearL t.step l = true
      · have := nearL_mono t.step l (i + 1 + 1) q
        rw [hs] at this
        simp at this c1 c2
        omega
      · simpa using q
  · intro hI
    have hn : ¬ ((l.length - 1 + 1 : Nat) : Int) < (l.length : Int) := by omega
    simp only [go_sem, AV.one, drawV, intsOf, keyIdx, over, putO, memAt, List.map_cons, List.length_cons, ↓reduceIte, hn]
    rw [← hI, List.take_of_length_le (by omega)]
def szR (r : Rg) : Int := r.hi - r.lo + 1
def nthL : List Rg → Int → List Int
  | [], _ => []
  | r :: l, n => (r.lo + n % szR r) :: nthL l (n / szR r)
def remL (l : List Rg) (n : Int) : Int := l.foldl (fun n r => n / szR r) n
theorem nthL_snoc (l : List Rg) (r : Rg) (n : Int) : nthL (l ++ [r]) n = nthL l n ++ [r.lo + remL l n % szR r] := by
  induction l generalizing n with
  | nil => rfl
  | cons x l ih => simp only [List.cons_append, nthL, ih]; rfl
theorem remL_snoc (l : List Rg) (r : Rg) (n : Int) : remL (l ++ [r]) n = remL l n / szR r := by simp [remL, List.foldl_append]
theorem nthL_length (l : List Rg) (n : Int) : (nthL l n).length = l.length := by
  induction l generalizing n with
  | nil => rfl
  | cons r l ih => simp [nthL, ih]
theorem remL_bd (l : List Rg) (n : Int) (h : ∀ r ∈ l, 0 ≤ r.hi - r.lo) (hn : 0 ≤ n) : 0 ≤ remL l n ∧ remL l n ≤ n := by
  induction l generalizing n with
  | nil => exact ⟨hn, Int.le_refl _⟩
  | cons r l ih =>
    have hr := h r (by simp)
    have h1 : 0 ≤ n / szR r := Int.ediv_nonneg hn (by unfold szR; omega)
    have h2 : n / szR r ≤ n := Int.ediv_le_self _ hn
    have := ih (n / szR r) (fun r hr => h r (by simp [hr])) h1
    show 0 ≤ remL l (n / szR r) ∧ remL l (n / szR r) ≤ n
    omega
theorem Nth_call (t : Tb) (n : Int) (h : (t.heights.length ≤ 4096 ∧ ∀ r ∈ t.heights, (0 ≤ r.hi - r.lo ∧ r.hi - r.lo ≤ 99) ∧ 0 ≤ r.lo ∧ r.lo ≤ 99) ∧ 0 ≤ n ∧ n ≤ 3000) : CallP Try.prog 41 [Enc.enc t, Enc.enc n] (· = Enc.enc (nthL t.heights n)) := by
  simp only [enc_fnl, enc_fnb, enc_fnc, enc_refc, enc_arr, enc_int, enc_bool, enc_list, enc_rg, enc_mk, enc_tb]
  refine callP_of_vc (Φ := P3) Try.func41 rfl (by rfl) (by rw [Try.ntmps41]; simp) mixed P3_ok (by simp [AV.strip, AV.strip1, Tk.strip]) ?_
  rw [Try.ntmps41]
  simp only [Try.f41, startSt, tmFrom]
  simp (maxSteps := 4000000) only [go_sem, AV.one, drawV, intsOf, keyIdx, over, putO, memAt, List.map_cons, List.length_cons, ↓reduceIte]
  refine loopN (t.heights.length) [.slot 5 1] [2, 4] (fun i => [(6, .int .i64 i), (5, .sl ((nthL (t.heights.take i) n).map EncE.cs) (.own 1)), (1, .int .i64 (remL (t.heights.take i) n))]) (fun i m => m.set 1 (.tok i 1)) (fun _ => True) ?_ ?_ ?_ ?_
  · trivial
  · simp [AV.bare, bel_ints, cs_arr, dep_arr, cs_int, cs_bool, cs_list, cs_rg, cs_mk, AtHead, Same, AllO, Begins, LtAll, headSt, tokz_nil, tokz_cons, tokz1, lk, dep_int, dep_bool, dep_list, dep_rg, dep_mk, memAt, bel_map, bel_mapF, bel_mapO, bel_undef, bel_int, bel_boolv, bel_nilp, bel_nilf, bel_ptr, bel_arr, bel_mp, bel_yld, bel_agg, bel_tup, bel_ref, bel_only, bel_mpr, bel_fn, bel_sl_nil, bel_sl_nilF, bel_sl_nilO, bel_sl_cons, bel_sl_app, belO_cells, belO_tok, belO_dead, belO_deferred, belO_map, belO_iter, belO_loop, bel_vec, bel_vp, belO_vecM, belO_vec, nthL, remL]
  · intro i hi _
    have hi' := Int.ofNat_lt.2 hi
    have hr := h.1.2 _ (at_mem hi)
    have hb := remL_bd _ n (take_mem (i := i) fun r hr => (h.1.2 r hr).1.1) h.2.1
    have hm := Int.emod_lt_of_pos (remL (t.heights.take i) n) (show 0 < (at_ t.heights i).hi - (at_ t.heights i).lo + 1 by omega)
    have hm' := Int.emod_nonneg (remL (t.heights.take i) n) (show (at_ t.heights i).hi - (at_ t.heights i).lo + 1 ≠ 0 by omega)
    have hl : (nthL (t.heights.take i) n).length = i := by rw [nthL_length]; simp; omega
    simp only [go_sem, AV.one, drawV, intsOf, keyIdx, over, putO, memAt, List.map_cons, List.length_cons, ↓reduceIte, getD_mapA hi, hi', hl]
    all_goals (repeat' (first | with_reducible rfl | with_reducible apply And.intro | ((with_reducible show drawOK _ _ = true); rfl))) <;> (try first | omega | (simp only [InR]; omega) | with_reducible assumption)
    refine nxt hi trivial ?_
    simp [AV.bare, bel_ints, cs_arr, dep_arr, cs_int, cs_bool, cs_list, cs_rg, cs_mk, AtHead, Same, AllO, Begins, LtAll, headSt, tokz_nil, tokz_cons, tokz1, lk, dep_int, dep_bool, dep_list, dep_rg, dep_mk, memAt, bel_map, bel_mapF, bel_mapO, bel_undef, bel_int, bel_boolv, bel_nilp, bel_nilf, bel_ptr, bel_arr, bel_mp, bel_yld, bel_agg, bel_tup, bel_ref, bel_only, bel_mpr, bel_fn, bel_sl_nil, bel_sl_nilF, bel_sl_nilO, bel_sl_cons, bel_sl_app, belO_cells, belO_tok, belO_dead, belO_deferred, belO_map, belO_iter, belO_loop, bel_vec, bel_vp, belO_vecM, belO_vec, take_succ_at hi, nthL_snoc, remL_snoc, szR, cs_int, hl]
  · intro _
    simp only [go_sem, AV.one, drawV, intsOf, keyIdx, over, putO, memAt, List.map_cons, List.length_cons, ↓reduceIte, List.take_length]
def P4 : Specs := addSpec 42 (spec2 (fun (t : Tb) (l : List Int) => (0 ≤ t.step ∧ t.step ≤ 99) ∧ LOk l) (fun t l => nearL t.step l)) (addSpec 41 (spec2 (fun (t : Tb) (n : Int) => HOk t ∧ 0 ≤ n ∧ n ≤ 3000) (fun t n => nthL t.heights n)) (P3))
theorem P4_app (g : FuncId) : P4 g = (addSpec 42 (spec2 (fun (t : Tb) (l : List Int) => (0 ≤ t.step ∧ t.step ≤ 99) ∧ LOk l) (fun t l => nearL t.step l)) (addSpec 41 (spec2 (fun (t : Tb) (n : Int) => HOk t ∧ 0 ≤ n ∧ n ≤ 3000) (fun t n => nthL t.heights n)) (P3))) g := rfl
theorem P4_ok : SpecsOk Try.prog P4 := addSpec_ok (spec2_ok fun t l h => Near_call t l ⟨h.1, h.2.len, h.2.b⟩) (addSpec_ok (spec2_ok fun t n h => Nth_call t n ⟨⟨by have := h.1.len; omega, fun r hr => by have := h.1.h r hr; omega⟩, h.2⟩) (P3_ok))
attribute [go_sem] P4_app
theorem P4_flag (d : Option Nat) : flagOf P4 d = none := (flagOf_add (by decide) d).trans ((flagOf_add (by decide) d).trans (P3_flag d))
attribute [go_sem] P4_flag
end Go.Proofs
namespace Go.Proofs
open Go.Fs
set_option linter.unusedSimpArgs false
set_option maxHeartbeats 1000000
set_option maxRecDepth 8000
theorem all_take {α : Type} [Inhabited α] {l : List α} {p : α → Bool} {i : Nat} (h : i < l.length) : (l.take (i + 1)).all p = ((l.take i).all p && p (at_ l i)) := by
  rw [take_succ_at h, List.all_append]; simp
theorem all_at {α : Type} [Inhabited α] {l : List α} {p : α → Bool} {i : Nat} (h : i < l.length) (hp : p (at_ l i) = false) : l.all p = false := by
  rw [List.all_eq_false]; exact ⟨_, at_mem h, by simp [hp]⟩
theorem filter_take {α : Type} [Inhabited α] {l : List α} {p : α → Bool} {i : Nat} (h : i < l.length) : (l.take (i + 1)).filter p = (l.take i).filter p ++ (if p (at_ l i) then [at_ l i] else []) := by
  rw [take_succ_at h, List.filter_append]
  cases c : p (at_ l i) <;> simp [List.filter, c]
theorem nthL_bd (l : List Rg) (n : Int) (h : ∀ r ∈ l, 0 ≤ r.lo ∧ r.lo ≤ r.hi ∧ r.hi ≤ 99) : ∀ x ∈ nthL l n, 0 ≤ x ∧ x ≤ 99 := by
  induction l generalizing n with
  | nil => intro x hx; simp [nthL] at hx
  | cons r l ih =>
    intro x hx
    have hr := h r (by simp)
    have h1 := Int.emod_lt_of_pos n (show 0 < szR r by unfold szR; omega)
    have h2 := Int.emod_nonneg n (show szR r ≠ 0 by unfold szR; omega)
    simp only [nthL, List.mem_cons] at hx
    rcases hx with rfl | hx
    · unfold szR at h1 h2 ⊢; omega
    · exact ih _ (fun r hr => h r (by simp [hr])) x hx
theorem manyN_ok {t : Tb} (h : HOk t) : 0 ≤ manyN t.heights ∧ manyN t.heights ≤ 3000 :=
  manyN_bd _ (fun r hr => by have := h.h r hr; omega) 1 (by omega)
def listsN (t : Tb) (n : Nat) : List (List Int) := ((List.range n).map fun i : Nat => nthL t.heights i).filter (nearL t.step)
def listsL (t : Tb) : List (List Int) := listsN t (manyN t.heights).toNat
theorem listsN_succ (t : Tb) (n : Nat) : listsN t (n + 1) = listsN t n ++ (if nearL t.step (nthL t.heights n) then [nthL t.heights n] else []) := by
  simp only [listsN, List.range_succ, List.map_append, List.filter_append, List.map_cons, List.map_nil]
  cases h : nearL t.step (nthL t.heights n) <;> simp [List.filter, h]
theorem listsN_len (t : Tb) (n : Nat) : (listsN t n).length ≤ n := by
  have := List.length_filter_le (nearL t.step) ((List.range n).map fun i : Nat => nthL t.heights i)
  simpa [listsN] using this
theorem listsL_len {t : Tb} (h : HOk t) : (listsL t).length ≤ 3000 := by
  have := listsN_len t (manyN t.heights).toNat
  have := manyN_ok h
  unfold listsL; omega
theorem listsL_at {t : Tb} (h : HOk t) : ∀ l ∈ listsL t, l.length = t.heights.length ∧ LOk l := fun l hl => by
  simp only [listsL, listsN, List.mem_filter, List.mem_map] at hl
  obtain ⟨⟨n, _, rfl⟩, _⟩ := hl
  have := nthL_length t.heights n
  have := h.len
  exact ⟨nthL_length _ _, by omega, nthL_bd _ _ h.h⟩
theorem Lists_call (t : Tb) (h : HOk t) : CallP Try.prog 15 [Enc.enc t] (· = Enc.enc (listsL t)) := by
  have hm := manyN_ok h
  have hl := h.len
  have hs := h.s0
  have hs' := h.s1
  simp only [enc_fnl, enc_fnb, enc_fnc, enc_refc, enc_arr, enc_int, enc_bool, enc_list, enc_rg, enc_mk, enc_tb]
  refine callP_of_vc (Φ := P4) Try.func15 rfl (by rfl) (by rw [Try.ntmps15]; simp) mixed P4_ok (by simp [AV.strip, AV.strip1, Tk.strip]) ?_
  rw [Try.ntmps15]
  simp only [Try.f15, startSt, tmFrom]
  simp (maxSteps := 4000000) only [go_sem, AV.one, drawV, intsOf, keyIdx, over, putO, memAt, List.map_cons, List.length_cons, ↓reduceIte]
  refine loopN ((manyN t.heights).toNat) [.slot 3 1] [1, 2] (fun i => [(4, .int .i64 i), (3, .sl ((listsN t i).map EncE.cs) (.own 1))]) (fun i m => m.set 1 (.tok (listsN t i).length 1)) (fun _ => True) ?_ ?_ ?_ ?_
  · trivial
  · simp [AV.bare, bel_ints, cs_arr, dep_arr, cs_int, cs_bool, cs_list, cs_rg, cs_mk, AtHead, Same, AllO, Begins, LtAll, headSt, tokz_nil, tokz_cons, tokz1, lk, dep_int, dep_bool, dep_list, dep_rg, dep_mk, memAt, bel_map, bel_mapF, bel_mapO, bel_undef, bel_int, bel_boolv, bel_nilp, bel_nilf, bel_ptr, bel_arr, bel_mp, bel_yld, bel_agg, bel_tup, bel_ref, bel_only, bel_mpr, bel_fn, bel_sl_nil, bel_sl_nilF, bel_sl_nilO, bel_sl_cons, bel_sl_app, belO_cells, belO_tok, belO_dead, belO_deferred, belO_map, belO_iter, belO_loop, bel_vec, bel_vp, belO_vecM, belO_vec, listsN]
  · intro i hi _
    have hi' : (i : Int) < manyN t.heights := by omega
    have hn := nthL_length t.heights i
    have p3 : LOk (nthL t.heights (i : Int)) := ⟨by omega, nthL_bd _ _ h.h⟩
    have hll := listsN_len t i
    cases c : nearL t.step (nthL t.heights i) <;>
      simp (maxSteps := 4000000) only [go_sem, AV.one, drawV, intsOf, keyIdx, over, putO, memAt, List.map_cons, List.length_cons, ↓reduceIte, hi', c]
    all_goals all_goals (repeat' (first | with_reducible rfl | with_reducible apply And.intro | ((with_reducible show drawOK _ _ = true); rfl))) <;> (try first | omega | (simp only [InR]; omega) | with_reducible assumption)
    all_goals
      refine nxt hi trivial ?_
      simp [AV.bare, bel_ints, cs_arr, dep_arr, cs_int, cs_bool, cs_list, cs_rg, cs_mk, AtHead, Same, AllO, Begins, LtAll, headSt, tokz_nil, tokz_cons, tokz1, lk, dep_int, dep_bool, dep_list, dep_rg, dep_mk, memAt, bel_map, bel_mapF, bel_mapO, bel_undef, bel_int, bel_boolv, bel_nilp, bel_nilf, bel_ptr, bel_arr, bel_mp, bel_yld, bel_agg, bel_tup, bel_ref, bel_only, bel_mpr, bel_fn, bel_sl_nil, bel_sl_nilF, bel_sl_nilO, bel_sl_cons, bel_sl_app, belO_cells, belO_tok, belO_dead, belO_deferred, belO_map, belO_iter, belO_loop, bel_vec, bel_vp, belO_vecM, belO_vec, listsN_succ, c]
  · intro _
    have hi' : ¬ (((manyN t.heights).toNat : Nat) : Int) < manyN t.heights := by omega
    simp (maxSteps := 4000000) only [go_sem, AV.one, drawV, intsOf, keyIdx, over, putO, memAt, List.map_cons, List.length_cons, ↓reduceIte, hi']
    all_goals (repeat' (first | with_reducible rfl | with_reducible apply And.intro | ((with_reducible show drawOK _ _ = true); rfl))) <;> (try first | omega | (simp only [InR]; omega) | with_reducible assumption)
    rfl
def P5 : Specs := addSpec 15 (spec1 HOk listsL) (P4)
theorem P5_app (g : FuncId) : P5 g = (addSpec 15 (spec1 HOk listsL) (P4)) g := rfl
theorem P5_ok : SpecsOk Try.prog P5 := addSpec_ok (spec1_ok Lists_call) (P4_ok)
attribute [go_sem] P5_app
theorem P5_flag (d : Option Nat) : flagOf P5 d = none := (flagOf_add (by decide) d).trans (P4_flag d)
attribute [go_sem] P5_flag
theorem fault_all {α : Type} {l : List α} {p : α → Bool} (h : (l.take l.length).all p = true) : l.all p = true := by rwa [List.take_length] at h
def markB (last : Int) (m : Mk) : Bool := inB m.frm 0 last && inB m.til 0 last && decide (m.frm ≤ m.til) && isHeights m.top
def faultT (t : Tb) : Int :=
  if 9 < t.last ∨ 6 < t.levels.length ∨ 5 < t.marks.length then 3
  else if t.last < 0 ∨ (t.heights.length : Int) ≠ t.last + 1 ∨ inB t.step 0 99 = false then 1
  else if t.heights.all isHeights = false then 1
  else if (t.levels.all fun n => inB n 0 99) = false then 1
  else if t.marks.all (markB t.last) = false then 1
  else if 2000 < manyN t.heights then 3
  else if listsL t = [] then 9 else 0
theorem isHeights_iff (r : Rg) : isHeights r = true ↔ 0 ≤ r.lo ∧ r.lo ≤ r.hi ∧ r.hi ≤ 99 := by simp [isHeights, and_assoc]
theorem inB_iff (n lo hi : Int) : inB n lo hi = true ↔ lo ≤ n ∧ n ≤ hi := by simp [inB]
set_option maxHeartbeats 4000000 in
theorem Fault_call (t : Tb) (h : t.heights.length ≤ 4096) : CallP Try.prog 60 [Enc.enc t] (· = Enc.enc (faultT t)) := by
  unfold faultT
  simp only [enc_fnl, enc_fnb, enc_fnc, enc_refc, enc_arr, enc_int, enc_bool, enc_list, enc_rg, enc_mk, enc_tb]
  refine callP_of_vc (Φ := P5) Try.func60 rfl (by rfl) (by rw [Try.ntmps60]; simp) mixed P5_ok (by simp [AV.strip, AV.strip1, Tk.strip]) ?_
  rw [Try.ntmps60]
  simp only [Try.f60, startSt, tmFrom]
  simp (maxSteps := 4000000) only [go_sem, AV.one, drawV, intsOf, keyIdx, over, putO, memAt, List.map_cons, List.length_cons, ↓reduceIte]
  refine ⟨fun q => ?_, fun q => ⟨fun q2 => ?_, fun q2 => ?_, fun q2 => ?_⟩⟩
  · rw [if_pos]
    simp at q
    rcases q with (q | q) | q
    · exact .inl q
    · exact .inr (.inl (by omega))
    · exact .inr (.inr (by omega))
  · simp at q q2
    refine ⟨by simpa using q2, (by simp only [InR]; omega)⟩
  all_goals
    have hno0 : ¬ (9 < t.last ∨ 6 < t.levels.length ∨ 5 < t.marks.length) := by simp at q; omega
    simp at q
    rw [if_neg hno0]
  · simp at q2
    rw [if_pos (by rcases q2 with (q2 | q2) | q2 <;> simp [q2])]
  simp at q2
  obtain ⟨⟨c1, c2⟩, c3⟩ := q2
  have hst := (inB_iff _ _ _).1 c3
  have hno : ¬ (t.last < 0 ∨ (t.heights.length : Int) ≠ t.last + 1 ∨ inB t.step 0 99 = false) := by
    rintro (q2 | q2 | q2)
    · omega
    · exact q2 c2
    · simp [c3] at q2
  rw [if_neg hno]
  have hh : ∀ i, i < t.heights.length → (i : Int) + 1 ≤ 4096 := fun i hi => by omega
  refine loopN (t.heights.length) [] [1, 2] (fun i => [(3, .int .i64 i)]) (fun _ m => m) (fun i => (t.heights.take i).all isHeights = true) ?_ ?_ ?_ ?_
  · simp
  · simp [AV.bare, bel_ints, cs_arr, dep_arr, cs_int, cs_bool, cs_list, cs_rg, cs_mk, AtHead, Same, AllO, Begins, LtAll, headSt, tokz_nil, tokz_cons, tokz1, lk, dep_int, dep_bool, dep_list, dep_rg, dep_mk, memAt, bel_map, bel_mapF, bel_mapO, bel_undef, bel_int, bel_boolv, bel_nilp, bel_nilf, bel_ptr, bel_arr, bel_mp, bel_yld, bel_agg, bel_tup, bel_ref, bel_only, bel_mpr, bel_fn, bel_sl_nil, bel_sl_nilF, bel_sl_nilO, bel_sl_cons, bel_sl_app, belO_cells, belO_tok, belO_dead, belO_deferred, belO_map, belO_iter, belO_loop, bel_vec, bel_vp, belO_vecM, belO_vec]
  · intro i hi hI
    have hi' := Int.ofNat_lt.2 hi
    cases c : isHeights (at_ t.heights i) <;>
      simp (maxSteps := 4000000) only [go_sem, AV.one, drawV, intsOf, keyIdx, over, putO, memAt, List.map_cons, List.length_cons, ↓reduceIte, hi', getD_mapA hi, c]
    · all_goals (repeat' (first | with_reducible rfl | with_reducible apply And.intro | ((with_reducible show drawOK _ _ = true); rfl))) <;> (try first | omega | (simp only [InR]; omega) | with_reducible assumption)
      rw [if_pos (all_at hi c)]
    · all_goals (repeat' (first | with_reducible rfl | with_reducible apply And.intro | ((with_reducible show drawOK _ _ = true); rfl))) <;> (try first | omega | (simp only [InR]; omega) | with_reducible assumption)
      refine nxt hi (by rw [all_take hi, hI, c]; rfl) ?_
      simp [AV.bare, bel_ints, cs_arr, dep_arr, cs_int, cs_bool, cs_list, cs_rg, cs_mk, AtHead, Same, AllO, Begins, LtAll, headSt, tokz_nil, tokz_cons, tokz1, lk, dep_int, dep_bool, dep_list, dep_rg, dep_mk, memAt, bel_map, bel_mapF, bel_mapO, bel_undef, bel_int, bel_boolv, bel_nilp, bel_nilf, bel_ptr, bel_arr, bel_mp, bel_yld, bel_agg, bel_tup, bel_ref, bel_only, bel_mpr, bel_fn, bel_sl_nil, bel_sl_nilF, bel_sl_nilO, bel_sl_cons, bel_sl_app, belO_cells, belO_tok, belO_dead, belO_deferred, belO_map, belO_iter, belO_loop, bel_vec, bel_vp, belO_vecM, belO_vec]
  intro hI
  have hI := fault_all hI
  rw [if_neg (by simp [hI])]
  simp (maxSteps := 4000000) only [go_sem, AV.one, drawV, intsOf, keyIdx, over, putO, memAt, List.map_cons, List.length_cons, ↓reduceIte]
  refine loopN (t.levels.length) [] [1, 2] (fun i => [(4, .int .i64 i)]) (fun _ m => m) (fun i => (t.levels.take i).all (fun n => inB n 0 99) = true) ?_ ?_ ?_ ?_
  · simp
  · simp [AV.bare, bel_ints, cs_arr, dep_arr, cs_int, cs_bool, cs_list, cs_rg, cs_mk, AtHead, Same, AllO, Begins, LtAll, headSt, tokz_nil, tokz_cons, tokz1, lk, dep_int, dep_bool, dep_list, dep_rg, dep_mk, memAt, bel_map, bel_mapF, bel_mapO, bel_undef, bel_int, bel_boolv, bel_nilp, bel_nilf, bel_ptr, bel_arr, bel_mp, bel_yld, bel_agg, bel_tup, bel_ref, bel_only, bel_mpr, bel_fn, bel_sl_nil, bel_sl_nilF, bel_sl_nilO, bel_sl_cons, bel_sl_app, belO_cells, belO_tok, belO_dead, belO_deferred, belO_map, belO_iter, belO_loop, bel_vec, bel_vp, belO_vecM, belO_vec]
  · intro i hi hI
    have hi' := Int.ofNat_lt.2 hi
    cases c : inB (at_ t.levels i) 0 99 <;>
      simp (maxSteps := 4000000) only [go_sem, AV.one, drawV, intsOf, keyIdx, over, putO, memAt, List.map_cons, List.length_cons, ↓reduceIte, hi', getD_mapA hi, c]
    · all_goals (repeat' (first | with_reducible rfl | with_reducible apply And.intro | ((with_reducible show drawOK _ _ = true); rfl))) <;> (try first | omega | (simp only [InR]; omega) | with_reducible assumption)
      rw [if_pos (all_at hi c)]
    · all_goals (repeat' (first | with_reducible rfl | with_reducible apply And.intro | ((with_reducible show drawOK _ _ = true); rfl))) <;> (try first | omega | (simp only [InR]; omega) | with_reducible assumption)
      refine nxt hi (by rw [all_take hi, hI, c]; rfl) ?_
      simp [AV.bare, bel_ints, cs_arr, dep_arr, cs_int, cs_bool, cs_list, cs_rg, cs_mk, AtHead, Same, AllO, Begins, LtAll, headSt, tokz_nil, tokz_cons, tokz1, lk, dep_int, dep_bool, dep_list, dep_rg, dep_mk, memAt, bel_map, bel_mapF, bel_mapO, bel_undef, bel_int, bel_boolv, bel_nilp, bel_nilf, bel_ptr, bel_arr, bel_mp, bel_yld, bel_agg, bel_tup, bel_ref, bel_only, bel_mpr, bel_fn, bel_sl_nil, bel_sl_nilF, bel_sl_nilO, bel_sl_cons, bel_sl_app, belO_cells, belO_tok, belO_dead, belO_deferred, belO_map, belO_iter, belO_loop, bel_vec, bel_vp, belO_vecM, belO_vec]
  intro hI2
  have hI2 := fault_all hI2
  rw [if_neg (by simp [hI2])]
  simp (maxSteps := 4000000) only [go_sem, AV.one, drawV, intsOf, keyIdx, over, putO, memAt, List.map_cons, List.length_cons, ↓reduceIte]
  refine loopN (t.marks.length) [] [1, 2] (fun i => [(5, .int .i64 i)]) (fun _ m => m) (fun i => (t.marks.take i).all (markB t.last) = true) ?_ ?_ ?_ ?_
  · simp
  · simp [AV.bare, bel_ints, cs_arr, dep_arr, cs_int, cs_bool, cs_list, cs_rg, cs_mk, AtHead, Same, AllO, Begins, LtAll, headSt, tokz_nil, tokz_cons, tokz1, lk, dep_int, dep_bool, dep_list, dep_rg, dep_mk, memAt, bel_map, bel_mapF, bel_mapO, bel_undef, bel_int, bel_boolv, bel_nilp, bel_nilf, bel_ptr, bel_arr, bel_mp, bel_yld, bel_agg, bel_tup, bel_ref, bel_only, bel_mpr, bel_fn, bel_sl_nil, bel_sl_nilF, bel_sl_nilO, bel_sl_cons, bel_sl_app, belO_cells, belO_tok, belO_dead, belO_deferred, belO_map, belO_iter, belO_loop, bel_vec, bel_vp, belO_vecM, belO_vec]
  · intro i hi hI
    have hi' := Int.ofNat_lt.2 hi
    have hm : markB t.last (at_ t.marks i) = (inB (at_ t.marks i).frm 0 t.last && inB (at_ t.marks i).til 0 t.last && decide ((at_ t.marks i).frm ≤ (at_ t.marks i).til) && isHeights (at_ t.marks i).top) := rfl
    simp (maxSteps := 4000000) only [go_sem, AV.one, drawV, intsOf, keyIdx, over, putO, memAt, List.map_cons, List.length_cons, ↓reduceIte, hi', getD_mapA hi]
    refine ⟨by omega, fun q => ?_, fun q => ?_⟩
    · rw [if_pos (all_at hi ?_)]
      rw [hm]
      simp at q
      rcases q with ((q | q) | q) | q <;> (try simp [q]) <;> (intros; omega)
    · simp at q
      refine ⟨(by simp only [InR]; omega), nxt hi ?_ ?_⟩
      · rw [all_take hi, hI, hm]
        simp [q]
      · simp [AV.bare, bel_ints, cs_arr, dep_arr, cs_int, cs_bool, cs_list, cs_rg, cs_mk, AtHead, Same, AllO, Begins, LtAll, headSt, tokz_nil, tokz_cons, tokz1, lk, dep_int, dep_bool, dep_list, dep_rg, dep_mk, memAt, bel_map, bel_mapF, bel_mapO, bel_undef, bel_int, bel_boolv, bel_nilp, bel_nilf, bel_ptr, bel_arr, bel_mp, bel_yld, bel_agg, bel_tup, bel_ref, bel_only, bel_mpr, bel_fn, bel_sl_nil, bel_sl_nilF, bel_sl_nilO, bel_sl_cons, bel_sl_app, belO_cells, belO_tok, belO_dead, belO_deferred, belO_map, belO_iter, belO_loop, bel_vec, bel_vp, belO_vecM, belO_vec]
  intro hI3
  have hI3 := fault_all hI3
  rw [if_neg (by simp [hI3])]
  have hok : HOk t := ⟨by omega, fun r hr => (isHeights_iff r).1 (List.all_eq_true.1 hI r hr), hst.1, hst.2⟩
  have hmy := manyN_ok hok
  simp (maxSteps := 4000000) only [go_sem, AV.one, drawV, intsOf, keyIdx, over, putO, memAt, List.map_cons, List.length_cons, ↓reduceIte]
  refine ⟨hok, fun q => ?_, fun q => ?_⟩
  · simp at q
    rw [if_pos q]
  simp at q
  rw [if_neg (by omega)]
  refine loopN ((manyN t.heights).toNat) [] [1, 2] (fun i => [(7, .int .i64 i)]) (fun _ m => m) (fun i => listsN t i = []) ?_ ?_ ?_ ?_
  · simp [listsN]
  · simp [AV.bare, bel_ints, cs_arr, dep_arr, cs_int, cs_bool, cs_list, cs_rg, cs_mk, AtHead, Same, AllO, Begins, LtAll, headSt, tokz_nil, tokz_cons, tokz1, lk, dep_int, dep_bool, dep_list, dep_rg, dep_mk, memAt, bel_map, bel_mapF, bel_mapO, bel_undef, bel_int, bel_boolv, bel_nilp, bel_nilf, bel_ptr, bel_arr, bel_mp, bel_yld, bel_agg, bel_tup, bel_ref, bel_only, bel_mpr, bel_fn, bel_sl_nil, bel_sl_nilF, bel_sl_nilO, bel_sl_cons, bel_sl_app, belO_cells, belO_tok, belO_dead, belO_deferred, belO_map, belO_iter, belO_loop, bel_vec, bel_vp, belO_vecM, belO_vec]
  · intro i hi hI
    have hi' : (i : Int) < manyN t.heights := by omega
    have hn := nthL_length t.heights i
    have p3 : LOk (nthL t.heights (i : Int)) := ⟨by omega, nthL_bd _ _ hok.h⟩
    cases c : nearL t.step (nthL t.heights i) <;>
      simp (maxSteps := 4000000) only [go_sem, AV.one, drawV, intsOf, keyIdx, over, putO, memAt, List.map_cons, List.length_cons, ↓reduceIte, hi', c]
    · all_goals (repeat' (first | with_reducible rfl | with_reducible apply And.intro | ((with_reducible show drawOK _ _ = true); rfl))) <;> (try first | omega | (simp only [InR]; omega) | with_reducible assumption)
      refine nxt hi (by rw [listsN_succ, hI, c]; rfl) ?_
      simp [AV.bare, bel_ints, cs_arr, dep_arr, cs_int, cs_bool, cs_list, cs_rg, cs_mk, AtHead, Same, AllO, Begins, LtAll, headSt, tokz_nil, tokz_cons, tokz1, lk, dep_int, dep_bool, dep_list, dep_rg, dep_mk, memAt, bel_map, bel_mapF, bel_mapO, bel_undef, bel_int, bel_boolv, bel_nilp, bel_nilf, bel_ptr, bel_arr, bel_mp, bel_yld, bel_agg, bel_tup, bel_ref, bel_only, bel_mpr, bel_fn, bel_sl_nil, bel_sl_nilF, bel_sl_nilO, bel_sl_cons, bel_sl_app, belO_cells, belO_tok, belO_dead, belO_deferred, belO_map, belO_iter, belO_loop, bel_vec, bel_vp, belO_vecM, belO_vec]
    · all_goals (repeat' (first | with_reducible rfl | with_reducible apply And.intro | ((with_reducible show drawOK _ _ = true); rfl))) <;> (try first | omega | (simp only [InR]; omega) | with_reducible assumption)
      rw [if_neg]
      intro q
      have : nthL t.heights (i : Int) ∈ listsL t := by
        simp only [listsL, listsN, List.mem_filter, List.mem_map]
        exact ⟨⟨i, by simp; omega, rfl⟩, c⟩
      rw [q] at this
      cases this
  · intro hI
    have hi' : ¬ (((manyN t.heights).toNat : Nat) : Int) < manyN t.heights := by omega
    simp (maxSteps := 4000000) only [go_sem, AV.one, drawV, intsOf, keyIdx, over, putO, memAt, List.map_cons, List.length_cons, ↓reduceIte, hi']
    all_goals (repeat' (first | with_reducible rfl | with_reducible apply And.intro | ((with_reducible show drawOK _ _ = true); rfl))) <;> (try first | omega | (simp only [InR]; omega) | with_reducible assumption)
    rw [if_pos (show listsL t = [] from hI)]
def P6 : Specs := addSpec 60 (spec1 (fun t : Tb => t.heights.length ≤ 4096) faultT) (P5)
theorem P6_app (g : FuncId) : P6 g = (addSpec 60 (spec1 (fun t : Tb => t.heights.length ≤ 4096) faultT) (P5)) g := rfl
theorem P6_ok : SpecsOk Try.prog P6 := addSpec_ok (spec1_ok Fault_call) (P5_ok)
attribute [go_sem] P6_app
theorem P6_flag (d : Option Nat) : flagOf P6 d = none := (flagOf_add (by decide) d).trans (P5_flag d)
attribute [go_sem] P6_flag
end Go.Proofs
