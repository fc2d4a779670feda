/- The texts D, L, S1, S2, S3, joined. -/
import Derived.Test.YtadjbgghbjacbaaG6
import Derived.Test.YtadjbgghbjacbaaProg
import Derived.KernelRfl
set_option linter.all false
/- The data of layer 2. -/
namespace Go.Fs

structure Rg where
  lo : Int
  hi : Int
instance : Inhabited Rg := ⟨⟨0, 0⟩⟩
structure Mk where
  frm : Int
  til : Int
  top : Rg
instance : Inhabited Mk := ⟨⟨0, 0, default⟩⟩
structure Tb where
  last : Int
  heights : List Rg
  step : Int
  levels : List Int
  marks : List Mk

instance : Enc Rg where
  enc r := .agg [.int .i64 r.lo, .int .i64 r.hi]
  dec
    | .agg [.int .i64 a, .int .i64 b] => some ⟨a, b⟩
    | _ => none
  law v x h := by
    split at h
    · cases h; rfl
    · cases h
  dep := 2
  ok x := by simp [pureN]
instance : EncE Rg where
  cs r := [.int .i64 r.lo, .int .i64 r.hi]
  dcs
    | [.int .i64 a, .int .i64 b] => some ⟨a, b⟩
    | _ => none
  law v x h := by
    split at h
    · cases h; rfl
    · cases h
  inv _ := rfl
  dep := 1
  sz := 2
  len _ := rfl
  ok x := by simp [pureN]
instance : Enc Mk where
  enc m := .agg [.int .i64 m.frm, .int .i64 m.til, .int .i64 m.top.lo, .int .i64 m.top.hi]
  dec
    | .agg [.int .i64 a, .int .i64 b, .int .i64 c, .int .i64 d] => some ⟨a, b, ⟨c, d⟩⟩
    | _ => none
  law v x h := by
    split at h
    · cases h; rfl
    · cases h
  dep := 2
  ok x := by simp [pureN]
instance : EncE Mk where
  cs m := [.int .i64 m.frm, .int .i64 m.til, .int .i64 m.top.lo, .int .i64 m.top.hi]
  dcs
    | [.int .i64 a, .int .i64 b, .int .i64 c, .int .i64 d] => some ⟨a, b, ⟨c, d⟩⟩
    | _ => none
  law v x h := by
    split at h
    · cases h; rfl
    · cases h
  inv _ := rfl
  dep := 1
  sz := 4
  len _ := rfl
  ok x := by simp [pureN]
instance : Enc Tb where
  enc t := .agg [.int .i64 t.last, .sl (t.heights.map EncE.cs) .no, .int .i64 t.step, .sl (t.levels.map EncE.cs) .no, .sl (t.marks.map EncE.cs) .no]
  dec
    | .agg [.int .i64 a, .sl b .no, .int .i64 c, .sl d .no, .sl e .no] =>
      match (decL b : Option (List Rg)), (decL d : Option (List Int)), (decL e : Option (List Mk)) with
      | some b, some d, some e => some ⟨a, b, c, d, e⟩
      | _, _, _ => none
    | _ => none
  law v x h := by
    split at h
    · split at h
      · rename_i h1 h2 h3
        cases h
        rw [decL_law _ _ h1, decL_law _ _ h2, decL_law _ _ h3]
      · cases h
    · cases h
  dep := 3
  ok x := by
    simp only [pureN, List.mem_cons, List.not_mem_nil, or_false, forall_eq_or_imp, forall_eq, true_and, List.mem_map, forall_exists_index, and_imp, forall_apply_eq_imp_iff₂]
    exact ⟨fun a _ => EncE.ok a, fun a _ => EncE.ok a, fun a _ => EncE.ok a⟩

theorem enc_rg (r : Rg) : Enc.enc r = .agg [.int .i64 r.lo, .int .i64 r.hi] := rfl
theorem cs_rg (r : Rg) : EncE.cs r = [.int .i64 r.lo, .int .i64 r.hi] := rfl
theorem dec_rg (a b : Int) : (Enc.dec (.agg [.int .i64 a, .int .i64 b]) : Option Rg) = some ⟨a, b⟩ := rfl
theorem dcs_rg (a b : Int) : (EncE.dcs [.int .i64 a, .int .i64 b] : Option Rg) = some ⟨a, b⟩ := rfl
theorem dep_rg : EncE.dep Rg = 1 := rfl
theorem sz_rg : EncE.sz Rg = 2 := rfl
theorem eta_rg (r : Rg) : (⟨r.lo, r.hi⟩ : Rg) = r := rfl
theorem enc_mk (m : Mk) : Enc.enc m = .agg [.int .i64 m.frm, .int .i64 m.til, .int .i64 m.top.lo, .int .i64 m.top.hi] := rfl
theorem cs_mk (m : Mk) : EncE.cs m = [.int .i64 m.frm, .int .i64 m.til, .int .i64 m.top.lo, .int .i64 m.top.hi] := rfl
theorem dec_mk (a b c d : Int) : (Enc.dec (.agg [.int .i64 a, .int .i64 b, .int .i64 c, .int .i64 d]) : Option Mk) = some ⟨a, b, ⟨c, d⟩⟩ := rfl
theorem dcs_mk (a b c d : Int) : (EncE.dcs [.int .i64 a, .int .i64 b, .int .i64 c, .int .i64 d] : Option Mk) = some ⟨a, b, ⟨c, d⟩⟩ := rfl
theorem dep_mk : EncE.dep Mk = 1 := rfl
theorem sz_mk : EncE.sz Mk = 4 := rfl
theorem eta_mk (r : Mk) : (⟨r.frm, r.til, r.top⟩ : Mk) = r := rfl
theorem enc_tb (t : Tb) : Enc.enc t = .agg [.int .i64 t.last, .sl (t.heights.map EncE.cs) .no, .int .i64 t.step, .sl (t.levels.map EncE.cs) .no, .sl (t.marks.map EncE.cs) .no] := rfl
theorem dec_tb (a c : Int) (b d e : List (List AV)) : (Enc.dec (.agg [.int .i64 a, .sl b .no, .int .i64 c, .sl d .no, .sl e .no]) : Option Tb) =
    match (decL b : Option (List Rg)), (decL d : Option (List Int)), (decL e : Option (List Mk)) with
      | some b, some d, some e => some ⟨a, b, c, d, e⟩
      | _, _, _ => none := rfl
theorem eta_tb (t : Tb) : (⟨t.last, t.heights, t.step, t.levels, t.marks⟩ : Tb) = t := rfl
attribute [go_sem] vc_skip vc_label vc_seq vc_cond vc_block vc_loop vc_exit vc_ret vc_region vc_draw stepA semC sem guardA semV evT lk thenA blkA St.put putT AV.un AV.av keepTk Op.operands andAll pickA binA dstOk retA doneA resV tupA AV.strip Tk.strip ofV ofV1 List.map_nil List.toList_toArray Option.getD_some Option.getD_none List.length_nil Nat.reduceAdd Nat.reduceSub if_true if_false Nat.reduceEqDiff true_and and_true Bool.false_eq_true Nat.reduceLT forall_const Option.map_some reduceCtorEq implies_true loadA partA fldAddrA idxAddrA effA AV.solid AV.cells' AV.cells List.nil_append List.cons_append List.append_nil argsA avsA callV scal List.mem_cons List.not_mem_nil or_false or_true false_or forall_eq_or_imp forall_eq callLen Call.operands Array.toList_append List.length_map sliceA bndA List.getD_cons_zero List.getD_cons_succ List.getD_nil addSpec_app spec0 spec1 spec2 spec3 spec4 spec5 enc_int enc_bool enc_list dec_int dec_bool dec_list cs_int cs_bool cs_list dcs_int dcs_list decL_map decL_nil decL_cons decL_append dep_int dep_bool dep_list sz_int sz_bool sz_list snap_map imm_map len_map headSt Nat.reduceLeDiff minA maxA true_implies Nat.succ_ne_zero List.drop_succ_cons List.drop_zero List.take_succ_cons List.take_zero List.getElem?_cons_zero List.getElem?_cons_succ not_true_eq_false not_false_eq_true enc_rg cs_rg dec_rg dcs_rg dep_rg sz_rg eta_rg enc_mk cs_mk dec_mk dcs_mk dep_mk sz_mk eta_mk enc_tb dec_tb eta_tb tokz_nil tokz_cons tokz1 snap_undef snap_int snap_boolv snap_nilp snap_nilf snap_agg snap_tup snap_ref snap_fn snap_mpr snap_sl_nil snap_sl_cons snap_ptr snap_arr snap_mp imm_undef imm_int imm_boolv imm_nilp imm_nilf imm_agg imm_tup imm_ref imm_fn imm_mpr imm_sl_nil imm_sl_cons imm_ptr imm_arr imm_mp Int.lt_irrefl decide_false decide_true false_implies Nat.lt_irrefl Int.toNat_natCast Nat.reduceMul Nat.zero_add Nat.zero_le Bool.true_eq_false vcDr planOp planEff restr applyE newCount effOp storeOp opTmps List.filterMap_cons List.filterMap_nil List.replicate List.set_cons_zero List.set_cons_succ Bool.not_true Bool.not_false Bool.and_true Bool.and_false Bool.true_and Bool.false_and Nat.add_zero and_self imp_self appA buildA buildSlA fillA repCells chunks Option.map_none List.getElem?_nil mapIn lookupA entryA eqA Bool.not_eq_true List.singleton_append Option.isSome_some Option.isSome_none snap_sl_app imm_sl_app ite_or ite_and Bool.not_eq_true' vcOps_nil vcOps_cons if_prop if_tr if_prop' if_tr' ite_self cast0 cast1 Int.reduceToNat Int.reduceLT Int.reduceLE Int.reduceEq eq_self Int.le_refl Nat.le_refl enc_fnl enc_fnb enc_fnc enc_refc dec_fnl dec_fnb dec_fnc dec_refc enc_arr cs_arr dec_arr dcs_arr decArr_map dep_arr sz_arr take_arr strip_ints snap_ints imm_ints scal_ints one_ints drop_ints optArr_some optArr_none Nat.mul_one callN frA AV.frsh effB newB frOp List.any_cons List.any_nil specF1 Bool.or_false Bool.false_or Bool.or_true Bool.true_or beq_self_eq_true Nat.reduceBEq vc_scope scpA
end Go.Fs
/- Layout of the types of the program, as the abstract semantics asks for it. -/
namespace Go.Proofs
open Go.Fs
theorem mixed : Try.prog.follows .mixedOrders = true := by kernel_rfl
theorem sz_0 : szOf Try.prog 0 = some (1) := by kernel_rfl
theorem ag_0 : aggOf Try.prog 0 = some (false) := by kernel_rfl
theorem by_0 : bytesOf? Try.prog 0 = some (0) := by kernel_rfl
theorem bo_0 : boolTy Try.prog 0 = false := by kernel_rfl
theorem sl_0 : slOf Try.prog 0 = none := by kernel_rfl
theorem ar_0 : arrOf Try.prog 0 = none := by kernel_rfl
theorem ae_0 : arrEl Try.prog 0 = none := by kernel_rfl
theorem in_0 : intOf? Try.prog 0 = none := by kernel_rfl
theorem ek_0 : eqKind Try.prog 0 = none := by kernel_rfl
theorem ma_0 : mapOf? Try.prog 0 = none := by kernel_rfl
theorem sp_0 : strPlaces Try.prog 0 = none := by kernel_rfl
theorem ze_0 : zeroOf Try.prog 0 = some ([.undef]) := by kernel_rfl
theorem za_0 : zeroA Try.prog 0 = some (.undef) := by kernel_rfl
theorem sz_1 : szOf Try.prog 1 = some (1) := by kernel_rfl
theorem ag_1 : aggOf Try.prog 1 = some (false) := by kernel_rfl
theorem by_1 : bytesOf? Try.prog 1 = some (8) := by kernel_rfl
theorem bo_1 : boolTy Try.prog 1 = false := by kernel_rfl
theorem sl_1 : slOf Try.prog 1 = none := by kernel_rfl
theorem ar_1 : arrOf Try.prog 1 = none := by kernel_rfl
theorem ae_1 : arrEl Try.prog 1 = none := by kernel_rfl
theorem in_1 : intOf? Try.prog 1 = none := by kernel_rfl
theorem ek_1 : eqKind Try.prog 1 = none := by kernel_rfl
theorem ma_1 : mapOf? Try.prog 1 = none := by kernel_rfl
theorem sp_1 : strPlaces Try.prog 1 = none := by kernel_rfl
theorem ze_1 : zeroOf Try.prog 1 = some ([.nilf]) := by kernel_rfl
theorem za_1 : zeroA Try.prog 1 = some (.nilf) := by kernel_rfl
theorem sz_2 : szOf Try.prog 2 = some (1) := by kernel_rfl
theorem ag_2 : aggOf Try.prog 2 = some (false) := by kernel_rfl
theorem by_2 : bytesOf? Try.prog 2 = some (8) := by kernel_rfl
theorem bo_2 : boolTy Try.prog 2 = false := by kernel_rfl
theorem sl_2 : slOf Try.prog 2 = none := by kernel_rfl
theorem ar_2 : arrOf Try.prog 2 = none := by kernel_rfl
theorem ae_2 : arrEl Try.prog 2 = none := by kernel_rfl
theorem in_2 : intOf? Try.prog 2 = some (.i64) := by kernel_rfl
theorem ek_2 : eqKind Try.prog 2 = none := by kernel_rfl
theorem ma_2 : mapOf? Try.prog 2 = none := by kernel_rfl
theorem sp_2 : strPlaces Try.prog 2 = none := by kernel_rfl
theorem ze_2 : zeroOf Try.prog 2 = some ([(.int .i64 0)]) := by kernel_rfl
theorem za_2 : zeroA Try.prog 2 = some ((.int .i64 0)) := by kernel_rfl
theorem sz_3 : szOf Try.prog 3 = some (1) := by kernel_rfl
theorem ag_3 : aggOf Try.prog 3 = some (false) := by kernel_rfl
theorem by_3 : bytesOf? Try.prog 3 = some (8) := by kernel_rfl
theorem bo_3 : boolTy Try.prog 3 = false := by kernel_rfl
theorem sl_3 : slOf Try.prog 3 = none := by kernel_rfl
theorem ar_3 : arrOf Try.prog 3 = none := by kernel_rfl
theorem ae_3 : arrEl Try.prog 3 = none := by kernel_rfl
theorem in_3 : intOf? Try.prog 3 = some (.i64) := by kernel_rfl
theorem ek_3 : eqKind Try.prog 3 = none := by kernel_rfl
theorem ma_3 : mapOf? Try.prog 3 = none := by kernel_rfl
theorem sp_3 : strPlaces Try.prog 3 = none := by kernel_rfl
theorem ze_3 : zeroOf Try.prog 3 = some ([(.int .i64 0)]) := by kernel_rfl
theorem za_3 : zeroA Try.prog 3 = some ((.int .i64 0)) := by kernel_rfl
theorem sz_4 : szOf Try.prog 4 = some (1) := by kernel_rfl
theorem ag_4 : aggOf Try.prog 4 = some (false) := by kernel_rfl
theorem by_4 : bytesOf? Try.prog 4 = some (1) := by kernel_rfl
theorem bo_4 : boolTy Try.prog 4 = true := by kernel_rfl
theorem sl_4 : slOf Try.prog 4 = none := by kernel_rfl
theorem ar_4 : arrOf Try.prog 4 = none := by kernel_rfl
theorem ae_4 : arrEl Try.prog 4 = none := by kernel_rfl
theorem in_4 : intOf? Try.prog 4 = none := by kernel_rfl
theorem ek_4 : eqKind Try.prog 4 = none := by kernel_rfl
theorem ma_4 : mapOf? Try.prog 4 = none := by kernel_rfl
theorem sp_4 : strPlaces Try.prog 4 = none := by kernel_rfl
theorem ze_4 : zeroOf Try.prog 4 = some ([(.bool false)]) := by kernel_rfl
theorem za_4 : zeroA Try.prog 4 = some ((.bool false)) := by kernel_rfl
theorem sz_5 : szOf Try.prog 5 = some (1) := by kernel_rfl
theorem ag_5 : aggOf Try.prog 5 = some (false) := by kernel_rfl
theorem by_5 : bytesOf? Try.prog 5 = some (1) := by kernel_rfl
theorem bo_5 : boolTy Try.prog 5 = false := by kernel_rfl
theorem sl_5 : slOf Try.prog 5 = none := by kernel_rfl
theorem ar_5 : arrOf Try.prog 5 = none := by kernel_rfl
theorem ae_5 : arrEl Try.prog 5 = none := by kernel_rfl
theorem in_5 : intOf? Try.prog 5 = some (.u8) := by kernel_rfl
theorem ek_5 : eqKind Try.prog 5 = none := by kernel_rfl
theorem ma_5 : mapOf? Try.prog 5 = none := by kernel_rfl
theorem sp_5 : strPlaces Try.prog 5 = none := by kernel_rfl
theorem ze_5 : zeroOf Try.prog 5 = some ([(.int .u8 0)]) := by kernel_rfl
theorem za_5 : zeroA Try.prog 5 = some ((.int .u8 0)) := by kernel_rfl
theorem sz_22 : szOf Try.prog 22 = some (1) := by kernel_rfl
theorem ag_22 : aggOf Try.prog 22 = some (false) := by kernel_rfl
theorem by_22 : bytesOf? Try.prog 22 = some (24) := by kernel_rfl
theorem bo_22 : boolTy Try.prog 22 = false := by kernel_rfl
theorem sl_22 : slOf Try.prog 22 = some ((47, 2)) := by kernel_rfl
theorem ar_22 : arrOf Try.prog 22 = none := by kernel_rfl
theorem ae_22 : arrEl Try.prog 22 = none := by kernel_rfl
theorem in_22 : intOf? Try.prog 22 = none := by kernel_rfl
theorem ek_22 : eqKind Try.prog 22 = none := by kernel_rfl
theorem ma_22 : mapOf? Try.prog 22 = none := by kernel_rfl
theorem sp_22 : strPlaces Try.prog 22 = none := by kernel_rfl
theorem ze_22 : zeroOf Try.prog 22 = some ([(.sl [] .full)]) := by kernel_rfl
theorem za_22 : zeroA Try.prog 22 = some ((.sl [] .full)) := by kernel_rfl
theorem sz_23 : szOf Try.prog 23 = some (1) := by kernel_rfl
theorem ag_23 : aggOf Try.prog 23 = some (false) := by kernel_rfl
theorem by_23 : bytesOf? Try.prog 23 = some (24) := by kernel_rfl
theorem bo_23 : boolTy Try.prog 23 = false := by kernel_rfl
theorem sl_23 : slOf Try.prog 23 = some ((3, 1)) := by kernel_rfl
theorem ar_23 : arrOf Try.prog 23 = none := by kernel_rfl
theorem ae_23 : arrEl Try.prog 23 = none := by kernel_rfl
theorem in_23 : intOf? Try.prog 23 = none := by kernel_rfl
theorem ek_23 : eqKind Try.prog 23 = none := by kernel_rfl
theorem ma_23 : mapOf? Try.prog 23 = none := by kernel_rfl
theorem sp_23 : strPlaces Try.prog 23 = none := by kernel_rfl
theorem ze_23 : zeroOf Try.prog 23 = some ([(.sl [] .full)]) := by kernel_rfl
theorem za_23 : zeroA Try.prog 23 = some ((.sl [] .full)) := by kernel_rfl
theorem sz_24 : szOf Try.prog 24 = some (1) := by kernel_rfl
theorem ag_24 : aggOf Try.prog 24 = some (false) := by kernel_rfl
theorem by_24 : bytesOf? Try.prog 24 = some (24) := by kernel_rfl
theorem bo_24 : boolTy Try.prog 24 = false := by kernel_rfl
theorem sl_24 : slOf Try.prog 24 = some ((71, 4)) := by kernel_rfl
theorem ar_24 : arrOf Try.prog 24 = none := by kernel_rfl
theorem ae_24 : arrEl Try.prog 24 = none := by kernel_rfl
theorem in_24 : intOf? Try.prog 24 = none := by kernel_rfl
theorem ek_24 : eqKind Try.prog 24 = none := by kernel_rfl
theorem ma_24 : mapOf? Try.prog 24 = none := by kernel_rfl
theorem sp_24 : strPlaces Try.prog 24 = none := by kernel_rfl
theorem ze_24 : zeroOf Try.prog 24 = some ([(.sl [] .full)]) := by kernel_rfl
theorem za_24 : zeroA Try.prog 24 = some ((.sl [] .full)) := by kernel_rfl
theorem sz_26 : szOf Try.prog 26 = some (5) := by kernel_rfl
theorem ag_26 : aggOf Try.prog 26 = some (true) := by kernel_rfl
theorem by_26 : bytesOf? Try.prog 26 = some (88) := by kernel_rfl
theorem bo_26 : boolTy Try.prog 26 = false := by kernel_rfl
theorem sl_26 : slOf Try.prog 26 = none := by kernel_rfl
theorem ar_26 : arrOf Try.prog 26 = none := by kernel_rfl
theorem ae_26 : arrEl Try.prog 26 = none := by kernel_rfl
theorem in_26 : intOf? Try.prog 26 = none := by kernel_rfl
theorem ek_26 : eqKind Try.prog 26 = none := by kernel_rfl
theorem ma_26 : mapOf? Try.prog 26 = none := by kernel_rfl
theorem sp_26 : strPlaces Try.prog 26 = some ([(0, 1), (1, 1), (2, 1), (3, 1), (4, 1)]) := by kernel_rfl
theorem ze_26 : zeroOf Try.prog 26 = some ([(.int .i64 0), (.sl [] .full), (.int .i64 0), (.sl [] .full), (.sl [] .full)]) := by kernel_rfl
theorem za_26 : zeroA Try.prog 26 = some ((.agg [(.int .i64 0), (.sl [] .full), (.int .i64 0), (.sl [] .full), (.sl [] .full)])) := by kernel_rfl
theorem fl_26_0 : fldOf Try.prog 26 0 = some ((0, 3)) := by kernel_rfl
theorem of_26_0 : offOf Try.prog 26 0 = some (0) := by kernel_rfl
theorem fl_26_1 : fldOf Try.prog 26 1 = some ((1, 22)) := by kernel_rfl
theorem of_26_1 : offOf Try.prog 26 1 = some (1) := by kernel_rfl
theorem fl_26_2 : fldOf Try.prog 26 2 = some ((2, 3)) := by kernel_rfl
theorem of_26_2 : offOf Try.prog 26 2 = some (2) := by kernel_rfl
theorem fl_26_3 : fldOf Try.prog 26 3 = some ((3, 23)) := by kernel_rfl
theorem of_26_3 : offOf Try.prog 26 3 = some (3) := by kernel_rfl
theorem fl_26_4 : fldOf Try.prog 26 4 = some ((4, 24)) := by kernel_rfl
theorem of_26_4 : offOf Try.prog 26 4 = some (4) := by kernel_rfl
theorem sz_29 : szOf Try.prog 29 = some (1) := by kernel_rfl
theorem ag_29 : aggOf Try.prog 29 = some (false) := by kernel_rfl
theorem by_29 : bytesOf? Try.prog 29 = some (24) := by kernel_rfl
theorem bo_29 : boolTy Try.prog 29 = false := by kernel_rfl
theorem sl_29 : slOf Try.prog 29 = some ((45, 2)) := by kernel_rfl
theorem ar_29 : arrOf Try.prog 29 = none := by kernel_rfl
theorem ae_29 : arrEl Try.prog 29 = none := by kernel_rfl
theorem in_29 : intOf? Try.prog 29 = none := by kernel_rfl
theorem ek_29 : eqKind Try.prog 29 = none := by kernel_rfl
theorem ma_29 : mapOf? Try.prog 29 = none := by kernel_rfl
theorem sp_29 : strPlaces Try.prog 29 = none := by kernel_rfl
theorem ze_29 : zeroOf Try.prog 29 = some ([(.sl [] .full)]) := by kernel_rfl
theorem za_29 : zeroA Try.prog 29 = some ((.sl [] .full)) := by kernel_rfl
theorem sz_30 : szOf Try.prog 30 = some (1) := by kernel_rfl
theorem ag_30 : aggOf Try.prog 30 = some (false) := by kernel_rfl
theorem by_30 : bytesOf? Try.prog 30 = some (8) := by kernel_rfl
theorem bo_30 : boolTy Try.prog 30 = false := by kernel_rfl
theorem sl_30 : slOf Try.prog 30 = none := by kernel_rfl
theorem ar_30 : arrOf Try.prog 30 = none := by kernel_rfl
theorem ae_30 : arrEl Try.prog 30 = none := by kernel_rfl
theorem in_30 : intOf? Try.prog 30 = some (.i64) := by kernel_rfl
theorem ek_30 : eqKind Try.prog 30 = none := by kernel_rfl
theorem ma_30 : mapOf? Try.prog 30 = none := by kernel_rfl
theorem sp_30 : strPlaces Try.prog 30 = none := by kernel_rfl
theorem ze_30 : zeroOf Try.prog 30 = some ([(.int .i64 0)]) := by kernel_rfl
theorem za_30 : zeroA Try.prog 30 = some ((.int .i64 0)) := by kernel_rfl
theorem sz_33 : szOf Try.prog 33 = some (1) := by kernel_rfl
theorem ag_33 : aggOf Try.prog 33 = some (false) := by kernel_rfl
theorem by_33 : bytesOf? Try.prog 33 = some (24) := by kernel_rfl
theorem bo_33 : boolTy Try.prog 33 = false := by kernel_rfl
theorem sl_33 : slOf Try.prog 33 = some ((98, 4)) := by kernel_rfl
theorem ar_33 : arrOf Try.prog 33 = none := by kernel_rfl
theorem ae_33 : arrEl Try.prog 33 = none := by kernel_rfl
theorem in_33 : intOf? Try.prog 33 = none := by kernel_rfl
theorem ek_33 : eqKind Try.prog 33 = none := by kernel_rfl
theorem ma_33 : mapOf? Try.prog 33 = none := by kernel_rfl
theorem sp_33 : strPlaces Try.prog 33 = none := by kernel_rfl
theorem ze_33 : zeroOf Try.prog 33 = some ([(.sl [] .full)]) := by kernel_rfl
theorem za_33 : zeroA Try.prog 33 = some ((.sl [] .full)) := by kernel_rfl
theorem sz_35 : szOf Try.prog 35 = some (5) := by kernel_rfl
theorem ag_35 : aggOf Try.prog 35 = some (true) := by kernel_rfl
theorem by_35 : bytesOf? Try.prog 35 = some (88) := by kernel_rfl
theorem bo_35 : boolTy Try.prog 35 = false := by kernel_rfl
theorem sl_35 : slOf Try.prog 35 = none := by kernel_rfl
theorem ar_35 : arrOf Try.prog 35 = none := by kernel_rfl
theorem ae_35 : arrEl Try.prog 35 = none := by kernel_rfl
theorem in_35 : intOf? Try.prog 35 = none := by kernel_rfl
theorem ek_35 : eqKind Try.prog 35 = none := by kernel_rfl
theorem ma_35 : mapOf? Try.prog 35 = none := by kernel_rfl
theorem sp_35 : strPlaces Try.prog 35 = some ([(0, 1), (1, 1), (2, 1), (3, 1), (4, 1)]) := by kernel_rfl
theorem ze_35 : zeroOf Try.prog 35 = some ([(.int .i64 0), (.sl [] .full), (.int .i64 0), (.sl [] .full), (.sl [] .full)]) := by kernel_rfl
theorem za_35 : zeroA Try.prog 35 = some ((.agg [(.int .i64 0), (.sl [] .full), (.int .i64 0), (.sl [] .full), (.sl [] .full)])) := by kernel_rfl
theorem fl_35_0 : fldOf Try.prog 35 0 = some ((0, 3)) := by kernel_rfl
theorem of_35_0 : offOf Try.prog 35 0 = some (0) := by kernel_rfl
theorem fl_35_1 : fldOf Try.prog 35 1 = some ((1, 29)) := by kernel_rfl
theorem of_35_1 : offOf Try.prog 35 1 = some (1) := by kernel_rfl
theorem fl_35_2 : fldOf Try.prog 35 2 = some ((2, 3)) := by kernel_rfl
theorem of_35_2 : offOf Try.prog 35 2 = some (2) := by kernel_rfl
theorem fl_35_3 : fldOf Try.prog 35 3 = some ((3, 23)) := by kernel_rfl
theorem of_35_3 : offOf Try.prog 35 3 = some (3) := by kernel_rfl
theorem fl_35_4 : fldOf Try.prog 35 4 = some ((4, 33)) := by kernel_rfl
theorem of_35_4 : offOf Try.prog 35 4 = some (4) := by kernel_rfl
theorem sz_39 : szOf Try.prog 39 = some (1) := by kernel_rfl
theorem ag_39 : aggOf Try.prog 39 = some (false) := by kernel_rfl
theorem by_39 : bytesOf? Try.prog 39 = some (24) := by kernel_rfl
theorem bo_39 : boolTy Try.prog 39 = false := by kernel_rfl
theorem sl_39 : slOf Try.prog 39 = some ((23, 1)) := by kernel_rfl
theorem ar_39 : arrOf Try.prog 39 = none := by kernel_rfl
theorem ae_39 : arrEl Try.prog 39 = none := by kernel_rfl
theorem in_39 : intOf? Try.prog 39 = none := by kernel_rfl
theorem ek_39 : eqKind Try.prog 39 = none := by kernel_rfl
theorem ma_39 : mapOf? Try.prog 39 = none := by kernel_rfl
theorem sp_39 : strPlaces Try.prog 39 = none := by kernel_rfl
theorem ze_39 : zeroOf Try.prog 39 = some ([(.sl [] .full)]) := by kernel_rfl
theorem za_39 : zeroA Try.prog 39 = some ((.sl [] .full)) := by kernel_rfl
theorem sz_45 : szOf Try.prog 45 = some (2) := by kernel_rfl
theorem ag_45 : aggOf Try.prog 45 = some (true) := by kernel_rfl
theorem by_45 : bytesOf? Try.prog 45 = some (16) := by kernel_rfl
theorem bo_45 : boolTy Try.prog 45 = false := by kernel_rfl
theorem sl_45 : slOf Try.prog 45 = none := by kernel_rfl
theorem ar_45 : arrOf Try.prog 45 = none := by kernel_rfl
theorem ae_45 : arrEl Try.prog 45 = none := by kernel_rfl
theorem in_45 : intOf? Try.prog 45 = none := by kernel_rfl
theorem ek_45 : eqKind Try.prog 45 = some (2) := by kernel_rfl
theorem ma_45 : mapOf? Try.prog 45 = none := by kernel_rfl
theorem sp_45 : strPlaces Try.prog 45 = some ([(0, 1), (1, 1)]) := by kernel_rfl
theorem ze_45 : zeroOf Try.prog 45 = some ([(.int .i64 0), (.int .i64 0)]) := by kernel_rfl
theorem za_45 : zeroA Try.prog 45 = some ((.agg [(.int .i64 0), (.int .i64 0)])) := by kernel_rfl
theorem fl_45_0 : fldOf Try.prog 45 0 = some ((0, 3)) := by kernel_rfl
theorem of_45_0 : offOf Try.prog 45 0 = some (0) := by kernel_rfl
theorem fl_45_1 : fldOf Try.prog 45 1 = some ((1, 3)) := by kernel_rfl
theorem of_45_1 : offOf Try.prog 45 1 = some (1) := by kernel_rfl
theorem sz_47 : szOf Try.prog 47 = some (2) := by kernel_rfl
theorem ag_47 : aggOf Try.prog 47 = some (true) := by kernel_rfl
theorem by_47 : bytesOf? Try.prog 47 = some (16) := by kernel_rfl
theorem bo_47 : boolTy Try.prog 47 = false := by kernel_rfl
theorem sl_47 : slOf Try.prog 47 = none := by kernel_rfl
theorem ar_47 : arrOf Try.prog 47 = none := by kernel_rfl
theorem ae_47 : arrEl Try.prog 47 = none := by kernel_rfl
theorem in_47 : intOf? Try.prog 47 = none := by kernel_rfl
theorem ek_47 : eqKind Try.prog 47 = some (2) := by kernel_rfl
theorem ma_47 : mapOf? Try.prog 47 = none := by kernel_rfl
theorem sp_47 : strPlaces Try.prog 47 = some ([(0, 1), (1, 1)]) := by kernel_rfl
theorem ze_47 : zeroOf Try.prog 47 = some ([(.int .i64 0), (.int .i64 0)]) := by kernel_rfl
theorem za_47 : zeroA Try.prog 47 = some ((.agg [(.int .i64 0), (.int .i64 0)])) := by kernel_rfl
theorem fl_47_0 : fldOf Try.prog 47 0 = some ((0, 3)) := by kernel_rfl
theorem of_47_0 : offOf Try.prog 47 0 = some (0) := by kernel_rfl
theorem fl_47_1 : fldOf Try.prog 47 1 = some ((1, 3)) := by kernel_rfl
theorem of_47_1 : offOf Try.prog 47 1 = some (1) := by kernel_rfl
theorem sz_63 : szOf Try.prog 63 = some (4) := by kernel_rfl
theorem ag_63 : aggOf Try.prog 63 = some (true) := by kernel_rfl
theorem by_63 : bytesOf? Try.prog 63 = some (4) := by kernel_rfl
theorem bo_63 : boolTy Try.prog 63 = false := by kernel_rfl
theorem sl_63 : slOf Try.prog 63 = none := by kernel_rfl
theorem ar_63 : arrOf Try.prog 63 = some ((4, 1)) := by kernel_rfl
theorem ae_63 : arrEl Try.prog 63 = some (4) := by kernel_rfl
theorem in_63 : intOf? Try.prog 63 = none := by kernel_rfl
theorem ek_63 : eqKind Try.prog 63 = none := by kernel_rfl
theorem ma_63 : mapOf? Try.prog 63 = none := by kernel_rfl
theorem sp_63 : strPlaces Try.prog 63 = none := by kernel_rfl
theorem ze_63 : zeroOf Try.prog 63 = some ([(.bool false), (.bool false), (.bool false), (.bool false)]) := by kernel_rfl
theorem za_63 : zeroA Try.prog 63 = some ((.agg [(.bool false), (.bool false), (.bool false), (.bool false)])) := by kernel_rfl
theorem sz_64 : szOf Try.prog 64 = some (1) := by kernel_rfl
theorem ag_64 : aggOf Try.prog 64 = some (false) := by kernel_rfl
theorem by_64 : bytesOf? Try.prog 64 = some (8) := by kernel_rfl
theorem bo_64 : boolTy Try.prog 64 = false := by kernel_rfl
theorem sl_64 : slOf Try.prog 64 = none := by kernel_rfl
theorem ar_64 : arrOf Try.prog 64 = none := by kernel_rfl
theorem ae_64 : arrEl Try.prog 64 = none := by kernel_rfl
theorem in_64 : intOf? Try.prog 64 = some (.u64) := by kernel_rfl
theorem ek_64 : eqKind Try.prog 64 = none := by kernel_rfl
theorem ma_64 : mapOf? Try.prog 64 = none := by kernel_rfl
theorem sp_64 : strPlaces Try.prog 64 = none := by kernel_rfl
theorem ze_64 : zeroOf Try.prog 64 = some ([(.int .u64 0)]) := by kernel_rfl
theorem za_64 : zeroA Try.prog 64 = some ((.int .u64 0)) := by kernel_rfl
theorem sz_66 : szOf Try.prog 66 = some (1) := by kernel_rfl
theorem ag_66 : aggOf Try.prog 66 = some (false) := by kernel_rfl
theorem by_66 : bytesOf? Try.prog 66 = some (2) := by kernel_rfl
theorem bo_66 : boolTy Try.prog 66 = false := by kernel_rfl
theorem sl_66 : slOf Try.prog 66 = none := by kernel_rfl
theorem ar_66 : arrOf Try.prog 66 = none := by kernel_rfl
theorem ae_66 : arrEl Try.prog 66 = none := by kernel_rfl
theorem in_66 : intOf? Try.prog 66 = some (.u16) := by kernel_rfl
theorem ek_66 : eqKind Try.prog 66 = none := by kernel_rfl
theorem ma_66 : mapOf? Try.prog 66 = none := by kernel_rfl
theorem sp_66 : strPlaces Try.prog 66 = none := by kernel_rfl
theorem ze_66 : zeroOf Try.prog 66 = some ([(.int .u16 0)]) := by kernel_rfl
theorem za_66 : zeroA Try.prog 66 = some ((.int .u16 0)) := by kernel_rfl
theorem sz_71 : szOf Try.prog 71 = some (4) := by kernel_rfl
theorem ag_71 : aggOf Try.prog 71 = some (true) := by kernel_rfl
theorem by_71 : bytesOf? Try.prog 71 = some (32) := by kernel_rfl
theorem bo_71 : boolTy Try.prog 71 = false := by kernel_rfl
theorem sl_71 : slOf Try.prog 71 = none := by kernel_rfl
theorem ar_71 : arrOf Try.prog 71 = none := by kernel_rfl
theorem ae_71 : arrEl Try.prog 71 = none := by kernel_rfl
theorem in_71 : intOf? Try.prog 71 = none := by kernel_rfl
theorem ek_71 : eqKind Try.prog 71 = none := by kernel_rfl
theorem ma_71 : mapOf? Try.prog 71 = none := by kernel_rfl
theorem sp_71 : strPlaces Try.prog 71 = some ([(0, 1), (1, 1), (2, 2)]) := by kernel_rfl
theorem ze_71 : zeroOf Try.prog 71 = some ([(.int .i64 0), (.int .i64 0), (.int .i64 0), (.int .i64 0)]) := by kernel_rfl
theorem za_71 : zeroA Try.prog 71 = some ((.agg [(.int .i64 0), (.int .i64 0), (.int .i64 0), (.int .i64 0)])) := by kernel_rfl
theorem fl_71_0 : fldOf Try.prog 71 0 = some ((0, 3)) := by kernel_rfl
theorem of_71_0 : offOf Try.prog 71 0 = some (0) := by kernel_rfl
theorem fl_71_1 : fldOf Try.prog 71 1 = some ((1, 3)) := by kernel_rfl
theorem of_71_1 : offOf Try.prog 71 1 = some (1) := by kernel_rfl
theorem fl_71_2 : fldOf Try.prog 71 2 = some ((2, 47)) := by kernel_rfl
theorem of_71_2 : offOf Try.prog 71 2 = some (2) := by kernel_rfl
theorem sz_89 : szOf Try.prog 89 = some (1) := by kernel_rfl
theorem ag_89 : aggOf Try.prog 89 = some (false) := by kernel_rfl
theorem by_89 : bytesOf? Try.prog 89 = some (24) := by kernel_rfl
theorem bo_89 : boolTy Try.prog 89 = false := by kernel_rfl
theorem sl_89 : slOf Try.prog 89 = some ((66, 1)) := by kernel_rfl
theorem ar_89 : arrOf Try.prog 89 = none := by kernel_rfl
theorem ae_89 : arrEl Try.prog 89 = none := by kernel_rfl
theorem in_89 : intOf? Try.prog 89 = none := by kernel_rfl
theorem ek_89 : eqKind Try.prog 89 = none := by kernel_rfl
theorem ma_89 : mapOf? Try.prog 89 = none := by kernel_rfl
theorem sp_89 : strPlaces Try.prog 89 = none := by kernel_rfl
theorem ze_89 : zeroOf Try.prog 89 = some ([(.sl [] .full)]) := by kernel_rfl
theorem za_89 : zeroA Try.prog 89 = some ((.sl [] .full)) := by kernel_rfl
theorem sz_95 : szOf Try.prog 95 = some (4) := by kernel_rfl
theorem ag_95 : aggOf Try.prog 95 = some (true) := by kernel_rfl
theorem by_95 : bytesOf? Try.prog 95 = some (32) := by kernel_rfl
theorem bo_95 : boolTy Try.prog 95 = false := by kernel_rfl
theorem sl_95 : slOf Try.prog 95 = none := by kernel_rfl
theorem ar_95 : arrOf Try.prog 95 = some ((4, 1)) := by kernel_rfl
theorem ae_95 : arrEl Try.prog 95 = some (3) := by kernel_rfl
theorem in_95 : intOf? Try.prog 95 = none := by kernel_rfl
theorem ek_95 : eqKind Try.prog 95 = some (4) := by kernel_rfl
theorem ma_95 : mapOf? Try.prog 95 = none := by kernel_rfl
theorem sp_95 : strPlaces Try.prog 95 = none := by kernel_rfl
theorem ze_95 : zeroOf Try.prog 95 = some ([(.int .i64 0), (.int .i64 0), (.int .i64 0), (.int .i64 0)]) := by kernel_rfl
theorem za_95 : zeroA Try.prog 95 = some ((.agg [(.int .i64 0), (.int .i64 0), (.int .i64 0), (.int .i64 0)])) := by kernel_rfl
theorem sz_98 : szOf Try.prog 98 = some (4) := by kernel_rfl
theorem ag_98 : aggOf Try.prog 98 = some (true) := by kernel_rfl
theorem by_98 : bytesOf? Try.prog 98 = some (32) := by kernel_rfl
theorem bo_98 : boolTy Try.prog 98 = false := by kernel_rfl
theorem sl_98 : slOf Try.prog 98 = none := by kernel_rfl
theorem ar_98 : arrOf Try.prog 98 = none := by kernel_rfl
theorem ae_98 : arrEl Try.prog 98 = none := by kernel_rfl
theorem in_98 : intOf? Try.prog 98 = none := by kernel_rfl
theorem ek_98 : eqKind Try.prog 98 = none := by kernel_rfl
theorem ma_98 : mapOf? Try.prog 98 = none := by kernel_rfl
theorem sp_98 : strPlaces Try.prog 98 = some ([(0, 1), (1, 1), (2, 2)]) := by kernel_rfl
theorem ze_98 : zeroOf Try.prog 98 = some ([(.int .i64 0), (.int .i64 0), (.int .i64 0), (.int .i64 0)]) := by kernel_rfl
theorem za_98 : zeroA Try.prog 98 = some ((.agg [(.int .i64 0), (.int .i64 0), (.int .i64 0), (.int .i64 0)])) := by kernel_rfl
theorem fl_98_0 : fldOf Try.prog 98 0 = some ((0, 3)) := by kernel_rfl
theorem of_98_0 : offOf Try.prog 98 0 = some (0) := by kernel_rfl
theorem fl_98_1 : fldOf Try.prog 98 1 = some ((1, 3)) := by kernel_rfl
theorem of_98_1 : offOf Try.prog 98 1 = some (1) := by kernel_rfl
theorem fl_98_2 : fldOf Try.prog 98 2 = some ((2, 45)) := by kernel_rfl
theorem of_98_2 : offOf Try.prog 98 2 = some (2) := by kernel_rfl
theorem sz_99 : szOf Try.prog 99 = some (1) := by kernel_rfl
theorem ag_99 : aggOf Try.prog 99 = some (false) := by kernel_rfl
theorem by_99 : bytesOf? Try.prog 99 = some (8) := by kernel_rfl
theorem bo_99 : boolTy Try.prog 99 = false := by kernel_rfl
theorem sl_99 : slOf Try.prog 99 = none := by kernel_rfl
theorem ar_99 : arrOf Try.prog 99 = none := by kernel_rfl
theorem ae_99 : arrEl Try.prog 99 = none := by kernel_rfl
theorem in_99 : intOf? Try.prog 99 = none := by kernel_rfl
theorem ek_99 : eqKind Try.prog 99 = none := by kernel_rfl
theorem ma_99 : mapOf? Try.prog 99 = none := by kernel_rfl
theorem sp_99 : strPlaces Try.prog 99 = none := by kernel_rfl
theorem ze_99 : zeroOf Try.prog 99 = some ([.nilp]) := by kernel_rfl
theorem za_99 : zeroA Try.prog 99 = some (.nilp) := by kernel_rfl
theorem sz_103 : szOf Try.prog 103 = some (1) := by kernel_rfl
theorem ag_103 : aggOf Try.prog 103 = some (false) := by kernel_rfl
theorem by_103 : bytesOf? Try.prog 103 = some (8) := by kernel_rfl
theorem bo_103 : boolTy Try.prog 103 = false := by kernel_rfl
theorem sl_103 : slOf Try.prog 103 = none := by kernel_rfl
theorem ar_103 : arrOf Try.prog 103 = none := by kernel_rfl
theorem ae_103 : arrEl Try.prog 103 = none := by kernel_rfl
theorem in_103 : intOf? Try.prog 103 = none := by kernel_rfl
theorem ek_103 : eqKind Try.prog 103 = none := by kernel_rfl
theorem ma_103 : mapOf? Try.prog 103 = none := by kernel_rfl
theorem sp_103 : strPlaces Try.prog 103 = none := by kernel_rfl
theorem ze_103 : zeroOf Try.prog 103 = some ([.nilf]) := by kernel_rfl
theorem za_103 : zeroA Try.prog 103 = some (.nilf) := by kernel_rfl
theorem sz_106 : szOf Try.prog 106 = some (1) := by kernel_rfl
theorem ag_106 : aggOf Try.prog 106 = some (false) := by kernel_rfl
theorem by_106 : bytesOf? Try.prog 106 = some (8) := by kernel_rfl
theorem bo_106 : boolTy Try.prog 106 = false := by kernel_rfl
theorem sl_106 : slOf Try.prog 106 = none := by kernel_rfl
theorem ar_106 : arrOf Try.prog 106 = none := by kernel_rfl
theorem ae_106 : arrEl Try.prog 106 = none := by kernel_rfl
theorem in_106 : intOf? Try.prog 106 = none := by kernel_rfl
theorem ek_106 : eqKind Try.prog 106 = none := by kernel_rfl
theorem ma_106 : mapOf? Try.prog 106 = none := by kernel_rfl
theorem sp_106 : strPlaces Try.prog 106 = none := by kernel_rfl
theorem ze_106 : zeroOf Try.prog 106 = some ([.nilf]) := by kernel_rfl
theorem za_106 : zeroA Try.prog 106 = some (.nilf) := by kernel_rfl
theorem sz_109 : szOf Try.prog 109 = some (1) := by kernel_rfl
theorem ag_109 : aggOf Try.prog 109 = some (true) := by kernel_rfl
theorem by_109 : bytesOf? Try.prog 109 = some (8) := by kernel_rfl
theorem bo_109 : boolTy Try.prog 109 = false := by kernel_rfl
theorem sl_109 : slOf Try.prog 109 = none := by kernel_rfl
theorem ar_109 : arrOf Try.prog 109 = none := by kernel_rfl
theorem ae_109 : arrEl Try.prog 109 = none := by kernel_rfl
theorem in_109 : intOf? Try.prog 109 = none := by kernel_rfl
theorem ek_109 : eqKind Try.prog 109 = none := by kernel_rfl
theorem ma_109 : mapOf? Try.prog 109 = none := by kernel_rfl
theorem sp_109 : strPlaces Try.prog 109 = some ([(0, 1)]) := by kernel_rfl
theorem ze_109 : zeroOf Try.prog 109 = some ([.nilf]) := by kernel_rfl
theorem za_109 : zeroA Try.prog 109 = some ((.agg [.nilf])) := by kernel_rfl
theorem fl_109_0 : fldOf Try.prog 109 0 = some ((0, 106)) := by kernel_rfl
theorem of_109_0 : offOf Try.prog 109 0 = some (0) := by kernel_rfl
theorem sz_112 : szOf Try.prog 112 = some (1) := by kernel_rfl
theorem ag_112 : aggOf Try.prog 112 = some (false) := by kernel_rfl
theorem by_112 : bytesOf? Try.prog 112 = some (8) := by kernel_rfl
theorem bo_112 : boolTy Try.prog 112 = false := by kernel_rfl
theorem sl_112 : slOf Try.prog 112 = none := by kernel_rfl
theorem ar_112 : arrOf Try.prog 112 = none := by kernel_rfl
theorem ae_112 : arrEl Try.prog 112 = none := by kernel_rfl
theorem in_112 : intOf? Try.prog 112 = none := by kernel_rfl
theorem ek_112 : eqKind Try.prog 112 = none := by kernel_rfl
theorem ma_112 : mapOf? Try.prog 112 = none := by kernel_rfl
theorem sp_112 : strPlaces Try.prog 112 = none := by kernel_rfl
theorem ze_112 : zeroOf Try.prog 112 = some ([.nilf]) := by kernel_rfl
theorem za_112 : zeroA Try.prog 112 = some (.nilf) := by kernel_rfl
theorem sz_117 : szOf Try.prog 117 = some (10) := by kernel_rfl
theorem ag_117 : aggOf Try.prog 117 = some (true) := by kernel_rfl
theorem by_117 : bytesOf? Try.prog 117 = some (80) := by kernel_rfl
theorem bo_117 : boolTy Try.prog 117 = false := by kernel_rfl
theorem sl_117 : slOf Try.prog 117 = none := by kernel_rfl
theorem ar_117 : arrOf Try.prog 117 = some ((10, 1)) := by kernel_rfl
theorem ae_117 : arrEl Try.prog 117 = some (3) := by kernel_rfl
theorem in_117 : intOf? Try.prog 117 = none := by kernel_rfl
theorem ek_117 : eqKind Try.prog 117 = some (10) := by kernel_rfl
theorem ma_117 : mapOf? Try.prog 117 = none := by kernel_rfl
theorem sp_117 : strPlaces Try.prog 117 = none := by kernel_rfl
theorem ze_117 : zeroOf Try.prog 117 = some ([(.int .i64 0), (.int .i64 0), (.int .i64 0), (.int .i64 0), (.int .i64 0), (.int .i64 0), (.int .i64 0), (.int .i64 0), (.int .i64 0), (.int .i64 0)]) := by kernel_rfl
theorem za_117 : zeroA Try.prog 117 = some ((.agg [(.int .i64 0), (.int .i64 0), (.int .i64 0), (.int .i64 0), (.int .i64 0), (.int .i64 0), (.int .i64 0), (.int .i64 0), (.int .i64 0), (.int .i64 0)])) := by kernel_rfl
theorem sz_124 : szOf Try.prog 124 = some (1) := by kernel_rfl
theorem ag_124 : aggOf Try.prog 124 = some (false) := by kernel_rfl
theorem by_124 : bytesOf? Try.prog 124 = some (8) := by kernel_rfl
theorem bo_124 : boolTy Try.prog 124 = false := by kernel_rfl
theorem sl_124 : slOf Try.prog 124 = none := by kernel_rfl
theorem ar_124 : arrOf Try.prog 124 = none := by kernel_rfl
theorem ae_124 : arrEl Try.prog 124 = none := by kernel_rfl
theorem in_124 : intOf? Try.prog 124 = none := by kernel_rfl
theorem ek_124 : eqKind Try.prog 124 = none := by kernel_rfl
theorem ma_124 : mapOf? Try.prog 124 = none := by kernel_rfl
theorem sp_124 : strPlaces Try.prog 124 = none := by kernel_rfl
theorem ze_124 : zeroOf Try.prog 124 = some ([.nilf]) := by kernel_rfl
theorem za_124 : zeroA Try.prog 124 = some (.nilf) := by kernel_rfl
theorem sz_126 : szOf Try.prog 126 = some (1) := by kernel_rfl
theorem ag_126 : aggOf Try.prog 126 = some (false) := by kernel_rfl
theorem by_126 : bytesOf? Try.prog 126 = some (8) := by kernel_rfl
theorem bo_126 : boolTy Try.prog 126 = false := by kernel_rfl
theorem sl_126 : slOf Try.prog 126 = none := by kernel_rfl
theorem ar_126 : arrOf Try.prog 126 = none := by kernel_rfl
theorem ae_126 : arrEl Try.prog 126 = none := by kernel_rfl
theorem in_126 : intOf? Try.prog 126 = none := by kernel_rfl
theorem ek_126 : eqKind Try.prog 126 = none := by kernel_rfl
theorem ma_126 : mapOf? Try.prog 126 = none := by kernel_rfl
theorem sp_126 : strPlaces Try.prog 126 = none := by kernel_rfl
theorem ze_126 : zeroOf Try.prog 126 = some ([.nilf]) := by kernel_rfl
theorem za_126 : zeroA Try.prog 126 = some (.nilf) := by kernel_rfl
theorem sz_137 : szOf Try.prog 137 = some (1) := by kernel_rfl
theorem ag_137 : aggOf Try.prog 137 = some (false) := by kernel_rfl
theorem by_137 : bytesOf? Try.prog 137 = some (8) := by kernel_rfl
theorem bo_137 : boolTy Try.prog 137 = false := by kernel_rfl
theorem sl_137 : slOf Try.prog 137 = none := by kernel_rfl
theorem ar_137 : arrOf Try.prog 137 = none := by kernel_rfl
theorem ae_137 : arrEl Try.prog 137 = none := by kernel_rfl
theorem in_137 : intOf? Try.prog 137 = none := by kernel_rfl
theorem ek_137 : eqKind Try.prog 137 = none := by kernel_rfl
theorem ma_137 : mapOf? Try.prog 137 = some ((142, 4)) := by kernel_rfl
theorem sp_137 : strPlaces Try.prog 137 = none := by kernel_rfl
theorem ze_137 : zeroOf Try.prog 137 = some ([.undef]) := by kernel_rfl
theorem za_137 : zeroA Try.prog 137 = some (.undef) := by kernel_rfl
theorem sz_138 : szOf Try.prog 138 = some (1) := by kernel_rfl
theorem ag_138 : aggOf Try.prog 138 = some (false) := by kernel_rfl
theorem by_138 : bytesOf? Try.prog 138 = some (24) := by kernel_rfl
theorem bo_138 : boolTy Try.prog 138 = false := by kernel_rfl
theorem sl_138 : slOf Try.prog 138 = some ((117, 10)) := by kernel_rfl
theorem ar_138 : arrOf Try.prog 138 = none := by kernel_rfl
theorem ae_138 : arrEl Try.prog 138 = none := by kernel_rfl
theorem in_138 : intOf? Try.prog 138 = none := by kernel_rfl
theorem ek_138 : eqKind Try.prog 138 = none := by kernel_rfl
theorem ma_138 : mapOf? Try.prog 138 = none := by kernel_rfl
theorem sp_138 : strPlaces Try.prog 138 = none := by kernel_rfl
theorem ze_138 : zeroOf Try.prog 138 = some ([(.sl [] .full)]) := by kernel_rfl
theorem za_138 : zeroA Try.prog 138 = some ((.sl [] .full)) := by kernel_rfl
theorem sz_140 : szOf Try.prog 140 = some (7) := by kernel_rfl
theorem ag_140 : aggOf Try.prog 140 = some (true) := by kernel_rfl
theorem by_140 : bytesOf? Try.prog 140 = some (120) := by kernel_rfl
theorem bo_140 : boolTy Try.prog 140 = false := by kernel_rfl
theorem sl_140 : slOf Try.prog 140 = none := by kernel_rfl
theorem ar_140 : arrOf Try.prog 140 = none := by kernel_rfl
theorem ae_140 : arrEl Try.prog 140 = none := by kernel_rfl
theorem in_140 : intOf? Try.prog 140 = none := by kernel_rfl
theorem ek_140 : eqKind Try.prog 140 = none := by kernel_rfl
theorem ma_140 : mapOf? Try.prog 140 = none := by kernel_rfl
theorem sp_140 : strPlaces Try.prog 140 = some ([(0, 5), (5, 1), (6, 1)]) := by kernel_rfl
theorem ze_140 : zeroOf Try.prog 140 = some ([(.int .i64 0), (.sl [] .full), (.int .i64 0), (.sl [] .full), (.sl [] .full), (.sl [] .full), .undef]) := by kernel_rfl
theorem za_140 : zeroA Try.prog 140 = some ((.agg [(.int .i64 0), (.sl [] .full), (.int .i64 0), (.sl [] .full), (.sl [] .full), (.sl [] .full), .undef])) := by kernel_rfl
theorem fl_140_0 : fldOf Try.prog 140 0 = some ((0, 35)) := by kernel_rfl
theorem of_140_0 : offOf Try.prog 140 0 = some (0) := by kernel_rfl
theorem fl_140_1 : fldOf Try.prog 140 1 = some ((5, 138)) := by kernel_rfl
theorem of_140_1 : offOf Try.prog 140 1 = some (5) := by kernel_rfl
theorem fl_140_2 : fldOf Try.prog 140 2 = some ((6, 137)) := by kernel_rfl
theorem of_140_2 : offOf Try.prog 140 2 = some (6) := by kernel_rfl
theorem sz_142 : szOf Try.prog 142 = some (2) := by kernel_rfl
theorem ag_142 : aggOf Try.prog 142 = some (true) := by kernel_rfl
theorem by_142 : bytesOf? Try.prog 142 = some (16) := by kernel_rfl
theorem bo_142 : boolTy Try.prog 142 = false := by kernel_rfl
theorem sl_142 : slOf Try.prog 142 = none := by kernel_rfl
theorem ar_142 : arrOf Try.prog 142 = none := by kernel_rfl
theorem ae_142 : arrEl Try.prog 142 = none := by kernel_rfl
theorem in_142 : intOf? Try.prog 142 = none := by kernel_rfl
theorem ek_142 : eqKind Try.prog 142 = some (2) := by kernel_rfl
theorem ma_142 : mapOf? Try.prog 142 = none := by kernel_rfl
theorem sp_142 : strPlaces Try.prog 142 = some ([(0, 1), (1, 1)]) := by kernel_rfl
theorem ze_142 : zeroOf Try.prog 142 = some ([(.int .i64 0), (.int .i64 0)]) := by kernel_rfl
theorem za_142 : zeroA Try.prog 142 = some ((.agg [(.int .i64 0), (.int .i64 0)])) := by kernel_rfl
theorem fl_142_0 : fldOf Try.prog 142 0 = some ((0, 3)) := by kernel_rfl
theorem of_142_0 : offOf Try.prog 142 0 = some (0) := by kernel_rfl
theorem fl_142_1 : fldOf Try.prog 142 1 = some ((1, 3)) := by kernel_rfl
theorem of_142_1 : offOf Try.prog 142 1 = some (1) := by kernel_rfl
theorem sz_146 : szOf Try.prog 146 = some (1) := by kernel_rfl
theorem ag_146 : aggOf Try.prog 146 = some (false) := by kernel_rfl
theorem by_146 : bytesOf? Try.prog 146 = some (8) := by kernel_rfl
theorem bo_146 : boolTy Try.prog 146 = false := by kernel_rfl
theorem sl_146 : slOf Try.prog 146 = none := by kernel_rfl
theorem ar_146 : arrOf Try.prog 146 = none := by kernel_rfl
theorem ae_146 : arrEl Try.prog 146 = none := by kernel_rfl
theorem in_146 : intOf? Try.prog 146 = none := by kernel_rfl
theorem ek_146 : eqKind Try.prog 146 = none := by kernel_rfl
theorem ma_146 : mapOf? Try.prog 146 = none := by kernel_rfl
theorem sp_146 : strPlaces Try.prog 146 = none := by kernel_rfl
theorem ze_146 : zeroOf Try.prog 146 = some ([.nilf]) := by kernel_rfl
theorem za_146 : zeroA Try.prog 146 = some (.nilf) := by kernel_rfl
attribute [go_sem] sz_0 ag_0 by_0 bo_0 sl_0 ar_0 ae_0 in_0 ek_0 ma_0 sp_0 ze_0 za_0 sz_1 ag_1 by_1 bo_1 sl_1 ar_1 ae_1 in_1 ek_1 ma_1 sp_1 ze_1 za_1 sz_2 ag_2 by_2 bo_2 sl_2 ar_2 ae_2 in_2 ek_2 ma_2 sp_2 ze_2 za_2 sz_3 ag_3 by_3 bo_3 sl_3 ar_3 ae_3 in_3 ek_3 ma_3 sp_3 ze_3 za_3 sz_4 ag_4 by_4 bo_4 sl_4 ar_4 ae_4 in_4 ek_4 ma_4 sp_4 ze_4 za_4 sz_5 ag_5 by_5 bo_5 sl_5 ar_5 ae_5 in_5 ek_5 ma_5 sp_5 ze_5 za_5 sz_22 ag_22 by_22 bo_22 sl_22 ar_22 ae_22 in_22 ek_22 ma_22 sp_22 ze_22 za_22 sz_23 ag_23 by_23 bo_23 sl_23 ar_23 ae_23 in_23 ek_23 ma_23 sp_23 ze_23 za_23 sz_24 ag_24 by_24 bo_24 sl_24 ar_24 ae_24 in_24 ek_24 ma_24 sp_24 ze_24 za_24 sz_26 ag_26 by_26 bo_26 sl_26 ar_26 ae_26 in_26 ek_26 ma_26 sp_26 ze_26 za_26 fl_26_0 of_26_0 fl_26_1 of_26_1 fl_26_2 of_26_2 fl_26_3 of_26_3 fl_26_4 of_26_4 sz_29 ag_29 by_29 bo_29 sl_29 ar_29 ae_29 in_29 ek_29 ma_29 sp_29 ze_29 za_29 sz_30 ag_30 by_30 bo_30 sl_30 ar_30 ae_30 in_30 ek_30 ma_30 sp_30 ze_30 za_30 sz_33 ag_33 by_33 bo_33 sl_33 ar_33 ae_33 in_33 ek_33 ma_33 sp_33 ze_33 za_33 sz_35 ag_35 by_35 bo_35 sl_35 ar_35 ae_35 in_35 ek_35 ma_35 sp_35 ze_35 za_35 fl_35_0 of_35_0 fl_35_1 of_35_1 fl_35_2 of_35_2 fl_35_3 of_35_3 fl_35_4 of_35_4 sz_39 ag_39 by_39 bo_39 sl_39 ar_39 ae_39 in_39 ek_39 ma_39 sp_39 ze_39 za_39 sz_45 ag_45 by_45 bo_45 sl_45 ar_45 ae_45 in_45 ek_45 ma_45 sp_45 ze_45 za_45 fl_45_0 of_45_0 fl_45_1 of_45_1 sz_47 ag_47 by_47 bo_47 sl_47 ar_47 ae_47 in_47 ek_47 ma_47 sp_47 ze_47 za_47 fl_47_0 of_47_0 fl_47_1 of_47_1 sz_63 ag_63 by_63 bo_63 sl_63 ar_63 ae_63 in_63 ek_63 ma_63 sp_63 ze_63 za_63 sz_64 ag_64 by_64 bo_64 sl_64 ar_64 ae_64 in_64 ek_64 ma_64 sp_64 ze_64 za_64 sz_66 ag_66 by_66 bo_66 sl_66 ar_66 ae_66 in_66 ek_66 ma_66 sp_66 ze_66 za_66 sz_71 ag_71 by_71 bo_71 sl_71 ar_71 ae_71 in_71 ek_71 ma_71 sp_71 ze_71 za_71 fl_71_0 of_71_0 fl_71_1 of_71_1 fl_71_2 of_71_2 sz_89 ag_89 by_89 bo_89 sl_89 ar_89 ae_89 in_89 ek_89 ma_89 sp_89 ze_89 za_89 sz_95 ag_95 by_95 bo_95 sl_95 ar_95 ae_95 in_95 ek_95 ma_95 sp_95 ze_95 za_95 sz_98 ag_98 by_98 bo_98 sl_98 ar_98 ae_98 in_98 ek_98 ma_98 sp_98 ze_98 za_98 fl_98_0 of_98_0 fl_98_1 of_98_1 fl_98_2 of_98_2 sz_99 ag_99 by_99 bo_99 sl_99 ar_99 ae_99 in_99 ek_99 ma_99 sp_99 ze_99 za_99 sz_103 ag_103 by_103 bo_103 sl_103 ar_103 ae_103 in_103 ek_103 ma_103 sp_103 ze_103 za_103 sz_106 ag_106 by_106 bo_106 sl_106 ar_106 ae_106 in_106 ek_106 ma_106 sp_106 ze_106 za_106 sz_109 ag_109 by_109 bo_109 sl_109 ar_109 ae_109 in_109 ek_109 ma_109 sp_109 ze_109 za_109 fl_109_0 of_109_0 sz_112 ag_112 by_112 bo_112 sl_112 ar_112 ae_112 in_112 ek_112 ma_112 sp_112 ze_112 za_112 sz_117 ag_117 by_117 bo_117 sl_117 ar_117 ae_117 in_117 ek_117 ma_117 sp_117 ze_117 za_117 sz_124 ag_124 by_124 bo_124 sl_124 ar_124 ae_124 in_124 ek_124 ma_124 sp_124 ze_124 za_124 sz_126 ag_126 by_126 bo_126 sl_126 ar_126 ae_126 in_126 ek_126 ma_126 sp_126 ze_126 za_126 sz_137 ag_137 by_137 bo_137 sl_137 ar_137 ae_137 in_137 ek_137 ma_137 sp_137 ze_137 za_137 sz_138 ag_138 by_138 bo_138 sl_138 ar_138 ae_138 in_138 ek_138 ma_138 sp_138 ze_138 za_138 sz_140 ag_140 by_140 bo_140 sl_140 ar_140 ae_140 in_140 ek_140 ma_140 sp_140 ze_140 za_140 fl_140_0 of_140_0 fl_140_1 of_140_1 fl_140_2 of_140_2 sz_142 ag_142 by_142 bo_142 sl_142 ar_142 ae_142 in_142 ek_142 ma_142 sp_142 ze_142 za_142 fl_142_0 of_142_0 fl_142_1 of_142_1 sz_146 ag_146 by_146 bo_146 sl_146 ar_146 ae_146 in_146 ek_146 ma_146 sp_146 ze_146 za_146
end Go.Proofs
/- What the small functions of the reference compute. -/
namespace Go.Proofs
open Go.Fs
set_option linter.unusedSimpArgs false
set_option maxHeartbeats 400000

def P0 : Specs := noSpecs
theorem P0_app (g : FuncId) : P0 g = none := rfl
theorem P0_ok : SpecsOk Try.prog P0 := noSpecs_ok _

def inB (n lo hi : Int) : Bool := decide (lo ≤ n) && decide (n ≤ hi)
theorem In_call (n lo hi : Int) : CallP Try.prog 26 [Enc.enc n, Enc.enc lo, Enc.enc hi] (· = Enc.enc (inB n lo hi)) := by
  simp only [enc_fnl, enc_fnb, enc_fnc, enc_refc, enc_arr, enc_int, enc_bool, enc_list, enc_rg, enc_mk, enc_tb]
  refine callP_of_vc (Φ := P0) Try.func26 rfl (by rfl) (by rw [Try.ntmps26]; simp) mixed P0_ok (by simp [AV.strip, Tk.strip]) ?_
  rw [Try.ntmps26]
  simp only [Try.f26, startSt, tmFrom]
  simp (maxSteps := 4000000) only [go_sem, AV.one, drawV, intsOf, keyIdx, over, putO, memAt, List.map_cons, List.length_cons, ↓reduceIte]
  grind [inB]

theorem Size_call (r : Rg) (h1 : InR .i64 (r.hi - r.lo)) (h2 : InR .i64 (r.hi - r.lo + 1)) : CallP Try.prog 97 [Enc.enc r] (· = Enc.enc (r.hi - r.lo + 1)) := by
  simp only [enc_fnl, enc_fnb, enc_fnc, enc_refc, enc_arr, enc_int, enc_bool, enc_list, enc_rg, enc_mk, enc_tb]
  refine callP_of_vc (Φ := P0) Try.func97 rfl (by rfl) (by rw [Try.ntmps97]; simp) mixed P0_ok (by simp [AV.strip, Tk.strip]) ?_
  rw [Try.ntmps97]
  simp only [Try.f97, startSt, tmFrom]
  simp (maxSteps := 4000000) only [go_sem, AV.one, drawV, intsOf, keyIdx, over, putO, memAt, List.map_cons, List.length_cons, ↓reduceIte]
  exact ⟨h1, h2⟩

def isHeights (r : Rg) : Bool := decide (0 ≤ r.lo) && decide (r.lo ≤ r.hi) && decide (r.hi ≤ 99)
theorem IsHeights_call (r : Rg) : CallP Try.prog 96 [Enc.enc r] (· = Enc.enc (isHeights r)) := by
  simp only [enc_fnl, enc_fnb, enc_fnc, enc_refc, enc_arr, enc_int, enc_bool, enc_list, enc_rg, enc_mk, enc_tb]
  refine callP_of_vc (Φ := P0) Try.func96 rfl (by rfl) (by rw [Try.ntmps96]; simp) mixed P0_ok (by simp [AV.strip, Tk.strip]) ?_
  rw [Try.ntmps96]
  simp only [Try.f96, startSt, tmFrom]
  simp (maxSteps := 4000000) only [go_sem, AV.one, drawV, intsOf, keyIdx, over, putO, memAt, List.map_cons, List.length_cons, ↓reduceIte]
  grind [isHeights]
def P1 : Specs := addSpec 26 (spec3 (fun _ _ _ => True) inB) (addSpec 97 (spec1 (fun r : Rg => InR .i64 (r.hi - r.lo) ∧ InR .i64 (r.hi - r.lo + 1)) (fun r => r.hi - r.lo + 1)) (addSpec 96 (spec1 (fun _ => True) isHeights) (P0)))
theorem P1_app (g : FuncId) : P1 g = (addSpec 26 (spec3 (fun _ _ _ => True) inB) (addSpec 97 (spec1 (fun r : Rg => InR .i64 (r.hi - r.lo) ∧ InR .i64 (r.hi - r.lo + 1)) (fun r => r.hi - r.lo + 1)) (addSpec 96 (spec1 (fun _ => True) isHeights) (P0)))) g := rfl
theorem P1_ok : SpecsOk Try.prog P1 := addSpec_ok (spec3_ok fun a b c _ => In_call a b c) (addSpec_ok (spec1_ok fun a h => Size_call a h.1 h.2) (addSpec_ok (spec1_ok fun a _ => IsHeights_call a) (P0_ok)))
attribute [go_sem] P1_app

def manyN (l : List Rg) : Int := l.foldl (fun n r => min 3000 (n * (r.hi - r.lo + 1))) 1
theorem manyN_bd (l : List Rg) (h : ∀ r ∈ l, 0 ≤ r.hi - r.lo ∧ r.hi - r.lo ≤ 99) (n : Int) (hn : 0 ≤ n ∧ n ≤ 3000) : 0 ≤ l.foldl (fun n r => min 3000 (n * (r.hi - r.lo + 1))) n ∧ l.foldl (fun n r => min 3000 (n * (r.hi - r.lo + 1))) n ≤ 3000 := by
  induction l generalizing n with
  | nil => exact hn
  | cons r l ih =>
    have hr := h r (by simp)
    have : 0 ≤ n * (r.hi - r.lo + 1) := Int.mul_nonneg hn.1 (by omega)
    refine ih (fun r hr => h r (by simp [hr])) _ ?_
    dsimp only
    omega
theorem manyN_take (l : List Rg) (i : Nat) (hi : i < l.length) : manyN (l.take (i + 1)) = min 3000 (manyN (l.take i) * ((at_ l i).hi - (at_ l i).lo + 1)) := by
  unfold manyN; rw [take_succ_at hi, List.foldl_append]; rfl
theorem at_mem {α : Type} [Inhabited α] {l : List α} {i : Nat} (h : i < l.length) : at_ l i ∈ l := by rw [at_get h]; exact List.getElem_mem h
theorem take_mem {α : Type} {l : List α} {i : Nat} {P : α → Prop} (h : ∀ x ∈ l, P x) : ∀ x ∈ l.take i, P x := fun x hx => h x (List.mem_of_mem_take hx)
theorem Many_call (t : Tb) (h : t.heights.length ≤ 4096 ∧ ∀ r ∈ t.heights, 0 ≤ r.hi - r.lo ∧ r.hi - r.lo ≤ 99) : CallP Try.prog 63 [Enc.enc t] (· = Enc.enc (manyN t.heights)) := by
  simp only [enc_fnl, enc_fnb, enc_fnc, enc_refc, enc_arr, enc_int, enc_bool, enc_list, enc_rg, enc_mk, enc_tb]
  refine callP_of_vc (Φ := P1) Try.func63 rfl (by rfl) (by rw [Try.ntmps63]; simp) mixed P1_ok (by simp [AV.strip, Tk.strip]) ?_
  rw [Try.ntmps63]
  simp only [Try.f63, startSt, tmFrom]
  simp (maxSteps := 4000000) only [go_sem, AV.one, drawV, intsOf, keyIdx, over, putO, memAt, List.map_cons, List.length_cons, ↓reduceIte]
  refine loopN (t.heights.length) [] [1, 2] (fun i => [(4, .int .i64 i), (3, .int .i64 (manyN (t.heights.take i)))]) (fun _ m => m) (fun _ => True) ?_ ?_ ?_ ?_
  · trivial
  · simp [bel_ints, cs_arr, dep_arr, cs_int, cs_bool, cs_list, cs_rg, cs_mk, AtHead, Same, AllO, Begins, LtAll, headSt, tokz_nil, tokz_cons, tokz1, lk, dep_int, dep_bool, dep_list, dep_rg, dep_mk, memAt, bel_map, bel_mapF, bel_mapO, bel_undef, bel_int, bel_boolv, bel_nilp, bel_nilf, bel_ptr, bel_arr, bel_mp, bel_yld, bel_agg, bel_tup, bel_ref, bel_only, bel_mpr, bel_fn, bel_sl_nil, bel_sl_nilF, bel_sl_nilO, bel_sl_cons, bel_sl_app, belO_cells, belO_tok, belO_dead, belO_deferred, belO_map, belO_iter, belO_loop, manyN]
  · intro i hi _
    have hr := h.2 _ (at_mem hi)
    have hb := manyN_bd _ (take_mem (i := i) h.2) 1 (by omega)
    have hm : 0 ≤ manyN (t.heights.take i) * ((at_ t.heights i).hi - (at_ t.heights i).lo + 1) ∧ manyN (t.heights.take i) * ((at_ t.heights i).hi - (at_ t.heights i).lo + 1) ≤ 3000 * 100 :=
      ⟨Int.mul_nonneg hb.1 (by omega), Int.mul_le_mul hb.2 (by omega) (by omega) (by omega)⟩
    simp only [go_sem, AV.one, drawV, intsOf, keyIdx, over, putO, memAt, List.map_cons, List.length_cons, ↓reduceIte, getD_mapA hi, Int.ofNat_lt.2 hi]
    refine ⟨by omega, ⟨?_, ?_⟩, ?_, ?_, nxt hi trivial ?_⟩
    · simp only [InR]; omega
    · simp only [InR]; omega
    · simp only [InR]; omega
    · simp only [InR]; omega
    · simp [bel_ints, cs_arr, dep_arr, cs_int, cs_bool, cs_list, cs_rg, cs_mk, AtHead, Same, AllO, Begins, LtAll, headSt, tokz_nil, tokz_cons, tokz1, lk, dep_int, dep_bool, dep_list, dep_rg, dep_mk, memAt, bel_map, bel_mapF, bel_mapO, bel_undef, bel_int, bel_boolv, bel_nilp, bel_nilf, bel_ptr, bel_arr, bel_mp, bel_yld, bel_agg, bel_tup, bel_ref, bel_only, bel_mpr, bel_fn, bel_sl_nil, bel_sl_nilF, bel_sl_nilO, bel_sl_cons, bel_sl_app, belO_cells, belO_tok, belO_dead, belO_deferred, belO_map, belO_iter, belO_loop, manyN_take _ _ hi]
  · intro _
    simp only [go_sem, AV.one, drawV, intsOf, keyIdx, over, putO, memAt, List.map_cons, List.length_cons, ↓reduceIte, List.take_length]
end Go.Proofs
/- Heights in some hours; whether a mark is right; neighbours; the list with a number. -/
namespace Go.Proofs
open Go.Fs
set_option linter.unusedSimpArgs false
set_option maxHeartbeats 400000
set_option maxRecDepth 8000

structure HOk (t : Tb) : Prop where
  len : t.heights.length ≤ 10
  h : ∀ r ∈ t.heights, 0 ≤ r.lo ∧ r.lo ≤ r.hi ∧ r.hi ≤ 99
  s0 : 0 ≤ t.step
  s1 : t.step ≤ 99
structure MOk (t : Tb) : Prop where
  len : t.marks.length ≤ 7
  m : ∀ m ∈ t.marks, 0 ≤ m.frm ∧ m.frm ≤ m.til ∧ m.til < t.heights.length
structure LOk (l : List Int) : Prop where
  len : l.length ≤ 4096
  b : ∀ x ∈ l, 0 ≤ x ∧ x ≤ 99
def P2 : Specs := addSpec 63 (spec1 HOk (fun t => manyN t.heights)) (P1)
theorem P2_app (g : FuncId) : P2 g = (addSpec 63 (spec1 HOk (fun t => manyN t.heights)) (P1)) g := rfl
theorem P2_ok : SpecsOk Try.prog P2 := addSpec_ok (spec1_ok fun t h => Many_call t ⟨by have := h.len; omega, fun r hr => by have := h.h r hr; omega⟩) (P1_ok)
attribute [go_sem] P2_app

def maxL : List Int → Int
  | [] => 0
  | x :: r => r.foldl max x
theorem maxL_snoc (l : List Int) (x : Int) (h : l ≠ []) : maxL (l ++ [x]) = max (maxL l) x := by
  cases l with
  | nil => exact absurd rfl h
  | cons y r => simp [maxL, List.foldl_append]
/-- The greatest of the numbers from the a-th to the b-th. -/
def topL (l : List Int) (a b : Int) : Int := maxL ((l.drop a.toNat).take (b + 1 - a).toNat)
theorem drop_take_snoc {α : Type} [Inhabited α] {l : List α} {a i : Nat} (h : a + i < l.length) : (l.drop a).take (i + 1) = (l.drop a).take i ++ [at_ l (a + i)] := by
  have : i < (l.drop a).length := by simp; omega
  rw [take_succ_at this]
  simp [at_, List.getD]
theorem topL_call (l : List Int) (a b : Int) (h0 : 0 ≤ a) (h : a ≤ b) (hb : b < l.length) (hl : l.length ≤ 4096) : CallP Try.prog 84 [Enc.enc l, Enc.enc a, Enc.enc b] (· = Enc.enc (topL l a b)) := by
  obtain ⟨a, rfl⟩ := Int.eq_ofNat_of_zero_le h0
  obtain ⟨b, rfl⟩ : ∃ k : Nat, b = a + k := ⟨(b - a).toNat, by omega⟩
  simp only [enc_fnl, enc_fnb, enc_fnc, enc_refc, enc_arr, enc_int, enc_bool, enc_list, enc_rg, enc_mk, enc_tb]
  refine callP_of_vc (Φ := P2) Try.func84 rfl (by rfl) (by rw [Try.ntmps84]; simp) mixed P2_ok (by simp [AV.strip, Tk.strip]) ?_
  rw [Try.ntmps84]
  simp only [Try.f84, startSt, tmFrom]
  simp (maxSteps := 4000000) only [go_sem, AV.one, drawV, intsOf, keyIdx, over, putO, memAt, List.map_cons, List.length_cons, ↓reduceIte, getD_mapA (show a < l.length by omega)]
  refine ⟨by omega, ?_⟩
  refine loopN (b + 1) [] [0, 2, 6] (fun i => [(8, .int .i64 ((a + i : Nat) : Int)), (7, .int .i64 (if i = 0 then at_ l a else maxL ((l.drop a).take i)))]) (fun _ m => m) (fun _ => True) ?_ ?_ ?_ ?_
  · trivial
  · simp [bel_ints, cs_arr, dep_arr, cs_int, cs_bool, cs_list, cs_rg, cs_mk, AtHead, Same, AllO, Begins, LtAll, headSt, tokz_nil, tokz_cons, tokz1, lk, dep_int, dep_bool, dep_list, dep_rg, dep_mk, memAt, bel_map, bel_mapF, bel_mapO, bel_undef, bel_int, bel_boolv, bel_nilp, bel_nilf, bel_ptr, bel_arr, bel_mp, bel_yld, bel_agg, bel_tup, bel_ref, bel_only, bel_mpr, bel_fn, bel_sl_nil, bel_sl_nilF, bel_sl_nilO, bel_sl_cons, bel_sl_app, belO_cells, belO_tok, belO_dead, belO_deferred, belO_map, belO_iter, belO_loop]
  · intro i hi _
    have hi' : ((a + i : Nat) : Int) ≤ (a : Int) + (b : Int) := by omega
    simp only [go_sem, AV.one, drawV, intsOf, keyIdx, over, putO, memAt, List.map_cons, List.length_cons, ↓reduceIte, getD_mapA (show a + i < l.length by omega), hi']
    refine ⟨by omega, (by simp only [InR]; omega), nxt hi trivial ?_⟩
    have e : max (if i = 0 then at_ l a else maxL ((l.drop a).take i)) (at_ l (a + i)) = maxL ((l.drop a).take (i + 1)) := by
      rw [drop_take_snoc (by omega)]
      by_cases h0 : i = 0
      · subst h0; simp [maxL]
      · rw [if_neg h0, maxL_snoc]
        intro q
        have := congrArg List.length q
        simp at this
        omega
    simp [bel_ints, cs_arr, dep_arr, cs_int, cs_bool, cs_list, cs_rg, cs_mk, AtHead, Same, AllO, Begins, LtAll, headSt, tokz_nil, tokz_cons, tokz1, lk, dep_int, dep_bool, dep_list, dep_rg, dep_mk, memAt, bel_map, bel_mapF, bel_mapO, bel_undef, bel_int, bel_boolv, bel_nilp, bel_nilf, bel_ptr, bel_arr, bel_mp, bel_yld, bel_agg, bel_tup, bel_ref, bel_only, bel_mpr, bel_fn, bel_sl_nil, bel_sl_nilF, bel_sl_nilO, bel_sl_cons, bel_sl_app, belO_cells, belO_tok, belO_dead, belO_deferred, belO_map, belO_iter, belO_loop, e]
    omega
  · intro _
    have hn : ¬ (((a + (b + 1) : Nat) : Int) ≤ (a : Int) + (b : Int)) := by omega
    simp only [go_sem, AV.one, drawV, intsOf, keyIdx, over, putO, memAt, List.map_cons, List.length_cons, ↓reduceIte, hn]
    simp only [topL, Int.toNat_natCast]
    rw [show ((a : Int) + b + 1 - a).toNat = b + 1 by omega]

def P3 : Specs := addSpec 84 (spec3 (fun (l : List Int) (a b : Int) => 0 ≤ a ∧ a ≤ b ∧ b < l.length ∧ l.length ≤ 4096) topL) (P2)
theorem P3_app (g : FuncId) : P3 g = (addSpec 84 (spec3 (fun (l : List Int) (a b : Int) => 0 ≤ a ∧ a ≤ b ∧ b < l.length ∧ l.length ≤ 4096) topL) (P2)) g := rfl
theorem P3_ok : SpecsOk Try.prog P3 := addSpec_ok (spec3_ok fun l a b h => topL_call l a b h.1 h.2.1 h.2.2.1 h.2.2.2) (P2_ok)
attribute [go_sem] P3_app

def rightM (l : List Int) (m : Mk) : Bool := inB (topL l m.frm m.til) m.top.lo m.top.hi
theorem Right_call (l : List Int) (m : Mk) (h : (0 ≤ m.frm ∧ m.frm ≤ m.til ∧ m.til < l.length) ∧ l.length ≤ 4096) : CallP Try.prog 75 [Enc.enc l, Enc.enc m] (· = Enc.enc (rightM l m)) := by
  simp only [enc_fnl, enc_fnb, enc_fnc, enc_refc, enc_arr, enc_int, enc_bool, enc_list, enc_rg, enc_mk, enc_tb]
  refine callP_of_vc (Φ := P3) Try.func75 rfl (by rfl) (by rw [Try.ntmps75]; simp) mixed P3_ok (by simp [AV.strip, Tk.strip]) ?_
  rw [Try.ntmps75]
  simp only [Try.f75, startSt, tmFrom]
  simp (maxSteps := 4000000) only [go_sem, AV.one, drawV, intsOf, keyIdx, over, putO, memAt, List.map_cons, List.length_cons, ↓reduceIte]
  exact ⟨rfl, ⟨h.1.1, h.1.2.1, h.1.2.2, h.2⟩, rfl⟩

/-- Numbers that follow each other differ by at most s. -/
def nearL (s : Int) : List Int → Bool
  | [] => true
  | [_] => true
  | x :: y :: r => (decide (y - x ≤ s) && decide (x - y ≤ s)) && nearL s (y :: r)
theorem nearL_snoc (s : Int) (l : List Int) (y : Int) (h : l ≠ []) : nearL s (l ++ [y]) = (nearL s l && (decide (y - l.getLast h ≤ s) && decide (l.getLast h - y ≤ s))) := by
  induction l with
  | nil => exact absurd rfl h
  | cons x l ih =>
    cases l with
    | nil => simp only [List.cons_append, List.nil_append, nearL, List.getLast_singleton, Bool.and_true, Bool.true_and]; rfl
    | cons z l =>
      have := ih (by simp)
      simp only [List.cons_append] at this ⊢
      simp only [nearL, this, List.getLast_cons_cons, Bool.and_assoc]
      rfl
theorem nearL_take (s : Int) (l : List Int) (i : Nat) (h : i + 1 < l.length) : nearL s (l.take (i + 1 + 1)) = (nearL s (l.take (i + 1)) && (decide (at_ l (i + 1) - at_ l i ≤ s) && decide (at_ l i - at_ l (i + 1) ≤ s))) := by
  have hn : l.take (i + 1) ≠ [] := by
    intro q
    have := congrArg List.length q
    rw [List.length_take, List.length_nil] at this
    omega
  rw [take_succ_at h, nearL_snoc _ _ _ hn]
  have : (l.take (i + 1)).getLast hn = at_ l i := by
    rw [List.getLast_eq_getElem]
    simp [at_get (show i < l.length by omega), show min (i + 1) l.length - 1 = i by omega]
  rw [this]
theorem nearL_mono (s : Int) (l : List Int) : ∀ i, nearL s l = true → nearL s (l.take i) = true := by
  induction l with
  | nil => intro i _; simp [nearL]
  | cons x l ih =>
    intro i h
    cases i with
    | zero => simp [nearL]
    | succ i =>
      cases l with
      | nil => simp [nearL]
      | cons y l =>
        simp only [nearL, Bool.and_eq_true] at h
        cases i with
        | zero => simp [nearL]
        | succ i =>
          have := ih (i + 1) h.2
          simp only [List.take_succ_cons, nearL, Bool.and_eq_true] at this ⊢
          exact ⟨h.1, this⟩
theorem Near_call (t : Tb) (l : List Int) (h : (0 ≤ t.step ∧ t.step ≤ 99) ∧ l.length ≤ 4096 ∧ ∀ x ∈ l, 0 ≤ x ∧ x ≤ 99) : CallP Try.prog 78 [Enc.enc t, Enc.enc l] (· = Enc.enc (nearL t.step l)) := by
  simp only [enc_fnl, enc_fnb, enc_fnc, enc_refc, enc_arr, enc_int, enc_bool, enc_list, enc_rg, enc_mk, enc_tb]
  refine callP_of_vc (Φ := P3) Try.func78 rfl (by rfl) (by rw [Try.ntmps78]; simp) mixed P3_ok (by simp [AV.strip, Tk.strip]) ?_
  rw [Try.ntmps78]
  simp only [Try.f78, startSt, tmFrom]
  simp (maxSteps := 4000000) only [go_sem, AV.one, drawV, intsOf, keyIdx, over, putO, memAt, List.map_cons, List.length_cons, ↓reduceIte]
  refine loopN (l.length - 1) [] [1, 2, 4] (fun i => [(5, .int .i64 ((i + 1 : Nat) : Int))]) (fun _ m => m) (fun i => nearL t.step (l.take (i + 1)) = true) ?_ ?_ ?_ ?_
  · cases l with
    | nil => simp [nearL]
    | cons x l => simp [nearL]
  · simp [bel_ints, cs_arr, dep_arr, cs_int, cs_bool, cs_list, cs_rg, cs_mk, AtHead, Same, AllO, Begins, LtAll, headSt, tokz_nil, tokz_cons, tokz1, lk, dep_int, dep_bool, dep_list, dep_rg, dep_mk, memAt, bel_map, bel_mapF, bel_mapO, bel_undef, bel_int, bel_boolv, bel_nilp, bel_nilf, bel_ptr, bel_arr, bel_mp, bel_yld, bel_agg, bel_tup, bel_ref, bel_only, bel_mpr, bel_fn, bel_sl_nil, bel_sl_nilF, bel_sl_nilO, bel_sl_cons, bel_sl_app, belO_cells, belO_tok, belO_dead, belO_deferred, belO_map, belO_iter, belO_loop]
  · intro i hi hI
    have hi' : ((i + 1 : Nat) : Int) < (l.length : Int) := by omega
    have e1 : ((i + 1 : Nat) : Int) - 1 = (i : Int) := by omega
    have g1 := h.2.2 _ (at_mem (show i < l.length by omega))
    have g2 := h.2.2 _ (at_mem (show i + 1 < l.length by omega))
    have hs := nearL_take t.step l i (by omega)
    cases c1 : decide (t.step < at_ l (i + 1) - at_ l i) <;> cases c2 : decide (t.step < at_ l i - at_ l (i + 1)) <;>
      simp only [go_sem, AV.one, drawV, intsOf, keyIdx, over, putO, memAt, List.map_cons, List.length_cons, ↓reduceIte, getD_mapA (show i + 1 < l.length by omega), getD_mapA (show i < l.length by omega), hi', e1, c1, c2]
    all_goals (repeat' (first | with_reducible rfl | with_reducible apply And.intro | ((with_reducible show drawOK _ = true); rfl))) <;> (try first | omega | (simp only [InR]; omega) | with_reducible assumption)
    · refine nxt hi ?_ ?_
      · rw [hs, hI]
        simp only [decide_eq_false_iff_not] at c1 c2
        simp; omega
      · simp [bel_ints, cs_arr, dep_arr, cs_int, cs_bool, cs_list, cs_rg, cs_mk, AtHead, Same, AllO, Begins, LtAll, headSt, tokz_nil, tokz_cons, tokz1, lk, dep_int, dep_bool, dep_list, dep_rg, dep_mk, memAt, bel_map, bel_mapF, bel_mapO, bel_undef, bel_int, bel_boolv, bel_nilp, bel_nilf, bel_ptr, bel_arr, bel_mp, bel_yld, bel_agg, bel_tup, bel_ref, bel_only, bel_mpr, bel_fn, bel_sl_nil, bel_sl_nilF, bel_sl_nilO, bel_sl_cons, bel_sl_app, belO_cells, belO_tok, belO_dead, belO_deferred, belO_map, belO_iter, belO_loop]
    all_goals
      congr 1
      by_cases q : nearL t.step l = true
      · have := nearL_mono t.step l (i + 1 + 1) q
        rw [hs] at this
        simp at this c1 c2
        omega
      · simpa using q
  · intro hI
    have hn : ¬ ((l.length - 1 + 1 : Nat) : Int) < (l.length : Int) := by omega
    simp only [go_sem, AV.one, drawV, intsOf, keyIdx, over, putO, memAt, List.map_cons, List.length_cons, ↓reduceIte, hn]
    rw [← hI, List.take_of_length_le (by omega)]

def szR (r : Rg) : Int := r.hi - r.lo + 1
def nthL : List Rg → Int → List Int
  | [], _ => []
  | r :: l, n => (r.lo + n % szR r) :: nthL l (n / szR r)
def remL (l : List Rg) (n : Int) : Int := l.foldl (fun n r => n / szR r) n
theorem nthL_snoc (l : List Rg) (r : Rg) (n : Int) : nthL (l ++ [r]) n = nthL l n ++ [r.lo + remL l n % szR r] := by
  induction l generalizing n with
  | nil => rfl
  | cons x l ih => simp only [List.cons_append, nthL, ih]; rfl
theorem remL_snoc (l : List Rg) (r : Rg) (n : Int) : remL (l ++ [r]) n = remL l n / szR r := by simp [remL, List.foldl_append]
theorem nthL_length (l : List Rg) (n : Int) : (nthL l n).length = l.length := by
  induction l generalizing n with
  | nil => rfl
  | cons r l ih => simp [nthL, ih]
theorem remL_bd (l : List Rg) (n : Int) (h : ∀ r ∈ l, 0 ≤ r.hi - r.lo) (hn : 0 ≤ n) : 0 ≤ remL l n ∧ remL l n ≤ n := by
  induction l generalizing n with
  | nil => exact ⟨hn, Int.le_refl _⟩
  | cons r l ih =>
    have hr := h r (by simp)
    have h1 : 0 ≤ n / szR r := Int.ediv_nonneg hn (by unfold szR; omega)
    have h2 : n / szR r ≤ n := Int.ediv_le_self _ hn
    have := ih (n / szR r) (fun r hr => h r (by simp [hr])) h1
    show 0 ≤ remL l (n / szR r) ∧ remL l (n / szR r) ≤ n
    omega
theorem Nth_call (t : Tb) (n : Int) (h : (t.heights.length ≤ 4096 ∧ ∀ r ∈ t.heights, (0 ≤ r.hi - r.lo ∧ r.hi - r.lo ≤ 99) ∧ 0 ≤ r.lo ∧ r.lo ≤ 99) ∧ 0 ≤ n ∧ n ≤ 3000) : CallP Try.prog 77 [Enc.enc t, Enc.enc n] (· = Enc.enc (nthL t.heights n)) := by
  simp only [enc_fnl, enc_fnb, enc_fnc, enc_refc, enc_arr, enc_int, enc_bool, enc_list, enc_rg, enc_mk, enc_tb]
  refine callP_of_vc (Φ := P3) Try.func77 rfl (by rfl) (by rw [Try.ntmps77]; simp) mixed P3_ok (by simp [AV.strip, Tk.strip]) ?_
  rw [Try.ntmps77]
  simp only [Try.f77, startSt, tmFrom]
  simp (maxSteps := 4000000) only [go_sem, AV.one, drawV, intsOf, keyIdx, over, putO, memAt, List.map_cons, List.length_cons, ↓reduceIte]
  refine loopN (t.heights.length) [.slot 5 1] [2, 4] (fun i => [(6, .int .i64 i), (5, .sl ((nthL (t.heights.take i) n).map EncE.cs) (.own 1)), (1, .int .i64 (remL (t.heights.take i) n))]) (fun i m => m.set 1 (.tok i 1)) (fun _ => True) ?_ ?_ ?_ ?_
  · trivial
  · simp [bel_ints, cs_arr, dep_arr, cs_int, cs_bool, cs_list, cs_rg, cs_mk, AtHead, Same, AllO, Begins, LtAll, headSt, tokz_nil, tokz_cons, tokz1, lk, dep_int, dep_bool, dep_list, dep_rg, dep_mk, memAt, bel_map, bel_mapF, bel_mapO, bel_undef, bel_int, bel_boolv, bel_nilp, bel_nilf, bel_ptr, bel_arr, bel_mp, bel_yld, bel_agg, bel_tup, bel_ref, bel_only, bel_mpr, bel_fn, bel_sl_nil, bel_sl_nilF, bel_sl_nilO, bel_sl_cons, bel_sl_app, belO_cells, belO_tok, belO_dead, belO_deferred, belO_map, belO_iter, belO_loop, nthL, remL]
  · intro i hi _
    have hi' := Int.ofNat_lt.2 hi
    have hr := h.1.2 _ (at_mem hi)
    have hb := remL_bd _ n (take_mem (i := i) fun r hr => (h.1.2 r hr).1.1) h.2.1
    have hm := Int.emod_lt_of_pos (remL (t.heights.take i) n) (show 0 < (at_ t.heights i).hi - (at_ t.heights i).lo + 1 by omega)
    have hm' := Int.emod_nonneg (remL (t.heights.take i) n) (show (at_ t.heights i).hi - (at_ t.heights i).lo + 1 ≠ 0 by omega)
    have hl : (nthL (t.heights.take i) n).length = i := by rw [nthL_length]; simp; omega
    simp only [go_sem, AV.one, drawV, intsOf, keyIdx, over, putO, memAt, List.map_cons, List.length_cons, ↓reduceIte, getD_mapA hi, hi', hl]
    all_goals (repeat' (first | with_reducible rfl | with_reducible apply And.intro | ((with_reducible show drawOK _ = true); rfl))) <;> (try first | omega | (simp only [InR]; omega) | with_reducible assumption)
    refine nxt hi trivial ?_
    simp [bel_ints, cs_arr, dep_arr, cs_int, cs_bool, cs_list, cs_rg, cs_mk, AtHead, Same, AllO, Begins, LtAll, headSt, tokz_nil, tokz_cons, tokz1, lk, dep_int, dep_bool, dep_list, dep_rg, dep_mk, memAt, bel_map, bel_mapF, bel_mapO, bel_undef, bel_int, bel_boolv, bel_nilp, bel_nilf, bel_ptr, bel_arr, bel_mp, bel_yld, bel_agg, bel_tup, bel_ref, bel_only, bel_mpr, bel_fn, bel_sl_nil, bel_sl_nilF, bel_sl_nilO, bel_sl_cons, bel_sl_app, belO_cells, belO_tok, belO_dead, belO_deferred, belO_map, belO_iter, belO_loop, take_succ_at hi, nthL_snoc, remL_snoc, szR, cs_int, hl]
  · intro _
    simp only [go_sem, AV.one, drawV, intsOf, keyIdx, over, putO, memAt, List.map_cons, List.length_cons, ↓reduceIte, List.take_length]
def P4 : Specs := addSpec 75 (spec2 (fun (l : List Int) (m : Mk) => (0 ≤ m.frm ∧ m.frm ≤ m.til ∧ m.til < l.length) ∧ l.length ≤ 4096) rightM) (addSpec 78 (spec2 (fun (t : Tb) (l : List Int) => (0 ≤ t.step ∧ t.step ≤ 99) ∧ LOk l) (fun t l => nearL t.step l)) (addSpec 77 (spec2 (fun (t : Tb) (n : Int) => HOk t ∧ 0 ≤ n ∧ n ≤ 3000) (fun t n => nthL t.heights n)) (P3)))
theorem P4_app (g : FuncId) : P4 g = (addSpec 75 (spec2 (fun (l : List Int) (m : Mk) => (0 ≤ m.frm ∧ m.frm ≤ m.til ∧ m.til < l.length) ∧ l.length ≤ 4096) rightM) (addSpec 78 (spec2 (fun (t : Tb) (l : List Int) => (0 ≤ t.step ∧ t.step ≤ 99) ∧ LOk l) (fun t l => nearL t.step l)) (addSpec 77 (spec2 (fun (t : Tb) (n : Int) => HOk t ∧ 0 ≤ n ∧ n ≤ 3000) (fun t n => nthL t.heights n)) (P3)))) g := rfl
theorem P4_ok : SpecsOk Try.prog P4 := addSpec_ok (spec2_ok Right_call) (addSpec_ok (spec2_ok fun t l h => Near_call t l ⟨h.1, h.2.len, h.2.b⟩) (addSpec_ok (spec2_ok fun t n h => Nth_call t n ⟨⟨by have := h.1.len; omega, fun r hr => by have := h.1.h r hr; omega⟩, h.2⟩) (P3_ok)))
attribute [go_sem] P4_app
end Go.Proofs
/- Lists and truths of a table, its error. -/
namespace Go.Proofs
open Go.Fs
set_option linter.unusedSimpArgs false
set_option maxHeartbeats 1000000
set_option maxRecDepth 8000

theorem all_take {α : Type} [Inhabited α] {l : List α} {p : α → Bool} {i : Nat} (h : i < l.length) : (l.take (i + 1)).all p = ((l.take i).all p && p (at_ l i)) := by
  rw [take_succ_at h, List.all_append]; simp
theorem all_at {α : Type} [Inhabited α] {l : List α} {p : α → Bool} {i : Nat} (h : i < l.length) (hp : p (at_ l i) = false) : l.all p = false := by
  rw [List.all_eq_false]; exact ⟨_, at_mem h, by simp [hp]⟩
theorem filter_take {α : Type} [Inhabited α] {l : List α} {p : α → Bool} {i : Nat} (h : i < l.length) : (l.take (i + 1)).filter p = (l.take i).filter p ++ (if p (at_ l i) then [at_ l i] else []) := by
  rw [take_succ_at h, List.filter_append]
  cases c : p (at_ l i) <;> simp [List.filter, c]

theorem nthL_bd (l : List Rg) (n : Int) (h : ∀ r ∈ l, 0 ≤ r.lo ∧ r.lo ≤ r.hi ∧ r.hi ≤ 99) : ∀ x ∈ nthL l n, 0 ≤ x ∧ x ≤ 99 := by
  induction l generalizing n with
  | nil => intro x hx; simp [nthL] at hx
  | cons r l ih =>
    intro x hx
    have hr := h r (by simp)
    have h1 := Int.emod_lt_of_pos n (show 0 < szR r by unfold szR; omega)
    have h2 := Int.emod_nonneg n (show szR r ≠ 0 by unfold szR; omega)
    simp only [nthL, List.mem_cons] at hx
    rcases hx with rfl | hx
    · unfold szR at h1 h2 ⊢; omega
    · exact ih _ (fun r hr => h r (by simp [hr])) x hx
theorem manyN_ok {t : Tb} (h : HOk t) : 0 ≤ manyN t.heights ∧ manyN t.heights ≤ 3000 :=
  manyN_bd _ (fun r hr => by have := h.h r hr; omega) 1 (by omega)

/-- All lists of the table, by their numbers. -/
def listsN (t : Tb) (n : Nat) : List (List Int) := ((List.range n).map fun i : Nat => nthL t.heights i).filter (nearL t.step)
def listsL (t : Tb) : List (List Int) := listsN t (manyN t.heights).toNat
theorem listsN_succ (t : Tb) (n : Nat) : listsN t (n + 1) = listsN t n ++ (if nearL t.step (nthL t.heights n) then [nthL t.heights n] else []) := by
  simp only [listsN, List.range_succ, List.map_append, List.filter_append, List.map_cons, List.map_nil]
  cases h : nearL t.step (nthL t.heights n) <;> simp [List.filter, h]
theorem listsN_len (t : Tb) (n : Nat) : (listsN t n).length ≤ n := by
  have := List.length_filter_le (nearL t.step) ((List.range n).map fun i : Nat => nthL t.heights i)
  simpa [listsN] using this
theorem listsL_len {t : Tb} (h : HOk t) : (listsL t).length ≤ 3000 := by
  have := listsN_len t (manyN t.heights).toNat
  have := manyN_ok h
  unfold listsL; omega
theorem listsL_at {t : Tb} (h : HOk t) : ∀ l ∈ listsL t, l.length = t.heights.length ∧ LOk l := fun l hl => by
  simp only [listsL, listsN, List.mem_filter, List.mem_map] at hl
  obtain ⟨⟨n, _, rfl⟩, _⟩ := hl
  have := nthL_length t.heights n
  have := h.len
  exact ⟨nthL_length _ _, by omega, nthL_bd _ _ h.h⟩
theorem Lists_call (t : Tb) (h : HOk t) : CallP Try.prog 41 [Enc.enc t] (· = Enc.enc (listsL t)) := by
  have hm := manyN_ok h
  have hl := h.len
  have hs := h.s0
  have hs' := h.s1
  simp only [enc_fnl, enc_fnb, enc_fnc, enc_refc, enc_arr, enc_int, enc_bool, enc_list, enc_rg, enc_mk, enc_tb]
  refine callP_of_vc (Φ := P4) Try.func41 rfl (by rfl) (by rw [Try.ntmps41]; simp) mixed P4_ok (by simp [AV.strip, Tk.strip]) ?_
  rw [Try.ntmps41]
  simp only [Try.f41, startSt, tmFrom]
  simp (maxSteps := 4000000) only [go_sem, AV.one, drawV, intsOf, keyIdx, over, putO, memAt, List.map_cons, List.length_cons, ↓reduceIte]
  refine loopN ((manyN t.heights).toNat) [.slot 3 1] [1, 2] (fun i => [(4, .int .i64 i), (3, .sl ((listsN t i).map EncE.cs) (.own 1))]) (fun i m => m.set 1 (.tok (listsN t i).length 1)) (fun _ => True) ?_ ?_ ?_ ?_
  · trivial
  · simp [bel_ints, cs_arr, dep_arr, cs_int, cs_bool, cs_list, cs_rg, cs_mk, AtHead, Same, AllO, Begins, LtAll, headSt, tokz_nil, tokz_cons, tokz1, lk, dep_int, dep_bool, dep_list, dep_rg, dep_mk, memAt, bel_map, bel_mapF, bel_mapO, bel_undef, bel_int, bel_boolv, bel_nilp, bel_nilf, bel_ptr, bel_arr, bel_mp, bel_yld, bel_agg, bel_tup, bel_ref, bel_only, bel_mpr, bel_fn, bel_sl_nil, bel_sl_nilF, bel_sl_nilO, bel_sl_cons, bel_sl_app, belO_cells, belO_tok, belO_dead, belO_deferred, belO_map, belO_iter, belO_loop, listsN]
  · intro i hi _
    have hi' : (i : Int) < manyN t.heights := by omega
    have hn := nthL_length t.heights i
    have p3 : LOk (nthL t.heights (i : Int)) := ⟨by omega, nthL_bd _ _ h.h⟩
    have hll := listsN_len t i
    cases c : nearL t.step (nthL t.heights i) <;>
      simp (maxSteps := 4000000) only [go_sem, AV.one, drawV, intsOf, keyIdx, over, putO, memAt, List.map_cons, List.length_cons, ↓reduceIte, hi', c]
    all_goals all_goals (repeat' (first | with_reducible rfl | with_reducible apply And.intro | ((with_reducible show drawOK _ = true); rfl))) <;> (try first | omega | (simp only [InR]; omega) | with_reducible assumption)
    all_goals
      refine nxt hi trivial ?_
      simp [bel_ints, cs_arr, dep_arr, cs_int, cs_bool, cs_list, cs_rg, cs_mk, AtHead, Same, AllO, Begins, LtAll, headSt, tokz_nil, tokz_cons, tokz1, lk, dep_int, dep_bool, dep_list, dep_rg, dep_mk, memAt, bel_map, bel_mapF, bel_mapO, bel_undef, bel_int, bel_boolv, bel_nilp, bel_nilf, bel_ptr, bel_arr, bel_mp, bel_yld, bel_agg, bel_tup, bel_ref, bel_only, bel_mpr, bel_fn, bel_sl_nil, bel_sl_nilF, bel_sl_nilO, bel_sl_cons, bel_sl_app, belO_cells, belO_tok, belO_dead, belO_deferred, belO_map, belO_iter, belO_loop, listsN_succ, c]
  · intro _
    have hi' : ¬ (((manyN t.heights).toNat : Nat) : Int) < manyN t.heights := by omega
    simp (maxSteps := 4000000) only [go_sem, AV.one, drawV, intsOf, keyIdx, over, putO, memAt, List.map_cons, List.length_cons, ↓reduceIte, hi']
    all_goals (repeat' (first | with_reducible rfl | with_reducible apply And.intro | ((with_reducible show drawOK _ = true); rfl))) <;> (try first | omega | (simp only [InR]; omega) | with_reducible assumption)
    rfl
def P5 : Specs := addSpec 41 (spec1 HOk listsL) (P4)
theorem P5_app (g : FuncId) : P5 g = (addSpec 41 (spec1 HOk listsL) (P4)) g := rfl
theorem P5_ok : SpecsOk Try.prog P5 := addSpec_ok (spec1_ok Lists_call) (P4_ok)
attribute [go_sem] P5_app

theorem fault_all {α : Type} {l : List α} {p : α → Bool} (h : (l.take l.length).all p = true) : l.all p = true := by rwa [List.take_length] at h
def markB (last : Int) (m : Mk) : Bool := inB m.frm 0 last && inB m.til 0 last && decide (m.frm ≤ m.til) && isHeights m.top
/-- The error of a table. -/
def faultT (t : Tb) : Int :=
  if 9 < t.last ∨ 6 < t.levels.length ∨ 5 < t.marks.length then 3
  else if t.last < 0 ∨ (t.heights.length : Int) ≠ t.last + 1 ∨ inB t.step 0 99 = false then 1
  else if t.heights.all isHeights = false then 1
  else if (t.levels.all fun n => inB n 0 99) = false then 1
  else if t.marks.all (markB t.last) = false then 1
  else if 2000 < manyN t.heights then 3
  else if listsL t = [] then 9 else 0
theorem isHeights_iff (r : Rg) : isHeights r = true ↔ 0 ≤ r.lo ∧ r.lo ≤ r.hi ∧ r.hi ≤ 99 := by simp [isHeights, and_assoc]
theorem inB_iff (n lo hi : Int) : inB n lo hi = true ↔ lo ≤ n ∧ n ≤ hi := by simp [inB]
set_option maxHeartbeats 4000000 in
theorem Fault_call (t : Tb) (h : t.heights.length ≤ 4096) : CallP Try.prog 62 [Enc.enc t] (· = Enc.enc (faultT t)) := by
  unfold faultT
  simp only [enc_fnl, enc_fnb, enc_fnc, enc_refc, enc_arr, enc_int, enc_bool, enc_list, enc_rg, enc_mk, enc_tb]
  refine callP_of_vc (Φ := P5) Try.func62 rfl (by rfl) (by rw [Try.ntmps62]; simp) mixed P5_ok (by simp [AV.strip, Tk.strip]) ?_
  rw [Try.ntmps62]
  simp only [Try.f62, startSt, tmFrom]
  simp (maxSteps := 4000000) only [go_sem, AV.one, drawV, intsOf, keyIdx, over, putO, memAt, List.map_cons, List.length_cons, ↓reduceIte]
  refine ⟨fun q => ?_, fun q => ⟨fun q2 => ?_, fun q2 => ?_, fun q2 => ?_⟩⟩
  · rw [if_pos]
    simp at q
    rcases q with (q | q) | q
    · exact .inl q
    · exact .inr (.inl (by omega))
    · exact .inr (.inr (by omega))
  · simp at q q2
    refine ⟨by simpa using q2, (by simp only [InR]; omega)⟩
  all_goals
    have hno0 : ¬ (9 < t.last ∨ 6 < t.levels.length ∨ 5 < t.marks.length) := by simp at q; omega
    simp at q
    rw [if_neg hno0]
  · simp at q2
    rw [if_pos (by rcases q2 with (q2 | q2) | q2 <;> simp [q2])]
  simp at q2
  obtain ⟨⟨c1, c2⟩, c3⟩ := q2
  have hst := (inB_iff _ _ _).1 c3
  have hno : ¬ (t.last < 0 ∨ (t.heights.length : Int) ≠ t.last + 1 ∨ inB t.step 0 99 = false) := by
    rintro (q2 | q2 | q2)
    · omega
    · exact q2 c2
    · simp [c3] at q2
  rw [if_neg hno]
  have hh : ∀ i, i < t.heights.length → (i : Int) + 1 ≤ 4096 := fun i hi => by omega
  refine loopN (t.heights.length) [] [1, 2] (fun i => [(3, .int .i64 i)]) (fun _ m => m) (fun i => (t.heights.take i).all isHeights = true) ?_ ?_ ?_ ?_
  · simp
  · simp [bel_ints, cs_arr, dep_arr, cs_int, cs_bool, cs_list, cs_rg, cs_mk, AtHead, Same, AllO, Begins, LtAll, headSt, tokz_nil, tokz_cons, tokz1, lk, dep_int, dep_bool, dep_list, dep_rg, dep_mk, memAt, bel_map, bel_mapF, bel_mapO, bel_undef, bel_int, bel_boolv, bel_nilp, bel_nilf, bel_ptr, bel_arr, bel_mp, bel_yld, bel_agg, bel_tup, bel_ref, bel_only, bel_mpr, bel_fn, bel_sl_nil, bel_sl_nilF, bel_sl_nilO, bel_sl_cons, bel_sl_app, belO_cells, belO_tok, belO_dead, belO_deferred, belO_map, belO_iter, belO_loop]
  · intro i hi hI
    have hi' := Int.ofNat_lt.2 hi
    cases c : isHeights (at_ t.heights i) <;>
      simp (maxSteps := 4000000) only [go_sem, AV.one, drawV, intsOf, keyIdx, over, putO, memAt, List.map_cons, List.length_cons, ↓reduceIte, hi', getD_mapA hi, c]
    · all_goals (repeat' (first | with_reducible rfl | with_reducible apply And.intro | ((with_reducible show drawOK _ = true); rfl))) <;> (try first | omega | (simp only [InR]; omega) | with_reducible assumption)
      rw [if_pos (all_at hi c)]
    · all_goals (repeat' (first | with_reducible rfl | with_reducible apply And.intro | ((with_reducible show drawOK _ = true); rfl))) <;> (try first | omega | (simp only [InR]; omega) | with_reducible assumption)
      refine nxt hi (by rw [all_take hi, hI, c]; rfl) ?_
      simp [bel_ints, cs_arr, dep_arr, cs_int, cs_bool, cs_list, cs_rg, cs_mk, AtHead, Same, AllO, Begins, LtAll, headSt, tokz_nil, tokz_cons, tokz1, lk, dep_int, dep_bool, dep_list, dep_rg, dep_mk, memAt, bel_map, bel_mapF, bel_mapO, bel_undef, bel_int, bel_boolv, bel_nilp, bel_nilf, bel_ptr, bel_arr, bel_mp, bel_yld, bel_agg, bel_tup, bel_ref, bel_only, bel_mpr, bel_fn, bel_sl_nil, bel_sl_nilF, bel_sl_nilO, bel_sl_cons, bel_sl_app, belO_cells, belO_tok, belO_dead, belO_deferred, belO_map, belO_iter, belO_loop]
  intro hI
  have hI := fault_all hI
  rw [if_neg (by simp [hI])]
  simp (maxSteps := 4000000) only [go_sem, AV.one, drawV, intsOf, keyIdx, over, putO, memAt, List.map_cons, List.length_cons, ↓reduceIte]
  refine loopN (t.levels.length) [] [1, 2] (fun i => [(4, .int .i64 i)]) (fun _ m => m) (fun i => (t.levels.take i).all (fun n => inB n 0 99) = true) ?_ ?_ ?_ ?_
  · simp
  · simp [bel_ints, cs_arr, dep_arr, cs_int, cs_bool, cs_list, cs_rg, cs_mk, AtHead, Same, AllO, Begins, LtAll, headSt, tokz_nil, tokz_cons, tokz1, lk, dep_int, dep_bool, dep_list, dep_rg, dep_mk, memAt, bel_map, bel_mapF, bel_mapO, bel_undef, bel_int, bel_boolv, bel_nilp, bel_nilf, bel_ptr, bel_arr, bel_mp, bel_yld, bel_agg, bel_tup, bel_ref, bel_only, bel_mpr, bel_fn, bel_sl_nil, bel_sl_nilF, bel_sl_nilO, bel_sl_cons, bel_sl_app, belO_cells, belO_tok, belO_dead, belO_deferred, belO_map, belO_iter, belO_loop]
  · intro i hi hI
    have hi' := Int.ofNat_lt.2 hi
    cases c : inB (at_ t.levels i) 0 99 <;>
      simp (maxSteps := 4000000) only [go_sem, AV.one, drawV, intsOf, keyIdx, over, putO, memAt, List.map_cons, List.length_cons, ↓reduceIte, hi', getD_mapA hi, c]
    · all_goals (repeat' (first | with_reducible rfl | with_reducible apply And.intro | ((with_reducible show drawOK _ = true); rfl))) <;> (try first | omega | (simp only [InR]; omega) | with_reducible assumption)
      rw [if_pos (all_at hi c)]
    · all_goals (repeat' (first | with_reducible rfl | with_reducible apply And.intro | ((with_reducible show drawOK _ = true); rfl))) <;> (try first | omega | (simp only [InR]; omega) | with_reducible assumption)
      refine nxt hi (by rw [all_take hi, hI, c]; rfl) ?_
      simp [bel_ints, cs_arr, dep_arr, cs_int, cs_bool, cs_list, cs_rg, cs_mk, AtHead, Same, AllO, Begins, LtAll, headSt, tokz_nil, tokz_cons, tokz1, lk, dep_int, dep_bool, dep_list, dep_rg, dep_mk, memAt, bel_map, bel_mapF, bel_mapO, bel_undef, bel_int, bel_boolv, bel_nilp, bel_nilf, bel_ptr, bel_arr, bel_mp, bel_yld, bel_agg, bel_tup, bel_ref, bel_only, bel_mpr, bel_fn, bel_sl_nil, bel_sl_nilF, bel_sl_nilO, bel_sl_cons, bel_sl_app, belO_cells, belO_tok, belO_dead, belO_deferred, belO_map, belO_iter, belO_loop]
  intro hI2
  have hI2 := fault_all hI2
  rw [if_neg (by simp [hI2])]
  simp (maxSteps := 4000000) only [go_sem, AV.one, drawV, intsOf, keyIdx, over, putO, memAt, List.map_cons, List.length_cons, ↓reduceIte]
  refine loopN (t.marks.length) [] [1, 2] (fun i => [(5, .int .i64 i)]) (fun _ m => m) (fun i => (t.marks.take i).all (markB t.last) = true) ?_ ?_ ?_ ?_
  · simp
  · simp [bel_ints, cs_arr, dep_arr, cs_int, cs_bool, cs_list, cs_rg, cs_mk, AtHead, Same, AllO, Begins, LtAll, headSt, tokz_nil, tokz_cons, tokz1, lk, dep_int, dep_bool, dep_list, dep_rg, dep_mk, memAt, bel_map, bel_mapF, bel_mapO, bel_undef, bel_int, bel_boolv, bel_nilp, bel_nilf, bel_ptr, bel_arr, bel_mp, bel_yld, bel_agg, bel_tup, bel_ref, bel_only, bel_mpr, bel_fn, bel_sl_nil, bel_sl_nilF, bel_sl_nilO, bel_sl_cons, bel_sl_app, belO_cells, belO_tok, belO_dead, belO_deferred, belO_map, belO_iter, belO_loop]
  · intro i hi hI
    have hi' := Int.ofNat_lt.2 hi
    have hm : markB t.last (at_ t.marks i) = (inB (at_ t.marks i).frm 0 t.last && inB (at_ t.marks i).til 0 t.last && decide ((at_ t.marks i).frm ≤ (at_ t.marks i).til) && isHeights (at_ t.marks i).top) := rfl
    simp (maxSteps := 4000000) only [go_sem, AV.one, drawV, intsOf, keyIdx, over, putO, memAt, List.map_cons, List.length_cons, ↓reduceIte, hi', getD_mapA hi]
    refine ⟨by omega, fun q => ?_, fun q => ?_⟩
    · rw [if_pos (all_at hi ?_)]
      rw [hm]
      simp at q
      rcases q with ((q | q) | q) | q <;> (try simp [q]) <;> (intros; omega)
    · simp at q
      refine ⟨(by simp only [InR]; omega), nxt hi ?_ ?_⟩
      · rw [all_take hi, hI, hm]
        simp [q]
      · simp [bel_ints, cs_arr, dep_arr, cs_int, cs_bool, cs_list, cs_rg, cs_mk, AtHead, Same, AllO, Begins, LtAll, headSt, tokz_nil, tokz_cons, tokz1, lk, dep_int, dep_bool, dep_list, dep_rg, dep_mk, memAt, bel_map, bel_mapF, bel_mapO, bel_undef, bel_int, bel_boolv, bel_nilp, bel_nilf, bel_ptr, bel_arr, bel_mp, bel_yld, bel_agg, bel_tup, bel_ref, bel_only, bel_mpr, bel_fn, bel_sl_nil, bel_sl_nilF, bel_sl_nilO, bel_sl_cons, bel_sl_app, belO_cells, belO_tok, belO_dead, belO_deferred, belO_map, belO_iter, belO_loop]
  intro hI3
  have hI3 := fault_all hI3
  rw [if_neg (by simp [hI3])]
  have hok : HOk t := ⟨by omega, fun r hr => (isHeights_iff r).1 (List.all_eq_true.1 hI r hr), hst.1, hst.2⟩
  have hmy := manyN_ok hok
  simp (maxSteps := 4000000) only [go_sem, AV.one, drawV, intsOf, keyIdx, over, putO, memAt, List.map_cons, List.length_cons, ↓reduceIte]
  refine ⟨hok, fun q => ?_, fun q => ?_⟩
  · simp at q
    rw [if_pos q]
  simp at q
  rw [if_neg (by omega)]
  refine loopN ((manyN t.heights).toNat) [] [1, 2] (fun i => [(7, .int .i64 i)]) (fun _ m => m) (fun i => listsN t i = []) ?_ ?_ ?_ ?_
  · simp [listsN]
  · simp [bel_ints, cs_arr, dep_arr, cs_int, cs_bool, cs_list, cs_rg, cs_mk, AtHead, Same, AllO, Begins, LtAll, headSt, tokz_nil, tokz_cons, tokz1, lk, dep_int, dep_bool, dep_list, dep_rg, dep_mk, memAt, bel_map, bel_mapF, bel_mapO, bel_undef, bel_int, bel_boolv, bel_nilp, bel_nilf, bel_ptr, bel_arr, bel_mp, bel_yld, bel_agg, bel_tup, bel_ref, bel_only, bel_mpr, bel_fn, bel_sl_nil, bel_sl_nilF, bel_sl_nilO, bel_sl_cons, bel_sl_app, belO_cells, belO_tok, belO_dead, belO_deferred, belO_map, belO_iter, belO_loop]
  · intro i hi hI
    have hi' : (i : Int) < manyN t.heights := by omega
    have hn := nthL_length t.heights i
    have p3 : LOk (nthL t.heights (i : Int)) := ⟨by omega, nthL_bd _ _ hok.h⟩
    cases c : nearL t.step (nthL t.heights i) <;>
      simp (maxSteps := 4000000) only [go_sem, AV.one, drawV, intsOf, keyIdx, over, putO, memAt, List.map_cons, List.length_cons, ↓reduceIte, hi', c]
    · all_goals (repeat' (first | with_reducible rfl | with_reducible apply And.intro | ((with_reducible show drawOK _ = true); rfl))) <;> (try first | omega | (simp only [InR]; omega) | with_reducible assumption)
      refine nxt hi (by rw [listsN_succ, hI, c]; rfl) ?_
      simp [bel_ints, cs_arr, dep_arr, cs_int, cs_bool, cs_list, cs_rg, cs_mk, AtHead, Same, AllO, Begins, LtAll, headSt, tokz_nil, tokz_cons, tokz1, lk, dep_int, dep_bool, dep_list, dep_rg, dep_mk, memAt, bel_map, bel_mapF, bel_mapO, bel_undef, bel_int, bel_boolv, bel_nilp, bel_nilf, bel_ptr, bel_arr, bel_mp, bel_yld, bel_agg, bel_tup, bel_ref, bel_only, bel_mpr, bel_fn, bel_sl_nil, bel_sl_nilF, bel_sl_nilO, bel_sl_cons, bel_sl_app, belO_cells, belO_tok, belO_dead, belO_deferred, belO_map, belO_iter, belO_loop]
    · all_goals (repeat' (first | with_reducible rfl | with_reducible apply And.intro | ((with_reducible show drawOK _ = true); rfl))) <;> (try first | omega | (simp only [InR]; omega) | with_reducible assumption)
      rw [if_neg]
      intro q
      have : nthL t.heights (i : Int) ∈ listsL t := by
        simp only [listsL, listsN, List.mem_filter, List.mem_map]
        exact ⟨⟨i, by simp; omega, rfl⟩, c⟩
      rw [q] at this
      cases this
  · intro hI
    have hi' : ¬ (((manyN t.heights).toNat : Nat) : Int) < manyN t.heights := by omega
    simp (maxSteps := 4000000) only [go_sem, AV.one, drawV, intsOf, keyIdx, over, putO, memAt, List.map_cons, List.length_cons, ↓reduceIte, hi']
    all_goals (repeat' (first | with_reducible rfl | with_reducible apply And.intro | ((with_reducible show drawOK _ = true); rfl))) <;> (try first | omega | (simp only [InR]; omega) | with_reducible assumption)
    rw [if_pos (show listsL t = [] from hI)]
def P6 : Specs := addSpec 62 (spec1 (fun t : Tb => t.heights.length ≤ 4096) faultT) (P5)
theorem P6_app (g : FuncId) : P6 g = (addSpec 62 (spec1 (fun t : Tb => t.heights.length ≤ 4096) faultT) (P5)) g := rfl
theorem P6_ok : SpecsOk Try.prog P6 := addSpec_ok (spec1_ok Fault_call) (P5_ok)
attribute [go_sem] P6_app
end Go.Proofs
