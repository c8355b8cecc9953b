/- The rules of the walk, gathered under one name. -/
import Derived.Test.YtkamfflnfnjbeaaAbsYield
import Derived.Attr
set_option linter.unusedSimpArgs false
set_option linter.unusedVariables false
namespace Go.Abs
open Go

attribute [go_sem] c_nop c_ops c_seq c_cond c_block c_loop c_exit c_ret wo_cons wo_guard wo_freeze opsK_plain opsK_draw fzK_app brG_true brG_false gB_true gB_false gB_undef normK_app seqK_normal seqK_exit seqK_ret blkK_normal
  blkK_ret blkK_exit itK_normal itK_exit itK_ret cB_bool brC_true brC_false rsK_app endK_ret endK_normal oB_some hB_some vB_some get_v get_c upd_app upd_none envOf_nil envOf_zero envOf_succ one_one one_two rs_val rs_skip rs_call
  v_some h_some vh_some bin_add bin_sub bin_mul bin_eql bin_neq bin_lss bin_leq bin_gtr bin_geq bin_beq bin_bne bin_rem bin_quo bin_shl bin_shr bin_seq bin_sne not_bool neg_int conv_int pick_bool pick_true pick_false load_ip
  load_ref takeRT_agg takeRT_one takeR_agg takeR_one fa_ip fa_ref cells_agg cells_sc cells_sl cells_ms cells_agg' tcells_agg tcells_sc tcells_sl tidy_some List.map_cons List.map_nil Option.getD_some Bool.not_true Bool.not_false
  call_yl callT_some kB_some consO_some consO_none allT_nil allT_t allT_ref allT_ms allT_mp allT_map callee_fn callee_fn' callee_yl mkAgg_eq aggO_some aggO_none mkTup_eq tupO_some tupO_none ext_tup ext_tup' len_sl len_nil len_ms
  List.nil_append List.append_nil List.cons_append List.getElem?_cons_zero List.getElem?_cons_succ Option.map_some Option.bind_some List.drop_zero List.drop_succ_cons List.take_succ_cons List.take_zero List.head?_cons
  List.length_cons List.length_nil and_true true_and and_self Nat.le_refl Nat.zero_add call_fn List.contains_nil List.contains_cons Bool.or_false Bool.false_or Bool.and_false Bool.false_and Bool.and_true Bool.true_and eq_self
  Bool.false_eq_true shrink_same updL_nil updL_cons is_mv is_gmv is_pk is_nw is_nwG is_bx is_bd is_bs is_ld is_st is_nc is_bin is_nt is_ng is_cv is_fn is_sl is_fa is_fd idxS_some is_iaS idxA_some is_iaA ixA_some is_ixA is_ex is_len
  is_app is_mnx is_call srcs_nil srcs_cons parts2_nil parts2_cons parts3_nil parts3_cons optSrc_none optSrc_some consA_some consR_some resF_nil resF_tmp resF_cell retQ_t row_eq rwB_row st_ref stB_row stE_some sto_nil sto_cons
  sto_int sto_bool sto_str sto_slice sto_sl sto_ip sto_fn sto_ms sto_ref sto_mp isAgg_agg isAgg_agg' isAgg_sc isAgg_sl isAgg_ip isAgg_fn isAgg_ms isAgg_ref cells_ip cells_fn cells_ref cells_mp pack_true pack_one splice_eq shB_some
  shrink_cut consH_some consHO_some mapH_nil mapH_cons frzObj_row frzObj_gone frzObj_map av_nil av_cons av_t av_ms av_ref av_mp av_agg av_map fromB_app frV_some frzF_app frz_t frz_ms frz_ref frz_mp ixB_some ix_sl ix_ms ixa_ip
  ixa_ref ap_eq apS_none apS_none0 apS_sl apS_sl0 apS_ms0 apR_row el_sl el_nil elB_row grow_nil bx_im bx_mut bd_eq bdB_some fillR_nil fillR_cons bs_eq bsB_some bsA_some bsA_none fillE_nil fillE_cons rep_succ rep_zero fn_eq fnB_some
  fld_eq mnx_int sl_lo sl_hi sl_clip List.set_cons_zero List.set_cons_succ decide_true decide_false List.isEmpty_cons snT_some snA_some snS_some snL_some sn_tup sn_agg sn_ms sn_t consT_some mapS_nil mapS_cons mapS_map retQ_tup
  retQ_ms retQ_agg asNat_eq sl_both List.length_map Int.natCast_nonneg Int.toNat_natCast wo_nil_p wo_nil_d wo_nil_t opsK_tr sk_p sk_d sk_t tn_some tk_objs tk_cal tkC_fn ob_t ob_ref ob_ms ob_mp List.flatMap_cons List.flatMap_nil
  Nat.sub_self List.range'_zero rowIs_row rowEs_row rowMr_row ap_any el_full appT_some mapS_app av_app true_or or_true List.length_append List.length_drop List.length_take Nat.zero_le grow_ms grow_sl wrap_i64 kP_some callS_some
  callS_none callT_none scAll_nil scAll_cons plain_sc plain_agg plAll_nil plAll_sc plAll_agg plain_tup snO_some snR_some sn_ref sn_mp consT_none bne_tt bne_ff bne_tf bne_ft beq_tt beq_ff beq_tf beq_ft bne_xt bne_xf bne_tx bne_fx
  bne_xx beq_xt beq_xf Bool.not_not fnB_none fnB_none' nm_t nm_ref nm_ms nm_mp nm_agg nm_fn nm_nil nm_cons nm_map nm_row reachB_nil reachB_cons reach_succ fzB_some freeze_eq gone_nil gone_cons tO_some snRp_some frz_refX snp_t
  mapSp_nil mapSp_cons mapSp_map nc0 nc1 ncOf bits_i64 bits_u64 bits_u8 bits_u16 bits_u32 bits_i32 call_inl Bool.true_or Bool.or_true Nat.min_eq_left Nat.min_eq_right nil_ip nil_ref nil_fn nil_fn' nil_yl bin_or_i64 bin_and_i64
  bin_xor_i64 bin_or_u64 bin_and_u64 bin_xor_u64 bin_andNot_u64 grS_some grB_nil gAV_nil gAV_cons gR_nil gR_cons lenM_map lenMV_mp rfL_none rfL_ret rfL_exit rfEnd_app rfC_call c_rangeF loop_eq lpO_loop cutE_app setE_nil setE_cons
  bzB_some ylB_normal ylB_ret ylB_exit ylA_normal busy_eq bzO_loop idle_eq idO_none idO_some avTs_nil avTs_cons frz_loop List.zip_cons_cons List.zip_nil_left cells_yl isAgg_yl sto_yl av_yl ob_yl allT_yl bx_yl frz_yl binE_agg
  binE_slc binE_nil binE_msn slB_eq slB_ne eqV_app eqR_eq eqR_ne rho_tmp mkSl_app cpA_some cpD_ms prB_no prB_cons prB_sc prB_ms call_prim

end Go.Abs
