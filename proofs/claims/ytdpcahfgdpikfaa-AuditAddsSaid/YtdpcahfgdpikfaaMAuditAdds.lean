/- AuditAdds: what a link more makes of links, and a link's Self, are those of the document; the links stay as they were. No condition. -/
import Derived.Test.YtdpcahfgdpikfaaGt3
import Derived.Test.YtdpcahfgdpikfaaGt18
namespace Go.Proofs.Ytdpcahfgdpikfaa.lawAuditAdds
open Go.ChangeShapes Go.WideShapes Go.ChangeAt Go.RowKit
set_option linter.unusedVariables false
set_option maxRecDepth 4000
theorem go_LAuditAdds {A B : Prop} (h : Held B → A := by
  intro hEnd
  repeat (first | refine OW_neqQF s_eqr_Tag rfl rfl (by assumption) (by first | assumption | rfl) ?_ | refine OW_eqlIF rfl rfl (by assumption) ?_ | refine OW_build _ _ a_bldTag rfl ?_ | refine OW_sliceHiN und_Links el_Link rfl rfl _ rfl (by omega) ?_ | refine OW_neqKF rfl rfl (by assumption) ?_ | refine OW_lenS und_Acts rfl ?_ | refine OW_idxN und_Acts el_Act13 rfl rfl _ rfl (by omega) ?_ | refine OW_fieldO fldo_AA0 rfl ?_ | refine OW_fieldO fldo_AA1 rfl ?_ | refine OW_fieldO fldo_AA2 rfl ?_ | refine OW_fieldO fldo_AA3 rfl ?_ | refine OW_fieldO fldo_AA4 rfl ?_ | refine OW_fieldO fldo_AA5 rfl ?_ | refine OW_eqlIT rfl rfl (by first | assumption | rfl) ?_ | refine OW_eqlQT s_eqr_Tag rfl rfl (by assumption) (by first | assumption | rfl) ?_ | refine OW_eqlKT rfl rfl (by assumption) ?_ | refine OW_sliceLoN 1 und_Links el_Link rfl rfl rfl (by assumption) ?_ | refine OW_neqIF rfl rfl (by first | assumption | rfl) ?_ | (refine OW_isLoad ?_; refine OW_loadM (by first | with_reducible exact s_agg_Tag | with_reducible exact agg_Link) rfl (by apply_assumption; assumption) ?_) | refine OW_idxN und_Links el_Link rfl rfl 0 rfl (Nat.le_of_ble_eq_true rfl) ?_ | refine OW_idxN und_Links el_Link rfl rfl 1 rfl (Nat.le_of_ble_eq_true rfl) ?_ | refine OW_neqIT rfl rfl (by assumption) ?_ | refine OW_neqQF s_eqr_Tag rfl rfl (by assumption) (by assumption) ?_ | refine OW_neqQT s_eqr_Tag rfl rfl (by assumption) (by assumption) (by assumption) ?_ | refine OW_fieldB fldo_L0 rfl ?_ | refine OW_fieldB fldo_L1 rfl ?_ | refine OW_fieldB fldo_L2 rfl ?_ | refine OW_fieldB fldo_L3 rfl ?_ | refine OW_fieldB fldo_L4 rfl ?_ | refine OW_fieldB fldo_L5 rfl ?_ | refine OW_fieldB fldo_L6 rfl ?_ | refine OW_fieldB fldo_L7 rfl ?_ | refine OW_fieldB fldo_L8 rfl ?_ | refine OW_fieldO fldo_L0 rfl ?_ | refine OW_fieldO fldo_L4 rfl ?_ | refine OW_fieldO fldo_L7 rfl ?_ | refine OW_fieldO fldo_L8 rfl ?_ | refine OW_lenS und_Links rfl ?_ | refine OW_idxN und_Links el_Link rfl rfl _ rfl (by omega) ?_ | refine OW_moveV (.int _ _) rfl ?_ | refine OW_moveV (.slice _ _ _) rfl ?_ | refine OW_moveV (.bool _) rfl ?_ | refine OW_moveV (.pointer _) rfl ?_ | refine OW_moveV (.string _) rfl ?_ | refine OW_moveV (.agg _) rfl ?_ | refine OW_moveV (.tuple _) rfl ?_ | refine OW_nil ?_ | refine thenE_normal ?_ | refine CW_seq ?_ | refine CW_region (by kernel_rfl) ?_ | refine OW_assignV (.int _ _) rfl ?_ | refine OW_assignV (.slice _ _ _) rfl ?_ | refine OW_assignV (.bool _) rfl ?_ | refine OW_assignV (.pointer _) rfl ?_ | refine OW_assignV (.string _) rfl ?_ | refine OW_assignV (.agg _) rfl ?_ | refine OW_assignV (.tuple _) rfl ?_ | refine OW_addI rfl rfl (by omega) ?_ | refine OW_subI rfl rfl (by omega) ?_ | refine OW_mulI rfl rfl (by omega) ?_ | refine OW_lss rfl rfl ?_ | refine OW_extract rfl rfl ?_ | refine OW_gtr rfl rfl ?_ | refine OW_leq rfl rfl ?_ | refine OW_geq rfl rfl ?_ | refine OW_eql rfl rfl ?_ | refine OW_neq rfl rfl ?_ | refine OW_not rfl ?_ | refine OW_pickT rfl _ rfl ?_ | refine OW_pickF rfl (.bool _) rfl ?_ | refine OW_pickB rfl rfl rfl ?_ | refine OW_move ?_ | refine OW_assign ?_ | refine OW_pass rfl ?_ | refine OW_take rfl ?_ | refine OW_lenS (by first | with_reducible exact und_bytes | with_reducible exact und_bytess) rfl ?_ | refine OW_convInt (by first | with_reducible exact und_u8 | with_reducible exact und_u64 | with_reducible exact und_int | with_reducible exact und_u32) (by first | with_reducible exact und_u8 | with_reducible exact und_u64 | with_reducible exact und_int | with_reducible exact und_u32) rfl ?_ | refine OW_add rfl rfl ?_ | refine OW_sub rfl rfl ?_ | refine OW_mul rfl rfl ?_ | refine OW_min2 rfl rfl ?_ | refine OW_max2 rfl rfl ?_ | refine OW_neg rfl ?_ | refine CW_block ?_ | refine CW_condT rfl ?_ | refine CW_condF rfl ?_ | refine CW_exit ?_ | refine CW_ret ?_ | refine CW_skip ?_ | refine LW_seq ?_ | refine LW_regC ?_ | refine LW_condC ?_ | refine LW_regF ?_ | refine LW_condF ?_ | refine FW_seq ?_ | refine FW_region (by kernel_rfl) ?_ | refine FW_block ?_ | refine FW_condT rfl ?_ | refine FW_condF rfl ?_ | refine FW_exit ?_ | refine FW_ret ?_ | refine FW_skip ?_ | refine LW_ret ?_ | refine LW_skip ?_ | refine thenE_exit ?_ | refine thenE_ret ?_ | refine inBlockE_normal ?_ | refine inBlockE_same ?_ | refine inBlockE_ret ?_ | refine inBlockE_ne (by rfl) ?_ | refine OW_eqlB (by with_reducible exact und_bool) rfl rfl ?_ | refine OW_neqB (by with_reducible exact und_bool) rfl rfl ?_ | refine OW_idxS (by with_reducible exact und_bytes) one_u8 rfl rfl _ rfl (by omega) ?_ | refine OW_idxS (by with_reducible exact und_bytess) one_bytes rfl rfl _ rfl (by omega) ?_ | refine OW_load1 (by first | with_reducible exact one_u8 | with_reducible exact one_bytes) rfl _ (by assumption) ?_ | refine OW_load1 s_int rfl _ (by assumption) ?_ | (refine OW_isLoad ?_; refine OW_loadBk (by first | with_reducible exact s_int | with_reducible exact one_u8) rfl (by assumption) _ (by rfl) ?_))
  exact hEnd.out) (k : B) : A := h ⟨k⟩
theorem oy_LAuditAdds {A B : Prop} (h : Held B → A := by
  intro hEnd
  repeat (first
    | refine OY_done ?_
    | (apply OY_p _ rfl
       · intro wd
         (first | refine OW_neqQF s_eqr_Tag rfl rfl (by assumption) (by first | assumption | rfl) ?_ | refine OW_eqlIF rfl rfl (by assumption) ?_ | refine OW_build _ _ a_bldTag rfl ?_ | refine OW_sliceHiN und_Links el_Link rfl rfl _ rfl (by omega) ?_ | refine OW_neqKF rfl rfl (by assumption) ?_ | refine OW_lenS und_Acts rfl ?_ | refine OW_idxN und_Acts el_Act13 rfl rfl _ rfl (by omega) ?_ | refine OW_fieldO fldo_AA0 rfl ?_ | refine OW_fieldO fldo_AA1 rfl ?_ | refine OW_fieldO fldo_AA2 rfl ?_ | refine OW_fieldO fldo_AA3 rfl ?_ | refine OW_fieldO fldo_AA4 rfl ?_ | refine OW_fieldO fldo_AA5 rfl ?_ | refine OW_eqlIT rfl rfl (by first | assumption | rfl) ?_ | refine OW_eqlQT s_eqr_Tag rfl rfl (by assumption) (by first | assumption | rfl) ?_ | refine OW_eqlKT rfl rfl (by assumption) ?_ | refine OW_sliceLoN 1 und_Links el_Link rfl rfl rfl (by assumption) ?_ | refine OW_neqIF rfl rfl (by first | assumption | rfl) ?_ | (refine OW_isLoad ?_; refine OW_loadM (by first | with_reducible exact s_agg_Tag | with_reducible exact agg_Link) rfl (by apply_assumption; assumption) ?_) | refine OW_idxN und_Links el_Link rfl rfl 0 rfl (Nat.le_of_ble_eq_true rfl) ?_ | refine OW_idxN und_Links el_Link rfl rfl 1 rfl (Nat.le_of_ble_eq_true rfl) ?_ | refine OW_neqIT rfl rfl (by assumption) ?_ | refine OW_neqQF s_eqr_Tag rfl rfl (by assumption) (by assumption) ?_ | refine OW_neqQT s_eqr_Tag rfl rfl (by assumption) (by assumption) (by assumption) ?_ | refine OW_fieldB fldo_L0 rfl ?_ | refine OW_fieldB fldo_L1 rfl ?_ | refine OW_fieldB fldo_L2 rfl ?_ | refine OW_fieldB fldo_L3 rfl ?_ | refine OW_fieldB fldo_L4 rfl ?_ | refine OW_fieldB fldo_L5 rfl ?_ | refine OW_fieldB fldo_L6 rfl ?_ | refine OW_fieldB fldo_L7 rfl ?_ | refine OW_fieldB fldo_L8 rfl ?_ | refine OW_fieldO fldo_L0 rfl ?_ | refine OW_fieldO fldo_L4 rfl ?_ | refine OW_fieldO fldo_L7 rfl ?_ | refine OW_fieldO fldo_L8 rfl ?_ | refine OW_lenS und_Links rfl ?_ | refine OW_idxN und_Links el_Link rfl rfl _ rfl (by omega) ?_ | refine OW_moveV (.int _ _) rfl ?_ | refine OW_moveV (.slice _ _ _) rfl ?_ | refine OW_moveV (.bool _) rfl ?_ | refine OW_moveV (.pointer _) rfl ?_ | refine OW_moveV (.string _) rfl ?_ | refine OW_moveV (.agg _) rfl ?_ | refine OW_moveV (.tuple _) rfl ?_ | refine OW_nil ?_ | refine thenE_normal ?_ | refine CW_seq ?_ | refine CW_region (by kernel_rfl) ?_ | refine OW_assignV (.int _ _) rfl ?_ | refine OW_assignV (.slice _ _ _) rfl ?_ | refine OW_assignV (.bool _) rfl ?_ | refine OW_assignV (.pointer _) rfl ?_ | refine OW_assignV (.string _) rfl ?_ | refine OW_assignV (.agg _) rfl ?_ | refine OW_assignV (.tuple _) rfl ?_ | refine OW_addI rfl rfl (by omega) ?_ | refine OW_subI rfl rfl (by omega) ?_ | refine OW_mulI rfl rfl (by omega) ?_ | refine OW_lss rfl rfl ?_ | refine OW_extract rfl rfl ?_ | refine OW_gtr rfl rfl ?_ | refine OW_leq rfl rfl ?_ | refine OW_geq rfl rfl ?_ | refine OW_eql rfl rfl ?_ | refine OW_neq rfl rfl ?_ | refine OW_not rfl ?_ | refine OW_pickT rfl _ rfl ?_ | refine OW_pickF rfl (.bool _) rfl ?_ | refine OW_pickB rfl rfl rfl ?_ | refine OW_move ?_ | refine OW_assign ?_ | refine OW_pass rfl ?_ | refine OW_take rfl ?_ | refine OW_lenS (by first | with_reducible exact und_bytes | with_reducible exact und_bytess) rfl ?_ | refine OW_convInt (by first | with_reducible exact und_u8 | with_reducible exact und_u64 | with_reducible exact und_int | with_reducible exact und_u32) (by first | with_reducible exact und_u8 | with_reducible exact und_u64 | with_reducible exact und_int | with_reducible exact und_u32) rfl ?_ | refine OW_add rfl rfl ?_ | refine OW_sub rfl rfl ?_ | refine OW_mul rfl rfl ?_ | refine OW_min2 rfl rfl ?_ | refine OW_max2 rfl rfl ?_ | refine OW_neg rfl ?_ | refine CW_block ?_ | refine CW_condT rfl ?_ | refine CW_condF rfl ?_ | refine CW_exit ?_ | refine CW_ret ?_ | refine CW_skip ?_ | refine LW_seq ?_ | refine LW_regC ?_ | refine LW_condC ?_ | refine LW_regF ?_ | refine LW_condF ?_ | refine FW_seq ?_ | refine FW_region (by kernel_rfl) ?_ | refine FW_block ?_ | refine FW_condT rfl ?_ | refine FW_condF rfl ?_ | refine FW_exit ?_ | refine FW_ret ?_ | refine FW_skip ?_ | refine LW_ret ?_ | refine LW_skip ?_ | refine thenE_exit ?_ | refine thenE_ret ?_ | refine inBlockE_normal ?_ | refine inBlockE_same ?_ | refine inBlockE_ret ?_ | refine inBlockE_ne (by rfl) ?_ | refine OW_eqlB (by with_reducible exact und_bool) rfl rfl ?_ | refine OW_neqB (by with_reducible exact und_bool) rfl rfl ?_ | refine OW_idxS (by with_reducible exact und_bytes) one_u8 rfl rfl _ rfl (by omega) ?_ | refine OW_idxS (by with_reducible exact und_bytess) one_bytes rfl rfl _ rfl (by omega) ?_ | refine OW_load1 (by first | with_reducible exact one_u8 | with_reducible exact one_bytes) rfl _ (by assumption) ?_ | refine OW_load1 s_int rfl _ (by assumption) ?_ | (refine OW_isLoad ?_; refine OW_loadBk (by first | with_reducible exact s_int | with_reducible exact one_u8) rfl (by assumption) _ (by rfl) ?_))
         refine OW_nil ?_
         exact stay_mk _ _ _ _)
    | (apply OY_q _ rfl
       · intro wd hwd
         (first | refine OW_neqQF s_eqr_Tag rfl rfl (by assumption) (by first | assumption | rfl) ?_ | refine OW_eqlIF rfl rfl (by assumption) ?_ | refine OW_build _ _ a_bldTag rfl ?_ | refine OW_sliceHiN und_Links el_Link rfl rfl _ rfl (by omega) ?_ | refine OW_neqKF rfl rfl (by assumption) ?_ | refine OW_lenS und_Acts rfl ?_ | refine OW_idxN und_Acts el_Act13 rfl rfl _ rfl (by omega) ?_ | refine OW_fieldO fldo_AA0 rfl ?_ | refine OW_fieldO fldo_AA1 rfl ?_ | refine OW_fieldO fldo_AA2 rfl ?_ | refine OW_fieldO fldo_AA3 rfl ?_ | refine OW_fieldO fldo_AA4 rfl ?_ | refine OW_fieldO fldo_AA5 rfl ?_ | refine OW_eqlIT rfl rfl (by first | assumption | rfl) ?_ | refine OW_eqlQT s_eqr_Tag rfl rfl (by assumption) (by first | assumption | rfl) ?_ | refine OW_eqlKT rfl rfl (by assumption) ?_ | refine OW_sliceLoN 1 und_Links el_Link rfl rfl rfl (by assumption) ?_ | refine OW_neqIF rfl rfl (by first | assumption | rfl) ?_ | (refine OW_isLoad ?_; refine OW_loadM (by first | with_reducible exact s_agg_Tag | with_reducible exact agg_Link) rfl (by apply_assumption; assumption) ?_) | refine OW_idxN und_Links el_Link rfl rfl 0 rfl (Nat.le_of_ble_eq_true rfl) ?_ | refine OW_idxN und_Links el_Link rfl rfl 1 rfl (Nat.le_of_ble_eq_true rfl) ?_ | refine OW_neqIT rfl rfl (by assumption) ?_ | refine OW_neqQF s_eqr_Tag rfl rfl (by assumption) (by assumption) ?_ | refine OW_neqQT s_eqr_Tag rfl rfl (by assumption) (by assumption) (by assumption) ?_ | refine OW_fieldB fldo_L0 rfl ?_ | refine OW_fieldB fldo_L1 rfl ?_ | refine OW_fieldB fldo_L2 rfl ?_ | refine OW_fieldB fldo_L3 rfl ?_ | refine OW_fieldB fldo_L4 rfl ?_ | refine OW_fieldB fldo_L5 rfl ?_ | refine OW_fieldB fldo_L6 rfl ?_ | refine OW_fieldB fldo_L7 rfl ?_ | refine OW_fieldB fldo_L8 rfl ?_ | refine OW_fieldO fldo_L0 rfl ?_ | refine OW_fieldO fldo_L4 rfl ?_ | refine OW_fieldO fldo_L7 rfl ?_ | refine OW_fieldO fldo_L8 rfl ?_ | refine OW_lenS und_Links rfl ?_ | refine OW_idxN und_Links el_Link rfl rfl _ rfl (by omega) ?_ | refine OW_moveV (.int _ _) rfl ?_ | refine OW_moveV (.slice _ _ _) rfl ?_ | refine OW_moveV (.bool _) rfl ?_ | refine OW_moveV (.pointer _) rfl ?_ | refine OW_moveV (.string _) rfl ?_ | refine OW_moveV (.agg _) rfl ?_ | refine OW_moveV (.tuple _) rfl ?_ | refine OW_nil ?_ | refine thenE_normal ?_ | refine CW_seq ?_ | refine CW_region (by kernel_rfl) ?_ | refine OW_assignV (.int _ _) rfl ?_ | refine OW_assignV (.slice _ _ _) rfl ?_ | refine OW_assignV (.bool _) rfl ?_ | refine OW_assignV (.pointer _) rfl ?_ | refine OW_assignV (.string _) rfl ?_ | refine OW_assignV (.agg _) rfl ?_ | refine OW_assignV (.tuple _) rfl ?_ | refine OW_addI rfl rfl (by omega) ?_ | refine OW_subI rfl rfl (by omega) ?_ | refine OW_mulI rfl rfl (by omega) ?_ | refine OW_lss rfl rfl ?_ | refine OW_extract rfl rfl ?_ | refine OW_gtr rfl rfl ?_ | refine OW_leq rfl rfl ?_ | refine OW_geq rfl rfl ?_ | refine OW_eql rfl rfl ?_ | refine OW_neq rfl rfl ?_ | refine OW_not rfl ?_ | refine OW_pickT rfl _ rfl ?_ | refine OW_pickF rfl (.bool _) rfl ?_ | refine OW_pickB rfl rfl rfl ?_ | refine OW_move ?_ | refine OW_assign ?_ | refine OW_pass rfl ?_ | refine OW_take rfl ?_ | refine OW_lenS (by first | with_reducible exact und_bytes | with_reducible exact und_bytess) rfl ?_ | refine OW_convInt (by first | with_reducible exact und_u8 | with_reducible exact und_u64 | with_reducible exact und_int | with_reducible exact und_u32) (by first | with_reducible exact und_u8 | with_reducible exact und_u64 | with_reducible exact und_int | with_reducible exact und_u32) rfl ?_ | refine OW_add rfl rfl ?_ | refine OW_sub rfl rfl ?_ | refine OW_mul rfl rfl ?_ | refine OW_min2 rfl rfl ?_ | refine OW_max2 rfl rfl ?_ | refine OW_neg rfl ?_ | refine CW_block ?_ | refine CW_condT rfl ?_ | refine CW_condF rfl ?_ | refine CW_exit ?_ | refine CW_ret ?_ | refine CW_skip ?_ | refine LW_seq ?_ | refine LW_regC ?_ | refine LW_condC ?_ | refine LW_regF ?_ | refine LW_condF ?_ | refine FW_seq ?_ | refine FW_region (by kernel_rfl) ?_ | refine FW_block ?_ | refine FW_condT rfl ?_ | refine FW_condF rfl ?_ | refine FW_exit ?_ | refine FW_ret ?_ | refine FW_skip ?_ | refine LW_ret ?_ | refine LW_skip ?_ | refine thenE_exit ?_ | refine thenE_ret ?_ | refine inBlockE_normal ?_ | refine inBlockE_same ?_ | refine inBlockE_ret ?_ | refine inBlockE_ne (by rfl) ?_ | refine OW_eqlB (by with_reducible exact und_bool) rfl rfl ?_ | refine OW_neqB (by with_reducible exact und_bool) rfl rfl ?_ | refine OW_idxS (by with_reducible exact und_bytes) one_u8 rfl rfl _ rfl (by omega) ?_ | refine OW_idxS (by with_reducible exact und_bytess) one_bytes rfl rfl _ rfl (by omega) ?_ | refine OW_load1 (by first | with_reducible exact one_u8 | with_reducible exact one_bytes) rfl _ (by assumption) ?_ | refine OW_load1 s_int rfl _ (by assumption) ?_ | (refine OW_isLoad ?_; refine OW_loadBk (by first | with_reducible exact s_int | with_reducible exact one_u8) rfl (by assumption) _ (by rfl) ?_) | (refine OW_isLoad ?_; refine OW_loadBk (by first | with_reducible exact one_u8 | with_reducible exact one_bytes | with_reducible exact one_bool | with_reducible exact one_int | with_reducible exact one_errno | with_reducible exact one_u32 | with_reducible exact one_u64 | with_reducible exact one_string | with_reducible exact s_int | with_reducible exact one_u8) rfl (by apply_assumption; assumption) _ (by first | assumption | rfl) ?_) | refine OW_load1 (by first | with_reducible exact one_u8 | with_reducible exact one_bytes | with_reducible exact one_bool | with_reducible exact one_int | with_reducible exact one_errno | with_reducible exact one_u32 | with_reducible exact one_u64 | with_reducible exact one_string | with_reducible exact s_int | with_reducible exact one_u8) rfl _ (by apply_assumption; assumption) ?_)
         refine OW_nil ?_
         exact stay_mk _ _ _ _)
    | refine OY_ppass rfl rfl ?_
    | refine OY_qpass rfl rfl ?_
    | (apply OY_ptake _ rfl rfl
       · intro wd
         (first | refine OW_neqQF s_eqr_Tag rfl rfl (by assumption) (by first | assumption | rfl) ?_ | refine OW_eqlIF rfl rfl (by assumption) ?_ | refine OW_build _ _ a_bldTag rfl ?_ | refine OW_sliceHiN und_Links el_Link rfl rfl _ rfl (by omega) ?_ | refine OW_neqKF rfl rfl (by assumption) ?_ | refine OW_lenS und_Acts rfl ?_ | refine OW_idxN und_Acts el_Act13 rfl rfl _ rfl (by omega) ?_ | refine OW_fieldO fldo_AA0 rfl ?_ | refine OW_fieldO fldo_AA1 rfl ?_ | refine OW_fieldO fldo_AA2 rfl ?_ | refine OW_fieldO fldo_AA3 rfl ?_ | refine OW_fieldO fldo_AA4 rfl ?_ | refine OW_fieldO fldo_AA5 rfl ?_ | refine OW_eqlIT rfl rfl (by first | assumption | rfl) ?_ | refine OW_eqlQT s_eqr_Tag rfl rfl (by assumption) (by first | assumption | rfl) ?_ | refine OW_eqlKT rfl rfl (by assumption) ?_ | refine OW_sliceLoN 1 und_Links el_Link rfl rfl rfl (by assumption) ?_ | refine OW_neqIF rfl rfl (by first | assumption | rfl) ?_ | (refine OW_isLoad ?_; refine OW_loadM (by first | with_reducible exact s_agg_Tag | with_reducible exact agg_Link) rfl (by apply_assumption; assumption) ?_) | refine OW_idxN und_Links el_Link rfl rfl 0 rfl (Nat.le_of_ble_eq_true rfl) ?_ | refine OW_idxN und_Links el_Link rfl rfl 1 rfl (Nat.le_of_ble_eq_true rfl) ?_ | refine OW_neqIT rfl rfl (by assumption) ?_ | refine OW_neqQF s_eqr_Tag rfl rfl (by assumption) (by assumption) ?_ | refine OW_neqQT s_eqr_Tag rfl rfl (by assumption) (by assumption) (by assumption) ?_ | refine OW_fieldB fldo_L0 rfl ?_ | refine OW_fieldB fldo_L1 rfl ?_ | refine OW_fieldB fldo_L2 rfl ?_ | refine OW_fieldB fldo_L3 rfl ?_ | refine OW_fieldB fldo_L4 rfl ?_ | refine OW_fieldB fldo_L5 rfl ?_ | refine OW_fieldB fldo_L6 rfl ?_ | refine OW_fieldB fldo_L7 rfl ?_ | refine OW_fieldB fldo_L8 rfl ?_ | refine OW_fieldO fldo_L0 rfl ?_ | refine OW_fieldO fldo_L4 rfl ?_ | refine OW_fieldO fldo_L7 rfl ?_ | refine OW_fieldO fldo_L8 rfl ?_ | refine OW_lenS und_Links rfl ?_ | refine OW_idxN und_Links el_Link rfl rfl _ rfl (by omega) ?_ | refine OW_moveV (.int _ _) rfl ?_ | refine OW_moveV (.slice _ _ _) rfl ?_ | refine OW_moveV (.bool _) rfl ?_ | refine OW_moveV (.pointer _) rfl ?_ | refine OW_moveV (.string _) rfl ?_ | refine OW_moveV (.agg _) rfl ?_ | refine OW_moveV (.tuple _) rfl ?_ | refine OW_nil ?_ | refine thenE_normal ?_ | refine CW_seq ?_ | refine CW_region (by kernel_rfl) ?_ | refine OW_assignV (.int _ _) rfl ?_ | refine OW_assignV (.slice _ _ _) rfl ?_ | refine OW_assignV (.bool _) rfl ?_ | refine OW_assignV (.pointer _) rfl ?_ | refine OW_assignV (.string _) rfl ?_ | refine OW_assignV (.agg _) rfl ?_ | refine OW_assignV (.tuple _) rfl ?_ | refine OW_addI rfl rfl (by omega) ?_ | refine OW_subI rfl rfl (by omega) ?_ | refine OW_mulI rfl rfl (by omega) ?_ | refine OW_lss rfl rfl ?_ | refine OW_extract rfl rfl ?_ | refine OW_gtr rfl rfl ?_ | refine OW_leq rfl rfl ?_ | refine OW_geq rfl rfl ?_ | refine OW_eql rfl rfl ?_ | refine OW_neq rfl rfl ?_ | refine OW_not rfl ?_ | refine OW_pickT rfl _ rfl ?_ | refine OW_pickF rfl (.bool _) rfl ?_ | refine OW_pickB rfl rfl rfl ?_ | refine OW_move ?_ | refine OW_assign ?_ | refine OW_pass rfl ?_ | refine OW_take rfl ?_ | refine OW_lenS (by first | with_reducible exact und_bytes | with_reducible exact und_bytess) rfl ?_ | refine OW_convInt (by first | with_reducible exact und_u8 | with_reducible exact und_u64 | with_reducible exact und_int | with_reducible exact und_u32) (by first | with_reducible exact und_u8 | with_reducible exact und_u64 | with_reducible exact und_int | with_reducible exact und_u32) rfl ?_ | refine OW_add rfl rfl ?_ | refine OW_sub rfl rfl ?_ | refine OW_mul rfl rfl ?_ | refine OW_min2 rfl rfl ?_ | refine OW_max2 rfl rfl ?_ | refine OW_neg rfl ?_ | refine CW_block ?_ | refine CW_condT rfl ?_ | refine CW_condF rfl ?_ | refine CW_exit ?_ | refine CW_ret ?_ | refine CW_skip ?_ | refine LW_seq ?_ | refine LW_regC ?_ | refine LW_condC ?_ | refine LW_regF ?_ | refine LW_condF ?_ | refine FW_seq ?_ | refine FW_region (by kernel_rfl) ?_ | refine FW_block ?_ | refine FW_condT rfl ?_ | refine FW_condF rfl ?_ | refine FW_exit ?_ | refine FW_ret ?_ | refine FW_skip ?_ | refine LW_ret ?_ | refine LW_skip ?_ | refine thenE_exit ?_ | refine thenE_ret ?_ | refine inBlockE_normal ?_ | refine inBlockE_same ?_ | refine inBlockE_ret ?_ | refine inBlockE_ne (by rfl) ?_ | refine OW_eqlB (by with_reducible exact und_bool) rfl rfl ?_ | refine OW_neqB (by with_reducible exact und_bool) rfl rfl ?_ | refine OW_idxS (by with_reducible exact und_bytes) one_u8 rfl rfl _ rfl (by omega) ?_ | refine OW_idxS (by with_reducible exact und_bytess) one_bytes rfl rfl _ rfl (by omega) ?_ | refine OW_load1 (by first | with_reducible exact one_u8 | with_reducible exact one_bytes) rfl _ (by assumption) ?_ | refine OW_load1 s_int rfl _ (by assumption) ?_ | (refine OW_isLoad ?_; refine OW_loadBk (by first | with_reducible exact s_int | with_reducible exact one_u8) rfl (by assumption) _ (by rfl) ?_))
         refine OW_nil ?_
         exact stay_mk _ _ _ _)
    | (apply OY_qtake _ rfl rfl
       · intro wd hwd
         (first | refine OW_neqQF s_eqr_Tag rfl rfl (by assumption) (by first | assumption | rfl) ?_ | refine OW_eqlIF rfl rfl (by assumption) ?_ | refine OW_build _ _ a_bldTag rfl ?_ | refine OW_sliceHiN und_Links el_Link rfl rfl _ rfl (by omega) ?_ | refine OW_neqKF rfl rfl (by assumption) ?_ | refine OW_lenS und_Acts rfl ?_ | refine OW_idxN und_Acts el_Act13 rfl rfl _ rfl (by omega) ?_ | refine OW_fieldO fldo_AA0 rfl ?_ | refine OW_fieldO fldo_AA1 rfl ?_ | refine OW_fieldO fldo_AA2 rfl ?_ | refine OW_fieldO fldo_AA3 rfl ?_ | refine OW_fieldO fldo_AA4 rfl ?_ | refine OW_fieldO fldo_AA5 rfl ?_ | refine OW_eqlIT rfl rfl (by first | assumption | rfl) ?_ | refine OW_eqlQT s_eqr_Tag rfl rfl (by assumption) (by first | assumption | rfl) ?_ | refine OW_eqlKT rfl rfl (by assumption) ?_ | refine OW_sliceLoN 1 und_Links el_Link rfl rfl rfl (by assumption) ?_ | refine OW_neqIF rfl rfl (by first | assumption | rfl) ?_ | (refine OW_isLoad ?_; refine OW_loadM (by first | with_reducible exact s_agg_Tag | with_reducible exact agg_Link) rfl (by apply_assumption; assumption) ?_) | refine OW_idxN und_Links el_Link rfl rfl 0 rfl (Nat.le_of_ble_eq_true rfl) ?_ | refine OW_idxN und_Links el_Link rfl rfl 1 rfl (Nat.le_of_ble_eq_true rfl) ?_ | refine OW_neqIT rfl rfl (by assumption) ?_ | refine OW_neqQF s_eqr_Tag rfl rfl (by assumption) (by assumption) ?_ | refine OW_neqQT s_eqr_Tag rfl rfl (by assumption) (by assumption) (by assumption) ?_ | refine OW_fieldB fldo_L0 rfl ?_ | refine OW_fieldB fldo_L1 rfl ?_ | refine OW_fieldB fldo_L2 rfl ?_ | refine OW_fieldB fldo_L3 rfl ?_ | refine OW_fieldB fldo_L4 rfl ?_ | refine OW_fieldB fldo_L5 rfl ?_ | refine OW_fieldB fldo_L6 rfl ?_ | refine OW_fieldB fldo_L7 rfl ?_ | refine OW_fieldB fldo_L8 rfl ?_ | refine OW_fieldO fldo_L0 rfl ?_ | refine OW_fieldO fldo_L4 rfl ?_ | refine OW_fieldO fldo_L7 rfl ?_ | refine OW_fieldO fldo_L8 rfl ?_ | refine OW_lenS und_Links rfl ?_ | refine OW_idxN und_Links el_Link rfl rfl _ rfl (by omega) ?_ | refine OW_moveV (.int _ _) rfl ?_ | refine OW_moveV (.slice _ _ _) rfl ?_ | refine OW_moveV (.bool _) rfl ?_ | refine OW_moveV (.pointer _) rfl ?_ | refine OW_moveV (.string _) rfl ?_ | refine OW_moveV (.agg _) rfl ?_ | refine OW_moveV (.tuple _) rfl ?_ | refine OW_nil ?_ | refine thenE_normal ?_ | refine CW_seq ?_ | refine CW_region (by kernel_rfl) ?_ | refine OW_assignV (.int _ _) rfl ?_ | refine OW_assignV (.slice _ _ _) rfl ?_ | refine OW_assignV (.bool _) rfl ?_ | refine OW_assignV (.pointer _) rfl ?_ | refine OW_assignV (.string _) rfl ?_ | refine OW_assignV (.agg _) rfl ?_ | refine OW_assignV (.tuple _) rfl ?_ | refine OW_addI rfl rfl (by omega) ?_ | refine OW_subI rfl rfl (by omega) ?_ | refine OW_mulI rfl rfl (by omega) ?_ | refine OW_lss rfl rfl ?_ | refine OW_extract rfl rfl ?_ | refine OW_gtr rfl rfl ?_ | refine OW_leq rfl rfl ?_ | refine OW_geq rfl rfl ?_ | refine OW_eql rfl rfl ?_ | refine OW_neq rfl rfl ?_ | refine OW_not rfl ?_ | refine OW_pickT rfl _ rfl ?_ | refine OW_pickF rfl (.bool _) rfl ?_ | refine OW_pickB rfl rfl rfl ?_ | refine OW_move ?_ | refine OW_assign ?_ | refine OW_pass rfl ?_ | refine OW_take rfl ?_ | refine OW_lenS (by first | with_reducible exact und_bytes | with_reducible exact und_bytess) rfl ?_ | refine OW_convInt (by first | with_reducible exact und_u8 | with_reducible exact und_u64 | with_reducible exact und_int | with_reducible exact und_u32) (by first | with_reducible exact und_u8 | with_reducible exact und_u64 | with_reducible exact und_int | with_reducible exact und_u32) rfl ?_ | refine OW_add rfl rfl ?_ | refine OW_sub rfl rfl ?_ | refine OW_mul rfl rfl ?_ | refine OW_min2 rfl rfl ?_ | refine OW_max2 rfl rfl ?_ | refine OW_neg rfl ?_ | refine CW_block ?_ | refine CW_condT rfl ?_ | refine CW_condF rfl ?_ | refine CW_exit ?_ | refine CW_ret ?_ | refine CW_skip ?_ | refine LW_seq ?_ | refine LW_regC ?_ | refine LW_condC ?_ | refine LW_regF ?_ | refine LW_condF ?_ | refine FW_seq ?_ | refine FW_region (by kernel_rfl) ?_ | refine FW_block ?_ | refine FW_condT rfl ?_ | refine FW_condF rfl ?_ | refine FW_exit ?_ | refine FW_ret ?_ | refine FW_skip ?_ | refine LW_ret ?_ | refine LW_skip ?_ | refine thenE_exit ?_ | refine thenE_ret ?_ | refine inBlockE_normal ?_ | refine inBlockE_same ?_ | refine inBlockE_ret ?_ | refine inBlockE_ne (by rfl) ?_ | refine OW_eqlB (by with_reducible exact und_bool) rfl rfl ?_ | refine OW_neqB (by with_reducible exact und_bool) rfl rfl ?_ | refine OW_idxS (by with_reducible exact und_bytes) one_u8 rfl rfl _ rfl (by omega) ?_ | refine OW_idxS (by with_reducible exact und_bytess) one_bytes rfl rfl _ rfl (by omega) ?_ | refine OW_load1 (by first | with_reducible exact one_u8 | with_reducible exact one_bytes) rfl _ (by assumption) ?_ | refine OW_load1 s_int rfl _ (by assumption) ?_ | (refine OW_isLoad ?_; refine OW_loadBk (by first | with_reducible exact s_int | with_reducible exact one_u8) rfl (by assumption) _ (by rfl) ?_) | (refine OW_isLoad ?_; refine OW_loadBk (by first | with_reducible exact one_u8 | with_reducible exact one_bytes | with_reducible exact one_bool | with_reducible exact one_int | with_reducible exact one_errno | with_reducible exact one_u32 | with_reducible exact one_u64 | with_reducible exact one_string | with_reducible exact s_int | with_reducible exact one_u8) rfl (by apply_assumption; assumption) _ (by first | assumption | rfl) ?_) | refine OW_load1 (by first | with_reducible exact one_u8 | with_reducible exact one_bytes | with_reducible exact one_bool | with_reducible exact one_int | with_reducible exact one_errno | with_reducible exact one_u32 | with_reducible exact one_u64 | with_reducible exact one_string | with_reducible exact s_int | with_reducible exact one_u8) rfl _ (by apply_assumption; assumption) ?_)
         refine OW_nil ?_
         exact stay_mk _ _ _ _)
    | refine OY_a (actY_of rfl ?_)
    | refine OY_d (actY_of rfl ?_)
    | refine OY_a (actY_pass rfl rfl ?_)
    | refine OY_d (actY_pass rfl rfl ?_)
    | refine OY_a (actY_take rfl rfl ?_)
    | refine OY_d (actY_take rfl rfl ?_))
  exact hEnd.out) (k : B) : A := h ⟨k⟩
section
variable {P : Program} {ops : Array Oper} {Q : Exit → (Nat → Value) → World → Prop} {rest : List Oper} {e : Nat → Value} {w : World} {d : Tmp} {ty : TypeId} {pos : String} {aft : Array Edge}
theorem OW_eqlIF {x y : Operand} {t t' : TypeId} {k : IntKind} {a b : Int} (hx : ev e x = .int k a) (hy : ev e y = .int k b) (hab : ¬ a = b) (h : OW P ops Q rest (upd e d (.bool false)) w) : OW P ops Q (⟨some d, .binOp .eql t x y t', ty, pos, aft, none⟩ :: rest) e w := by
  refine OW_eql hx hy ?_
  rw [beq_eq_false_iff_ne.2 hab]
  exact h
end
theorem bld_m7 : ∀ w, (Instr.build 76 [(0, .int .i64 (-7))].toArray).run Try.prog w = .ok (.agg (lcells ⟨-7, 0, 0, 0, 0, 0, 0, tzS, tzS⟩).toArray) w := fun w => by kernel_rfl
set_option maxHeartbeats 8000000 in
theorem walk (w : World) (v0 : Value) (l : List LK) (h0 : kLinks.R w [v0] l) (cs : List Value) (x : LK) (h1 : kLink.R w cs x) : Calls Try.prog 11 #[v0, .agg cs.toArray] w (RetV w (.bool true)) := by
  obtain ⟨A, c, hv0, hc, hc2, hS⟩ := h0
  injection hv0 with hv0
  subst hv0
  obtain ⟨hl, hk⟩ := links_of hS
  obtain ⟨rfl, hokx⟩ := h1
  have hxl := lcells_length hokx
  obtain ⟨i1, i2, i3, i4, i5, i6⟩ := hokx.i
  have hi : I64 x.stamp ∧ I64 x.ten ∧ I64 x.a ∧ I64 x.b ∧ I64 x.c := ⟨i2, i3, i4, i5, i6⟩
  have hHl : (linkH x).length = 32 := shaL_length _
  have htz : tzS.length = 32 := rfl
  refine calls_of_CW Try.func11 rfl (by simp [Try.ntmps11]) ?_
  rw [Try.ntmps11]
  refine go_LAuditAdds (k := ?_)
  refine OW_box _ rfl ?_
  intro w1 g3 hb3 hg3 hlt3 hx1
  have hb3 : Blk w1 g3 76 (lcells x).toArray := hb3
  refine go_LAuditAdds (k := ?_)
  refine CW_cond _ rfl (fun hh => ?_) (fun hh => ?_)
  · refine go_LAuditAdds (k := ?_)
    exact bodyE_ret1 rfl (.bool true) rfl ⟨rfl, hx1⟩
  have hn : l.length ≤ 40 := by have := of_decide_eq_false hh; omega
  clear hh
  refine go_LAuditAdds (k := ?_)
  refine OW_litM [] und_Links agg_Link rfl rfl (by simp) (by decide) ?_
  intro w2 g2 hb2 hg2 hlt2 hx2
  have hoE : w2.ownsRow w1.heap.size 76 71 (.slice (some ⟨g2, 0, none⟩) 0 0) 0 [] := ownN_of_blk hg2 hb2 rfl (Nat.le_refl _) (by decide) (by simp)
  have hR2 : RdN w2 A 71 (l.map lcells) := hl.ext (hx1.trans' hx2)
  refine go_LAuditAdds (k := ?_)
  refine OW_appendN (k := 71) und_Links info_Link rfl (by decide) rfl rfl hoE hR2.rd (by rw [flat_len hR2.len, List.length_map]) (links_one _) (by unfold maxLen; omega) (by omega) hx2.size ?_
  intro w3 A3 c3 ho3 hgr3 _
  rw [Nat.zero_add, List.nil_append] at ho3
  rw [Nat.zero_add]
  have hx13 : Ext w1 w3 := (Keeps.of_grown (S := (· = g2)) hgr3 (fun b hb => by cases hb; rfl)).ext hx2 (fun j hj => by have hj : j = g2 := hj; omega)
  clear hoE hgr3 hb2 hR2
  refine go_LAuditAdds (k := ?_)
  refine OW_build _ _ bld_m7 rfl ?_
  refine go_LAuditAdds (k := ?_)
  refine OW_litM [lcells ⟨-7, 0, 0, 0, 0, 0, 0, tzS, tzS⟩] und_Links agg_Link rfl rfl (by intro v hv; rw [List.mem_singleton] at hv; subst hv; rfl) (by decide) ?_
  intro w4 g4 hb4 hg4 hlt4 hx4
  have hx14 := hx13.trans' hx4
  refine go_LAuditAdds (k := ?_)
  refine OW_appendN (k := 71) und_Links info_Link rfl (by decide) rfl rfl (ownN_ext ho3 hx4) (by simpa using hb4.rd) rfl (lcells_one ⟨-7, 0, 0, 0, 0, 0, 0, tzS, tzS⟩) (by unfold maxLen; omega) (by omega) hx14.size ?_
  intro w5 A5 c5 ho5 hgr5 _
  have hx15 : Ext w1 w5 := (Keeps.of_grown (S := fun j => w1.heap.size ≤ j) hgr5 (fun b hb => by
    cases A3 with
    | none => cases hb
    | some ad => cases hb; exact (ownN_block ho3 ad rfl).1)).ext hx14 (fun j hj => hj)
  have hx05 := hx1.trans' hx15
  clear ho3 hgr5 hb4
  replace hb3 := hb3.ext hx15
  have hcap5 := (ownN_cap ho5).1
  have hrd5 : RdN w5 A5 71 ((l ++ [(⟨-7, 0, 0, 0, 0, 0, 0, tzS, tzS⟩ : LK)]).map lcells) := ⟨by
    have := ownN_rd ho5
    rw [List.map_append, List.flatten_append]
    simpa using this, fun u hu => by
    obtain ⟨y, hy, rfl⟩ := List.mem_map.1 hu
    rcases List.mem_append.1 hy with hy | hy
    · exact lcells_length (hk y hy)
    · rw [List.mem_singleton] at hy; subst hy; rfl⟩
  have hrdI : LRd w5 (cutN A5 c5 0 71) l := by
    have := RdN.cut hrd5 c5 0 l.length (by omega)
    rw [List.drop_zero, ← List.map_take, List.take_left] at this
    exact this
  obtain ⟨ad5, hA5, hat5⟩ := hrd5.at_ (by decide) (i := l.length) (by simp)
  have h7 : At w5 (ad5.add (l.length * 71)) (lcells ⟨-7, 0, 0, 0, 0, 0, 0, tzS, tzS⟩) := by
    rw [List.getElem_map, List.getElem_append_right (Nat.le_refl _)] at hat5
    simpa using hat5
  have hc7 : w5.cell? ((ad5.add (l.length * 71)).add 0) = some (.int .i64 (-7)) := h7 0 _ rfl
  subst hA5
  clear hat5 h7 hrd5 ho5
  generalize hAI : cutN (some ad5) c5 0 71 = AI at *
  obtain ⟨z, hz⟩ : ∃ z, l ++ [nextL l x.stamp x.op x.ten x.a x.b x.c] = z := ⟨_, rfl⟩
  have hzk : ∀ y ∈ z, LOk y := by
    intro y hy
    rw [← hz] at hy
    rcases List.mem_append.1 hy with hy | hy
    · exact hk y hy
    · rw [List.mem_singleton] at hy; subst hy
      exact nextL_ok hk (by omega) hi
  have hzn : z.length = l.length + 1 := by rw [← hz, List.length_append]; rfl
  refine go_LAuditAdds (k := ?_)
  obtain ⟨C, hC⟩ : ∃ C : World → Prop, C = fun v => Ext w5 v := ⟨_, rfl⟩
  have y_hb3 := blkE hC hb3
  refine CW_tree2 [5, 7, 9, 11, 13, 15] (.p 0 (.p 1 (.p 2 (.p 3 (.p 4 (.q 5 (.p 6 (.q 7 (.p 8 (.q 9 (.p 10 (.q 11 (.p 12 (.q 13 (.p 14 (.q 15 (.d 16 (.p 17 .done)))))))))))))))))) (C) (by kernel_rfl) (by kernel_rfl) (by kernel_rfl) ?_ ?_
  · exact inE hC
  intro w6 hx6 h_C
  refine oy_LAuditAdds (k := ?_)
  rw [hAI]
  have hAdd := audAdd_any w6 AI c5 l (hrdI.ext hx6) hk (by omega) (by omega) x.stamp x.ten x.a x.b x.c x.op hi
  rw [hz] at hAdd
  refine OW_callC Try.func49 (by kernel_rfl) rfl hAdd rfl ?_
  rintro en w7 ⟨A7, c7, rfl, hO7, hx7⟩
  refine ⟨_, rfl, ?_⟩
  have hx57 := hx6.trans' hx7
  first | refine OW_nil (goY_mkE hC (hx57) ?_) | refine OW_nil (goY_dropE hC (hx57) ?_)
  refine oy_LAuditAdds (k := ?_)
  have hO7 := hO7.mono hx6.size
  clear hAdd y_hb3 hC h_C C
  have hx07 := hx05.trans' hx57
  have hb7 := hb3.ext hx57
  have hRef := refAdd_any w7 A c l (hl.ext hx07) hk hc (by omega) x.stamp x.ten x.a x.b x.c x.op hi
  rw [hz] at hRef
  refine go_LAuditAdds (k := ?_)
  refine OW_callC Try.func50 (by kernel_rfl) rfl hRef rfl ?_
  rintro en w8 ⟨A8, c8, rfl, hO8, hx8⟩
  refine ⟨_, rfl, ?_⟩
  clear hRef
  have hx58 := hx57.trans' hx8
  have hb8 := hb3.ext hx58
  have hO78 := hO7.ext hx8
  have hR7 := hO78.rd hzk
  have hR8 := hO8.rd hzk
  refine go_LAuditAdds (k := ?_)
  obtain ⟨C, hC⟩ : ∃ C : World → Prop, C = fun v => Ext w8 v := ⟨_, rfl⟩
  have yx : ∀ v, C v → AtM v ⟨g3, 0, none⟩ (lcells x) 71 := by rw [hC]; exact fun v hv => blk_x hokx (hb8.ext hv)
  refine CW_tree2 [5, 7] (.p 0 (.p 1 (.d 2 (.p 3 (.p 4 (.q 5 (.q 7 (.a 6 (.d 8 (.p 9 (.p 10 .done))))))))))) (C) (by kernel_rfl) (by kernel_rfl) (by kernel_rfl) ?_ ?_
  · exact inE hC
  intro w9 hx9 h_C
  refine oy_LAuditAdds (k := ?_)
  refine OW_callV Try.func51 (by kernel_rfl) rfl (refLSame_any w9 A7 A8 c7 c8 z (hR7.ext hx9) (hR8.ext hx9) hzk (by omega)) rfl ?_
  intro w10 hx10
  have hy10 := hx9.trans' hx10
  first | refine OW_nil (goY_mkE hC (hy10) ?_) | refine OW_nil (goY_dropE hC (hy10) ?_)
  refine oy_LAuditAdds (k := ?_)
  refine OW_callV Try.func52 (by kernel_rfl) rfl (audHash_any w10 x hokx) rfl ?_
  intro w11 hx11
  have hy11 := hy10.trans' hx11
  first | refine OW_nil (goY_mkE hC (hy11) ?_) | refine OW_nil (goY_dropE hC (hy11) ?_)
  refine oy_LAuditAdds (k := ?_)
  refine OW_callV Try.func53 (by kernel_rfl) rfl (refLHash_any w11 x hokx) rfl ?_
  intro w12 hx12
  have hy12 := hy11.trans' hx12
  first | refine OW_nil (goY_mkE hC (hy12) ?_) | refine OW_nil (goY_dropE hC (hy12) ?_)
  refine oy_LAuditAdds (k := ?_)
  clear yx hC h_C C
  have hx512 := hx58.trans' hy12
  have hO12 := hO7.ext (hx8.trans' hy12)
  refine go_LAuditAdds (k := ?_)
  refine CW_meet (fun e' w' => e' 0 = .slice A l.length c ∧ e' 5 = .slice (some ad5) (l.length + 1) c5 ∧ e' 6 = .slice A7 z.length c7 ∧ e' 87 = .bool false ∧ Ext w12 w') ?_ ?_
  · by_cases hz0 : l.length = 0
    · have hzl : l = [] := List.eq_nil_of_length_eq_zero hz0
      subst hzl
      refine go_LAuditAdds (k := ?_)
      obtain ⟨C, hC⟩ : ∃ C : World → Prop, C = fun v => Ext w12 v := ⟨_, rfl⟩
      refine CW_tree2 [15] (.p 0 (.p 1 (.p 2 (.p 3 (.p 4 (.p 5 (.p 6 (.p 7 (.p 9 (.p 10 (.p 11 (.p 12 (.p 13 (.p 14 (.q 15 (.a 8 (.p 16 (.p 17 (.p 18 (.p 19 (.p 20 (.p 21 (.p 22 (.p 24 (.d 23 (.p 25 (.p 26 (.p 27 .done)))))))))))))))))))))))))))) (C) (by kernel_rfl) (by kernel_rfl) (by kernel_rfl) ?_ ?_
      · exact inE hC
      intro w13 hx13b h_C
      refine oy_LAuditAdds (k := ?_)
      refine OW_callV Try.func54 (by kernel_rfl) rfl (audHead_any w13 none 0 [] (LRd.nil _ _) (by intro y hy; cases hy) (by decide)) rfl ?_
      intro w14 hx14b
      rw [show headL [] = tzS from rfl]
      have hy14 := hx13b.trans' hx14b
      first | refine OW_nil (goY_mkE hC (hy14) ?_) | refine OW_nil (goY_dropE hC (hy14) ?_)
      refine oy_LAuditAdds (k := ?_)
      refine go_LAuditAdds (k := ?_)
      exact ⟨rfl, rfl, rfl, rfl, rfl, hy14⟩
    · have hpos : 0 < l.length := by omega
      have hgt : decide ((0 : Int) < (l.length : Int)) = true := decide_eq_true (by omega)
      obtain ⟨ad, hAa, hat⟩ := (hl.ext (hx05.trans' hx512)).at_ (i := l.length - 1) (by omega)
      have hlast : headL l = (l[l.length - 1]'(by omega)).self := by
        unfold headL
        rw [List.getLast?_eq_getElem?, List.getElem?_eq_getElem (by omega)]
      have hoky := hk _ (List.getElem_mem (show l.length - 1 < l.length by omega))
      have hHd := fun v (hv : Ext w12 v) => audHead_any v AI c5 l (hrdI.ext (hx512.trans' hv)) hk (by omega)
      rw [hlast] at hHd
      generalize l[l.length - 1]'(by omega) = y at *
      have hysl := hoky.self
      have hne0 : ¬ (l.length : Int) = 0 := by omega
      have hsub : (l.length : Int) - 1 = ((l.length - 1 : Nat) : Int) := by omega
      subst hAa
      refine go_LAuditAdds (k := ?_)
      obtain ⟨C, hC⟩ : ∃ C : World → Prop, C = fun v => Ext w12 v := ⟨_, rfl⟩
      have ys : ∀ v, C v → AtM v ((ad.add ((l.length - 1) * 71)).add 39) (y.self.map bv) 32 := by rw [hC]; exact fun v hv => sAt hoky (At.ext hat hv)
      refine CW_tree2 [15] (.p 0 (.p 1 (.p 2 (.p 3 (.p 4 (.p 5 (.p 6 (.p 7 (.p 9 (.p 10 (.p 11 (.p 12 (.p 13 (.p 14 (.q 15 (.a 8 (.p 16 (.p 17 (.p 18 (.p 19 (.p 20 (.p 21 (.p 22 (.p 24 (.d 23 (.p 25 (.p 26 (.p 27 .done)))))))))))))))))))))))))))) (C) (by kernel_rfl) (by kernel_rfl) (by kernel_rfl) ?_ ?_
      · exact inE hC
      intro w13 hx13b h_C
      refine oy_LAuditAdds (k := ?_)
      rw [hgt]
      refine oy_LAuditAdds (k := ?_)
      rw [hsub]
      refine oy_LAuditAdds (k := ?_)
      rw [hAI]
      refine OW_callV Try.func54 (by kernel_rfl) rfl (hHd w13 hx13b) rfl ?_
      intro w14 hx14b
      have hy14 := hx13b.trans' hx14b
      first | refine OW_nil (goY_mkE hC (hy14) ?_) | refine OW_nil (goY_dropE hC (hy14) ?_)
      refine oy_LAuditAdds (k := ?_)
      refine go_LAuditAdds (k := ?_)
      exact ⟨rfl, rfl, rfl, rfl, rfl, hy14⟩
  rintro e13 w13 ⟨q0, q5, q6, q87, hx13⟩
  rw [upd_self q0, upd_self q5, upd_self q6, upd_self q87]
  have hx513 := hx512.trans' hx13
  have hO13 := hO12.ext hx13
  clear q0 q5 q6 q87 hO12 hR7 hR8 hO8 hO78
  refine go_LAuditAdds (k := ?_)
  refine CW_loop (fun e' w' => ∃ (k : Nat) (m : List LK), k ≤ z.length ∧ m.length = z.length ∧ (∀ y ∈ m, LOk y) ∧ e' 0 = .slice A l.length c ∧ e' 5 = .slice (some ad5) (l.length + 1) c5 ∧ e' 6 = .slice A7 z.length c7 ∧ e' 8 = .int .i64 k ∧ LOwn w' w5.heap.size A7 c7 m ∧ Ext w5 w') (fun e' _ => z.length - (intOf (e' 8)).toNat) ⟨0, z, Nat.zero_le _, rfl, hzk, rfl, rfl, rfl, rfl, hO13, hx513⟩ ?_
  rintro e' w14 ⟨k, m, hk2, hml, hmk, q0, q5, q6, q8, hO, hx14⟩
  rw [upd_self q0, upd_self q5, upd_self q6, upd_self q8]
  refine go_LAuditAdds (k := ?_)
  refine CW_cond _ rfl (fun hh => ?_) (fun hh => ?_)
  · have hlt : k < z.length := by have := of_decide_eq_true hh; omega
    clear hh
    obtain ⟨ad7, hA7, _⟩ := (hO.rd hmk).at_ (i := k) (by omega)
    subst hA7
    have hokm := hmk _ (List.getElem_mem (show k < m.length by omega))
    refine go_LAuditAdds (k := ?_)
    refine OW_storeLk (i := k) (j := 0) (v := .int .i64 (-9)) { m[k]'(by omega) with n := -9 } s_int ?_ ?_ rfl hO hmk (by omega) (by decide) rfl ?_
    · rfl
    · rfl
    intro w15 hO15 hk15 hbm
    have hx15 : Ext w5 w15 := hk15.ext hx14 (fun j hj => by have hj : j = ad7.block := hj; omega)
    refine go_LAuditAdds (k := ?_)
    refine ⟨⟨k + 1, _, by omega, by rw [List.length_set]; exact hml, ?_, rfl, rfl, rfl, rfl, hO15, hx15⟩, ?_⟩
    · intro y hy
      rcases List.mem_or_eq_of_mem_set hy with hy | hy
      · exact hmk y hy
      · subst hy
        exact ⟨hokm.ahead, hokm.self, by unfold I64; simp, hokm.i.2⟩
    · show z.length - ((k : Int) + 1).toNat < z.length - (k : Int).toNat
      omega
  · clear hh
    have hc7b := hx14.cell' hc7
    refine go_LAuditAdds (k := ?_)
    rw [hAI]
    refine OW_callV Try.func51 (by kernel_rfl) rfl (refLSame_any w14 AI A c5 c l (hrdI.ext hx14) (hl.ext (hx05.trans' hx14)) hk (by omega)) rfl ?_
    intro w15 hx15
    replace hc7b := hx15.cell' hc7b
    refine go_LAuditAdds (k := ?_)
    refine OW_callV Try.func55 (by kernel_rfl) rfl (awake13_any w15) rfl ?_
    intro w16 hx16
    refine go_LAuditAdds (k := ?_)
    exact bodyE_ret1 rfl (.bool true) rfl ⟨rfl, (hx05.trans' hx14).trans' (hx15.trans' hx16)⟩
set_option maxRecDepth 100000 in
theorem lifted (os : Os) (started : os.Started) (H : Type) (enc : TypeId × Value → H) :
    ReturnsInHanded {} Try.checked os 11 .any (Rows.auditAddsSpec.pre6 enc Try.prog Try.f11 Rows.auditAddsRow.domain false) (Rows.auditAddsSpec.post enc Try.prog Try.f11 false true false false) := by
  refine returnsInHanded_of_change_sized (C := Try.checked) ownP started (by kernel_rfl) Try.func11
    (ChangeSpec.witness6 (enc := enc) (C := Try.checked) false ⟨#[], #[.slice none 0 0, .agg (lcells ⟨0, 0, 0, 0, 0, 0, 0, tzS, tzS⟩).toArray], []⟩ 8 (by kernel_rfl) (by kernel_rfl) (by kernel_rfl) (by kernel_rfl)) ?_
  intro W base args ds gs before hval0 hW hcnd hwt0 _
  have hval : ∀ (j : Nat) t v, Try.f11.params[j]? = some t → args[j]? = some v → Value.okWide Try.prog W .any base t v := hval0
  have hW' := hW
  obtain ⟨p, q, hA0, hV, rfl, hfz, hnd⟩ := hW
  have hA : DataW.TrodAll enc Try.prog W 0 (fun _ => true) true Try.f11.params.toList args.toList ds p := hA0
  have hwt : (DataW.weightsEach Try.prog (Try.f11.params.toList ++ []) (ds ++ gs)).all (· ≤ reachBytes) = true := hwt0
  rw [Try.params11] at hA hval hwt
  obtain ⟨v0, vs0, d0, ds0, p0, q0, hargs, rfl, rfl, h0, r0⟩ := trodAll_cons hA
  obtain ⟨v1, vs1, d1, ds1, p1, q1, rfl, rfl, rfl, h1, r1⟩ := trodAll_cons r0
  obtain ⟨rfl, rfl, rfl⟩ := trodAll_nil r1
  obtain rfl : args = #[v0, v1] := by cases args; simp_all
  obtain ⟨rfl, rfl⟩ := trodVars_none hV
  have k0 := h0
  have lt0 : ∀ x ∈ p0, x.block < W.heap.size := by obtain ⟨m, hm⟩ := k0; exact DataW.trod_lt m _ _ _ hm
  have wk0 : WOk Try.prog 74 d0 := wok_each hwt 0 rfl rfl
  obtain ⟨a0, b0⟩ := kd_slice kLinks und_Links (hval 0 74 v0 rfl rfl) h0 wk0
  have k1 := h1
  have lt1 : ∀ x ∈ p1, x.block < W.heap.size := by obtain ⟨m, hm⟩ := k1; exact DataW.trod_lt m _ _ _ hm
  have wk1 : WOk Try.prog 76 d1 := wok_each hwt 1 rfl rfl
  obtain ⟨cs1, a1, rfl, b1⟩ := kd_struct kLink Try.underlying76 (hval 1 76 v1 rfl rfl) h1 wk1
  clear hA0 hval0 hwt0
  refine (walk W v0 a0 b0 cs1 a1 b1).mono fun e W' ⟨he, bel⟩ => ?_
  subst he
  exact ⟨_, rfl, _, _, _, [], _, [], hW', trodAll_mk1 (shut_bool Try.underlying4 _), (trodAll_cons_mk (Below.trod laidP (by kernel_rfl) (of_decide_eq_true (by kernel_rfl)) k0 bel lt0) (trodAll_cons_mk (Below.trod laidP (by kernel_rfl) (of_decide_eq_true (by kernel_rfl)) k1 bel lt1) trodAll_mk0)), rfl, bel.frame _, fun h => by cases h⟩
theorem over : Rows.auditAddsRow.holds Try.pinned (OpenSpec.ofChange Rows.auditAddsSpec) :=
  OpenClaim.holds_of_wide 11 Try.f11 rfl rfl rfl rfl rfl rfl rfl ⟨rfl, rfl, rfl, rfl, rfl⟩ rfl rfl rfl rfl rfl (by kernel_rfl) Try.func11 (by kernel_rfl)
    (of_decide_eq_true (by kernel_rfl)) (by unfold Func.isWrapper; first | (rw [if_pos (by decide +kernel)]; kernel_rfl) | (rw [if_neg (by decide +kernel)]; exact ⟨rfl, rfl⟩))
    (fun os started H enc _ => lifted os started H enc)
theorem proved : Rows.AuditAddsSaid := over
#print axioms proved
end Go.Proofs.Ytdpcahfgdpikfaa.lawAuditAdds
