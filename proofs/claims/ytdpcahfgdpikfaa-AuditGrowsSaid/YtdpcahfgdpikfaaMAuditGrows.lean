/- AuditGrows: the chain of any acts is one, and tells the acts, in order, each at its place. No condition. -/
import Derived.Test.YtdpcahfgdpikfaaGt3
import Derived.Test.YtdpcahfgdpikfaaGt18
namespace Go.Proofs.Ytdpcahfgdpikfaa.lawAuditGrows
open Go.ChangeShapes Go.WideShapes Go.ChangeAt Go.RowKit
set_option linter.unusedVariables false
set_option maxRecDepth 4000
theorem go_LAuditGrows {A B : Prop} (h : Held B → A := by
  intro hEnd
  repeat (first | refine OW_neqQF s_eqr_Tag rfl rfl (by assumption) (by first | assumption | rfl) ?_ | refine OW_eqlIF rfl rfl (by assumption) ?_ | refine OW_build _ _ a_bldTag rfl ?_ | refine OW_sliceHiN und_Links el_Link rfl rfl _ rfl (by omega) ?_ | refine OW_neqKF rfl rfl (by assumption) ?_ | refine OW_lenS und_Acts rfl ?_ | refine OW_idxN und_Acts el_Act13 rfl rfl _ rfl (by omega) ?_ | refine OW_fieldO fldo_AA0 rfl ?_ | refine OW_fieldO fldo_AA1 rfl ?_ | refine OW_fieldO fldo_AA2 rfl ?_ | refine OW_fieldO fldo_AA3 rfl ?_ | refine OW_fieldO fldo_AA4 rfl ?_ | refine OW_fieldO fldo_AA5 rfl ?_ | refine OW_eqlIT rfl rfl (by first | assumption | rfl) ?_ | refine OW_eqlQT s_eqr_Tag rfl rfl (by assumption) (by first | assumption | rfl) ?_ | refine OW_eqlKT rfl rfl (by assumption) ?_ | refine OW_sliceLoN 1 und_Links el_Link rfl rfl rfl (by assumption) ?_ | refine OW_neqIF rfl rfl (by first | assumption | rfl) ?_ | (refine OW_isLoad ?_; refine OW_loadM (by first | with_reducible exact s_agg_Tag | with_reducible exact agg_Link) rfl (by apply_assumption; assumption) ?_) | refine OW_idxN und_Links el_Link rfl rfl 0 rfl (Nat.le_of_ble_eq_true rfl) ?_ | refine OW_idxN und_Links el_Link rfl rfl 1 rfl (Nat.le_of_ble_eq_true rfl) ?_ | refine OW_neqIT rfl rfl (by assumption) ?_ | refine OW_neqQF s_eqr_Tag rfl rfl (by assumption) (by assumption) ?_ | refine OW_neqQT s_eqr_Tag rfl rfl (by assumption) (by assumption) (by assumption) ?_ | refine OW_fieldB fldo_L0 rfl ?_ | refine OW_fieldB fldo_L1 rfl ?_ | refine OW_fieldB fldo_L2 rfl ?_ | refine OW_fieldB fldo_L3 rfl ?_ | refine OW_fieldB fldo_L4 rfl ?_ | refine OW_fieldB fldo_L5 rfl ?_ | refine OW_fieldB fldo_L6 rfl ?_ | refine OW_fieldB fldo_L7 rfl ?_ | refine OW_fieldB fldo_L8 rfl ?_ | refine OW_fieldO fldo_L0 rfl ?_ | refine OW_fieldO fldo_L4 rfl ?_ | refine OW_fieldO fldo_L7 rfl ?_ | refine OW_fieldO fldo_L8 rfl ?_ | refine OW_lenS und_Links rfl ?_ | refine OW_idxN und_Links el_Link rfl rfl _ rfl (by omega) ?_ | refine OW_moveV (.int _ _) rfl ?_ | refine OW_moveV (.slice _ _ _) rfl ?_ | refine OW_moveV (.bool _) rfl ?_ | refine OW_moveV (.pointer _) rfl ?_ | refine OW_moveV (.string _) rfl ?_ | refine OW_moveV (.agg _) rfl ?_ | refine OW_moveV (.tuple _) rfl ?_ | refine OW_nil ?_ | refine thenE_normal ?_ | refine CW_seq ?_ | refine CW_region (by kernel_rfl) ?_ | refine OW_assignV (.int _ _) rfl ?_ | refine OW_assignV (.slice _ _ _) rfl ?_ | refine OW_assignV (.bool _) rfl ?_ | refine OW_assignV (.pointer _) rfl ?_ | refine OW_assignV (.string _) rfl ?_ | refine OW_assignV (.agg _) rfl ?_ | refine OW_assignV (.tuple _) rfl ?_ | refine OW_addI rfl rfl (by omega) ?_ | refine OW_subI rfl rfl (by omega) ?_ | refine OW_mulI rfl rfl (by omega) ?_ | refine OW_lss rfl rfl ?_ | refine OW_extract rfl rfl ?_ | refine OW_gtr rfl rfl ?_ | refine OW_leq rfl rfl ?_ | refine OW_geq rfl rfl ?_ | refine OW_eql rfl rfl ?_ | refine OW_neq rfl rfl ?_ | refine OW_not rfl ?_ | refine OW_pickT rfl _ rfl ?_ | refine OW_pickF rfl (.bool _) rfl ?_ | refine OW_pickB rfl rfl rfl ?_ | refine OW_move ?_ | refine OW_assign ?_ | refine OW_pass rfl ?_ | refine OW_take rfl ?_ | refine OW_lenS (by first | with_reducible exact und_bytes | with_reducible exact und_bytess) rfl ?_ | refine OW_convInt (by first | with_reducible exact und_u8 | with_reducible exact und_u64 | with_reducible exact und_int | with_reducible exact und_u32) (by first | with_reducible exact und_u8 | with_reducible exact und_u64 | with_reducible exact und_int | with_reducible exact und_u32) rfl ?_ | refine OW_add rfl rfl ?_ | refine OW_sub rfl rfl ?_ | refine OW_mul rfl rfl ?_ | refine OW_min2 rfl rfl ?_ | refine OW_max2 rfl rfl ?_ | refine OW_neg rfl ?_ | refine CW_block ?_ | refine CW_condT rfl ?_ | refine CW_condF rfl ?_ | refine CW_exit ?_ | refine CW_ret ?_ | refine CW_skip ?_ | refine LW_seq ?_ | refine LW_regC ?_ | refine LW_condC ?_ | refine LW_regF ?_ | refine LW_condF ?_ | refine FW_seq ?_ | refine FW_region (by kernel_rfl) ?_ | refine FW_block ?_ | refine FW_condT rfl ?_ | refine FW_condF rfl ?_ | refine FW_exit ?_ | refine FW_ret ?_ | refine FW_skip ?_ | refine LW_ret ?_ | refine LW_skip ?_ | refine thenE_exit ?_ | refine thenE_ret ?_ | refine inBlockE_normal ?_ | refine inBlockE_same ?_ | refine inBlockE_ret ?_ | refine inBlockE_ne (by rfl) ?_ | refine OW_eqlB (by with_reducible exact und_bool) rfl rfl ?_ | refine OW_neqB (by with_reducible exact und_bool) rfl rfl ?_ | refine OW_idxS (by with_reducible exact und_bytes) one_u8 rfl rfl _ rfl (by omega) ?_ | refine OW_idxS (by with_reducible exact und_bytess) one_bytes rfl rfl _ rfl (by omega) ?_ | refine OW_load1 (by first | with_reducible exact one_u8 | with_reducible exact one_bytes) rfl _ (by assumption) ?_ | refine OW_load1 s_int rfl _ (by assumption) ?_ | (refine OW_isLoad ?_; refine OW_loadBk (by first | with_reducible exact s_int | with_reducible exact one_u8) rfl (by assumption) _ (by rfl) ?_))
  exact hEnd.out) (k : B) : A := h ⟨k⟩
theorem oy_LAuditGrows {A B : Prop} (h : Held B → A := by
  intro hEnd
  repeat (first
    | refine OY_done ?_
    | (apply OY_p _ rfl
       · intro wd
         (first | refine OW_neqQF s_eqr_Tag rfl rfl (by assumption) (by first | assumption | rfl) ?_ | refine OW_eqlIF rfl rfl (by assumption) ?_ | refine OW_build _ _ a_bldTag rfl ?_ | refine OW_sliceHiN und_Links el_Link rfl rfl _ rfl (by omega) ?_ | refine OW_neqKF rfl rfl (by assumption) ?_ | refine OW_lenS und_Acts rfl ?_ | refine OW_idxN und_Acts el_Act13 rfl rfl _ rfl (by omega) ?_ | refine OW_fieldO fldo_AA0 rfl ?_ | refine OW_fieldO fldo_AA1 rfl ?_ | refine OW_fieldO fldo_AA2 rfl ?_ | refine OW_fieldO fldo_AA3 rfl ?_ | refine OW_fieldO fldo_AA4 rfl ?_ | refine OW_fieldO fldo_AA5 rfl ?_ | refine OW_eqlIT rfl rfl (by first | assumption | rfl) ?_ | refine OW_eqlQT s_eqr_Tag rfl rfl (by assumption) (by first | assumption | rfl) ?_ | refine OW_eqlKT rfl rfl (by assumption) ?_ | refine OW_sliceLoN 1 und_Links el_Link rfl rfl rfl (by assumption) ?_ | refine OW_neqIF rfl rfl (by first | assumption | rfl) ?_ | (refine OW_isLoad ?_; refine OW_loadM (by first | with_reducible exact s_agg_Tag | with_reducible exact agg_Link) rfl (by apply_assumption; assumption) ?_) | refine OW_idxN und_Links el_Link rfl rfl 0 rfl (Nat.le_of_ble_eq_true rfl) ?_ | refine OW_idxN und_Links el_Link rfl rfl 1 rfl (Nat.le_of_ble_eq_true rfl) ?_ | refine OW_neqIT rfl rfl (by assumption) ?_ | refine OW_neqQF s_eqr_Tag rfl rfl (by assumption) (by assumption) ?_ | refine OW_neqQT s_eqr_Tag rfl rfl (by assumption) (by assumption) (by assumption) ?_ | refine OW_fieldB fldo_L0 rfl ?_ | refine OW_fieldB fldo_L1 rfl ?_ | refine OW_fieldB fldo_L2 rfl ?_ | refine OW_fieldB fldo_L3 rfl ?_ | refine OW_fieldB fldo_L4 rfl ?_ | refine OW_fieldB fldo_L5 rfl ?_ | refine OW_fieldB fldo_L6 rfl ?_ | refine OW_fieldB fldo_L7 rfl ?_ | refine OW_fieldB fldo_L8 rfl ?_ | refine OW_fieldO fldo_L0 rfl ?_ | refine OW_fieldO fldo_L4 rfl ?_ | refine OW_fieldO fldo_L7 rfl ?_ | refine OW_fieldO fldo_L8 rfl ?_ | refine OW_lenS und_Links rfl ?_ | refine OW_idxN und_Links el_Link rfl rfl _ rfl (by omega) ?_ | refine OW_moveV (.int _ _) rfl ?_ | refine OW_moveV (.slice _ _ _) rfl ?_ | refine OW_moveV (.bool _) rfl ?_ | refine OW_moveV (.pointer _) rfl ?_ | refine OW_moveV (.string _) rfl ?_ | refine OW_moveV (.agg _) rfl ?_ | refine OW_moveV (.tuple _) rfl ?_ | refine OW_nil ?_ | refine thenE_normal ?_ | refine CW_seq ?_ | refine CW_region (by kernel_rfl) ?_ | refine OW_assignV (.int _ _) rfl ?_ | refine OW_assignV (.slice _ _ _) rfl ?_ | refine OW_assignV (.bool _) rfl ?_ | refine OW_assignV (.pointer _) rfl ?_ | refine OW_assignV (.string _) rfl ?_ | refine OW_assignV (.agg _) rfl ?_ | refine OW_assignV (.tuple _) rfl ?_ | refine OW_addI rfl rfl (by omega) ?_ | refine OW_subI rfl rfl (by omega) ?_ | refine OW_mulI rfl rfl (by omega) ?_ | refine OW_lss rfl rfl ?_ | refine OW_extract rfl rfl ?_ | refine OW_gtr rfl rfl ?_ | refine OW_leq rfl rfl ?_ | refine OW_geq rfl rfl ?_ | refine OW_eql rfl rfl ?_ | refine OW_neq rfl rfl ?_ | refine OW_not rfl ?_ | refine OW_pickT rfl _ rfl ?_ | refine OW_pickF rfl (.bool _) rfl ?_ | refine OW_pickB rfl rfl rfl ?_ | refine OW_move ?_ | refine OW_assign ?_ | refine OW_pass rfl ?_ | refine OW_take rfl ?_ | refine OW_lenS (by first | with_reducible exact und_bytes | with_reducible exact und_bytess) rfl ?_ | refine OW_convInt (by first | with_reducible exact und_u8 | with_reducible exact und_u64 | with_reducible exact und_int | with_reducible exact und_u32) (by first | with_reducible exact und_u8 | with_reducible exact und_u64 | with_reducible exact und_int | with_reducible exact und_u32) rfl ?_ | refine OW_add rfl rfl ?_ | refine OW_sub rfl rfl ?_ | refine OW_mul rfl rfl ?_ | refine OW_min2 rfl rfl ?_ | refine OW_max2 rfl rfl ?_ | refine OW_neg rfl ?_ | refine CW_block ?_ | refine CW_condT rfl ?_ | refine CW_condF rfl ?_ | refine CW_exit ?_ | refine CW_ret ?_ | refine CW_skip ?_ | refine LW_seq ?_ | refine LW_regC ?_ | refine LW_condC ?_ | refine LW_regF ?_ | refine LW_condF ?_ | refine FW_seq ?_ | refine FW_region (by kernel_rfl) ?_ | refine FW_block ?_ | refine FW_condT rfl ?_ | refine FW_condF rfl ?_ | refine FW_exit ?_ | refine FW_ret ?_ | refine FW_skip ?_ | refine LW_ret ?_ | refine LW_skip ?_ | refine thenE_exit ?_ | refine thenE_ret ?_ | refine inBlockE_normal ?_ | refine inBlockE_same ?_ | refine inBlockE_ret ?_ | refine inBlockE_ne (by rfl) ?_ | refine OW_eqlB (by with_reducible exact und_bool) rfl rfl ?_ | refine OW_neqB (by with_reducible exact und_bool) rfl rfl ?_ | refine OW_idxS (by with_reducible exact und_bytes) one_u8 rfl rfl _ rfl (by omega) ?_ | refine OW_idxS (by with_reducible exact und_bytess) one_bytes rfl rfl _ rfl (by omega) ?_ | refine OW_load1 (by first | with_reducible exact one_u8 | with_reducible exact one_bytes) rfl _ (by assumption) ?_ | refine OW_load1 s_int rfl _ (by assumption) ?_ | (refine OW_isLoad ?_; refine OW_loadBk (by first | with_reducible exact s_int | with_reducible exact one_u8) rfl (by assumption) _ (by rfl) ?_))
         refine OW_nil ?_
         exact stay_mk _ _ _ _)
    | (apply OY_q _ rfl
       · intro wd hwd
         (first | refine OW_neqQF s_eqr_Tag rfl rfl (by assumption) (by first | assumption | rfl) ?_ | refine OW_eqlIF rfl rfl (by assumption) ?_ | refine OW_build _ _ a_bldTag rfl ?_ | refine OW_sliceHiN und_Links el_Link rfl rfl _ rfl (by omega) ?_ | refine OW_neqKF rfl rfl (by assumption) ?_ | refine OW_lenS und_Acts rfl ?_ | refine OW_idxN und_Acts el_Act13 rfl rfl _ rfl (by omega) ?_ | refine OW_fieldO fldo_AA0 rfl ?_ | refine OW_fieldO fldo_AA1 rfl ?_ | refine OW_fieldO fldo_AA2 rfl ?_ | refine OW_fieldO fldo_AA3 rfl ?_ | refine OW_fieldO fldo_AA4 rfl ?_ | refine OW_fieldO fldo_AA5 rfl ?_ | refine OW_eqlIT rfl rfl (by first | assumption | rfl) ?_ | refine OW_eqlQT s_eqr_Tag rfl rfl (by assumption) (by first | assumption | rfl) ?_ | refine OW_eqlKT rfl rfl (by assumption) ?_ | refine OW_sliceLoN 1 und_Links el_Link rfl rfl rfl (by assumption) ?_ | refine OW_neqIF rfl rfl (by first | assumption | rfl) ?_ | (refine OW_isLoad ?_; refine OW_loadM (by first | with_reducible exact s_agg_Tag | with_reducible exact agg_Link) rfl (by apply_assumption; assumption) ?_) | refine OW_idxN und_Links el_Link rfl rfl 0 rfl (Nat.le_of_ble_eq_true rfl) ?_ | refine OW_idxN und_Links el_Link rfl rfl 1 rfl (Nat.le_of_ble_eq_true rfl) ?_ | refine OW_neqIT rfl rfl (by assumption) ?_ | refine OW_neqQF s_eqr_Tag rfl rfl (by assumption) (by assumption) ?_ | refine OW_neqQT s_eqr_Tag rfl rfl (by assumption) (by assumption) (by assumption) ?_ | refine OW_fieldB fldo_L0 rfl ?_ | refine OW_fieldB fldo_L1 rfl ?_ | refine OW_fieldB fldo_L2 rfl ?_ | refine OW_fieldB fldo_L3 rfl ?_ | refine OW_fieldB fldo_L4 rfl ?_ | refine OW_fieldB fldo_L5 rfl ?_ | refine OW_fieldB fldo_L6 rfl ?_ | refine OW_fieldB fldo_L7 rfl ?_ | refine OW_fieldB fldo_L8 rfl ?_ | refine OW_fieldO fldo_L0 rfl ?_ | refine OW_fieldO fldo_L4 rfl ?_ | refine OW_fieldO fldo_L7 rfl ?_ | refine OW_fieldO fldo_L8 rfl ?_ | refine OW_lenS und_Links rfl ?_ | refine OW_idxN und_Links el_Link rfl rfl _ rfl (by omega) ?_ | refine OW_moveV (.int _ _) rfl ?_ | refine OW_moveV (.slice _ _ _) rfl ?_ | refine OW_moveV (.bool _) rfl ?_ | refine OW_moveV (.pointer _) rfl ?_ | refine OW_moveV (.string _) rfl ?_ | refine OW_moveV (.agg _) rfl ?_ | refine OW_moveV (.tuple _) rfl ?_ | refine OW_nil ?_ | refine thenE_normal ?_ | refine CW_seq ?_ | refine CW_region (by kernel_rfl) ?_ | refine OW_assignV (.int _ _) rfl ?_ | refine OW_assignV (.slice _ _ _) rfl ?_ | refine OW_assignV (.bool _) rfl ?_ | refine OW_assignV (.pointer _) rfl ?_ | refine OW_assignV (.string _) rfl ?_ | refine OW_assignV (.agg _) rfl ?_ | refine OW_assignV (.tuple _) rfl ?_ | refine OW_addI rfl rfl (by omega) ?_ | refine OW_subI rfl rfl (by omega) ?_ | refine OW_mulI rfl rfl (by omega) ?_ | refine OW_lss rfl rfl ?_ | refine OW_extract rfl rfl ?_ | refine OW_gtr rfl rfl ?_ | refine OW_leq rfl rfl ?_ | refine OW_geq rfl rfl ?_ | refine OW_eql rfl rfl ?_ | refine OW_neq rfl rfl ?_ | refine OW_not rfl ?_ | refine OW_pickT rfl _ rfl ?_ | refine OW_pickF rfl (.bool _) rfl ?_ | refine OW_pickB rfl rfl rfl ?_ | refine OW_move ?_ | refine OW_assign ?_ | refine OW_pass rfl ?_ | refine OW_take rfl ?_ | refine OW_lenS (by first | with_reducible exact und_bytes | with_reducible exact und_bytess) rfl ?_ | refine OW_convInt (by first | with_reducible exact und_u8 | with_reducible exact und_u64 | with_reducible exact und_int | with_reducible exact und_u32) (by first | with_reducible exact und_u8 | with_reducible exact und_u64 | with_reducible exact und_int | with_reducible exact und_u32) rfl ?_ | refine OW_add rfl rfl ?_ | refine OW_sub rfl rfl ?_ | refine OW_mul rfl rfl ?_ | refine OW_min2 rfl rfl ?_ | refine OW_max2 rfl rfl ?_ | refine OW_neg rfl ?_ | refine CW_block ?_ | refine CW_condT rfl ?_ | refine CW_condF rfl ?_ | refine CW_exit ?_ | refine CW_ret ?_ | refine CW_skip ?_ | refine LW_seq ?_ | refine LW_regC ?_ | refine LW_condC ?_ | refine LW_regF ?_ | refine LW_condF ?_ | refine FW_seq ?_ | refine FW_region (by kernel_rfl) ?_ | refine FW_block ?_ | refine FW_condT rfl ?_ | refine FW_condF rfl ?_ | refine FW_exit ?_ | refine FW_ret ?_ | refine FW_skip ?_ | refine LW_ret ?_ | refine LW_skip ?_ | refine thenE_exit ?_ | refine thenE_ret ?_ | refine inBlockE_normal ?_ | refine inBlockE_same ?_ | refine inBlockE_ret ?_ | refine inBlockE_ne (by rfl) ?_ | refine OW_eqlB (by with_reducible exact und_bool) rfl rfl ?_ | refine OW_neqB (by with_reducible exact und_bool) rfl rfl ?_ | refine OW_idxS (by with_reducible exact und_bytes) one_u8 rfl rfl _ rfl (by omega) ?_ | refine OW_idxS (by with_reducible exact und_bytess) one_bytes rfl rfl _ rfl (by omega) ?_ | refine OW_load1 (by first | with_reducible exact one_u8 | with_reducible exact one_bytes) rfl _ (by assumption) ?_ | refine OW_load1 s_int rfl _ (by assumption) ?_ | (refine OW_isLoad ?_; refine OW_loadBk (by first | with_reducible exact s_int | with_reducible exact one_u8) rfl (by assumption) _ (by rfl) ?_) | (refine OW_isLoad ?_; refine OW_loadBk (by first | with_reducible exact one_u8 | with_reducible exact one_bytes | with_reducible exact one_bool | with_reducible exact one_int | with_reducible exact one_errno | with_reducible exact one_u32 | with_reducible exact one_u64 | with_reducible exact one_string | with_reducible exact s_int | with_reducible exact one_u8) rfl (by apply_assumption; assumption) _ (by first | assumption | rfl) ?_) | refine OW_load1 (by first | with_reducible exact one_u8 | with_reducible exact one_bytes | with_reducible exact one_bool | with_reducible exact one_int | with_reducible exact one_errno | with_reducible exact one_u32 | with_reducible exact one_u64 | with_reducible exact one_string | with_reducible exact s_int | with_reducible exact one_u8) rfl _ (by apply_assumption; assumption) ?_)
         refine OW_nil ?_
         exact stay_mk _ _ _ _)
    | refine OY_ppass rfl rfl ?_
    | refine OY_qpass rfl rfl ?_
    | (apply OY_ptake _ rfl rfl
       · intro wd
         (first | refine OW_neqQF s_eqr_Tag rfl rfl (by assumption) (by first | assumption | rfl) ?_ | refine OW_eqlIF rfl rfl (by assumption) ?_ | refine OW_build _ _ a_bldTag rfl ?_ | refine OW_sliceHiN und_Links el_Link rfl rfl _ rfl (by omega) ?_ | refine OW_neqKF rfl rfl (by assumption) ?_ | refine OW_lenS und_Acts rfl ?_ | refine OW_idxN und_Acts el_Act13 rfl rfl _ rfl (by omega) ?_ | refine OW_fieldO fldo_AA0 rfl ?_ | refine OW_fieldO fldo_AA1 rfl ?_ | refine OW_fieldO fldo_AA2 rfl ?_ | refine OW_fieldO fldo_AA3 rfl ?_ | refine OW_fieldO fldo_AA4 rfl ?_ | refine OW_fieldO fldo_AA5 rfl ?_ | refine OW_eqlIT rfl rfl (by first | assumption | rfl) ?_ | refine OW_eqlQT s_eqr_Tag rfl rfl (by assumption) (by first | assumption | rfl) ?_ | refine OW_eqlKT rfl rfl (by assumption) ?_ | refine OW_sliceLoN 1 und_Links el_Link rfl rfl rfl (by assumption) ?_ | refine OW_neqIF rfl rfl (by first | assumption | rfl) ?_ | (refine OW_isLoad ?_; refine OW_loadM (by first | with_reducible exact s_agg_Tag | with_reducible exact agg_Link) rfl (by apply_assumption; assumption) ?_) | refine OW_idxN und_Links el_Link rfl rfl 0 rfl (Nat.le_of_ble_eq_true rfl) ?_ | refine OW_idxN und_Links el_Link rfl rfl 1 rfl (Nat.le_of_ble_eq_true rfl) ?_ | refine OW_neqIT rfl rfl (by assumption) ?_ | refine OW_neqQF s_eqr_Tag rfl rfl (by assumption) (by assumption) ?_ | refine OW_neqQT s_eqr_Tag rfl rfl (by assumption) (by assumption) (by assumption) ?_ | refine OW_fieldB fldo_L0 rfl ?_ | refine OW_fieldB fldo_L1 rfl ?_ | refine OW_fieldB fldo_L2 rfl ?_ | refine OW_fieldB fldo_L3 rfl ?_ | refine OW_fieldB fldo_L4 rfl ?_ | refine OW_fieldB fldo_L5 rfl ?_ | refine OW_fieldB fldo_L6 rfl ?_ | refine OW_fieldB fldo_L7 rfl ?_ | refine OW_fieldB fldo_L8 rfl ?_ | refine OW_fieldO fldo_L0 rfl ?_ | refine OW_fieldO fldo_L4 rfl ?_ | refine OW_fieldO fldo_L7 rfl ?_ | refine OW_fieldO fldo_L8 rfl ?_ | refine OW_lenS und_Links rfl ?_ | refine OW_idxN und_Links el_Link rfl rfl _ rfl (by omega) ?_ | refine OW_moveV (.int _ _) rfl ?_ | refine OW_moveV (.slice _ _ _) rfl ?_ | refine OW_moveV (.bool _) rfl ?_ | refine OW_moveV (.pointer _) rfl ?_ | refine OW_moveV (.string _) rfl ?_ | refine OW_moveV (.agg _) rfl ?_ | refine OW_moveV (.tuple _) rfl ?_ | refine OW_nil ?_ | refine thenE_normal ?_ | refine CW_seq ?_ | refine CW_region (by kernel_rfl) ?_ | refine OW_assignV (.int _ _) rfl ?_ | refine OW_assignV (.slice _ _ _) rfl ?_ | refine OW_assignV (.bool _) rfl ?_ | refine OW_assignV (.pointer _) rfl ?_ | refine OW_assignV (.string _) rfl ?_ | refine OW_assignV (.agg _) rfl ?_ | refine OW_assignV (.tuple _) rfl ?_ | refine OW_addI rfl rfl (by omega) ?_ | refine OW_subI rfl rfl (by omega) ?_ | refine OW_mulI rfl rfl (by omega) ?_ | refine OW_lss rfl rfl ?_ | refine OW_extract rfl rfl ?_ | refine OW_gtr rfl rfl ?_ | refine OW_leq rfl rfl ?_ | refine OW_geq rfl rfl ?_ | refine OW_eql rfl rfl ?_ | refine OW_neq rfl rfl ?_ | refine OW_not rfl ?_ | refine OW_pickT rfl _ rfl ?_ | refine OW_pickF rfl (.bool _) rfl ?_ | refine OW_pickB rfl rfl rfl ?_ | refine OW_move ?_ | refine OW_assign ?_ | refine OW_pass rfl ?_ | refine OW_take rfl ?_ | refine OW_lenS (by first | with_reducible exact und_bytes | with_reducible exact und_bytess) rfl ?_ | refine OW_convInt (by first | with_reducible exact und_u8 | with_reducible exact und_u64 | with_reducible exact und_int | with_reducible exact und_u32) (by first | with_reducible exact und_u8 | with_reducible exact und_u64 | with_reducible exact und_int | with_reducible exact und_u32) rfl ?_ | refine OW_add rfl rfl ?_ | refine OW_sub rfl rfl ?_ | refine OW_mul rfl rfl ?_ | refine OW_min2 rfl rfl ?_ | refine OW_max2 rfl rfl ?_ | refine OW_neg rfl ?_ | refine CW_block ?_ | refine CW_condT rfl ?_ | refine CW_condF rfl ?_ | refine CW_exit ?_ | refine CW_ret ?_ | refine CW_skip ?_ | refine LW_seq ?_ | refine LW_regC ?_ | refine LW_condC ?_ | refine LW_regF ?_ | refine LW_condF ?_ | refine FW_seq ?_ | refine FW_region (by kernel_rfl) ?_ | refine FW_block ?_ | refine FW_condT rfl ?_ | refine FW_condF rfl ?_ | refine FW_exit ?_ | refine FW_ret ?_ | refine FW_skip ?_ | refine LW_ret ?_ | refine LW_skip ?_ | refine thenE_exit ?_ | refine thenE_ret ?_ | refine inBlockE_normal ?_ | refine inBlockE_same ?_ | refine inBlockE_ret ?_ | refine inBlockE_ne (by rfl) ?_ | refine OW_eqlB (by with_reducible exact und_bool) rfl rfl ?_ | refine OW_neqB (by with_reducible exact und_bool) rfl rfl ?_ | refine OW_idxS (by with_reducible exact und_bytes) one_u8 rfl rfl _ rfl (by omega) ?_ | refine OW_idxS (by with_reducible exact und_bytess) one_bytes rfl rfl _ rfl (by omega) ?_ | refine OW_load1 (by first | with_reducible exact one_u8 | with_reducible exact one_bytes) rfl _ (by assumption) ?_ | refine OW_load1 s_int rfl _ (by assumption) ?_ | (refine OW_isLoad ?_; refine OW_loadBk (by first | with_reducible exact s_int | with_reducible exact one_u8) rfl (by assumption) _ (by rfl) ?_))
         refine OW_nil ?_
         exact stay_mk _ _ _ _)
    | (apply OY_qtake _ rfl rfl
       · intro wd hwd
         (first | refine OW_neqQF s_eqr_Tag rfl rfl (by assumption) (by first | assumption | rfl) ?_ | refine OW_eqlIF rfl rfl (by assumption) ?_ | refine OW_build _ _ a_bldTag rfl ?_ | refine OW_sliceHiN und_Links el_Link rfl rfl _ rfl (by omega) ?_ | refine OW_neqKF rfl rfl (by assumption) ?_ | refine OW_lenS und_Acts rfl ?_ | refine OW_idxN und_Acts el_Act13 rfl rfl _ rfl (by omega) ?_ | refine OW_fieldO fldo_AA0 rfl ?_ | refine OW_fieldO fldo_AA1 rfl ?_ | refine OW_fieldO fldo_AA2 rfl ?_ | refine OW_fieldO fldo_AA3 rfl ?_ | refine OW_fieldO fldo_AA4 rfl ?_ | refine OW_fieldO fldo_AA5 rfl ?_ | refine OW_eqlIT rfl rfl (by first | assumption | rfl) ?_ | refine OW_eqlQT s_eqr_Tag rfl rfl (by assumption) (by first | assumption | rfl) ?_ | refine OW_eqlKT rfl rfl (by assumption) ?_ | refine OW_sliceLoN 1 und_Links el_Link rfl rfl rfl (by assumption) ?_ | refine OW_neqIF rfl rfl (by first | assumption | rfl) ?_ | (refine OW_isLoad ?_; refine OW_loadM (by first | with_reducible exact s_agg_Tag | with_reducible exact agg_Link) rfl (by apply_assumption; assumption) ?_) | refine OW_idxN und_Links el_Link rfl rfl 0 rfl (Nat.le_of_ble_eq_true rfl) ?_ | refine OW_idxN und_Links el_Link rfl rfl 1 rfl (Nat.le_of_ble_eq_true rfl) ?_ | refine OW_neqIT rfl rfl (by assumption) ?_ | refine OW_neqQF s_eqr_Tag rfl rfl (by assumption) (by assumption) ?_ | refine OW_neqQT s_eqr_Tag rfl rfl (by assumption) (by assumption) (by assumption) ?_ | refine OW_fieldB fldo_L0 rfl ?_ | refine OW_fieldB fldo_L1 rfl ?_ | refine OW_fieldB fldo_L2 rfl ?_ | refine OW_fieldB fldo_L3 rfl ?_ | refine OW_fieldB fldo_L4 rfl ?_ | refine OW_fieldB fldo_L5 rfl ?_ | refine OW_fieldB fldo_L6 rfl ?_ | refine OW_fieldB fldo_L7 rfl ?_ | refine OW_fieldB fldo_L8 rfl ?_ | refine OW_fieldO fldo_L0 rfl ?_ | refine OW_fieldO fldo_L4 rfl ?_ | refine OW_fieldO fldo_L7 rfl ?_ | refine OW_fieldO fldo_L8 rfl ?_ | refine OW_lenS und_Links rfl ?_ | refine OW_idxN und_Links el_Link rfl rfl _ rfl (by omega) ?_ | refine OW_moveV (.int _ _) rfl ?_ | refine OW_moveV (.slice _ _ _) rfl ?_ | refine OW_moveV (.bool _) rfl ?_ | refine OW_moveV (.pointer _) rfl ?_ | refine OW_moveV (.string _) rfl ?_ | refine OW_moveV (.agg _) rfl ?_ | refine OW_moveV (.tuple _) rfl ?_ | refine OW_nil ?_ | refine thenE_normal ?_ | refine CW_seq ?_ | refine CW_region (by kernel_rfl) ?_ | refine OW_assignV (.int _ _) rfl ?_ | refine OW_assignV (.slice _ _ _) rfl ?_ | refine OW_assignV (.bool _) rfl ?_ | refine OW_assignV (.pointer _) rfl ?_ | refine OW_assignV (.string _) rfl ?_ | refine OW_assignV (.agg _) rfl ?_ | refine OW_assignV (.tuple _) rfl ?_ | refine OW_addI rfl rfl (by omega) ?_ | refine OW_subI rfl rfl (by omega) ?_ | refine OW_mulI rfl rfl (by omega) ?_ | refine OW_lss rfl rfl ?_ | refine OW_extract rfl rfl ?_ | refine OW_gtr rfl rfl ?_ | refine OW_leq rfl rfl ?_ | refine OW_geq rfl rfl ?_ | refine OW_eql rfl rfl ?_ | refine OW_neq rfl rfl ?_ | refine OW_not rfl ?_ | refine OW_pickT rfl _ rfl ?_ | refine OW_pickF rfl (.bool _) rfl ?_ | refine OW_pickB rfl rfl rfl ?_ | refine OW_move ?_ | refine OW_assign ?_ | refine OW_pass rfl ?_ | refine OW_take rfl ?_ | refine OW_lenS (by first | with_reducible exact und_bytes | with_reducible exact und_bytess) rfl ?_ | refine OW_convInt (by first | with_reducible exact und_u8 | with_reducible exact und_u64 | with_reducible exact und_int | with_reducible exact und_u32) (by first | with_reducible exact und_u8 | with_reducible exact und_u64 | with_reducible exact und_int | with_reducible exact und_u32) rfl ?_ | refine OW_add rfl rfl ?_ | refine OW_sub rfl rfl ?_ | refine OW_mul rfl rfl ?_ | refine OW_min2 rfl rfl ?_ | refine OW_max2 rfl rfl ?_ | refine OW_neg rfl ?_ | refine CW_block ?_ | refine CW_condT rfl ?_ | refine CW_condF rfl ?_ | refine CW_exit ?_ | refine CW_ret ?_ | refine CW_skip ?_ | refine LW_seq ?_ | refine LW_regC ?_ | refine LW_condC ?_ | refine LW_regF ?_ | refine LW_condF ?_ | refine FW_seq ?_ | refine FW_region (by kernel_rfl) ?_ | refine FW_block ?_ | refine FW_condT rfl ?_ | refine FW_condF rfl ?_ | refine FW_exit ?_ | refine FW_ret ?_ | refine FW_skip ?_ | refine LW_ret ?_ | refine LW_skip ?_ | refine thenE_exit ?_ | refine thenE_ret ?_ | refine inBlockE_normal ?_ | refine inBlockE_same ?_ | refine inBlockE_ret ?_ | refine inBlockE_ne (by rfl) ?_ | refine OW_eqlB (by with_reducible exact und_bool) rfl rfl ?_ | refine OW_neqB (by with_reducible exact und_bool) rfl rfl ?_ | refine OW_idxS (by with_reducible exact und_bytes) one_u8 rfl rfl _ rfl (by omega) ?_ | refine OW_idxS (by with_reducible exact und_bytess) one_bytes rfl rfl _ rfl (by omega) ?_ | refine OW_load1 (by first | with_reducible exact one_u8 | with_reducible exact one_bytes) rfl _ (by assumption) ?_ | refine OW_load1 s_int rfl _ (by assumption) ?_ | (refine OW_isLoad ?_; refine OW_loadBk (by first | with_reducible exact s_int | with_reducible exact one_u8) rfl (by assumption) _ (by rfl) ?_) | (refine OW_isLoad ?_; refine OW_loadBk (by first | with_reducible exact one_u8 | with_reducible exact one_bytes | with_reducible exact one_bool | with_reducible exact one_int | with_reducible exact one_errno | with_reducible exact one_u32 | with_reducible exact one_u64 | with_reducible exact one_string | with_reducible exact s_int | with_reducible exact one_u8) rfl (by apply_assumption; assumption) _ (by first | assumption | rfl) ?_) | refine OW_load1 (by first | with_reducible exact one_u8 | with_reducible exact one_bytes | with_reducible exact one_bool | with_reducible exact one_int | with_reducible exact one_errno | with_reducible exact one_u32 | with_reducible exact one_u64 | with_reducible exact one_string | with_reducible exact s_int | with_reducible exact one_u8) rfl _ (by apply_assumption; assumption) ?_)
         refine OW_nil ?_
         exact stay_mk _ _ _ _)
    | refine OY_a (actY_of rfl ?_)
    | refine OY_d (actY_of rfl ?_)
    | refine OY_a (actY_pass rfl rfl ?_)
    | refine OY_d (actY_pass rfl rfl ?_)
    | refine OY_a (actY_take rfl rfl ?_)
    | refine OY_d (actY_take rfl rfl ?_))
  exact hEnd.out) (k : B) : A := h ⟨k⟩
section
variable {P : Program} {ops : Array Oper} {Q : Exit → (Nat → Value) → World → Prop} {rest : List Oper} {e : Nat → Value} {w : World} {d : Tmp} {ty : TypeId} {pos : String} {aft : Array Edge}
theorem OW_eqlIF {x y : Operand} {t t' : TypeId} {k : IntKind} {a b : Int} (hx : ev e x = .int k a) (hy : ev e y = .int k b) (hab : ¬ a = b) (h : OW P ops Q rest (upd e d (.bool false)) w) : OW P ops Q (⟨some d, .binOp .eql t x y t', ty, pos, aft, none⟩ :: rest) e w := by
  refine OW_eql hx hy ?_
  rw [beq_eq_false_iff_ne.2 hab]
  exact h
end
theorem facts {l : List AC} (hn : l.length ≤ 1000) (hk : ∀ x ∈ l, AcOk x) : (chainL l).length = l.length ∧ (∀ x ∈ chainL l, LOk x) ∧ chkL 0 tzS (chainL l) = 0 ∧
    ∀ i (hi : i < l.length) (hi2 : i < (chainL l).length), (chainL l)[i].n = (i : Int) + 1 ∧ (chainL l)[i].stamp = l[i].stamp ∧ ((chainL l)[i].op.toNat : Int) = (l[i].op.toNat : Int) ∧ (chainL l)[i].ten = l[i].ten ∧ (chainL l)[i].a = l[i].a ∧ (chainL l)[i].b = l[i].b ∧ (chainL l)[i].c = l[i].c ∧ headL ((chainL l).take i) = (chainL l)[i].ahead ∧ (chainL l)[i].self = linkH (chainL l)[i] ∧ chkL 0 tzS ((chainL l).take i) = 0 := by
  refine ⟨chainL_len l, chainL_ok hn (fun x hx => (hk x hx).i), chkL_chain l, fun i hi hi2 => ?_⟩
  have h := chainL_get l hi
  have ht := chainL_take l (i := i) (by omega)
  have hc := chkL_take 0 tzS _ (chkL_chain l) i
  rw [h, ht]
  rw [ht] at hc
  have hl : (chainL (l.take i)).length = i := by rw [chainL_len, List.length_take]; omega
  refine ⟨?_, rfl, rfl, rfl, rfl, rfl, rfl, rfl, nextL_self .., hc⟩
  show ((chainL (l.take i)).length : Int) + 1 = _
  rw [hl]
set_option maxHeartbeats 8000000 in
theorem walk (w : World) (v0 : Value) (l : List AC) (h0 : kActs13.R w [v0] l) : Calls Try.prog 13 #[v0] w (RetV w (.bool true)) := by
  obtain ⟨A, c, hv0, hc, hc2, hS⟩ := h0
  injection hv0 with hv0
  subst hv0
  obtain ⟨hl, hk⟩ := acts_of hS
  refine calls_of_CW Try.func13 rfl (by simp [Try.ntmps13]) ?_
  rw [Try.ntmps13]
  refine go_LAuditGrows (k := ?_)
  refine CW_cond _ rfl (fun hh => ?_) (fun hh => ?_)
  · refine go_LAuditGrows (k := ?_)
    refine OW_callV Try.func55 (by kernel_rfl) rfl (awake13_any w) rfl ?_
    intro w1 hx1
    refine go_LAuditGrows (k := ?_)
    exact bodyE_ret1 rfl (.bool true) rfl ⟨rfl, hx1⟩
  have hn : l.length ≤ 20 := by have := of_decide_eq_false hh; omega
  clear hh
  refine go_LAuditGrows (k := ?_)
  refine OW_callC Try.func59 (by kernel_rfl) rfl (chain_any w A c l hl hk (by omega)) rfl ?_
  rintro en w1 ⟨A2, c2, rfl, hO, hx1⟩
  refine ⟨_, rfl, ?_⟩
  obtain ⟨hzl, hok, hzc, hf⟩ := facts (by omega) hk
  generalize chainL l = z at *
  have hR := hO.rd hok
  have hcap := hO.cap
  have hzli : ((z.length : Nat) : Int) = (l.length : Nat) := by rw [hzl]
  clear hO
  refine go_LAuditGrows (k := ?_)
  refine OW_callV Try.func57 (by kernel_rfl) rfl (audCheck_any w1 A2 c2 z hR hok (by omega)) rfl ?_
  intro w2 hx2
  rw [hzc]
  have hx02 := hx1.trans' hx2
  have hR2 := hR.ext hx2
  refine go_LAuditGrows (k := ?_)
  refine CW_loop (fun e' w' => ∃ k : Nat, k ≤ z.length ∧ e' 0 = .slice A l.length c ∧ e' 3 = .slice A2 z.length c2 ∧ e' 4 = .int .i64 k ∧ Ext w2 w') (fun e' _ => z.length - (intOf (e' 4)).toNat) ⟨0, Nat.zero_le _, rfl, rfl, rfl, Ext.rfl' _⟩ ?_
  rintro e' w3 ⟨k, hk2, q0, q3, q4, hx3⟩
  rw [upd_self q0, upd_self q3, upd_self q4]
  refine go_LAuditGrows (k := ?_)
  refine CW_cond _ rfl (fun hh => ?_) (fun hh => ?_)
  · have hlt : k < z.length := by have := of_decide_eq_true hh; omega
    have hltl : k < l.length := by omega
    clear hh
    have hA := audAt_any w3 A2 c2 z (hR2.ext hx3) hok (by omega) ((k : Int) + 1) (by unfold I64; omega)
    have ha1 : atL z ((k : Int) + 1) = z[k] := by
      unfold atL
      rw [if_pos (by omega), show ((k : Int) + 1 - 1).toNat = k by omega, List.getD_eq_getElem?_getD, List.getElem?_eq_getElem hlt]
      rfl
    have ha2 : atE z ((k : Int) + 1) = 0 := if_pos (by omega)
    rw [ha1, ha2] at hA
    obtain ⟨f1, f2, f3, f4, f5, f6, f7, f8, f9, f10⟩ := hf k hltl hlt
    have hokx := hok _ (List.getElem_mem hlt)
    obtain ⟨ad, hAa, hat⟩ := (hl.ext (hx02.trans' hx3)).at_ (by decide) (i := k) (by simpa using hltl)
    rw [List.getElem_map] at hat
    generalize l[k] = a at *
    generalize z[k] = x at *
    subst hAa
    have hxl := lcells_length hokx
    have hahl := hokx.ahead
    have hsel := hokx.self
    have hHl : (linkH x).length = 32 := shaL_length _
    clear ha1 ha2
    refine go_LAuditGrows (k := ?_)
    refine OW_callV Try.func56 (by kernel_rfl) rfl hA rfl ?_
    intro w4 hx4
    refine go_LAuditGrows (k := ?_)
    refine OW_allocA agg_Link ?_
    intro w5 g5 hb5 hg5 hlt5 hx5
    have hx35 := hx4.trans' hx5
    refine go_LAuditGrows (k := ?_)
    refine OW_storeA agg_Link rfl (lcells x) rfl hxl hb5 (by kernel_rfl) (lcells_one _) ?_
    intro w6 hb6 hg6
    have hb6 : Blk w6 g5 76 (lcells x).toArray := hb6
    have hx36 : Ext w3 w6 := (Keeps.of_only hg6 (S := (· = g5)) rfl).ext hx35 (fun j hj => by have hj : j = g5 := hj; have := hx4.size; omega)
    have hx26 := hx3.trans' hx36
    clear hb5 hg6 hA
    have hat6 := At.ext hat hx36
    have d0 : w6.cell? ((ad.add (k * 6)).add 0) = some (.int .i64 a.stamp) := hat6 0 _ rfl
    have d1 : w6.cell? ((ad.add (k * 6)).add 1) = some (bv a.op) := hat6 1 _ rfl
    have d2 : w6.cell? ((ad.add (k * 6)).add 2) = some (.int .i64 a.ten) := hat6 2 _ rfl
    have d3 : w6.cell? ((ad.add (k * 6)).add 3) = some (.int .i64 a.a) := hat6 3 _ rfl
    have d4 : w6.cell? ((ad.add (k * 6)).add 4) = some (.int .i64 a.b) := hat6 4 _ rfl
    have d5 : w6.cell? ((ad.add (k * 6)).add 5) = some (.int .i64 a.c) := hat6 5 _ rfl
    refine go_LAuditGrows (k := ?_)
    obtain ⟨C, hC⟩ : ∃ C : World → Prop, C = fun v => Ext w6 v := ⟨_, rfl⟩
    have y_hb6 := blkE hC hb6
    have y_d0 := cellE hC d0
    have y_d1 := cellE hC d1
    have y_d2 := cellE hC d2
    have y_d3 := cellE hC d3
    have y_d4 := cellE hC d4
    have y_d5 := cellE hC d5
    refine CW_tree2 [4, 11, 16, 21, 26, 31, 36, 41, 46, 51, 56, 61, 66] (.p 0 (.p 1 (.p 2 (.p 3 (.q 4 (.p 5 (.p 6 (.p 7 (.p 8 (.p 9 (.p 10 (.q 11 (.p 12 (.p 13 (.p 14 (.p 15 (.q 16 (.p 17 (.p 18 (.p 19 (.p 20 (.q 21 (.p 22 (.p 23 (.p 24 (.p 25 (.q 26 (.p 27 (.p 28 (.p 29 (.p 30 (.q 31 (.p 32 (.p 33 (.p 34 (.p 35 (.q 36 (.p 37 (.p 38 (.p 39 (.p 40 (.q 41 (.p 42 (.p 43 (.p 44 (.p 45 (.q 46 (.p 47 (.p 48 (.p 49 (.p 50 (.q 51 (.p 52 (.p 53 (.p 54 (.p 55 (.q 56 (.p 57 (.p 58 (.p 59 (.p 60 (.q 61 (.p 62 (.p 63 (.p 64 (.p 65 (.q 66 (.p 67 (.p 68 .done))))))))))))))))))))))))))))))))))))))))))))))))))))))))))))))))))))) (C) (by kernel_rfl) (by kernel_rfl) (by kernel_rfl) ?_ ?_
    · exact inE hC
    intro w7 hx7 h_C
    refine oy_LAuditGrows (k := ?_)
    refine go_LAuditGrows (k := ?_)
    have hx27 := hx26.trans' hx7
    have hb7 := hb6.ext hx7
    clear y_hb6 y_d0 y_d1 y_d2 y_d3 y_d4 y_d5 hC h_C C d0 d1 d2 d3 d4 d5
    have hRk : LRd w2 (cutN A2 c2 0 71) (z.take k) := by have := RdN.cut hR2 c2 0 k (by omega); rw [List.drop_zero, ← List.map_take] at this; exact this
    have hokk : ∀ y ∈ z.take k, LOk y := fun y hy => hok y (List.mem_of_mem_take hy)
    have htk : (z.take k).length = k := by rw [List.length_take]; omega
    have hhd32 : (headL (z.take k)).length = 32 := headL_len hokk
    obtain ⟨C, hC⟩ : ∃ C : World → Prop, C = fun v => Ext w7 v := ⟨_, rfl⟩
    have ya : ∀ v, C v → AtM v ⟨g5, 7, none⟩ (x.ahead.map bv) 32 := by rw [hC]; exact fun v hv => blk_a hokx (hb7.ext hv)
    have ys : ∀ v, C v → AtM v ⟨g5, 39, none⟩ (x.self.map bv) 32 := by rw [hC]; exact fun v hv => blk_s hokx (hb7.ext hv)
    have yx : ∀ v, C v → AtM v ⟨g5, 0, none⟩ (lcells x) 71 := by rw [hC]; exact fun v hv => blk_x hokx (hb7.ext hv)
    refine CW_tree2 [11, 16, 17] (.p 0 (.p 1 (.p 2 (.d 3 (.p 4 (.p 5 (.p 6 (.p 7 (.p 8 (.p 10 (.q 11 (.a 9 (.p 12 (.p 13 (.p 14 (.p 15 (.q 16 (.q 17 (.a 18 (.p 19 (.p 20 .done))))))))))))))))))))) (C) (by kernel_rfl) (by kernel_rfl) (by kernel_rfl) ?_ ?_
    · exact inE hC
    intro w8 hx8 h_C
    refine oy_LAuditGrows (k := ?_)
    refine OW_callV Try.func57 (by kernel_rfl) rfl (audCheck_any w8 (cutN A2 c2 0 71) c2 (z.take k) (hRk.ext (hx27.trans' hx8)) hokk (by omega)) (by rw [htk]; rfl) ?_
    intro w9 hx9
    rw [f10]
    have hy9 := hx8.trans' hx9
    first | refine OW_nil (goY_mkE hC (hy9) ?_) | refine OW_nil (goY_dropE hC (hy9) ?_)
    refine oy_LAuditGrows (k := ?_)
    refine OW_callV Try.func54 (by kernel_rfl) rfl (audHead_any w9 (cutN A2 c2 0 71) c2 (z.take k) (hRk.ext (hx27.trans' hy9)) hokk (by omega)) (by rw [htk]; rfl) ?_
    intro w10 hx10
    have hy10 := hy9.trans' hx10
    first | refine OW_nil (goY_mkE hC (hy10) ?_) | refine OW_nil (goY_dropE hC (hy10) ?_)
    refine oy_LAuditGrows (k := ?_)
    refine OW_callV Try.func52 (by kernel_rfl) rfl (audHash_any w10 x hokx) rfl ?_
    intro w11 hx11
    have hy11 := hy10.trans' hx11
    first | refine OW_nil (goY_mkE hC (hy11) ?_) | refine OW_nil (goY_dropE hC (hy11) ?_)
    refine oy_LAuditGrows (k := ?_)
    refine go_LAuditGrows (k := ?_)
    refine ⟨⟨k + 1, by omega, rfl, rfl, rfl, hx27.trans' hy11⟩, ?_⟩
    show z.length - ((k : Int) + 1).toNat < z.length - (k : Int).toNat
    omega
  · refine go_LAuditGrows (k := ?_)
    refine OW_callV Try.func55 (by kernel_rfl) rfl (awake13_any w3) rfl ?_
    intro w4 hx4
    refine go_LAuditGrows (k := ?_)
    exact bodyE_ret1 rfl (.bool true) rfl ⟨rfl, (hx02.trans' hx3).trans' hx4⟩
set_option maxRecDepth 100000 in
theorem lifted (os : Os) (started : os.Started) (H : Type) (enc : TypeId × Value → H) :
    ReturnsInHanded {} Try.checked os 13 .any (Rows.auditGrowsSpec.pre6 enc Try.prog Try.f13 Rows.auditGrowsRow.domain false) (Rows.auditGrowsSpec.post enc Try.prog Try.f13 false true false false) := by
  refine returnsInHanded_of_change_sized (C := Try.checked) ownP started (by kernel_rfl) Try.func13
    (ChangeSpec.witness6 (enc := enc) (C := Try.checked) false ⟨#[], #[.slice none 0 0], []⟩ 8 (by kernel_rfl) (by kernel_rfl) (by kernel_rfl) (by kernel_rfl)) ?_
  intro W base args ds gs before hval0 hW hcnd hwt0 _
  have hval : ∀ (j : Nat) t v, Try.f13.params[j]? = some t → args[j]? = some v → Value.okWide Try.prog W .any base t v := hval0
  have hW' := hW
  obtain ⟨p, q, hA0, hV, rfl, hfz, hnd⟩ := hW
  have hA : DataW.TrodAll enc Try.prog W 0 (fun _ => true) true Try.f13.params.toList args.toList ds p := hA0
  have hwt : (DataW.weightsEach Try.prog (Try.f13.params.toList ++ []) (ds ++ gs)).all (· ≤ reachBytes) = true := hwt0
  rw [Try.params13] at hA hval hwt
  obtain ⟨v0, vs0, d0, ds0, p0, q0, hargs, rfl, rfl, h0, r0⟩ := trodAll_cons hA
  obtain ⟨rfl, rfl, rfl⟩ := trodAll_nil r0
  obtain rfl : args = #[v0] := by cases args; simp_all
  obtain ⟨rfl, rfl⟩ := trodVars_none hV
  have k0 := h0
  have lt0 : ∀ x ∈ p0, x.block < W.heap.size := by obtain ⟨m, hm⟩ := k0; exact DataW.trod_lt m _ _ _ hm
  have wk0 : WOk Try.prog 86 d0 := wok_each hwt 0 rfl rfl
  obtain ⟨a0, b0⟩ := kd_slice kActs13 und_Acts (hval 0 86 v0 rfl rfl) h0 wk0
  clear hA0 hval0 hwt0
  refine (walk W v0 a0 b0).mono fun e W' ⟨he, bel⟩ => ?_
  subst he
  exact ⟨_, rfl, _, _, _, [], _, [], hW', trodAll_mk1 (shut_bool Try.underlying4 _), (trodAll_cons_mk (Below.trod laidP (by kernel_rfl) (of_decide_eq_true (by kernel_rfl)) k0 bel lt0) trodAll_mk0), rfl, bel.frame _, fun h => by cases h⟩
theorem over : Rows.auditGrowsRow.holds Try.pinned (OpenSpec.ofChange Rows.auditGrowsSpec) :=
  OpenClaim.holds_of_wide 13 Try.f13 rfl rfl rfl rfl rfl rfl rfl ⟨rfl, rfl, rfl, rfl, rfl⟩ rfl rfl rfl rfl rfl (by kernel_rfl) Try.func13 (by kernel_rfl)
    (of_decide_eq_true (by kernel_rfl)) (by unfold Func.isWrapper; first | (rw [if_pos (by decide +kernel)]; kernel_rfl) | (rw [if_neg (by decide +kernel)]; exact ⟨rfl, rfl⟩))
    (fun os started H enc _ => lifted os started H enc)
theorem proved : Rows.AuditGrowsSaid := over
#print axioms proved
end Go.Proofs.Ytdpcahfgdpikfaa.lawAuditGrows
