/- AuditChecks: the first wrong link, and the link at a place, are those of the document. No condition. -/
import Derived.Test.YtdpcahfgdpikfaaGt3
import Derived.Test.YtdpcahfgdpikfaaGt18
namespace Go.Proofs.Ytdpcahfgdpikfaa.lawAuditChecks
open Go.ChangeShapes Go.WideShapes Go.ChangeAt Go.RowKit
set_option linter.unusedVariables false
set_option maxRecDepth 4000
theorem go_LAuditChecks {A B : Prop} (h : Held B → A := by
  intro hEnd
  repeat (first | refine OW_sliceHiN und_Links el_Link rfl rfl _ rfl (by omega) ?_ | refine OW_neqKF rfl rfl (by assumption) ?_ | refine OW_lenS und_Acts rfl ?_ | refine OW_idxN und_Acts el_Act13 rfl rfl _ rfl (by omega) ?_ | refine OW_fieldO fldo_AA0 rfl ?_ | refine OW_fieldO fldo_AA1 rfl ?_ | refine OW_fieldO fldo_AA2 rfl ?_ | refine OW_fieldO fldo_AA3 rfl ?_ | refine OW_fieldO fldo_AA4 rfl ?_ | refine OW_fieldO fldo_AA5 rfl ?_ | refine OW_eqlIT rfl rfl (by first | rfl | assumption) ?_ | refine OW_eqlQT s_eqr_Tag rfl rfl (by assumption) (by first | rfl | assumption) ?_ | refine OW_eqlKT rfl rfl (by assumption) ?_ | refine OW_sliceLoN 1 und_Links el_Link rfl rfl rfl (by assumption) ?_ | refine OW_neqIF rfl rfl (by first | rfl | assumption) ?_ | (refine OW_isLoad ?_; refine OW_loadM (by first | with_reducible exact s_agg_Tag | with_reducible exact agg_Link) rfl (by apply_assumption; assumption) ?_) | refine OW_idxN und_Links el_Link rfl rfl 0 rfl (Nat.le_of_ble_eq_true rfl) ?_ | refine OW_idxN und_Links el_Link rfl rfl 1 rfl (Nat.le_of_ble_eq_true rfl) ?_ | refine OW_neqIT rfl rfl (by assumption) ?_ | refine OW_neqQF s_eqr_Tag rfl rfl (by assumption) (by first | rfl | assumption) ?_ | refine OW_neqQT s_eqr_Tag rfl rfl (by assumption) (by assumption) (by assumption) ?_ | refine OW_fieldB fldo_L0 rfl ?_ | refine OW_fieldB fldo_L1 rfl ?_ | refine OW_fieldB fldo_L2 rfl ?_ | refine OW_fieldB fldo_L3 rfl ?_ | refine OW_fieldB fldo_L4 rfl ?_ | refine OW_fieldB fldo_L5 rfl ?_ | refine OW_fieldB fldo_L6 rfl ?_ | refine OW_fieldB fldo_L7 rfl ?_ | refine OW_fieldB fldo_L8 rfl ?_ | refine OW_fieldO fldo_L0 rfl ?_ | refine OW_fieldO fldo_L4 rfl ?_ | refine OW_fieldO fldo_L7 rfl ?_ | refine OW_fieldO fldo_L8 rfl ?_ | refine OW_lenS und_Links rfl ?_ | refine OW_idxN und_Links el_Link rfl rfl _ rfl (by omega) ?_ | refine OW_moveV (.int _ _) rfl ?_ | refine OW_moveV (.slice _ _ _) rfl ?_ | refine OW_moveV (.bool _) rfl ?_ | refine OW_moveV (.pointer _) rfl ?_ | refine OW_moveV (.string _) rfl ?_ | refine OW_moveV (.agg _) rfl ?_ | refine OW_moveV (.tuple _) rfl ?_ | refine OW_nil ?_ | refine thenE_normal ?_ | refine CW_seq ?_ | refine CW_region (by kernel_rfl) ?_ | refine OW_assignV (.int _ _) rfl ?_ | refine OW_assignV (.slice _ _ _) rfl ?_ | refine OW_assignV (.bool _) rfl ?_ | refine OW_assignV (.pointer _) rfl ?_ | refine OW_assignV (.string _) rfl ?_ | refine OW_assignV (.agg _) rfl ?_ | refine OW_assignV (.tuple _) rfl ?_ | refine OW_addI rfl rfl (by omega) ?_ | refine OW_subI rfl rfl (by omega) ?_ | refine OW_mulI rfl rfl (by omega) ?_ | refine OW_lss rfl rfl ?_ | refine OW_extract rfl rfl ?_ | refine OW_gtr rfl rfl ?_ | refine OW_leq rfl rfl ?_ | refine OW_geq rfl rfl ?_ | refine OW_eql rfl rfl ?_ | refine OW_neq rfl rfl ?_ | refine OW_not rfl ?_ | refine OW_pickT rfl _ rfl ?_ | refine OW_pickF rfl (.bool _) rfl ?_ | refine OW_pickB rfl rfl rfl ?_ | refine OW_move ?_ | refine OW_assign ?_ | refine OW_pass rfl ?_ | refine OW_take rfl ?_ | refine OW_lenS (by first | with_reducible exact und_bytes | with_reducible exact und_bytess) rfl ?_ | refine OW_convInt (by first | with_reducible exact und_u8 | with_reducible exact und_u64 | with_reducible exact und_int | with_reducible exact und_u32) (by first | with_reducible exact und_u8 | with_reducible exact und_u64 | with_reducible exact und_int | with_reducible exact und_u32) rfl ?_ | refine OW_add rfl rfl ?_ | refine OW_sub rfl rfl ?_ | refine OW_mul rfl rfl ?_ | refine OW_min2 rfl rfl ?_ | refine OW_max2 rfl rfl ?_ | refine OW_neg rfl ?_ | refine CW_block ?_ | refine CW_condT rfl ?_ | refine CW_condF rfl ?_ | refine CW_exit ?_ | refine CW_ret ?_ | refine CW_skip ?_ | refine LW_seq ?_ | refine LW_regC ?_ | refine LW_condC ?_ | refine LW_regF ?_ | refine LW_condF ?_ | refine FW_seq ?_ | refine FW_region (by kernel_rfl) ?_ | refine FW_block ?_ | refine FW_condT rfl ?_ | refine FW_condF rfl ?_ | refine FW_exit ?_ | refine FW_ret ?_ | refine FW_skip ?_ | refine LW_ret ?_ | refine LW_skip ?_ | refine thenE_exit ?_ | refine thenE_ret ?_ | refine inBlockE_normal ?_ | refine inBlockE_same ?_ | refine inBlockE_ret ?_ | refine inBlockE_ne (by rfl) ?_ | refine OW_eqlB (by with_reducible exact und_bool) rfl rfl ?_ | refine OW_neqB (by with_reducible exact und_bool) rfl rfl ?_ | refine OW_idxS (by with_reducible exact und_bytes) one_u8 rfl rfl _ rfl (by omega) ?_ | refine OW_idxS (by with_reducible exact und_bytess) one_bytes rfl rfl _ rfl (by omega) ?_ | refine OW_load1 (by first | with_reducible exact one_u8 | with_reducible exact one_bytes) rfl _ (by assumption) ?_ | refine OW_load1 s_int rfl _ (by assumption) ?_)
  exact hEnd.out) (k : B) : A := h ⟨k⟩
theorem oy_LAuditChecks {A B : Prop} (h : Held B → A := by
  intro hEnd
  repeat (first
    | refine OY_done ?_
    | (apply OY_p _ rfl
       · intro wd
         (first | refine OW_sliceHiN und_Links el_Link rfl rfl _ rfl (by omega) ?_ | refine OW_neqKF rfl rfl (by assumption) ?_ | refine OW_lenS und_Acts rfl ?_ | refine OW_idxN und_Acts el_Act13 rfl rfl _ rfl (by omega) ?_ | refine OW_fieldO fldo_AA0 rfl ?_ | refine OW_fieldO fldo_AA1 rfl ?_ | refine OW_fieldO fldo_AA2 rfl ?_ | refine OW_fieldO fldo_AA3 rfl ?_ | refine OW_fieldO fldo_AA4 rfl ?_ | refine OW_fieldO fldo_AA5 rfl ?_ | refine OW_eqlIT rfl rfl (by first | rfl | assumption) ?_ | refine OW_eqlQT s_eqr_Tag rfl rfl (by assumption) (by first | rfl | assumption) ?_ | refine OW_eqlKT rfl rfl (by assumption) ?_ | refine OW_sliceLoN 1 und_Links el_Link rfl rfl rfl (by assumption) ?_ | refine OW_neqIF rfl rfl (by first | rfl | assumption) ?_ | (refine OW_isLoad ?_; refine OW_loadM (by first | with_reducible exact s_agg_Tag | with_reducible exact agg_Link) rfl (by apply_assumption; assumption) ?_) | refine OW_idxN und_Links el_Link rfl rfl 0 rfl (Nat.le_of_ble_eq_true rfl) ?_ | refine OW_idxN und_Links el_Link rfl rfl 1 rfl (Nat.le_of_ble_eq_true rfl) ?_ | refine OW_neqIT rfl rfl (by assumption) ?_ | refine OW_neqQF s_eqr_Tag rfl rfl (by assumption) (by first | refine rfl | refine assumption) ?_ | refine OW_neqQT s_eqr_Tag rfl rfl (by assumption) (by assumption) (by assumption) ?_ | refine OW_fieldB fldo_L0 rfl ?_ | refine OW_fieldB fldo_L1 rfl ?_ | refine OW_fieldB fldo_L2 rfl ?_ | refine OW_fieldB fldo_L3 rfl ?_ | refine OW_fieldB fldo_L4 rfl ?_ | refine OW_fieldB fldo_L5 rfl ?_ | refine OW_fieldB fldo_L6 rfl ?_ | refine OW_fieldB fldo_L7 rfl ?_ | refine OW_fieldB fldo_L8 rfl ?_ | refine OW_fieldO fldo_L0 rfl ?_ | refine OW_fieldO fldo_L4 rfl ?_ | refine OW_fieldO fldo_L7 rfl ?_ | refine OW_fieldO fldo_L8 rfl ?_ | refine OW_lenS und_Links rfl ?_ | refine OW_idxN und_Links el_Link rfl rfl _ rfl (by omega) ?_ | refine OW_moveV (.int _ _) rfl ?_ | refine OW_moveV (.slice _ _ _) rfl ?_ | refine OW_moveV (.bool _) rfl ?_ | refine OW_moveV (.pointer _) rfl ?_ | refine OW_moveV (.string _) rfl ?_ | refine OW_moveV (.agg _) rfl ?_ | refine OW_moveV (.tuple _) rfl ?_ | refine OW_nil ?_ | refine thenE_normal ?_ | refine CW_seq ?_ | refine CW_region (by kernel_rfl) ?_ | refine OW_assignV (.int _ _) rfl ?_ | refine OW_assignV (.slice _ _ _) rfl ?_ | refine OW_assignV (.bool _) rfl ?_ | refine OW_assignV (.pointer _) rfl ?_ | refine OW_assignV (.string _) rfl ?_ | refine OW_assignV (.agg _) rfl ?_ | refine OW_assignV (.tuple _) rfl ?_ | refine OW_addI rfl rfl (by omega) ?_ | refine OW_subI rfl rfl (by omega) ?_ | refine OW_mulI rfl rfl (by omega) ?_ | refine OW_lss rfl rfl ?_ | refine OW_extract rfl rfl ?_ | refine OW_gtr rfl rfl ?_ | refine OW_leq rfl rfl ?_ | refine OW_geq rfl rfl ?_ | refine OW_eql rfl rfl ?_ | refine OW_neq rfl rfl ?_ | refine OW_not rfl ?_ | refine OW_pickT rfl _ rfl ?_ | refine OW_pickF rfl (.bool _) rfl ?_ | refine OW_pickB rfl rfl rfl ?_ | refine OW_move ?_ | refine OW_assign ?_ | refine OW_pass rfl ?_ | refine OW_take rfl ?_ | refine OW_lenS (by first | with_reducible exact und_bytes | with_reducible exact und_bytess) rfl ?_ | refine OW_convInt (by first | with_reducible exact und_u8 | with_reducible exact und_u64 | with_reducible exact und_int | with_reducible exact und_u32) (by first | with_reducible exact und_u8 | with_reducible exact und_u64 | with_reducible exact und_int | with_reducible exact und_u32) rfl ?_ | refine OW_add rfl rfl ?_ | refine OW_sub rfl rfl ?_ | refine OW_mul rfl rfl ?_ | refine OW_min2 rfl rfl ?_ | refine OW_max2 rfl rfl ?_ | refine OW_neg rfl ?_ | refine CW_block ?_ | refine CW_condT rfl ?_ | refine CW_condF rfl ?_ | refine CW_exit ?_ | refine CW_ret ?_ | refine CW_skip ?_ | refine LW_seq ?_ | refine LW_regC ?_ | refine LW_condC ?_ | refine LW_regF ?_ | refine LW_condF ?_ | refine FW_seq ?_ | refine FW_region (by kernel_rfl) ?_ | refine FW_block ?_ | refine FW_condT rfl ?_ | refine FW_condF rfl ?_ | refine FW_exit ?_ | refine FW_ret ?_ | refine FW_skip ?_ | refine LW_ret ?_ | refine LW_skip ?_ | refine thenE_exit ?_ | refine thenE_ret ?_ | refine inBlockE_normal ?_ | refine inBlockE_same ?_ | refine inBlockE_ret ?_ | refine inBlockE_ne (by rfl) ?_ | refine OW_eqlB (by with_reducible exact und_bool) rfl rfl ?_ | refine OW_neqB (by with_reducible exact und_bool) rfl rfl ?_ | refine OW_idxS (by with_reducible exact und_bytes) one_u8 rfl rfl _ rfl (by omega) ?_ | refine OW_idxS (by with_reducible exact und_bytess) one_bytes rfl rfl _ rfl (by omega) ?_ | refine OW_load1 (by first | with_reducible exact one_u8 | with_reducible exact one_bytes) rfl _ (by assumption) ?_ | refine OW_load1 s_int rfl _ (by assumption) ?_)
         refine OW_nil ?_
         exact stay_mk _ _ _ _)
    | (apply OY_q _ rfl
       · intro wd hwd
         (first | refine OW_sliceHiN und_Links el_Link rfl rfl _ rfl (by omega) ?_ | refine OW_neqKF rfl rfl (by assumption) ?_ | refine OW_lenS und_Acts rfl ?_ | refine OW_idxN und_Acts el_Act13 rfl rfl _ rfl (by omega) ?_ | refine OW_fieldO fldo_AA0 rfl ?_ | refine OW_fieldO fldo_AA1 rfl ?_ | refine OW_fieldO fldo_AA2 rfl ?_ | refine OW_fieldO fldo_AA3 rfl ?_ | refine OW_fieldO fldo_AA4 rfl ?_ | refine OW_fieldO fldo_AA5 rfl ?_ | refine OW_eqlIT rfl rfl (by first | rfl | assumption) ?_ | refine OW_eqlQT s_eqr_Tag rfl rfl (by assumption) (by first | rfl | assumption) ?_ | refine OW_eqlKT rfl rfl (by assumption) ?_ | refine OW_sliceLoN 1 und_Links el_Link rfl rfl rfl (by assumption) ?_ | refine OW_neqIF rfl rfl (by first | rfl | assumption) ?_ | (refine OW_isLoad ?_; refine OW_loadM (by first | with_reducible exact s_agg_Tag | with_reducible exact agg_Link) rfl (by apply_assumption; assumption) ?_) | refine OW_idxN und_Links el_Link rfl rfl 0 rfl (Nat.le_of_ble_eq_true rfl) ?_ | refine OW_idxN und_Links el_Link rfl rfl 1 rfl (Nat.le_of_ble_eq_true rfl) ?_ | refine OW_neqIT rfl rfl (by assumption) ?_ | refine OW_neqQF s_eqr_Tag rfl rfl (by assumption) (by first | refine rfl | refine assumption) ?_ | refine OW_neqQT s_eqr_Tag rfl rfl (by assumption) (by assumption) (by assumption) ?_ | refine OW_fieldB fldo_L0 rfl ?_ | refine OW_fieldB fldo_L1 rfl ?_ | refine OW_fieldB fldo_L2 rfl ?_ | refine OW_fieldB fldo_L3 rfl ?_ | refine OW_fieldB fldo_L4 rfl ?_ | refine OW_fieldB fldo_L5 rfl ?_ | refine OW_fieldB fldo_L6 rfl ?_ | refine OW_fieldB fldo_L7 rfl ?_ | refine OW_fieldB fldo_L8 rfl ?_ | refine OW_fieldO fldo_L0 rfl ?_ | refine OW_fieldO fldo_L4 rfl ?_ | refine OW_fieldO fldo_L7 rfl ?_ | refine OW_fieldO fldo_L8 rfl ?_ | refine OW_lenS und_Links rfl ?_ | refine OW_idxN und_Links el_Link rfl rfl _ rfl (by omega) ?_ | refine OW_moveV (.int _ _) rfl ?_ | refine OW_moveV (.slice _ _ _) rfl ?_ | refine OW_moveV (.bool _) rfl ?_ | refine OW_moveV (.pointer _) rfl ?_ | refine OW_moveV (.string _) rfl ?_ | refine OW_moveV (.agg _) rfl ?_ | refine OW_moveV (.tuple _) rfl ?_ | refine OW_nil ?_ | refine thenE_normal ?_ | refine CW_seq ?_ | refine CW_region (by kernel_rfl) ?_ | refine OW_assignV (.int _ _) rfl ?_ | refine OW_assignV (.slice _ _ _) rfl ?_ | refine OW_assignV (.bool _) rfl ?_ | refine OW_assignV (.pointer _) rfl ?_ | refine OW_assignV (.string _) rfl ?_ | refine OW_assignV (.agg _) rfl ?_ | refine OW_assignV (.tuple _) rfl ?_ | refine OW_addI rfl rfl (by omega) ?_ | refine OW_subI rfl rfl (by omega) ?_ | refine OW_mulI rfl rfl (by omega) ?_ | refine OW_lss rfl rfl ?_ | refine OW_extract rfl rfl ?_ | refine OW_gtr rfl rfl ?_ | refine OW_leq rfl rfl ?_ | refine OW_geq rfl rfl ?_ | refine OW_eql rfl rfl ?_ | refine OW_neq rfl rfl ?_ | refine OW_not rfl ?_ | refine OW_pickT rfl _ rfl ?_ | refine OW_pickF rfl (.bool _) rfl ?_ | refine OW_pickB rfl rfl rfl ?_ | refine OW_move ?_ | refine OW_assign ?_ | refine OW_pass rfl ?_ | refine OW_take rfl ?_ | refine OW_lenS (by first | with_reducible exact und_bytes | with_reducible exact und_bytess) rfl ?_ | refine OW_convInt (by first | with_reducible exact und_u8 | with_reducible exact und_u64 | with_reducible exact und_int | with_reducible exact und_u32) (by first | with_reducible exact und_u8 | with_reducible exact und_u64 | with_reducible exact und_int | with_reducible exact und_u32) rfl ?_ | refine OW_add rfl rfl ?_ | refine OW_sub rfl rfl ?_ | refine OW_mul rfl rfl ?_ | refine OW_min2 rfl rfl ?_ | refine OW_max2 rfl rfl ?_ | refine OW_neg rfl ?_ | refine CW_block ?_ | refine CW_condT rfl ?_ | refine CW_condF rfl ?_ | refine CW_exit ?_ | refine CW_ret ?_ | refine CW_skip ?_ | refine LW_seq ?_ | refine LW_regC ?_ | refine LW_condC ?_ | refine LW_regF ?_ | refine LW_condF ?_ | refine FW_seq ?_ | refine FW_region (by kernel_rfl) ?_ | refine FW_block ?_ | refine FW_condT rfl ?_ | refine FW_condF rfl ?_ | refine FW_exit ?_ | refine FW_ret ?_ | refine FW_skip ?_ | refine LW_ret ?_ | refine LW_skip ?_ | refine thenE_exit ?_ | refine thenE_ret ?_ | refine inBlockE_normal ?_ | refine inBlockE_same ?_ | refine inBlockE_ret ?_ | refine inBlockE_ne (by rfl) ?_ | refine OW_eqlB (by with_reducible exact und_bool) rfl rfl ?_ | refine OW_neqB (by with_reducible exact und_bool) rfl rfl ?_ | refine OW_idxS (by with_reducible exact und_bytes) one_u8 rfl rfl _ rfl (by omega) ?_ | refine OW_idxS (by with_reducible exact und_bytess) one_bytes rfl rfl _ rfl (by omega) ?_ | refine OW_load1 (by first | with_reducible exact one_u8 | with_reducible exact one_bytes) rfl _ (by assumption) ?_ | refine OW_load1 s_int rfl _ (by assumption) ?_ | (refine OW_isLoad ?_; refine OW_loadBk (by first | with_reducible exact one_u8 | with_reducible exact one_bytes | with_reducible exact one_bool | with_reducible exact one_int | with_reducible exact one_errno | with_reducible exact one_u32 | with_reducible exact one_u64 | with_reducible exact one_string | with_reducible exact s_int | with_reducible exact one_u8) rfl (by apply_assumption; assumption) _ (by first | assumption | rfl) ?_) | refine OW_load1 (by first | with_reducible exact one_u8 | with_reducible exact one_bytes | with_reducible exact one_bool | with_reducible exact one_int | with_reducible exact one_errno | with_reducible exact one_u32 | with_reducible exact one_u64 | with_reducible exact one_string | with_reducible exact s_int | with_reducible exact one_u8) rfl _ (by apply_assumption; assumption) ?_)
         refine OW_nil ?_
         exact stay_mk _ _ _ _)
    | refine OY_ppass rfl rfl ?_
    | refine OY_qpass rfl rfl ?_
    | (apply OY_ptake _ rfl rfl
       · intro wd
         (first | refine OW_sliceHiN und_Links el_Link rfl rfl _ rfl (by omega) ?_ | refine OW_neqKF rfl rfl (by assumption) ?_ | refine OW_lenS und_Acts rfl ?_ | refine OW_idxN und_Acts el_Act13 rfl rfl _ rfl (by omega) ?_ | refine OW_fieldO fldo_AA0 rfl ?_ | refine OW_fieldO fldo_AA1 rfl ?_ | refine OW_fieldO fldo_AA2 rfl ?_ | refine OW_fieldO fldo_AA3 rfl ?_ | refine OW_fieldO fldo_AA4 rfl ?_ | refine OW_fieldO fldo_AA5 rfl ?_ | refine OW_eqlIT rfl rfl (by first | rfl | assumption) ?_ | refine OW_eqlQT s_eqr_Tag rfl rfl (by assumption) (by first | rfl | assumption) ?_ | refine OW_eqlKT rfl rfl (by assumption) ?_ | refine OW_sliceLoN 1 und_Links el_Link rfl rfl rfl (by assumption) ?_ | refine OW_neqIF rfl rfl (by first | rfl | assumption) ?_ | (refine OW_isLoad ?_; refine OW_loadM (by first | with_reducible exact s_agg_Tag | with_reducible exact agg_Link) rfl (by apply_assumption; assumption) ?_) | refine OW_idxN und_Links el_Link rfl rfl 0 rfl (Nat.le_of_ble_eq_true rfl) ?_ | refine OW_idxN und_Links el_Link rfl rfl 1 rfl (Nat.le_of_ble_eq_true rfl) ?_ | refine OW_neqIT rfl rfl (by assumption) ?_ | refine OW_neqQF s_eqr_Tag rfl rfl (by assumption) (by first | refine rfl | refine assumption) ?_ | refine OW_neqQT s_eqr_Tag rfl rfl (by assumption) (by assumption) (by assumption) ?_ | refine OW_fieldB fldo_L0 rfl ?_ | refine OW_fieldB fldo_L1 rfl ?_ | refine OW_fieldB fldo_L2 rfl ?_ | refine OW_fieldB fldo_L3 rfl ?_ | refine OW_fieldB fldo_L4 rfl ?_ | refine OW_fieldB fldo_L5 rfl ?_ | refine OW_fieldB fldo_L6 rfl ?_ | refine OW_fieldB fldo_L7 rfl ?_ | refine OW_fieldB fldo_L8 rfl ?_ | refine OW_fieldO fldo_L0 rfl ?_ | refine OW_fieldO fldo_L4 rfl ?_ | refine OW_fieldO fldo_L7 rfl ?_ | refine OW_fieldO fldo_L8 rfl ?_ | refine OW_lenS und_Links rfl ?_ | refine OW_idxN und_Links el_Link rfl rfl _ rfl (by omega) ?_ | refine OW_moveV (.int _ _) rfl ?_ | refine OW_moveV (.slice _ _ _) rfl ?_ | refine OW_moveV (.bool _) rfl ?_ | refine OW_moveV (.pointer _) rfl ?_ | refine OW_moveV (.string _) rfl ?_ | refine OW_moveV (.agg _) rfl ?_ | refine OW_moveV (.tuple _) rfl ?_ | refine OW_nil ?_ | refine thenE_normal ?_ | refine CW_seq ?_ | refine CW_region (by kernel_rfl) ?_ | refine OW_assignV (.int _ _) rfl ?_ | refine OW_assignV (.slice _ _ _) rfl ?_ | refine OW_assignV (.bool _) rfl ?_ | refine OW_assignV (.pointer _) rfl ?_ | refine OW_assignV (.string _) rfl ?_ | refine OW_assignV (.agg _) rfl ?_ | refine OW_assignV (.tuple _) rfl ?_ | refine OW_addI rfl rfl (by omega) ?_ | refine OW_subI rfl rfl (by omega) ?_ | refine OW_mulI rfl rfl (by omega) ?_ | refine OW_lss rfl rfl ?_ | refine OW_extract rfl rfl ?_ | refine OW_gtr rfl rfl ?_ | refine OW_leq rfl rfl ?_ | refine OW_geq rfl rfl ?_ | refine OW_eql rfl rfl ?_ | refine OW_neq rfl rfl ?_ | refine OW_not rfl ?_ | refine OW_pickT rfl _ rfl ?_ | refine OW_pickF rfl (.bool _) rfl ?_ | refine OW_pickB rfl rfl rfl ?_ | refine OW_move ?_ | refine OW_assign ?_ | refine OW_pass rfl ?_ | refine OW_take rfl ?_ | refine OW_lenS (by first | with_reducible exact und_bytes | with_reducible exact und_bytess) rfl ?_ | refine OW_convInt (by first | with_reducible exact und_u8 | with_reducible exact und_u64 | with_reducible exact und_int | with_reducible exact und_u32) (by first | with_reducible exact und_u8 | with_reducible exact und_u64 | with_reducible exact und_int | with_reducible exact und_u32) rfl ?_ | refine OW_add rfl rfl ?_ | refine OW_sub rfl rfl ?_ | refine OW_mul rfl rfl ?_ | refine OW_min2 rfl rfl ?_ | refine OW_max2 rfl rfl ?_ | refine OW_neg rfl ?_ | refine CW_block ?_ | refine CW_condT rfl ?_ | refine CW_condF rfl ?_ | refine CW_exit ?_ | refine CW_ret ?_ | refine CW_skip ?_ | refine LW_seq ?_ | refine LW_regC ?_ | refine LW_condC ?_ | refine LW_regF ?_ | refine LW_condF ?_ | refine FW_seq ?_ | refine FW_region (by kernel_rfl) ?_ | refine FW_block ?_ | refine FW_condT rfl ?_ | refine FW_condF rfl ?_ | refine FW_exit ?_ | refine FW_ret ?_ | refine FW_skip ?_ | refine LW_ret ?_ | refine LW_skip ?_ | refine thenE_exit ?_ | refine thenE_ret ?_ | refine inBlockE_normal ?_ | refine inBlockE_same ?_ | refine inBlockE_ret ?_ | refine inBlockE_ne (by rfl) ?_ | refine OW_eqlB (by with_reducible exact und_bool) rfl rfl ?_ | refine OW_neqB (by with_reducible exact und_bool) rfl rfl ?_ | refine OW_idxS (by with_reducible exact und_bytes) one_u8 rfl rfl _ rfl (by omega) ?_ | refine OW_idxS (by with_reducible exact und_bytess) one_bytes rfl rfl _ rfl (by omega) ?_ | refine OW_load1 (by first | with_reducible exact one_u8 | with_reducible exact one_bytes) rfl _ (by assumption) ?_ | refine OW_load1 s_int rfl _ (by assumption) ?_)
         refine OW_nil ?_
         exact stay_mk _ _ _ _)
    | (apply OY_qtake _ rfl rfl
       · intro wd hwd
         (first | refine OW_sliceHiN und_Links el_Link rfl rfl _ rfl (by omega) ?_ | refine OW_neqKF rfl rfl (by assumption) ?_ | refine OW_lenS und_Acts rfl ?_ | refine OW_idxN und_Acts el_Act13 rfl rfl _ rfl (by omega) ?_ | refine OW_fieldO fldo_AA0 rfl ?_ | refine OW_fieldO fldo_AA1 rfl ?_ | refine OW_fieldO fldo_AA2 rfl ?_ | refine OW_fieldO fldo_AA3 rfl ?_ | refine OW_fieldO fldo_AA4 rfl ?_ | refine OW_fieldO fldo_AA5 rfl ?_ | refine OW_eqlIT rfl rfl (by first | rfl | assumption) ?_ | refine OW_eqlQT s_eqr_Tag rfl rfl (by assumption) (by first | rfl | assumption) ?_ | refine OW_eqlKT rfl rfl (by assumption) ?_ | refine OW_sliceLoN 1 und_Links el_Link rfl rfl rfl (by assumption) ?_ | refine OW_neqIF rfl rfl (by first | rfl | assumption) ?_ | (refine OW_isLoad ?_; refine OW_loadM (by first | with_reducible exact s_agg_Tag | with_reducible exact agg_Link) rfl (by apply_assumption; assumption) ?_) | refine OW_idxN und_Links el_Link rfl rfl 0 rfl (Nat.le_of_ble_eq_true rfl) ?_ | refine OW_idxN und_Links el_Link rfl rfl 1 rfl (Nat.le_of_ble_eq_true rfl) ?_ | refine OW_neqIT rfl rfl (by assumption) ?_ | refine OW_neqQF s_eqr_Tag rfl rfl (by assumption) (by first | refine rfl | refine assumption) ?_ | refine OW_neqQT s_eqr_Tag rfl rfl (by assumption) (by assumption) (by assumption) ?_ | refine OW_fieldB fldo_L0 rfl ?_ | refine OW_fieldB fldo_L1 rfl ?_ | refine OW_fieldB fldo_L2 rfl ?_ | refine OW_fieldB fldo_L3 rfl ?_ | refine OW_fieldB fldo_L4 rfl ?_ | refine OW_fieldB fldo_L5 rfl ?_ | refine OW_fieldB fldo_L6 rfl ?_ | refine OW_fieldB fldo_L7 rfl ?_ | refine OW_fieldB fldo_L8 rfl ?_ | refine OW_fieldO fldo_L0 rfl ?_ | refine OW_fieldO fldo_L4 rfl ?_ | refine OW_fieldO fldo_L7 rfl ?_ | refine OW_fieldO fldo_L8 rfl ?_ | refine OW_lenS und_Links rfl ?_ | refine OW_idxN und_Links el_Link rfl rfl _ rfl (by omega) ?_ | refine OW_moveV (.int _ _) rfl ?_ | refine OW_moveV (.slice _ _ _) rfl ?_ | refine OW_moveV (.bool _) rfl ?_ | refine OW_moveV (.pointer _) rfl ?_ | refine OW_moveV (.string _) rfl ?_ | refine OW_moveV (.agg _) rfl ?_ | refine OW_moveV (.tuple _) rfl ?_ | refine OW_nil ?_ | refine thenE_normal ?_ | refine CW_seq ?_ | refine CW_region (by kernel_rfl) ?_ | refine OW_assignV (.int _ _) rfl ?_ | refine OW_assignV (.slice _ _ _) rfl ?_ | refine OW_assignV (.bool _) rfl ?_ | refine OW_assignV (.pointer _) rfl ?_ | refine OW_assignV (.string _) rfl ?_ | refine OW_assignV (.agg _) rfl ?_ | refine OW_assignV (.tuple _) rfl ?_ | refine OW_addI rfl rfl (by omega) ?_ | refine OW_subI rfl rfl (by omega) ?_ | refine OW_mulI rfl rfl (by omega) ?_ | refine OW_lss rfl rfl ?_ | refine OW_extract rfl rfl ?_ | refine OW_gtr rfl rfl ?_ | refine OW_leq rfl rfl ?_ | refine OW_geq rfl rfl ?_ | refine OW_eql rfl rfl ?_ | refine OW_neq rfl rfl ?_ | refine OW_not rfl ?_ | refine OW_pickT rfl _ rfl ?_ | refine OW_pickF rfl (.bool _) rfl ?_ | refine OW_pickB rfl rfl rfl ?_ | refine OW_move ?_ | refine OW_assign ?_ | refine OW_pass rfl ?_ | refine OW_take rfl ?_ | refine OW_lenS (by first | with_reducible exact und_bytes | with_reducible exact und_bytess) rfl ?_ | refine OW_convInt (by first | with_reducible exact und_u8 | with_reducible exact und_u64 | with_reducible exact und_int | with_reducible exact und_u32) (by first | with_reducible exact und_u8 | with_reducible exact und_u64 | with_reducible exact und_int | with_reducible exact und_u32) rfl ?_ | refine OW_add rfl rfl ?_ | refine OW_sub rfl rfl ?_ | refine OW_mul rfl rfl ?_ | refine OW_min2 rfl rfl ?_ | refine OW_max2 rfl rfl ?_ | refine OW_neg rfl ?_ | refine CW_block ?_ | refine CW_condT rfl ?_ | refine CW_condF rfl ?_ | refine CW_exit ?_ | refine CW_ret ?_ | refine CW_skip ?_ | refine LW_seq ?_ | refine LW_regC ?_ | refine LW_condC ?_ | refine LW_regF ?_ | refine LW_condF ?_ | refine FW_seq ?_ | refine FW_region (by kernel_rfl) ?_ | refine FW_block ?_ | refine FW_condT rfl ?_ | refine FW_condF rfl ?_ | refine FW_exit ?_ | refine FW_ret ?_ | refine FW_skip ?_ | refine LW_ret ?_ | refine LW_skip ?_ | refine thenE_exit ?_ | refine thenE_ret ?_ | refine inBlockE_normal ?_ | refine inBlockE_same ?_ | refine inBlockE_ret ?_ | refine inBlockE_ne (by rfl) ?_ | refine OW_eqlB (by with_reducible exact und_bool) rfl rfl ?_ | refine OW_neqB (by with_reducible exact und_bool) rfl rfl ?_ | refine OW_idxS (by with_reducible exact und_bytes) one_u8 rfl rfl _ rfl (by omega) ?_ | refine OW_idxS (by with_reducible exact und_bytess) one_bytes rfl rfl _ rfl (by omega) ?_ | refine OW_load1 (by first | with_reducible exact one_u8 | with_reducible exact one_bytes) rfl _ (by assumption) ?_ | refine OW_load1 s_int rfl _ (by assumption) ?_ | (refine OW_isLoad ?_; refine OW_loadBk (by first | with_reducible exact one_u8 | with_reducible exact one_bytes | with_reducible exact one_bool | with_reducible exact one_int | with_reducible exact one_errno | with_reducible exact one_u32 | with_reducible exact one_u64 | with_reducible exact one_string | with_reducible exact s_int | with_reducible exact one_u8) rfl (by apply_assumption; assumption) _ (by first | assumption | rfl) ?_) | refine OW_load1 (by first | with_reducible exact one_u8 | with_reducible exact one_bytes | with_reducible exact one_bool | with_reducible exact one_int | with_reducible exact one_errno | with_reducible exact one_u32 | with_reducible exact one_u64 | with_reducible exact one_string | with_reducible exact s_int | with_reducible exact one_u8) rfl _ (by apply_assumption; assumption) ?_)
         refine OW_nil ?_
         exact stay_mk _ _ _ _)
    | refine OY_a (actY_of rfl ?_)
    | refine OY_d (actY_of rfl ?_)
    | refine OY_a (actY_pass rfl rfl ?_)
    | refine OY_d (actY_pass rfl rfl ?_)
    | refine OY_a (actY_take rfl rfl ?_)
    | refine OY_d (actY_take rfl rfl ?_))
  exact hEnd.out) (k : B) : A := h ⟨k⟩
set_option maxHeartbeats 8000000 in
theorem walk (w : World) (v0 : Value) (l : List LK) (h0 : kLinks.R w [v0] l) (v1 : Value) (n : Int) (h1 : kI.R w [v1] n) : Calls Try.prog 12 #[v0, v1] w (RetV w (.bool true)) := by
  obtain ⟨A, c, hv0, hc, hc2, hS⟩ := h0
  injection hv0 with hv0
  subst hv0
  obtain ⟨hv1, hi⟩ := h1
  injection hv1 with hv1
  subst hv1
  obtain ⟨hl, hk⟩ := links_of hS
  have hi2 := hi
  unfold I64 at hi2
  refine calls_of_CW Try.func12 rfl (by simp [Try.ntmps12]) ?_
  rw [Try.ntmps12]
  refine go_LAuditChecks (k := ?_)
  refine CW_cond _ rfl (fun hh => ?_) (fun hh => ?_)
  · refine go_LAuditChecks (k := ?_)
    exact bodyE_ret1 rfl (.bool true) rfl ⟨rfl, Ext.rfl' _⟩
  have hn : l.length ≤ 40 := by have := of_decide_eq_false hh; omega
  clear hh
  refine go_LAuditChecks (k := ?_)
  refine OW_litM [] und_Links agg_Link rfl rfl (by simp) (by decide) ?_
  intro w1 g1 hb1 hg1 hlt1 hx1
  have hoE : w1.ownsRow w.heap.size 76 71 (.slice (some ⟨g1, 0, none⟩) 0 0) 0 [] := ownN_of_blk hg1 hb1 rfl (Nat.le_refl _) (by decide) (by simp)
  have hR1 : RdN w1 A 71 (l.map lcells) := hl.ext hx1
  refine go_LAuditChecks (k := ?_)
  refine OW_appendN (k := 71) und_Links info_Link rfl (by decide) rfl rfl hoE hR1.rd (by rw [flat_len hR1.len, List.length_map]) (links_one _) (by unfold maxLen; omega) (by omega) hx1.size ?_
  intro w2 A2 c2 ho2 hgr2 _
  rw [Nat.zero_add, List.nil_append] at ho2
  rw [Nat.zero_add]
  have hx2 : Ext w w2 := (Keeps.of_grown (S := (· = g1)) hgr2 (fun b hb => by cases hb; rfl)).ext hx1 (fun j hj => by have hj : j = g1 := hj; omega)
  have hO2 : LOwn w2 w.heap.size A2 c2 l := ho2
  have hR2 := hO2.rd hk
  have hcap := hO2.cap
  clear hoE ho2 hgr2 hb1 hR1 hO2
  obtain ⟨x, hx⟩ : ∃ x, atL l n = x := ⟨_, rfl⟩
  obtain ⟨m, hm⟩ : ∃ m, atE l n = m := ⟨_, rfl⟩
  have hA := audAt_any w2 A2 c2 l hR2 hk (by omega) n hi
  rw [hx, hm] at hA
  have hxok : LOk x := by
    rw [← hx]
    unfold atL
    split
    · rw [List.getD_eq_getElem?_getD]
      cases hg : l[(n - 1).toNat]? with
      | none => exact lk00_ok
      | some y => exact hk y (List.mem_of_getElem? hg)
    · exact lk00_ok
  have hxl := lcells_length hxok
  refine go_LAuditChecks (k := ?_)
  refine OW_callV Try.func56 (by kernel_rfl) rfl hA rfl ?_
  intro w3 hx3
  clear hA
  refine go_LAuditChecks (k := ?_)
  refine OW_allocA agg_Link ?_
  intro w4 g4 hb4 hg4 hlt4 hx4
  refine go_LAuditChecks (k := ?_)
  refine OW_storeA agg_Link rfl (lcells x) rfl hxl hb4 (by kernel_rfl) (lcells_one _) ?_
  intro w5 hb5 hg5
  have hb5 : Blk w5 g4 76 (lcells x).toArray := hb5
  have hx25 : Ext w2 w5 := (Keeps.of_only hg5 (S := (· = g4)) rfl).ext (hx3.trans' hx4) (fun j hj => by have hj : j = g4 := hj; have := hx3.size; omega)
  have hx05 := hx2.trans' hx25
  clear hb4 hg5
  refine go_LAuditChecks (k := ?_)
  refine OW_meet (fun e' w' => e' 0 = .slice A l.length c ∧ e' 1 = .int .i64 n ∧ e' 5 = .slice A2 l.length c2 ∧ e' 6 = .pointer (some ⟨g4, 0, none⟩) ∧ e' 7 = .int .i64 m ∧ e' 27 = .bool (decide (n < 1) || decide ((l.length : Int) < n)) ∧ w' = w5) ?_ ?_
  · refine OW_split 22 _ rfl (fun h => ?_) (fun h => ?_)
    · rw [h]
      refine go_LAuditChecks (k := ?_)
      exact ⟨rfl, rfl, rfl, rfl, rfl, rfl, rfl, rfl⟩
    · rw [h]
      refine go_LAuditChecks (k := ?_)
      exact ⟨rfl, rfl, rfl, rfl, rfl, rfl, rfl, rfl⟩
  rintro e6 w6 ⟨q0, q1, q5, q6, q7, q27, rfl⟩
  rw [upd_self q0, upd_self q1, upd_self q5, upd_self q6, upd_self q7, upd_self q27]
  refine go_LAuditChecks (k := ?_)
  refine CW_meet (fun e' w' => e' 0 = .slice A l.length c ∧ e' 5 = .slice A2 l.length c2 ∧ Ext w6 w') ?_ ?_
  · refine CW_cond _ rfl (fun h => ?_) (fun h => ?_)
    · rw [Bool.or_eq_true, decide_eq_true_eq, decide_eq_true_eq] at h
      have hx0 : x = ⟨0, 0, 0, 0, 0, 0, 0, tzS, tzS⟩ := by rw [← hx]; exact if_neg (by omega)
      have hm0 : m = 130 := by rw [← hm]; exact if_neg (by omega)
      rw [hx0] at hb5
      subst hm0
      have hk0 := lk00_ok
      refine go_LAuditChecks (k := ?_)
      refine OW_loadX agg_Link rfl (lcells ⟨0, 0, 0, 0, 0, 0, 0, tzS, tzS⟩) rfl hb5.atL ?_
      refine go_LAuditChecks (k := ?_)
      refine OW_build _ _ bld_lk0 rfl ?_
      refine go_LAuditChecks (k := ?_)
      exact ⟨rfl, rfl, rfl, Ext.rfl' _⟩
    · rw [Bool.or_eq_false_iff, decide_eq_false_iff_not, decide_eq_false_iff_not] at h
      obtain ⟨p, hp⟩ : ∃ p : Nat, n = (p : Int) + 1 := ⟨(n - 1).toNat, by omega⟩
      have hpl : p < l.length := by omega
      have hx0 : l[p] = x := by
        rw [← hx]
        unfold atL
        rw [if_pos (by omega), show (n - 1).toNat = p by omega, List.getD_eq_getElem?_getD, List.getElem?_eq_getElem hpl]
        rfl
      have hm0 : m = 0 := by rw [← hm]; exact if_pos (by omega)
      subst hm0
      obtain ⟨ad, hAa, hat⟩ := (hl.ext hx05).at_ hpl
      rw [hx0] at hat
      subst hAa
      have hsub : n - 1 = (p : Int) := by omega
      refine go_LAuditChecks (k := ?_)
      obtain ⟨C, hC⟩ : ∃ C : World → Prop, C = fun v => Ext w6 v := ⟨_, rfl⟩
      have yx : ∀ v, C v → AtM v ⟨g4, 0, none⟩ (lcells x) 71 := by rw [hC]; exact fun v hv => blk_x hxok (hb5.ext hv)
      have yl : ∀ v, C v → AtM v (ad.add (p * 71)) (lcells x) 71 := by rw [hC]; exact fun v hv => ⟨At.ext hat hv, hxl⟩
      refine CW_tree2 [0, 5] (.q 0 (.p 1 (.p 2 (.p 3 (.p 4 (.q 5 (.p 6 (.p 7 (.p 8 (.p 9 (.p 10 .done))))))))))) (C) (by kernel_rfl) (by kernel_rfl) (by kernel_rfl) ?_ ?_
      · exact inE hC
      intro w7 hx7 h_C
      refine oy_LAuditChecks (k := ?_)
      first | rw [hsub] | skip
      refine oy_LAuditChecks (k := ?_)
      refine go_LAuditChecks (k := ?_)
      exact ⟨rfl, rfl, rfl, hx7⟩
  clear q0 q1 q5 q6 q7 q27 hb5
  rintro e7 w7 ⟨q0, q5, hx7⟩
  rw [upd_self q0, upd_self q5]
  refine go_LAuditChecks (k := ?_)
  refine OW_callV Try.func57 (by kernel_rfl) rfl (audCheck_any w7 A2 c2 l (hR2.ext (hx25.trans' hx7)) hk (by omega)) rfl ?_
  intro w8 hx8
  have hx08 := hx05.trans' (hx7.trans' hx8)
  refine go_LAuditChecks (k := ?_)
  refine OW_callV Try.func58 (by kernel_rfl) rfl (refCheck_any w8 A c l (hl.ext hx08) hk (by omega)) rfl ?_
  intro w9 hx9
  have hx09 := hx08.trans' hx9
  refine go_LAuditChecks (k := ?_)
  refine OW_callV Try.func51 (by kernel_rfl) rfl (refLSame_any w9 A2 A c2 c l (hR2.ext (hx25.trans' (hx7.trans' (hx8.trans' hx9)))) (hl.ext hx09) hk (by omega)) rfl ?_
  intro w10 hx10
  refine go_LAuditChecks (k := ?_)
  refine OW_callV Try.func55 (by kernel_rfl) rfl (awake13_any w10) rfl ?_
  intro w11 hx11
  refine go_LAuditChecks (k := ?_)
  exact bodyE_ret1 rfl (.bool true) rfl ⟨rfl, (hx09.trans' hx10).trans' hx11⟩
set_option maxRecDepth 100000 in
theorem lifted (os : Os) (started : os.Started) (H : Type) (enc : TypeId × Value → H) :
    ReturnsInHanded {} Try.checked os 12 .any (Rows.auditChecksSpec.pre6 enc Try.prog Try.f12 Rows.auditChecksRow.domain false) (Rows.auditChecksSpec.post enc Try.prog Try.f12 false true false false) := by
  refine returnsInHanded_of_change_sized (C := Try.checked) ownP started (by kernel_rfl) Try.func12
    (ChangeSpec.witness6 (enc := enc) (C := Try.checked) false ⟨#[], #[.slice none 0 0, .int .i64 0], []⟩ 8 (by kernel_rfl) (by kernel_rfl) (by kernel_rfl) (by kernel_rfl)) ?_
  intro W base args ds gs before hval0 hW hcnd hwt0 _
  have hval : ∀ (j : Nat) t v, Try.f12.params[j]? = some t → args[j]? = some v → Value.okWide Try.prog W .any base t v := hval0
  have hW' := hW
  obtain ⟨p, q, hA0, hV, rfl, hfz, hnd⟩ := hW
  have hA : DataW.TrodAll enc Try.prog W 0 (fun _ => true) true Try.f12.params.toList args.toList ds p := hA0
  have hwt : (DataW.weightsEach Try.prog (Try.f12.params.toList ++ []) (ds ++ gs)).all (· ≤ reachBytes) = true := hwt0
  rw [Try.params12] at hA hval hwt
  obtain ⟨v0, vs0, d0, ds0, p0, q0, hargs, rfl, rfl, h0, r0⟩ := trodAll_cons hA
  obtain ⟨v1, vs1, d1, ds1, p1, q1, rfl, rfl, rfl, h1, r1⟩ := trodAll_cons r0
  obtain ⟨rfl, rfl, rfl⟩ := trodAll_nil r1
  obtain rfl : args = #[v0, v1] := by cases args; simp_all
  obtain ⟨rfl, rfl⟩ := trodVars_none hV
  have k0 := h0
  have lt0 : ∀ x ∈ p0, x.block < W.heap.size := by obtain ⟨m, hm⟩ := k0; exact DataW.trod_lt m _ _ _ hm
  have wk0 : WOk Try.prog 74 d0 := wok_each hwt 0 rfl rfl
  obtain ⟨a0, b0⟩ := kd_slice kLinks und_Links (hval 0 74 v0 rfl rfl) h0 wk0
  have k1 := h1
  have lt1 : ∀ x ∈ p1, x.block < W.heap.size := by obtain ⟨m, hm⟩ := k1; exact DataW.trod_lt m _ _ _ hm
  have wk1 : WOk Try.prog 3 d1 := wok_each hwt 1 rfl rfl
  obtain ⟨a1, b1⟩ := kd_int kI und_int (hval 1 3 v1 rfl rfl) h1 wk1
  clear hA0 hval0 hwt0
  refine (walk W v0 a0 b0 v1 a1 b1).mono fun e W' ⟨he, bel⟩ => ?_
  subst he
  exact ⟨_, rfl, _, _, _, [], _, [], hW', trodAll_mk1 (shut_bool Try.underlying4 _), (trodAll_cons_mk (Below.trod laidP (by kernel_rfl) (of_decide_eq_true (by kernel_rfl)) k0 bel lt0) (trodAll_cons_mk (Below.trod laidP (by kernel_rfl) (of_decide_eq_true (by kernel_rfl)) k1 bel lt1) trodAll_mk0)), rfl, bel.frame _, fun h => by cases h⟩
theorem over : Rows.auditChecksRow.holds Try.pinned (OpenSpec.ofChange Rows.auditChecksSpec) :=
  OpenClaim.holds_of_wide 12 Try.f12 rfl rfl rfl rfl rfl rfl rfl ⟨rfl, rfl, rfl, rfl, rfl⟩ rfl rfl rfl rfl rfl (by kernel_rfl) Try.func12 (by kernel_rfl)
    (of_decide_eq_true (by kernel_rfl)) (by unfold Func.isWrapper; first | (rw [if_pos (by decide +kernel)]; kernel_rfl) | (rw [if_neg (by decide +kernel)]; exact ⟨rfl, rfl⟩))
    (fun os started H enc _ => lifted os started H enc)
theorem proved : Rows.AuditChecksSaid := over
#print axioms proved
end Go.Proofs.Ytdpcahfgdpikfaa.lawAuditChecks
