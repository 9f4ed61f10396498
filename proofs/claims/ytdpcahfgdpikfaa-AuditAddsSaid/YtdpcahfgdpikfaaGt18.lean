/- Several texts in one, as they stand in wip/src. -/
import Derived.Test.YtdpcahfgdpikfaaGt17
/- Walks: the audit chapter's examples. -/
namespace Go.Proofs.Ytdpcahfgdpikfaa
open Go Go.RowKit
set_option linter.unusedVariables false
set_option maxRecDepth 4000
theorem go_Aud5 {A B : Prop} (h : Held B → A := by
  intro hEnd
  repeat (first | refine OW_eqlIT rfl rfl (by first | rfl | assumption) ?_ | refine OW_eqlQT s_eqr_Tag rfl rfl (by assumption) (by first | rfl | assumption) ?_ | refine OW_eqlKT rfl rfl (by assumption) ?_ | refine OW_sliceLoN 1 und_Links el_Link rfl rfl rfl (by assumption) ?_ | refine OW_neqIF rfl rfl (by first | rfl | assumption) ?_ | (refine OW_isLoad ?_; refine OW_loadM (by first | with_reducible exact s_agg_Tag | with_reducible exact agg_Link) rfl (by apply_assumption; assumption) ?_) | refine OW_idxN und_Links el_Link rfl rfl 0 rfl (Nat.le_of_ble_eq_true rfl) ?_ | refine OW_idxN und_Links el_Link rfl rfl 1 rfl (Nat.le_of_ble_eq_true rfl) ?_ | refine OW_neqIT rfl rfl (by assumption) ?_ | refine OW_neqQF s_eqr_Tag rfl rfl (by assumption) (by first | rfl | assumption) ?_ | refine OW_neqQT s_eqr_Tag rfl rfl (by assumption) (by assumption) (by assumption) ?_ | refine OW_fieldB fldo_L0 rfl ?_ | refine OW_fieldB fldo_L1 rfl ?_ | refine OW_fieldB fldo_L2 rfl ?_ | refine OW_fieldB fldo_L3 rfl ?_ | refine OW_fieldB fldo_L4 rfl ?_ | refine OW_fieldB fldo_L5 rfl ?_ | refine OW_fieldB fldo_L6 rfl ?_ | refine OW_fieldB fldo_L7 rfl ?_ | refine OW_fieldB fldo_L8 rfl ?_ | refine OW_fieldO fldo_L0 rfl ?_ | refine OW_fieldO fldo_L4 rfl ?_ | refine OW_fieldO fldo_L7 rfl ?_ | refine OW_fieldO fldo_L8 rfl ?_ | refine OW_lenS und_Links rfl ?_ | refine OW_idxN und_Links el_Link rfl rfl _ rfl (by omega) ?_ | refine OW_moveV (.int _ _) rfl ?_ | refine OW_moveV (.slice _ _ _) rfl ?_ | refine OW_moveV (.bool _) rfl ?_ | refine OW_moveV (.pointer _) rfl ?_ | refine OW_moveV (.string _) rfl ?_ | refine OW_moveV (.agg _) rfl ?_ | refine OW_moveV (.tuple _) rfl ?_ | refine OW_nil ?_ | refine thenE_normal ?_ | refine CW_seq ?_ | refine CW_region (by kernel_rfl) ?_ | refine OW_assignV (.int _ _) rfl ?_ | refine OW_assignV (.slice _ _ _) rfl ?_ | refine OW_assignV (.bool _) rfl ?_ | refine OW_assignV (.pointer _) rfl ?_ | refine OW_assignV (.string _) rfl ?_ | refine OW_assignV (.agg _) rfl ?_ | refine OW_assignV (.tuple _) rfl ?_ | refine OW_addI rfl rfl (by omega) ?_ | refine OW_subI rfl rfl (by omega) ?_ | refine OW_mulI rfl rfl (by omega) ?_ | refine OW_lss rfl rfl ?_ | refine OW_extract rfl rfl ?_ | refine OW_gtr rfl rfl ?_ | refine OW_leq rfl rfl ?_ | refine OW_geq rfl rfl ?_ | refine OW_eql rfl rfl ?_ | refine OW_neq rfl rfl ?_ | refine OW_not rfl ?_ | refine OW_pickT rfl _ rfl ?_ | refine OW_pickF rfl (.bool _) rfl ?_ | refine OW_pickB rfl rfl rfl ?_ | refine OW_move ?_ | refine OW_assign ?_ | refine OW_pass rfl ?_ | refine OW_take rfl ?_ | refine OW_lenS (by first | with_reducible exact und_bytes | with_reducible exact und_bytess) rfl ?_ | refine OW_convInt (by first | with_reducible exact und_u8 | with_reducible exact und_u64 | with_reducible exact und_int | with_reducible exact und_u32) (by first | with_reducible exact und_u8 | with_reducible exact und_u64 | with_reducible exact und_int | with_reducible exact und_u32) rfl ?_ | refine OW_add rfl rfl ?_ | refine OW_sub rfl rfl ?_ | refine OW_mul rfl rfl ?_ | refine OW_min2 rfl rfl ?_ | refine OW_max2 rfl rfl ?_ | refine OW_neg rfl ?_ | refine CW_block ?_ | refine CW_condT rfl ?_ | refine CW_condF rfl ?_ | refine CW_exit ?_ | refine CW_ret ?_ | refine CW_skip ?_ | refine LW_seq ?_ | refine LW_regC ?_ | refine LW_condC ?_ | refine LW_regF ?_ | refine LW_condF ?_ | refine FW_seq ?_ | refine FW_region (by kernel_rfl) ?_ | refine FW_block ?_ | refine FW_condT rfl ?_ | refine FW_condF rfl ?_ | refine FW_exit ?_ | refine FW_ret ?_ | refine FW_skip ?_ | refine LW_ret ?_ | refine LW_skip ?_ | refine thenE_exit ?_ | refine thenE_ret ?_ | refine inBlockE_normal ?_ | refine inBlockE_same ?_ | refine inBlockE_ret ?_ | refine inBlockE_ne (by rfl) ?_ | refine OW_eqlB (by with_reducible exact und_bool) rfl rfl ?_ | refine OW_neqB (by with_reducible exact und_bool) rfl rfl ?_ | refine OW_idxS (by with_reducible exact und_bytes) one_u8 rfl rfl _ rfl (by omega) ?_ | refine OW_idxS (by with_reducible exact und_bytess) one_bytes rfl rfl _ rfl (by omega) ?_ | refine OW_load1 (by first | with_reducible exact one_u8 | with_reducible exact one_bytes) rfl _ (by assumption) ?_ | refine OW_load1 s_int rfl _ (by assumption) ?_)
  exact hEnd.out) (k : B) : A := h ⟨k⟩
theorem oy_Aud5 {A B : Prop} (h : Held B → A := by
  intro hEnd
  repeat (first
    | refine OY_done ?_
    | (apply OY_p _ rfl
       · intro wd
         (first | refine OW_eqlIT rfl rfl (by first | rfl | assumption) ?_ | refine OW_eqlQT s_eqr_Tag rfl rfl (by assumption) (by first | rfl | assumption) ?_ | refine OW_eqlKT rfl rfl (by assumption) ?_ | refine OW_sliceLoN 1 und_Links el_Link rfl rfl rfl (by assumption) ?_ | refine OW_neqIF rfl rfl (by first | rfl | assumption) ?_ | (refine OW_isLoad ?_; refine OW_loadM (by first | with_reducible exact s_agg_Tag | with_reducible exact agg_Link) rfl (by apply_assumption; assumption) ?_) | refine OW_idxN und_Links el_Link rfl rfl 0 rfl (Nat.le_of_ble_eq_true rfl) ?_ | refine OW_idxN und_Links el_Link rfl rfl 1 rfl (Nat.le_of_ble_eq_true rfl) ?_ | refine OW_neqIT rfl rfl (by assumption) ?_ | refine OW_neqQF s_eqr_Tag rfl rfl (by assumption) (by first | refine rfl | refine assumption) ?_ | refine OW_neqQT s_eqr_Tag rfl rfl (by assumption) (by assumption) (by assumption) ?_ | refine OW_fieldB fldo_L0 rfl ?_ | refine OW_fieldB fldo_L1 rfl ?_ | refine OW_fieldB fldo_L2 rfl ?_ | refine OW_fieldB fldo_L3 rfl ?_ | refine OW_fieldB fldo_L4 rfl ?_ | refine OW_fieldB fldo_L5 rfl ?_ | refine OW_fieldB fldo_L6 rfl ?_ | refine OW_fieldB fldo_L7 rfl ?_ | refine OW_fieldB fldo_L8 rfl ?_ | refine OW_fieldO fldo_L0 rfl ?_ | refine OW_fieldO fldo_L4 rfl ?_ | refine OW_fieldO fldo_L7 rfl ?_ | refine OW_fieldO fldo_L8 rfl ?_ | refine OW_lenS und_Links rfl ?_ | refine OW_idxN und_Links el_Link rfl rfl _ rfl (by omega) ?_ | refine OW_moveV (.int _ _) rfl ?_ | refine OW_moveV (.slice _ _ _) rfl ?_ | refine OW_moveV (.bool _) rfl ?_ | refine OW_moveV (.pointer _) rfl ?_ | refine OW_moveV (.string _) rfl ?_ | refine OW_moveV (.agg _) rfl ?_ | refine OW_moveV (.tuple _) rfl ?_ | refine OW_nil ?_ | refine thenE_normal ?_ | refine CW_seq ?_ | refine CW_region (by kernel_rfl) ?_ | refine OW_assignV (.int _ _) rfl ?_ | refine OW_assignV (.slice _ _ _) rfl ?_ | refine OW_assignV (.bool _) rfl ?_ | refine OW_assignV (.pointer _) rfl ?_ | refine OW_assignV (.string _) rfl ?_ | refine OW_assignV (.agg _) rfl ?_ | refine OW_assignV (.tuple _) rfl ?_ | refine OW_addI rfl rfl (by omega) ?_ | refine OW_subI rfl rfl (by omega) ?_ | refine OW_mulI rfl rfl (by omega) ?_ | refine OW_lss rfl rfl ?_ | refine OW_extract rfl rfl ?_ | refine OW_gtr rfl rfl ?_ | refine OW_leq rfl rfl ?_ | refine OW_geq rfl rfl ?_ | refine OW_eql rfl rfl ?_ | refine OW_neq rfl rfl ?_ | refine OW_not rfl ?_ | refine OW_pickT rfl _ rfl ?_ | refine OW_pickF rfl (.bool _) rfl ?_ | refine OW_pickB rfl rfl rfl ?_ | refine OW_move ?_ | refine OW_assign ?_ | refine OW_pass rfl ?_ | refine OW_take rfl ?_ | refine OW_lenS (by first | with_reducible exact und_bytes | with_reducible exact und_bytess) rfl ?_ | refine OW_convInt (by first | with_reducible exact und_u8 | with_reducible exact und_u64 | with_reducible exact und_int | with_reducible exact und_u32) (by first | with_reducible exact und_u8 | with_reducible exact und_u64 | with_reducible exact und_int | with_reducible exact und_u32) rfl ?_ | refine OW_add rfl rfl ?_ | refine OW_sub rfl rfl ?_ | refine OW_mul rfl rfl ?_ | refine OW_min2 rfl rfl ?_ | refine OW_max2 rfl rfl ?_ | refine OW_neg rfl ?_ | refine CW_block ?_ | refine CW_condT rfl ?_ | refine CW_condF rfl ?_ | refine CW_exit ?_ | refine CW_ret ?_ | refine CW_skip ?_ | refine LW_seq ?_ | refine LW_regC ?_ | refine LW_condC ?_ | refine LW_regF ?_ | refine LW_condF ?_ | refine FW_seq ?_ | refine FW_region (by kernel_rfl) ?_ | refine FW_block ?_ | refine FW_condT rfl ?_ | refine FW_condF rfl ?_ | refine FW_exit ?_ | refine FW_ret ?_ | refine FW_skip ?_ | refine LW_ret ?_ | refine LW_skip ?_ | refine thenE_exit ?_ | refine thenE_ret ?_ | refine inBlockE_normal ?_ | refine inBlockE_same ?_ | refine inBlockE_ret ?_ | refine inBlockE_ne (by rfl) ?_ | refine OW_eqlB (by with_reducible exact und_bool) rfl rfl ?_ | refine OW_neqB (by with_reducible exact und_bool) rfl rfl ?_ | refine OW_idxS (by with_reducible exact und_bytes) one_u8 rfl rfl _ rfl (by omega) ?_ | refine OW_idxS (by with_reducible exact und_bytess) one_bytes rfl rfl _ rfl (by omega) ?_ | refine OW_load1 (by first | with_reducible exact one_u8 | with_reducible exact one_bytes) rfl _ (by assumption) ?_ | refine OW_load1 s_int rfl _ (by assumption) ?_)
         refine OW_nil ?_
         exact stay_mk _ _ _ _)
    | (apply OY_q _ rfl
       · intro wd hwd
         (first | refine OW_eqlIT rfl rfl (by first | rfl | assumption) ?_ | refine OW_eqlQT s_eqr_Tag rfl rfl (by assumption) (by first | rfl | assumption) ?_ | refine OW_eqlKT rfl rfl (by assumption) ?_ | refine OW_sliceLoN 1 und_Links el_Link rfl rfl rfl (by assumption) ?_ | refine OW_neqIF rfl rfl (by first | rfl | assumption) ?_ | (refine OW_isLoad ?_; refine OW_loadM (by first | with_reducible exact s_agg_Tag | with_reducible exact agg_Link) rfl (by apply_assumption; assumption) ?_) | refine OW_idxN und_Links el_Link rfl rfl 0 rfl (Nat.le_of_ble_eq_true rfl) ?_ | refine OW_idxN und_Links el_Link rfl rfl 1 rfl (Nat.le_of_ble_eq_true rfl) ?_ | refine OW_neqIT rfl rfl (by assumption) ?_ | refine OW_neqQF s_eqr_Tag rfl rfl (by assumption) (by first | refine rfl | refine assumption) ?_ | refine OW_neqQT s_eqr_Tag rfl rfl (by assumption) (by assumption) (by assumption) ?_ | refine OW_fieldB fldo_L0 rfl ?_ | refine OW_fieldB fldo_L1 rfl ?_ | refine OW_fieldB fldo_L2 rfl ?_ | refine OW_fieldB fldo_L3 rfl ?_ | refine OW_fieldB fldo_L4 rfl ?_ | refine OW_fieldB fldo_L5 rfl ?_ | refine OW_fieldB fldo_L6 rfl ?_ | refine OW_fieldB fldo_L7 rfl ?_ | refine OW_fieldB fldo_L8 rfl ?_ | refine OW_fieldO fldo_L0 rfl ?_ | refine OW_fieldO fldo_L4 rfl ?_ | refine OW_fieldO fldo_L7 rfl ?_ | refine OW_fieldO fldo_L8 rfl ?_ | refine OW_lenS und_Links rfl ?_ | refine OW_idxN und_Links el_Link rfl rfl _ rfl (by omega) ?_ | refine OW_moveV (.int _ _) rfl ?_ | refine OW_moveV (.slice _ _ _) rfl ?_ | refine OW_moveV (.bool _) rfl ?_ | refine OW_moveV (.pointer _) rfl ?_ | refine OW_moveV (.string _) rfl ?_ | refine OW_moveV (.agg _) rfl ?_ | refine OW_moveV (.tuple _) rfl ?_ | refine OW_nil ?_ | refine thenE_normal ?_ | refine CW_seq ?_ | refine CW_region (by kernel_rfl) ?_ | refine OW_assignV (.int _ _) rfl ?_ | refine OW_assignV (.slice _ _ _) rfl ?_ | refine OW_assignV (.bool _) rfl ?_ | refine OW_assignV (.pointer _) rfl ?_ | refine OW_assignV (.string _) rfl ?_ | refine OW_assignV (.agg _) rfl ?_ | refine OW_assignV (.tuple _) rfl ?_ | refine OW_addI rfl rfl (by omega) ?_ | refine OW_subI rfl rfl (by omega) ?_ | refine OW_mulI rfl rfl (by omega) ?_ | refine OW_lss rfl rfl ?_ | refine OW_extract rfl rfl ?_ | refine OW_gtr rfl rfl ?_ | refine OW_leq rfl rfl ?_ | refine OW_geq rfl rfl ?_ | refine OW_eql rfl rfl ?_ | refine OW_neq rfl rfl ?_ | refine OW_not rfl ?_ | refine OW_pickT rfl _ rfl ?_ | refine OW_pickF rfl (.bool _) rfl ?_ | refine OW_pickB rfl rfl rfl ?_ | refine OW_move ?_ | refine OW_assign ?_ | refine OW_pass rfl ?_ | refine OW_take rfl ?_ | refine OW_lenS (by first | with_reducible exact und_bytes | with_reducible exact und_bytess) rfl ?_ | refine OW_convInt (by first | with_reducible exact und_u8 | with_reducible exact und_u64 | with_reducible exact und_int | with_reducible exact und_u32) (by first | with_reducible exact und_u8 | with_reducible exact und_u64 | with_reducible exact und_int | with_reducible exact und_u32) rfl ?_ | refine OW_add rfl rfl ?_ | refine OW_sub rfl rfl ?_ | refine OW_mul rfl rfl ?_ | refine OW_min2 rfl rfl ?_ | refine OW_max2 rfl rfl ?_ | refine OW_neg rfl ?_ | refine CW_block ?_ | refine CW_condT rfl ?_ | refine CW_condF rfl ?_ | refine CW_exit ?_ | refine CW_ret ?_ | refine CW_skip ?_ | refine LW_seq ?_ | refine LW_regC ?_ | refine LW_condC ?_ | refine LW_regF ?_ | refine LW_condF ?_ | refine FW_seq ?_ | refine FW_region (by kernel_rfl) ?_ | refine FW_block ?_ | refine FW_condT rfl ?_ | refine FW_condF rfl ?_ | refine FW_exit ?_ | refine FW_ret ?_ | refine FW_skip ?_ | refine LW_ret ?_ | refine LW_skip ?_ | refine thenE_exit ?_ | refine thenE_ret ?_ | refine inBlockE_normal ?_ | refine inBlockE_same ?_ | refine inBlockE_ret ?_ | refine inBlockE_ne (by rfl) ?_ | refine OW_eqlB (by with_reducible exact und_bool) rfl rfl ?_ | refine OW_neqB (by with_reducible exact und_bool) rfl rfl ?_ | refine OW_idxS (by with_reducible exact und_bytes) one_u8 rfl rfl _ rfl (by omega) ?_ | refine OW_idxS (by with_reducible exact und_bytess) one_bytes rfl rfl _ rfl (by omega) ?_ | refine OW_load1 (by first | with_reducible exact one_u8 | with_reducible exact one_bytes) rfl _ (by assumption) ?_ | refine OW_load1 s_int rfl _ (by assumption) ?_ | (refine OW_isLoad ?_; refine OW_loadBk (by first | with_reducible exact one_u8 | with_reducible exact one_bytes | with_reducible exact one_bool | with_reducible exact one_int | with_reducible exact one_errno | with_reducible exact one_u32 | with_reducible exact one_u64 | with_reducible exact one_string | with_reducible exact s_int | with_reducible exact one_u8) rfl (by apply_assumption; assumption) _ (by first | assumption | rfl) ?_) | refine OW_load1 (by first | with_reducible exact one_u8 | with_reducible exact one_bytes | with_reducible exact one_bool | with_reducible exact one_int | with_reducible exact one_errno | with_reducible exact one_u32 | with_reducible exact one_u64 | with_reducible exact one_string | with_reducible exact s_int | with_reducible exact one_u8) rfl _ (by apply_assumption; assumption) ?_)
         refine OW_nil ?_
         exact stay_mk _ _ _ _)
    | refine OY_ppass rfl rfl ?_
    | refine OY_qpass rfl rfl ?_
    | (apply OY_ptake _ rfl rfl
       · intro wd
         (first | refine OW_eqlIT rfl rfl (by first | rfl | assumption) ?_ | refine OW_eqlQT s_eqr_Tag rfl rfl (by assumption) (by first | rfl | assumption) ?_ | refine OW_eqlKT rfl rfl (by assumption) ?_ | refine OW_sliceLoN 1 und_Links el_Link rfl rfl rfl (by assumption) ?_ | refine OW_neqIF rfl rfl (by first | rfl | assumption) ?_ | (refine OW_isLoad ?_; refine OW_loadM (by first | with_reducible exact s_agg_Tag | with_reducible exact agg_Link) rfl (by apply_assumption; assumption) ?_) | refine OW_idxN und_Links el_Link rfl rfl 0 rfl (Nat.le_of_ble_eq_true rfl) ?_ | refine OW_idxN und_Links el_Link rfl rfl 1 rfl (Nat.le_of_ble_eq_true rfl) ?_ | refine OW_neqIT rfl rfl (by assumption) ?_ | refine OW_neqQF s_eqr_Tag rfl rfl (by assumption) (by first | refine rfl | refine assumption) ?_ | refine OW_neqQT s_eqr_Tag rfl rfl (by assumption) (by assumption) (by assumption) ?_ | refine OW_fieldB fldo_L0 rfl ?_ | refine OW_fieldB fldo_L1 rfl ?_ | refine OW_fieldB fldo_L2 rfl ?_ | refine OW_fieldB fldo_L3 rfl ?_ | refine OW_fieldB fldo_L4 rfl ?_ | refine OW_fieldB fldo_L5 rfl ?_ | refine OW_fieldB fldo_L6 rfl ?_ | refine OW_fieldB fldo_L7 rfl ?_ | refine OW_fieldB fldo_L8 rfl ?_ | refine OW_fieldO fldo_L0 rfl ?_ | refine OW_fieldO fldo_L4 rfl ?_ | refine OW_fieldO fldo_L7 rfl ?_ | refine OW_fieldO fldo_L8 rfl ?_ | refine OW_lenS und_Links rfl ?_ | refine OW_idxN und_Links el_Link rfl rfl _ rfl (by omega) ?_ | refine OW_moveV (.int _ _) rfl ?_ | refine OW_moveV (.slice _ _ _) rfl ?_ | refine OW_moveV (.bool _) rfl ?_ | refine OW_moveV (.pointer _) rfl ?_ | refine OW_moveV (.string _) rfl ?_ | refine OW_moveV (.agg _) rfl ?_ | refine OW_moveV (.tuple _) rfl ?_ | refine OW_nil ?_ | refine thenE_normal ?_ | refine CW_seq ?_ | refine CW_region (by kernel_rfl) ?_ | refine OW_assignV (.int _ _) rfl ?_ | refine OW_assignV (.slice _ _ _) rfl ?_ | refine OW_assignV (.bool _) rfl ?_ | refine OW_assignV (.pointer _) rfl ?_ | refine OW_assignV (.string _) rfl ?_ | refine OW_assignV (.agg _) rfl ?_ | refine OW_assignV (.tuple _) rfl ?_ | refine OW_addI rfl rfl (by omega) ?_ | refine OW_subI rfl rfl (by omega) ?_ | refine OW_mulI rfl rfl (by omega) ?_ | refine OW_lss rfl rfl ?_ | refine OW_extract rfl rfl ?_ | refine OW_gtr rfl rfl ?_ | refine OW_leq rfl rfl ?_ | refine OW_geq rfl rfl ?_ | refine OW_eql rfl rfl ?_ | refine OW_neq rfl rfl ?_ | refine OW_not rfl ?_ | refine OW_pickT rfl _ rfl ?_ | refine OW_pickF rfl (.bool _) rfl ?_ | refine OW_pickB rfl rfl rfl ?_ | refine OW_move ?_ | refine OW_assign ?_ | refine OW_pass rfl ?_ | refine OW_take rfl ?_ | refine OW_lenS (by first | with_reducible exact und_bytes | with_reducible exact und_bytess) rfl ?_ | refine OW_convInt (by first | with_reducible exact und_u8 | with_reducible exact und_u64 | with_reducible exact und_int | with_reducible exact und_u32) (by first | with_reducible exact und_u8 | with_reducible exact und_u64 | with_reducible exact und_int | with_reducible exact und_u32) rfl ?_ | refine OW_add rfl rfl ?_ | refine OW_sub rfl rfl ?_ | refine OW_mul rfl rfl ?_ | refine OW_min2 rfl rfl ?_ | refine OW_max2 rfl rfl ?_ | refine OW_neg rfl ?_ | refine CW_block ?_ | refine CW_condT rfl ?_ | refine CW_condF rfl ?_ | refine CW_exit ?_ | refine CW_ret ?_ | refine CW_skip ?_ | refine LW_seq ?_ | refine LW_regC ?_ | refine LW_condC ?_ | refine LW_regF ?_ | refine LW_condF ?_ | refine FW_seq ?_ | refine FW_region (by kernel_rfl) ?_ | refine FW_block ?_ | refine FW_condT rfl ?_ | refine FW_condF rfl ?_ | refine FW_exit ?_ | refine FW_ret ?_ | refine FW_skip ?_ | refine LW_ret ?_ | refine LW_skip ?_ | refine thenE_exit ?_ | refine thenE_ret ?_ | refine inBlockE_normal ?_ | refine inBlockE_same ?_ | refine inBlockE_ret ?_ | refine inBlockE_ne (by rfl) ?_ | refine OW_eqlB (by with_reducible exact und_bool) rfl rfl ?_ | refine OW_neqB (by with_reducible exact und_bool) rfl rfl ?_ | refine OW_idxS (by with_reducible exact und_bytes) one_u8 rfl rfl _ rfl (by omega) ?_ | refine OW_idxS (by with_reducible exact und_bytess) one_bytes rfl rfl _ rfl (by omega) ?_ | refine OW_load1 (by first | with_reducible exact one_u8 | with_reducible exact one_bytes) rfl _ (by assumption) ?_ | refine OW_load1 s_int rfl _ (by assumption) ?_)
         refine OW_nil ?_
         exact stay_mk _ _ _ _)
    | (apply OY_qtake _ rfl rfl
       · intro wd hwd
         (first | refine OW_eqlIT rfl rfl (by first | rfl | assumption) ?_ | refine OW_eqlQT s_eqr_Tag rfl rfl (by assumption) (by first | rfl | assumption) ?_ | refine OW_eqlKT rfl rfl (by assumption) ?_ | refine OW_sliceLoN 1 und_Links el_Link rfl rfl rfl (by assumption) ?_ | refine OW_neqIF rfl rfl (by first | rfl | assumption) ?_ | (refine OW_isLoad ?_; refine OW_loadM (by first | with_reducible exact s_agg_Tag | with_reducible exact agg_Link) rfl (by apply_assumption; assumption) ?_) | refine OW_idxN und_Links el_Link rfl rfl 0 rfl (Nat.le_of_ble_eq_true rfl) ?_ | refine OW_idxN und_Links el_Link rfl rfl 1 rfl (Nat.le_of_ble_eq_true rfl) ?_ | refine OW_neqIT rfl rfl (by assumption) ?_ | refine OW_neqQF s_eqr_Tag rfl rfl (by assumption) (by first | refine rfl | refine assumption) ?_ | refine OW_neqQT s_eqr_Tag rfl rfl (by assumption) (by assumption) (by assumption) ?_ | refine OW_fieldB fldo_L0 rfl ?_ | refine OW_fieldB fldo_L1 rfl ?_ | refine OW_fieldB fldo_L2 rfl ?_ | refine OW_fieldB fldo_L3 rfl ?_ | refine OW_fieldB fldo_L4 rfl ?_ | refine OW_fieldB fldo_L5 rfl ?_ | refine OW_fieldB fldo_L6 rfl ?_ | refine OW_fieldB fldo_L7 rfl ?_ | refine OW_fieldB fldo_L8 rfl ?_ | refine OW_fieldO fldo_L0 rfl ?_ | refine OW_fieldO fldo_L4 rfl ?_ | refine OW_fieldO fldo_L7 rfl ?_ | refine OW_fieldO fldo_L8 rfl ?_ | refine OW_lenS und_Links rfl ?_ | refine OW_idxN und_Links el_Link rfl rfl _ rfl (by omega) ?_ | refine OW_moveV (.int _ _) rfl ?_ | refine OW_moveV (.slice _ _ _) rfl ?_ | refine OW_moveV (.bool _) rfl ?_ | refine OW_moveV (.pointer _) rfl ?_ | refine OW_moveV (.string _) rfl ?_ | refine OW_moveV (.agg _) rfl ?_ | refine OW_moveV (.tuple _) rfl ?_ | refine OW_nil ?_ | refine thenE_normal ?_ | refine CW_seq ?_ | refine CW_region (by kernel_rfl) ?_ | refine OW_assignV (.int _ _) rfl ?_ | refine OW_assignV (.slice _ _ _) rfl ?_ | refine OW_assignV (.bool _) rfl ?_ | refine OW_assignV (.pointer _) rfl ?_ | refine OW_assignV (.string _) rfl ?_ | refine OW_assignV (.agg _) rfl ?_ | refine OW_assignV (.tuple _) rfl ?_ | refine OW_addI rfl rfl (by omega) ?_ | refine OW_subI rfl rfl (by omega) ?_ | refine OW_mulI rfl rfl (by omega) ?_ | refine OW_lss rfl rfl ?_ | refine OW_extract rfl rfl ?_ | refine OW_gtr rfl rfl ?_ | refine OW_leq rfl rfl ?_ | refine OW_geq rfl rfl ?_ | refine OW_eql rfl rfl ?_ | refine OW_neq rfl rfl ?_ | refine OW_not rfl ?_ | refine OW_pickT rfl _ rfl ?_ | refine OW_pickF rfl (.bool _) rfl ?_ | refine OW_pickB rfl rfl rfl ?_ | refine OW_move ?_ | refine OW_assign ?_ | refine OW_pass rfl ?_ | refine OW_take rfl ?_ | refine OW_lenS (by first | with_reducible exact und_bytes | with_reducible exact und_bytess) rfl ?_ | refine OW_convInt (by first | with_reducible exact und_u8 | with_reducible exact und_u64 | with_reducible exact und_int | with_reducible exact und_u32) (by first | with_reducible exact und_u8 | with_reducible exact und_u64 | with_reducible exact und_int | with_reducible exact und_u32) rfl ?_ | refine OW_add rfl rfl ?_ | refine OW_sub rfl rfl ?_ | refine OW_mul rfl rfl ?_ | refine OW_min2 rfl rfl ?_ | refine OW_max2 rfl rfl ?_ | refine OW_neg rfl ?_ | refine CW_block ?_ | refine CW_condT rfl ?_ | refine CW_condF rfl ?_ | refine CW_exit ?_ | refine CW_ret ?_ | refine CW_skip ?_ | refine LW_seq ?_ | refine LW_regC ?_ | refine LW_condC ?_ | refine LW_regF ?_ | refine LW_condF ?_ | refine FW_seq ?_ | refine FW_region (by kernel_rfl) ?_ | refine FW_block ?_ | refine FW_condT rfl ?_ | refine FW_condF rfl ?_ | refine FW_exit ?_ | refine FW_ret ?_ | refine FW_skip ?_ | refine LW_ret ?_ | refine LW_skip ?_ | refine thenE_exit ?_ | refine thenE_ret ?_ | refine inBlockE_normal ?_ | refine inBlockE_same ?_ | refine inBlockE_ret ?_ | refine inBlockE_ne (by rfl) ?_ | refine OW_eqlB (by with_reducible exact und_bool) rfl rfl ?_ | refine OW_neqB (by with_reducible exact und_bool) rfl rfl ?_ | refine OW_idxS (by with_reducible exact und_bytes) one_u8 rfl rfl _ rfl (by omega) ?_ | refine OW_idxS (by with_reducible exact und_bytess) one_bytes rfl rfl _ rfl (by omega) ?_ | refine OW_load1 (by first | with_reducible exact one_u8 | with_reducible exact one_bytes) rfl _ (by assumption) ?_ | refine OW_load1 s_int rfl _ (by assumption) ?_ | (refine OW_isLoad ?_; refine OW_loadBk (by first | with_reducible exact one_u8 | with_reducible exact one_bytes | with_reducible exact one_bool | with_reducible exact one_int | with_reducible exact one_errno | with_reducible exact one_u32 | with_reducible exact one_u64 | with_reducible exact one_string | with_reducible exact s_int | with_reducible exact one_u8) rfl (by apply_assumption; assumption) _ (by first | assumption | rfl) ?_) | refine OW_load1 (by first | with_reducible exact one_u8 | with_reducible exact one_bytes | with_reducible exact one_bool | with_reducible exact one_int | with_reducible exact one_errno | with_reducible exact one_u32 | with_reducible exact one_u64 | with_reducible exact one_string | with_reducible exact s_int | with_reducible exact one_u8) rfl _ (by apply_assumption; assumption) ?_)
         refine OW_nil ?_
         exact stay_mk _ _ _ _)
    | refine OY_a (actY_of rfl ?_)
    | refine OY_d (actY_of rfl ?_)
    | refine OY_a (actY_pass rfl rfl ?_)
    | refine OY_d (actY_pass rfl rfl ?_)
    | refine OY_a (actY_take rfl rfl ?_)
    | refine OY_d (actY_take rfl rfl ?_))
  exact hEnd.out) (k : B) : A := h ⟨k⟩
section
variable {ops : Array Oper} {Q : Exit → (Nat → Value) → World → Prop} {rest : List Oper} {e : Nat → Value} {w : World} {d : Tmp} {ty : TypeId} {pos : String} {aft : Array Edge}
/-- A cell of a link of a row of the call's own is set. -/
theorem OW_storeLk {x y : Operand} {t : TypeId} {ad : Addr} {i j base c : Nat} {l : List LK} {v : Value} (k : LK) (ht : OneT Try.prog t) (hx : ev e x = .pointer (some ((ad.add (i * 71)).add j))) (hy : ev e y = v) (hv : v.oneCell' = true) (ho : LOwn w base (some ad) c l) (hk : ∀ x ∈ l, LOk x) (hi : i < l.length) (hj : j < 71) (hc : (lcells l[i]).set j v = lcells k)
    (h : ∀ w', LOwn w' base (some ad) c (l.set i k) → Keeps w w' (· = ad.block) → base ≤ ad.block → OW Try.prog ops Q rest e w') : OW Try.prog ops Q (⟨none, .store t x y, ty, pos, aft, none⟩ :: rest) e w := by
  obtain ⟨g, cur, hA, hbg, hB, hsz, hn, hm, htk⟩ := ownN_blk ho (by simp)
  cases hA
  rw [addr_add_off, addr_add_off, Nat.zero_add] at hx
  have hlt : i * 71 + j < c * 71 := by
    have : (i + 1) * 71 ≤ c * 71 := Nat.mul_le_mul_right 71 (by omega)
    omega
  refine OW_storeB ht hx v hy hv hB (by rw [hsz]; exact hlt) ?_
  intro w' hb' hgr
  refine h w' ?_ (Keeps.of_only hgr rfl) hbg
  unfold LOwn
  rw [List.length_set]
  refine ownN_of_blk hbg hb' (by rw [Array.size_setIfInBounds]; exact hsz) hn hm ?_
  rw [Array.toList_setIfInBounds, List.take_set, htk, flat_set (k := 71) i (by simpa using hi) j v (fun x hx => by obtain ⟨y, hy, rfl⟩ := List.mem_map.1 hx; exact lcells_length (hk y hy)) hj, List.getElem_map, hc, List.map_set]
end
theorem bld_aa0 : ∀ w, (Instr.build 89 [(0, .int .i64 1), (1, .int .u8 6), (2, .int .i64 1), (3, .int .i64 2)].toArray).run Try.prog w = .ok (.agg (aacells ⟨1, 6, 1, 2, 0, 0⟩).toArray) w := fun w => by kernel_rfl
theorem bld_aa1 : ∀ w, (Instr.build 89 [(0, .int .i64 5), (1, .int .u8 8), (2, .int .i64 1), (3, .int .i64 3), (4, .int .i64 9), (5, .int .i64 1)].toArray).run Try.prog w = .ok (.agg (aacells ⟨5, 8, 1, 3, 9, 1⟩).toArray) w := fun w => by kernel_rfl
theorem aw_lit : ∃ x0 x1 : LK, chainL [⟨1, 6, 1, 2, 0, 0⟩, ⟨5, 8, 1, 3, 9, 1⟩] = [x0, x1] ∧ LOk x0 ∧ LOk x1 ∧ x1.stamp = 5 ∧ chkL 0 tzS [x0, x1] = 0 ∧ chkL 0 tzS [{ x0 with a := 3 }, x1] = 1 ∧ chkL 0 tzS [x1] = 1 ∧ x1.ahead = x0.self ∧ ¬ x0.self = x1.self := by
  have hok := chainL_ok (l := [⟨1, 6, 1, 2, 0, 0⟩, ⟨5, 8, 1, 3, 9, 1⟩]) (by decide) (by
    intro x hx
    simp only [List.mem_cons, List.not_mem_nil, or_false] at hx
    rcases hx with rfl | rfl <;> (unfold I64; simp))
  have hch := chkL_chain [⟨1, 6, 1, 2, 0, 0⟩, ⟨5, 8, 1, 3, 9, 1⟩]
  have he : chainL [⟨1, 6, 1, 2, 0, 0⟩, ⟨5, 8, 1, 3, 9, 1⟩] = [nextL [] 1 6 1 2 0 0, nextL [nextL [] 1 6 1 2 0 0] 5 8 1 3 9 1] := rfl
  rw [he] at hok hch
  refine ⟨_, _, he, hok _ (List.mem_cons_self ..), hok _ (List.mem_cons_of_mem _ (List.mem_cons_self ..)), rfl, hch, ?_, ?_, rfl, aud_ne0⟩
  · rw [chkL, if_neg]
    · rfl
    · intro h
      exact aud_ne1 h.2.2
  · rw [chkL, if_neg]
    · rfl
    · intro h
      exact absurd h.1 (by show ¬ (2 : Int) = 1; decide)
set_option maxHeartbeats 8000000 in
theorem awake13_any (w : World) : Calls Try.prog 55 #[] w (RetV w (.bool true)) := by
  obtain ⟨x0, x1, hz, ok0, ok1, hst, chk0, chk1, chk2, hah, hne⟩ := aw_lit
  have hokz : ∀ x ∈ [x0, x1], LOk x := by
    intro x hx
    simp only [List.mem_cons, List.not_mem_nil, or_false] at hx
    rcases hx with rfl | rfl <;> assumption
  have hi : ∀ x ∈ ([⟨1, 6, 1, 2, 0, 0⟩, ⟨5, 8, 1, 3, 9, 1⟩] : List AC), AcOk x := by
    intro x hx
    simp only [List.mem_cons, List.not_mem_nil, or_false] at hx
    rcases hx with rfl | rfl <;> exact ⟨by unfold I64; simp⟩
  have htz : tzS.length = 32 := rfl
  have hs0 := ok0.self
  have hs1 := ok1.self
  have ha1 := ok1.ahead
  have hl1 := lcells_length ok1
  have i0 : I64 0 := by unfold I64; simp
  have i2 : I64 2 := by unfold I64; simp
  have i3 : I64 3 := by unfold I64; simp
  refine calls_of_CW Try.func55 rfl (by simp [Try.ntmps55]) ?_
  rw [Try.ntmps55]
  refine go_Aud5 (k := ?_)
  refine OW_build _ _ bld_aa0 rfl ?_
  refine go_Aud5 (k := ?_)
  refine OW_build _ _ bld_aa1 rfl ?_
  refine go_Aud5 (k := ?_)
  refine OW_litM [aacells ⟨1, 6, 1, 2, 0, 0⟩, aacells ⟨5, 8, 1, 3, 9, 1⟩] und_Acts agg_Act13 rfl rfl (by intro v hv; simp only [List.mem_cons, List.not_mem_nil, or_false] at hv; rcases hv with rfl | rfl <;> rfl) (by decide) ?_
  intro w1 g1 hb1 hg1 hlt1 hx1
  have hra : RdN w1 (some ⟨g1, 0, none⟩) 6 (([⟨1, 6, 1, 2, 0, 0⟩, ⟨5, 8, 1, 3, 9, 1⟩] : List AC).map aacells) := ⟨by simpa using hb1.rd, fun x hx => by
    obtain ⟨y, _, rfl⟩ := List.mem_map.1 hx; rfl⟩
  have hC := chain_any w1 (some ⟨g1, 0, none⟩) 2 _ hra hi (by decide)
  rw [hz] at hC
  clear hra hb1
  refine go_Aud5 (k := ?_)
  refine OW_callC Try.func59 (by kernel_rfl) rfl hC rfl ?_
  rintro en w2 ⟨A, c, rfl, hO, hx2⟩
  refine ⟨_, rfl, ?_⟩
  have hx02 := hx1.trans' hx2
  have hcap : 2 ≤ c := hO.cap
  have hR := hO.rd hokz
  have hO : LOwn w2 w1.heap.size A c [x0, x1] := hO
  clear hC hO
  obtain ⟨ad, hAd, hat1⟩ := hR.at_ (i := 1) (Nat.le_of_ble_eq_true rfl)
  obtain ⟨ad', hAd', hat0⟩ := hR.at_ (i := 0) (Nat.le_of_ble_eq_true rfl)
  rw [hAd] at hAd'
  cases hAd'
  subst hAd
  replace hat0 : At w2 (ad.add (0 * 71)) (lcells x0) := hat0
  replace hat1 : At w2 (ad.add (1 * 71)) (lcells x1) := hat1
  refine go_Aud5 (k := ?_)
  refine OW_callV Try.func57 (by kernel_rfl) rfl (audCheck_any w2 none 0 [] (LRd.nil _ _) (by intro x hx; cases hx) (by decide)) rfl ?_
  intro w3 hx3
  rw [show chkL 0 tzS [] = 0 from rfl]
  refine go_Aud5 (k := ?_)
  refine OW_callV Try.func54 (by kernel_rfl) rfl (audHead_any w3 none 0 [] (LRd.nil _ _) (by intro x hx; cases hx) (by decide)) rfl ?_
  intro w4 hx4
  rw [show headL [] = tzS from rfl]
  refine go_Aud5 (k := ?_)
  refine OW_build _ _ a_bldTag rfl ?_
  have hx24 := hx3.trans' hx4
  refine go_Aud5 (k := ?_)
  refine OW_callV Try.func57 (by kernel_rfl) rfl (audCheck_any w4 (some ad) c [x0, x1] (hR.ext hx24) hokz (Nat.le_of_ble_eq_true rfl)) rfl ?_
  intro w5 hx5
  rw [chk0]
  have hx25 := hx24.trans' hx5
  refine go_Aud5 (k := ?_)
  refine OW_callV Try.func56 (by kernel_rfl) rfl (audAt_any w5 (some ad) c [x0, x1] (hR.ext hx25) hokz (Nat.le_of_ble_eq_true rfl) 2 i2) rfl ?_
  intro w6 hx6
  rw [show atL [x0, x1] 2 = x1 from rfl, show atE [x0, x1] 2 = 0 from rfl]
  refine go_Aud5 (k := ?_)
  refine OW_allocA agg_Link ?_
  intro w7 g7 hb7 hg7 hlt7 hx7
  have hx26 := hx25.trans' hx6
  refine go_Aud5 (k := ?_)
  refine OW_storeA agg_Link rfl (lcells x1) rfl hl1 hb7 (by kernel_rfl) (lcells_one _) ?_
  intro w8 hb8 hgr8
  have hb8 : Blk w8 g7 76 (lcells x1).toArray := hb8
  have hx28 : Ext w2 w8 := (Keeps.of_only hgr8 (S := (· = g7)) rfl).ext (hx26.trans' hx7) (fun j hj => by have hj : j = g7 := hj; have := hx26.size; omega)
  clear hb7 hgr8
  refine go_Aud5 (k := ?_)
  refine OW_callV Try.func56 (by kernel_rfl) rfl (audAt_any w8 (some ad) c [x0, x1] (hR.ext hx28) hokz (Nat.le_of_ble_eq_true rfl) 3 i3) rfl ?_
  intro w9 hx9
  rw [show atL [x0, x1] 3 = ⟨0, 0, 0, 0, 0, 0, 0, tzS, tzS⟩ from rfl, show atE [x0, x1] 3 = 130 from rfl]
  refine go_Aud5 (k := ?_)
  refine OW_allocA agg_Link ?_
  intro w10 g10 hb10 hg10 hlt10 hx10
  have hx810 := hx9.trans' hx10
  refine go_Aud5 (k := ?_)
  refine OW_storeA agg_Link rfl (lcells ⟨0, 0, 0, 0, 0, 0, 0, tzS, tzS⟩) rfl rfl hb10 (by kernel_rfl) (lcells_one _) ?_
  intro w11 hb11 hgr11
  have hx811 : Ext w8 w11 := (Keeps.of_only hgr11 (S := (· = g10)) rfl).ext hx810 (fun j hj => by have hj : j = g10 := hj; have := hx9.size; omega)
  clear hb10 hgr11 hb11
  have hx211 := hx28.trans' hx811
  refine go_Aud5 (k := ?_)
  refine OW_callV Try.func56 (by kernel_rfl) rfl (audAt_any w11 (some ad) c [x0, x1] (hR.ext hx211) hokz (Nat.le_of_ble_eq_true rfl) 0 i0) rfl ?_
  intro w12 hx12
  rw [show atL [x0, x1] 0 = ⟨0, 0, 0, 0, 0, 0, 0, tzS, tzS⟩ from rfl, show atE [x0, x1] 0 = 130 from rfl]
  refine go_Aud5 (k := ?_)
  refine OW_allocA agg_Link ?_
  intro w13 g13 hb13 hg13 hlt13 hx13
  have hx812 := hx811.trans' hx12
  refine go_Aud5 (k := ?_)
  refine OW_storeA agg_Link rfl (lcells ⟨0, 0, 0, 0, 0, 0, 0, tzS, tzS⟩) rfl rfl hb13 (by kernel_rfl) (lcells_one _) ?_
  intro w14 hb14 hgr14
  have hx814 : Ext w8 w14 := (Keeps.of_only hgr14 (S := (· = g13)) rfl).ext (hx812.trans' hx13) (fun j hj => by have hj : j = g13 := hj; have := hx812.size; omega)
  clear hb13 hgr14 hb14
  refine go_Aud5 (k := ?_)
  refine OW_litM [] und_Links agg_Link rfl rfl (by simp) (by decide) ?_
  intro w15 g15 hb15 hg15 hlt15 hx15
  have hoE : w15.ownsRow w14.heap.size 76 71 (.slice (some ⟨g15, 0, none⟩) 0 0) 0 [] := ownN_of_blk hg15 hb15 rfl (Nat.le_refl _) (by decide) (by simp)
  have hx815 := hx814.trans' hx15
  have hR15 := hR.ext (hx28.trans' hx815)
  refine go_Aud5 (k := ?_)
  refine OW_appendN (k := 71) und_Links info_Link rfl (by decide) rfl rfl hoE (RdN.rd hR15) (by rw [flat_len hR15.len, List.length_map]) (links_one _) (Nat.le_of_ble_eq_true rfl) (Nat.le_of_ble_eq_true rfl) hx15.size ?_
  intro w16 A16 c16 ho16 hgr16 _
  have hx816 : Ext w8 w16 := (Keeps.of_grown (S := (· = g15)) hgr16 (fun b hb => by cases hb; rfl)).ext hx815 (fun j hj => by have hj : j = g15 := hj; have := hx814.size; omega)
  have hO16 : LOwn w16 w14.heap.size A16 c16 [x0, x1] := ho16
  clear hoE ho16 hgr16 hb15
  cases A16 with
  | none => exact absurd ((hO16.rd hokz).at_ (i := 0) (Nat.le_of_ble_eq_true rfl)) (by rintro ⟨_, h, _⟩; cases h)
  | some am =>
  have hO16b : LOwn w16 w14.heap.size (some am) c16 [x0, x1] := hO16
  refine go_Aud5 (k := ?_)
  refine OW_storeLk (i := 0) (j := 4) (v := .int .i64 3) { x0 with a := 3 } s_int ?_ ?_ rfl hO16 hokz (Nat.le_of_ble_eq_true rfl) (by decide) rfl ?_
  · rfl
  · rfl
  intro w17 hO17 hk17 hbm
  have hO17 : LOwn w17 w14.heap.size (some am) c16 [{ x0 with a := 3 }, x1] := hO17
  have hx817 : Ext w8 w17 := hk17.ext hx816 (fun j hj => by have hj : j = am.block := hj; have := hx814.size; omega)
  have hokm : ∀ x ∈ [{ x0 with a := 3 }, x1], LOk x := by
    intro x hx
    simp only [List.mem_cons, List.not_mem_nil, or_false] at hx
    rcases hx with rfl | rfl
    · exact ⟨ok0.ahead, ok0.self, ok0.i.1, ok0.i.2.1, ok0.i.2.2.1, i3, ok0.i.2.2.2.2⟩
    · assumption
  clear hO16 hO16b hk17
  have hx217 := hx28.trans' hx817
  have hR17 := hR.ext hx217
  have hM17 := hO17.rd hokm
  have hcs : 1 ≤ 2 ∧ 2 ≤ c := ⟨by decide, hcap⟩
  have hcut : LRd w17 (cutN (some ad) c 1 71) [x1] := by
    have := RdN.cut hR17 c 1 1 (by omega)
    exact this
  have hok1l : ∀ x ∈ [x1], LOk x := by intro x hx; rw [List.mem_singleton] at hx; subst hx; assumption
  have hb17 := hb8.ext hx817
  have cst : w17.cell? ⟨g7, 1, none⟩ = some (.int .i64 x1.stamp) := by rw [hb17.cell]; rfl
  have hatx1 := At.ext hat1 hx217
  have hatx0 := At.ext hat0 hx217
  refine go_Aud5 (k := ?_)
  obtain ⟨C, hC⟩ : ∃ C : World → Prop, C = fun v => Ext w17 v := ⟨_, rfl⟩
  have yx2 : ∀ v, C v → AtM v ⟨g7, 0, none⟩ (lcells x1) 71 := by rw [hC]; exact fun v hv => ⟨(hb17.ext hv).atL, hl1⟩
  have yst : ∀ v, C v → v.cell? ⟨g7, 1, none⟩ = some (.int .i64 x1.stamp) := by rw [hC]; exact fun v hv => hv.cell' cst
  have yl1 : ∀ v, C v → AtM v (ad.add (1 * 71)) (lcells x1) 71 := by rw [hC]; exact fun v hv => ⟨At.ext hatx1 hv, hl1⟩
  have yl1s : ∀ v, C v → AtM v ((ad.add (1 * 71)).add 39) (x1.self.map bv) 32 := by rw [hC]; exact fun v hv => sAt ok1 (At.ext hatx1 hv)
  have yl1a : ∀ v, C v → AtM v ((ad.add (1 * 71)).add 7) (x1.ahead.map bv) 32 := by rw [hC]; exact fun v hv => aAt ok1 (At.ext hatx1 hv)
  have yl0s : ∀ v, C v → AtM v ((ad.add (0 * 71)).add 39) (x0.self.map bv) 32 := by rw [hC]; exact fun v hv => sAt ok0 (At.ext hatx0 hv)
  refine CW_tree2 [3, 6, 11, 39, 46, 50, 57, 61] (.p 0 (.p 1 (.p 2 (.q 3 (.p 4 (.p 5 (.q 6 (.p 7 (.p 8 (.p 9 (.p 10 (.q 11 (.p 12 (.p 13 (.p 14 (.p 15 (.p 16 (.p 17 (.p 18 (.p 19 (.p 20 (.p 21 (.p 22 (.p 23 (.d 24 (.p 25 (.p 26 (.p 27 (.p 28 (.p 29 (.d 30 (.p 31 (.p 32 (.p 33 (.p 34 (.p 36 (.p 37 (.p 38 (.q 39 (.a 35 (.p 40 (.p 41 (.p 42 (.p 43 (.p 44 (.p 45 (.q 46 (.p 47 (.p 48 (.p 49 (.q 50 (.p 51 (.p 52 (.p 53 (.p 54 (.p 55 (.p 56 (.q 57 (.p 58 (.p 59 (.p 60 (.q 61 (.p 62 (.p 63 (.p 64 .done))))))))))))))))))))))))))))))))))))))))))))))))))))))))))))))))) (C) (by kernel_rfl) (by kernel_rfl) (by kernel_rfl) ?_ ?_
  · exact inE hC
  intro w18 hx18 h_C
  refine oy_Aud5 (k := ?_)
  refine OW_callV Try.func57 (by kernel_rfl) rfl (audCheck_any w18 (some am) c16 [{ x0 with a := 3 }, x1] (hM17.ext hx18) hokm (Nat.le_of_ble_eq_true rfl)) rfl ?_
  intro w19 hx19
  rw [chk1]
  have hy19 := hx18.trans' hx19
  first | refine OW_nil (goY_mkE hC (hy19) ?_) | refine OW_nil (goY_dropE hC (hy19) ?_)
  refine oy_Aud5 (k := ?_)
  refine OW_callV Try.func57 (by kernel_rfl) rfl (audCheck_any w19 (cutN (some ad) c 1 71) (c - 1) [x1] (hcut.ext hy19) hok1l (Nat.le_of_ble_eq_true rfl)) rfl ?_
  intro w20 hx20
  rw [chk2]
  have hy20 := hy19.trans' hx20
  first | refine OW_nil (goY_mkE hC (hy20) ?_) | refine OW_nil (goY_dropE hC (hy20) ?_)
  refine oy_Aud5 (k := ?_)
  refine OW_callV Try.func54 (by kernel_rfl) rfl (audHead_any w20 (some ad) c [x0, x1] (hR17.ext hy20) hokz (Nat.le_of_ble_eq_true rfl)) rfl ?_
  intro w21 hx21
  rw [show headL [x0, x1] = x1.self from rfl]
  have hy21 := hy20.trans' hx21
  first | refine OW_nil (goY_mkE hC (hy21) ?_) | refine OW_nil (goY_dropE hC (hy21) ?_)
  refine oy_Aud5 (k := ?_)
  refine go_Aud5 (k := ?_)
  exact bodyE_ret1 rfl (.bool true) rfl ⟨rfl, (hx02.trans' hx217).trans' hy21⟩
end Go.Proofs.Ytdpcahfgdpikfaa
