/- Several texts in one, as they stand in wip/src. -/
import Derived.Test.YtdpcahfgdpikfaaGt13
import Derived.Test.YtdpcahfgdpikfaaGt14
import Derived.Test.YtdpcahfgdpikfaaGt15
/- Walks: the reference's Add; chains checked; links compared. -/
namespace Go.Proofs.Ytdpcahfgdpikfaa
open Go Go.RowKit
set_option linter.unusedVariables false
set_option maxRecDepth 4000
theorem go_Aud3 {A B : Prop} (h : Held B → A := by
  intro hEnd
  repeat (first | refine OW_neqIF rfl rfl (by first | rfl | assumption) ?_ | (refine OW_isLoad ?_; refine OW_loadM (by first | with_reducible exact s_agg_Tag | with_reducible exact agg_Link) rfl (by apply_assumption; assumption) ?_) | refine OW_neqKF rfl rfl (by assumption) ?_ | refine OW_neqIT rfl rfl (by assumption) ?_ | refine OW_neqQF s_eqr_Tag rfl rfl (by assumption) (by assumption) ?_ | refine OW_neqQT s_eqr_Tag rfl rfl (by assumption) (by assumption) (by assumption) ?_ | refine OW_fieldB fldo_L0 rfl ?_ | refine OW_fieldB fldo_L1 rfl ?_ | refine OW_fieldB fldo_L2 rfl ?_ | refine OW_fieldB fldo_L3 rfl ?_ | refine OW_fieldB fldo_L4 rfl ?_ | refine OW_fieldB fldo_L5 rfl ?_ | refine OW_fieldB fldo_L6 rfl ?_ | refine OW_fieldB fldo_L7 rfl ?_ | refine OW_fieldB fldo_L8 rfl ?_ | refine OW_fieldO fldo_L0 rfl ?_ | refine OW_fieldO fldo_L7 rfl ?_ | refine OW_fieldO fldo_L8 rfl ?_ | refine OW_lenS und_Links rfl ?_ | refine OW_idxN und_Links el_Link rfl rfl _ rfl (by omega) ?_ | refine OW_moveV (.int _ _) rfl ?_ | refine OW_moveV (.slice _ _ _) rfl ?_ | refine OW_moveV (.bool _) rfl ?_ | refine OW_moveV (.pointer _) rfl ?_ | refine OW_moveV (.string _) rfl ?_ | refine OW_moveV (.agg _) rfl ?_ | refine OW_moveV (.tuple _) rfl ?_ | refine OW_nil ?_ | refine thenE_normal ?_ | refine CW_seq ?_ | refine CW_region (by kernel_rfl) ?_ | refine OW_assignV (.int _ _) rfl ?_ | refine OW_assignV (.slice _ _ _) rfl ?_ | refine OW_assignV (.bool _) rfl ?_ | refine OW_assignV (.pointer _) rfl ?_ | refine OW_assignV (.string _) rfl ?_ | refine OW_assignV (.agg _) rfl ?_ | refine OW_assignV (.tuple _) rfl ?_ | refine OW_addI rfl rfl (by omega) ?_ | refine OW_subI rfl rfl (by omega) ?_ | refine OW_mulI rfl rfl (by omega) ?_ | refine OW_lss rfl rfl ?_ | refine OW_extract rfl rfl ?_ | refine OW_gtr rfl rfl ?_ | refine OW_leq rfl rfl ?_ | refine OW_geq rfl rfl ?_ | refine OW_eql rfl rfl ?_ | refine OW_neq rfl rfl ?_ | refine OW_not rfl ?_ | refine OW_pickT rfl _ rfl ?_ | refine OW_pickF rfl (.bool _) rfl ?_ | refine OW_pickB rfl rfl rfl ?_ | refine OW_move ?_ | refine OW_assign ?_ | refine OW_pass rfl ?_ | refine OW_take rfl ?_ | refine OW_lenS (by first | with_reducible exact und_bytes | with_reducible exact und_bytess) rfl ?_ | refine OW_convInt (by first | with_reducible exact und_u8 | with_reducible exact und_u64 | with_reducible exact und_int | with_reducible exact und_u32) (by first | with_reducible exact und_u8 | with_reducible exact und_u64 | with_reducible exact und_int | with_reducible exact und_u32) rfl ?_ | refine OW_add rfl rfl ?_ | refine OW_sub rfl rfl ?_ | refine OW_mul rfl rfl ?_ | refine OW_min2 rfl rfl ?_ | refine OW_max2 rfl rfl ?_ | refine OW_neg rfl ?_ | refine CW_block ?_ | refine CW_condT rfl ?_ | refine CW_condF rfl ?_ | refine CW_exit ?_ | refine CW_ret ?_ | refine CW_skip ?_ | refine LW_seq ?_ | refine LW_regC ?_ | refine LW_condC ?_ | refine LW_regF ?_ | refine LW_condF ?_ | refine FW_seq ?_ | refine FW_region (by kernel_rfl) ?_ | refine FW_block ?_ | refine FW_condT rfl ?_ | refine FW_condF rfl ?_ | refine FW_exit ?_ | refine FW_ret ?_ | refine FW_skip ?_ | refine LW_ret ?_ | refine LW_skip ?_ | refine thenE_exit ?_ | refine thenE_ret ?_ | refine inBlockE_normal ?_ | refine inBlockE_same ?_ | refine inBlockE_ret ?_ | refine inBlockE_ne (by rfl) ?_ | refine OW_eqlB (by with_reducible exact und_bool) rfl rfl ?_ | refine OW_neqB (by with_reducible exact und_bool) rfl rfl ?_ | refine OW_idxS (by with_reducible exact und_bytes) one_u8 rfl rfl _ rfl (by omega) ?_ | refine OW_idxS (by with_reducible exact und_bytess) one_bytes rfl rfl _ rfl (by omega) ?_ | refine OW_load1 (by first | with_reducible exact one_u8 | with_reducible exact one_bytes) rfl _ (by assumption) ?_ | refine OW_load1 s_int rfl _ (by assumption) ?_)
  exact hEnd.out) (k : B) : A := h ⟨k⟩
theorem oy_Aud3 {A B : Prop} (h : Held B → A := by
  intro hEnd
  repeat (first
    | refine OY_done ?_
    | (apply OY_p _ rfl
       · intro wd
         (first | refine OW_neqIF rfl rfl (by first | rfl | assumption) ?_ | (refine OW_isLoad ?_; refine OW_loadM (by first | with_reducible exact s_agg_Tag | with_reducible exact agg_Link) rfl (by apply_assumption; assumption) ?_) | refine OW_neqKF rfl rfl (by assumption) ?_ | refine OW_neqIT rfl rfl (by assumption) ?_ | refine OW_neqQF s_eqr_Tag rfl rfl (by assumption) (by assumption) ?_ | refine OW_neqQT s_eqr_Tag rfl rfl (by assumption) (by assumption) (by assumption) ?_ | refine OW_fieldB fldo_L0 rfl ?_ | refine OW_fieldB fldo_L1 rfl ?_ | refine OW_fieldB fldo_L2 rfl ?_ | refine OW_fieldB fldo_L3 rfl ?_ | refine OW_fieldB fldo_L4 rfl ?_ | refine OW_fieldB fldo_L5 rfl ?_ | refine OW_fieldB fldo_L6 rfl ?_ | refine OW_fieldB fldo_L7 rfl ?_ | refine OW_fieldB fldo_L8 rfl ?_ | refine OW_fieldO fldo_L0 rfl ?_ | refine OW_fieldO fldo_L7 rfl ?_ | refine OW_fieldO fldo_L8 rfl ?_ | refine OW_lenS und_Links rfl ?_ | refine OW_idxN und_Links el_Link rfl rfl _ rfl (by omega) ?_ | refine OW_moveV (.int _ _) rfl ?_ | refine OW_moveV (.slice _ _ _) rfl ?_ | refine OW_moveV (.bool _) rfl ?_ | refine OW_moveV (.pointer _) rfl ?_ | refine OW_moveV (.string _) rfl ?_ | refine OW_moveV (.agg _) rfl ?_ | refine OW_moveV (.tuple _) rfl ?_ | refine OW_nil ?_ | refine thenE_normal ?_ | refine CW_seq ?_ | refine CW_region (by kernel_rfl) ?_ | refine OW_assignV (.int _ _) rfl ?_ | refine OW_assignV (.slice _ _ _) rfl ?_ | refine OW_assignV (.bool _) rfl ?_ | refine OW_assignV (.pointer _) rfl ?_ | refine OW_assignV (.string _) rfl ?_ | refine OW_assignV (.agg _) rfl ?_ | refine OW_assignV (.tuple _) rfl ?_ | refine OW_addI rfl rfl (by omega) ?_ | refine OW_subI rfl rfl (by omega) ?_ | refine OW_mulI rfl rfl (by omega) ?_ | refine OW_lss rfl rfl ?_ | refine OW_extract rfl rfl ?_ | refine OW_gtr rfl rfl ?_ | refine OW_leq rfl rfl ?_ | refine OW_geq rfl rfl ?_ | refine OW_eql rfl rfl ?_ | refine OW_neq rfl rfl ?_ | refine OW_not rfl ?_ | refine OW_pickT rfl _ rfl ?_ | refine OW_pickF rfl (.bool _) rfl ?_ | refine OW_pickB rfl rfl rfl ?_ | refine OW_move ?_ | refine OW_assign ?_ | refine OW_pass rfl ?_ | refine OW_take rfl ?_ | refine OW_lenS (by first | with_reducible exact und_bytes | with_reducible exact und_bytess) rfl ?_ | refine OW_convInt (by first | with_reducible exact und_u8 | with_reducible exact und_u64 | with_reducible exact und_int | with_reducible exact und_u32) (by first | with_reducible exact und_u8 | with_reducible exact und_u64 | with_reducible exact und_int | with_reducible exact und_u32) rfl ?_ | refine OW_add rfl rfl ?_ | refine OW_sub rfl rfl ?_ | refine OW_mul rfl rfl ?_ | refine OW_min2 rfl rfl ?_ | refine OW_max2 rfl rfl ?_ | refine OW_neg rfl ?_ | refine CW_block ?_ | refine CW_condT rfl ?_ | refine CW_condF rfl ?_ | refine CW_exit ?_ | refine CW_ret ?_ | refine CW_skip ?_ | refine LW_seq ?_ | refine LW_regC ?_ | refine LW_condC ?_ | refine LW_regF ?_ | refine LW_condF ?_ | refine FW_seq ?_ | refine FW_region (by kernel_rfl) ?_ | refine FW_block ?_ | refine FW_condT rfl ?_ | refine FW_condF rfl ?_ | refine FW_exit ?_ | refine FW_ret ?_ | refine FW_skip ?_ | refine LW_ret ?_ | refine LW_skip ?_ | refine thenE_exit ?_ | refine thenE_ret ?_ | refine inBlockE_normal ?_ | refine inBlockE_same ?_ | refine inBlockE_ret ?_ | refine inBlockE_ne (by rfl) ?_ | refine OW_eqlB (by with_reducible exact und_bool) rfl rfl ?_ | refine OW_neqB (by with_reducible exact und_bool) rfl rfl ?_ | refine OW_idxS (by with_reducible exact und_bytes) one_u8 rfl rfl _ rfl (by omega) ?_ | refine OW_idxS (by with_reducible exact und_bytess) one_bytes rfl rfl _ rfl (by omega) ?_ | refine OW_load1 (by first | with_reducible exact one_u8 | with_reducible exact one_bytes) rfl _ (by assumption) ?_ | refine OW_load1 s_int rfl _ (by assumption) ?_)
         refine OW_nil ?_
         exact stay_mk _ _ _ _)
    | (apply OY_q _ rfl
       · intro wd hwd
         (first | refine OW_neqIF rfl rfl (by first | rfl | assumption) ?_ | (refine OW_isLoad ?_; refine OW_loadM (by first | with_reducible exact s_agg_Tag | with_reducible exact agg_Link) rfl (by apply_assumption; assumption) ?_) | refine OW_neqKF rfl rfl (by assumption) ?_ | refine OW_neqIT rfl rfl (by assumption) ?_ | refine OW_neqQF s_eqr_Tag rfl rfl (by assumption) (by assumption) ?_ | refine OW_neqQT s_eqr_Tag rfl rfl (by assumption) (by assumption) (by assumption) ?_ | refine OW_fieldB fldo_L0 rfl ?_ | refine OW_fieldB fldo_L1 rfl ?_ | refine OW_fieldB fldo_L2 rfl ?_ | refine OW_fieldB fldo_L3 rfl ?_ | refine OW_fieldB fldo_L4 rfl ?_ | refine OW_fieldB fldo_L5 rfl ?_ | refine OW_fieldB fldo_L6 rfl ?_ | refine OW_fieldB fldo_L7 rfl ?_ | refine OW_fieldB fldo_L8 rfl ?_ | refine OW_fieldO fldo_L0 rfl ?_ | refine OW_fieldO fldo_L7 rfl ?_ | refine OW_fieldO fldo_L8 rfl ?_ | refine OW_lenS und_Links rfl ?_ | refine OW_idxN und_Links el_Link rfl rfl _ rfl (by omega) ?_ | refine OW_moveV (.int _ _) rfl ?_ | refine OW_moveV (.slice _ _ _) rfl ?_ | refine OW_moveV (.bool _) rfl ?_ | refine OW_moveV (.pointer _) rfl ?_ | refine OW_moveV (.string _) rfl ?_ | refine OW_moveV (.agg _) rfl ?_ | refine OW_moveV (.tuple _) rfl ?_ | refine OW_nil ?_ | refine thenE_normal ?_ | refine CW_seq ?_ | refine CW_region (by kernel_rfl) ?_ | refine OW_assignV (.int _ _) rfl ?_ | refine OW_assignV (.slice _ _ _) rfl ?_ | refine OW_assignV (.bool _) rfl ?_ | refine OW_assignV (.pointer _) rfl ?_ | refine OW_assignV (.string _) rfl ?_ | refine OW_assignV (.agg _) rfl ?_ | refine OW_assignV (.tuple _) rfl ?_ | refine OW_addI rfl rfl (by omega) ?_ | refine OW_subI rfl rfl (by omega) ?_ | refine OW_mulI rfl rfl (by omega) ?_ | refine OW_lss rfl rfl ?_ | refine OW_extract rfl rfl ?_ | refine OW_gtr rfl rfl ?_ | refine OW_leq rfl rfl ?_ | refine OW_geq rfl rfl ?_ | refine OW_eql rfl rfl ?_ | refine OW_neq rfl rfl ?_ | refine OW_not rfl ?_ | refine OW_pickT rfl _ rfl ?_ | refine OW_pickF rfl (.bool _) rfl ?_ | refine OW_pickB rfl rfl rfl ?_ | refine OW_move ?_ | refine OW_assign ?_ | refine OW_pass rfl ?_ | refine OW_take rfl ?_ | refine OW_lenS (by first | with_reducible exact und_bytes | with_reducible exact und_bytess) rfl ?_ | refine OW_convInt (by first | with_reducible exact und_u8 | with_reducible exact und_u64 | with_reducible exact und_int | with_reducible exact und_u32) (by first | with_reducible exact und_u8 | with_reducible exact und_u64 | with_reducible exact und_int | with_reducible exact und_u32) rfl ?_ | refine OW_add rfl rfl ?_ | refine OW_sub rfl rfl ?_ | refine OW_mul rfl rfl ?_ | refine OW_min2 rfl rfl ?_ | refine OW_max2 rfl rfl ?_ | refine OW_neg rfl ?_ | refine CW_block ?_ | refine CW_condT rfl ?_ | refine CW_condF rfl ?_ | refine CW_exit ?_ | refine CW_ret ?_ | refine CW_skip ?_ | refine LW_seq ?_ | refine LW_regC ?_ | refine LW_condC ?_ | refine LW_regF ?_ | refine LW_condF ?_ | refine FW_seq ?_ | refine FW_region (by kernel_rfl) ?_ | refine FW_block ?_ | refine FW_condT rfl ?_ | refine FW_condF rfl ?_ | refine FW_exit ?_ | refine FW_ret ?_ | refine FW_skip ?_ | refine LW_ret ?_ | refine LW_skip ?_ | refine thenE_exit ?_ | refine thenE_ret ?_ | refine inBlockE_normal ?_ | refine inBlockE_same ?_ | refine inBlockE_ret ?_ | refine inBlockE_ne (by rfl) ?_ | refine OW_eqlB (by with_reducible exact und_bool) rfl rfl ?_ | refine OW_neqB (by with_reducible exact und_bool) rfl rfl ?_ | refine OW_idxS (by with_reducible exact und_bytes) one_u8 rfl rfl _ rfl (by omega) ?_ | refine OW_idxS (by with_reducible exact und_bytess) one_bytes rfl rfl _ rfl (by omega) ?_ | refine OW_load1 (by first | with_reducible exact one_u8 | with_reducible exact one_bytes) rfl _ (by assumption) ?_ | refine OW_load1 s_int rfl _ (by assumption) ?_ | (refine OW_isLoad ?_; refine OW_loadBk (by first | with_reducible exact one_u8 | with_reducible exact one_bytes | with_reducible exact one_bool | with_reducible exact one_int | with_reducible exact one_errno | with_reducible exact one_u32 | with_reducible exact one_u64 | with_reducible exact one_string | with_reducible exact s_int) rfl (by apply_assumption; assumption) _ (by first | assumption | rfl) ?_) | refine OW_load1 (by first | with_reducible exact one_u8 | with_reducible exact one_bytes | with_reducible exact one_bool | with_reducible exact one_int | with_reducible exact one_errno | with_reducible exact one_u32 | with_reducible exact one_u64 | with_reducible exact one_string | with_reducible exact s_int) rfl _ (by apply_assumption; assumption) ?_)
         refine OW_nil ?_
         exact stay_mk _ _ _ _)
    | refine OY_ppass rfl rfl ?_
    | refine OY_qpass rfl rfl ?_
    | (apply OY_ptake _ rfl rfl
       · intro wd
         (first | refine OW_neqIF rfl rfl (by first | rfl | assumption) ?_ | (refine OW_isLoad ?_; refine OW_loadM (by first | with_reducible exact s_agg_Tag | with_reducible exact agg_Link) rfl (by apply_assumption; assumption) ?_) | refine OW_neqKF rfl rfl (by assumption) ?_ | refine OW_neqIT rfl rfl (by assumption) ?_ | refine OW_neqQF s_eqr_Tag rfl rfl (by assumption) (by assumption) ?_ | refine OW_neqQT s_eqr_Tag rfl rfl (by assumption) (by assumption) (by assumption) ?_ | refine OW_fieldB fldo_L0 rfl ?_ | refine OW_fieldB fldo_L1 rfl ?_ | refine OW_fieldB fldo_L2 rfl ?_ | refine OW_fieldB fldo_L3 rfl ?_ | refine OW_fieldB fldo_L4 rfl ?_ | refine OW_fieldB fldo_L5 rfl ?_ | refine OW_fieldB fldo_L6 rfl ?_ | refine OW_fieldB fldo_L7 rfl ?_ | refine OW_fieldB fldo_L8 rfl ?_ | refine OW_fieldO fldo_L0 rfl ?_ | refine OW_fieldO fldo_L7 rfl ?_ | refine OW_fieldO fldo_L8 rfl ?_ | refine OW_lenS und_Links rfl ?_ | refine OW_idxN und_Links el_Link rfl rfl _ rfl (by omega) ?_ | refine OW_moveV (.int _ _) rfl ?_ | refine OW_moveV (.slice _ _ _) rfl ?_ | refine OW_moveV (.bool _) rfl ?_ | refine OW_moveV (.pointer _) rfl ?_ | refine OW_moveV (.string _) rfl ?_ | refine OW_moveV (.agg _) rfl ?_ | refine OW_moveV (.tuple _) rfl ?_ | refine OW_nil ?_ | refine thenE_normal ?_ | refine CW_seq ?_ | refine CW_region (by kernel_rfl) ?_ | refine OW_assignV (.int _ _) rfl ?_ | refine OW_assignV (.slice _ _ _) rfl ?_ | refine OW_assignV (.bool _) rfl ?_ | refine OW_assignV (.pointer _) rfl ?_ | refine OW_assignV (.string _) rfl ?_ | refine OW_assignV (.agg _) rfl ?_ | refine OW_assignV (.tuple _) rfl ?_ | refine OW_addI rfl rfl (by omega) ?_ | refine OW_subI rfl rfl (by omega) ?_ | refine OW_mulI rfl rfl (by omega) ?_ | refine OW_lss rfl rfl ?_ | refine OW_extract rfl rfl ?_ | refine OW_gtr rfl rfl ?_ | refine OW_leq rfl rfl ?_ | refine OW_geq rfl rfl ?_ | refine OW_eql rfl rfl ?_ | refine OW_neq rfl rfl ?_ | refine OW_not rfl ?_ | refine OW_pickT rfl _ rfl ?_ | refine OW_pickF rfl (.bool _) rfl ?_ | refine OW_pickB rfl rfl rfl ?_ | refine OW_move ?_ | refine OW_assign ?_ | refine OW_pass rfl ?_ | refine OW_take rfl ?_ | refine OW_lenS (by first | with_reducible exact und_bytes | with_reducible exact und_bytess) rfl ?_ | refine OW_convInt (by first | with_reducible exact und_u8 | with_reducible exact und_u64 | with_reducible exact und_int | with_reducible exact und_u32) (by first | with_reducible exact und_u8 | with_reducible exact und_u64 | with_reducible exact und_int | with_reducible exact und_u32) rfl ?_ | refine OW_add rfl rfl ?_ | refine OW_sub rfl rfl ?_ | refine OW_mul rfl rfl ?_ | refine OW_min2 rfl rfl ?_ | refine OW_max2 rfl rfl ?_ | refine OW_neg rfl ?_ | refine CW_block ?_ | refine CW_condT rfl ?_ | refine CW_condF rfl ?_ | refine CW_exit ?_ | refine CW_ret ?_ | refine CW_skip ?_ | refine LW_seq ?_ | refine LW_regC ?_ | refine LW_condC ?_ | refine LW_regF ?_ | refine LW_condF ?_ | refine FW_seq ?_ | refine FW_region (by kernel_rfl) ?_ | refine FW_block ?_ | refine FW_condT rfl ?_ | refine FW_condF rfl ?_ | refine FW_exit ?_ | refine FW_ret ?_ | refine FW_skip ?_ | refine LW_ret ?_ | refine LW_skip ?_ | refine thenE_exit ?_ | refine thenE_ret ?_ | refine inBlockE_normal ?_ | refine inBlockE_same ?_ | refine inBlockE_ret ?_ | refine inBlockE_ne (by rfl) ?_ | refine OW_eqlB (by with_reducible exact und_bool) rfl rfl ?_ | refine OW_neqB (by with_reducible exact und_bool) rfl rfl ?_ | refine OW_idxS (by with_reducible exact und_bytes) one_u8 rfl rfl _ rfl (by omega) ?_ | refine OW_idxS (by with_reducible exact und_bytess) one_bytes rfl rfl _ rfl (by omega) ?_ | refine OW_load1 (by first | with_reducible exact one_u8 | with_reducible exact one_bytes) rfl _ (by assumption) ?_ | refine OW_load1 s_int rfl _ (by assumption) ?_)
         refine OW_nil ?_
         exact stay_mk _ _ _ _)
    | (apply OY_qtake _ rfl rfl
       · intro wd hwd
         (first | refine OW_neqIF rfl rfl (by first | rfl | assumption) ?_ | (refine OW_isLoad ?_; refine OW_loadM (by first | with_reducible exact s_agg_Tag | with_reducible exact agg_Link) rfl (by apply_assumption; assumption) ?_) | refine OW_neqKF rfl rfl (by assumption) ?_ | refine OW_neqIT rfl rfl (by assumption) ?_ | refine OW_neqQF s_eqr_Tag rfl rfl (by assumption) (by assumption) ?_ | refine OW_neqQT s_eqr_Tag rfl rfl (by assumption) (by assumption) (by assumption) ?_ | refine OW_fieldB fldo_L0 rfl ?_ | refine OW_fieldB fldo_L1 rfl ?_ | refine OW_fieldB fldo_L2 rfl ?_ | refine OW_fieldB fldo_L3 rfl ?_ | refine OW_fieldB fldo_L4 rfl ?_ | refine OW_fieldB fldo_L5 rfl ?_ | refine OW_fieldB fldo_L6 rfl ?_ | refine OW_fieldB fldo_L7 rfl ?_ | refine OW_fieldB fldo_L8 rfl ?_ | refine OW_fieldO fldo_L0 rfl ?_ | refine OW_fieldO fldo_L7 rfl ?_ | refine OW_fieldO fldo_L8 rfl ?_ | refine OW_lenS und_Links rfl ?_ | refine OW_idxN und_Links el_Link rfl rfl _ rfl (by omega) ?_ | refine OW_moveV (.int _ _) rfl ?_ | refine OW_moveV (.slice _ _ _) rfl ?_ | refine OW_moveV (.bool _) rfl ?_ | refine OW_moveV (.pointer _) rfl ?_ | refine OW_moveV (.string _) rfl ?_ | refine OW_moveV (.agg _) rfl ?_ | refine OW_moveV (.tuple _) rfl ?_ | refine OW_nil ?_ | refine thenE_normal ?_ | refine CW_seq ?_ | refine CW_region (by kernel_rfl) ?_ | refine OW_assignV (.int _ _) rfl ?_ | refine OW_assignV (.slice _ _ _) rfl ?_ | refine OW_assignV (.bool _) rfl ?_ | refine OW_assignV (.pointer _) rfl ?_ | refine OW_assignV (.string _) rfl ?_ | refine OW_assignV (.agg _) rfl ?_ | refine OW_assignV (.tuple _) rfl ?_ | refine OW_addI rfl rfl (by omega) ?_ | refine OW_subI rfl rfl (by omega) ?_ | refine OW_mulI rfl rfl (by omega) ?_ | refine OW_lss rfl rfl ?_ | refine OW_extract rfl rfl ?_ | refine OW_gtr rfl rfl ?_ | refine OW_leq rfl rfl ?_ | refine OW_geq rfl rfl ?_ | refine OW_eql rfl rfl ?_ | refine OW_neq rfl rfl ?_ | refine OW_not rfl ?_ | refine OW_pickT rfl _ rfl ?_ | refine OW_pickF rfl (.bool _) rfl ?_ | refine OW_pickB rfl rfl rfl ?_ | refine OW_move ?_ | refine OW_assign ?_ | refine OW_pass rfl ?_ | refine OW_take rfl ?_ | refine OW_lenS (by first | with_reducible exact und_bytes | with_reducible exact und_bytess) rfl ?_ | refine OW_convInt (by first | with_reducible exact und_u8 | with_reducible exact und_u64 | with_reducible exact und_int | with_reducible exact und_u32) (by first | with_reducible exact und_u8 | with_reducible exact und_u64 | with_reducible exact und_int | with_reducible exact und_u32) rfl ?_ | refine OW_add rfl rfl ?_ | refine OW_sub rfl rfl ?_ | refine OW_mul rfl rfl ?_ | refine OW_min2 rfl rfl ?_ | refine OW_max2 rfl rfl ?_ | refine OW_neg rfl ?_ | refine CW_block ?_ | refine CW_condT rfl ?_ | refine CW_condF rfl ?_ | refine CW_exit ?_ | refine CW_ret ?_ | refine CW_skip ?_ | refine LW_seq ?_ | refine LW_regC ?_ | refine LW_condC ?_ | refine LW_regF ?_ | refine LW_condF ?_ | refine FW_seq ?_ | refine FW_region (by kernel_rfl) ?_ | refine FW_block ?_ | refine FW_condT rfl ?_ | refine FW_condF rfl ?_ | refine FW_exit ?_ | refine FW_ret ?_ | refine FW_skip ?_ | refine LW_ret ?_ | refine LW_skip ?_ | refine thenE_exit ?_ | refine thenE_ret ?_ | refine inBlockE_normal ?_ | refine inBlockE_same ?_ | refine inBlockE_ret ?_ | refine inBlockE_ne (by rfl) ?_ | refine OW_eqlB (by with_reducible exact und_bool) rfl rfl ?_ | refine OW_neqB (by with_reducible exact und_bool) rfl rfl ?_ | refine OW_idxS (by with_reducible exact und_bytes) one_u8 rfl rfl _ rfl (by omega) ?_ | refine OW_idxS (by with_reducible exact und_bytess) one_bytes rfl rfl _ rfl (by omega) ?_ | refine OW_load1 (by first | with_reducible exact one_u8 | with_reducible exact one_bytes) rfl _ (by assumption) ?_ | refine OW_load1 s_int rfl _ (by assumption) ?_ | (refine OW_isLoad ?_; refine OW_loadBk (by first | with_reducible exact one_u8 | with_reducible exact one_bytes | with_reducible exact one_bool | with_reducible exact one_int | with_reducible exact one_errno | with_reducible exact one_u32 | with_reducible exact one_u64 | with_reducible exact one_string | with_reducible exact s_int) rfl (by apply_assumption; assumption) _ (by first | assumption | rfl) ?_) | refine OW_load1 (by first | with_reducible exact one_u8 | with_reducible exact one_bytes | with_reducible exact one_bool | with_reducible exact one_int | with_reducible exact one_errno | with_reducible exact one_u32 | with_reducible exact one_u64 | with_reducible exact one_string | with_reducible exact s_int) rfl _ (by apply_assumption; assumption) ?_)
         refine OW_nil ?_
         exact stay_mk _ _ _ _)
    | refine OY_a (actY_of rfl ?_)
    | refine OY_d (actY_of rfl ?_)
    | refine OY_a (actY_pass rfl rfl ?_)
    | refine OY_d (actY_pass rfl rfl ?_)
    | refine OY_a (actY_take rfl rfl ?_)
    | refine OY_d (actY_take rfl rfl ?_))
  exact hEnd.out) (k : B) : A := h ⟨k⟩
section
variable {ops : Array Oper} {Q : Exit → (Nat → Value) → World → Prop} {rest : List Oper} {e : Nat → Value} {w : World} {d : Tmp} {ty : TypeId} {pos : String} {aft : Array Edge}
theorem OW_neqKF {x y : Operand} {t' : TypeId} {a : LK} (hx : ev e x = .agg (lcells a).toArray) (hy : ev e y = .agg (lcells a).toArray) (ha : LOk a) (h : OW Try.prog ops Q rest (upd e d (.bool false)) w) : OW Try.prog ops Q (⟨some d, .binOp .neq 76 x y t', ty, pos, aft, none⟩ :: rest) e w :=
  OW_neqK hx hy ha ha false (by simp) h
end
theorem c2of {w : World} {ad : Addr} {x : LK} (h : At w ad (lcells x)) : w.cell? (ad.add 0) = some (.int .i64 x.n) := h 0 _ rfl
theorem aAt {w : World} {ad : Addr} {x : LK} (hx : LOk x) (h : At w ad (lcells x)) : AtM w (ad.add 7) (x.ahead.map bv) 32 := ⟨at_part h (lk_drop7 hx), by rw [List.length_map, hx.ahead]⟩
theorem sAt {w : World} {ad : Addr} {x : LK} (hx : LOk x) (h : At w ad (lcells x)) : AtM w (ad.add 39) (x.self.map bv) 32 := ⟨at_part h (lk_drop39 hx), by rw [List.length_map, hx.self]⟩
theorem xAt {w : World} {ad : Addr} {x : LK} (hx : LOk x) (h : At w ad (lcells x)) : AtM w ad (lcells x) 71 := ⟨h, lcells_length hx⟩
theorem at_ext {w w' : World} {ad : Addr} {cs : List Value} (h : At w ad cs) (hx : Ext w w') : At w' ad cs := fun j u hu => hx.cell' (h j u hu)
theorem blk_c {w : World} {g : Nat} {x : LK} (h : Blk w g 76 (lcells x).toArray) : w.cell? ⟨g, 0, none⟩ = some (.int .i64 x.n) := h.cell 0
theorem blk_a {w : World} {g : Nat} {x : LK} (hx : LOk x) (h : Blk w g 76 (lcells x).toArray) : AtM w ⟨g, 7, none⟩ (x.ahead.map bv) 32 := ⟨ahead_in hx h, by rw [List.length_map, hx.ahead]⟩
theorem blk_s {w : World} {g : Nat} {x : LK} (hx : LOk x) (h : Blk w g 76 (lcells x).toArray) : AtM w ⟨g, 39, none⟩ (x.self.map bv) 32 := ⟨self_in hx h, by rw [List.length_map, hx.self]⟩
theorem blk_x {w : World} {g : Nat} {x : LK} (hx : LOk x) (h : Blk w g 76 (lcells x).toArray) : AtM w ⟨g, 0, none⟩ (lcells x) 71 := ⟨h.atL, lcells_length hx⟩
theorem blk_t {w : World} {g : Nat} {T : TypeId} {p : List UInt8} (hp : p.length = 32) (h : Blk w g T (p.map bv).toArray) : AtM w ⟨g, 0, none⟩ (p.map bv) 32 := ⟨h.atL, by rw [List.length_map, hp]⟩
theorem chkL_drop {l : List LK} {k : Nat} (hk : k < l.length) : chkL k (headL (l.take k)) (l.drop k) = if okL k (headL (l.take k)) l[k] then chkL (k + 1) (headL (l.take (k + 1))) (l.drop (k + 1)) else (k : Int) + 1 := by
  rw [List.drop_eq_getElem_cons hk, chkL, List.take_succ_eq_append_getElem hk, headL_snoc]
set_option maxHeartbeats 8000000 in
theorem refLSame_any (w : World) (A B : Option Addr) (c d : Nat) (l : List LK) (hA : LRd w A l) (hB : LRd w B l) (hk : ∀ x ∈ l, LOk x) (hn : l.length ≤ 1000000) : Calls Try.prog 51 #[.slice A l.length c, .slice B l.length d] w (RetV w (.bool true)) := by
  refine calls_of_CW Try.func51 rfl (by simp [Try.ntmps51]) ?_
  rw [Try.ntmps51]
  refine go_Aud3 (k := ?_)
  refine CW_loop (fun e' w' => ∃ k : Nat, k ≤ l.length ∧ e' 0 = .slice A l.length c ∧ e' 1 = .slice B l.length d ∧ e' 5 = .int .i64 k ∧ Ext w w') (fun e' _ => l.length - (intOf (e' 5)).toNat) ⟨0, Nat.zero_le _, rfl, rfl, rfl, Ext.rfl' _⟩ ?_
  rintro e' w1 ⟨k, hk2, e0, e1, e5, hx1⟩
  rw [upd_self e0, upd_self e1, upd_self e5]
  refine go_Aud3 (k := ?_)
  refine CW_cond _ rfl (fun hh => ?_) (fun hh => ?_)
  · have hlt : k < l.length := by have := of_decide_eq_true hh; omega
    clear hh
    obtain ⟨ad, hAa, ha⟩ := (hA.ext hx1).at_ hlt
    obtain ⟨bd, hBa, hb⟩ := (hB.ext hx1).at_ hlt
    have hok := hk _ (List.getElem_mem hlt)
    generalize l[k] = x at *
    subst hAa
    subst hBa
    refine go_Aud3 (k := ?_)
    obtain ⟨C, hC⟩ : ∃ C : World → Prop, C = fun v => Ext w1 v := ⟨_, rfl⟩
    have yA : ∀ v, C v → AtM v (ad.add (k * 71)) (lcells x) 71 := by rw [hC]; exact fun v hv => xAt hok (at_ext ha hv)
    have yB : ∀ v, C v → AtM v (bd.add (k * 71)) (lcells x) 71 := by rw [hC]; exact fun v hv => xAt hok (at_ext hb hv)
    refine CW_tree2 [3, 7] (.p 0 (.p 1 (.p 2 (.q 3 (.p 4 (.p 5 (.p 6 (.q 7 (.p 8 .done))))))))) (C) (by kernel_rfl) (by kernel_rfl) (by kernel_rfl) ?_ ?_
    · exact inE hC
    intro w2 hx2 h_C
    refine oy_Aud3 (k := ?_)
    refine go_Aud3 (k := ?_)
    refine ⟨⟨k + 1, by omega, rfl, rfl, rfl, hx1.trans' hx2⟩, ?_⟩
    show l.length - ((k : Int) + 1).toNat < l.length - (k : Int).toNat
    omega
  · refine go_Aud3 (k := ?_)
    exact bodyE_ret1 rfl (.bool true) rfl ⟨rfl, hx1⟩
set_option maxHeartbeats 8000000 in
theorem audCheck_any (w : World) (A : Option Addr) (c : Nat) (l : List LK) (hl : LRd w A l) (hk : ∀ x ∈ l, LOk x) (hn : l.length ≤ 1000000) : Calls Try.prog 57 #[.slice A l.length c] w (RetV w (.int .i64 (chkL 0 tzS l))) := by
  have hhl : ∀ k, (headL (l.take k)).length = 32 := fun k => headL_len (fun x hx => hk x (List.mem_of_mem_take hx))
  refine calls_of_CW Try.func57 rfl (by simp [Try.ntmps57]) ?_
  rw [Try.ntmps57]
  refine go_Aud3 (k := ?_)
  refine OW_allocA s_agg_Tag ?_
  intro w1 g3 hb3 hg3 hlt3 hx1
  refine go_Aud3 (k := ?_)
  refine CW_loop (fun e' w' => ∃ k : Nat, k ≤ l.length ∧ chkL 0 tzS l = chkL k (headL (l.take k)) (l.drop k) ∧ e' 3 = .pointer (some ⟨g3, 0, none⟩) ∧ e' 6 = .slice A l.length c ∧ e' 7 = .int .i64 l.length ∧ e' 8 = .int .i64 k ∧ Ext w w' ∧ Blk w' g3 29 ((headL (l.take k)).map bv).toArray) (fun e' _ => l.length - (intOf (e' 8)).toNat) ⟨0, Nat.zero_le _, rfl, rfl, rfl, rfl, rfl, hx1, hb3⟩ ?_
  clear hb3
  rintro e' w2 ⟨k, hk2, hch, e3, e6, e7, e8, hx2, hb3⟩
  rw [upd_self e3, upd_self e6, upd_self e7, upd_self e8]
  have hd := fun h => chkL_drop (l := l) (k := k) h
  rw [hch]
  have hh32 := hhl k
  refine go_Aud3 (k := ?_)
  refine CW_cond _ rfl (fun hh => ?_) (fun hh => ?_)
  rotate_left 1
  · have hge : k = l.length := by have := of_decide_eq_false hh; omega
    rw [hge, List.drop_of_length_le (Nat.le_refl _)]
    refine go_Aud3 (k := ?_)
    exact bodyE_ret1 rfl (.int .i64 0) rfl ⟨rfl, hx2⟩
  have hlt : k < l.length := by have := of_decide_eq_true hh; omega
  clear hh
  rw [hd hlt]
  have hok := hk _ (List.getElem_mem hlt)
  obtain ⟨ad, hAa, hat⟩ := (hl.ext hx2).at_ hlt
  have hok1 : okL k (headL (l.take k)) l[k] ↔ (l[k].n = (k : Int) + 1 ∧ l[k].ahead = headL (l.take k) ∧ l[k].self = linkH l[k]) := Iff.rfl
  obtain ⟨p, hp⟩ : ∃ p, headL (l.take k) = p := ⟨_, rfl⟩
  have hp2 : l[k].self = headL (l.take (k + 1)) := by rw [List.take_succ_eq_append_getElem hlt, headL_snoc]
  obtain ⟨R, hR⟩ : ∃ R, chkL (k + 1) (headL (l.take (k + 1))) (l.drop (k + 1)) = R := ⟨_, rfl⟩
  rw [hp] at hok1 hh32 ⊢
  rw [hR]
  rw [hp] at hb3
  generalize l[k] = x at *
  have hHl : (linkH x).length = 32 := shaL_length _
  have hahl := hok.ahead
  have hsel := hok.self
  have hxl := lcells_length hok
  subst hAa
  refine go_Aud3 (k := ?_)
  refine OW_loadX agg_Link rfl (lcells x) hxl hat ?_
  refine go_Aud3 (k := ?_)
  refine OW_allocA agg_Link ?_
  intro w3 g5 hb5 hg5 hlt5 hx3
  refine go_Aud3 (k := ?_)
  refine OW_storeA agg_Link rfl (lcells x) rfl hxl hb5 (by kernel_rfl) (lcells_one _) ?_
  intro w4 hb4 hg4
  have hb4 : Blk w4 g5 76 (lcells x).toArray := hb4
  have hx24 : Ext w2 w4 := (Keeps.of_only hg4 (S := (· = g5)) rfl).ext hx3 (fun j hj => by have hj : j = g5 := hj; omega)
  replace hb3 := hb3.ext hx24
  have hx04 := hx2.trans' hx24
  clear hb5 hg4 hat
  refine go_Aud3 (k := ?_)
  by_cases q1 : x.n = (k : Int) + 1
  rotate_left 1
  · rw [if_neg (fun h => q1 (hok1.1 h).1)]
    obtain ⟨C, hC⟩ : ∃ C : World → Prop, C = fun v => Ext w4 v := ⟨_, rfl⟩
    have yn : ∀ v, C v → v.cell? ⟨g5, 0, none⟩ = some (.int .i64 x.n) := by rw [hC]; exact fun v hv => blk_c (hb4.ext hv)
    have ya : ∀ v, C v → AtM v ⟨g5, 7, none⟩ (x.ahead.map bv) 32 := by rw [hC]; exact fun v hv => blk_a hok (hb4.ext hv)
    have ys : ∀ v, C v → AtM v ⟨g5, 39, none⟩ (x.self.map bv) 32 := by rw [hC]; exact fun v hv => blk_s hok (hb4.ext hv)
    have yx : ∀ v, C v → AtM v ⟨g5, 0, none⟩ (lcells x) 71 := by rw [hC]; exact fun v hv => blk_x hok (hb4.ext hv)
    have yp : ∀ v, C v → AtM v ⟨g3, 0, none⟩ (p.map bv) 32 := by rw [hC]; exact fun v hv => blk_t hh32 (hb3.ext hv)
    refine CW_tree2 [1, 7, 8, 13, 14] (.p 0 (.q 1 (.p 2 (.p 3 (.p 4 (.p 5 (.p 6 (.q 7 (.q 8 (.p 9 (.p 10 (.p 11 (.p 12 (.q 13 (.q 14 (.a 15 (.p 16 (.p 17 .done)))))))))))))))))) (C) (by kernel_rfl) (by kernel_rfl) (by kernel_rfl) ?_ ?_
    · exact inE hC
    intro w6 hx6 h_C
    refine oy_Aud3 (k := ?_)
    refine go_Aud3 (k := ?_)
    exact bodyE_ret1 rfl (.int .i64 ((k : Int) + 1)) rfl ⟨rfl, (hx04).trans' hx6⟩
  by_cases q2 : x.ahead = p
  rotate_left 1
  · rw [if_neg (fun h => q2 (hok1.1 h).2.1)]
    obtain ⟨C, hC⟩ : ∃ C : World → Prop, C = fun v => Ext w4 v := ⟨_, rfl⟩
    have yn : ∀ v, C v → v.cell? ⟨g5, 0, none⟩ = some (.int .i64 x.n) := by rw [hC]; exact fun v hv => blk_c (hb4.ext hv)
    have ya : ∀ v, C v → AtM v ⟨g5, 7, none⟩ (x.ahead.map bv) 32 := by rw [hC]; exact fun v hv => blk_a hok (hb4.ext hv)
    have ys : ∀ v, C v → AtM v ⟨g5, 39, none⟩ (x.self.map bv) 32 := by rw [hC]; exact fun v hv => blk_s hok (hb4.ext hv)
    have yx : ∀ v, C v → AtM v ⟨g5, 0, none⟩ (lcells x) 71 := by rw [hC]; exact fun v hv => blk_x hok (hb4.ext hv)
    have yp : ∀ v, C v → AtM v ⟨g3, 0, none⟩ (p.map bv) 32 := by rw [hC]; exact fun v hv => blk_t hh32 (hb3.ext hv)
    refine CW_tree2 [1, 7, 8, 13, 14] (.p 0 (.q 1 (.p 2 (.p 3 (.p 4 (.p 5 (.p 6 (.q 7 (.q 8 (.p 9 (.p 10 (.p 11 (.p 12 (.q 13 (.q 14 (.a 15 (.p 16 (.p 17 .done)))))))))))))))))) (C) (by kernel_rfl) (by kernel_rfl) (by kernel_rfl) ?_ ?_
    · exact inE hC
    intro w6 hx6 h_C
    refine oy_Aud3 (k := ?_)
    refine go_Aud3 (k := ?_)
    exact bodyE_ret1 rfl (.int .i64 ((k : Int) + 1)) rfl ⟨rfl, (hx04).trans' hx6⟩
  by_cases q3 : x.self = linkH x
  rotate_left 1
  · rw [if_neg (fun h => q3 (hok1.1 h).2.2)]
    obtain ⟨C, hC⟩ : ∃ C : World → Prop, C = fun v => Ext w4 v := ⟨_, rfl⟩
    have yn : ∀ v, C v → v.cell? ⟨g5, 0, none⟩ = some (.int .i64 x.n) := by rw [hC]; exact fun v hv => blk_c (hb4.ext hv)
    have ya : ∀ v, C v → AtM v ⟨g5, 7, none⟩ (x.ahead.map bv) 32 := by rw [hC]; exact fun v hv => blk_a hok (hb4.ext hv)
    have ys : ∀ v, C v → AtM v ⟨g5, 39, none⟩ (x.self.map bv) 32 := by rw [hC]; exact fun v hv => blk_s hok (hb4.ext hv)
    have yx : ∀ v, C v → AtM v ⟨g5, 0, none⟩ (lcells x) 71 := by rw [hC]; exact fun v hv => blk_x hok (hb4.ext hv)
    have yp : ∀ v, C v → AtM v ⟨g3, 0, none⟩ (p.map bv) 32 := by rw [hC]; exact fun v hv => blk_t hh32 (hb3.ext hv)
    refine CW_tree2 [1, 7, 8, 13, 14] (.p 0 (.q 1 (.p 2 (.p 3 (.p 4 (.p 5 (.p 6 (.q 7 (.q 8 (.p 9 (.p 10 (.p 11 (.p 12 (.q 13 (.q 14 (.a 15 (.p 16 (.p 17 .done)))))))))))))))))) (C) (by kernel_rfl) (by kernel_rfl) (by kernel_rfl) ?_ ?_
    · exact inE hC
    intro w6 hx6 h_C
    refine oy_Aud3 (k := ?_)
    refine OW_callV Try.func52 (by kernel_rfl) rfl (audHash_any w6 x hok) rfl ?_
    intro w7 hx7
    first | refine OW_nil (goY_mkE hC (hx6.trans' hx7) ?_) | refine OW_nil (goY_dropE hC (hx6.trans' hx7) ?_)
    refine oy_Aud3 (k := ?_)
    refine go_Aud3 (k := ?_)
    exact bodyE_ret1 rfl (.int .i64 ((k : Int) + 1)) rfl ⟨rfl, (hx04).trans' (hx6.trans' hx7)⟩
  rw [if_pos (hok1.2 ⟨q1, q2, q3⟩)]
  obtain ⟨C, hC⟩ : ∃ C : World → Prop, C = fun v => Ext w4 v := ⟨_, rfl⟩
  have yn : ∀ v, C v → v.cell? ⟨g5, 0, none⟩ = some (.int .i64 x.n) := by rw [hC]; exact fun v hv => blk_c (hb4.ext hv)
  have ya : ∀ v, C v → AtM v ⟨g5, 7, none⟩ (x.ahead.map bv) 32 := by rw [hC]; exact fun v hv => blk_a hok (hb4.ext hv)
  have ys : ∀ v, C v → AtM v ⟨g5, 39, none⟩ (x.self.map bv) 32 := by rw [hC]; exact fun v hv => blk_s hok (hb4.ext hv)
  have yx : ∀ v, C v → AtM v ⟨g5, 0, none⟩ (lcells x) 71 := by rw [hC]; exact fun v hv => blk_x hok (hb4.ext hv)
  have yp : ∀ v, C v → AtM v ⟨g3, 0, none⟩ (p.map bv) 32 := by rw [hC]; exact fun v hv => blk_t hh32 (hb3.ext hv)
  refine CW_tree2 [1, 7, 8, 13, 14] (.p 0 (.q 1 (.p 2 (.p 3 (.p 4 (.p 5 (.p 6 (.q 7 (.q 8 (.p 9 (.p 10 (.p 11 (.p 12 (.q 13 (.q 14 (.a 15 (.p 16 (.p 17 .done)))))))))))))))))) (C) (by kernel_rfl) (by kernel_rfl) (by kernel_rfl) ?_ ?_
  · exact inE hC
  intro w6 hx6 h_C
  refine oy_Aud3 (k := ?_)
  refine OW_callV Try.func52 (by kernel_rfl) rfl (audHash_any w6 x hok) rfl ?_
  intro w7 hx7
  first | refine OW_nil (goY_mkE hC (hx6.trans' hx7) ?_) | refine OW_nil (goY_dropE hC (hx6.trans' hx7) ?_)
  refine oy_Aud3 (k := ?_)
  have hx47 := hx6.trans' hx7
  have hb7 := hb4.ext hx47
  replace hb3 := hb3.ext hx47
  have hx07 := hx04.trans' hx47
  clear yn ya ys yx yp
  have hsm := blk_s hok hb7
  refine go_Aud3 (k := ?_)
  refine OW_loadX s_agg_Tag rfl (x.self.map bv) hsm.len hsm.at_ ?_
  refine go_Aud3 (k := ?_)
  refine OW_storeA s_agg_Tag rfl (x.self.map bv) rfl hsm.len hb3 (by rw [List.size_toArray, List.length_map, hh32]) (bv_one _) ?_
  intro w8 hb8 hg8
  have hx08 : Ext w w8 := (Keeps.of_only hg8 (S := (· = g3)) rfl).ext hx07 (fun j hj => by have hj : j = g3 := hj; omega)
  rw [hp2] at hb8
  refine go_Aud3 (k := ?_)
  refine ⟨⟨k + 1, by omega, hR.symm, rfl, rfl, rfl, rfl, hx08, hb8⟩, ?_⟩
  show l.length - ((k : Int) + 1).toNat < l.length - (k : Int).toNat
  omega
set_option maxHeartbeats 8000000 in
theorem refCheck_any (w : World) (A : Option Addr) (c : Nat) (l : List LK) (hl : LRd w A l) (hk : ∀ x ∈ l, LOk x) (hn : l.length ≤ 1000000) : Calls Try.prog 58 #[.slice A l.length c] w (RetV w (.int .i64 (chkL 0 tzS l))) := by
  have hhl : ∀ k, (headL (l.take k)).length = 32 := fun k => headL_len (fun x hx => hk x (List.mem_of_mem_take hx))
  refine calls_of_CW Try.func58 rfl (by simp [Try.ntmps58]) ?_
  rw [Try.ntmps58]
  refine go_Aud3 (k := ?_)
  refine CW_loop (fun e' w' => ∃ k : Nat, k ≤ l.length ∧ chkL 0 tzS l = chkL k (headL (l.take k)) (l.drop k) ∧ e' 0 = .slice A l.length c ∧ e' 3 = .int .i64 k ∧ Ext w w') (fun e' _ => l.length - (intOf (e' 3)).toNat) ⟨0, Nat.zero_le _, rfl, rfl, rfl, Ext.rfl' _⟩ ?_
  rintro e' w2 ⟨k, hk2, hch, e0, e3, hx2⟩
  rw [upd_self e0, upd_self e3]
  have hd := fun h => chkL_drop (l := l) (k := k) h
  rw [hch]
  have hh32 := hhl k
  refine go_Aud3 (k := ?_)
  refine CW_cond _ rfl (fun hh => ?_) (fun hh => ?_)
  rotate_left 1
  · have hge : k = l.length := by have := of_decide_eq_false hh; omega
    rw [hge, List.drop_of_length_le (Nat.le_refl _)]
    refine go_Aud3 (k := ?_)
    exact bodyE_ret1 rfl (.int .i64 0) rfl ⟨rfl, hx2⟩
  have hlt : k < l.length := by have := of_decide_eq_true hh; omega
  clear hh
  rw [hd hlt]
  have hh0 : k = 0 → headL (l.take k) = tzS := fun h => by rw [h]; rfl
  have hh1 : ∀ m (hm : m < l.length), k = m + 1 → headL (l.take k) = l[m].self := fun m hm h => by rw [h, List.take_succ_eq_append_getElem hm, headL_snoc]
  have hok := hk _ (List.getElem_mem hlt)
  obtain ⟨ad, hAa, hat⟩ := (hl.ext hx2).at_ hlt
  have hat0 : ∀ m (hm : m < l.length), k = m + 1 → At w2 (ad.add (m * 71)) (lcells l[m]) ∧ LOk l[m] := fun m hm h => by
    obtain ⟨ad2, h2, h3⟩ := (hl.ext hx2).at_ hm
    rw [hAa] at h2
    cases h2
    exact ⟨h3, hk _ (List.getElem_mem hm)⟩
  have hok1 : okL k (headL (l.take k)) l[k] ↔ (l[k].n = (k : Int) + 1 ∧ l[k].ahead = headL (l.take k) ∧ l[k].self = linkH l[k]) := Iff.rfl
  obtain ⟨p, hp⟩ : ∃ p, headL (l.take k) = p := ⟨_, rfl⟩
  have hp2 : l[k].self = headL (l.take (k + 1)) := by rw [List.take_succ_eq_append_getElem hlt, headL_snoc]
  obtain ⟨R, hR⟩ : ∃ R, chkL (k + 1) (headL (l.take (k + 1))) (l.drop (k + 1)) = R := ⟨_, rfl⟩
  rw [hp] at hok1 hh32 ⊢
  rw [hR]
  rw [hp] at hh0 hh1
  generalize l[k] = x at *
  have hHl : (linkH x).length = 32 := shaL_length _
  have hahl := hok.ahead
  have hsel := hok.self
  have hxl := lcells_length hok
  subst hAa
  refine go_Aud3 (k := ?_)
  refine OW_allocA s_agg_Tag ?_
  intro w3 g4 hb4 hg4 hlt4 hx3
  by_cases hk0 : k = 0
  · have hgt : decide ((0 : Int) < (k : Int)) = false := decide_eq_false (by omega)
    have hb5 : Blk w3 g4 29 (p.map bv).toArray := by rw [hh0 hk0]; exact hb4
    have hat5 := at_ext hat hx3
    have hx05 := hx2.trans' hx3
    refine go_Aud3 (k := ?_)
    rw [hgt]
    refine go_Aud3 (k := ?_)
    by_cases q1 : x.n = (k : Int) + 1
    rotate_left 1
    · rw [if_neg (fun h => q1 (hok1.1 h).1)]
      obtain ⟨C, hC⟩ : ∃ C : World → Prop, C = fun v => Ext w3 v := ⟨_, rfl⟩
      have yn : ∀ v, C v → v.cell? ((ad.add (k * 71)).add 0) = some (.int .i64 x.n) := by rw [hC]; exact fun v hv => c2of (at_ext hat5 hv)
      have ya : ∀ v, C v → AtM v ((ad.add (k * 71)).add 7) (x.ahead.map bv) 32 := by rw [hC]; exact fun v hv => aAt hok (at_ext hat5 hv)
      have ys : ∀ v, C v → AtM v ((ad.add (k * 71)).add 39) (x.self.map bv) 32 := by rw [hC]; exact fun v hv => sAt hok (at_ext hat5 hv)
      have yx : ∀ v, C v → AtM v (ad.add (k * 71)) (lcells x) 71 := by rw [hC]; exact fun v hv => xAt hok (at_ext hat5 hv)
      have yp : ∀ v, C v → AtM v ⟨g4, 0, none⟩ (p.map bv) 32 := by rw [hC]; exact fun v hv => blk_t hh32 (hb5.ext hv)
      refine CW_tree2 [4, 13, 14, 22, 26] (.p 0 (.p 1 (.p 2 (.p 3 (.q 4 (.p 5 (.p 6 (.p 7 (.p 8 (.p 9 (.p 10 (.p 11 (.p 12 (.q 13 (.q 14 (.p 15 (.p 16 (.p 17 (.p 18 (.p 19 (.p 20 (.p 21 (.q 22 (.p 23 (.p 24 (.p 25 (.q 26 (.a 27 (.p 28 (.p 29 .done)))))))))))))))))))))))))))))) (C) (by kernel_rfl) (by kernel_rfl) (by kernel_rfl) ?_ ?_
      · exact inE hC
      intro w6 hx6 h_C
      refine oy_Aud3 (k := ?_)
      refine go_Aud3 (k := ?_)
      exact bodyE_ret1 rfl (.int .i64 ((k : Int) + 1)) rfl ⟨rfl, (hx05).trans' hx6⟩
    by_cases q2 : x.ahead = p
    rotate_left 1
    · rw [if_neg (fun h => q2 (hok1.1 h).2.1)]
      obtain ⟨C, hC⟩ : ∃ C : World → Prop, C = fun v => Ext w3 v := ⟨_, rfl⟩
      have yn : ∀ v, C v → v.cell? ((ad.add (k * 71)).add 0) = some (.int .i64 x.n) := by rw [hC]; exact fun v hv => c2of (at_ext hat5 hv)
      have ya : ∀ v, C v → AtM v ((ad.add (k * 71)).add 7) (x.ahead.map bv) 32 := by rw [hC]; exact fun v hv => aAt hok (at_ext hat5 hv)
      have ys : ∀ v, C v → AtM v ((ad.add (k * 71)).add 39) (x.self.map bv) 32 := by rw [hC]; exact fun v hv => sAt hok (at_ext hat5 hv)
      have yx : ∀ v, C v → AtM v (ad.add (k * 71)) (lcells x) 71 := by rw [hC]; exact fun v hv => xAt hok (at_ext hat5 hv)
      have yp : ∀ v, C v → AtM v ⟨g4, 0, none⟩ (p.map bv) 32 := by rw [hC]; exact fun v hv => blk_t hh32 (hb5.ext hv)
      refine CW_tree2 [4, 13, 14, 22, 26] (.p 0 (.p 1 (.p 2 (.p 3 (.q 4 (.p 5 (.p 6 (.p 7 (.p 8 (.p 9 (.p 10 (.p 11 (.p 12 (.q 13 (.q 14 (.p 15 (.p 16 (.p 17 (.p 18 (.p 19 (.p 20 (.p 21 (.q 22 (.p 23 (.p 24 (.p 25 (.q 26 (.a 27 (.p 28 (.p 29 .done)))))))))))))))))))))))))))))) (C) (by kernel_rfl) (by kernel_rfl) (by kernel_rfl) ?_ ?_
      · exact inE hC
      intro w6 hx6 h_C
      refine oy_Aud3 (k := ?_)
      refine go_Aud3 (k := ?_)
      exact bodyE_ret1 rfl (.int .i64 ((k : Int) + 1)) rfl ⟨rfl, (hx05).trans' hx6⟩
    by_cases q3 : x.self = linkH x
    rotate_left 1
    · rw [if_neg (fun h => q3 (hok1.1 h).2.2)]
      obtain ⟨C, hC⟩ : ∃ C : World → Prop, C = fun v => Ext w3 v := ⟨_, rfl⟩
      have yn : ∀ v, C v → v.cell? ((ad.add (k * 71)).add 0) = some (.int .i64 x.n) := by rw [hC]; exact fun v hv => c2of (at_ext hat5 hv)
      have ya : ∀ v, C v → AtM v ((ad.add (k * 71)).add 7) (x.ahead.map bv) 32 := by rw [hC]; exact fun v hv => aAt hok (at_ext hat5 hv)
      have ys : ∀ v, C v → AtM v ((ad.add (k * 71)).add 39) (x.self.map bv) 32 := by rw [hC]; exact fun v hv => sAt hok (at_ext hat5 hv)
      have yx : ∀ v, C v → AtM v (ad.add (k * 71)) (lcells x) 71 := by rw [hC]; exact fun v hv => xAt hok (at_ext hat5 hv)
      have yp : ∀ v, C v → AtM v ⟨g4, 0, none⟩ (p.map bv) 32 := by rw [hC]; exact fun v hv => blk_t hh32 (hb5.ext hv)
      refine CW_tree2 [4, 13, 14, 22, 26] (.p 0 (.p 1 (.p 2 (.p 3 (.q 4 (.p 5 (.p 6 (.p 7 (.p 8 (.p 9 (.p 10 (.p 11 (.p 12 (.q 13 (.q 14 (.p 15 (.p 16 (.p 17 (.p 18 (.p 19 (.p 20 (.p 21 (.q 22 (.p 23 (.p 24 (.p 25 (.q 26 (.a 27 (.p 28 (.p 29 .done)))))))))))))))))))))))))))))) (C) (by kernel_rfl) (by kernel_rfl) (by kernel_rfl) ?_ ?_
      · exact inE hC
      intro w6 hx6 h_C
      refine oy_Aud3 (k := ?_)
      refine OW_callV Try.func53 (by kernel_rfl) rfl (refLHash_any w6 x hok) rfl ?_
      intro w7 hx7
      first | refine OW_nil (goY_mkE hC (hx6.trans' hx7) ?_) | refine OW_nil (goY_dropE hC (hx6.trans' hx7) ?_)
      refine oy_Aud3 (k := ?_)
      refine go_Aud3 (k := ?_)
      exact bodyE_ret1 rfl (.int .i64 ((k : Int) + 1)) rfl ⟨rfl, (hx05).trans' (hx6.trans' hx7)⟩
    rw [if_pos (hok1.2 ⟨q1, q2, q3⟩)]
    obtain ⟨C, hC⟩ : ∃ C : World → Prop, C = fun v => Ext w3 v := ⟨_, rfl⟩
    have yn : ∀ v, C v → v.cell? ((ad.add (k * 71)).add 0) = some (.int .i64 x.n) := by rw [hC]; exact fun v hv => c2of (at_ext hat5 hv)
    have ya : ∀ v, C v → AtM v ((ad.add (k * 71)).add 7) (x.ahead.map bv) 32 := by rw [hC]; exact fun v hv => aAt hok (at_ext hat5 hv)
    have ys : ∀ v, C v → AtM v ((ad.add (k * 71)).add 39) (x.self.map bv) 32 := by rw [hC]; exact fun v hv => sAt hok (at_ext hat5 hv)
    have yx : ∀ v, C v → AtM v (ad.add (k * 71)) (lcells x) 71 := by rw [hC]; exact fun v hv => xAt hok (at_ext hat5 hv)
    have yp : ∀ v, C v → AtM v ⟨g4, 0, none⟩ (p.map bv) 32 := by rw [hC]; exact fun v hv => blk_t hh32 (hb5.ext hv)
    refine CW_tree2 [4, 13, 14, 22, 26] (.p 0 (.p 1 (.p 2 (.p 3 (.q 4 (.p 5 (.p 6 (.p 7 (.p 8 (.p 9 (.p 10 (.p 11 (.p 12 (.q 13 (.q 14 (.p 15 (.p 16 (.p 17 (.p 18 (.p 19 (.p 20 (.p 21 (.q 22 (.p 23 (.p 24 (.p 25 (.q 26 (.a 27 (.p 28 (.p 29 .done)))))))))))))))))))))))))))))) (C) (by kernel_rfl) (by kernel_rfl) (by kernel_rfl) ?_ ?_
    · exact inE hC
    intro w6 hx6 h_C
    refine oy_Aud3 (k := ?_)
    refine OW_callV Try.func53 (by kernel_rfl) rfl (refLHash_any w6 x hok) rfl ?_
    intro w7 hx7
    first | refine OW_nil (goY_mkE hC (hx6.trans' hx7) ?_) | refine OW_nil (goY_dropE hC (hx6.trans' hx7) ?_)
    refine oy_Aud3 (k := ?_)
    clear yn ya ys yx yp
    refine go_Aud3 (k := ?_)
    refine ⟨⟨k + 1, by omega, hR.symm, rfl, rfl, (hx05).trans' (hx6.trans' hx7)⟩, ?_⟩
    show l.length - ((k : Int) + 1).toNat < l.length - (k : Int).toNat
    omega
  · have hgt : decide ((0 : Int) < (k : Int)) = true := decide_eq_true (by omega)
    obtain ⟨m, hm⟩ : ∃ m, k = m + 1 := ⟨k - 1, by omega⟩
    obtain ⟨ham, hokm⟩ := hat0 m (by omega) hm
    have hpm := hh1 m (by omega) hm
    generalize l[m]'(by omega) = y at *
    have hsy := sAt hokm (at_ext ham hx3)
    refine go_Aud3 (k := ?_)
    rw [hgt]
    refine go_Aud3 (k := ?_)
    refine OW_idxN und_Links el_Link rfl rfl m (by omega) (by omega) ?_
    refine OW_fieldO fldo_L8 rfl ?_
    refine OW_loadX s_agg_Tag rfl (y.self.map bv) hsy.len hsy.at_ ?_
    refine OW_storeA s_agg_Tag rfl (y.self.map bv) rfl hsy.len hb4 (by kernel_rfl) (bv_one _) ?_
    intro w5 hb5 hg5
    rw [← hpm] at hb5
    have hx25 : Ext w2 w5 := (Keeps.of_only hg5 (S := (· = g4)) rfl).ext hx3 (fun j hj => by have hj : j = g4 := hj; omega)
    have hat5 := at_ext hat hx25
    have hx05 := hx2.trans' hx25
    refine go_Aud3 (k := ?_)
    by_cases q1 : x.n = (k : Int) + 1
    rotate_left 1
    · rw [if_neg (fun h => q1 (hok1.1 h).1)]
      obtain ⟨C, hC⟩ : ∃ C : World → Prop, C = fun v => Ext w5 v := ⟨_, rfl⟩
      have yn : ∀ v, C v → v.cell? ((ad.add (k * 71)).add 0) = some (.int .i64 x.n) := by rw [hC]; exact fun v hv => c2of (at_ext hat5 hv)
      have ya : ∀ v, C v → AtM v ((ad.add (k * 71)).add 7) (x.ahead.map bv) 32 := by rw [hC]; exact fun v hv => aAt hok (at_ext hat5 hv)
      have ys : ∀ v, C v → AtM v ((ad.add (k * 71)).add 39) (x.self.map bv) 32 := by rw [hC]; exact fun v hv => sAt hok (at_ext hat5 hv)
      have yx : ∀ v, C v → AtM v (ad.add (k * 71)) (lcells x) 71 := by rw [hC]; exact fun v hv => xAt hok (at_ext hat5 hv)
      have yp : ∀ v, C v → AtM v ⟨g4, 0, none⟩ (p.map bv) 32 := by rw [hC]; exact fun v hv => blk_t hh32 (hb5.ext hv)
      refine CW_tree2 [4, 13, 14, 22, 26] (.p 0 (.p 1 (.p 2 (.p 3 (.q 4 (.p 5 (.p 6 (.p 7 (.p 8 (.p 9 (.p 10 (.p 11 (.p 12 (.q 13 (.q 14 (.p 15 (.p 16 (.p 17 (.p 18 (.p 19 (.p 20 (.p 21 (.q 22 (.p 23 (.p 24 (.p 25 (.q 26 (.a 27 (.p 28 (.p 29 .done)))))))))))))))))))))))))))))) (C) (by kernel_rfl) (by kernel_rfl) (by kernel_rfl) ?_ ?_
      · exact inE hC
      intro w6 hx6 h_C
      refine oy_Aud3 (k := ?_)
      refine go_Aud3 (k := ?_)
      exact bodyE_ret1 rfl (.int .i64 ((k : Int) + 1)) rfl ⟨rfl, (hx05).trans' hx6⟩
    by_cases q2 : x.ahead = p
    rotate_left 1
    · rw [if_neg (fun h => q2 (hok1.1 h).2.1)]
      obtain ⟨C, hC⟩ : ∃ C : World → Prop, C = fun v => Ext w5 v := ⟨_, rfl⟩
      have yn : ∀ v, C v → v.cell? ((ad.add (k * 71)).add 0) = some (.int .i64 x.n) := by rw [hC]; exact fun v hv => c2of (at_ext hat5 hv)
      have ya : ∀ v, C v → AtM v ((ad.add (k * 71)).add 7) (x.ahead.map bv) 32 := by rw [hC]; exact fun v hv => aAt hok (at_ext hat5 hv)
      have ys : ∀ v, C v → AtM v ((ad.add (k * 71)).add 39) (x.self.map bv) 32 := by rw [hC]; exact fun v hv => sAt hok (at_ext hat5 hv)
      have yx : ∀ v, C v → AtM v (ad.add (k * 71)) (lcells x) 71 := by rw [hC]; exact fun v hv => xAt hok (at_ext hat5 hv)
      have yp : ∀ v, C v → AtM v ⟨g4, 0, none⟩ (p.map bv) 32 := by rw [hC]; exact fun v hv => blk_t hh32 (hb5.ext hv)
      refine CW_tree2 [4, 13, 14, 22, 26] (.p 0 (.p 1 (.p 2 (.p 3 (.q 4 (.p 5 (.p 6 (.p 7 (.p 8 (.p 9 (.p 10 (.p 11 (.p 12 (.q 13 (.q 14 (.p 15 (.p 16 (.p 17 (.p 18 (.p 19 (.p 20 (.p 21 (.q 22 (.p 23 (.p 24 (.p 25 (.q 26 (.a 27 (.p 28 (.p 29 .done)))))))))))))))))))))))))))))) (C) (by kernel_rfl) (by kernel_rfl) (by kernel_rfl) ?_ ?_
      · exact inE hC
      intro w6 hx6 h_C
      refine oy_Aud3 (k := ?_)
      refine go_Aud3 (k := ?_)
      exact bodyE_ret1 rfl (.int .i64 ((k : Int) + 1)) rfl ⟨rfl, (hx05).trans' hx6⟩
    by_cases q3 : x.self = linkH x
    rotate_left 1
    · rw [if_neg (fun h => q3 (hok1.1 h).2.2)]
      obtain ⟨C, hC⟩ : ∃ C : World → Prop, C = fun v => Ext w5 v := ⟨_, rfl⟩
      have yn : ∀ v, C v → v.cell? ((ad.add (k * 71)).add 0) = some (.int .i64 x.n) := by rw [hC]; exact fun v hv => c2of (at_ext hat5 hv)
      have ya : ∀ v, C v → AtM v ((ad.add (k * 71)).add 7) (x.ahead.map bv) 32 := by rw [hC]; exact fun v hv => aAt hok (at_ext hat5 hv)
      have ys : ∀ v, C v → AtM v ((ad.add (k * 71)).add 39) (x.self.map bv) 32 := by rw [hC]; exact fun v hv => sAt hok (at_ext hat5 hv)
      have yx : ∀ v, C v → AtM v (ad.add (k * 71)) (lcells x) 71 := by rw [hC]; exact fun v hv => xAt hok (at_ext hat5 hv)
      have yp : ∀ v, C v → AtM v ⟨g4, 0, none⟩ (p.map bv) 32 := by rw [hC]; exact fun v hv => blk_t hh32 (hb5.ext hv)
      refine CW_tree2 [4, 13, 14, 22, 26] (.p 0 (.p 1 (.p 2 (.p 3 (.q 4 (.p 5 (.p 6 (.p 7 (.p 8 (.p 9 (.p 10 (.p 11 (.p 12 (.q 13 (.q 14 (.p 15 (.p 16 (.p 17 (.p 18 (.p 19 (.p 20 (.p 21 (.q 22 (.p 23 (.p 24 (.p 25 (.q 26 (.a 27 (.p 28 (.p 29 .done)))))))))))))))))))))))))))))) (C) (by kernel_rfl) (by kernel_rfl) (by kernel_rfl) ?_ ?_
      · exact inE hC
      intro w6 hx6 h_C
      refine oy_Aud3 (k := ?_)
      refine OW_callV Try.func53 (by kernel_rfl) rfl (refLHash_any w6 x hok) rfl ?_
      intro w7 hx7
      first | refine OW_nil (goY_mkE hC (hx6.trans' hx7) ?_) | refine OW_nil (goY_dropE hC (hx6.trans' hx7) ?_)
      refine oy_Aud3 (k := ?_)
      refine go_Aud3 (k := ?_)
      exact bodyE_ret1 rfl (.int .i64 ((k : Int) + 1)) rfl ⟨rfl, (hx05).trans' (hx6.trans' hx7)⟩
    rw [if_pos (hok1.2 ⟨q1, q2, q3⟩)]
    obtain ⟨C, hC⟩ : ∃ C : World → Prop, C = fun v => Ext w5 v := ⟨_, rfl⟩
    have yn : ∀ v, C v → v.cell? ((ad.add (k * 71)).add 0) = some (.int .i64 x.n) := by rw [hC]; exact fun v hv => c2of (at_ext hat5 hv)
    have ya : ∀ v, C v → AtM v ((ad.add (k * 71)).add 7) (x.ahead.map bv) 32 := by rw [hC]; exact fun v hv => aAt hok (at_ext hat5 hv)
    have ys : ∀ v, C v → AtM v ((ad.add (k * 71)).add 39) (x.self.map bv) 32 := by rw [hC]; exact fun v hv => sAt hok (at_ext hat5 hv)
    have yx : ∀ v, C v → AtM v (ad.add (k * 71)) (lcells x) 71 := by rw [hC]; exact fun v hv => xAt hok (at_ext hat5 hv)
    have yp : ∀ v, C v → AtM v ⟨g4, 0, none⟩ (p.map bv) 32 := by rw [hC]; exact fun v hv => blk_t hh32 (hb5.ext hv)
    refine CW_tree2 [4, 13, 14, 22, 26] (.p 0 (.p 1 (.p 2 (.p 3 (.q 4 (.p 5 (.p 6 (.p 7 (.p 8 (.p 9 (.p 10 (.p 11 (.p 12 (.q 13 (.q 14 (.p 15 (.p 16 (.p 17 (.p 18 (.p 19 (.p 20 (.p 21 (.q 22 (.p 23 (.p 24 (.p 25 (.q 26 (.a 27 (.p 28 (.p 29 .done)))))))))))))))))))))))))))))) (C) (by kernel_rfl) (by kernel_rfl) (by kernel_rfl) ?_ ?_
    · exact inE hC
    intro w6 hx6 h_C
    refine oy_Aud3 (k := ?_)
    refine OW_callV Try.func53 (by kernel_rfl) rfl (refLHash_any w6 x hok) rfl ?_
    intro w7 hx7
    first | refine OW_nil (goY_mkE hC (hx6.trans' hx7) ?_) | refine OW_nil (goY_dropE hC (hx6.trans' hx7) ?_)
    refine oy_Aud3 (k := ?_)
    clear yn ya ys yx yp
    refine go_Aud3 (k := ?_)
    refine ⟨⟨k + 1, by omega, hR.symm, rfl, rfl, (hx05).trans' (hx6.trans' hx7)⟩, ?_⟩
    show l.length - ((k : Int) + 1).toNat < l.length - (k : Int).toNat
    omega
end Go.Proofs.Ytdpcahfgdpikfaa

/- The hashes of two links, computed: they are unlike, and a changed one's too. No program in sight. -/
namespace Go.Proofs.Ytdpcahfgdpikfaa
open Go Go.RowKit
set_option linter.unusedVariables false
def audB0 : List UInt8 := numsB [1, 1, 6, 1, 2, 0, 0] ++ tzS
theorem aud_ne0 : ¬ shaL audB0 = shaL (numsB [2, 5, 8, 1, 3, 9, 1] ++ shaL audB0) := by
  rw [← shaK_eq, ← shaK_eq]
  decide +kernel
theorem aud_ne1 : ¬ shaL audB0 = shaL (numsB [1, 1, 6, 1, 3, 0, 0] ++ tzS) := by
  rw [← shaK_eq, ← shaK_eq]
  decide +kernel
end Go.Proofs.Ytdpcahfgdpikfaa
