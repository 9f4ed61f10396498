/- Several texts in one, as they stand in wip/src. -/
import Derived.Test.YtdpcahfgdpikfaaGt14
/- Walks: links cloned, added, found, checked. -/
namespace Go.Proofs.Ytdpcahfgdpikfaa
open Go Go.RowKit
set_option linter.unusedVariables false
set_option maxRecDepth 4000
theorem go_Aud2 {A B : Prop} (h : Held B → A := by
  intro hEnd
  repeat (first | refine OW_neqIF rfl rfl (by first | rfl | assumption) ?_ | (refine OW_isLoad ?_; refine OW_loadM (by first | with_reducible exact s_agg_Tag | with_reducible exact agg_Link) rfl (by apply_assumption; assumption) ?_) | refine OW_neqIT rfl rfl (by assumption) ?_ | refine OW_neqQF s_eqr_Tag rfl rfl (by assumption) (by assumption) ?_ | refine OW_neqQT s_eqr_Tag rfl rfl (by assumption) (by assumption) (by assumption) ?_ | refine OW_fieldB fldo_L0 rfl ?_ | refine OW_fieldB fldo_L1 rfl ?_ | refine OW_fieldB fldo_L2 rfl ?_ | refine OW_fieldB fldo_L3 rfl ?_ | refine OW_fieldB fldo_L4 rfl ?_ | refine OW_fieldB fldo_L5 rfl ?_ | refine OW_fieldB fldo_L6 rfl ?_ | refine OW_fieldB fldo_L7 rfl ?_ | refine OW_fieldB fldo_L8 rfl ?_ | refine OW_fieldO fldo_L0 rfl ?_ | refine OW_fieldO fldo_L7 rfl ?_ | refine OW_fieldO fldo_L8 rfl ?_ | refine OW_lenS und_Links rfl ?_ | refine OW_idxN und_Links el_Link rfl rfl _ rfl (by omega) ?_ | refine OW_moveV (.int _ _) rfl ?_ | refine OW_moveV (.slice _ _ _) rfl ?_ | refine OW_moveV (.bool _) rfl ?_ | refine OW_moveV (.pointer _) rfl ?_ | refine OW_moveV (.string _) rfl ?_ | refine OW_moveV (.agg _) rfl ?_ | refine OW_moveV (.tuple _) rfl ?_ | refine OW_nil ?_ | refine thenE_normal ?_ | refine CW_seq ?_ | refine CW_region (by kernel_rfl) ?_ | refine OW_assignV (.int _ _) rfl ?_ | refine OW_assignV (.slice _ _ _) rfl ?_ | refine OW_assignV (.bool _) rfl ?_ | refine OW_assignV (.pointer _) rfl ?_ | refine OW_assignV (.string _) rfl ?_ | refine OW_assignV (.agg _) rfl ?_ | refine OW_assignV (.tuple _) rfl ?_ | refine OW_addI rfl rfl (by omega) ?_ | refine OW_subI rfl rfl (by omega) ?_ | refine OW_mulI rfl rfl (by omega) ?_ | refine OW_lss rfl rfl ?_ | refine OW_extract rfl rfl ?_ | refine OW_gtr rfl rfl ?_ | refine OW_leq rfl rfl ?_ | refine OW_geq rfl rfl ?_ | refine OW_eql rfl rfl ?_ | refine OW_neq rfl rfl ?_ | refine OW_not rfl ?_ | refine OW_pickT rfl _ rfl ?_ | refine OW_pickF rfl (.bool _) rfl ?_ | refine OW_pickB rfl rfl rfl ?_ | refine OW_move ?_ | refine OW_assign ?_ | refine OW_pass rfl ?_ | refine OW_take rfl ?_ | refine OW_lenS (by first | with_reducible exact und_bytes | with_reducible exact und_bytess) rfl ?_ | refine OW_convInt (by first | with_reducible exact und_u8 | with_reducible exact und_u64 | with_reducible exact und_int | with_reducible exact und_u32) (by first | with_reducible exact und_u8 | with_reducible exact und_u64 | with_reducible exact und_int | with_reducible exact und_u32) rfl ?_ | refine OW_add rfl rfl ?_ | refine OW_sub rfl rfl ?_ | refine OW_mul rfl rfl ?_ | refine OW_min2 rfl rfl ?_ | refine OW_max2 rfl rfl ?_ | refine OW_neg rfl ?_ | refine CW_block ?_ | refine CW_condT rfl ?_ | refine CW_condF rfl ?_ | refine CW_exit ?_ | refine CW_ret ?_ | refine CW_skip ?_ | refine LW_seq ?_ | refine LW_regC ?_ | refine LW_condC ?_ | refine LW_regF ?_ | refine LW_condF ?_ | refine FW_seq ?_ | refine FW_region (by kernel_rfl) ?_ | refine FW_block ?_ | refine FW_condT rfl ?_ | refine FW_condF rfl ?_ | refine FW_exit ?_ | refine FW_ret ?_ | refine FW_skip ?_ | refine LW_ret ?_ | refine LW_skip ?_ | refine thenE_exit ?_ | refine thenE_ret ?_ | refine inBlockE_normal ?_ | refine inBlockE_same ?_ | refine inBlockE_ret ?_ | refine inBlockE_ne (by rfl) ?_ | refine OW_eqlB (by with_reducible exact und_bool) rfl rfl ?_ | refine OW_neqB (by with_reducible exact und_bool) rfl rfl ?_ | refine OW_idxS (by with_reducible exact und_bytes) one_u8 rfl rfl _ rfl (by omega) ?_ | refine OW_idxS (by with_reducible exact und_bytess) one_bytes rfl rfl _ rfl (by omega) ?_ | refine OW_load1 (by first | with_reducible exact one_u8 | with_reducible exact one_bytes) rfl _ (by assumption) ?_ | refine OW_load1 s_int rfl _ (by assumption) ?_)
  exact hEnd.out) (k : B) : A := h ⟨k⟩
theorem oy_Aud2 {A B : Prop} (h : Held B → A := by
  intro hEnd
  repeat (first
    | refine OY_done ?_
    | (apply OY_p _ rfl
       · intro wd
         (first | refine OW_neqIF rfl rfl (by first | rfl | assumption) ?_ | (refine OW_isLoad ?_; refine OW_loadM (by first | with_reducible exact s_agg_Tag | with_reducible exact agg_Link) rfl (by apply_assumption; assumption) ?_) | refine OW_neqIT rfl rfl (by assumption) ?_ | refine OW_neqQF s_eqr_Tag rfl rfl (by assumption) (by assumption) ?_ | refine OW_neqQT s_eqr_Tag rfl rfl (by assumption) (by assumption) (by assumption) ?_ | refine OW_fieldB fldo_L0 rfl ?_ | refine OW_fieldB fldo_L1 rfl ?_ | refine OW_fieldB fldo_L2 rfl ?_ | refine OW_fieldB fldo_L3 rfl ?_ | refine OW_fieldB fldo_L4 rfl ?_ | refine OW_fieldB fldo_L5 rfl ?_ | refine OW_fieldB fldo_L6 rfl ?_ | refine OW_fieldB fldo_L7 rfl ?_ | refine OW_fieldB fldo_L8 rfl ?_ | refine OW_fieldO fldo_L0 rfl ?_ | refine OW_fieldO fldo_L7 rfl ?_ | refine OW_fieldO fldo_L8 rfl ?_ | refine OW_lenS und_Links rfl ?_ | refine OW_idxN und_Links el_Link rfl rfl _ rfl (by omega) ?_ | refine OW_moveV (.int _ _) rfl ?_ | refine OW_moveV (.slice _ _ _) rfl ?_ | refine OW_moveV (.bool _) rfl ?_ | refine OW_moveV (.pointer _) rfl ?_ | refine OW_moveV (.string _) rfl ?_ | refine OW_moveV (.agg _) rfl ?_ | refine OW_moveV (.tuple _) rfl ?_ | refine OW_nil ?_ | refine thenE_normal ?_ | refine CW_seq ?_ | refine CW_region (by kernel_rfl) ?_ | refine OW_assignV (.int _ _) rfl ?_ | refine OW_assignV (.slice _ _ _) rfl ?_ | refine OW_assignV (.bool _) rfl ?_ | refine OW_assignV (.pointer _) rfl ?_ | refine OW_assignV (.string _) rfl ?_ | refine OW_assignV (.agg _) rfl ?_ | refine OW_assignV (.tuple _) rfl ?_ | refine OW_addI rfl rfl (by omega) ?_ | refine OW_subI rfl rfl (by omega) ?_ | refine OW_mulI rfl rfl (by omega) ?_ | refine OW_lss rfl rfl ?_ | refine OW_extract rfl rfl ?_ | refine OW_gtr rfl rfl ?_ | refine OW_leq rfl rfl ?_ | refine OW_geq rfl rfl ?_ | refine OW_eql rfl rfl ?_ | refine OW_neq rfl rfl ?_ | refine OW_not rfl ?_ | refine OW_pickT rfl _ rfl ?_ | refine OW_pickF rfl (.bool _) rfl ?_ | refine OW_pickB rfl rfl rfl ?_ | refine OW_move ?_ | refine OW_assign ?_ | refine OW_pass rfl ?_ | refine OW_take rfl ?_ | refine OW_lenS (by first | with_reducible exact und_bytes | with_reducible exact und_bytess) rfl ?_ | refine OW_convInt (by first | with_reducible exact und_u8 | with_reducible exact und_u64 | with_reducible exact und_int | with_reducible exact und_u32) (by first | with_reducible exact und_u8 | with_reducible exact und_u64 | with_reducible exact und_int | with_reducible exact und_u32) rfl ?_ | refine OW_add rfl rfl ?_ | refine OW_sub rfl rfl ?_ | refine OW_mul rfl rfl ?_ | refine OW_min2 rfl rfl ?_ | refine OW_max2 rfl rfl ?_ | refine OW_neg rfl ?_ | refine CW_block ?_ | refine CW_condT rfl ?_ | refine CW_condF rfl ?_ | refine CW_exit ?_ | refine CW_ret ?_ | refine CW_skip ?_ | refine LW_seq ?_ | refine LW_regC ?_ | refine LW_condC ?_ | refine LW_regF ?_ | refine LW_condF ?_ | refine FW_seq ?_ | refine FW_region (by kernel_rfl) ?_ | refine FW_block ?_ | refine FW_condT rfl ?_ | refine FW_condF rfl ?_ | refine FW_exit ?_ | refine FW_ret ?_ | refine FW_skip ?_ | refine LW_ret ?_ | refine LW_skip ?_ | refine thenE_exit ?_ | refine thenE_ret ?_ | refine inBlockE_normal ?_ | refine inBlockE_same ?_ | refine inBlockE_ret ?_ | refine inBlockE_ne (by rfl) ?_ | refine OW_eqlB (by with_reducible exact und_bool) rfl rfl ?_ | refine OW_neqB (by with_reducible exact und_bool) rfl rfl ?_ | refine OW_idxS (by with_reducible exact und_bytes) one_u8 rfl rfl _ rfl (by omega) ?_ | refine OW_idxS (by with_reducible exact und_bytess) one_bytes rfl rfl _ rfl (by omega) ?_ | refine OW_load1 (by first | with_reducible exact one_u8 | with_reducible exact one_bytes) rfl _ (by assumption) ?_ | refine OW_load1 s_int rfl _ (by assumption) ?_)
         refine OW_nil ?_
         exact stay_mk _ _ _ _)
    | (apply OY_q _ rfl
       · intro wd hwd
         (first | refine OW_neqIF rfl rfl (by first | rfl | assumption) ?_ | (refine OW_isLoad ?_; refine OW_loadM (by first | with_reducible exact s_agg_Tag | with_reducible exact agg_Link) rfl (by apply_assumption; assumption) ?_) | refine OW_neqIT rfl rfl (by assumption) ?_ | refine OW_neqQF s_eqr_Tag rfl rfl (by assumption) (by assumption) ?_ | refine OW_neqQT s_eqr_Tag rfl rfl (by assumption) (by assumption) (by assumption) ?_ | refine OW_fieldB fldo_L0 rfl ?_ | refine OW_fieldB fldo_L1 rfl ?_ | refine OW_fieldB fldo_L2 rfl ?_ | refine OW_fieldB fldo_L3 rfl ?_ | refine OW_fieldB fldo_L4 rfl ?_ | refine OW_fieldB fldo_L5 rfl ?_ | refine OW_fieldB fldo_L6 rfl ?_ | refine OW_fieldB fldo_L7 rfl ?_ | refine OW_fieldB fldo_L8 rfl ?_ | refine OW_fieldO fldo_L0 rfl ?_ | refine OW_fieldO fldo_L7 rfl ?_ | refine OW_fieldO fldo_L8 rfl ?_ | refine OW_lenS und_Links rfl ?_ | refine OW_idxN und_Links el_Link rfl rfl _ rfl (by omega) ?_ | refine OW_moveV (.int _ _) rfl ?_ | refine OW_moveV (.slice _ _ _) rfl ?_ | refine OW_moveV (.bool _) rfl ?_ | refine OW_moveV (.pointer _) rfl ?_ | refine OW_moveV (.string _) rfl ?_ | refine OW_moveV (.agg _) rfl ?_ | refine OW_moveV (.tuple _) rfl ?_ | refine OW_nil ?_ | refine thenE_normal ?_ | refine CW_seq ?_ | refine CW_region (by kernel_rfl) ?_ | refine OW_assignV (.int _ _) rfl ?_ | refine OW_assignV (.slice _ _ _) rfl ?_ | refine OW_assignV (.bool _) rfl ?_ | refine OW_assignV (.pointer _) rfl ?_ | refine OW_assignV (.string _) rfl ?_ | refine OW_assignV (.agg _) rfl ?_ | refine OW_assignV (.tuple _) rfl ?_ | refine OW_addI rfl rfl (by omega) ?_ | refine OW_subI rfl rfl (by omega) ?_ | refine OW_mulI rfl rfl (by omega) ?_ | refine OW_lss rfl rfl ?_ | refine OW_extract rfl rfl ?_ | refine OW_gtr rfl rfl ?_ | refine OW_leq rfl rfl ?_ | refine OW_geq rfl rfl ?_ | refine OW_eql rfl rfl ?_ | refine OW_neq rfl rfl ?_ | refine OW_not rfl ?_ | refine OW_pickT rfl _ rfl ?_ | refine OW_pickF rfl (.bool _) rfl ?_ | refine OW_pickB rfl rfl rfl ?_ | refine OW_move ?_ | refine OW_assign ?_ | refine OW_pass rfl ?_ | refine OW_take rfl ?_ | refine OW_lenS (by first | with_reducible exact und_bytes | with_reducible exact und_bytess) rfl ?_ | refine OW_convInt (by first | with_reducible exact und_u8 | with_reducible exact und_u64 | with_reducible exact und_int | with_reducible exact und_u32) (by first | with_reducible exact und_u8 | with_reducible exact und_u64 | with_reducible exact und_int | with_reducible exact und_u32) rfl ?_ | refine OW_add rfl rfl ?_ | refine OW_sub rfl rfl ?_ | refine OW_mul rfl rfl ?_ | refine OW_min2 rfl rfl ?_ | refine OW_max2 rfl rfl ?_ | refine OW_neg rfl ?_ | refine CW_block ?_ | refine CW_condT rfl ?_ | refine CW_condF rfl ?_ | refine CW_exit ?_ | refine CW_ret ?_ | refine CW_skip ?_ | refine LW_seq ?_ | refine LW_regC ?_ | refine LW_condC ?_ | refine LW_regF ?_ | refine LW_condF ?_ | refine FW_seq ?_ | refine FW_region (by kernel_rfl) ?_ | refine FW_block ?_ | refine FW_condT rfl ?_ | refine FW_condF rfl ?_ | refine FW_exit ?_ | refine FW_ret ?_ | refine FW_skip ?_ | refine LW_ret ?_ | refine LW_skip ?_ | refine thenE_exit ?_ | refine thenE_ret ?_ | refine inBlockE_normal ?_ | refine inBlockE_same ?_ | refine inBlockE_ret ?_ | refine inBlockE_ne (by rfl) ?_ | refine OW_eqlB (by with_reducible exact und_bool) rfl rfl ?_ | refine OW_neqB (by with_reducible exact und_bool) rfl rfl ?_ | refine OW_idxS (by with_reducible exact und_bytes) one_u8 rfl rfl _ rfl (by omega) ?_ | refine OW_idxS (by with_reducible exact und_bytess) one_bytes rfl rfl _ rfl (by omega) ?_ | refine OW_load1 (by first | with_reducible exact one_u8 | with_reducible exact one_bytes) rfl _ (by assumption) ?_ | refine OW_load1 s_int rfl _ (by assumption) ?_ | (refine OW_isLoad ?_; refine OW_loadBk (by first | with_reducible exact one_u8 | with_reducible exact one_bytes | with_reducible exact one_bool | with_reducible exact one_int | with_reducible exact one_errno | with_reducible exact one_u32 | with_reducible exact one_u64 | with_reducible exact one_string | with_reducible exact s_int) rfl (by apply_assumption; assumption) _ (by first | assumption | rfl) ?_) | refine OW_load1 (by first | with_reducible exact one_u8 | with_reducible exact one_bytes | with_reducible exact one_bool | with_reducible exact one_int | with_reducible exact one_errno | with_reducible exact one_u32 | with_reducible exact one_u64 | with_reducible exact one_string | with_reducible exact s_int) rfl _ (by apply_assumption; assumption) ?_)
         refine OW_nil ?_
         exact stay_mk _ _ _ _)
    | refine OY_ppass rfl rfl ?_
    | refine OY_qpass rfl rfl ?_
    | (apply OY_ptake _ rfl rfl
       · intro wd
         (first | refine OW_neqIF rfl rfl (by first | rfl | assumption) ?_ | (refine OW_isLoad ?_; refine OW_loadM (by first | with_reducible exact s_agg_Tag | with_reducible exact agg_Link) rfl (by apply_assumption; assumption) ?_) | refine OW_neqIT rfl rfl (by assumption) ?_ | refine OW_neqQF s_eqr_Tag rfl rfl (by assumption) (by assumption) ?_ | refine OW_neqQT s_eqr_Tag rfl rfl (by assumption) (by assumption) (by assumption) ?_ | refine OW_fieldB fldo_L0 rfl ?_ | refine OW_fieldB fldo_L1 rfl ?_ | refine OW_fieldB fldo_L2 rfl ?_ | refine OW_fieldB fldo_L3 rfl ?_ | refine OW_fieldB fldo_L4 rfl ?_ | refine OW_fieldB fldo_L5 rfl ?_ | refine OW_fieldB fldo_L6 rfl ?_ | refine OW_fieldB fldo_L7 rfl ?_ | refine OW_fieldB fldo_L8 rfl ?_ | refine OW_fieldO fldo_L0 rfl ?_ | refine OW_fieldO fldo_L7 rfl ?_ | refine OW_fieldO fldo_L8 rfl ?_ | refine OW_lenS und_Links rfl ?_ | refine OW_idxN und_Links el_Link rfl rfl _ rfl (by omega) ?_ | refine OW_moveV (.int _ _) rfl ?_ | refine OW_moveV (.slice _ _ _) rfl ?_ | refine OW_moveV (.bool _) rfl ?_ | refine OW_moveV (.pointer _) rfl ?_ | refine OW_moveV (.string _) rfl ?_ | refine OW_moveV (.agg _) rfl ?_ | refine OW_moveV (.tuple _) rfl ?_ | refine OW_nil ?_ | refine thenE_normal ?_ | refine CW_seq ?_ | refine CW_region (by kernel_rfl) ?_ | refine OW_assignV (.int _ _) rfl ?_ | refine OW_assignV (.slice _ _ _) rfl ?_ | refine OW_assignV (.bool _) rfl ?_ | refine OW_assignV (.pointer _) rfl ?_ | refine OW_assignV (.string _) rfl ?_ | refine OW_assignV (.agg _) rfl ?_ | refine OW_assignV (.tuple _) rfl ?_ | refine OW_addI rfl rfl (by omega) ?_ | refine OW_subI rfl rfl (by omega) ?_ | refine OW_mulI rfl rfl (by omega) ?_ | refine OW_lss rfl rfl ?_ | refine OW_extract rfl rfl ?_ | refine OW_gtr rfl rfl ?_ | refine OW_leq rfl rfl ?_ | refine OW_geq rfl rfl ?_ | refine OW_eql rfl rfl ?_ | refine OW_neq rfl rfl ?_ | refine OW_not rfl ?_ | refine OW_pickT rfl _ rfl ?_ | refine OW_pickF rfl (.bool _) rfl ?_ | refine OW_pickB rfl rfl rfl ?_ | refine OW_move ?_ | refine OW_assign ?_ | refine OW_pass rfl ?_ | refine OW_take rfl ?_ | refine OW_lenS (by first | with_reducible exact und_bytes | with_reducible exact und_bytess) rfl ?_ | refine OW_convInt (by first | with_reducible exact und_u8 | with_reducible exact und_u64 | with_reducible exact und_int | with_reducible exact und_u32) (by first | with_reducible exact und_u8 | with_reducible exact und_u64 | with_reducible exact und_int | with_reducible exact und_u32) rfl ?_ | refine OW_add rfl rfl ?_ | refine OW_sub rfl rfl ?_ | refine OW_mul rfl rfl ?_ | refine OW_min2 rfl rfl ?_ | refine OW_max2 rfl rfl ?_ | refine OW_neg rfl ?_ | refine CW_block ?_ | refine CW_condT rfl ?_ | refine CW_condF rfl ?_ | refine CW_exit ?_ | refine CW_ret ?_ | refine CW_skip ?_ | refine LW_seq ?_ | refine LW_regC ?_ | refine LW_condC ?_ | refine LW_regF ?_ | refine LW_condF ?_ | refine FW_seq ?_ | refine FW_region (by kernel_rfl) ?_ | refine FW_block ?_ | refine FW_condT rfl ?_ | refine FW_condF rfl ?_ | refine FW_exit ?_ | refine FW_ret ?_ | refine FW_skip ?_ | refine LW_ret ?_ | refine LW_skip ?_ | refine thenE_exit ?_ | refine thenE_ret ?_ | refine inBlockE_normal ?_ | refine inBlockE_same ?_ | refine inBlockE_ret ?_ | refine inBlockE_ne (by rfl) ?_ | refine OW_eqlB (by with_reducible exact und_bool) rfl rfl ?_ | refine OW_neqB (by with_reducible exact und_bool) rfl rfl ?_ | refine OW_idxS (by with_reducible exact und_bytes) one_u8 rfl rfl _ rfl (by omega) ?_ | refine OW_idxS (by with_reducible exact und_bytess) one_bytes rfl rfl _ rfl (by omega) ?_ | refine OW_load1 (by first | with_reducible exact one_u8 | with_reducible exact one_bytes) rfl _ (by assumption) ?_ | refine OW_load1 s_int rfl _ (by assumption) ?_)
         refine OW_nil ?_
         exact stay_mk _ _ _ _)
    | (apply OY_qtake _ rfl rfl
       · intro wd hwd
         (first | refine OW_neqIF rfl rfl (by first | rfl | assumption) ?_ | (refine OW_isLoad ?_; refine OW_loadM (by first | with_reducible exact s_agg_Tag | with_reducible exact agg_Link) rfl (by apply_assumption; assumption) ?_) | refine OW_neqIT rfl rfl (by assumption) ?_ | refine OW_neqQF s_eqr_Tag rfl rfl (by assumption) (by assumption) ?_ | refine OW_neqQT s_eqr_Tag rfl rfl (by assumption) (by assumption) (by assumption) ?_ | refine OW_fieldB fldo_L0 rfl ?_ | refine OW_fieldB fldo_L1 rfl ?_ | refine OW_fieldB fldo_L2 rfl ?_ | refine OW_fieldB fldo_L3 rfl ?_ | refine OW_fieldB fldo_L4 rfl ?_ | refine OW_fieldB fldo_L5 rfl ?_ | refine OW_fieldB fldo_L6 rfl ?_ | refine OW_fieldB fldo_L7 rfl ?_ | refine OW_fieldB fldo_L8 rfl ?_ | refine OW_fieldO fldo_L0 rfl ?_ | refine OW_fieldO fldo_L7 rfl ?_ | refine OW_fieldO fldo_L8 rfl ?_ | refine OW_lenS und_Links rfl ?_ | refine OW_idxN und_Links el_Link rfl rfl _ rfl (by omega) ?_ | refine OW_moveV (.int _ _) rfl ?_ | refine OW_moveV (.slice _ _ _) rfl ?_ | refine OW_moveV (.bool _) rfl ?_ | refine OW_moveV (.pointer _) rfl ?_ | refine OW_moveV (.string _) rfl ?_ | refine OW_moveV (.agg _) rfl ?_ | refine OW_moveV (.tuple _) rfl ?_ | refine OW_nil ?_ | refine thenE_normal ?_ | refine CW_seq ?_ | refine CW_region (by kernel_rfl) ?_ | refine OW_assignV (.int _ _) rfl ?_ | refine OW_assignV (.slice _ _ _) rfl ?_ | refine OW_assignV (.bool _) rfl ?_ | refine OW_assignV (.pointer _) rfl ?_ | refine OW_assignV (.string _) rfl ?_ | refine OW_assignV (.agg _) rfl ?_ | refine OW_assignV (.tuple _) rfl ?_ | refine OW_addI rfl rfl (by omega) ?_ | refine OW_subI rfl rfl (by omega) ?_ | refine OW_mulI rfl rfl (by omega) ?_ | refine OW_lss rfl rfl ?_ | refine OW_extract rfl rfl ?_ | refine OW_gtr rfl rfl ?_ | refine OW_leq rfl rfl ?_ | refine OW_geq rfl rfl ?_ | refine OW_eql rfl rfl ?_ | refine OW_neq rfl rfl ?_ | refine OW_not rfl ?_ | refine OW_pickT rfl _ rfl ?_ | refine OW_pickF rfl (.bool _) rfl ?_ | refine OW_pickB rfl rfl rfl ?_ | refine OW_move ?_ | refine OW_assign ?_ | refine OW_pass rfl ?_ | refine OW_take rfl ?_ | refine OW_lenS (by first | with_reducible exact und_bytes | with_reducible exact und_bytess) rfl ?_ | refine OW_convInt (by first | with_reducible exact und_u8 | with_reducible exact und_u64 | with_reducible exact und_int | with_reducible exact und_u32) (by first | with_reducible exact und_u8 | with_reducible exact und_u64 | with_reducible exact und_int | with_reducible exact und_u32) rfl ?_ | refine OW_add rfl rfl ?_ | refine OW_sub rfl rfl ?_ | refine OW_mul rfl rfl ?_ | refine OW_min2 rfl rfl ?_ | refine OW_max2 rfl rfl ?_ | refine OW_neg rfl ?_ | refine CW_block ?_ | refine CW_condT rfl ?_ | refine CW_condF rfl ?_ | refine CW_exit ?_ | refine CW_ret ?_ | refine CW_skip ?_ | refine LW_seq ?_ | refine LW_regC ?_ | refine LW_condC ?_ | refine LW_regF ?_ | refine LW_condF ?_ | refine FW_seq ?_ | refine FW_region (by kernel_rfl) ?_ | refine FW_block ?_ | refine FW_condT rfl ?_ | refine FW_condF rfl ?_ | refine FW_exit ?_ | refine FW_ret ?_ | refine FW_skip ?_ | refine LW_ret ?_ | refine LW_skip ?_ | refine thenE_exit ?_ | refine thenE_ret ?_ | refine inBlockE_normal ?_ | refine inBlockE_same ?_ | refine inBlockE_ret ?_ | refine inBlockE_ne (by rfl) ?_ | refine OW_eqlB (by with_reducible exact und_bool) rfl rfl ?_ | refine OW_neqB (by with_reducible exact und_bool) rfl rfl ?_ | refine OW_idxS (by with_reducible exact und_bytes) one_u8 rfl rfl _ rfl (by omega) ?_ | refine OW_idxS (by with_reducible exact und_bytess) one_bytes rfl rfl _ rfl (by omega) ?_ | refine OW_load1 (by first | with_reducible exact one_u8 | with_reducible exact one_bytes) rfl _ (by assumption) ?_ | refine OW_load1 s_int rfl _ (by assumption) ?_ | (refine OW_isLoad ?_; refine OW_loadBk (by first | with_reducible exact one_u8 | with_reducible exact one_bytes | with_reducible exact one_bool | with_reducible exact one_int | with_reducible exact one_errno | with_reducible exact one_u32 | with_reducible exact one_u64 | with_reducible exact one_string | with_reducible exact s_int) rfl (by apply_assumption; assumption) _ (by first | assumption | rfl) ?_) | refine OW_load1 (by first | with_reducible exact one_u8 | with_reducible exact one_bytes | with_reducible exact one_bool | with_reducible exact one_int | with_reducible exact one_errno | with_reducible exact one_u32 | with_reducible exact one_u64 | with_reducible exact one_string | with_reducible exact s_int) rfl _ (by apply_assumption; assumption) ?_)
         refine OW_nil ?_
         exact stay_mk _ _ _ _)
    | refine OY_a (actY_of rfl ?_)
    | refine OY_d (actY_of rfl ?_)
    | refine OY_a (actY_pass rfl rfl ?_)
    | refine OY_d (actY_pass rfl rfl ?_)
    | refine OY_a (actY_take rfl rfl ?_)
    | refine OY_d (actY_take rfl rfl ?_))
  exact hEnd.out) (k : B) : A := h ⟨k⟩
theorem info_Link : (Try.prog.info? 76).map (fun i => (i.zero, i.size, i.bytes)) = some (some (.agg (lcells ⟨0, 0, 0, 0, 0, 0, 0, tzS, tzS⟩).toArray), 71, 120) := by kernel_rfl
theorem links_one (l : List LK) : ∀ u ∈ (l.map lcells).flatten, u.oneCell' = true := by
  intro u hu
  obtain ⟨cs, hcs, hu⟩ := List.mem_flatten.1 hu
  obtain ⟨x, _, rfl⟩ := List.mem_map.1 hcs
  exact lcells_one x u hu
theorem s_eqr_TagA : EqR Try.prog 29 32 := lk_eqr_Tag
set_option maxHeartbeats 8000000 in
theorem lkClone_any (w : World) (A : Option Addr) (c : Nat) (xs : List (List Value)) (hr : RdN w A 71 xs) (h1 : ∀ u ∈ xs.flatten, u.oneCell' = true) (hn : xs.length ≤ 1000000) : Calls Try.prog 93 #[.slice A xs.length c] w
    (fun en w' => ∃ A2 c2, en = .returned (.slice A2 xs.length c2) ∧ w'.ownsRow w.heap.size 76 71 (.slice A2 xs.length c2) xs.length xs.flatten ∧ Ext w w') := by
  have hfl := flat_len hr.len
  refine calls_of_CW Try.func93 rfl (by simp [Try.ntmps93]) ?_
  rw [Try.ntmps93]
  refine go_Aud2 (k := ?_)
  refine OW_eqlSz und_Links rfl ?_
  refine go_Aud2 (k := ?_)
  cases A with
  | none =>
    have hz : xs = [] := by
      cases xs with
      | nil => rfl
      | cons a r =>
        obtain ⟨ad, ha, _⟩ := hr.at_ (by decide) (i := 0) (by simp)
        cases ha
    subst hz
    refine go_Aud2 (k := ?_)
    exact bodyE_ret1 rfl (.slice none 0 0) rfl ⟨none, 0, rfl, World.ownsRow_nil _ _ _ _, Ext.rfl' w⟩
  | some ad =>
    refine go_Aud2 (k := ?_)
    refine OW_litM [] und_Links agg_Link rfl rfl (by simp) (by decide) ?_
    intro w1 g1 hb1 hg1 hlt1 hx1
    have ho1 : w1.ownsRow w.heap.size 76 71 (.slice (some ⟨g1, 0, none⟩) 0 0) 0 [] := ownN_of_blk hg1 hb1 rfl (Nat.le_refl _) (by decide) (by simp)
    refine go_Aud2 (k := ?_)
    refine OW_appendN (k := 71) und_Links info_Link rfl (by decide) rfl rfl ho1 (hr.rd.ext hx1) hfl h1 (by unfold maxLen; omega) (by omega) hx1.size ?_
    intro w2 A2 c2 ho2 hgr2 _
    rw [Nat.zero_add, List.nil_append] at ho2
    rw [Nat.zero_add]
    have hx2 : Ext w w2 := (Keeps.of_grown (S := (· = g1)) hgr2 (fun b hb => by cases hb; rfl)).ext hx1 (fun j hj => by have hj : j = g1 := hj; omega)
    refine go_Aud2 (k := ?_)
    exact bodyE_ret1 rfl _ rfl ⟨A2, c2, rfl, ho2, hx2⟩

set_option maxHeartbeats 8000000 in
theorem lkClip_any (w : World) (A : Option Addr) (c : Nat) (xs : List (List Value)) (hr : RdN w A 71 xs) (hc : xs.length ≤ c) : Calls Try.prog 92 #[.slice A xs.length c] w
    (fun en w' => ∃ A2, en = .returned (.slice A2 xs.length xs.length) ∧ RdN w' A2 71 xs ∧ (A2 = none → A = none) ∧ w' = w) := by
  refine calls_of_CW Try.func92 rfl (by simp [Try.ntmps92]) ?_
  rw [Try.ntmps92]
  refine go_Aud2 (k := ?_)
  refine OW_sliceN und_Links el_Link hr rfl rfl ⟨_, rfl⟩ ⟨_, rfl⟩ (fun _ => rfl) 0 xs.length xs.length rfl rfl rfl (by omega) ?_
  intro A2 hr2 hn2
  rw [Nat.sub_zero, List.drop_zero, List.take_length] at hr2
  rw [Nat.sub_zero]
  refine go_Aud2 (k := ?_)
  exact bodyE_ret1 rfl _ rfl ⟨A2, rfl, hr2, hn2, rfl⟩
/-- A row of links of the call's own. -/
def LOwn (w : World) (base : Nat) (A : Option Addr) (c : Nat) (l : List LK) : Prop := w.ownsRow base 76 71 (.slice A l.length c) l.length (l.map lcells).flatten
theorem LOwn.rd {w : World} {base : Nat} {A : Option Addr} {c : Nat} {l : List LK} (h : LOwn w base A c l) (hk : ∀ x ∈ l, LOk x) : LRd w A l := ⟨ownN_rd h, fun x hx => by
  obtain ⟨y, hy, rfl⟩ := List.mem_map.1 hx
  exact lcells_length (hk y hy)⟩
theorem LOwn.ext {w w' : World} {base : Nat} {A : Option Addr} {c : Nat} {l : List LK} (h : LOwn w base A c l) (hx : Ext w w') : LOwn w' base A c l := ownN_ext h hx
theorem LOwn.mono {w : World} {base base' : Nat} {A : Option Addr} {c : Nat} {l : List LK} (h : LOwn w base A c l) (hb : base' ≤ base) : LOwn w base' A c l := ownN_mono h hb
theorem LOwn.cap {w : World} {base : Nat} {A : Option Addr} {c : Nat} {l : List LK} (h : LOwn w base A c l) : l.length ≤ c := (ownN_cap h).1
theorem LOwn.nil (w : World) (base : Nat) : LOwn w base none 0 [] := World.ownsRow_nil _ _ _ _
theorem bld_lk7 (n st te a b c : Int) (op : UInt8) (h0 h1 h2 h3 h4 h5 h6 h7 h8 h9 h10 h11 h12 h13 h14 h15 h16 h17 h18 h19 h20 h21 h22 h23 h24 h25 h26 h27 h28 h29 h30 h31 : UInt8) : ∀ w, (Instr.build 76 [(0, .int .i64 n), (1, .int .i64 st), (2, bv op), (3, .int .i64 te), (4, .int .i64 a), (5, .int .i64 b), (6, .int .i64 c), (7, .agg ([h0, h1, h2, h3, h4, h5, h6, h7, h8, h9, h10, h11, h12, h13, h14, h15, h16, h17, h18, h19, h20, h21, h22, h23, h24, h25, h26, h27, h28, h29, h30, h31].map bv).toArray)].toArray).run Try.prog w = .ok (.agg (lcells ⟨n, st, op, te, a, b, c, [h0, h1, h2, h3, h4, h5, h6, h7, h8, h9, h10, h11, h12, h13, h14, h15, h16, h17, h18, h19, h20, h21, h22, h23, h24, h25, h26, h27, h28, h29, h30, h31], tzS⟩).toArray) w := fun w => by kernel_rfl
theorem bld_lk (n st te a b c : Int) (op : UInt8) (t : List UInt8) (ht : t.length = 32) : ∀ w, (Instr.build 76 [(0, .int .i64 n), (1, .int .i64 st), (2, bv op), (3, .int .i64 te), (4, .int .i64 a), (5, .int .i64 b), (6, .int .i64 c), (7, .agg (t.map bv).toArray)].toArray).run Try.prog w = .ok (.agg (lcells ⟨n, st, op, te, a, b, c, t, tzS⟩).toArray) w := by
  match t, ht with
  | [h0, h1, h2, h3, h4, h5, h6, h7, h8, h9, h10, h11, h12, h13, h14, h15, h16, h17, h18, h19, h20, h21, h22, h23, h24, h25, h26, h27, h28, h29, h30, h31], _ => exact bld_lk7 n st te a b c op h0 h1 h2 h3 h4 h5 h6 h7 h8 h9 h10 h11 h12 h13 h14 h15 h16 h17 h18 h19 h20 h21 h22 h23 h24 h25 h26 h27 h28 h29 h30 h31
theorem bld_lk6 (n st te a b c : Int) (op : UInt8) : ∀ w, (Instr.build 76 [(0, .int .i64 n), (1, .int .i64 st), (2, bv op), (3, .int .i64 te), (4, .int .i64 a), (5, .int .i64 b), (6, .int .i64 c)].toArray).run Try.prog w = .ok (.agg (lcells ⟨n, st, op, te, a, b, c, tzS, tzS⟩).toArray) w := fun w => by kernel_rfl
theorem bld_lk0 : ∀ w, (Instr.build 76 [].toArray).run Try.prog w = .ok (.agg (lcells ⟨0, 0, 0, 0, 0, 0, 0, tzS, tzS⟩).toArray) w := fun w => by kernel_rfl
theorem set_self (n st te a b c : Int) (op : UInt8) (t s s2 : List UInt8) (ht : t.length = 32) (hs : s.length = 32) : (lcells ⟨n, st, op, te, a, b, c, t, s⟩).take 39 ++ s2.map bv ++ (lcells ⟨n, st, op, te, a, b, c, t, s⟩).drop (39 + 32) = lcells ⟨n, st, op, te, a, b, c, t, s2⟩ := by
  simp [lcells, List.take_append, List.drop_append, ht, hs]
theorem set_ahead (n st te a b c : Int) (op : UInt8) (t s t2 : List UInt8) (ht : t.length = 32) (hs : s.length = 32) : (lcells ⟨n, st, op, te, a, b, c, t, s⟩).take 7 ++ t2.map bv ++ (lcells ⟨n, st, op, te, a, b, c, t, s⟩).drop (7 + 32) = lcells ⟨n, st, op, te, a, b, c, t2, s⟩ := by
  simp [lcells, List.take_append, List.drop_append, ht, hs]
def atL (l : List LK) (n : Int) : LK := if 1 ≤ n ∧ n ≤ l.length then l.getD (n - 1).toNat ⟨0, 0, 0, 0, 0, 0, 0, tzS, tzS⟩ else ⟨0, 0, 0, 0, 0, 0, 0, tzS, tzS⟩
def atE (l : List LK) (n : Int) : Int := if 1 ≤ n ∧ n ≤ l.length then 0 else 130
theorem lk00_ok : LOk ⟨0, 0, 0, 0, 0, 0, 0, tzS, tzS⟩ := ⟨rfl, rfl, by unfold I64; simp⟩
set_option maxHeartbeats 8000000 in
theorem audAt_any (w : World) (A : Option Addr) (c : Nat) (l : List LK) (hl : LRd w A l) (hk : ∀ x ∈ l, LOk x) (hn : l.length ≤ 1000000) (n : Int) (hi : I64 n) : Calls Try.prog 56 #[.slice A l.length c, .int .i64 n] w (RetV w (.tuple #[.agg (lcells (atL l n)).toArray, .int .i64 (atE l n)])) := by
  unfold I64 at hi
  refine calls_of_CW Try.func56 rfl (by simp [Try.ntmps56]) ?_
  rw [Try.ntmps56]
  refine go_Aud2 (k := ?_)
  refine OW_allocA agg_Link ?_
  intro w1 g1 hb1 hg1 hlt1 hx1
  have bad : ¬ (1 ≤ n ∧ n ≤ l.length) → atL l n = ⟨0, 0, 0, 0, 0, 0, 0, tzS, tzS⟩ ∧ atE l n = 130 := fun h => ⟨if_neg h, if_neg h⟩
  refine go_Aud2 (k := ?_)
  refine OW_split 8 _ rfl (fun hh => ?_) (fun hh => ?_)
  · have h1 := of_decide_eq_true hh
    obtain ⟨e1, e2⟩ := bad (by omega)
    rw [e1, e2]
    refine go_Aud2 (k := ?_)
    refine OW_build _ _ bld_lk0 rfl ?_
    refine go_Aud2 (k := ?_)
    refine OW_storeA agg_Link rfl (lcells ⟨0, 0, 0, 0, 0, 0, 0, tzS, tzS⟩) rfl rfl hb1 (by kernel_rfl) (lcells_one _) ?_
    intro w2 hb2 hg2
    have hx2 : Ext w w2 := (Keeps.of_only hg2 (S := (· = g1)) rfl).ext hx1 (fun j hj => by have hj : j = g1 := hj; omega)
    refine go_Aud2 (k := ?_)
    exact bodyE_retc2 rfl agg_Link rfl (lcells ⟨0, 0, 0, 0, 0, 0, 0, tzS, tzS⟩) (.int .i64 130) rfl rfl (Blk.range hb2) ⟨rfl, hx2⟩
  have h1 := of_decide_eq_false hh
  clear hh
  refine go_Aud2 (k := ?_)
  refine CW_cond _ rfl (fun hh => ?_) (fun hh => ?_)
  · have h2 := of_decide_eq_true hh
    obtain ⟨e1, e2⟩ := bad (by omega)
    rw [e1, e2]
    refine go_Aud2 (k := ?_)
    refine OW_build _ _ bld_lk0 rfl ?_
    refine go_Aud2 (k := ?_)
    refine OW_storeA agg_Link rfl (lcells ⟨0, 0, 0, 0, 0, 0, 0, tzS, tzS⟩) rfl rfl hb1 (by kernel_rfl) (lcells_one _) ?_
    intro w2 hb2 hg2
    have hx2 : Ext w w2 := (Keeps.of_only hg2 (S := (· = g1)) rfl).ext hx1 (fun j hj => by have hj : j = g1 := hj; omega)
    refine go_Aud2 (k := ?_)
    exact bodyE_retc2 rfl agg_Link rfl (lcells ⟨0, 0, 0, 0, 0, 0, 0, tzS, tzS⟩) (.int .i64 130) rfl rfl (Blk.range hb2) ⟨rfl, hx2⟩
  have h2 := of_decide_eq_false hh
  clear hh
  obtain ⟨m, hm⟩ : ∃ m : Nat, n = (m : Int) + 1 := ⟨(n - 1).toNat, by omega⟩
  have hml : m < l.length := by omega
  have e1 : atL l n = l[m] := by
    unfold atL
    rw [if_pos (by omega), show (n - 1).toNat = m by omega, List.getD_eq_getElem?_getD, List.getElem?_eq_getElem hml]
    rfl
  have e2 : atE l n = 0 := if_pos (by omega)
  have hx := hk _ (List.getElem_mem hml)
  obtain ⟨ad, rfl, hat⟩ := (hl.ext hx1).at_ hml
  rw [e1, e2]
  generalize l[m] = x at *
  subst hm
  have hxl := lcells_length hx
  refine go_Aud2 (k := ?_)
  refine OW_idxN und_Links el_Link rfl rfl m (by omega) hml ?_
  refine OW_loadX agg_Link rfl (lcells x) hxl hat ?_
  refine OW_storeA agg_Link rfl (lcells x) rfl hxl hb1 (by kernel_rfl) (lcells_one _) ?_
  intro w2 hb2 hg2
  have hx2 : Ext w w2 := (Keeps.of_only hg2 (S := (· = g1)) rfl).ext hx1 (fun j hj => by have hj : j = g1 := hj; omega)
  refine go_Aud2 (k := ?_)
  exact bodyE_retc2 rfl agg_Link rfl (lcells x) (.int .i64 0) rfl hxl (Blk.range hb2) ⟨rfl, hx2⟩
set_option maxHeartbeats 8000000 in
theorem audAdd_any (w : World) (A : Option Addr) (c : Nat) (l : List LK) (hl : LRd w A l) (hk : ∀ x ∈ l, LOk x) (hc : l.length ≤ c) (hn : l.length ≤ 100000) (stamp ten a b cc : Int) (op : UInt8) (hi : I64 stamp ∧ I64 ten ∧ I64 a ∧ I64 b ∧ I64 cc) : Calls Try.prog 49 #[.slice A l.length c, .int .i64 stamp, bv op, .int .i64 ten, .int .i64 a, .int .i64 b, .int .i64 cc] w
    (fun en w' => ∃ A2 c2, en = .returned (.slice A2 (l ++ [nextL l stamp op ten a b cc]).length c2) ∧ LOwn w' w.heap.size A2 c2 (l ++ [nextL l stamp op ten a b cc]) ∧ Ext w w') := by
  have hhl := headL_len hk
  refine calls_of_CW Try.func49 rfl (by simp [Try.ntmps49]) ?_
  rw [Try.ntmps49]
  refine go_Aud2 (k := ?_)
  refine OW_callV Try.func54 (by kernel_rfl) rfl (audHead_any w A c l hl hk (by omega)) rfl ?_
  intro w1 hx1
  obtain ⟨hd, hhd⟩ : ∃ hd, headL l = hd := ⟨_, rfl⟩
  rw [hhd] at hhl ⊢
  obtain ⟨x0, hx0⟩ : ∃ x0 : LK, x0 = ⟨(l.length : Int) + 1, stamp, op, ten, a, b, cc, hd, tzS⟩ := ⟨_, rfl⟩
  have hnx : nextL l stamp op ten a b cc = { x0 with self := linkH x0 } := by rw [hx0, ← hhd]; rfl
  have hok0 : LOk x0 := by rw [hx0]; exact ⟨hhl, rfl, by unfold I64; simp only; omega, hi.1, hi.2.1, hi.2.2.1, hi.2.2.2.1, hi.2.2.2.2⟩
  have hx0l := lcells_length hok0
  refine go_Aud2 (k := ?_)
  refine OW_build _ _ (bld_lk ((l.length : Int) + 1) stamp ten a b cc op hd hhl) rfl ?_
  rw [← hx0]
  refine go_Aud2 (k := ?_)
  refine OW_allocA agg_Link ?_
  intro w2 g2 hb2 hg2 hlt2 hx2
  refine go_Aud2 (k := ?_)
  refine OW_storeA agg_Link rfl (lcells x0) rfl hx0l hb2 (by kernel_rfl) (lcells_one _) ?_
  intro w3 hb3 hg3
  have hb3 : Blk w3 g2 76 (lcells x0).toArray := hb3
  have hx13 : Ext w1 w3 := (Keeps.of_only hg3 (S := (· = g2)) rfl).ext hx2 (fun j hj => by have hj : j = g2 := hj; omega)
  have hx03 := hx1.trans' hx13
  clear hb2 hg3
  refine go_Aud2 (k := ?_)
  refine OW_loadX agg_Link rfl (lcells x0) hx0l hb3.atL ?_
  refine go_Aud2 (k := ?_)
  refine OW_callV Try.func52 (by kernel_rfl) rfl (audHash_any w3 x0 hok0) rfl ?_
  intro w4 hx4
  have hHl : (linkH x0).length = 32 := shaL_length _
  obtain ⟨H, hH⟩ : ∃ H, linkH x0 = H := ⟨_, rfl⟩
  rw [hH] at hHl hnx ⊢
  refine go_Aud2 (k := ?_)
  refine OW_storeM s_agg_Tag rfl (H.map bv) rfl (by rw [List.length_map, hHl]) (hb3.ext hx4) (by rw [hx0l]; decide) (bv_one _) ?_
  intro w5 hb5 hg5
  have hx05 : Ext w w5 := (Keeps.of_only hg5 (S := (· = g2)) rfl).ext (hx03.trans' hx4) (fun j hj => by have hj : j = g2 := hj; have := hx1.size; omega)
  obtain ⟨x, hxe⟩ : ∃ x : LK, x = { x0 with self := H } := ⟨_, rfl⟩
  rw [← hxe] at hnx
  rw [hnx]
  have hsx : (lcells x0).take 39 ++ H.map bv ++ (lcells x0).drop (39 + 32) = lcells x := by
    have := set_self x0.n x0.stamp x0.ten x0.a x0.b x0.c x0.op x0.ahead x0.self H hok0.ahead hok0.self
    rw [hxe]
    exact this
  rw [hsx] at hb5
  have hxl : (lcells x).length = 71 := by rw [hxe]; exact lcells_length ⟨hok0.ahead, hHl, hok0.i⟩
  have hr0 : RdN w A 71 (l.map lcells) := hl
  have hlen : (l.map lcells).length = l.length := List.length_map _
  have hfl := flat_len hr0.len
  clear hb3 hx0 hhd hg5 hsx hnx
  refine go_Aud2 (k := ?_)
  obtain ⟨C, hC⟩ : ∃ C : World → Prop, C = fun v => Ext w5 v := ⟨_, rfl⟩
  have yX : ∀ v, C v → AtM v ⟨g2, 0, none⟩ (lcells x) 71 := by rw [hC]; exact fun v hv => ⟨(hb5.ext hv).atL, hxl⟩
  refine CW_tree2 [3] (.p 0 (.q 3 (Ty.graft (.a2 1 (.a2 2 (.d 4 .done) 4 (.a 2 .done)) 4 (.a 1 (.a 2 .done))) (.d 5 (.p 6 .done))))) (C) (by kernel_rfl) (by kernel_rfl) (by kernel_rfl) ?_ ?_
  · exact inE hC
  intro w6 hy6 h_C
  refine oy_Aud2 (k := ?_)
  refine OY_a2 (actY_of rfl ?_) (actY_of rfl ?_)
  · skip
    refine OW_callC Try.func93 (by kernel_rfl) rfl (lkClone_any w6 A c (l.map lcells) (hr0.ext (hx05.trans' hy6)) (links_one l) (by rw [hlen]; omega)) (by rw [hlen]; rfl) ?_
    rintro en w7 ⟨AC, cC, rfl, hoC, hx7⟩
    refine ⟨_, rfl, ?_⟩
    have hy7 := hy6.trans' hx7
    first | refine OW_nil (goY_mkE hC (hy7) ?_) | refine OW_nil (goY_dropE hC (hy7) ?_)
    refine oy_Aud2 (k := ?_)
    refine OY_a2 (actY_of rfl ?_) (actY_of rfl ?_)
    · skip
      refine OW_callC Try.func92 (by kernel_rfl) rfl (lkClip_any w7 AC cC (l.map lcells) ((⟨ownN_rd hoC, hr0.len⟩ : RdN w7 AC 71 (l.map lcells)).ext (Ext.rfl' _)) (ownN_cap hoC).1) rfl ?_
      rintro en w8 ⟨AK, rfl, hrK, hnK, rfl⟩
      refine ⟨_, rfl, ?_⟩
      have hx8 := Ext.rfl' w8
      have hy8 := hy7.trans' hx8
      first | refine OW_nil (goY_mkE hC (hy8) ?_) | refine OW_nil (goY_dropE hC (hy8) ?_)
      refine oy_Aud2 (k := ?_)
      refine OW_litM [lcells x] und_Links agg_Link rfl rfl (by intro v hv; rw [List.mem_singleton] at hv; subst hv; exact hxl) (by decide) ?_
      intro w9 gB hbB hgB hlB hx9
      have hbB : Blk w9 gB 76 (lcells x).toArray := by simpa using hbB
      have hy9 := hy8.trans' hx9
      first | refine OW_nil (goY_mkE hC (hy9) ?_) | refine OW_nil (goY_dropE hC (hy9) ?_)
      refine oy_Aud2 (k := ?_)
      have hbB2 := hbB
      refine OW_appendGN (k := 71) und_Links info_Link rfl (by decide) rfl rfl (fun h => ?_) (hrK.rd.ext hx9) (by rw [hfl]) (by simpa using hbB2.rd) (by rw [hxl]) (by decide) (by rw [hlen]; omega) (by rw [hlen]; unfold maxLen; omega) (by rw [hlen]; omega) ?_
      · have hz : l = [] := by
          cases l with
          | nil => rfl
          | cons y r =>
            obtain ⟨ad, ha, _⟩ := hrK.at_ (by decide) (i := 0) (by simp)
            rw [h] at ha
            cases ha
        subst hz
        exact ⟨rfl, rfl⟩
      intro w20 g20 c20 ho20 hg20 hl20 hx20
      have hy20 := hy9.trans' hx20
      first | refine OW_nil (goY_mkE hC (hy20) ?_) | refine OW_nil (goY_dropE hC (hy20) ?_)
      refine oy_Aud2 (k := ?_)
      refine go_Aud2 (k := ?_)
      refine bodyE_ret1 rfl (.slice (some ⟨g20, 0, none⟩) ((l.map lcells).length + 1) c20) rfl ⟨some ⟨g20, 0, none⟩, c20, by rw [hlen, List.length_append]; rfl, ?_, hx05.trans' hy20⟩
      unfold LOwn
      rw [List.length_append, List.map_append, List.flatten_append, List.length_singleton, ← hlen]
      simp only [List.map_cons, List.map_nil, List.flatten_cons, List.flatten_nil, List.append_nil]
      exact ownN_mono ho20 (by have := (hx05.trans' hy9).size; omega)
    · skip
      refine OW_litM [lcells x] und_Links agg_Link rfl rfl (by intro v hv; rw [List.mem_singleton] at hv; subst hv; exact hxl) (by decide) ?_
      intro w8 gB hbB hgB hlB hx8
      have hbB : Blk w8 gB 76 (lcells x).toArray := by simpa using hbB
      have hy8 := hy7.trans' hx8
      first | refine OW_nil (goY_mkE hC (hy8) ?_) | refine OW_nil (goY_dropE hC (hy8) ?_)
      refine oy_Aud2 (k := ?_)
      refine OW_callC Try.func92 (by kernel_rfl) rfl (lkClip_any w8 AC cC (l.map lcells) ((⟨ownN_rd hoC, hr0.len⟩ : RdN w7 AC 71 (l.map lcells)).ext hx8) (ownN_cap hoC).1) rfl ?_
      rintro en w9 ⟨AK, rfl, hrK, hnK, rfl⟩
      refine ⟨_, rfl, ?_⟩
      have hx9 := Ext.rfl' w9
      have hy9 := hy8.trans' hx9
      first | refine OW_nil (goY_mkE hC (hy9) ?_) | refine OW_nil (goY_dropE hC (hy9) ?_)
      refine oy_Aud2 (k := ?_)
      have hbB2 := hbB
      refine OW_appendGN (k := 71) und_Links info_Link rfl (by decide) rfl rfl (fun h => ?_) hrK.rd (by rw [hfl]) (by simpa using hbB2.rd) (by rw [hxl]) (by decide) (by rw [hlen]; omega) (by rw [hlen]; unfold maxLen; omega) (by rw [hlen]; omega) ?_
      · have hz : l = [] := by
          cases l with
          | nil => rfl
          | cons y r =>
            obtain ⟨ad, ha, _⟩ := hrK.at_ (by decide) (i := 0) (by simp)
            rw [h] at ha
            cases ha
        subst hz
        exact ⟨rfl, rfl⟩
      intro w20 g20 c20 ho20 hg20 hl20 hx20
      have hy20 := hy9.trans' hx20
      first | refine OW_nil (goY_mkE hC (hy20) ?_) | refine OW_nil (goY_dropE hC (hy20) ?_)
      refine oy_Aud2 (k := ?_)
      refine go_Aud2 (k := ?_)
      refine bodyE_ret1 rfl (.slice (some ⟨g20, 0, none⟩) ((l.map lcells).length + 1) c20) rfl ⟨some ⟨g20, 0, none⟩, c20, by rw [hlen, List.length_append]; rfl, ?_, hx05.trans' hy20⟩
      unfold LOwn
      rw [List.length_append, List.map_append, List.flatten_append, List.length_singleton, ← hlen]
      simp only [List.map_cons, List.map_nil, List.flatten_cons, List.flatten_nil, List.append_nil]
      exact ownN_mono ho20 (by have := (hx05.trans' hy9).size; omega)
  · skip
    refine OW_litM [lcells x] und_Links agg_Link rfl rfl (by intro v hv; rw [List.mem_singleton] at hv; subst hv; exact hxl) (by decide) ?_
    intro w7 gB hbB hgB hlB hx7
    have hbB : Blk w7 gB 76 (lcells x).toArray := by simpa using hbB
    have hy7 := hy6.trans' hx7
    first | refine OW_nil (goY_mkE hC (hy7) ?_) | refine OW_nil (goY_dropE hC (hy7) ?_)
    refine oy_Aud2 (k := ?_)
    refine OW_callC Try.func93 (by kernel_rfl) rfl (lkClone_any w7 A c (l.map lcells) (hr0.ext (hx05.trans' hy7)) (links_one l) (by rw [hlen]; omega)) (by rw [hlen]; rfl) ?_
    rintro en w8 ⟨AC, cC, rfl, hoC, hx8⟩
    refine ⟨_, rfl, ?_⟩
    have hy8 := hy7.trans' hx8
    first | refine OW_nil (goY_mkE hC (hy8) ?_) | refine OW_nil (goY_dropE hC (hy8) ?_)
    refine oy_Aud2 (k := ?_)
    refine OW_callC Try.func92 (by kernel_rfl) rfl (lkClip_any w8 AC cC (l.map lcells) ((⟨ownN_rd hoC, hr0.len⟩ : RdN w8 AC 71 (l.map lcells)).ext (Ext.rfl' _)) (ownN_cap hoC).1) rfl ?_
    rintro en w9 ⟨AK, rfl, hrK, hnK, rfl⟩
    refine ⟨_, rfl, ?_⟩
    have hx9 := Ext.rfl' w9
    have hy9 := hy8.trans' hx9
    first | refine OW_nil (goY_mkE hC (hy9) ?_) | refine OW_nil (goY_dropE hC (hy9) ?_)
    refine oy_Aud2 (k := ?_)
    have hbB2 := (hbB.ext hx8)
    refine OW_appendGN (k := 71) und_Links info_Link rfl (by decide) rfl rfl (fun h => ?_) hrK.rd (by rw [hfl]) (by simpa using hbB2.rd) (by rw [hxl]) (by decide) (by rw [hlen]; omega) (by rw [hlen]; unfold maxLen; omega) (by rw [hlen]; omega) ?_
    · have hz : l = [] := by
        cases l with
        | nil => rfl
        | cons y r =>
          obtain ⟨ad, ha, _⟩ := hrK.at_ (by decide) (i := 0) (by simp)
          rw [h] at ha
          cases ha
      subst hz
      exact ⟨rfl, rfl⟩
    intro w20 g20 c20 ho20 hg20 hl20 hx20
    have hy20 := hy9.trans' hx20
    first | refine OW_nil (goY_mkE hC (hy20) ?_) | refine OW_nil (goY_dropE hC (hy20) ?_)
    refine oy_Aud2 (k := ?_)
    refine go_Aud2 (k := ?_)
    refine bodyE_ret1 rfl (.slice (some ⟨g20, 0, none⟩) ((l.map lcells).length + 1) c20) rfl ⟨some ⟨g20, 0, none⟩, c20, by rw [hlen, List.length_append]; rfl, ?_, hx05.trans' hy20⟩
    unfold LOwn
    rw [List.length_append, List.map_append, List.flatten_append, List.length_singleton, ← hlen]
    simp only [List.map_cons, List.map_nil, List.flatten_cons, List.flatten_nil, List.append_nil]
    exact ownN_mono ho20 (by have := (hx05.trans' hy9).size; omega)
end Go.Proofs.Ytdpcahfgdpikfaa
