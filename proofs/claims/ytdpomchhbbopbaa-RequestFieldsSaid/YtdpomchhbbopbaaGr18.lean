/- Several texts in one, as they stand in wip/src. -/
import Derived.Test.YtdpomchhbbopbaaGr17
/- Walk: may a request be, by the reference. -/
namespace Go.Proofs.Ytdpomchhbbopbaa
open Go Go.RowKit
set_option linter.unusedVariables false
set_option maxRecDepth 4000
theorem go_ReqM {A B : Prop} (h : Held B → A := by
  intro hEnd
  repeat (first | refine OW_fieldBL fldo_Q0 rfl ?_ | refine OW_fieldBL fldo_Q1 rfl ?_ | refine OW_fieldBL fldo_Q2 rfl ?_ | refine OW_fieldBL fldo_Q3 rfl ?_ | refine OW_fieldBL fldo_Q4 rfl ?_ | refine OW_fieldBL fldo_Q5 rfl ?_ | refine OW_fieldBL fldo_Q6 rfl ?_ | refine OW_fieldBL fldo_Q7 rfl ?_ | refine OW_fieldBL fldo_Q8 rfl ?_ | refine OW_fieldBL fldo_Q9 rfl ?_ | refine OW_fieldG fldo_G0 rfl ?_ | refine OW_fieldG fldo_G1 rfl ?_ | refine OW_fieldG fldo_G2 rfl ?_ | refine OW_fieldBL fldo_G0 rfl ?_ | refine OW_fieldBL fldo_G1 rfl ?_ | refine OW_fieldBL fldo_G2 rfl ?_ | refine OW_nilCheck rfl ?_ | refine OW_lenL und_string rfl ?_ | refine OW_eqlE rfl rfl ?_ | refine OW_moveV (.int _ _) rfl ?_ | refine OW_moveV (.slice _ _ _) rfl ?_ | refine OW_moveV (.bool _) rfl ?_ | refine OW_moveV (.pointer _) rfl ?_ | refine OW_moveV (.string _) rfl ?_ | refine OW_moveV (.agg _) rfl ?_ | refine OW_moveV (.tuple _) rfl ?_ | refine OW_nil ?_ | refine thenE_normal ?_ | refine CW_seq ?_ | refine CW_region (by kernel_rfl) ?_ | refine OW_assignV (.int _ _) rfl ?_ | refine OW_assignV (.slice _ _ _) rfl ?_ | refine OW_assignV (.bool _) rfl ?_ | refine OW_assignV (.pointer _) rfl ?_ | refine OW_assignV (.string _) rfl ?_ | refine OW_assignV (.agg _) rfl ?_ | refine OW_assignV (.tuple _) rfl ?_ | refine OW_addI rfl rfl (by omega) ?_ | refine OW_subI rfl rfl (by omega) ?_ | refine OW_mulI rfl rfl (by omega) ?_ | refine OW_lss rfl rfl ?_ | refine OW_extract rfl rfl ?_ | refine OW_gtr rfl rfl ?_ | refine OW_leq rfl rfl ?_ | refine OW_geq rfl rfl ?_ | refine OW_eql rfl rfl ?_ | refine OW_neq rfl rfl ?_ | refine OW_not rfl ?_ | refine OW_pickT rfl _ rfl ?_ | refine OW_pickF rfl (.bool _) rfl ?_ | refine OW_pickB rfl rfl rfl ?_ | refine OW_move ?_ | refine OW_assign ?_ | refine OW_pass rfl ?_ | refine OW_take rfl ?_ | refine OW_lenS (by first | with_reducible exact und_bytes | with_reducible exact und_bytess) rfl ?_ | refine OW_convInt (by first | with_reducible exact und_u8 | with_reducible exact und_u64 | with_reducible exact und_int | with_reducible exact und_u32) (by first | with_reducible exact und_u8 | with_reducible exact und_u64 | with_reducible exact und_int | with_reducible exact und_u32) rfl ?_ | refine OW_add rfl rfl ?_ | refine OW_sub rfl rfl ?_ | refine OW_mul rfl rfl ?_ | refine OW_min2 rfl rfl ?_ | refine OW_max2 rfl rfl ?_ | refine OW_neg rfl ?_ | refine CW_block ?_ | refine CW_condT rfl ?_ | refine CW_condF rfl ?_ | refine CW_exit ?_ | refine CW_ret ?_ | refine CW_skip ?_ | refine LW_seq ?_ | refine LW_regC ?_ | refine LW_condC ?_ | refine LW_regF ?_ | refine LW_condF ?_ | refine FW_seq ?_ | refine FW_region (by kernel_rfl) ?_ | refine FW_block ?_ | refine FW_condT rfl ?_ | refine FW_condF rfl ?_ | refine FW_exit ?_ | refine FW_ret ?_ | refine FW_skip ?_ | refine LW_ret ?_ | refine LW_skip ?_ | refine thenE_exit ?_ | refine thenE_ret ?_ | refine inBlockE_normal ?_ | refine inBlockE_same ?_ | refine inBlockE_ret ?_ | refine inBlockE_ne (by rfl) ?_ | refine OW_eqlB (by with_reducible exact und_bool) rfl rfl ?_ | refine OW_neqB (by with_reducible exact und_bool) rfl rfl ?_ | refine OW_idxS (by with_reducible exact und_bytes) one_u8 rfl rfl _ rfl (by omega) ?_ | refine OW_idxS (by with_reducible exact und_bytess) one_bytes rfl rfl _ rfl (by omega) ?_ | refine OW_load1 (by first | with_reducible exact one_u8 | with_reducible exact one_bytes) rfl _ (by assumption) ?_ | (refine OW_isLoad ?_; refine OW_loadBk (by first | with_reducible exact one_u8 | with_reducible exact one_int | with_reducible exact one_str | with_reducible exact one_bytes) rfl (by assumption) _ (by rfl) ?_))
  exact hEnd.out) (k : B) : A := h ⟨k⟩
theorem oy_ReqM {A B : Prop} (h : Held B → A := by
  intro hEnd
  repeat (first
    | refine OY_done ?_
    | (apply OY_p _ rfl
       · intro wd
         (first | refine OW_fieldBL fldo_Q0 rfl ?_ | refine OW_fieldBL fldo_Q1 rfl ?_ | refine OW_fieldBL fldo_Q2 rfl ?_ | refine OW_fieldBL fldo_Q3 rfl ?_ | refine OW_fieldBL fldo_Q4 rfl ?_ | refine OW_fieldBL fldo_Q5 rfl ?_ | refine OW_fieldBL fldo_Q6 rfl ?_ | refine OW_fieldBL fldo_Q7 rfl ?_ | refine OW_fieldBL fldo_Q8 rfl ?_ | refine OW_fieldBL fldo_Q9 rfl ?_ | refine OW_fieldG fldo_G0 rfl ?_ | refine OW_fieldG fldo_G1 rfl ?_ | refine OW_fieldG fldo_G2 rfl ?_ | refine OW_fieldBL fldo_G0 rfl ?_ | refine OW_fieldBL fldo_G1 rfl ?_ | refine OW_fieldBL fldo_G2 rfl ?_ | refine OW_nilCheck rfl ?_ | refine OW_lenL und_string rfl ?_ | refine OW_eqlE rfl rfl ?_ | refine OW_moveV (.int _ _) rfl ?_ | refine OW_moveV (.slice _ _ _) rfl ?_ | refine OW_moveV (.bool _) rfl ?_ | refine OW_moveV (.pointer _) rfl ?_ | refine OW_moveV (.string _) rfl ?_ | refine OW_moveV (.agg _) rfl ?_ | refine OW_moveV (.tuple _) rfl ?_ | refine OW_nil ?_ | refine thenE_normal ?_ | refine CW_seq ?_ | refine CW_region (by kernel_rfl) ?_ | refine OW_assignV (.int _ _) rfl ?_ | refine OW_assignV (.slice _ _ _) rfl ?_ | refine OW_assignV (.bool _) rfl ?_ | refine OW_assignV (.pointer _) rfl ?_ | refine OW_assignV (.string _) rfl ?_ | refine OW_assignV (.agg _) rfl ?_ | refine OW_assignV (.tuple _) rfl ?_ | refine OW_addI rfl rfl (by omega) ?_ | refine OW_subI rfl rfl (by omega) ?_ | refine OW_mulI rfl rfl (by omega) ?_ | refine OW_lss rfl rfl ?_ | refine OW_extract rfl rfl ?_ | refine OW_gtr rfl rfl ?_ | refine OW_leq rfl rfl ?_ | refine OW_geq rfl rfl ?_ | refine OW_eql rfl rfl ?_ | refine OW_neq rfl rfl ?_ | refine OW_not rfl ?_ | refine OW_pickT rfl _ rfl ?_ | refine OW_pickF rfl (.bool _) rfl ?_ | refine OW_pickB rfl rfl rfl ?_ | refine OW_move ?_ | refine OW_assign ?_ | refine OW_pass rfl ?_ | refine OW_take rfl ?_ | refine OW_lenS (by first | with_reducible exact und_bytes | with_reducible exact und_bytess) rfl ?_ | refine OW_convInt (by first | with_reducible exact und_u8 | with_reducible exact und_u64 | with_reducible exact und_int | with_reducible exact und_u32) (by first | with_reducible exact und_u8 | with_reducible exact und_u64 | with_reducible exact und_int | with_reducible exact und_u32) rfl ?_ | refine OW_add rfl rfl ?_ | refine OW_sub rfl rfl ?_ | refine OW_mul rfl rfl ?_ | refine OW_min2 rfl rfl ?_ | refine OW_max2 rfl rfl ?_ | refine OW_neg rfl ?_ | refine CW_block ?_ | refine CW_condT rfl ?_ | refine CW_condF rfl ?_ | refine CW_exit ?_ | refine CW_ret ?_ | refine CW_skip ?_ | refine LW_seq ?_ | refine LW_regC ?_ | refine LW_condC ?_ | refine LW_regF ?_ | refine LW_condF ?_ | refine FW_seq ?_ | refine FW_region (by kernel_rfl) ?_ | refine FW_block ?_ | refine FW_condT rfl ?_ | refine FW_condF rfl ?_ | refine FW_exit ?_ | refine FW_ret ?_ | refine FW_skip ?_ | refine LW_ret ?_ | refine LW_skip ?_ | refine thenE_exit ?_ | refine thenE_ret ?_ | refine inBlockE_normal ?_ | refine inBlockE_same ?_ | refine inBlockE_ret ?_ | refine inBlockE_ne (by rfl) ?_ | refine OW_eqlB (by with_reducible exact und_bool) rfl rfl ?_ | refine OW_neqB (by with_reducible exact und_bool) rfl rfl ?_ | refine OW_idxS (by with_reducible exact und_bytes) one_u8 rfl rfl _ rfl (by omega) ?_ | refine OW_idxS (by with_reducible exact und_bytess) one_bytes rfl rfl _ rfl (by omega) ?_ | refine OW_load1 (by first | with_reducible exact one_u8 | with_reducible exact one_bytes) rfl _ (by assumption) ?_ | (refine OW_isLoad ?_; refine OW_loadBk (by first | with_reducible exact one_u8 | with_reducible exact one_int | with_reducible exact one_str | with_reducible exact one_bytes) rfl (by assumption) _ (by rfl) ?_))
         refine OW_nil ?_
         exact stay_mk _ _ _ _)
    | (apply OY_q _ rfl
       · intro wd hwd
         (first | refine OW_fieldBL fldo_Q0 rfl ?_ | refine OW_fieldBL fldo_Q1 rfl ?_ | refine OW_fieldBL fldo_Q2 rfl ?_ | refine OW_fieldBL fldo_Q3 rfl ?_ | refine OW_fieldBL fldo_Q4 rfl ?_ | refine OW_fieldBL fldo_Q5 rfl ?_ | refine OW_fieldBL fldo_Q6 rfl ?_ | refine OW_fieldBL fldo_Q7 rfl ?_ | refine OW_fieldBL fldo_Q8 rfl ?_ | refine OW_fieldBL fldo_Q9 rfl ?_ | refine OW_fieldG fldo_G0 rfl ?_ | refine OW_fieldG fldo_G1 rfl ?_ | refine OW_fieldG fldo_G2 rfl ?_ | refine OW_fieldBL fldo_G0 rfl ?_ | refine OW_fieldBL fldo_G1 rfl ?_ | refine OW_fieldBL fldo_G2 rfl ?_ | refine OW_nilCheck rfl ?_ | refine OW_lenL und_string rfl ?_ | refine OW_eqlE rfl rfl ?_ | refine OW_moveV (.int _ _) rfl ?_ | refine OW_moveV (.slice _ _ _) rfl ?_ | refine OW_moveV (.bool _) rfl ?_ | refine OW_moveV (.pointer _) rfl ?_ | refine OW_moveV (.string _) rfl ?_ | refine OW_moveV (.agg _) rfl ?_ | refine OW_moveV (.tuple _) rfl ?_ | refine OW_nil ?_ | refine thenE_normal ?_ | refine CW_seq ?_ | refine CW_region (by kernel_rfl) ?_ | refine OW_assignV (.int _ _) rfl ?_ | refine OW_assignV (.slice _ _ _) rfl ?_ | refine OW_assignV (.bool _) rfl ?_ | refine OW_assignV (.pointer _) rfl ?_ | refine OW_assignV (.string _) rfl ?_ | refine OW_assignV (.agg _) rfl ?_ | refine OW_assignV (.tuple _) rfl ?_ | refine OW_addI rfl rfl (by omega) ?_ | refine OW_subI rfl rfl (by omega) ?_ | refine OW_mulI rfl rfl (by omega) ?_ | refine OW_lss rfl rfl ?_ | refine OW_extract rfl rfl ?_ | refine OW_gtr rfl rfl ?_ | refine OW_leq rfl rfl ?_ | refine OW_geq rfl rfl ?_ | refine OW_eql rfl rfl ?_ | refine OW_neq rfl rfl ?_ | refine OW_not rfl ?_ | refine OW_pickT rfl _ rfl ?_ | refine OW_pickF rfl (.bool _) rfl ?_ | refine OW_pickB rfl rfl rfl ?_ | refine OW_move ?_ | refine OW_assign ?_ | refine OW_pass rfl ?_ | refine OW_take rfl ?_ | refine OW_lenS (by first | with_reducible exact und_bytes | with_reducible exact und_bytess) rfl ?_ | refine OW_convInt (by first | with_reducible exact und_u8 | with_reducible exact und_u64 | with_reducible exact und_int | with_reducible exact und_u32) (by first | with_reducible exact und_u8 | with_reducible exact und_u64 | with_reducible exact und_int | with_reducible exact und_u32) rfl ?_ | refine OW_add rfl rfl ?_ | refine OW_sub rfl rfl ?_ | refine OW_mul rfl rfl ?_ | refine OW_min2 rfl rfl ?_ | refine OW_max2 rfl rfl ?_ | refine OW_neg rfl ?_ | refine CW_block ?_ | refine CW_condT rfl ?_ | refine CW_condF rfl ?_ | refine CW_exit ?_ | refine CW_ret ?_ | refine CW_skip ?_ | refine LW_seq ?_ | refine LW_regC ?_ | refine LW_condC ?_ | refine LW_regF ?_ | refine LW_condF ?_ | refine FW_seq ?_ | refine FW_region (by kernel_rfl) ?_ | refine FW_block ?_ | refine FW_condT rfl ?_ | refine FW_condF rfl ?_ | refine FW_exit ?_ | refine FW_ret ?_ | refine FW_skip ?_ | refine LW_ret ?_ | refine LW_skip ?_ | refine thenE_exit ?_ | refine thenE_ret ?_ | refine inBlockE_normal ?_ | refine inBlockE_same ?_ | refine inBlockE_ret ?_ | refine inBlockE_ne (by rfl) ?_ | refine OW_eqlB (by with_reducible exact und_bool) rfl rfl ?_ | refine OW_neqB (by with_reducible exact und_bool) rfl rfl ?_ | refine OW_idxS (by with_reducible exact und_bytes) one_u8 rfl rfl _ rfl (by omega) ?_ | refine OW_idxS (by with_reducible exact und_bytess) one_bytes rfl rfl _ rfl (by omega) ?_ | refine OW_load1 (by first | with_reducible exact one_u8 | with_reducible exact one_bytes) rfl _ (by assumption) ?_ | (refine OW_isLoad ?_; refine OW_loadBk (by first | with_reducible exact one_u8 | with_reducible exact one_int | with_reducible exact one_str | with_reducible exact one_bytes) rfl (by assumption) _ (by rfl) ?_) | (refine OW_isLoad ?_; refine OW_loadBk (by first | with_reducible exact one_u8 | with_reducible exact one_bytes | with_reducible exact one_bool | with_reducible exact one_int | with_reducible exact one_errno | with_reducible exact one_u32 | with_reducible exact one_u64 | with_reducible exact one_string | with_reducible exact one_int | with_reducible exact one_str | with_reducible exact one_bytes | with_reducible exact one_u8) rfl (by apply_assumption; assumption) _ (by first | assumption | rfl) ?_) | refine OW_load1 (by first | with_reducible exact one_u8 | with_reducible exact one_bytes | with_reducible exact one_bool | with_reducible exact one_int | with_reducible exact one_errno | with_reducible exact one_u32 | with_reducible exact one_u64 | with_reducible exact one_string | with_reducible exact one_int | with_reducible exact one_str | with_reducible exact one_bytes | with_reducible exact one_u8) rfl _ (by apply_assumption; assumption) ?_)
         refine OW_nil ?_
         exact stay_mk _ _ _ _)
    | refine OY_ppass rfl rfl ?_
    | refine OY_qpass rfl rfl ?_
    | (apply OY_ptake _ rfl rfl
       · intro wd
         (first | refine OW_fieldBL fldo_Q0 rfl ?_ | refine OW_fieldBL fldo_Q1 rfl ?_ | refine OW_fieldBL fldo_Q2 rfl ?_ | refine OW_fieldBL fldo_Q3 rfl ?_ | refine OW_fieldBL fldo_Q4 rfl ?_ | refine OW_fieldBL fldo_Q5 rfl ?_ | refine OW_fieldBL fldo_Q6 rfl ?_ | refine OW_fieldBL fldo_Q7 rfl ?_ | refine OW_fieldBL fldo_Q8 rfl ?_ | refine OW_fieldBL fldo_Q9 rfl ?_ | refine OW_fieldG fldo_G0 rfl ?_ | refine OW_fieldG fldo_G1 rfl ?_ | refine OW_fieldG fldo_G2 rfl ?_ | refine OW_fieldBL fldo_G0 rfl ?_ | refine OW_fieldBL fldo_G1 rfl ?_ | refine OW_fieldBL fldo_G2 rfl ?_ | refine OW_nilCheck rfl ?_ | refine OW_lenL und_string rfl ?_ | refine OW_eqlE rfl rfl ?_ | refine OW_moveV (.int _ _) rfl ?_ | refine OW_moveV (.slice _ _ _) rfl ?_ | refine OW_moveV (.bool _) rfl ?_ | refine OW_moveV (.pointer _) rfl ?_ | refine OW_moveV (.string _) rfl ?_ | refine OW_moveV (.agg _) rfl ?_ | refine OW_moveV (.tuple _) rfl ?_ | refine OW_nil ?_ | refine thenE_normal ?_ | refine CW_seq ?_ | refine CW_region (by kernel_rfl) ?_ | refine OW_assignV (.int _ _) rfl ?_ | refine OW_assignV (.slice _ _ _) rfl ?_ | refine OW_assignV (.bool _) rfl ?_ | refine OW_assignV (.pointer _) rfl ?_ | refine OW_assignV (.string _) rfl ?_ | refine OW_assignV (.agg _) rfl ?_ | refine OW_assignV (.tuple _) rfl ?_ | refine OW_addI rfl rfl (by omega) ?_ | refine OW_subI rfl rfl (by omega) ?_ | refine OW_mulI rfl rfl (by omega) ?_ | refine OW_lss rfl rfl ?_ | refine OW_extract rfl rfl ?_ | refine OW_gtr rfl rfl ?_ | refine OW_leq rfl rfl ?_ | refine OW_geq rfl rfl ?_ | refine OW_eql rfl rfl ?_ | refine OW_neq rfl rfl ?_ | refine OW_not rfl ?_ | refine OW_pickT rfl _ rfl ?_ | refine OW_pickF rfl (.bool _) rfl ?_ | refine OW_pickB rfl rfl rfl ?_ | refine OW_move ?_ | refine OW_assign ?_ | refine OW_pass rfl ?_ | refine OW_take rfl ?_ | refine OW_lenS (by first | with_reducible exact und_bytes | with_reducible exact und_bytess) rfl ?_ | refine OW_convInt (by first | with_reducible exact und_u8 | with_reducible exact und_u64 | with_reducible exact und_int | with_reducible exact und_u32) (by first | with_reducible exact und_u8 | with_reducible exact und_u64 | with_reducible exact und_int | with_reducible exact und_u32) rfl ?_ | refine OW_add rfl rfl ?_ | refine OW_sub rfl rfl ?_ | refine OW_mul rfl rfl ?_ | refine OW_min2 rfl rfl ?_ | refine OW_max2 rfl rfl ?_ | refine OW_neg rfl ?_ | refine CW_block ?_ | refine CW_condT rfl ?_ | refine CW_condF rfl ?_ | refine CW_exit ?_ | refine CW_ret ?_ | refine CW_skip ?_ | refine LW_seq ?_ | refine LW_regC ?_ | refine LW_condC ?_ | refine LW_regF ?_ | refine LW_condF ?_ | refine FW_seq ?_ | refine FW_region (by kernel_rfl) ?_ | refine FW_block ?_ | refine FW_condT rfl ?_ | refine FW_condF rfl ?_ | refine FW_exit ?_ | refine FW_ret ?_ | refine FW_skip ?_ | refine LW_ret ?_ | refine LW_skip ?_ | refine thenE_exit ?_ | refine thenE_ret ?_ | refine inBlockE_normal ?_ | refine inBlockE_same ?_ | refine inBlockE_ret ?_ | refine inBlockE_ne (by rfl) ?_ | refine OW_eqlB (by with_reducible exact und_bool) rfl rfl ?_ | refine OW_neqB (by with_reducible exact und_bool) rfl rfl ?_ | refine OW_idxS (by with_reducible exact und_bytes) one_u8 rfl rfl _ rfl (by omega) ?_ | refine OW_idxS (by with_reducible exact und_bytess) one_bytes rfl rfl _ rfl (by omega) ?_ | refine OW_load1 (by first | with_reducible exact one_u8 | with_reducible exact one_bytes) rfl _ (by assumption) ?_ | (refine OW_isLoad ?_; refine OW_loadBk (by first | with_reducible exact one_u8 | with_reducible exact one_int | with_reducible exact one_str | with_reducible exact one_bytes) rfl (by assumption) _ (by rfl) ?_))
         refine OW_nil ?_
         exact stay_mk _ _ _ _)
    | (apply OY_qtake _ rfl rfl
       · intro wd hwd
         (first | refine OW_fieldBL fldo_Q0 rfl ?_ | refine OW_fieldBL fldo_Q1 rfl ?_ | refine OW_fieldBL fldo_Q2 rfl ?_ | refine OW_fieldBL fldo_Q3 rfl ?_ | refine OW_fieldBL fldo_Q4 rfl ?_ | refine OW_fieldBL fldo_Q5 rfl ?_ | refine OW_fieldBL fldo_Q6 rfl ?_ | refine OW_fieldBL fldo_Q7 rfl ?_ | refine OW_fieldBL fldo_Q8 rfl ?_ | refine OW_fieldBL fldo_Q9 rfl ?_ | refine OW_fieldG fldo_G0 rfl ?_ | refine OW_fieldG fldo_G1 rfl ?_ | refine OW_fieldG fldo_G2 rfl ?_ | refine OW_fieldBL fldo_G0 rfl ?_ | refine OW_fieldBL fldo_G1 rfl ?_ | refine OW_fieldBL fldo_G2 rfl ?_ | refine OW_nilCheck rfl ?_ | refine OW_lenL und_string rfl ?_ | refine OW_eqlE rfl rfl ?_ | refine OW_moveV (.int _ _) rfl ?_ | refine OW_moveV (.slice _ _ _) rfl ?_ | refine OW_moveV (.bool _) rfl ?_ | refine OW_moveV (.pointer _) rfl ?_ | refine OW_moveV (.string _) rfl ?_ | refine OW_moveV (.agg _) rfl ?_ | refine OW_moveV (.tuple _) rfl ?_ | refine OW_nil ?_ | refine thenE_normal ?_ | refine CW_seq ?_ | refine CW_region (by kernel_rfl) ?_ | refine OW_assignV (.int _ _) rfl ?_ | refine OW_assignV (.slice _ _ _) rfl ?_ | refine OW_assignV (.bool _) rfl ?_ | refine OW_assignV (.pointer _) rfl ?_ | refine OW_assignV (.string _) rfl ?_ | refine OW_assignV (.agg _) rfl ?_ | refine OW_assignV (.tuple _) rfl ?_ | refine OW_addI rfl rfl (by omega) ?_ | refine OW_subI rfl rfl (by omega) ?_ | refine OW_mulI rfl rfl (by omega) ?_ | refine OW_lss rfl rfl ?_ | refine OW_extract rfl rfl ?_ | refine OW_gtr rfl rfl ?_ | refine OW_leq rfl rfl ?_ | refine OW_geq rfl rfl ?_ | refine OW_eql rfl rfl ?_ | refine OW_neq rfl rfl ?_ | refine OW_not rfl ?_ | refine OW_pickT rfl _ rfl ?_ | refine OW_pickF rfl (.bool _) rfl ?_ | refine OW_pickB rfl rfl rfl ?_ | refine OW_move ?_ | refine OW_assign ?_ | refine OW_pass rfl ?_ | refine OW_take rfl ?_ | refine OW_lenS (by first | with_reducible exact und_bytes | with_reducible exact und_bytess) rfl ?_ | refine OW_convInt (by first | with_reducible exact und_u8 | with_reducible exact und_u64 | with_reducible exact und_int | with_reducible exact und_u32) (by first | with_reducible exact und_u8 | with_reducible exact und_u64 | with_reducible exact und_int | with_reducible exact und_u32) rfl ?_ | refine OW_add rfl rfl ?_ | refine OW_sub rfl rfl ?_ | refine OW_mul rfl rfl ?_ | refine OW_min2 rfl rfl ?_ | refine OW_max2 rfl rfl ?_ | refine OW_neg rfl ?_ | refine CW_block ?_ | refine CW_condT rfl ?_ | refine CW_condF rfl ?_ | refine CW_exit ?_ | refine CW_ret ?_ | refine CW_skip ?_ | refine LW_seq ?_ | refine LW_regC ?_ | refine LW_condC ?_ | refine LW_regF ?_ | refine LW_condF ?_ | refine FW_seq ?_ | refine FW_region (by kernel_rfl) ?_ | refine FW_block ?_ | refine FW_condT rfl ?_ | refine FW_condF rfl ?_ | refine FW_exit ?_ | refine FW_ret ?_ | refine FW_skip ?_ | refine LW_ret ?_ | refine LW_skip ?_ | refine thenE_exit ?_ | refine thenE_ret ?_ | refine inBlockE_normal ?_ | refine inBlockE_same ?_ | refine inBlockE_ret ?_ | refine inBlockE_ne (by rfl) ?_ | refine OW_eqlB (by with_reducible exact und_bool) rfl rfl ?_ | refine OW_neqB (by with_reducible exact und_bool) rfl rfl ?_ | refine OW_idxS (by with_reducible exact und_bytes) one_u8 rfl rfl _ rfl (by omega) ?_ | refine OW_idxS (by with_reducible exact und_bytess) one_bytes rfl rfl _ rfl (by omega) ?_ | refine OW_load1 (by first | with_reducible exact one_u8 | with_reducible exact one_bytes) rfl _ (by assumption) ?_ | (refine OW_isLoad ?_; refine OW_loadBk (by first | with_reducible exact one_u8 | with_reducible exact one_int | with_reducible exact one_str | with_reducible exact one_bytes) rfl (by assumption) _ (by rfl) ?_) | (refine OW_isLoad ?_; refine OW_loadBk (by first | with_reducible exact one_u8 | with_reducible exact one_bytes | with_reducible exact one_bool | with_reducible exact one_int | with_reducible exact one_errno | with_reducible exact one_u32 | with_reducible exact one_u64 | with_reducible exact one_string | with_reducible exact one_int | with_reducible exact one_str | with_reducible exact one_bytes | with_reducible exact one_u8) rfl (by apply_assumption; assumption) _ (by first | assumption | rfl) ?_) | refine OW_load1 (by first | with_reducible exact one_u8 | with_reducible exact one_bytes | with_reducible exact one_bool | with_reducible exact one_int | with_reducible exact one_errno | with_reducible exact one_u32 | with_reducible exact one_u64 | with_reducible exact one_string | with_reducible exact one_int | with_reducible exact one_str | with_reducible exact one_bytes | with_reducible exact one_u8) rfl _ (by apply_assumption; assumption) ?_)
         refine OW_nil ?_
         exact stay_mk _ _ _ _)
    | refine OY_a (actY_of rfl ?_)
    | refine OY_d (actY_of rfl ?_)
    | refine OY_a (actY_pass rfl rfl ?_)
    | refine OY_d (actY_pass rfl rfl ?_)
    | refine OY_a (actY_take rfl rfl ?_)
    | refine OY_d (actY_take rfl rfl ?_))
  exact hEnd.out) (k : B) : A := h ⟨k⟩
theorem may_is1 {q : QR} (h : decide (q.token.length ≤ 256) = true) (ho : q.op = 1) : mayQ q = (keyOk q && (q.value == []) && (q.old == []) && (q.n == 0) && (q.ten == 0) && room0 q && grant0 q) := by
  unfold mayQ mayO
  rw [h, ho]
  rfl
theorem may_is2 {q : QR} (h : decide (q.token.length ≤ 256) = true) (ho : q.op = 2) : mayQ q = (keyOk q && decide ((q.value.length : Int) ≤ 64) && (q.old == []) && (q.n == 0) && (q.ten == 0) && room0 q && grant0 q) := by
  unfold mayQ mayO
  rw [h, ho]
  rfl
theorem may_is3 {q : QR} (h : decide (q.token.length ≤ 256) = true) (ho : q.op = 3) : mayQ q = (keyOk q && decide ((q.value.length : Int) ≤ 64) && decide ((q.old.length : Int) ≤ 64) && (q.n == 0) && (q.ten == 0) && room0 q && grant0 q) := by
  unfold mayQ mayO
  rw [h, ho]
  rfl
theorem may_is4 {q : QR} (h : decide (q.token.length ≤ 256) = true) (ho : q.op = 4) : mayQ q = (keyOk q && (q.value == []) && (q.old == []) && (q.n == 0) && (q.ten == 0) && room0 q && grant0 q) := by
  unfold mayQ mayO
  rw [h, ho]
  rfl
theorem may_is5 {q : QR} (h : decide (q.token.length ≤ 256) = true) (ho : q.op = 5) : mayQ q = (decide ((q.key.length : Int) ≤ 24) && (q.value == []) && (q.old == []) && inR q.n 1 16 && (q.ten == 0) && room0 q && grant0 q) := by
  unfold mayQ mayO
  rw [h, ho]
  rfl
theorem may_is6 {q : QR} (h : decide (q.token.length ≤ 256) = true) (ho : q.op = 6) : mayQ q = ((q.key == []) && (q.value == []) && (q.old == []) && (q.n == 0) && inR q.ten 1 8 && inR q.keys 0 65536 && inR q.space 0 65536 && grant0 q) := by
  unfold mayQ mayO
  rw [h, ho]
  rfl
theorem may_is7 {q : QR} (h : decide (q.token.length ≤ 256) = true) (ho : q.op = 7) : mayQ q = ((q.key == []) && (q.value == []) && (q.old == []) && (q.n == 0) && inR q.ten 1 8 && inR q.keys 0 65536 && inR q.space 0 65536 && grant0 q) := by
  unfold mayQ mayO
  rw [h, ho]
  rfl
theorem may_is8 {q : QR} (h : decide (q.token.length ≤ 256) = true) (ho : q.op = 8) : mayQ q = ((q.key == []) && (q.value == []) && (q.old == []) && (q.n == 0) && inR q.ten 0 8 && room0 q && inR q.rights.toNat 1 15 && inR q.expiry 0 1099511627776 && (q.serial == 0)) := by
  unfold mayQ mayO
  rw [h, ho]
  rfl
theorem may_is9 {q : QR} (h : decide (q.token.length ≤ 256) = true) (ho : q.op = 9) : mayQ q = ((q.key == []) && (q.value == []) && (q.old == []) && inR q.n 0 65536 && inR q.ten 0 8 && room0 q && grant0 q) := by
  unfold mayQ mayO
  rw [h, ho]
  rfl
theorem may_is10 {q : QR} (h : decide (q.token.length ≤ 256) = true) (ho : q.op = 10) : mayQ q = ((q.key == []) && (q.value == []) && (q.old == []) && inR q.n 0 65536 && (q.ten == 0) && room0 q && grant0 q) := by
  unfold mayQ mayO
  rw [h, ho]
  rfl
theorem may_is0 {q : QR} (ho : ¬ q.op = 1 ∧ ¬ q.op = 2 ∧ ¬ q.op = 3 ∧ ¬ q.op = 4 ∧ ¬ q.op = 5 ∧ ¬ q.op = 6 ∧ ¬ q.op = 7 ∧ ¬ q.op = 8 ∧ ¬ q.op = 9 ∧ ¬ q.op = 10) : mayQ q = false := by
  obtain ⟨h1, h2, h3, h4, h5, h6, h7, h8, h9, h10⟩ := ho
  unfold mayQ mayO
  rw [if_neg (by simp [h1, h4]), if_neg h2, if_neg h3, if_neg h5, if_neg (by simp [h6, h7]), if_neg h8, if_neg h9, if_neg h10, Bool.and_false]
theorem op_ne {a : UInt8} {k : Nat} (hk : k < 256) (h : ¬ a = UInt8.ofNat k) : ((a.toNat : Int) == (k : Int)) = false := by
  rw [beq_eq_false_iff_ne]
  intro hh
  refine h (UInt8.toNat_inj.1 ?_)
  rw [UInt8.toNat_ofNat']
  omega
set_option maxHeartbeats 8000000 in
theorem refMay_any (w : World) (A : Option Addr) (c : Nat) (q : QR) (hI : I64 q.expiry ∧ I64 q.serial) : Calls Try.prog 23 #[.agg (qcells q (.slice A q.token.length c)).toArray] w (RetV w (.bool (mayQ q))) := by
  refine calls_of_CW Try.func23 rfl (by simp [Try.ntmps23]) ?_
  rw [Try.ntmps23]
  refine go_ReqM (k := ?_)
  refine OW_box _ rfl ?_
  intro w1 g hb hg hlt hx1
  have hb1 : Blk w1 g 39 (qcells q (.slice A q.token.length c)).toArray := hb
  clear hb
  refine go_ReqM (k := ?_)
  refine CW_cond _ rfl (fun hh => ?_) (fun hh => ?_)
  · have hl := of_decide_eq_true hh
    refine go_ReqM (k := ?_)
    exact bodyE_ret1 rfl (.bool false) rfl ⟨by unfold mayQ; rw [decide_eq_false (by omega)]; rfl, hx1⟩
  have ht : decide (q.token.length ≤ 256) = true := by have hl := of_decide_eq_false hh; exact decide_eq_true (by omega)
  clear hh
  refine go_ReqM (k := ?_)
  have hK := (refIn_any w1 (q.key.length : Int) 1 24 : Calls Try.prog _ _ w1 (RetV w1 (.bool (keyOk q))))
  refine OW_callV Try.func64 (by kernel_rfl) rfl hK rfl ?_
  intro w2 hx2
  clear hK
  have hb2 := hb1.ext hx2
  have hx02 := hx1.trans' hx2
  clear hb1
  refine go_ReqM (k := ?_)
  obtain ⟨C, hC⟩ : ∃ C : World → Prop, C = fun v => Ext w2 v := ⟨_, rfl⟩
  have y_hb2 := blkE hC hb2
  refine CW_tree2 [1, 4] (.p 0 (.q 1 (.p 2 (.p 3 (.q 4 (.p 5 (.p 6 (.p 7 .done)))))))) (C) (by kernel_rfl) (by kernel_rfl) (by kernel_rfl) ?_ ?_
  · exact inE hC
  intro w3 hx3 h_C
  refine oy_ReqM (k := ?_)
  have hb3 := hb2.ext hx3
  have hx03 := hx02.trans' hx3
  clear C hC y_hb2 h_C hb2
  refine go_ReqM (k := ?_)
  obtain ⟨C, hC⟩ : ∃ C : World → Prop, C = fun v => Ext w3 v := ⟨_, rfl⟩
  have y_hb3 := blkE hC hb3
  refine CW_tree2 [1, 4] (.p 0 (.q 1 (.p 2 (.p 3 (.q 4 (.p 5 (.p 6 (.p 7 .done)))))))) (C) (by kernel_rfl) (by kernel_rfl) (by kernel_rfl) ?_ ?_
  · exact inE hC
  intro w4 hx4 h_C
  refine oy_ReqM (k := ?_)
  have hb4 := hb3.ext hx4
  have hx04 := hx03.trans' hx4
  clear C hC y_hb3 h_C hb3
  refine thenE_normal ?_
  refine CW_seq ?_
  refine CW_meet (fun e' w' => e' 1 = .pointer (some ⟨g, 0, none⟩) ∧ e' 3 = .bool (keyOk q) ∧ e' 4 = .bool (q.key == []) ∧ e' 5 = .bool (q.value == []) ∧ e' 6 = .bool (q.old == []) ∧ e' 7 = .bool (q.n == 0) ∧ e' 8 = .bool (q.ten == 0) ∧ e' 9 = .bool (room0 q) ∧ Blk w' g 39 (qcells q (.slice A q.token.length c)).toArray ∧ Ext w w') ?_ ?_
  · refine go_ReqM (k := ?_)
    refine OW_split 39 _ rfl (fun h1 => ?_) (fun h1 => ?_)
    · refine go_ReqM (k := ?_)
      exact ⟨rfl, rfl, rfl, rfl, rfl, rfl, rfl, rfl, by unfold room0; rw [h1]; rfl, hb4, hx04⟩
    · refine go_ReqM (k := ?_)
      exact ⟨rfl, rfl, rfl, rfl, rfl, rfl, rfl, rfl, by unfold room0; rw [h1]; rfl, hb4, hx04⟩
  clear hb4
  rintro e' w5 ⟨e1, e3, e4, e5, e6, e7, e8, e9, hb5, hx05⟩
  rw [upd_self e1, upd_self e3, upd_self e4, upd_self e5, upd_self e6, upd_self e7, upd_self e8, upd_self e9]
  refine go_ReqM (k := ?_)
  refine OW_loadX agg_Grant rfl (gcells ⟨q.rights, q.expiry, q.serial⟩) rfl (grant_in hb5) ?_
  refine go_ReqM (k := ?_)
  refine OW_build _ _ bld_G0 rfl ?_
  refine go_ReqM (k := ?_)
  refine OW_eqlG rfl rfl ⟨hI.1, hI.2⟩ ⟨by unfold I64; simp, by unfold I64; simp⟩ (grant0 q) (grant0_iff q) ?_
  refine go_ReqM (k := ?_)
  obtain ⟨C, hC⟩ : ∃ C : World → Prop, C = fun v => Ext w5 v := ⟨_, rfl⟩
  have y_hb5 := blkE hC hb5
  refine CW_tree2 [1, 4] (.p 0 (.q 1 (.p 3 (.q 4 (.a 2 (.d 5 (.p 6 (.p 7 .done)))))))) (C) (by kernel_rfl) (by kernel_rfl) (by kernel_rfl) ?_ ?_
  · exact inE hC
  intro w6 hx6 h_C
  refine oy_ReqM (k := ?_)
  refine OW_callV Try.func64 (by kernel_rfl) rfl (refIn_any w6 q.ten 1 8) rfl ?_
  intro w7 hx7
  first | refine OW_nil (goY_mkE hC (hx6.trans' hx7) ?_) | refine OW_nil (goY_dropE hC (hx6.trans' hx7) ?_)
  refine oy_ReqM (k := ?_)
  refine OW_callV Try.func64 (by kernel_rfl) rfl (refIn_any w7 q.ten 0 8) rfl ?_
  intro w8 hx8
  first | refine OW_nil (goY_mkE hC ((hx6.trans' hx7).trans' hx8) ?_) | refine OW_nil (goY_dropE hC ((hx6.trans' hx7).trans' hx8) ?_)
  refine oy_ReqM (k := ?_)
  have hx58 := (hx6.trans' hx7).trans' hx8
  have hb8 := hb5.ext hx58
  have hx08 := hx05.trans' hx58
  clear C hC y_hb5 h_C hb5
  by_cases o1 : q.op = 1
  · have hm := may_is1 ht o1
    have m0 : w8.cell? ⟨g, 0, none⟩ = some (.int .u8 1) := by have h : w8.cell? ⟨g, 0, none⟩ = some (bv q.op) := hb8.cell 0; rw [o1] at h; exact h
    refine go_ReqM (k := ?_)
    refine OW_split 60 _ rfl (fun h1 => ?_) (fun h1 => ?_)
    rotate_left 1
    · refine go_ReqM (k := ?_)
      exact bodyE_ret1 rfl (.bool false) rfl ⟨by rw [hm, h1]; rfl, hx08⟩
    refine go_ReqM (k := ?_)
    refine OW_split 63 _ rfl (fun h2 => ?_) (fun h2 => ?_)
    rotate_left 1
    · refine go_ReqM (k := ?_)
      exact bodyE_ret1 rfl (.bool false) rfl ⟨by rw [hm, h1, h2]; rfl, hx08⟩
    refine go_ReqM (k := ?_)
    refine OW_split 66 _ rfl (fun h3 => ?_) (fun h3 => ?_)
    rotate_left 1
    · refine go_ReqM (k := ?_)
      exact bodyE_ret1 rfl (.bool false) rfl ⟨by rw [hm, h1, h2, h3]; rfl, hx08⟩
    refine go_ReqM (k := ?_)
    refine OW_split 69 _ rfl (fun h4 => ?_) (fun h4 => ?_)
    rotate_left 1
    · refine go_ReqM (k := ?_)
      exact bodyE_ret1 rfl (.bool false) rfl ⟨by rw [hm, h1, h2, h3, h4]; rfl, hx08⟩
    refine go_ReqM (k := ?_)
    refine OW_split 72 _ rfl (fun h5 => ?_) (fun h5 => ?_)
    rotate_left 1
    · refine go_ReqM (k := ?_)
      exact bodyE_ret1 rfl (.bool false) rfl ⟨by rw [hm, h1, h2, h3, h4, h5]; rfl, hx08⟩
    refine go_ReqM (k := ?_)
    refine OW_split 75 _ rfl (fun h6 => ?_) (fun h6 => ?_)
    rotate_left 1
    · refine go_ReqM (k := ?_)
      exact bodyE_ret1 rfl (.bool false) rfl ⟨by rw [hm, h1, h2, h3, h4, h5, h6]; rfl, hx08⟩
    refine go_ReqM (k := ?_)
    exact bodyE_ret1 rfl (.bool _) rfl ⟨by rw [hm, h1, h2, h3, h4, h5, h6]; rfl, hx08⟩
  by_cases o2 : q.op = 2
  · have hm := may_is2 ht o2
    have m0 : w8.cell? ⟨g, 0, none⟩ = some (.int .u8 2) := by have h : w8.cell? ⟨g, 0, none⟩ = some (bv q.op) := hb8.cell 0; rw [o2] at h; exact h
    refine go_ReqM (k := ?_)
    refine OW_split 81 _ rfl (fun h1 => ?_) (fun h1 => ?_)
    rotate_left 1
    · refine go_ReqM (k := ?_)
      exact bodyE_ret1 rfl (.bool false) rfl ⟨by rw [hm, h1]; rfl, hx08⟩
    refine go_ReqM (k := ?_)
    refine OW_split 87 _ rfl (fun h2 => ?_) (fun h2 => ?_)
    rotate_left 1
    · refine go_ReqM (k := ?_)
      exact bodyE_ret1 rfl (.bool false) rfl ⟨by rw [hm, h1, h2]; rfl, hx08⟩
    refine go_ReqM (k := ?_)
    refine OW_split 90 _ rfl (fun h3 => ?_) (fun h3 => ?_)
    rotate_left 1
    · refine go_ReqM (k := ?_)
      exact bodyE_ret1 rfl (.bool false) rfl ⟨by rw [hm, h1, h2, h3]; rfl, hx08⟩
    refine go_ReqM (k := ?_)
    refine OW_split 93 _ rfl (fun h4 => ?_) (fun h4 => ?_)
    rotate_left 1
    · refine go_ReqM (k := ?_)
      exact bodyE_ret1 rfl (.bool false) rfl ⟨by rw [hm, h1, h2, h3, h4]; rfl, hx08⟩
    refine go_ReqM (k := ?_)
    refine OW_split 96 _ rfl (fun h5 => ?_) (fun h5 => ?_)
    rotate_left 1
    · refine go_ReqM (k := ?_)
      exact bodyE_ret1 rfl (.bool false) rfl ⟨by rw [hm, h1, h2, h3, h4, h5]; rfl, hx08⟩
    refine go_ReqM (k := ?_)
    refine OW_split 99 _ rfl (fun h6 => ?_) (fun h6 => ?_)
    rotate_left 1
    · refine go_ReqM (k := ?_)
      exact bodyE_ret1 rfl (.bool false) rfl ⟨by rw [hm, h1, h2, h3, h4, h5, h6]; rfl, hx08⟩
    refine go_ReqM (k := ?_)
    exact bodyE_ret1 rfl (.bool _) rfl ⟨by rw [hm, h1, h2, h3, h4, h5, h6]; rfl, hx08⟩
  by_cases o3 : q.op = 3
  · have hm := may_is3 ht o3
    have m0 : w8.cell? ⟨g, 0, none⟩ = some (.int .u8 3) := by have h : w8.cell? ⟨g, 0, none⟩ = some (bv q.op) := hb8.cell 0; rw [o3] at h; exact h
    refine go_ReqM (k := ?_)
    refine OW_split 105 _ rfl (fun h1 => ?_) (fun h1 => ?_)
    rotate_left 1
    · refine go_ReqM (k := ?_)
      exact bodyE_ret1 rfl (.bool false) rfl ⟨by rw [hm, h1]; rfl, hx08⟩
    refine go_ReqM (k := ?_)
    refine OW_split 111 _ rfl (fun h2 => ?_) (fun h2 => ?_)
    rotate_left 1
    · refine go_ReqM (k := ?_)
      exact bodyE_ret1 rfl (.bool false) rfl ⟨by rw [hm, h1, h2]; rfl, hx08⟩
    refine go_ReqM (k := ?_)
    refine OW_split 117 _ rfl (fun h3 => ?_) (fun h3 => ?_)
    rotate_left 1
    · refine go_ReqM (k := ?_)
      exact bodyE_ret1 rfl (.bool false) rfl ⟨by rw [hm, h1, h2, h3]; rfl, hx08⟩
    refine go_ReqM (k := ?_)
    refine OW_split 120 _ rfl (fun h4 => ?_) (fun h4 => ?_)
    rotate_left 1
    · refine go_ReqM (k := ?_)
      exact bodyE_ret1 rfl (.bool false) rfl ⟨by rw [hm, h1, h2, h3, h4]; rfl, hx08⟩
    refine go_ReqM (k := ?_)
    refine OW_split 123 _ rfl (fun h5 => ?_) (fun h5 => ?_)
    rotate_left 1
    · refine go_ReqM (k := ?_)
      exact bodyE_ret1 rfl (.bool false) rfl ⟨by rw [hm, h1, h2, h3, h4, h5]; rfl, hx08⟩
    refine go_ReqM (k := ?_)
    refine OW_split 126 _ rfl (fun h6 => ?_) (fun h6 => ?_)
    rotate_left 1
    · refine go_ReqM (k := ?_)
      exact bodyE_ret1 rfl (.bool false) rfl ⟨by rw [hm, h1, h2, h3, h4, h5, h6]; rfl, hx08⟩
    refine go_ReqM (k := ?_)
    exact bodyE_ret1 rfl (.bool _) rfl ⟨by rw [hm, h1, h2, h3, h4, h5, h6]; rfl, hx08⟩
  by_cases o4 : q.op = 4
  · have hm := may_is4 ht o4
    have m0 : w8.cell? ⟨g, 0, none⟩ = some (.int .u8 4) := by have h : w8.cell? ⟨g, 0, none⟩ = some (bv q.op) := hb8.cell 0; rw [o4] at h; exact h
    refine go_ReqM (k := ?_)
    refine OW_split 60 _ rfl (fun h1 => ?_) (fun h1 => ?_)
    rotate_left 1
    · refine go_ReqM (k := ?_)
      exact bodyE_ret1 rfl (.bool false) rfl ⟨by rw [hm, h1]; rfl, hx08⟩
    refine go_ReqM (k := ?_)
    refine OW_split 63 _ rfl (fun h2 => ?_) (fun h2 => ?_)
    rotate_left 1
    · refine go_ReqM (k := ?_)
      exact bodyE_ret1 rfl (.bool false) rfl ⟨by rw [hm, h1, h2]; rfl, hx08⟩
    refine go_ReqM (k := ?_)
    refine OW_split 66 _ rfl (fun h3 => ?_) (fun h3 => ?_)
    rotate_left 1
    · refine go_ReqM (k := ?_)
      exact bodyE_ret1 rfl (.bool false) rfl ⟨by rw [hm, h1, h2, h3]; rfl, hx08⟩
    refine go_ReqM (k := ?_)
    refine OW_split 69 _ rfl (fun h4 => ?_) (fun h4 => ?_)
    rotate_left 1
    · refine go_ReqM (k := ?_)
      exact bodyE_ret1 rfl (.bool false) rfl ⟨by rw [hm, h1, h2, h3, h4]; rfl, hx08⟩
    refine go_ReqM (k := ?_)
    refine OW_split 72 _ rfl (fun h5 => ?_) (fun h5 => ?_)
    rotate_left 1
    · refine go_ReqM (k := ?_)
      exact bodyE_ret1 rfl (.bool false) rfl ⟨by rw [hm, h1, h2, h3, h4, h5]; rfl, hx08⟩
    refine go_ReqM (k := ?_)
    refine OW_split 75 _ rfl (fun h6 => ?_) (fun h6 => ?_)
    rotate_left 1
    · refine go_ReqM (k := ?_)
      exact bodyE_ret1 rfl (.bool false) rfl ⟨by rw [hm, h1, h2, h3, h4, h5, h6]; rfl, hx08⟩
    refine go_ReqM (k := ?_)
    exact bodyE_ret1 rfl (.bool _) rfl ⟨by rw [hm, h1, h2, h3, h4, h5, h6]; rfl, hx08⟩
  by_cases o5 : q.op = 5
  · have hm := may_is5 ht o5
    have m0 : w8.cell? ⟨g, 0, none⟩ = some (.int .u8 5) := by have h : w8.cell? ⟨g, 0, none⟩ = some (bv q.op) := hb8.cell 0; rw [o5] at h; exact h
    refine go_ReqM (k := ?_)
    refine OW_split 135 _ rfl (fun h1 => ?_) (fun h1 => ?_)
    rotate_left 1
    · refine go_ReqM (k := ?_)
      exact bodyE_ret1 rfl (.bool false) rfl ⟨by rw [hm, h1]; rfl, hx08⟩
    refine go_ReqM (k := ?_)
    refine OW_split 138 _ rfl (fun h2 => ?_) (fun h2 => ?_)
    rotate_left 1
    · refine go_ReqM (k := ?_)
      exact bodyE_ret1 rfl (.bool false) rfl ⟨by rw [hm, h1, h2]; rfl, hx08⟩
    refine go_ReqM (k := ?_)
    refine OW_split 141 _ rfl (fun h3 => ?_) (fun h3 => ?_)
    rotate_left 1
    · refine go_ReqM (k := ?_)
      exact bodyE_ret1 rfl (.bool false) rfl ⟨by rw [hm, h1, h2, h3]; rfl, hx08⟩
    refine go_ReqM (k := ?_)
    refine OW_callV Try.func64 (by kernel_rfl) rfl (refIn_any w8 q.n 1 16) rfl ?_
    intro w9 hx9
    have hb9 := hb8.ext hx9
    have hx09 := hx08.trans' hx9
    clear hb8
    refine go_ReqM (k := ?_)
    refine OW_split 146 _ rfl (fun h4 => ?_) (fun h4 => ?_)
    rotate_left 1
    · refine go_ReqM (k := ?_)
      exact bodyE_ret1 rfl (.bool false) rfl ⟨by rw [hm, h1, h2, h3, h4]; rfl, hx09⟩
    refine go_ReqM (k := ?_)
    refine OW_split 149 _ rfl (fun h5 => ?_) (fun h5 => ?_)
    rotate_left 1
    · refine go_ReqM (k := ?_)
      exact bodyE_ret1 rfl (.bool false) rfl ⟨by rw [hm, h1, h2, h3, h4, h5]; rfl, hx09⟩
    refine go_ReqM (k := ?_)
    refine OW_split 152 _ rfl (fun h6 => ?_) (fun h6 => ?_)
    rotate_left 1
    · refine go_ReqM (k := ?_)
      exact bodyE_ret1 rfl (.bool false) rfl ⟨by rw [hm, h1, h2, h3, h4, h5, h6]; rfl, hx09⟩
    refine go_ReqM (k := ?_)
    exact bodyE_ret1 rfl (.bool _) rfl ⟨by rw [hm, h1, h2, h3, h4, h5, h6]; rfl, hx09⟩
  by_cases o6 : q.op = 6
  · have hm := may_is6 ht o6
    have m0 : w8.cell? ⟨g, 0, none⟩ = some (.int .u8 6) := by have h : w8.cell? ⟨g, 0, none⟩ = some (bv q.op) := hb8.cell 0; rw [o6] at h; exact h
    refine go_ReqM (k := ?_)
    refine OW_split 159 _ rfl (fun h1 => ?_) (fun h1 => ?_)
    rotate_left 1
    · refine go_ReqM (k := ?_)
      exact bodyE_ret1 rfl (.bool false) rfl ⟨by rw [hm, h1]; rfl, hx08⟩
    refine go_ReqM (k := ?_)
    refine OW_split 162 _ rfl (fun h2 => ?_) (fun h2 => ?_)
    rotate_left 1
    · refine go_ReqM (k := ?_)
      exact bodyE_ret1 rfl (.bool false) rfl ⟨by rw [hm, h1, h2]; rfl, hx08⟩
    refine go_ReqM (k := ?_)
    refine OW_split 165 _ rfl (fun h3 => ?_) (fun h3 => ?_)
    rotate_left 1
    · refine go_ReqM (k := ?_)
      exact bodyE_ret1 rfl (.bool false) rfl ⟨by rw [hm, h1, h2, h3]; rfl, hx08⟩
    refine go_ReqM (k := ?_)
    refine OW_split 168 _ rfl (fun h4 => ?_) (fun h4 => ?_)
    rotate_left 1
    · refine go_ReqM (k := ?_)
      exact bodyE_ret1 rfl (.bool false) rfl ⟨by rw [hm, h1, h2, h3, h4]; rfl, hx08⟩
    refine go_ReqM (k := ?_)
    refine OW_split 171 _ rfl (fun h5 => ?_) (fun h5 => ?_)
    rotate_left 1
    · refine go_ReqM (k := ?_)
      exact bodyE_ret1 rfl (.bool false) rfl ⟨by rw [hm, h1, h2, h3, h4, h5]; rfl, hx08⟩
    refine go_ReqM (k := ?_)
    refine OW_callV Try.func64 (by kernel_rfl) rfl (refIn_any w8 q.keys 0 65536) rfl ?_
    intro w9 hx9
    have hb9 := hb8.ext hx9
    have hx09 := hx08.trans' hx9
    clear hb8
    refine go_ReqM (k := ?_)
    refine OW_split 176 _ rfl (fun h6 => ?_) (fun h6 => ?_)
    rotate_left 1
    · refine go_ReqM (k := ?_)
      exact bodyE_ret1 rfl (.bool false) rfl ⟨by rw [hm, h1, h2, h3, h4, h5, h6]; rfl, hx09⟩
    refine go_ReqM (k := ?_)
    refine OW_callV Try.func64 (by kernel_rfl) rfl (refIn_any w9 q.space 0 65536) rfl ?_
    intro w10 hx10
    have hb10 := hb9.ext hx10
    have hx010 := hx09.trans' hx10
    clear hb9
    refine go_ReqM (k := ?_)
    refine OW_split 181 _ rfl (fun h7 => ?_) (fun h7 => ?_)
    rotate_left 1
    · refine go_ReqM (k := ?_)
      exact bodyE_ret1 rfl (.bool false) rfl ⟨by rw [hm, h1, h2, h3, h4, h5, h6, h7]; rfl, hx010⟩
    refine go_ReqM (k := ?_)
    exact bodyE_ret1 rfl (.bool _) rfl ⟨by rw [hm, h1, h2, h3, h4, h5, h6, h7]; rfl, hx010⟩
  by_cases o7 : q.op = 7
  · have hm := may_is7 ht o7
    have m0 : w8.cell? ⟨g, 0, none⟩ = some (.int .u8 7) := by have h : w8.cell? ⟨g, 0, none⟩ = some (bv q.op) := hb8.cell 0; rw [o7] at h; exact h
    refine go_ReqM (k := ?_)
    refine OW_split 159 _ rfl (fun h1 => ?_) (fun h1 => ?_)
    rotate_left 1
    · refine go_ReqM (k := ?_)
      exact bodyE_ret1 rfl (.bool false) rfl ⟨by rw [hm, h1]; rfl, hx08⟩
    refine go_ReqM (k := ?_)
    refine OW_split 162 _ rfl (fun h2 => ?_) (fun h2 => ?_)
    rotate_left 1
    · refine go_ReqM (k := ?_)
      exact bodyE_ret1 rfl (.bool false) rfl ⟨by rw [hm, h1, h2]; rfl, hx08⟩
    refine go_ReqM (k := ?_)
    refine OW_split 165 _ rfl (fun h3 => ?_) (fun h3 => ?_)
    rotate_left 1
    · refine go_ReqM (k := ?_)
      exact bodyE_ret1 rfl (.bool false) rfl ⟨by rw [hm, h1, h2, h3]; rfl, hx08⟩
    refine go_ReqM (k := ?_)
    refine OW_split 168 _ rfl (fun h4 => ?_) (fun h4 => ?_)
    rotate_left 1
    · refine go_ReqM (k := ?_)
      exact bodyE_ret1 rfl (.bool false) rfl ⟨by rw [hm, h1, h2, h3, h4]; rfl, hx08⟩
    refine go_ReqM (k := ?_)
    refine OW_split 171 _ rfl (fun h5 => ?_) (fun h5 => ?_)
    rotate_left 1
    · refine go_ReqM (k := ?_)
      exact bodyE_ret1 rfl (.bool false) rfl ⟨by rw [hm, h1, h2, h3, h4, h5]; rfl, hx08⟩
    refine go_ReqM (k := ?_)
    refine OW_callV Try.func64 (by kernel_rfl) rfl (refIn_any w8 q.keys 0 65536) rfl ?_
    intro w9 hx9
    have hb9 := hb8.ext hx9
    have hx09 := hx08.trans' hx9
    clear hb8
    refine go_ReqM (k := ?_)
    refine OW_split 176 _ rfl (fun h6 => ?_) (fun h6 => ?_)
    rotate_left 1
    · refine go_ReqM (k := ?_)
      exact bodyE_ret1 rfl (.bool false) rfl ⟨by rw [hm, h1, h2, h3, h4, h5, h6]; rfl, hx09⟩
    refine go_ReqM (k := ?_)
    refine OW_callV Try.func64 (by kernel_rfl) rfl (refIn_any w9 q.space 0 65536) rfl ?_
    intro w10 hx10
    have hb10 := hb9.ext hx10
    have hx010 := hx09.trans' hx10
    clear hb9
    refine go_ReqM (k := ?_)
    refine OW_split 181 _ rfl (fun h7 => ?_) (fun h7 => ?_)
    rotate_left 1
    · refine go_ReqM (k := ?_)
      exact bodyE_ret1 rfl (.bool false) rfl ⟨by rw [hm, h1, h2, h3, h4, h5, h6, h7]; rfl, hx010⟩
    refine go_ReqM (k := ?_)
    exact bodyE_ret1 rfl (.bool _) rfl ⟨by rw [hm, h1, h2, h3, h4, h5, h6, h7]; rfl, hx010⟩
  by_cases o8 : q.op = 8
  · have hm := may_is8 ht o8
    have m0 : w8.cell? ⟨g, 0, none⟩ = some (.int .u8 8) := by have h : w8.cell? ⟨g, 0, none⟩ = some (bv q.op) := hb8.cell 0; rw [o8] at h; exact h
    refine go_ReqM (k := ?_)
    refine OW_split 187 _ rfl (fun h1 => ?_) (fun h1 => ?_)
    rotate_left 1
    · refine go_ReqM (k := ?_)
      exact bodyE_ret1 rfl (.bool false) rfl ⟨by rw [hm, h1]; rfl, hx08⟩
    refine go_ReqM (k := ?_)
    refine OW_split 190 _ rfl (fun h2 => ?_) (fun h2 => ?_)
    rotate_left 1
    · refine go_ReqM (k := ?_)
      exact bodyE_ret1 rfl (.bool false) rfl ⟨by rw [hm, h1, h2]; rfl, hx08⟩
    refine go_ReqM (k := ?_)
    refine OW_split 193 _ rfl (fun h3 => ?_) (fun h3 => ?_)
    rotate_left 1
    · refine go_ReqM (k := ?_)
      exact bodyE_ret1 rfl (.bool false) rfl ⟨by rw [hm, h1, h2, h3]; rfl, hx08⟩
    refine go_ReqM (k := ?_)
    refine OW_split 196 _ rfl (fun h4 => ?_) (fun h4 => ?_)
    rotate_left 1
    · refine go_ReqM (k := ?_)
      exact bodyE_ret1 rfl (.bool false) rfl ⟨by rw [hm, h1, h2, h3, h4]; rfl, hx08⟩
    refine go_ReqM (k := ?_)
    refine OW_split 199 _ rfl (fun h5 => ?_) (fun h5 => ?_)
    rotate_left 1
    · refine go_ReqM (k := ?_)
      exact bodyE_ret1 rfl (.bool false) rfl ⟨by rw [hm, h1, h2, h3, h4, h5]; rfl, hx08⟩
    refine go_ReqM (k := ?_)
    refine OW_split 202 _ rfl (fun h6 => ?_) (fun h6 => ?_)
    rotate_left 1
    · refine go_ReqM (k := ?_)
      exact bodyE_ret1 rfl (.bool false) rfl ⟨by rw [hm, h1, h2, h3, h4, h5, h6]; rfl, hx08⟩
    refine go_ReqM (k := ?_)
    rw [i64_u8]
    refine OW_callV Try.func64 (by kernel_rfl) rfl (refIn_any w8 q.rights.toNat 1 15) rfl ?_
    intro w9 hx9
    have hb9 := hb8.ext hx9
    have hx09 := hx08.trans' hx9
    clear hb8
    refine go_ReqM (k := ?_)
    refine OW_split 209 _ rfl (fun h7 => ?_) (fun h7 => ?_)
    rotate_left 1
    · refine go_ReqM (k := ?_)
      exact bodyE_ret1 rfl (.bool false) rfl ⟨by rw [hm, h1, h2, h3, h4, h5, h6, h7]; rfl, hx09⟩
    refine go_ReqM (k := ?_)
    refine OW_callV Try.func64 (by kernel_rfl) rfl (refIn_any w9 q.expiry 0 1099511627776) rfl ?_
    intro w10 hx10
    have hb10 := hb9.ext hx10
    have hx010 := hx09.trans' hx10
    clear hb9
    refine go_ReqM (k := ?_)
    refine OW_split 215 _ rfl (fun h8 => ?_) (fun h8 => ?_)
    rotate_left 1
    · refine go_ReqM (k := ?_)
      exact bodyE_ret1 rfl (.bool false) rfl ⟨by rw [hm, h1, h2, h3, h4, h5, h6, h7, h8]; rfl, hx010⟩
    refine go_ReqM (k := ?_)
    exact bodyE_ret1 rfl (.bool _) rfl ⟨by rw [hm, h1, h2, h3, h4, h5, h6, h7, h8]; rfl, hx010⟩
  by_cases o9 : q.op = 9
  · have hm := may_is9 ht o9
    have m0 : w8.cell? ⟨g, 0, none⟩ = some (.int .u8 9) := by have h : w8.cell? ⟨g, 0, none⟩ = some (bv q.op) := hb8.cell 0; rw [o9] at h; exact h
    refine go_ReqM (k := ?_)
    refine OW_split 224 _ rfl (fun h1 => ?_) (fun h1 => ?_)
    rotate_left 1
    · refine go_ReqM (k := ?_)
      exact bodyE_ret1 rfl (.bool false) rfl ⟨by rw [hm, h1]; rfl, hx08⟩
    refine go_ReqM (k := ?_)
    refine OW_split 227 _ rfl (fun h2 => ?_) (fun h2 => ?_)
    rotate_left 1
    · refine go_ReqM (k := ?_)
      exact bodyE_ret1 rfl (.bool false) rfl ⟨by rw [hm, h1, h2]; rfl, hx08⟩
    refine go_ReqM (k := ?_)
    refine OW_split 230 _ rfl (fun h3 => ?_) (fun h3 => ?_)
    rotate_left 1
    · refine go_ReqM (k := ?_)
      exact bodyE_ret1 rfl (.bool false) rfl ⟨by rw [hm, h1, h2, h3]; rfl, hx08⟩
    refine go_ReqM (k := ?_)
    refine OW_callV Try.func64 (by kernel_rfl) rfl (refIn_any w8 q.n 0 65536) rfl ?_
    intro w9 hx9
    have hb9 := hb8.ext hx9
    have hx09 := hx08.trans' hx9
    clear hb8
    refine go_ReqM (k := ?_)
    refine OW_split 235 _ rfl (fun h4 => ?_) (fun h4 => ?_)
    rotate_left 1
    · refine go_ReqM (k := ?_)
      exact bodyE_ret1 rfl (.bool false) rfl ⟨by rw [hm, h1, h2, h3, h4]; rfl, hx09⟩
    refine go_ReqM (k := ?_)
    refine OW_split 238 _ rfl (fun h5 => ?_) (fun h5 => ?_)
    rotate_left 1
    · refine go_ReqM (k := ?_)
      exact bodyE_ret1 rfl (.bool false) rfl ⟨by rw [hm, h1, h2, h3, h4, h5]; rfl, hx09⟩
    refine go_ReqM (k := ?_)
    refine OW_split 241 _ rfl (fun h6 => ?_) (fun h6 => ?_)
    rotate_left 1
    · refine go_ReqM (k := ?_)
      exact bodyE_ret1 rfl (.bool false) rfl ⟨by rw [hm, h1, h2, h3, h4, h5, h6]; rfl, hx09⟩
    refine go_ReqM (k := ?_)
    exact bodyE_ret1 rfl (.bool _) rfl ⟨by rw [hm, h1, h2, h3, h4, h5, h6]; rfl, hx09⟩
  by_cases o10 : q.op = 10
  · have hm := may_is10 ht o10
    have m0 : w8.cell? ⟨g, 0, none⟩ = some (.int .u8 10) := by have h : w8.cell? ⟨g, 0, none⟩ = some (bv q.op) := hb8.cell 0; rw [o10] at h; exact h
    refine go_ReqM (k := ?_)
    refine OW_split 247 _ rfl (fun h1 => ?_) (fun h1 => ?_)
    rotate_left 1
    · refine go_ReqM (k := ?_)
      exact bodyE_ret1 rfl (.bool false) rfl ⟨by rw [hm, h1]; rfl, hx08⟩
    refine go_ReqM (k := ?_)
    refine OW_split 250 _ rfl (fun h2 => ?_) (fun h2 => ?_)
    rotate_left 1
    · refine go_ReqM (k := ?_)
      exact bodyE_ret1 rfl (.bool false) rfl ⟨by rw [hm, h1, h2]; rfl, hx08⟩
    refine go_ReqM (k := ?_)
    refine OW_split 253 _ rfl (fun h3 => ?_) (fun h3 => ?_)
    rotate_left 1
    · refine go_ReqM (k := ?_)
      exact bodyE_ret1 rfl (.bool false) rfl ⟨by rw [hm, h1, h2, h3]; rfl, hx08⟩
    refine go_ReqM (k := ?_)
    refine OW_callV Try.func64 (by kernel_rfl) rfl (refIn_any w8 q.n 0 65536) rfl ?_
    intro w9 hx9
    have hb9 := hb8.ext hx9
    have hx09 := hx08.trans' hx9
    clear hb8
    refine go_ReqM (k := ?_)
    refine OW_split 258 _ rfl (fun h4 => ?_) (fun h4 => ?_)
    rotate_left 1
    · refine go_ReqM (k := ?_)
      exact bodyE_ret1 rfl (.bool false) rfl ⟨by rw [hm, h1, h2, h3, h4]; rfl, hx09⟩
    refine go_ReqM (k := ?_)
    refine OW_split 261 _ rfl (fun h5 => ?_) (fun h5 => ?_)
    rotate_left 1
    · refine go_ReqM (k := ?_)
      exact bodyE_ret1 rfl (.bool false) rfl ⟨by rw [hm, h1, h2, h3, h4, h5]; rfl, hx09⟩
    refine go_ReqM (k := ?_)
    refine OW_split 264 _ rfl (fun h6 => ?_) (fun h6 => ?_)
    rotate_left 1
    · refine go_ReqM (k := ?_)
      exact bodyE_ret1 rfl (.bool false) rfl ⟨by rw [hm, h1, h2, h3, h4, h5, h6]; rfl, hx09⟩
    refine go_ReqM (k := ?_)
    exact bodyE_ret1 rfl (.bool _) rfl ⟨by rw [hm, h1, h2, h3, h4, h5, h6]; rfl, hx09⟩
  rw [may_is0 ⟨o1, o2, o3, o4, o5, o6, o7, o8, o9, o10⟩]
  replace o1 : ((q.op.toNat : Int) == 1) = false := op_ne (k := 1) (by decide) o1
  replace o2 : ((q.op.toNat : Int) == 2) = false := op_ne (k := 2) (by decide) o2
  replace o3 : ((q.op.toNat : Int) == 3) = false := op_ne (k := 3) (by decide) o3
  replace o4 : ((q.op.toNat : Int) == 4) = false := op_ne (k := 4) (by decide) o4
  replace o5 : ((q.op.toNat : Int) == 5) = false := op_ne (k := 5) (by decide) o5
  replace o6 : ((q.op.toNat : Int) == 6) = false := op_ne (k := 6) (by decide) o6
  replace o7 : ((q.op.toNat : Int) == 7) = false := op_ne (k := 7) (by decide) o7
  replace o8 : ((q.op.toNat : Int) == 8) = false := op_ne (k := 8) (by decide) o8
  replace o9 : ((q.op.toNat : Int) == 9) = false := op_ne (k := 9) (by decide) o9
  replace o10 : ((q.op.toNat : Int) == 10) = false := op_ne (k := 10) (by decide) o10
  refine go_ReqM (k := ?_)
  rw [o1]
  refine go_ReqM (k := ?_)
  rw [o4]
  refine go_ReqM (k := ?_)
  rw [o2]
  refine go_ReqM (k := ?_)
  rw [o3]
  refine go_ReqM (k := ?_)
  rw [o5]
  refine go_ReqM (k := ?_)
  rw [o6]
  refine go_ReqM (k := ?_)
  rw [o7]
  refine go_ReqM (k := ?_)
  rw [o8]
  refine go_ReqM (k := ?_)
  rw [o9]
  refine go_ReqM (k := ?_)
  rw [o10]
  refine go_ReqM (k := ?_)
  exact bodyE_ret1 rfl (.bool false) rfl ⟨rfl, hx08⟩
end Go.Proofs.Ytdpomchhbbopbaa
