/- Several texts in one, as they stand in wip/src. -/
import Derived.Test.YtdpomchhbbopbaaGr13
import Derived.Test.YtdpomchhbbopbaaGr19
/- Walk: a request is printed. -/
namespace Go.Proofs.Ytdpomchhbbopbaa
open Go Go.RowKit
set_option linter.unusedVariables false
set_option maxRecDepth 4000
theorem go_ReqP {A B : Prop} (h : Held B → A := by
  intro hEnd
  repeat (first | refine OW_fieldBL fldo_Q0 rfl ?_ | refine OW_fieldBL fldo_Q1 rfl ?_ | refine OW_fieldBL fldo_Q2 rfl ?_ | refine OW_fieldBL fldo_Q3 rfl ?_ | refine OW_fieldBL fldo_Q4 rfl ?_ | refine OW_fieldBL fldo_Q5 rfl ?_ | refine OW_fieldBL fldo_Q6 rfl ?_ | refine OW_fieldBL fldo_Q7 rfl ?_ | refine OW_fieldBL fldo_Q8 rfl ?_ | refine OW_fieldBL fldo_Q9 rfl ?_ | refine OW_fieldG fldo_G0 rfl ?_ | refine OW_fieldG fldo_G1 rfl ?_ | refine OW_fieldG fldo_G2 rfl ?_ | refine OW_fieldBL fldo_G0 rfl ?_ | refine OW_fieldBL fldo_G1 rfl ?_ | refine OW_fieldBL fldo_G2 rfl ?_ | refine OW_nilCheck rfl ?_ | refine OW_lenL und_string rfl ?_ | refine OW_eqlE rfl rfl ?_ | refine OW_moveV (.int _ _) rfl ?_ | refine OW_moveV (.slice _ _ _) rfl ?_ | refine OW_moveV (.bool _) rfl ?_ | refine OW_moveV (.pointer _) rfl ?_ | refine OW_moveV (.string _) rfl ?_ | refine OW_moveV (.agg _) rfl ?_ | refine OW_moveV (.tuple _) rfl ?_ | refine OW_nil ?_ | refine thenE_normal ?_ | refine CW_seq ?_ | refine CW_region (by kernel_rfl) ?_ | refine OW_assignV (.int _ _) rfl ?_ | refine OW_assignV (.slice _ _ _) rfl ?_ | refine OW_assignV (.bool _) rfl ?_ | refine OW_assignV (.pointer _) rfl ?_ | refine OW_assignV (.string _) rfl ?_ | refine OW_assignV (.agg _) rfl ?_ | refine OW_assignV (.tuple _) rfl ?_ | refine OW_addI rfl rfl (by omega) ?_ | refine OW_subI rfl rfl (by omega) ?_ | refine OW_mulI rfl rfl (by omega) ?_ | refine OW_lss rfl rfl ?_ | refine OW_extract rfl rfl ?_ | refine OW_gtr rfl rfl ?_ | refine OW_leq rfl rfl ?_ | refine OW_geq rfl rfl ?_ | refine OW_eql rfl rfl ?_ | refine OW_neq rfl rfl ?_ | refine OW_not rfl ?_ | refine OW_pickT rfl _ rfl ?_ | refine OW_pickF rfl (.bool _) rfl ?_ | refine OW_pickB rfl rfl rfl ?_ | refine OW_move ?_ | refine OW_assign ?_ | refine OW_pass rfl ?_ | refine OW_take rfl ?_ | refine OW_lenS (by first | with_reducible exact und_bytes | with_reducible exact und_bytess) rfl ?_ | refine OW_convInt (by first | with_reducible exact und_u8 | with_reducible exact und_u64 | with_reducible exact und_int | with_reducible exact und_u32) (by first | with_reducible exact und_u8 | with_reducible exact und_u64 | with_reducible exact und_int | with_reducible exact und_u32) rfl ?_ | refine OW_add rfl rfl ?_ | refine OW_sub rfl rfl ?_ | refine OW_mul rfl rfl ?_ | refine OW_min2 rfl rfl ?_ | refine OW_max2 rfl rfl ?_ | refine OW_neg rfl ?_ | refine CW_block ?_ | refine CW_condT rfl ?_ | refine CW_condF rfl ?_ | refine CW_exit ?_ | refine CW_ret ?_ | refine CW_skip ?_ | refine LW_seq ?_ | refine LW_regC ?_ | refine LW_condC ?_ | refine LW_regF ?_ | refine LW_condF ?_ | refine FW_seq ?_ | refine FW_region (by kernel_rfl) ?_ | refine FW_block ?_ | refine FW_condT rfl ?_ | refine FW_condF rfl ?_ | refine FW_exit ?_ | refine FW_ret ?_ | refine FW_skip ?_ | refine LW_ret ?_ | refine LW_skip ?_ | refine thenE_exit ?_ | refine thenE_ret ?_ | refine inBlockE_normal ?_ | refine inBlockE_same ?_ | refine inBlockE_ret ?_ | refine inBlockE_ne (by rfl) ?_ | refine OW_eqlB (by with_reducible exact und_bool) rfl rfl ?_ | refine OW_neqB (by with_reducible exact und_bool) rfl rfl ?_ | refine OW_idxS (by with_reducible exact und_bytes) one_u8 rfl rfl _ rfl (by omega) ?_ | refine OW_idxS (by with_reducible exact und_bytess) one_bytes rfl rfl _ rfl (by omega) ?_ | refine OW_load1 (by first | with_reducible exact one_u8 | with_reducible exact one_bytes) rfl _ (by assumption) ?_ | (refine OW_isLoad ?_; refine OW_loadBk (by first | with_reducible exact one_u8 | with_reducible exact one_int | with_reducible exact one_str | with_reducible exact one_bytes) rfl (by assumption) _ (by rfl) ?_))
  exact hEnd.out) (k : B) : A := h ⟨k⟩
theorem oy_ReqP {A B : Prop} (h : Held B → A := by
  intro hEnd
  repeat (first
    | refine OY_done ?_
    | (apply OY_p _ rfl
       · intro wd
         (first | refine OW_fieldBL fldo_Q0 rfl ?_ | refine OW_fieldBL fldo_Q1 rfl ?_ | refine OW_fieldBL fldo_Q2 rfl ?_ | refine OW_fieldBL fldo_Q3 rfl ?_ | refine OW_fieldBL fldo_Q4 rfl ?_ | refine OW_fieldBL fldo_Q5 rfl ?_ | refine OW_fieldBL fldo_Q6 rfl ?_ | refine OW_fieldBL fldo_Q7 rfl ?_ | refine OW_fieldBL fldo_Q8 rfl ?_ | refine OW_fieldBL fldo_Q9 rfl ?_ | refine OW_fieldG fldo_G0 rfl ?_ | refine OW_fieldG fldo_G1 rfl ?_ | refine OW_fieldG fldo_G2 rfl ?_ | refine OW_fieldBL fldo_G0 rfl ?_ | refine OW_fieldBL fldo_G1 rfl ?_ | refine OW_fieldBL fldo_G2 rfl ?_ | refine OW_nilCheck rfl ?_ | refine OW_lenL und_string rfl ?_ | refine OW_eqlE rfl rfl ?_ | refine OW_moveV (.int _ _) rfl ?_ | refine OW_moveV (.slice _ _ _) rfl ?_ | refine OW_moveV (.bool _) rfl ?_ | refine OW_moveV (.pointer _) rfl ?_ | refine OW_moveV (.string _) rfl ?_ | refine OW_moveV (.agg _) rfl ?_ | refine OW_moveV (.tuple _) rfl ?_ | refine OW_nil ?_ | refine thenE_normal ?_ | refine CW_seq ?_ | refine CW_region (by kernel_rfl) ?_ | refine OW_assignV (.int _ _) rfl ?_ | refine OW_assignV (.slice _ _ _) rfl ?_ | refine OW_assignV (.bool _) rfl ?_ | refine OW_assignV (.pointer _) rfl ?_ | refine OW_assignV (.string _) rfl ?_ | refine OW_assignV (.agg _) rfl ?_ | refine OW_assignV (.tuple _) rfl ?_ | refine OW_addI rfl rfl (by omega) ?_ | refine OW_subI rfl rfl (by omega) ?_ | refine OW_mulI rfl rfl (by omega) ?_ | refine OW_lss rfl rfl ?_ | refine OW_extract rfl rfl ?_ | refine OW_gtr rfl rfl ?_ | refine OW_leq rfl rfl ?_ | refine OW_geq rfl rfl ?_ | refine OW_eql rfl rfl ?_ | refine OW_neq rfl rfl ?_ | refine OW_not rfl ?_ | refine OW_pickT rfl _ rfl ?_ | refine OW_pickF rfl (.bool _) rfl ?_ | refine OW_pickB rfl rfl rfl ?_ | refine OW_move ?_ | refine OW_assign ?_ | refine OW_pass rfl ?_ | refine OW_take rfl ?_ | refine OW_lenS (by first | with_reducible exact und_bytes | with_reducible exact und_bytess) rfl ?_ | refine OW_convInt (by first | with_reducible exact und_u8 | with_reducible exact und_u64 | with_reducible exact und_int | with_reducible exact und_u32) (by first | with_reducible exact und_u8 | with_reducible exact und_u64 | with_reducible exact und_int | with_reducible exact und_u32) rfl ?_ | refine OW_add rfl rfl ?_ | refine OW_sub rfl rfl ?_ | refine OW_mul rfl rfl ?_ | refine OW_min2 rfl rfl ?_ | refine OW_max2 rfl rfl ?_ | refine OW_neg rfl ?_ | refine CW_block ?_ | refine CW_condT rfl ?_ | refine CW_condF rfl ?_ | refine CW_exit ?_ | refine CW_ret ?_ | refine CW_skip ?_ | refine LW_seq ?_ | refine LW_regC ?_ | refine LW_condC ?_ | refine LW_regF ?_ | refine LW_condF ?_ | refine FW_seq ?_ | refine FW_region (by kernel_rfl) ?_ | refine FW_block ?_ | refine FW_condT rfl ?_ | refine FW_condF rfl ?_ | refine FW_exit ?_ | refine FW_ret ?_ | refine FW_skip ?_ | refine LW_ret ?_ | refine LW_skip ?_ | refine thenE_exit ?_ | refine thenE_ret ?_ | refine inBlockE_normal ?_ | refine inBlockE_same ?_ | refine inBlockE_ret ?_ | refine inBlockE_ne (by rfl) ?_ | refine OW_eqlB (by with_reducible exact und_bool) rfl rfl ?_ | refine OW_neqB (by with_reducible exact und_bool) rfl rfl ?_ | refine OW_idxS (by with_reducible exact und_bytes) one_u8 rfl rfl _ rfl (by omega) ?_ | refine OW_idxS (by with_reducible exact und_bytess) one_bytes rfl rfl _ rfl (by omega) ?_ | refine OW_load1 (by first | with_reducible exact one_u8 | with_reducible exact one_bytes) rfl _ (by assumption) ?_ | (refine OW_isLoad ?_; refine OW_loadBk (by first | with_reducible exact one_u8 | with_reducible exact one_int | with_reducible exact one_str | with_reducible exact one_bytes) rfl (by assumption) _ (by rfl) ?_))
         refine OW_nil ?_
         exact stay_mk _ _ _ _)
    | (apply OY_q _ rfl
       · intro wd hwd
         (first | refine OW_fieldBL fldo_Q0 rfl ?_ | refine OW_fieldBL fldo_Q1 rfl ?_ | refine OW_fieldBL fldo_Q2 rfl ?_ | refine OW_fieldBL fldo_Q3 rfl ?_ | refine OW_fieldBL fldo_Q4 rfl ?_ | refine OW_fieldBL fldo_Q5 rfl ?_ | refine OW_fieldBL fldo_Q6 rfl ?_ | refine OW_fieldBL fldo_Q7 rfl ?_ | refine OW_fieldBL fldo_Q8 rfl ?_ | refine OW_fieldBL fldo_Q9 rfl ?_ | refine OW_fieldG fldo_G0 rfl ?_ | refine OW_fieldG fldo_G1 rfl ?_ | refine OW_fieldG fldo_G2 rfl ?_ | refine OW_fieldBL fldo_G0 rfl ?_ | refine OW_fieldBL fldo_G1 rfl ?_ | refine OW_fieldBL fldo_G2 rfl ?_ | refine OW_nilCheck rfl ?_ | refine OW_lenL und_string rfl ?_ | refine OW_eqlE rfl rfl ?_ | refine OW_moveV (.int _ _) rfl ?_ | refine OW_moveV (.slice _ _ _) rfl ?_ | refine OW_moveV (.bool _) rfl ?_ | refine OW_moveV (.pointer _) rfl ?_ | refine OW_moveV (.string _) rfl ?_ | refine OW_moveV (.agg _) rfl ?_ | refine OW_moveV (.tuple _) rfl ?_ | refine OW_nil ?_ | refine thenE_normal ?_ | refine CW_seq ?_ | refine CW_region (by kernel_rfl) ?_ | refine OW_assignV (.int _ _) rfl ?_ | refine OW_assignV (.slice _ _ _) rfl ?_ | refine OW_assignV (.bool _) rfl ?_ | refine OW_assignV (.pointer _) rfl ?_ | refine OW_assignV (.string _) rfl ?_ | refine OW_assignV (.agg _) rfl ?_ | refine OW_assignV (.tuple _) rfl ?_ | refine OW_addI rfl rfl (by omega) ?_ | refine OW_subI rfl rfl (by omega) ?_ | refine OW_mulI rfl rfl (by omega) ?_ | refine OW_lss rfl rfl ?_ | refine OW_extract rfl rfl ?_ | refine OW_gtr rfl rfl ?_ | refine OW_leq rfl rfl ?_ | refine OW_geq rfl rfl ?_ | refine OW_eql rfl rfl ?_ | refine OW_neq rfl rfl ?_ | refine OW_not rfl ?_ | refine OW_pickT rfl _ rfl ?_ | refine OW_pickF rfl (.bool _) rfl ?_ | refine OW_pickB rfl rfl rfl ?_ | refine OW_move ?_ | refine OW_assign ?_ | refine OW_pass rfl ?_ | refine OW_take rfl ?_ | refine OW_lenS (by first | with_reducible exact und_bytes | with_reducible exact und_bytess) rfl ?_ | refine OW_convInt (by first | with_reducible exact und_u8 | with_reducible exact und_u64 | with_reducible exact und_int | with_reducible exact und_u32) (by first | with_reducible exact und_u8 | with_reducible exact und_u64 | with_reducible exact und_int | with_reducible exact und_u32) rfl ?_ | refine OW_add rfl rfl ?_ | refine OW_sub rfl rfl ?_ | refine OW_mul rfl rfl ?_ | refine OW_min2 rfl rfl ?_ | refine OW_max2 rfl rfl ?_ | refine OW_neg rfl ?_ | refine CW_block ?_ | refine CW_condT rfl ?_ | refine CW_condF rfl ?_ | refine CW_exit ?_ | refine CW_ret ?_ | refine CW_skip ?_ | refine LW_seq ?_ | refine LW_regC ?_ | refine LW_condC ?_ | refine LW_regF ?_ | refine LW_condF ?_ | refine FW_seq ?_ | refine FW_region (by kernel_rfl) ?_ | refine FW_block ?_ | refine FW_condT rfl ?_ | refine FW_condF rfl ?_ | refine FW_exit ?_ | refine FW_ret ?_ | refine FW_skip ?_ | refine LW_ret ?_ | refine LW_skip ?_ | refine thenE_exit ?_ | refine thenE_ret ?_ | refine inBlockE_normal ?_ | refine inBlockE_same ?_ | refine inBlockE_ret ?_ | refine inBlockE_ne (by rfl) ?_ | refine OW_eqlB (by with_reducible exact und_bool) rfl rfl ?_ | refine OW_neqB (by with_reducible exact und_bool) rfl rfl ?_ | refine OW_idxS (by with_reducible exact und_bytes) one_u8 rfl rfl _ rfl (by omega) ?_ | refine OW_idxS (by with_reducible exact und_bytess) one_bytes rfl rfl _ rfl (by omega) ?_ | refine OW_load1 (by first | with_reducible exact one_u8 | with_reducible exact one_bytes) rfl _ (by assumption) ?_ | (refine OW_isLoad ?_; refine OW_loadBk (by first | with_reducible exact one_u8 | with_reducible exact one_int | with_reducible exact one_str | with_reducible exact one_bytes) rfl (by assumption) _ (by rfl) ?_) | (refine OW_isLoad ?_; refine OW_loadBk (by first | with_reducible exact one_u8 | with_reducible exact one_bytes | with_reducible exact one_bool | with_reducible exact one_int | with_reducible exact one_errno | with_reducible exact one_u32 | with_reducible exact one_u64 | with_reducible exact one_string | with_reducible exact one_int | with_reducible exact one_str | with_reducible exact one_bytes | with_reducible exact one_u8) rfl (by apply_assumption; assumption) _ (by first | assumption | rfl) ?_) | refine OW_load1 (by first | with_reducible exact one_u8 | with_reducible exact one_bytes | with_reducible exact one_bool | with_reducible exact one_int | with_reducible exact one_errno | with_reducible exact one_u32 | with_reducible exact one_u64 | with_reducible exact one_string | with_reducible exact one_int | with_reducible exact one_str | with_reducible exact one_bytes | with_reducible exact one_u8) rfl _ (by apply_assumption; assumption) ?_)
         refine OW_nil ?_
         exact stay_mk _ _ _ _)
    | refine OY_ppass rfl rfl ?_
    | refine OY_qpass rfl rfl ?_
    | (apply OY_ptake _ rfl rfl
       · intro wd
         (first | refine OW_fieldBL fldo_Q0 rfl ?_ | refine OW_fieldBL fldo_Q1 rfl ?_ | refine OW_fieldBL fldo_Q2 rfl ?_ | refine OW_fieldBL fldo_Q3 rfl ?_ | refine OW_fieldBL fldo_Q4 rfl ?_ | refine OW_fieldBL fldo_Q5 rfl ?_ | refine OW_fieldBL fldo_Q6 rfl ?_ | refine OW_fieldBL fldo_Q7 rfl ?_ | refine OW_fieldBL fldo_Q8 rfl ?_ | refine OW_fieldBL fldo_Q9 rfl ?_ | refine OW_fieldG fldo_G0 rfl ?_ | refine OW_fieldG fldo_G1 rfl ?_ | refine OW_fieldG fldo_G2 rfl ?_ | refine OW_fieldBL fldo_G0 rfl ?_ | refine OW_fieldBL fldo_G1 rfl ?_ | refine OW_fieldBL fldo_G2 rfl ?_ | refine OW_nilCheck rfl ?_ | refine OW_lenL und_string rfl ?_ | refine OW_eqlE rfl rfl ?_ | refine OW_moveV (.int _ _) rfl ?_ | refine OW_moveV (.slice _ _ _) rfl ?_ | refine OW_moveV (.bool _) rfl ?_ | refine OW_moveV (.pointer _) rfl ?_ | refine OW_moveV (.string _) rfl ?_ | refine OW_moveV (.agg _) rfl ?_ | refine OW_moveV (.tuple _) rfl ?_ | refine OW_nil ?_ | refine thenE_normal ?_ | refine CW_seq ?_ | refine CW_region (by kernel_rfl) ?_ | refine OW_assignV (.int _ _) rfl ?_ | refine OW_assignV (.slice _ _ _) rfl ?_ | refine OW_assignV (.bool _) rfl ?_ | refine OW_assignV (.pointer _) rfl ?_ | refine OW_assignV (.string _) rfl ?_ | refine OW_assignV (.agg _) rfl ?_ | refine OW_assignV (.tuple _) rfl ?_ | refine OW_addI rfl rfl (by omega) ?_ | refine OW_subI rfl rfl (by omega) ?_ | refine OW_mulI rfl rfl (by omega) ?_ | refine OW_lss rfl rfl ?_ | refine OW_extract rfl rfl ?_ | refine OW_gtr rfl rfl ?_ | refine OW_leq rfl rfl ?_ | refine OW_geq rfl rfl ?_ | refine OW_eql rfl rfl ?_ | refine OW_neq rfl rfl ?_ | refine OW_not rfl ?_ | refine OW_pickT rfl _ rfl ?_ | refine OW_pickF rfl (.bool _) rfl ?_ | refine OW_pickB rfl rfl rfl ?_ | refine OW_move ?_ | refine OW_assign ?_ | refine OW_pass rfl ?_ | refine OW_take rfl ?_ | refine OW_lenS (by first | with_reducible exact und_bytes | with_reducible exact und_bytess) rfl ?_ | refine OW_convInt (by first | with_reducible exact und_u8 | with_reducible exact und_u64 | with_reducible exact und_int | with_reducible exact und_u32) (by first | with_reducible exact und_u8 | with_reducible exact und_u64 | with_reducible exact und_int | with_reducible exact und_u32) rfl ?_ | refine OW_add rfl rfl ?_ | refine OW_sub rfl rfl ?_ | refine OW_mul rfl rfl ?_ | refine OW_min2 rfl rfl ?_ | refine OW_max2 rfl rfl ?_ | refine OW_neg rfl ?_ | refine CW_block ?_ | refine CW_condT rfl ?_ | refine CW_condF rfl ?_ | refine CW_exit ?_ | refine CW_ret ?_ | refine CW_skip ?_ | refine LW_seq ?_ | refine LW_regC ?_ | refine LW_condC ?_ | refine LW_regF ?_ | refine LW_condF ?_ | refine FW_seq ?_ | refine FW_region (by kernel_rfl) ?_ | refine FW_block ?_ | refine FW_condT rfl ?_ | refine FW_condF rfl ?_ | refine FW_exit ?_ | refine FW_ret ?_ | refine FW_skip ?_ | refine LW_ret ?_ | refine LW_skip ?_ | refine thenE_exit ?_ | refine thenE_ret ?_ | refine inBlockE_normal ?_ | refine inBlockE_same ?_ | refine inBlockE_ret ?_ | refine inBlockE_ne (by rfl) ?_ | refine OW_eqlB (by with_reducible exact und_bool) rfl rfl ?_ | refine OW_neqB (by with_reducible exact und_bool) rfl rfl ?_ | refine OW_idxS (by with_reducible exact und_bytes) one_u8 rfl rfl _ rfl (by omega) ?_ | refine OW_idxS (by with_reducible exact und_bytess) one_bytes rfl rfl _ rfl (by omega) ?_ | refine OW_load1 (by first | with_reducible exact one_u8 | with_reducible exact one_bytes) rfl _ (by assumption) ?_ | (refine OW_isLoad ?_; refine OW_loadBk (by first | with_reducible exact one_u8 | with_reducible exact one_int | with_reducible exact one_str | with_reducible exact one_bytes) rfl (by assumption) _ (by rfl) ?_))
         refine OW_nil ?_
         exact stay_mk _ _ _ _)
    | (apply OY_qtake _ rfl rfl
       · intro wd hwd
         (first | refine OW_fieldBL fldo_Q0 rfl ?_ | refine OW_fieldBL fldo_Q1 rfl ?_ | refine OW_fieldBL fldo_Q2 rfl ?_ | refine OW_fieldBL fldo_Q3 rfl ?_ | refine OW_fieldBL fldo_Q4 rfl ?_ | refine OW_fieldBL fldo_Q5 rfl ?_ | refine OW_fieldBL fldo_Q6 rfl ?_ | refine OW_fieldBL fldo_Q7 rfl ?_ | refine OW_fieldBL fldo_Q8 rfl ?_ | refine OW_fieldBL fldo_Q9 rfl ?_ | refine OW_fieldG fldo_G0 rfl ?_ | refine OW_fieldG fldo_G1 rfl ?_ | refine OW_fieldG fldo_G2 rfl ?_ | refine OW_fieldBL fldo_G0 rfl ?_ | refine OW_fieldBL fldo_G1 rfl ?_ | refine OW_fieldBL fldo_G2 rfl ?_ | refine OW_nilCheck rfl ?_ | refine OW_lenL und_string rfl ?_ | refine OW_eqlE rfl rfl ?_ | refine OW_moveV (.int _ _) rfl ?_ | refine OW_moveV (.slice _ _ _) rfl ?_ | refine OW_moveV (.bool _) rfl ?_ | refine OW_moveV (.pointer _) rfl ?_ | refine OW_moveV (.string _) rfl ?_ | refine OW_moveV (.agg _) rfl ?_ | refine OW_moveV (.tuple _) rfl ?_ | refine OW_nil ?_ | refine thenE_normal ?_ | refine CW_seq ?_ | refine CW_region (by kernel_rfl) ?_ | refine OW_assignV (.int _ _) rfl ?_ | refine OW_assignV (.slice _ _ _) rfl ?_ | refine OW_assignV (.bool _) rfl ?_ | refine OW_assignV (.pointer _) rfl ?_ | refine OW_assignV (.string _) rfl ?_ | refine OW_assignV (.agg _) rfl ?_ | refine OW_assignV (.tuple _) rfl ?_ | refine OW_addI rfl rfl (by omega) ?_ | refine OW_subI rfl rfl (by omega) ?_ | refine OW_mulI rfl rfl (by omega) ?_ | refine OW_lss rfl rfl ?_ | refine OW_extract rfl rfl ?_ | refine OW_gtr rfl rfl ?_ | refine OW_leq rfl rfl ?_ | refine OW_geq rfl rfl ?_ | refine OW_eql rfl rfl ?_ | refine OW_neq rfl rfl ?_ | refine OW_not rfl ?_ | refine OW_pickT rfl _ rfl ?_ | refine OW_pickF rfl (.bool _) rfl ?_ | refine OW_pickB rfl rfl rfl ?_ | refine OW_move ?_ | refine OW_assign ?_ | refine OW_pass rfl ?_ | refine OW_take rfl ?_ | refine OW_lenS (by first | with_reducible exact und_bytes | with_reducible exact und_bytess) rfl ?_ | refine OW_convInt (by first | with_reducible exact und_u8 | with_reducible exact und_u64 | with_reducible exact und_int | with_reducible exact und_u32) (by first | with_reducible exact und_u8 | with_reducible exact und_u64 | with_reducible exact und_int | with_reducible exact und_u32) rfl ?_ | refine OW_add rfl rfl ?_ | refine OW_sub rfl rfl ?_ | refine OW_mul rfl rfl ?_ | refine OW_min2 rfl rfl ?_ | refine OW_max2 rfl rfl ?_ | refine OW_neg rfl ?_ | refine CW_block ?_ | refine CW_condT rfl ?_ | refine CW_condF rfl ?_ | refine CW_exit ?_ | refine CW_ret ?_ | refine CW_skip ?_ | refine LW_seq ?_ | refine LW_regC ?_ | refine LW_condC ?_ | refine LW_regF ?_ | refine LW_condF ?_ | refine FW_seq ?_ | refine FW_region (by kernel_rfl) ?_ | refine FW_block ?_ | refine FW_condT rfl ?_ | refine FW_condF rfl ?_ | refine FW_exit ?_ | refine FW_ret ?_ | refine FW_skip ?_ | refine LW_ret ?_ | refine LW_skip ?_ | refine thenE_exit ?_ | refine thenE_ret ?_ | refine inBlockE_normal ?_ | refine inBlockE_same ?_ | refine inBlockE_ret ?_ | refine inBlockE_ne (by rfl) ?_ | refine OW_eqlB (by with_reducible exact und_bool) rfl rfl ?_ | refine OW_neqB (by with_reducible exact und_bool) rfl rfl ?_ | refine OW_idxS (by with_reducible exact und_bytes) one_u8 rfl rfl _ rfl (by omega) ?_ | refine OW_idxS (by with_reducible exact und_bytess) one_bytes rfl rfl _ rfl (by omega) ?_ | refine OW_load1 (by first | with_reducible exact one_u8 | with_reducible exact one_bytes) rfl _ (by assumption) ?_ | (refine OW_isLoad ?_; refine OW_loadBk (by first | with_reducible exact one_u8 | with_reducible exact one_int | with_reducible exact one_str | with_reducible exact one_bytes) rfl (by assumption) _ (by rfl) ?_) | (refine OW_isLoad ?_; refine OW_loadBk (by first | with_reducible exact one_u8 | with_reducible exact one_bytes | with_reducible exact one_bool | with_reducible exact one_int | with_reducible exact one_errno | with_reducible exact one_u32 | with_reducible exact one_u64 | with_reducible exact one_string | with_reducible exact one_int | with_reducible exact one_str | with_reducible exact one_bytes | with_reducible exact one_u8) rfl (by apply_assumption; assumption) _ (by first | assumption | rfl) ?_) | refine OW_load1 (by first | with_reducible exact one_u8 | with_reducible exact one_bytes | with_reducible exact one_bool | with_reducible exact one_int | with_reducible exact one_errno | with_reducible exact one_u32 | with_reducible exact one_u64 | with_reducible exact one_string | with_reducible exact one_int | with_reducible exact one_str | with_reducible exact one_bytes | with_reducible exact one_u8) rfl _ (by apply_assumption; assumption) ?_)
         refine OW_nil ?_
         exact stay_mk _ _ _ _)
    | refine OY_a (actY_of rfl ?_)
    | refine OY_d (actY_of rfl ?_)
    | refine OY_a (actY_pass rfl rfl ?_)
    | refine OY_d (actY_pass rfl rfl ?_)
    | refine OY_a (actY_take rfl rfl ?_)
    | refine OY_d (actY_take rfl rfl ?_))
  exact hEnd.out) (k : B) : A := h ⟨k⟩
set_option maxHeartbeats 8000000 in
theorem printReq_any (w : World) (A : Option Addr) (c : Nat) (q : QR) (h : QOk w q A c) : Calls Try.prog 24 #[.agg (qcells q (.slice A q.token.length c)).toArray] w
    (fun en w' => Ext w w' ∧ ((mayQ q = false ∧ en = .returned (.tuple #[.slice none 0 0, .int .i64 2])) ∨ (mayQ q = true ∧ ∃ B d, en = .returned (.tuple #[.slice B (reqF q).length d, .int .i64 0]) ∧ Fresh 5 w w' B d (reqF q)))) := by
  have hI := h.i.i
  refine calls_of_CW Try.func24 rfl (by simp [Try.ntmps24]) ?_
  rw [Try.ntmps24]
  refine go_ReqP (k := ?_)
  refine OW_box _ rfl ?_
  intro w1 g hb hg hlt hx
  have hb1 : Blk w1 g 39 (qcells q (.slice A q.token.length c)).toArray := hb
  clear hb
  refine go_ReqP (k := ?_)
  refine OW_loadX agg_Req rfl (qcells q (.slice A q.token.length c)) rfl hb1.atL ?_
  refine go_ReqP (k := ?_)
  refine OW_callV Try.func25 (by kernel_rfl) rfl (may_any w1 A c q ⟨hI.2.2.2.2.1, hI.2.2.2.2.2⟩) rfl ?_
  intro w2 hx2
  have hb2 := hb1.ext hx2
  have hx02 := hx.trans' hx2
  clear hb1
  cases hm : mayQ q with
  | false =>
    refine go_ReqP (k := ?_)
    exact bodyE_ret2 rfl (.slice none 0 0) (.int .i64 2) rfl rfl ⟨hx02, .inl ⟨rfl, rfl⟩⟩
  | true =>
    have hmay := may_lens hm
    have h2 := h.ext hx02
    refine go_ReqP (k := ?_)
    obtain ⟨C, hC⟩ : ∃ C : World → Prop, C = fun v => Ext w2 v := ⟨_, rfl⟩
    have y_hb2 := blkE hC hb2
    refine CW_tree2 [2, 5, 8, 11, 14, 17, 20, 23, 26, 30, 34, 38] (.p 1 (.q 2 (.p 4 (.q 5 (.p 7 (.q 8 (.p 10 (.q 11 (.p 13 (.q 14 (.p 16 (.q 17 (.p 19 (.q 20 (.p 22 (.q 23 (.p 25 (.q 26 (.p 28 (.p 29 (.q 30 (.p 32 (.p 33 (.q 34 (.p 36 (.p 37 (.q 38 (.a 0 (.a 3 (.a 6 (.a 9 (.a 12 (.a 15 (.a 18 (.a 21 (.a 24 (.a 27 (.a 31 (.a 35 (.d 39 (.d 40 (.p 41 (.p 42 (.p 43 (.p 44 .done))))))))))))))))))))))))))))))))))))))))))))) (C) (by kernel_rfl) (by kernel_rfl) (by kernel_rfl) ?_ ?_
    · exact inE hC
    intro w3 hx3 h_C
    refine oy_ReqP (k := ?_)
    refine OW_callC Try.func47 (by kernel_rfl) rfl (newWriter_ply w2 w3 hx3) rfl ?_
    rintro en w4 ⟨gw, rfl, hx4, hR4⟩
    refine ⟨_, rfl, ?_⟩
    replace hR4 : WPly w2 w4 gw (addAll (false, []) []) := hR4
    first | refine OW_nil (goY_mkE hC (hR4.to) ?_) | refine OW_nil (goY_dropE hC (hR4.to) ?_)
    refine oy_ReqP (k := ?_)
    refine OW_callC Try.func52 (by kernel_rfl) rfl (hR4.byte q.op) rfl ?_
    rintro en w5 ⟨rfl, hR5⟩
    refine ⟨_, rfl, ?_⟩
    first | refine OW_nil (goY_mkE hC (hR5.to) ?_) | refine OW_nil (goY_dropE hC (hR5.to) ?_)
    refine oy_ReqP (k := ?_)
    refine OW_callC Try.func54 (by kernel_rfl) rfl (hR5.bytes A q.token c (h2.bs) (by omega)) rfl ?_
    rintro en w6 ⟨rfl, hR6⟩
    refine ⟨_, rfl, ?_⟩
    first | refine OW_nil (goY_mkE hC (hR6.to) ?_) | refine OW_nil (goY_dropE hC (hR6.to) ?_)
    refine oy_ReqP (k := ?_)
    refine OW_callC Try.func55 (by kernel_rfl) rfl (hR6.text q.key (by omega)) rfl ?_
    rintro en w7 ⟨rfl, hR7⟩
    refine ⟨_, rfl, ?_⟩
    first | refine OW_nil (goY_mkE hC (hR7.to) ?_) | refine OW_nil (goY_dropE hC (hR7.to) ?_)
    refine oy_ReqP (k := ?_)
    refine OW_callC Try.func55 (by kernel_rfl) rfl (hR7.text q.value (by omega)) rfl ?_
    rintro en w8 ⟨rfl, hR8⟩
    refine ⟨_, rfl, ?_⟩
    first | refine OW_nil (goY_mkE hC (hR8.to) ?_) | refine OW_nil (goY_dropE hC (hR8.to) ?_)
    refine oy_ReqP (k := ?_)
    refine OW_callC Try.func55 (by kernel_rfl) rfl (hR8.text q.old (by omega)) rfl ?_
    rintro en w9 ⟨rfl, hR9⟩
    refine ⟨_, rfl, ?_⟩
    first | refine OW_nil (goY_mkE hC (hR9.to) ?_) | refine OW_nil (goY_dropE hC (hR9.to) ?_)
    refine oy_ReqP (k := ?_)
    refine OW_callC Try.func48 (by kernel_rfl) rfl (hR9.int q.n) rfl ?_
    rintro en w10 ⟨rfl, hR10⟩
    refine ⟨_, rfl, ?_⟩
    first | refine OW_nil (goY_mkE hC (hR10.to) ?_) | refine OW_nil (goY_dropE hC (hR10.to) ?_)
    refine oy_ReqP (k := ?_)
    refine OW_callC Try.func48 (by kernel_rfl) rfl (hR10.int q.ten) rfl ?_
    rintro en w11 ⟨rfl, hR11⟩
    refine ⟨_, rfl, ?_⟩
    first | refine OW_nil (goY_mkE hC (hR11.to) ?_) | refine OW_nil (goY_dropE hC (hR11.to) ?_)
    refine oy_ReqP (k := ?_)
    refine OW_callC Try.func48 (by kernel_rfl) rfl (hR11.int q.keys) rfl ?_
    rintro en w12 ⟨rfl, hR12⟩
    refine ⟨_, rfl, ?_⟩
    first | refine OW_nil (goY_mkE hC (hR12.to) ?_) | refine OW_nil (goY_dropE hC (hR12.to) ?_)
    refine oy_ReqP (k := ?_)
    refine OW_callC Try.func48 (by kernel_rfl) rfl (hR12.int q.space) rfl ?_
    rintro en w13 ⟨rfl, hR13⟩
    refine ⟨_, rfl, ?_⟩
    first | refine OW_nil (goY_mkE hC (hR13.to) ?_) | refine OW_nil (goY_dropE hC (hR13.to) ?_)
    refine oy_ReqP (k := ?_)
    refine OW_callC Try.func52 (by kernel_rfl) rfl (hR13.byte q.rights) rfl ?_
    rintro en w14 ⟨rfl, hR14⟩
    refine ⟨_, rfl, ?_⟩
    first | refine OW_nil (goY_mkE hC (hR14.to) ?_) | refine OW_nil (goY_dropE hC (hR14.to) ?_)
    refine oy_ReqP (k := ?_)
    refine OW_callC Try.func48 (by kernel_rfl) rfl (hR14.int q.expiry) rfl ?_
    rintro en w15 ⟨rfl, hR15⟩
    refine ⟨_, rfl, ?_⟩
    first | refine OW_nil (goY_mkE hC (hR15.to) ?_) | refine OW_nil (goY_dropE hC (hR15.to) ?_)
    refine oy_ReqP (k := ?_)
    refine OW_callC Try.func48 (by kernel_rfl) rfl (hR15.int q.serial) rfl ?_
    rintro en w16 ⟨rfl, hR16⟩
    refine ⟨_, rfl, ?_⟩
    first | refine OW_nil (goY_mkE hC (hR16.to) ?_) | refine OW_nil (goY_dropE hC (hR16.to) ?_)
    refine oy_ReqP (k := ?_)
    have hfin := addAll_ok (reqP q) [] (by have := reqF_len q; unfold reqF at this; simp only [List.length_nil]; omega)
    rw [List.nil_append] at hfin
    have hP : WPly w2 w16 gw (false, reqF q) := by
      have h9 : WPly w2 w16 gw (addAll (false, []) (reqP q)) := by
        have := hR16
        simpa [reqP] using this
      rw [hfin] at h9
      exact h9
    generalize reqF q = F at *
    refine OW_callC Try.func32 (by kernel_rfl) rfl (done_ply hP) rfl ?_
    rintro en w17 ⟨B, d, rfl, hf⟩
    refine ⟨_, rfl, ?_⟩
    have hxe := hP.to.trans' hf.ext
    first | refine OW_nil (goY_mkE hC (hxe) ?_) | refine OW_nil (goY_dropE hC (hxe) ?_)
    refine oy_ReqP (k := ?_)
    clear hR4 hR5 hR6 hR7 hR8 hR9 hR10 hR11 hR12 hR13 hR14 hR15 hR16 hfin hmay
    refine go_ReqP (k := ?_)
    exact bodyE_ret2 rfl (.slice B F.length d) (.int .i64 0) rfl rfl ⟨hx02.trans' hxe, .inr ⟨rfl, B, d, rfl, hf.back (hx02.trans' hP.to)⟩⟩
end Go.Proofs.Ytdpomchhbbopbaa

/- Walks: the reference's form of a reply. -/
namespace Go.Proofs.Ytdpomchhbbopbaa
open Go Go.RowKit
set_option linter.unusedVariables false
set_option maxRecDepth 4000
theorem go_Rep3 {A B : Prop} (h : Held B → A := by
  intro hEnd
  repeat (first | refine OW_fieldF fld_P0 rfl ?_ | refine OW_fieldF fld_P1 rfl ?_ | refine OW_fieldF fld_P2 rfl ?_ | refine OW_fieldF fld_P3 rfl ?_ | refine OW_fieldF fld_P4 rfl ?_ | refine OW_lenL und_string rfl ?_ | refine OW_lenS und_strs rfl ?_ | refine OW_idxS und_strs one_str rfl rfl _ rfl (by omega) ?_ | refine OW_fieldF fld_L0 rfl ?_ | refine OW_fieldF fld_L1 rfl ?_ | refine OW_fieldF fld_L2 rfl ?_ | refine OW_fieldF fld_L3 rfl ?_ | refine OW_fieldF fld_L4 rfl ?_ | refine OW_fieldF fld_L5 rfl ?_ | refine OW_fieldF fld_L6 rfl ?_ | refine OW_fieldF fld_L7 rfl ?_ | refine OW_fieldBL fldo_L8 rfl ?_ | refine OW_lenS und_ints rfl ?_ | refine OW_idxS und_ints one_int rfl rfl _ rfl (by omega) ?_ | refine OW_moveV (.int _ _) rfl ?_ | refine OW_moveV (.slice _ _ _) rfl ?_ | refine OW_moveV (.bool _) rfl ?_ | refine OW_moveV (.pointer _) rfl ?_ | refine OW_moveV (.string _) rfl ?_ | refine OW_moveV (.agg _) rfl ?_ | refine OW_moveV (.tuple _) rfl ?_ | refine OW_nil ?_ | refine thenE_normal ?_ | refine CW_seq ?_ | refine CW_region (by kernel_rfl) ?_ | refine OW_assignV (.int _ _) rfl ?_ | refine OW_assignV (.slice _ _ _) rfl ?_ | refine OW_assignV (.bool _) rfl ?_ | refine OW_assignV (.pointer _) rfl ?_ | refine OW_assignV (.string _) rfl ?_ | refine OW_assignV (.agg _) rfl ?_ | refine OW_assignV (.tuple _) rfl ?_ | refine OW_addI rfl rfl (by omega) ?_ | refine OW_subI rfl rfl (by omega) ?_ | refine OW_mulI rfl rfl (by omega) ?_ | refine OW_lss rfl rfl ?_ | refine OW_extract rfl rfl ?_ | refine OW_gtr rfl rfl ?_ | refine OW_leq rfl rfl ?_ | refine OW_geq rfl rfl ?_ | refine OW_eql rfl rfl ?_ | refine OW_neq rfl rfl ?_ | refine OW_not rfl ?_ | refine OW_pickT rfl _ rfl ?_ | refine OW_pickF rfl (.bool _) rfl ?_ | refine OW_pickB rfl rfl rfl ?_ | refine OW_move ?_ | refine OW_assign ?_ | refine OW_pass rfl ?_ | refine OW_take rfl ?_ | refine OW_lenS (by first | with_reducible exact und_bytes | with_reducible exact und_bytess) rfl ?_ | refine OW_convInt (by first | with_reducible exact und_u8 | with_reducible exact und_u64 | with_reducible exact und_int | with_reducible exact und_u32) (by first | with_reducible exact und_u8 | with_reducible exact und_u64 | with_reducible exact und_int | with_reducible exact und_u32) rfl ?_ | refine OW_add rfl rfl ?_ | refine OW_sub rfl rfl ?_ | refine OW_mul rfl rfl ?_ | refine OW_min2 rfl rfl ?_ | refine OW_max2 rfl rfl ?_ | refine OW_neg rfl ?_ | refine CW_block ?_ | refine CW_condT rfl ?_ | refine CW_condF rfl ?_ | refine CW_exit ?_ | refine CW_ret ?_ | refine CW_skip ?_ | refine LW_seq ?_ | refine LW_regC ?_ | refine LW_condC ?_ | refine LW_regF ?_ | refine LW_condF ?_ | refine FW_seq ?_ | refine FW_region (by kernel_rfl) ?_ | refine FW_block ?_ | refine FW_condT rfl ?_ | refine FW_condF rfl ?_ | refine FW_exit ?_ | refine FW_ret ?_ | refine FW_skip ?_ | refine LW_ret ?_ | refine LW_skip ?_ | refine thenE_exit ?_ | refine thenE_ret ?_ | refine inBlockE_normal ?_ | refine inBlockE_same ?_ | refine inBlockE_ret ?_ | refine inBlockE_ne (by rfl) ?_ | refine OW_eqlB (by with_reducible exact und_bool) rfl rfl ?_ | refine OW_neqB (by with_reducible exact und_bool) rfl rfl ?_ | refine OW_idxS (by with_reducible exact und_bytes) one_u8 rfl rfl _ rfl (by omega) ?_ | refine OW_idxS (by with_reducible exact und_bytess) one_bytes rfl rfl _ rfl (by omega) ?_ | refine OW_load1 (by first | with_reducible exact one_u8 | with_reducible exact one_bytes) rfl _ (by assumption) ?_ | (refine OW_isLoad ?_; refine OW_loadBk (by first | with_reducible exact one_int | with_reducible exact one_str | with_reducible exact one_strs | with_reducible exact one_errno | with_reducible exact one_u8) rfl (by assumption) _ rfl ?_) | refine OW_load1 (by first | with_reducible exact one_int | with_reducible exact one_str | with_reducible exact one_strs | with_reducible exact one_errno | with_reducible exact one_u8) rfl _ (by assumption) ?_)
  exact hEnd.out) (k : B) : A := h ⟨k⟩
theorem info_int15 : (Try.prog.info? 3).map (fun i => (i.zero, i.size, i.bytes)) = some (some (.int .i64 0), 1, 8) := by kernel_rfl
def i64P (l : List Int) : List UInt8 := (l.map fun n => putL (u64N n) 8).flatten
section
variable {ops : Array Oper} {Q : Exit → (Nat → Value) → World → Prop} {rest : List Oper} {e : Nat → Value} {w : World} {d : Tmp} {ty : TypeId} {pos : String} {aft : Array Edge}
/-- Bytes more onto bytes of the call's own; blocks of other types stay. -/
theorem OW_apT {x y : Operand} {base : Nat} {A A' : Option Addr} {c c' : Nat} {l l' : List UInt8} (hx : ev e x = .slice A l.length c) (hy : ev e y = .slice A' l'.length c') (ho : w.ownsRow base 5 1 (.slice A l.length c) l.length (l.map bv)) (hb : Bs w A' l') (hl : l.length + l'.length ≤ 1000000) (hbase : base ≤ w.heap.size)
    (h : ∀ w' A2 c2, w'.ownsRow base 5 1 (.slice A2 (l ++ l').length c2) (l ++ l').length ((l ++ l').map bv) → (∀ g T cs, T ≠ 5 → Blk w g T cs → Blk w' g T cs) → Below base w w' → OW Try.prog ops Q rest (upd e d (.slice A2 (l ++ l').length c2)) w') :
    OW Try.prog ops Q (⟨some d, .call { callee := .builtin .append, args := #[x, y], argTypes := #[31, 31] }, ty, pos, aft, none⟩ :: rest) e w := by
  refine OW_appendK und_bytes info_u8 rfl hx hy ho hb (by simp) (bv_one l') (by unfold maxLen; omega) (by omega) hbase ?_
  intro w' A2 c2 ho2 hg hw
  rw [← List.map_append, ← List.length_append] at ho2
  rw [← List.length_append]
  refine h w' A2 c2 ho2 (fun g T cs hT hB => hB.keeps (S := fun k => ∃ ad, A = some ad ∧ ad.block = k) (Keeps.of_grown hg (fun b hb => by
    cases A with
    | none => cases hb
    | some ad => cases hb; exact ⟨ad, rfl, rfl⟩)) (fun ⟨ad, ha, hb⟩ => own_ne_blk ho hB (fun h => hT h.symm) ad ha hb)) ?_
  exact (Keeps.of_grown (S := fun k => base ≤ k) hg (fun b hb => by
    cases A with
    | none => cases hb
    | some ad => cases hb; exact (own_block ho ad rfl).1)).below (fun k hk => hk) hbase
end
theorem i64P_len (l : List Int) : (i64P l).length = 8 * l.length := by
  unfold i64P
  induction l with
  | nil => rfl
  | cons n l ih => rw [List.map_cons, List.flatten_cons, List.length_append, putL_length, ih, List.length_cons]; omega
set_option maxHeartbeats 8000000 in
theorem replyForm_any (w : World) (A : Option Addr) (c : Nat) (r : RP) (h : ROk w r A c) (hm : mayP r = true) : Calls Try.prog 20 #[.agg (rcells r (.slice A r.keys.length c)).toArray] w (RetBs 5 w (repF r)) := by
  unfold mayP at hm
  rw [Bool.and_eq_true, Bool.and_eq_true] at hm
  have hk16 := of_decide_eq_true hm.1.1
  have hv512 := of_decide_eq_true hm.1.2
  have hkall := hm.2
  have hkf := keys_flat r.keys
  have hko := ksum_ok hkall
  clear hm
  refine calls_of_CW Try.func20 rfl (by simp [Try.ntmps20]) ?_
  rw [Try.ntmps20]
  refine go_Rep3 (k := ?_)
  refine OW_box _ rfl ?_
  intro w1 g hb hg hlt hx
  have hb : Blk w1 g 29 (rcells r (.slice A r.keys.length c)).toArray := hb
  have hLo := h.l
  refine go_Rep3 (k := ?_)
  refine OW_callBs Try.func60 (by kernel_rfl) rfl (refInt_any w1 r.err) rfl ?_
  intro w2 A2 c2 hf2
  obtain ⟨z2, hz2⟩ : ∃ z, putL (u64N r.err) 8 = z := ⟨_, rfl⟩
  have l2 : z2.length = 8 := by rw [← hz2, putL_length]
  rw [hz2] at hf2 ⊢
  have ho2 := own_mono hf2.own hx.size
  have hx2 := hx.trans' hf2.ext
  have hb2 := hb.ext hf2.ext
  clear hb hf2
  refine go_Rep3 (k := ?_)
  refine OW_bytesOf ⟨r.value.toArray⟩ und_string und_bytes und_u8 rfl ?_
  intro w3 A3 c3 hb3 hA3 hx3
  have hb3 : Bs w3 A3 r.value := hb3
  refine go_Rep3 (k := ?_)
  refine OW_callBs Try.func61 (by kernel_rfl) rfl (refBytes_any w3 A3 r.value c3 hb3 (by omega)) rfl ?_
  intro w4 A4 c4 hf4
  have hx34 := hx3.trans' hf4.ext
  refine OW_apT rfl rfl (own_ext ho2 hx34) hf4.bs (by rw [List.length_append, putL_length]; omega) (hx2.trans' hx34).size ?_
  intro w5 A5 c5 ho5 hT5 hbel5
  obtain ⟨z5, hz5⟩ : ∃ z, z2 ++ (putL r.value.length 4 ++ r.value) = z := ⟨_, rfl⟩
  have l5 : z5.length = 12 + r.value.length := by rw [← hz5, List.length_append, List.length_append, putL_length]; omega
  rw [hz5] at ho5 ⊢
  have hx5 : Ext w w5 := (hx2.trans' hx34).trans hbel5
  have hb5 := hT5 _ _ _ (by decide) (hb2.ext hx34)
  clear hb2 hT5 hf4
  refine go_Rep3 (k := ?_)
  refine OW_callBs Try.func60 (by kernel_rfl) rfl (refInt_any w5 r.keys.length) rfl ?_
  intro w6 A6 c6 hf6
  refine OW_apT rfl rfl (own_ext ho5 hf6.ext) hf6.bs (by rw [putL_length]; omega) (hx5.trans' hf6.ext).size ?_
  intro w7 A7 c7 ho7 hT7 hbel7
  obtain ⟨z7, hz7⟩ : ∃ z, z5 ++ putL (u64N r.keys.length) 8 = z := ⟨_, rfl⟩
  have l7 : z7.length = 20 + r.value.length := by rw [← hz7, List.length_append, putL_length]; omega
  rw [hz7] at ho7 ⊢
  have hx7 : Ext w w7 := (hx5.trans' hf6.ext).trans hbel7
  have hb7 := hT7 _ _ _ (by decide) (hb5.ext hf6.ext)
  clear hb5 hT7 hf6
  refine go_Rep3 (k := ?_)
  refine CW_meetB (fun e' w' => ∃ A8 c8, e' 1 = .pointer (some ⟨g, 0, none⟩) ∧ e' 3 = .slice A8 (z7 ++ (r.keys.flatMap keyP).flatten).length c8 ∧ w'.ownsRow w.heap.size 5 1 (.slice A8 (z7 ++ (r.keys.flatMap keyP).flatten).length c8) (z7 ++ (r.keys.flatMap keyP).flatten).length ((z7 ++ (r.keys.flatMap keyP).flatten).map bv) ∧ Ext w w' ∧ Blk w' g 29 (rcells r (.slice A r.keys.length c)).toArray) ?_ ?_
  · refine go_Rep3 (k := ?_)
    refine CW_loop (fun e' w' => ∃ (k : Nat) (A8 : Option Addr) (c8 : Nat), k ≤ r.keys.length ∧ e' 1 = .pointer (some ⟨g, 0, none⟩) ∧ e' 3 = .slice A8 (z7 ++ ((r.keys.take k).flatMap keyP).flatten).length c8 ∧ e' 4 = .int .i64 k ∧ w'.ownsRow w.heap.size 5 1 (.slice A8 (z7 ++ ((r.keys.take k).flatMap keyP).flatten).length c8) (z7 ++ ((r.keys.take k).flatMap keyP).flatten).length ((z7 ++ ((r.keys.take k).flatMap keyP).flatten).map bv) ∧ Ext w w' ∧ Blk w' g 29 (rcells r (.slice A r.keys.length c)).toArray) (fun e' _ => r.keys.length - (intOf (e' 4)).toNat) ⟨0, A7, c7, Nat.zero_le _, rfl, by rw [List.take_zero]; simp only [List.flatMap_nil, List.flatten_nil, List.append_nil]; rfl, rfl, by rw [List.take_zero]; simpa using ho7, hx7, hb7⟩ ?_
    rintro e' w8 ⟨k, A8, c8, hk, e1, e3, e4, ho8, hx8, hb8⟩
    rw [upd_self e1, upd_self e3, upd_self e4]
    have hkl := keys_flat (r.keys.take k)
    have hkt := ksum_take_le r.keys k
    obtain ⟨z8, hz8⟩ : ∃ z, z7 ++ ((r.keys.take k).flatMap keyP).flatten = z := ⟨_, rfl⟩
    have l8 : z8.length ≤ 10000 := by rw [← hz8, List.length_append]; omega
    rw [hz8] at ho8 ⊢
    refine go_Rep3 (k := ?_)
    refine CW_cond _ rfl (fun hh => ?_) (fun hh => ?_)
    · have hlt2 : k < r.keys.length := by have := of_decide_eq_true hh; omega
      clear hh
      obtain ⟨ad, hA, hc⟩ := keys_at (h.ks.ext hx8) hlt2
      have hsucc : ((r.keys.take (k + 1)).flatMap keyP).flatten = ((r.keys.take k).flatMap keyP).flatten ++ (putL (r.keys[k]).length 4 ++ r.keys[k]) := by rw [List.take_succ_eq_append_getElem hlt2, List.flatMap_append, List.flatten_append]; simp [keyP]
      have hkl2 : (r.keys[k]).length ≤ 512 := of_decide_eq_true (List.all_eq_true.1 hkall _ (List.getElem_mem hlt2))
      have hz9 : z8 ++ (putL (r.keys[k]).length 4 ++ r.keys[k]) = z7 ++ ((r.keys.take (k + 1)).flatMap keyP).flatten := by rw [hsucc, ← hz8, List.append_assoc]
      generalize r.keys[k] = y at *
      subst hA
      refine go_Rep3 (k := ?_)
      refine OW_bytesOf ⟨y.toArray⟩ und_string und_bytes und_u8 rfl ?_
      intro w9 A9 c9 hb9 hA9 hx9
      have hb9 : Bs w9 A9 y := hb9
      refine go_Rep3 (k := ?_)
      refine OW_callBs Try.func61 (by kernel_rfl) rfl (refBytes_any w9 A9 y c9 hb9 (by omega)) rfl ?_
      intro w10 A10 c10 hf10
      have hx910 := hx9.trans' hf10.ext
      refine OW_apT rfl rfl (own_ext ho8 hx910) hf10.bs (by rw [List.length_append, putL_length]; omega) (hx8.trans' hx910).size ?_
      intro w11 A11 c11 ho11 hT11 hbel11
      rw [hz9] at ho11 ⊢
      refine go_Rep3 (k := ?_)
      refine ⟨⟨k + 1, A11, c11, by omega, rfl, rfl, rfl, ho11, (hx8.trans' hx910).trans hbel11, hT11 _ _ _ (by decide) (hb8.ext hx910)⟩, ?_⟩
      show r.keys.length - ((k : Int) + 1).toNat < r.keys.length - (k : Int).toNat
      omega
    · have hge : k = r.keys.length := by have := of_decide_eq_false hh; omega
      subst hge
      rw [List.take_of_length_le (Nat.le_refl _)] at hz8
      subst hz8
      refine go_Rep3 (k := ?_)
      exact ⟨rfl, A8, c8, rfl, rfl, ho8, hx8, hb8⟩
  rintro e8 w8 ⟨A8, c8, q1, q3, ho8, hx8, hb8⟩
  rw [upd_self q1, upd_self q3]
  obtain ⟨z8, hz8⟩ : ∃ z, z7 ++ (r.keys.flatMap keyP).flatten = z := ⟨_, rfl⟩
  have l8 : z8.length ≤ 10000 := by rw [← hz8, List.length_append]; omega
  rw [hz8] at ho8 ⊢
  refine go_Rep3 (k := ?_)
  refine OW_loadX agg_Link rfl (lcells r.link) (lcells_length hLo) (link_in hb8) ?_
  refine go_Rep3 (k := ?_)
  refine OW_allocA agg_Link ?_
  intro w9 g9 hb9 hg9 hlt9 hx9
  refine go_Rep3 (k := ?_)
  refine OW_storeA agg_Link rfl (lcells r.link) rfl (lcells_length hLo) hb9 (by kernel_rfl) (lcells_one _) ?_
  intro w10 hb10 hg10
  have hx810 : Ext w8 w10 := (Keeps.of_only (S := (· = g9)) hg10 rfl).ext hx9 (fun j hj => by omega)
  have ho10 := own_ext ho8 hx810
  have hx10 := hx8.trans' hx810
  have hr10 := hb8.ext hx810
  have hk10 : Blk w10 g9 27 (lcells r.link).toArray := hb10
  clear hb8 hb9 ho8 hb10
  refine go_Rep3 (k := ?_)
  refine OW_callBs Try.func60 (by kernel_rfl) rfl (refInt_any w10 r.n) rfl ?_
  intro w11a A11a c11a hf11
  refine OW_apT rfl rfl (own_ext ho10 hf11.ext) hf11.bs (by rw [putL_length]; omega) (hx10.trans' hf11.ext).size ?_
  intro w11 A11 c11 ho11 hT11 hbel11
  obtain ⟨z11, hz11⟩ : ∃ z, z8 ++ putL (u64N r.n) 8 = z := ⟨_, rfl⟩
  have l11 : z11.length ≤ 10008 := by rw [← hz11, List.length_append, putL_length]; omega
  rw [hz11] at ho11 ⊢
  have hx11 : Ext w w11 := (hx10.trans' hf11.ext).trans hbel11
  have hr11 := hT11 _ _ _ (by decide) (hr10.ext hf11.ext)
  have hk11 := hT11 _ _ _ (by decide) (hk10.ext hf11.ext)
  clear hr10 hk10 ho10 hT11 hf11
  refine go_Rep3 (k := ?_)
  refine OW_callBs Try.func60 (by kernel_rfl) rfl (refInt_any w11 r.link.n) rfl ?_
  intro w12a A12a c12a hf12
  refine OW_apT rfl rfl (own_ext ho11 hf12.ext) hf12.bs (by rw [putL_length]; omega) (hx11.trans' hf12.ext).size ?_
  intro w12 A12 c12 ho12 hT12 hbel12
  obtain ⟨z12, hz12⟩ : ∃ z, z11 ++ putL (u64N r.link.n) 8 = z := ⟨_, rfl⟩
  have l12 : z12.length ≤ 10016 := by rw [← hz12, List.length_append, putL_length]; omega
  rw [hz12] at ho12 ⊢
  have hx12 : Ext w w12 := (hx11.trans' hf12.ext).trans hbel12
  have hr12 := hT12 _ _ _ (by decide) (hr11.ext hf12.ext)
  have hk12 := hT12 _ _ _ (by decide) (hk11.ext hf12.ext)
  clear hr11 hk11 ho11 hT12 hf12
  refine go_Rep3 (k := ?_)
  refine OW_callBs Try.func60 (by kernel_rfl) rfl (refInt_any w12 r.link.stamp) rfl ?_
  intro w13a A13a c13a hf13
  refine OW_apT rfl rfl (own_ext ho12 hf13.ext) hf13.bs (by rw [putL_length]; omega) (hx12.trans' hf13.ext).size ?_
  intro w13 A13 c13 ho13 hT13 hbel13
  obtain ⟨z13, hz13⟩ : ∃ z, z12 ++ putL (u64N r.link.stamp) 8 = z := ⟨_, rfl⟩
  have l13 : z13.length ≤ 10024 := by rw [← hz13, List.length_append, putL_length]; omega
  rw [hz13] at ho13 ⊢
  have hx13 : Ext w w13 := (hx12.trans' hf13.ext).trans hbel13
  have hr13 := hT13 _ _ _ (by decide) (hr12.ext hf13.ext)
  have hk13 := hT13 _ _ _ (by decide) (hk12.ext hf13.ext)
  clear hr12 hk12 ho12 hT13 hf13
  refine go_Rep3 (k := ?_)
  refine OW_litB [r.link.op] rfl rfl rfl (by decide) ?_
  intro w14a g14 hb14 hg14 hx14 hB14
  refine OW_apT rfl rfl (own_ext ho13 hx14) hb14 (by simp; omega) (hx13.trans' hx14).size ?_
  intro w14 A14 c14 ho14 hT14 hbel14
  obtain ⟨z14, hz14⟩ : ∃ z, z13 ++ [r.link.op] = z := ⟨_, rfl⟩
  have l14 : z14.length ≤ 10025 := by rw [← hz14, List.length_append]; simp; omega
  rw [hz14] at ho14 ⊢
  have hx14' : Ext w w14 := (hx13.trans' hx14).trans hbel14
  have hr14 := hT14 _ _ _ (by decide) (hr13.ext hx14)
  have hk14 := hT14 _ _ _ (by decide) (hk13.ext hx14)
  clear hr13 hk13 ho13 hT14 hB14 hb14
  refine go_Rep3 (k := ?_)
  refine OW_lit [.int .i64 r.link.ten, .int .i64 r.link.a, .int .i64 r.link.b, .int .i64 r.link.c] und_ints info_int15 rfl rfl (by simp [Value.oneCell']) (by decide) ?_
  intro w15 g15 hb15 hg15 hx15
  have ho15 := own_ext ho14 hx15
  have hk15 := hk14.ext hx15
  have hx15' := hx14'.trans' hx15
  obtain ⟨ns, hns⟩ : ∃ ns, ns = [r.link.ten, r.link.a, r.link.b, r.link.c] := ⟨_, rfl⟩
  have hnl : ns.length = 4 := by rw [hns]; rfl
  have hbn : Blk w15 g15 3 (ns.map (Value.int .i64)).toArray := by rw [hns]; exact hb15
  clear hk14 ho14 hb15 hr14
  refine go_Rep3 (k := ?_)
  refine CW_meetB (fun e' w' => ∃ A8 c8, e' 5 = .pointer (some ⟨g9, 0, none⟩) ∧ e' 3 = .slice A8 (z14 ++ i64P ns).length c8 ∧ w'.ownsRow w.heap.size 5 1 (.slice A8 (z14 ++ i64P ns).length c8) (z14 ++ i64P ns).length ((z14 ++ i64P ns).map bv) ∧ Ext w w' ∧ Blk w' g9 27 (lcells r.link).toArray) ?_ ?_
  · refine go_Rep3 (k := ?_)
    refine CW_loop (fun e' w' => ∃ (k : Nat) (A8 : Option Addr) (c8 : Nat), k ≤ 4 ∧ e' 5 = .pointer (some ⟨g9, 0, none⟩) ∧ e' 6 = .slice (some ⟨g15, 0, none⟩) 4 4 ∧ e' 3 = .slice A8 (z14 ++ i64P (ns.take k)).length c8 ∧ e' 7 = .int .i64 k ∧ w'.ownsRow w.heap.size 5 1 (.slice A8 (z14 ++ i64P (ns.take k)).length c8) (z14 ++ i64P (ns.take k)).length ((z14 ++ i64P (ns.take k)).map bv) ∧ Ext w w' ∧ Blk w' g9 27 (lcells r.link).toArray ∧ Blk w' g15 3 (ns.map (Value.int .i64)).toArray) (fun e' _ => 4 - (intOf (e' 7)).toNat) ⟨0, A14, c14, Nat.zero_le _, rfl, rfl, by rw [List.take_zero]; simp only [i64P, List.map_nil, List.flatten_nil, List.append_nil]; rfl, rfl, by rw [List.take_zero]; simpa [i64P] using ho15, hx15', hk15, hbn⟩ ?_
    rintro e' w16 ⟨k, A8, c8, hk, e5, e6, e3, e7, ho16, hx16, hk16', hn16⟩
    rw [upd_self e5, upd_self e6, upd_self e3, upd_self e7]
    have htl := i64P_len (ns.take k)
    rw [List.length_take] at htl
    obtain ⟨z16, hz16⟩ : ∃ z, z14 ++ i64P (ns.take k) = z := ⟨_, rfl⟩
    have l16 : z16.length ≤ 10100 := by rw [← hz16, List.length_append]; omega
    rw [hz16] at ho16 ⊢
    refine go_Rep3 (k := ?_)
    refine CW_cond _ rfl (fun hh => ?_) (fun hh => ?_)
    · have hlt2 : k < 4 := by have := of_decide_eq_true hh; omega
      clear hh
      have hc : w16.cell? ((⟨g15, 0, none⟩ : Addr).add k) = some (.int .i64 (ns[k]'(by omega))) := by
        rw [add0, hn16.cell]
        simp [show k < ns.length by omega]
      have hz17 : z16 ++ putL (u64N (ns[k]'(by omega))) 8 = z14 ++ i64P (ns.take (k + 1)) := by
        rw [← hz16, List.append_assoc]
        congr 1
        unfold i64P
        rw [List.take_succ_eq_append_getElem (show k < ns.length by omega), List.map_append, List.flatten_append]
        simp
      generalize ns[k]'(by omega) = y at *
      refine go_Rep3 (k := ?_)
      refine OW_callBs Try.func60 (by kernel_rfl) rfl (refInt_any w16 y) rfl ?_
      intro w17 A17 c17 hf17
      refine OW_apT rfl rfl (own_ext ho16 hf17.ext) hf17.bs (by rw [putL_length]; omega) (hx16.trans' hf17.ext).size ?_
      intro w18 A18 c18 ho18 hT18 hbel18
      rw [hz17] at ho18 ⊢
      refine go_Rep3 (k := ?_)
      refine ⟨⟨k + 1, A18, c18, by omega, rfl, rfl, rfl, rfl, ho18, (hx16.trans' hf17.ext).trans hbel18, hT18 _ _ _ (by decide) (hk16'.ext hf17.ext), hT18 _ _ _ (by decide) (hn16.ext hf17.ext)⟩, ?_⟩
      show 4 - ((k : Int) + 1).toNat < 4 - (k : Int).toNat
      omega
    · have hge : k = 4 := by have := of_decide_eq_false hh; omega
      subst hge
      rw [List.take_of_length_le (by omega)] at hz16
      subst hz16
      refine go_Rep3 (k := ?_)
      exact ⟨rfl, A8, c8, rfl, rfl, ho16, hx16, hk16'⟩
  rintro e16 w16 ⟨A16, c16, q5, q3, ho16, hx16, hk16'⟩
  rw [upd_self q5, upd_self q3]
  have htl := i64P_len ns
  obtain ⟨z16, hz16⟩ : ∃ z, z14 ++ i64P ns = z := ⟨_, rfl⟩
  have l16 : z16.length ≤ 10100 := by rw [← hz16, List.length_append]; omega
  rw [hz16] at ho16 ⊢
  have lA : (r.link.ahead.map bv).length = 32 := by simp [hLo.ahead]
  have lS : (r.link.self.map bv).length = 32 := by simp [hLo.self]
  refine go_Rep3 (k := ?_)
  refine OW_loadX agg_Tag rfl (r.link.ahead.map bv) lA (ahead_in hLo hk16') ?_
  refine go_Rep3 (k := ?_)
  refine OW_callBs Try.func62 (by kernel_rfl) rfl (refTag_any w16 r.link.ahead hLo.ahead) rfl ?_
  intro w17 A17 c17 hf17
  refine OW_apT rfl rfl (own_ext ho16 hf17.ext) hf17.bs (by rw [hLo.ahead]; omega) (hx16.trans' hf17.ext).size ?_
  intro w18 A18 c18 ho18 hT18 hbel18
  obtain ⟨z18, hz18⟩ : ∃ z, z16 ++ r.link.ahead = z := ⟨_, rfl⟩
  have l18 : z18.length ≤ 10132 := by rw [← hz18, List.length_append, hLo.ahead]; omega
  rw [hz18] at ho18 ⊢
  have hx18 : Ext w w18 := (hx16.trans' hf17.ext).trans hbel18
  have hk18 := hT18 _ _ _ (by decide) (hk16'.ext hf17.ext)
  refine go_Rep3 (k := ?_)
  refine OW_loadX agg_Tag rfl (r.link.self.map bv) lS (self_in hLo hk18) ?_
  refine go_Rep3 (k := ?_)
  refine OW_callBs Try.func62 (by kernel_rfl) rfl (refTag_any w18 r.link.self hLo.self) rfl ?_
  intro w19 A19 c19 hf19
  refine OW_apT rfl rfl (own_ext ho18 hf19.ext) hf19.bs (by rw [hLo.self]; omega) (hx18.trans' hf19.ext).size ?_
  intro w20 A20 c20 ho20 hT20 hbel20
  have hfin : z18 ++ r.link.self = repF r := by
    rw [← hz18, ← hz16, hns, ← hz14, ← hz13, ← hz12, ← hz11, ← hz8, ← hz7, ← hz5, ← hz2]
    simp [repF, repP, headP, linkP, i64P, List.append_assoc]
  rw [hfin] at ho20 ⊢
  refine go_Rep3 (k := ?_)
  exact bodyE_ret1 rfl _ rfl ⟨A20, c20, rfl, ho20, (hx18.trans' hf19.ext).trans hbel20⟩
end Go.Proofs.Ytdpomchhbbopbaa

/- Walks: the reference's form of a request. -/
namespace Go.Proofs.Ytdpomchhbbopbaa
open Go Go.RowKit
set_option linter.unusedVariables false
set_option maxRecDepth 4000
theorem go_ReqF {A B : Prop} (h : Held B → A := by
  intro hEnd
  repeat (first | refine OW_fieldBL fldo_Q0 rfl ?_ | refine OW_fieldBL fldo_Q1 rfl ?_ | refine OW_fieldBL fldo_Q2 rfl ?_ | refine OW_fieldBL fldo_Q3 rfl ?_ | refine OW_fieldBL fldo_Q4 rfl ?_ | refine OW_fieldBL fldo_Q5 rfl ?_ | refine OW_fieldBL fldo_Q6 rfl ?_ | refine OW_fieldBL fldo_Q7 rfl ?_ | refine OW_fieldBL fldo_Q8 rfl ?_ | refine OW_fieldBL fldo_Q9 rfl ?_ | refine OW_fieldG fldo_G0 rfl ?_ | refine OW_fieldG fldo_G1 rfl ?_ | refine OW_fieldG fldo_G2 rfl ?_ | refine OW_fieldBL fldo_G0 rfl ?_ | refine OW_fieldBL fldo_G1 rfl ?_ | refine OW_fieldBL fldo_G2 rfl ?_ | refine OW_nilCheck rfl ?_ | refine OW_lenL und_string rfl ?_ | refine OW_eqlE rfl rfl ?_ | refine OW_lenS und_ints rfl ?_ | refine OW_idxS und_ints one_int rfl rfl _ rfl (by omega) ?_ | refine OW_moveV (.int _ _) rfl ?_ | refine OW_moveV (.slice _ _ _) rfl ?_ | refine OW_moveV (.bool _) rfl ?_ | refine OW_moveV (.pointer _) rfl ?_ | refine OW_moveV (.string _) rfl ?_ | refine OW_moveV (.agg _) rfl ?_ | refine OW_moveV (.tuple _) rfl ?_ | refine OW_nil ?_ | refine thenE_normal ?_ | refine CW_seq ?_ | refine CW_region (by kernel_rfl) ?_ | refine OW_assignV (.int _ _) rfl ?_ | refine OW_assignV (.slice _ _ _) rfl ?_ | refine OW_assignV (.bool _) rfl ?_ | refine OW_assignV (.pointer _) rfl ?_ | refine OW_assignV (.string _) rfl ?_ | refine OW_assignV (.agg _) rfl ?_ | refine OW_assignV (.tuple _) rfl ?_ | refine OW_addI rfl rfl (by omega) ?_ | refine OW_subI rfl rfl (by omega) ?_ | refine OW_mulI rfl rfl (by omega) ?_ | refine OW_lss rfl rfl ?_ | refine OW_extract rfl rfl ?_ | refine OW_gtr rfl rfl ?_ | refine OW_leq rfl rfl ?_ | refine OW_geq rfl rfl ?_ | refine OW_eql rfl rfl ?_ | refine OW_neq rfl rfl ?_ | refine OW_not rfl ?_ | refine OW_pickT rfl _ rfl ?_ | refine OW_pickF rfl (.bool _) rfl ?_ | refine OW_pickB rfl rfl rfl ?_ | refine OW_move ?_ | refine OW_assign ?_ | refine OW_pass rfl ?_ | refine OW_take rfl ?_ | refine OW_lenS (by first | with_reducible exact und_bytes | with_reducible exact und_bytess) rfl ?_ | refine OW_convInt (by first | with_reducible exact und_u8 | with_reducible exact und_u64 | with_reducible exact und_int | with_reducible exact und_u32) (by first | with_reducible exact und_u8 | with_reducible exact und_u64 | with_reducible exact und_int | with_reducible exact und_u32) rfl ?_ | refine OW_add rfl rfl ?_ | refine OW_sub rfl rfl ?_ | refine OW_mul rfl rfl ?_ | refine OW_min2 rfl rfl ?_ | refine OW_max2 rfl rfl ?_ | refine OW_neg rfl ?_ | refine CW_block ?_ | refine CW_condT rfl ?_ | refine CW_condF rfl ?_ | refine CW_exit ?_ | refine CW_ret ?_ | refine CW_skip ?_ | refine LW_seq ?_ | refine LW_regC ?_ | refine LW_condC ?_ | refine LW_regF ?_ | refine LW_condF ?_ | refine FW_seq ?_ | refine FW_region (by kernel_rfl) ?_ | refine FW_block ?_ | refine FW_condT rfl ?_ | refine FW_condF rfl ?_ | refine FW_exit ?_ | refine FW_ret ?_ | refine FW_skip ?_ | refine LW_ret ?_ | refine LW_skip ?_ | refine thenE_exit ?_ | refine thenE_ret ?_ | refine inBlockE_normal ?_ | refine inBlockE_same ?_ | refine inBlockE_ret ?_ | refine inBlockE_ne (by rfl) ?_ | refine OW_eqlB (by with_reducible exact und_bool) rfl rfl ?_ | refine OW_neqB (by with_reducible exact und_bool) rfl rfl ?_ | refine OW_idxS (by with_reducible exact und_bytes) one_u8 rfl rfl _ rfl (by omega) ?_ | refine OW_idxS (by with_reducible exact und_bytess) one_bytes rfl rfl _ rfl (by omega) ?_ | refine OW_load1 (by first | with_reducible exact one_u8 | with_reducible exact one_bytes) rfl _ (by assumption) ?_ | (refine OW_isLoad ?_; refine OW_loadBk (by first | with_reducible exact one_u8 | with_reducible exact one_int | with_reducible exact one_str | with_reducible exact one_bytes) rfl (by assumption) _ (by rfl) ?_) | refine OW_load1 (by first | with_reducible exact one_int | with_reducible exact one_str) rfl _ (by assumption) ?_)
  exact hEnd.out) (k : B) : A := h ⟨k⟩
set_option maxHeartbeats 8000000 in
theorem reqForm_any (w : World) (A : Option Addr) (c : Nat) (q : QR) (h : QOk w q A c) (hm : mayQ q = true) : Calls Try.prog 26 #[.agg (qcells q (.slice A q.token.length c)).toArray] w (RetBs 5 w (reqF q)) := by
  obtain ⟨m1, m2, m3, m4⟩ := may_lens hm
  refine calls_of_CW Try.func26 rfl (by simp [Try.ntmps26]) ?_
  rw [Try.ntmps26]
  refine go_ReqF (k := ?_)
  refine OW_box _ rfl ?_
  intro w0 g hb hg hlt hx00
  have hb0 : Blk w0 g 39 (qcells q (.slice A q.token.length c)).toArray := hb
  have hT0 := h.bs
  clear hb hm h
  refine go_ReqF (k := ?_)
  refine OW_litB [q.op] rfl rfl rfl (by decide) ?_
  intro w1 g1 hs1 hg1 hx1 hB1
  obtain ⟨z1, hz1⟩ : ∃ z, [q.op] = z := ⟨_, rfl⟩
  have l1 : z1.length = 1 := by rw [← hz1]; rfl
  have ho1 : w1.ownsRow w.heap.size 5 1 (.slice (some ⟨g1, 0, none⟩) z1.length z1.length) z1.length (z1.map bv) := by
    rw [hz1] at hB1
    have := hB1.own (Nat.le_trans hx00.size hg1) (by simp [maxLen]; omega)
    simpa using this
  rw [hz1]
  have hx01 := hx00.trans' hx1
  have hb1 := hb0.ext hx1
  clear hs1 hB1 hb0
  obtain ⟨A1, hA1⟩ : ∃ A1 : Option Addr, A1 = some ⟨g1, 0, none⟩ := ⟨_, rfl⟩
  obtain ⟨c1, hc1⟩ : ∃ c1 : Nat, c1 = z1.length := ⟨_, rfl⟩
  rw [← hA1] at ho1 ⊢
  have ho1 : w1.ownsRow w.heap.size 5 1 (.slice A1 z1.length c1) z1.length (z1.map bv) := by rw [hc1]; exact ho1
  have hsl : (Value.slice A1 z1.length z1.length) = .slice A1 z1.length c1 := by rw [hc1]
  rw [hsl]
  clear hsl
  refine go_ReqF (k := ?_)
  refine OW_callBs Try.func61 (by kernel_rfl) rfl (refBytes_any w1 A q.token c (hT0.ext hx01) (by omega)) rfl ?_
  intro v1 B1 d1 hf1
  refine OW_apT rfl rfl (own_ext ho1 hf1.ext) hf1.bs (by rw [List.length_append, putL_length]; omega) (hx01.trans' hf1.ext).size ?_
  intro w2 A2 c2 ho2 hT2 hbel2
  obtain ⟨z2, hz2⟩ : ∃ z, z1 ++ (putL q.token.length 4 ++ q.token) = z := ⟨_, rfl⟩
  have l2 : z2.length ≤ 300 := by rw [← hz2]; simp only [List.length_append, putL_length, List.length_cons, List.length_nil]; omega
  rw [hz2] at ho2 ⊢
  have hx02 : Ext w w2 := (hx01.trans' hf1.ext).trans hbel2
  have hb2 := hT2 _ _ _ (by decide) (hb1.ext hf1.ext)
  clear hb1 ho1 hT2
  refine go_ReqF (k := ?_)
  refine OW_bytesOf ⟨q.key.toArray⟩ und_string und_bytes und_u8 rfl ?_
  intro u2 E2 f2 hs2 hA2 hy2
  have hs2 : Bs u2 E2 q.key := hs2
  refine go_ReqF (k := ?_)
  refine OW_callBs Try.func61 (by kernel_rfl) rfl (refBytes_any u2 E2 q.key f2 hs2 (by omega)) rfl ?_
  intro v2 B2 d2 hf2
  have hyf2 := hy2.trans' hf2.ext
  refine OW_apT rfl rfl (own_ext ho2 hyf2) hf2.bs (by rw [List.length_append, putL_length]; omega) (hx02.trans' hyf2).size ?_
  intro w3 A3 c3 ho3 hT3 hbel3
  obtain ⟨z3, hz3⟩ : ∃ z, z2 ++ (putL q.key.length 4 ++ q.key) = z := ⟨_, rfl⟩
  have l3 : z3.length ≤ 400 := by rw [← hz3]; simp only [List.length_append, putL_length, List.length_cons, List.length_nil]; omega
  rw [hz3] at ho3 ⊢
  have hx03 : Ext w w3 := (hx02.trans' hyf2).trans hbel3
  have hb3 := hT3 _ _ _ (by decide) (hb2.ext hyf2)
  clear hb2 ho2 hT3
  refine go_ReqF (k := ?_)
  refine OW_bytesOf ⟨q.value.toArray⟩ und_string und_bytes und_u8 rfl ?_
  intro u3 E3 f3 hs3 hA3 hy3
  have hs3 : Bs u3 E3 q.value := hs3
  refine go_ReqF (k := ?_)
  refine OW_callBs Try.func61 (by kernel_rfl) rfl (refBytes_any u3 E3 q.value f3 hs3 (by omega)) rfl ?_
  intro v3 B3 d3 hf3
  have hyf3 := hy3.trans' hf3.ext
  refine OW_apT rfl rfl (own_ext ho3 hyf3) hf3.bs (by rw [List.length_append, putL_length]; omega) (hx03.trans' hyf3).size ?_
  intro w4 A4 c4 ho4 hT4 hbel4
  obtain ⟨z4, hz4⟩ : ∃ z, z3 ++ (putL q.value.length 4 ++ q.value) = z := ⟨_, rfl⟩
  have l4 : z4.length ≤ 500 := by rw [← hz4]; simp only [List.length_append, putL_length, List.length_cons, List.length_nil]; omega
  rw [hz4] at ho4 ⊢
  have hx04 : Ext w w4 := (hx03.trans' hyf3).trans hbel4
  have hb4 := hT4 _ _ _ (by decide) (hb3.ext hyf3)
  clear hb3 ho3 hT4
  refine go_ReqF (k := ?_)
  refine OW_bytesOf ⟨q.old.toArray⟩ und_string und_bytes und_u8 rfl ?_
  intro u4 E4 f4 hs4 hA4 hy4
  have hs4 : Bs u4 E4 q.old := hs4
  refine go_ReqF (k := ?_)
  refine OW_callBs Try.func61 (by kernel_rfl) rfl (refBytes_any u4 E4 q.old f4 hs4 (by omega)) rfl ?_
  intro v4 B4 d4 hf4
  have hyf4 := hy4.trans' hf4.ext
  refine OW_apT rfl rfl (own_ext ho4 hyf4) hf4.bs (by rw [List.length_append, putL_length]; omega) (hx04.trans' hyf4).size ?_
  intro w5 A5 c5 ho5 hT5 hbel5
  obtain ⟨z5, hz5⟩ : ∃ z, z4 ++ (putL q.old.length 4 ++ q.old) = z := ⟨_, rfl⟩
  have l5 : z5.length ≤ 600 := by rw [← hz5]; simp only [List.length_append, putL_length, List.length_cons, List.length_nil]; omega
  rw [hz5] at ho5 ⊢
  have hx05 : Ext w w5 := (hx04.trans' hyf4).trans hbel5
  have hb5 := hT5 _ _ _ (by decide) (hb4.ext hyf4)
  clear hb4 ho4 hT5
  refine go_ReqF (k := ?_)
  refine OW_lit [.int .i64 q.n, .int .i64 q.ten, .int .i64 q.keys, .int .i64 q.space] und_ints info_int15 rfl rfl (by simp [Value.oneCell']) (by decide) ?_
  intro w15 g15 hb15 hg15 hx15
  have ho15 := own_ext ho5 hx15
  have hk15 := hb5.ext hx15
  have hx15' := hx05.trans' hx15
  obtain ⟨ns, hns⟩ : ∃ ns, ns = [q.n, q.ten, q.keys, q.space] := ⟨_, rfl⟩
  have hnl : ns.length = 4 := by rw [hns]; rfl
  have hbn : Blk w15 g15 3 (ns.map (Value.int .i64)).toArray := by rw [hns]; exact hb15
  clear ho5 hb15 hb5
  refine go_ReqF (k := ?_)
  refine CW_meetB (fun e' w' => ∃ A8 c8, e' 1 = .pointer (some ⟨g, 0, none⟩) ∧ e' 3 = .slice A8 (z5 ++ i64P ns).length c8 ∧ w'.ownsRow w.heap.size 5 1 (.slice A8 (z5 ++ i64P ns).length c8) (z5 ++ i64P ns).length ((z5 ++ i64P ns).map bv) ∧ Ext w w' ∧ Blk w' g 39 (qcells q (.slice A q.token.length c)).toArray) ?_ ?_
  · refine go_ReqF (k := ?_)
    refine CW_loop (fun e' w' => ∃ (k : Nat) (A8 : Option Addr) (c8 : Nat), k ≤ 4 ∧ e' 1 = .pointer (some ⟨g, 0, none⟩) ∧ e' 4 = .slice (some ⟨g15, 0, none⟩) 4 4 ∧ e' 3 = .slice A8 (z5 ++ i64P (ns.take k)).length c8 ∧ e' 5 = .int .i64 k ∧ w'.ownsRow w.heap.size 5 1 (.slice A8 (z5 ++ i64P (ns.take k)).length c8) (z5 ++ i64P (ns.take k)).length ((z5 ++ i64P (ns.take k)).map bv) ∧ Ext w w' ∧ Blk w' g 39 (qcells q (.slice A q.token.length c)).toArray ∧ Blk w' g15 3 (ns.map (Value.int .i64)).toArray) (fun e' _ => 4 - (intOf (e' 5)).toNat) ⟨0, A5, c5, Nat.zero_le _, rfl, rfl, by rw [List.take_zero]; simp only [i64P, List.map_nil, List.flatten_nil, List.append_nil]; rfl, rfl, by rw [List.take_zero]; simpa [i64P] using ho15, hx15', hk15, hbn⟩ ?_
    rintro e' w16 ⟨k, A8, c8, hk, e5, e6, e3, e7, ho16, hx16, hk16', hn16⟩
    rw [upd_self e5, upd_self e6, upd_self e3, upd_self e7]
    have htl := i64P_len (ns.take k)
    rw [List.length_take] at htl
    obtain ⟨z16, hz16⟩ : ∃ z, z5 ++ i64P (ns.take k) = z := ⟨_, rfl⟩
    have l16 : z16.length ≤ 700 := by rw [← hz16, List.length_append]; omega
    rw [hz16] at ho16 ⊢
    refine go_ReqF (k := ?_)
    refine CW_cond _ rfl (fun hh => ?_) (fun hh => ?_)
    · have hlt2 : k < 4 := by have := of_decide_eq_true hh; omega
      clear hh
      have hc : w16.cell? ((⟨g15, 0, none⟩ : Addr).add k) = some (.int .i64 (ns[k]'(by omega))) := by
        rw [add0, hn16.cell]
        simp [show k < ns.length by omega]
      have hz17 : z16 ++ putL (u64N (ns[k]'(by omega))) 8 = z5 ++ i64P (ns.take (k + 1)) := by
        rw [← hz16, List.append_assoc]
        congr 1
        unfold i64P
        rw [List.take_succ_eq_append_getElem (show k < ns.length by omega), List.map_append, List.flatten_append]
        simp
      generalize ns[k]'(by omega) = y at *
      refine go_ReqF (k := ?_)
      refine OW_callBs Try.func60 (by kernel_rfl) rfl (refInt_any w16 y) rfl ?_
      intro w17 A17 c17 hf17
      refine OW_apT rfl rfl (own_ext ho16 hf17.ext) hf17.bs (by rw [putL_length]; omega) (hx16.trans' hf17.ext).size ?_
      intro w18 A18 c18 ho18 hT18 hbel18
      rw [hz17] at ho18 ⊢
      refine go_ReqF (k := ?_)
      refine ⟨⟨k + 1, A18, c18, by omega, rfl, rfl, rfl, rfl, ho18, (hx16.trans' hf17.ext).trans hbel18, hT18 _ _ _ (by decide) (hk16'.ext hf17.ext), hT18 _ _ _ (by decide) (hn16.ext hf17.ext)⟩, ?_⟩
      show 4 - ((k : Int) + 1).toNat < 4 - (k : Int).toNat
      omega
    · have hge : k = 4 := by have := of_decide_eq_false hh; omega
      subst hge
      rw [List.take_of_length_le (by omega)] at hz16
      subst hz16
      refine go_ReqF (k := ?_)
      exact ⟨rfl, A8, c8, rfl, rfl, ho16, hx16, hk16'⟩
  rintro e16 w20 ⟨A20, c20, q1, q3, ho20, hx020, hb20⟩
  rw [upd_self q1, upd_self q3]
  have htl := i64P_len ns
  obtain ⟨z20, hz20⟩ : ∃ z, z5 ++ i64P ns = z := ⟨_, rfl⟩
  have l20 : z20.length ≤ 700 := by rw [← hz20, List.length_append]; omega
  rw [hz20] at ho20 ⊢
  refine go_ReqF (k := ?_)
  refine OW_litB [q.rights] rfl rfl rfl (by decide) ?_
  intro w20a g20 hs20 hg20 hy20 hB20
  refine OW_apT rfl rfl (own_ext ho20 hy20) hs20 (by simp; omega) (hx020.trans' hy20).size ?_
  intro w21 A21 c21 ho21 hT21 hbel21
  obtain ⟨z21, hz21⟩ : ∃ z, z20 ++ [q.rights] = z := ⟨_, rfl⟩
  have l21 : z21.length ≤ 701 := by rw [← hz21]; simp only [List.length_append, putL_length, List.length_cons, List.length_nil]; omega
  rw [hz21] at ho21 ⊢
  have hx021 : Ext w w21 := (hx020.trans' hy20).trans hbel21
  have hb21 := hT21 _ _ _ (by decide) (hb20.ext hy20)
  clear hb20 ho20 hT21
  refine go_ReqF (k := ?_)
  refine OW_callBs Try.func60 (by kernel_rfl) rfl (refInt_any w21 q.expiry) rfl ?_
  intro v21 B21 d21 hf21
  refine OW_apT rfl rfl (own_ext ho21 hf21.ext) hf21.bs (by rw [putL_length]; omega) (hx021.trans' hf21.ext).size ?_
  intro w22 A22 c22 ho22 hT22 hbel22
  obtain ⟨z22, hz22⟩ : ∃ z, z21 ++ putL (u64N q.expiry) 8 = z := ⟨_, rfl⟩
  have l22 : z22.length ≤ 709 := by rw [← hz22]; simp only [List.length_append, putL_length, List.length_cons, List.length_nil]; omega
  rw [hz22] at ho22 ⊢
  have hx022 : Ext w w22 := (hx021.trans' hf21.ext).trans hbel22
  have hb22 := hT22 _ _ _ (by decide) (hb21.ext hf21.ext)
  clear hb21 ho21 hT22
  refine go_ReqF (k := ?_)
  refine OW_callBs Try.func60 (by kernel_rfl) rfl (refInt_any w22 q.serial) rfl ?_
  intro v22 B22 d22 hf22
  refine OW_apT rfl rfl (own_ext ho22 hf22.ext) hf22.bs (by rw [putL_length]; omega) (hx022.trans' hf22.ext).size ?_
  intro w23 A23 c23 ho23 hT23 hbel23
  obtain ⟨z23, hz23⟩ : ∃ z, z22 ++ putL (u64N q.serial) 8 = z := ⟨_, rfl⟩
  have l23 : z23.length ≤ 717 := by rw [← hz23]; simp only [List.length_append, putL_length, List.length_cons, List.length_nil]; omega
  rw [hz23] at ho23 ⊢
  have hx023 : Ext w w23 := (hx022.trans' hf22.ext).trans hbel23
  have hb23 := hT23 _ _ _ (by decide) (hb22.ext hf22.ext)
  clear hb22 ho22 hT23
  have hfin : z23 = reqF q := by
    rw [← hz23, ← hz22, ← hz21, ← hz20, hns, ← hz5, ← hz4, ← hz3, ← hz2, ← hz1]
    simp [reqF, reqP, i64P, List.append_assoc]
  rw [hfin] at ho23 ⊢
  refine go_ReqF (k := ?_)
  exact bodyE_ret1 rfl _ rfl ⟨A23, c23, rfl, ho23, hx023⟩
def greatQ (q : QR) : Bool := decide (2000 < q.token.length) || decide (500 < q.key.length) || decide (500 < q.value.length) || decide (500 < q.old.length)
set_option maxHeartbeats 8000000 in
theorem greatQ_any (w : World) (A : Option Addr) (c : Nat) (q : QR) : Calls Try.prog 21 #[.agg (qcells q (.slice A q.token.length c)).toArray] w (fun en w' => Ext w w' ∧ (en = .returned (.bool true) ∨ en = .returned (.bool false) ∧ q.token.length ≤ 2000 ∧ q.key.length ≤ 500 ∧ q.value.length ≤ 500 ∧ q.old.length ≤ 500)) := by
  refine calls_of_CW Try.func21 rfl (by simp [Try.ntmps21]) ?_
  rw [Try.ntmps21]
  refine go_ReqF (k := ?_)
  refine OW_box _ rfl ?_
  intro w1 g hb hg hlt hx
  have hb1 : Blk w1 g 39 (qcells q (.slice A q.token.length c)).toArray := hb
  clear hb
  refine go_ReqF (k := ?_)
  refine OW_split 7 _ rfl (fun h1 => ?_) (fun h1 => ?_)
  · refine go_ReqF (k := ?_)
    exact bodyE_ret1 rfl (.bool true) rfl ⟨hx, .inl rfl⟩
  refine go_ReqF (k := ?_)
  refine OW_split 13 _ rfl (fun h2 => ?_) (fun h2 => ?_)
  · refine go_ReqF (k := ?_)
    exact bodyE_ret1 rfl (.bool true) rfl ⟨hx, .inl rfl⟩
  refine go_ReqF (k := ?_)
  refine OW_split 19 _ rfl (fun h3 => ?_) (fun h3 => ?_)
  · refine go_ReqF (k := ?_)
    exact bodyE_ret1 rfl (.bool true) rfl ⟨hx, .inl rfl⟩
  refine go_ReqF (k := ?_)
  refine bodyE_ret1 rfl (.bool _) rfl ⟨hx, ?_⟩
  have h1 := of_decide_eq_false h1
  have h2 := of_decide_eq_false h2
  have h3 := of_decide_eq_false h3
  cases h4 : decide ((500 : Int) < (q.old.length : Int)) with
  | true => exact .inl rfl
  | false =>
    have h4 := of_decide_eq_false h4
    exact .inr ⟨rfl, by omega, by omega, by omega, by omega⟩
end Go.Proofs.Ytdpomchhbbopbaa
